/- Written by program (gen.py): what the code of some functions asks, part by part; each text is checked by the kernel against the translation. -/
import Derived.Test.YtcieejlkdfdpiaaSh
import Derived.Test.YtcieejlkdfdpiaaChecked
namespace Go.Proofs.Ytcieejlkdfdpiaa
open Go.RowKit
set_option maxRecDepth 100000

def leatlaw26_AuditPlays_P1 (K : KV) : KE := cCode Try.prog (cd Try.f3 [1, 1, 1, 1, 1]) (retK Try.prog Try.f3.results.toList K) (fun _ _ _ => False) (retK Try.prog Try.f3.results.toList K)
def leatlaw26_AuditPlays_L1 (K : KV) : KE := cCode Try.prog (cd Try.f3 [1, 1, 1, 1, 0, 1, 0]) (leatlaw26_AuditPlays_P1 K) (fun i => @Bool.rec (fun _ => KE) ((fun _ _ _ => False) i) (leatlaw26_AuditPlays_P1 K) (Nat.beq i 0)) (retK Try.prog Try.f3.results.toList K)
def leatlaw26_AuditPlays_P2 (K : KV) (B1 : KE) : KE := cCode Try.prog (cd Try.f3 [1, 1, 1, 1, 0, 1, 0, 0, 1, 1]) B1 (fun i => @Bool.rec (fun _ => KE) ((fun _ _ _ => False) i) (leatlaw26_AuditPlays_P1 K) (Nat.beq i 0)) (retK Try.prog Try.f3.results.toList K)
def leatlaw26_AuditPlays_A1 (K : KV) (B1 : KE) : KE := cCode Try.prog (cd Try.f3 [1, 1, 1, 1, 0, 1, 0, 0, 1, 0, 0, 1, 1]) (leatlaw26_AuditPlays_P2 K B1) (fun i => @Bool.rec (fun _ => KE) ((fun i => @Bool.rec (fun _ => KE) ((fun _ _ _ => False) i) (leatlaw26_AuditPlays_P1 K) (Nat.beq i 0)) i) (leatlaw26_AuditPlays_P2 K B1) (Nat.beq i 1)) (retK Try.prog Try.f3.results.toList K)
def leatlaw26_AuditPlays_A2 (K : KV) (B1 : KE) : KE := cCode Try.prog (cd Try.f3 [1, 1, 1, 1, 0, 1, 0, 0, 1, 0, 0, 1, 1, 1, 1]) (leatlaw26_AuditPlays_P2 K B1) (fun i => @Bool.rec (fun _ => KE) ((fun i => @Bool.rec (fun _ => KE) ((fun _ _ _ => False) i) (leatlaw26_AuditPlays_P1 K) (Nat.beq i 0)) i) (leatlaw26_AuditPlays_P2 K B1) (Nat.beq i 1)) (retK Try.prog Try.f3.results.toList K)
def leatlaw26_AuditPlays_P3 (K : KV) : KE := cCode Try.prog (cd Try.f3 [1, 1, 1, 1, 1, 1, 1]) (retK Try.prog Try.f3.results.toList K) (fun _ _ _ => False) (retK Try.prog Try.f3.results.toList K)
def leatlaw26_AuditPlays_L2 (K : KV) : KE := cCode Try.prog (cd Try.f3 [1, 1, 1, 1, 1, 1, 0, 1, 0]) (leatlaw26_AuditPlays_P3 K) (fun i => @Bool.rec (fun _ => KE) ((fun _ _ _ => False) i) (leatlaw26_AuditPlays_P3 K) (Nat.beq i 2)) (retK Try.prog Try.f3.results.toList K)
def leatlaw26_AuditPlays_P4 (K : KV) (B1 : KE) : KE := cCode Try.prog (cd Try.f3 [1, 1, 1, 1, 1, 1, 0, 1, 0, 0, 1, 1]) B1 (fun i => @Bool.rec (fun _ => KE) ((fun _ _ _ => False) i) (leatlaw26_AuditPlays_P3 K) (Nat.beq i 2)) (retK Try.prog Try.f3.results.toList K)
def leatlaw26_AuditPlays_A3 (K : KV) (B1 : KE) : KE := cCode Try.prog (cd Try.f3 [1, 1, 1, 1, 1, 1, 0, 1, 0, 0, 1, 0, 0, 1, 1]) (leatlaw26_AuditPlays_P4 K B1) (fun i => @Bool.rec (fun _ => KE) ((fun i => @Bool.rec (fun _ => KE) ((fun _ _ _ => False) i) (leatlaw26_AuditPlays_P3 K) (Nat.beq i 2)) i) (leatlaw26_AuditPlays_P4 K B1) (Nat.beq i 3)) (retK Try.prog Try.f3.results.toList K)
theorem leatlaw26_AuditPlays_k {K : KV} {l0 : Value} {w : World}
    (h : blt Try.prog Builtin.len #[22] 3 #[false] #[l0] (fun A2 w =>
    bin Try.prog BinOp.gtr 3 false true A2 (Value.int IntKind.i64 150) (fun A3 w =>
    cond A3
      (call Try.prog 6 #[] (fun A4 w =>
      K A4 w) w)
      (call Try.prog 7 #[] (fun A5 w =>
    bld Try.prog 31 #[] (fun A6 w =>
    box Try.prog 31 A6 (fun A7 w =>
    (cCode Try.prog (cd Try.f3 [1, 1, 1, 1, 0, 1, 0]) (cCode Try.prog (cd Try.f3 [1, 1, 1, 1, 1]) (retK Try.prog Try.f3.results.toList K) (fun _ _ _ => False) (retK Try.prog Try.f3.results.toList K)) (fun i => @Bool.rec (fun _ => KE) ((fun _ _ _ => False) i) (cCode Try.prog (cd Try.f3 [1, 1, 1, 1, 1]) (retK Try.prog Try.f3.results.toList K) (fun _ _ _ => False) (retK Try.prog Try.f3.results.toList K)) (Nat.beq i 0)) (retK Try.prog Try.f3.results.toList K)) (l0::undef::(Value.bool false)::A5::A7::(Value.int IntKind.i64 0)::undef::undef::undef::undef::undef::undef::undef::undef::undef::undef::undef::undef::undef::undef::l0::A2::A3::undef::A5::A6::A7::undef::undef::undef::undef::undef::undef::undef::undef::undef::undef::undef::undef::undef::undef::undef::undef::undef::undef::undef::undef::undef::undef::undef::undef::undef::undef::undef::undef::undef::undef::undef::undef::undef::undef::undef::undef::undef::undef::undef::undef::undef::undef::undef::undef::undef::undef::undef::undef::undef::undef::undef::undef::undef::undef::undef::undef::undef::undef::undef::undef::undef::undef::undef::undef::undef::undef::undef::undef::undef::undef::undef::undef::undef::undef::undef::undef::undef::undef::undef::undef::undef::undef::undef::undef::undef::undef::undef::undef::undef::undef::undef::undef::undef::undef::undef::undef::undef::undef::undef::undef::undef::undef::undef::undef::undef::undef::undef::undef::undef::undef::undef::undef::undef::undef::undef::undef::undef::undef::undef::undef::undef::undef::undef::undef::undef::undef::undef::undef::undef::undef::undef::undef::undef::undef::undef::undef::undef::undef::undef::undef::undef::undef::undef::undef::undef::undef::undef::undef::undef::undef::undef::undef::undef::undef::undef::undef::undef::undef::undef::undef::undef::undef::undef::undef::[]) w) w) w) w)) w) w) :
    cCode Try.prog (cd Try.f3 []) (retK Try.prog Try.f3.results.toList K) (fun _ _ _ => False) (retK Try.prog Try.f3.results.toList K) (l0::undef::undef::undef::undef::undef::undef::undef::undef::undef::undef::undef::undef::undef::undef::undef::undef::undef::undef::undef::undef::undef::undef::undef::undef::undef::undef::undef::undef::undef::undef::undef::undef::undef::undef::undef::undef::undef::undef::undef::undef::undef::undef::undef::undef::undef::undef::undef::undef::undef::undef::undef::undef::undef::undef::undef::undef::undef::undef::undef::undef::undef::undef::undef::undef::undef::undef::undef::undef::undef::undef::undef::undef::undef::undef::undef::undef::undef::undef::undef::undef::undef::undef::undef::undef::undef::undef::undef::undef::undef::undef::undef::undef::undef::undef::undef::undef::undef::undef::undef::undef::undef::undef::undef::undef::undef::undef::undef::undef::undef::undef::undef::undef::undef::undef::undef::undef::undef::undef::undef::undef::undef::undef::undef::undef::undef::undef::undef::undef::undef::undef::undef::undef::undef::undef::undef::undef::undef::undef::undef::undef::undef::undef::undef::undef::undef::undef::undef::undef::undef::undef::undef::undef::undef::undef::undef::undef::undef::undef::undef::undef::undef::undef::undef::undef::undef::undef::undef::undef::undef::undef::undef::undef::undef::undef::undef::undef::undef::undef::undef::undef::undef::undef::undef::undef::undef::undef::undef::undef::undef::undef::[]) w := Eq.mp (by kernel_rfl) h

theorem leatlaw26_AuditPlays_in {K : KV} {l0 : Value} {w : World}
    (h : blt Try.prog Builtin.len #[22] 3 #[false] #[l0] (fun A2 w =>
    bin Try.prog BinOp.gtr 3 false true A2 (Value.int IntKind.i64 150) (fun A3 w =>
    cond A3
      (call Try.prog 6 #[] (fun A4 w =>
      K A4 w) w)
      (call Try.prog 7 #[] (fun A5 w =>
    bld Try.prog 31 #[] (fun A6 w =>
    box Try.prog 31 A6 (fun A7 w =>
    (leatlaw26_AuditPlays_L1 K) (l0::undef::(Value.bool false)::A5::A7::(Value.int IntKind.i64 0)::undef::undef::undef::undef::undef::undef::undef::undef::undef::undef::undef::undef::undef::undef::l0::A2::A3::undef::A5::A6::A7::undef::undef::undef::undef::undef::undef::undef::undef::undef::undef::undef::undef::undef::undef::undef::undef::undef::undef::undef::undef::undef::undef::undef::undef::undef::undef::undef::undef::undef::undef::undef::undef::undef::undef::undef::undef::undef::undef::undef::undef::undef::undef::undef::undef::undef::undef::undef::undef::undef::undef::undef::undef::undef::undef::undef::undef::undef::undef::undef::undef::undef::undef::undef::undef::undef::undef::undef::undef::undef::undef::undef::undef::undef::undef::undef::undef::undef::undef::undef::undef::undef::undef::undef::undef::undef::undef::undef::undef::undef::undef::undef::undef::undef::undef::undef::undef::undef::undef::undef::undef::undef::undef::undef::undef::undef::undef::undef::undef::undef::undef::undef::undef::undef::undef::undef::undef::undef::undef::undef::undef::undef::undef::undef::undef::undef::undef::undef::undef::undef::undef::undef::undef::undef::undef::undef::undef::undef::undef::undef::undef::undef::undef::undef::undef::undef::undef::undef::undef::undef::undef::undef::undef::undef::undef::undef::undef::undef::undef::undef::undef::undef::undef::undef::undef::[]) w) w) w) w)) w) w) :
    Gives Try.prog 3 #[l0] w K := enter' Try.func3 (by kernel_rfl) (Eq.mp (congrArg (fun c => cCode Try.prog c (retK Try.prog Try.f3.results.toList K) (fun _ _ _ => False) (retK Try.prog Try.f3.results.toList K) (l0::undef::undef::undef::undef::undef::undef::undef::undef::undef::undef::undef::undef::undef::undef::undef::undef::undef::undef::undef::undef::undef::undef::undef::undef::undef::undef::undef::undef::undef::undef::undef::undef::undef::undef::undef::undef::undef::undef::undef::undef::undef::undef::undef::undef::undef::undef::undef::undef::undef::undef::undef::undef::undef::undef::undef::undef::undef::undef::undef::undef::undef::undef::undef::undef::undef::undef::undef::undef::undef::undef::undef::undef::undef::undef::undef::undef::undef::undef::undef::undef::undef::undef::undef::undef::undef::undef::undef::undef::undef::undef::undef::undef::undef::undef::undef::undef::undef::undef::undef::undef::undef::undef::undef::undef::undef::undef::undef::undef::undef::undef::undef::undef::undef::undef::undef::undef::undef::undef::undef::undef::undef::undef::undef::undef::undef::undef::undef::undef::undef::undef::undef::undef::undef::undef::undef::undef::undef::undef::undef::undef::undef::undef::undef::undef::undef::undef::undef::undef::undef::undef::undef::undef::undef::undef::undef::undef::undef::undef::undef::undef::undef::undef::undef::undef::undef::undef::undef::undef::undef::undef::undef::undef::undef::undef::undef::undef::undef::undef::undef::undef::undef::undef::undef::undef::undef::undef::undef::undef::undef::undef::[]) w) (by kernel_rfl : (cd Try.f3 []) = (cd Try.f3 []))) (leatlaw26_AuditPlays_k h))
theorem leatlaw26_AuditPlays_go : isGo Try.prog 3 := ⟨_, Try.func3, by kernel_rfl, by kernel_rfl⟩

theorem leatlaw26_AuditPlays_L1_k {K : KV} (B1 : KE) (qc0 : KE) (xc0 : Code) {l0 l1 a3 b4 i5' ids12 i13 x14 y15 e16 p17 q18 f19 A1 A2 A3 A4 A5 A6 A7 I6' I7' I8' J1' J2' J3' J6' J7' J8' J9' L0' L1' L2' L3' L4' L5' L7 L8 L9 M0 M1 M2 M3 M4 M5 M6 M7 M8 M9 N0 N1 N2 N3 N4 N5 N6 N7 N8 N9 O0 O1 O2 O3 O4 O5 O6 O7 O8 O9 P0 P1 P2 P3 P4 P5 P6 P7 P8 P9 Q0 Q1 Q2 Q3 Q4 Q5 Q6 Q7 Q8 Q9 R0 R1 R2 R3 R4 R5 R6 R7 R8 R9 S0 S1 S2 S3 S4 S5 S6 S7 S8 S9 T0 T1 : Value} {dd : Nat → Value} {w : World}
    (h : blt Try.prog Builtin.len #[22] 3 #[false] #[l0] (fun C0 w =>
    bin Try.prog BinOp.lss 3 false false i5' C0 (fun C1 w =>
    cond C1
      (hReg (fun S w =>
    hld S (fun k w => idxA Try.prog 22 l0 i5' k w) (fun C7 =>
    hld S (fun k w => fldA Try.prog 44 C7 0 k w) (fun C8 =>
    hld S (fun k w => ld Try.prog 3 C8 k w) (fun C9 =>
    hld S (fun k w => idxA Try.prog 22 l0 i5' k w) (fun D2 =>
    hld S (fun k w => fldA Try.prog 44 D2 1 k w) (fun D3 =>
    hld S (fun k w => ld Try.prog 35 D3 k w) (fun D4 =>
    hld S (fun k w => idxA Try.prog 22 l0 i5' k w) (fun D7 =>
    hld S (fun k w => fldA Try.prog 44 D7 2 k w) (fun D8 =>
    hld S (fun k w => ld Try.prog 42 D8 k w) (fun D9 =>
    call Try.prog 8 #[a3, C9, D4, D9] (fun E0 w =>
    hReg (fun S w =>
    hld S (fun k w => idxA Try.prog 22 l0 i5' k w) (fun E4 =>
    hld S (fun k w => fldA Try.prog 44 E4 0 k w) (fun E5 =>
    hld S (fun k w => ld Try.prog 3 E5 k w) (fun E6 =>
    hld S (fun k w => idxA Try.prog 22 l0 i5' k w) (fun E9 =>
    hld S (fun k w => fldA Try.prog 44 E9 1 k w) (fun F0 =>
    hld S (fun k w => ld Try.prog 35 F0 k w) (fun F1 =>
    hld S (fun k w => idxA Try.prog 22 l0 i5' k w) (fun F4 =>
    hld S (fun k w => fldA Try.prog 44 F4 2 k w) (fun F5 =>
    hld S (fun k w => ld Try.prog 42 F5 k w) (fun F6 =>
    call Try.prog 9 #[b4, E6, F1, F6] (fun F7 w =>
    (cCode Try.prog xc0 (cCode Try.prog (cd Try.f3 [1, 1, 1, 1, 0, 1, 0, 0, 1, 1]) B1 (fun i => @Bool.rec (fun _ => KE) ((fun _ _ _ => False) i) qc0 (Nat.beq i 0)) (retK Try.prog Try.f3.results.toList K)) (fun i => @Bool.rec (fun _ => KE) ((fun i => @Bool.rec (fun _ => KE) ((fun _ _ _ => False) i) qc0 (Nat.beq i 0)) i) (cCode Try.prog (cd Try.f3 [1, 1, 1, 1, 0, 1, 0, 0, 1, 1]) B1 (fun i => @Bool.rec (fun _ => KE) ((fun _ _ _ => False) i) qc0 (Nat.beq i 0)) (retK Try.prog Try.f3.results.toList K)) (Nat.beq i 1)) (retK Try.prog Try.f3.results.toList K)) (l0::l1::(dd 2)::a3::b4::i5'::(dd 6)::(dd 7)::(dd 8)::(dd 9)::(dd 10)::(dd 11)::ids12::i13::x14::y15::e16::p17::q18::f19::A1::A2::A3::A4::A5::A6::A7::i5'::l0::C0::C1::(dd 31)::(dd 32)::a3::l0::i5'::C7::C8::C9::l0::i5'::D2::D3::D4::l0::i5'::D7::D8::D9::E0::b4::l0::i5'::E4::E5::E6::l0::i5'::E9::F0::F1::l0::i5'::F4::F5::F6::F7::(dd 67)::(dd 68)::(dd 69)::(dd 70)::(dd 71)::(dd 72)::(dd 73)::(dd 74)::(dd 75)::(dd 76)::(dd 77)::(dd 78)::(dd 79)::(dd 80)::(dd 81)::(dd 82)::(dd 83)::(dd 84)::(dd 85)::(dd 86)::(dd 87)::(dd 88)::(dd 89)::(dd 90)::(dd 91)::(dd 92)::(dd 93)::(dd 94)::I6'::I7'::I8'::(dd 98)::(dd 99)::J1'::J2'::J3'::(dd 103)::(dd 104)::J6'::J7'::J8'::J9'::L0'::L1'::L2'::L3'::L4'::L5'::(dd 115)::L7::L8::L9::M0::M1::M2::M3::M4::M5::M6::M7::M8::M9::N0::N1::N2::N3::N4::N5::N6::N7::N8::N9::O0::O1::O2::O3::O4::O5::O6::O7::O8::O9::P0::P1::P2::P3::P4::P5::P6::P7::P8::P9::Q0::Q1::Q2::Q3::Q4::Q5::Q6::Q7::Q8::Q9::R0::R1::R2::R3::R4::R5::R6::R7::R8::R9::S0::S1::S2::S3::S4::S5::S6::S7::S8::S9::T0::T1::[]) w) w)))))))))) w.drew) w)))))))))) w.drew)
      (qc0 (l0::l1::(dd 2)::a3::b4::i5'::(dd 6)::(dd 7)::(dd 8)::(dd 9)::(dd 10)::(dd 11)::ids12::i13::x14::y15::e16::p17::q18::f19::A1::A2::A3::A4::A5::A6::A7::i5'::l0::C0::C1::(dd 31)::(dd 32)::(dd 33)::(dd 34)::(dd 35)::(dd 36)::(dd 37)::(dd 38)::(dd 39)::(dd 40)::(dd 41)::(dd 42)::(dd 43)::(dd 44)::(dd 45)::(dd 46)::(dd 47)::(dd 48)::(dd 49)::(dd 50)::(dd 51)::(dd 52)::(dd 53)::(dd 54)::(dd 55)::(dd 56)::(dd 57)::(dd 58)::(dd 59)::(dd 60)::(dd 61)::(dd 62)::(dd 63)::(dd 64)::(dd 65)::(dd 66)::(dd 67)::(dd 68)::(dd 69)::(dd 70)::(dd 71)::(dd 72)::(dd 73)::(dd 74)::(dd 75)::(dd 76)::(dd 77)::(dd 78)::(dd 79)::(dd 80)::(dd 81)::(dd 82)::(dd 83)::(dd 84)::(dd 85)::(dd 86)::(dd 87)::(dd 88)::(dd 89)::(dd 90)::(dd 91)::(dd 92)::(dd 93)::(dd 94)::I6'::I7'::I8'::(dd 98)::(dd 99)::J1'::J2'::J3'::(dd 103)::(dd 104)::J6'::J7'::J8'::J9'::L0'::L1'::L2'::L3'::L4'::L5'::(dd 115)::L7::L8::L9::M0::M1::M2::M3::M4::M5::M6::M7::M8::M9::N0::N1::N2::N3::N4::N5::N6::N7::N8::N9::O0::O1::O2::O3::O4::O5::O6::O7::O8::O9::P0::P1::P2::P3::P4::P5::P6::P7::P8::P9::Q0::Q1::Q2::Q3::Q4::Q5::Q6::Q7::Q8::Q9::R0::R1::R2::R3::R4::R5::R6::R7::R8::R9::S0::S1::S2::S3::S4::S5::S6::S7::S8::S9::T0::T1::[]) w)) w) w) :
    cCode Try.prog (rep [1, 0, 0, 1, 1] xc0 (cd Try.f3 [1, 1, 1, 1, 0, 1, 0, 0])) B1 (fun i => @Bool.rec (fun _ => KE) ((fun _ _ _ => False) i) qc0 (Nat.beq i 0)) (retK Try.prog Try.f3.results.toList K) (l0::l1::(dd 2)::a3::b4::i5'::(dd 6)::(dd 7)::(dd 8)::(dd 9)::(dd 10)::(dd 11)::ids12::i13::x14::y15::e16::p17::q18::f19::A1::A2::A3::A4::A5::A6::A7::(dd 27)::(dd 28)::(dd 29)::(dd 30)::(dd 31)::(dd 32)::(dd 33)::(dd 34)::(dd 35)::(dd 36)::(dd 37)::(dd 38)::(dd 39)::(dd 40)::(dd 41)::(dd 42)::(dd 43)::(dd 44)::(dd 45)::(dd 46)::(dd 47)::(dd 48)::(dd 49)::(dd 50)::(dd 51)::(dd 52)::(dd 53)::(dd 54)::(dd 55)::(dd 56)::(dd 57)::(dd 58)::(dd 59)::(dd 60)::(dd 61)::(dd 62)::(dd 63)::(dd 64)::(dd 65)::(dd 66)::(dd 67)::(dd 68)::(dd 69)::(dd 70)::(dd 71)::(dd 72)::(dd 73)::(dd 74)::(dd 75)::(dd 76)::(dd 77)::(dd 78)::(dd 79)::(dd 80)::(dd 81)::(dd 82)::(dd 83)::(dd 84)::(dd 85)::(dd 86)::(dd 87)::(dd 88)::(dd 89)::(dd 90)::(dd 91)::(dd 92)::(dd 93)::(dd 94)::I6'::I7'::I8'::(dd 98)::(dd 99)::J1'::J2'::J3'::(dd 103)::(dd 104)::J6'::J7'::J8'::J9'::L0'::L1'::L2'::L3'::L4'::L5'::(dd 115)::L7::L8::L9::M0::M1::M2::M3::M4::M5::M6::M7::M8::M9::N0::N1::N2::N3::N4::N5::N6::N7::N8::N9::O0::O1::O2::O3::O4::O5::O6::O7::O8::O9::P0::P1::P2::P3::P4::P5::P6::P7::P8::P9::Q0::Q1::Q2::Q3::Q4::Q5::Q6::Q7::Q8::Q9::R0::R1::R2::R3::R4::R5::R6::R7::R8::R9::S0::S1::S2::S3::S4::S5::S6::S7::S8::S9::T0::T1::[]) w := Eq.mp (by kernel_rfl) h

section
variable {l0 l1 A0 a3 b4 i5 x6 y7 e8 p9 q10 f11 ids12 i13 x14 y15 e16 p17 q18 f19 A1 A2 A3 A4 A5 A6 A7 A8 A9 C0 C1 C2 C3 C4 C5 C6 C7 C8 C9 D0 D1 D2 D3 D4 D5 D6 D7 D8 D9 E0 E1 E2 E3 E4 E5 E6 E7 E8 E9 F0 F1 F2 F3 F4 F5 F6 F7 F8 F9 G0 G1 G2 G3 G4 G5 G6 G7 G8 G9 H0 H1 H2 H3 H4 H5 H6 H7 H8 H9 I0 I1 I2 I3 I4 I5 I6 I7 I8 I9 J0 J1 J2 J3 J4 J5 J6 J7 J8 J9 L0 L1 L2 L3 L4 L5 L6 L7 L8 L9 M0 M1 M2 M3 M4 M5 M6 M7 M8 M9 N0 N1 N2 N3 N4 N5 N6 N7 N8 N9 O0 O1 O2 O3 O4 O5 O6 O7 O8 O9 P0 P1 P2 P3 P4 P5 P6 P7 P8 P9 Q0 Q1 Q2 Q3 Q4 Q5 Q6 Q7 Q8 Q9 R0 R1 R2 R3 R4 R5 R6 R7 R8 R9 S0 S1 S2 S3 S4 S5 S6 S7 S8 S9 T0 T1 : Value}
theorem leatlaw26_AuditPlays_L1_r {K : KV} {w : World} (Inv : Value → Value → Value → Value → Value → Value → Value → Value → Value → Value → Value → Value → Value → Value → Value → Value → Value → World → Prop) (μ : Value → Value → Value → Value → Value → Value → Value → Value → Value → Value → Value → Value → Value → Value → Value → Value → Value → World → Nat) (h0 : Inv i5 I6 I7 I8 J1 J2 J3 J6 J7 J8 J9 L0 L1 L2 L3 L4 L5 w)
    (hs : ∀ (i5' I6' I7' I8' J1' J2' J3' J6' J7' J8' J9' L0' L1' L2' L3' L4' L5' : Value) (dd : Nat → Value) (w : World) (m : Nat), Inv i5' I6' I7' I8' J1' J2' J3' J6' J7' J8' J9' L0' L1' L2' L3' L4' L5' w → m = μ i5' I6' I7' I8' J1' J2' J3' J6' J7' J8' J9' L0' L1' L2' L3' L4' L5' w →
    blt Try.prog Builtin.len #[22] 3 #[false] #[l0] (fun C0 w =>
    bin Try.prog BinOp.lss 3 false false i5' C0 (fun C1 w =>
    cond C1
      (hReg (fun S w =>
    hld S (fun k w => idxA Try.prog 22 l0 i5' k w) (fun C7 =>
    hld S (fun k w => fldA Try.prog 44 C7 0 k w) (fun C8 =>
    hld S (fun k w => ld Try.prog 3 C8 k w) (fun C9 =>
    hld S (fun k w => idxA Try.prog 22 l0 i5' k w) (fun D2 =>
    hld S (fun k w => fldA Try.prog 44 D2 1 k w) (fun D3 =>
    hld S (fun k w => ld Try.prog 35 D3 k w) (fun D4 =>
    hld S (fun k w => idxA Try.prog 22 l0 i5' k w) (fun D7 =>
    hld S (fun k w => fldA Try.prog 44 D7 2 k w) (fun D8 =>
    hld S (fun k w => ld Try.prog 42 D8 k w) (fun D9 =>
    call Try.prog 8 #[a3, C9, D4, D9] (fun E0 w =>
    hReg (fun S w =>
    hld S (fun k w => idxA Try.prog 22 l0 i5' k w) (fun E4 =>
    hld S (fun k w => fldA Try.prog 44 E4 0 k w) (fun E5 =>
    hld S (fun k w => ld Try.prog 3 E5 k w) (fun E6 =>
    hld S (fun k w => idxA Try.prog 22 l0 i5' k w) (fun E9 =>
    hld S (fun k w => fldA Try.prog 44 E9 1 k w) (fun F0 =>
    hld S (fun k w => ld Try.prog 35 F0 k w) (fun F1 =>
    hld S (fun k w => idxA Try.prog 22 l0 i5' k w) (fun F4 =>
    hld S (fun k w => fldA Try.prog 44 F4 2 k w) (fun F5 =>
    hld S (fun k w => ld Try.prog 42 F5 k w) (fun F6 =>
    call Try.prog 9 #[b4, E6, F1, F6] (fun F7 w =>
    (leatlaw26_AuditPlays_A1 K (fun e2 w2 => Inv (gd e2 5) (gd e2 95) (gd e2 96) (gd e2 97) (gd e2 100) (gd e2 101) (gd e2 102) (gd e2 105) (gd e2 106) (gd e2 107) (gd e2 108) (gd e2 109) (gd e2 110) (gd e2 111) (gd e2 112) (gd e2 113) (gd e2 114) w2 ∧ μ (gd e2 5) (gd e2 95) (gd e2 96) (gd e2 97) (gd e2 100) (gd e2 101) (gd e2 102) (gd e2 105) (gd e2 106) (gd e2 107) (gd e2 108) (gd e2 109) (gd e2 110) (gd e2 111) (gd e2 112) (gd e2 113) (gd e2 114) w2 < m)) (l0::l1::(dd 2)::a3::b4::i5'::(dd 6)::(dd 7)::(dd 8)::(dd 9)::(dd 10)::(dd 11)::ids12::i13::x14::y15::e16::p17::q18::f19::A1::A2::A3::A4::A5::A6::A7::i5'::l0::C0::C1::(dd 31)::(dd 32)::a3::l0::i5'::C7::C8::C9::l0::i5'::D2::D3::D4::l0::i5'::D7::D8::D9::E0::b4::l0::i5'::E4::E5::E6::l0::i5'::E9::F0::F1::l0::i5'::F4::F5::F6::F7::(dd 67)::(dd 68)::(dd 69)::(dd 70)::(dd 71)::(dd 72)::(dd 73)::(dd 74)::(dd 75)::(dd 76)::(dd 77)::(dd 78)::(dd 79)::(dd 80)::(dd 81)::(dd 82)::(dd 83)::(dd 84)::(dd 85)::(dd 86)::(dd 87)::(dd 88)::(dd 89)::(dd 90)::(dd 91)::(dd 92)::(dd 93)::(dd 94)::I6'::I7'::I8'::(dd 98)::(dd 99)::J1'::J2'::J3'::(dd 103)::(dd 104)::J6'::J7'::J8'::J9'::L0'::L1'::L2'::L3'::L4'::L5'::(dd 115)::L7::L8::L9::M0::M1::M2::M3::M4::M5::M6::M7::M8::M9::N0::N1::N2::N3::N4::N5::N6::N7::N8::N9::O0::O1::O2::O3::O4::O5::O6::O7::O8::O9::P0::P1::P2::P3::P4::P5::P6::P7::P8::P9::Q0::Q1::Q2::Q3::Q4::Q5::Q6::Q7::Q8::Q9::R0::R1::R2::R3::R4::R5::R6::R7::R8::R9::S0::S1::S2::S3::S4::S5::S6::S7::S8::S9::T0::T1::[]) w) w)))))))))) w.drew) w)))))))))) w.drew)
      ((leatlaw26_AuditPlays_P1 K) (l0::l1::(dd 2)::a3::b4::i5'::(dd 6)::(dd 7)::(dd 8)::(dd 9)::(dd 10)::(dd 11)::ids12::i13::x14::y15::e16::p17::q18::f19::A1::A2::A3::A4::A5::A6::A7::i5'::l0::C0::C1::(dd 31)::(dd 32)::(dd 33)::(dd 34)::(dd 35)::(dd 36)::(dd 37)::(dd 38)::(dd 39)::(dd 40)::(dd 41)::(dd 42)::(dd 43)::(dd 44)::(dd 45)::(dd 46)::(dd 47)::(dd 48)::(dd 49)::(dd 50)::(dd 51)::(dd 52)::(dd 53)::(dd 54)::(dd 55)::(dd 56)::(dd 57)::(dd 58)::(dd 59)::(dd 60)::(dd 61)::(dd 62)::(dd 63)::(dd 64)::(dd 65)::(dd 66)::(dd 67)::(dd 68)::(dd 69)::(dd 70)::(dd 71)::(dd 72)::(dd 73)::(dd 74)::(dd 75)::(dd 76)::(dd 77)::(dd 78)::(dd 79)::(dd 80)::(dd 81)::(dd 82)::(dd 83)::(dd 84)::(dd 85)::(dd 86)::(dd 87)::(dd 88)::(dd 89)::(dd 90)::(dd 91)::(dd 92)::(dd 93)::(dd 94)::I6'::I7'::I8'::(dd 98)::(dd 99)::J1'::J2'::J3'::(dd 103)::(dd 104)::J6'::J7'::J8'::J9'::L0'::L1'::L2'::L3'::L4'::L5'::(dd 115)::L7::L8::L9::M0::M1::M2::M3::M4::M5::M6::M7::M8::M9::N0::N1::N2::N3::N4::N5::N6::N7::N8::N9::O0::O1::O2::O3::O4::O5::O6::O7::O8::O9::P0::P1::P2::P3::P4::P5::P6::P7::P8::P9::Q0::Q1::Q2::Q3::Q4::Q5::Q6::Q7::Q8::Q9::R0::R1::R2::R3::R4::R5::R6::R7::R8::R9::S0::S1::S2::S3::S4::S5::S6::S7::S8::S9::T0::T1::[]) w)) w) w) :
    leatlaw26_AuditPlays_L1 K (l0::l1::A0::a3::b4::i5::x6::y7::e8::p9::q10::f11::ids12::i13::x14::y15::e16::p17::q18::f19::A1::A2::A3::A4::A5::A6::A7::A8::A9::C0::C1::C2::C3::C4::C5::C6::C7::C8::C9::D0::D1::D2::D3::D4::D5::D6::D7::D8::D9::E0::E1::E2::E3::E4::E5::E6::E7::E8::E9::F0::F1::F2::F3::F4::F5::F6::F7::F8::F9::G0::G1::G2::G3::G4::G5::G6::G7::G8::G9::H0::H1::H2::H3::H4::H5::H6::H7::H8::H9::I0::I1::I2::I3::I4::I5::I6::I7::I8::I9::J0::J1::J2::J3::J4::J5::J6::J7::J8::J9::L0::L1::L2::L3::L4::L5::L6::L7::L8::L9::M0::M1::M2::M3::M4::M5::M6::M7::M8::M9::N0::N1::N2::N3::N4::N5::N6::N7::N8::N9::O0::O1::O2::O3::O4::O5::O6::O7::O8::O9::P0::P1::P2::P3::P4::P5::P6::P7::P8::P9::Q0::Q1::Q2::Q3::Q4::Q5::Q6::Q7::Q8::Q9::R0::R1::R2::R3::R4::R5::R6::R7::R8::R9::S0::S1::S2::S3::S4::S5::S6::S7::S8::S9::T0::T1::[]) w := by
  refine loop_rule (cd Try.f3 [1, 1, 1, 1, 0, 1, 0, 0]) [2, 5, 6, 7, 8, 9, 10, 11, 27, 28, 29, 30, 31, 32, 33, 34, 35, 36, 37, 38, 39, 40, 41, 42, 43, 44, 45, 46, 47, 48, 49, 50, 51, 52, 53, 54, 55, 56, 57, 58, 59, 60, 61, 62, 63, 64, 65, 66, 67, 68, 69, 70, 71, 72, 73, 74, 75, 76, 77, 78, 79, 80, 81, 82, 83, 84, 85, 86, 87, 88, 89, 90, 91, 92, 93, 94, 95, 96, 97, 98, 99, 100, 101, 102, 103, 104, 105, 106, 107, 108, 109, 110, 111, 112, 113, 114, 115] (by kernel_rfl) (fun e2 w2 => Inv (gd e2 5) (gd e2 95) (gd e2 96) (gd e2 97) (gd e2 100) (gd e2 101) (gd e2 102) (gd e2 105) (gd e2 106) (gd e2 107) (gd e2 108) (gd e2 109) (gd e2 110) (gd e2 111) (gd e2 112) (gd e2 113) (gd e2 114) w2) (fun e2 w2 => μ (gd e2 5) (gd e2 95) (gd e2 96) (gd e2 97) (gd e2 100) (gd e2 101) (gd e2 102) (gd e2 105) (gd e2 106) (gd e2 107) (gd e2 108) (gd e2 109) (gd e2 110) (gd e2 111) (gd e2 112) (gd e2 113) (gd e2 114) w2) h0 ?_
  intro e' w' hI
  have h := hs (gd e' 5) (gd e' 95) (gd e' 96) (gd e' 97) (gd e' 100) (gd e' 101) (gd e' 102) (gd e' 105) (gd e' 106) (gd e' 107) (gd e' 108) (gd e' 109) (gd e' 110) (gd e' 111) (gd e' 112) (gd e' 113) (gd e' 114) (fun i => gd e' i) w' _ hI rfl
  have h2 : cCode Try.prog (rep [1, 0, 0, 1, 1] (cd Try.f3 [1, 1, 1, 1, 0, 1, 0, 0, 1, 0, 0, 1, 1]) (cd Try.f3 [1, 1, 1, 1, 0, 1, 0, 0])) (fun e2 w2 => Inv (gd e2 5) (gd e2 95) (gd e2 96) (gd e2 97) (gd e2 100) (gd e2 101) (gd e2 102) (gd e2 105) (gd e2 106) (gd e2 107) (gd e2 108) (gd e2 109) (gd e2 110) (gd e2 111) (gd e2 112) (gd e2 113) (gd e2 114) w2 ∧ μ (gd e2 5) (gd e2 95) (gd e2 96) (gd e2 97) (gd e2 100) (gd e2 101) (gd e2 102) (gd e2 105) (gd e2 106) (gd e2 107) (gd e2 108) (gd e2 109) (gd e2 110) (gd e2 111) (gd e2 112) (gd e2 113) (gd e2 114) w2 < μ (gd e' 5) (gd e' 95) (gd e' 96) (gd e' 97) (gd e' 100) (gd e' 101) (gd e' 102) (gd e' 105) (gd e' 106) (gd e' 107) (gd e' 108) (gd e' 109) (gd e' 110) (gd e' 111) (gd e' 112) (gd e' 113) (gd e' 114) w') (fun i => @Bool.rec (fun _ => KE) ((fun _ _ _ => False) i) (leatlaw26_AuditPlays_P1 K) (Nat.beq i 0)) (retK Try.prog Try.f3.results.toList K) (l0::l1::(gd e' 2)::a3::b4::(gd e' 5)::(gd e' 6)::(gd e' 7)::(gd e' 8)::(gd e' 9)::(gd e' 10)::(gd e' 11)::ids12::i13::x14::y15::e16::p17::q18::f19::A1::A2::A3::A4::A5::A6::A7::(gd e' 27)::(gd e' 28)::(gd e' 29)::(gd e' 30)::(gd e' 31)::(gd e' 32)::(gd e' 33)::(gd e' 34)::(gd e' 35)::(gd e' 36)::(gd e' 37)::(gd e' 38)::(gd e' 39)::(gd e' 40)::(gd e' 41)::(gd e' 42)::(gd e' 43)::(gd e' 44)::(gd e' 45)::(gd e' 46)::(gd e' 47)::(gd e' 48)::(gd e' 49)::(gd e' 50)::(gd e' 51)::(gd e' 52)::(gd e' 53)::(gd e' 54)::(gd e' 55)::(gd e' 56)::(gd e' 57)::(gd e' 58)::(gd e' 59)::(gd e' 60)::(gd e' 61)::(gd e' 62)::(gd e' 63)::(gd e' 64)::(gd e' 65)::(gd e' 66)::(gd e' 67)::(gd e' 68)::(gd e' 69)::(gd e' 70)::(gd e' 71)::(gd e' 72)::(gd e' 73)::(gd e' 74)::(gd e' 75)::(gd e' 76)::(gd e' 77)::(gd e' 78)::(gd e' 79)::(gd e' 80)::(gd e' 81)::(gd e' 82)::(gd e' 83)::(gd e' 84)::(gd e' 85)::(gd e' 86)::(gd e' 87)::(gd e' 88)::(gd e' 89)::(gd e' 90)::(gd e' 91)::(gd e' 92)::(gd e' 93)::(gd e' 94)::(gd e' 95)::(gd e' 96)::(gd e' 97)::(gd e' 98)::(gd e' 99)::(gd e' 100)::(gd e' 101)::(gd e' 102)::(gd e' 103)::(gd e' 104)::(gd e' 105)::(gd e' 106)::(gd e' 107)::(gd e' 108)::(gd e' 109)::(gd e' 110)::(gd e' 111)::(gd e' 112)::(gd e' 113)::(gd e' 114)::(gd e' 115)::L7::L8::L9::M0::M1::M2::M3::M4::M5::M6::M7::M8::M9::N0::N1::N2::N3::N4::N5::N6::N7::N8::N9::O0::O1::O2::O3::O4::O5::O6::O7::O8::O9::P0::P1::P2::P3::P4::P5::P6::P7::P8::P9::Q0::Q1::Q2::Q3::Q4::Q5::Q6::Q7::Q8::Q9::R0::R1::R2::R3::R4::R5::R6::R7::R8::R9::S0::S1::S2::S3::S4::S5::S6::S7::S8::S9::T0::T1::[]) w' := leatlaw26_AuditPlays_L1_k (fun e2 w2 => Inv (gd e2 5) (gd e2 95) (gd e2 96) (gd e2 97) (gd e2 100) (gd e2 101) (gd e2 102) (gd e2 105) (gd e2 106) (gd e2 107) (gd e2 108) (gd e2 109) (gd e2 110) (gd e2 111) (gd e2 112) (gd e2 113) (gd e2 114) w2 ∧ μ (gd e2 5) (gd e2 95) (gd e2 96) (gd e2 97) (gd e2 100) (gd e2 101) (gd e2 102) (gd e2 105) (gd e2 106) (gd e2 107) (gd e2 108) (gd e2 109) (gd e2 110) (gd e2 111) (gd e2 112) (gd e2 113) (gd e2 114) w2 < μ (gd e' 5) (gd e' 95) (gd e' 96) (gd e' 97) (gd e' 100) (gd e' 101) (gd e' 102) (gd e' 105) (gd e' 106) (gd e' 107) (gd e' 108) (gd e' 109) (gd e' 110) (gd e' 111) (gd e' 112) (gd e' 113) (gd e' 114) w') (leatlaw26_AuditPlays_P1 K) (cd Try.f3 [1, 1, 1, 1, 0, 1, 0, 0, 1, 0, 0, 1, 1]) (Eq.mp (by kernel_rfl) h)
  exact Eq.mp (by kernel_rfl) h2

theorem leatlaw26_AuditPlays_A1_k {K : KV} (B1 : KE) (qc0 : KE) (qc1 : KE) (xc0 : Code) {w : World}
    (h : idxA Try.prog 22 l0 i5 (fun G2 w =>
    fldA Try.prog 44 G2 1 (fun G3 w =>
    fldA Try.prog 35 G3 1 (fun G4 w =>
    ld Try.prog 33 G4 (fun G5 w =>
    call Try.prog 10 #[a3, G5] (fun G6 w =>
    ext Try.prog G6 0 (fun G7 w =>
    ext Try.prog G6 1 (fun G8 w =>
    ext Try.prog G6 2 (fun G9 w =>
    idxA Try.prog 22 l0 i5 (fun H4 w =>
    fldA Try.prog 44 H4 1 (fun H5 w =>
    fldA Try.prog 35 H5 1 (fun H6 w =>
    ld Try.prog 33 H6 (fun H7 w =>
    call Try.prog 11 #[b4, H7] (fun H8 w =>
    ext Try.prog H8 0 (fun H9 w =>
    ext Try.prog H8 1 (fun I0 w =>
    ext Try.prog H8 2 (fun I1 w =>
    (cCode Try.prog xc0 qc0 (fun i => @Bool.rec (fun _ => KE) ((fun i => @Bool.rec (fun _ => KE) ((fun _ _ _ => False) i) qc1 (Nat.beq i 0)) i) qc0 (Nat.beq i 1)) (retK Try.prog Try.f3.results.toList K)) (l0::l1::A0::a3::b4::i5::G7::G8::G9::H9::I0::I1::ids12::i13::x14::y15::e16::p17::q18::f19::A1::A2::A3::A4::A5::A6::A7::A8::A9::C0::C1::C2::C3::C4::C5::C6::C7::C8::C9::D0::D1::D2::D3::D4::D5::D6::D7::D8::D9::E0::E1::E2::E3::E4::E5::E6::E7::E8::E9::F0::F1::F2::F3::F4::F5::F6::F7::G6::a3::l0::i5::G2::G3::G4::G5::G6::G7::G8::G9::H8::b4::l0::i5::H4::H5::H6::H7::H8::H9::I0::I1::I2::I3::I4::I5::I6::I7::I8::I9::J0::J1::J2::J3::J4::J5::J6::J7::J8::J9::L0::L1::L2::L3::L4::L5::L6::L7::L8::L9::M0::M1::M2::M3::M4::M5::M6::M7::M8::M9::N0::N1::N2::N3::N4::N5::N6::N7::N8::N9::O0::O1::O2::O3::O4::O5::O6::O7::O8::O9::P0::P1::P2::P3::P4::P5::P6::P7::P8::P9::Q0::Q1::Q2::Q3::Q4::Q5::Q6::Q7::Q8::Q9::R0::R1::R2::R3::R4::R5::R6::R7::R8::R9::S0::S1::S2::S3::S4::S5::S6::S7::S8::S9::T0::T1::[]) w) w) w) w) w) w) w) w) w) w) w) w) w) w) w) w) w) :
    cCode Try.prog (rep [1, 1] xc0 (cd Try.f3 [1, 1, 1, 1, 0, 1, 0, 0, 1, 0, 0, 1, 1])) qc0 (fun i => @Bool.rec (fun _ => KE) ((fun i => @Bool.rec (fun _ => KE) ((fun _ _ _ => False) i) qc1 (Nat.beq i 0)) i) qc0 (Nat.beq i 1)) (retK Try.prog Try.f3.results.toList K) (l0::l1::A0::a3::b4::i5::x6::y7::e8::p9::q10::f11::ids12::i13::x14::y15::e16::p17::q18::f19::A1::A2::A3::A4::A5::A6::A7::A8::A9::C0::C1::C2::C3::C4::C5::C6::C7::C8::C9::D0::D1::D2::D3::D4::D5::D6::D7::D8::D9::E0::E1::E2::E3::E4::E5::E6::E7::E8::E9::F0::F1::F2::F3::F4::F5::F6::F7::F8::F9::G0::G1::G2::G3::G4::G5::G6::G7::G8::G9::H0::H1::H2::H3::H4::H5::H6::H7::H8::H9::I0::I1::I2::I3::I4::I5::I6::I7::I8::I9::J0::J1::J2::J3::J4::J5::J6::J7::J8::J9::L0::L1::L2::L3::L4::L5::L6::L7::L8::L9::M0::M1::M2::M3::M4::M5::M6::M7::M8::M9::N0::N1::N2::N3::N4::N5::N6::N7::N8::N9::O0::O1::O2::O3::O4::O5::O6::O7::O8::O9::P0::P1::P2::P3::P4::P5::P6::P7::P8::P9::Q0::Q1::Q2::Q3::Q4::Q5::Q6::Q7::Q8::Q9::R0::R1::R2::R3::R4::R5::R6::R7::R8::R9::S0::S1::S2::S3::S4::S5::S6::S7::S8::S9::T0::T1::[]) w := Eq.mp (by kernel_rfl) h

theorem leatlaw26_AuditPlays_A1_r {K : KV} {B1 : KE} {w : World}
    (h : idxA Try.prog 22 l0 i5 (fun G2 w =>
    fldA Try.prog 44 G2 1 (fun G3 w =>
    fldA Try.prog 35 G3 1 (fun G4 w =>
    ld Try.prog 33 G4 (fun G5 w =>
    call Try.prog 10 #[a3, G5] (fun G6 w =>
    ext Try.prog G6 0 (fun G7 w =>
    ext Try.prog G6 1 (fun G8 w =>
    ext Try.prog G6 2 (fun G9 w =>
    idxA Try.prog 22 l0 i5 (fun H4 w =>
    fldA Try.prog 44 H4 1 (fun H5 w =>
    fldA Try.prog 35 H5 1 (fun H6 w =>
    ld Try.prog 33 H6 (fun H7 w =>
    call Try.prog 11 #[b4, H7] (fun H8 w =>
    ext Try.prog H8 0 (fun H9 w =>
    ext Try.prog H8 1 (fun I0 w =>
    ext Try.prog H8 2 (fun I1 w =>
    (leatlaw26_AuditPlays_A2 K B1) (l0::l1::A0::a3::b4::i5::G7::G8::G9::H9::I0::I1::ids12::i13::x14::y15::e16::p17::q18::f19::A1::A2::A3::A4::A5::A6::A7::A8::A9::C0::C1::C2::C3::C4::C5::C6::C7::C8::C9::D0::D1::D2::D3::D4::D5::D6::D7::D8::D9::E0::E1::E2::E3::E4::E5::E6::E7::E8::E9::F0::F1::F2::F3::F4::F5::F6::F7::G6::a3::l0::i5::G2::G3::G4::G5::G6::G7::G8::G9::H8::b4::l0::i5::H4::H5::H6::H7::H8::H9::I0::I1::I2::I3::I4::I5::I6::I7::I8::I9::J0::J1::J2::J3::J4::J5::J6::J7::J8::J9::L0::L1::L2::L3::L4::L5::L6::L7::L8::L9::M0::M1::M2::M3::M4::M5::M6::M7::M8::M9::N0::N1::N2::N3::N4::N5::N6::N7::N8::N9::O0::O1::O2::O3::O4::O5::O6::O7::O8::O9::P0::P1::P2::P3::P4::P5::P6::P7::P8::P9::Q0::Q1::Q2::Q3::Q4::Q5::Q6::Q7::Q8::Q9::R0::R1::R2::R3::R4::R5::R6::R7::R8::R9::S0::S1::S2::S3::S4::S5::S6::S7::S8::S9::T0::T1::[]) w) w) w) w) w) w) w) w) w) w) w) w) w) w) w) w) w) :
    leatlaw26_AuditPlays_A1 K B1 (l0::l1::A0::a3::b4::i5::x6::y7::e8::p9::q10::f11::ids12::i13::x14::y15::e16::p17::q18::f19::A1::A2::A3::A4::A5::A6::A7::A8::A9::C0::C1::C2::C3::C4::C5::C6::C7::C8::C9::D0::D1::D2::D3::D4::D5::D6::D7::D8::D9::E0::E1::E2::E3::E4::E5::E6::E7::E8::E9::F0::F1::F2::F3::F4::F5::F6::F7::F8::F9::G0::G1::G2::G3::G4::G5::G6::G7::G8::G9::H0::H1::H2::H3::H4::H5::H6::H7::H8::H9::I0::I1::I2::I3::I4::I5::I6::I7::I8::I9::J0::J1::J2::J3::J4::J5::J6::J7::J8::J9::L0::L1::L2::L3::L4::L5::L6::L7::L8::L9::M0::M1::M2::M3::M4::M5::M6::M7::M8::M9::N0::N1::N2::N3::N4::N5::N6::N7::N8::N9::O0::O1::O2::O3::O4::O5::O6::O7::O8::O9::P0::P1::P2::P3::P4::P5::P6::P7::P8::P9::Q0::Q1::Q2::Q3::Q4::Q5::Q6::Q7::Q8::Q9::R0::R1::R2::R3::R4::R5::R6::R7::R8::R9::S0::S1::S2::S3::S4::S5::S6::S7::S8::S9::T0::T1::[]) w := by
  delta leatlaw26_AuditPlays_A1
  exact Eq.mp (congrArg (fun c => cCode Try.prog c (leatlaw26_AuditPlays_P2 K B1) (fun i => @Bool.rec (fun _ => KE) ((fun i => @Bool.rec (fun _ => KE) ((fun _ _ _ => False) i) (leatlaw26_AuditPlays_P1 K) (Nat.beq i 0)) i) (leatlaw26_AuditPlays_P2 K B1) (Nat.beq i 1)) (retK Try.prog Try.f3.results.toList K) (l0::l1::A0::a3::b4::i5::x6::y7::e8::p9::q10::f11::ids12::i13::x14::y15::e16::p17::q18::f19::A1::A2::A3::A4::A5::A6::A7::A8::A9::C0::C1::C2::C3::C4::C5::C6::C7::C8::C9::D0::D1::D2::D3::D4::D5::D6::D7::D8::D9::E0::E1::E2::E3::E4::E5::E6::E7::E8::E9::F0::F1::F2::F3::F4::F5::F6::F7::F8::F9::G0::G1::G2::G3::G4::G5::G6::G7::G8::G9::H0::H1::H2::H3::H4::H5::H6::H7::H8::H9::I0::I1::I2::I3::I4::I5::I6::I7::I8::I9::J0::J1::J2::J3::J4::J5::J6::J7::J8::J9::L0::L1::L2::L3::L4::L5::L6::L7::L8::L9::M0::M1::M2::M3::M4::M5::M6::M7::M8::M9::N0::N1::N2::N3::N4::N5::N6::N7::N8::N9::O0::O1::O2::O3::O4::O5::O6::O7::O8::O9::P0::P1::P2::P3::P4::P5::P6::P7::P8::P9::Q0::Q1::Q2::Q3::Q4::Q5::Q6::Q7::Q8::Q9::R0::R1::R2::R3::R4::R5::R6::R7::R8::R9::S0::S1::S2::S3::S4::S5::S6::S7::S8::S9::T0::T1::[]) w) (by kernel_rfl : (rep [1, 1] (cd Try.f3 [1, 1, 1, 1, 0, 1, 0, 0, 1, 0, 0, 1, 1, 1, 1]) (cd Try.f3 [1, 1, 1, 1, 0, 1, 0, 0, 1, 0, 0, 1, 1])) = (cd Try.f3 [1, 1, 1, 1, 0, 1, 0, 0, 1, 0, 0, 1, 1]))) (leatlaw26_AuditPlays_A1_k B1 (leatlaw26_AuditPlays_P2 K B1) (leatlaw26_AuditPlays_P1 K) (cd Try.f3 [1, 1, 1, 1, 0, 1, 0, 0, 1, 0, 0, 1, 1, 1, 1]) h)

theorem leatlaw26_AuditPlays_P1_k {K : KV} {w : World}
    (h : (cCode Try.prog (cd Try.f3 [1, 1, 1, 1, 1, 1, 0, 1, 0]) (cCode Try.prog (cd Try.f3 [1, 1, 1, 1, 1, 1, 1]) (retK Try.prog Try.f3.results.toList K) (fun _ _ _ => False) (retK Try.prog Try.f3.results.toList K)) (fun i => @Bool.rec (fun _ => KE) ((fun _ _ _ => False) i) (cCode Try.prog (cd Try.f3 [1, 1, 1, 1, 1, 1, 1]) (retK Try.prog Try.f3.results.toList K) (fun _ _ _ => False) (retK Try.prog Try.f3.results.toList K)) (Nat.beq i 2)) (retK Try.prog Try.f3.results.toList K)) (l0::l1::A0::a3::b4::i5::x6::y7::e8::p9::q10::f11::(Value.slice none 0 0)::(Value.int IntKind.i64 0)::x14::y15::e16::p17::q18::f19::A1::A2::A3::A4::A5::A6::A7::A8::A9::C0::C1::C2::C3::C4::C5::C6::C7::C8::C9::D0::D1::D2::D3::D4::D5::D6::D7::D8::D9::E0::E1::E2::E3::E4::E5::E6::E7::E8::E9::F0::F1::F2::F3::F4::F5::F6::F7::F8::F9::G0::G1::G2::G3::G4::G5::G6::G7::G8::G9::H0::H1::H2::H3::H4::H5::H6::H7::H8::H9::I0::I1::I2::I3::I4::I5::I6::I7::I8::I9::J0::J1::J2::J3::J4::J5::J6::J7::J8::J9::L0::L1::L2::L3::L4::L5::L6::L7::L8::L9::M0::M1::M2::M3::M4::M5::M6::M7::M8::M9::N0::N1::N2::N3::N4::N5::N6::N7::N8::N9::O0::O1::O2::O3::O4::O5::O6::O7::O8::O9::P0::P1::P2::P3::P4::P5::P6::P7::P8::P9::Q0::Q1::Q2::Q3::Q4::Q5::Q6::Q7::Q8::Q9::R0::R1::R2::R3::R4::R5::R6::R7::R8::R9::S0::S1::S2::S3::S4::S5::S6::S7::S8::S9::T0::T1::[]) w) :
    cCode Try.prog (cd Try.f3 [1, 1, 1, 1, 1]) (retK Try.prog Try.f3.results.toList K) (fun _ _ _ => False) (retK Try.prog Try.f3.results.toList K) (l0::l1::A0::a3::b4::i5::x6::y7::e8::p9::q10::f11::ids12::i13::x14::y15::e16::p17::q18::f19::A1::A2::A3::A4::A5::A6::A7::A8::A9::C0::C1::C2::C3::C4::C5::C6::C7::C8::C9::D0::D1::D2::D3::D4::D5::D6::D7::D8::D9::E0::E1::E2::E3::E4::E5::E6::E7::E8::E9::F0::F1::F2::F3::F4::F5::F6::F7::F8::F9::G0::G1::G2::G3::G4::G5::G6::G7::G8::G9::H0::H1::H2::H3::H4::H5::H6::H7::H8::H9::I0::I1::I2::I3::I4::I5::I6::I7::I8::I9::J0::J1::J2::J3::J4::J5::J6::J7::J8::J9::L0::L1::L2::L3::L4::L5::L6::L7::L8::L9::M0::M1::M2::M3::M4::M5::M6::M7::M8::M9::N0::N1::N2::N3::N4::N5::N6::N7::N8::N9::O0::O1::O2::O3::O4::O5::O6::O7::O8::O9::P0::P1::P2::P3::P4::P5::P6::P7::P8::P9::Q0::Q1::Q2::Q3::Q4::Q5::Q6::Q7::Q8::Q9::R0::R1::R2::R3::R4::R5::R6::R7::R8::R9::S0::S1::S2::S3::S4::S5::S6::S7::S8::S9::T0::T1::[]) w := Eq.mp (by kernel_rfl) h

theorem leatlaw26_AuditPlays_P1_r {K : KV} {w : World}
    (h : (leatlaw26_AuditPlays_L2 K) (l0::l1::A0::a3::b4::i5::x6::y7::e8::p9::q10::f11::(Value.slice none 0 0)::(Value.int IntKind.i64 0)::x14::y15::e16::p17::q18::f19::A1::A2::A3::A4::A5::A6::A7::A8::A9::C0::C1::C2::C3::C4::C5::C6::C7::C8::C9::D0::D1::D2::D3::D4::D5::D6::D7::D8::D9::E0::E1::E2::E3::E4::E5::E6::E7::E8::E9::F0::F1::F2::F3::F4::F5::F6::F7::F8::F9::G0::G1::G2::G3::G4::G5::G6::G7::G8::G9::H0::H1::H2::H3::H4::H5::H6::H7::H8::H9::I0::I1::I2::I3::I4::I5::I6::I7::I8::I9::J0::J1::J2::J3::J4::J5::J6::J7::J8::J9::L0::L1::L2::L3::L4::L5::L6::L7::L8::L9::M0::M1::M2::M3::M4::M5::M6::M7::M8::M9::N0::N1::N2::N3::N4::N5::N6::N7::N8::N9::O0::O1::O2::O3::O4::O5::O6::O7::O8::O9::P0::P1::P2::P3::P4::P5::P6::P7::P8::P9::Q0::Q1::Q2::Q3::Q4::Q5::Q6::Q7::Q8::Q9::R0::R1::R2::R3::R4::R5::R6::R7::R8::R9::S0::S1::S2::S3::S4::S5::S6::S7::S8::S9::T0::T1::[]) w) :
    leatlaw26_AuditPlays_P1 K (l0::l1::A0::a3::b4::i5::x6::y7::e8::p9::q10::f11::ids12::i13::x14::y15::e16::p17::q18::f19::A1::A2::A3::A4::A5::A6::A7::A8::A9::C0::C1::C2::C3::C4::C5::C6::C7::C8::C9::D0::D1::D2::D3::D4::D5::D6::D7::D8::D9::E0::E1::E2::E3::E4::E5::E6::E7::E8::E9::F0::F1::F2::F3::F4::F5::F6::F7::F8::F9::G0::G1::G2::G3::G4::G5::G6::G7::G8::G9::H0::H1::H2::H3::H4::H5::H6::H7::H8::H9::I0::I1::I2::I3::I4::I5::I6::I7::I8::I9::J0::J1::J2::J3::J4::J5::J6::J7::J8::J9::L0::L1::L2::L3::L4::L5::L6::L7::L8::L9::M0::M1::M2::M3::M4::M5::M6::M7::M8::M9::N0::N1::N2::N3::N4::N5::N6::N7::N8::N9::O0::O1::O2::O3::O4::O5::O6::O7::O8::O9::P0::P1::P2::P3::P4::P5::P6::P7::P8::P9::Q0::Q1::Q2::Q3::Q4::Q5::Q6::Q7::Q8::Q9::R0::R1::R2::R3::R4::R5::R6::R7::R8::R9::S0::S1::S2::S3::S4::S5::S6::S7::S8::S9::T0::T1::[]) w := by
  delta leatlaw26_AuditPlays_P1
  exact Eq.mp (congrArg (fun c => cCode Try.prog c (retK Try.prog Try.f3.results.toList K) (fun _ _ _ => False) (retK Try.prog Try.f3.results.toList K) (l0::l1::A0::a3::b4::i5::x6::y7::e8::p9::q10::f11::ids12::i13::x14::y15::e16::p17::q18::f19::A1::A2::A3::A4::A5::A6::A7::A8::A9::C0::C1::C2::C3::C4::C5::C6::C7::C8::C9::D0::D1::D2::D3::D4::D5::D6::D7::D8::D9::E0::E1::E2::E3::E4::E5::E6::E7::E8::E9::F0::F1::F2::F3::F4::F5::F6::F7::F8::F9::G0::G1::G2::G3::G4::G5::G6::G7::G8::G9::H0::H1::H2::H3::H4::H5::H6::H7::H8::H9::I0::I1::I2::I3::I4::I5::I6::I7::I8::I9::J0::J1::J2::J3::J4::J5::J6::J7::J8::J9::L0::L1::L2::L3::L4::L5::L6::L7::L8::L9::M0::M1::M2::M3::M4::M5::M6::M7::M8::M9::N0::N1::N2::N3::N4::N5::N6::N7::N8::N9::O0::O1::O2::O3::O4::O5::O6::O7::O8::O9::P0::P1::P2::P3::P4::P5::P6::P7::P8::P9::Q0::Q1::Q2::Q3::Q4::Q5::Q6::Q7::Q8::Q9::R0::R1::R2::R3::R4::R5::R6::R7::R8::R9::S0::S1::S2::S3::S4::S5::S6::S7::S8::S9::T0::T1::[]) w) (by kernel_rfl : (cd Try.f3 [1, 1, 1, 1, 1]) = (cd Try.f3 [1, 1, 1, 1, 1]))) (leatlaw26_AuditPlays_P1_k h)

theorem leatlaw26_AuditPlays_A2_k {K : KV} (B1 : KE) (qc0 : KE) (qc1 : KE) {w : World}
    (h : bin Try.prog BinOp.neq 2 false false x6 p9 (fun I4 w =>
    gsel I4 false (fun k95 =>
    bin Try.prog BinOp.neq 2 false false y7 q10 (fun I8 w =>
    k95 [y7, q10, I8] w) w)
    (fun k => k [undef, undef, undef] w) (fun us95 w =>
    pick I4 (Value.bool true) (gd us95 2) (fun I9 w =>
    gsel I9 false (fun k100 =>
    bin Try.prog BinOp.neq 40 false false e8 f11 (fun J3 w =>
    k100 [e8, f11, J3] w) w)
    (fun k => k [undef, undef, undef] w) (fun us100 w =>
    pick I9 (Value.bool true) (gd us100 2) (fun J4 w =>
    gsel J4 false (fun k105 =>
    bin Try.prog BinOp.rem 3 false true i5 (Value.int IntKind.i64 16) (fun J7 w =>
    bin Try.prog BinOp.eql 3 false true J7 (Value.int IntKind.i64 0) (fun J8 w =>
    k105 [i5, J7, J8, J8] w) w) w)
    (fun k => k [undef, undef, undef, undef] w) (fun us105 w =>
    gsel (gd us105 3) true (fun k109 =>
    call Try.prog 12 #[a3] (fun L1 w =>
    call Try.prog 13 #[b4] (fun L3 w =>
    bin Try.prog BinOp.neq 4 false false L1 L3 (fun L4 w =>
    k109 [a3, L1, b4, L3, L4] w) w) w) w)
    (fun k => k [undef, undef, undef, undef, undef] w) (fun us109 w =>
    gsel J4 false (fun k114 =>
    pick (gd us105 3) (gd us109 4) (Value.bool false) (fun L5 w =>
    k114 [L5] w) w)
    (fun k => k [undef] w) (fun us114 w =>
    pick J4 (Value.bool true) (gd us114 0) (fun L6 w =>
    cond L6
      (K (Value.bool false) w)
      (qc0 (l0::l1::A0::a3::b4::i5::x6::y7::e8::p9::q10::f11::ids12::i13::x14::y15::e16::p17::q18::f19::A1::A2::A3::A4::A5::A6::A7::A8::A9::C0::C1::C2::C3::C4::C5::C6::C7::C8::C9::D0::D1::D2::D3::D4::D5::D6::D7::D8::D9::E0::E1::E2::E3::E4::E5::E6::E7::E8::E9::F0::F1::F2::F3::F4::F5::F6::F7::F8::F9::G0::G1::G2::G3::G4::G5::G6::G7::G8::G9::H0::H1::H2::H3::H4::H5::H6::H7::H8::H9::I0::I1::x6::p9::I4::I4::(gd us95 0)::(gd us95 1)::(gd us95 2)::I9::I9::(gd us100 0)::(gd us100 1)::(gd us100 2)::J4::J4::(gd us105 0)::(gd us105 1)::(gd us105 2)::(gd us105 3)::(gd us109 0)::(gd us109 1)::(gd us109 2)::(gd us109 3)::(gd us109 4)::(gd us114 0)::L6::L7::L8::L9::M0::M1::M2::M3::M4::M5::M6::M7::M8::M9::N0::N1::N2::N3::N4::N5::N6::N7::N8::N9::O0::O1::O2::O3::O4::O5::O6::O7::O8::O9::P0::P1::P2::P3::P4::P5::P6::P7::P8::P9::Q0::Q1::Q2::Q3::Q4::Q5::Q6::Q7::Q8::Q9::R0::R1::R2::R3::R4::R5::R6::R7::R8::R9::S0::S1::S2::S3::S4::S5::S6::S7::S8::S9::T0::T1::[]) w)) w)))) w)) w)) w) :
    cCode Try.prog (cd Try.f3 [1, 1, 1, 1, 0, 1, 0, 0, 1, 0, 0, 1, 1, 1, 1]) qc0 (fun i => @Bool.rec (fun _ => KE) ((fun i => @Bool.rec (fun _ => KE) ((fun _ _ _ => False) i) qc1 (Nat.beq i 0)) i) qc0 (Nat.beq i 1)) (retK Try.prog Try.f3.results.toList K) (l0::l1::A0::a3::b4::i5::x6::y7::e8::p9::q10::f11::ids12::i13::x14::y15::e16::p17::q18::f19::A1::A2::A3::A4::A5::A6::A7::A8::A9::C0::C1::C2::C3::C4::C5::C6::C7::C8::C9::D0::D1::D2::D3::D4::D5::D6::D7::D8::D9::E0::E1::E2::E3::E4::E5::E6::E7::E8::E9::F0::F1::F2::F3::F4::F5::F6::F7::F8::F9::G0::G1::G2::G3::G4::G5::G6::G7::G8::G9::H0::H1::H2::H3::H4::H5::H6::H7::H8::H9::I0::I1::I2::I3::I4::I5::I6::I7::I8::I9::J0::J1::J2::J3::J4::J5::J6::J7::J8::J9::L0::L1::L2::L3::L4::L5::L6::L7::L8::L9::M0::M1::M2::M3::M4::M5::M6::M7::M8::M9::N0::N1::N2::N3::N4::N5::N6::N7::N8::N9::O0::O1::O2::O3::O4::O5::O6::O7::O8::O9::P0::P1::P2::P3::P4::P5::P6::P7::P8::P9::Q0::Q1::Q2::Q3::Q4::Q5::Q6::Q7::Q8::Q9::R0::R1::R2::R3::R4::R5::R6::R7::R8::R9::S0::S1::S2::S3::S4::S5::S6::S7::S8::S9::T0::T1::[]) w := Eq.mp (by kernel_rfl) h

theorem leatlaw26_AuditPlays_A2_r {K : KV} {B1 : KE} {w : World}
    (h : bin Try.prog BinOp.neq 2 false false x6 p9 (fun I4 w =>
    gsel I4 false (fun k95 =>
    bin Try.prog BinOp.neq 2 false false y7 q10 (fun I8 w =>
    k95 [y7, q10, I8] w) w)
    (fun k => k [undef, undef, undef] w) (fun us95 w =>
    pick I4 (Value.bool true) (gd us95 2) (fun I9 w =>
    gsel I9 false (fun k100 =>
    bin Try.prog BinOp.neq 40 false false e8 f11 (fun J3 w =>
    k100 [e8, f11, J3] w) w)
    (fun k => k [undef, undef, undef] w) (fun us100 w =>
    pick I9 (Value.bool true) (gd us100 2) (fun J4 w =>
    gsel J4 false (fun k105 =>
    bin Try.prog BinOp.rem 3 false true i5 (Value.int IntKind.i64 16) (fun J7 w =>
    bin Try.prog BinOp.eql 3 false true J7 (Value.int IntKind.i64 0) (fun J8 w =>
    k105 [i5, J7, J8, J8] w) w) w)
    (fun k => k [undef, undef, undef, undef] w) (fun us105 w =>
    gsel (gd us105 3) true (fun k109 =>
    call Try.prog 12 #[a3] (fun L1 w =>
    call Try.prog 13 #[b4] (fun L3 w =>
    bin Try.prog BinOp.neq 4 false false L1 L3 (fun L4 w =>
    k109 [a3, L1, b4, L3, L4] w) w) w) w)
    (fun k => k [undef, undef, undef, undef, undef] w) (fun us109 w =>
    gsel J4 false (fun k114 =>
    pick (gd us105 3) (gd us109 4) (Value.bool false) (fun L5 w =>
    k114 [L5] w) w)
    (fun k => k [undef] w) (fun us114 w =>
    pick J4 (Value.bool true) (gd us114 0) (fun L6 w =>
    cond L6
      (K (Value.bool false) w)
      ((leatlaw26_AuditPlays_P2 K B1) (l0::l1::A0::a3::b4::i5::x6::y7::e8::p9::q10::f11::ids12::i13::x14::y15::e16::p17::q18::f19::A1::A2::A3::A4::A5::A6::A7::A8::A9::C0::C1::C2::C3::C4::C5::C6::C7::C8::C9::D0::D1::D2::D3::D4::D5::D6::D7::D8::D9::E0::E1::E2::E3::E4::E5::E6::E7::E8::E9::F0::F1::F2::F3::F4::F5::F6::F7::F8::F9::G0::G1::G2::G3::G4::G5::G6::G7::G8::G9::H0::H1::H2::H3::H4::H5::H6::H7::H8::H9::I0::I1::x6::p9::I4::I4::(gd us95 0)::(gd us95 1)::(gd us95 2)::I9::I9::(gd us100 0)::(gd us100 1)::(gd us100 2)::J4::J4::(gd us105 0)::(gd us105 1)::(gd us105 2)::(gd us105 3)::(gd us109 0)::(gd us109 1)::(gd us109 2)::(gd us109 3)::(gd us109 4)::(gd us114 0)::L6::L7::L8::L9::M0::M1::M2::M3::M4::M5::M6::M7::M8::M9::N0::N1::N2::N3::N4::N5::N6::N7::N8::N9::O0::O1::O2::O3::O4::O5::O6::O7::O8::O9::P0::P1::P2::P3::P4::P5::P6::P7::P8::P9::Q0::Q1::Q2::Q3::Q4::Q5::Q6::Q7::Q8::Q9::R0::R1::R2::R3::R4::R5::R6::R7::R8::R9::S0::S1::S2::S3::S4::S5::S6::S7::S8::S9::T0::T1::[]) w)) w)))) w)) w)) w) :
    leatlaw26_AuditPlays_A2 K B1 (l0::l1::A0::a3::b4::i5::x6::y7::e8::p9::q10::f11::ids12::i13::x14::y15::e16::p17::q18::f19::A1::A2::A3::A4::A5::A6::A7::A8::A9::C0::C1::C2::C3::C4::C5::C6::C7::C8::C9::D0::D1::D2::D3::D4::D5::D6::D7::D8::D9::E0::E1::E2::E3::E4::E5::E6::E7::E8::E9::F0::F1::F2::F3::F4::F5::F6::F7::F8::F9::G0::G1::G2::G3::G4::G5::G6::G7::G8::G9::H0::H1::H2::H3::H4::H5::H6::H7::H8::H9::I0::I1::I2::I3::I4::I5::I6::I7::I8::I9::J0::J1::J2::J3::J4::J5::J6::J7::J8::J9::L0::L1::L2::L3::L4::L5::L6::L7::L8::L9::M0::M1::M2::M3::M4::M5::M6::M7::M8::M9::N0::N1::N2::N3::N4::N5::N6::N7::N8::N9::O0::O1::O2::O3::O4::O5::O6::O7::O8::O9::P0::P1::P2::P3::P4::P5::P6::P7::P8::P9::Q0::Q1::Q2::Q3::Q4::Q5::Q6::Q7::Q8::Q9::R0::R1::R2::R3::R4::R5::R6::R7::R8::R9::S0::S1::S2::S3::S4::S5::S6::S7::S8::S9::T0::T1::[]) w := by
  delta leatlaw26_AuditPlays_A2
  exact Eq.mp (congrArg (fun c => cCode Try.prog c (leatlaw26_AuditPlays_P2 K B1) (fun i => @Bool.rec (fun _ => KE) ((fun i => @Bool.rec (fun _ => KE) ((fun _ _ _ => False) i) (leatlaw26_AuditPlays_P1 K) (Nat.beq i 0)) i) (leatlaw26_AuditPlays_P2 K B1) (Nat.beq i 1)) (retK Try.prog Try.f3.results.toList K) (l0::l1::A0::a3::b4::i5::x6::y7::e8::p9::q10::f11::ids12::i13::x14::y15::e16::p17::q18::f19::A1::A2::A3::A4::A5::A6::A7::A8::A9::C0::C1::C2::C3::C4::C5::C6::C7::C8::C9::D0::D1::D2::D3::D4::D5::D6::D7::D8::D9::E0::E1::E2::E3::E4::E5::E6::E7::E8::E9::F0::F1::F2::F3::F4::F5::F6::F7::F8::F9::G0::G1::G2::G3::G4::G5::G6::G7::G8::G9::H0::H1::H2::H3::H4::H5::H6::H7::H8::H9::I0::I1::I2::I3::I4::I5::I6::I7::I8::I9::J0::J1::J2::J3::J4::J5::J6::J7::J8::J9::L0::L1::L2::L3::L4::L5::L6::L7::L8::L9::M0::M1::M2::M3::M4::M5::M6::M7::M8::M9::N0::N1::N2::N3::N4::N5::N6::N7::N8::N9::O0::O1::O2::O3::O4::O5::O6::O7::O8::O9::P0::P1::P2::P3::P4::P5::P6::P7::P8::P9::Q0::Q1::Q2::Q3::Q4::Q5::Q6::Q7::Q8::Q9::R0::R1::R2::R3::R4::R5::R6::R7::R8::R9::S0::S1::S2::S3::S4::S5::S6::S7::S8::S9::T0::T1::[]) w) (by kernel_rfl : (cd Try.f3 [1, 1, 1, 1, 0, 1, 0, 0, 1, 0, 0, 1, 1, 1, 1]) = (cd Try.f3 [1, 1, 1, 1, 0, 1, 0, 0, 1, 0, 0, 1, 1, 1, 1]))) (leatlaw26_AuditPlays_A2_k B1 (leatlaw26_AuditPlays_P2 K B1) (leatlaw26_AuditPlays_P1 K) h)

end
theorem leatlaw26_AuditPlays_L2_k {K : KV} (B1 : KE) (qc0 : KE) (xc0 : Code) {l0 l1 a3 b4 i5 x6 y7 e8 p9 q10 f11 ids12' i13' A1 A2 A3 A4 A5 A6 A7 A8 A9 C0 C1 C2 C3 C4 C5 C6 C7 C8 C9 D0 D1 D2 D3 D4 D5 D6 D7 D8 D9 E0 E1 E2 E3 E4 E5 E6 E7 E8 E9 F0 F1 F2 F3 F4 F5 F6 F7 F8 F9 G0 G1 G2 G3 G4 G5 G6 G7 G8 G9 H0 H1 H2 H3 H4 H5 H6 H7 H8 H9 I0 I1 I2 I3 I4 I5 I6 I7 I8 I9 J0 J1 J2 J3 J4 J5 J6 J7 J8 J9 L0 L1 L2 L3 L4 L5 L6 Q9' R0' R1' R4' R5' R6' R8 R9 S0 S1 S2 S3 S4 S5 S6 S7 S8 S9 T0 T1 : Value} {dd : Nat → Value} {w : World}
    (h : nilC b4 (fun L9 w =>
    fldA Try.prog 31 L9 0 (fun M0 w =>
    ld Try.prog 27 M0 (fun M1 w =>
    blt Try.prog Builtin.len #[27] 3 #[false] #[M1] (fun M2 w =>
    bin Try.prog BinOp.lss 3 false false i13' M2 (fun M3 w =>
    cond M3
      (nilC b4 (fun M8 w =>
    fldA Try.prog 31 M8 0 (fun M9 w =>
    ld Try.prog 27 M9 (fun N0 w =>
    idxA Try.prog 27 N0 i13' (fun N2 w =>
    fldA Try.prog 49 N2 0 (fun N3 w =>
    ld Try.prog 33 N3 (fun N4 w =>
    bldS Try.prog 47 1 #[(0, N4)] (fun N5 w =>
    blt Try.prog Builtin.append #[47, 47] 47 #[false, false] #[ids12', N5] (fun N6 w =>
    nilC b4 (fun O0 w =>
    fldA Try.prog 31 O0 0 (fun O1 w =>
    ld Try.prog 27 O1 (fun O2 w =>
    idxA Try.prog 27 O2 i13' (fun O4 w =>
    fldA Try.prog 49 O4 0 (fun O5 w =>
    ld Try.prog 33 O5 (fun O6 w =>
    call Try.prog 10 #[a3, O6] (fun O7 w =>
    ext Try.prog O7 0 (fun O8 w =>
    ext Try.prog O7 1 (fun O9 w =>
    ext Try.prog O7 2 (fun P0 w =>
    (cCode Try.prog xc0 (cCode Try.prog (cd Try.f3 [1, 1, 1, 1, 1, 1, 0, 1, 0, 0, 1, 1]) B1 (fun i => @Bool.rec (fun _ => KE) ((fun _ _ _ => False) i) qc0 (Nat.beq i 2)) (retK Try.prog Try.f3.results.toList K)) (fun i => @Bool.rec (fun _ => KE) ((fun i => @Bool.rec (fun _ => KE) ((fun _ _ _ => False) i) qc0 (Nat.beq i 2)) i) (cCode Try.prog (cd Try.f3 [1, 1, 1, 1, 1, 1, 0, 1, 0, 0, 1, 1]) B1 (fun i => @Bool.rec (fun _ => KE) ((fun _ _ _ => False) i) qc0 (Nat.beq i 2)) (retK Try.prog Try.f3.results.toList K)) (Nat.beq i 3)) (retK Try.prog Try.f3.results.toList K)) (l0::l1::(dd 2)::a3::b4::i5::x6::y7::e8::p9::q10::f11::N6::i13'::O8::O9::P0::(dd 17)::(dd 18)::(dd 19)::A1::A2::A3::A4::A5::A6::A7::A8::A9::C0::C1::C2::C3::C4::C5::C6::C7::C8::C9::D0::D1::D2::D3::D4::D5::D6::D7::D8::D9::E0::E1::E2::E3::E4::E5::E6::E7::E8::E9::F0::F1::F2::F3::F4::F5::F6::F7::F8::F9::G0::G1::G2::G3::G4::G5::G6::G7::G8::G9::H0::H1::H2::H3::H4::H5::H6::H7::H8::H9::I0::I1::I2::I3::I4::I5::I6::I7::I8::I9::J0::J1::J2::J3::J4::J5::J6::J7::J8::J9::L0::L1::L2::L3::L4::L5::L6::i13'::b4::L9::M0::M1::M2::M3::(dd 123)::(dd 124)::ids12'::b4::M8::M9::N0::i13'::N2::N3::N4::N5::N6::O7::a3::b4::O0::O1::O2::i13'::O4::O5::O6::O7::O8::O9::P0::(dd 150)::(dd 151)::(dd 152)::(dd 153)::(dd 154)::(dd 155)::(dd 156)::(dd 157)::(dd 158)::(dd 159)::(dd 160)::(dd 161)::(dd 162)::(dd 163)::(dd 164)::(dd 165)::(dd 166)::(dd 167)::Q9'::R0'::R1'::(dd 171)::(dd 172)::R4'::R5'::R6'::(dd 176)::R8::R9::S0::S1::S2::S3::S4::S5::S6::S7::S8::S9::T0::T1::[]) w) w) w) w) w) w) w) w) w) w) w) w) w) w) w) w) w) w) w)
      (qc0 (l0::l1::(dd 2)::a3::b4::i5::x6::y7::e8::p9::q10::f11::ids12'::i13'::(dd 14)::(dd 15)::(dd 16)::(dd 17)::(dd 18)::(dd 19)::A1::A2::A3::A4::A5::A6::A7::A8::A9::C0::C1::C2::C3::C4::C5::C6::C7::C8::C9::D0::D1::D2::D3::D4::D5::D6::D7::D8::D9::E0::E1::E2::E3::E4::E5::E6::E7::E8::E9::F0::F1::F2::F3::F4::F5::F6::F7::F8::F9::G0::G1::G2::G3::G4::G5::G6::G7::G8::G9::H0::H1::H2::H3::H4::H5::H6::H7::H8::H9::I0::I1::I2::I3::I4::I5::I6::I7::I8::I9::J0::J1::J2::J3::J4::J5::J6::J7::J8::J9::L0::L1::L2::L3::L4::L5::L6::i13'::b4::L9::M0::M1::M2::M3::(dd 123)::(dd 124)::(dd 125)::(dd 126)::(dd 127)::(dd 128)::(dd 129)::(dd 130)::(dd 131)::(dd 132)::(dd 133)::(dd 134)::(dd 135)::(dd 136)::(dd 137)::(dd 138)::(dd 139)::(dd 140)::(dd 141)::(dd 142)::(dd 143)::(dd 144)::(dd 145)::(dd 146)::(dd 147)::(dd 148)::(dd 149)::(dd 150)::(dd 151)::(dd 152)::(dd 153)::(dd 154)::(dd 155)::(dd 156)::(dd 157)::(dd 158)::(dd 159)::(dd 160)::(dd 161)::(dd 162)::(dd 163)::(dd 164)::(dd 165)::(dd 166)::(dd 167)::Q9'::R0'::R1'::(dd 171)::(dd 172)::R4'::R5'::R6'::(dd 176)::R8::R9::S0::S1::S2::S3::S4::S5::S6::S7::S8::S9::T0::T1::[]) w)) w) w) w) w) w) :
    cCode Try.prog (rep [1, 0, 0, 1, 1] xc0 (cd Try.f3 [1, 1, 1, 1, 1, 1, 0, 1, 0, 0])) B1 (fun i => @Bool.rec (fun _ => KE) ((fun _ _ _ => False) i) qc0 (Nat.beq i 2)) (retK Try.prog Try.f3.results.toList K) (l0::l1::(dd 2)::a3::b4::i5::x6::y7::e8::p9::q10::f11::ids12'::i13'::(dd 14)::(dd 15)::(dd 16)::(dd 17)::(dd 18)::(dd 19)::A1::A2::A3::A4::A5::A6::A7::A8::A9::C0::C1::C2::C3::C4::C5::C6::C7::C8::C9::D0::D1::D2::D3::D4::D5::D6::D7::D8::D9::E0::E1::E2::E3::E4::E5::E6::E7::E8::E9::F0::F1::F2::F3::F4::F5::F6::F7::F8::F9::G0::G1::G2::G3::G4::G5::G6::G7::G8::G9::H0::H1::H2::H3::H4::H5::H6::H7::H8::H9::I0::I1::I2::I3::I4::I5::I6::I7::I8::I9::J0::J1::J2::J3::J4::J5::J6::J7::J8::J9::L0::L1::L2::L3::L4::L5::L6::(dd 116)::(dd 117)::(dd 118)::(dd 119)::(dd 120)::(dd 121)::(dd 122)::(dd 123)::(dd 124)::(dd 125)::(dd 126)::(dd 127)::(dd 128)::(dd 129)::(dd 130)::(dd 131)::(dd 132)::(dd 133)::(dd 134)::(dd 135)::(dd 136)::(dd 137)::(dd 138)::(dd 139)::(dd 140)::(dd 141)::(dd 142)::(dd 143)::(dd 144)::(dd 145)::(dd 146)::(dd 147)::(dd 148)::(dd 149)::(dd 150)::(dd 151)::(dd 152)::(dd 153)::(dd 154)::(dd 155)::(dd 156)::(dd 157)::(dd 158)::(dd 159)::(dd 160)::(dd 161)::(dd 162)::(dd 163)::(dd 164)::(dd 165)::(dd 166)::(dd 167)::Q9'::R0'::R1'::(dd 171)::(dd 172)::R4'::R5'::R6'::(dd 176)::R8::R9::S0::S1::S2::S3::S4::S5::S6::S7::S8::S9::T0::T1::[]) w := Eq.mp (by kernel_rfl) h

section
variable {l0 l1 A0 a3 b4 i5 x6 y7 e8 p9 q10 f11 ids12 i13 x14 y15 e16 p17 q18 f19 A1 A2 A3 A4 A5 A6 A7 A8 A9 C0 C1 C2 C3 C4 C5 C6 C7 C8 C9 D0 D1 D2 D3 D4 D5 D6 D7 D8 D9 E0 E1 E2 E3 E4 E5 E6 E7 E8 E9 F0 F1 F2 F3 F4 F5 F6 F7 F8 F9 G0 G1 G2 G3 G4 G5 G6 G7 G8 G9 H0 H1 H2 H3 H4 H5 H6 H7 H8 H9 I0 I1 I2 I3 I4 I5 I6 I7 I8 I9 J0 J1 J2 J3 J4 J5 J6 J7 J8 J9 L0 L1 L2 L3 L4 L5 L6 L7 L8 L9 M0 M1 M2 M3 M4 M5 M6 M7 M8 M9 N0 N1 N2 N3 N4 N5 N6 N7 N8 N9 O0 O1 O2 O3 O4 O5 O6 O7 O8 O9 P0 P1 P2 P3 P4 P5 P6 P7 P8 P9 Q0 Q1 Q2 Q3 Q4 Q5 Q6 Q7 Q8 Q9 R0 R1 R2 R3 R4 R5 R6 R7 R8 R9 S0 S1 S2 S3 S4 S5 S6 S7 S8 S9 T0 T1 : Value}
theorem leatlaw26_AuditPlays_L2_r {K : KV} {w : World} (Inv : Value → Value → Value → Value → Value → Value → Value → Value → World → Prop) (μ : Value → Value → Value → Value → Value → Value → Value → Value → World → Nat) (h0 : Inv ids12 i13 Q9 R0 R1 R4 R5 R6 w)
    (hs : ∀ (ids12' i13' Q9' R0' R1' R4' R5' R6' : Value) (dd : Nat → Value) (w : World) (m : Nat), Inv ids12' i13' Q9' R0' R1' R4' R5' R6' w → m = μ ids12' i13' Q9' R0' R1' R4' R5' R6' w →
    nilC b4 (fun L9 w =>
    fldA Try.prog 31 L9 0 (fun M0 w =>
    ld Try.prog 27 M0 (fun M1 w =>
    blt Try.prog Builtin.len #[27] 3 #[false] #[M1] (fun M2 w =>
    bin Try.prog BinOp.lss 3 false false i13' M2 (fun M3 w =>
    cond M3
      (nilC b4 (fun M8 w =>
    fldA Try.prog 31 M8 0 (fun M9 w =>
    ld Try.prog 27 M9 (fun N0 w =>
    idxA Try.prog 27 N0 i13' (fun N2 w =>
    fldA Try.prog 49 N2 0 (fun N3 w =>
    ld Try.prog 33 N3 (fun N4 w =>
    bldS Try.prog 47 1 #[(0, N4)] (fun N5 w =>
    blt Try.prog Builtin.append #[47, 47] 47 #[false, false] #[ids12', N5] (fun N6 w =>
    nilC b4 (fun O0 w =>
    fldA Try.prog 31 O0 0 (fun O1 w =>
    ld Try.prog 27 O1 (fun O2 w =>
    idxA Try.prog 27 O2 i13' (fun O4 w =>
    fldA Try.prog 49 O4 0 (fun O5 w =>
    ld Try.prog 33 O5 (fun O6 w =>
    call Try.prog 10 #[a3, O6] (fun O7 w =>
    ext Try.prog O7 0 (fun O8 w =>
    ext Try.prog O7 1 (fun O9 w =>
    ext Try.prog O7 2 (fun P0 w =>
    (leatlaw26_AuditPlays_A3 K (fun e2 w2 => Inv (gd e2 12) (gd e2 13) (gd e2 168) (gd e2 169) (gd e2 170) (gd e2 173) (gd e2 174) (gd e2 175) w2 ∧ μ (gd e2 12) (gd e2 13) (gd e2 168) (gd e2 169) (gd e2 170) (gd e2 173) (gd e2 174) (gd e2 175) w2 < m)) (l0::l1::(dd 2)::a3::b4::i5::x6::y7::e8::p9::q10::f11::N6::i13'::O8::O9::P0::(dd 17)::(dd 18)::(dd 19)::A1::A2::A3::A4::A5::A6::A7::A8::A9::C0::C1::C2::C3::C4::C5::C6::C7::C8::C9::D0::D1::D2::D3::D4::D5::D6::D7::D8::D9::E0::E1::E2::E3::E4::E5::E6::E7::E8::E9::F0::F1::F2::F3::F4::F5::F6::F7::F8::F9::G0::G1::G2::G3::G4::G5::G6::G7::G8::G9::H0::H1::H2::H3::H4::H5::H6::H7::H8::H9::I0::I1::I2::I3::I4::I5::I6::I7::I8::I9::J0::J1::J2::J3::J4::J5::J6::J7::J8::J9::L0::L1::L2::L3::L4::L5::L6::i13'::b4::L9::M0::M1::M2::M3::(dd 123)::(dd 124)::ids12'::b4::M8::M9::N0::i13'::N2::N3::N4::N5::N6::O7::a3::b4::O0::O1::O2::i13'::O4::O5::O6::O7::O8::O9::P0::(dd 150)::(dd 151)::(dd 152)::(dd 153)::(dd 154)::(dd 155)::(dd 156)::(dd 157)::(dd 158)::(dd 159)::(dd 160)::(dd 161)::(dd 162)::(dd 163)::(dd 164)::(dd 165)::(dd 166)::(dd 167)::Q9'::R0'::R1'::(dd 171)::(dd 172)::R4'::R5'::R6'::(dd 176)::R8::R9::S0::S1::S2::S3::S4::S5::S6::S7::S8::S9::T0::T1::[]) w) w) w) w) w) w) w) w) w) w) w) w) w) w) w) w) w) w) w)
      ((leatlaw26_AuditPlays_P3 K) (l0::l1::(dd 2)::a3::b4::i5::x6::y7::e8::p9::q10::f11::ids12'::i13'::(dd 14)::(dd 15)::(dd 16)::(dd 17)::(dd 18)::(dd 19)::A1::A2::A3::A4::A5::A6::A7::A8::A9::C0::C1::C2::C3::C4::C5::C6::C7::C8::C9::D0::D1::D2::D3::D4::D5::D6::D7::D8::D9::E0::E1::E2::E3::E4::E5::E6::E7::E8::E9::F0::F1::F2::F3::F4::F5::F6::F7::F8::F9::G0::G1::G2::G3::G4::G5::G6::G7::G8::G9::H0::H1::H2::H3::H4::H5::H6::H7::H8::H9::I0::I1::I2::I3::I4::I5::I6::I7::I8::I9::J0::J1::J2::J3::J4::J5::J6::J7::J8::J9::L0::L1::L2::L3::L4::L5::L6::i13'::b4::L9::M0::M1::M2::M3::(dd 123)::(dd 124)::(dd 125)::(dd 126)::(dd 127)::(dd 128)::(dd 129)::(dd 130)::(dd 131)::(dd 132)::(dd 133)::(dd 134)::(dd 135)::(dd 136)::(dd 137)::(dd 138)::(dd 139)::(dd 140)::(dd 141)::(dd 142)::(dd 143)::(dd 144)::(dd 145)::(dd 146)::(dd 147)::(dd 148)::(dd 149)::(dd 150)::(dd 151)::(dd 152)::(dd 153)::(dd 154)::(dd 155)::(dd 156)::(dd 157)::(dd 158)::(dd 159)::(dd 160)::(dd 161)::(dd 162)::(dd 163)::(dd 164)::(dd 165)::(dd 166)::(dd 167)::Q9'::R0'::R1'::(dd 171)::(dd 172)::R4'::R5'::R6'::(dd 176)::R8::R9::S0::S1::S2::S3::S4::S5::S6::S7::S8::S9::T0::T1::[]) w)) w) w) w) w) w) :
    leatlaw26_AuditPlays_L2 K (l0::l1::A0::a3::b4::i5::x6::y7::e8::p9::q10::f11::ids12::i13::x14::y15::e16::p17::q18::f19::A1::A2::A3::A4::A5::A6::A7::A8::A9::C0::C1::C2::C3::C4::C5::C6::C7::C8::C9::D0::D1::D2::D3::D4::D5::D6::D7::D8::D9::E0::E1::E2::E3::E4::E5::E6::E7::E8::E9::F0::F1::F2::F3::F4::F5::F6::F7::F8::F9::G0::G1::G2::G3::G4::G5::G6::G7::G8::G9::H0::H1::H2::H3::H4::H5::H6::H7::H8::H9::I0::I1::I2::I3::I4::I5::I6::I7::I8::I9::J0::J1::J2::J3::J4::J5::J6::J7::J8::J9::L0::L1::L2::L3::L4::L5::L6::L7::L8::L9::M0::M1::M2::M3::M4::M5::M6::M7::M8::M9::N0::N1::N2::N3::N4::N5::N6::N7::N8::N9::O0::O1::O2::O3::O4::O5::O6::O7::O8::O9::P0::P1::P2::P3::P4::P5::P6::P7::P8::P9::Q0::Q1::Q2::Q3::Q4::Q5::Q6::Q7::Q8::Q9::R0::R1::R2::R3::R4::R5::R6::R7::R8::R9::S0::S1::S2::S3::S4::S5::S6::S7::S8::S9::T0::T1::[]) w := by
  refine loop_rule (cd Try.f3 [1, 1, 1, 1, 1, 1, 0, 1, 0, 0]) [2, 12, 13, 14, 15, 16, 17, 18, 19, 116, 117, 118, 119, 120, 121, 122, 123, 124, 125, 126, 127, 128, 129, 130, 131, 132, 133, 134, 135, 136, 137, 138, 139, 140, 141, 142, 143, 144, 145, 146, 147, 148, 149, 150, 151, 152, 153, 154, 155, 156, 157, 158, 159, 160, 161, 162, 163, 164, 165, 166, 167, 168, 169, 170, 171, 172, 173, 174, 175, 176] (by kernel_rfl) (fun e2 w2 => Inv (gd e2 12) (gd e2 13) (gd e2 168) (gd e2 169) (gd e2 170) (gd e2 173) (gd e2 174) (gd e2 175) w2) (fun e2 w2 => μ (gd e2 12) (gd e2 13) (gd e2 168) (gd e2 169) (gd e2 170) (gd e2 173) (gd e2 174) (gd e2 175) w2) h0 ?_
  intro e' w' hI
  have h := hs (gd e' 12) (gd e' 13) (gd e' 168) (gd e' 169) (gd e' 170) (gd e' 173) (gd e' 174) (gd e' 175) (fun i => gd e' i) w' _ hI rfl
  have h2 : cCode Try.prog (rep [1, 0, 0, 1, 1] (cd Try.f3 [1, 1, 1, 1, 1, 1, 0, 1, 0, 0, 1, 0, 0, 1, 1]) (cd Try.f3 [1, 1, 1, 1, 1, 1, 0, 1, 0, 0])) (fun e2 w2 => Inv (gd e2 12) (gd e2 13) (gd e2 168) (gd e2 169) (gd e2 170) (gd e2 173) (gd e2 174) (gd e2 175) w2 ∧ μ (gd e2 12) (gd e2 13) (gd e2 168) (gd e2 169) (gd e2 170) (gd e2 173) (gd e2 174) (gd e2 175) w2 < μ (gd e' 12) (gd e' 13) (gd e' 168) (gd e' 169) (gd e' 170) (gd e' 173) (gd e' 174) (gd e' 175) w') (fun i => @Bool.rec (fun _ => KE) ((fun _ _ _ => False) i) (leatlaw26_AuditPlays_P3 K) (Nat.beq i 2)) (retK Try.prog Try.f3.results.toList K) (l0::l1::(gd e' 2)::a3::b4::i5::x6::y7::e8::p9::q10::f11::(gd e' 12)::(gd e' 13)::(gd e' 14)::(gd e' 15)::(gd e' 16)::(gd e' 17)::(gd e' 18)::(gd e' 19)::A1::A2::A3::A4::A5::A6::A7::A8::A9::C0::C1::C2::C3::C4::C5::C6::C7::C8::C9::D0::D1::D2::D3::D4::D5::D6::D7::D8::D9::E0::E1::E2::E3::E4::E5::E6::E7::E8::E9::F0::F1::F2::F3::F4::F5::F6::F7::F8::F9::G0::G1::G2::G3::G4::G5::G6::G7::G8::G9::H0::H1::H2::H3::H4::H5::H6::H7::H8::H9::I0::I1::I2::I3::I4::I5::I6::I7::I8::I9::J0::J1::J2::J3::J4::J5::J6::J7::J8::J9::L0::L1::L2::L3::L4::L5::L6::(gd e' 116)::(gd e' 117)::(gd e' 118)::(gd e' 119)::(gd e' 120)::(gd e' 121)::(gd e' 122)::(gd e' 123)::(gd e' 124)::(gd e' 125)::(gd e' 126)::(gd e' 127)::(gd e' 128)::(gd e' 129)::(gd e' 130)::(gd e' 131)::(gd e' 132)::(gd e' 133)::(gd e' 134)::(gd e' 135)::(gd e' 136)::(gd e' 137)::(gd e' 138)::(gd e' 139)::(gd e' 140)::(gd e' 141)::(gd e' 142)::(gd e' 143)::(gd e' 144)::(gd e' 145)::(gd e' 146)::(gd e' 147)::(gd e' 148)::(gd e' 149)::(gd e' 150)::(gd e' 151)::(gd e' 152)::(gd e' 153)::(gd e' 154)::(gd e' 155)::(gd e' 156)::(gd e' 157)::(gd e' 158)::(gd e' 159)::(gd e' 160)::(gd e' 161)::(gd e' 162)::(gd e' 163)::(gd e' 164)::(gd e' 165)::(gd e' 166)::(gd e' 167)::(gd e' 168)::(gd e' 169)::(gd e' 170)::(gd e' 171)::(gd e' 172)::(gd e' 173)::(gd e' 174)::(gd e' 175)::(gd e' 176)::R8::R9::S0::S1::S2::S3::S4::S5::S6::S7::S8::S9::T0::T1::[]) w' := leatlaw26_AuditPlays_L2_k (fun e2 w2 => Inv (gd e2 12) (gd e2 13) (gd e2 168) (gd e2 169) (gd e2 170) (gd e2 173) (gd e2 174) (gd e2 175) w2 ∧ μ (gd e2 12) (gd e2 13) (gd e2 168) (gd e2 169) (gd e2 170) (gd e2 173) (gd e2 174) (gd e2 175) w2 < μ (gd e' 12) (gd e' 13) (gd e' 168) (gd e' 169) (gd e' 170) (gd e' 173) (gd e' 174) (gd e' 175) w') (leatlaw26_AuditPlays_P3 K) (cd Try.f3 [1, 1, 1, 1, 1, 1, 0, 1, 0, 0, 1, 0, 0, 1, 1]) (Eq.mp (by kernel_rfl) h)
  exact Eq.mp (by kernel_rfl) h2

theorem leatlaw26_AuditPlays_P2_k {K : KV} (B1 : KE) (qc0 : KE) {w : World}
    (h : bin Try.prog BinOp.add 3 false true i5 (Value.int IntKind.i64 1) (fun C3 w =>
    B1 (l0::l1::A0::a3::b4::C3::x6::y7::e8::p9::q10::f11::ids12::i13::x14::y15::e16::p17::q18::f19::A1::A2::A3::A4::A5::A6::A7::A8::A9::C0::C1::i5::C3::C4::C5::C6::C7::C8::C9::D0::D1::D2::D3::D4::D5::D6::D7::D8::D9::E0::E1::E2::E3::E4::E5::E6::E7::E8::E9::F0::F1::F2::F3::F4::F5::F6::F7::F8::F9::G0::G1::G2::G3::G4::G5::G6::G7::G8::G9::H0::H1::H2::H3::H4::H5::H6::H7::H8::H9::I0::I1::I2::I3::I4::I5::I6::I7::I8::I9::J0::J1::J2::J3::J4::J5::J6::J7::J8::J9::L0::L1::L2::L3::L4::L5::L6::L7::L8::L9::M0::M1::M2::M3::M4::M5::M6::M7::M8::M9::N0::N1::N2::N3::N4::N5::N6::N7::N8::N9::O0::O1::O2::O3::O4::O5::O6::O7::O8::O9::P0::P1::P2::P3::P4::P5::P6::P7::P8::P9::Q0::Q1::Q2::Q3::Q4::Q5::Q6::Q7::Q8::Q9::R0::R1::R2::R3::R4::R5::R6::R7::R8::R9::S0::S1::S2::S3::S4::S5::S6::S7::S8::S9::T0::T1::[]) w) w) :
    cCode Try.prog (cd Try.f3 [1, 1, 1, 1, 0, 1, 0, 0, 1, 1]) B1 (fun i => @Bool.rec (fun _ => KE) ((fun _ _ _ => False) i) qc0 (Nat.beq i 0)) (retK Try.prog Try.f3.results.toList K) (l0::l1::A0::a3::b4::i5::x6::y7::e8::p9::q10::f11::ids12::i13::x14::y15::e16::p17::q18::f19::A1::A2::A3::A4::A5::A6::A7::A8::A9::C0::C1::C2::C3::C4::C5::C6::C7::C8::C9::D0::D1::D2::D3::D4::D5::D6::D7::D8::D9::E0::E1::E2::E3::E4::E5::E6::E7::E8::E9::F0::F1::F2::F3::F4::F5::F6::F7::F8::F9::G0::G1::G2::G3::G4::G5::G6::G7::G8::G9::H0::H1::H2::H3::H4::H5::H6::H7::H8::H9::I0::I1::I2::I3::I4::I5::I6::I7::I8::I9::J0::J1::J2::J3::J4::J5::J6::J7::J8::J9::L0::L1::L2::L3::L4::L5::L6::L7::L8::L9::M0::M1::M2::M3::M4::M5::M6::M7::M8::M9::N0::N1::N2::N3::N4::N5::N6::N7::N8::N9::O0::O1::O2::O3::O4::O5::O6::O7::O8::O9::P0::P1::P2::P3::P4::P5::P6::P7::P8::P9::Q0::Q1::Q2::Q3::Q4::Q5::Q6::Q7::Q8::Q9::R0::R1::R2::R3::R4::R5::R6::R7::R8::R9::S0::S1::S2::S3::S4::S5::S6::S7::S8::S9::T0::T1::[]) w := Eq.mp (by kernel_rfl) h

theorem leatlaw26_AuditPlays_P2_r {K : KV} {B1 : KE} {w : World}
    (h : bin Try.prog BinOp.add 3 false true i5 (Value.int IntKind.i64 1) (fun C3 w =>
    B1 (l0::l1::A0::a3::b4::C3::x6::y7::e8::p9::q10::f11::ids12::i13::x14::y15::e16::p17::q18::f19::A1::A2::A3::A4::A5::A6::A7::A8::A9::C0::C1::i5::C3::C4::C5::C6::C7::C8::C9::D0::D1::D2::D3::D4::D5::D6::D7::D8::D9::E0::E1::E2::E3::E4::E5::E6::E7::E8::E9::F0::F1::F2::F3::F4::F5::F6::F7::F8::F9::G0::G1::G2::G3::G4::G5::G6::G7::G8::G9::H0::H1::H2::H3::H4::H5::H6::H7::H8::H9::I0::I1::I2::I3::I4::I5::I6::I7::I8::I9::J0::J1::J2::J3::J4::J5::J6::J7::J8::J9::L0::L1::L2::L3::L4::L5::L6::L7::L8::L9::M0::M1::M2::M3::M4::M5::M6::M7::M8::M9::N0::N1::N2::N3::N4::N5::N6::N7::N8::N9::O0::O1::O2::O3::O4::O5::O6::O7::O8::O9::P0::P1::P2::P3::P4::P5::P6::P7::P8::P9::Q0::Q1::Q2::Q3::Q4::Q5::Q6::Q7::Q8::Q9::R0::R1::R2::R3::R4::R5::R6::R7::R8::R9::S0::S1::S2::S3::S4::S5::S6::S7::S8::S9::T0::T1::[]) w) w) :
    leatlaw26_AuditPlays_P2 K B1 (l0::l1::A0::a3::b4::i5::x6::y7::e8::p9::q10::f11::ids12::i13::x14::y15::e16::p17::q18::f19::A1::A2::A3::A4::A5::A6::A7::A8::A9::C0::C1::C2::C3::C4::C5::C6::C7::C8::C9::D0::D1::D2::D3::D4::D5::D6::D7::D8::D9::E0::E1::E2::E3::E4::E5::E6::E7::E8::E9::F0::F1::F2::F3::F4::F5::F6::F7::F8::F9::G0::G1::G2::G3::G4::G5::G6::G7::G8::G9::H0::H1::H2::H3::H4::H5::H6::H7::H8::H9::I0::I1::I2::I3::I4::I5::I6::I7::I8::I9::J0::J1::J2::J3::J4::J5::J6::J7::J8::J9::L0::L1::L2::L3::L4::L5::L6::L7::L8::L9::M0::M1::M2::M3::M4::M5::M6::M7::M8::M9::N0::N1::N2::N3::N4::N5::N6::N7::N8::N9::O0::O1::O2::O3::O4::O5::O6::O7::O8::O9::P0::P1::P2::P3::P4::P5::P6::P7::P8::P9::Q0::Q1::Q2::Q3::Q4::Q5::Q6::Q7::Q8::Q9::R0::R1::R2::R3::R4::R5::R6::R7::R8::R9::S0::S1::S2::S3::S4::S5::S6::S7::S8::S9::T0::T1::[]) w := by
  delta leatlaw26_AuditPlays_P2
  exact Eq.mp (congrArg (fun c => cCode Try.prog c B1 (fun i => @Bool.rec (fun _ => KE) ((fun _ _ _ => False) i) (leatlaw26_AuditPlays_P1 K) (Nat.beq i 0)) (retK Try.prog Try.f3.results.toList K) (l0::l1::A0::a3::b4::i5::x6::y7::e8::p9::q10::f11::ids12::i13::x14::y15::e16::p17::q18::f19::A1::A2::A3::A4::A5::A6::A7::A8::A9::C0::C1::C2::C3::C4::C5::C6::C7::C8::C9::D0::D1::D2::D3::D4::D5::D6::D7::D8::D9::E0::E1::E2::E3::E4::E5::E6::E7::E8::E9::F0::F1::F2::F3::F4::F5::F6::F7::F8::F9::G0::G1::G2::G3::G4::G5::G6::G7::G8::G9::H0::H1::H2::H3::H4::H5::H6::H7::H8::H9::I0::I1::I2::I3::I4::I5::I6::I7::I8::I9::J0::J1::J2::J3::J4::J5::J6::J7::J8::J9::L0::L1::L2::L3::L4::L5::L6::L7::L8::L9::M0::M1::M2::M3::M4::M5::M6::M7::M8::M9::N0::N1::N2::N3::N4::N5::N6::N7::N8::N9::O0::O1::O2::O3::O4::O5::O6::O7::O8::O9::P0::P1::P2::P3::P4::P5::P6::P7::P8::P9::Q0::Q1::Q2::Q3::Q4::Q5::Q6::Q7::Q8::Q9::R0::R1::R2::R3::R4::R5::R6::R7::R8::R9::S0::S1::S2::S3::S4::S5::S6::S7::S8::S9::T0::T1::[]) w) (by kernel_rfl : (cd Try.f3 [1, 1, 1, 1, 0, 1, 0, 0, 1, 1]) = (cd Try.f3 [1, 1, 1, 1, 0, 1, 0, 0, 1, 1]))) (leatlaw26_AuditPlays_P2_k B1 (leatlaw26_AuditPlays_P1 K) h)

theorem leatlaw26_AuditPlays_A3_k {K : KV} (B1 : KE) (qc0 : KE) (qc1 : KE) {w : World}
    (h : nilC b4 (fun P4 w =>
    fldA Try.prog 31 P4 0 (fun P5 w =>
    ld Try.prog 27 P5 (fun P6 w =>
    idxA Try.prog 27 P6 i13 (fun P8 w =>
    fldA Try.prog 49 P8 0 (fun P9 w =>
    ld Try.prog 33 P9 (fun Q0 w =>
    call Try.prog 11 #[b4, Q0] (fun Q1 w =>
    ext Try.prog Q1 0 (fun Q2 w =>
    ext Try.prog Q1 1 (fun Q3 w =>
    ext Try.prog Q1 2 (fun Q4 w =>
    bin Try.prog BinOp.neq 2 false false x14 Q2 (fun Q7 w =>
    gsel Q7 false (fun k168 =>
    bin Try.prog BinOp.neq 2 false false y15 Q3 (fun R1 w =>
    k168 [y15, Q3, R1] w) w)
    (fun k => k [undef, undef, undef] w) (fun us168 w =>
    pick Q7 (Value.bool true) (gd us168 2) (fun R2 w =>
    gsel R2 false (fun k173 =>
    bin Try.prog BinOp.neq 40 false false e16 Q4 (fun R6 w =>
    k173 [e16, Q4, R6] w) w)
    (fun k => k [undef, undef, undef] w) (fun us173 w =>
    pick R2 (Value.bool true) (gd us173 2) (fun R7 w =>
    cond R7
      (K (Value.bool false) w)
      (qc0 (l0::l1::A0::a3::b4::i5::x6::y7::e8::p9::q10::f11::ids12::i13::x14::y15::e16::Q2::Q3::Q4::A1::A2::A3::A4::A5::A6::A7::A8::A9::C0::C1::C2::C3::C4::C5::C6::C7::C8::C9::D0::D1::D2::D3::D4::D5::D6::D7::D8::D9::E0::E1::E2::E3::E4::E5::E6::E7::E8::E9::F0::F1::F2::F3::F4::F5::F6::F7::F8::F9::G0::G1::G2::G3::G4::G5::G6::G7::G8::G9::H0::H1::H2::H3::H4::H5::H6::H7::H8::H9::I0::I1::I2::I3::I4::I5::I6::I7::I8::I9::J0::J1::J2::J3::J4::J5::J6::J7::J8::J9::L0::L1::L2::L3::L4::L5::L6::L7::L8::L9::M0::M1::M2::M3::M4::M5::M6::M7::M8::M9::N0::N1::N2::N3::N4::N5::N6::N7::N8::N9::O0::O1::O2::O3::O4::O5::O6::O7::O8::O9::P0::Q1::b4::b4::P4::P5::P6::i13::P8::P9::Q0::Q1::Q2::Q3::Q4::x14::Q2::Q7::Q7::(gd us168 0)::(gd us168 1)::(gd us168 2)::R2::R2::(gd us173 0)::(gd us173 1)::(gd us173 2)::R7::R8::R9::S0::S1::S2::S3::S4::S5::S6::S7::S8::S9::T0::T1::[]) w)) w)) w)) w) w) w) w) w) w) w) w) w) w) w) :
    cCode Try.prog (cd Try.f3 [1, 1, 1, 1, 1, 1, 0, 1, 0, 0, 1, 0, 0, 1, 1]) qc0 (fun i => @Bool.rec (fun _ => KE) ((fun i => @Bool.rec (fun _ => KE) ((fun _ _ _ => False) i) qc1 (Nat.beq i 2)) i) qc0 (Nat.beq i 3)) (retK Try.prog Try.f3.results.toList K) (l0::l1::A0::a3::b4::i5::x6::y7::e8::p9::q10::f11::ids12::i13::x14::y15::e16::p17::q18::f19::A1::A2::A3::A4::A5::A6::A7::A8::A9::C0::C1::C2::C3::C4::C5::C6::C7::C8::C9::D0::D1::D2::D3::D4::D5::D6::D7::D8::D9::E0::E1::E2::E3::E4::E5::E6::E7::E8::E9::F0::F1::F2::F3::F4::F5::F6::F7::F8::F9::G0::G1::G2::G3::G4::G5::G6::G7::G8::G9::H0::H1::H2::H3::H4::H5::H6::H7::H8::H9::I0::I1::I2::I3::I4::I5::I6::I7::I8::I9::J0::J1::J2::J3::J4::J5::J6::J7::J8::J9::L0::L1::L2::L3::L4::L5::L6::L7::L8::L9::M0::M1::M2::M3::M4::M5::M6::M7::M8::M9::N0::N1::N2::N3::N4::N5::N6::N7::N8::N9::O0::O1::O2::O3::O4::O5::O6::O7::O8::O9::P0::P1::P2::P3::P4::P5::P6::P7::P8::P9::Q0::Q1::Q2::Q3::Q4::Q5::Q6::Q7::Q8::Q9::R0::R1::R2::R3::R4::R5::R6::R7::R8::R9::S0::S1::S2::S3::S4::S5::S6::S7::S8::S9::T0::T1::[]) w := Eq.mp (by kernel_rfl) h

theorem leatlaw26_AuditPlays_A3_r {K : KV} {B1 : KE} {w : World}
    (h : nilC b4 (fun P4 w =>
    fldA Try.prog 31 P4 0 (fun P5 w =>
    ld Try.prog 27 P5 (fun P6 w =>
    idxA Try.prog 27 P6 i13 (fun P8 w =>
    fldA Try.prog 49 P8 0 (fun P9 w =>
    ld Try.prog 33 P9 (fun Q0 w =>
    call Try.prog 11 #[b4, Q0] (fun Q1 w =>
    ext Try.prog Q1 0 (fun Q2 w =>
    ext Try.prog Q1 1 (fun Q3 w =>
    ext Try.prog Q1 2 (fun Q4 w =>
    bin Try.prog BinOp.neq 2 false false x14 Q2 (fun Q7 w =>
    gsel Q7 false (fun k168 =>
    bin Try.prog BinOp.neq 2 false false y15 Q3 (fun R1 w =>
    k168 [y15, Q3, R1] w) w)
    (fun k => k [undef, undef, undef] w) (fun us168 w =>
    pick Q7 (Value.bool true) (gd us168 2) (fun R2 w =>
    gsel R2 false (fun k173 =>
    bin Try.prog BinOp.neq 40 false false e16 Q4 (fun R6 w =>
    k173 [e16, Q4, R6] w) w)
    (fun k => k [undef, undef, undef] w) (fun us173 w =>
    pick R2 (Value.bool true) (gd us173 2) (fun R7 w =>
    cond R7
      (K (Value.bool false) w)
      ((leatlaw26_AuditPlays_P4 K B1) (l0::l1::A0::a3::b4::i5::x6::y7::e8::p9::q10::f11::ids12::i13::x14::y15::e16::Q2::Q3::Q4::A1::A2::A3::A4::A5::A6::A7::A8::A9::C0::C1::C2::C3::C4::C5::C6::C7::C8::C9::D0::D1::D2::D3::D4::D5::D6::D7::D8::D9::E0::E1::E2::E3::E4::E5::E6::E7::E8::E9::F0::F1::F2::F3::F4::F5::F6::F7::F8::F9::G0::G1::G2::G3::G4::G5::G6::G7::G8::G9::H0::H1::H2::H3::H4::H5::H6::H7::H8::H9::I0::I1::I2::I3::I4::I5::I6::I7::I8::I9::J0::J1::J2::J3::J4::J5::J6::J7::J8::J9::L0::L1::L2::L3::L4::L5::L6::L7::L8::L9::M0::M1::M2::M3::M4::M5::M6::M7::M8::M9::N0::N1::N2::N3::N4::N5::N6::N7::N8::N9::O0::O1::O2::O3::O4::O5::O6::O7::O8::O9::P0::Q1::b4::b4::P4::P5::P6::i13::P8::P9::Q0::Q1::Q2::Q3::Q4::x14::Q2::Q7::Q7::(gd us168 0)::(gd us168 1)::(gd us168 2)::R2::R2::(gd us173 0)::(gd us173 1)::(gd us173 2)::R7::R8::R9::S0::S1::S2::S3::S4::S5::S6::S7::S8::S9::T0::T1::[]) w)) w)) w)) w) w) w) w) w) w) w) w) w) w) w) :
    leatlaw26_AuditPlays_A3 K B1 (l0::l1::A0::a3::b4::i5::x6::y7::e8::p9::q10::f11::ids12::i13::x14::y15::e16::p17::q18::f19::A1::A2::A3::A4::A5::A6::A7::A8::A9::C0::C1::C2::C3::C4::C5::C6::C7::C8::C9::D0::D1::D2::D3::D4::D5::D6::D7::D8::D9::E0::E1::E2::E3::E4::E5::E6::E7::E8::E9::F0::F1::F2::F3::F4::F5::F6::F7::F8::F9::G0::G1::G2::G3::G4::G5::G6::G7::G8::G9::H0::H1::H2::H3::H4::H5::H6::H7::H8::H9::I0::I1::I2::I3::I4::I5::I6::I7::I8::I9::J0::J1::J2::J3::J4::J5::J6::J7::J8::J9::L0::L1::L2::L3::L4::L5::L6::L7::L8::L9::M0::M1::M2::M3::M4::M5::M6::M7::M8::M9::N0::N1::N2::N3::N4::N5::N6::N7::N8::N9::O0::O1::O2::O3::O4::O5::O6::O7::O8::O9::P0::P1::P2::P3::P4::P5::P6::P7::P8::P9::Q0::Q1::Q2::Q3::Q4::Q5::Q6::Q7::Q8::Q9::R0::R1::R2::R3::R4::R5::R6::R7::R8::R9::S0::S1::S2::S3::S4::S5::S6::S7::S8::S9::T0::T1::[]) w := by
  delta leatlaw26_AuditPlays_A3
  exact Eq.mp (congrArg (fun c => cCode Try.prog c (leatlaw26_AuditPlays_P4 K B1) (fun i => @Bool.rec (fun _ => KE) ((fun i => @Bool.rec (fun _ => KE) ((fun _ _ _ => False) i) (leatlaw26_AuditPlays_P3 K) (Nat.beq i 2)) i) (leatlaw26_AuditPlays_P4 K B1) (Nat.beq i 3)) (retK Try.prog Try.f3.results.toList K) (l0::l1::A0::a3::b4::i5::x6::y7::e8::p9::q10::f11::ids12::i13::x14::y15::e16::p17::q18::f19::A1::A2::A3::A4::A5::A6::A7::A8::A9::C0::C1::C2::C3::C4::C5::C6::C7::C8::C9::D0::D1::D2::D3::D4::D5::D6::D7::D8::D9::E0::E1::E2::E3::E4::E5::E6::E7::E8::E9::F0::F1::F2::F3::F4::F5::F6::F7::F8::F9::G0::G1::G2::G3::G4::G5::G6::G7::G8::G9::H0::H1::H2::H3::H4::H5::H6::H7::H8::H9::I0::I1::I2::I3::I4::I5::I6::I7::I8::I9::J0::J1::J2::J3::J4::J5::J6::J7::J8::J9::L0::L1::L2::L3::L4::L5::L6::L7::L8::L9::M0::M1::M2::M3::M4::M5::M6::M7::M8::M9::N0::N1::N2::N3::N4::N5::N6::N7::N8::N9::O0::O1::O2::O3::O4::O5::O6::O7::O8::O9::P0::P1::P2::P3::P4::P5::P6::P7::P8::P9::Q0::Q1::Q2::Q3::Q4::Q5::Q6::Q7::Q8::Q9::R0::R1::R2::R3::R4::R5::R6::R7::R8::R9::S0::S1::S2::S3::S4::S5::S6::S7::S8::S9::T0::T1::[]) w) (by kernel_rfl : (cd Try.f3 [1, 1, 1, 1, 1, 1, 0, 1, 0, 0, 1, 0, 0, 1, 1]) = (cd Try.f3 [1, 1, 1, 1, 1, 1, 0, 1, 0, 0, 1, 0, 0, 1, 1]))) (leatlaw26_AuditPlays_A3_k B1 (leatlaw26_AuditPlays_P4 K B1) (leatlaw26_AuditPlays_P3 K) h)

theorem leatlaw26_AuditPlays_P3_k {K : KV} {w : World}
    (h : call Try.prog 15 #[a3] (fun R9 w =>
    call Try.prog 14 #[R9, ids12] (fun S1 w =>
    gsel S1 true (fun k182 =>
    call Try.prog 12 #[a3] (fun S4 w =>
    call Try.prog 13 #[b4] (fun S6 w =>
    bin Try.prog BinOp.eql 4 false false S4 S6 (fun S7 w =>
    k182 [a3, S4, b4, S6, S7] w) w) w) w)
    (fun k => k [undef, undef, undef, undef, undef] w) (fun us182 w =>
    pick S1 (gd us182 4) (Value.bool false) (fun S8 w =>
    gsel S8 true (fun k189 =>
    call Try.prog 6 #[] (fun T0 w =>
    k189 [T0] w) w)
    (fun k => k [undef] w) (fun us189 w =>
    pick S8 (gd us189 0) (Value.bool false) (fun T1 w =>
    K T1 w) w)) w)) w) w) :
    cCode Try.prog (cd Try.f3 [1, 1, 1, 1, 1, 1, 1]) (retK Try.prog Try.f3.results.toList K) (fun _ _ _ => False) (retK Try.prog Try.f3.results.toList K) (l0::l1::A0::a3::b4::i5::x6::y7::e8::p9::q10::f11::ids12::i13::x14::y15::e16::p17::q18::f19::A1::A2::A3::A4::A5::A6::A7::A8::A9::C0::C1::C2::C3::C4::C5::C6::C7::C8::C9::D0::D1::D2::D3::D4::D5::D6::D7::D8::D9::E0::E1::E2::E3::E4::E5::E6::E7::E8::E9::F0::F1::F2::F3::F4::F5::F6::F7::F8::F9::G0::G1::G2::G3::G4::G5::G6::G7::G8::G9::H0::H1::H2::H3::H4::H5::H6::H7::H8::H9::I0::I1::I2::I3::I4::I5::I6::I7::I8::I9::J0::J1::J2::J3::J4::J5::J6::J7::J8::J9::L0::L1::L2::L3::L4::L5::L6::L7::L8::L9::M0::M1::M2::M3::M4::M5::M6::M7::M8::M9::N0::N1::N2::N3::N4::N5::N6::N7::N8::N9::O0::O1::O2::O3::O4::O5::O6::O7::O8::O9::P0::P1::P2::P3::P4::P5::P6::P7::P8::P9::Q0::Q1::Q2::Q3::Q4::Q5::Q6::Q7::Q8::Q9::R0::R1::R2::R3::R4::R5::R6::R7::R8::R9::S0::S1::S2::S3::S4::S5::S6::S7::S8::S9::T0::T1::[]) w := Eq.mp (by kernel_rfl) h

theorem leatlaw26_AuditPlays_P3_r {K : KV} {w : World}
    (h : call Try.prog 15 #[a3] (fun R9 w =>
    call Try.prog 14 #[R9, ids12] (fun S1 w =>
    gsel S1 true (fun k182 =>
    call Try.prog 12 #[a3] (fun S4 w =>
    call Try.prog 13 #[b4] (fun S6 w =>
    bin Try.prog BinOp.eql 4 false false S4 S6 (fun S7 w =>
    k182 [a3, S4, b4, S6, S7] w) w) w) w)
    (fun k => k [undef, undef, undef, undef, undef] w) (fun us182 w =>
    pick S1 (gd us182 4) (Value.bool false) (fun S8 w =>
    gsel S8 true (fun k189 =>
    call Try.prog 6 #[] (fun T0 w =>
    k189 [T0] w) w)
    (fun k => k [undef] w) (fun us189 w =>
    pick S8 (gd us189 0) (Value.bool false) (fun T1 w =>
    K T1 w) w)) w)) w) w) :
    leatlaw26_AuditPlays_P3 K (l0::l1::A0::a3::b4::i5::x6::y7::e8::p9::q10::f11::ids12::i13::x14::y15::e16::p17::q18::f19::A1::A2::A3::A4::A5::A6::A7::A8::A9::C0::C1::C2::C3::C4::C5::C6::C7::C8::C9::D0::D1::D2::D3::D4::D5::D6::D7::D8::D9::E0::E1::E2::E3::E4::E5::E6::E7::E8::E9::F0::F1::F2::F3::F4::F5::F6::F7::F8::F9::G0::G1::G2::G3::G4::G5::G6::G7::G8::G9::H0::H1::H2::H3::H4::H5::H6::H7::H8::H9::I0::I1::I2::I3::I4::I5::I6::I7::I8::I9::J0::J1::J2::J3::J4::J5::J6::J7::J8::J9::L0::L1::L2::L3::L4::L5::L6::L7::L8::L9::M0::M1::M2::M3::M4::M5::M6::M7::M8::M9::N0::N1::N2::N3::N4::N5::N6::N7::N8::N9::O0::O1::O2::O3::O4::O5::O6::O7::O8::O9::P0::P1::P2::P3::P4::P5::P6::P7::P8::P9::Q0::Q1::Q2::Q3::Q4::Q5::Q6::Q7::Q8::Q9::R0::R1::R2::R3::R4::R5::R6::R7::R8::R9::S0::S1::S2::S3::S4::S5::S6::S7::S8::S9::T0::T1::[]) w := by
  delta leatlaw26_AuditPlays_P3
  exact Eq.mp (congrArg (fun c => cCode Try.prog c (retK Try.prog Try.f3.results.toList K) (fun _ _ _ => False) (retK Try.prog Try.f3.results.toList K) (l0::l1::A0::a3::b4::i5::x6::y7::e8::p9::q10::f11::ids12::i13::x14::y15::e16::p17::q18::f19::A1::A2::A3::A4::A5::A6::A7::A8::A9::C0::C1::C2::C3::C4::C5::C6::C7::C8::C9::D0::D1::D2::D3::D4::D5::D6::D7::D8::D9::E0::E1::E2::E3::E4::E5::E6::E7::E8::E9::F0::F1::F2::F3::F4::F5::F6::F7::F8::F9::G0::G1::G2::G3::G4::G5::G6::G7::G8::G9::H0::H1::H2::H3::H4::H5::H6::H7::H8::H9::I0::I1::I2::I3::I4::I5::I6::I7::I8::I9::J0::J1::J2::J3::J4::J5::J6::J7::J8::J9::L0::L1::L2::L3::L4::L5::L6::L7::L8::L9::M0::M1::M2::M3::M4::M5::M6::M7::M8::M9::N0::N1::N2::N3::N4::N5::N6::N7::N8::N9::O0::O1::O2::O3::O4::O5::O6::O7::O8::O9::P0::P1::P2::P3::P4::P5::P6::P7::P8::P9::Q0::Q1::Q2::Q3::Q4::Q5::Q6::Q7::Q8::Q9::R0::R1::R2::R3::R4::R5::R6::R7::R8::R9::S0::S1::S2::S3::S4::S5::S6::S7::S8::S9::T0::T1::[]) w) (by kernel_rfl : (cd Try.f3 [1, 1, 1, 1, 1, 1, 1]) = (cd Try.f3 [1, 1, 1, 1, 1, 1, 1]))) (leatlaw26_AuditPlays_P3_k h)

theorem leatlaw26_AuditPlays_P4_k {K : KV} (B1 : KE) (qc0 : KE) {w : World}
    (h : bin Try.prog BinOp.add 3 false true i13 (Value.int IntKind.i64 1) (fun M5 w =>
    B1 (l0::l1::A0::a3::b4::i5::x6::y7::e8::p9::q10::f11::ids12::M5::x14::y15::e16::p17::q18::f19::A1::A2::A3::A4::A5::A6::A7::A8::A9::C0::C1::C2::C3::C4::C5::C6::C7::C8::C9::D0::D1::D2::D3::D4::D5::D6::D7::D8::D9::E0::E1::E2::E3::E4::E5::E6::E7::E8::E9::F0::F1::F2::F3::F4::F5::F6::F7::F8::F9::G0::G1::G2::G3::G4::G5::G6::G7::G8::G9::H0::H1::H2::H3::H4::H5::H6::H7::H8::H9::I0::I1::I2::I3::I4::I5::I6::I7::I8::I9::J0::J1::J2::J3::J4::J5::J6::J7::J8::J9::L0::L1::L2::L3::L4::L5::L6::L7::L8::L9::M0::M1::M2::M3::i13::M5::M6::M7::M8::M9::N0::N1::N2::N3::N4::N5::N6::N7::N8::N9::O0::O1::O2::O3::O4::O5::O6::O7::O8::O9::P0::P1::P2::P3::P4::P5::P6::P7::P8::P9::Q0::Q1::Q2::Q3::Q4::Q5::Q6::Q7::Q8::Q9::R0::R1::R2::R3::R4::R5::R6::R7::R8::R9::S0::S1::S2::S3::S4::S5::S6::S7::S8::S9::T0::T1::[]) w) w) :
    cCode Try.prog (cd Try.f3 [1, 1, 1, 1, 1, 1, 0, 1, 0, 0, 1, 1]) B1 (fun i => @Bool.rec (fun _ => KE) ((fun _ _ _ => False) i) qc0 (Nat.beq i 2)) (retK Try.prog Try.f3.results.toList K) (l0::l1::A0::a3::b4::i5::x6::y7::e8::p9::q10::f11::ids12::i13::x14::y15::e16::p17::q18::f19::A1::A2::A3::A4::A5::A6::A7::A8::A9::C0::C1::C2::C3::C4::C5::C6::C7::C8::C9::D0::D1::D2::D3::D4::D5::D6::D7::D8::D9::E0::E1::E2::E3::E4::E5::E6::E7::E8::E9::F0::F1::F2::F3::F4::F5::F6::F7::F8::F9::G0::G1::G2::G3::G4::G5::G6::G7::G8::G9::H0::H1::H2::H3::H4::H5::H6::H7::H8::H9::I0::I1::I2::I3::I4::I5::I6::I7::I8::I9::J0::J1::J2::J3::J4::J5::J6::J7::J8::J9::L0::L1::L2::L3::L4::L5::L6::L7::L8::L9::M0::M1::M2::M3::M4::M5::M6::M7::M8::M9::N0::N1::N2::N3::N4::N5::N6::N7::N8::N9::O0::O1::O2::O3::O4::O5::O6::O7::O8::O9::P0::P1::P2::P3::P4::P5::P6::P7::P8::P9::Q0::Q1::Q2::Q3::Q4::Q5::Q6::Q7::Q8::Q9::R0::R1::R2::R3::R4::R5::R6::R7::R8::R9::S0::S1::S2::S3::S4::S5::S6::S7::S8::S9::T0::T1::[]) w := Eq.mp (by kernel_rfl) h

theorem leatlaw26_AuditPlays_P4_r {K : KV} {B1 : KE} {w : World}
    (h : bin Try.prog BinOp.add 3 false true i13 (Value.int IntKind.i64 1) (fun M5 w =>
    B1 (l0::l1::A0::a3::b4::i5::x6::y7::e8::p9::q10::f11::ids12::M5::x14::y15::e16::p17::q18::f19::A1::A2::A3::A4::A5::A6::A7::A8::A9::C0::C1::C2::C3::C4::C5::C6::C7::C8::C9::D0::D1::D2::D3::D4::D5::D6::D7::D8::D9::E0::E1::E2::E3::E4::E5::E6::E7::E8::E9::F0::F1::F2::F3::F4::F5::F6::F7::F8::F9::G0::G1::G2::G3::G4::G5::G6::G7::G8::G9::H0::H1::H2::H3::H4::H5::H6::H7::H8::H9::I0::I1::I2::I3::I4::I5::I6::I7::I8::I9::J0::J1::J2::J3::J4::J5::J6::J7::J8::J9::L0::L1::L2::L3::L4::L5::L6::L7::L8::L9::M0::M1::M2::M3::i13::M5::M6::M7::M8::M9::N0::N1::N2::N3::N4::N5::N6::N7::N8::N9::O0::O1::O2::O3::O4::O5::O6::O7::O8::O9::P0::P1::P2::P3::P4::P5::P6::P7::P8::P9::Q0::Q1::Q2::Q3::Q4::Q5::Q6::Q7::Q8::Q9::R0::R1::R2::R3::R4::R5::R6::R7::R8::R9::S0::S1::S2::S3::S4::S5::S6::S7::S8::S9::T0::T1::[]) w) w) :
    leatlaw26_AuditPlays_P4 K B1 (l0::l1::A0::a3::b4::i5::x6::y7::e8::p9::q10::f11::ids12::i13::x14::y15::e16::p17::q18::f19::A1::A2::A3::A4::A5::A6::A7::A8::A9::C0::C1::C2::C3::C4::C5::C6::C7::C8::C9::D0::D1::D2::D3::D4::D5::D6::D7::D8::D9::E0::E1::E2::E3::E4::E5::E6::E7::E8::E9::F0::F1::F2::F3::F4::F5::F6::F7::F8::F9::G0::G1::G2::G3::G4::G5::G6::G7::G8::G9::H0::H1::H2::H3::H4::H5::H6::H7::H8::H9::I0::I1::I2::I3::I4::I5::I6::I7::I8::I9::J0::J1::J2::J3::J4::J5::J6::J7::J8::J9::L0::L1::L2::L3::L4::L5::L6::L7::L8::L9::M0::M1::M2::M3::M4::M5::M6::M7::M8::M9::N0::N1::N2::N3::N4::N5::N6::N7::N8::N9::O0::O1::O2::O3::O4::O5::O6::O7::O8::O9::P0::P1::P2::P3::P4::P5::P6::P7::P8::P9::Q0::Q1::Q2::Q3::Q4::Q5::Q6::Q7::Q8::Q9::R0::R1::R2::R3::R4::R5::R6::R7::R8::R9::S0::S1::S2::S3::S4::S5::S6::S7::S8::S9::T0::T1::[]) w := by
  delta leatlaw26_AuditPlays_P4
  exact Eq.mp (congrArg (fun c => cCode Try.prog c B1 (fun i => @Bool.rec (fun _ => KE) ((fun _ _ _ => False) i) (leatlaw26_AuditPlays_P3 K) (Nat.beq i 2)) (retK Try.prog Try.f3.results.toList K) (l0::l1::A0::a3::b4::i5::x6::y7::e8::p9::q10::f11::ids12::i13::x14::y15::e16::p17::q18::f19::A1::A2::A3::A4::A5::A6::A7::A8::A9::C0::C1::C2::C3::C4::C5::C6::C7::C8::C9::D0::D1::D2::D3::D4::D5::D6::D7::D8::D9::E0::E1::E2::E3::E4::E5::E6::E7::E8::E9::F0::F1::F2::F3::F4::F5::F6::F7::F8::F9::G0::G1::G2::G3::G4::G5::G6::G7::G8::G9::H0::H1::H2::H3::H4::H5::H6::H7::H8::H9::I0::I1::I2::I3::I4::I5::I6::I7::I8::I9::J0::J1::J2::J3::J4::J5::J6::J7::J8::J9::L0::L1::L2::L3::L4::L5::L6::L7::L8::L9::M0::M1::M2::M3::M4::M5::M6::M7::M8::M9::N0::N1::N2::N3::N4::N5::N6::N7::N8::N9::O0::O1::O2::O3::O4::O5::O6::O7::O8::O9::P0::P1::P2::P3::P4::P5::P6::P7::P8::P9::Q0::Q1::Q2::Q3::Q4::Q5::Q6::Q7::Q8::Q9::R0::R1::R2::R3::R4::R5::R6::R7::R8::R9::S0::S1::S2::S3::S4::S5::S6::S7::S8::S9::T0::T1::[]) w) (by kernel_rfl : (cd Try.f3 [1, 1, 1, 1, 1, 1, 0, 1, 0, 0, 1, 1]) = (cd Try.f3 [1, 1, 1, 1, 1, 1, 0, 1, 0, 0, 1, 1]))) (leatlaw26_AuditPlays_P4_k B1 (leatlaw26_AuditPlays_P3 K) h)
attribute [irreducible] leatlaw26_AuditPlays_P1 leatlaw26_AuditPlays_L1 leatlaw26_AuditPlays_P2 leatlaw26_AuditPlays_A1 leatlaw26_AuditPlays_A2 leatlaw26_AuditPlays_P3 leatlaw26_AuditPlays_L2 leatlaw26_AuditPlays_P4 leatlaw26_AuditPlays_A3

end
end Go.Proofs.Ytcieejlkdfdpiaa
