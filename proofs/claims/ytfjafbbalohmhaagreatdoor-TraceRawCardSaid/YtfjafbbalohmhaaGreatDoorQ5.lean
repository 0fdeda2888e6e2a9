/- Laid together: SR29b R29f TrcA R29g R29h Wk Upt Store SLTra. -/
import Derived.Test.YtfjafbbalohmhaaGreatDoorSh
import Derived.Test.YtfjafbbalohmhaaGreatDoorChecked
import Derived.Test.YtfjafbbalohmhaaGreatDoorQ3
import Derived.Test.YtfjafbbalohmhaaGreatDoorQ4
import Derived.Test.YtfjafbbalohmhaaGreatDoorQ1
import Derived.Test.YtfjafbbalohmhaaGreatDoorQ2
namespace Go.Proofs.YtfjafbbalohmhaaGreatDoor
open Go.RowKit
set_option maxRecDepth 100000

def leatref29_Steps_P1 (K : KV) : KE := cCode Tryz.prog (cd Tryz.f16 [1, 1, 1, 1, 1, 1]) (retK Tryz.prog Tryz.f16.results.toList K) (fun _ _ _ => False) (retK Tryz.prog Tryz.f16.results.toList K)
def leatref29_Steps_L1 (K : KV) : KE := cCode Tryz.prog (cd Tryz.f16 [1, 1, 1, 1, 1, 0, 0]) (leatref29_Steps_P1 K) (fun i => @Bool.rec (fun _ => KE) ((fun _ _ _ => False) i) (leatref29_Steps_P1 K) (Nat.beq i 0)) (retK Tryz.prog Tryz.f16.results.toList K)
def leatref29_Steps_A1 (K : KV) (B1 : KE) : KE := cCode Tryz.prog (cd Tryz.f16 [1, 1, 1, 1, 1, 0, 0, 0, 1, 0, 1, 1, 1]) B1 (fun i => @Bool.rec (fun _ => KE) ((fun i => @Bool.rec (fun _ => KE) ((fun _ _ _ => False) i) (leatref29_Steps_P1 K) (Nat.beq i 0)) i) B1 (Nat.beq i 1)) (retK Tryz.prog Tryz.f16.results.toList K)
theorem leatref29_Steps_k {K : KV} {b0 : Value} {w : World}
    (h : bld Tryz.prog 80 #[(0, b0)] (fun A7 w =>
    box Tryz.prog 80 A7 (fun A8 w =>
    call Tryz.prog 31 #[A8, (Value.int IntKind.i64 1)] (fun C0 w =>
    conv Tryz.prog 22 3 C0 (fun C1 w =>
    nilC A8 (fun C3 w =>
    fldA Tryz.prog 80 C3 2 (fun C4 w =>
    ld Tryz.prog 4 C4 (fun C5 w =>
    gsel C5 false (fun k22 =>
    bin Tryz.prog BinOp.lss 3 false true C1 (Value.int IntKind.i64 1) (fun C8 w =>
    k22 [C1, C8] w) w)
    (fun k => k [undef, undef] w) (fun us22 w =>
    pick C5 (Value.bool true) (gd us22 1) (fun C9 w =>
    gsel C9 false (fun k26 =>
    bin Tryz.prog BinOp.gtr 3 false true C1 (Value.int IntKind.i64 6) (fun D2 w =>
    k26 [C1, D2] w) w)
    (fun k => k [undef, undef] w) (fun us26 w =>
    pick C9 (Value.bool true) (gd us26 1) (fun D3 w =>
    cond D3
      (K (Value.tuple #[(Value.int IntKind.i64 0), (Value.slice none 0 0), (Value.int IntKind.i64 5)]) w)
      ((cCode Tryz.prog (cd Tryz.f16 [1, 1, 1, 1, 1, 0, 0]) (cCode Tryz.prog (cd Tryz.f16 [1, 1, 1, 1, 1, 1]) (retK Tryz.prog Tryz.f16.results.toList K) (fun _ _ _ => False) (retK Tryz.prog Tryz.f16.results.toList K)) (fun i => @Bool.rec (fun _ => KE) ((fun _ _ _ => False) i) (cCode Tryz.prog (cd Tryz.f16 [1, 1, 1, 1, 1, 1]) (retK Tryz.prog Tryz.f16.results.toList K) (fun _ _ _ => False) (retK Tryz.prog Tryz.f16.results.toList K)) (Nat.beq i 0)) (retK Tryz.prog Tryz.f16.results.toList K)) (b0::undef::(Value.int IntKind.i64 0)::(Value.slice none 0 0)::(Value.int IntKind.i64 0)::A8::C1::(Value.slice none 0 0)::undef::undef::undef::b0::A7::A8::A8::C0::C1::A8::C3::C4::C5::C5::(gd us22 0)::(gd us22 1)::C9::C9::(gd us26 0)::(gd us26 1)::D3::undef::undef::undef::undef::undef::undef::undef::undef::undef::undef::undef::undef::undef::undef::undef::undef::undef::undef::undef::undef::undef::undef::undef::undef::undef::undef::undef::undef::undef::undef::undef::undef::undef::undef::undef::undef::undef::undef::undef::undef::undef::undef::undef::undef::undef::undef::undef::undef::undef::undef::undef::undef::undef::undef::undef::undef::undef::undef::undef::undef::undef::undef::[]) w)) w)) w)) w) w) w) w) w) w) w) :
    cCode Tryz.prog (cd Tryz.f16 []) (retK Tryz.prog Tryz.f16.results.toList K) (fun _ _ _ => False) (retK Tryz.prog Tryz.f16.results.toList K) (b0::undef::undef::undef::undef::undef::undef::undef::undef::undef::undef::undef::undef::undef::undef::undef::undef::undef::undef::undef::undef::undef::undef::undef::undef::undef::undef::undef::undef::undef::undef::undef::undef::undef::undef::undef::undef::undef::undef::undef::undef::undef::undef::undef::undef::undef::undef::undef::undef::undef::undef::undef::undef::undef::undef::undef::undef::undef::undef::undef::undef::undef::undef::undef::undef::undef::undef::undef::undef::undef::undef::undef::undef::undef::undef::undef::undef::undef::undef::undef::undef::undef::undef::undef::undef::undef::undef::undef::undef::undef::undef::[]) w := Eq.mp (by kernel_rfl) h

theorem leatref29_Steps_in {K : KV} {b0 : Value} {w : World}
    (h : bld Tryz.prog 80 #[(0, b0)] (fun A7 w =>
    box Tryz.prog 80 A7 (fun A8 w =>
    call Tryz.prog 31 #[A8, (Value.int IntKind.i64 1)] (fun C0 w =>
    conv Tryz.prog 22 3 C0 (fun C1 w =>
    nilC A8 (fun C3 w =>
    fldA Tryz.prog 80 C3 2 (fun C4 w =>
    ld Tryz.prog 4 C4 (fun C5 w =>
    gsel C5 false (fun k22 =>
    bin Tryz.prog BinOp.lss 3 false true C1 (Value.int IntKind.i64 1) (fun C8 w =>
    k22 [C1, C8] w) w)
    (fun k => k [undef, undef] w) (fun us22 w =>
    pick C5 (Value.bool true) (gd us22 1) (fun C9 w =>
    gsel C9 false (fun k26 =>
    bin Tryz.prog BinOp.gtr 3 false true C1 (Value.int IntKind.i64 6) (fun D2 w =>
    k26 [C1, D2] w) w)
    (fun k => k [undef, undef] w) (fun us26 w =>
    pick C9 (Value.bool true) (gd us26 1) (fun D3 w =>
    cond D3
      (K (Value.tuple #[(Value.int IntKind.i64 0), (Value.slice none 0 0), (Value.int IntKind.i64 5)]) w)
      ((leatref29_Steps_L1 K) (b0::undef::(Value.int IntKind.i64 0)::(Value.slice none 0 0)::(Value.int IntKind.i64 0)::A8::C1::(Value.slice none 0 0)::undef::undef::undef::b0::A7::A8::A8::C0::C1::A8::C3::C4::C5::C5::(gd us22 0)::(gd us22 1)::C9::C9::(gd us26 0)::(gd us26 1)::D3::undef::undef::undef::undef::undef::undef::undef::undef::undef::undef::undef::undef::undef::undef::undef::undef::undef::undef::undef::undef::undef::undef::undef::undef::undef::undef::undef::undef::undef::undef::undef::undef::undef::undef::undef::undef::undef::undef::undef::undef::undef::undef::undef::undef::undef::undef::undef::undef::undef::undef::undef::undef::undef::undef::undef::undef::undef::undef::undef::undef::undef::undef::[]) w)) w)) w)) w) w) w) w) w) w) w) :
    Gives Tryz.prog 16 #[b0] w K := enter' Tryz.func16 (by kernel_rfl) (Eq.mp (congrArg (fun c => cCode Tryz.prog c (retK Tryz.prog Tryz.f16.results.toList K) (fun _ _ _ => False) (retK Tryz.prog Tryz.f16.results.toList K) (b0::undef::undef::undef::undef::undef::undef::undef::undef::undef::undef::undef::undef::undef::undef::undef::undef::undef::undef::undef::undef::undef::undef::undef::undef::undef::undef::undef::undef::undef::undef::undef::undef::undef::undef::undef::undef::undef::undef::undef::undef::undef::undef::undef::undef::undef::undef::undef::undef::undef::undef::undef::undef::undef::undef::undef::undef::undef::undef::undef::undef::undef::undef::undef::undef::undef::undef::undef::undef::undef::undef::undef::undef::undef::undef::undef::undef::undef::undef::undef::undef::undef::undef::undef::undef::undef::undef::undef::undef::undef::undef::[]) w) (by kernel_rfl : (cd Tryz.f16 []) = (cd Tryz.f16 []))) (leatref29_Steps_k h))
theorem leatref29_Steps_go : isGo Tryz.prog 16 := ⟨_, Tryz.func16, by kernel_rfl, by kernel_rfl⟩

theorem leatref29_Steps_L1_k {K : KV} (B1 : KE) (qc0 : KE) (xc0 : Code) {b0 b1 r5 n6 out7' A6 A7 A8 A9 C0 C1 C2 C3 C4 C5 C6 C7 C8 C9 D0 D1 D2 D3 E9' F0' F1' F2' F3' F4' F5' F6' F7' G0' G1' G2' J4 J5 : Value} {dd : Nat → Value} {w : World}
    (h : nilC r5 (fun D5 w =>
    fldA Tryz.prog 80 D5 1 (fun D6 w =>
    ld Tryz.prog 3 D6 (fun D7 w =>
    blt Tryz.prog Builtin.len #[28] 3 #[false] #[b0] (fun D9 w =>
    bin Tryz.prog BinOp.lss 3 false false D7 D9 (fun E0 w =>
    cond E0
      (call Tryz.prog 31 #[r5, (Value.int IntKind.i64 2)] (fun E2 w =>
    conv Tryz.prog 22 3 E2 (fun E3 w =>
    nilC r5 (fun E5 w =>
    fldA Tryz.prog 80 E5 2 (fun E6 w =>
    ld Tryz.prog 4 E6 (fun E7 w =>
    gsel E7 false (fun k44 =>
    nilC r5 (fun F0 w =>
    fldA Tryz.prog 80 F0 1 (fun F1 w =>
    ld Tryz.prog 3 F1 (fun F2 w =>
    bin Tryz.prog BinOp.add 3 false false F2 E3 (fun F4 w =>
    blt Tryz.prog Builtin.len #[28] 3 #[false] #[b0] (fun F6 w =>
    bin Tryz.prog BinOp.gtr 3 false false F4 F6 (fun F7 w =>
    k44 [r5, F0, F1, F2, E3, F4, b0, F6, F7] w) w) w) w) w) w) w)
    (fun k => k [undef, undef, undef, undef, undef, undef, undef, undef, undef] w) (fun us44 w =>
    pick E7 (Value.bool true) (gd us44 8) (fun F8 w =>
    gsel F8 false (fun k55 =>
    blt Tryz.prog Builtin.len #[40] 3 #[false] #[out7'] (fun G1 w =>
    bin Tryz.prog BinOp.geq 3 false true G1 (Value.int IntKind.i64 65536) (fun G2 w =>
    k55 [out7', G1, G2] w) w) w)
    (fun k => k [undef, undef, undef] w) (fun us55 w =>
    pick F8 (Value.bool true) (gd us55 2) (fun G3 w =>
    cond G3
      (K (Value.tuple #[(Value.int IntKind.i64 0), (Value.slice none 0 0), (Value.int IntKind.i64 5)]) w)
      (hReg (fun S w =>
    hld S (fun k w => nilC r5 k w) (fun G7 =>
    hld S (fun k w => fldA Tryz.prog 80 G7 1 k w) (fun G8 =>
    hld S (fun k w => ld Tryz.prog 3 G8 k w) (fun G9 =>
    hld S (fun k w => nilC r5 k w) (fun H1 =>
    hld S (fun k w => fldA Tryz.prog 80 H1 1 k w) (fun H2 =>
    hld S (fun k w => ld Tryz.prog 3 H2 k w) (fun H3 =>
    hld (fun _ => True) (fun k w => bin Tryz.prog BinOp.add 3 false false H3 E3 k w) (fun H5 =>
    hld S (fun k w => slc Tryz.prog 28 b0 (some G9) (some H5) none k w) (fun H6 =>
    (call Tryz.prog 13 #[H6] (fun H7 w =>
    hReg (fun S w =>
    hld S (fun k w => ext Tryz.prog H7 0 k w) (fun H8 =>
    hld S (fun k w => ext Tryz.prog H7 1 k w) (fun H9 =>
    alc Tryz.prog 27 (fun s9 w =>
    hSub S (fun S w =>
    sto Tryz.prog 27 s9 H8 (fun _t w =>
    hSub S (fun S w =>
    (cCode Tryz.prog xc0 B1 (fun i => @Bool.rec (fun _ => KE) ((fun i => @Bool.rec (fun _ => KE) ((fun _ _ _ => False) i) qc0 (Nat.beq i 0)) i) B1 (Nat.beq i 1)) (retK Tryz.prog Tryz.f16.results.toList K)) (b0::b1::(dd 2)::(dd 3)::(dd 4)::r5::n6::out7'::E3::s9::H9::A6::A7::A8::A9::C0::C1::C2::C3::C4::C5::C6::C7::C8::C9::D0::D1::D2::D3::r5::D5::D6::D7::b0::D9::E0::r5::E2::E3::r5::E5::E6::E7::E7::(gd us44 0)::(gd us44 1)::(gd us44 2)::(gd us44 3)::(gd us44 4)::(gd us44 5)::(gd us44 6)::(gd us44 7)::(gd us44 8)::F8::F8::(gd us55 0)::(gd us55 1)::(gd us55 2)::G3::H7::b0::r5::G7::G8::G9::r5::H1::H2::H3::E3::H5::H6::H7::H8::H9::(dd 75)::(dd 76)::(dd 77)::(dd 78)::(dd 79)::(dd 80)::(dd 81)::(dd 82)::(dd 83)::(dd 84)::(dd 85)::(dd 86)::(dd 87)::(dd 88)::J4::J5::[]) w) w) w) w) w))) w) w) ∧ (alc Tryz.prog 27 (fun s9 w =>
    hSub S (fun S w =>
    call Tryz.prog 13 #[H6] (fun H7 w =>
    hReg (fun S w =>
    hld S (fun k w => ext Tryz.prog H7 0 k w) (fun H8 =>
    hld S (fun k w => ext Tryz.prog H7 1 k w) (fun H9 =>
    sto Tryz.prog 27 s9 H8 (fun _t w =>
    hSub S (fun S w =>
    (cCode Tryz.prog xc0 B1 (fun i => @Bool.rec (fun _ => KE) ((fun i => @Bool.rec (fun _ => KE) ((fun _ _ _ => False) i) qc0 (Nat.beq i 0)) i) B1 (Nat.beq i 1)) (retK Tryz.prog Tryz.f16.results.toList K)) (b0::b1::(dd 2)::(dd 3)::(dd 4)::r5::n6::out7'::E3::s9::H9::A6::A7::A8::A9::C0::C1::C2::C3::C4::C5::C6::C7::C8::C9::D0::D1::D2::D3::r5::D5::D6::D7::b0::D9::E0::r5::E2::E3::r5::E5::E6::E7::E7::(gd us44 0)::(gd us44 1)::(gd us44 2)::(gd us44 3)::(gd us44 4)::(gd us44 5)::(gd us44 6)::(gd us44 7)::(gd us44 8)::F8::F8::(gd us55 0)::(gd us55 1)::(gd us55 2)::G3::H7::b0::r5::G7::G8::G9::r5::H1::H2::H3::E3::H5::H6::H7::H8::H9::(dd 75)::(dd 76)::(dd 77)::(dd 78)::(dd 79)::(dd 80)::(dd 81)::(dd 82)::(dd 83)::(dd 84)::(dd 85)::(dd 86)::(dd 87)::(dd 88)::J4::J5::[]) w) w) w))) w) w) w) w)))))))))) w.drew)) w)) w)) w) w) w) w) w)
      (qc0 (b0::b1::(dd 2)::(dd 3)::(dd 4)::r5::n6::out7'::(dd 8)::(dd 9)::(dd 10)::A6::A7::A8::A9::C0::C1::C2::C3::C4::C5::C6::C7::C8::C9::D0::D1::D2::D3::r5::D5::D6::D7::b0::D9::E0::(dd 36)::(dd 37)::(dd 38)::(dd 39)::(dd 40)::(dd 41)::(dd 42)::(dd 43)::E9'::F0'::F1'::F2'::F3'::F4'::F5'::F6'::F7'::(dd 53)::(dd 54)::G0'::G1'::G2'::(dd 58)::(dd 59)::(dd 60)::(dd 61)::(dd 62)::(dd 63)::(dd 64)::(dd 65)::(dd 66)::(dd 67)::(dd 68)::(dd 69)::(dd 70)::(dd 71)::(dd 72)::(dd 73)::(dd 74)::(dd 75)::(dd 76)::(dd 77)::(dd 78)::(dd 79)::(dd 80)::(dd 81)::(dd 82)::(dd 83)::(dd 84)::(dd 85)::(dd 86)::(dd 87)::(dd 88)::J4::J5::[]) w)) w) w) w) w) w) :
    cCode Tryz.prog (rep [1, 0, 1, 1, 1] xc0 (cd Tryz.f16 [1, 1, 1, 1, 1, 0, 0, 0])) B1 (fun i => @Bool.rec (fun _ => KE) ((fun _ _ _ => False) i) qc0 (Nat.beq i 0)) (retK Tryz.prog Tryz.f16.results.toList K) (b0::b1::(dd 2)::(dd 3)::(dd 4)::r5::n6::out7'::(dd 8)::(dd 9)::(dd 10)::A6::A7::A8::A9::C0::C1::C2::C3::C4::C5::C6::C7::C8::C9::D0::D1::D2::D3::(dd 29)::(dd 30)::(dd 31)::(dd 32)::(dd 33)::(dd 34)::(dd 35)::(dd 36)::(dd 37)::(dd 38)::(dd 39)::(dd 40)::(dd 41)::(dd 42)::(dd 43)::E9'::F0'::F1'::F2'::F3'::F4'::F5'::F6'::F7'::(dd 53)::(dd 54)::G0'::G1'::G2'::(dd 58)::(dd 59)::(dd 60)::(dd 61)::(dd 62)::(dd 63)::(dd 64)::(dd 65)::(dd 66)::(dd 67)::(dd 68)::(dd 69)::(dd 70)::(dd 71)::(dd 72)::(dd 73)::(dd 74)::(dd 75)::(dd 76)::(dd 77)::(dd 78)::(dd 79)::(dd 80)::(dd 81)::(dd 82)::(dd 83)::(dd 84)::(dd 85)::(dd 86)::(dd 87)::(dd 88)::J4::J5::[]) w := Eq.mp (by kernel_rfl) h

section
variable {b0 b1 A0 A1 A2 r5 n6 out7 k_8 s9 e10 A6 A7 A8 A9 C0 C1 C2 C3 C4 C5 C6 C7 C8 C9 D0 D1 D2 D3 D4 D5 D6 D7 D8 D9 E0 E1 E2 E3 E4 E5 E6 E7 E8 E9 F0 F1 F2 F3 F4 F5 F6 F7 F8 F9 G0 G1 G2 G3 G4 G5 G6 G7 G8 G9 H0 H1 H2 H3 H4 H5 H6 H7 H8 H9 I0 I1 I2 I3 I4 I5 I6 I7 I8 I9 J0 J1 J2 J3 J4 J5 : Value}
theorem leatref29_Steps_L1_r {K : KV} {w : World} (Inv : Value → Value → Value → Value → Value → Value → Value → Value → Value → Value → Value → Value → Value → World → Prop) (μ : Value → Value → Value → Value → Value → Value → Value → Value → Value → Value → Value → Value → Value → World → Nat) (h0 : Inv out7 E9 F0 F1 F2 F3 F4 F5 F6 F7 G0 G1 G2 w)
    (hs : ∀ (out7' E9' F0' F1' F2' F3' F4' F5' F6' F7' G0' G1' G2' : Value) (dd : Nat → Value) (w : World) (m : Nat), Inv out7' E9' F0' F1' F2' F3' F4' F5' F6' F7' G0' G1' G2' w → m = μ out7' E9' F0' F1' F2' F3' F4' F5' F6' F7' G0' G1' G2' w →
    nilC r5 (fun D5 w =>
    fldA Tryz.prog 80 D5 1 (fun D6 w =>
    ld Tryz.prog 3 D6 (fun D7 w =>
    blt Tryz.prog Builtin.len #[28] 3 #[false] #[b0] (fun D9 w =>
    bin Tryz.prog BinOp.lss 3 false false D7 D9 (fun E0 w =>
    cond E0
      (call Tryz.prog 31 #[r5, (Value.int IntKind.i64 2)] (fun E2 w =>
    conv Tryz.prog 22 3 E2 (fun E3 w =>
    nilC r5 (fun E5 w =>
    fldA Tryz.prog 80 E5 2 (fun E6 w =>
    ld Tryz.prog 4 E6 (fun E7 w =>
    gsel E7 false (fun k44 =>
    nilC r5 (fun F0 w =>
    fldA Tryz.prog 80 F0 1 (fun F1 w =>
    ld Tryz.prog 3 F1 (fun F2 w =>
    bin Tryz.prog BinOp.add 3 false false F2 E3 (fun F4 w =>
    blt Tryz.prog Builtin.len #[28] 3 #[false] #[b0] (fun F6 w =>
    bin Tryz.prog BinOp.gtr 3 false false F4 F6 (fun F7 w =>
    k44 [r5, F0, F1, F2, E3, F4, b0, F6, F7] w) w) w) w) w) w) w)
    (fun k => k [undef, undef, undef, undef, undef, undef, undef, undef, undef] w) (fun us44 w =>
    pick E7 (Value.bool true) (gd us44 8) (fun F8 w =>
    gsel F8 false (fun k55 =>
    blt Tryz.prog Builtin.len #[40] 3 #[false] #[out7'] (fun G1 w =>
    bin Tryz.prog BinOp.geq 3 false true G1 (Value.int IntKind.i64 65536) (fun G2 w =>
    k55 [out7', G1, G2] w) w) w)
    (fun k => k [undef, undef, undef] w) (fun us55 w =>
    pick F8 (Value.bool true) (gd us55 2) (fun G3 w =>
    cond G3
      (K (Value.tuple #[(Value.int IntKind.i64 0), (Value.slice none 0 0), (Value.int IntKind.i64 5)]) w)
      (hReg (fun S w =>
    hld S (fun k w => nilC r5 k w) (fun G7 =>
    hld S (fun k w => fldA Tryz.prog 80 G7 1 k w) (fun G8 =>
    hld S (fun k w => ld Tryz.prog 3 G8 k w) (fun G9 =>
    hld S (fun k w => nilC r5 k w) (fun H1 =>
    hld S (fun k w => fldA Tryz.prog 80 H1 1 k w) (fun H2 =>
    hld S (fun k w => ld Tryz.prog 3 H2 k w) (fun H3 =>
    hld (fun _ => True) (fun k w => bin Tryz.prog BinOp.add 3 false false H3 E3 k w) (fun H5 =>
    hld S (fun k w => slc Tryz.prog 28 b0 (some G9) (some H5) none k w) (fun H6 =>
    (call Tryz.prog 13 #[H6] (fun H7 w =>
    hReg (fun S w =>
    hld S (fun k w => ext Tryz.prog H7 0 k w) (fun H8 =>
    hld S (fun k w => ext Tryz.prog H7 1 k w) (fun H9 =>
    alc Tryz.prog 27 (fun s9 w =>
    hSub S (fun S w =>
    sto Tryz.prog 27 s9 H8 (fun _t w =>
    hSub S (fun S w =>
    (leatref29_Steps_A1 K (fun e2 w2 => Inv (gd e2 7) (gd e2 44) (gd e2 45) (gd e2 46) (gd e2 47) (gd e2 48) (gd e2 49) (gd e2 50) (gd e2 51) (gd e2 52) (gd e2 55) (gd e2 56) (gd e2 57) w2 ∧ μ (gd e2 7) (gd e2 44) (gd e2 45) (gd e2 46) (gd e2 47) (gd e2 48) (gd e2 49) (gd e2 50) (gd e2 51) (gd e2 52) (gd e2 55) (gd e2 56) (gd e2 57) w2 < m)) (b0::b1::(dd 2)::(dd 3)::(dd 4)::r5::n6::out7'::E3::s9::H9::A6::A7::A8::A9::C0::C1::C2::C3::C4::C5::C6::C7::C8::C9::D0::D1::D2::D3::r5::D5::D6::D7::b0::D9::E0::r5::E2::E3::r5::E5::E6::E7::E7::(gd us44 0)::(gd us44 1)::(gd us44 2)::(gd us44 3)::(gd us44 4)::(gd us44 5)::(gd us44 6)::(gd us44 7)::(gd us44 8)::F8::F8::(gd us55 0)::(gd us55 1)::(gd us55 2)::G3::H7::b0::r5::G7::G8::G9::r5::H1::H2::H3::E3::H5::H6::H7::H8::H9::(dd 75)::(dd 76)::(dd 77)::(dd 78)::(dd 79)::(dd 80)::(dd 81)::(dd 82)::(dd 83)::(dd 84)::(dd 85)::(dd 86)::(dd 87)::(dd 88)::J4::J5::[]) w) w) w) w) w))) w) w) ∧ (alc Tryz.prog 27 (fun s9 w =>
    hSub S (fun S w =>
    call Tryz.prog 13 #[H6] (fun H7 w =>
    hReg (fun S w =>
    hld S (fun k w => ext Tryz.prog H7 0 k w) (fun H8 =>
    hld S (fun k w => ext Tryz.prog H7 1 k w) (fun H9 =>
    sto Tryz.prog 27 s9 H8 (fun _t w =>
    hSub S (fun S w =>
    (leatref29_Steps_A1 K (fun e2 w2 => Inv (gd e2 7) (gd e2 44) (gd e2 45) (gd e2 46) (gd e2 47) (gd e2 48) (gd e2 49) (gd e2 50) (gd e2 51) (gd e2 52) (gd e2 55) (gd e2 56) (gd e2 57) w2 ∧ μ (gd e2 7) (gd e2 44) (gd e2 45) (gd e2 46) (gd e2 47) (gd e2 48) (gd e2 49) (gd e2 50) (gd e2 51) (gd e2 52) (gd e2 55) (gd e2 56) (gd e2 57) w2 < m)) (b0::b1::(dd 2)::(dd 3)::(dd 4)::r5::n6::out7'::E3::s9::H9::A6::A7::A8::A9::C0::C1::C2::C3::C4::C5::C6::C7::C8::C9::D0::D1::D2::D3::r5::D5::D6::D7::b0::D9::E0::r5::E2::E3::r5::E5::E6::E7::E7::(gd us44 0)::(gd us44 1)::(gd us44 2)::(gd us44 3)::(gd us44 4)::(gd us44 5)::(gd us44 6)::(gd us44 7)::(gd us44 8)::F8::F8::(gd us55 0)::(gd us55 1)::(gd us55 2)::G3::H7::b0::r5::G7::G8::G9::r5::H1::H2::H3::E3::H5::H6::H7::H8::H9::(dd 75)::(dd 76)::(dd 77)::(dd 78)::(dd 79)::(dd 80)::(dd 81)::(dd 82)::(dd 83)::(dd 84)::(dd 85)::(dd 86)::(dd 87)::(dd 88)::J4::J5::[]) w) w) w))) w) w) w) w)))))))))) w.drew)) w)) w)) w) w) w) w) w)
      ((leatref29_Steps_P1 K) (b0::b1::(dd 2)::(dd 3)::(dd 4)::r5::n6::out7'::(dd 8)::(dd 9)::(dd 10)::A6::A7::A8::A9::C0::C1::C2::C3::C4::C5::C6::C7::C8::C9::D0::D1::D2::D3::r5::D5::D6::D7::b0::D9::E0::(dd 36)::(dd 37)::(dd 38)::(dd 39)::(dd 40)::(dd 41)::(dd 42)::(dd 43)::E9'::F0'::F1'::F2'::F3'::F4'::F5'::F6'::F7'::(dd 53)::(dd 54)::G0'::G1'::G2'::(dd 58)::(dd 59)::(dd 60)::(dd 61)::(dd 62)::(dd 63)::(dd 64)::(dd 65)::(dd 66)::(dd 67)::(dd 68)::(dd 69)::(dd 70)::(dd 71)::(dd 72)::(dd 73)::(dd 74)::(dd 75)::(dd 76)::(dd 77)::(dd 78)::(dd 79)::(dd 80)::(dd 81)::(dd 82)::(dd 83)::(dd 84)::(dd 85)::(dd 86)::(dd 87)::(dd 88)::J4::J5::[]) w)) w) w) w) w) w) :
    leatref29_Steps_L1 K (b0::b1::A0::A1::A2::r5::n6::out7::k_8::s9::e10::A6::A7::A8::A9::C0::C1::C2::C3::C4::C5::C6::C7::C8::C9::D0::D1::D2::D3::D4::D5::D6::D7::D8::D9::E0::E1::E2::E3::E4::E5::E6::E7::E8::E9::F0::F1::F2::F3::F4::F5::F6::F7::F8::F9::G0::G1::G2::G3::G4::G5::G6::G7::G8::G9::H0::H1::H2::H3::H4::H5::H6::H7::H8::H9::I0::I1::I2::I3::I4::I5::I6::I7::I8::I9::J0::J1::J2::J3::J4::J5::[]) w := by
  refine loop_rule (cd Tryz.f16 [1, 1, 1, 1, 1, 0, 0, 0]) [2, 3, 4, 7, 8, 9, 10, 29, 30, 31, 32, 33, 34, 35, 36, 37, 38, 39, 40, 41, 42, 43, 44, 45, 46, 47, 48, 49, 50, 51, 52, 53, 54, 55, 56, 57, 58, 59, 60, 61, 62, 63, 64, 65, 66, 67, 68, 69, 70, 71, 72, 73, 74, 75, 76, 77, 78, 79, 80, 81, 82, 83, 84, 85, 86, 87, 88] (by kernel_rfl) (fun e2 w2 => Inv (gd e2 7) (gd e2 44) (gd e2 45) (gd e2 46) (gd e2 47) (gd e2 48) (gd e2 49) (gd e2 50) (gd e2 51) (gd e2 52) (gd e2 55) (gd e2 56) (gd e2 57) w2) (fun e2 w2 => μ (gd e2 7) (gd e2 44) (gd e2 45) (gd e2 46) (gd e2 47) (gd e2 48) (gd e2 49) (gd e2 50) (gd e2 51) (gd e2 52) (gd e2 55) (gd e2 56) (gd e2 57) w2) h0 ?_
  intro e' w' hI
  have h := hs (gd e' 7) (gd e' 44) (gd e' 45) (gd e' 46) (gd e' 47) (gd e' 48) (gd e' 49) (gd e' 50) (gd e' 51) (gd e' 52) (gd e' 55) (gd e' 56) (gd e' 57) (fun i => gd e' i) w' _ hI rfl
  have h2 : cCode Tryz.prog (rep [1, 0, 1, 1, 1] (cd Tryz.f16 [1, 1, 1, 1, 1, 0, 0, 0, 1, 0, 1, 1, 1]) (cd Tryz.f16 [1, 1, 1, 1, 1, 0, 0, 0])) (fun e2 w2 => Inv (gd e2 7) (gd e2 44) (gd e2 45) (gd e2 46) (gd e2 47) (gd e2 48) (gd e2 49) (gd e2 50) (gd e2 51) (gd e2 52) (gd e2 55) (gd e2 56) (gd e2 57) w2 ∧ μ (gd e2 7) (gd e2 44) (gd e2 45) (gd e2 46) (gd e2 47) (gd e2 48) (gd e2 49) (gd e2 50) (gd e2 51) (gd e2 52) (gd e2 55) (gd e2 56) (gd e2 57) w2 < μ (gd e' 7) (gd e' 44) (gd e' 45) (gd e' 46) (gd e' 47) (gd e' 48) (gd e' 49) (gd e' 50) (gd e' 51) (gd e' 52) (gd e' 55) (gd e' 56) (gd e' 57) w') (fun i => @Bool.rec (fun _ => KE) ((fun _ _ _ => False) i) (leatref29_Steps_P1 K) (Nat.beq i 0)) (retK Tryz.prog Tryz.f16.results.toList K) (b0::b1::(gd e' 2)::(gd e' 3)::(gd e' 4)::r5::n6::(gd e' 7)::(gd e' 8)::(gd e' 9)::(gd e' 10)::A6::A7::A8::A9::C0::C1::C2::C3::C4::C5::C6::C7::C8::C9::D0::D1::D2::D3::(gd e' 29)::(gd e' 30)::(gd e' 31)::(gd e' 32)::(gd e' 33)::(gd e' 34)::(gd e' 35)::(gd e' 36)::(gd e' 37)::(gd e' 38)::(gd e' 39)::(gd e' 40)::(gd e' 41)::(gd e' 42)::(gd e' 43)::(gd e' 44)::(gd e' 45)::(gd e' 46)::(gd e' 47)::(gd e' 48)::(gd e' 49)::(gd e' 50)::(gd e' 51)::(gd e' 52)::(gd e' 53)::(gd e' 54)::(gd e' 55)::(gd e' 56)::(gd e' 57)::(gd e' 58)::(gd e' 59)::(gd e' 60)::(gd e' 61)::(gd e' 62)::(gd e' 63)::(gd e' 64)::(gd e' 65)::(gd e' 66)::(gd e' 67)::(gd e' 68)::(gd e' 69)::(gd e' 70)::(gd e' 71)::(gd e' 72)::(gd e' 73)::(gd e' 74)::(gd e' 75)::(gd e' 76)::(gd e' 77)::(gd e' 78)::(gd e' 79)::(gd e' 80)::(gd e' 81)::(gd e' 82)::(gd e' 83)::(gd e' 84)::(gd e' 85)::(gd e' 86)::(gd e' 87)::(gd e' 88)::J4::J5::[]) w' := leatref29_Steps_L1_k (fun e2 w2 => Inv (gd e2 7) (gd e2 44) (gd e2 45) (gd e2 46) (gd e2 47) (gd e2 48) (gd e2 49) (gd e2 50) (gd e2 51) (gd e2 52) (gd e2 55) (gd e2 56) (gd e2 57) w2 ∧ μ (gd e2 7) (gd e2 44) (gd e2 45) (gd e2 46) (gd e2 47) (gd e2 48) (gd e2 49) (gd e2 50) (gd e2 51) (gd e2 52) (gd e2 55) (gd e2 56) (gd e2 57) w2 < μ (gd e' 7) (gd e' 44) (gd e' 45) (gd e' 46) (gd e' 47) (gd e' 48) (gd e' 49) (gd e' 50) (gd e' 51) (gd e' 52) (gd e' 55) (gd e' 56) (gd e' 57) w') (leatref29_Steps_P1 K) (cd Tryz.f16 [1, 1, 1, 1, 1, 0, 0, 0, 1, 0, 1, 1, 1]) (Eq.mp (by kernel_rfl) h)
  exact Eq.mp (by kernel_rfl) h2

theorem leatref29_Steps_A1_k {K : KV} (B1 : KE) (qc0 : KE) {w : World}
    (h : bin Tryz.prog BinOp.neq 34 false true e10 (Value.int IntKind.i64 0) (fun I1 w =>
    cond I1
      (K (Value.tuple #[(Value.int IntKind.i64 0), (Value.slice none 0 0), (Value.int IntKind.i64 5)]) w)
      (nilC r5 (fun I3 w =>
    fldA Tryz.prog 80 I3 1 (fun I4 w =>
    ld Tryz.prog 3 I4 (fun I5 w =>
    bin Tryz.prog BinOp.add 3 false false I5 k_8 (fun I7 w =>
    nilC r5 (fun I8 w =>
    fldA Tryz.prog 80 I8 1 (fun I9 w =>
    sto Tryz.prog 3 I9 I7 (fun _t w =>
    ld Tryz.prog 27 s9 (fun J1 w =>
    bldS Tryz.prog 40 1 #[(0, J1)] (fun J2 w =>
    blt Tryz.prog Builtin.append #[40, 40] 40 #[false, false] #[out7, J2] (fun J3 w =>
    B1 (b0::b1::A0::A1::A2::r5::n6::J3::k_8::s9::e10::A6::A7::A8::A9::C0::C1::C2::C3::C4::C5::C6::C7::C8::C9::D0::D1::D2::D3::D4::D5::D6::D7::D8::D9::E0::E1::E2::E3::E4::E5::E6::E7::E8::E9::F0::F1::F2::F3::F4::F5::F6::F7::F8::F9::G0::G1::G2::G3::G4::G5::G6::G7::G8::G9::H0::H1::H2::H3::H4::H5::H6::H7::H8::H9::e10::I1::r5::I3::I4::I5::k_8::I7::I8::I9::out7::J1::J2::J3::J4::J5::[]) w) w) w) w) w) w) w) w) w) w) w)) w) :
    cCode Tryz.prog (cd Tryz.f16 [1, 1, 1, 1, 1, 0, 0, 0, 1, 0, 1, 1, 1]) B1 (fun i => @Bool.rec (fun _ => KE) ((fun i => @Bool.rec (fun _ => KE) ((fun _ _ _ => False) i) qc0 (Nat.beq i 0)) i) B1 (Nat.beq i 1)) (retK Tryz.prog Tryz.f16.results.toList K) (b0::b1::A0::A1::A2::r5::n6::out7::k_8::s9::e10::A6::A7::A8::A9::C0::C1::C2::C3::C4::C5::C6::C7::C8::C9::D0::D1::D2::D3::D4::D5::D6::D7::D8::D9::E0::E1::E2::E3::E4::E5::E6::E7::E8::E9::F0::F1::F2::F3::F4::F5::F6::F7::F8::F9::G0::G1::G2::G3::G4::G5::G6::G7::G8::G9::H0::H1::H2::H3::H4::H5::H6::H7::H8::H9::I0::I1::I2::I3::I4::I5::I6::I7::I8::I9::J0::J1::J2::J3::J4::J5::[]) w := Eq.mp (by kernel_rfl) h

theorem leatref29_Steps_A1_r {K : KV} {B1 : KE} {w : World}
    (h : bin Tryz.prog BinOp.neq 34 false true e10 (Value.int IntKind.i64 0) (fun I1 w =>
    cond I1
      (K (Value.tuple #[(Value.int IntKind.i64 0), (Value.slice none 0 0), (Value.int IntKind.i64 5)]) w)
      (nilC r5 (fun I3 w =>
    fldA Tryz.prog 80 I3 1 (fun I4 w =>
    ld Tryz.prog 3 I4 (fun I5 w =>
    bin Tryz.prog BinOp.add 3 false false I5 k_8 (fun I7 w =>
    nilC r5 (fun I8 w =>
    fldA Tryz.prog 80 I8 1 (fun I9 w =>
    sto Tryz.prog 3 I9 I7 (fun _t w =>
    ld Tryz.prog 27 s9 (fun J1 w =>
    bldS Tryz.prog 40 1 #[(0, J1)] (fun J2 w =>
    blt Tryz.prog Builtin.append #[40, 40] 40 #[false, false] #[out7, J2] (fun J3 w =>
    B1 (b0::b1::A0::A1::A2::r5::n6::J3::k_8::s9::e10::A6::A7::A8::A9::C0::C1::C2::C3::C4::C5::C6::C7::C8::C9::D0::D1::D2::D3::D4::D5::D6::D7::D8::D9::E0::E1::E2::E3::E4::E5::E6::E7::E8::E9::F0::F1::F2::F3::F4::F5::F6::F7::F8::F9::G0::G1::G2::G3::G4::G5::G6::G7::G8::G9::H0::H1::H2::H3::H4::H5::H6::H7::H8::H9::e10::I1::r5::I3::I4::I5::k_8::I7::I8::I9::out7::J1::J2::J3::J4::J5::[]) w) w) w) w) w) w) w) w) w) w) w)) w) :
    leatref29_Steps_A1 K B1 (b0::b1::A0::A1::A2::r5::n6::out7::k_8::s9::e10::A6::A7::A8::A9::C0::C1::C2::C3::C4::C5::C6::C7::C8::C9::D0::D1::D2::D3::D4::D5::D6::D7::D8::D9::E0::E1::E2::E3::E4::E5::E6::E7::E8::E9::F0::F1::F2::F3::F4::F5::F6::F7::F8::F9::G0::G1::G2::G3::G4::G5::G6::G7::G8::G9::H0::H1::H2::H3::H4::H5::H6::H7::H8::H9::I0::I1::I2::I3::I4::I5::I6::I7::I8::I9::J0::J1::J2::J3::J4::J5::[]) w := by
  delta leatref29_Steps_A1
  exact Eq.mp (congrArg (fun c => cCode Tryz.prog c B1 (fun i => @Bool.rec (fun _ => KE) ((fun i => @Bool.rec (fun _ => KE) ((fun _ _ _ => False) i) (leatref29_Steps_P1 K) (Nat.beq i 0)) i) B1 (Nat.beq i 1)) (retK Tryz.prog Tryz.f16.results.toList K) (b0::b1::A0::A1::A2::r5::n6::out7::k_8::s9::e10::A6::A7::A8::A9::C0::C1::C2::C3::C4::C5::C6::C7::C8::C9::D0::D1::D2::D3::D4::D5::D6::D7::D8::D9::E0::E1::E2::E3::E4::E5::E6::E7::E8::E9::F0::F1::F2::F3::F4::F5::F6::F7::F8::F9::G0::G1::G2::G3::G4::G5::G6::G7::G8::G9::H0::H1::H2::H3::H4::H5::H6::H7::H8::H9::I0::I1::I2::I3::I4::I5::I6::I7::I8::I9::J0::J1::J2::J3::J4::J5::[]) w) (by kernel_rfl : (cd Tryz.f16 [1, 1, 1, 1, 1, 0, 0, 0, 1, 0, 1, 1, 1]) = (cd Tryz.f16 [1, 1, 1, 1, 1, 0, 0, 0, 1, 0, 1, 1, 1]))) (leatref29_Steps_A1_k B1 (leatref29_Steps_P1 K) h)

theorem leatref29_Steps_P1_k {K : KV} {w : World}
    (h : K (Value.tuple #[n6, out7, (Value.int IntKind.i64 0)]) w) :
    cCode Tryz.prog (cd Tryz.f16 [1, 1, 1, 1, 1, 1]) (retK Tryz.prog Tryz.f16.results.toList K) (fun _ _ _ => False) (retK Tryz.prog Tryz.f16.results.toList K) (b0::b1::A0::A1::A2::r5::n6::out7::k_8::s9::e10::A6::A7::A8::A9::C0::C1::C2::C3::C4::C5::C6::C7::C8::C9::D0::D1::D2::D3::D4::D5::D6::D7::D8::D9::E0::E1::E2::E3::E4::E5::E6::E7::E8::E9::F0::F1::F2::F3::F4::F5::F6::F7::F8::F9::G0::G1::G2::G3::G4::G5::G6::G7::G8::G9::H0::H1::H2::H3::H4::H5::H6::H7::H8::H9::I0::I1::I2::I3::I4::I5::I6::I7::I8::I9::J0::J1::J2::J3::J4::J5::[]) w := Eq.mp (by kernel_rfl) h

theorem leatref29_Steps_P1_r {K : KV} {w : World}
    (h : K (Value.tuple #[n6, out7, (Value.int IntKind.i64 0)]) w) :
    leatref29_Steps_P1 K (b0::b1::A0::A1::A2::r5::n6::out7::k_8::s9::e10::A6::A7::A8::A9::C0::C1::C2::C3::C4::C5::C6::C7::C8::C9::D0::D1::D2::D3::D4::D5::D6::D7::D8::D9::E0::E1::E2::E3::E4::E5::E6::E7::E8::E9::F0::F1::F2::F3::F4::F5::F6::F7::F8::F9::G0::G1::G2::G3::G4::G5::G6::G7::G8::G9::H0::H1::H2::H3::H4::H5::H6::H7::H8::H9::I0::I1::I2::I3::I4::I5::I6::I7::I8::I9::J0::J1::J2::J3::J4::J5::[]) w := by
  delta leatref29_Steps_P1
  exact Eq.mp (congrArg (fun c => cCode Tryz.prog c (retK Tryz.prog Tryz.f16.results.toList K) (fun _ _ _ => False) (retK Tryz.prog Tryz.f16.results.toList K) (b0::b1::A0::A1::A2::r5::n6::out7::k_8::s9::e10::A6::A7::A8::A9::C0::C1::C2::C3::C4::C5::C6::C7::C8::C9::D0::D1::D2::D3::D4::D5::D6::D7::D8::D9::E0::E1::E2::E3::E4::E5::E6::E7::E8::E9::F0::F1::F2::F3::F4::F5::F6::F7::F8::F9::G0::G1::G2::G3::G4::G5::G6::G7::G8::G9::H0::H1::H2::H3::H4::H5::H6::H7::H8::H9::I0::I1::I2::I3::I4::I5::I6::I7::I8::I9::J0::J1::J2::J3::J4::J5::[]) w) (by kernel_rfl : (cd Tryz.f16 [1, 1, 1, 1, 1, 1]) = (cd Tryz.f16 [1, 1, 1, 1, 1, 1]))) (leatref29_Steps_P1_k h)
attribute [irreducible] leatref29_Steps_P1 leatref29_Steps_L1 leatref29_Steps_A1

def leatref29_Bytes_P1 (K : KV) : KE := cCode Tryz.prog (cd Tryz.f15 [1, 1, 1]) (retK Tryz.prog Tryz.f15.results.toList K) (fun _ _ _ => False) (retK Tryz.prog Tryz.f15.results.toList K)
def leatref29_Bytes_L1 (K : KV) : KE := cCode Tryz.prog (cd Tryz.f15 [1, 1, 0, 1, 0]) (leatref29_Bytes_P1 K) (fun i => @Bool.rec (fun _ => KE) ((fun _ _ _ => False) i) (leatref29_Bytes_P1 K) (Nat.beq i 0)) (retK Tryz.prog Tryz.f15.results.toList K)
end
theorem leatref29_Bytes_k {K : KV} {n0 l1 : Value} {w : World}
    (h : conv Tryz.prog 3 22 n0 (fun A4 w =>
    call Tryz.prog 28 #[(Value.slice none 0 0), A4, (Value.int IntKind.i64 1)] (fun A5 w =>
    (cCode Tryz.prog (cd Tryz.f15 [1, 1, 0, 1, 0]) (cCode Tryz.prog (cd Tryz.f15 [1, 1, 1]) (retK Tryz.prog Tryz.f15.results.toList K) (fun _ _ _ => False) (retK Tryz.prog Tryz.f15.results.toList K)) (fun i => @Bool.rec (fun _ => KE) ((fun _ _ _ => False) i) (cCode Tryz.prog (cd Tryz.f15 [1, 1, 1]) (retK Tryz.prog Tryz.f15.results.toList K) (fun _ _ _ => False) (retK Tryz.prog Tryz.f15.results.toList K)) (Nat.beq i 0)) (retK Tryz.prog Tryz.f15.results.toList K)) [n0, l1, undef, undef, (Value.slice none 0 0), A5, (Value.int IntKind.i64 0), undef, n0, A4, A5, undef, undef, undef, undef, undef, undef, undef, undef, undef, undef, undef, undef, undef, undef, undef, undef, undef, undef, undef] w) w) w) :
    cCode Tryz.prog (cd Tryz.f15 []) (retK Tryz.prog Tryz.f15.results.toList K) (fun _ _ _ => False) (retK Tryz.prog Tryz.f15.results.toList K) [n0, l1, undef, undef, undef, undef, undef, undef, undef, undef, undef, undef, undef, undef, undef, undef, undef, undef, undef, undef, undef, undef, undef, undef, undef, undef, undef, undef, undef, undef] w := Eq.mp (by kernel_rfl) h

theorem leatref29_Bytes_in {K : KV} {n0 l1 : Value} {w : World}
    (h : conv Tryz.prog 3 22 n0 (fun A4 w =>
    call Tryz.prog 28 #[(Value.slice none 0 0), A4, (Value.int IntKind.i64 1)] (fun A5 w =>
    (leatref29_Bytes_L1 K) [n0, l1, undef, undef, (Value.slice none 0 0), A5, (Value.int IntKind.i64 0), undef, n0, A4, A5, undef, undef, undef, undef, undef, undef, undef, undef, undef, undef, undef, undef, undef, undef, undef, undef, undef, undef, undef] w) w) w) :
    Gives Tryz.prog 15 #[n0, l1] w K := enter' Tryz.func15 (by kernel_rfl) (Eq.mp (congrArg (fun c => cCode Tryz.prog c (retK Tryz.prog Tryz.f15.results.toList K) (fun _ _ _ => False) (retK Tryz.prog Tryz.f15.results.toList K) [n0, l1, undef, undef, undef, undef, undef, undef, undef, undef, undef, undef, undef, undef, undef, undef, undef, undef, undef, undef, undef, undef, undef, undef, undef, undef, undef, undef, undef, undef] w) (by kernel_rfl : (cd Tryz.f15 []) = (cd Tryz.f15 []))) (leatref29_Bytes_k h))
theorem leatref29_Bytes_go : isGo Tryz.prog 15 := ⟨_, Tryz.func15, by kernel_rfl, by kernel_rfl⟩

theorem leatref29_Bytes_L1_k {K : KV} (B1 : KE) (qc0 : KE) {n0 l1 n2 l3 A2 b5' i6' A3 A4 A5 D4 : Value} {dd : Nat → Value} {w : World}
    (h : blt Tryz.prog Builtin.len #[40] 3 #[false] #[l1] (fun A8 w =>
    bin Tryz.prog BinOp.lss 3 false false i6' A8 (fun A9 w =>
    cond A9
      (idxA Tryz.prog 40 l1 i6' (fun C4 w =>
    ld Tryz.prog 27 C4 (fun C5 w =>
    call Tryz.prog 11 #[C5] (fun C6 w =>
    blt Tryz.prog Builtin.len #[28] 3 #[false] #[C6] (fun C9 w =>
    conv Tryz.prog 3 22 C9 (fun D0 w =>
    call Tryz.prog 28 #[b5', D0, (Value.int IntKind.i64 2)] (fun D1 w =>
    blt Tryz.prog Builtin.append #[28, 28] 28 #[false, false] #[D1, C6] (fun D3 w =>
    bin Tryz.prog BinOp.add 3 false true i6' (Value.int IntKind.i64 1) (fun C1 w =>
    B1 [n0, l1, n2, l3, A2, D3, C1, C6, A3, A4, A5, i6', l1, A8, A9, i6', C1, l1, i6', C4, C5, C6, b5', C6, C9, D0, D1, C6, D3, D4] w) w) w) w) w) w) w) w) w)
      (qc0 [n0, l1, n2, l3, A2, b5', i6', (dd 7), A3, A4, A5, i6', l1, A8, A9, (dd 15), (dd 16), (dd 17), (dd 18), (dd 19), (dd 20), (dd 21), (dd 22), (dd 23), (dd 24), (dd 25), (dd 26), (dd 27), (dd 28), D4] w)) w) w) :
    cCode Tryz.prog (cd Tryz.f15 [1, 1, 0, 1, 0, 0]) B1 (fun i => @Bool.rec (fun _ => KE) ((fun _ _ _ => False) i) qc0 (Nat.beq i 0)) (retK Tryz.prog Tryz.f15.results.toList K) [n0, l1, n2, l3, A2, b5', i6', (dd 7), A3, A4, A5, (dd 11), (dd 12), (dd 13), (dd 14), (dd 15), (dd 16), (dd 17), (dd 18), (dd 19), (dd 20), (dd 21), (dd 22), (dd 23), (dd 24), (dd 25), (dd 26), (dd 27), (dd 28), D4] w := Eq.mp (by kernel_rfl) h

theorem leatref29_Bytes_L1_r {K : KV} {n0 l1 n2 l3 A2 b5 i6 x7 A3 A4 A5 A6 A7 A8 A9 C0 C1 C2 C3 C4 C5 C6 C7 C8 C9 D0 D1 D2 D3 D4 : Value} {w : World} (Inv : Value → Value → World → Prop) (μ : Value → Value → World → Nat) (h0 : Inv b5 i6 w)
    (hs : ∀ (b5' i6' : Value) (dd : Nat → Value) (w : World) (m : Nat), Inv b5' i6' w → m = μ b5' i6' w →
    blt Tryz.prog Builtin.len #[40] 3 #[false] #[l1] (fun A8 w =>
    bin Tryz.prog BinOp.lss 3 false false i6' A8 (fun A9 w =>
    cond A9
      (idxA Tryz.prog 40 l1 i6' (fun C4 w =>
    ld Tryz.prog 27 C4 (fun C5 w =>
    call Tryz.prog 11 #[C5] (fun C6 w =>
    blt Tryz.prog Builtin.len #[28] 3 #[false] #[C6] (fun C9 w =>
    conv Tryz.prog 3 22 C9 (fun D0 w =>
    call Tryz.prog 28 #[b5', D0, (Value.int IntKind.i64 2)] (fun D1 w =>
    blt Tryz.prog Builtin.append #[28, 28] 28 #[false, false] #[D1, C6] (fun D3 w =>
    bin Tryz.prog BinOp.add 3 false true i6' (Value.int IntKind.i64 1) (fun C1 w =>
    (Inv D3 C1 w ∧ μ D3 C1 w < m)) w) w) w) w) w) w) w) w)
      ((leatref29_Bytes_P1 K) [n0, l1, n2, l3, A2, b5', i6', (dd 7), A3, A4, A5, i6', l1, A8, A9, (dd 15), (dd 16), (dd 17), (dd 18), (dd 19), (dd 20), (dd 21), (dd 22), (dd 23), (dd 24), (dd 25), (dd 26), (dd 27), (dd 28), D4] w)) w) w) :
    leatref29_Bytes_L1 K [n0, l1, n2, l3, A2, b5, i6, x7, A3, A4, A5, A6, A7, A8, A9, C0, C1, C2, C3, C4, C5, C6, C7, C8, C9, D0, D1, D2, D3, D4] w := by
  refine loop_rule (cd Tryz.f15 [1, 1, 0, 1, 0, 0]) [5, 6, 7, 11, 12, 13, 14, 15, 16, 17, 18, 19, 20, 21, 22, 23, 24, 25, 26, 27, 28] (by kernel_rfl) (fun e2 w2 => Inv (gd e2 5) (gd e2 6) w2) (fun e2 w2 => μ (gd e2 5) (gd e2 6) w2) h0 ?_
  intro e' w' hI
  have h := hs (gd e' 5) (gd e' 6) (fun i => gd e' i) w' _ hI rfl
  have h2 : cCode Tryz.prog (cd Tryz.f15 [1, 1, 0, 1, 0, 0]) (fun e2 w2 => Inv (gd e2 5) (gd e2 6) w2 ∧ μ (gd e2 5) (gd e2 6) w2 < μ (gd e' 5) (gd e' 6) w') (fun i => @Bool.rec (fun _ => KE) ((fun _ _ _ => False) i) (leatref29_Bytes_P1 K) (Nat.beq i 0)) (retK Tryz.prog Tryz.f15.results.toList K) [n0, l1, n2, l3, A2, (gd e' 5), (gd e' 6), (gd e' 7), A3, A4, A5, (gd e' 11), (gd e' 12), (gd e' 13), (gd e' 14), (gd e' 15), (gd e' 16), (gd e' 17), (gd e' 18), (gd e' 19), (gd e' 20), (gd e' 21), (gd e' 22), (gd e' 23), (gd e' 24), (gd e' 25), (gd e' 26), (gd e' 27), (gd e' 28), D4] w' := leatref29_Bytes_L1_k (fun e2 w2 => Inv (gd e2 5) (gd e2 6) w2 ∧ μ (gd e2 5) (gd e2 6) w2 < μ (gd e' 5) (gd e' 6) w') (leatref29_Bytes_P1 K) (Eq.mp (by kernel_rfl) h)
  exact Eq.mp (by kernel_rfl) h2

theorem leatref29_Bytes_P1_k {K : KV} {n0 l1 n2 l3 A2 b5 i6 x7 A3 A4 A5 A6 A7 A8 A9 C0 C1 C2 C3 C4 C5 C6 C7 C8 C9 D0 D1 D2 D3 D4 : Value} {w : World}
    (h : K b5 w) :
    cCode Tryz.prog (cd Tryz.f15 [1, 1, 1]) (retK Tryz.prog Tryz.f15.results.toList K) (fun _ _ _ => False) (retK Tryz.prog Tryz.f15.results.toList K) [n0, l1, n2, l3, A2, b5, i6, x7, A3, A4, A5, A6, A7, A8, A9, C0, C1, C2, C3, C4, C5, C6, C7, C8, C9, D0, D1, D2, D3, D4] w := Eq.mp (by kernel_rfl) h

theorem leatref29_Bytes_P1_r {K : KV} {n0 l1 n2 l3 A2 b5 i6 x7 A3 A4 A5 A6 A7 A8 A9 C0 C1 C2 C3 C4 C5 C6 C7 C8 C9 D0 D1 D2 D3 D4 : Value} {w : World}
    (h : K b5 w) :
    leatref29_Bytes_P1 K [n0, l1, n2, l3, A2, b5, i6, x7, A3, A4, A5, A6, A7, A8, A9, C0, C1, C2, C3, C4, C5, C6, C7, C8, C9, D0, D1, D2, D3, D4] w := by
  delta leatref29_Bytes_P1
  exact Eq.mp (congrArg (fun c => cCode Tryz.prog c (retK Tryz.prog Tryz.f15.results.toList K) (fun _ _ _ => False) (retK Tryz.prog Tryz.f15.results.toList K) [n0, l1, n2, l3, A2, b5, i6, x7, A3, A4, A5, A6, A7, A8, A9, C0, C1, C2, C3, C4, C5, C6, C7, C8, C9, D0, D1, D2, D3, D4] w) (by kernel_rfl : (cd Tryz.f15 [1, 1, 1]) = (cd Tryz.f15 [1, 1, 1]))) (leatref29_Bytes_P1_k h)
attribute [irreducible] leatref29_Bytes_P1 leatref29_Bytes_L1

end Go.Proofs.YtfjafbbalohmhaaGreatDoor
namespace Go.Proofs.YtfjafbbalohmhaaGreatDoor
set_option maxRecDepth 100000
open Go.RowKit
def RSP (w : World) (a : Option Addr) (n c : Nat) (L : List STP) : Prop :=
  L.length = n ∧ n ≤ c ∧ ∀ (i : Nat) (s : STP), L[i]? = some s → STW s ∧ ∃ b o av cv, a = some ⟨b, o, none⟩ ∧ RN w av s.picks.length cv s.picks ∧ s.picks.length ≤ 9223372036854775807 ∧
    ∀ (j : Nat) (u : Value), (stC s (.slice av s.picks.length cv))[j]? = some u → w.cell? ⟨b, o + i * 12 + j, none⟩ = some u
theorem RSP.below {w w' : World} {B : Nat} {a : Option Addr} {n c : Nat} {L : List STP} (h : RSP w a n c L) (hb : Below B w w') (hB : w.heap.size ≤ B) : RSP w' a n c L :=
  ⟨h.1, h.2.1, fun i s hs => by
    obtain ⟨h0, b, o, av, cv, e, h1, h3, h2⟩ := h.2.2 i s hs
    refine ⟨h0, b, o, av, cv, e, RV.below h1 hb hB, h3, fun j u hu => ?_⟩
    have := h2 j u hu
    have hlt := World.block_lt_of_cell? w _ this
    rw [hb.cell (p := ⟨b, o + i * 12 + j, none⟩) (Nat.lt_of_lt_of_le hlt hB)]; exact this⟩
def spC (p : STP × Value) : List Value := stC p.1 p.2
theorem spC_len (p : STP × Value) : (spC p).length = 12 := rfl
abbrev OW (w : World) (B : Nat) (a : Option Addr) (n c : Nat) (L : List (STP × Value)) : Prop := w.ownsRow B 27 12 (.slice a n c) n (L.flatMap spC)
def PK (w : World) (L : List (STP × Value)) : Prop := ∀ p ∈ L, STW p.1 ∧ mayT p.1 = true ∧ ∃ av cv, p.2 = .slice av p.1.picks.length cv ∧ RN w av p.1.picks.length cv p.1.picks
theorem OW.len {w : World} {B n c : Nat} {a : Option Addr} {L : List (STP × Value)} (h : OW w B a n c L) : L.length = n := by
  have h1 := h.1
  rw [flat_len spC_len] at h1
  omega
theorem ow_rsp {w : World} {B n c k : Nat} {a : Option Addr} {L : List (STP × Value)} (h : OW w B a n c L) (hp : PK w L) (hk : k ≤ n) : RSP w a k c ((L.take k).map (·.1)) := by
  have hl := h.len
  refine ⟨by simp; omega, ?_, fun i s hs => ?_⟩
  · rcases h.2 with ⟨hv, hz⟩ | ⟨g, cap, cur, hv, _, _, hn, _⟩
    · omega
    · simp only [Value.slice.injEq] at hv
      omega
  · rw [List.getElem?_map] at hs
    cases hq : (L.take k)[i]? with
    | none => rw [hq] at hs; cases hs
    | some p =>
      rw [hq] at hs
      simp only [Option.map_some, Option.some.injEq] at hs
      subst hs
      rw [List.getElem?_take] at hq
      split at hq
      · rename_i hik
        obtain ⟨h1, h2, av, cv, h3, h4⟩ := hp p (List.mem_of_getElem? hq)
        obtain ⟨g, cur, rfl, ho⟩ := own_open h (by omega)
        refine ⟨h1, g, 0, av, cv, rfl, h4, ?_, fun j u hu => ?_⟩
        · have := (mayT_iff.1 h2).2.2.2.2.2.2.2.2.1; omega
        · have hj : j < 12 := (List.getElem?_eq_some_iff.1 hu).1
          rw [Nat.zero_add, ho.blk.cell, ho.cell spC_len hl hq hj]
          unfold spC; rw [h3]; exact hu
      · cases hq
attribute [local irreducible] bin un conv call callV blt slc fldA fld idxA idx lkp mUpd mEnt eSt rng nxt ent ext alc box bld bldS ld sto nilC mkMap mkS ifc pick rdy wts gsel sti cond retM Gives cCode cGrp cSeq cOp
section
variable {w : World} {K : KV}
theorem rdSP {K2 : Value → KV} {a : Option Addr} {n c i : Nat} {L : List STP} {s : STP} (h : RSP w a n c L) (hx : L[i]? = some s)
    (hk : ∀ u av cv, RN w av s.picks.length cv s.picks → s.picks.length ≤ 9223372036854775807 → STW s → K2 u (.agg (stC s (.slice av s.picks.length cv)).toArray) w) :
    idxA Tryz.prog 40 (.slice a n c) (.int .i64 (i : Nat)) (fun u w => ld Tryz.prog 27 u (K2 u) w) w := by
  have hi : i < n := by rw [← h.1]; exact (List.getElem?_eq_some_iff.1 hx).1
  obtain ⟨h0, b, o, av, cv, rfl, h1, h3, h2⟩ := h.2.2 i s hx
  refine idxRow (s := 12) Tryz.underlying40 (fun _ => by kernel_rfl) (by omega) (by omega) ?_
  rw [Int.toNat_natCast]
  exact ld_of (run_loadVar_mid w b (o + i * 12) _ (stC s (.slice av s.picks.length cv)) _ (fun j u hu => h2 j u hu) Tryz.underlying27 rfl (by kernel_rfl)) (hk _ av cv h1 h3 h0)
theorem lenSP {ty : TypeId} {cs : Array Bool} {a : Option Addr} {n c : Nat} (h : K (.int .i64 (n : Int)) w) : blt Tryz.prog .len #[40] ty cs #[.slice a n c] K w := len_slc Tryz.underlying40 h
theorem encS_len (s : STP) : (encS s).length = 2 + (putT s).length := by simp [encS, beBytes_len]
theorem putT_le (s : STP) : (putT s).length ≤ 302 := by
  cases hm : mayT s with
  | true => rw [putT_len hm]; have := (mayT_iff.1 hm).2.2.2.2.2.2.2.2.1; omega
  | false => have hp : putT s = [] := by unfold putT; rw [hm]
             rw [hp]; simp
theorem encs_len (L : List STP) : (L.flatMap encS).length ≤ 304 * L.length := by
  induction L with
  | nil => simp
  | cons s L ih => simp only [List.flatMap_cons, List.length_append, List.length_cons, encS_len]; have := putT_le s; omega
set_option maxHeartbeats 2000000 in
theorem rbytes29_c {a : Option Addr} {n c : Nat} {L : List STP} {k : Int} (h0 : 0 ≤ k) (h1 : k < 256) (hr : RSP w a n c L) (hn : n ≤ 100000)
    (h : ∀ a' n' c' w', OB w' w.heap.size a' n' c' (bytesT k.toNat L) → Below w.heap.size w w' → K (.slice a' n' c') w') : call Tryz.prog 15 #[.int .i64 k, .slice a n c] K w := by
  have hl := hr.1
  refine call_of leatref29_Bytes_go (leatref29_Bytes_in ?_)
  refine cvIU (by omega) (by omega) ?_
  refine rnum_c (l := []) 1 (show RB w none 0 0 [] from RV.nil w) (by omega) (by simp) h0 (by omega) rfl fun a1 n1 c1 w1 o1 b1 => ?_
  have o1 : OB w1 w.heap.size a1 n1 c1 (beBytes k.toNat 1 ++ (L.take 0).flatMap encS) := by simpa using o1
  refine leatref29_Bytes_L1_r (Inv := fun b i wr => ∃ (j : Nat) (a' : Option Addr) (n' c' : Nat), b = .slice a' n' c' ∧ i = .int .i64 (j : Nat) ∧ j ≤ n ∧ OB wr w.heap.size a' n' c' (beBytes k.toNat 1 ++ (L.take j).flatMap encS) ∧ Below w.heap.size w wr)
    (μ := fun _ i _ => n - (intOf i).toNat) ⟨0, a1, n1, c1, rfl, rfl, by omega, o1, b1⟩ ?_
  rintro _ _ dd w2 m ⟨j, a2, n2, c2, rfl, rfl, hj, o2, b2⟩ hm
  refine lenSP ?_
  refine bin_lss ?_
  by_cases hjn : j < n
  · refine cond_t (by omega) ?_
    have hx : L[j]? = some L[j] := List.getElem?_eq_getElem (by omega)
    have hs2 := b2.size
    refine rdSP (hr.below b2 (Nat.le_refl _)) hx fun _ av cv hrn hpl hw => ?_
    refine rput29_c hw hrn hpl fun w3 a3 n3 c3 hb3 b3 => ?_
    have hl3 := hb3.len
    have hp := putT_le L[j]
    have hs3 := b3.size
    refine lenB8 ?_
    refine cvIU (by omega) (by omega) ?_
    have o3 : OB w3 w.heap.size a2 n2 c2 (beBytes k.toNat 1 ++ (L.take j).flatMap encS) := OB.below o2 b3 (Nat.le_refl _)
    have hl2 := (OB.rb o2).len
    have he := encs_len (L.take j)
    rw [List.length_take] at he
    rw [List.length_append, beBytes_len] at hl2
    refine rnum_c 2 (OB.rb o3) (by omega) (by simp) (by omega) (by omega) rfl fun a4 n4 c4 w4 o4 b4 => ?_
    have hs4 := b4.size
    have hl4 := (OB.rb o4).len
    rw [List.length_append, List.length_append, beBytes_len, beBytes_len] at hl4
    refine app8 w3.heap.size o4 (hb3.below b4 (Nat.le_refl _)) (by omega) hs4 fun a5 c5 w5 o5 g5 => ?_
    have b5 : Below w3.heap.size w3 w5 := b4.trans (below_of_grown g5 hs4 (fun q hq => (OV.block o4 q hq).1))
    refine add64 (by omega) (by omega) ?_
    refine ⟨⟨j + 1, a5, _, c5, rfl, by simp, by omega, ?_, b2.trans ((b3.mono hs2).trans (b5.mono (by omega)))⟩, by rw [hm]; simp [intOf]; omega⟩
    have ht : L.take (j + 1) = L.take j ++ [L[j]] := (List.take_append_getElem (by omega)).symm
    rw [ht, List.flatMap_append, ← List.append_assoc]
    have e1 : [L[j]].flatMap encS = beBytes n3 2 ++ putT L[j] := by simp [encS, hl3]
    rw [e1, ← List.append_assoc]
    have := OV.mono o5 (show w.heap.size ≤ w3.heap.size by omega)
    rw [Int.toNat_natCast] at this
    exact this
  · obtain rfl : j = n := by omega
    refine cond_f (by omega) ?_
    refine leatref29_Bytes_P1_r ?_
    rw [List.take_of_length_le (by omega)] at o2
    exact h _ _ _ w2 o2 b2
end
end Go.Proofs.YtfjafbbalohmhaaGreatDoor
namespace Go.Proofs.YtfjafbbalohmhaaGreatDoor
set_option maxRecDepth 100000
open Go.RowKit
abbrev OR12 (w : World) (B : Nat) (a : Option Addr) (n c : Nat) (xs : List Value) : Prop := w.ownsRow B 27 12 (.slice a n c) n xs
theorem info_step' : (Tryz.prog.info? 27).map (fun i => (i.zero, i.size, i.bytes)) = some (some (.agg stp0.toArray), 12, 112) := by kernel_rfl
theorem rb_same2 {w1 w2 : World} {a : Option Addr} {n c : Nat} {b : List UInt8} (h : RB w1 a n c b) (hk : ∀ i, i < n → w2.heap[(slotA a i).block]? = w1.heap[(slotA a i).block]?) : RB w2 a n c b :=
  ⟨RV.len h, RV.cap h, RV.some_ h, RV.nil_ h, fun i u hu => by
    have hi : i < n := by have := (List.getElem?_eq_some_iff.1 hu).1; rw [RV.len h] at this; exact this
    have hc := RV.cell h i u hu
    unfold World.cell? at hc ⊢
    rw [hk i hi]; exact hc⟩
def GA (w0 : World) (v : Nat) (l : List (STP × Nat)) (w : World) : Prop := ∃ a c xs, blk w v 40 [.slice a l.length c] ∧ OR12 w (v + 2) a l.length c xs ∧ Below v w0 w ∧ v + 1 < w.heap.size
attribute [local irreducible] bin un conv call callV blt slc fldA fld idxA idx lkp mUpd mEnt eSt rng nxt ent ext alc box bld bldS ld sto nilC mkMap mkS ifc pick rdy wts gsel sti cond retM Gives cCode cGrp cSeq cOp
section
variable {w : World} {K : KV}
theorem again1_c {w0 : World} {v : Nat} {l : List (STP × Nat)} {s : STP} {a' : Option Addr} {c' : Nat} {e : Nat} (hg : GA w0 v l w) (hl : l.length < 65536)
    (h : ∀ w2 u, GA w0 v (l ++ [(s, e)]) w2 → (∀ k, k < v + 2 → k ≠ v → w2.heap[k]? = w.heap[k]?) → w.heap.size ≤ w2.heap.size → K u w2) :
    callV Tryz.prog (.func (.func 34) #[] #[.pointer (some ⟨v, 0, none⟩)]) #[.agg (stC s (.slice a' s.picks.length c')).toArray, .int .i64 (e : Nat)] K w := by
  obtain ⟨a, c, xs, hb, ho, bel, hlt⟩ := hg
  refine callV_of rfl (call_of trace_Again_1_go (trace_Again_1_in ?_))
  refine box_of fun w1 h1 b1 s1 => ?_
  have h1 : blk w1 w.heap.size 27 (stC s (.slice a' s.picks.length c')) := h1
  have hb1 := below_blk b1 hb hb.lt
  refine ld1 (v := .slice a l.length c) (fun _ => by kernel_rfl) hb1 rfl ?_
  refine ldA (n := 12) (vs := stC s (.slice a' s.picks.length c')) Tryz.underlying27 rfl (by kernel_rfl) h1 rfl rfl ?_
  refine bldSG (vs := [.agg (stC s (.slice a' s.picks.length c')).toArray]) Tryz.underlying40 (s := 12) (by kernel_rfl) (by kernel_rfl) (by omega) rfl (by simp) (by simp) (by simp) (by simp [Value.cells, stC]) fun w2 h2 b2 s2 => ?_
  have h2 : blk w2 w1.heap.size 27 (stC s (.slice a' s.picks.length c')) := by simpa [Value.cells] using h2
  obtain ⟨i, hi, hz, hsz, hby⟩ := info_parts info_step'
  have b02 : Below w.heap.size w w2 := b1.trans (b2.mono (by omega))
  have ho2 : OR12 w2 (v + 2) a l.length c xs := ownS ho fun k hk => b02.block k (World.ownsRow.lt ho k hk).2
  refine appA (base := v + 2) (s := 12) (m := 1) (ys := stC s (.slice a' s.picks.length c')) Tryz.underlying40 hi hz hsz hby rfl (by omega) ho2 h2 rfl (by simp [stC, i6, Value.oneCell']) (by omega) (by omega) (by omega) ?_
  intro a2 c2 w3 ho3 hgr _
  have b3 : Below (v + 2) w2 w3 := below_of_grown hgr (by omega) (fun k hk => (World.ownsRow.lt ho2 k hk).1)
  have hb3 : blk w3 v 40 [.slice a l.length c] := below_blk b3 (below_blk b2 hb1 hb1.lt) (by omega)
  refine sto1 (fun _ => by kernel_rfl) hb3 (by simp) rfl fun w4 hb4 o4 => ?_
  have hsz3 := b3.size
  refine h w4 _ ⟨a2, c2, xs ++ stC s (.slice a' s.picks.length c'), ?_, ?_, ?_, ?_⟩ (fun k hk hne => ?_) (by rw [o4.size]; omega)
  · rw [List.length_append]; exact hb4
  · rw [List.length_append]
    exact ownS ho3 fun k hk => o4.other k (by have := (World.ownsRow.lt ho3 k hk).1; omega)
  · exact ((bel.trans (b02.mono (by omega))).trans (b3.mono (by omega))).trans o4.below
  · rw [o4.size]; omega
  · rw [o4.other k hne, b3.block k hk, b02.block k (by omega)]
theorem again_bad_c {a : Option Addr} {n c : Nat} {b : List UInt8} (hr : RB w a n c b) (hn : n ≤ 4611686018427387904) (hbad : (eachT b).2.2 = false)
    (h : ∀ w', Below w.heap.size w w' → K (.tuple #[.pointer none, .slice none 0 0, .int .i64 5]) w') : call Tryz.prog 18 #[.slice a n c] K w := by
  refine call_of trace_Again_go (trace_Again_in ?_)
  refine alc_of (z := .slice none 0 0) (by kernel_rfl) fun w1 hv b1 s1 => ?_
  have hv : blk w1 w.heap.size 40 [.slice none 0 0] := hv
  have hr1 := hr.below b1 (Nat.le_refl _)
  refine each_c hr1 hn (fun l w' => GA w w.heap.size l w' ∧ RB w' a n c b) ?_ ?_ ?_ ?_
  · intro w' bw hlt
    exact ⟨⟨none, 0, [], below_blk bw hv hv.lt, World.ownsRow_nil _ _ _ _, b1.trans (bw.mono (by omega)), by omega⟩, hr1.below bw (Nat.le_refl _)⟩
  · rintro l w2 w3 ⟨⟨a2, c2, xs, g1, g2, g3, g4⟩, g5⟩ o
    refine ⟨⟨a2, c2, xs, ?_, ?_, ?_, Nat.lt_of_lt_of_le g4 o.size⟩, ?_⟩
    · unfold blk at g1 ⊢; rw [o.other _ (by omega) (by omega)]; exact g1
    · exact ownS g2 fun k hk => o.other k (World.ownsRow.lt g2 k hk).2 (by have := (World.ownsRow.lt g2 k hk).1; omega)
    · exact g3.trans ⟨o.os, o.tape, o.output, o.size, fun k hk => o.other k (by omega) (by omega)⟩
    · exact rb_same g5 (fun k hk hne => o.other k hk hne) (fun i hi => by have := RV.blk hr1 i hi; omega)
  · rintro l s e w2 a' c' K2 hl ⟨g1, g2⟩ hrn hrb hlt hk
    refine again1_c g1 hl fun w3 u g3 hsame hsz => ?_
    refine hk w3 u ⟨g3, ?_⟩ (hsame _ (by omega) (by omega)) ?_ hsz
    · exact rb_same2 hrb fun i hi => hsame _ (by have := RV.blk hr i hi; omega) (by have := RV.blk hr i hi; omega)
    · exact rb_same2 hrb fun i hi => hsame _ (by have := RV.blk hr i hi; omega) (by have := RV.blk hr i hi; omega)
  · rintro w2 ⟨⟨a2, c2, xs, g1, g2, g3, g4⟩, g5⟩ _
    refine ext_a ?_
    refine ext_b ?_
    rw [hbad]
    refine un_not ?_
    refine cond_T ?_
    exact h w2 g3
end
end Go.Proofs.YtfjafbbalohmhaaGreatDoor
namespace Go.Proofs.YtfjafbbalohmhaaGreatDoor
set_option maxRecDepth 100000
open Go.RowKit
attribute [local irreducible] gtE getP badT gotT nxtT
structure SG (w0 w : World) (r : Nat) (a : Option Addr) (n c : Nat) (b : List UInt8) (i : Nat) (ar : Option Addr) (cr : Nat) (L : List (STP × Value)) : Prop where
  ey : blk w r 80 (eyC a n c (i, false))
  ow : OW w w0.heap.size ar L.length cr L
  pk : ∀ p ∈ L, STW p.1 ∧ mayT p.1 = true ∧ ∃ av cv, p.2 = .slice av p.1.picks.length cv ∧ ON w w0.heap.size av p.1.picks.length cv p.1.picks
  bel : Below w0.heap.size w0 w
  rb : RB w0 a n c b
  lo : w0.heap.size ≤ r
theorem own_grown_ne {w w' : World} {B B2 s s2 n n2 : Nat} {E E2 : TypeId} {v v2 : Value} {xs xs2 : List Value} (h : w.ownsRow B E s v n xs) (h2 : w.ownsRow B2 E2 s2 v2 n2 xs2) (hE : E ≠ E2) (hg : w.grownBy w' v2.ownBlock) : w'.ownsRow B E s v n xs := by
  refine ownS h fun k hk => hg.block k (World.ownsRow.lt h k hk).2 (fun hh => ?_)
  rcases h.2 with ⟨hv, _⟩ | ⟨g, cap, cur, hv, _, hc, _⟩
  · rw [hv] at hk; cases hk
  · rcases h2.2 with ⟨hv2, _⟩ | ⟨g2, cap2, cur2, hv2, _, hc2, _⟩
    · rw [hv2] at hh; cases hh
    · have e1 : g = k := by rw [hv] at hk; simpa [Value.ownBlock] using hk
      have e2 : g2 = k := by rw [hv2] at hh; simpa [Value.ownBlock] using hh.symm
      rw [e1] at hc; rw [e2, hc] at hc2
      simp only [Option.some.injEq, Obj.cells.injEq] at hc2
      exact hE hc2.2.1
attribute [local irreducible] bin un conv call callV blt slc fldA fld idxA idx lkp mUpd mEnt eSt rng nxt ent ext alc box bld bldS ld sto nilC mkMap mkS ifc pick rdy wts gsel sti cond retM Gives cCode cGrp cSeq cOp
section
variable {w : World} {K : KV}
theorem pshT {K2 : Value → KV} {B n c : Nat} {a : Option Addr} {L : List (STP × Value)} {s : STP} {v : Value} (ho : OW w B a n c L) (hv : v.oneCell' = true) (hB : B ≤ w.heap.size) (hn : n ≤ 90000)
    (h : ∀ t a' c' w1 w', Below w.heap.size w w1 → OW w1 B a n c L → w1.grownBy w' (Value.slice a n c).ownBlock → OW w' B a' (n + 1) c' (L ++ [(s, v)]) → Below B w w' → K2 t (.slice a' (n + 1) c') w') :
    bldS Tryz.prog 40 1 #[(0, .agg (stC s v).toArray)] (fun t w => blt Tryz.prog .append #[40, 40] 40 #[false, false] #[.slice a n c, t] (K2 t) w) w := by
  refine bldSG (vs := [.agg (stC s v).toArray]) Tryz.underlying40 (s := 12) (by kernel_rfl) (by kernel_rfl) (by omega) rfl (by simp) (by simp) (by simp) (by simp [Value.cells, stC]) fun w1 h1 b1 s1 => ?_
  have h1 : blk w1 w.heap.size 27 (stC s v) := by simpa [Value.cells] using h1
  obtain ⟨i, hi, hz, hsz, hby⟩ := info_parts info_step'
  have ho1 : OW w1 B a n c L := ownS ho fun k hk => b1.block k (World.ownsRow.lt ho k hk).2
  refine appA (base := B) (s := 12) (m := 1) (ys := stC s v) Tryz.underlying40 hi hz hsz hby rfl (by omega) ho1 h1 rfl (by intro u hu; simp only [stC, List.mem_cons, List.not_mem_nil, or_false] at hu; rcases hu with rfl | rfl | rfl | rfl | rfl | rfl | rfl | rfl | rfl | rfl | rfl | rfl <;> first | rfl | exact hv) (by omega) (by omega) (by omega) ?_
  intro a' c' w2 ho2 hgr _
  have b2 : Below B w1 w2 := below_of_grown hgr (by omega) (fun k hk => (World.ownsRow.lt ho1 k hk).1)
  refine h _ a' c' w1 w2 b1 ho1 hgr ?_ ((b1.mono hB).trans b2)
  have e1 : (L ++ [(s, v)]).flatMap spC = L.flatMap spC ++ stC s v := by simp [spC]
  show World.ownsRow w2 B _ 12 _ _ _
  rw [e1]; exact ho2
theorem on_oth {p : Nat} {w' : World} {B : Nat} {a : Option Addr} {n c : Nat} {l : List Int} {E : TypeId} {cs : List Value} (h : ON w B a n c l) (hp : blk w p E cs) (hE : E ≠ 3) (ho : Oth p w w') : ON w' B a n c l :=
  ownS h fun k hk => ho.other k (by
    rintro rfl
    rcases h.2 with ⟨hv, _⟩ | ⟨g, cap, cur, hv, _, hc, _⟩
    · rw [hv] at hk; cases hk
    · have e1 : g = k := by rw [hv] at hk; simpa [Value.ownBlock] using hk
      rw [e1] at hc; unfold blk at hp; rw [hc] at hp
      simp only [Option.some.injEq, Obj.cells.injEq] at hp
      exact hE hp.2.1.symm)
theorem ow_oth {p : Nat} {w' : World} {B : Nat} {a : Option Addr} {n c : Nat} {L : List (STP × Value)} {E : TypeId} {cs : List Value} (h : OW w B a n c L) (hp : blk w p E cs) (hE : E ≠ 27) (ho : Oth p w w') : OW w' B a n c L :=
  ownS h fun k hk => ho.other k (by
    rintro rfl
    rcases h.2 with ⟨hv, _⟩ | ⟨g, cap, cur, hv, _, hc, _⟩
    · rw [hv] at hk; cases hk
    · have e1 : g = k := by rw [hv] at hk; simpa [Value.ownBlock] using hk
      rw [e1] at hc; unfold blk at hp; rw [hc] at hp
      simp only [Option.some.injEq, Obj.cells.injEq] at hp
      exact hE hp.2.1.symm)
variable {w0 : World} {r : Nat} {a : Option Addr} {n c : Nat} {b : List UInt8} {i : Nat} {ar : Option Addr} {cr : Nat} {L : List (STP × Value)}
theorem SG.now (h : SG w0 w r a n c b i ar cr L) : RB w a n c b := RV.below h.rb h.bel (Nat.le_refl _)
theorem SG.oth {w' : World} {i' : Nat} (h : SG w0 w r a n c b i ar cr L) (hy : blk w' r 80 (eyC a n c (i', false))) (ho : Oth r w w') : SG w0 w' r a n c b i' ar cr L :=
  ⟨hy, ow_oth h.ow h.ey (by decide) ho, fun p hp => by
    obtain ⟨h1, h2, av, cv, h3, h4⟩ := h.pk p hp
    exact ⟨h1, h2, av, cv, h3, on_oth h4 h.ey (by decide) ho⟩, oth_below h.bel ho h.lo, h.rb, h.lo⟩
theorem SG.fresh {w' : World} (h : SG w0 w r a n c b i ar cr L) (hb : Below w.heap.size w w') : SG w0 w' r a n c b i ar cr L :=
  ⟨below_blk hb h.ey h.ey.lt, ownS h.ow fun k hk => hb.block k (World.ownsRow.lt h.ow k hk).2, fun p hp => by
    obtain ⟨h1, h2, av, cv, h3, h4⟩ := h.pk p hp
    exact ⟨h1, h2, av, cv, h3, ownS h4 fun k hk => hb.block k (OV.block h4 k hk).2⟩, h.bel.trans (hb.mono h.bel.size), h.rb, h.lo⟩
set_option maxHeartbeats 4000000 in
theorem rstA_c {b0 b1 t2 t3 t4 r5 n6 out7 k_8 s9 e10 t11 t12 t13 t14 t15 t16 t17 t18 t19 t20 t21 t22 t23 t24 t25 t26 t27 t28 t29 t30 t31 t32 t33 t34 t35 t36 t37 t38 t39 t40 t41 t42 t43 t44 t45 t46 t47 t48 t49 t50 t51 t52 t53 t54 t55 t56 t57 t58 t59 t60 t61 t62 t63 t64 t65 t66 t67 t68 t69 t70 t71 t72 t73 t74 t75 t76 t77 t78 t79 t80 t81 t82 t83 t84 t85 t86 t87 t88 t89 t90 : Value} {w7 : World} {B1 : KE} {sb : Nat} {cs : List Value} {e : Int} (hs : SG w0 w7 r a n c b (i + 2) ar cr L) (hsb : blk w7 sb 27 cs) (hne : sb ≠ r) (hll : L.length < 65536) (hlen : b.length = n) (hn : n ≤ 4611686018427387904)
    (hnx : nxtT b i = i + 2 + (gtE b (i, false) 2).1) (hle : nxtT b i ≤ b.length)
    (hres : (gotT b i = none ∧ e = 5) ∨ ∃ s av cv, gotT b i = some s ∧ STW s ∧ mayT s = true ∧ cs = stC s (.slice av s.picks.length cv) ∧ e = 0 ∧ ON w7 w0.heap.size av s.picks.length cv s.picks)
    (no : ∀ w', Below w0.heap.size w0 w' → gotT b i = none → K (.tuple #[.int .i64 0, .slice none 0 0, .int .i64 5]) w')
    (hB : ∀ (e2 : List Value) (w8 : World) (s : STP) (v : Value) (ar' : Option Addr) (cr' : Nat), gotT b i = some s → gd e2 7 = .slice ar' (L.length + 1) cr' → SG w0 w8 r a n c b (nxtT b i) ar' cr' (L ++ [(s, v)]) → B1 e2 w8)
    (q1 : r5 = .pointer (some ⟨r, 0, none⟩)) (q2 : e10 = .int .i64 e) (q3 : s9 = .pointer (some ⟨sb, 0, none⟩)) (q4 : k_8 = .int .i64 ((gtE b (i, false) 2).1 : Nat)) (q5 : out7 = .slice ar L.length cr) :
    leatref29_Steps_A1 K B1 ((b0 :: b1 :: t2 :: t3 :: t4 :: r5 :: n6 :: out7 :: k_8 :: s9 :: e10 :: t11 :: t12 :: t13 :: t14 :: t15 :: t16 :: t17 :: t18 :: t19 :: t20 :: t21 :: t22 :: t23 :: t24 :: t25 :: t26 :: t27 :: t28 :: t29 :: t30 :: t31 :: t32 :: t33 :: t34 :: t35 :: t36 :: t37 :: t38 :: t39 :: t40 :: t41 :: t42 :: t43 :: t44 :: t45 :: t46 :: t47 :: t48 :: t49 :: t50 :: t51 :: t52 :: t53 :: t54 :: t55 :: t56 :: t57 :: t58 :: t59 :: t60 :: t61 :: t62 :: t63 :: t64 :: t65 :: t66 :: t67 :: t68 :: t69 :: t70 :: t71 :: t72 :: t73 :: t74 :: t75 :: t76 :: t77 :: t78 :: t79 :: t80 :: t81 :: t82 :: t83 :: t84 :: t85 :: t86 :: t87 :: t88 :: t89 :: t90 :: [])) w7 := by
  subst q1 q2 q3 q4 q5
  refine leatref29_Steps_A1_r ?_
  refine bin_neq ?_
  rcases hres with ⟨hg, rfl⟩ | ⟨s, av, cv, hg, hw, hm, rfl, rfl, hon⟩
  · refine cond_t (by decide) ?_
    exact no w7 hs.bel hg
  · refine cond_f (by decide) ?_
    refine nilC_p ?_
    refine fA_Rdr_1 ?_
    refine ld1 (v := .int .i64 ((i + 2 : Nat) : Int)) (fun _ => by kernel_rfl) hs.ey rfl ?_
    refine add64 (by omega) (by omega) ?_
    refine nilC_p ?_
    refine fA_Rdr_1 ?_
    refine sto1 (fun _ => by kernel_rfl) hs.ey (by simp [eyC]) rfl fun w8 hy8 o8 => ?_
    have hy8 : blk w8 r 80 (eyC a n c (nxtT b i, false)) := by
      have e : (eyC a n c (i + 2, false)).set (0 + 1) (.int .i64 (((i + 2 : Nat) : Int) + ((gtE b (i, false) 2).1 : Nat))) = eyC a n c (nxtT b i, false) := by
        rw [hnx]; simp [eyC, i6]
      rw [e] at hy8
      exact hy8
    have hs8 := hs.oth hy8 o8
    have hsb8 := oth_blk o8 hsb hne
    have hon8 := on_oth hon hs.ey (by decide) o8
    refine ldA (n := 12) (vs := stC s (.slice av s.picks.length cv)) Tryz.underlying27 rfl (by kernel_rfl) hsb8 rfl rfl ?_
    have hB0 : w0.heap.size ≤ w8.heap.size := hs8.bel.size
    refine pshT hs8.ow rfl hB0 (by omega) fun _ a' c' w9 w10 b9 ow9 g10 ow10 b10 => ?_
    have hs9 := hs8.fresh b9
    have hon9 : ON w9 w0.heap.size av s.picks.length cv s.picks := ownS hon8 fun k hk => b9.block k (OV.block hon8 k hk).2
    refine hB _ w10 s _ a' c' hg rfl ⟨?_, by rw [List.length_append]; exact ow10, ?_, hs8.bel.trans b10, hs8.rb, hs8.lo⟩
    · have hy9 := hs9.ey
      have hlt := hy9.lt
      unfold blk at hy9 ⊢
      rw [g10.block r hlt ?_]
      · exact hy9
      · intro hh
        rcases ow9.2 with ⟨hv, _⟩ | ⟨g, cap, cur, hv, _, hc, _⟩
        · rw [hv] at hh; cases hh
        · have e1 : g = r := by rw [hv] at hh; simpa [Value.ownBlock] using hh.symm
          rw [e1, hy9] at hc
          simp only [Option.some.injEq, Obj.cells.injEq] at hc
          have : 80 = 27 := hc.2.1
          exact absurd this (by decide)
    · intro p hp
      rcases List.mem_append.1 hp with hp | hp
      · obtain ⟨h1, h2, av, cv, h3, h4⟩ := hs9.pk p hp
        exact ⟨h1, h2, av, cv, h3, own_grown_ne h4 ow9 (by decide) g10⟩
      · obtain rfl := List.mem_singleton.1 hp
        exact ⟨hw, hm, av, cv, rfl, own_grown_ne hon9 ow9 (by decide) g10⟩
end
end Go.Proofs.YtfjafbbalohmhaaGreatDoor
namespace Go.Proofs.YtfjafbbalohmhaaGreatDoor
set_option maxRecDepth 100000
open Go.RowKit
attribute [local irreducible] gtE getP badT gotT nxtT
attribute [local irreducible] bin un conv call callV blt slc fldA fld idxA idx lkp mUpd mEnt eSt rng nxt ent ext alc box bld bldS ld sto nilC mkMap mkS ifc pick rdy wts gsel sti cond retM Gives cCode cGrp cSeq cOp
section
variable {w : World} {K : KV} {a : Option Addr} {n c : Nat} {b : List UInt8}
theorem sg_pk {w0 : World} {r i : Nat} {ar : Option Addr} {cr : Nat} {L : List (STP × Value)} (h : SG w0 w r a n c b i ar cr L) : PK w L := fun p hp => by
  obtain ⟨h1, h2, av, cv, h3, h4⟩ := h.pk p hp
  exact ⟨h1, h2, av, cv, h3, OV.rv h4⟩
set_option maxHeartbeats 8000000 in
theorem rsteps29_c (hr : RB w a n c b) (hn : n ≤ 100000)
    (h : ∀ w' v, Below w.heap.size w w' → (if (eachT b).2.2 = false then v = .tuple #[.int .i64 0, .slice none 0 0, .int .i64 5] else ∃ a' c' Ls, OW w' w.heap.size a' Ls.length c' Ls ∧ PK w' Ls ∧ Ls.map (·.1) = (eachT b).1.map (·.1) ∧
      v = .tuple #[.int .i64 ((eachT b).2.1 : Nat), .slice a' Ls.length c', .int .i64 0]) → K v w') :
    call Tryz.prog 16 #[.slice a n c] K w := by
  have hlen := hr.len
  have hcap := RV.cap hr
  refine call_of leatref29_Steps_go (leatref29_Steps_in ?_)
  refine bld_of (vs := eyC a n c (0, false)) (by kernel_rfl) ?_
  refine box_of fun w1 hy b1 s1 => ?_
  have hy : blk w1 w.heap.size 80 (eyC a n c (0, false)) := hy
  have hr1 := hr.below b1 (Nat.le_refl _)
  refine rnext_c 1 hy hr1 (by omega) (Nat.zero_le _) (by simp) rfl fun w2 hy2 o2 => ?_
  have b2 : Below w.heap.size w w2 := oth_below b1 o2 (Nat.le_refl _)
  have hg1 : (gtE b (0, false) 1).1 < 256 ^ 1 := gtE_lt
  refine cvUI (by omega) (by omega) ?_
  refine nilC_p ?_
  refine fA_Rdr_2 ?_
  refine ld1 (v := .bool (gtE b (0, false) 1).2.2) (fun _ => by kernel_rfl) hy2 rfl ?_
  have no : ((gtE b (0, false) 1).2.2 = true ∨ (gtE b (0, false) 1).1 < 1 ∨ 6 < (gtE b (0, false) 1).1) → K (.tuple #[.int .i64 0, .slice none 0 0, .int .i64 5]) w2 := fun hq => by
    have e : eachT b = ([], 0, false) := by unfold eachT; simp only; rw [if_pos hq]
    rw [e] at h
    exact h w2 _ b2 (by rw [if_pos rfl])
  cases hsp : (gtE b (0, false) 1).2.2 with
  | true =>
    refine gsel_Tn ?_
    refine pick_T ?_
    refine gsel_Tn ?_
    refine pick_T ?_
    refine cond_T ?_
    exact no (.inl hsp)
  | false =>
    refine gsel_Fn ?_
    refine bin_lss ?_
    refine pick_F ?_
    by_cases hl : (gtE b (0, false) 1).1 < 1
    · refine gsel_nt (show (((gtE b (0, false) 1).1 : Nat) : Int) < 1 by omega) ?_
      refine pick_t (show (((gtE b (0, false) 1).1 : Nat) : Int) < 1 by omega) ?_
      refine cond_T ?_
      exact no (.inr (.inl hl))
    refine gsel_nf (show ¬ (((gtE b (0, false) 1).1 : Nat) : Int) < 1 by omega) ?_
    refine bin_gtr ?_
    refine pick_f (show ¬ (((gtE b (0, false) 1).1 : Nat) : Int) < 1 by omega) ?_
    by_cases hm : 6 < (gtE b (0, false) 1).1
    · refine cond_t (show (6 : Int) < (((gtE b (0, false) 1).1 : Nat) : Int) by omega) ?_
      exact no (.inr (.inr hm))
    refine cond_f (show ¬ (6 : Int) < (((gtE b (0, false) 1).1 : Nat) : Int) by omega) ?_
    have hat := gtE_ok hsp
    have e : eachT b = ((runA b 1 0).1, (if (runA b 1 0).2 then (gtE b (0, false) 1).1 else 0), (runA b 1 0).2) := by
      unfold eachT; simp only; rw [if_neg (by rw [hsp]; simp; omega)]
    rw [e] at h
    simp only at h
    have hst2 : (gtE b (0, false) 1).2 = (1, false) := Prod.ext hat.2 hsp
    rw [hst2] at hy2
    have hs2 : SG w w2 w.heap.size a n c b 1 none 0 [] := ⟨hy2, World.ownsRow_nil _ _ _ _, (fun p hp => by cases hp), b2, hr, Nat.le_refl _⟩
    generalize hrq : w.heap.size = r at *
    refine leatref29_Steps_L1_r (Inv := fun out _ _ _ _ _ _ _ _ _ _ _ _ wr => ∃ (i : Nat) (L : List (STP × Value)) (l : List (STP × Nat)) (ar : Option Addr) (cr : Nat), out = .slice ar L.length cr ∧ SG w wr r a n c b i ar cr L ∧ i ≤ b.length ∧ L.length ≤ 65536 ∧
        runA b 1 0 = (l ++ (runA b i L.length).1, (runA b i L.length).2) ∧ l.map (·.1) = L.map (·.1))
      (μ := fun out _ _ _ _ _ _ _ _ _ _ _ _ _ => 65537 - slN out) ⟨1, [], [], none, 0, rfl, hs2, by omega, by simp, rfl, rfl⟩ ?_
    rintro _ _ _ _ _ _ _ _ _ _ _ _ _ dd w3 m ⟨i, L, l, ar, cr, rfl, hs3, hi, hL, hrun, hlL⟩ hmm
    have hy3 := hs3.ey
    refine nilC_p ?_
    refine fA_Rdr_1 ?_
    refine ld1 (v := .int .i64 (i : Nat)) (fun _ => by kernel_rfl) hy3 rfl ?_
    refine lenB8 ?_
    refine bin_lss ?_
    by_cases hin : i < b.length
    · refine cond_t (by omega) ?_
      refine rnext_c 2 hy3 hs3.now (by omega) hi (by simp) rfl fun w4 hy4 o4 => ?_
      have hg2 : (gtE b (i, false) 2).1 < 256 ^ 2 := gtE_lt
      have hle2 : (gtE b (i, false) 2).2.1 ≤ b.length := gtE_le hi
      refine cvUI (by omega) (by omega) ?_
      refine nilC_p ?_
      refine fA_Rdr_2 ?_
      refine ld1 (v := .bool (gtE b (i, false) 2).2.2) (fun _ => by kernel_rfl) hy4 rfl ?_
      have b4 : Below w.heap.size w w4 := oth_below hs3.bel o4 (by omega)
      have no : ∀ w', Below w.heap.size w w' → runA b i L.length = ([], false) → K (.tuple #[.int .i64 0, .slice none 0 0, .int .i64 5]) w' := fun w' hb hq => by
        have := h w' _ (by rw [← hrq]; exact hb) (by rw [hrun, hq, if_pos rfl])
        exact this
      have bad : badT b i L.length = true → K (.tuple #[.int .i64 0, .slice none 0 0, .int .i64 5]) w4 := fun hq => no w4 b4 (runA_bad hin hq)
      cases hs4 : (gtE b (i, false) 2).2.2 with
      | true =>
        refine gsel_Tn ?_
        refine pick_T ?_
        refine gsel_Tn ?_
        refine pick_T ?_
        refine cond_T ?_
        exact bad (by unfold badT; rw [hs4]; rfl)
      | false =>
        have hat4 := gtE_ok hs4
        have hst4 : (gtE b (i, false) 2).2 = (i + 2, false) := Prod.ext hat4.2 hs4
        rw [hst4] at hy4
        have hs4' : SG w w4 r a n c b (i + 2) ar cr L := hs3.oth hy4 o4
        refine gsel_Fn ?_
        refine nilC_p ?_
        refine fA_Rdr_1 ?_
        refine ld1 (v := .int .i64 ((i + 2 : Nat) : Int)) (fun _ => by kernel_rfl) hy4 rfl ?_
        refine add64 (by omega) (by omega) ?_
        refine lenB8 ?_
        refine bin_gtr ?_
        refine pick_F ?_
        rw [hat4.2] at hle2
        by_cases hbig : b.length - (i + 2) < (gtE b (i, false) 2).1
        · have hbi : (n : Int) < ((i + 2 : Nat) : Int) + ((gtE b (i, false) 2).1 : Nat) := by omega
          refine gsel_nt hbi ?_
          refine pick_t hbi ?_
          refine cond_T ?_
          refine bad ?_
          unfold badT
          rw [hat4.2, decide_eq_true hbig]; simp
        have hbi : ¬ (n : Int) < ((i + 2 : Nat) : Int) + ((gtE b (i, false) 2).1 : Nat) := by omega
        refine gsel_nf hbi ?_
        refine lenSP ?_
        refine bin_geq ?_
        refine pick_f hbi ?_
        by_cases hkk : 65536 ≤ L.length
        · refine cond_t (show (L.length : Int) ≥ 65536 by omega) ?_
          refine bad ?_
          unfold badT
          rw [decide_eq_true hkk]; simp
        refine cond_f (show ¬ (L.length : Int) ≥ 65536 by omega) ?_
        have hbd : badT b i L.length = false := by unfold badT; rw [hs4, hat4.2, decide_eq_false hbig, decide_eq_false hkk]; rfl
        have hnx : nxtT b i = i + 2 + (gtE b (i, false) 2).1 := by unfold nxtT; rfl
        have hgot : gotT b i = getP ((b.drop (i + 2)).take (gtE b (i, false) 2).1) := by unfold gotT; rw [hat4.2]
        have hgt : getP ((b.take (nxtT b i)).drop (i + 2)) = gotT b i := by
          rw [hgot, List.drop_take, hnx, show i + 2 + (gtE b (i, false) 2).1 - (i + 2) = (gtE b (i, false) 2).1 by omega]
        have hnl : nxtT b i ≤ b.length := by omega
        have hs5 : SG w w4.drew r a n c b (i + 2) ar cr L := hs4'.fresh (Below.refl _ w4).drew
        have hr5 := hs5.now
        have hcut : RB w4.drew (if c = i + 2 then a else a.map (·.add ((i + 2) * 1))) (nxtT b i - (i + 2)) (c - (i + 2)) ((b.take (nxtT b i)).drop (i + 2)) := RB.cut hr5 (i + 2) (nxtT b i) c (by omega) (by omega) (by omega) (Nat.le_refl _)
        have hy5 := hs5.ey
        clear hbi bad hs4' hst4 o4 b4 hy4 hs3 hy3
        generalize w4.drew = w5 at *
        have got : ∀ (B : Nat) (wz : World) (v : Value), w.heap.size ≤ B → (match getP ((b.take (nxtT b i)).drop (i + 2)) with | none => v = .tuple #[.agg stp0.toArray, .int .i64 5] | some s => ∃ a' c', ON wz B a' s.picks.length c' s.picks ∧ v = .tuple #[.agg (stC s (.slice a' s.picks.length c')).toArray, .int .i64 0]) →
            ∃ (cs : List Value) (e : Int), v = .tuple #[.agg cs.toArray, .int .i64 e] ∧ cs.length = 12 ∧ (∀ u ∈ cs, u.oneCell' = true) ∧ ((gotT b i = none ∧ e = 5) ∨ ∃ s a' c', gotT b i = some s ∧ STW s ∧ mayT s = true ∧ cs = stC s (.slice a' s.picks.length c') ∧ e = 0 ∧ ON wz w.heap.size a' s.picks.length c' s.picks) := by
          intro B wz v hB hv
          rw [hgt] at hv
          cases hq : gotT b i with
          | none => rw [hq] at hv; exact ⟨stp0, 5, hv, rfl, by simp [stp0, i6, Value.oneCell'], .inl ⟨rfl, rfl⟩⟩
          | some s =>
            rw [hq] at hv
            obtain ⟨a', c', hon, hv⟩ := hv
            obtain ⟨_, _, m1, m2⟩ := step_at hbd hq
            exact ⟨stC s (.slice a' s.picks.length c'), 0, hv, rfl, by simp [stC, i6, Value.oneCell'], .inr ⟨s, a', c', rfl, m2, m1, rfl, rfl, OV.mono hon hB⟩⟩
        have no2 : ∀ w', Below w.heap.size w w' → gotT b i = none → K (.tuple #[.int .i64 0, .slice none 0 0, .int .i64 5]) w' := fun w' hb hq => no w' hb (runA_none hin hbd hq)
        have next : ∀ {e2 : List Value} {w8 : World} {s : STP} {v : Value} {ar' : Option Addr} {cr' : Nat}, gotT b i = some s → SG w w8 r a n c b (nxtT b i) ar' cr' (L ++ [(s, v)]) →
            ∃ (i' : Nat) (L' : List (STP × Value)) (l' : List (STP × Nat)) (ar2 : Option Addr) (cr2 : Nat), (Value.slice ar' (L.length + 1) cr') = .slice ar2 L'.length cr2 ∧ SG w w8 r a n c b i' ar2 cr2 L' ∧ i' ≤ b.length ∧ L'.length ≤ 65536 ∧
              runA b 1 0 = (l' ++ (runA b i' L'.length).1, (runA b i' L'.length).2) ∧ l'.map (·.1) = L'.map (·.1) := by
          intro e2 w8 s v ar' cr' hg hs8
          refine ⟨nxtT b i, L ++ [(s, v)], l ++ [(s, nxtT b i)], ar', cr', by simp, hs8, hnl, by simp; omega, ?_, by simp [hlL]⟩
          rw [hrun, runA_some hin hbd hg, List.append_assoc, List.length_append]; rfl
        have hw5 : w.heap.size ≤ w5.heap.size := hs5.bel.size
        have hlt5 := hy5.lt
        refine hReg_of (fun x => blk x r 80 (eyC a n c (i + 2, false))) hy5 ?_
        refine hld_of (fun x hx K hK => nilC_p hK) ?_
        refine hld_of (fun x hx K hK => fA_Rdr_1 hK) ?_
        refine hld_of (v := .int .i64 ((i + 2 : Nat) : Int)) (fun x hx K hK => ld1 (fun _ => by kernel_rfl) hx rfl hK) ?_
        refine hld_of (fun x hx K hK => nilC_p hK) ?_
        refine hld_of (fun x hx K hK => fA_Rdr_1 hK) ?_
        refine hld_of (v := .int .i64 ((i + 2 : Nat) : Int)) (fun x hx K hK => ld1 (fun _ => by kernel_rfl) hx rfl hK) ?_
        refine hld_of (v := .int .i64 ((nxtT b i : Nat) : Int)) (fun x hx K hK => add64 (by omega) (by omega) (by rw [show ((i + 2 : Nat) : Int) + ((gtE b (i, false) 2).1 : Nat) = ((nxtT b i : Nat) : Int) by omega]; exact hK)) ?_
        refine hld_of (v := .slice (if c = i + 2 then a else a.map (·.add ((i + 2) * 1))) (nxtT b i - (i + 2)) (c - (i + 2))) (fun x hx K hK => slcLMt hcap (by omega) (by omega) hK) ?_
        refine ⟨?_, ?_⟩
        · refine rget29_c hcut (by omega) fun w6 v b6 hv => ?_
          obtain ⟨cs, e, rfl, hl12, h1c, hres⟩ := got _ w6 v hw5 hv
          refine hReg_of (fun _ => True) trivial ?_
          refine hld_of (fun x hx K hK => ext_a hK) ?_
          refine hld_of (fun x hx K hK => ext_b hK) ?_
          refine alc_of (z := .agg stp0.toArray) (by kernel_rfl) fun w7 h7 b7 s7 => ?_
          refine hSub_same trivial ?_
          refine stoA (n := 12) (vs := cs) (by kernel_rfl) hl12 h7 (by simp [stp0, Value.cells]) h1c fun w8 h8 o8 => ?_
          refine hSub_same trivial ?_
          have h8 : blk w8 w6.heap.size 27 cs := by
            rw [List.take_zero, List.nil_append, List.drop_of_length_le (by simp [stp0, Value.cells]), List.append_nil] at h8
            exact h8
          have b68 : Below w6.heap.size w6 w8 := b7.trans o8.below
          have hsz6 := b6.size
          have hs8 := (hs5.fresh b6).fresh b68
          refine rstA_c (sb := w6.heap.size) (cs := cs) (e := e) hs8 h8 (by omega) (by omega) hlen (by omega) hnx hnl ?_ no2 ?_ rfl rfl rfl rfl rfl
          · rcases hres with hres | ⟨s, a', c', g1, g2, g3, g4, g5, g6⟩
            · exact .inl hres
            · exact .inr ⟨s, a', c', g1, g2, g3, g4, g5, ownS g6 fun k hk => b68.block k (OV.block g6 k hk).2⟩
          · intro e2 w9 s v ar' cr' hg he2 hs9
            obtain ⟨i', L', l', ar2, cr2, q1, q2⟩ := next (e2 := e2) hg hs9
            rw [he2]
            refine ⟨⟨i', L', l', ar2, cr2, q1, q2⟩, ?_⟩
            rw [hmm]; show 65537 - (L.length + 1) < 65537 - L.length; omega
        · refine alc_of (z := .agg stp0.toArray) (by kernel_rfl) fun w6 h6 b6 s6 => ?_
          refine hSub_same (below_blk b6 hy5 hlt5) ?_
          refine rget29_c (hcut.below b6 (Nat.le_refl _)) (by omega) fun w7 v b7 hv => ?_
          obtain ⟨cs, e, rfl, hl12, h1c, hres⟩ := got _ w7 v (by omega) hv
          refine hReg_of (fun _ => True) trivial ?_
          refine hld_of (fun x hx K hK => ext_a hK) ?_
          refine hld_of (fun x hx K hK => ext_b hK) ?_
          have h7 := below_blk b7 h6 h6.lt
          refine stoA (n := 12) (vs := cs) (by kernel_rfl) hl12 h7 (by simp [stp0, Value.cells]) h1c fun w8 h8 o8 => ?_
          refine hSub_same trivial ?_
          have h8 : blk w8 w5.heap.size 27 cs := by
            rw [List.take_zero, List.nil_append, List.drop_of_length_le (by simp [stp0, Value.cells]), List.append_nil] at h8
            exact h8
          have b58 : Below w5.heap.size w5 w8 := (b6.trans (b7.mono (by omega))).trans o8.below
          have hs8 := hs5.fresh b58
          refine rstA_c (sb := w5.heap.size) (cs := cs) (e := e) hs8 h8 (by omega) (by omega) hlen (by omega) hnx hnl ?_ no2 ?_ rfl rfl rfl rfl rfl
          · rcases hres with hres | ⟨s, a', c', g1, g2, g3, g4, g5, g6⟩
            · exact .inl hres
            · exact .inr ⟨s, a', c', g1, g2, g3, g4, g5, on_oth g6 h7 (by decide) o8⟩
          · intro e2 w9 s v ar' cr' hg he2 hs9
            obtain ⟨i', L', l', ar2, cr2, q1, q2⟩ := next (e2 := e2) hg hs9
            rw [he2]
            refine ⟨⟨i', L', l', ar2, cr2, q1, q2⟩, ?_⟩
            rw [hmm]; show 65537 - (L.length + 1) < 65537 - L.length; omega
    · refine cond_f (by omega) ?_
      refine leatref29_Steps_P1_r ?_
      rw [hrun, runA_end hin, List.append_nil] at h
      refine h w3 _ (by rw [← hrq]; exact hs3.bel) ?_
      rw [if_neg (by simp)]
      exact ⟨ar, cr, L, by rw [← hrq]; exact hs3.ow, sg_pk hs3, hlL.symm, rfl⟩
end
end Go.Proofs.YtfjafbbalohmhaaGreatDoor
namespace Go.Proofs.YtfjafbbalohmhaaGreatDoor
set_option maxRecDepth 100000
open Go.RowKit
def WkOK (P : Program) (f : FuncId) (W : World) : Prop := ∀ (w : World) (K : KV), Below W.heap.size W w → (∀ w', Below w.heap.size w w' → K (.bool true) w') → call P f #[] K w
theorem WkOK.use {P : Program} {f : FuncId} {W w : World} {K : KV} (hk : WkOK P f W) (hb : Below W.heap.size W w) (h : ∀ w', Below W.heap.size W w' → K (.bool true) w') : call P f #[] K w :=
  hk w K hb fun w' b => h w' (hb.trans (b.mono hb.size))
theorem RV.pre {w : World} {a : Option Addr} {n c m : Nat} {xs : List Value} (h : RV w a n c xs) (hm : m ≤ n) : RV w a m c (xs.take m) :=
  ⟨by rw [List.length_take, h.len]; omega, Nat.le_trans hm h.cap, fun h0 => h.some_ (by omega), fun ha => by have := h.nil_ ha; omega, fun i v hv => by
    rw [List.getElem?_take] at hv
    split at hv
    · exact h.cell i v hv
    · cases hv⟩
end Go.Proofs.YtfjafbbalohmhaaGreatDoor
namespace Go.Proofs.YtfjafbbalohmhaaGreatDoor
set_option maxRecDepth 100000
open Go.RowKit
def GU (w0 : World) (q : Nat) (l : List (STP × Nat)) (w : World) : Prop := ∃ a c, blk w (q + 1) 25 [.slice a (l.length + 1) c] ∧ ON w q a (l.length + 1) c ((endsT l).map fun e => ((e : Nat) : Int)) ∧ (∀ k, (Value.slice a (l.length + 1) c).ownBlock = some k → k ≠ q + 2 ∧ k ≠ q + 1) ∧ Below q w0 w ∧ q + 2 < w.heap.size
attribute [local irreducible] bin un conv call callV blt slc fldA fld idxA idx lkp mUpd mEnt eSt rng nxt ent ext alc box bld bldS ld sto nilC mkMap mkS ifc pick rdy wts gsel sti cond retM Gives cCode cGrp cSeq cOp
section
variable {w : World} {K : KV}
theorem upto1_c {w0 : World} {q : Nat} {l : List (STP × Nat)} {s : STP} {a' : Option Addr} {c' : Nat} {e : Nat} (hg : GU w0 q l w) (hl : l.length < 65536)
    (h : ∀ w2 u, GU w0 q (l ++ [(s, e)]) w2 → w2.heap[q + 2]? = w.heap[q + 2]? → (∀ k, k < q → w2.heap[k]? = w.heap[k]?) → w.heap.size ≤ w2.heap.size → K u w2) :
    callV Tryz.prog (.func (.func 33) #[] #[.pointer (some ⟨q + 1, 0, none⟩)]) #[.agg (stC s (.slice a' s.picks.length c')).toArray, .int .i64 (e : Nat)] K w := by
  obtain ⟨a, c, hb, ho, hne, bel, hlt⟩ := hg
  refine callV_of rfl (call_of trace_Upto_1_go (trace_Upto_1_in ?_))
  refine box_of fun w1 h1 b1 s1 => ?_
  have hb1 := below_blk b1 hb hb.lt
  refine ld1 (v := .slice a (l.length + 1) c) (fun _ => by kernel_rfl) hb1 rfl ?_
  refine bldSG (vs := [.int .i64 (e : Nat)]) Tryz.underlying25 (s := 1) (by kernel_rfl) (by kernel_rfl) (by omega) rfl (by simp) (by simp) (by simp) (by simp [Value.cells]) fun w2 h2 b2 s2 => ?_
  have h2 : blk w2 w1.heap.size 3 [i6 (e : Nat)] := by simpa [Value.cells, i6] using h2
  obtain ⟨i, hi, hz, hsz, hby⟩ := info_parts info_int3
  have b02 : Below w.heap.size w w2 := b1.trans (b2.mono (by omega))
  have ho2 : ON w2 q a (l.length + 1) c ((endsT l).map fun e => ((e : Nat) : Int)) := ownS ho fun k hk => b02.block k (OV.block ho k hk).2
  refine app_at (base := q) (s := 1) (m := 1) (ys := [i6 (e : Nat)]) Tryz.underlying25 hi hz hsz hby rfl (by omega) ho2 h2 rfl (by simp [i6, Value.oneCell']) (by omega) (by omega) (by omega) ?_
  intro a2 c2 w3 ho3 hgr hown
  have hsz3 := hgr.size
  have hnb : ∀ k, k < w2.heap.size → (Value.slice a (l.length + 1) c).ownBlock ≠ some k → w3.heap[k]? = w2.heap[k]? := fun k hk hn => hgr.block k hk (fun hh => hn hh.symm)
  have hb3 : blk w3 (q + 1) 25 [.slice a (l.length + 1) c] := by
    have hb2 := below_blk b2 hb1 hb1.lt
    unfold blk at hb2 ⊢
    rw [hnb (q + 1) (by omega) (fun hh => (hne _ hh).2 rfl)]; exact hb2
  refine sto1 (fun _ => by kernel_rfl) hb3 (by simp) rfl fun w4 hb4 o4 => ?_
  have hown4 : ∀ k, (Value.slice a2 (l.length + 1 + 1) c2).ownBlock = some k → k ≠ q + 2 ∧ k ≠ q + 1 := by
    intro k hk
    rcases hown with hh | hh
    · rw [hh] at hk; exact hne k hk
    · rw [hh] at hk; cases hk; omega
  have hlow : ∀ k, k < w.heap.size → (Value.slice a (l.length + 1) c).ownBlock ≠ some k → k ≠ q + 1 → w4.heap[k]? = w.heap[k]? := fun k hk hn hk1 => by
    rw [o4.other k hk1, hnb k (by omega) hn, b02.block k hk]
  have hown0 : ∀ k, (Value.slice a (l.length + 1) c).ownBlock = some k → q ≤ k := fun k hk => (OV.block ho k hk).1
  refine h w4 _ ⟨a2, c2, ?_, ?_, ?_, ?_, ?_⟩ ?_ ?_ ?_
  · rw [List.length_append]; exact hb4
  · rw [List.length_append]
    have e1 : ((endsT (l ++ [(s, e)])).map fun e => ((e : Nat) : Int)).map i6 = ((endsT l).map fun e => ((e : Nat) : Int)).map i6 ++ [i6 (e : Nat)] := by simp [endsT]
    show World.ownsRow w4 q _ 1 _ _ _
    rw [e1]
    exact ownS ho3 fun k hk => o4.other k (hown4 k hk).2
  · rw [List.length_append]; exact hown4
  · refine bel.trans ⟨?_, ?_, ?_, ?_, fun k hk => hlow k (by omega) (fun hh => by have := hown0 k hh; omega) (by omega)⟩
    · rw [o4.os, hgr.os, b02.os]
    · rw [o4.tape, hgr.tape, b02.tape]
    · rw [o4.output, hgr.output, b02.output]
    · rw [o4.size]; omega
  · rw [o4.size]; omega
  · exact hlow (q + 2) hlt (fun hh => (hne _ hh).1 rfl) (by omega)
  · exact fun k hk => hlow k (by omega) (fun hh => by have := hown0 k hh; omega) (by omega)
  · rw [o4.size]; omega
set_option maxHeartbeats 2000000 in
theorem tupto_c {a : Option Addr} {n c : Nat} {b : List UInt8} {kk : Int} (hr : RB w a n c b) (hn : n ≤ 100000)
    (h : ∀ w' v, Below w.heap.size w w' → (if (eachT b).2.2 = false then v = .tuple #[.slice none 0 0, .int .i64 5] else if kk < 0 ∨ ((eachT b).1.length : Int) < kk then v = .tuple #[.slice none 0 0, .int .i64 1]
      else ∃ a' n' c', OB w' w.heap.size a' n' c' (bytesT (eachT b).2.1 (((eachT b).1.take kk.toNat).map (·.1))) ∧ v = .tuple #[.slice a' n' c', .int .i64 0]) → K v w') :
    call Tryz.prog 17 #[.slice a n c, .int .i64 kk] K w := by
  have hlen := hr.len
  refine call_of trace_Upto_go (trace_Upto_in ?_)
  refine bldSG (vs := [.int .i64 1]) Tryz.underlying25 (s := 1) (by kernel_rfl) (by kernel_rfl) (by omega) rfl (by simp) (by simp) (by simp) (by simp [Value.cells]) fun w1 h1 b1 s1 => ?_
  have h1 : blk w1 w.heap.size 3 [i6 1] := by simpa [Value.cells, i6] using h1
  refine alc_of (z := .slice none 0 0) (by kernel_rfl) fun w2 h2 b2 s2 => ?_
  have h2 : blk w2 w1.heap.size 25 [.slice none 0 0] := h2
  refine sto1 (fun _ => by kernel_rfl) h2 (by simp) rfl fun w3 h3 o3 => ?_
  have hq : w1.heap.size = w.heap.size + 1 := s1
  have hs3 : w3.heap.size = w.heap.size + 2 := by rw [o3.size, s2, s1]
  have h1' : blk w3 w.heap.size 3 [i6 1] := oth_blk o3 (below_blk b2 h1 h1.lt) (by omega)
  have b03 : Below w.heap.size w w3 := oth_below (b1.trans (b2.mono (by omega))) o3 (by omega)
  have hr3 := hr.below b03 (Nat.le_refl _)
  rw [hq]
  rw [hq] at h3
  generalize hqq : w.heap.size = q at *
  have hrq : ∀ i, i < n → (slotA a i).block < q := fun i hi => by have := RV.blk hr i hi; omega
  refine each_c hr3 (by omega) (fun l w' => GU w q l w' ∧ RB w' a n c b) ?_ ?_ ?_ ?_
  · intro w' bw hlt
    rw [hs3] at bw hlt
    refine ⟨⟨some ⟨q, 0, none⟩, 1, below_blk bw h3 (by omega), ?_, fun k hk => ?_, b03.trans (bw.mono (by omega)), hlt⟩, hr3.below bw (by omega)⟩
    · exact ownLit (below_blk bw h1' (by omega)) (by simp [endsT]) (Nat.le_refl _) (by simp [maxLen])
    · have hkq : q = k := by simpa [Value.ownBlock] using hk
      omega
  · rintro l w4 w5 ⟨⟨a2, c2, g1, g2, g3, g4, g5⟩, g6⟩ o
    rw [hs3] at o
    refine ⟨⟨a2, c2, ?_, ?_, g3, ?_, Nat.lt_of_lt_of_le g5 o.size⟩, ?_⟩
    · unfold blk at g1 ⊢; rw [o.other _ (by omega) (by omega)]; exact g1
    · exact ownS g2 fun k hk => o.other k (OV.block g2 k hk).2 (g3 k hk).1
    · exact g4.trans ⟨o.os, o.tape, o.output, o.size, fun k hk => o.other k (by have := g4.size; omega) (by omega)⟩
    · exact rb_same g6 (fun k hk hne => o.other k hk hne) (fun i hi => by have := hrq i hi; omega)
  · rintro l s e w4 a' c' K2 hl ⟨g1, g2⟩ hrn hrb hlt hk
    rw [hs3] at hk
    refine upto1_c g1 hl fun w5 u g3 hsame hlow hsz => ?_
    exact hk w5 u ⟨g3, rb_same2 hrb fun i hi => hlow _ (hrq i hi)⟩ hsame (rb_same2 hrb fun i hi => hlow _ (hrq i hi)) hsz
  · rintro w4 ⟨⟨a2, c2, g1, g2, g3, g4, g5⟩, g6⟩ _
    refine ext_a ?_
    refine ext_b ?_
    refine un_not ?_
    cases he : (eachT b).2.2 with
    | false =>
      refine cond_T ?_
      exact h w4 _ g4 (by rw [he, if_pos rfl])
    | true =>
      refine cond_F ?_
      rw [he] at h
      refine bin_lss ?_
      refine trace_Upto_A1_r ?_
      by_cases hk0 : kk < 0
      · refine cond_t hk0 ?_
        refine trace_Upto_P2_r ?_
        refine cond_t hk0 ?_
        exact h w4 _ g4 (by rw [if_neg (by simp), if_pos (.inl hk0)])
      · refine cond_f hk0 ?_
        refine ld1 (v := .slice a2 ((eachT b).1.length + 1) c2) (fun _ => by kernel_rfl) g1 rfl ?_
        refine len_slc Tryz.underlying25 ?_
        refine bin_geq ?_
        refine trace_Upto_P2_r ?_
        by_cases hk1 : (((eachT b).1.length : Nat) : Int) < kk
        · refine cond_t (by push_cast; omega) ?_
          exact h w4 _ g4 (by rw [if_neg (by simp), if_pos (.inr hk1)])
        · refine cond_f (by push_cast; omega) ?_
          refine trace_Upto_P1_r ?_
          obtain ⟨k, rfl⟩ := Int.eq_ofNat_of_zero_le (show 0 ≤ kk by omega)
          have hkl : k ≤ (eachT b).1.length := by omega
          obtain ⟨e1, e2, e3, e4, e5⟩ := each_at he hkl
          generalize hev : (endsT (eachT b).1).getD k 0 = e at e1 e2
          refine empty8 w4.heap.size (Nat.le_refl _) fun a5 w5 o5 b5 => ?_
          refine ld1 (v := .slice a2 ((eachT b).1.length + 1) c2) (fun _ => by kernel_rfl) (below_blk b5 g1 g1.lt) rfl ?_
          have hon5 : ON w5 q a2 ((eachT b).1.length + 1) c2 ((endsT (eachT b).1).map fun e => ((e : Nat) : Int)) := ownS g2 fun k hk => b5.block k (OV.block g2 k hk).2
          have hrn5 : RN w5 a2 ((eachT b).1.length + 1) c2 ((endsT (eachT b).1).map fun e => ((e : Nat) : Int)) := OV.rv hon5
          have hx : (((endsT (eachT b).1).map fun e => ((e : Nat) : Int)).map i6)[k]? = some (i6 (e : Nat)) := by
            have hkl2 : k < (endsT (eachT b).1).length := by simp [endsT]; omega
            rw [← hev]; simp [List.getElem?_eq_getElem hkl2]
          refine idx_slc Tryz.underlying25 (fun _ => by kernel_rfl) (by omega) (by push_cast; omega) hrn5.some_ ?_
          rw [Int.toNat_natCast]
          refine ld_cell (fun _ => by kernel_rfl) (hrn5.cell _ _ hx) ?_
          have hcap := RV.cap hr
          refine slcTo Tryz.underlying28 size_u8 (by omega) ?_
          have hpre : RB w5 a e c (b.take e) := by
            have := RV.pre (m := e) (RB.rv (g6.below b5 (Nat.le_refl _))) (by omega)
            rw [← List.map_take] at this
            exact this
          refine app8 w4.heap.size o5 hpre (by omega) b5.size fun a6 c6 w6 o6 gr6 => ?_
          have b6 : Below w4.heap.size w4 w6 := b5.trans (below_of_grown gr6 b5.size (fun k hk => (OV.block o5 k hk).1))
          rw [List.nil_append, e2] at o6
          have hq4 : q ≤ w4.heap.size := by omega
          refine h w6 _ (g4.trans (b6.mono hq4)) ?_
          rw [if_neg (by simp), if_neg (by simp; omega)]
          exact ⟨a6, _, c6, OV.mono o6 hq4, rfl⟩
end
end Go.Proofs.YtfjafbbalohmhaaGreatDoor
namespace Go.Proofs.YtfjafbbalohmhaaGreatDoor
set_option maxRecDepth 100000
open Go.RowKit

theorem setCell_block {w : World} {b o : Nat} {u : Value} {cur : Array Value} {e : TypeId} {fr : Nat × Nat} (h : w.heap[b]? = some (.cells cur e fr)) : (w.setCell ⟨b, o, none⟩ u).heap[b]? = some (.cells (cur.setIfInBounds o u) e fr) := by
  have hlt := (Array.getElem?_eq_some_iff.1 h).1
  have h' : w.heap[b] = .cells cur e fr := by simpa [Array.getElem?_eq_getElem hlt] using h
  show (w.heap.modify b _)[b]? = _
  rw [Array.getElem?_eq_getElem (by simpa using hlt), Array.getElem_modify_self, h']
  rfl

theorem OB.set {w : World} {B : Nat} {a : Option Addr} {n c : Nat} {l : List UInt8} (h : OB w B a n c l) (b o : Nat) (z : UInt8) : ∃ l', OB (w.setCell ⟨b, o, none⟩ (u8v z)) B a n c l' := by
  rcases h.2 with ⟨hv, hn⟩ | ⟨g, cap, cur, hv, hb, hh, h1, h2, h3, h4⟩
  · have hl : l = [] := List.eq_nil_of_length_eq_zero (by rw [h.len, hn])
    subst hl
    exact ⟨[], h.1, .inl ⟨hv, hn⟩⟩
  · by_cases hg : g = b
    · subst hg
      refine ⟨l.set o z, by simpa using h.1, .inr ⟨g, cap, cur.setIfInBounds o (u8v z), hv, hb, setCell_block hh, h1, h2, by simpa using h3, ?_⟩⟩
      rw [Array.toList_setIfInBounds, List.take_set, h4, List.map_set]
    · refine ⟨l, h.1, .inr ⟨g, cap, cur, hv, hb, ?_, h1, h2, h3, h4⟩⟩
      rw [Below.heap_setCell w _ _ g hg]; exact hh

theorem OB.max {w : World} {B : Nat} {a : Option Addr} {n c : Nat} {l : List UInt8} (h : OB w B a n c l) : n ≤ 9223372036854775807 := by
  rcases h.2 with ⟨hv, hn⟩ | ⟨g, cap, cur, hv, hb, hh, h1, h2, h3, h4⟩
  · omega
  · simp only [maxLen] at h2; omega

structure OBX (w : World) (B : Nat) (a : Option Addr) (n c : Nat) (vs : List (Option Addr × Nat × Nat)) : Prop where
  row : OV w B 28 a n c (vs.map slv)
  each : ∀ (i : Nat) (v : Option Addr × Nat × Nat), vs[i]? = some v → ∃ l, OB w B v.1 v.2.1 v.2.2 l

theorem OBX.below {w w' : World} {B D : Nat} {a : Option Addr} {n c : Nat} {vs : List (Option Addr × Nat × Nat)} (h : OBX w B a n c vs) (hb : Below D w w') (hD : w.heap.size ≤ D) : OBX w' B a n c vs :=
  ⟨h.row.below hb hD, fun i v hv => by obtain ⟨l, hl⟩ := h.each i v hv; exact ⟨l, hl.below hb hD⟩⟩
theorem OBX.mono {w : World} {B B' : Nat} {a : Option Addr} {n c : Nat} {vs : List (Option Addr × Nat × Nat)} (h : OBX w B a n c vs) (hB : B' ≤ B) : OBX w B' a n c vs :=
  ⟨h.row.mono hB, fun i v hv => by obtain ⟨l, hl⟩ := h.each i v hv; exact ⟨l, OV.mono hl hB⟩⟩
theorem OBX.set {w : World} {B : Nat} {a : Option Addr} {n c : Nat} {vs : List (Option Addr × Nat × Nat)} (h : OBX w B a n c vs) (b o : Nat) (z : UInt8) (hb : ∃ cur, w.heap[b]? = some (.cells cur 5 (0, 0))) :
    OBX (w.setCell ⟨b, o, none⟩ (u8v z)) B a n c vs := by
  refine ⟨ownsRow_setCell_other h.row ?_ _, fun i v hv => by obtain ⟨l, hl⟩ := h.each i v hv; exact hl.set b o z⟩
  obtain ⟨cur, hc⟩ := hb
  rcases h.row.2 with ⟨hv, _⟩ | ⟨g, cap, cur2, hv, _, hh, _⟩
  · rw [hv]; simp [Value.ownBlock]
  · rw [hv]
    simp only [Value.ownBlock, ne_eq, Option.some.injEq]
    intro he
    rw [he, hc] at hh
    simp at hh

section
variable {w : World} {K : KV}

theorem xor8 {x : Int} {v : Int} {t : TypeId} {cx cy : Bool} (h : ∀ u, (∃ z : UInt8, u = u8v z) → K u w) : bin Tryz.prog .xor t cx cy (.int .u8 x) (.int .u8 v) K w := by
  refine bin_xor (h _ ?_)
  refine ⟨UInt8.ofNat (bitsOp .xor .u8 x v).toNat, ?_⟩
  unfold bitsOp
  simp only [u8v, UInt8.toNat_ofNat']
  rw [wrap_u8]
  congr 1
  omega

end

section
attribute [local irreducible] bin un conv call callV blt slc fldA fld idxA idx lkp mUpd mEnt eSt rng nxt ent ext alc box bld bldS ld sto nilC mkMap mkS ifc pick rdy wts gsel sti cond retM Gives cCode cGrp cSeq cOp
theorem idxB {w : World} {K : KV} {B : Nat} {a : Option Addr} {n c i : Nat} {l : List UInt8} {k : IntKind} (ho : OB w B a n c l) (hi : i < n) (h : w.cell? (slotA a i) = some (.int .u8 ((l.getD i 0).toNat : Int)) → K (.pointer (some (slotA a i))) w) :
    idxA Tryz.prog 28 (.slice a n c) (.int k (i : Nat)) K w := by
  refine idx8 ho.rb (by omega) (by omega) ?_
  rw [Int.toNat_natCast]; exact h
theorem OB.oth {w w' : World} {g B : Nat} {a : Option Addr} {n c : Nat} {l : List UInt8} (h : OB w B a n c l) (ho : Oth g w w') (hg : g < B) : OB w' B a n c l := by
  refine ⟨h.1, ?_⟩
  rcases h.2 with h2 | ⟨k, cap, cur, hv, hb, hh, r⟩
  · exact .inl h2
  · exact .inr ⟨k, cap, cur, hv, hb, (ho.other k (by omega)).trans hh, r⟩
theorem OBB.oth {w w' : World} {g B : Nat} {a : Option Addr} {n c : Nat} {vs : List (Option Addr × Nat × Nat)} {L : List (List UInt8)} (h : OBB w B a n c vs L) (ho : Oth g w w') (hg : g < B) : OBB w' B a n c vs L := by
  refine ⟨⟨h.row.1, ?_⟩, h.len, fun i v l hv hl => (h.each i v l hv hl).oth ho hg⟩
  rcases h.row.2 with h2 | ⟨k, cap, cur, hv, hb, hh, r⟩
  · exact .inl h2
  · exact .inr ⟨k, cap, cur, hv, hb, (ho.other k (by omega)).trans hh, r⟩
theorem stoO {w : World} {K : KV} {B : Nat} {a : Option Addr} {n c i : Nat} {l : List UInt8} {v : Value} (ho : OB w B a n c l) (hi : i < n) (hv : ∃ z : UInt8, v = u8v z)
    (h : ∀ w' g l', (∀ ad, a = some ad → ad.block = g) → B ≤ g → g < w.heap.size → OB w' B a n c l' → Oth g w w' → K undef w') : sto Tryz.prog 5 (.pointer (some (slotA a i))) v K w := by
  have hl := ho.len
  obtain ⟨z, rfl⟩ := hv
  rcases ho.2 with ⟨hv, hn⟩ | ⟨g, cap, cur, hv, hb, hh, h1, h2, h3, h4⟩
  · omega
  · cases hv
    have hb2 : blk w g 5 cur.toList := hh
    rw [slotA_some]
    refine sto1 size_u8 hb2 (by simp; omega) rfl ?_
    intro w' hb' ho'
    refine h w' g (l.set i z) (fun ad ha => by cases ha; rfl) hb hb2.lt ⟨by simpa using ho.1, .inr ⟨g, c, (cur.toList.set (0 + i) (u8v z)).toArray, rfl, hb, hb', h1, h2, by simpa using h3, ?_⟩⟩ ho'
    rw [Nat.zero_add, List.take_set, h4, List.map_set]

end
end Go.Proofs.YtfjafbbalohmhaaGreatDoor
namespace Go.Proofs.YtfjafbbalohmhaaGreatDoor
open Go.RowKit
set_option maxRecDepth 100000

def leatlaw29_TraceRaw_P1 (K : KV) : KE := cCode Tryz.prog (cd Tryz.f5 [1, 1, 1, 1]) (retK Tryz.prog Tryz.f5.results.toList K) (fun _ _ _ => False) (retK Tryz.prog Tryz.f5.results.toList K)
def leatlaw29_TraceRaw_L1 (K : KV) : KE := cCode Tryz.prog (cd Tryz.f5 [1, 1, 1, 0, 1, 0]) (leatlaw29_TraceRaw_P1 K) (fun i => @Bool.rec (fun _ => KE) ((fun _ _ _ => False) i) (leatlaw29_TraceRaw_P1 K) (Nat.beq i 0)) (retK Tryz.prog Tryz.f5.results.toList K)
def leatlaw29_TraceRaw_P2 (K : KV) (B1 : KE) : KE := cCode Tryz.prog (cd Tryz.f5 [1, 1, 1, 0, 1, 0, 0, 1, 1]) B1 (fun i => @Bool.rec (fun _ => KE) ((fun _ _ _ => False) i) (leatlaw29_TraceRaw_P1 K) (Nat.beq i 0)) (retK Tryz.prog Tryz.f5.results.toList K)
def leatlaw29_TraceRaw_A1 (K : KV) (B1 : KE) : KE := cCode Tryz.prog (cd Tryz.f5 [1, 1, 1, 0, 1, 0, 0, 1, 0]) (leatlaw29_TraceRaw_P2 K B1) (fun i => @Bool.rec (fun _ => KE) ((fun _ _ _ => False) i) (leatlaw29_TraceRaw_P1 K) (Nat.beq i 0)) (retK Tryz.prog Tryz.f5.results.toList K)
def leatlaw29_TraceRaw_P3 (K : KV) : KE := cCode Tryz.prog (cd Tryz.f5 [1, 1, 1, 1, 1, 1, 1]) (retK Tryz.prog Tryz.f5.results.toList K) (fun _ _ _ => False) (retK Tryz.prog Tryz.f5.results.toList K)
def leatlaw29_TraceRaw_A2 (K : KV) : KE := cCode Tryz.prog (cd Tryz.f5 [1, 1, 1, 1, 1, 1, 0, 1]) (leatlaw29_TraceRaw_P3 K) (fun _ _ _ => False) (retK Tryz.prog Tryz.f5.results.toList K)
def leatlaw29_TraceRaw_P4 (K : KV) : KE := cCode Tryz.prog (cd Tryz.f5 [1, 1, 1, 1, 1, 1, 1, 1, 1, 1]) (retK Tryz.prog Tryz.f5.results.toList K) (fun _ _ _ => False) (retK Tryz.prog Tryz.f5.results.toList K)
def leatlaw29_TraceRaw_A3 (K : KV) : KE := cCode Tryz.prog (cd Tryz.f5 [1, 1, 1, 1, 1, 1, 1, 1, 1, 0, 1, 0, 1]) (leatlaw29_TraceRaw_P4 K) (fun _ _ _ => False) (retK Tryz.prog Tryz.f5.results.toList K)
theorem leatlaw29_TraceRaw_k {K : KV} {raw0 n1 l2 at3 by4 k_5 : Value} {w : World}
    (h : blt Tryz.prog Builtin.len #[28] 3 #[false] #[raw0] (fun A4 w =>
    bin Tryz.prog BinOp.gtr 3 false true A4 (Value.int IntKind.i64 4000) (fun A5 w =>
    gsel A5 false (fun k28 =>
    blt Tryz.prog Builtin.len #[40] 3 #[false] #[l2] (fun A8 w =>
    bin Tryz.prog BinOp.gtr 3 false true A8 (Value.int IntKind.i64 10) (fun A9 w =>
    k28 [l2, A8, A9] w) w) w)
    (fun k => k [undef, undef, undef] w) (fun us28 w =>
    pick A5 (Value.bool true) (gd us28 2) (fun C0 w =>
    cond C0
      (call Tryz.prog 7 #[] (fun C1 w =>
      K C1 w) w)
      ((cCode Tryz.prog (cd Tryz.f5 [1, 1, 1, 0, 1, 0]) (cCode Tryz.prog (cd Tryz.f5 [1, 1, 1, 1]) (retK Tryz.prog Tryz.f5.results.toList K) (fun _ _ _ => False) (retK Tryz.prog Tryz.f5.results.toList K)) (fun i => @Bool.rec (fun _ => KE) ((fun _ _ _ => False) i) (cCode Tryz.prog (cd Tryz.f5 [1, 1, 1, 1]) (retK Tryz.prog Tryz.f5.results.toList K) (fun _ _ _ => False) (retK Tryz.prog Tryz.f5.results.toList K)) (Nat.beq i 0)) (retK Tryz.prog Tryz.f5.results.toList K)) (raw0::n1::l2::at3::by4::k_5::undef::undef::undef::undef::undef::undef::(Value.bool false)::(Value.slice none 0 0)::(Value.int IntKind.i64 0)::undef::undef::undef::undef::undef::undef::undef::undef::undef::raw0::A4::A5::A5::(gd us28 0)::(gd us28 1)::(gd us28 2)::C0::undef::undef::undef::undef::undef::undef::undef::undef::undef::undef::undef::undef::undef::undef::undef::undef::undef::undef::undef::undef::undef::undef::undef::undef::undef::undef::undef::undef::undef::undef::undef::undef::undef::undef::undef::undef::undef::undef::undef::undef::undef::undef::undef::undef::undef::undef::undef::undef::undef::undef::undef::undef::undef::undef::undef::undef::undef::undef::undef::undef::undef::undef::undef::undef::undef::undef::undef::undef::undef::undef::undef::undef::undef::undef::undef::undef::undef::undef::undef::undef::undef::undef::undef::undef::undef::undef::undef::undef::undef::undef::undef::undef::undef::undef::undef::undef::undef::undef::undef::undef::undef::undef::undef::undef::undef::[]) w)) w)) w) w) :
    cCode Tryz.prog (cd Tryz.f5 []) (retK Tryz.prog Tryz.f5.results.toList K) (fun _ _ _ => False) (retK Tryz.prog Tryz.f5.results.toList K) (raw0::n1::l2::at3::by4::k_5::undef::undef::undef::undef::undef::undef::undef::undef::undef::undef::undef::undef::undef::undef::undef::undef::undef::undef::undef::undef::undef::undef::undef::undef::undef::undef::undef::undef::undef::undef::undef::undef::undef::undef::undef::undef::undef::undef::undef::undef::undef::undef::undef::undef::undef::undef::undef::undef::undef::undef::undef::undef::undef::undef::undef::undef::undef::undef::undef::undef::undef::undef::undef::undef::undef::undef::undef::undef::undef::undef::undef::undef::undef::undef::undef::undef::undef::undef::undef::undef::undef::undef::undef::undef::undef::undef::undef::undef::undef::undef::undef::undef::undef::undef::undef::undef::undef::undef::undef::undef::undef::undef::undef::undef::undef::undef::undef::undef::undef::undef::undef::undef::undef::undef::undef::undef::undef::undef::undef::undef::undef::undef::undef::undef::undef::undef::undef::undef::undef::undef::undef::[]) w := Eq.mp (by kernel_rfl) h

theorem leatlaw29_TraceRaw_in {K : KV} {raw0 n1 l2 at3 by4 k_5 : Value} {w : World}
    (h : blt Tryz.prog Builtin.len #[28] 3 #[false] #[raw0] (fun A4 w =>
    bin Tryz.prog BinOp.gtr 3 false true A4 (Value.int IntKind.i64 4000) (fun A5 w =>
    gsel A5 false (fun k28 =>
    blt Tryz.prog Builtin.len #[40] 3 #[false] #[l2] (fun A8 w =>
    bin Tryz.prog BinOp.gtr 3 false true A8 (Value.int IntKind.i64 10) (fun A9 w =>
    k28 [l2, A8, A9] w) w) w)
    (fun k => k [undef, undef, undef] w) (fun us28 w =>
    pick A5 (Value.bool true) (gd us28 2) (fun C0 w =>
    cond C0
      (call Tryz.prog 7 #[] (fun C1 w =>
      K C1 w) w)
      ((leatlaw29_TraceRaw_L1 K) (raw0::n1::l2::at3::by4::k_5::undef::undef::undef::undef::undef::undef::(Value.bool false)::(Value.slice none 0 0)::(Value.int IntKind.i64 0)::undef::undef::undef::undef::undef::undef::undef::undef::undef::raw0::A4::A5::A5::(gd us28 0)::(gd us28 1)::(gd us28 2)::C0::undef::undef::undef::undef::undef::undef::undef::undef::undef::undef::undef::undef::undef::undef::undef::undef::undef::undef::undef::undef::undef::undef::undef::undef::undef::undef::undef::undef::undef::undef::undef::undef::undef::undef::undef::undef::undef::undef::undef::undef::undef::undef::undef::undef::undef::undef::undef::undef::undef::undef::undef::undef::undef::undef::undef::undef::undef::undef::undef::undef::undef::undef::undef::undef::undef::undef::undef::undef::undef::undef::undef::undef::undef::undef::undef::undef::undef::undef::undef::undef::undef::undef::undef::undef::undef::undef::undef::undef::undef::undef::undef::undef::undef::undef::undef::undef::undef::undef::undef::undef::undef::undef::undef::undef::undef::[]) w)) w)) w) w) :
    Gives Tryz.prog 5 #[raw0, n1, l2, at3, by4, k_5] w K := enter' Tryz.func5 (by kernel_rfl) (Eq.mp (congrArg (fun c => cCode Tryz.prog c (retK Tryz.prog Tryz.f5.results.toList K) (fun _ _ _ => False) (retK Tryz.prog Tryz.f5.results.toList K) (raw0::n1::l2::at3::by4::k_5::undef::undef::undef::undef::undef::undef::undef::undef::undef::undef::undef::undef::undef::undef::undef::undef::undef::undef::undef::undef::undef::undef::undef::undef::undef::undef::undef::undef::undef::undef::undef::undef::undef::undef::undef::undef::undef::undef::undef::undef::undef::undef::undef::undef::undef::undef::undef::undef::undef::undef::undef::undef::undef::undef::undef::undef::undef::undef::undef::undef::undef::undef::undef::undef::undef::undef::undef::undef::undef::undef::undef::undef::undef::undef::undef::undef::undef::undef::undef::undef::undef::undef::undef::undef::undef::undef::undef::undef::undef::undef::undef::undef::undef::undef::undef::undef::undef::undef::undef::undef::undef::undef::undef::undef::undef::undef::undef::undef::undef::undef::undef::undef::undef::undef::undef::undef::undef::undef::undef::undef::undef::undef::undef::undef::undef::undef::undef::undef::undef::undef::undef::[]) w) (by kernel_rfl : (cd Tryz.f5 []) = (cd Tryz.f5 []))) (leatlaw29_TraceRaw_k h))
theorem leatlaw29_TraceRaw_go : isGo Tryz.prog 5 := ⟨_, Tryz.func5, by kernel_rfl, by kernel_rfl⟩

theorem leatlaw29_TraceRaw_L1_k {K : KV} (B1 : KE) (qc0 : KE) (xc0 : Code) {raw0 n1 l2 at3 by4 k_5 raw6 n7 l8 at9 by10 k_11 A0 steps13' i14' b15 x16 y17 e18 c19 f20 A1 A2 g23 A3 A4 A5 A6 A7 A8 A9 C0 C1 E0 E1 E2 E3 E4 E5 E6 E7 E8 E9 F0 F1 F2 F3 F4 F5 F6 F7 F8 F9 G0 G1 G2 G3 G4 G5 G6 G7 G8 G9 H0 H1 H2 H3 H4 H5 H6 H7 H8 H9 I0 I1 I2 I3 I4 I5 I6 I7 I8 I9 J0 J1 J2 J3 J4 J5 J6 J7 J8 J9 L0 L1 L2 L3 L4 L5 L6 L7 L8 L9 M0 M1 M2 M3 M4 M5 M6 M7 M8 M9 N0 N1 N2 N3 N4 N5 : Value} {dd : Nat → Value} {w : World}
    (h : blt Tryz.prog Builtin.len #[40] 3 #[false] #[l2] (fun C4 w =>
    bin Tryz.prog BinOp.lss 3 false false i14' C4 (fun C5 w =>
    cond C5
      ((cCode Tryz.prog xc0 (cCode Tryz.prog (cd Tryz.f5 [1, 1, 1, 0, 1, 0, 0, 1, 1]) B1 (fun i => @Bool.rec (fun _ => KE) ((fun _ _ _ => False) i) qc0 (Nat.beq i 0)) (retK Tryz.prog Tryz.f5.results.toList K)) (fun i => @Bool.rec (fun _ => KE) ((fun _ _ _ => False) i) qc0 (Nat.beq i 0)) (retK Tryz.prog Tryz.f5.results.toList K)) (raw0::n1::l2::at3::by4::k_5::raw6::n7::l8::at9::by10::k_11::A0::steps13'::i14'::b15::x16::y17::e18::c19::f20::A1::A2::g23::A3::A4::A5::A6::A7::A8::A9::C0::C1::i14'::l2::C4::C5::(dd 37)::(dd 38)::(dd 39)::(dd 40)::(dd 41)::(dd 42)::(dd 43)::(dd 44)::(dd 45)::(dd 46)::(dd 47)::(dd 48)::(dd 49)::(dd 50)::E0::E1::E2::E3::E4::E5::E6::E7::E8::E9::F0::F1::F2::F3::F4::F5::F6::F7::F8::F9::G0::G1::G2::G3::G4::G5::G6::G7::G8::G9::H0::H1::H2::H3::H4::H5::H6::H7::H8::H9::I0::I1::I2::I3::I4::I5::I6::I7::I8::I9::J0::J1::J2::J3::J4::J5::J6::J7::J8::J9::L0::L1::L2::L3::L4::L5::L6::L7::L8::L9::M0::M1::M2::M3::M4::M5::M6::M7::M8::M9::N0::N1::N2::N3::N4::N5::[]) w)
      (qc0 (raw0::n1::l2::at3::by4::k_5::raw6::n7::l8::at9::by10::k_11::A0::steps13'::i14'::b15::x16::y17::e18::c19::f20::A1::A2::g23::A3::A4::A5::A6::A7::A8::A9::C0::C1::i14'::l2::C4::C5::(dd 37)::(dd 38)::(dd 39)::(dd 40)::(dd 41)::(dd 42)::(dd 43)::(dd 44)::(dd 45)::(dd 46)::(dd 47)::(dd 48)::(dd 49)::(dd 50)::E0::E1::E2::E3::E4::E5::E6::E7::E8::E9::F0::F1::F2::F3::F4::F5::F6::F7::F8::F9::G0::G1::G2::G3::G4::G5::G6::G7::G8::G9::H0::H1::H2::H3::H4::H5::H6::H7::H8::H9::I0::I1::I2::I3::I4::I5::I6::I7::I8::I9::J0::J1::J2::J3::J4::J5::J6::J7::J8::J9::L0::L1::L2::L3::L4::L5::L6::L7::L8::L9::M0::M1::M2::M3::M4::M5::M6::M7::M8::M9::N0::N1::N2::N3::N4::N5::[]) w)) w) w) :
    cCode Tryz.prog (rep [1, 0] xc0 (cd Tryz.f5 [1, 1, 1, 0, 1, 0, 0])) B1 (fun i => @Bool.rec (fun _ => KE) ((fun _ _ _ => False) i) qc0 (Nat.beq i 0)) (retK Tryz.prog Tryz.f5.results.toList K) (raw0::n1::l2::at3::by4::k_5::raw6::n7::l8::at9::by10::k_11::A0::steps13'::i14'::b15::x16::y17::e18::c19::f20::A1::A2::g23::A3::A4::A5::A6::A7::A8::A9::C0::C1::(dd 33)::(dd 34)::(dd 35)::(dd 36)::(dd 37)::(dd 38)::(dd 39)::(dd 40)::(dd 41)::(dd 42)::(dd 43)::(dd 44)::(dd 45)::(dd 46)::(dd 47)::(dd 48)::(dd 49)::(dd 50)::E0::E1::E2::E3::E4::E5::E6::E7::E8::E9::F0::F1::F2::F3::F4::F5::F6::F7::F8::F9::G0::G1::G2::G3::G4::G5::G6::G7::G8::G9::H0::H1::H2::H3::H4::H5::H6::H7::H8::H9::I0::I1::I2::I3::I4::I5::I6::I7::I8::I9::J0::J1::J2::J3::J4::J5::J6::J7::J8::J9::L0::L1::L2::L3::L4::L5::L6::L7::L8::L9::M0::M1::M2::M3::M4::M5::M6::M7::M8::M9::N0::N1::N2::N3::N4::N5::[]) w := Eq.mp (by kernel_rfl) h

section
variable {raw0 n1 l2 at3 by4 k_5 raw6 n7 l8 at9 by10 k_11 A0 steps13 i14 b15 x16 y17 e18 c19 f20 A1 A2 g23 A3 A4 A5 A6 A7 A8 A9 C0 C1 C2 C3 C4 C5 C6 C7 C8 C9 D0 D1 D2 D3 D4 D5 D6 D7 D8 D9 E0 E1 E2 E3 E4 E5 E6 E7 E8 E9 F0 F1 F2 F3 F4 F5 F6 F7 F8 F9 G0 G1 G2 G3 G4 G5 G6 G7 G8 G9 H0 H1 H2 H3 H4 H5 H6 H7 H8 H9 I0 I1 I2 I3 I4 I5 I6 I7 I8 I9 J0 J1 J2 J3 J4 J5 J6 J7 J8 J9 L0 L1 L2 L3 L4 L5 L6 L7 L8 L9 M0 M1 M2 M3 M4 M5 M6 M7 M8 M9 N0 N1 N2 N3 N4 N5 : Value}
theorem leatlaw29_TraceRaw_L1_r {K : KV} {w : World} (Inv : Value → Value → World → Prop) (μ : Value → Value → World → Nat) (h0 : Inv steps13 i14 w)
    (hs : ∀ (steps13' i14' : Value) (dd : Nat → Value) (w : World) (m : Nat), Inv steps13' i14' w → m = μ steps13' i14' w →
    blt Tryz.prog Builtin.len #[40] 3 #[false] #[l2] (fun C4 w =>
    bin Tryz.prog BinOp.lss 3 false false i14' C4 (fun C5 w =>
    cond C5
      ((leatlaw29_TraceRaw_A1 K (fun e2 w2 => Inv (gd e2 13) (gd e2 14) w2 ∧ μ (gd e2 13) (gd e2 14) w2 < m)) (raw0::n1::l2::at3::by4::k_5::raw6::n7::l8::at9::by10::k_11::A0::steps13'::i14'::b15::x16::y17::e18::c19::f20::A1::A2::g23::A3::A4::A5::A6::A7::A8::A9::C0::C1::i14'::l2::C4::C5::(dd 37)::(dd 38)::(dd 39)::(dd 40)::(dd 41)::(dd 42)::(dd 43)::(dd 44)::(dd 45)::(dd 46)::(dd 47)::(dd 48)::(dd 49)::(dd 50)::E0::E1::E2::E3::E4::E5::E6::E7::E8::E9::F0::F1::F2::F3::F4::F5::F6::F7::F8::F9::G0::G1::G2::G3::G4::G5::G6::G7::G8::G9::H0::H1::H2::H3::H4::H5::H6::H7::H8::H9::I0::I1::I2::I3::I4::I5::I6::I7::I8::I9::J0::J1::J2::J3::J4::J5::J6::J7::J8::J9::L0::L1::L2::L3::L4::L5::L6::L7::L8::L9::M0::M1::M2::M3::M4::M5::M6::M7::M8::M9::N0::N1::N2::N3::N4::N5::[]) w)
      ((leatlaw29_TraceRaw_P1 K) (raw0::n1::l2::at3::by4::k_5::raw6::n7::l8::at9::by10::k_11::A0::steps13'::i14'::b15::x16::y17::e18::c19::f20::A1::A2::g23::A3::A4::A5::A6::A7::A8::A9::C0::C1::i14'::l2::C4::C5::(dd 37)::(dd 38)::(dd 39)::(dd 40)::(dd 41)::(dd 42)::(dd 43)::(dd 44)::(dd 45)::(dd 46)::(dd 47)::(dd 48)::(dd 49)::(dd 50)::E0::E1::E2::E3::E4::E5::E6::E7::E8::E9::F0::F1::F2::F3::F4::F5::F6::F7::F8::F9::G0::G1::G2::G3::G4::G5::G6::G7::G8::G9::H0::H1::H2::H3::H4::H5::H6::H7::H8::H9::I0::I1::I2::I3::I4::I5::I6::I7::I8::I9::J0::J1::J2::J3::J4::J5::J6::J7::J8::J9::L0::L1::L2::L3::L4::L5::L6::L7::L8::L9::M0::M1::M2::M3::M4::M5::M6::M7::M8::M9::N0::N1::N2::N3::N4::N5::[]) w)) w) w) :
    leatlaw29_TraceRaw_L1 K (raw0::n1::l2::at3::by4::k_5::raw6::n7::l8::at9::by10::k_11::A0::steps13::i14::b15::x16::y17::e18::c19::f20::A1::A2::g23::A3::A4::A5::A6::A7::A8::A9::C0::C1::C2::C3::C4::C5::C6::C7::C8::C9::D0::D1::D2::D3::D4::D5::D6::D7::D8::D9::E0::E1::E2::E3::E4::E5::E6::E7::E8::E9::F0::F1::F2::F3::F4::F5::F6::F7::F8::F9::G0::G1::G2::G3::G4::G5::G6::G7::G8::G9::H0::H1::H2::H3::H4::H5::H6::H7::H8::H9::I0::I1::I2::I3::I4::I5::I6::I7::I8::I9::J0::J1::J2::J3::J4::J5::J6::J7::J8::J9::L0::L1::L2::L3::L4::L5::L6::L7::L8::L9::M0::M1::M2::M3::M4::M5::M6::M7::M8::M9::N0::N1::N2::N3::N4::N5::[]) w := by
  refine loop_rule (cd Tryz.f5 [1, 1, 1, 0, 1, 0, 0]) [13, 14, 33, 34, 35, 36, 37, 38, 39, 40, 41, 42, 43, 44, 45, 46, 47, 48, 49, 50] (by kernel_rfl) (fun e2 w2 => Inv (gd e2 13) (gd e2 14) w2) (fun e2 w2 => μ (gd e2 13) (gd e2 14) w2) h0 ?_
  intro e' w' hI
  have h := hs (gd e' 13) (gd e' 14) (fun i => gd e' i) w' _ hI rfl
  have h2 : cCode Tryz.prog (rep [1, 0] (cd Tryz.f5 [1, 1, 1, 0, 1, 0, 0, 1, 0]) (cd Tryz.f5 [1, 1, 1, 0, 1, 0, 0])) (fun e2 w2 => Inv (gd e2 13) (gd e2 14) w2 ∧ μ (gd e2 13) (gd e2 14) w2 < μ (gd e' 13) (gd e' 14) w') (fun i => @Bool.rec (fun _ => KE) ((fun _ _ _ => False) i) (leatlaw29_TraceRaw_P1 K) (Nat.beq i 0)) (retK Tryz.prog Tryz.f5.results.toList K) (raw0::n1::l2::at3::by4::k_5::raw6::n7::l8::at9::by10::k_11::A0::(gd e' 13)::(gd e' 14)::b15::x16::y17::e18::c19::f20::A1::A2::g23::A3::A4::A5::A6::A7::A8::A9::C0::C1::(gd e' 33)::(gd e' 34)::(gd e' 35)::(gd e' 36)::(gd e' 37)::(gd e' 38)::(gd e' 39)::(gd e' 40)::(gd e' 41)::(gd e' 42)::(gd e' 43)::(gd e' 44)::(gd e' 45)::(gd e' 46)::(gd e' 47)::(gd e' 48)::(gd e' 49)::(gd e' 50)::E0::E1::E2::E3::E4::E5::E6::E7::E8::E9::F0::F1::F2::F3::F4::F5::F6::F7::F8::F9::G0::G1::G2::G3::G4::G5::G6::G7::G8::G9::H0::H1::H2::H3::H4::H5::H6::H7::H8::H9::I0::I1::I2::I3::I4::I5::I6::I7::I8::I9::J0::J1::J2::J3::J4::J5::J6::J7::J8::J9::L0::L1::L2::L3::L4::L5::L6::L7::L8::L9::M0::M1::M2::M3::M4::M5::M6::M7::M8::M9::N0::N1::N2::N3::N4::N5::[]) w' := leatlaw29_TraceRaw_L1_k (fun e2 w2 => Inv (gd e2 13) (gd e2 14) w2 ∧ μ (gd e2 13) (gd e2 14) w2 < μ (gd e' 13) (gd e' 14) w') (leatlaw29_TraceRaw_P1 K) (cd Tryz.f5 [1, 1, 1, 0, 1, 0, 0, 1, 0]) (Eq.mp (by kernel_rfl) h)
  exact Eq.mp (by kernel_rfl) h2

theorem leatlaw29_TraceRaw_A1_k {K : KV} (B1 : KE) (qc0 : KE) (qc1 : KE) {w : World}
    (h : idxA Tryz.prog 40 l2 i14 (fun D0 w =>
    ld Tryz.prog 27 D0 (fun D1 w =>
    call Tryz.prog 10 #[D1] (fun D2 w =>
    cond D2
      (idxA Tryz.prog 40 l2 i14 (fun D6 w =>
      ld Tryz.prog 27 D6 (fun D7 w =>
      bldS Tryz.prog 40 1 #[(0, D7)] (fun D8 w =>
      blt Tryz.prog Builtin.append #[40, 40] 40 #[false, false] #[steps13, D8] (fun D9 w =>
      qc0 (raw0::n1::l2::at3::by4::k_5::raw6::n7::l8::at9::by10::k_11::A0::D9::i14::b15::x16::y17::e18::c19::f20::A1::A2::g23::A3::A4::A5::A6::A7::A8::A9::C0::C1::C2::C3::C4::C5::C6::C7::l2::i14::D0::D1::D2::steps13::l2::i14::D6::D7::D8::D9::E0::E1::E2::E3::E4::E5::E6::E7::E8::E9::F0::F1::F2::F3::F4::F5::F6::F7::F8::F9::G0::G1::G2::G3::G4::G5::G6::G7::G8::G9::H0::H1::H2::H3::H4::H5::H6::H7::H8::H9::I0::I1::I2::I3::I4::I5::I6::I7::I8::I9::J0::J1::J2::J3::J4::J5::J6::J7::J8::J9::L0::L1::L2::L3::L4::L5::L6::L7::L8::L9::M0::M1::M2::M3::M4::M5::M6::M7::M8::M9::N0::N1::N2::N3::N4::N5::[]) w) w) w) w) w)
      (qc0 (raw0::n1::l2::at3::by4::k_5::raw6::n7::l8::at9::by10::k_11::A0::steps13::i14::b15::x16::y17::e18::c19::f20::A1::A2::g23::A3::A4::A5::A6::A7::A8::A9::C0::C1::C2::C3::C4::C5::C6::C7::l2::i14::D0::D1::D2::D3::D4::D5::D6::D7::D8::D9::E0::E1::E2::E3::E4::E5::E6::E7::E8::E9::F0::F1::F2::F3::F4::F5::F6::F7::F8::F9::G0::G1::G2::G3::G4::G5::G6::G7::G8::G9::H0::H1::H2::H3::H4::H5::H6::H7::H8::H9::I0::I1::I2::I3::I4::I5::I6::I7::I8::I9::J0::J1::J2::J3::J4::J5::J6::J7::J8::J9::L0::L1::L2::L3::L4::L5::L6::L7::L8::L9::M0::M1::M2::M3::M4::M5::M6::M7::M8::M9::N0::N1::N2::N3::N4::N5::[]) w)) w) w) w) :
    cCode Tryz.prog (cd Tryz.f5 [1, 1, 1, 0, 1, 0, 0, 1, 0]) qc0 (fun i => @Bool.rec (fun _ => KE) ((fun _ _ _ => False) i) qc1 (Nat.beq i 0)) (retK Tryz.prog Tryz.f5.results.toList K) (raw0::n1::l2::at3::by4::k_5::raw6::n7::l8::at9::by10::k_11::A0::steps13::i14::b15::x16::y17::e18::c19::f20::A1::A2::g23::A3::A4::A5::A6::A7::A8::A9::C0::C1::C2::C3::C4::C5::C6::C7::C8::C9::D0::D1::D2::D3::D4::D5::D6::D7::D8::D9::E0::E1::E2::E3::E4::E5::E6::E7::E8::E9::F0::F1::F2::F3::F4::F5::F6::F7::F8::F9::G0::G1::G2::G3::G4::G5::G6::G7::G8::G9::H0::H1::H2::H3::H4::H5::H6::H7::H8::H9::I0::I1::I2::I3::I4::I5::I6::I7::I8::I9::J0::J1::J2::J3::J4::J5::J6::J7::J8::J9::L0::L1::L2::L3::L4::L5::L6::L7::L8::L9::M0::M1::M2::M3::M4::M5::M6::M7::M8::M9::N0::N1::N2::N3::N4::N5::[]) w := Eq.mp (by kernel_rfl) h

theorem leatlaw29_TraceRaw_A1_r {K : KV} {B1 : KE} {w : World}
    (h : idxA Tryz.prog 40 l2 i14 (fun D0 w =>
    ld Tryz.prog 27 D0 (fun D1 w =>
    call Tryz.prog 10 #[D1] (fun D2 w =>
    cond D2
      (idxA Tryz.prog 40 l2 i14 (fun D6 w =>
      ld Tryz.prog 27 D6 (fun D7 w =>
      bldS Tryz.prog 40 1 #[(0, D7)] (fun D8 w =>
      blt Tryz.prog Builtin.append #[40, 40] 40 #[false, false] #[steps13, D8] (fun D9 w =>
      (leatlaw29_TraceRaw_P2 K B1) (raw0::n1::l2::at3::by4::k_5::raw6::n7::l8::at9::by10::k_11::A0::D9::i14::b15::x16::y17::e18::c19::f20::A1::A2::g23::A3::A4::A5::A6::A7::A8::A9::C0::C1::C2::C3::C4::C5::C6::C7::l2::i14::D0::D1::D2::steps13::l2::i14::D6::D7::D8::D9::E0::E1::E2::E3::E4::E5::E6::E7::E8::E9::F0::F1::F2::F3::F4::F5::F6::F7::F8::F9::G0::G1::G2::G3::G4::G5::G6::G7::G8::G9::H0::H1::H2::H3::H4::H5::H6::H7::H8::H9::I0::I1::I2::I3::I4::I5::I6::I7::I8::I9::J0::J1::J2::J3::J4::J5::J6::J7::J8::J9::L0::L1::L2::L3::L4::L5::L6::L7::L8::L9::M0::M1::M2::M3::M4::M5::M6::M7::M8::M9::N0::N1::N2::N3::N4::N5::[]) w) w) w) w) w)
      ((leatlaw29_TraceRaw_P2 K B1) (raw0::n1::l2::at3::by4::k_5::raw6::n7::l8::at9::by10::k_11::A0::steps13::i14::b15::x16::y17::e18::c19::f20::A1::A2::g23::A3::A4::A5::A6::A7::A8::A9::C0::C1::C2::C3::C4::C5::C6::C7::l2::i14::D0::D1::D2::D3::D4::D5::D6::D7::D8::D9::E0::E1::E2::E3::E4::E5::E6::E7::E8::E9::F0::F1::F2::F3::F4::F5::F6::F7::F8::F9::G0::G1::G2::G3::G4::G5::G6::G7::G8::G9::H0::H1::H2::H3::H4::H5::H6::H7::H8::H9::I0::I1::I2::I3::I4::I5::I6::I7::I8::I9::J0::J1::J2::J3::J4::J5::J6::J7::J8::J9::L0::L1::L2::L3::L4::L5::L6::L7::L8::L9::M0::M1::M2::M3::M4::M5::M6::M7::M8::M9::N0::N1::N2::N3::N4::N5::[]) w)) w) w) w) :
    leatlaw29_TraceRaw_A1 K B1 (raw0::n1::l2::at3::by4::k_5::raw6::n7::l8::at9::by10::k_11::A0::steps13::i14::b15::x16::y17::e18::c19::f20::A1::A2::g23::A3::A4::A5::A6::A7::A8::A9::C0::C1::C2::C3::C4::C5::C6::C7::C8::C9::D0::D1::D2::D3::D4::D5::D6::D7::D8::D9::E0::E1::E2::E3::E4::E5::E6::E7::E8::E9::F0::F1::F2::F3::F4::F5::F6::F7::F8::F9::G0::G1::G2::G3::G4::G5::G6::G7::G8::G9::H0::H1::H2::H3::H4::H5::H6::H7::H8::H9::I0::I1::I2::I3::I4::I5::I6::I7::I8::I9::J0::J1::J2::J3::J4::J5::J6::J7::J8::J9::L0::L1::L2::L3::L4::L5::L6::L7::L8::L9::M0::M1::M2::M3::M4::M5::M6::M7::M8::M9::N0::N1::N2::N3::N4::N5::[]) w := by
  delta leatlaw29_TraceRaw_A1
  exact Eq.mp (congrArg (fun c => cCode Tryz.prog c (leatlaw29_TraceRaw_P2 K B1) (fun i => @Bool.rec (fun _ => KE) ((fun _ _ _ => False) i) (leatlaw29_TraceRaw_P1 K) (Nat.beq i 0)) (retK Tryz.prog Tryz.f5.results.toList K) (raw0::n1::l2::at3::by4::k_5::raw6::n7::l8::at9::by10::k_11::A0::steps13::i14::b15::x16::y17::e18::c19::f20::A1::A2::g23::A3::A4::A5::A6::A7::A8::A9::C0::C1::C2::C3::C4::C5::C6::C7::C8::C9::D0::D1::D2::D3::D4::D5::D6::D7::D8::D9::E0::E1::E2::E3::E4::E5::E6::E7::E8::E9::F0::F1::F2::F3::F4::F5::F6::F7::F8::F9::G0::G1::G2::G3::G4::G5::G6::G7::G8::G9::H0::H1::H2::H3::H4::H5::H6::H7::H8::H9::I0::I1::I2::I3::I4::I5::I6::I7::I8::I9::J0::J1::J2::J3::J4::J5::J6::J7::J8::J9::L0::L1::L2::L3::L4::L5::L6::L7::L8::L9::M0::M1::M2::M3::M4::M5::M6::M7::M8::M9::N0::N1::N2::N3::N4::N5::[]) w) (by kernel_rfl : (cd Tryz.f5 [1, 1, 1, 0, 1, 0, 0, 1, 0]) = (cd Tryz.f5 [1, 1, 1, 0, 1, 0, 0, 1, 0]))) (leatlaw29_TraceRaw_A1_k B1 (leatlaw29_TraceRaw_P2 K B1) (leatlaw29_TraceRaw_P1 K) h)

theorem leatlaw29_TraceRaw_P1_k {K : KV} (xc0 : Code) {w : World}
    (h : conv Tryz.prog 5 3 n1 (fun E1 w =>
    bin Tryz.prog BinOp.rem 3 false true E1 (Value.int IntKind.i64 6) (fun E2 w =>
    bin Tryz.prog BinOp.add 3 true false (Value.int IntKind.i64 1) E2 (fun E3 w =>
    call Tryz.prog 15 #[E3, steps13] (fun E5 w =>
    conv Tryz.prog 29 3 at3 (fun E8 w =>
    blt Tryz.prog Builtin.len #[28] 3 #[false] #[E5] (fun F0 w =>
    bin Tryz.prog BinOp.rem 3 false false E8 F0 (fun F1 w =>
    idxA Tryz.prog 28 E5 F1 (fun F2 w =>
    ld Tryz.prog 5 F2 (fun F3 w =>
    bin Tryz.prog BinOp.xor 5 false false F3 by4 (fun F5 w =>
    idxA Tryz.prog 28 E5 F1 (fun F6 w =>
    sto Tryz.prog 5 F6 F5 (fun _t w =>
    blt Tryz.prog Builtin.len #[28] 3 #[false] #[raw0] (fun F8 w =>
    bin Tryz.prog BinOp.gtr 3 false true F8 (Value.int IntKind.i64 0) (fun F9 w =>
    (cCode Tryz.prog xc0 (cCode Tryz.prog (cd Tryz.f5 [1, 1, 1, 1, 1, 1, 1]) (retK Tryz.prog Tryz.f5.results.toList K) (fun _ _ _ => False) (retK Tryz.prog Tryz.f5.results.toList K)) (fun _ _ _ => False) (retK Tryz.prog Tryz.f5.results.toList K)) (raw0::n1::l2::at3::by4::k_5::raw6::n7::l8::at9::by10::k_11::A0::steps13::i14::E5::x16::y17::e18::c19::f20::A1::A2::g23::A3::A4::A5::A6::A7::A8::A9::C0::C1::C2::C3::C4::C5::C6::C7::C8::C9::D0::D1::D2::D3::D4::D5::D6::D7::D8::D9::n1::E1::E2::E3::steps13::E5::E5::at3::E8::E5::F0::F1::F2::F3::by4::F5::F6::raw0::F8::F9::G0::G1::G2::G3::G4::G5::G6::G7::G8::G9::H0::H1::H2::H3::H4::H5::H6::H7::H8::H9::I0::I1::I2::I3::I4::I5::I6::I7::I8::I9::J0::J1::J2::J3::J4::J5::J6::J7::J8::J9::L0::L1::L2::L3::L4::L5::L6::L7::L8::L9::M0::M1::M2::M3::M4::M5::M6::M7::M8::M9::N0::N1::N2::N3::N4::N5::[]) w) w) w) w) w) w) w) w) w) w) w) w) w) w) w) :
    cCode Tryz.prog (rep [1, 1, 0, 1] xc0 (cd Tryz.f5 [1, 1, 1, 1])) (retK Tryz.prog Tryz.f5.results.toList K) (fun _ _ _ => False) (retK Tryz.prog Tryz.f5.results.toList K) (raw0::n1::l2::at3::by4::k_5::raw6::n7::l8::at9::by10::k_11::A0::steps13::i14::b15::x16::y17::e18::c19::f20::A1::A2::g23::A3::A4::A5::A6::A7::A8::A9::C0::C1::C2::C3::C4::C5::C6::C7::C8::C9::D0::D1::D2::D3::D4::D5::D6::D7::D8::D9::E0::E1::E2::E3::E4::E5::E6::E7::E8::E9::F0::F1::F2::F3::F4::F5::F6::F7::F8::F9::G0::G1::G2::G3::G4::G5::G6::G7::G8::G9::H0::H1::H2::H3::H4::H5::H6::H7::H8::H9::I0::I1::I2::I3::I4::I5::I6::I7::I8::I9::J0::J1::J2::J3::J4::J5::J6::J7::J8::J9::L0::L1::L2::L3::L4::L5::L6::L7::L8::L9::M0::M1::M2::M3::M4::M5::M6::M7::M8::M9::N0::N1::N2::N3::N4::N5::[]) w := Eq.mp (by kernel_rfl) h

theorem leatlaw29_TraceRaw_P1_r {K : KV} {w : World}
    (h : conv Tryz.prog 5 3 n1 (fun E1 w =>
    bin Tryz.prog BinOp.rem 3 false true E1 (Value.int IntKind.i64 6) (fun E2 w =>
    bin Tryz.prog BinOp.add 3 true false (Value.int IntKind.i64 1) E2 (fun E3 w =>
    call Tryz.prog 15 #[E3, steps13] (fun E5 w =>
    conv Tryz.prog 29 3 at3 (fun E8 w =>
    blt Tryz.prog Builtin.len #[28] 3 #[false] #[E5] (fun F0 w =>
    bin Tryz.prog BinOp.rem 3 false false E8 F0 (fun F1 w =>
    idxA Tryz.prog 28 E5 F1 (fun F2 w =>
    ld Tryz.prog 5 F2 (fun F3 w =>
    bin Tryz.prog BinOp.xor 5 false false F3 by4 (fun F5 w =>
    idxA Tryz.prog 28 E5 F1 (fun F6 w =>
    sto Tryz.prog 5 F6 F5 (fun _t w =>
    blt Tryz.prog Builtin.len #[28] 3 #[false] #[raw0] (fun F8 w =>
    bin Tryz.prog BinOp.gtr 3 false true F8 (Value.int IntKind.i64 0) (fun F9 w =>
    (leatlaw29_TraceRaw_A2 K) (raw0::n1::l2::at3::by4::k_5::raw6::n7::l8::at9::by10::k_11::A0::steps13::i14::E5::x16::y17::e18::c19::f20::A1::A2::g23::A3::A4::A5::A6::A7::A8::A9::C0::C1::C2::C3::C4::C5::C6::C7::C8::C9::D0::D1::D2::D3::D4::D5::D6::D7::D8::D9::n1::E1::E2::E3::steps13::E5::E5::at3::E8::E5::F0::F1::F2::F3::by4::F5::F6::raw0::F8::F9::G0::G1::G2::G3::G4::G5::G6::G7::G8::G9::H0::H1::H2::H3::H4::H5::H6::H7::H8::H9::I0::I1::I2::I3::I4::I5::I6::I7::I8::I9::J0::J1::J2::J3::J4::J5::J6::J7::J8::J9::L0::L1::L2::L3::L4::L5::L6::L7::L8::L9::M0::M1::M2::M3::M4::M5::M6::M7::M8::M9::N0::N1::N2::N3::N4::N5::[]) w) w) w) w) w) w) w) w) w) w) w) w) w) w) w) :
    leatlaw29_TraceRaw_P1 K (raw0::n1::l2::at3::by4::k_5::raw6::n7::l8::at9::by10::k_11::A0::steps13::i14::b15::x16::y17::e18::c19::f20::A1::A2::g23::A3::A4::A5::A6::A7::A8::A9::C0::C1::C2::C3::C4::C5::C6::C7::C8::C9::D0::D1::D2::D3::D4::D5::D6::D7::D8::D9::E0::E1::E2::E3::E4::E5::E6::E7::E8::E9::F0::F1::F2::F3::F4::F5::F6::F7::F8::F9::G0::G1::G2::G3::G4::G5::G6::G7::G8::G9::H0::H1::H2::H3::H4::H5::H6::H7::H8::H9::I0::I1::I2::I3::I4::I5::I6::I7::I8::I9::J0::J1::J2::J3::J4::J5::J6::J7::J8::J9::L0::L1::L2::L3::L4::L5::L6::L7::L8::L9::M0::M1::M2::M3::M4::M5::M6::M7::M8::M9::N0::N1::N2::N3::N4::N5::[]) w := by
  delta leatlaw29_TraceRaw_P1
  exact Eq.mp (congrArg (fun c => cCode Tryz.prog c (retK Tryz.prog Tryz.f5.results.toList K) (fun _ _ _ => False) (retK Tryz.prog Tryz.f5.results.toList K) (raw0::n1::l2::at3::by4::k_5::raw6::n7::l8::at9::by10::k_11::A0::steps13::i14::b15::x16::y17::e18::c19::f20::A1::A2::g23::A3::A4::A5::A6::A7::A8::A9::C0::C1::C2::C3::C4::C5::C6::C7::C8::C9::D0::D1::D2::D3::D4::D5::D6::D7::D8::D9::E0::E1::E2::E3::E4::E5::E6::E7::E8::E9::F0::F1::F2::F3::F4::F5::F6::F7::F8::F9::G0::G1::G2::G3::G4::G5::G6::G7::G8::G9::H0::H1::H2::H3::H4::H5::H6::H7::H8::H9::I0::I1::I2::I3::I4::I5::I6::I7::I8::I9::J0::J1::J2::J3::J4::J5::J6::J7::J8::J9::L0::L1::L2::L3::L4::L5::L6::L7::L8::L9::M0::M1::M2::M3::M4::M5::M6::M7::M8::M9::N0::N1::N2::N3::N4::N5::[]) w) (by kernel_rfl : (rep [1, 1, 0, 1] (cd Tryz.f5 [1, 1, 1, 1, 1, 1, 0, 1]) (cd Tryz.f5 [1, 1, 1, 1])) = (cd Tryz.f5 [1, 1, 1, 1]))) (leatlaw29_TraceRaw_P1_k (cd Tryz.f5 [1, 1, 1, 1, 1, 1, 0, 1]) h)

theorem leatlaw29_TraceRaw_P2_k {K : KV} (B1 : KE) (qc0 : KE) {w : World}
    (h : bin Tryz.prog BinOp.add 3 false true i14 (Value.int IntKind.i64 1) (fun C7 w =>
    B1 (raw0::n1::l2::at3::by4::k_5::raw6::n7::l8::at9::by10::k_11::A0::steps13::C7::b15::x16::y17::e18::c19::f20::A1::A2::g23::A3::A4::A5::A6::A7::A8::A9::C0::C1::C2::C3::C4::C5::i14::C7::C8::C9::D0::D1::D2::D3::D4::D5::D6::D7::D8::D9::E0::E1::E2::E3::E4::E5::E6::E7::E8::E9::F0::F1::F2::F3::F4::F5::F6::F7::F8::F9::G0::G1::G2::G3::G4::G5::G6::G7::G8::G9::H0::H1::H2::H3::H4::H5::H6::H7::H8::H9::I0::I1::I2::I3::I4::I5::I6::I7::I8::I9::J0::J1::J2::J3::J4::J5::J6::J7::J8::J9::L0::L1::L2::L3::L4::L5::L6::L7::L8::L9::M0::M1::M2::M3::M4::M5::M6::M7::M8::M9::N0::N1::N2::N3::N4::N5::[]) w) w) :
    cCode Tryz.prog (cd Tryz.f5 [1, 1, 1, 0, 1, 0, 0, 1, 1]) B1 (fun i => @Bool.rec (fun _ => KE) ((fun _ _ _ => False) i) qc0 (Nat.beq i 0)) (retK Tryz.prog Tryz.f5.results.toList K) (raw0::n1::l2::at3::by4::k_5::raw6::n7::l8::at9::by10::k_11::A0::steps13::i14::b15::x16::y17::e18::c19::f20::A1::A2::g23::A3::A4::A5::A6::A7::A8::A9::C0::C1::C2::C3::C4::C5::C6::C7::C8::C9::D0::D1::D2::D3::D4::D5::D6::D7::D8::D9::E0::E1::E2::E3::E4::E5::E6::E7::E8::E9::F0::F1::F2::F3::F4::F5::F6::F7::F8::F9::G0::G1::G2::G3::G4::G5::G6::G7::G8::G9::H0::H1::H2::H3::H4::H5::H6::H7::H8::H9::I0::I1::I2::I3::I4::I5::I6::I7::I8::I9::J0::J1::J2::J3::J4::J5::J6::J7::J8::J9::L0::L1::L2::L3::L4::L5::L6::L7::L8::L9::M0::M1::M2::M3::M4::M5::M6::M7::M8::M9::N0::N1::N2::N3::N4::N5::[]) w := Eq.mp (by kernel_rfl) h

theorem leatlaw29_TraceRaw_P2_r {K : KV} {B1 : KE} {w : World}
    (h : bin Tryz.prog BinOp.add 3 false true i14 (Value.int IntKind.i64 1) (fun C7 w =>
    B1 (raw0::n1::l2::at3::by4::k_5::raw6::n7::l8::at9::by10::k_11::A0::steps13::C7::b15::x16::y17::e18::c19::f20::A1::A2::g23::A3::A4::A5::A6::A7::A8::A9::C0::C1::C2::C3::C4::C5::i14::C7::C8::C9::D0::D1::D2::D3::D4::D5::D6::D7::D8::D9::E0::E1::E2::E3::E4::E5::E6::E7::E8::E9::F0::F1::F2::F3::F4::F5::F6::F7::F8::F9::G0::G1::G2::G3::G4::G5::G6::G7::G8::G9::H0::H1::H2::H3::H4::H5::H6::H7::H8::H9::I0::I1::I2::I3::I4::I5::I6::I7::I8::I9::J0::J1::J2::J3::J4::J5::J6::J7::J8::J9::L0::L1::L2::L3::L4::L5::L6::L7::L8::L9::M0::M1::M2::M3::M4::M5::M6::M7::M8::M9::N0::N1::N2::N3::N4::N5::[]) w) w) :
    leatlaw29_TraceRaw_P2 K B1 (raw0::n1::l2::at3::by4::k_5::raw6::n7::l8::at9::by10::k_11::A0::steps13::i14::b15::x16::y17::e18::c19::f20::A1::A2::g23::A3::A4::A5::A6::A7::A8::A9::C0::C1::C2::C3::C4::C5::C6::C7::C8::C9::D0::D1::D2::D3::D4::D5::D6::D7::D8::D9::E0::E1::E2::E3::E4::E5::E6::E7::E8::E9::F0::F1::F2::F3::F4::F5::F6::F7::F8::F9::G0::G1::G2::G3::G4::G5::G6::G7::G8::G9::H0::H1::H2::H3::H4::H5::H6::H7::H8::H9::I0::I1::I2::I3::I4::I5::I6::I7::I8::I9::J0::J1::J2::J3::J4::J5::J6::J7::J8::J9::L0::L1::L2::L3::L4::L5::L6::L7::L8::L9::M0::M1::M2::M3::M4::M5::M6::M7::M8::M9::N0::N1::N2::N3::N4::N5::[]) w := by
  delta leatlaw29_TraceRaw_P2
  exact Eq.mp (congrArg (fun c => cCode Tryz.prog c B1 (fun i => @Bool.rec (fun _ => KE) ((fun _ _ _ => False) i) (leatlaw29_TraceRaw_P1 K) (Nat.beq i 0)) (retK Tryz.prog Tryz.f5.results.toList K) (raw0::n1::l2::at3::by4::k_5::raw6::n7::l8::at9::by10::k_11::A0::steps13::i14::b15::x16::y17::e18::c19::f20::A1::A2::g23::A3::A4::A5::A6::A7::A8::A9::C0::C1::C2::C3::C4::C5::C6::C7::C8::C9::D0::D1::D2::D3::D4::D5::D6::D7::D8::D9::E0::E1::E2::E3::E4::E5::E6::E7::E8::E9::F0::F1::F2::F3::F4::F5::F6::F7::F8::F9::G0::G1::G2::G3::G4::G5::G6::G7::G8::G9::H0::H1::H2::H3::H4::H5::H6::H7::H8::H9::I0::I1::I2::I3::I4::I5::I6::I7::I8::I9::J0::J1::J2::J3::J4::J5::J6::J7::J8::J9::L0::L1::L2::L3::L4::L5::L6::L7::L8::L9::M0::M1::M2::M3::M4::M5::M6::M7::M8::M9::N0::N1::N2::N3::N4::N5::[]) w) (by kernel_rfl : (cd Tryz.f5 [1, 1, 1, 0, 1, 0, 0, 1, 1]) = (cd Tryz.f5 [1, 1, 1, 0, 1, 0, 0, 1, 1]))) (leatlaw29_TraceRaw_P2_k B1 (leatlaw29_TraceRaw_P1 K) h)

theorem leatlaw29_TraceRaw_A2_k {K : KV} (qc0 : KE) {w : World}
    (h : cond F9
      (qc0 (raw0::n1::l2::at3::by4::k_5::raw6::n7::l8::at9::by10::k_11::A0::steps13::i14::raw0::x16::y17::e18::c19::f20::A1::A2::g23::A3::A4::A5::A6::A7::A8::A9::C0::C1::C2::C3::C4::C5::C6::C7::C8::C9::D0::D1::D2::D3::D4::D5::D6::D7::D8::D9::E0::E1::E2::E3::E4::E5::E6::E7::E8::E9::F0::F1::F2::F3::F4::F5::F6::F7::F8::F9::raw0::G1::G2::G3::G4::G5::G6::G7::G8::G9::H0::H1::H2::H3::H4::H5::H6::H7::H8::H9::I0::I1::I2::I3::I4::I5::I6::I7::I8::I9::J0::J1::J2::J3::J4::J5::J6::J7::J8::J9::L0::L1::L2::L3::L4::L5::L6::L7::L8::L9::M0::M1::M2::M3::M4::M5::M6::M7::M8::M9::N0::N1::N2::N3::N4::N5::[]) w)
      (qc0 (raw0::n1::l2::at3::by4::k_5::raw6::n7::l8::at9::by10::k_11::A0::steps13::i14::b15::x16::y17::e18::c19::f20::A1::A2::g23::A3::A4::A5::A6::A7::A8::A9::C0::C1::C2::C3::C4::C5::C6::C7::C8::C9::D0::D1::D2::D3::D4::D5::D6::D7::D8::D9::E0::E1::E2::E3::E4::E5::E6::E7::E8::E9::F0::F1::F2::F3::F4::F5::F6::F7::F8::F9::G0::G1::G2::G3::G4::G5::G6::G7::G8::G9::H0::H1::H2::H3::H4::H5::H6::H7::H8::H9::I0::I1::I2::I3::I4::I5::I6::I7::I8::I9::J0::J1::J2::J3::J4::J5::J6::J7::J8::J9::L0::L1::L2::L3::L4::L5::L6::L7::L8::L9::M0::M1::M2::M3::M4::M5::M6::M7::M8::M9::N0::N1::N2::N3::N4::N5::[]) w)) :
    cCode Tryz.prog (cd Tryz.f5 [1, 1, 1, 1, 1, 1, 0, 1]) qc0 (fun _ _ _ => False) (retK Tryz.prog Tryz.f5.results.toList K) (raw0::n1::l2::at3::by4::k_5::raw6::n7::l8::at9::by10::k_11::A0::steps13::i14::b15::x16::y17::e18::c19::f20::A1::A2::g23::A3::A4::A5::A6::A7::A8::A9::C0::C1::C2::C3::C4::C5::C6::C7::C8::C9::D0::D1::D2::D3::D4::D5::D6::D7::D8::D9::E0::E1::E2::E3::E4::E5::E6::E7::E8::E9::F0::F1::F2::F3::F4::F5::F6::F7::F8::F9::G0::G1::G2::G3::G4::G5::G6::G7::G8::G9::H0::H1::H2::H3::H4::H5::H6::H7::H8::H9::I0::I1::I2::I3::I4::I5::I6::I7::I8::I9::J0::J1::J2::J3::J4::J5::J6::J7::J8::J9::L0::L1::L2::L3::L4::L5::L6::L7::L8::L9::M0::M1::M2::M3::M4::M5::M6::M7::M8::M9::N0::N1::N2::N3::N4::N5::[]) w := Eq.mp (by kernel_rfl) h

theorem leatlaw29_TraceRaw_A2_r {K : KV} {w : World}
    (h : cond F9
      ((leatlaw29_TraceRaw_P3 K) (raw0::n1::l2::at3::by4::k_5::raw6::n7::l8::at9::by10::k_11::A0::steps13::i14::raw0::x16::y17::e18::c19::f20::A1::A2::g23::A3::A4::A5::A6::A7::A8::A9::C0::C1::C2::C3::C4::C5::C6::C7::C8::C9::D0::D1::D2::D3::D4::D5::D6::D7::D8::D9::E0::E1::E2::E3::E4::E5::E6::E7::E8::E9::F0::F1::F2::F3::F4::F5::F6::F7::F8::F9::raw0::G1::G2::G3::G4::G5::G6::G7::G8::G9::H0::H1::H2::H3::H4::H5::H6::H7::H8::H9::I0::I1::I2::I3::I4::I5::I6::I7::I8::I9::J0::J1::J2::J3::J4::J5::J6::J7::J8::J9::L0::L1::L2::L3::L4::L5::L6::L7::L8::L9::M0::M1::M2::M3::M4::M5::M6::M7::M8::M9::N0::N1::N2::N3::N4::N5::[]) w)
      ((leatlaw29_TraceRaw_P3 K) (raw0::n1::l2::at3::by4::k_5::raw6::n7::l8::at9::by10::k_11::A0::steps13::i14::b15::x16::y17::e18::c19::f20::A1::A2::g23::A3::A4::A5::A6::A7::A8::A9::C0::C1::C2::C3::C4::C5::C6::C7::C8::C9::D0::D1::D2::D3::D4::D5::D6::D7::D8::D9::E0::E1::E2::E3::E4::E5::E6::E7::E8::E9::F0::F1::F2::F3::F4::F5::F6::F7::F8::F9::G0::G1::G2::G3::G4::G5::G6::G7::G8::G9::H0::H1::H2::H3::H4::H5::H6::H7::H8::H9::I0::I1::I2::I3::I4::I5::I6::I7::I8::I9::J0::J1::J2::J3::J4::J5::J6::J7::J8::J9::L0::L1::L2::L3::L4::L5::L6::L7::L8::L9::M0::M1::M2::M3::M4::M5::M6::M7::M8::M9::N0::N1::N2::N3::N4::N5::[]) w)) :
    leatlaw29_TraceRaw_A2 K (raw0::n1::l2::at3::by4::k_5::raw6::n7::l8::at9::by10::k_11::A0::steps13::i14::b15::x16::y17::e18::c19::f20::A1::A2::g23::A3::A4::A5::A6::A7::A8::A9::C0::C1::C2::C3::C4::C5::C6::C7::C8::C9::D0::D1::D2::D3::D4::D5::D6::D7::D8::D9::E0::E1::E2::E3::E4::E5::E6::E7::E8::E9::F0::F1::F2::F3::F4::F5::F6::F7::F8::F9::G0::G1::G2::G3::G4::G5::G6::G7::G8::G9::H0::H1::H2::H3::H4::H5::H6::H7::H8::H9::I0::I1::I2::I3::I4::I5::I6::I7::I8::I9::J0::J1::J2::J3::J4::J5::J6::J7::J8::J9::L0::L1::L2::L3::L4::L5::L6::L7::L8::L9::M0::M1::M2::M3::M4::M5::M6::M7::M8::M9::N0::N1::N2::N3::N4::N5::[]) w := by
  delta leatlaw29_TraceRaw_A2
  exact Eq.mp (congrArg (fun c => cCode Tryz.prog c (leatlaw29_TraceRaw_P3 K) (fun _ _ _ => False) (retK Tryz.prog Tryz.f5.results.toList K) (raw0::n1::l2::at3::by4::k_5::raw6::n7::l8::at9::by10::k_11::A0::steps13::i14::b15::x16::y17::e18::c19::f20::A1::A2::g23::A3::A4::A5::A6::A7::A8::A9::C0::C1::C2::C3::C4::C5::C6::C7::C8::C9::D0::D1::D2::D3::D4::D5::D6::D7::D8::D9::E0::E1::E2::E3::E4::E5::E6::E7::E8::E9::F0::F1::F2::F3::F4::F5::F6::F7::F8::F9::G0::G1::G2::G3::G4::G5::G6::G7::G8::G9::H0::H1::H2::H3::H4::H5::H6::H7::H8::H9::I0::I1::I2::I3::I4::I5::I6::I7::I8::I9::J0::J1::J2::J3::J4::J5::J6::J7::J8::J9::L0::L1::L2::L3::L4::L5::L6::L7::L8::L9::M0::M1::M2::M3::M4::M5::M6::M7::M8::M9::N0::N1::N2::N3::N4::N5::[]) w) (by kernel_rfl : (cd Tryz.f5 [1, 1, 1, 1, 1, 1, 0, 1]) = (cd Tryz.f5 [1, 1, 1, 1, 1, 1, 0, 1]))) (leatlaw29_TraceRaw_A2_k (leatlaw29_TraceRaw_P3 K) h)

theorem leatlaw29_TraceRaw_P3_k {K : KV} (xc0 : Code) {w : World}
    (h : call Tryz.prog 16 #[b15] (fun G3 w =>
    ext Tryz.prog G3 0 (fun G4 w =>
    ext Tryz.prog G3 1 (fun G5 w =>
    ext Tryz.prog G3 2 (fun G6 w =>
    bldS Tryz.prog 28 0 #[] (fun G8 w =>
    blt Tryz.prog Builtin.append #[28, 28] 28 #[false, false] #[G8, b15] (fun H0 w =>
    call Tryz.prog 17 #[H0, k_5] (fun H2 w =>
    ext Tryz.prog H2 0 (fun H3 w =>
    ext Tryz.prog H2 1 (fun H4 w =>
    bin Tryz.prog BinOp.neq 34 false true G6 (Value.int IntKind.i64 0) (fun H6 w =>
    cond H6
      (call Tryz.prog 18 #[b15] (fun H9 w =>
      ext Tryz.prog H9 0 (fun I0 w =>
      ext Tryz.prog H9 1 (fun I1 w =>
      ext Tryz.prog H9 2 (fun I2 w =>
      (cCode Tryz.prog xc0 (cCode Tryz.prog (cd Tryz.f5 [1, 1, 1, 1, 1, 1, 1, 1, 1, 1]) (retK Tryz.prog Tryz.f5.results.toList K) (fun _ _ _ => False) (retK Tryz.prog Tryz.f5.results.toList K)) (fun _ _ _ => False) (retK Tryz.prog Tryz.f5.results.toList K)) (raw0::n1::l2::at3::by4::k_5::raw6::n7::l8::at9::by10::k_11::A0::steps13::i14::b15::G4::G5::G6::H3::H4::I0::I1::I2::A3::A4::A5::A6::A7::A8::A9::C0::C1::C2::C3::C4::C5::C6::C7::C8::C9::D0::D1::D2::D3::D4::D5::D6::D7::D8::D9::E0::E1::E2::E3::E4::E5::E6::E7::E8::E9::F0::F1::F2::F3::F4::F5::F6::F7::F8::F9::G0::G3::b15::G3::G4::G5::G6::H2::G8::b15::H0::k_5::H2::H3::H4::G6::H6::H9::b15::H9::I0::I1::I2::I3::I4::I5::I6::I7::I8::I9::J0::J1::J2::J3::J4::J5::J6::J7::J8::J9::L0::L1::L2::L3::L4::L5::L6::L7::L8::L9::M0::M1::M2::M3::M4::M5::M6::M7::M8::M9::N0::N1::N2::N3::N4::N5::[]) w) w) w) w) w)
      (bin Tryz.prog BinOp.lss 3 false true k_5 (Value.int IntKind.i64 0) (fun J8 w =>
    gsel J8 false (fun k111 =>
    blt Tryz.prog Builtin.len #[40] 3 #[false] #[G5] (fun L2 w =>
    bin Tryz.prog BinOp.gtr 3 false false k_5 L2 (fun L3 w =>
    k111 [k_5, G5, L2, L3] w) w) w)
    (fun k => k [undef, undef, undef, undef] w) (fun us111 w =>
    pick J8 (Value.bool true) (gd us111 3) (fun L4 w =>
    cond L4
      (bin Tryz.prog BinOp.eql 34 false true H4 (Value.int IntKind.i64 1) (fun L6 w =>
      gsel L6 true (fun k119 =>
      call Tryz.prog 7 #[] (fun L8 w =>
      k119 [L8] w) w)
      (fun k => k [undef] w) (fun us119 w =>
      pick L6 (gd us119 0) (Value.bool false) (fun L9 w =>
      K L9 w) w)) w)
      (hReg (fun S w =>
    hld S (fun k w => bin Tryz.prog BinOp.eql 34 false true H4 (Value.int IntKind.i64 0) k w) (fun M1 =>
    hG M1 true S (fun k w => k H3 w) (fun M3 =>
    hG M1 true S (fun k w => conv Tryz.prog 28 9 M3 k w) (fun M4 =>
    hG M1 true S (fun k w => k G4 w) (fun M5 =>
    hG M1 true S (fun k w => k G5 w) (fun M6 =>
    hG M1 true S (fun k w => k k_5 w) (fun M7 =>
    hG M1 true S (fun k w => slc Tryz.prog 40 M6 none (some M7) none k w) (fun M8 =>
    xG M1 true (fun k w => call Tryz.prog 15 #[M5, M8] k w) (fun M9 w =>
    hSub S (fun S w =>
    hG M1 true S (fun k w => conv Tryz.prog 28 9 M9 k w) (fun N0 =>
    hG M1 true S (fun k w => bin Tryz.prog BinOp.eql 9 false false M4 N0 k w) (fun N1 =>
    hld S (fun k w => pick M1 N1 (Value.bool false) k w) (fun N2 =>
    xG N2 true (fun k w => call Tryz.prog 7 #[] k w) (fun N4 w =>
    hReg (fun S w =>
    hld S (fun k w => pick N2 N4 (Value.bool false) k w) (fun N5 =>
    K N5 w)) w) w)))) w) w)))))))) w.drew)) w)) w)) w) w) w) w) w) w) w) w) w) w) :
    cCode Tryz.prog (rep [1, 1, 0, 1, 0, 1] xc0 (cd Tryz.f5 [1, 1, 1, 1, 1, 1, 1])) (retK Tryz.prog Tryz.f5.results.toList K) (fun _ _ _ => False) (retK Tryz.prog Tryz.f5.results.toList K) (raw0::n1::l2::at3::by4::k_5::raw6::n7::l8::at9::by10::k_11::A0::steps13::i14::b15::x16::y17::e18::c19::f20::A1::A2::g23::A3::A4::A5::A6::A7::A8::A9::C0::C1::C2::C3::C4::C5::C6::C7::C8::C9::D0::D1::D2::D3::D4::D5::D6::D7::D8::D9::E0::E1::E2::E3::E4::E5::E6::E7::E8::E9::F0::F1::F2::F3::F4::F5::F6::F7::F8::F9::G0::G1::G2::G3::G4::G5::G6::G7::G8::G9::H0::H1::H2::H3::H4::H5::H6::H7::H8::H9::I0::I1::I2::I3::I4::I5::I6::I7::I8::I9::J0::J1::J2::J3::J4::J5::J6::J7::J8::J9::L0::L1::L2::L3::L4::L5::L6::L7::L8::L9::M0::M1::M2::M3::M4::M5::M6::M7::M8::M9::N0::N1::N2::N3::N4::N5::[]) w := Eq.mp (by kernel_rfl) h

theorem leatlaw29_TraceRaw_P3_r {K : KV} {w : World}
    (h : call Tryz.prog 16 #[b15] (fun G3 w =>
    ext Tryz.prog G3 0 (fun G4 w =>
    ext Tryz.prog G3 1 (fun G5 w =>
    ext Tryz.prog G3 2 (fun G6 w =>
    bldS Tryz.prog 28 0 #[] (fun G8 w =>
    blt Tryz.prog Builtin.append #[28, 28] 28 #[false, false] #[G8, b15] (fun H0 w =>
    call Tryz.prog 17 #[H0, k_5] (fun H2 w =>
    ext Tryz.prog H2 0 (fun H3 w =>
    ext Tryz.prog H2 1 (fun H4 w =>
    bin Tryz.prog BinOp.neq 34 false true G6 (Value.int IntKind.i64 0) (fun H6 w =>
    cond H6
      (call Tryz.prog 18 #[b15] (fun H9 w =>
      ext Tryz.prog H9 0 (fun I0 w =>
      ext Tryz.prog H9 1 (fun I1 w =>
      ext Tryz.prog H9 2 (fun I2 w =>
      (leatlaw29_TraceRaw_A3 K) (raw0::n1::l2::at3::by4::k_5::raw6::n7::l8::at9::by10::k_11::A0::steps13::i14::b15::G4::G5::G6::H3::H4::I0::I1::I2::A3::A4::A5::A6::A7::A8::A9::C0::C1::C2::C3::C4::C5::C6::C7::C8::C9::D0::D1::D2::D3::D4::D5::D6::D7::D8::D9::E0::E1::E2::E3::E4::E5::E6::E7::E8::E9::F0::F1::F2::F3::F4::F5::F6::F7::F8::F9::G0::G3::b15::G3::G4::G5::G6::H2::G8::b15::H0::k_5::H2::H3::H4::G6::H6::H9::b15::H9::I0::I1::I2::I3::I4::I5::I6::I7::I8::I9::J0::J1::J2::J3::J4::J5::J6::J7::J8::J9::L0::L1::L2::L3::L4::L5::L6::L7::L8::L9::M0::M1::M2::M3::M4::M5::M6::M7::M8::M9::N0::N1::N2::N3::N4::N5::[]) w) w) w) w) w)
      (bin Tryz.prog BinOp.lss 3 false true k_5 (Value.int IntKind.i64 0) (fun J8 w =>
    gsel J8 false (fun k111 =>
    blt Tryz.prog Builtin.len #[40] 3 #[false] #[G5] (fun L2 w =>
    bin Tryz.prog BinOp.gtr 3 false false k_5 L2 (fun L3 w =>
    k111 [k_5, G5, L2, L3] w) w) w)
    (fun k => k [undef, undef, undef, undef] w) (fun us111 w =>
    pick J8 (Value.bool true) (gd us111 3) (fun L4 w =>
    cond L4
      (bin Tryz.prog BinOp.eql 34 false true H4 (Value.int IntKind.i64 1) (fun L6 w =>
      gsel L6 true (fun k119 =>
      call Tryz.prog 7 #[] (fun L8 w =>
      k119 [L8] w) w)
      (fun k => k [undef] w) (fun us119 w =>
      pick L6 (gd us119 0) (Value.bool false) (fun L9 w =>
      K L9 w) w)) w)
      (hReg (fun S w =>
    hld S (fun k w => bin Tryz.prog BinOp.eql 34 false true H4 (Value.int IntKind.i64 0) k w) (fun M1 =>
    hG M1 true S (fun k w => k H3 w) (fun M3 =>
    hG M1 true S (fun k w => conv Tryz.prog 28 9 M3 k w) (fun M4 =>
    hG M1 true S (fun k w => k G4 w) (fun M5 =>
    hG M1 true S (fun k w => k G5 w) (fun M6 =>
    hG M1 true S (fun k w => k k_5 w) (fun M7 =>
    hG M1 true S (fun k w => slc Tryz.prog 40 M6 none (some M7) none k w) (fun M8 =>
    xG M1 true (fun k w => call Tryz.prog 15 #[M5, M8] k w) (fun M9 w =>
    hSub S (fun S w =>
    hG M1 true S (fun k w => conv Tryz.prog 28 9 M9 k w) (fun N0 =>
    hG M1 true S (fun k w => bin Tryz.prog BinOp.eql 9 false false M4 N0 k w) (fun N1 =>
    hld S (fun k w => pick M1 N1 (Value.bool false) k w) (fun N2 =>
    xG N2 true (fun k w => call Tryz.prog 7 #[] k w) (fun N4 w =>
    hReg (fun S w =>
    hld S (fun k w => pick N2 N4 (Value.bool false) k w) (fun N5 =>
    K N5 w)) w) w)))) w) w)))))))) w.drew)) w)) w)) w) w) w) w) w) w) w) w) w) w) :
    leatlaw29_TraceRaw_P3 K (raw0::n1::l2::at3::by4::k_5::raw6::n7::l8::at9::by10::k_11::A0::steps13::i14::b15::x16::y17::e18::c19::f20::A1::A2::g23::A3::A4::A5::A6::A7::A8::A9::C0::C1::C2::C3::C4::C5::C6::C7::C8::C9::D0::D1::D2::D3::D4::D5::D6::D7::D8::D9::E0::E1::E2::E3::E4::E5::E6::E7::E8::E9::F0::F1::F2::F3::F4::F5::F6::F7::F8::F9::G0::G1::G2::G3::G4::G5::G6::G7::G8::G9::H0::H1::H2::H3::H4::H5::H6::H7::H8::H9::I0::I1::I2::I3::I4::I5::I6::I7::I8::I9::J0::J1::J2::J3::J4::J5::J6::J7::J8::J9::L0::L1::L2::L3::L4::L5::L6::L7::L8::L9::M0::M1::M2::M3::M4::M5::M6::M7::M8::M9::N0::N1::N2::N3::N4::N5::[]) w := by
  delta leatlaw29_TraceRaw_P3
  exact Eq.mp (congrArg (fun c => cCode Tryz.prog c (retK Tryz.prog Tryz.f5.results.toList K) (fun _ _ _ => False) (retK Tryz.prog Tryz.f5.results.toList K) (raw0::n1::l2::at3::by4::k_5::raw6::n7::l8::at9::by10::k_11::A0::steps13::i14::b15::x16::y17::e18::c19::f20::A1::A2::g23::A3::A4::A5::A6::A7::A8::A9::C0::C1::C2::C3::C4::C5::C6::C7::C8::C9::D0::D1::D2::D3::D4::D5::D6::D7::D8::D9::E0::E1::E2::E3::E4::E5::E6::E7::E8::E9::F0::F1::F2::F3::F4::F5::F6::F7::F8::F9::G0::G1::G2::G3::G4::G5::G6::G7::G8::G9::H0::H1::H2::H3::H4::H5::H6::H7::H8::H9::I0::I1::I2::I3::I4::I5::I6::I7::I8::I9::J0::J1::J2::J3::J4::J5::J6::J7::J8::J9::L0::L1::L2::L3::L4::L5::L6::L7::L8::L9::M0::M1::M2::M3::M4::M5::M6::M7::M8::M9::N0::N1::N2::N3::N4::N5::[]) w) (by kernel_rfl : (rep [1, 1, 0, 1, 0, 1] (cd Tryz.f5 [1, 1, 1, 1, 1, 1, 1, 1, 1, 0, 1, 0, 1]) (cd Tryz.f5 [1, 1, 1, 1, 1, 1, 1])) = (cd Tryz.f5 [1, 1, 1, 1, 1, 1, 1]))) (leatlaw29_TraceRaw_P3_k (cd Tryz.f5 [1, 1, 1, 1, 1, 1, 1, 1, 1, 0, 1, 0, 1]) h)

theorem leatlaw29_TraceRaw_A3_k {K : KV} (qc0 : KE) {w : World}
    (h : bin Tryz.prog BinOp.eql 34 false true f20 (Value.int IntKind.i64 5) (fun I4 w =>
    gsel I4 true (fun k97 =>
    bin Tryz.prog BinOp.eql 34 false true g23 (Value.int IntKind.i64 5) (fun I7 w =>
    k97 [g23, I7] w) w)
    (fun k => k [undef, undef] w) (fun us97 w =>
    pick I4 (gd us97 1) (Value.bool false) (fun I8 w =>
    gsel I8 true (fun k101 =>
    blt Tryz.prog Builtin.len #[28] 3 #[false] #[c19] (fun J1 w =>
    bin Tryz.prog BinOp.eql 3 false true J1 (Value.int IntKind.i64 0) (fun J2 w =>
    k101 [c19, J1, J2] w) w) w)
    (fun k => k [undef, undef, undef] w) (fun us101 w =>
    pick I8 (gd us101 2) (Value.bool false) (fun J3 w =>
    gsel J3 true (fun k106 =>
    call Tryz.prog 7 #[] (fun J5 w =>
    k106 [J5] w) w)
    (fun k => k [undef] w) (fun us106 w =>
    pick J3 (gd us106 0) (Value.bool false) (fun J6 w =>
    K J6 w) w)) w)) w)) w) :
    cCode Tryz.prog (cd Tryz.f5 [1, 1, 1, 1, 1, 1, 1, 1, 1, 0, 1, 0, 1]) qc0 (fun _ _ _ => False) (retK Tryz.prog Tryz.f5.results.toList K) (raw0::n1::l2::at3::by4::k_5::raw6::n7::l8::at9::by10::k_11::A0::steps13::i14::b15::x16::y17::e18::c19::f20::A1::A2::g23::A3::A4::A5::A6::A7::A8::A9::C0::C1::C2::C3::C4::C5::C6::C7::C8::C9::D0::D1::D2::D3::D4::D5::D6::D7::D8::D9::E0::E1::E2::E3::E4::E5::E6::E7::E8::E9::F0::F1::F2::F3::F4::F5::F6::F7::F8::F9::G0::G1::G2::G3::G4::G5::G6::G7::G8::G9::H0::H1::H2::H3::H4::H5::H6::H7::H8::H9::I0::I1::I2::I3::I4::I5::I6::I7::I8::I9::J0::J1::J2::J3::J4::J5::J6::J7::J8::J9::L0::L1::L2::L3::L4::L5::L6::L7::L8::L9::M0::M1::M2::M3::M4::M5::M6::M7::M8::M9::N0::N1::N2::N3::N4::N5::[]) w := Eq.mp (by kernel_rfl) h

theorem leatlaw29_TraceRaw_A3_r {K : KV} {w : World}
    (h : bin Tryz.prog BinOp.eql 34 false true f20 (Value.int IntKind.i64 5) (fun I4 w =>
    gsel I4 true (fun k97 =>
    bin Tryz.prog BinOp.eql 34 false true g23 (Value.int IntKind.i64 5) (fun I7 w =>
    k97 [g23, I7] w) w)
    (fun k => k [undef, undef] w) (fun us97 w =>
    pick I4 (gd us97 1) (Value.bool false) (fun I8 w =>
    gsel I8 true (fun k101 =>
    blt Tryz.prog Builtin.len #[28] 3 #[false] #[c19] (fun J1 w =>
    bin Tryz.prog BinOp.eql 3 false true J1 (Value.int IntKind.i64 0) (fun J2 w =>
    k101 [c19, J1, J2] w) w) w)
    (fun k => k [undef, undef, undef] w) (fun us101 w =>
    pick I8 (gd us101 2) (Value.bool false) (fun J3 w =>
    gsel J3 true (fun k106 =>
    call Tryz.prog 7 #[] (fun J5 w =>
    k106 [J5] w) w)
    (fun k => k [undef] w) (fun us106 w =>
    pick J3 (gd us106 0) (Value.bool false) (fun J6 w =>
    K J6 w) w)) w)) w)) w) :
    leatlaw29_TraceRaw_A3 K (raw0::n1::l2::at3::by4::k_5::raw6::n7::l8::at9::by10::k_11::A0::steps13::i14::b15::x16::y17::e18::c19::f20::A1::A2::g23::A3::A4::A5::A6::A7::A8::A9::C0::C1::C2::C3::C4::C5::C6::C7::C8::C9::D0::D1::D2::D3::D4::D5::D6::D7::D8::D9::E0::E1::E2::E3::E4::E5::E6::E7::E8::E9::F0::F1::F2::F3::F4::F5::F6::F7::F8::F9::G0::G1::G2::G3::G4::G5::G6::G7::G8::G9::H0::H1::H2::H3::H4::H5::H6::H7::H8::H9::I0::I1::I2::I3::I4::I5::I6::I7::I8::I9::J0::J1::J2::J3::J4::J5::J6::J7::J8::J9::L0::L1::L2::L3::L4::L5::L6::L7::L8::L9::M0::M1::M2::M3::M4::M5::M6::M7::M8::M9::N0::N1::N2::N3::N4::N5::[]) w := by
  delta leatlaw29_TraceRaw_A3
  exact Eq.mp (congrArg (fun c => cCode Tryz.prog c (leatlaw29_TraceRaw_P4 K) (fun _ _ _ => False) (retK Tryz.prog Tryz.f5.results.toList K) (raw0::n1::l2::at3::by4::k_5::raw6::n7::l8::at9::by10::k_11::A0::steps13::i14::b15::x16::y17::e18::c19::f20::A1::A2::g23::A3::A4::A5::A6::A7::A8::A9::C0::C1::C2::C3::C4::C5::C6::C7::C8::C9::D0::D1::D2::D3::D4::D5::D6::D7::D8::D9::E0::E1::E2::E3::E4::E5::E6::E7::E8::E9::F0::F1::F2::F3::F4::F5::F6::F7::F8::F9::G0::G1::G2::G3::G4::G5::G6::G7::G8::G9::H0::H1::H2::H3::H4::H5::H6::H7::H8::H9::I0::I1::I2::I3::I4::I5::I6::I7::I8::I9::J0::J1::J2::J3::J4::J5::J6::J7::J8::J9::L0::L1::L2::L3::L4::L5::L6::L7::L8::L9::M0::M1::M2::M3::M4::M5::M6::M7::M8::M9::N0::N1::N2::N3::N4::N5::[]) w) (by kernel_rfl : (cd Tryz.f5 [1, 1, 1, 1, 1, 1, 1, 1, 1, 0, 1, 0, 1]) = (cd Tryz.f5 [1, 1, 1, 1, 1, 1, 1, 1, 1, 0, 1, 0, 1]))) (leatlaw29_TraceRaw_A3_k (leatlaw29_TraceRaw_P4 K) h)
attribute [irreducible] leatlaw29_TraceRaw_P1 leatlaw29_TraceRaw_L1 leatlaw29_TraceRaw_P2 leatlaw29_TraceRaw_A1 leatlaw29_TraceRaw_P3 leatlaw29_TraceRaw_A2 leatlaw29_TraceRaw_P4 leatlaw29_TraceRaw_A3

end
end Go.Proofs.YtfjafbbalohmhaaGreatDoor
