/- Laid together: SR30 R30 Be TPl SRef Ref SR29 R29 R29b. -/
import Derived.Test.YtfjafbbalohmhaaGreatDoorSh
import Derived.Test.YtfjafbbalohmhaaGreatDoorChecked
import Derived.Test.YtfjafbbalohmhaaGreatDoorQ1
namespace Go.Proofs.YtfjafbbalohmhaaGreatDoor
open Go.RowKit
set_option maxRecDepth 100000


theorem leatref30_some_k {K : KV} {n0 : Value} {w : World}
    (h : bin Tryz.prog BinOp.geq 3 false true n0 (Value.int IntKind.i64 1) (fun A0 w =>
    gsel A0 true (fun k6 =>
    bin Tryz.prog BinOp.leq 3 false true n0 (Value.int IntKind.i64 6) (fun A2 w =>
    k6 [n0, A2] w) w)
    (fun k => k [undef, undef] w) (fun us6 w =>
    pick A0 (gd us6 1) (Value.bool false) (fun A3 w =>
    K A3 w) w)) w) :
    cCode Tryz.prog (cd Tryz.f42 []) (retK Tryz.prog Tryz.f42.results.toList K) (fun _ _ _ => False) (retK Tryz.prog Tryz.f42.results.toList K) [n0, undef, undef, undef, undef, undef, undef, undef, undef] w := Eq.mp (by kernel_rfl) h

theorem leatref30_some_in {K : KV} {n0 : Value} {w : World}
    (h : bin Tryz.prog BinOp.geq 3 false true n0 (Value.int IntKind.i64 1) (fun A0 w =>
    gsel A0 true (fun k6 =>
    bin Tryz.prog BinOp.leq 3 false true n0 (Value.int IntKind.i64 6) (fun A2 w =>
    k6 [n0, A2] w) w)
    (fun k => k [undef, undef] w) (fun us6 w =>
    pick A0 (gd us6 1) (Value.bool false) (fun A3 w =>
    K A3 w) w)) w) :
    Gives Tryz.prog 42 #[n0] w K := enter' Tryz.func42 (by kernel_rfl) (Eq.mp (congrArg (fun c => cCode Tryz.prog c (retK Tryz.prog Tryz.f42.results.toList K) (fun _ _ _ => False) (retK Tryz.prog Tryz.f42.results.toList K) [n0, undef, undef, undef, undef, undef, undef, undef, undef] w) (by kernel_rfl : (cd Tryz.f42 []) = (cd Tryz.f42 []))) (leatref30_some_k h))
theorem leatref30_some_go : isGo Tryz.prog 42 := ⟨_, Tryz.func42, by kernel_rfl, by kernel_rfl⟩

def leatref30_Steps_P1 (K : KV) : KE := cCode Tryz.prog (cd Tryz.f21 [1, 1, 1, 1, 1]) (retK Tryz.prog Tryz.f21.results.toList K) (fun _ _ _ => False) (retK Tryz.prog Tryz.f21.results.toList K)
def leatref30_Steps_A1 (K : KV) : KE := cCode Tryz.prog (cd Tryz.f21 [1, 1, 1, 1, 0, 1]) (leatref30_Steps_P1 K) (fun _ _ _ => False) (retK Tryz.prog Tryz.f21.results.toList K)
def leatref30_Steps_L1 (K : KV) : KE := cCode Tryz.prog (cd Tryz.f21 [1, 1, 1, 1, 0, 1, 0, 1, 0, 1, 0]) (leatref30_Steps_P1 K) (fun i => @Bool.rec (fun _ => KE) ((fun i => @Bool.rec (fun _ => KE) ((fun _ _ _ => False) i) (leatref30_Steps_P1 K) (Nat.beq i 0)) i) (leatref30_Steps_P1 K) (Nat.beq i 1)) (retK Tryz.prog Tryz.f21.results.toList K)
def leatref30_Steps_P2 (K : KV) : KE := cCode Tryz.prog (cd Tryz.f21 [1, 1, 1, 1, 0, 1, 0, 1, 1, 1, 1, 1, 1, 1, 1, 1, 1, 1]) (leatref30_Steps_P1 K) (fun i => @Bool.rec (fun _ => KE) ((fun _ _ _ => False) i) (leatref30_Steps_P1 K) (Nat.beq i 0)) (retK Tryz.prog Tryz.f21.results.toList K)
def leatref30_Steps_A2 (K : KV) : KE := cCode Tryz.prog (cd Tryz.f21 [1, 1, 1, 1, 0, 1, 0, 1, 1, 1, 1, 1, 1, 1, 1, 1, 1, 0, 1]) (leatref30_Steps_P2 K) (fun i => @Bool.rec (fun _ => KE) ((fun _ _ _ => False) i) (leatref30_Steps_P1 K) (Nat.beq i 0)) (retK Tryz.prog Tryz.f21.results.toList K)
def leatref30_Steps_P3 (K : KV) (B1 : KE) : KE := cCode Tryz.prog (cd Tryz.f21 [1, 1, 1, 1, 0, 1, 0, 1, 0, 1, 0, 0, 1, 1]) B1 (fun i => @Bool.rec (fun _ => KE) ((fun i => @Bool.rec (fun _ => KE) ((fun _ _ _ => False) i) (leatref30_Steps_P1 K) (Nat.beq i 0)) i) (leatref30_Steps_P1 K) (Nat.beq i 1)) (retK Tryz.prog Tryz.f21.results.toList K)
def leatref30_Steps_L2 (K : KV) (B1 : KE) : KE := cCode Tryz.prog (cd Tryz.f21 [1, 1, 1, 1, 0, 1, 0, 1, 0, 1, 0, 0, 1, 0, 0, 1, 0]) (leatref30_Steps_P3 K B1) (fun i => @Bool.rec (fun _ => KE) ((fun i => @Bool.rec (fun _ => KE) ((fun i => @Bool.rec (fun _ => KE) ((fun i => @Bool.rec (fun _ => KE) ((fun _ _ _ => False) i) (leatref30_Steps_P1 K) (Nat.beq i 0)) i) (leatref30_Steps_P1 K) (Nat.beq i 1)) i) (leatref30_Steps_P3 K B1) (Nat.beq i 2)) i) (leatref30_Steps_P3 K B1) (Nat.beq i 3)) (retK Tryz.prog Tryz.f21.results.toList K)
def leatref30_Steps_P4 (K : KV) (B1 : KE) (B2 : KE) : KE := cCode Tryz.prog (cd Tryz.f21 [1, 1, 1, 1, 0, 1, 0, 1, 0, 1, 0, 0, 1, 0, 0, 1, 0, 0, 1, 1]) B2 (fun i => @Bool.rec (fun _ => KE) ((fun i => @Bool.rec (fun _ => KE) ((fun i => @Bool.rec (fun _ => KE) ((fun i => @Bool.rec (fun _ => KE) ((fun _ _ _ => False) i) (leatref30_Steps_P1 K) (Nat.beq i 0)) i) (leatref30_Steps_P1 K) (Nat.beq i 1)) i) (leatref30_Steps_P3 K B1) (Nat.beq i 2)) i) (leatref30_Steps_P3 K B1) (Nat.beq i 3)) (retK Tryz.prog Tryz.f21.results.toList K)
def leatref30_Steps_A3 (K : KV) (B1 : KE) (B2 : KE) : KE := cCode Tryz.prog (cd Tryz.f21 [1, 1, 1, 1, 0, 1, 0, 1, 0, 1, 0, 0, 1, 0, 0, 1, 0, 0, 1, 0]) (leatref30_Steps_P4 K B1 B2) (fun i => @Bool.rec (fun _ => KE) ((fun i => @Bool.rec (fun _ => KE) ((fun i => @Bool.rec (fun _ => KE) ((fun i => @Bool.rec (fun _ => KE) ((fun _ _ _ => False) i) (leatref30_Steps_P1 K) (Nat.beq i 0)) i) (leatref30_Steps_P1 K) (Nat.beq i 1)) i) (leatref30_Steps_P3 K B1) (Nat.beq i 2)) i) (leatref30_Steps_P3 K B1) (Nat.beq i 3)) (retK Tryz.prog Tryz.f21.results.toList K)
def leatref30_Steps_L3 (K : KV) : KE := cCode Tryz.prog (cd Tryz.f21 [1, 1, 1, 1, 0, 1, 0, 1, 1, 1, 1, 1, 1, 1, 1, 1, 1, 1, 0, 1, 0]) (leatref30_Steps_P1 K) (fun i => @Bool.rec (fun _ => KE) ((fun i => @Bool.rec (fun _ => KE) ((fun _ _ _ => False) i) (leatref30_Steps_P1 K) (Nat.beq i 0)) i) (leatref30_Steps_P1 K) (Nat.beq i 5)) (retK Tryz.prog Tryz.f21.results.toList K)
def leatref30_Steps_L4 (K : KV) : KE := cCode Tryz.prog (cd Tryz.f21 [1, 1, 1, 1, 0, 1, 0, 1, 1, 1, 1, 1, 1, 1, 1, 1, 1, 1, 1, 1, 1, 1, 0, 1, 0]) (leatref30_Steps_P1 K) (fun i => @Bool.rec (fun _ => KE) ((fun i => @Bool.rec (fun _ => KE) ((fun _ _ _ => False) i) (leatref30_Steps_P1 K) (Nat.beq i 0)) i) (leatref30_Steps_P1 K) (Nat.beq i 7)) (retK Tryz.prog Tryz.f21.results.toList K)
def leatref30_Steps_P5 (K : KV) (B1 : KE) : KE := cCode Tryz.prog (cd Tryz.f21 [1, 1, 1, 1, 0, 1, 0, 1, 1, 1, 1, 1, 1, 1, 1, 1, 1, 1, 0, 1, 0, 0, 1, 1]) B1 (fun i => @Bool.rec (fun _ => KE) ((fun i => @Bool.rec (fun _ => KE) ((fun _ _ _ => False) i) (leatref30_Steps_P1 K) (Nat.beq i 0)) i) (leatref30_Steps_P1 K) (Nat.beq i 5)) (retK Tryz.prog Tryz.f21.results.toList K)
def leatref30_Steps_P6 (K : KV) (B1 : KE) : KE := cCode Tryz.prog (cd Tryz.f21 [1, 1, 1, 1, 0, 1, 0, 1, 1, 1, 1, 1, 1, 1, 1, 1, 1, 1, 0, 1, 0, 0, 1, 0, 0, 1, 1]) (leatref30_Steps_P5 K B1) (fun i => @Bool.rec (fun _ => KE) ((fun i => @Bool.rec (fun _ => KE) ((fun i => @Bool.rec (fun _ => KE) ((fun _ _ _ => False) i) (leatref30_Steps_P1 K) (Nat.beq i 0)) i) (leatref30_Steps_P1 K) (Nat.beq i 5)) i) (leatref30_Steps_P5 K B1) (Nat.beq i 6)) (retK Tryz.prog Tryz.f21.results.toList K)
def leatref30_Steps_A4 (K : KV) (B1 : KE) : KE := cCode Tryz.prog (cd Tryz.f21 [1, 1, 1, 1, 0, 1, 0, 1, 1, 1, 1, 1, 1, 1, 1, 1, 1, 1, 0, 1, 0, 0, 1, 0, 0, 1, 0, 1]) (leatref30_Steps_P6 K B1) (fun i => @Bool.rec (fun _ => KE) ((fun i => @Bool.rec (fun _ => KE) ((fun i => @Bool.rec (fun _ => KE) ((fun _ _ _ => False) i) (leatref30_Steps_P1 K) (Nat.beq i 0)) i) (leatref30_Steps_P1 K) (Nat.beq i 5)) i) (leatref30_Steps_P5 K B1) (Nat.beq i 6)) (retK Tryz.prog Tryz.f21.results.toList K)
theorem leatref30_Steps_k {K : KV} (xc0 : Code) {n0 e1 under2 : Value} {w : World}
    (h : box Tryz.prog 55 e1 (fun e4 w =>
    call Tryz.prog 42 #[n0] (fun A5 w =>
    un Tryz.prog UnOp.not A5 (fun A6 w =>
    cond A6
      (K (Value.slice none 0 0) w)
      (fldA Tryz.prog 55 e4 1 (fun A7 w =>
    ld Tryz.prog 5 A7 (fun A8 w =>
    conv Tryz.prog 5 3 A8 (fun A9 w =>
    bin Tryz.prog BinOp.rem 3 false false A9 n0 (fun C1 w =>
    bin Tryz.prog BinOp.add 3 true false (Value.int IntKind.i64 1) C1 (fun C2 w =>
    fldA Tryz.prog 55 e4 0 (fun C3 w =>
    ld Tryz.prog 5 C3 (fun C4 w =>
    (cCode Tryz.prog xc0 (cCode Tryz.prog (cd Tryz.f21 [1, 1, 1, 1, 1]) (retK Tryz.prog Tryz.f21.results.toList K) (fun _ _ _ => False) (retK Tryz.prog Tryz.f21.results.toList K)) (fun _ _ _ => False) (retK Tryz.prog Tryz.f21.results.toList K)) (n0::e1::under2::undef::e4::undef::(Value.slice none 0 0)::C2::(Value.slice none 0 0)::undef::undef::undef::undef::undef::n0::A5::A6::A7::A8::A9::n0::C1::C2::C3::C4::undef::undef::undef::undef::undef::undef::undef::undef::undef::undef::undef::undef::undef::undef::undef::undef::undef::undef::undef::undef::undef::undef::undef::undef::undef::undef::undef::undef::undef::undef::undef::undef::undef::undef::undef::undef::undef::undef::undef::undef::undef::undef::undef::undef::undef::undef::undef::undef::undef::undef::undef::undef::undef::undef::undef::undef::undef::undef::undef::undef::undef::undef::undef::undef::undef::undef::undef::undef::undef::undef::undef::undef::undef::undef::undef::undef::undef::undef::undef::undef::undef::undef::undef::undef::undef::undef::undef::undef::undef::undef::undef::undef::undef::undef::undef::undef::undef::undef::undef::undef::undef::undef::undef::[]) w) w) w) w) w) w) w) w)) w) w) w) :
    cCode Tryz.prog (rep [1, 1, 1, 1, 0, 1] xc0 (cd Tryz.f21 [])) (retK Tryz.prog Tryz.f21.results.toList K) (fun _ _ _ => False) (retK Tryz.prog Tryz.f21.results.toList K) (n0::e1::under2::undef::undef::undef::undef::undef::undef::undef::undef::undef::undef::undef::undef::undef::undef::undef::undef::undef::undef::undef::undef::undef::undef::undef::undef::undef::undef::undef::undef::undef::undef::undef::undef::undef::undef::undef::undef::undef::undef::undef::undef::undef::undef::undef::undef::undef::undef::undef::undef::undef::undef::undef::undef::undef::undef::undef::undef::undef::undef::undef::undef::undef::undef::undef::undef::undef::undef::undef::undef::undef::undef::undef::undef::undef::undef::undef::undef::undef::undef::undef::undef::undef::undef::undef::undef::undef::undef::undef::undef::undef::undef::undef::undef::undef::undef::undef::undef::undef::undef::undef::undef::undef::undef::undef::undef::undef::undef::undef::undef::undef::undef::undef::undef::undef::undef::undef::undef::undef::undef::undef::undef::undef::undef::undef::undef::undef::[]) w := Eq.mp (by kernel_rfl) h

theorem leatref30_Steps_in {K : KV} {n0 e1 under2 : Value} {w : World}
    (h : box Tryz.prog 55 e1 (fun e4 w =>
    call Tryz.prog 42 #[n0] (fun A5 w =>
    un Tryz.prog UnOp.not A5 (fun A6 w =>
    cond A6
      (K (Value.slice none 0 0) w)
      (fldA Tryz.prog 55 e4 1 (fun A7 w =>
    ld Tryz.prog 5 A7 (fun A8 w =>
    conv Tryz.prog 5 3 A8 (fun A9 w =>
    bin Tryz.prog BinOp.rem 3 false false A9 n0 (fun C1 w =>
    bin Tryz.prog BinOp.add 3 true false (Value.int IntKind.i64 1) C1 (fun C2 w =>
    fldA Tryz.prog 55 e4 0 (fun C3 w =>
    ld Tryz.prog 5 C3 (fun C4 w =>
    (leatref30_Steps_A1 K) (n0::e1::under2::undef::e4::undef::(Value.slice none 0 0)::C2::(Value.slice none 0 0)::undef::undef::undef::undef::undef::n0::A5::A6::A7::A8::A9::n0::C1::C2::C3::C4::undef::undef::undef::undef::undef::undef::undef::undef::undef::undef::undef::undef::undef::undef::undef::undef::undef::undef::undef::undef::undef::undef::undef::undef::undef::undef::undef::undef::undef::undef::undef::undef::undef::undef::undef::undef::undef::undef::undef::undef::undef::undef::undef::undef::undef::undef::undef::undef::undef::undef::undef::undef::undef::undef::undef::undef::undef::undef::undef::undef::undef::undef::undef::undef::undef::undef::undef::undef::undef::undef::undef::undef::undef::undef::undef::undef::undef::undef::undef::undef::undef::undef::undef::undef::undef::undef::undef::undef::undef::undef::undef::undef::undef::undef::undef::undef::undef::undef::undef::undef::undef::undef::undef::[]) w) w) w) w) w) w) w) w)) w) w) w) :
    Gives Tryz.prog 21 #[n0, e1, under2] w K := enter' Tryz.func21 (by kernel_rfl) (Eq.mp (congrArg (fun c => cCode Tryz.prog c (retK Tryz.prog Tryz.f21.results.toList K) (fun _ _ _ => False) (retK Tryz.prog Tryz.f21.results.toList K) (n0::e1::under2::undef::undef::undef::undef::undef::undef::undef::undef::undef::undef::undef::undef::undef::undef::undef::undef::undef::undef::undef::undef::undef::undef::undef::undef::undef::undef::undef::undef::undef::undef::undef::undef::undef::undef::undef::undef::undef::undef::undef::undef::undef::undef::undef::undef::undef::undef::undef::undef::undef::undef::undef::undef::undef::undef::undef::undef::undef::undef::undef::undef::undef::undef::undef::undef::undef::undef::undef::undef::undef::undef::undef::undef::undef::undef::undef::undef::undef::undef::undef::undef::undef::undef::undef::undef::undef::undef::undef::undef::undef::undef::undef::undef::undef::undef::undef::undef::undef::undef::undef::undef::undef::undef::undef::undef::undef::undef::undef::undef::undef::undef::undef::undef::undef::undef::undef::undef::undef::undef::undef::undef::undef::undef::undef::undef::undef::[]) w) (by kernel_rfl : (rep [1, 1, 1, 1, 0, 1] (cd Tryz.f21 [1, 1, 1, 1, 0, 1]) (cd Tryz.f21 [])) = (cd Tryz.f21 []))) (leatref30_Steps_k (cd Tryz.f21 [1, 1, 1, 1, 0, 1]) h))
theorem leatref30_Steps_go : isGo Tryz.prog 21 := ⟨_, Tryz.func21, by kernel_rfl, by kernel_rfl⟩

section
variable {n0 e1 under2 n3 e4 under5 A1 who7 out8 i9 j10 i11 s12 i13 A4 A5 A6 A7 A8 A9 C0 C1 C2 C3 C4 C5 C6 C7 C8 C9 D0 D1 D2 D3 D4 D5 D6 D7 D8 D9 E0 E1 E2 E3 E4 E5 E6 E7 E8 E9 F0 F1 F2 F3 F4 F5 F6 F7 F8 F9 G0 G1 G2 G3 G4 G5 G6 G7 G8 G9 H0 H1 H2 H3 H4 H5 H6 H7 H8 H9 I0 I1 I2 I3 I4 I5 I6 I7 I8 I9 J0 J1 J2 J3 J4 J5 J6 J7 J8 J9 L0 L1 L2 L3 L4 L5 L6 L7 L8 L9 M0 M1 M2 M3 M4 M5 M6 M7 M8 M9 N0 N1 N2 N3 N4 N5 N6 N7 : Value}
theorem leatref30_Steps_A1_k {K : KV} (qc0 : KE) (xc0 : Code) {w : World}
    (h : bin Tryz.prog BinOp.eql 5 false true C4 (Value.int IntKind.u8 1) (fun C6 w =>
    cond C6
      ((cCode Tryz.prog (cd Tryz.f21 [1, 1, 1, 1, 0, 1, 0, 1, 0, 1, 0]) qc0 (fun i => @Bool.rec (fun _ => KE) ((fun i => @Bool.rec (fun _ => KE) ((fun _ _ _ => False) i) qc0 (Nat.beq i 0)) i) qc0 (Nat.beq i 1)) (retK Tryz.prog Tryz.f21.results.toList K)) (n0::e1::under2::n3::e4::under5::A1::who7::out8::(Value.int IntKind.i64 1)::j10::i11::s12::i13::A4::A5::A6::A7::A8::A9::C0::C1::C2::C3::C4::C6::C6::C7::C8::C9::D0::D1::D2::D3::D4::D5::D6::D7::D8::D9::E0::E1::E2::E3::E4::E5::E6::E7::E8::E9::F0::F1::F2::F3::F4::F5::F6::F7::F8::F9::G0::G1::G2::G3::G4::G5::G6::G7::G8::G9::H0::H1::H2::H3::H4::H5::H6::H7::H8::H9::I0::I1::I2::I3::I4::I5::I6::I7::I8::I9::J0::J1::J2::J3::J4::J5::J6::J7::J8::J9::L0::L1::L2::L3::L4::L5::L6::L7::L8::L9::M0::M1::M2::M3::M4::M5::M6::M7::M8::M9::N0::N1::N2::N3::N4::N5::N6::N7::[]) w)
      (bin Tryz.prog BinOp.eql 5 false true C4 (Value.int IntKind.u8 2) (fun G1 w =>
      cond G1
        (bld Tryz.prog 27 #[(0, (Value.int IntKind.u8 8))] (fun G3 w =>
        bldS Tryz.prog 40 1 #[(0, G3)] (fun G4 w =>
        blt Tryz.prog Builtin.append #[40, 40] 40 #[false, false] #[out8, G4] (fun G5 w =>
        qc0 (n0::e1::under2::n3::e4::under5::A1::who7::G5::i9::j10::i11::s12::i13::A4::A5::A6::A7::A8::A9::C0::C1::C2::C3::C4::C6::C6::C7::C8::C9::D0::D1::D2::D3::D4::D5::D6::D7::D8::D9::E0::E1::E2::E3::E4::E5::E6::E7::E8::E9::F0::F1::F2::F3::F4::F5::F6::F7::F8::F9::G1::G1::out8::G3::G4::G5::G6::G7::G8::G9::H0::H1::H2::H3::H4::H5::H6::H7::H8::H9::I0::I1::I2::I3::I4::I5::I6::I7::I8::I9::J0::J1::J2::J3::J4::J5::J6::J7::J8::J9::L0::L1::L2::L3::L4::L5::L6::L7::L8::L9::M0::M1::M2::M3::M4::M5::M6::M7::M8::M9::N0::N1::N2::N3::N4::N5::N6::N7::[]) w) w) w) w)
        (bin Tryz.prog BinOp.eql 5 false true C4 (Value.int IntKind.u8 3) (fun G7 w =>
        cond G7
          (bld Tryz.prog 27 #[(0, (Value.int IntKind.u8 10)), (1, who7)] (fun H0 w =>
          bldS Tryz.prog 40 1 #[(0, H0)] (fun H1 w =>
          blt Tryz.prog Builtin.append #[40, 40] 40 #[false, false] #[out8, H1] (fun H2 w =>
          qc0 (n0::e1::under2::n3::e4::under5::A1::who7::H2::i9::j10::i11::s12::i13::A4::A5::A6::A7::A8::A9::C0::C1::C2::C3::C4::C6::C6::C7::C8::C9::D0::D1::D2::D3::D4::D5::D6::D7::D8::D9::E0::E1::E2::E3::E4::E5::E6::E7::E8::E9::F0::F1::F2::F3::F4::F5::F6::F7::F8::F9::G1::G1::G2::G3::G4::G5::G7::G7::out8::who7::H0::H1::H2::H3::H4::H5::H6::H7::H8::H9::I0::I1::I2::I3::I4::I5::I6::I7::I8::I9::J0::J1::J2::J3::J4::J5::J6::J7::J8::J9::L0::L1::L2::L3::L4::L5::L6::L7::L8::L9::M0::M1::M2::M3::M4::M5::M6::M7::M8::M9::N0::N1::N2::N3::N4::N5::N6::N7::[]) w) w) w) w)
          (bin Tryz.prog BinOp.eql 5 false true C4 (Value.int IntKind.u8 4) (fun H4 w =>
          cond H4
            (bld Tryz.prog 27 #[(0, (Value.int IntKind.u8 11)), (1, who7)] (fun H7 w =>
            bldS Tryz.prog 40 1 #[(0, H7)] (fun H8 w =>
            blt Tryz.prog Builtin.append #[40, 40] 40 #[false, false] #[out8, H8] (fun H9 w =>
            qc0 (n0::e1::under2::n3::e4::under5::A1::who7::H9::i9::j10::i11::s12::i13::A4::A5::A6::A7::A8::A9::C0::C1::C2::C3::C4::C6::C6::C7::C8::C9::D0::D1::D2::D3::D4::D5::D6::D7::D8::D9::E0::E1::E2::E3::E4::E5::E6::E7::E8::E9::F0::F1::F2::F3::F4::F5::F6::F7::F8::F9::G1::G1::G2::G3::G4::G5::G7::G7::G8::G9::H0::H1::H2::H4::H4::out8::who7::H7::H8::H9::I0::I1::I2::I3::I4::I5::I6::I7::I8::I9::J0::J1::J2::J3::J4::J5::J6::J7::J8::J9::L0::L1::L2::L3::L4::L5::L6::L7::L8::L9::M0::M1::M2::M3::M4::M5::M6::M7::M8::M9::N0::N1::N2::N3::N4::N5::N6::N7::[]) w) w) w) w)
            (bin Tryz.prog BinOp.eql 5 false true C4 (Value.int IntKind.u8 5) (fun I1 w =>
            cond I1
              (fldA Tryz.prog 55 e4 2 (fun I4 w =>
              ld Tryz.prog 3 I4 (fun I5 w =>
              bld Tryz.prog 27 #[(0, (Value.int IntKind.u8 9)), (1, who7), (5, I5)] (fun I6 w =>
              bldS Tryz.prog 40 1 #[(0, I6)] (fun I7 w =>
              blt Tryz.prog Builtin.append #[40, 40] 40 #[false, false] #[out8, I7] (fun I8 w =>
              qc0 (n0::e1::under2::n3::e4::under5::A1::who7::I8::i9::j10::i11::s12::i13::A4::A5::A6::A7::A8::A9::C0::C1::C2::C3::C4::C6::C6::C7::C8::C9::D0::D1::D2::D3::D4::D5::D6::D7::D8::D9::E0::E1::E2::E3::E4::E5::E6::E7::E8::E9::F0::F1::F2::F3::F4::F5::F6::F7::F8::F9::G1::G1::G2::G3::G4::G5::G7::G7::G8::G9::H0::H1::H2::H4::H4::H5::H6::H7::H8::H9::I1::I1::out8::who7::I4::I5::I6::I7::I8::I9::J0::J1::J2::J3::J4::J5::J6::J7::J8::J9::L0::L1::L2::L3::L4::L5::L6::L7::L8::L9::M0::M1::M2::M3::M4::M5::M6::M7::M8::M9::N0::N1::N2::N3::N4::N5::N6::N7::[]) w) w) w) w) w) w)
              (bin Tryz.prog BinOp.eql 5 false true C4 (Value.int IntKind.u8 6) (fun J0 w =>
              (cCode Tryz.prog xc0 (cCode Tryz.prog (cd Tryz.f21 [1, 1, 1, 1, 0, 1, 0, 1, 1, 1, 1, 1, 1, 1, 1, 1, 1, 1]) qc0 (fun i => @Bool.rec (fun _ => KE) ((fun _ _ _ => False) i) qc0 (Nat.beq i 0)) (retK Tryz.prog Tryz.f21.results.toList K)) (fun i => @Bool.rec (fun _ => KE) ((fun _ _ _ => False) i) qc0 (Nat.beq i 0)) (retK Tryz.prog Tryz.f21.results.toList K)) (n0::e1::under2::n3::e4::under5::A1::who7::out8::i9::j10::i11::s12::i13::A4::A5::A6::A7::A8::A9::C0::C1::C2::C3::C4::C6::C6::C7::C8::C9::D0::D1::D2::D3::D4::D5::D6::D7::D8::D9::E0::E1::E2::E3::E4::E5::E6::E7::E8::E9::F0::F1::F2::F3::F4::F5::F6::F7::F8::F9::G1::G1::G2::G3::G4::G5::G7::G7::G8::G9::H0::H1::H2::H4::H4::H5::H6::H7::H8::H9::I1::I1::I2::I3::I4::I5::I6::I7::I8::J0::J0::J1::J2::J3::J4::J5::J6::J7::J8::J9::L0::L1::L2::L3::L4::L5::L6::L7::L8::L9::M0::M1::M2::M3::M4::M5::M6::M7::M8::M9::N0::N1::N2::N3::N4::N5::N6::N7::[]) w) w)) w)) w)) w)) w)) w) :
    cCode Tryz.prog (rep [0, 1, 1, 1, 1, 1, 1, 1, 1, 1, 1, 0, 1] xc0 (cd Tryz.f21 [1, 1, 1, 1, 0, 1])) qc0 (fun _ _ _ => False) (retK Tryz.prog Tryz.f21.results.toList K) (n0::e1::under2::n3::e4::under5::A1::who7::out8::i9::j10::i11::s12::i13::A4::A5::A6::A7::A8::A9::C0::C1::C2::C3::C4::C5::C6::C7::C8::C9::D0::D1::D2::D3::D4::D5::D6::D7::D8::D9::E0::E1::E2::E3::E4::E5::E6::E7::E8::E9::F0::F1::F2::F3::F4::F5::F6::F7::F8::F9::G0::G1::G2::G3::G4::G5::G6::G7::G8::G9::H0::H1::H2::H3::H4::H5::H6::H7::H8::H9::I0::I1::I2::I3::I4::I5::I6::I7::I8::I9::J0::J1::J2::J3::J4::J5::J6::J7::J8::J9::L0::L1::L2::L3::L4::L5::L6::L7::L8::L9::M0::M1::M2::M3::M4::M5::M6::M7::M8::M9::N0::N1::N2::N3::N4::N5::N6::N7::[]) w := Eq.mp (by kernel_rfl) h

theorem leatref30_Steps_A1_r {K : KV} {w : World}
    (h : bin Tryz.prog BinOp.eql 5 false true C4 (Value.int IntKind.u8 1) (fun C6 w =>
    cond C6
      ((leatref30_Steps_L1 K) (n0::e1::under2::n3::e4::under5::A1::who7::out8::(Value.int IntKind.i64 1)::j10::i11::s12::i13::A4::A5::A6::A7::A8::A9::C0::C1::C2::C3::C4::C6::C6::C7::C8::C9::D0::D1::D2::D3::D4::D5::D6::D7::D8::D9::E0::E1::E2::E3::E4::E5::E6::E7::E8::E9::F0::F1::F2::F3::F4::F5::F6::F7::F8::F9::G0::G1::G2::G3::G4::G5::G6::G7::G8::G9::H0::H1::H2::H3::H4::H5::H6::H7::H8::H9::I0::I1::I2::I3::I4::I5::I6::I7::I8::I9::J0::J1::J2::J3::J4::J5::J6::J7::J8::J9::L0::L1::L2::L3::L4::L5::L6::L7::L8::L9::M0::M1::M2::M3::M4::M5::M6::M7::M8::M9::N0::N1::N2::N3::N4::N5::N6::N7::[]) w)
      (bin Tryz.prog BinOp.eql 5 false true C4 (Value.int IntKind.u8 2) (fun G1 w =>
      cond G1
        (bld Tryz.prog 27 #[(0, (Value.int IntKind.u8 8))] (fun G3 w =>
        bldS Tryz.prog 40 1 #[(0, G3)] (fun G4 w =>
        blt Tryz.prog Builtin.append #[40, 40] 40 #[false, false] #[out8, G4] (fun G5 w =>
        (leatref30_Steps_P1 K) (n0::e1::under2::n3::e4::under5::A1::who7::G5::i9::j10::i11::s12::i13::A4::A5::A6::A7::A8::A9::C0::C1::C2::C3::C4::C6::C6::C7::C8::C9::D0::D1::D2::D3::D4::D5::D6::D7::D8::D9::E0::E1::E2::E3::E4::E5::E6::E7::E8::E9::F0::F1::F2::F3::F4::F5::F6::F7::F8::F9::G1::G1::out8::G3::G4::G5::G6::G7::G8::G9::H0::H1::H2::H3::H4::H5::H6::H7::H8::H9::I0::I1::I2::I3::I4::I5::I6::I7::I8::I9::J0::J1::J2::J3::J4::J5::J6::J7::J8::J9::L0::L1::L2::L3::L4::L5::L6::L7::L8::L9::M0::M1::M2::M3::M4::M5::M6::M7::M8::M9::N0::N1::N2::N3::N4::N5::N6::N7::[]) w) w) w) w)
        (bin Tryz.prog BinOp.eql 5 false true C4 (Value.int IntKind.u8 3) (fun G7 w =>
        cond G7
          (bld Tryz.prog 27 #[(0, (Value.int IntKind.u8 10)), (1, who7)] (fun H0 w =>
          bldS Tryz.prog 40 1 #[(0, H0)] (fun H1 w =>
          blt Tryz.prog Builtin.append #[40, 40] 40 #[false, false] #[out8, H1] (fun H2 w =>
          (leatref30_Steps_P1 K) (n0::e1::under2::n3::e4::under5::A1::who7::H2::i9::j10::i11::s12::i13::A4::A5::A6::A7::A8::A9::C0::C1::C2::C3::C4::C6::C6::C7::C8::C9::D0::D1::D2::D3::D4::D5::D6::D7::D8::D9::E0::E1::E2::E3::E4::E5::E6::E7::E8::E9::F0::F1::F2::F3::F4::F5::F6::F7::F8::F9::G1::G1::G2::G3::G4::G5::G7::G7::out8::who7::H0::H1::H2::H3::H4::H5::H6::H7::H8::H9::I0::I1::I2::I3::I4::I5::I6::I7::I8::I9::J0::J1::J2::J3::J4::J5::J6::J7::J8::J9::L0::L1::L2::L3::L4::L5::L6::L7::L8::L9::M0::M1::M2::M3::M4::M5::M6::M7::M8::M9::N0::N1::N2::N3::N4::N5::N6::N7::[]) w) w) w) w)
          (bin Tryz.prog BinOp.eql 5 false true C4 (Value.int IntKind.u8 4) (fun H4 w =>
          cond H4
            (bld Tryz.prog 27 #[(0, (Value.int IntKind.u8 11)), (1, who7)] (fun H7 w =>
            bldS Tryz.prog 40 1 #[(0, H7)] (fun H8 w =>
            blt Tryz.prog Builtin.append #[40, 40] 40 #[false, false] #[out8, H8] (fun H9 w =>
            (leatref30_Steps_P1 K) (n0::e1::under2::n3::e4::under5::A1::who7::H9::i9::j10::i11::s12::i13::A4::A5::A6::A7::A8::A9::C0::C1::C2::C3::C4::C6::C6::C7::C8::C9::D0::D1::D2::D3::D4::D5::D6::D7::D8::D9::E0::E1::E2::E3::E4::E5::E6::E7::E8::E9::F0::F1::F2::F3::F4::F5::F6::F7::F8::F9::G1::G1::G2::G3::G4::G5::G7::G7::G8::G9::H0::H1::H2::H4::H4::out8::who7::H7::H8::H9::I0::I1::I2::I3::I4::I5::I6::I7::I8::I9::J0::J1::J2::J3::J4::J5::J6::J7::J8::J9::L0::L1::L2::L3::L4::L5::L6::L7::L8::L9::M0::M1::M2::M3::M4::M5::M6::M7::M8::M9::N0::N1::N2::N3::N4::N5::N6::N7::[]) w) w) w) w)
            (bin Tryz.prog BinOp.eql 5 false true C4 (Value.int IntKind.u8 5) (fun I1 w =>
            cond I1
              (fldA Tryz.prog 55 e4 2 (fun I4 w =>
              ld Tryz.prog 3 I4 (fun I5 w =>
              bld Tryz.prog 27 #[(0, (Value.int IntKind.u8 9)), (1, who7), (5, I5)] (fun I6 w =>
              bldS Tryz.prog 40 1 #[(0, I6)] (fun I7 w =>
              blt Tryz.prog Builtin.append #[40, 40] 40 #[false, false] #[out8, I7] (fun I8 w =>
              (leatref30_Steps_P1 K) (n0::e1::under2::n3::e4::under5::A1::who7::I8::i9::j10::i11::s12::i13::A4::A5::A6::A7::A8::A9::C0::C1::C2::C3::C4::C6::C6::C7::C8::C9::D0::D1::D2::D3::D4::D5::D6::D7::D8::D9::E0::E1::E2::E3::E4::E5::E6::E7::E8::E9::F0::F1::F2::F3::F4::F5::F6::F7::F8::F9::G1::G1::G2::G3::G4::G5::G7::G7::G8::G9::H0::H1::H2::H4::H4::H5::H6::H7::H8::H9::I1::I1::out8::who7::I4::I5::I6::I7::I8::I9::J0::J1::J2::J3::J4::J5::J6::J7::J8::J9::L0::L1::L2::L3::L4::L5::L6::L7::L8::L9::M0::M1::M2::M3::M4::M5::M6::M7::M8::M9::N0::N1::N2::N3::N4::N5::N6::N7::[]) w) w) w) w) w) w)
              (bin Tryz.prog BinOp.eql 5 false true C4 (Value.int IntKind.u8 6) (fun J0 w =>
              (leatref30_Steps_A2 K) (n0::e1::under2::n3::e4::under5::A1::who7::out8::i9::j10::i11::s12::i13::A4::A5::A6::A7::A8::A9::C0::C1::C2::C3::C4::C6::C6::C7::C8::C9::D0::D1::D2::D3::D4::D5::D6::D7::D8::D9::E0::E1::E2::E3::E4::E5::E6::E7::E8::E9::F0::F1::F2::F3::F4::F5::F6::F7::F8::F9::G1::G1::G2::G3::G4::G5::G7::G7::G8::G9::H0::H1::H2::H4::H4::H5::H6::H7::H8::H9::I1::I1::I2::I3::I4::I5::I6::I7::I8::J0::J0::J1::J2::J3::J4::J5::J6::J7::J8::J9::L0::L1::L2::L3::L4::L5::L6::L7::L8::L9::M0::M1::M2::M3::M4::M5::M6::M7::M8::M9::N0::N1::N2::N3::N4::N5::N6::N7::[]) w) w)) w)) w)) w)) w)) w) :
    leatref30_Steps_A1 K (n0::e1::under2::n3::e4::under5::A1::who7::out8::i9::j10::i11::s12::i13::A4::A5::A6::A7::A8::A9::C0::C1::C2::C3::C4::C5::C6::C7::C8::C9::D0::D1::D2::D3::D4::D5::D6::D7::D8::D9::E0::E1::E2::E3::E4::E5::E6::E7::E8::E9::F0::F1::F2::F3::F4::F5::F6::F7::F8::F9::G0::G1::G2::G3::G4::G5::G6::G7::G8::G9::H0::H1::H2::H3::H4::H5::H6::H7::H8::H9::I0::I1::I2::I3::I4::I5::I6::I7::I8::I9::J0::J1::J2::J3::J4::J5::J6::J7::J8::J9::L0::L1::L2::L3::L4::L5::L6::L7::L8::L9::M0::M1::M2::M3::M4::M5::M6::M7::M8::M9::N0::N1::N2::N3::N4::N5::N6::N7::[]) w := by
  delta leatref30_Steps_A1
  exact Eq.mp (congrArg (fun c => cCode Tryz.prog c (leatref30_Steps_P1 K) (fun _ _ _ => False) (retK Tryz.prog Tryz.f21.results.toList K) (n0::e1::under2::n3::e4::under5::A1::who7::out8::i9::j10::i11::s12::i13::A4::A5::A6::A7::A8::A9::C0::C1::C2::C3::C4::C5::C6::C7::C8::C9::D0::D1::D2::D3::D4::D5::D6::D7::D8::D9::E0::E1::E2::E3::E4::E5::E6::E7::E8::E9::F0::F1::F2::F3::F4::F5::F6::F7::F8::F9::G0::G1::G2::G3::G4::G5::G6::G7::G8::G9::H0::H1::H2::H3::H4::H5::H6::H7::H8::H9::I0::I1::I2::I3::I4::I5::I6::I7::I8::I9::J0::J1::J2::J3::J4::J5::J6::J7::J8::J9::L0::L1::L2::L3::L4::L5::L6::L7::L8::L9::M0::M1::M2::M3::M4::M5::M6::M7::M8::M9::N0::N1::N2::N3::N4::N5::N6::N7::[]) w) (by kernel_rfl : (rep [0, 1, 1, 1, 1, 1, 1, 1, 1, 1, 1, 0, 1] (cd Tryz.f21 [1, 1, 1, 1, 0, 1, 0, 1, 1, 1, 1, 1, 1, 1, 1, 1, 1, 0, 1]) (cd Tryz.f21 [1, 1, 1, 1, 0, 1])) = (cd Tryz.f21 [1, 1, 1, 1, 0, 1]))) (leatref30_Steps_A1_k (leatref30_Steps_P1 K) (cd Tryz.f21 [1, 1, 1, 1, 0, 1, 0, 1, 1, 1, 1, 1, 1, 1, 1, 1, 1, 0, 1]) h)

end
theorem leatref30_Steps_L1_k {K : KV} (B1 : KE) (qc0 : KE) {n0 e1 under2 n3 e4 under5 A1 who7 out8' i9' i11 s12 i13 A4 A5 A6 A7 A8 A9 C0 C1 C2 C3 C4 C5 C6 G0 G1 G2 G3 G4 G5 G6 G7 G8 G9 H0 H1 H2 H3 H4 H5 H6 H7 H8 H9 I0 I1 I2 I3 I4 I5 I6 I7 I8 I9 J0 J1 J2 J3 J4 J5 J6 J7 J8 J9 L0 L1 L2 L3 L4 L5 L6 L7 L8 L9 M0 M1 M2 M3 M4 M5 M6 M7 M8 M9 N0 N1 N2 N3 N4 N5 N6 N7 : Value} {dd : Nat → Value} {w : World}
    (h : bin Tryz.prog BinOp.leq 3 false false i9' n0 (fun C9 w =>
    cond C9
      (bin Tryz.prog BinOp.add 3 false true i9' (Value.int IntKind.i64 1) (fun D3 w =>
    (cCode Tryz.prog (cd Tryz.f21 [1, 1, 1, 1, 0, 1, 0, 1, 0, 1, 0, 0, 1, 0, 0, 1, 0]) (cCode Tryz.prog (cd Tryz.f21 [1, 1, 1, 1, 0, 1, 0, 1, 0, 1, 0, 0, 1, 1]) B1 (fun i => @Bool.rec (fun _ => KE) ((fun i => @Bool.rec (fun _ => KE) ((fun _ _ _ => False) i) qc0 (Nat.beq i 0)) i) qc0 (Nat.beq i 1)) (retK Tryz.prog Tryz.f21.results.toList K)) (fun i => @Bool.rec (fun _ => KE) ((fun i => @Bool.rec (fun _ => KE) ((fun i => @Bool.rec (fun _ => KE) ((fun i => @Bool.rec (fun _ => KE) ((fun _ _ _ => False) i) qc0 (Nat.beq i 0)) i) qc0 (Nat.beq i 1)) i) (cCode Tryz.prog (cd Tryz.f21 [1, 1, 1, 1, 0, 1, 0, 1, 0, 1, 0, 0, 1, 1]) B1 (fun i => @Bool.rec (fun _ => KE) ((fun i => @Bool.rec (fun _ => KE) ((fun _ _ _ => False) i) qc0 (Nat.beq i 0)) i) qc0 (Nat.beq i 1)) (retK Tryz.prog Tryz.f21.results.toList K)) (Nat.beq i 2)) i) (cCode Tryz.prog (cd Tryz.f21 [1, 1, 1, 1, 0, 1, 0, 1, 0, 1, 0, 0, 1, 1]) B1 (fun i => @Bool.rec (fun _ => KE) ((fun i => @Bool.rec (fun _ => KE) ((fun _ _ _ => False) i) qc0 (Nat.beq i 0)) i) qc0 (Nat.beq i 1)) (retK Tryz.prog Tryz.f21.results.toList K)) (Nat.beq i 3)) (retK Tryz.prog Tryz.f21.results.toList K)) (n0::e1::under2::n3::e4::under5::A1::who7::out8'::i9'::D3::i11::s12::i13::A4::A5::A6::A7::A8::A9::C0::C1::C2::C3::C4::C5::C6::i9'::n0::C9::(dd 30)::(dd 31)::i9'::D3::(dd 34)::(dd 35)::(dd 36)::(dd 37)::(dd 38)::(dd 39)::(dd 40)::(dd 41)::(dd 42)::(dd 43)::(dd 44)::(dd 45)::(dd 46)::(dd 47)::(dd 48)::(dd 49)::(dd 50)::(dd 51)::(dd 52)::(dd 53)::(dd 54)::(dd 55)::(dd 56)::(dd 57)::(dd 58)::(dd 59)::G0::G1::G2::G3::G4::G5::G6::G7::G8::G9::H0::H1::H2::H3::H4::H5::H6::H7::H8::H9::I0::I1::I2::I3::I4::I5::I6::I7::I8::I9::J0::J1::J2::J3::J4::J5::J6::J7::J8::J9::L0::L1::L2::L3::L4::L5::L6::L7::L8::L9::M0::M1::M2::M3::M4::M5::M6::M7::M8::M9::N0::N1::N2::N3::N4::N5::N6::N7::[]) w) w)
      (qc0 (n0::e1::under2::n3::e4::under5::A1::who7::out8'::i9'::(dd 10)::i11::s12::i13::A4::A5::A6::A7::A8::A9::C0::C1::C2::C3::C4::C5::C6::i9'::n0::C9::(dd 30)::(dd 31)::(dd 32)::(dd 33)::(dd 34)::(dd 35)::(dd 36)::(dd 37)::(dd 38)::(dd 39)::(dd 40)::(dd 41)::(dd 42)::(dd 43)::(dd 44)::(dd 45)::(dd 46)::(dd 47)::(dd 48)::(dd 49)::(dd 50)::(dd 51)::(dd 52)::(dd 53)::(dd 54)::(dd 55)::(dd 56)::(dd 57)::(dd 58)::(dd 59)::G0::G1::G2::G3::G4::G5::G6::G7::G8::G9::H0::H1::H2::H3::H4::H5::H6::H7::H8::H9::I0::I1::I2::I3::I4::I5::I6::I7::I8::I9::J0::J1::J2::J3::J4::J5::J6::J7::J8::J9::L0::L1::L2::L3::L4::L5::L6::L7::L8::L9::M0::M1::M2::M3::M4::M5::M6::M7::M8::M9::N0::N1::N2::N3::N4::N5::N6::N7::[]) w)) w) :
    cCode Tryz.prog (cd Tryz.f21 [1, 1, 1, 1, 0, 1, 0, 1, 0, 1, 0, 0]) B1 (fun i => @Bool.rec (fun _ => KE) ((fun i => @Bool.rec (fun _ => KE) ((fun _ _ _ => False) i) qc0 (Nat.beq i 0)) i) qc0 (Nat.beq i 1)) (retK Tryz.prog Tryz.f21.results.toList K) (n0::e1::under2::n3::e4::under5::A1::who7::out8'::i9'::(dd 10)::i11::s12::i13::A4::A5::A6::A7::A8::A9::C0::C1::C2::C3::C4::C5::C6::(dd 27)::(dd 28)::(dd 29)::(dd 30)::(dd 31)::(dd 32)::(dd 33)::(dd 34)::(dd 35)::(dd 36)::(dd 37)::(dd 38)::(dd 39)::(dd 40)::(dd 41)::(dd 42)::(dd 43)::(dd 44)::(dd 45)::(dd 46)::(dd 47)::(dd 48)::(dd 49)::(dd 50)::(dd 51)::(dd 52)::(dd 53)::(dd 54)::(dd 55)::(dd 56)::(dd 57)::(dd 58)::(dd 59)::G0::G1::G2::G3::G4::G5::G6::G7::G8::G9::H0::H1::H2::H3::H4::H5::H6::H7::H8::H9::I0::I1::I2::I3::I4::I5::I6::I7::I8::I9::J0::J1::J2::J3::J4::J5::J6::J7::J8::J9::L0::L1::L2::L3::L4::L5::L6::L7::L8::L9::M0::M1::M2::M3::M4::M5::M6::M7::M8::M9::N0::N1::N2::N3::N4::N5::N6::N7::[]) w := Eq.mp (by kernel_rfl) h

section
variable {n0 e1 under2 n3 e4 under5 A1 who7 out8 i9 j10 i11 s12 i13 A4 A5 A6 A7 A8 A9 C0 C1 C2 C3 C4 C5 C6 C7 C8 C9 D0 D1 D2 D3 D4 D5 D6 D7 D8 D9 E0 E1 E2 E3 E4 E5 E6 E7 E8 E9 F0 F1 F2 F3 F4 F5 F6 F7 F8 F9 G0 G1 G2 G3 G4 G5 G6 G7 G8 G9 H0 H1 H2 H3 H4 H5 H6 H7 H8 H9 I0 I1 I2 I3 I4 I5 I6 I7 I8 I9 J0 J1 J2 J3 J4 J5 J6 J7 J8 J9 L0 L1 L2 L3 L4 L5 L6 L7 L8 L9 M0 M1 M2 M3 M4 M5 M6 M7 M8 M9 N0 N1 N2 N3 N4 N5 N6 N7 : Value}
theorem leatref30_Steps_L1_r {K : KV} {w : World} (Inv : Value → Value → World → Prop) (μ : Value → Value → World → Nat) (h0 : Inv out8 i9 w)
    (hs : ∀ (out8' i9' : Value) (dd : Nat → Value) (w : World) (m : Nat), Inv out8' i9' w → m = μ out8' i9' w →
    bin Tryz.prog BinOp.leq 3 false false i9' n0 (fun C9 w =>
    cond C9
      (bin Tryz.prog BinOp.add 3 false true i9' (Value.int IntKind.i64 1) (fun D3 w =>
    (leatref30_Steps_L2 K (fun e2 w2 => Inv (gd e2 8) (gd e2 9) w2 ∧ μ (gd e2 8) (gd e2 9) w2 < m)) (n0::e1::under2::n3::e4::under5::A1::who7::out8'::i9'::D3::i11::s12::i13::A4::A5::A6::A7::A8::A9::C0::C1::C2::C3::C4::C5::C6::i9'::n0::C9::(dd 30)::(dd 31)::i9'::D3::(dd 34)::(dd 35)::(dd 36)::(dd 37)::(dd 38)::(dd 39)::(dd 40)::(dd 41)::(dd 42)::(dd 43)::(dd 44)::(dd 45)::(dd 46)::(dd 47)::(dd 48)::(dd 49)::(dd 50)::(dd 51)::(dd 52)::(dd 53)::(dd 54)::(dd 55)::(dd 56)::(dd 57)::(dd 58)::(dd 59)::G0::G1::G2::G3::G4::G5::G6::G7::G8::G9::H0::H1::H2::H3::H4::H5::H6::H7::H8::H9::I0::I1::I2::I3::I4::I5::I6::I7::I8::I9::J0::J1::J2::J3::J4::J5::J6::J7::J8::J9::L0::L1::L2::L3::L4::L5::L6::L7::L8::L9::M0::M1::M2::M3::M4::M5::M6::M7::M8::M9::N0::N1::N2::N3::N4::N5::N6::N7::[]) w) w)
      ((leatref30_Steps_P1 K) (n0::e1::under2::n3::e4::under5::A1::who7::out8'::i9'::(dd 10)::i11::s12::i13::A4::A5::A6::A7::A8::A9::C0::C1::C2::C3::C4::C5::C6::i9'::n0::C9::(dd 30)::(dd 31)::(dd 32)::(dd 33)::(dd 34)::(dd 35)::(dd 36)::(dd 37)::(dd 38)::(dd 39)::(dd 40)::(dd 41)::(dd 42)::(dd 43)::(dd 44)::(dd 45)::(dd 46)::(dd 47)::(dd 48)::(dd 49)::(dd 50)::(dd 51)::(dd 52)::(dd 53)::(dd 54)::(dd 55)::(dd 56)::(dd 57)::(dd 58)::(dd 59)::G0::G1::G2::G3::G4::G5::G6::G7::G8::G9::H0::H1::H2::H3::H4::H5::H6::H7::H8::H9::I0::I1::I2::I3::I4::I5::I6::I7::I8::I9::J0::J1::J2::J3::J4::J5::J6::J7::J8::J9::L0::L1::L2::L3::L4::L5::L6::L7::L8::L9::M0::M1::M2::M3::M4::M5::M6::M7::M8::M9::N0::N1::N2::N3::N4::N5::N6::N7::[]) w)) w) :
    leatref30_Steps_L1 K (n0::e1::under2::n3::e4::under5::A1::who7::out8::i9::j10::i11::s12::i13::A4::A5::A6::A7::A8::A9::C0::C1::C2::C3::C4::C5::C6::C7::C8::C9::D0::D1::D2::D3::D4::D5::D6::D7::D8::D9::E0::E1::E2::E3::E4::E5::E6::E7::E8::E9::F0::F1::F2::F3::F4::F5::F6::F7::F8::F9::G0::G1::G2::G3::G4::G5::G6::G7::G8::G9::H0::H1::H2::H3::H4::H5::H6::H7::H8::H9::I0::I1::I2::I3::I4::I5::I6::I7::I8::I9::J0::J1::J2::J3::J4::J5::J6::J7::J8::J9::L0::L1::L2::L3::L4::L5::L6::L7::L8::L9::M0::M1::M2::M3::M4::M5::M6::M7::M8::M9::N0::N1::N2::N3::N4::N5::N6::N7::[]) w := by
  refine loop_rule (cd Tryz.f21 [1, 1, 1, 1, 0, 1, 0, 1, 0, 1, 0, 0]) [8, 9, 10, 27, 28, 29, 30, 31, 32, 33, 34, 35, 36, 37, 38, 39, 40, 41, 42, 43, 44, 45, 46, 47, 48, 49, 50, 51, 52, 53, 54, 55, 56, 57, 58, 59] (by kernel_rfl) (fun e2 w2 => Inv (gd e2 8) (gd e2 9) w2) (fun e2 w2 => μ (gd e2 8) (gd e2 9) w2) h0 ?_
  intro e' w' hI
  have h := hs (gd e' 8) (gd e' 9) (fun i => gd e' i) w' _ hI rfl
  have h2 : cCode Tryz.prog (cd Tryz.f21 [1, 1, 1, 1, 0, 1, 0, 1, 0, 1, 0, 0]) (fun e2 w2 => Inv (gd e2 8) (gd e2 9) w2 ∧ μ (gd e2 8) (gd e2 9) w2 < μ (gd e' 8) (gd e' 9) w') (fun i => @Bool.rec (fun _ => KE) ((fun i => @Bool.rec (fun _ => KE) ((fun _ _ _ => False) i) (leatref30_Steps_P1 K) (Nat.beq i 0)) i) (leatref30_Steps_P1 K) (Nat.beq i 1)) (retK Tryz.prog Tryz.f21.results.toList K) (n0::e1::under2::n3::e4::under5::A1::who7::(gd e' 8)::(gd e' 9)::(gd e' 10)::i11::s12::i13::A4::A5::A6::A7::A8::A9::C0::C1::C2::C3::C4::C5::C6::(gd e' 27)::(gd e' 28)::(gd e' 29)::(gd e' 30)::(gd e' 31)::(gd e' 32)::(gd e' 33)::(gd e' 34)::(gd e' 35)::(gd e' 36)::(gd e' 37)::(gd e' 38)::(gd e' 39)::(gd e' 40)::(gd e' 41)::(gd e' 42)::(gd e' 43)::(gd e' 44)::(gd e' 45)::(gd e' 46)::(gd e' 47)::(gd e' 48)::(gd e' 49)::(gd e' 50)::(gd e' 51)::(gd e' 52)::(gd e' 53)::(gd e' 54)::(gd e' 55)::(gd e' 56)::(gd e' 57)::(gd e' 58)::(gd e' 59)::G0::G1::G2::G3::G4::G5::G6::G7::G8::G9::H0::H1::H2::H3::H4::H5::H6::H7::H8::H9::I0::I1::I2::I3::I4::I5::I6::I7::I8::I9::J0::J1::J2::J3::J4::J5::J6::J7::J8::J9::L0::L1::L2::L3::L4::L5::L6::L7::L8::L9::M0::M1::M2::M3::M4::M5::M6::M7::M8::M9::N0::N1::N2::N3::N4::N5::N6::N7::[]) w' := leatref30_Steps_L1_k (fun e2 w2 => Inv (gd e2 8) (gd e2 9) w2 ∧ μ (gd e2 8) (gd e2 9) w2 < μ (gd e' 8) (gd e' 9) w') (leatref30_Steps_P1 K) (Eq.mp (by kernel_rfl) h)
  exact Eq.mp (by kernel_rfl) h2

theorem leatref30_Steps_P1_k {K : KV} {w : World}
    (h : K out8 w) :
    cCode Tryz.prog (cd Tryz.f21 [1, 1, 1, 1, 1]) (retK Tryz.prog Tryz.f21.results.toList K) (fun _ _ _ => False) (retK Tryz.prog Tryz.f21.results.toList K) (n0::e1::under2::n3::e4::under5::A1::who7::out8::i9::j10::i11::s12::i13::A4::A5::A6::A7::A8::A9::C0::C1::C2::C3::C4::C5::C6::C7::C8::C9::D0::D1::D2::D3::D4::D5::D6::D7::D8::D9::E0::E1::E2::E3::E4::E5::E6::E7::E8::E9::F0::F1::F2::F3::F4::F5::F6::F7::F8::F9::G0::G1::G2::G3::G4::G5::G6::G7::G8::G9::H0::H1::H2::H3::H4::H5::H6::H7::H8::H9::I0::I1::I2::I3::I4::I5::I6::I7::I8::I9::J0::J1::J2::J3::J4::J5::J6::J7::J8::J9::L0::L1::L2::L3::L4::L5::L6::L7::L8::L9::M0::M1::M2::M3::M4::M5::M6::M7::M8::M9::N0::N1::N2::N3::N4::N5::N6::N7::[]) w := Eq.mp (by kernel_rfl) h

theorem leatref30_Steps_P1_r {K : KV} {w : World}
    (h : K out8 w) :
    leatref30_Steps_P1 K (n0::e1::under2::n3::e4::under5::A1::who7::out8::i9::j10::i11::s12::i13::A4::A5::A6::A7::A8::A9::C0::C1::C2::C3::C4::C5::C6::C7::C8::C9::D0::D1::D2::D3::D4::D5::D6::D7::D8::D9::E0::E1::E2::E3::E4::E5::E6::E7::E8::E9::F0::F1::F2::F3::F4::F5::F6::F7::F8::F9::G0::G1::G2::G3::G4::G5::G6::G7::G8::G9::H0::H1::H2::H3::H4::H5::H6::H7::H8::H9::I0::I1::I2::I3::I4::I5::I6::I7::I8::I9::J0::J1::J2::J3::J4::J5::J6::J7::J8::J9::L0::L1::L2::L3::L4::L5::L6::L7::L8::L9::M0::M1::M2::M3::M4::M5::M6::M7::M8::M9::N0::N1::N2::N3::N4::N5::N6::N7::[]) w := by
  delta leatref30_Steps_P1
  exact Eq.mp (congrArg (fun c => cCode Tryz.prog c (retK Tryz.prog Tryz.f21.results.toList K) (fun _ _ _ => False) (retK Tryz.prog Tryz.f21.results.toList K) (n0::e1::under2::n3::e4::under5::A1::who7::out8::i9::j10::i11::s12::i13::A4::A5::A6::A7::A8::A9::C0::C1::C2::C3::C4::C5::C6::C7::C8::C9::D0::D1::D2::D3::D4::D5::D6::D7::D8::D9::E0::E1::E2::E3::E4::E5::E6::E7::E8::E9::F0::F1::F2::F3::F4::F5::F6::F7::F8::F9::G0::G1::G2::G3::G4::G5::G6::G7::G8::G9::H0::H1::H2::H3::H4::H5::H6::H7::H8::H9::I0::I1::I2::I3::I4::I5::I6::I7::I8::I9::J0::J1::J2::J3::J4::J5::J6::J7::J8::J9::L0::L1::L2::L3::L4::L5::L6::L7::L8::L9::M0::M1::M2::M3::M4::M5::M6::M7::M8::M9::N0::N1::N2::N3::N4::N5::N6::N7::[]) w) (by kernel_rfl : (cd Tryz.f21 [1, 1, 1, 1, 1]) = (cd Tryz.f21 [1, 1, 1, 1, 1]))) (leatref30_Steps_P1_k h)

theorem leatref30_Steps_A2_k {K : KV} (qc0 : KE) (qc1 : KE) {w : World}
    (h : cond I9
      (qc0 (n0::e1::under2::n3::e4::under5::A1::who7::out8::i9::j10::i11::s12::i13::A4::A5::A6::A7::A8::A9::C0::C1::C2::C3::C4::C5::C6::C7::C8::C9::D0::D1::D2::D3::D4::D5::D6::D7::D8::D9::E0::E1::E2::E3::E4::E5::E6::E7::E8::E9::F0::F1::F2::F3::F4::F5::F6::F7::F8::F9::G0::G1::G2::G3::G4::G5::G6::G7::G8::G9::H0::H1::H2::H3::H4::H5::H6::H7::H8::H9::I0::I1::I2::I3::I4::I5::I6::I7::I8::I9::J0::J1::J2::J3::J4::J5::J6::J7::J8::J9::L0::L1::L2::L3::L4::L5::L6::L7::L8::L9::M0::M1::M2::M3::M4::M5::M6::M7::M8::M9::N0::N1::N2::N3::N4::N5::N6::N7::[]) w)
      (bin Tryz.prog BinOp.eql 5 false true C4 (Value.int IntKind.u8 7) (fun J1 w =>
      qc0 (n0::e1::under2::n3::e4::under5::A1::who7::out8::i9::j10::i11::s12::i13::A4::A5::A6::A7::A8::A9::C0::C1::C2::C3::C4::C5::C6::C7::C8::C9::D0::D1::D2::D3::D4::D5::D6::D7::D8::D9::E0::E1::E2::E3::E4::E5::E6::E7::E8::E9::F0::F1::F2::F3::F4::F5::F6::F7::F8::F9::G0::G1::G2::G3::G4::G5::G6::G7::G8::G9::H0::H1::H2::H3::H4::H5::H6::H7::H8::H9::I0::I1::I2::I3::I4::I5::I6::I7::I8::J1::J0::J1::J2::J3::J4::J5::J6::J7::J8::J9::L0::L1::L2::L3::L4::L5::L6::L7::L8::L9::M0::M1::M2::M3::M4::M5::M6::M7::M8::M9::N0::N1::N2::N3::N4::N5::N6::N7::[]) w) w)) :
    cCode Tryz.prog (cd Tryz.f21 [1, 1, 1, 1, 0, 1, 0, 1, 1, 1, 1, 1, 1, 1, 1, 1, 1, 0, 1]) qc0 (fun i => @Bool.rec (fun _ => KE) ((fun _ _ _ => False) i) qc1 (Nat.beq i 0)) (retK Tryz.prog Tryz.f21.results.toList K) (n0::e1::under2::n3::e4::under5::A1::who7::out8::i9::j10::i11::s12::i13::A4::A5::A6::A7::A8::A9::C0::C1::C2::C3::C4::C5::C6::C7::C8::C9::D0::D1::D2::D3::D4::D5::D6::D7::D8::D9::E0::E1::E2::E3::E4::E5::E6::E7::E8::E9::F0::F1::F2::F3::F4::F5::F6::F7::F8::F9::G0::G1::G2::G3::G4::G5::G6::G7::G8::G9::H0::H1::H2::H3::H4::H5::H6::H7::H8::H9::I0::I1::I2::I3::I4::I5::I6::I7::I8::I9::J0::J1::J2::J3::J4::J5::J6::J7::J8::J9::L0::L1::L2::L3::L4::L5::L6::L7::L8::L9::M0::M1::M2::M3::M4::M5::M6::M7::M8::M9::N0::N1::N2::N3::N4::N5::N6::N7::[]) w := Eq.mp (by kernel_rfl) h

theorem leatref30_Steps_A2_r {K : KV} {w : World}
    (h : cond I9
      ((leatref30_Steps_P2 K) (n0::e1::under2::n3::e4::under5::A1::who7::out8::i9::j10::i11::s12::i13::A4::A5::A6::A7::A8::A9::C0::C1::C2::C3::C4::C5::C6::C7::C8::C9::D0::D1::D2::D3::D4::D5::D6::D7::D8::D9::E0::E1::E2::E3::E4::E5::E6::E7::E8::E9::F0::F1::F2::F3::F4::F5::F6::F7::F8::F9::G0::G1::G2::G3::G4::G5::G6::G7::G8::G9::H0::H1::H2::H3::H4::H5::H6::H7::H8::H9::I0::I1::I2::I3::I4::I5::I6::I7::I8::I9::J0::J1::J2::J3::J4::J5::J6::J7::J8::J9::L0::L1::L2::L3::L4::L5::L6::L7::L8::L9::M0::M1::M2::M3::M4::M5::M6::M7::M8::M9::N0::N1::N2::N3::N4::N5::N6::N7::[]) w)
      (bin Tryz.prog BinOp.eql 5 false true C4 (Value.int IntKind.u8 7) (fun J1 w =>
      (leatref30_Steps_P2 K) (n0::e1::under2::n3::e4::under5::A1::who7::out8::i9::j10::i11::s12::i13::A4::A5::A6::A7::A8::A9::C0::C1::C2::C3::C4::C5::C6::C7::C8::C9::D0::D1::D2::D3::D4::D5::D6::D7::D8::D9::E0::E1::E2::E3::E4::E5::E6::E7::E8::E9::F0::F1::F2::F3::F4::F5::F6::F7::F8::F9::G0::G1::G2::G3::G4::G5::G6::G7::G8::G9::H0::H1::H2::H3::H4::H5::H6::H7::H8::H9::I0::I1::I2::I3::I4::I5::I6::I7::I8::J1::J0::J1::J2::J3::J4::J5::J6::J7::J8::J9::L0::L1::L2::L3::L4::L5::L6::L7::L8::L9::M0::M1::M2::M3::M4::M5::M6::M7::M8::M9::N0::N1::N2::N3::N4::N5::N6::N7::[]) w) w)) :
    leatref30_Steps_A2 K (n0::e1::under2::n3::e4::under5::A1::who7::out8::i9::j10::i11::s12::i13::A4::A5::A6::A7::A8::A9::C0::C1::C2::C3::C4::C5::C6::C7::C8::C9::D0::D1::D2::D3::D4::D5::D6::D7::D8::D9::E0::E1::E2::E3::E4::E5::E6::E7::E8::E9::F0::F1::F2::F3::F4::F5::F6::F7::F8::F9::G0::G1::G2::G3::G4::G5::G6::G7::G8::G9::H0::H1::H2::H3::H4::H5::H6::H7::H8::H9::I0::I1::I2::I3::I4::I5::I6::I7::I8::I9::J0::J1::J2::J3::J4::J5::J6::J7::J8::J9::L0::L1::L2::L3::L4::L5::L6::L7::L8::L9::M0::M1::M2::M3::M4::M5::M6::M7::M8::M9::N0::N1::N2::N3::N4::N5::N6::N7::[]) w := by
  delta leatref30_Steps_A2
  exact Eq.mp (congrArg (fun c => cCode Tryz.prog c (leatref30_Steps_P2 K) (fun i => @Bool.rec (fun _ => KE) ((fun _ _ _ => False) i) (leatref30_Steps_P1 K) (Nat.beq i 0)) (retK Tryz.prog Tryz.f21.results.toList K) (n0::e1::under2::n3::e4::under5::A1::who7::out8::i9::j10::i11::s12::i13::A4::A5::A6::A7::A8::A9::C0::C1::C2::C3::C4::C5::C6::C7::C8::C9::D0::D1::D2::D3::D4::D5::D6::D7::D8::D9::E0::E1::E2::E3::E4::E5::E6::E7::E8::E9::F0::F1::F2::F3::F4::F5::F6::F7::F8::F9::G0::G1::G2::G3::G4::G5::G6::G7::G8::G9::H0::H1::H2::H3::H4::H5::H6::H7::H8::H9::I0::I1::I2::I3::I4::I5::I6::I7::I8::I9::J0::J1::J2::J3::J4::J5::J6::J7::J8::J9::L0::L1::L2::L3::L4::L5::L6::L7::L8::L9::M0::M1::M2::M3::M4::M5::M6::M7::M8::M9::N0::N1::N2::N3::N4::N5::N6::N7::[]) w) (by kernel_rfl : (cd Tryz.f21 [1, 1, 1, 1, 0, 1, 0, 1, 1, 1, 1, 1, 1, 1, 1, 1, 1, 0, 1]) = (cd Tryz.f21 [1, 1, 1, 1, 0, 1, 0, 1, 1, 1, 1, 1, 1, 1, 1, 1, 1, 0, 1]))) (leatref30_Steps_A2_k (leatref30_Steps_P2 K) (leatref30_Steps_P1 K) h)

end
theorem leatref30_Steps_L2_k {K : KV} (B1 : KE) (B2 : KE) (qc0 : KE) (qc1 : KE) (xc0 : Code) {n0 e1 under2 n3 e4 under5 A1 who7 out8' i9 j10' i11 s12 i13 A4 A5 A6 A7 A8 A9 C0 C1 C2 C3 C4 C5 C6 C7 C8 C9 D0 D1 D2 D3 G0 G1 G2 G3 G4 G5 G6 G7 G8 G9 H0 H1 H2 H3 H4 H5 H6 H7 H8 H9 I0 I1 I2 I3 I4 I5 I6 I7 I8 I9 J0 J1 J2 J3 J4 J5 J6 J7 J8 J9 L0 L1 L2 L3 L4 L5 L6 L7 L8 L9 M0 M1 M2 M3 M4 M5 M6 M7 M8 M9 N0 N1 N2 N3 N4 N5 N6 N7 : Value} {dd : Nat → Value} {w : World}
    (h : bin Tryz.prog BinOp.leq 3 false false j10' n0 (fun D6 w =>
    cond D6
      ((cCode Tryz.prog xc0 (cCode Tryz.prog (cd Tryz.f21 [1, 1, 1, 1, 0, 1, 0, 1, 0, 1, 0, 0, 1, 0, 0, 1, 0, 0, 1, 1]) B2 (fun i => @Bool.rec (fun _ => KE) ((fun i => @Bool.rec (fun _ => KE) ((fun i => @Bool.rec (fun _ => KE) ((fun i => @Bool.rec (fun _ => KE) ((fun _ _ _ => False) i) qc0 (Nat.beq i 0)) i) qc0 (Nat.beq i 1)) i) qc1 (Nat.beq i 2)) i) qc1 (Nat.beq i 3)) (retK Tryz.prog Tryz.f21.results.toList K)) (fun i => @Bool.rec (fun _ => KE) ((fun i => @Bool.rec (fun _ => KE) ((fun i => @Bool.rec (fun _ => KE) ((fun i => @Bool.rec (fun _ => KE) ((fun _ _ _ => False) i) qc0 (Nat.beq i 0)) i) qc0 (Nat.beq i 1)) i) qc1 (Nat.beq i 2)) i) qc1 (Nat.beq i 3)) (retK Tryz.prog Tryz.f21.results.toList K)) (n0::e1::under2::n3::e4::under5::A1::who7::out8'::i9::j10'::i11::s12::i13::A4::A5::A6::A7::A8::A9::C0::C1::C2::C3::C4::C5::C6::C7::C8::C9::D0::D1::D2::D3::j10'::n0::D6::(dd 37)::(dd 38)::(dd 39)::(dd 40)::(dd 41)::(dd 42)::(dd 43)::(dd 44)::(dd 45)::(dd 46)::(dd 47)::(dd 48)::(dd 49)::(dd 50)::(dd 51)::(dd 52)::(dd 53)::(dd 54)::(dd 55)::(dd 56)::(dd 57)::(dd 58)::(dd 59)::G0::G1::G2::G3::G4::G5::G6::G7::G8::G9::H0::H1::H2::H3::H4::H5::H6::H7::H8::H9::I0::I1::I2::I3::I4::I5::I6::I7::I8::I9::J0::J1::J2::J3::J4::J5::J6::J7::J8::J9::L0::L1::L2::L3::L4::L5::L6::L7::L8::L9::M0::M1::M2::M3::M4::M5::M6::M7::M8::M9::N0::N1::N2::N3::N4::N5::N6::N7::[]) w)
      (qc1 (n0::e1::under2::n3::e4::under5::A1::who7::out8'::i9::j10'::i11::s12::i13::A4::A5::A6::A7::A8::A9::C0::C1::C2::C3::C4::C5::C6::C7::C8::C9::D0::D1::D2::D3::j10'::n0::D6::(dd 37)::(dd 38)::(dd 39)::(dd 40)::(dd 41)::(dd 42)::(dd 43)::(dd 44)::(dd 45)::(dd 46)::(dd 47)::(dd 48)::(dd 49)::(dd 50)::(dd 51)::(dd 52)::(dd 53)::(dd 54)::(dd 55)::(dd 56)::(dd 57)::(dd 58)::(dd 59)::G0::G1::G2::G3::G4::G5::G6::G7::G8::G9::H0::H1::H2::H3::H4::H5::H6::H7::H8::H9::I0::I1::I2::I3::I4::I5::I6::I7::I8::I9::J0::J1::J2::J3::J4::J5::J6::J7::J8::J9::L0::L1::L2::L3::L4::L5::L6::L7::L8::L9::M0::M1::M2::M3::M4::M5::M6::M7::M8::M9::N0::N1::N2::N3::N4::N5::N6::N7::[]) w)) w) :
    cCode Tryz.prog (rep [1, 0] xc0 (cd Tryz.f21 [1, 1, 1, 1, 0, 1, 0, 1, 0, 1, 0, 0, 1, 0, 0, 1, 0, 0])) B2 (fun i => @Bool.rec (fun _ => KE) ((fun i => @Bool.rec (fun _ => KE) ((fun i => @Bool.rec (fun _ => KE) ((fun i => @Bool.rec (fun _ => KE) ((fun _ _ _ => False) i) qc0 (Nat.beq i 0)) i) qc0 (Nat.beq i 1)) i) qc1 (Nat.beq i 2)) i) qc1 (Nat.beq i 3)) (retK Tryz.prog Tryz.f21.results.toList K) (n0::e1::under2::n3::e4::under5::A1::who7::out8'::i9::j10'::i11::s12::i13::A4::A5::A6::A7::A8::A9::C0::C1::C2::C3::C4::C5::C6::C7::C8::C9::D0::D1::D2::D3::(dd 34)::(dd 35)::(dd 36)::(dd 37)::(dd 38)::(dd 39)::(dd 40)::(dd 41)::(dd 42)::(dd 43)::(dd 44)::(dd 45)::(dd 46)::(dd 47)::(dd 48)::(dd 49)::(dd 50)::(dd 51)::(dd 52)::(dd 53)::(dd 54)::(dd 55)::(dd 56)::(dd 57)::(dd 58)::(dd 59)::G0::G1::G2::G3::G4::G5::G6::G7::G8::G9::H0::H1::H2::H3::H4::H5::H6::H7::H8::H9::I0::I1::I2::I3::I4::I5::I6::I7::I8::I9::J0::J1::J2::J3::J4::J5::J6::J7::J8::J9::L0::L1::L2::L3::L4::L5::L6::L7::L8::L9::M0::M1::M2::M3::M4::M5::M6::M7::M8::M9::N0::N1::N2::N3::N4::N5::N6::N7::[]) w := Eq.mp (by kernel_rfl) h

section
variable {n0 e1 under2 n3 e4 under5 A1 who7 out8 i9 j10 i11 s12 i13 A4 A5 A6 A7 A8 A9 C0 C1 C2 C3 C4 C5 C6 C7 C8 C9 D0 D1 D2 D3 D4 D5 D6 D7 D8 D9 E0 E1 E2 E3 E4 E5 E6 E7 E8 E9 F0 F1 F2 F3 F4 F5 F6 F7 F8 F9 G0 G1 G2 G3 G4 G5 G6 G7 G8 G9 H0 H1 H2 H3 H4 H5 H6 H7 H8 H9 I0 I1 I2 I3 I4 I5 I6 I7 I8 I9 J0 J1 J2 J3 J4 J5 J6 J7 J8 J9 L0 L1 L2 L3 L4 L5 L6 L7 L8 L9 M0 M1 M2 M3 M4 M5 M6 M7 M8 M9 N0 N1 N2 N3 N4 N5 N6 N7 : Value}
theorem leatref30_Steps_L2_r {K : KV} {B1 : KE} {w : World} (Inv : Value → Value → World → Prop) (μ : Value → Value → World → Nat) (h0 : Inv out8 j10 w)
    (hs : ∀ (out8' j10' : Value) (dd : Nat → Value) (w : World) (m : Nat), Inv out8' j10' w → m = μ out8' j10' w →
    bin Tryz.prog BinOp.leq 3 false false j10' n0 (fun D6 w =>
    cond D6
      ((leatref30_Steps_A3 K B1 (fun e2 w2 => Inv (gd e2 8) (gd e2 10) w2 ∧ μ (gd e2 8) (gd e2 10) w2 < m)) (n0::e1::under2::n3::e4::under5::A1::who7::out8'::i9::j10'::i11::s12::i13::A4::A5::A6::A7::A8::A9::C0::C1::C2::C3::C4::C5::C6::C7::C8::C9::D0::D1::D2::D3::j10'::n0::D6::(dd 37)::(dd 38)::(dd 39)::(dd 40)::(dd 41)::(dd 42)::(dd 43)::(dd 44)::(dd 45)::(dd 46)::(dd 47)::(dd 48)::(dd 49)::(dd 50)::(dd 51)::(dd 52)::(dd 53)::(dd 54)::(dd 55)::(dd 56)::(dd 57)::(dd 58)::(dd 59)::G0::G1::G2::G3::G4::G5::G6::G7::G8::G9::H0::H1::H2::H3::H4::H5::H6::H7::H8::H9::I0::I1::I2::I3::I4::I5::I6::I7::I8::I9::J0::J1::J2::J3::J4::J5::J6::J7::J8::J9::L0::L1::L2::L3::L4::L5::L6::L7::L8::L9::M0::M1::M2::M3::M4::M5::M6::M7::M8::M9::N0::N1::N2::N3::N4::N5::N6::N7::[]) w)
      ((leatref30_Steps_P3 K B1) (n0::e1::under2::n3::e4::under5::A1::who7::out8'::i9::j10'::i11::s12::i13::A4::A5::A6::A7::A8::A9::C0::C1::C2::C3::C4::C5::C6::C7::C8::C9::D0::D1::D2::D3::j10'::n0::D6::(dd 37)::(dd 38)::(dd 39)::(dd 40)::(dd 41)::(dd 42)::(dd 43)::(dd 44)::(dd 45)::(dd 46)::(dd 47)::(dd 48)::(dd 49)::(dd 50)::(dd 51)::(dd 52)::(dd 53)::(dd 54)::(dd 55)::(dd 56)::(dd 57)::(dd 58)::(dd 59)::G0::G1::G2::G3::G4::G5::G6::G7::G8::G9::H0::H1::H2::H3::H4::H5::H6::H7::H8::H9::I0::I1::I2::I3::I4::I5::I6::I7::I8::I9::J0::J1::J2::J3::J4::J5::J6::J7::J8::J9::L0::L1::L2::L3::L4::L5::L6::L7::L8::L9::M0::M1::M2::M3::M4::M5::M6::M7::M8::M9::N0::N1::N2::N3::N4::N5::N6::N7::[]) w)) w) :
    leatref30_Steps_L2 K B1 (n0::e1::under2::n3::e4::under5::A1::who7::out8::i9::j10::i11::s12::i13::A4::A5::A6::A7::A8::A9::C0::C1::C2::C3::C4::C5::C6::C7::C8::C9::D0::D1::D2::D3::D4::D5::D6::D7::D8::D9::E0::E1::E2::E3::E4::E5::E6::E7::E8::E9::F0::F1::F2::F3::F4::F5::F6::F7::F8::F9::G0::G1::G2::G3::G4::G5::G6::G7::G8::G9::H0::H1::H2::H3::H4::H5::H6::H7::H8::H9::I0::I1::I2::I3::I4::I5::I6::I7::I8::I9::J0::J1::J2::J3::J4::J5::J6::J7::J8::J9::L0::L1::L2::L3::L4::L5::L6::L7::L8::L9::M0::M1::M2::M3::M4::M5::M6::M7::M8::M9::N0::N1::N2::N3::N4::N5::N6::N7::[]) w := by
  refine loop_rule (cd Tryz.f21 [1, 1, 1, 1, 0, 1, 0, 1, 0, 1, 0, 0, 1, 0, 0, 1, 0, 0]) [8, 10, 34, 35, 36, 37, 38, 39, 40, 41, 42, 43, 44, 45, 46, 47, 48, 49, 50, 51, 52, 53, 54, 55, 56, 57, 58, 59] (by kernel_rfl) (fun e2 w2 => Inv (gd e2 8) (gd e2 10) w2) (fun e2 w2 => μ (gd e2 8) (gd e2 10) w2) h0 ?_
  intro e' w' hI
  have h := hs (gd e' 8) (gd e' 10) (fun i => gd e' i) w' _ hI rfl
  have h2 : cCode Tryz.prog (rep [1, 0] (cd Tryz.f21 [1, 1, 1, 1, 0, 1, 0, 1, 0, 1, 0, 0, 1, 0, 0, 1, 0, 0, 1, 0]) (cd Tryz.f21 [1, 1, 1, 1, 0, 1, 0, 1, 0, 1, 0, 0, 1, 0, 0, 1, 0, 0])) (fun e2 w2 => Inv (gd e2 8) (gd e2 10) w2 ∧ μ (gd e2 8) (gd e2 10) w2 < μ (gd e' 8) (gd e' 10) w') (fun i => @Bool.rec (fun _ => KE) ((fun i => @Bool.rec (fun _ => KE) ((fun i => @Bool.rec (fun _ => KE) ((fun i => @Bool.rec (fun _ => KE) ((fun _ _ _ => False) i) (leatref30_Steps_P1 K) (Nat.beq i 0)) i) (leatref30_Steps_P1 K) (Nat.beq i 1)) i) (leatref30_Steps_P3 K B1) (Nat.beq i 2)) i) (leatref30_Steps_P3 K B1) (Nat.beq i 3)) (retK Tryz.prog Tryz.f21.results.toList K) (n0::e1::under2::n3::e4::under5::A1::who7::(gd e' 8)::i9::(gd e' 10)::i11::s12::i13::A4::A5::A6::A7::A8::A9::C0::C1::C2::C3::C4::C5::C6::C7::C8::C9::D0::D1::D2::D3::(gd e' 34)::(gd e' 35)::(gd e' 36)::(gd e' 37)::(gd e' 38)::(gd e' 39)::(gd e' 40)::(gd e' 41)::(gd e' 42)::(gd e' 43)::(gd e' 44)::(gd e' 45)::(gd e' 46)::(gd e' 47)::(gd e' 48)::(gd e' 49)::(gd e' 50)::(gd e' 51)::(gd e' 52)::(gd e' 53)::(gd e' 54)::(gd e' 55)::(gd e' 56)::(gd e' 57)::(gd e' 58)::(gd e' 59)::G0::G1::G2::G3::G4::G5::G6::G7::G8::G9::H0::H1::H2::H3::H4::H5::H6::H7::H8::H9::I0::I1::I2::I3::I4::I5::I6::I7::I8::I9::J0::J1::J2::J3::J4::J5::J6::J7::J8::J9::L0::L1::L2::L3::L4::L5::L6::L7::L8::L9::M0::M1::M2::M3::M4::M5::M6::M7::M8::M9::N0::N1::N2::N3::N4::N5::N6::N7::[]) w' := leatref30_Steps_L2_k B1 (fun e2 w2 => Inv (gd e2 8) (gd e2 10) w2 ∧ μ (gd e2 8) (gd e2 10) w2 < μ (gd e' 8) (gd e' 10) w') (leatref30_Steps_P1 K) (leatref30_Steps_P3 K B1) (cd Tryz.f21 [1, 1, 1, 1, 0, 1, 0, 1, 0, 1, 0, 0, 1, 0, 0, 1, 0, 0, 1, 0]) (Eq.mp (by kernel_rfl) h)
  exact Eq.mp (by kernel_rfl) h2

theorem leatref30_Steps_P2_k {K : KV} (qc0 : KE) {w : World}
    (h : cond I9
      ((cCode Tryz.prog (cd Tryz.f21 [1, 1, 1, 1, 0, 1, 0, 1, 1, 1, 1, 1, 1, 1, 1, 1, 1, 1, 0, 1, 0]) qc0 (fun i => @Bool.rec (fun _ => KE) ((fun i => @Bool.rec (fun _ => KE) ((fun _ _ _ => False) i) qc0 (Nat.beq i 0)) i) qc0 (Nat.beq i 5)) (retK Tryz.prog Tryz.f21.results.toList K)) (n0::e1::under2::n3::e4::under5::A1::who7::out8::i9::j10::(Value.int IntKind.i64 0)::s12::i13::A4::A5::A6::A7::A8::A9::C0::C1::C2::C3::C4::C5::C6::C7::C8::C9::D0::D1::D2::D3::D4::D5::D6::D7::D8::D9::E0::E1::E2::E3::E4::E5::E6::E7::E8::E9::F0::F1::F2::F3::F4::F5::F6::F7::F8::F9::G0::G1::G2::G3::G4::G5::G6::G7::G8::G9::H0::H1::H2::H3::H4::H5::H6::H7::H8::H9::I0::I1::I2::I3::I4::I5::I6::I7::I8::I9::J0::J1::J2::J3::J4::J5::J6::J7::J8::J9::L0::L1::L2::L3::L4::L5::L6::L7::L8::L9::M0::M1::M2::M3::M4::M5::M6::M7::M8::M9::N0::N1::N2::N3::N4::N5::N6::N7::[]) w)
      (bin Tryz.prog BinOp.eql 5 false true C4 (Value.int IntKind.u8 8) (fun L8 w =>
      cond L8
        (fldA Tryz.prog 55 e4 2 (fun M0 w =>
        ld Tryz.prog 3 M0 (fun M1 w =>
        bld Tryz.prog 27 #[(0, (Value.int IntKind.u8 3)), (5, M1)] (fun M2 w =>
        bldS Tryz.prog 40 1 #[(0, M2)] (fun M3 w =>
        blt Tryz.prog Builtin.append #[40, 40] 40 #[false, false] #[out8, M3] (fun M4 w =>
        qc0 (n0::e1::under2::n3::e4::under5::A1::who7::M4::i9::j10::i11::s12::i13::A4::A5::A6::A7::A8::A9::C0::C1::C2::C3::C4::C5::C6::C7::C8::C9::D0::D1::D2::D3::D4::D5::D6::D7::D8::D9::E0::E1::E2::E3::E4::E5::E6::E7::E8::E9::F0::F1::F2::F3::F4::F5::F6::F7::F8::F9::G0::G1::G2::G3::G4::G5::G6::G7::G8::G9::H0::H1::H2::H3::H4::H5::H6::H7::H8::H9::I0::I1::I2::I3::I4::I5::I6::I7::I8::I9::J0::J1::J2::J3::J4::J5::J6::J7::J8::J9::L0::L1::L2::L3::L4::L5::L6::L8::L8::out8::M0::M1::M2::M3::M4::M5::M6::M7::M8::M9::N0::N1::N2::N3::N4::N5::N6::N7::[]) w) w) w) w) w) w)
        (bin Tryz.prog BinOp.eql 5 false true C4 (Value.int IntKind.u8 9) (fun M6 w =>
        cond M6
          ((cCode Tryz.prog (cd Tryz.f21 [1, 1, 1, 1, 0, 1, 0, 1, 1, 1, 1, 1, 1, 1, 1, 1, 1, 1, 1, 1, 1, 1, 0, 1, 0]) qc0 (fun i => @Bool.rec (fun _ => KE) ((fun i => @Bool.rec (fun _ => KE) ((fun _ _ _ => False) i) qc0 (Nat.beq i 0)) i) qc0 (Nat.beq i 7)) (retK Tryz.prog Tryz.f21.results.toList K)) (n0::e1::under2::n3::e4::under5::A1::who7::out8::i9::j10::i11::s12::(Value.int IntKind.i64 1)::A4::A5::A6::A7::A8::A9::C0::C1::C2::C3::C4::C5::C6::C7::C8::C9::D0::D1::D2::D3::D4::D5::D6::D7::D8::D9::E0::E1::E2::E3::E4::E5::E6::E7::E8::E9::F0::F1::F2::F3::F4::F5::F6::F7::F8::F9::G0::G1::G2::G3::G4::G5::G6::G7::G8::G9::H0::H1::H2::H3::H4::H5::H6::H7::H8::H9::I0::I1::I2::I3::I4::I5::I6::I7::I8::I9::J0::J1::J2::J3::J4::J5::J6::J7::J8::J9::L0::L1::L2::L3::L4::L5::L6::L8::L8::L9::M0::M1::M2::M3::M4::M6::M6::M7::M8::M9::N0::N1::N2::N3::N4::N5::N6::N7::[]) w)
          (qc0 (n0::e1::under2::n3::e4::under5::A1::who7::out8::i9::j10::i11::s12::i13::A4::A5::A6::A7::A8::A9::C0::C1::C2::C3::C4::C5::C6::C7::C8::C9::D0::D1::D2::D3::D4::D5::D6::D7::D8::D9::E0::E1::E2::E3::E4::E5::E6::E7::E8::E9::F0::F1::F2::F3::F4::F5::F6::F7::F8::F9::G0::G1::G2::G3::G4::G5::G6::G7::G8::G9::H0::H1::H2::H3::H4::H5::H6::H7::H8::H9::I0::I1::I2::I3::I4::I5::I6::I7::I8::I9::J0::J1::J2::J3::J4::J5::J6::J7::J8::J9::L0::L1::L2::L3::L4::L5::L6::L8::L8::L9::M0::M1::M2::M3::M4::M6::M6::M7::M8::M9::N0::N1::N2::N3::N4::N5::N6::N7::[]) w)) w)) w)) :
    cCode Tryz.prog (cd Tryz.f21 [1, 1, 1, 1, 0, 1, 0, 1, 1, 1, 1, 1, 1, 1, 1, 1, 1, 1]) qc0 (fun i => @Bool.rec (fun _ => KE) ((fun _ _ _ => False) i) qc0 (Nat.beq i 0)) (retK Tryz.prog Tryz.f21.results.toList K) (n0::e1::under2::n3::e4::under5::A1::who7::out8::i9::j10::i11::s12::i13::A4::A5::A6::A7::A8::A9::C0::C1::C2::C3::C4::C5::C6::C7::C8::C9::D0::D1::D2::D3::D4::D5::D6::D7::D8::D9::E0::E1::E2::E3::E4::E5::E6::E7::E8::E9::F0::F1::F2::F3::F4::F5::F6::F7::F8::F9::G0::G1::G2::G3::G4::G5::G6::G7::G8::G9::H0::H1::H2::H3::H4::H5::H6::H7::H8::H9::I0::I1::I2::I3::I4::I5::I6::I7::I8::I9::J0::J1::J2::J3::J4::J5::J6::J7::J8::J9::L0::L1::L2::L3::L4::L5::L6::L7::L8::L9::M0::M1::M2::M3::M4::M5::M6::M7::M8::M9::N0::N1::N2::N3::N4::N5::N6::N7::[]) w := Eq.mp (by kernel_rfl) h

theorem leatref30_Steps_P2_r {K : KV} {w : World}
    (h : cond I9
      ((leatref30_Steps_L3 K) (n0::e1::under2::n3::e4::under5::A1::who7::out8::i9::j10::(Value.int IntKind.i64 0)::s12::i13::A4::A5::A6::A7::A8::A9::C0::C1::C2::C3::C4::C5::C6::C7::C8::C9::D0::D1::D2::D3::D4::D5::D6::D7::D8::D9::E0::E1::E2::E3::E4::E5::E6::E7::E8::E9::F0::F1::F2::F3::F4::F5::F6::F7::F8::F9::G0::G1::G2::G3::G4::G5::G6::G7::G8::G9::H0::H1::H2::H3::H4::H5::H6::H7::H8::H9::I0::I1::I2::I3::I4::I5::I6::I7::I8::I9::J0::J1::J2::J3::J4::J5::J6::J7::J8::J9::L0::L1::L2::L3::L4::L5::L6::L7::L8::L9::M0::M1::M2::M3::M4::M5::M6::M7::M8::M9::N0::N1::N2::N3::N4::N5::N6::N7::[]) w)
      (bin Tryz.prog BinOp.eql 5 false true C4 (Value.int IntKind.u8 8) (fun L8 w =>
      cond L8
        (fldA Tryz.prog 55 e4 2 (fun M0 w =>
        ld Tryz.prog 3 M0 (fun M1 w =>
        bld Tryz.prog 27 #[(0, (Value.int IntKind.u8 3)), (5, M1)] (fun M2 w =>
        bldS Tryz.prog 40 1 #[(0, M2)] (fun M3 w =>
        blt Tryz.prog Builtin.append #[40, 40] 40 #[false, false] #[out8, M3] (fun M4 w =>
        (leatref30_Steps_P1 K) (n0::e1::under2::n3::e4::under5::A1::who7::M4::i9::j10::i11::s12::i13::A4::A5::A6::A7::A8::A9::C0::C1::C2::C3::C4::C5::C6::C7::C8::C9::D0::D1::D2::D3::D4::D5::D6::D7::D8::D9::E0::E1::E2::E3::E4::E5::E6::E7::E8::E9::F0::F1::F2::F3::F4::F5::F6::F7::F8::F9::G0::G1::G2::G3::G4::G5::G6::G7::G8::G9::H0::H1::H2::H3::H4::H5::H6::H7::H8::H9::I0::I1::I2::I3::I4::I5::I6::I7::I8::I9::J0::J1::J2::J3::J4::J5::J6::J7::J8::J9::L0::L1::L2::L3::L4::L5::L6::L8::L8::out8::M0::M1::M2::M3::M4::M5::M6::M7::M8::M9::N0::N1::N2::N3::N4::N5::N6::N7::[]) w) w) w) w) w) w)
        (bin Tryz.prog BinOp.eql 5 false true C4 (Value.int IntKind.u8 9) (fun M6 w =>
        cond M6
          ((leatref30_Steps_L4 K) (n0::e1::under2::n3::e4::under5::A1::who7::out8::i9::j10::i11::s12::(Value.int IntKind.i64 1)::A4::A5::A6::A7::A8::A9::C0::C1::C2::C3::C4::C5::C6::C7::C8::C9::D0::D1::D2::D3::D4::D5::D6::D7::D8::D9::E0::E1::E2::E3::E4::E5::E6::E7::E8::E9::F0::F1::F2::F3::F4::F5::F6::F7::F8::F9::G0::G1::G2::G3::G4::G5::G6::G7::G8::G9::H0::H1::H2::H3::H4::H5::H6::H7::H8::H9::I0::I1::I2::I3::I4::I5::I6::I7::I8::I9::J0::J1::J2::J3::J4::J5::J6::J7::J8::J9::L0::L1::L2::L3::L4::L5::L6::L8::L8::L9::M0::M1::M2::M3::M4::M6::M6::M7::M8::M9::N0::N1::N2::N3::N4::N5::N6::N7::[]) w)
          ((leatref30_Steps_P1 K) (n0::e1::under2::n3::e4::under5::A1::who7::out8::i9::j10::i11::s12::i13::A4::A5::A6::A7::A8::A9::C0::C1::C2::C3::C4::C5::C6::C7::C8::C9::D0::D1::D2::D3::D4::D5::D6::D7::D8::D9::E0::E1::E2::E3::E4::E5::E6::E7::E8::E9::F0::F1::F2::F3::F4::F5::F6::F7::F8::F9::G0::G1::G2::G3::G4::G5::G6::G7::G8::G9::H0::H1::H2::H3::H4::H5::H6::H7::H8::H9::I0::I1::I2::I3::I4::I5::I6::I7::I8::I9::J0::J1::J2::J3::J4::J5::J6::J7::J8::J9::L0::L1::L2::L3::L4::L5::L6::L8::L8::L9::M0::M1::M2::M3::M4::M6::M6::M7::M8::M9::N0::N1::N2::N3::N4::N5::N6::N7::[]) w)) w)) w)) :
    leatref30_Steps_P2 K (n0::e1::under2::n3::e4::under5::A1::who7::out8::i9::j10::i11::s12::i13::A4::A5::A6::A7::A8::A9::C0::C1::C2::C3::C4::C5::C6::C7::C8::C9::D0::D1::D2::D3::D4::D5::D6::D7::D8::D9::E0::E1::E2::E3::E4::E5::E6::E7::E8::E9::F0::F1::F2::F3::F4::F5::F6::F7::F8::F9::G0::G1::G2::G3::G4::G5::G6::G7::G8::G9::H0::H1::H2::H3::H4::H5::H6::H7::H8::H9::I0::I1::I2::I3::I4::I5::I6::I7::I8::I9::J0::J1::J2::J3::J4::J5::J6::J7::J8::J9::L0::L1::L2::L3::L4::L5::L6::L7::L8::L9::M0::M1::M2::M3::M4::M5::M6::M7::M8::M9::N0::N1::N2::N3::N4::N5::N6::N7::[]) w := by
  delta leatref30_Steps_P2
  exact Eq.mp (congrArg (fun c => cCode Tryz.prog c (leatref30_Steps_P1 K) (fun i => @Bool.rec (fun _ => KE) ((fun _ _ _ => False) i) (leatref30_Steps_P1 K) (Nat.beq i 0)) (retK Tryz.prog Tryz.f21.results.toList K) (n0::e1::under2::n3::e4::under5::A1::who7::out8::i9::j10::i11::s12::i13::A4::A5::A6::A7::A8::A9::C0::C1::C2::C3::C4::C5::C6::C7::C8::C9::D0::D1::D2::D3::D4::D5::D6::D7::D8::D9::E0::E1::E2::E3::E4::E5::E6::E7::E8::E9::F0::F1::F2::F3::F4::F5::F6::F7::F8::F9::G0::G1::G2::G3::G4::G5::G6::G7::G8::G9::H0::H1::H2::H3::H4::H5::H6::H7::H8::H9::I0::I1::I2::I3::I4::I5::I6::I7::I8::I9::J0::J1::J2::J3::J4::J5::J6::J7::J8::J9::L0::L1::L2::L3::L4::L5::L6::L7::L8::L9::M0::M1::M2::M3::M4::M5::M6::M7::M8::M9::N0::N1::N2::N3::N4::N5::N6::N7::[]) w) (by kernel_rfl : (cd Tryz.f21 [1, 1, 1, 1, 0, 1, 0, 1, 1, 1, 1, 1, 1, 1, 1, 1, 1, 1]) = (cd Tryz.f21 [1, 1, 1, 1, 0, 1, 0, 1, 1, 1, 1, 1, 1, 1, 1, 1, 1, 1]))) (leatref30_Steps_P2_k (leatref30_Steps_P1 K) h)

theorem leatref30_Steps_A3_k {K : KV} (B1 : KE) (B2 : KE) (qc0 : KE) (qc1 : KE) (qc2 : KE) {w : World}
    (h : fldA Tryz.prog 55 e4 1 (fun D9 w =>
    ld Tryz.prog 5 D9 (fun E0 w =>
    bin Tryz.prog BinOp.sub 3 false true i9 (Value.int IntKind.i64 1) (fun E2 w =>
    conv Tryz.prog 3 97 E2 (fun E3 w =>
    bin Tryz.prog BinOp.shr 5 false false E0 E3 (fun E4 w =>
    bin Tryz.prog BinOp.and 5 false true E4 (Value.int IntKind.u8 1) (fun E5 w =>
    fldA Tryz.prog 55 e4 1 (fun E6 w =>
    ld Tryz.prog 5 E6 (fun E7 w =>
    bin Tryz.prog BinOp.sub 3 false true j10 (Value.int IntKind.i64 1) (fun E9 w =>
    conv Tryz.prog 3 97 E9 (fun F0 w =>
    bin Tryz.prog BinOp.shr 5 false false E7 F0 (fun F1 w =>
    bin Tryz.prog BinOp.and 5 false true F1 (Value.int IntKind.u8 1) (fun F2 w =>
    bin Tryz.prog BinOp.neq 5 false false E5 F2 (fun F3 w =>
    cond F3
      (bld Tryz.prog 27 #[(0, (Value.int IntKind.u8 7)), (1, i9), (4, j10)] (fun F7 w =>
      bldS Tryz.prog 40 1 #[(0, F7)] (fun F8 w =>
      blt Tryz.prog Builtin.append #[40, 40] 40 #[false, false] #[out8, F8] (fun F9 w =>
      qc0 (n0::e1::under2::n3::e4::under5::A1::who7::F9::i9::j10::i11::s12::i13::A4::A5::A6::A7::A8::A9::C0::C1::C2::C3::C4::C5::C6::C7::C8::C9::D0::D1::D2::D3::D4::D5::D6::D7::D8::D9::E0::i9::E2::E3::E4::E5::E6::E7::j10::E9::F0::F1::F2::F3::out8::i9::j10::F7::F8::F9::G0::G1::G2::G3::G4::G5::G6::G7::G8::G9::H0::H1::H2::H3::H4::H5::H6::H7::H8::H9::I0::I1::I2::I3::I4::I5::I6::I7::I8::I9::J0::J1::J2::J3::J4::J5::J6::J7::J8::J9::L0::L1::L2::L3::L4::L5::L6::L7::L8::L9::M0::M1::M2::M3::M4::M5::M6::M7::M8::M9::N0::N1::N2::N3::N4::N5::N6::N7::[]) w) w) w) w)
      (qc0 (n0::e1::under2::n3::e4::under5::A1::who7::out8::i9::j10::i11::s12::i13::A4::A5::A6::A7::A8::A9::C0::C1::C2::C3::C4::C5::C6::C7::C8::C9::D0::D1::D2::D3::D4::D5::D6::D7::D8::D9::E0::i9::E2::E3::E4::E5::E6::E7::j10::E9::F0::F1::F2::F3::F4::F5::F6::F7::F8::F9::G0::G1::G2::G3::G4::G5::G6::G7::G8::G9::H0::H1::H2::H3::H4::H5::H6::H7::H8::H9::I0::I1::I2::I3::I4::I5::I6::I7::I8::I9::J0::J1::J2::J3::J4::J5::J6::J7::J8::J9::L0::L1::L2::L3::L4::L5::L6::L7::L8::L9::M0::M1::M2::M3::M4::M5::M6::M7::M8::M9::N0::N1::N2::N3::N4::N5::N6::N7::[]) w)) w) w) w) w) w) w) w) w) w) w) w) w) w) :
    cCode Tryz.prog (cd Tryz.f21 [1, 1, 1, 1, 0, 1, 0, 1, 0, 1, 0, 0, 1, 0, 0, 1, 0, 0, 1, 0]) qc0 (fun i => @Bool.rec (fun _ => KE) ((fun i => @Bool.rec (fun _ => KE) ((fun i => @Bool.rec (fun _ => KE) ((fun i => @Bool.rec (fun _ => KE) ((fun _ _ _ => False) i) qc1 (Nat.beq i 0)) i) qc1 (Nat.beq i 1)) i) qc2 (Nat.beq i 2)) i) qc2 (Nat.beq i 3)) (retK Tryz.prog Tryz.f21.results.toList K) (n0::e1::under2::n3::e4::under5::A1::who7::out8::i9::j10::i11::s12::i13::A4::A5::A6::A7::A8::A9::C0::C1::C2::C3::C4::C5::C6::C7::C8::C9::D0::D1::D2::D3::D4::D5::D6::D7::D8::D9::E0::E1::E2::E3::E4::E5::E6::E7::E8::E9::F0::F1::F2::F3::F4::F5::F6::F7::F8::F9::G0::G1::G2::G3::G4::G5::G6::G7::G8::G9::H0::H1::H2::H3::H4::H5::H6::H7::H8::H9::I0::I1::I2::I3::I4::I5::I6::I7::I8::I9::J0::J1::J2::J3::J4::J5::J6::J7::J8::J9::L0::L1::L2::L3::L4::L5::L6::L7::L8::L9::M0::M1::M2::M3::M4::M5::M6::M7::M8::M9::N0::N1::N2::N3::N4::N5::N6::N7::[]) w := Eq.mp (by kernel_rfl) h

theorem leatref30_Steps_A3_r {K : KV} {B1 : KE} {B2 : KE} {w : World}
    (h : fldA Tryz.prog 55 e4 1 (fun D9 w =>
    ld Tryz.prog 5 D9 (fun E0 w =>
    bin Tryz.prog BinOp.sub 3 false true i9 (Value.int IntKind.i64 1) (fun E2 w =>
    conv Tryz.prog 3 97 E2 (fun E3 w =>
    bin Tryz.prog BinOp.shr 5 false false E0 E3 (fun E4 w =>
    bin Tryz.prog BinOp.and 5 false true E4 (Value.int IntKind.u8 1) (fun E5 w =>
    fldA Tryz.prog 55 e4 1 (fun E6 w =>
    ld Tryz.prog 5 E6 (fun E7 w =>
    bin Tryz.prog BinOp.sub 3 false true j10 (Value.int IntKind.i64 1) (fun E9 w =>
    conv Tryz.prog 3 97 E9 (fun F0 w =>
    bin Tryz.prog BinOp.shr 5 false false E7 F0 (fun F1 w =>
    bin Tryz.prog BinOp.and 5 false true F1 (Value.int IntKind.u8 1) (fun F2 w =>
    bin Tryz.prog BinOp.neq 5 false false E5 F2 (fun F3 w =>
    cond F3
      (bld Tryz.prog 27 #[(0, (Value.int IntKind.u8 7)), (1, i9), (4, j10)] (fun F7 w =>
      bldS Tryz.prog 40 1 #[(0, F7)] (fun F8 w =>
      blt Tryz.prog Builtin.append #[40, 40] 40 #[false, false] #[out8, F8] (fun F9 w =>
      (leatref30_Steps_P4 K B1 B2) (n0::e1::under2::n3::e4::under5::A1::who7::F9::i9::j10::i11::s12::i13::A4::A5::A6::A7::A8::A9::C0::C1::C2::C3::C4::C5::C6::C7::C8::C9::D0::D1::D2::D3::D4::D5::D6::D7::D8::D9::E0::i9::E2::E3::E4::E5::E6::E7::j10::E9::F0::F1::F2::F3::out8::i9::j10::F7::F8::F9::G0::G1::G2::G3::G4::G5::G6::G7::G8::G9::H0::H1::H2::H3::H4::H5::H6::H7::H8::H9::I0::I1::I2::I3::I4::I5::I6::I7::I8::I9::J0::J1::J2::J3::J4::J5::J6::J7::J8::J9::L0::L1::L2::L3::L4::L5::L6::L7::L8::L9::M0::M1::M2::M3::M4::M5::M6::M7::M8::M9::N0::N1::N2::N3::N4::N5::N6::N7::[]) w) w) w) w)
      ((leatref30_Steps_P4 K B1 B2) (n0::e1::under2::n3::e4::under5::A1::who7::out8::i9::j10::i11::s12::i13::A4::A5::A6::A7::A8::A9::C0::C1::C2::C3::C4::C5::C6::C7::C8::C9::D0::D1::D2::D3::D4::D5::D6::D7::D8::D9::E0::i9::E2::E3::E4::E5::E6::E7::j10::E9::F0::F1::F2::F3::F4::F5::F6::F7::F8::F9::G0::G1::G2::G3::G4::G5::G6::G7::G8::G9::H0::H1::H2::H3::H4::H5::H6::H7::H8::H9::I0::I1::I2::I3::I4::I5::I6::I7::I8::I9::J0::J1::J2::J3::J4::J5::J6::J7::J8::J9::L0::L1::L2::L3::L4::L5::L6::L7::L8::L9::M0::M1::M2::M3::M4::M5::M6::M7::M8::M9::N0::N1::N2::N3::N4::N5::N6::N7::[]) w)) w) w) w) w) w) w) w) w) w) w) w) w) w) :
    leatref30_Steps_A3 K B1 B2 (n0::e1::under2::n3::e4::under5::A1::who7::out8::i9::j10::i11::s12::i13::A4::A5::A6::A7::A8::A9::C0::C1::C2::C3::C4::C5::C6::C7::C8::C9::D0::D1::D2::D3::D4::D5::D6::D7::D8::D9::E0::E1::E2::E3::E4::E5::E6::E7::E8::E9::F0::F1::F2::F3::F4::F5::F6::F7::F8::F9::G0::G1::G2::G3::G4::G5::G6::G7::G8::G9::H0::H1::H2::H3::H4::H5::H6::H7::H8::H9::I0::I1::I2::I3::I4::I5::I6::I7::I8::I9::J0::J1::J2::J3::J4::J5::J6::J7::J8::J9::L0::L1::L2::L3::L4::L5::L6::L7::L8::L9::M0::M1::M2::M3::M4::M5::M6::M7::M8::M9::N0::N1::N2::N3::N4::N5::N6::N7::[]) w := by
  delta leatref30_Steps_A3
  exact Eq.mp (congrArg (fun c => cCode Tryz.prog c (leatref30_Steps_P4 K B1 B2) (fun i => @Bool.rec (fun _ => KE) ((fun i => @Bool.rec (fun _ => KE) ((fun i => @Bool.rec (fun _ => KE) ((fun i => @Bool.rec (fun _ => KE) ((fun _ _ _ => False) i) (leatref30_Steps_P1 K) (Nat.beq i 0)) i) (leatref30_Steps_P1 K) (Nat.beq i 1)) i) (leatref30_Steps_P3 K B1) (Nat.beq i 2)) i) (leatref30_Steps_P3 K B1) (Nat.beq i 3)) (retK Tryz.prog Tryz.f21.results.toList K) (n0::e1::under2::n3::e4::under5::A1::who7::out8::i9::j10::i11::s12::i13::A4::A5::A6::A7::A8::A9::C0::C1::C2::C3::C4::C5::C6::C7::C8::C9::D0::D1::D2::D3::D4::D5::D6::D7::D8::D9::E0::E1::E2::E3::E4::E5::E6::E7::E8::E9::F0::F1::F2::F3::F4::F5::F6::F7::F8::F9::G0::G1::G2::G3::G4::G5::G6::G7::G8::G9::H0::H1::H2::H3::H4::H5::H6::H7::H8::H9::I0::I1::I2::I3::I4::I5::I6::I7::I8::I9::J0::J1::J2::J3::J4::J5::J6::J7::J8::J9::L0::L1::L2::L3::L4::L5::L6::L7::L8::L9::M0::M1::M2::M3::M4::M5::M6::M7::M8::M9::N0::N1::N2::N3::N4::N5::N6::N7::[]) w) (by kernel_rfl : (cd Tryz.f21 [1, 1, 1, 1, 0, 1, 0, 1, 0, 1, 0, 0, 1, 0, 0, 1, 0, 0, 1, 0]) = (cd Tryz.f21 [1, 1, 1, 1, 0, 1, 0, 1, 0, 1, 0, 0, 1, 0, 0, 1, 0, 0, 1, 0]))) (leatref30_Steps_A3_k B1 B2 (leatref30_Steps_P4 K B1 B2) (leatref30_Steps_P1 K) (leatref30_Steps_P3 K B1) h)

theorem leatref30_Steps_P3_k {K : KV} (B1 : KE) (qc0 : KE) {w : World}
    (h : bin Tryz.prog BinOp.add 3 false true i9 (Value.int IntKind.i64 1) (fun D1 w =>
    B1 (n0::e1::under2::n3::e4::under5::A1::who7::out8::D1::j10::i11::s12::i13::A4::A5::A6::A7::A8::A9::C0::C1::C2::C3::C4::C5::C6::C7::C8::C9::i9::D1::D2::D3::D4::D5::D6::D7::D8::D9::E0::E1::E2::E3::E4::E5::E6::E7::E8::E9::F0::F1::F2::F3::F4::F5::F6::F7::F8::F9::G0::G1::G2::G3::G4::G5::G6::G7::G8::G9::H0::H1::H2::H3::H4::H5::H6::H7::H8::H9::I0::I1::I2::I3::I4::I5::I6::I7::I8::I9::J0::J1::J2::J3::J4::J5::J6::J7::J8::J9::L0::L1::L2::L3::L4::L5::L6::L7::L8::L9::M0::M1::M2::M3::M4::M5::M6::M7::M8::M9::N0::N1::N2::N3::N4::N5::N6::N7::[]) w) w) :
    cCode Tryz.prog (cd Tryz.f21 [1, 1, 1, 1, 0, 1, 0, 1, 0, 1, 0, 0, 1, 1]) B1 (fun i => @Bool.rec (fun _ => KE) ((fun i => @Bool.rec (fun _ => KE) ((fun _ _ _ => False) i) qc0 (Nat.beq i 0)) i) qc0 (Nat.beq i 1)) (retK Tryz.prog Tryz.f21.results.toList K) (n0::e1::under2::n3::e4::under5::A1::who7::out8::i9::j10::i11::s12::i13::A4::A5::A6::A7::A8::A9::C0::C1::C2::C3::C4::C5::C6::C7::C8::C9::D0::D1::D2::D3::D4::D5::D6::D7::D8::D9::E0::E1::E2::E3::E4::E5::E6::E7::E8::E9::F0::F1::F2::F3::F4::F5::F6::F7::F8::F9::G0::G1::G2::G3::G4::G5::G6::G7::G8::G9::H0::H1::H2::H3::H4::H5::H6::H7::H8::H9::I0::I1::I2::I3::I4::I5::I6::I7::I8::I9::J0::J1::J2::J3::J4::J5::J6::J7::J8::J9::L0::L1::L2::L3::L4::L5::L6::L7::L8::L9::M0::M1::M2::M3::M4::M5::M6::M7::M8::M9::N0::N1::N2::N3::N4::N5::N6::N7::[]) w := Eq.mp (by kernel_rfl) h

theorem leatref30_Steps_P3_r {K : KV} {B1 : KE} {w : World}
    (h : bin Tryz.prog BinOp.add 3 false true i9 (Value.int IntKind.i64 1) (fun D1 w =>
    B1 (n0::e1::under2::n3::e4::under5::A1::who7::out8::D1::j10::i11::s12::i13::A4::A5::A6::A7::A8::A9::C0::C1::C2::C3::C4::C5::C6::C7::C8::C9::i9::D1::D2::D3::D4::D5::D6::D7::D8::D9::E0::E1::E2::E3::E4::E5::E6::E7::E8::E9::F0::F1::F2::F3::F4::F5::F6::F7::F8::F9::G0::G1::G2::G3::G4::G5::G6::G7::G8::G9::H0::H1::H2::H3::H4::H5::H6::H7::H8::H9::I0::I1::I2::I3::I4::I5::I6::I7::I8::I9::J0::J1::J2::J3::J4::J5::J6::J7::J8::J9::L0::L1::L2::L3::L4::L5::L6::L7::L8::L9::M0::M1::M2::M3::M4::M5::M6::M7::M8::M9::N0::N1::N2::N3::N4::N5::N6::N7::[]) w) w) :
    leatref30_Steps_P3 K B1 (n0::e1::under2::n3::e4::under5::A1::who7::out8::i9::j10::i11::s12::i13::A4::A5::A6::A7::A8::A9::C0::C1::C2::C3::C4::C5::C6::C7::C8::C9::D0::D1::D2::D3::D4::D5::D6::D7::D8::D9::E0::E1::E2::E3::E4::E5::E6::E7::E8::E9::F0::F1::F2::F3::F4::F5::F6::F7::F8::F9::G0::G1::G2::G3::G4::G5::G6::G7::G8::G9::H0::H1::H2::H3::H4::H5::H6::H7::H8::H9::I0::I1::I2::I3::I4::I5::I6::I7::I8::I9::J0::J1::J2::J3::J4::J5::J6::J7::J8::J9::L0::L1::L2::L3::L4::L5::L6::L7::L8::L9::M0::M1::M2::M3::M4::M5::M6::M7::M8::M9::N0::N1::N2::N3::N4::N5::N6::N7::[]) w := by
  delta leatref30_Steps_P3
  exact Eq.mp (congrArg (fun c => cCode Tryz.prog c B1 (fun i => @Bool.rec (fun _ => KE) ((fun i => @Bool.rec (fun _ => KE) ((fun _ _ _ => False) i) (leatref30_Steps_P1 K) (Nat.beq i 0)) i) (leatref30_Steps_P1 K) (Nat.beq i 1)) (retK Tryz.prog Tryz.f21.results.toList K) (n0::e1::under2::n3::e4::under5::A1::who7::out8::i9::j10::i11::s12::i13::A4::A5::A6::A7::A8::A9::C0::C1::C2::C3::C4::C5::C6::C7::C8::C9::D0::D1::D2::D3::D4::D5::D6::D7::D8::D9::E0::E1::E2::E3::E4::E5::E6::E7::E8::E9::F0::F1::F2::F3::F4::F5::F6::F7::F8::F9::G0::G1::G2::G3::G4::G5::G6::G7::G8::G9::H0::H1::H2::H3::H4::H5::H6::H7::H8::H9::I0::I1::I2::I3::I4::I5::I6::I7::I8::I9::J0::J1::J2::J3::J4::J5::J6::J7::J8::J9::L0::L1::L2::L3::L4::L5::L6::L7::L8::L9::M0::M1::M2::M3::M4::M5::M6::M7::M8::M9::N0::N1::N2::N3::N4::N5::N6::N7::[]) w) (by kernel_rfl : (cd Tryz.f21 [1, 1, 1, 1, 0, 1, 0, 1, 0, 1, 0, 0, 1, 1]) = (cd Tryz.f21 [1, 1, 1, 1, 0, 1, 0, 1, 0, 1, 0, 0, 1, 1]))) (leatref30_Steps_P3_k B1 (leatref30_Steps_P1 K) h)

end
theorem leatref30_Steps_L3_k {K : KV} (B1 : KE) (qc0 : KE) (xc0 : Code) {n0 e1 under2 n3 e4 under5 A1 who7 out8' i9 j10 i11' i13 A4 A5 A6 A7 A8 A9 C0 C1 C2 C3 C4 C5 C6 C7 C8 C9 D0 D1 D2 D3 D4 D5 D6 D7 D8 D9 E0 E1 E2 E3 E4 E5 E6 E7 E8 E9 F0 F1 F2 F3 F4 F5 F6 F7 F8 F9 G0 G1 G2 G3 G4 G5 G6 G7 G8 G9 H0 H1 H2 H3 H4 H5 H6 H7 H8 H9 I0 I1 I2 I3 I4 I5 I6 I7 I8 I9 J0 J1 L7 L8 L9 M0 M1 M2 M3 M4 M5 M6 M7 M8 M9 N0 N1 N2 N3 N4 N5 N6 N7 : Value} {dd : Nat → Value} {w : World}
    (h : bin Tryz.prog BinOp.lss 3 false false i11' under2 (fun J4 w =>
    cond J4
      (bld Tryz.prog 27 #[(0, (Value.int IntKind.u8 5))] (fun J7 w =>
    alc Tryz.prog 27 (fun s12 w =>
    sto Tryz.prog 27 s12 J7 (fun _t w =>
    fldA Tryz.prog 55 e4 0 (fun J8 w =>
    ld Tryz.prog 5 J8 (fun J9 w =>
    bin Tryz.prog BinOp.eql 5 false true J9 (Value.int IntKind.u8 7) (fun L0 w =>
    (cCode Tryz.prog xc0 (cCode Tryz.prog (cd Tryz.f21 [1, 1, 1, 1, 0, 1, 0, 1, 1, 1, 1, 1, 1, 1, 1, 1, 1, 1, 0, 1, 0, 0, 1, 0, 0, 1, 1]) (cCode Tryz.prog (cd Tryz.f21 [1, 1, 1, 1, 0, 1, 0, 1, 1, 1, 1, 1, 1, 1, 1, 1, 1, 1, 0, 1, 0, 0, 1, 1]) B1 (fun i => @Bool.rec (fun _ => KE) ((fun i => @Bool.rec (fun _ => KE) ((fun _ _ _ => False) i) qc0 (Nat.beq i 0)) i) qc0 (Nat.beq i 5)) (retK Tryz.prog Tryz.f21.results.toList K)) (fun i => @Bool.rec (fun _ => KE) ((fun i => @Bool.rec (fun _ => KE) ((fun i => @Bool.rec (fun _ => KE) ((fun _ _ _ => False) i) qc0 (Nat.beq i 0)) i) qc0 (Nat.beq i 5)) i) (cCode Tryz.prog (cd Tryz.f21 [1, 1, 1, 1, 0, 1, 0, 1, 1, 1, 1, 1, 1, 1, 1, 1, 1, 1, 0, 1, 0, 0, 1, 1]) B1 (fun i => @Bool.rec (fun _ => KE) ((fun i => @Bool.rec (fun _ => KE) ((fun _ _ _ => False) i) qc0 (Nat.beq i 0)) i) qc0 (Nat.beq i 5)) (retK Tryz.prog Tryz.f21.results.toList K)) (Nat.beq i 6)) (retK Tryz.prog Tryz.f21.results.toList K)) (fun i => @Bool.rec (fun _ => KE) ((fun i => @Bool.rec (fun _ => KE) ((fun i => @Bool.rec (fun _ => KE) ((fun _ _ _ => False) i) qc0 (Nat.beq i 0)) i) qc0 (Nat.beq i 5)) i) (cCode Tryz.prog (cd Tryz.f21 [1, 1, 1, 1, 0, 1, 0, 1, 1, 1, 1, 1, 1, 1, 1, 1, 1, 1, 0, 1, 0, 0, 1, 1]) B1 (fun i => @Bool.rec (fun _ => KE) ((fun i => @Bool.rec (fun _ => KE) ((fun _ _ _ => False) i) qc0 (Nat.beq i 0)) i) qc0 (Nat.beq i 5)) (retK Tryz.prog Tryz.f21.results.toList K)) (Nat.beq i 6)) (retK Tryz.prog Tryz.f21.results.toList K)) (n0::e1::under2::n3::e4::under5::A1::who7::out8'::i9::j10::i11'::s12::i13::A4::A5::A6::A7::A8::A9::C0::C1::C2::C3::C4::C5::C6::C7::C8::C9::D0::D1::D2::D3::D4::D5::D6::D7::D8::D9::E0::E1::E2::E3::E4::E5::E6::E7::E8::E9::F0::F1::F2::F3::F4::F5::F6::F7::F8::F9::G0::G1::G2::G3::G4::G5::G6::G7::G8::G9::H0::H1::H2::H3::H4::H5::H6::H7::H8::H9::I0::I1::I2::I3::I4::I5::I6::I7::I8::I9::J0::J1::i11'::under2::J4::(dd 95)::(dd 96)::J7::J8::J9::L0::(dd 101)::(dd 102)::(dd 103)::(dd 104)::(dd 105)::(dd 106)::L7::L8::L9::M0::M1::M2::M3::M4::M5::M6::M7::M8::M9::N0::N1::N2::N3::N4::N5::N6::N7::[]) w) w) w) w) w) w) w)
      (qc0 (n0::e1::under2::n3::e4::under5::A1::who7::out8'::i9::j10::i11'::(dd 12)::i13::A4::A5::A6::A7::A8::A9::C0::C1::C2::C3::C4::C5::C6::C7::C8::C9::D0::D1::D2::D3::D4::D5::D6::D7::D8::D9::E0::E1::E2::E3::E4::E5::E6::E7::E8::E9::F0::F1::F2::F3::F4::F5::F6::F7::F8::F9::G0::G1::G2::G3::G4::G5::G6::G7::G8::G9::H0::H1::H2::H3::H4::H5::H6::H7::H8::H9::I0::I1::I2::I3::I4::I5::I6::I7::I8::I9::J0::J1::i11'::under2::J4::(dd 95)::(dd 96)::(dd 97)::(dd 98)::(dd 99)::(dd 100)::(dd 101)::(dd 102)::(dd 103)::(dd 104)::(dd 105)::(dd 106)::L7::L8::L9::M0::M1::M2::M3::M4::M5::M6::M7::M8::M9::N0::N1::N2::N3::N4::N5::N6::N7::[]) w)) w) :
    cCode Tryz.prog (rep [1, 0, 0, 1, 0, 1] xc0 (cd Tryz.f21 [1, 1, 1, 1, 0, 1, 0, 1, 1, 1, 1, 1, 1, 1, 1, 1, 1, 1, 0, 1, 0, 0])) B1 (fun i => @Bool.rec (fun _ => KE) ((fun i => @Bool.rec (fun _ => KE) ((fun _ _ _ => False) i) qc0 (Nat.beq i 0)) i) qc0 (Nat.beq i 5)) (retK Tryz.prog Tryz.f21.results.toList K) (n0::e1::under2::n3::e4::under5::A1::who7::out8'::i9::j10::i11'::(dd 12)::i13::A4::A5::A6::A7::A8::A9::C0::C1::C2::C3::C4::C5::C6::C7::C8::C9::D0::D1::D2::D3::D4::D5::D6::D7::D8::D9::E0::E1::E2::E3::E4::E5::E6::E7::E8::E9::F0::F1::F2::F3::F4::F5::F6::F7::F8::F9::G0::G1::G2::G3::G4::G5::G6::G7::G8::G9::H0::H1::H2::H3::H4::H5::H6::H7::H8::H9::I0::I1::I2::I3::I4::I5::I6::I7::I8::I9::J0::J1::(dd 92)::(dd 93)::(dd 94)::(dd 95)::(dd 96)::(dd 97)::(dd 98)::(dd 99)::(dd 100)::(dd 101)::(dd 102)::(dd 103)::(dd 104)::(dd 105)::(dd 106)::L7::L8::L9::M0::M1::M2::M3::M4::M5::M6::M7::M8::M9::N0::N1::N2::N3::N4::N5::N6::N7::[]) w := Eq.mp (by kernel_rfl) h

section
variable {n0 e1 under2 n3 e4 under5 A1 who7 out8 i9 j10 i11 s12 i13 A4 A5 A6 A7 A8 A9 C0 C1 C2 C3 C4 C5 C6 C7 C8 C9 D0 D1 D2 D3 D4 D5 D6 D7 D8 D9 E0 E1 E2 E3 E4 E5 E6 E7 E8 E9 F0 F1 F2 F3 F4 F5 F6 F7 F8 F9 G0 G1 G2 G3 G4 G5 G6 G7 G8 G9 H0 H1 H2 H3 H4 H5 H6 H7 H8 H9 I0 I1 I2 I3 I4 I5 I6 I7 I8 I9 J0 J1 J2 J3 J4 J5 J6 J7 J8 J9 L0 L1 L2 L3 L4 L5 L6 L7 L8 L9 M0 M1 M2 M3 M4 M5 M6 M7 M8 M9 N0 N1 N2 N3 N4 N5 N6 N7 : Value}
theorem leatref30_Steps_L3_r {K : KV} {w : World} (Inv : Value → Value → World → Prop) (μ : Value → Value → World → Nat) (h0 : Inv out8 i11 w)
    (hs : ∀ (out8' i11' : Value) (dd : Nat → Value) (w : World) (m : Nat), Inv out8' i11' w → m = μ out8' i11' w →
    bin Tryz.prog BinOp.lss 3 false false i11' under2 (fun J4 w =>
    cond J4
      (bld Tryz.prog 27 #[(0, (Value.int IntKind.u8 5))] (fun J7 w =>
    alc Tryz.prog 27 (fun s12 w =>
    sto Tryz.prog 27 s12 J7 (fun _t w =>
    fldA Tryz.prog 55 e4 0 (fun J8 w =>
    ld Tryz.prog 5 J8 (fun J9 w =>
    bin Tryz.prog BinOp.eql 5 false true J9 (Value.int IntKind.u8 7) (fun L0 w =>
    (leatref30_Steps_A4 K (fun e2 w2 => Inv (gd e2 8) (gd e2 11) w2 ∧ μ (gd e2 8) (gd e2 11) w2 < m)) (n0::e1::under2::n3::e4::under5::A1::who7::out8'::i9::j10::i11'::s12::i13::A4::A5::A6::A7::A8::A9::C0::C1::C2::C3::C4::C5::C6::C7::C8::C9::D0::D1::D2::D3::D4::D5::D6::D7::D8::D9::E0::E1::E2::E3::E4::E5::E6::E7::E8::E9::F0::F1::F2::F3::F4::F5::F6::F7::F8::F9::G0::G1::G2::G3::G4::G5::G6::G7::G8::G9::H0::H1::H2::H3::H4::H5::H6::H7::H8::H9::I0::I1::I2::I3::I4::I5::I6::I7::I8::I9::J0::J1::i11'::under2::J4::(dd 95)::(dd 96)::J7::J8::J9::L0::(dd 101)::(dd 102)::(dd 103)::(dd 104)::(dd 105)::(dd 106)::L7::L8::L9::M0::M1::M2::M3::M4::M5::M6::M7::M8::M9::N0::N1::N2::N3::N4::N5::N6::N7::[]) w) w) w) w) w) w) w)
      ((leatref30_Steps_P1 K) (n0::e1::under2::n3::e4::under5::A1::who7::out8'::i9::j10::i11'::(dd 12)::i13::A4::A5::A6::A7::A8::A9::C0::C1::C2::C3::C4::C5::C6::C7::C8::C9::D0::D1::D2::D3::D4::D5::D6::D7::D8::D9::E0::E1::E2::E3::E4::E5::E6::E7::E8::E9::F0::F1::F2::F3::F4::F5::F6::F7::F8::F9::G0::G1::G2::G3::G4::G5::G6::G7::G8::G9::H0::H1::H2::H3::H4::H5::H6::H7::H8::H9::I0::I1::I2::I3::I4::I5::I6::I7::I8::I9::J0::J1::i11'::under2::J4::(dd 95)::(dd 96)::(dd 97)::(dd 98)::(dd 99)::(dd 100)::(dd 101)::(dd 102)::(dd 103)::(dd 104)::(dd 105)::(dd 106)::L7::L8::L9::M0::M1::M2::M3::M4::M5::M6::M7::M8::M9::N0::N1::N2::N3::N4::N5::N6::N7::[]) w)) w) :
    leatref30_Steps_L3 K (n0::e1::under2::n3::e4::under5::A1::who7::out8::i9::j10::i11::s12::i13::A4::A5::A6::A7::A8::A9::C0::C1::C2::C3::C4::C5::C6::C7::C8::C9::D0::D1::D2::D3::D4::D5::D6::D7::D8::D9::E0::E1::E2::E3::E4::E5::E6::E7::E8::E9::F0::F1::F2::F3::F4::F5::F6::F7::F8::F9::G0::G1::G2::G3::G4::G5::G6::G7::G8::G9::H0::H1::H2::H3::H4::H5::H6::H7::H8::H9::I0::I1::I2::I3::I4::I5::I6::I7::I8::I9::J0::J1::J2::J3::J4::J5::J6::J7::J8::J9::L0::L1::L2::L3::L4::L5::L6::L7::L8::L9::M0::M1::M2::M3::M4::M5::M6::M7::M8::M9::N0::N1::N2::N3::N4::N5::N6::N7::[]) w := by
  refine loop_rule (cd Tryz.f21 [1, 1, 1, 1, 0, 1, 0, 1, 1, 1, 1, 1, 1, 1, 1, 1, 1, 1, 0, 1, 0, 0]) [8, 11, 12, 92, 93, 94, 95, 96, 97, 98, 99, 100, 101, 102, 103, 104, 105, 106] (by kernel_rfl) (fun e2 w2 => Inv (gd e2 8) (gd e2 11) w2) (fun e2 w2 => μ (gd e2 8) (gd e2 11) w2) h0 ?_
  intro e' w' hI
  have h := hs (gd e' 8) (gd e' 11) (fun i => gd e' i) w' _ hI rfl
  have h2 : cCode Tryz.prog (rep [1, 0, 0, 1, 0, 1] (cd Tryz.f21 [1, 1, 1, 1, 0, 1, 0, 1, 1, 1, 1, 1, 1, 1, 1, 1, 1, 1, 0, 1, 0, 0, 1, 0, 0, 1, 0, 1]) (cd Tryz.f21 [1, 1, 1, 1, 0, 1, 0, 1, 1, 1, 1, 1, 1, 1, 1, 1, 1, 1, 0, 1, 0, 0])) (fun e2 w2 => Inv (gd e2 8) (gd e2 11) w2 ∧ μ (gd e2 8) (gd e2 11) w2 < μ (gd e' 8) (gd e' 11) w') (fun i => @Bool.rec (fun _ => KE) ((fun i => @Bool.rec (fun _ => KE) ((fun _ _ _ => False) i) (leatref30_Steps_P1 K) (Nat.beq i 0)) i) (leatref30_Steps_P1 K) (Nat.beq i 5)) (retK Tryz.prog Tryz.f21.results.toList K) (n0::e1::under2::n3::e4::under5::A1::who7::(gd e' 8)::i9::j10::(gd e' 11)::(gd e' 12)::i13::A4::A5::A6::A7::A8::A9::C0::C1::C2::C3::C4::C5::C6::C7::C8::C9::D0::D1::D2::D3::D4::D5::D6::D7::D8::D9::E0::E1::E2::E3::E4::E5::E6::E7::E8::E9::F0::F1::F2::F3::F4::F5::F6::F7::F8::F9::G0::G1::G2::G3::G4::G5::G6::G7::G8::G9::H0::H1::H2::H3::H4::H5::H6::H7::H8::H9::I0::I1::I2::I3::I4::I5::I6::I7::I8::I9::J0::J1::(gd e' 92)::(gd e' 93)::(gd e' 94)::(gd e' 95)::(gd e' 96)::(gd e' 97)::(gd e' 98)::(gd e' 99)::(gd e' 100)::(gd e' 101)::(gd e' 102)::(gd e' 103)::(gd e' 104)::(gd e' 105)::(gd e' 106)::L7::L8::L9::M0::M1::M2::M3::M4::M5::M6::M7::M8::M9::N0::N1::N2::N3::N4::N5::N6::N7::[]) w' := leatref30_Steps_L3_k (fun e2 w2 => Inv (gd e2 8) (gd e2 11) w2 ∧ μ (gd e2 8) (gd e2 11) w2 < μ (gd e' 8) (gd e' 11) w') (leatref30_Steps_P1 K) (cd Tryz.f21 [1, 1, 1, 1, 0, 1, 0, 1, 1, 1, 1, 1, 1, 1, 1, 1, 1, 1, 0, 1, 0, 0, 1, 0, 0, 1, 0, 1]) (Eq.mp (by kernel_rfl) h)
  exact Eq.mp (by kernel_rfl) h2

end
theorem leatref30_Steps_L4_k {K : KV} (B1 : KE) (qc0 : KE) {n0 e1 under2 n3 e4 under5 A1 who7 out8' i9 j10 i11 s12 i13' A4 A5 A6 A7 A8 A9 C0 C1 C2 C3 C4 C5 C6 C7 C8 C9 D0 D1 D2 D3 D4 D5 D6 D7 D8 D9 E0 E1 E2 E3 E4 E5 E6 E7 E8 E9 F0 F1 F2 F3 F4 F5 F6 F7 F8 F9 G0 G1 G2 G3 G4 G5 G6 G7 G8 G9 H0 H1 H2 H3 H4 H5 H6 H7 H8 H9 I0 I1 I2 I3 I4 I5 I6 I7 I8 I9 J0 J1 J2 J3 J4 J5 J6 J7 J8 J9 L0 L1 L2 L3 L4 L5 L6 L7 L8 L9 M0 M1 M2 M3 M4 M5 M6 N7 : Value} {dd : Nat → Value} {w : World}
    (h : bin Tryz.prog BinOp.leq 3 false false i13' n0 (fun M9 w =>
    cond M9
      (bld Tryz.prog 27 #[(0, (Value.int IntKind.u8 2)), (1, i13')] (fun N4 w =>
    bldS Tryz.prog 40 1 #[(0, N4)] (fun N5 w =>
    blt Tryz.prog Builtin.append #[40, 40] 40 #[false, false] #[out8', N5] (fun N6 w =>
    bin Tryz.prog BinOp.add 3 false true i13' (Value.int IntKind.i64 1) (fun N1 w =>
    B1 (n0::e1::under2::n3::e4::under5::A1::who7::N6::i9::j10::i11::s12::N1::A4::A5::A6::A7::A8::A9::C0::C1::C2::C3::C4::C5::C6::C7::C8::C9::D0::D1::D2::D3::D4::D5::D6::D7::D8::D9::E0::E1::E2::E3::E4::E5::E6::E7::E8::E9::F0::F1::F2::F3::F4::F5::F6::F7::F8::F9::G0::G1::G2::G3::G4::G5::G6::G7::G8::G9::H0::H1::H2::H3::H4::H5::H6::H7::H8::H9::I0::I1::I2::I3::I4::I5::I6::I7::I8::I9::J0::J1::J2::J3::J4::J5::J6::J7::J8::J9::L0::L1::L2::L3::L4::L5::L6::L7::L8::L9::M0::M1::M2::M3::M4::M5::M6::i13'::n0::M9::i13'::N1::out8'::i13'::N4::N5::N6::N7::[]) w) w) w) w) w)
      (qc0 (n0::e1::under2::n3::e4::under5::A1::who7::out8'::i9::j10::i11::s12::i13'::A4::A5::A6::A7::A8::A9::C0::C1::C2::C3::C4::C5::C6::C7::C8::C9::D0::D1::D2::D3::D4::D5::D6::D7::D8::D9::E0::E1::E2::E3::E4::E5::E6::E7::E8::E9::F0::F1::F2::F3::F4::F5::F6::F7::F8::F9::G0::G1::G2::G3::G4::G5::G6::G7::G8::G9::H0::H1::H2::H3::H4::H5::H6::H7::H8::H9::I0::I1::I2::I3::I4::I5::I6::I7::I8::I9::J0::J1::J2::J3::J4::J5::J6::J7::J8::J9::L0::L1::L2::L3::L4::L5::L6::L7::L8::L9::M0::M1::M2::M3::M4::M5::M6::i13'::n0::M9::(dd 120)::(dd 121)::(dd 122)::(dd 123)::(dd 124)::(dd 125)::(dd 126)::N7::[]) w)) w) :
    cCode Tryz.prog (cd Tryz.f21 [1, 1, 1, 1, 0, 1, 0, 1, 1, 1, 1, 1, 1, 1, 1, 1, 1, 1, 1, 1, 1, 1, 0, 1, 0, 0]) B1 (fun i => @Bool.rec (fun _ => KE) ((fun i => @Bool.rec (fun _ => KE) ((fun _ _ _ => False) i) qc0 (Nat.beq i 0)) i) qc0 (Nat.beq i 7)) (retK Tryz.prog Tryz.f21.results.toList K) (n0::e1::under2::n3::e4::under5::A1::who7::out8'::i9::j10::i11::s12::i13'::A4::A5::A6::A7::A8::A9::C0::C1::C2::C3::C4::C5::C6::C7::C8::C9::D0::D1::D2::D3::D4::D5::D6::D7::D8::D9::E0::E1::E2::E3::E4::E5::E6::E7::E8::E9::F0::F1::F2::F3::F4::F5::F6::F7::F8::F9::G0::G1::G2::G3::G4::G5::G6::G7::G8::G9::H0::H1::H2::H3::H4::H5::H6::H7::H8::H9::I0::I1::I2::I3::I4::I5::I6::I7::I8::I9::J0::J1::J2::J3::J4::J5::J6::J7::J8::J9::L0::L1::L2::L3::L4::L5::L6::L7::L8::L9::M0::M1::M2::M3::M4::M5::M6::(dd 117)::(dd 118)::(dd 119)::(dd 120)::(dd 121)::(dd 122)::(dd 123)::(dd 124)::(dd 125)::(dd 126)::N7::[]) w := Eq.mp (by kernel_rfl) h

section
variable {n0 e1 under2 n3 e4 under5 A1 who7 out8 i9 j10 i11 s12 i13 A4 A5 A6 A7 A8 A9 C0 C1 C2 C3 C4 C5 C6 C7 C8 C9 D0 D1 D2 D3 D4 D5 D6 D7 D8 D9 E0 E1 E2 E3 E4 E5 E6 E7 E8 E9 F0 F1 F2 F3 F4 F5 F6 F7 F8 F9 G0 G1 G2 G3 G4 G5 G6 G7 G8 G9 H0 H1 H2 H3 H4 H5 H6 H7 H8 H9 I0 I1 I2 I3 I4 I5 I6 I7 I8 I9 J0 J1 J2 J3 J4 J5 J6 J7 J8 J9 L0 L1 L2 L3 L4 L5 L6 L7 L8 L9 M0 M1 M2 M3 M4 M5 M6 M7 M8 M9 N0 N1 N2 N3 N4 N5 N6 N7 : Value}
theorem leatref30_Steps_L4_r {K : KV} {w : World} (Inv : Value → Value → World → Prop) (μ : Value → Value → World → Nat) (h0 : Inv out8 i13 w)
    (hs : ∀ (out8' i13' : Value) (dd : Nat → Value) (w : World) (m : Nat), Inv out8' i13' w → m = μ out8' i13' w →
    bin Tryz.prog BinOp.leq 3 false false i13' n0 (fun M9 w =>
    cond M9
      (bld Tryz.prog 27 #[(0, (Value.int IntKind.u8 2)), (1, i13')] (fun N4 w =>
    bldS Tryz.prog 40 1 #[(0, N4)] (fun N5 w =>
    blt Tryz.prog Builtin.append #[40, 40] 40 #[false, false] #[out8', N5] (fun N6 w =>
    bin Tryz.prog BinOp.add 3 false true i13' (Value.int IntKind.i64 1) (fun N1 w =>
    (Inv N6 N1 w ∧ μ N6 N1 w < m)) w) w) w) w)
      ((leatref30_Steps_P1 K) (n0::e1::under2::n3::e4::under5::A1::who7::out8'::i9::j10::i11::s12::i13'::A4::A5::A6::A7::A8::A9::C0::C1::C2::C3::C4::C5::C6::C7::C8::C9::D0::D1::D2::D3::D4::D5::D6::D7::D8::D9::E0::E1::E2::E3::E4::E5::E6::E7::E8::E9::F0::F1::F2::F3::F4::F5::F6::F7::F8::F9::G0::G1::G2::G3::G4::G5::G6::G7::G8::G9::H0::H1::H2::H3::H4::H5::H6::H7::H8::H9::I0::I1::I2::I3::I4::I5::I6::I7::I8::I9::J0::J1::J2::J3::J4::J5::J6::J7::J8::J9::L0::L1::L2::L3::L4::L5::L6::L7::L8::L9::M0::M1::M2::M3::M4::M5::M6::i13'::n0::M9::(dd 120)::(dd 121)::(dd 122)::(dd 123)::(dd 124)::(dd 125)::(dd 126)::N7::[]) w)) w) :
    leatref30_Steps_L4 K (n0::e1::under2::n3::e4::under5::A1::who7::out8::i9::j10::i11::s12::i13::A4::A5::A6::A7::A8::A9::C0::C1::C2::C3::C4::C5::C6::C7::C8::C9::D0::D1::D2::D3::D4::D5::D6::D7::D8::D9::E0::E1::E2::E3::E4::E5::E6::E7::E8::E9::F0::F1::F2::F3::F4::F5::F6::F7::F8::F9::G0::G1::G2::G3::G4::G5::G6::G7::G8::G9::H0::H1::H2::H3::H4::H5::H6::H7::H8::H9::I0::I1::I2::I3::I4::I5::I6::I7::I8::I9::J0::J1::J2::J3::J4::J5::J6::J7::J8::J9::L0::L1::L2::L3::L4::L5::L6::L7::L8::L9::M0::M1::M2::M3::M4::M5::M6::M7::M8::M9::N0::N1::N2::N3::N4::N5::N6::N7::[]) w := by
  refine loop_rule (cd Tryz.f21 [1, 1, 1, 1, 0, 1, 0, 1, 1, 1, 1, 1, 1, 1, 1, 1, 1, 1, 1, 1, 1, 1, 0, 1, 0, 0]) [8, 13, 117, 118, 119, 120, 121, 122, 123, 124, 125, 126] (by kernel_rfl) (fun e2 w2 => Inv (gd e2 8) (gd e2 13) w2) (fun e2 w2 => μ (gd e2 8) (gd e2 13) w2) h0 ?_
  intro e' w' hI
  have h := hs (gd e' 8) (gd e' 13) (fun i => gd e' i) w' _ hI rfl
  have h2 : cCode Tryz.prog (cd Tryz.f21 [1, 1, 1, 1, 0, 1, 0, 1, 1, 1, 1, 1, 1, 1, 1, 1, 1, 1, 1, 1, 1, 1, 0, 1, 0, 0]) (fun e2 w2 => Inv (gd e2 8) (gd e2 13) w2 ∧ μ (gd e2 8) (gd e2 13) w2 < μ (gd e' 8) (gd e' 13) w') (fun i => @Bool.rec (fun _ => KE) ((fun i => @Bool.rec (fun _ => KE) ((fun _ _ _ => False) i) (leatref30_Steps_P1 K) (Nat.beq i 0)) i) (leatref30_Steps_P1 K) (Nat.beq i 7)) (retK Tryz.prog Tryz.f21.results.toList K) (n0::e1::under2::n3::e4::under5::A1::who7::(gd e' 8)::i9::j10::i11::s12::(gd e' 13)::A4::A5::A6::A7::A8::A9::C0::C1::C2::C3::C4::C5::C6::C7::C8::C9::D0::D1::D2::D3::D4::D5::D6::D7::D8::D9::E0::E1::E2::E3::E4::E5::E6::E7::E8::E9::F0::F1::F2::F3::F4::F5::F6::F7::F8::F9::G0::G1::G2::G3::G4::G5::G6::G7::G8::G9::H0::H1::H2::H3::H4::H5::H6::H7::H8::H9::I0::I1::I2::I3::I4::I5::I6::I7::I8::I9::J0::J1::J2::J3::J4::J5::J6::J7::J8::J9::L0::L1::L2::L3::L4::L5::L6::L7::L8::L9::M0::M1::M2::M3::M4::M5::M6::(gd e' 117)::(gd e' 118)::(gd e' 119)::(gd e' 120)::(gd e' 121)::(gd e' 122)::(gd e' 123)::(gd e' 124)::(gd e' 125)::(gd e' 126)::N7::[]) w' := leatref30_Steps_L4_k (fun e2 w2 => Inv (gd e2 8) (gd e2 13) w2 ∧ μ (gd e2 8) (gd e2 13) w2 < μ (gd e' 8) (gd e' 13) w') (leatref30_Steps_P1 K) (Eq.mp (by kernel_rfl) h)
  exact Eq.mp (by kernel_rfl) h2

theorem leatref30_Steps_P4_k {K : KV} (B1 : KE) (B2 : KE) (qc0 : KE) (qc1 : KE) {w : World}
    (h : bin Tryz.prog BinOp.add 3 false true j10 (Value.int IntKind.i64 1) (fun D8 w =>
    B2 (n0::e1::under2::n3::e4::under5::A1::who7::out8::i9::D8::i11::s12::i13::A4::A5::A6::A7::A8::A9::C0::C1::C2::C3::C4::C5::C6::C7::C8::C9::D0::D1::D2::D3::D4::D5::D6::j10::D8::D9::E0::E1::E2::E3::E4::E5::E6::E7::E8::E9::F0::F1::F2::F3::F4::F5::F6::F7::F8::F9::G0::G1::G2::G3::G4::G5::G6::G7::G8::G9::H0::H1::H2::H3::H4::H5::H6::H7::H8::H9::I0::I1::I2::I3::I4::I5::I6::I7::I8::I9::J0::J1::J2::J3::J4::J5::J6::J7::J8::J9::L0::L1::L2::L3::L4::L5::L6::L7::L8::L9::M0::M1::M2::M3::M4::M5::M6::M7::M8::M9::N0::N1::N2::N3::N4::N5::N6::N7::[]) w) w) :
    cCode Tryz.prog (cd Tryz.f21 [1, 1, 1, 1, 0, 1, 0, 1, 0, 1, 0, 0, 1, 0, 0, 1, 0, 0, 1, 1]) B2 (fun i => @Bool.rec (fun _ => KE) ((fun i => @Bool.rec (fun _ => KE) ((fun i => @Bool.rec (fun _ => KE) ((fun i => @Bool.rec (fun _ => KE) ((fun _ _ _ => False) i) qc0 (Nat.beq i 0)) i) qc0 (Nat.beq i 1)) i) qc1 (Nat.beq i 2)) i) qc1 (Nat.beq i 3)) (retK Tryz.prog Tryz.f21.results.toList K) (n0::e1::under2::n3::e4::under5::A1::who7::out8::i9::j10::i11::s12::i13::A4::A5::A6::A7::A8::A9::C0::C1::C2::C3::C4::C5::C6::C7::C8::C9::D0::D1::D2::D3::D4::D5::D6::D7::D8::D9::E0::E1::E2::E3::E4::E5::E6::E7::E8::E9::F0::F1::F2::F3::F4::F5::F6::F7::F8::F9::G0::G1::G2::G3::G4::G5::G6::G7::G8::G9::H0::H1::H2::H3::H4::H5::H6::H7::H8::H9::I0::I1::I2::I3::I4::I5::I6::I7::I8::I9::J0::J1::J2::J3::J4::J5::J6::J7::J8::J9::L0::L1::L2::L3::L4::L5::L6::L7::L8::L9::M0::M1::M2::M3::M4::M5::M6::M7::M8::M9::N0::N1::N2::N3::N4::N5::N6::N7::[]) w := Eq.mp (by kernel_rfl) h

theorem leatref30_Steps_P4_r {K : KV} {B1 : KE} {B2 : KE} {w : World}
    (h : bin Tryz.prog BinOp.add 3 false true j10 (Value.int IntKind.i64 1) (fun D8 w =>
    B2 (n0::e1::under2::n3::e4::under5::A1::who7::out8::i9::D8::i11::s12::i13::A4::A5::A6::A7::A8::A9::C0::C1::C2::C3::C4::C5::C6::C7::C8::C9::D0::D1::D2::D3::D4::D5::D6::j10::D8::D9::E0::E1::E2::E3::E4::E5::E6::E7::E8::E9::F0::F1::F2::F3::F4::F5::F6::F7::F8::F9::G0::G1::G2::G3::G4::G5::G6::G7::G8::G9::H0::H1::H2::H3::H4::H5::H6::H7::H8::H9::I0::I1::I2::I3::I4::I5::I6::I7::I8::I9::J0::J1::J2::J3::J4::J5::J6::J7::J8::J9::L0::L1::L2::L3::L4::L5::L6::L7::L8::L9::M0::M1::M2::M3::M4::M5::M6::M7::M8::M9::N0::N1::N2::N3::N4::N5::N6::N7::[]) w) w) :
    leatref30_Steps_P4 K B1 B2 (n0::e1::under2::n3::e4::under5::A1::who7::out8::i9::j10::i11::s12::i13::A4::A5::A6::A7::A8::A9::C0::C1::C2::C3::C4::C5::C6::C7::C8::C9::D0::D1::D2::D3::D4::D5::D6::D7::D8::D9::E0::E1::E2::E3::E4::E5::E6::E7::E8::E9::F0::F1::F2::F3::F4::F5::F6::F7::F8::F9::G0::G1::G2::G3::G4::G5::G6::G7::G8::G9::H0::H1::H2::H3::H4::H5::H6::H7::H8::H9::I0::I1::I2::I3::I4::I5::I6::I7::I8::I9::J0::J1::J2::J3::J4::J5::J6::J7::J8::J9::L0::L1::L2::L3::L4::L5::L6::L7::L8::L9::M0::M1::M2::M3::M4::M5::M6::M7::M8::M9::N0::N1::N2::N3::N4::N5::N6::N7::[]) w := by
  delta leatref30_Steps_P4
  exact Eq.mp (congrArg (fun c => cCode Tryz.prog c B2 (fun i => @Bool.rec (fun _ => KE) ((fun i => @Bool.rec (fun _ => KE) ((fun i => @Bool.rec (fun _ => KE) ((fun i => @Bool.rec (fun _ => KE) ((fun _ _ _ => False) i) (leatref30_Steps_P1 K) (Nat.beq i 0)) i) (leatref30_Steps_P1 K) (Nat.beq i 1)) i) (leatref30_Steps_P3 K B1) (Nat.beq i 2)) i) (leatref30_Steps_P3 K B1) (Nat.beq i 3)) (retK Tryz.prog Tryz.f21.results.toList K) (n0::e1::under2::n3::e4::under5::A1::who7::out8::i9::j10::i11::s12::i13::A4::A5::A6::A7::A8::A9::C0::C1::C2::C3::C4::C5::C6::C7::C8::C9::D0::D1::D2::D3::D4::D5::D6::D7::D8::D9::E0::E1::E2::E3::E4::E5::E6::E7::E8::E9::F0::F1::F2::F3::F4::F5::F6::F7::F8::F9::G0::G1::G2::G3::G4::G5::G6::G7::G8::G9::H0::H1::H2::H3::H4::H5::H6::H7::H8::H9::I0::I1::I2::I3::I4::I5::I6::I7::I8::I9::J0::J1::J2::J3::J4::J5::J6::J7::J8::J9::L0::L1::L2::L3::L4::L5::L6::L7::L8::L9::M0::M1::M2::M3::M4::M5::M6::M7::M8::M9::N0::N1::N2::N3::N4::N5::N6::N7::[]) w) (by kernel_rfl : (cd Tryz.f21 [1, 1, 1, 1, 0, 1, 0, 1, 0, 1, 0, 0, 1, 0, 0, 1, 0, 0, 1, 1]) = (cd Tryz.f21 [1, 1, 1, 1, 0, 1, 0, 1, 0, 1, 0, 0, 1, 0, 0, 1, 0, 0, 1, 1]))) (leatref30_Steps_P4_k B1 B2 (leatref30_Steps_P1 K) (leatref30_Steps_P3 K B1) h)

theorem leatref30_Steps_A4_k {K : KV} (B1 : KE) (qc0 : KE) (qc1 : KE) (qc2 : KE) {w : World}
    (h : cond L0
      (bld Tryz.prog 27 #[(0, (Value.int IntKind.u8 6)), (3, i11)] (fun L2 w =>
      sto Tryz.prog 27 s12 L2 (fun _t w =>
      qc0 (n0::e1::under2::n3::e4::under5::A1::who7::out8::i9::j10::i11::s12::i13::A4::A5::A6::A7::A8::A9::C0::C1::C2::C3::C4::C5::C6::C7::C8::C9::D0::D1::D2::D3::D4::D5::D6::D7::D8::D9::E0::E1::E2::E3::E4::E5::E6::E7::E8::E9::F0::F1::F2::F3::F4::F5::F6::F7::F8::F9::G0::G1::G2::G3::G4::G5::G6::G7::G8::G9::H0::H1::H2::H3::H4::H5::H6::H7::H8::H9::I0::I1::I2::I3::I4::I5::I6::I7::I8::I9::J0::J1::J2::J3::J4::J5::J6::J7::J8::J9::L0::i11::L2::L3::L4::L5::L6::L7::L8::L9::M0::M1::M2::M3::M4::M5::M6::M7::M8::M9::N0::N1::N2::N3::N4::N5::N6::N7::[]) w) w) w)
      (qc0 (n0::e1::under2::n3::e4::under5::A1::who7::out8::i9::j10::i11::s12::i13::A4::A5::A6::A7::A8::A9::C0::C1::C2::C3::C4::C5::C6::C7::C8::C9::D0::D1::D2::D3::D4::D5::D6::D7::D8::D9::E0::E1::E2::E3::E4::E5::E6::E7::E8::E9::F0::F1::F2::F3::F4::F5::F6::F7::F8::F9::G0::G1::G2::G3::G4::G5::G6::G7::G8::G9::H0::H1::H2::H3::H4::H5::H6::H7::H8::H9::I0::I1::I2::I3::I4::I5::I6::I7::I8::I9::J0::J1::J2::J3::J4::J5::J6::J7::J8::J9::L0::L1::L2::L3::L4::L5::L6::L7::L8::L9::M0::M1::M2::M3::M4::M5::M6::M7::M8::M9::N0::N1::N2::N3::N4::N5::N6::N7::[]) w)) :
    cCode Tryz.prog (cd Tryz.f21 [1, 1, 1, 1, 0, 1, 0, 1, 1, 1, 1, 1, 1, 1, 1, 1, 1, 1, 0, 1, 0, 0, 1, 0, 0, 1, 0, 1]) qc0 (fun i => @Bool.rec (fun _ => KE) ((fun i => @Bool.rec (fun _ => KE) ((fun i => @Bool.rec (fun _ => KE) ((fun _ _ _ => False) i) qc1 (Nat.beq i 0)) i) qc1 (Nat.beq i 5)) i) qc2 (Nat.beq i 6)) (retK Tryz.prog Tryz.f21.results.toList K) (n0::e1::under2::n3::e4::under5::A1::who7::out8::i9::j10::i11::s12::i13::A4::A5::A6::A7::A8::A9::C0::C1::C2::C3::C4::C5::C6::C7::C8::C9::D0::D1::D2::D3::D4::D5::D6::D7::D8::D9::E0::E1::E2::E3::E4::E5::E6::E7::E8::E9::F0::F1::F2::F3::F4::F5::F6::F7::F8::F9::G0::G1::G2::G3::G4::G5::G6::G7::G8::G9::H0::H1::H2::H3::H4::H5::H6::H7::H8::H9::I0::I1::I2::I3::I4::I5::I6::I7::I8::I9::J0::J1::J2::J3::J4::J5::J6::J7::J8::J9::L0::L1::L2::L3::L4::L5::L6::L7::L8::L9::M0::M1::M2::M3::M4::M5::M6::M7::M8::M9::N0::N1::N2::N3::N4::N5::N6::N7::[]) w := Eq.mp (by kernel_rfl) h

theorem leatref30_Steps_A4_r {K : KV} {B1 : KE} {w : World}
    (h : cond L0
      (bld Tryz.prog 27 #[(0, (Value.int IntKind.u8 6)), (3, i11)] (fun L2 w =>
      sto Tryz.prog 27 s12 L2 (fun _t w =>
      (leatref30_Steps_P6 K B1) (n0::e1::under2::n3::e4::under5::A1::who7::out8::i9::j10::i11::s12::i13::A4::A5::A6::A7::A8::A9::C0::C1::C2::C3::C4::C5::C6::C7::C8::C9::D0::D1::D2::D3::D4::D5::D6::D7::D8::D9::E0::E1::E2::E3::E4::E5::E6::E7::E8::E9::F0::F1::F2::F3::F4::F5::F6::F7::F8::F9::G0::G1::G2::G3::G4::G5::G6::G7::G8::G9::H0::H1::H2::H3::H4::H5::H6::H7::H8::H9::I0::I1::I2::I3::I4::I5::I6::I7::I8::I9::J0::J1::J2::J3::J4::J5::J6::J7::J8::J9::L0::i11::L2::L3::L4::L5::L6::L7::L8::L9::M0::M1::M2::M3::M4::M5::M6::M7::M8::M9::N0::N1::N2::N3::N4::N5::N6::N7::[]) w) w) w)
      ((leatref30_Steps_P6 K B1) (n0::e1::under2::n3::e4::under5::A1::who7::out8::i9::j10::i11::s12::i13::A4::A5::A6::A7::A8::A9::C0::C1::C2::C3::C4::C5::C6::C7::C8::C9::D0::D1::D2::D3::D4::D5::D6::D7::D8::D9::E0::E1::E2::E3::E4::E5::E6::E7::E8::E9::F0::F1::F2::F3::F4::F5::F6::F7::F8::F9::G0::G1::G2::G3::G4::G5::G6::G7::G8::G9::H0::H1::H2::H3::H4::H5::H6::H7::H8::H9::I0::I1::I2::I3::I4::I5::I6::I7::I8::I9::J0::J1::J2::J3::J4::J5::J6::J7::J8::J9::L0::L1::L2::L3::L4::L5::L6::L7::L8::L9::M0::M1::M2::M3::M4::M5::M6::M7::M8::M9::N0::N1::N2::N3::N4::N5::N6::N7::[]) w)) :
    leatref30_Steps_A4 K B1 (n0::e1::under2::n3::e4::under5::A1::who7::out8::i9::j10::i11::s12::i13::A4::A5::A6::A7::A8::A9::C0::C1::C2::C3::C4::C5::C6::C7::C8::C9::D0::D1::D2::D3::D4::D5::D6::D7::D8::D9::E0::E1::E2::E3::E4::E5::E6::E7::E8::E9::F0::F1::F2::F3::F4::F5::F6::F7::F8::F9::G0::G1::G2::G3::G4::G5::G6::G7::G8::G9::H0::H1::H2::H3::H4::H5::H6::H7::H8::H9::I0::I1::I2::I3::I4::I5::I6::I7::I8::I9::J0::J1::J2::J3::J4::J5::J6::J7::J8::J9::L0::L1::L2::L3::L4::L5::L6::L7::L8::L9::M0::M1::M2::M3::M4::M5::M6::M7::M8::M9::N0::N1::N2::N3::N4::N5::N6::N7::[]) w := by
  delta leatref30_Steps_A4
  exact Eq.mp (congrArg (fun c => cCode Tryz.prog c (leatref30_Steps_P6 K B1) (fun i => @Bool.rec (fun _ => KE) ((fun i => @Bool.rec (fun _ => KE) ((fun i => @Bool.rec (fun _ => KE) ((fun _ _ _ => False) i) (leatref30_Steps_P1 K) (Nat.beq i 0)) i) (leatref30_Steps_P1 K) (Nat.beq i 5)) i) (leatref30_Steps_P5 K B1) (Nat.beq i 6)) (retK Tryz.prog Tryz.f21.results.toList K) (n0::e1::under2::n3::e4::under5::A1::who7::out8::i9::j10::i11::s12::i13::A4::A5::A6::A7::A8::A9::C0::C1::C2::C3::C4::C5::C6::C7::C8::C9::D0::D1::D2::D3::D4::D5::D6::D7::D8::D9::E0::E1::E2::E3::E4::E5::E6::E7::E8::E9::F0::F1::F2::F3::F4::F5::F6::F7::F8::F9::G0::G1::G2::G3::G4::G5::G6::G7::G8::G9::H0::H1::H2::H3::H4::H5::H6::H7::H8::H9::I0::I1::I2::I3::I4::I5::I6::I7::I8::I9::J0::J1::J2::J3::J4::J5::J6::J7::J8::J9::L0::L1::L2::L3::L4::L5::L6::L7::L8::L9::M0::M1::M2::M3::M4::M5::M6::M7::M8::M9::N0::N1::N2::N3::N4::N5::N6::N7::[]) w) (by kernel_rfl : (cd Tryz.f21 [1, 1, 1, 1, 0, 1, 0, 1, 1, 1, 1, 1, 1, 1, 1, 1, 1, 1, 0, 1, 0, 0, 1, 0, 0, 1, 0, 1]) = (cd Tryz.f21 [1, 1, 1, 1, 0, 1, 0, 1, 1, 1, 1, 1, 1, 1, 1, 1, 1, 1, 0, 1, 0, 0, 1, 0, 0, 1, 0, 1]))) (leatref30_Steps_A4_k B1 (leatref30_Steps_P6 K B1) (leatref30_Steps_P1 K) (leatref30_Steps_P5 K B1) h)

theorem leatref30_Steps_P6_k {K : KV} (B1 : KE) (qc0 : KE) (qc1 : KE) {w : World}
    (h : ld Tryz.prog 27 s12 (fun L4 w =>
    bldS Tryz.prog 40 1 #[(0, L4)] (fun L5 w =>
    blt Tryz.prog Builtin.append #[40, 40] 40 #[false, false] #[out8, L5] (fun L6 w =>
    qc0 (n0::e1::under2::n3::e4::under5::A1::who7::L6::i9::j10::i11::s12::i13::A4::A5::A6::A7::A8::A9::C0::C1::C2::C3::C4::C5::C6::C7::C8::C9::D0::D1::D2::D3::D4::D5::D6::D7::D8::D9::E0::E1::E2::E3::E4::E5::E6::E7::E8::E9::F0::F1::F2::F3::F4::F5::F6::F7::F8::F9::G0::G1::G2::G3::G4::G5::G6::G7::G8::G9::H0::H1::H2::H3::H4::H5::H6::H7::H8::H9::I0::I1::I2::I3::I4::I5::I6::I7::I8::I9::J0::J1::J2::J3::J4::J5::J6::J7::J8::J9::L0::L1::L2::out8::L4::L5::L6::L7::L8::L9::M0::M1::M2::M3::M4::M5::M6::M7::M8::M9::N0::N1::N2::N3::N4::N5::N6::N7::[]) w) w) w) w) :
    cCode Tryz.prog (cd Tryz.f21 [1, 1, 1, 1, 0, 1, 0, 1, 1, 1, 1, 1, 1, 1, 1, 1, 1, 1, 0, 1, 0, 0, 1, 0, 0, 1, 1]) qc0 (fun i => @Bool.rec (fun _ => KE) ((fun i => @Bool.rec (fun _ => KE) ((fun i => @Bool.rec (fun _ => KE) ((fun _ _ _ => False) i) qc1 (Nat.beq i 0)) i) qc1 (Nat.beq i 5)) i) qc0 (Nat.beq i 6)) (retK Tryz.prog Tryz.f21.results.toList K) (n0::e1::under2::n3::e4::under5::A1::who7::out8::i9::j10::i11::s12::i13::A4::A5::A6::A7::A8::A9::C0::C1::C2::C3::C4::C5::C6::C7::C8::C9::D0::D1::D2::D3::D4::D5::D6::D7::D8::D9::E0::E1::E2::E3::E4::E5::E6::E7::E8::E9::F0::F1::F2::F3::F4::F5::F6::F7::F8::F9::G0::G1::G2::G3::G4::G5::G6::G7::G8::G9::H0::H1::H2::H3::H4::H5::H6::H7::H8::H9::I0::I1::I2::I3::I4::I5::I6::I7::I8::I9::J0::J1::J2::J3::J4::J5::J6::J7::J8::J9::L0::L1::L2::L3::L4::L5::L6::L7::L8::L9::M0::M1::M2::M3::M4::M5::M6::M7::M8::M9::N0::N1::N2::N3::N4::N5::N6::N7::[]) w := Eq.mp (by kernel_rfl) h

theorem leatref30_Steps_P6_r {K : KV} {B1 : KE} {w : World}
    (h : ld Tryz.prog 27 s12 (fun L4 w =>
    bldS Tryz.prog 40 1 #[(0, L4)] (fun L5 w =>
    blt Tryz.prog Builtin.append #[40, 40] 40 #[false, false] #[out8, L5] (fun L6 w =>
    (leatref30_Steps_P5 K B1) (n0::e1::under2::n3::e4::under5::A1::who7::L6::i9::j10::i11::s12::i13::A4::A5::A6::A7::A8::A9::C0::C1::C2::C3::C4::C5::C6::C7::C8::C9::D0::D1::D2::D3::D4::D5::D6::D7::D8::D9::E0::E1::E2::E3::E4::E5::E6::E7::E8::E9::F0::F1::F2::F3::F4::F5::F6::F7::F8::F9::G0::G1::G2::G3::G4::G5::G6::G7::G8::G9::H0::H1::H2::H3::H4::H5::H6::H7::H8::H9::I0::I1::I2::I3::I4::I5::I6::I7::I8::I9::J0::J1::J2::J3::J4::J5::J6::J7::J8::J9::L0::L1::L2::out8::L4::L5::L6::L7::L8::L9::M0::M1::M2::M3::M4::M5::M6::M7::M8::M9::N0::N1::N2::N3::N4::N5::N6::N7::[]) w) w) w) w) :
    leatref30_Steps_P6 K B1 (n0::e1::under2::n3::e4::under5::A1::who7::out8::i9::j10::i11::s12::i13::A4::A5::A6::A7::A8::A9::C0::C1::C2::C3::C4::C5::C6::C7::C8::C9::D0::D1::D2::D3::D4::D5::D6::D7::D8::D9::E0::E1::E2::E3::E4::E5::E6::E7::E8::E9::F0::F1::F2::F3::F4::F5::F6::F7::F8::F9::G0::G1::G2::G3::G4::G5::G6::G7::G8::G9::H0::H1::H2::H3::H4::H5::H6::H7::H8::H9::I0::I1::I2::I3::I4::I5::I6::I7::I8::I9::J0::J1::J2::J3::J4::J5::J6::J7::J8::J9::L0::L1::L2::L3::L4::L5::L6::L7::L8::L9::M0::M1::M2::M3::M4::M5::M6::M7::M8::M9::N0::N1::N2::N3::N4::N5::N6::N7::[]) w := by
  delta leatref30_Steps_P6
  exact Eq.mp (congrArg (fun c => cCode Tryz.prog c (leatref30_Steps_P5 K B1) (fun i => @Bool.rec (fun _ => KE) ((fun i => @Bool.rec (fun _ => KE) ((fun i => @Bool.rec (fun _ => KE) ((fun _ _ _ => False) i) (leatref30_Steps_P1 K) (Nat.beq i 0)) i) (leatref30_Steps_P1 K) (Nat.beq i 5)) i) (leatref30_Steps_P5 K B1) (Nat.beq i 6)) (retK Tryz.prog Tryz.f21.results.toList K) (n0::e1::under2::n3::e4::under5::A1::who7::out8::i9::j10::i11::s12::i13::A4::A5::A6::A7::A8::A9::C0::C1::C2::C3::C4::C5::C6::C7::C8::C9::D0::D1::D2::D3::D4::D5::D6::D7::D8::D9::E0::E1::E2::E3::E4::E5::E6::E7::E8::E9::F0::F1::F2::F3::F4::F5::F6::F7::F8::F9::G0::G1::G2::G3::G4::G5::G6::G7::G8::G9::H0::H1::H2::H3::H4::H5::H6::H7::H8::H9::I0::I1::I2::I3::I4::I5::I6::I7::I8::I9::J0::J1::J2::J3::J4::J5::J6::J7::J8::J9::L0::L1::L2::L3::L4::L5::L6::L7::L8::L9::M0::M1::M2::M3::M4::M5::M6::M7::M8::M9::N0::N1::N2::N3::N4::N5::N6::N7::[]) w) (by kernel_rfl : (cd Tryz.f21 [1, 1, 1, 1, 0, 1, 0, 1, 1, 1, 1, 1, 1, 1, 1, 1, 1, 1, 0, 1, 0, 0, 1, 0, 0, 1, 1]) = (cd Tryz.f21 [1, 1, 1, 1, 0, 1, 0, 1, 1, 1, 1, 1, 1, 1, 1, 1, 1, 1, 0, 1, 0, 0, 1, 0, 0, 1, 1]))) (leatref30_Steps_P6_k B1 (leatref30_Steps_P5 K B1) (leatref30_Steps_P1 K) h)

theorem leatref30_Steps_P5_k {K : KV} (B1 : KE) (qc0 : KE) {w : World}
    (h : bin Tryz.prog BinOp.add 3 false true i11 (Value.int IntKind.i64 1) (fun J6 w =>
    B1 (n0::e1::under2::n3::e4::under5::A1::who7::out8::i9::j10::J6::s12::i13::A4::A5::A6::A7::A8::A9::C0::C1::C2::C3::C4::C5::C6::C7::C8::C9::D0::D1::D2::D3::D4::D5::D6::D7::D8::D9::E0::E1::E2::E3::E4::E5::E6::E7::E8::E9::F0::F1::F2::F3::F4::F5::F6::F7::F8::F9::G0::G1::G2::G3::G4::G5::G6::G7::G8::G9::H0::H1::H2::H3::H4::H5::H6::H7::H8::H9::I0::I1::I2::I3::I4::I5::I6::I7::I8::I9::J0::J1::J2::J3::J4::i11::J6::J7::J8::J9::L0::L1::L2::L3::L4::L5::L6::L7::L8::L9::M0::M1::M2::M3::M4::M5::M6::M7::M8::M9::N0::N1::N2::N3::N4::N5::N6::N7::[]) w) w) :
    cCode Tryz.prog (cd Tryz.f21 [1, 1, 1, 1, 0, 1, 0, 1, 1, 1, 1, 1, 1, 1, 1, 1, 1, 1, 0, 1, 0, 0, 1, 1]) B1 (fun i => @Bool.rec (fun _ => KE) ((fun i => @Bool.rec (fun _ => KE) ((fun _ _ _ => False) i) qc0 (Nat.beq i 0)) i) qc0 (Nat.beq i 5)) (retK Tryz.prog Tryz.f21.results.toList K) (n0::e1::under2::n3::e4::under5::A1::who7::out8::i9::j10::i11::s12::i13::A4::A5::A6::A7::A8::A9::C0::C1::C2::C3::C4::C5::C6::C7::C8::C9::D0::D1::D2::D3::D4::D5::D6::D7::D8::D9::E0::E1::E2::E3::E4::E5::E6::E7::E8::E9::F0::F1::F2::F3::F4::F5::F6::F7::F8::F9::G0::G1::G2::G3::G4::G5::G6::G7::G8::G9::H0::H1::H2::H3::H4::H5::H6::H7::H8::H9::I0::I1::I2::I3::I4::I5::I6::I7::I8::I9::J0::J1::J2::J3::J4::J5::J6::J7::J8::J9::L0::L1::L2::L3::L4::L5::L6::L7::L8::L9::M0::M1::M2::M3::M4::M5::M6::M7::M8::M9::N0::N1::N2::N3::N4::N5::N6::N7::[]) w := Eq.mp (by kernel_rfl) h

theorem leatref30_Steps_P5_r {K : KV} {B1 : KE} {w : World}
    (h : bin Tryz.prog BinOp.add 3 false true i11 (Value.int IntKind.i64 1) (fun J6 w =>
    B1 (n0::e1::under2::n3::e4::under5::A1::who7::out8::i9::j10::J6::s12::i13::A4::A5::A6::A7::A8::A9::C0::C1::C2::C3::C4::C5::C6::C7::C8::C9::D0::D1::D2::D3::D4::D5::D6::D7::D8::D9::E0::E1::E2::E3::E4::E5::E6::E7::E8::E9::F0::F1::F2::F3::F4::F5::F6::F7::F8::F9::G0::G1::G2::G3::G4::G5::G6::G7::G8::G9::H0::H1::H2::H3::H4::H5::H6::H7::H8::H9::I0::I1::I2::I3::I4::I5::I6::I7::I8::I9::J0::J1::J2::J3::J4::i11::J6::J7::J8::J9::L0::L1::L2::L3::L4::L5::L6::L7::L8::L9::M0::M1::M2::M3::M4::M5::M6::M7::M8::M9::N0::N1::N2::N3::N4::N5::N6::N7::[]) w) w) :
    leatref30_Steps_P5 K B1 (n0::e1::under2::n3::e4::under5::A1::who7::out8::i9::j10::i11::s12::i13::A4::A5::A6::A7::A8::A9::C0::C1::C2::C3::C4::C5::C6::C7::C8::C9::D0::D1::D2::D3::D4::D5::D6::D7::D8::D9::E0::E1::E2::E3::E4::E5::E6::E7::E8::E9::F0::F1::F2::F3::F4::F5::F6::F7::F8::F9::G0::G1::G2::G3::G4::G5::G6::G7::G8::G9::H0::H1::H2::H3::H4::H5::H6::H7::H8::H9::I0::I1::I2::I3::I4::I5::I6::I7::I8::I9::J0::J1::J2::J3::J4::J5::J6::J7::J8::J9::L0::L1::L2::L3::L4::L5::L6::L7::L8::L9::M0::M1::M2::M3::M4::M5::M6::M7::M8::M9::N0::N1::N2::N3::N4::N5::N6::N7::[]) w := by
  delta leatref30_Steps_P5
  exact Eq.mp (congrArg (fun c => cCode Tryz.prog c B1 (fun i => @Bool.rec (fun _ => KE) ((fun i => @Bool.rec (fun _ => KE) ((fun _ _ _ => False) i) (leatref30_Steps_P1 K) (Nat.beq i 0)) i) (leatref30_Steps_P1 K) (Nat.beq i 5)) (retK Tryz.prog Tryz.f21.results.toList K) (n0::e1::under2::n3::e4::under5::A1::who7::out8::i9::j10::i11::s12::i13::A4::A5::A6::A7::A8::A9::C0::C1::C2::C3::C4::C5::C6::C7::C8::C9::D0::D1::D2::D3::D4::D5::D6::D7::D8::D9::E0::E1::E2::E3::E4::E5::E6::E7::E8::E9::F0::F1::F2::F3::F4::F5::F6::F7::F8::F9::G0::G1::G2::G3::G4::G5::G6::G7::G8::G9::H0::H1::H2::H3::H4::H5::H6::H7::H8::H9::I0::I1::I2::I3::I4::I5::I6::I7::I8::I9::J0::J1::J2::J3::J4::J5::J6::J7::J8::J9::L0::L1::L2::L3::L4::L5::L6::L7::L8::L9::M0::M1::M2::M3::M4::M5::M6::M7::M8::M9::N0::N1::N2::N3::N4::N5::N6::N7::[]) w) (by kernel_rfl : (cd Tryz.f21 [1, 1, 1, 1, 0, 1, 0, 1, 1, 1, 1, 1, 1, 1, 1, 1, 1, 1, 0, 1, 0, 0, 1, 1]) = (cd Tryz.f21 [1, 1, 1, 1, 0, 1, 0, 1, 1, 1, 1, 1, 1, 1, 1, 1, 1, 1, 0, 1, 0, 0, 1, 1]))) (leatref30_Steps_P5_k B1 (leatref30_Steps_P1 K) h)
attribute [irreducible] leatref30_Steps_P1 leatref30_Steps_A1 leatref30_Steps_L1 leatref30_Steps_P2 leatref30_Steps_A2 leatref30_Steps_P3 leatref30_Steps_L2 leatref30_Steps_P4 leatref30_Steps_A3 leatref30_Steps_L3 leatref30_Steps_L4 leatref30_Steps_P5 leatref30_Steps_P6 leatref30_Steps_A4

end
end Go.Proofs.YtfjafbbalohmhaaGreatDoor
namespace Go.Proofs.YtfjafbbalohmhaaGreatDoor
set_option maxRecDepth 100000
open Go.RowKit
theorem fA_Evr_0 {w : World} {K : KV} {b o : Nat} (h : K (.pointer (some ⟨b, o + 0, none⟩)) w) : fldA Tryz.prog 55 (.pointer (some ⟨b, o, none⟩)) 0 K w := fldA_of (by kernel_rfl) h
theorem fA_Evr_1 {w : World} {K : KV} {b o : Nat} (h : K (.pointer (some ⟨b, o + 1, none⟩)) w) : fldA Tryz.prog 55 (.pointer (some ⟨b, o, none⟩)) 1 K w := fldA_of (by kernel_rfl) h
theorem fA_Evr_2 {w : World} {K : KV} {b o : Nat} (h : K (.pointer (some ⟨b, o + 2, none⟩)) w) : fldA Tryz.prog 55 (.pointer (some ⟨b, o, none⟩)) 2 K w := fldA_of (by kernel_rfl) h
attribute [local irreducible] bin un conv call callV blt slc fldA fld idxA idx lkp mUpd mEnt eSt rng nxt ent ext alc box bld bldS ld sto nilC mkMap mkS ifc pick rdy wts gsel sti cond retM Gives cCode cGrp cSeq cOp
section
variable {w : World} {K : KV}
theorem psh {K2 : Value → KV} {B n c : Nat} {a : Option Addr} {l : List SD} {s : SD} (ho : OS w B a n c l) (hB : B ≤ w.heap.size) (hn : n ≤ 90000)
    (h : ∀ t a' c' w', OS w' B a' (n + 1) c' (l ++ [s]) → Below B w w' → K2 t (.slice a' (n + 1) c') w') :
    bldS Tryz.prog 40 1 #[(0, .agg (scC s).toArray)] (fun t w => blt Tryz.prog .append #[40, 40] 40 #[false, false] #[.slice a n c, t] (K2 t) w) w :=
  lit1 fun w1 hb b1 _ => apS (ho.bel b1) hb (by have := b1.size; omega) (by omega) fun a' c' w2 ho' b2 => h _ a' c' w2 ho' ((b1.mono hB).trans b2)
theorem some_c {n : Int} (h : K (.bool (decide (1 ≤ n) && decide (n ≤ 6))) w) : call Tryz.prog 42 #[i6 n] K w := by
  refine call_of leatref30_some_go (leatref30_some_in ?_)
  unfold i6
  refine bin_geq ?_
  by_cases h1 : n ≥ 1
  · refine gsel_pt h1 ?_
    refine bin_leq ?_
    refine pick_t h1 ?_
    rw [show decide (1 ≤ n) = true from decide_eq_true h1, Bool.true_and] at h
    exact h
  · refine gsel_pf h1 ?_
    refine pick_f h1 ?_
    rw [show decide (1 ≤ n) = false from decide_eq_false h1, Bool.false_and] at h
    exact h
theorem stepsD_ok {n kind A N under : Int} (hn : 1 ≤ n ∧ n ≤ 6) : stepsD n kind A N under = if kind < 1 ∨ 9 < kind then [] else if kind = 1 then splD A n.toNat n.toNat
  else if kind = 2 then [⟨8, 0, 0, 0, 0⟩]
  else if kind = 3 then [⟨10, 1 + A.tmod n, 0, 0, 0⟩]
  else if kind = 4 then [⟨11, 1 + A.tmod n, 0, 0, 0⟩]
  else if kind = 5 then [⟨9, 1 + A.tmod n, 0, 0, N⟩]
  else if kind = 6 then loseD under.toNat
  else if kind = 7 then twiD under.toNat
  else if kind = 8 then [⟨3, 0, 0, 0, N⟩]
  else turD n.toNat := by
  unfold stepsD
  by_cases h : kind < 1 ∨ 9 < kind
  · rw [if_pos (by omega), if_pos h]
  · rw [if_neg (by omega), if_neg h]
set_option maxHeartbeats 2000000 in
theorem rst30_L3 {n0 e1 under2 n3 e4 under5 t6 who7 out8 i9 j10 i11 s12 i13 t14 t15 t16 t17 t18 t19 t20 t21 t22 t23 t24 t25 t26 t27 t28 t29 t30 t31 t32 t33 t34 t35 t36 t37 t38 t39 t40 t41 t42 t43 t44 t45 t46 t47 t48 t49 t50 t51 t52 t53 t54 t55 t56 t57 t58 t59 t60 t61 t62 t63 t64 t65 t66 t67 t68 t69 t70 t71 t72 t73 t74 t75 t76 t77 t78 t79 t80 t81 t82 t83 t84 t85 t86 t87 t88 t89 t90 t91 t92 t93 t94 t95 t96 t97 t98 t99 t100 t101 t102 t103 t104 t105 t106 t107 t108 t109 t110 t111 t112 t113 t114 t115 t116 t117 t118 t119 t120 t121 t122 t123 t124 t125 t126 t127 : Value} {w1 : World} {x : Nat} {kind A N under : Int} (hk : kind = 6 ∨ kind = 7) (hu : under ≤ 1000) (hb : blk w1 x 55 [.int .u8 kind, .int .u8 A, i6 N]) (hx : x < w1.heap.size)
    (q1 : e4 = .pointer (some ⟨x, 0, none⟩)) (q2 : out8 = .slice none 0 0) (q3 : i11 = .int .i64 0) (q5 : under2 = .int .i64 under)
    (h : ∀ {a : Option Addr} {c q : Nat} {w' : World}, OS w' w1.heap.size a q c (if kind = 7 then twiD under.toNat else loseD under.toNat) → Below w1.heap.size w1 w' → K (.slice a q c) w') :
    leatref30_Steps_L3 K ((n0 :: e1 :: under2 :: n3 :: e4 :: under5 :: t6 :: who7 :: out8 :: i9 :: j10 :: i11 :: s12 :: i13 :: t14 :: t15 :: t16 :: t17 :: t18 :: t19 :: t20 :: t21 :: t22 :: t23 :: t24 :: t25 :: t26 :: t27 :: t28 :: t29 :: t30 :: t31 :: t32 :: t33 :: t34 :: t35 :: t36 :: t37 :: t38 :: t39 :: t40 :: t41 :: t42 :: t43 :: t44 :: t45 :: t46 :: t47 :: t48 :: t49 :: t50 :: t51 :: t52 :: t53 :: t54 :: t55 :: t56 :: t57 :: t58 :: t59 :: t60 :: t61 :: t62 :: t63 :: t64 :: t65 :: t66 :: t67 :: t68 :: t69 :: t70 :: t71 :: t72 :: t73 :: t74 :: t75 :: t76 :: t77 :: t78 :: t79 :: t80 :: t81 :: t82 :: t83 :: t84 :: t85 :: t86 :: t87 :: t88 :: t89 :: t90 :: t91 :: t92 :: t93 :: t94 :: t95 :: t96 :: t97 :: t98 :: t99 :: t100 :: t101 :: t102 :: t103 :: t104 :: t105 :: t106 :: t107 :: t108 :: t109 :: t110 :: t111 :: t112 :: t113 :: t114 :: t115 :: t116 :: t117 :: t118 :: t119 :: t120 :: t121 :: t122 :: t123 :: t124 :: t125 :: t126 :: t127 :: [])) w1 := by
  subst q1 q2 q3 q5
  refine leatref30_Steps_L3_r (Inv := fun o i wr => ∃ (e : Nat) (a : Option Addr) (c : Nat), o = .slice a e c ∧ i = .int .i64 (e : Nat) ∧ e ≤ under.toNat ∧ OS wr w1.heap.size a e c (if kind = 7 then twiD e else loseD e) ∧ Below w1.heap.size w1 wr)
    (μ := fun _ i _ => under.toNat - (intOf i).toNat) ⟨0, none, 0, rfl, rfl, by omega, by split <;> exact OS.nil _, Below.refl _ _⟩ ?_
  rintro _ _ dd w2 m ⟨e, a, c, rfl, rfl, he, ho, b2⟩ hm
  refine bin_lss ?_
  by_cases hlt : (e : Int) < under
  · refine cond_t hlt ?_
    refine bld_of (vs := scC ⟨5, 0, 0, 0, 0⟩) (by kernel_rfl) ?_
    refine alc_of (z := .agg stp0.toArray) (by kernel_rfl) fun w3 h3 b3 s3 => ?_
    have h3 : blk w3 w2.heap.size 27 stp0 := h3
    refine stoA (n := 12) (vs := scC ⟨5, 0, 0, 0, 0⟩) (by kernel_rfl) rfl h3 (by simp [stp0]) (scC_one _) fun w4 h4 o4 => ?_
    have h4 : blk w4 w2.heap.size 27 (scC ⟨5, 0, 0, 0, 0⟩) := by
      rw [List.take_zero, List.nil_append, List.drop_of_length_le (by simp [stp0]), List.append_nil] at h4
      exact h4
    have hsz := b2.size
    have b24 : Below w2.heap.size w2 w4 := b3.trans o4.below
    have hb4 : blk w4 x 55 [.int .u8 kind, .int .u8 A, i6 N] := below_blk b24 (below_blk b2 hb hx) (by omega)
    have hsz4 : w4.heap.size = w2.heap.size + 1 := by rw [o4.size, s3]
    refine fA_Evr_0 ?_
    refine ld1 (v := .int .u8 kind) (fun _ => by kernel_rfl) hb4 rfl ?_
    refine bin_eql ?_
    refine leatref30_Steps_A4_r ?_
    have done : ∀ {t : Nat} {s : SD} {w5 : World} {K2 : Value → KV}, OS w5 w1.heap.size a e c (if kind = 7 then twiD e else loseD e) → blk w5 t 27 (scC s) → w1.heap.size ≤ w5.heap.size →
        (∀ u a' c' w6, OS w6 w1.heap.size a' (e + 1) c' ((if kind = 7 then twiD e else loseD e) ++ [s]) → Below w1.heap.size w5 w6 → K2 u (.slice a' (e + 1) c') w6) →
        bldS Tryz.prog 40 1 #[(0, .agg (scC s).toArray)] (fun t w => blt Tryz.prog .append #[40, 40] 40 #[false, false] #[.slice a e c, t] (K2 t) w) w5 :=
      fun ho5 _ hs hk => psh ho5 hs (by omega) hk
    by_cases k7 : kind = 7
    · refine cond_t k7 ?_
      refine bld_of (vs := scC ⟨6, 0, (e : Nat), 0, 0⟩) (by kernel_rfl) ?_
      refine stoA (n := 12) (vs := scC ⟨6, 0, (e : Nat), 0, 0⟩) (by kernel_rfl) rfl h4 (by simp [scC]) (scC_one _) fun w5 h5 o5 => ?_
      have h5 : blk w5 w2.heap.size 27 (scC ⟨6, 0, (e : Nat), 0, 0⟩) := by
        rw [List.take_zero, List.nil_append, List.drop_of_length_le (by simp [scC]), List.append_nil] at h5
        exact h5
      have b25 : Below w2.heap.size w2 w5 := b24.trans o5.below
      refine leatref30_Steps_P6_r ?_
      refine ldA (n := 12) (vs := scC ⟨6, 0, (e : Nat), 0, 0⟩) Tryz.underlying27 rfl (by kernel_rfl) h5 rfl rfl ?_
      refine done (ho.bel b25) h5 (by have := b25.size; omega) fun _ a' c' w6 ho6 b6 => ?_
      refine leatref30_Steps_P5_r ?_
      refine add64 (by omega) (by omega) ?_
      refine ⟨⟨e + 1, a', c', rfl, congrArg (Value.int .i64) (by push_cast; rfl), by omega, ?_, (b2.trans (b25.mono hsz)).trans b6⟩, by rw [hm]; show under.toNat - ((e : Int) + 1).toNat < under.toNat - (e : Int).toNat; omega⟩
      rw [if_pos k7] at ho6 ⊢
      have : twiD (e + 1) = twiD e ++ [⟨6, 0, (e : Nat), 0, 0⟩] := by simp [twiD, List.range_succ]
      rw [this]; exact ho6
    · refine cond_f k7 ?_
      refine leatref30_Steps_P6_r ?_
      refine ldA (n := 12) (vs := scC ⟨5, 0, 0, 0, 0⟩) Tryz.underlying27 rfl (by kernel_rfl) h4 rfl rfl ?_
      refine done (ho.bel b24) h4 (by omega) fun _ a' c' w6 ho6 b6 => ?_
      refine leatref30_Steps_P5_r ?_
      refine add64 (by omega) (by omega) ?_
      refine ⟨⟨e + 1, a', c', rfl, congrArg (Value.int .i64) (by push_cast; rfl), by omega, ?_, (b2.trans (b24.mono hsz)).trans b6⟩, by rw [hm]; show under.toNat - ((e : Int) + 1).toNat < under.toNat - (e : Int).toNat; omega⟩
      rw [if_neg k7] at ho6 ⊢
      have : loseD (e + 1) = loseD e ++ [⟨5, 0, 0, 0, 0⟩] := by simp [loseD, List.range_succ]
      rw [this]; exact ho6
  · refine cond_f hlt ?_
    refine leatref30_Steps_P1_r ?_
    have hel : e = under.toNat := by omega
    rw [hel] at ho
    have := h ho b2
    rw [← hel] at this
    exact this
set_option maxHeartbeats 4000000 in
theorem rsteps30_c {n kind A N under : Int} (hA : 0 ≤ A ∧ A ≤ 255) (hu : under ≤ 1000) (h : HB w K (stepsD n kind A N under)) : call Tryz.prog 21 #[i6 n, .agg #[.int .u8 kind, .int .u8 A, i6 N], i6 under] K w := by
  refine call_of leatref30_Steps_go (leatref30_Steps_in ?_)
  refine box_of fun w1 hb b1 s1 => ?_
  have hb : blk w1 w.heap.size 55 [.int .u8 kind, .int .u8 A, i6 N] := hb
  refine some_c ?_
  refine un_not ?_
  by_cases hn0 : ¬ (1 ≤ n ∧ n ≤ 6)
  · rw [show (decide (1 ≤ n) && decide (n ≤ 6)) = false by
      cases hh : (decide (1 ≤ n) && decide (n ≤ 6)) with
      | false => rfl
      | true => simp at hh; exact absurd hh hn0]
    refine cond_T ?_
    have hnil : stepsD n kind A N under = [] := if_pos (by omega)
    unfold HB at h
    rw [hnil] at h
    exact h w1 none 0 (OS.nil _) b1
  have hn : 1 ≤ n ∧ n ≤ 6 := by omega
  clear hn0
  rw [show (decide (1 ≤ n) && decide (n ≤ 6)) = true by simp [hn]]
  refine cond_F ?_
  rw [stepsD_ok hn] at h
  have ht := Int.tmod_nonneg n hA.1
  have ht2 := Int.tmod_lt_of_pos A (show 0 < n by omega)
  unfold i6
  (repeat (first | refine fA_Evr_1 ?_ | (refine ld_TL_0 ?_ (by assumption) ?_ ?_; rotate_left; exact rfl)))
  refine conv_int Tryz.underlying5 Tryz.underlying3 ?_
  rw [wrap_i64 (by omega) (by omega)]
  refine bin_rem (by omega) ?_
  refine add64 (by omega) (by omega) ?_
  refine fA_Evr_0 ?_
  refine ld1 (v := .int .u8 kind) (fun _ => by kernel_rfl) hb rfl ?_
  refine leatref30_Steps_A1_r ?_
  have on : OS w1 w1.heap.size none 0 0 [] := OS.nil _
  generalize hx : w.heap.size = x at *
  have hlt0 := hb.lt
  have fin : ∀ {a : Option Addr} {c q : Nat} {l : List SD} {w' : World}, (∀ w' a c, OS w' x a l.length c l → Below x w w' → K (.slice a l.length c) w') → OS w' w1.heap.size a q c l → Below w1.heap.size w1 w' → K (.slice a q c) w' := by
    intro a c q l w' h ho b2
    have hl := ho.len
    have := h w' a c (by rw [hl]; exact ownM ho (by omega)) (b1.trans (b2.mono (by omega)))
    rw [hl] at this
    exact this
  unfold HB at h
  rw [hx] at h
  refine bin_eql ?_
  by_cases k1 : kind = 1
  · refine cond_t k1 ?_
    rw [if_neg (by omega), if_pos k1] at h
    refine leatref30_Steps_L1_r (Inv := fun o i wr => ∃ (e q : Nat) (a : Option Addr) (c : Nat), o = .slice a q c ∧ i = .int .i64 ((e : Nat) + 1) ∧ e ≤ n.toNat ∧ q ≤ 10 * e ∧ OS wr w1.heap.size a q c (splD A n.toNat e) ∧ Below w1.heap.size w1 wr)
      (μ := fun _ i _ => n.toNat + 1 - (intOf i).toNat) ⟨0, 0, none, 0, rfl, rfl, by omega, by omega, OS.nil _, Below.refl _ _⟩ ?_
    rintro _ _ dd w2 m ⟨e, q, a, c, rfl, rfl, he, hq, ho, b2⟩ hm
    refine bin_leq ?_
    by_cases hlt : (e : Int) + 1 ≤ n
    · refine cond_t hlt ?_
      refine add64 (by omega) (by omega) ?_
      refine leatref30_Steps_L2_r (Inv := fun o j wr => ∃ (d q : Nat) (a : Option Addr) (c : Nat), o = .slice a q c ∧ j = .int .i64 ((e : Nat) + 1 + 1 + (d : Nat)) ∧ d ≤ n.toNat - (e + 1) ∧ q ≤ 10 * e + d ∧ OS wr w1.heap.size a q c (splD A n.toNat e ++ rowD A ((e : Nat) + 1) d) ∧ Below w1.heap.size w1 wr)
        (μ := fun _ j _ => n.toNat + 2 - (intOf j).toNat) ⟨0, q, a, c, rfl, by simp, by omega, by omega, by simpa [rowD] using ho, b2⟩ ?_
      rintro _ _ dd2 w3 m2 ⟨d, q2, a2, c2, rfl, rfl, hd, hq2, ho3, b3⟩ hm2
      have hb3 : blk w3 x 55 [.int .u8 kind, .int .u8 A, i6 N] := below_blk b3 hb hlt0
      refine bin_leq ?_
      by_cases hl2 : (e : Int) + 1 + 1 + d ≤ n
      · refine cond_t hl2 ?_
        refine leatref30_Steps_A3_r ?_
        refine fA_Evr_1 ?_
        refine ld1 (v := .int .u8 A) (fun _ => by kernel_rfl) hb3 rfl ?_
        refine sub64 (by omega) (by omega) ?_
        refine cvIUint (by omega) (by omega) ?_
        refine bin_shr (by omega) ?_
        refine bin_and ?_
        refine fA_Evr_1 ?_
        refine ld1 (v := .int .u8 A) (fun _ => by kernel_rfl) hb3 rfl ?_
        refine sub64 (by omega) (by omega) ?_
        refine cvIUint (by omega) (by omega) ?_
        refine bin_shr (by omega) ?_
        refine bin_and ?_
        refine bin_neq ?_
        by_cases hne : sdV A ((e : Int) + 1) ≠ sdV A ((e : Int) + 1 + 1 + d)
        · refine cond_t hne ?_
          refine bld_of (vs := scC ⟨7, (e : Int) + 1, 0, (e : Int) + 1 + 1 + d, 0⟩) (by kernel_rfl) ?_
          refine psh ho3 b3.size (by omega) fun _ a' c' w5 ho5 b5 => ?_
          refine leatref30_Steps_P4_r ?_
          refine add64 (by omega) (by omega) ?_
          refine ⟨⟨d + 1, q2 + 1, a', c', rfl, congrArg (Value.int .i64) (by push_cast; omega), by omega, by omega, ?_, b3.trans b5⟩, by rw [hm2]; show n.toNat + 2 - (((e : Int) + 1 + 1 + d + 1)).toNat < n.toNat + 2 - ((e : Int) + 1 + 1 + d).toNat; omega⟩
          rw [rowD_succ, ← List.append_assoc]
          have : celD A ((e : Nat) + 1) ((e : Nat) + 1 + 1 + (d : Nat)) = [⟨7, (e : Int) + 1, 0, (e : Int) + 1 + 1 + d, 0⟩] := by unfold celD; rw [if_neg hne]
          rw [this]
          exact ho5
        · refine cond_f hne ?_
          refine leatref30_Steps_P4_r ?_
          refine add64 (by omega) (by omega) ?_
          refine ⟨⟨d + 1, q2, a2, c2, rfl, congrArg (Value.int .i64) (by push_cast; omega), by omega, by omega, ?_, b3⟩, by rw [hm2]; show n.toNat + 2 - (((e : Int) + 1 + 1 + d + 1)).toNat < n.toNat + 2 - ((e : Int) + 1 + 1 + d).toNat; omega⟩
          rw [rowD_succ, ← List.append_assoc]
          have : celD A ((e : Nat) + 1) ((e : Nat) + 1 + 1 + (d : Nat)) = [] := by unfold celD; rw [if_pos (by simpa using hne)]
          rw [this, List.append_nil]
          exact ho3
      · refine cond_f hl2 ?_
        refine leatref30_Steps_P3_r ?_
        refine add64 (by omega) (by omega) ?_
        have hdd : d = n.toNat - (e + 1) := by omega
        refine ⟨⟨e + 1, q2, a2, c2, rfl, congrArg (Value.int .i64) (by push_cast; omega), by omega, by omega, ?_, b3⟩, by rw [hm]; show n.toNat + 1 - (((e : Int) + 1 + 1)).toNat < n.toNat + 1 - ((e : Int) + 1).toNat; omega⟩
        rw [splD_succ, ← hdd]
        exact ho3
    · refine cond_f hlt ?_
      refine leatref30_Steps_P1_r ?_
      have hel : e = n.toNat := by omega
      rw [hel] at ho
      exact fin h ho b2
  refine cond_f k1 ?_
  refine bin_eql ?_
  by_cases k2 : kind = 2
  · refine cond_t k2 ?_
    rw [if_neg (by omega), if_neg k1, if_pos k2] at h
    refine bld_of (vs := scC ⟨8, 0, 0, 0, 0⟩) (by kernel_rfl) ?_
    refine psh on (Nat.le_refl _) (by omega) fun _ a' c' w5 ho5 b5 => ?_
    refine leatref30_Steps_P1_r ?_
    exact fin h ho5 b5
  refine cond_f k2 ?_
  refine bin_eql ?_
  by_cases k3 : kind = 3
  · refine cond_t k3 ?_
    rw [if_neg (by omega), if_neg k1, if_neg k2, if_pos k3] at h
    refine bld_of (vs := scC ⟨10, 1 + A.tmod n, 0, 0, 0⟩) (by kernel_rfl) ?_
    refine psh on (Nat.le_refl _) (by omega) fun _ a' c' w5 ho5 b5 => ?_
    refine leatref30_Steps_P1_r ?_
    exact fin h ho5 b5
  refine cond_f k3 ?_
  refine bin_eql ?_
  by_cases k4 : kind = 4
  · refine cond_t k4 ?_
    rw [if_neg (by omega), if_neg k1, if_neg k2, if_neg k3, if_pos k4] at h
    refine bld_of (vs := scC ⟨11, 1 + A.tmod n, 0, 0, 0⟩) (by kernel_rfl) ?_
    refine psh on (Nat.le_refl _) (by omega) fun _ a' c' w5 ho5 b5 => ?_
    refine leatref30_Steps_P1_r ?_
    exact fin h ho5 b5
  refine cond_f k4 ?_
  refine bin_eql ?_
  by_cases k5 : kind = 5
  · refine cond_t k5 ?_
    rw [if_neg (by omega), if_neg k1, if_neg k2, if_neg k3, if_neg k4, if_pos k5] at h
    refine fA_Evr_2 ?_
    refine ld1 (v := i6 N) (fun _ => by kernel_rfl) hb rfl ?_
    refine bld_of (vs := scC ⟨9, 1 + A.tmod n, 0, 0, N⟩) (by kernel_rfl) ?_
    refine psh on (Nat.le_refl _) (by omega) fun _ a' c' w5 ho5 b5 => ?_
    refine leatref30_Steps_P1_r ?_
    exact fin h ho5 b5
  refine cond_f k5 ?_
  refine bin_eql ?_
  refine leatref30_Steps_A2_r ?_
  by_cases k6 : kind = 6
  · refine cond_t k6 ?_
    rw [if_neg (by omega), if_neg k1, if_neg k2, if_neg k3, if_neg k4, if_neg k5, if_pos k6] at h
    refine leatref30_Steps_P2_r ?_
    refine cond_t k6 ?_
    refine rst30_L3 (.inl k6) hu hb hlt0 rfl rfl rfl rfl fun ho b2 => ?_
    rw [if_neg (by omega)] at ho
    exact fin h ho b2
  refine cond_f k6 ?_
  refine bin_eql ?_
  refine leatref30_Steps_P2_r ?_
  by_cases k7 : kind = 7
  · refine cond_t k7 ?_
    rw [if_neg (by omega), if_neg k1, if_neg k2, if_neg k3, if_neg k4, if_neg k5, if_neg k6, if_pos k7] at h
    refine rst30_L3 (.inr k7) hu hb hlt0 rfl rfl rfl rfl fun ho b2 => ?_
    rw [if_pos k7] at ho
    exact fin h ho b2
  refine cond_f k7 ?_
  refine bin_eql ?_
  by_cases k8 : kind = 8
  · refine cond_t k8 ?_
    rw [if_neg (by omega), if_neg k1, if_neg k2, if_neg k3, if_neg k4, if_neg k5, if_neg k6, if_neg k7, if_pos k8] at h
    refine fA_Evr_2 ?_
    refine ld1 (v := i6 N) (fun _ => by kernel_rfl) hb rfl ?_
    refine bld_of (vs := scC ⟨3, 0, 0, 0, N⟩) (by kernel_rfl) ?_
    refine psh on (Nat.le_refl _) (by omega) fun _ a' c' w5 ho5 b5 => ?_
    refine leatref30_Steps_P1_r ?_
    exact fin h ho5 b5
  refine cond_f k8 ?_
  refine bin_eql ?_
  by_cases k9 : kind = 9
  · refine cond_t k9 ?_
    rw [if_neg (by omega), if_neg k1, if_neg k2, if_neg k3, if_neg k4, if_neg k5, if_neg k6, if_neg k7, if_neg k8] at h
    refine leatref30_Steps_L4_r (Inv := fun o i wr => ∃ (e : Nat) (a : Option Addr) (c : Nat), o = .slice a e c ∧ i = .int .i64 ((e : Nat) + 1) ∧ e ≤ n.toNat ∧ OS wr w1.heap.size a e c (turD e) ∧ Below w1.heap.size w1 wr)
      (μ := fun _ i _ => n.toNat + 1 - (intOf i).toNat) ⟨0, none, 0, rfl, rfl, by omega, OS.nil _, Below.refl _ _⟩ ?_
    rintro _ _ dd w2 m ⟨e, a, c, rfl, rfl, he, ho, b2⟩ hm
    refine bin_leq ?_
    by_cases hlt : (e : Int) + 1 ≤ n
    · refine cond_t hlt ?_
      refine bld_of (vs := scC ⟨2, (e : Nat) + 1, 0, 0, 0⟩) (by kernel_rfl) ?_
      refine psh ho b2.size (by omega) fun _ a' c' w5 ho5 b5 => ?_
      refine add64 (by omega) (by omega) ?_
      refine ⟨⟨e + 1, a', c', rfl, by simp, by omega, ?_, b2.trans b5⟩, by rw [hm]; show n.toNat + 1 - (((e : Int) + 1 + 1)).toNat < n.toNat + 1 - ((e : Int) + 1).toNat; omega⟩
      have : turD (e + 1) = turD e ++ [⟨2, (e : Nat) + 1, 0, 0, 0⟩] := by simp [turD, List.range_succ]
      rw [this]; exact ho5
    · refine cond_f hlt ?_
      refine leatref30_Steps_P1_r ?_
      have hel : e = n.toNat := by omega
      rw [hel] at ho
      rw [hel]
      exact fin h ho b2
  refine cond_f k9 ?_
  rw [if_pos (by omega)] at h
  refine leatref30_Steps_P1_r ?_
  exact fin h on (Below.refl _ _)
end
end Go.Proofs.YtfjafbbalohmhaaGreatDoor
namespace Go.Proofs.YtfjafbbalohmhaaGreatDoor
set_option maxRecDepth 100000

end Go.Proofs.YtfjafbbalohmhaaGreatDoor
namespace Go.Proofs.YtfjafbbalohmhaaGreatDoor
set_option maxRecDepth 100000

structure RdsLt (r : Rds) : Prop where
  d : r.d < 256 ^ 1
  kind : r.kind < 256 ^ 1
  cnt : r.cnt < 256 ^ 1
  node : r.node < 256 ^ 8
  am : r.am < 256 ^ 8
  req : r.req < 256 ^ 8
  of_ : r.of_ < 256 ^ 8

end Go.Proofs.YtfjafbbalohmhaaGreatDoor
namespace Go.Proofs.YtfjafbbalohmhaaGreatDoor
open Go.RowKit
set_option maxRecDepth 100000



section
variable {b0 at1 k_2 b3 at4 k_5 A1 A2 A3 n9 i10 A5 A6 A7 A8 A9 C0 C1 C2 C3 C4 C5 C6 C7 C8 C9 D0 D1 D2 D3 D4 D5 D6 D7 D8 D9 E0 E1 E2 E3 E4 E5 E6 E7 E8 E9 F0 F1 F2 : Value}

end
end Go.Proofs.YtfjafbbalohmhaaGreatDoor
namespace Go.Proofs.YtfjafbbalohmhaaGreatDoor
set_option maxRecDepth 100000
open Go.RowKit
attribute [local irreducible] bin un conv call callV blt slc fldA fld idxA idx lkp mUpd mEnt eSt rng nxt ent ext alc box bld bldS ld sto nilC mkMap mkS ifc pick rdy wts gsel sti cond retM Gives cCode cGrp cSeq cOp

end Go.Proofs.YtfjafbbalohmhaaGreatDoor
namespace Go.Proofs.YtfjafbbalohmhaaGreatDoor
open Go.RowKit
set_option maxRecDepth 100000

section
variable {s0 s1 A0 l3 i4 i5 A4 A5 A6 A7 A8 A9 C0 C1 C2 C3 C4 C5 C6 C7 C8 C9 D0 D1 D2 D3 D4 D5 D6 D7 D8 D9 E0 E1 E2 E3 E4 E5 E6 E7 E8 E9 F0 F1 F2 F3 F4 F5 F6 F7 F8 F9 G0 G1 G2 G3 G4 G5 G6 G7 G8 G9 H0 H1 H2 H3 H4 H5 H6 H7 H8 H9 I0 I1 I2 I3 I4 I5 I6 I7 I8 I9 J0 J1 J2 J3 J4 J5 J6 J7 J8 J9 L0 L1 L2 L3 L4 : Value}


end
section
variable {s0 s1 A0 b3 i4 A3 A4 A5 A6 A7 A8 A9 C0 C1 C2 C3 C4 C5 C6 C7 C8 C9 D0 D1 D2 D3 D4 D5 D6 D7 D8 D9 E0 E1 E2 E3 E4 E5 E6 E7 E8 E9 F0 F1 F2 F3 F4 F5 F6 F7 F8 F9 G0 G1 G2 G3 G4 G5 G6 G7 G8 G9 H0 H1 H2 H3 H4 H5 H6 H7 H8 H9 I0 I1 I2 I3 I4 I5 I6 I7 I8 I9 J0 J1 J2 J3 J4 J5 J6 J7 J8 J9 L0 L1 : Value}


end
section
variable {b0 b1 A0 A1 r4 s5 n6 i7 A6 A7 A8 A9 C0 C1 C2 C3 C4 C5 C6 C7 C8 C9 D0 D1 D2 D3 D4 D5 D6 D7 D8 D9 E0 E1 E2 E3 E4 E5 E6 E7 E8 E9 F0 F1 F2 F3 F4 F5 F6 F7 F8 F9 G0 G1 G2 G3 G4 G5 G6 G7 G8 G9 H0 H1 H2 H3 H4 H5 H6 H7 H8 H9 I0 I1 I2 I3 I4 I5 I6 I7 I8 I9 J0 J1 J2 J3 J4 J5 J6 J7 J8 J9 L0 L1 L2 L3 L4 L5 L6 L7 L8 L9 M0 M1 M2 M3 M4 : Value}

def leatref29_Same_P1 (K : KV) : KE := cCode Tryz.prog (cd Tryz.f14 [1, 1, 1]) (retK Tryz.prog Tryz.f14.results.toList K) (fun _ _ _ => False) (retK Tryz.prog Tryz.f14.results.toList K)
def leatref29_Same_L1 (K : KV) : KE := cCode Tryz.prog (cd Tryz.f14 [1, 1, 0, 1, 0]) (leatref29_Same_P1 K) (fun i => @Bool.rec (fun _ => KE) ((fun _ _ _ => False) i) (leatref29_Same_P1 K) (Nat.beq i 0)) (retK Tryz.prog Tryz.f14.results.toList K)
end
theorem leatref29_Same_k {K : KV} {a0 b1 : Value} {w : World}
    (h : box Tryz.prog 27 a0 (fun a2 w =>
    box Tryz.prog 27 b1 (fun b3 w =>
    fldA Tryz.prog 27 a2 6 (fun A4 w =>
    ld Tryz.prog 25 A4 (fun A5 w =>
    blt Tryz.prog Builtin.len #[25] 3 #[false] #[A5] (fun A6 w =>
    fldA Tryz.prog 27 b3 6 (fun A7 w =>
    ld Tryz.prog 25 A7 (fun A8 w =>
    blt Tryz.prog Builtin.len #[25] 3 #[false] #[A8] (fun A9 w =>
    bin Tryz.prog BinOp.neq 3 false false A6 A9 (fun C0 w =>
    cond C0
      (K (Value.bool false) w)
      ((cCode Tryz.prog (cd Tryz.f14 [1, 1, 0, 1, 0]) (cCode Tryz.prog (cd Tryz.f14 [1, 1, 1]) (retK Tryz.prog Tryz.f14.results.toList K) (fun _ _ _ => False) (retK Tryz.prog Tryz.f14.results.toList K)) (fun i => @Bool.rec (fun _ => KE) ((fun _ _ _ => False) i) (cCode Tryz.prog (cd Tryz.f14 [1, 1, 1]) (retK Tryz.prog Tryz.f14.results.toList K) (fun _ _ _ => False) (retK Tryz.prog Tryz.f14.results.toList K)) (Nat.beq i 0)) (retK Tryz.prog Tryz.f14.results.toList K)) (a0::b1::a2::b3::(Value.bool false)::(Value.int IntKind.i64 0)::A4::A5::A6::A7::A8::A9::C0::undef::undef::undef::undef::undef::undef::undef::undef::undef::undef::undef::undef::undef::undef::undef::undef::undef::undef::undef::undef::undef::undef::undef::undef::undef::undef::undef::undef::undef::undef::undef::undef::undef::undef::undef::undef::undef::undef::undef::undef::undef::undef::undef::undef::undef::undef::undef::undef::undef::undef::undef::undef::undef::undef::undef::undef::undef::undef::[]) w)) w) w) w) w) w) w) w) w) w) :
    cCode Tryz.prog (cd Tryz.f14 []) (retK Tryz.prog Tryz.f14.results.toList K) (fun _ _ _ => False) (retK Tryz.prog Tryz.f14.results.toList K) (a0::b1::undef::undef::undef::undef::undef::undef::undef::undef::undef::undef::undef::undef::undef::undef::undef::undef::undef::undef::undef::undef::undef::undef::undef::undef::undef::undef::undef::undef::undef::undef::undef::undef::undef::undef::undef::undef::undef::undef::undef::undef::undef::undef::undef::undef::undef::undef::undef::undef::undef::undef::undef::undef::undef::undef::undef::undef::undef::undef::undef::undef::undef::undef::undef::undef::undef::undef::undef::undef::undef::[]) w := Eq.mp (by kernel_rfl) h

theorem leatref29_Same_in {K : KV} {a0 b1 : Value} {w : World}
    (h : box Tryz.prog 27 a0 (fun a2 w =>
    box Tryz.prog 27 b1 (fun b3 w =>
    fldA Tryz.prog 27 a2 6 (fun A4 w =>
    ld Tryz.prog 25 A4 (fun A5 w =>
    blt Tryz.prog Builtin.len #[25] 3 #[false] #[A5] (fun A6 w =>
    fldA Tryz.prog 27 b3 6 (fun A7 w =>
    ld Tryz.prog 25 A7 (fun A8 w =>
    blt Tryz.prog Builtin.len #[25] 3 #[false] #[A8] (fun A9 w =>
    bin Tryz.prog BinOp.neq 3 false false A6 A9 (fun C0 w =>
    cond C0
      (K (Value.bool false) w)
      ((leatref29_Same_L1 K) (a0::b1::a2::b3::(Value.bool false)::(Value.int IntKind.i64 0)::A4::A5::A6::A7::A8::A9::C0::undef::undef::undef::undef::undef::undef::undef::undef::undef::undef::undef::undef::undef::undef::undef::undef::undef::undef::undef::undef::undef::undef::undef::undef::undef::undef::undef::undef::undef::undef::undef::undef::undef::undef::undef::undef::undef::undef::undef::undef::undef::undef::undef::undef::undef::undef::undef::undef::undef::undef::undef::undef::undef::undef::undef::undef::undef::undef::[]) w)) w) w) w) w) w) w) w) w) w) :
    Gives Tryz.prog 14 #[a0, b1] w K := enter' Tryz.func14 (by kernel_rfl) (Eq.mp (congrArg (fun c => cCode Tryz.prog c (retK Tryz.prog Tryz.f14.results.toList K) (fun _ _ _ => False) (retK Tryz.prog Tryz.f14.results.toList K) (a0::b1::undef::undef::undef::undef::undef::undef::undef::undef::undef::undef::undef::undef::undef::undef::undef::undef::undef::undef::undef::undef::undef::undef::undef::undef::undef::undef::undef::undef::undef::undef::undef::undef::undef::undef::undef::undef::undef::undef::undef::undef::undef::undef::undef::undef::undef::undef::undef::undef::undef::undef::undef::undef::undef::undef::undef::undef::undef::undef::undef::undef::undef::undef::undef::undef::undef::undef::undef::undef::undef::[]) w) (by kernel_rfl : (cd Tryz.f14 []) = (cd Tryz.f14 []))) (leatref29_Same_k h))
theorem leatref29_Same_go : isGo Tryz.prog 14 := ⟨_, Tryz.func14, by kernel_rfl, by kernel_rfl⟩

theorem leatref29_Same_L1_k {K : KV} (B1 : KE) (qc0 : KE) {a0 b1 a2 b3 i5' A4 A5 A6 A7 A8 A9 C0 D9 E0 E1 E2 E3 E4 E5 E6 E7 E8 E9 F0 F1 F2 F3 F4 F5 F6 F7 F8 F9 G0 G1 G2 G3 G4 G5 G6 G7 G8 G9 H0 H1 H2 H3 H4 H5 H6 H7 H8 : Value} {dd : Nat → Value} {w : World}
    (h : fldA Tryz.prog 27 a2 6 (fun C2 w =>
    ld Tryz.prog 25 C2 (fun C3 w =>
    blt Tryz.prog Builtin.len #[25] 3 #[false] #[C3] (fun C4 w =>
    bin Tryz.prog BinOp.lss 3 false false i5' C4 (fun C5 w =>
    cond C5
      ((fun w =>
    sti (fun k w => fldA Tryz.prog 27 a2 6 k w) (fun C8 w =>
    sti (fun k w => ld Tryz.prog 25 C8 k w) (fun C9 w =>
    sti (fun k w => idxA Tryz.prog 25 C9 i5' k w) (fun D1 w =>
    sti (fun k w => ld Tryz.prog 3 D1 k w) (fun D2 w =>
    sti (fun k w => fldA Tryz.prog 27 b3 6 k w) (fun D3 w =>
    sti (fun k w => ld Tryz.prog 25 D3 k w) (fun D4 w =>
    sti (fun k w => idxA Tryz.prog 25 D4 i5' k w) (fun D6 w =>
    sti (fun k w => ld Tryz.prog 3 D6 k w) (fun D7 w =>
    sti (fun k w => bin Tryz.prog BinOp.neq 3 false false D2 D7 k w) (fun D8 w =>
    cond D8
      (K (Value.bool false) w)
      (bin Tryz.prog BinOp.add 3 false true i5' (Value.int IntKind.i64 1) (fun C7 w =>
    B1 (a0::b1::a2::b3::(dd 4)::C7::A4::A5::A6::A7::A8::A9::C0::i5'::C2::C3::C4::C5::i5'::C7::C8::C9::i5'::D1::D2::D3::D4::i5'::D6::D7::D8::D9::E0::E1::E2::E3::E4::E5::E6::E7::E8::E9::F0::F1::F2::F3::F4::F5::F6::F7::F8::F9::G0::G1::G2::G3::G4::G5::G6::G7::G8::G9::H0::H1::H2::H3::H4::H5::H6::H7::H8::[]) w) w)) w) w) w) w) w) w) w) w) w) w.drew)
      (qc0 (a0::b1::a2::b3::(dd 4)::i5'::A4::A5::A6::A7::A8::A9::C0::i5'::C2::C3::C4::C5::(dd 18)::(dd 19)::(dd 20)::(dd 21)::(dd 22)::(dd 23)::(dd 24)::(dd 25)::(dd 26)::(dd 27)::(dd 28)::(dd 29)::(dd 30)::D9::E0::E1::E2::E3::E4::E5::E6::E7::E8::E9::F0::F1::F2::F3::F4::F5::F6::F7::F8::F9::G0::G1::G2::G3::G4::G5::G6::G7::G8::G9::H0::H1::H2::H3::H4::H5::H6::H7::H8::[]) w)) w) w) w) w) :
    cCode Tryz.prog (cd Tryz.f14 [1, 1, 0, 1, 0, 0]) B1 (fun i => @Bool.rec (fun _ => KE) ((fun _ _ _ => False) i) qc0 (Nat.beq i 0)) (retK Tryz.prog Tryz.f14.results.toList K) (a0::b1::a2::b3::(dd 4)::i5'::A4::A5::A6::A7::A8::A9::C0::(dd 13)::(dd 14)::(dd 15)::(dd 16)::(dd 17)::(dd 18)::(dd 19)::(dd 20)::(dd 21)::(dd 22)::(dd 23)::(dd 24)::(dd 25)::(dd 26)::(dd 27)::(dd 28)::(dd 29)::(dd 30)::D9::E0::E1::E2::E3::E4::E5::E6::E7::E8::E9::F0::F1::F2::F3::F4::F5::F6::F7::F8::F9::G0::G1::G2::G3::G4::G5::G6::G7::G8::G9::H0::H1::H2::H3::H4::H5::H6::H7::H8::[]) w := Eq.mp (by kernel_rfl) h

section
variable {a0 b1 a2 b3 A2 i5 A4 A5 A6 A7 A8 A9 C0 C1 C2 C3 C4 C5 C6 C7 C8 C9 D0 D1 D2 D3 D4 D5 D6 D7 D8 D9 E0 E1 E2 E3 E4 E5 E6 E7 E8 E9 F0 F1 F2 F3 F4 F5 F6 F7 F8 F9 G0 G1 G2 G3 G4 G5 G6 G7 G8 G9 H0 H1 H2 H3 H4 H5 H6 H7 H8 : Value}
theorem leatref29_Same_L1_r {K : KV} {w : World} (Inv : Value → World → Prop) (μ : Value → World → Nat) (h0 : Inv i5 w)
    (hs : ∀ (i5' : Value) (dd : Nat → Value) (w : World) (m : Nat), Inv i5' w → m = μ i5' w →
    fldA Tryz.prog 27 a2 6 (fun C2 w =>
    ld Tryz.prog 25 C2 (fun C3 w =>
    blt Tryz.prog Builtin.len #[25] 3 #[false] #[C3] (fun C4 w =>
    bin Tryz.prog BinOp.lss 3 false false i5' C4 (fun C5 w =>
    cond C5
      ((fun w =>
    sti (fun k w => fldA Tryz.prog 27 a2 6 k w) (fun C8 w =>
    sti (fun k w => ld Tryz.prog 25 C8 k w) (fun C9 w =>
    sti (fun k w => idxA Tryz.prog 25 C9 i5' k w) (fun D1 w =>
    sti (fun k w => ld Tryz.prog 3 D1 k w) (fun D2 w =>
    sti (fun k w => fldA Tryz.prog 27 b3 6 k w) (fun D3 w =>
    sti (fun k w => ld Tryz.prog 25 D3 k w) (fun D4 w =>
    sti (fun k w => idxA Tryz.prog 25 D4 i5' k w) (fun D6 w =>
    sti (fun k w => ld Tryz.prog 3 D6 k w) (fun D7 w =>
    sti (fun k w => bin Tryz.prog BinOp.neq 3 false false D2 D7 k w) (fun D8 w =>
    cond D8
      (K (Value.bool false) w)
      (bin Tryz.prog BinOp.add 3 false true i5' (Value.int IntKind.i64 1) (fun C7 w =>
    (Inv C7 w ∧ μ C7 w < m)) w)) w) w) w) w) w) w) w) w) w) w.drew)
      ((leatref29_Same_P1 K) (a0::b1::a2::b3::(dd 4)::i5'::A4::A5::A6::A7::A8::A9::C0::i5'::C2::C3::C4::C5::(dd 18)::(dd 19)::(dd 20)::(dd 21)::(dd 22)::(dd 23)::(dd 24)::(dd 25)::(dd 26)::(dd 27)::(dd 28)::(dd 29)::(dd 30)::D9::E0::E1::E2::E3::E4::E5::E6::E7::E8::E9::F0::F1::F2::F3::F4::F5::F6::F7::F8::F9::G0::G1::G2::G3::G4::G5::G6::G7::G8::G9::H0::H1::H2::H3::H4::H5::H6::H7::H8::[]) w)) w) w) w) w) :
    leatref29_Same_L1 K (a0::b1::a2::b3::A2::i5::A4::A5::A6::A7::A8::A9::C0::C1::C2::C3::C4::C5::C6::C7::C8::C9::D0::D1::D2::D3::D4::D5::D6::D7::D8::D9::E0::E1::E2::E3::E4::E5::E6::E7::E8::E9::F0::F1::F2::F3::F4::F5::F6::F7::F8::F9::G0::G1::G2::G3::G4::G5::G6::G7::G8::G9::H0::H1::H2::H3::H4::H5::H6::H7::H8::[]) w := by
  refine loop_rule (cd Tryz.f14 [1, 1, 0, 1, 0, 0]) [4, 5, 13, 14, 15, 16, 17, 18, 19, 20, 21, 22, 23, 24, 25, 26, 27, 28, 29, 30] (by kernel_rfl) (fun e2 w2 => Inv (gd e2 5) w2) (fun e2 w2 => μ (gd e2 5) w2) h0 ?_
  intro e' w' hI
  have h := hs (gd e' 5) (fun i => gd e' i) w' _ hI rfl
  have h2 : cCode Tryz.prog (cd Tryz.f14 [1, 1, 0, 1, 0, 0]) (fun e2 w2 => Inv (gd e2 5) w2 ∧ μ (gd e2 5) w2 < μ (gd e' 5) w') (fun i => @Bool.rec (fun _ => KE) ((fun _ _ _ => False) i) (leatref29_Same_P1 K) (Nat.beq i 0)) (retK Tryz.prog Tryz.f14.results.toList K) (a0::b1::a2::b3::(gd e' 4)::(gd e' 5)::A4::A5::A6::A7::A8::A9::C0::(gd e' 13)::(gd e' 14)::(gd e' 15)::(gd e' 16)::(gd e' 17)::(gd e' 18)::(gd e' 19)::(gd e' 20)::(gd e' 21)::(gd e' 22)::(gd e' 23)::(gd e' 24)::(gd e' 25)::(gd e' 26)::(gd e' 27)::(gd e' 28)::(gd e' 29)::(gd e' 30)::D9::E0::E1::E2::E3::E4::E5::E6::E7::E8::E9::F0::F1::F2::F3::F4::F5::F6::F7::F8::F9::G0::G1::G2::G3::G4::G5::G6::G7::G8::G9::H0::H1::H2::H3::H4::H5::H6::H7::H8::[]) w' := leatref29_Same_L1_k (fun e2 w2 => Inv (gd e2 5) w2 ∧ μ (gd e2 5) w2 < μ (gd e' 5) w') (leatref29_Same_P1 K) (Eq.mp (by kernel_rfl) h)
  exact Eq.mp (by kernel_rfl) h2

theorem leatref29_Same_P1_k {K : KV} {w : World}
    (h : fldA Tryz.prog 27 a2 0 (fun D9 w =>
    ld Tryz.prog 5 D9 (fun E0 w =>
    fldA Tryz.prog 27 b3 0 (fun E1 w =>
    ld Tryz.prog 5 E1 (fun E2 w =>
    bin Tryz.prog BinOp.eql 5 false false E0 E2 (fun E3 w =>
    gsel E3 true (fun k37 =>
    fldA Tryz.prog 27 a2 1 (fun E5 w =>
    ld Tryz.prog 3 E5 (fun E6 w =>
    fldA Tryz.prog 27 b3 1 (fun E7 w =>
    ld Tryz.prog 3 E7 (fun E8 w =>
    bin Tryz.prog BinOp.eql 3 false false E6 E8 (fun E9 w =>
    k37 [E5, E6, E7, E8, E9] w) w) w) w) w) w)
    (fun k => k [undef, undef, undef, undef, undef] w) (fun us37 w =>
    pick E3 (gd us37 4) (Value.bool false) (fun F0 w =>
    gsel F0 true (fun k44 =>
    fldA Tryz.prog 27 a2 2 (fun F2 w =>
    ld Tryz.prog 24 F2 (fun F3 w =>
    fldA Tryz.prog 27 b3 2 (fun F4 w =>
    ld Tryz.prog 24 F4 (fun F5 w =>
    bin Tryz.prog BinOp.eql 24 false false F3 F5 (fun F6 w =>
    k44 [F2, F3, F4, F5, F6] w) w) w) w) w) w)
    (fun k => k [undef, undef, undef, undef, undef] w) (fun us44 w =>
    pick F0 (gd us44 4) (Value.bool false) (fun F7 w =>
    gsel F7 true (fun k51 =>
    fldA Tryz.prog 27 a2 3 (fun F9 w =>
    ld Tryz.prog 3 F9 (fun G0 w =>
    fldA Tryz.prog 27 b3 3 (fun G1 w =>
    ld Tryz.prog 3 G1 (fun G2 w =>
    bin Tryz.prog BinOp.eql 3 false false G0 G2 (fun G3 w =>
    k51 [F9, G0, G1, G2, G3] w) w) w) w) w) w)
    (fun k => k [undef, undef, undef, undef, undef] w) (fun us51 w =>
    pick F7 (gd us51 4) (Value.bool false) (fun G4 w =>
    gsel G4 true (fun k58 =>
    fldA Tryz.prog 27 a2 4 (fun G6 w =>
    ld Tryz.prog 3 G6 (fun G7 w =>
    fldA Tryz.prog 27 b3 4 (fun G8 w =>
    ld Tryz.prog 3 G8 (fun G9 w =>
    bin Tryz.prog BinOp.eql 3 false false G7 G9 (fun H0 w =>
    k58 [G6, G7, G8, G9, H0] w) w) w) w) w) w)
    (fun k => k [undef, undef, undef, undef, undef] w) (fun us58 w =>
    pick G4 (gd us58 4) (Value.bool false) (fun H1 w =>
    gsel H1 true (fun k65 =>
    fldA Tryz.prog 27 a2 5 (fun H3 w =>
    ld Tryz.prog 3 H3 (fun H4 w =>
    fldA Tryz.prog 27 b3 5 (fun H5 w =>
    ld Tryz.prog 3 H5 (fun H6 w =>
    bin Tryz.prog BinOp.eql 3 false false H4 H6 (fun H7 w =>
    k65 [H3, H4, H5, H6, H7] w) w) w) w) w) w)
    (fun k => k [undef, undef, undef, undef, undef] w) (fun us65 w =>
    pick H1 (gd us65 4) (Value.bool false) (fun H8 w =>
    K H8 w) w)) w)) w)) w)) w)) w) w) w) w) w) :
    cCode Tryz.prog (cd Tryz.f14 [1, 1, 1]) (retK Tryz.prog Tryz.f14.results.toList K) (fun _ _ _ => False) (retK Tryz.prog Tryz.f14.results.toList K) (a0::b1::a2::b3::A2::i5::A4::A5::A6::A7::A8::A9::C0::C1::C2::C3::C4::C5::C6::C7::C8::C9::D0::D1::D2::D3::D4::D5::D6::D7::D8::D9::E0::E1::E2::E3::E4::E5::E6::E7::E8::E9::F0::F1::F2::F3::F4::F5::F6::F7::F8::F9::G0::G1::G2::G3::G4::G5::G6::G7::G8::G9::H0::H1::H2::H3::H4::H5::H6::H7::H8::[]) w := Eq.mp (by kernel_rfl) h

theorem leatref29_Same_P1_r {K : KV} {w : World}
    (h : fldA Tryz.prog 27 a2 0 (fun D9 w =>
    ld Tryz.prog 5 D9 (fun E0 w =>
    fldA Tryz.prog 27 b3 0 (fun E1 w =>
    ld Tryz.prog 5 E1 (fun E2 w =>
    bin Tryz.prog BinOp.eql 5 false false E0 E2 (fun E3 w =>
    gsel E3 true (fun k37 =>
    fldA Tryz.prog 27 a2 1 (fun E5 w =>
    ld Tryz.prog 3 E5 (fun E6 w =>
    fldA Tryz.prog 27 b3 1 (fun E7 w =>
    ld Tryz.prog 3 E7 (fun E8 w =>
    bin Tryz.prog BinOp.eql 3 false false E6 E8 (fun E9 w =>
    k37 [E5, E6, E7, E8, E9] w) w) w) w) w) w)
    (fun k => k [undef, undef, undef, undef, undef] w) (fun us37 w =>
    pick E3 (gd us37 4) (Value.bool false) (fun F0 w =>
    gsel F0 true (fun k44 =>
    fldA Tryz.prog 27 a2 2 (fun F2 w =>
    ld Tryz.prog 24 F2 (fun F3 w =>
    fldA Tryz.prog 27 b3 2 (fun F4 w =>
    ld Tryz.prog 24 F4 (fun F5 w =>
    bin Tryz.prog BinOp.eql 24 false false F3 F5 (fun F6 w =>
    k44 [F2, F3, F4, F5, F6] w) w) w) w) w) w)
    (fun k => k [undef, undef, undef, undef, undef] w) (fun us44 w =>
    pick F0 (gd us44 4) (Value.bool false) (fun F7 w =>
    gsel F7 true (fun k51 =>
    fldA Tryz.prog 27 a2 3 (fun F9 w =>
    ld Tryz.prog 3 F9 (fun G0 w =>
    fldA Tryz.prog 27 b3 3 (fun G1 w =>
    ld Tryz.prog 3 G1 (fun G2 w =>
    bin Tryz.prog BinOp.eql 3 false false G0 G2 (fun G3 w =>
    k51 [F9, G0, G1, G2, G3] w) w) w) w) w) w)
    (fun k => k [undef, undef, undef, undef, undef] w) (fun us51 w =>
    pick F7 (gd us51 4) (Value.bool false) (fun G4 w =>
    gsel G4 true (fun k58 =>
    fldA Tryz.prog 27 a2 4 (fun G6 w =>
    ld Tryz.prog 3 G6 (fun G7 w =>
    fldA Tryz.prog 27 b3 4 (fun G8 w =>
    ld Tryz.prog 3 G8 (fun G9 w =>
    bin Tryz.prog BinOp.eql 3 false false G7 G9 (fun H0 w =>
    k58 [G6, G7, G8, G9, H0] w) w) w) w) w) w)
    (fun k => k [undef, undef, undef, undef, undef] w) (fun us58 w =>
    pick G4 (gd us58 4) (Value.bool false) (fun H1 w =>
    gsel H1 true (fun k65 =>
    fldA Tryz.prog 27 a2 5 (fun H3 w =>
    ld Tryz.prog 3 H3 (fun H4 w =>
    fldA Tryz.prog 27 b3 5 (fun H5 w =>
    ld Tryz.prog 3 H5 (fun H6 w =>
    bin Tryz.prog BinOp.eql 3 false false H4 H6 (fun H7 w =>
    k65 [H3, H4, H5, H6, H7] w) w) w) w) w) w)
    (fun k => k [undef, undef, undef, undef, undef] w) (fun us65 w =>
    pick H1 (gd us65 4) (Value.bool false) (fun H8 w =>
    K H8 w) w)) w)) w)) w)) w)) w) w) w) w) w) :
    leatref29_Same_P1 K (a0::b1::a2::b3::A2::i5::A4::A5::A6::A7::A8::A9::C0::C1::C2::C3::C4::C5::C6::C7::C8::C9::D0::D1::D2::D3::D4::D5::D6::D7::D8::D9::E0::E1::E2::E3::E4::E5::E6::E7::E8::E9::F0::F1::F2::F3::F4::F5::F6::F7::F8::F9::G0::G1::G2::G3::G4::G5::G6::G7::G8::G9::H0::H1::H2::H3::H4::H5::H6::H7::H8::[]) w := by
  delta leatref29_Same_P1
  exact Eq.mp (congrArg (fun c => cCode Tryz.prog c (retK Tryz.prog Tryz.f14.results.toList K) (fun _ _ _ => False) (retK Tryz.prog Tryz.f14.results.toList K) (a0::b1::a2::b3::A2::i5::A4::A5::A6::A7::A8::A9::C0::C1::C2::C3::C4::C5::C6::C7::C8::C9::D0::D1::D2::D3::D4::D5::D6::D7::D8::D9::E0::E1::E2::E3::E4::E5::E6::E7::E8::E9::F0::F1::F2::F3::F4::F5::F6::F7::F8::F9::G0::G1::G2::G3::G4::G5::G6::G7::G8::G9::H0::H1::H2::H3::H4::H5::H6::H7::H8::[]) w) (by kernel_rfl : (cd Tryz.f14 [1, 1, 1]) = (cd Tryz.f14 [1, 1, 1]))) (leatref29_Same_P1_k h)
attribute [irreducible] leatref29_Same_P1 leatref29_Same_L1

end
end Go.Proofs.YtfjafbbalohmhaaGreatDoor
namespace Go.Proofs.YtfjafbbalohmhaaGreatDoor
set_option maxRecDepth 100000
open Go.RowKit
attribute [local irreducible] bin un conv call callV blt slc fldA fld idxA idx lkp mUpd mEnt eSt rng nxt ent ext alc box bld bldS ld sto nilC mkMap mkS ifc pick rdy wts gsel sti cond retM Gives cCode cGrp cSeq cOp
section
variable {w : World} {K : KV}
theorem lenN {ty : TypeId} {cs : Array Bool} {a : Option Addr} {n c : Nat} (h : K (.int .i64 (n : Int)) w) : blt Tryz.prog .len #[25] ty cs #[.slice a n c] K w := len_slc Tryz.underlying25 h
end
end Go.Proofs.YtfjafbbalohmhaaGreatDoor
namespace Go.Proofs.YtfjafbbalohmhaaGreatDoor
set_option maxRecDepth 100000
open Go.RowKit
attribute [local irreducible] bin un conv call callV blt slc fldA fld idxA idx lkp mUpd mEnt eSt rng nxt ent ext alc box bld bldS ld sto nilC mkMap mkS ifc pick rdy wts gsel sti cond retM Gives cCode cGrp cSeq cOp
section
variable {w : World} {K : KV}
structure P29 (w0 w : World) (q : Nat) (s : STP) (v : Value) (a : Option Addr) (n c : Nat) (l : List UInt8) : Prop where
  stp : blk w q 27 (stC s v)
  rb : RB w a n c l
  bel : Below q w0 w
end
end Go.Proofs.YtfjafbbalohmhaaGreatDoor
