/- Laid together: SR29 R29 R29b EqA. -/
import Derived.Test.YtfjafbbalohmhaaGreatDoorSh
import Derived.Test.YtfjafbbalohmhaaGreatDoorChecked
import Derived.Test.YtfjafbbalohmhaaGreatDoorQ3
import Derived.Test.YtfjafbbalohmhaaGreatDoorQ1
import Derived.DeepKeys
/- Written by program (gen.py): what the code of some functions asks, part by part; each text is checked by the kernel against the translation. -/
namespace Go.Proofs.YtfjafbbalohmhaaGreatDoor
open Go.RowKit
set_option maxRecDepth 100000

def leatref29_May_P1 (K : KV) : KE := cCode Tryz.prog (cd Tryz.f10 [1, 1, 1]) (retK Tryz.prog Tryz.f10.results.toList K) (fun _ _ _ => False) (retK Tryz.prog Tryz.f10.results.toList K)
def leatref29_May_L1 (K : KV) : KE := cCode Tryz.prog (cd Tryz.f10 [1, 1, 0, 1, 0]) (leatref29_May_P1 K) (fun i => @Bool.rec (fun _ => KE) ((fun _ _ _ => False) i) (leatref29_May_P1 K) (Nat.beq i 0)) (retK Tryz.prog Tryz.f10.results.toList K)
def leatref29_May_P2 (K : KV) : KE := cCode Tryz.prog (cd Tryz.f10 [1, 1, 1, 1]) (retK Tryz.prog Tryz.f10.results.toList K) (fun _ _ _ => False) (retK Tryz.prog Tryz.f10.results.toList K)
def leatref29_May_L2 (K : KV) : KE := cCode Tryz.prog (cd Tryz.f10 [1, 1, 1, 0, 1, 0]) (leatref29_May_P2 K) (fun i => @Bool.rec (fun _ => KE) ((fun _ _ _ => False) i) (leatref29_May_P2 K) (Nat.beq i 2)) (retK Tryz.prog Tryz.f10.results.toList K)
theorem leatref29_May_k {K : KV} {s0 : Value} {w : World}
    (h : box Tryz.prog 27 s0 (fun s1 w =>
    fldA Tryz.prog 27 s1 1 (fun A4 w =>
    ld Tryz.prog 3 A4 (fun A5 w =>
    fldA Tryz.prog 27 s1 4 (fun A6 w =>
    ld Tryz.prog 3 A6 (fun A7 w =>
    fldA Tryz.prog 27 s1 3 (fun A8 w =>
    ld Tryz.prog 3 A8 (fun A9 w =>
    fldA Tryz.prog 27 s1 2 (fun C0 w =>
    fldA Tryz.prog 24 C0 2 (fun C1 w =>
    ld Tryz.prog 3 C1 (fun C2 w =>
    bldS Tryz.prog 25 4 #[(0, A5), (1, A7), (2, A9), (3, C2)] (fun C3 w =>
    (cCode Tryz.prog (cd Tryz.f10 [1, 1, 0, 1, 0]) (cCode Tryz.prog (cd Tryz.f10 [1, 1, 1]) (retK Tryz.prog Tryz.f10.results.toList K) (fun _ _ _ => False) (retK Tryz.prog Tryz.f10.results.toList K)) (fun i => @Bool.rec (fun _ => KE) ((fun _ _ _ => False) i) (cCode Tryz.prog (cd Tryz.f10 [1, 1, 1]) (retK Tryz.prog Tryz.f10.results.toList K) (fun _ _ _ => False) (retK Tryz.prog Tryz.f10.results.toList K)) (Nat.beq i 0)) (retK Tryz.prog Tryz.f10.results.toList K)) (s0::s1::(Value.bool false)::C3::(Value.int IntKind.i64 0)::undef::A4::A5::A6::A7::A8::A9::C0::C1::C2::C3::undef::undef::undef::undef::undef::undef::undef::undef::undef::undef::undef::undef::undef::undef::undef::undef::undef::undef::undef::undef::undef::undef::undef::undef::undef::undef::undef::undef::undef::undef::undef::undef::undef::undef::undef::undef::undef::undef::undef::undef::undef::undef::undef::undef::undef::undef::undef::undef::undef::undef::undef::undef::undef::undef::undef::undef::undef::undef::undef::undef::undef::undef::undef::undef::undef::undef::undef::undef::undef::undef::undef::undef::undef::undef::undef::undef::undef::undef::undef::undef::undef::[]) w) w) w) w) w) w) w) w) w) w) w) w) :
    cCode Tryz.prog (cd Tryz.f10 []) (retK Tryz.prog Tryz.f10.results.toList K) (fun _ _ _ => False) (retK Tryz.prog Tryz.f10.results.toList K) (s0::undef::undef::undef::undef::undef::undef::undef::undef::undef::undef::undef::undef::undef::undef::undef::undef::undef::undef::undef::undef::undef::undef::undef::undef::undef::undef::undef::undef::undef::undef::undef::undef::undef::undef::undef::undef::undef::undef::undef::undef::undef::undef::undef::undef::undef::undef::undef::undef::undef::undef::undef::undef::undef::undef::undef::undef::undef::undef::undef::undef::undef::undef::undef::undef::undef::undef::undef::undef::undef::undef::undef::undef::undef::undef::undef::undef::undef::undef::undef::undef::undef::undef::undef::undef::undef::undef::undef::undef::undef::undef::undef::undef::undef::undef::undef::undef::[]) w := Eq.mp (by kernel_rfl) h

theorem leatref29_May_in {K : KV} {s0 : Value} {w : World}
    (h : box Tryz.prog 27 s0 (fun s1 w =>
    fldA Tryz.prog 27 s1 1 (fun A4 w =>
    ld Tryz.prog 3 A4 (fun A5 w =>
    fldA Tryz.prog 27 s1 4 (fun A6 w =>
    ld Tryz.prog 3 A6 (fun A7 w =>
    fldA Tryz.prog 27 s1 3 (fun A8 w =>
    ld Tryz.prog 3 A8 (fun A9 w =>
    fldA Tryz.prog 27 s1 2 (fun C0 w =>
    fldA Tryz.prog 24 C0 2 (fun C1 w =>
    ld Tryz.prog 3 C1 (fun C2 w =>
    bldS Tryz.prog 25 4 #[(0, A5), (1, A7), (2, A9), (3, C2)] (fun C3 w =>
    (leatref29_May_L1 K) (s0::s1::(Value.bool false)::C3::(Value.int IntKind.i64 0)::undef::A4::A5::A6::A7::A8::A9::C0::C1::C2::C3::undef::undef::undef::undef::undef::undef::undef::undef::undef::undef::undef::undef::undef::undef::undef::undef::undef::undef::undef::undef::undef::undef::undef::undef::undef::undef::undef::undef::undef::undef::undef::undef::undef::undef::undef::undef::undef::undef::undef::undef::undef::undef::undef::undef::undef::undef::undef::undef::undef::undef::undef::undef::undef::undef::undef::undef::undef::undef::undef::undef::undef::undef::undef::undef::undef::undef::undef::undef::undef::undef::undef::undef::undef::undef::undef::undef::undef::undef::undef::undef::undef::[]) w) w) w) w) w) w) w) w) w) w) w) w) :
    Gives Tryz.prog 10 #[s0] w K := enter' Tryz.func10 (by kernel_rfl) (Eq.mp (congrArg (fun c => cCode Tryz.prog c (retK Tryz.prog Tryz.f10.results.toList K) (fun _ _ _ => False) (retK Tryz.prog Tryz.f10.results.toList K) (s0::undef::undef::undef::undef::undef::undef::undef::undef::undef::undef::undef::undef::undef::undef::undef::undef::undef::undef::undef::undef::undef::undef::undef::undef::undef::undef::undef::undef::undef::undef::undef::undef::undef::undef::undef::undef::undef::undef::undef::undef::undef::undef::undef::undef::undef::undef::undef::undef::undef::undef::undef::undef::undef::undef::undef::undef::undef::undef::undef::undef::undef::undef::undef::undef::undef::undef::undef::undef::undef::undef::undef::undef::undef::undef::undef::undef::undef::undef::undef::undef::undef::undef::undef::undef::undef::undef::undef::undef::undef::undef::undef::undef::undef::undef::undef::undef::[]) w) (by kernel_rfl : (cd Tryz.f10 []) = (cd Tryz.f10 []))) (leatref29_May_k h))
theorem leatref29_May_go : isGo Tryz.prog 10 := ⟨_, Tryz.func10, by kernel_rfl, by kernel_rfl⟩

theorem leatref29_May_L1_k {K : KV} (B1 : KE) (qc0 : KE) {s0 s1 l3 i4' i5 A4 A5 A6 A7 A8 A9 C0 C1 C2 C3 D6' D7' D8' D9' E0' E2 E3 E4 E5 E6 E7 E8 E9 F0 F1 F2 F3 F4 F5 F6 F7 F8 F9 G0 G1 G2 G3 G4 G5 G6 G7 G8 G9 H0 H1 H2 H3 H4 H5 H6 H7 H8 H9 I0 I1 I2 I3 I4 I5 I6 I7 I8 I9 J0 J1 J2 J3 J4 J5 J6 J7 J8 J9 L0 L1 L2 L3 L4 : Value} {dd : Nat → Value} {w : World}
    (h : blt Tryz.prog Builtin.len #[25] 3 #[false] #[l3] (fun C6 w =>
    bin Tryz.prog BinOp.lss 3 false false i4' C6 (fun C7 w =>
    cond C7
      (idxA Tryz.prog 25 l3 i4' (fun D2 w =>
    ld Tryz.prog 3 D2 (fun D3 w =>
    bin Tryz.prog BinOp.lss 3 false true D3 (Value.int IntKind.i64 (-1)) (fun D4 w =>
    gsel D4 false (fun k28 =>
    idxA Tryz.prog 25 l3 i4' (fun D8 w =>
    ld Tryz.prog 3 D8 (fun D9 w =>
    bin Tryz.prog BinOp.gtr 3 false true D9 (Value.int IntKind.i64 255) (fun E0 w =>
    k28 [l3, i4', D8, D9, E0] w) w) w) w)
    (fun k => k [undef, undef, undef, undef, undef] w) (fun us28 w =>
    pick D4 (Value.bool true) (gd us28 4) (fun E1 w =>
    cond E1
      (K (Value.bool false) w)
      (bin Tryz.prog BinOp.add 3 false true i4' (Value.int IntKind.i64 1) (fun C9 w =>
    B1 (s0::s1::(dd 2)::l3::C9::i5::A4::A5::A6::A7::A8::A9::C0::C1::C2::C3::i4'::l3::C6::C7::i4'::C9::l3::i4'::D2::D3::D4::D4::(gd us28 0)::(gd us28 1)::(gd us28 2)::(gd us28 3)::(gd us28 4)::E1::E2::E3::E4::E5::E6::E7::E8::E9::F0::F1::F2::F3::F4::F5::F6::F7::F8::F9::G0::G1::G2::G3::G4::G5::G6::G7::G8::G9::H0::H1::H2::H3::H4::H5::H6::H7::H8::H9::I0::I1::I2::I3::I4::I5::I6::I7::I8::I9::J0::J1::J2::J3::J4::J5::J6::J7::J8::J9::L0::L1::L2::L3::L4::[]) w) w)) w)) w) w) w)
      (qc0 (s0::s1::(dd 2)::l3::i4'::i5::A4::A5::A6::A7::A8::A9::C0::C1::C2::C3::i4'::l3::C6::C7::(dd 20)::(dd 21)::(dd 22)::(dd 23)::(dd 24)::(dd 25)::(dd 26)::(dd 27)::D6'::D7'::D8'::D9'::E0'::(dd 33)::E2::E3::E4::E5::E6::E7::E8::E9::F0::F1::F2::F3::F4::F5::F6::F7::F8::F9::G0::G1::G2::G3::G4::G5::G6::G7::G8::G9::H0::H1::H2::H3::H4::H5::H6::H7::H8::H9::I0::I1::I2::I3::I4::I5::I6::I7::I8::I9::J0::J1::J2::J3::J4::J5::J6::J7::J8::J9::L0::L1::L2::L3::L4::[]) w)) w) w) :
    cCode Tryz.prog (cd Tryz.f10 [1, 1, 0, 1, 0, 0]) B1 (fun i => @Bool.rec (fun _ => KE) ((fun _ _ _ => False) i) qc0 (Nat.beq i 0)) (retK Tryz.prog Tryz.f10.results.toList K) (s0::s1::(dd 2)::l3::i4'::i5::A4::A5::A6::A7::A8::A9::C0::C1::C2::C3::(dd 16)::(dd 17)::(dd 18)::(dd 19)::(dd 20)::(dd 21)::(dd 22)::(dd 23)::(dd 24)::(dd 25)::(dd 26)::(dd 27)::D6'::D7'::D8'::D9'::E0'::(dd 33)::E2::E3::E4::E5::E6::E7::E8::E9::F0::F1::F2::F3::F4::F5::F6::F7::F8::F9::G0::G1::G2::G3::G4::G5::G6::G7::G8::G9::H0::H1::H2::H3::H4::H5::H6::H7::H8::H9::I0::I1::I2::I3::I4::I5::I6::I7::I8::I9::J0::J1::J2::J3::J4::J5::J6::J7::J8::J9::L0::L1::L2::L3::L4::[]) w := Eq.mp (by kernel_rfl) h

section
variable {s0 s1 A0 l3 i4 i5 A4 A5 A6 A7 A8 A9 C0 C1 C2 C3 C4 C5 C6 C7 C8 C9 D0 D1 D2 D3 D4 D5 D6 D7 D8 D9 E0 E1 E2 E3 E4 E5 E6 E7 E8 E9 F0 F1 F2 F3 F4 F5 F6 F7 F8 F9 G0 G1 G2 G3 G4 G5 G6 G7 G8 G9 H0 H1 H2 H3 H4 H5 H6 H7 H8 H9 I0 I1 I2 I3 I4 I5 I6 I7 I8 I9 J0 J1 J2 J3 J4 J5 J6 J7 J8 J9 L0 L1 L2 L3 L4 : Value}
theorem leatref29_May_L1_r {K : KV} {w : World} (Inv : Value → Value → Value → Value → Value → Value → World → Prop) (μ : Value → Value → Value → Value → Value → Value → World → Nat) (h0 : Inv i4 D6 D7 D8 D9 E0 w)
    (hs : ∀ (i4' D6' D7' D8' D9' E0' : Value) (dd : Nat → Value) (w : World) (m : Nat), Inv i4' D6' D7' D8' D9' E0' w → m = μ i4' D6' D7' D8' D9' E0' w →
    blt Tryz.prog Builtin.len #[25] 3 #[false] #[l3] (fun C6 w =>
    bin Tryz.prog BinOp.lss 3 false false i4' C6 (fun C7 w =>
    cond C7
      (idxA Tryz.prog 25 l3 i4' (fun D2 w =>
    ld Tryz.prog 3 D2 (fun D3 w =>
    bin Tryz.prog BinOp.lss 3 false true D3 (Value.int IntKind.i64 (-1)) (fun D4 w =>
    gsel D4 false (fun k28 =>
    idxA Tryz.prog 25 l3 i4' (fun D8 w =>
    ld Tryz.prog 3 D8 (fun D9 w =>
    bin Tryz.prog BinOp.gtr 3 false true D9 (Value.int IntKind.i64 255) (fun E0 w =>
    k28 [l3, i4', D8, D9, E0] w) w) w) w)
    (fun k => k [undef, undef, undef, undef, undef] w) (fun us28 w =>
    pick D4 (Value.bool true) (gd us28 4) (fun E1 w =>
    cond E1
      (K (Value.bool false) w)
      (bin Tryz.prog BinOp.add 3 false true i4' (Value.int IntKind.i64 1) (fun C9 w =>
    (Inv C9 (gd us28 0) (gd us28 1) (gd us28 2) (gd us28 3) (gd us28 4) w ∧ μ C9 (gd us28 0) (gd us28 1) (gd us28 2) (gd us28 3) (gd us28 4) w < m)) w)) w)) w) w) w)
      ((leatref29_May_P1 K) (s0::s1::(dd 2)::l3::i4'::i5::A4::A5::A6::A7::A8::A9::C0::C1::C2::C3::i4'::l3::C6::C7::(dd 20)::(dd 21)::(dd 22)::(dd 23)::(dd 24)::(dd 25)::(dd 26)::(dd 27)::D6'::D7'::D8'::D9'::E0'::(dd 33)::E2::E3::E4::E5::E6::E7::E8::E9::F0::F1::F2::F3::F4::F5::F6::F7::F8::F9::G0::G1::G2::G3::G4::G5::G6::G7::G8::G9::H0::H1::H2::H3::H4::H5::H6::H7::H8::H9::I0::I1::I2::I3::I4::I5::I6::I7::I8::I9::J0::J1::J2::J3::J4::J5::J6::J7::J8::J9::L0::L1::L2::L3::L4::[]) w)) w) w) :
    leatref29_May_L1 K (s0::s1::A0::l3::i4::i5::A4::A5::A6::A7::A8::A9::C0::C1::C2::C3::C4::C5::C6::C7::C8::C9::D0::D1::D2::D3::D4::D5::D6::D7::D8::D9::E0::E1::E2::E3::E4::E5::E6::E7::E8::E9::F0::F1::F2::F3::F4::F5::F6::F7::F8::F9::G0::G1::G2::G3::G4::G5::G6::G7::G8::G9::H0::H1::H2::H3::H4::H5::H6::H7::H8::H9::I0::I1::I2::I3::I4::I5::I6::I7::I8::I9::J0::J1::J2::J3::J4::J5::J6::J7::J8::J9::L0::L1::L2::L3::L4::[]) w := by
  refine loop_rule (cd Tryz.f10 [1, 1, 0, 1, 0, 0]) [2, 4, 16, 17, 18, 19, 20, 21, 22, 23, 24, 25, 26, 27, 28, 29, 30, 31, 32, 33] (by kernel_rfl) (fun e2 w2 => Inv (gd e2 4) (gd e2 28) (gd e2 29) (gd e2 30) (gd e2 31) (gd e2 32) w2) (fun e2 w2 => μ (gd e2 4) (gd e2 28) (gd e2 29) (gd e2 30) (gd e2 31) (gd e2 32) w2) h0 ?_
  intro e' w' hI
  have h := hs (gd e' 4) (gd e' 28) (gd e' 29) (gd e' 30) (gd e' 31) (gd e' 32) (fun i => gd e' i) w' _ hI rfl
  have h2 : cCode Tryz.prog (cd Tryz.f10 [1, 1, 0, 1, 0, 0]) (fun e2 w2 => Inv (gd e2 4) (gd e2 28) (gd e2 29) (gd e2 30) (gd e2 31) (gd e2 32) w2 ∧ μ (gd e2 4) (gd e2 28) (gd e2 29) (gd e2 30) (gd e2 31) (gd e2 32) w2 < μ (gd e' 4) (gd e' 28) (gd e' 29) (gd e' 30) (gd e' 31) (gd e' 32) w') (fun i => @Bool.rec (fun _ => KE) ((fun _ _ _ => False) i) (leatref29_May_P1 K) (Nat.beq i 0)) (retK Tryz.prog Tryz.f10.results.toList K) (s0::s1::(gd e' 2)::l3::(gd e' 4)::i5::A4::A5::A6::A7::A8::A9::C0::C1::C2::C3::(gd e' 16)::(gd e' 17)::(gd e' 18)::(gd e' 19)::(gd e' 20)::(gd e' 21)::(gd e' 22)::(gd e' 23)::(gd e' 24)::(gd e' 25)::(gd e' 26)::(gd e' 27)::(gd e' 28)::(gd e' 29)::(gd e' 30)::(gd e' 31)::(gd e' 32)::(gd e' 33)::E2::E3::E4::E5::E6::E7::E8::E9::F0::F1::F2::F3::F4::F5::F6::F7::F8::F9::G0::G1::G2::G3::G4::G5::G6::G7::G8::G9::H0::H1::H2::H3::H4::H5::H6::H7::H8::H9::I0::I1::I2::I3::I4::I5::I6::I7::I8::I9::J0::J1::J2::J3::J4::J5::J6::J7::J8::J9::L0::L1::L2::L3::L4::[]) w' := leatref29_May_L1_k (fun e2 w2 => Inv (gd e2 4) (gd e2 28) (gd e2 29) (gd e2 30) (gd e2 31) (gd e2 32) w2 ∧ μ (gd e2 4) (gd e2 28) (gd e2 29) (gd e2 30) (gd e2 31) (gd e2 32) w2 < μ (gd e' 4) (gd e' 28) (gd e' 29) (gd e' 30) (gd e' 31) (gd e' 32) w') (leatref29_May_P1 K) (Eq.mp (by kernel_rfl) h)
  exact Eq.mp (by kernel_rfl) h2

theorem leatref29_May_P1_k {K : KV} {w : World}
    (h : (cCode Tryz.prog (cd Tryz.f10 [1, 1, 1, 0, 1, 0]) (cCode Tryz.prog (cd Tryz.f10 [1, 1, 1, 1]) (retK Tryz.prog Tryz.f10.results.toList K) (fun _ _ _ => False) (retK Tryz.prog Tryz.f10.results.toList K)) (fun i => @Bool.rec (fun _ => KE) ((fun _ _ _ => False) i) (cCode Tryz.prog (cd Tryz.f10 [1, 1, 1, 1]) (retK Tryz.prog Tryz.f10.results.toList K) (fun _ _ _ => False) (retK Tryz.prog Tryz.f10.results.toList K)) (Nat.beq i 2)) (retK Tryz.prog Tryz.f10.results.toList K)) (s0::s1::A0::l3::i4::(Value.int IntKind.i64 0)::A4::A5::A6::A7::A8::A9::C0::C1::C2::C3::C4::C5::C6::C7::C8::C9::D0::D1::D2::D3::D4::D5::D6::D7::D8::D9::E0::E1::E2::E3::E4::E5::E6::E7::E8::E9::F0::F1::F2::F3::F4::F5::F6::F7::F8::F9::G0::G1::G2::G3::G4::G5::G6::G7::G8::G9::H0::H1::H2::H3::H4::H5::H6::H7::H8::H9::I0::I1::I2::I3::I4::I5::I6::I7::I8::I9::J0::J1::J2::J3::J4::J5::J6::J7::J8::J9::L0::L1::L2::L3::L4::[]) w) :
    cCode Tryz.prog (cd Tryz.f10 [1, 1, 1]) (retK Tryz.prog Tryz.f10.results.toList K) (fun _ _ _ => False) (retK Tryz.prog Tryz.f10.results.toList K) (s0::s1::A0::l3::i4::i5::A4::A5::A6::A7::A8::A9::C0::C1::C2::C3::C4::C5::C6::C7::C8::C9::D0::D1::D2::D3::D4::D5::D6::D7::D8::D9::E0::E1::E2::E3::E4::E5::E6::E7::E8::E9::F0::F1::F2::F3::F4::F5::F6::F7::F8::F9::G0::G1::G2::G3::G4::G5::G6::G7::G8::G9::H0::H1::H2::H3::H4::H5::H6::H7::H8::H9::I0::I1::I2::I3::I4::I5::I6::I7::I8::I9::J0::J1::J2::J3::J4::J5::J6::J7::J8::J9::L0::L1::L2::L3::L4::[]) w := Eq.mp (by kernel_rfl) h

theorem leatref29_May_P1_r {K : KV} {w : World}
    (h : (leatref29_May_L2 K) (s0::s1::A0::l3::i4::(Value.int IntKind.i64 0)::A4::A5::A6::A7::A8::A9::C0::C1::C2::C3::C4::C5::C6::C7::C8::C9::D0::D1::D2::D3::D4::D5::D6::D7::D8::D9::E0::E1::E2::E3::E4::E5::E6::E7::E8::E9::F0::F1::F2::F3::F4::F5::F6::F7::F8::F9::G0::G1::G2::G3::G4::G5::G6::G7::G8::G9::H0::H1::H2::H3::H4::H5::H6::H7::H8::H9::I0::I1::I2::I3::I4::I5::I6::I7::I8::I9::J0::J1::J2::J3::J4::J5::J6::J7::J8::J9::L0::L1::L2::L3::L4::[]) w) :
    leatref29_May_P1 K (s0::s1::A0::l3::i4::i5::A4::A5::A6::A7::A8::A9::C0::C1::C2::C3::C4::C5::C6::C7::C8::C9::D0::D1::D2::D3::D4::D5::D6::D7::D8::D9::E0::E1::E2::E3::E4::E5::E6::E7::E8::E9::F0::F1::F2::F3::F4::F5::F6::F7::F8::F9::G0::G1::G2::G3::G4::G5::G6::G7::G8::G9::H0::H1::H2::H3::H4::H5::H6::H7::H8::H9::I0::I1::I2::I3::I4::I5::I6::I7::I8::I9::J0::J1::J2::J3::J4::J5::J6::J7::J8::J9::L0::L1::L2::L3::L4::[]) w := by
  delta leatref29_May_P1
  exact Eq.mp (congrArg (fun c => cCode Tryz.prog c (retK Tryz.prog Tryz.f10.results.toList K) (fun _ _ _ => False) (retK Tryz.prog Tryz.f10.results.toList K) (s0::s1::A0::l3::i4::i5::A4::A5::A6::A7::A8::A9::C0::C1::C2::C3::C4::C5::C6::C7::C8::C9::D0::D1::D2::D3::D4::D5::D6::D7::D8::D9::E0::E1::E2::E3::E4::E5::E6::E7::E8::E9::F0::F1::F2::F3::F4::F5::F6::F7::F8::F9::G0::G1::G2::G3::G4::G5::G6::G7::G8::G9::H0::H1::H2::H3::H4::H5::H6::H7::H8::H9::I0::I1::I2::I3::I4::I5::I6::I7::I8::I9::J0::J1::J2::J3::J4::J5::J6::J7::J8::J9::L0::L1::L2::L3::L4::[]) w) (by kernel_rfl : (cd Tryz.f10 [1, 1, 1]) = (cd Tryz.f10 [1, 1, 1]))) (leatref29_May_P1_k h)

end
theorem leatref29_May_L2_k {K : KV} (B1 : KE) (qc0 : KE) {s0 s1 l3 i4 i5' A4 A5 A6 A7 A8 A9 C0 C1 C2 C3 C4 C5 C6 C7 C8 C9 D0 D1 D2 D3 D4 D5 D6 D7 D8 D9 E0 E1 F6' F7' F8' F9' G0' G1' G3 G4 G5 G6 G7 G8 G9 H0 H1 H2 H3 H4 H5 H6 H7 H8 H9 I0 I1 I2 I3 I4 I5 I6 I7 I8 I9 J0 J1 J2 J3 J4 J5 J6 J7 J8 J9 L0 L1 L2 L3 L4 : Value} {dd : Nat → Value} {w : World}
    (h : fldA Tryz.prog 27 s1 6 (fun E3 w =>
    ld Tryz.prog 25 E3 (fun E4 w =>
    blt Tryz.prog Builtin.len #[25] 3 #[false] #[E4] (fun E5 w =>
    bin Tryz.prog BinOp.lss 3 false false i5' E5 (fun E6 w =>
    cond E6
      (fldA Tryz.prog 27 s1 6 (fun E9 w =>
    ld Tryz.prog 25 E9 (fun F0 w =>
    idxA Tryz.prog 25 F0 i5' (fun F2 w =>
    ld Tryz.prog 3 F2 (fun F3 w =>
    bin Tryz.prog BinOp.lss 3 false true F3 (Value.int IntKind.i64 (-1)) (fun F4 w =>
    gsel F4 false (fun k48 =>
    fldA Tryz.prog 27 s1 6 (fun F6 w =>
    ld Tryz.prog 25 F6 (fun F7 w =>
    idxA Tryz.prog 25 F7 i5' (fun F9 w =>
    ld Tryz.prog 3 F9 (fun G0 w =>
    bin Tryz.prog BinOp.gtr 3 false true G0 (Value.int IntKind.i64 254) (fun G1 w =>
    k48 [F6, F7, i5', F9, G0, G1] w) w) w) w) w) w)
    (fun k => k [undef, undef, undef, undef, undef, undef] w) (fun us48 w =>
    pick F4 (Value.bool true) (gd us48 5) (fun G2 w =>
    cond G2
      (K (Value.bool false) w)
      (bin Tryz.prog BinOp.add 3 false true i5' (Value.int IntKind.i64 1) (fun E8 w =>
    B1 (s0::s1::(dd 2)::l3::i4::E8::A4::A5::A6::A7::A8::A9::C0::C1::C2::C3::C4::C5::C6::C7::C8::C9::D0::D1::D2::D3::D4::D5::D6::D7::D8::D9::E0::E1::i5'::E3::E4::E5::E6::i5'::E8::E9::F0::i5'::F2::F3::F4::F4::(gd us48 0)::(gd us48 1)::(gd us48 2)::(gd us48 3)::(gd us48 4)::(gd us48 5)::G2::G3::G4::G5::G6::G7::G8::G9::H0::H1::H2::H3::H4::H5::H6::H7::H8::H9::I0::I1::I2::I3::I4::I5::I6::I7::I8::I9::J0::J1::J2::J3::J4::J5::J6::J7::J8::J9::L0::L1::L2::L3::L4::[]) w) w)) w)) w) w) w) w) w)
      (qc0 (s0::s1::(dd 2)::l3::i4::i5'::A4::A5::A6::A7::A8::A9::C0::C1::C2::C3::C4::C5::C6::C7::C8::C9::D0::D1::D2::D3::D4::D5::D6::D7::D8::D9::E0::E1::i5'::E3::E4::E5::E6::(dd 39)::(dd 40)::(dd 41)::(dd 42)::(dd 43)::(dd 44)::(dd 45)::(dd 46)::(dd 47)::F6'::F7'::F8'::F9'::G0'::G1'::(dd 54)::G3::G4::G5::G6::G7::G8::G9::H0::H1::H2::H3::H4::H5::H6::H7::H8::H9::I0::I1::I2::I3::I4::I5::I6::I7::I8::I9::J0::J1::J2::J3::J4::J5::J6::J7::J8::J9::L0::L1::L2::L3::L4::[]) w)) w) w) w) w) :
    cCode Tryz.prog (cd Tryz.f10 [1, 1, 1, 0, 1, 0, 0]) B1 (fun i => @Bool.rec (fun _ => KE) ((fun _ _ _ => False) i) qc0 (Nat.beq i 2)) (retK Tryz.prog Tryz.f10.results.toList K) (s0::s1::(dd 2)::l3::i4::i5'::A4::A5::A6::A7::A8::A9::C0::C1::C2::C3::C4::C5::C6::C7::C8::C9::D0::D1::D2::D3::D4::D5::D6::D7::D8::D9::E0::E1::(dd 34)::(dd 35)::(dd 36)::(dd 37)::(dd 38)::(dd 39)::(dd 40)::(dd 41)::(dd 42)::(dd 43)::(dd 44)::(dd 45)::(dd 46)::(dd 47)::F6'::F7'::F8'::F9'::G0'::G1'::(dd 54)::G3::G4::G5::G6::G7::G8::G9::H0::H1::H2::H3::H4::H5::H6::H7::H8::H9::I0::I1::I2::I3::I4::I5::I6::I7::I8::I9::J0::J1::J2::J3::J4::J5::J6::J7::J8::J9::L0::L1::L2::L3::L4::[]) w := Eq.mp (by kernel_rfl) h

section
variable {s0 s1 A0 l3 i4 i5 A4 A5 A6 A7 A8 A9 C0 C1 C2 C3 C4 C5 C6 C7 C8 C9 D0 D1 D2 D3 D4 D5 D6 D7 D8 D9 E0 E1 E2 E3 E4 E5 E6 E7 E8 E9 F0 F1 F2 F3 F4 F5 F6 F7 F8 F9 G0 G1 G2 G3 G4 G5 G6 G7 G8 G9 H0 H1 H2 H3 H4 H5 H6 H7 H8 H9 I0 I1 I2 I3 I4 I5 I6 I7 I8 I9 J0 J1 J2 J3 J4 J5 J6 J7 J8 J9 L0 L1 L2 L3 L4 : Value}
theorem leatref29_May_L2_r {K : KV} {w : World} (Inv : Value → Value → Value → Value → Value → Value → Value → World → Prop) (μ : Value → Value → Value → Value → Value → Value → Value → World → Nat) (h0 : Inv i5 F6 F7 F8 F9 G0 G1 w)
    (hs : ∀ (i5' F6' F7' F8' F9' G0' G1' : Value) (dd : Nat → Value) (w : World) (m : Nat), Inv i5' F6' F7' F8' F9' G0' G1' w → m = μ i5' F6' F7' F8' F9' G0' G1' w →
    fldA Tryz.prog 27 s1 6 (fun E3 w =>
    ld Tryz.prog 25 E3 (fun E4 w =>
    blt Tryz.prog Builtin.len #[25] 3 #[false] #[E4] (fun E5 w =>
    bin Tryz.prog BinOp.lss 3 false false i5' E5 (fun E6 w =>
    cond E6
      (fldA Tryz.prog 27 s1 6 (fun E9 w =>
    ld Tryz.prog 25 E9 (fun F0 w =>
    idxA Tryz.prog 25 F0 i5' (fun F2 w =>
    ld Tryz.prog 3 F2 (fun F3 w =>
    bin Tryz.prog BinOp.lss 3 false true F3 (Value.int IntKind.i64 (-1)) (fun F4 w =>
    gsel F4 false (fun k48 =>
    fldA Tryz.prog 27 s1 6 (fun F6 w =>
    ld Tryz.prog 25 F6 (fun F7 w =>
    idxA Tryz.prog 25 F7 i5' (fun F9 w =>
    ld Tryz.prog 3 F9 (fun G0 w =>
    bin Tryz.prog BinOp.gtr 3 false true G0 (Value.int IntKind.i64 254) (fun G1 w =>
    k48 [F6, F7, i5', F9, G0, G1] w) w) w) w) w) w)
    (fun k => k [undef, undef, undef, undef, undef, undef] w) (fun us48 w =>
    pick F4 (Value.bool true) (gd us48 5) (fun G2 w =>
    cond G2
      (K (Value.bool false) w)
      (bin Tryz.prog BinOp.add 3 false true i5' (Value.int IntKind.i64 1) (fun E8 w =>
    (Inv E8 (gd us48 0) (gd us48 1) (gd us48 2) (gd us48 3) (gd us48 4) (gd us48 5) w ∧ μ E8 (gd us48 0) (gd us48 1) (gd us48 2) (gd us48 3) (gd us48 4) (gd us48 5) w < m)) w)) w)) w) w) w) w) w)
      ((leatref29_May_P2 K) (s0::s1::(dd 2)::l3::i4::i5'::A4::A5::A6::A7::A8::A9::C0::C1::C2::C3::C4::C5::C6::C7::C8::C9::D0::D1::D2::D3::D4::D5::D6::D7::D8::D9::E0::E1::i5'::E3::E4::E5::E6::(dd 39)::(dd 40)::(dd 41)::(dd 42)::(dd 43)::(dd 44)::(dd 45)::(dd 46)::(dd 47)::F6'::F7'::F8'::F9'::G0'::G1'::(dd 54)::G3::G4::G5::G6::G7::G8::G9::H0::H1::H2::H3::H4::H5::H6::H7::H8::H9::I0::I1::I2::I3::I4::I5::I6::I7::I8::I9::J0::J1::J2::J3::J4::J5::J6::J7::J8::J9::L0::L1::L2::L3::L4::[]) w)) w) w) w) w) :
    leatref29_May_L2 K (s0::s1::A0::l3::i4::i5::A4::A5::A6::A7::A8::A9::C0::C1::C2::C3::C4::C5::C6::C7::C8::C9::D0::D1::D2::D3::D4::D5::D6::D7::D8::D9::E0::E1::E2::E3::E4::E5::E6::E7::E8::E9::F0::F1::F2::F3::F4::F5::F6::F7::F8::F9::G0::G1::G2::G3::G4::G5::G6::G7::G8::G9::H0::H1::H2::H3::H4::H5::H6::H7::H8::H9::I0::I1::I2::I3::I4::I5::I6::I7::I8::I9::J0::J1::J2::J3::J4::J5::J6::J7::J8::J9::L0::L1::L2::L3::L4::[]) w := by
  refine loop_rule (cd Tryz.f10 [1, 1, 1, 0, 1, 0, 0]) [2, 5, 34, 35, 36, 37, 38, 39, 40, 41, 42, 43, 44, 45, 46, 47, 48, 49, 50, 51, 52, 53, 54] (by kernel_rfl) (fun e2 w2 => Inv (gd e2 5) (gd e2 48) (gd e2 49) (gd e2 50) (gd e2 51) (gd e2 52) (gd e2 53) w2) (fun e2 w2 => μ (gd e2 5) (gd e2 48) (gd e2 49) (gd e2 50) (gd e2 51) (gd e2 52) (gd e2 53) w2) h0 ?_
  intro e' w' hI
  have h := hs (gd e' 5) (gd e' 48) (gd e' 49) (gd e' 50) (gd e' 51) (gd e' 52) (gd e' 53) (fun i => gd e' i) w' _ hI rfl
  have h2 : cCode Tryz.prog (cd Tryz.f10 [1, 1, 1, 0, 1, 0, 0]) (fun e2 w2 => Inv (gd e2 5) (gd e2 48) (gd e2 49) (gd e2 50) (gd e2 51) (gd e2 52) (gd e2 53) w2 ∧ μ (gd e2 5) (gd e2 48) (gd e2 49) (gd e2 50) (gd e2 51) (gd e2 52) (gd e2 53) w2 < μ (gd e' 5) (gd e' 48) (gd e' 49) (gd e' 50) (gd e' 51) (gd e' 52) (gd e' 53) w') (fun i => @Bool.rec (fun _ => KE) ((fun _ _ _ => False) i) (leatref29_May_P2 K) (Nat.beq i 2)) (retK Tryz.prog Tryz.f10.results.toList K) (s0::s1::(gd e' 2)::l3::i4::(gd e' 5)::A4::A5::A6::A7::A8::A9::C0::C1::C2::C3::C4::C5::C6::C7::C8::C9::D0::D1::D2::D3::D4::D5::D6::D7::D8::D9::E0::E1::(gd e' 34)::(gd e' 35)::(gd e' 36)::(gd e' 37)::(gd e' 38)::(gd e' 39)::(gd e' 40)::(gd e' 41)::(gd e' 42)::(gd e' 43)::(gd e' 44)::(gd e' 45)::(gd e' 46)::(gd e' 47)::(gd e' 48)::(gd e' 49)::(gd e' 50)::(gd e' 51)::(gd e' 52)::(gd e' 53)::(gd e' 54)::G3::G4::G5::G6::G7::G8::G9::H0::H1::H2::H3::H4::H5::H6::H7::H8::H9::I0::I1::I2::I3::I4::I5::I6::I7::I8::I9::J0::J1::J2::J3::J4::J5::J6::J7::J8::J9::L0::L1::L2::L3::L4::[]) w' := leatref29_May_L2_k (fun e2 w2 => Inv (gd e2 5) (gd e2 48) (gd e2 49) (gd e2 50) (gd e2 51) (gd e2 52) (gd e2 53) w2 ∧ μ (gd e2 5) (gd e2 48) (gd e2 49) (gd e2 50) (gd e2 51) (gd e2 52) (gd e2 53) w2 < μ (gd e' 5) (gd e' 48) (gd e' 49) (gd e' 50) (gd e' 51) (gd e' 52) (gd e' 53) w') (leatref29_May_P2 K) (Eq.mp (by kernel_rfl) h)
  exact Eq.mp (by kernel_rfl) h2

theorem leatref29_May_P2_k {K : KV} {w : World}
    (h : fldA Tryz.prog 27 s1 0 (fun G3 w =>
    ld Tryz.prog 5 G3 (fun G4 w =>
    bin Tryz.prog BinOp.geq 5 false true G4 (Value.int IntKind.u8 1) (fun G5 w =>
    gsel G5 true (fun k59 =>
    fldA Tryz.prog 27 s1 0 (fun G7 w =>
    ld Tryz.prog 5 G7 (fun G8 w =>
    bin Tryz.prog BinOp.leq 5 false true G8 (Value.int IntKind.u8 12) (fun G9 w =>
    k59 [G7, G8, G9] w) w) w) w)
    (fun k => k [undef, undef, undef] w) (fun us59 w =>
    pick G5 (gd us59 2) (Value.bool false) (fun H0 w =>
    gsel H0 true (fun k64 =>
    fldA Tryz.prog 27 s1 5 (fun H2 w =>
    ld Tryz.prog 3 H2 (fun H3 w =>
    bin Tryz.prog BinOp.geq 3 false true H3 (Value.int IntKind.i64 (-1)) (fun H4 w =>
    k64 [H2, H3, H4] w) w) w) w)
    (fun k => k [undef, undef, undef] w) (fun us64 w =>
    pick H0 (gd us64 2) (Value.bool false) (fun H5 w =>
    gsel H5 true (fun k69 =>
    fldA Tryz.prog 27 s1 5 (fun H7 w =>
    ld Tryz.prog 3 H7 (fun H8 w =>
    bin Tryz.prog BinOp.leq 3 false true H8 (Value.int IntKind.i64 1073741824) (fun H9 w =>
    k69 [H7, H8, H9] w) w) w) w)
    (fun k => k [undef, undef, undef] w) (fun us69 w =>
    pick H5 (gd us69 2) (Value.bool false) (fun I0 w =>
    gsel I0 true (fun k74 =>
    fldA Tryz.prog 27 s1 2 (fun I2 w =>
    fldA Tryz.prog 24 I2 0 (fun I3 w =>
    ld Tryz.prog 5 I3 (fun I4 w =>
    bin Tryz.prog BinOp.leq 5 false true I4 (Value.int IntKind.u8 7) (fun I5 w =>
    k74 [I2, I3, I4, I5] w) w) w) w) w)
    (fun k => k [undef, undef, undef, undef] w) (fun us74 w =>
    pick I0 (gd us74 3) (Value.bool false) (fun I6 w =>
    gsel I6 true (fun k80 =>
    fldA Tryz.prog 27 s1 2 (fun I8 w =>
    fldA Tryz.prog 24 I8 3 (fun I9 w =>
    ld Tryz.prog 2 I9 (fun J0 w =>
    bin Tryz.prog BinOp.geq 2 false true J0 (Value.int IntKind.i64 (-1)) (fun J1 w =>
    k80 [I8, I9, J0, J1] w) w) w) w) w)
    (fun k => k [undef, undef, undef, undef] w) (fun us80 w =>
    pick I6 (gd us80 3) (Value.bool false) (fun J2 w =>
    gsel J2 true (fun k86 =>
    fldA Tryz.prog 27 s1 2 (fun J4 w =>
    fldA Tryz.prog 24 J4 3 (fun J5 w =>
    ld Tryz.prog 2 J5 (fun J6 w =>
    bin Tryz.prog BinOp.leq 2 false true J6 (Value.int IntKind.i64 1152921504606846976) (fun J7 w =>
    k86 [J4, J5, J6, J7] w) w) w) w) w)
    (fun k => k [undef, undef, undef, undef] w) (fun us86 w =>
    pick J2 (gd us86 3) (Value.bool false) (fun J8 w =>
    gsel J8 true (fun k92 =>
    fldA Tryz.prog 27 s1 6 (fun L0 w =>
    ld Tryz.prog 25 L0 (fun L1 w =>
    blt Tryz.prog Builtin.len #[25] 3 #[false] #[L1] (fun L2 w =>
    bin Tryz.prog BinOp.leq 3 false true L2 (Value.int IntKind.i64 255) (fun L3 w =>
    k92 [L0, L1, L2, L3] w) w) w) w) w)
    (fun k => k [undef, undef, undef, undef] w) (fun us92 w =>
    pick J8 (gd us92 3) (Value.bool false) (fun L4 w =>
    K L4 w) w)) w)) w)) w)) w)) w)) w)) w) w) w) :
    cCode Tryz.prog (cd Tryz.f10 [1, 1, 1, 1]) (retK Tryz.prog Tryz.f10.results.toList K) (fun _ _ _ => False) (retK Tryz.prog Tryz.f10.results.toList K) (s0::s1::A0::l3::i4::i5::A4::A5::A6::A7::A8::A9::C0::C1::C2::C3::C4::C5::C6::C7::C8::C9::D0::D1::D2::D3::D4::D5::D6::D7::D8::D9::E0::E1::E2::E3::E4::E5::E6::E7::E8::E9::F0::F1::F2::F3::F4::F5::F6::F7::F8::F9::G0::G1::G2::G3::G4::G5::G6::G7::G8::G9::H0::H1::H2::H3::H4::H5::H6::H7::H8::H9::I0::I1::I2::I3::I4::I5::I6::I7::I8::I9::J0::J1::J2::J3::J4::J5::J6::J7::J8::J9::L0::L1::L2::L3::L4::[]) w := Eq.mp (by kernel_rfl) h

theorem leatref29_May_P2_r {K : KV} {w : World}
    (h : fldA Tryz.prog 27 s1 0 (fun G3 w =>
    ld Tryz.prog 5 G3 (fun G4 w =>
    bin Tryz.prog BinOp.geq 5 false true G4 (Value.int IntKind.u8 1) (fun G5 w =>
    gsel G5 true (fun k59 =>
    fldA Tryz.prog 27 s1 0 (fun G7 w =>
    ld Tryz.prog 5 G7 (fun G8 w =>
    bin Tryz.prog BinOp.leq 5 false true G8 (Value.int IntKind.u8 12) (fun G9 w =>
    k59 [G7, G8, G9] w) w) w) w)
    (fun k => k [undef, undef, undef] w) (fun us59 w =>
    pick G5 (gd us59 2) (Value.bool false) (fun H0 w =>
    gsel H0 true (fun k64 =>
    fldA Tryz.prog 27 s1 5 (fun H2 w =>
    ld Tryz.prog 3 H2 (fun H3 w =>
    bin Tryz.prog BinOp.geq 3 false true H3 (Value.int IntKind.i64 (-1)) (fun H4 w =>
    k64 [H2, H3, H4] w) w) w) w)
    (fun k => k [undef, undef, undef] w) (fun us64 w =>
    pick H0 (gd us64 2) (Value.bool false) (fun H5 w =>
    gsel H5 true (fun k69 =>
    fldA Tryz.prog 27 s1 5 (fun H7 w =>
    ld Tryz.prog 3 H7 (fun H8 w =>
    bin Tryz.prog BinOp.leq 3 false true H8 (Value.int IntKind.i64 1073741824) (fun H9 w =>
    k69 [H7, H8, H9] w) w) w) w)
    (fun k => k [undef, undef, undef] w) (fun us69 w =>
    pick H5 (gd us69 2) (Value.bool false) (fun I0 w =>
    gsel I0 true (fun k74 =>
    fldA Tryz.prog 27 s1 2 (fun I2 w =>
    fldA Tryz.prog 24 I2 0 (fun I3 w =>
    ld Tryz.prog 5 I3 (fun I4 w =>
    bin Tryz.prog BinOp.leq 5 false true I4 (Value.int IntKind.u8 7) (fun I5 w =>
    k74 [I2, I3, I4, I5] w) w) w) w) w)
    (fun k => k [undef, undef, undef, undef] w) (fun us74 w =>
    pick I0 (gd us74 3) (Value.bool false) (fun I6 w =>
    gsel I6 true (fun k80 =>
    fldA Tryz.prog 27 s1 2 (fun I8 w =>
    fldA Tryz.prog 24 I8 3 (fun I9 w =>
    ld Tryz.prog 2 I9 (fun J0 w =>
    bin Tryz.prog BinOp.geq 2 false true J0 (Value.int IntKind.i64 (-1)) (fun J1 w =>
    k80 [I8, I9, J0, J1] w) w) w) w) w)
    (fun k => k [undef, undef, undef, undef] w) (fun us80 w =>
    pick I6 (gd us80 3) (Value.bool false) (fun J2 w =>
    gsel J2 true (fun k86 =>
    fldA Tryz.prog 27 s1 2 (fun J4 w =>
    fldA Tryz.prog 24 J4 3 (fun J5 w =>
    ld Tryz.prog 2 J5 (fun J6 w =>
    bin Tryz.prog BinOp.leq 2 false true J6 (Value.int IntKind.i64 1152921504606846976) (fun J7 w =>
    k86 [J4, J5, J6, J7] w) w) w) w) w)
    (fun k => k [undef, undef, undef, undef] w) (fun us86 w =>
    pick J2 (gd us86 3) (Value.bool false) (fun J8 w =>
    gsel J8 true (fun k92 =>
    fldA Tryz.prog 27 s1 6 (fun L0 w =>
    ld Tryz.prog 25 L0 (fun L1 w =>
    blt Tryz.prog Builtin.len #[25] 3 #[false] #[L1] (fun L2 w =>
    bin Tryz.prog BinOp.leq 3 false true L2 (Value.int IntKind.i64 255) (fun L3 w =>
    k92 [L0, L1, L2, L3] w) w) w) w) w)
    (fun k => k [undef, undef, undef, undef] w) (fun us92 w =>
    pick J8 (gd us92 3) (Value.bool false) (fun L4 w =>
    K L4 w) w)) w)) w)) w)) w)) w)) w)) w) w) w) :
    leatref29_May_P2 K (s0::s1::A0::l3::i4::i5::A4::A5::A6::A7::A8::A9::C0::C1::C2::C3::C4::C5::C6::C7::C8::C9::D0::D1::D2::D3::D4::D5::D6::D7::D8::D9::E0::E1::E2::E3::E4::E5::E6::E7::E8::E9::F0::F1::F2::F3::F4::F5::F6::F7::F8::F9::G0::G1::G2::G3::G4::G5::G6::G7::G8::G9::H0::H1::H2::H3::H4::H5::H6::H7::H8::H9::I0::I1::I2::I3::I4::I5::I6::I7::I8::I9::J0::J1::J2::J3::J4::J5::J6::J7::J8::J9::L0::L1::L2::L3::L4::[]) w := by
  delta leatref29_May_P2
  exact Eq.mp (congrArg (fun c => cCode Tryz.prog c (retK Tryz.prog Tryz.f10.results.toList K) (fun _ _ _ => False) (retK Tryz.prog Tryz.f10.results.toList K) (s0::s1::A0::l3::i4::i5::A4::A5::A6::A7::A8::A9::C0::C1::C2::C3::C4::C5::C6::C7::C8::C9::D0::D1::D2::D3::D4::D5::D6::D7::D8::D9::E0::E1::E2::E3::E4::E5::E6::E7::E8::E9::F0::F1::F2::F3::F4::F5::F6::F7::F8::F9::G0::G1::G2::G3::G4::G5::G6::G7::G8::G9::H0::H1::H2::H3::H4::H5::H6::H7::H8::H9::I0::I1::I2::I3::I4::I5::I6::I7::I8::I9::J0::J1::J2::J3::J4::J5::J6::J7::J8::J9::L0::L1::L2::L3::L4::[]) w) (by kernel_rfl : (cd Tryz.f10 [1, 1, 1, 1]) = (cd Tryz.f10 [1, 1, 1, 1]))) (leatref29_May_P2_k h)
attribute [irreducible] leatref29_May_P1 leatref29_May_L1 leatref29_May_P2 leatref29_May_L2


end
theorem leatref29_number_k {K : KV} {b0 n1 k_2 : Value} {w : World}
    (h : call Tryz.prog 44 #[b0, n1, k_2] (fun C1 w =>
    ext Tryz.prog C1 0 (fun C2 w =>
    ext Tryz.prog C1 1 (fun C3 w =>
    K C2 w) w) w) w) :
    cCode Tryz.prog (cd Tryz.f28 []) (retK Tryz.prog Tryz.f28.results.toList K) (fun _ _ _ => False) (retK Tryz.prog Tryz.f28.results.toList K) [b0, n1, k_2, undef, undef, undef, undef, undef, undef, undef, undef, undef, undef, undef, undef, undef, undef] w := Eq.mp (by kernel_rfl) h

theorem leatref29_number_in {K : KV} {b0 n1 k_2 : Value} {w : World}
    (h : call Tryz.prog 44 #[b0, n1, k_2] (fun C1 w =>
    ext Tryz.prog C1 0 (fun C2 w =>
    ext Tryz.prog C1 1 (fun C3 w =>
    K C2 w) w) w) w) :
    Gives Tryz.prog 28 #[b0, n1, k_2] w K := enter' Tryz.func28 (by kernel_rfl) (Eq.mp (congrArg (fun c => cCode Tryz.prog c (retK Tryz.prog Tryz.f28.results.toList K) (fun _ _ _ => False) (retK Tryz.prog Tryz.f28.results.toList K) [b0, n1, k_2, undef, undef, undef, undef, undef, undef, undef, undef, undef, undef, undef, undef, undef, undef] w) (by kernel_rfl : (cd Tryz.f28 []) = (cd Tryz.f28 []))) (leatref29_number_k h))
theorem leatref29_number_go : isGo Tryz.prog 28 := ⟨_, Tryz.func28, by kernel_rfl, by kernel_rfl⟩

def leatref29_Put_A1 (K : KV) : KE := cCode Tryz.prog (cd Tryz.f11 [1, 1, 1, 1, 1]) (retK Tryz.prog Tryz.f11.results.toList K) (fun _ _ _ => False) (retK Tryz.prog Tryz.f11.results.toList K)
def leatref29_Put_A2 (K : KV) : KE := cCode Tryz.prog (cd Tryz.f11 [1, 1, 1, 1, 1, 1, 1, 1, 1]) (retK Tryz.prog Tryz.f11.results.toList K) (fun _ _ _ => False) (retK Tryz.prog Tryz.f11.results.toList K)
def leatref29_Put_A3 (K : KV) : KE := cCode Tryz.prog (cd Tryz.f11 [1, 1, 1, 1, 1, 1, 1, 1, 1, 1, 1, 1, 1]) (retK Tryz.prog Tryz.f11.results.toList K) (fun _ _ _ => False) (retK Tryz.prog Tryz.f11.results.toList K)
def leatref29_Put_P1 (K : KV) : KE := cCode Tryz.prog (cd Tryz.f11 [1, 1, 1, 1, 1, 1, 1, 1, 1, 1, 1, 1, 1, 1, 1]) (retK Tryz.prog Tryz.f11.results.toList K) (fun _ _ _ => False) (retK Tryz.prog Tryz.f11.results.toList K)
def leatref29_Put_L1 (K : KV) : KE := cCode Tryz.prog (cd Tryz.f11 [1, 1, 1, 1, 1, 1, 1, 1, 1, 1, 1, 1, 1, 1, 0, 1, 0]) (leatref29_Put_P1 K) (fun i => @Bool.rec (fun _ => KE) ((fun _ _ _ => False) i) (leatref29_Put_P1 K) (Nat.beq i 0)) (retK Tryz.prog Tryz.f11.results.toList K)
theorem leatref29_Put_k {K : KV} (xc0 : Code) {s0 : Value} {w : World}
    (h : box Tryz.prog 27 s0 (fun s1 w =>
    ld Tryz.prog 27 s1 (fun A3 w =>
    call Tryz.prog 10 #[A3] (fun A4 w =>
    un Tryz.prog UnOp.not A4 (fun A5 w =>
    cond A5
      (K (Value.slice none 0 0) w)
      (fldA Tryz.prog 27 s1 0 (fun A6 w =>
    ld Tryz.prog 5 A6 (fun A7 w =>
    conv Tryz.prog 5 22 A7 (fun A8 w =>
    call Tryz.prog 28 #[(Value.slice none 0 0), A8, (Value.int IntKind.i64 1)] (fun A9 w =>
    fldA Tryz.prog 27 s1 1 (fun C1 w =>
    ld Tryz.prog 3 C1 (fun C2 w =>
    bin Tryz.prog BinOp.add 3 false true C2 (Value.int IntKind.i64 1) (fun C3 w =>
    conv Tryz.prog 3 22 C3 (fun C4 w =>
    call Tryz.prog 28 #[A9, C4, (Value.int IntKind.i64 2)] (fun C5 w =>
    fldA Tryz.prog 27 s1 4 (fun C7 w =>
    ld Tryz.prog 3 C7 (fun C8 w =>
    bin Tryz.prog BinOp.add 3 false true C8 (Value.int IntKind.i64 1) (fun C9 w =>
    conv Tryz.prog 3 22 C9 (fun D0 w =>
    call Tryz.prog 28 #[C5, D0, (Value.int IntKind.i64 2)] (fun D1 w =>
    (cCode Tryz.prog xc0 (retK Tryz.prog Tryz.f11.results.toList K) (fun _ _ _ => False) (retK Tryz.prog Tryz.f11.results.toList K)) (s0::s1::(Value.slice none 0 0)::D1::undef::A3::A4::A5::A6::A7::A8::A9::A9::C1::C2::C3::C4::C5::C5::C7::C8::C9::D0::D1::undef::undef::undef::undef::undef::undef::undef::undef::undef::undef::undef::undef::undef::undef::undef::undef::undef::undef::undef::undef::undef::undef::undef::undef::undef::undef::undef::undef::undef::undef::undef::undef::undef::undef::undef::undef::undef::undef::undef::undef::undef::undef::undef::undef::undef::undef::undef::undef::undef::undef::undef::undef::undef::undef::undef::undef::undef::undef::undef::undef::undef::undef::undef::undef::undef::undef::undef::undef::undef::undef::[]) w) w) w) w) w) w) w) w) w) w) w) w) w) w) w)) w) w) w) w) :
    cCode Tryz.prog (rep [1, 1, 1, 1, 1] xc0 (cd Tryz.f11 [])) (retK Tryz.prog Tryz.f11.results.toList K) (fun _ _ _ => False) (retK Tryz.prog Tryz.f11.results.toList K) (s0::undef::undef::undef::undef::undef::undef::undef::undef::undef::undef::undef::undef::undef::undef::undef::undef::undef::undef::undef::undef::undef::undef::undef::undef::undef::undef::undef::undef::undef::undef::undef::undef::undef::undef::undef::undef::undef::undef::undef::undef::undef::undef::undef::undef::undef::undef::undef::undef::undef::undef::undef::undef::undef::undef::undef::undef::undef::undef::undef::undef::undef::undef::undef::undef::undef::undef::undef::undef::undef::undef::undef::undef::undef::undef::undef::undef::undef::undef::undef::undef::undef::undef::undef::undef::undef::undef::undef::undef::undef::undef::undef::undef::undef::[]) w := Eq.mp (by kernel_rfl) h

theorem leatref29_Put_in {K : KV} {s0 : Value} {w : World}
    (h : box Tryz.prog 27 s0 (fun s1 w =>
    ld Tryz.prog 27 s1 (fun A3 w =>
    call Tryz.prog 10 #[A3] (fun A4 w =>
    un Tryz.prog UnOp.not A4 (fun A5 w =>
    cond A5
      (K (Value.slice none 0 0) w)
      (fldA Tryz.prog 27 s1 0 (fun A6 w =>
    ld Tryz.prog 5 A6 (fun A7 w =>
    conv Tryz.prog 5 22 A7 (fun A8 w =>
    call Tryz.prog 28 #[(Value.slice none 0 0), A8, (Value.int IntKind.i64 1)] (fun A9 w =>
    fldA Tryz.prog 27 s1 1 (fun C1 w =>
    ld Tryz.prog 3 C1 (fun C2 w =>
    bin Tryz.prog BinOp.add 3 false true C2 (Value.int IntKind.i64 1) (fun C3 w =>
    conv Tryz.prog 3 22 C3 (fun C4 w =>
    call Tryz.prog 28 #[A9, C4, (Value.int IntKind.i64 2)] (fun C5 w =>
    fldA Tryz.prog 27 s1 4 (fun C7 w =>
    ld Tryz.prog 3 C7 (fun C8 w =>
    bin Tryz.prog BinOp.add 3 false true C8 (Value.int IntKind.i64 1) (fun C9 w =>
    conv Tryz.prog 3 22 C9 (fun D0 w =>
    call Tryz.prog 28 #[C5, D0, (Value.int IntKind.i64 2)] (fun D1 w =>
    (leatref29_Put_A1 K) (s0::s1::(Value.slice none 0 0)::D1::undef::A3::A4::A5::A6::A7::A8::A9::A9::C1::C2::C3::C4::C5::C5::C7::C8::C9::D0::D1::undef::undef::undef::undef::undef::undef::undef::undef::undef::undef::undef::undef::undef::undef::undef::undef::undef::undef::undef::undef::undef::undef::undef::undef::undef::undef::undef::undef::undef::undef::undef::undef::undef::undef::undef::undef::undef::undef::undef::undef::undef::undef::undef::undef::undef::undef::undef::undef::undef::undef::undef::undef::undef::undef::undef::undef::undef::undef::undef::undef::undef::undef::undef::undef::undef::undef::undef::undef::undef::undef::[]) w) w) w) w) w) w) w) w) w) w) w) w) w) w) w)) w) w) w) w) :
    Gives Tryz.prog 11 #[s0] w K := enter' Tryz.func11 (by kernel_rfl) (Eq.mp (congrArg (fun c => cCode Tryz.prog c (retK Tryz.prog Tryz.f11.results.toList K) (fun _ _ _ => False) (retK Tryz.prog Tryz.f11.results.toList K) (s0::undef::undef::undef::undef::undef::undef::undef::undef::undef::undef::undef::undef::undef::undef::undef::undef::undef::undef::undef::undef::undef::undef::undef::undef::undef::undef::undef::undef::undef::undef::undef::undef::undef::undef::undef::undef::undef::undef::undef::undef::undef::undef::undef::undef::undef::undef::undef::undef::undef::undef::undef::undef::undef::undef::undef::undef::undef::undef::undef::undef::undef::undef::undef::undef::undef::undef::undef::undef::undef::undef::undef::undef::undef::undef::undef::undef::undef::undef::undef::undef::undef::undef::undef::undef::undef::undef::undef::undef::undef::undef::undef::undef::undef::[]) w) (by kernel_rfl : (rep [1, 1, 1, 1, 1] (cd Tryz.f11 [1, 1, 1, 1, 1]) (cd Tryz.f11 [])) = (cd Tryz.f11 []))) (leatref29_Put_k (cd Tryz.f11 [1, 1, 1, 1, 1]) h))
theorem leatref29_Put_go : isGo Tryz.prog 11 := ⟨_, Tryz.func11, by kernel_rfl, by kernel_rfl⟩

section
variable {s0 s1 A0 b3 i4 A3 A4 A5 A6 A7 A8 A9 C0 C1 C2 C3 C4 C5 C6 C7 C8 C9 D0 D1 D2 D3 D4 D5 D6 D7 D8 D9 E0 E1 E2 E3 E4 E5 E6 E7 E8 E9 F0 F1 F2 F3 F4 F5 F6 F7 F8 F9 G0 G1 G2 G3 G4 G5 G6 G7 G8 G9 H0 H1 H2 H3 H4 H5 H6 H7 H8 H9 I0 I1 I2 I3 I4 I5 I6 I7 I8 I9 J0 J1 J2 J3 J4 J5 J6 J7 J8 J9 L0 L1 : Value}
theorem leatref29_Put_A1_k {K : KV} (xc0 : Code) {w : World}
    (h : fldA Tryz.prog 27 s1 3 (fun D3 w =>
    ld Tryz.prog 3 D3 (fun D4 w =>
    bin Tryz.prog BinOp.add 3 false true D4 (Value.int IntKind.i64 1) (fun D5 w =>
    conv Tryz.prog 3 22 D5 (fun D6 w =>
    call Tryz.prog 28 #[b3, D6, (Value.int IntKind.i64 2)] (fun D7 w =>
    fldA Tryz.prog 27 s1 5 (fun D9 w =>
    ld Tryz.prog 3 D9 (fun E0 w =>
    bin Tryz.prog BinOp.add 3 false true E0 (Value.int IntKind.i64 1) (fun E1 w =>
    conv Tryz.prog 3 22 E1 (fun E2 w =>
    call Tryz.prog 28 #[D7, E2, (Value.int IntKind.i64 4)] (fun E3 w =>
    fldA Tryz.prog 27 s1 2 (fun E5 w =>
    fldA Tryz.prog 24 E5 0 (fun E6 w =>
    ld Tryz.prog 5 E6 (fun E7 w =>
    conv Tryz.prog 5 22 E7 (fun E8 w =>
    call Tryz.prog 28 #[E3, E8, (Value.int IntKind.i64 1)] (fun E9 w =>
    fldA Tryz.prog 27 s1 2 (fun F1 w =>
    fldA Tryz.prog 24 F1 1 (fun F2 w =>
    ld Tryz.prog 22 F2 (fun F3 w =>
    call Tryz.prog 28 #[E9, F3, (Value.int IntKind.i64 8)] (fun F4 w =>
    (cCode Tryz.prog xc0 (retK Tryz.prog Tryz.f11.results.toList K) (fun _ _ _ => False) (retK Tryz.prog Tryz.f11.results.toList K)) (s0::s1::A0::F4::i4::A3::A4::A5::A6::A7::A8::A9::C0::C1::C2::C3::C4::C5::C6::C7::C8::C9::D0::D1::b3::D3::D4::D5::D6::D7::D7::D9::E0::E1::E2::E3::E3::E5::E6::E7::E8::E9::E9::F1::F2::F3::F4::F5::F6::F7::F8::F9::G0::G1::G2::G3::G4::G5::G6::G7::G8::G9::H0::H1::H2::H3::H4::H5::H6::H7::H8::H9::I0::I1::I2::I3::I4::I5::I6::I7::I8::I9::J0::J1::J2::J3::J4::J5::J6::J7::J8::J9::L0::L1::[]) w) w) w) w) w) w) w) w) w) w) w) w) w) w) w) w) w) w) w) w) :
    cCode Tryz.prog (rep [1, 1, 1, 1] xc0 (cd Tryz.f11 [1, 1, 1, 1, 1])) (retK Tryz.prog Tryz.f11.results.toList K) (fun _ _ _ => False) (retK Tryz.prog Tryz.f11.results.toList K) (s0::s1::A0::b3::i4::A3::A4::A5::A6::A7::A8::A9::C0::C1::C2::C3::C4::C5::C6::C7::C8::C9::D0::D1::D2::D3::D4::D5::D6::D7::D8::D9::E0::E1::E2::E3::E4::E5::E6::E7::E8::E9::F0::F1::F2::F3::F4::F5::F6::F7::F8::F9::G0::G1::G2::G3::G4::G5::G6::G7::G8::G9::H0::H1::H2::H3::H4::H5::H6::H7::H8::H9::I0::I1::I2::I3::I4::I5::I6::I7::I8::I9::J0::J1::J2::J3::J4::J5::J6::J7::J8::J9::L0::L1::[]) w := Eq.mp (by kernel_rfl) h

theorem leatref29_Put_A1_r {K : KV} {w : World}
    (h : fldA Tryz.prog 27 s1 3 (fun D3 w =>
    ld Tryz.prog 3 D3 (fun D4 w =>
    bin Tryz.prog BinOp.add 3 false true D4 (Value.int IntKind.i64 1) (fun D5 w =>
    conv Tryz.prog 3 22 D5 (fun D6 w =>
    call Tryz.prog 28 #[b3, D6, (Value.int IntKind.i64 2)] (fun D7 w =>
    fldA Tryz.prog 27 s1 5 (fun D9 w =>
    ld Tryz.prog 3 D9 (fun E0 w =>
    bin Tryz.prog BinOp.add 3 false true E0 (Value.int IntKind.i64 1) (fun E1 w =>
    conv Tryz.prog 3 22 E1 (fun E2 w =>
    call Tryz.prog 28 #[D7, E2, (Value.int IntKind.i64 4)] (fun E3 w =>
    fldA Tryz.prog 27 s1 2 (fun E5 w =>
    fldA Tryz.prog 24 E5 0 (fun E6 w =>
    ld Tryz.prog 5 E6 (fun E7 w =>
    conv Tryz.prog 5 22 E7 (fun E8 w =>
    call Tryz.prog 28 #[E3, E8, (Value.int IntKind.i64 1)] (fun E9 w =>
    fldA Tryz.prog 27 s1 2 (fun F1 w =>
    fldA Tryz.prog 24 F1 1 (fun F2 w =>
    ld Tryz.prog 22 F2 (fun F3 w =>
    call Tryz.prog 28 #[E9, F3, (Value.int IntKind.i64 8)] (fun F4 w =>
    (leatref29_Put_A2 K) (s0::s1::A0::F4::i4::A3::A4::A5::A6::A7::A8::A9::C0::C1::C2::C3::C4::C5::C6::C7::C8::C9::D0::D1::b3::D3::D4::D5::D6::D7::D7::D9::E0::E1::E2::E3::E3::E5::E6::E7::E8::E9::E9::F1::F2::F3::F4::F5::F6::F7::F8::F9::G0::G1::G2::G3::G4::G5::G6::G7::G8::G9::H0::H1::H2::H3::H4::H5::H6::H7::H8::H9::I0::I1::I2::I3::I4::I5::I6::I7::I8::I9::J0::J1::J2::J3::J4::J5::J6::J7::J8::J9::L0::L1::[]) w) w) w) w) w) w) w) w) w) w) w) w) w) w) w) w) w) w) w) w) :
    leatref29_Put_A1 K (s0::s1::A0::b3::i4::A3::A4::A5::A6::A7::A8::A9::C0::C1::C2::C3::C4::C5::C6::C7::C8::C9::D0::D1::D2::D3::D4::D5::D6::D7::D8::D9::E0::E1::E2::E3::E4::E5::E6::E7::E8::E9::F0::F1::F2::F3::F4::F5::F6::F7::F8::F9::G0::G1::G2::G3::G4::G5::G6::G7::G8::G9::H0::H1::H2::H3::H4::H5::H6::H7::H8::H9::I0::I1::I2::I3::I4::I5::I6::I7::I8::I9::J0::J1::J2::J3::J4::J5::J6::J7::J8::J9::L0::L1::[]) w := by
  delta leatref29_Put_A1
  exact Eq.mp (congrArg (fun c => cCode Tryz.prog c (retK Tryz.prog Tryz.f11.results.toList K) (fun _ _ _ => False) (retK Tryz.prog Tryz.f11.results.toList K) (s0::s1::A0::b3::i4::A3::A4::A5::A6::A7::A8::A9::C0::C1::C2::C3::C4::C5::C6::C7::C8::C9::D0::D1::D2::D3::D4::D5::D6::D7::D8::D9::E0::E1::E2::E3::E4::E5::E6::E7::E8::E9::F0::F1::F2::F3::F4::F5::F6::F7::F8::F9::G0::G1::G2::G3::G4::G5::G6::G7::G8::G9::H0::H1::H2::H3::H4::H5::H6::H7::H8::H9::I0::I1::I2::I3::I4::I5::I6::I7::I8::I9::J0::J1::J2::J3::J4::J5::J6::J7::J8::J9::L0::L1::[]) w) (by kernel_rfl : (rep [1, 1, 1, 1] (cd Tryz.f11 [1, 1, 1, 1, 1, 1, 1, 1, 1]) (cd Tryz.f11 [1, 1, 1, 1, 1])) = (cd Tryz.f11 [1, 1, 1, 1, 1]))) (leatref29_Put_A1_k (cd Tryz.f11 [1, 1, 1, 1, 1, 1, 1, 1, 1]) h)

theorem leatref29_Put_A2_k {K : KV} (xc0 : Code) {w : World}
    (h : fldA Tryz.prog 27 s1 2 (fun F6 w =>
    fldA Tryz.prog 24 F6 2 (fun F7 w =>
    ld Tryz.prog 3 F7 (fun F8 w =>
    bin Tryz.prog BinOp.add 3 false true F8 (Value.int IntKind.i64 1) (fun F9 w =>
    conv Tryz.prog 3 22 F9 (fun G0 w =>
    call Tryz.prog 28 #[b3, G0, (Value.int IntKind.i64 2)] (fun G1 w =>
    fldA Tryz.prog 27 s1 2 (fun G3 w =>
    fldA Tryz.prog 24 G3 3 (fun G4 w =>
    ld Tryz.prog 2 G4 (fun G5 w =>
    bin Tryz.prog BinOp.add 2 false true G5 (Value.int IntKind.i64 1) (fun G6 w =>
    conv Tryz.prog 2 22 G6 (fun G7 w =>
    call Tryz.prog 28 #[G1, G7, (Value.int IntKind.i64 8)] (fun G8 w =>
    fldA Tryz.prog 27 s1 2 (fun H0 w =>
    fldA Tryz.prog 24 H0 4 (fun H1 w =>
    ld Tryz.prog 22 H1 (fun H2 w =>
    call Tryz.prog 28 #[G8, H2, (Value.int IntKind.i64 8)] (fun H3 w =>
    fldA Tryz.prog 27 s1 2 (fun H5 w =>
    fldA Tryz.prog 24 H5 5 (fun H6 w =>
    ld Tryz.prog 22 H6 (fun H7 w =>
    call Tryz.prog 28 #[H3, H7, (Value.int IntKind.i64 8)] (fun H8 w =>
    (cCode Tryz.prog xc0 (retK Tryz.prog Tryz.f11.results.toList K) (fun _ _ _ => False) (retK Tryz.prog Tryz.f11.results.toList K)) (s0::s1::A0::H8::i4::A3::A4::A5::A6::A7::A8::A9::C0::C1::C2::C3::C4::C5::C6::C7::C8::C9::D0::D1::D2::D3::D4::D5::D6::D7::D8::D9::E0::E1::E2::E3::E4::E5::E6::E7::E8::E9::F0::F1::F2::F3::F4::b3::F6::F7::F8::F9::G0::G1::G1::G3::G4::G5::G6::G7::G8::G8::H0::H1::H2::H3::H3::H5::H6::H7::H8::H9::I0::I1::I2::I3::I4::I5::I6::I7::I8::I9::J0::J1::J2::J3::J4::J5::J6::J7::J8::J9::L0::L1::[]) w) w) w) w) w) w) w) w) w) w) w) w) w) w) w) w) w) w) w) w) w) :
    cCode Tryz.prog (rep [1, 1, 1, 1] xc0 (cd Tryz.f11 [1, 1, 1, 1, 1, 1, 1, 1, 1])) (retK Tryz.prog Tryz.f11.results.toList K) (fun _ _ _ => False) (retK Tryz.prog Tryz.f11.results.toList K) (s0::s1::A0::b3::i4::A3::A4::A5::A6::A7::A8::A9::C0::C1::C2::C3::C4::C5::C6::C7::C8::C9::D0::D1::D2::D3::D4::D5::D6::D7::D8::D9::E0::E1::E2::E3::E4::E5::E6::E7::E8::E9::F0::F1::F2::F3::F4::F5::F6::F7::F8::F9::G0::G1::G2::G3::G4::G5::G6::G7::G8::G9::H0::H1::H2::H3::H4::H5::H6::H7::H8::H9::I0::I1::I2::I3::I4::I5::I6::I7::I8::I9::J0::J1::J2::J3::J4::J5::J6::J7::J8::J9::L0::L1::[]) w := Eq.mp (by kernel_rfl) h

theorem leatref29_Put_A2_r {K : KV} {w : World}
    (h : fldA Tryz.prog 27 s1 2 (fun F6 w =>
    fldA Tryz.prog 24 F6 2 (fun F7 w =>
    ld Tryz.prog 3 F7 (fun F8 w =>
    bin Tryz.prog BinOp.add 3 false true F8 (Value.int IntKind.i64 1) (fun F9 w =>
    conv Tryz.prog 3 22 F9 (fun G0 w =>
    call Tryz.prog 28 #[b3, G0, (Value.int IntKind.i64 2)] (fun G1 w =>
    fldA Tryz.prog 27 s1 2 (fun G3 w =>
    fldA Tryz.prog 24 G3 3 (fun G4 w =>
    ld Tryz.prog 2 G4 (fun G5 w =>
    bin Tryz.prog BinOp.add 2 false true G5 (Value.int IntKind.i64 1) (fun G6 w =>
    conv Tryz.prog 2 22 G6 (fun G7 w =>
    call Tryz.prog 28 #[G1, G7, (Value.int IntKind.i64 8)] (fun G8 w =>
    fldA Tryz.prog 27 s1 2 (fun H0 w =>
    fldA Tryz.prog 24 H0 4 (fun H1 w =>
    ld Tryz.prog 22 H1 (fun H2 w =>
    call Tryz.prog 28 #[G8, H2, (Value.int IntKind.i64 8)] (fun H3 w =>
    fldA Tryz.prog 27 s1 2 (fun H5 w =>
    fldA Tryz.prog 24 H5 5 (fun H6 w =>
    ld Tryz.prog 22 H6 (fun H7 w =>
    call Tryz.prog 28 #[H3, H7, (Value.int IntKind.i64 8)] (fun H8 w =>
    (leatref29_Put_A3 K) (s0::s1::A0::H8::i4::A3::A4::A5::A6::A7::A8::A9::C0::C1::C2::C3::C4::C5::C6::C7::C8::C9::D0::D1::D2::D3::D4::D5::D6::D7::D8::D9::E0::E1::E2::E3::E4::E5::E6::E7::E8::E9::F0::F1::F2::F3::F4::b3::F6::F7::F8::F9::G0::G1::G1::G3::G4::G5::G6::G7::G8::G8::H0::H1::H2::H3::H3::H5::H6::H7::H8::H9::I0::I1::I2::I3::I4::I5::I6::I7::I8::I9::J0::J1::J2::J3::J4::J5::J6::J7::J8::J9::L0::L1::[]) w) w) w) w) w) w) w) w) w) w) w) w) w) w) w) w) w) w) w) w) w) :
    leatref29_Put_A2 K (s0::s1::A0::b3::i4::A3::A4::A5::A6::A7::A8::A9::C0::C1::C2::C3::C4::C5::C6::C7::C8::C9::D0::D1::D2::D3::D4::D5::D6::D7::D8::D9::E0::E1::E2::E3::E4::E5::E6::E7::E8::E9::F0::F1::F2::F3::F4::F5::F6::F7::F8::F9::G0::G1::G2::G3::G4::G5::G6::G7::G8::G9::H0::H1::H2::H3::H4::H5::H6::H7::H8::H9::I0::I1::I2::I3::I4::I5::I6::I7::I8::I9::J0::J1::J2::J3::J4::J5::J6::J7::J8::J9::L0::L1::[]) w := by
  delta leatref29_Put_A2
  exact Eq.mp (congrArg (fun c => cCode Tryz.prog c (retK Tryz.prog Tryz.f11.results.toList K) (fun _ _ _ => False) (retK Tryz.prog Tryz.f11.results.toList K) (s0::s1::A0::b3::i4::A3::A4::A5::A6::A7::A8::A9::C0::C1::C2::C3::C4::C5::C6::C7::C8::C9::D0::D1::D2::D3::D4::D5::D6::D7::D8::D9::E0::E1::E2::E3::E4::E5::E6::E7::E8::E9::F0::F1::F2::F3::F4::F5::F6::F7::F8::F9::G0::G1::G2::G3::G4::G5::G6::G7::G8::G9::H0::H1::H2::H3::H4::H5::H6::H7::H8::H9::I0::I1::I2::I3::I4::I5::I6::I7::I8::I9::J0::J1::J2::J3::J4::J5::J6::J7::J8::J9::L0::L1::[]) w) (by kernel_rfl : (rep [1, 1, 1, 1] (cd Tryz.f11 [1, 1, 1, 1, 1, 1, 1, 1, 1, 1, 1, 1, 1]) (cd Tryz.f11 [1, 1, 1, 1, 1, 1, 1, 1, 1])) = (cd Tryz.f11 [1, 1, 1, 1, 1, 1, 1, 1, 1]))) (leatref29_Put_A2_k (cd Tryz.f11 [1, 1, 1, 1, 1, 1, 1, 1, 1, 1, 1, 1, 1]) h)

theorem leatref29_Put_A3_k {K : KV} {w : World}
    (h : fldA Tryz.prog 27 s1 6 (fun I0 w =>
    ld Tryz.prog 25 I0 (fun I1 w =>
    blt Tryz.prog Builtin.len #[25] 3 #[false] #[I1] (fun I2 w =>
    conv Tryz.prog 3 22 I2 (fun I3 w =>
    call Tryz.prog 28 #[b3, I3, (Value.int IntKind.i64 1)] (fun I4 w =>
    (cCode Tryz.prog (cd Tryz.f11 [1, 1, 1, 1, 1, 1, 1, 1, 1, 1, 1, 1, 1, 1, 0, 1, 0]) (cCode Tryz.prog (cd Tryz.f11 [1, 1, 1, 1, 1, 1, 1, 1, 1, 1, 1, 1, 1, 1, 1]) (retK Tryz.prog Tryz.f11.results.toList K) (fun _ _ _ => False) (retK Tryz.prog Tryz.f11.results.toList K)) (fun i => @Bool.rec (fun _ => KE) ((fun _ _ _ => False) i) (cCode Tryz.prog (cd Tryz.f11 [1, 1, 1, 1, 1, 1, 1, 1, 1, 1, 1, 1, 1, 1, 1]) (retK Tryz.prog Tryz.f11.results.toList K) (fun _ _ _ => False) (retK Tryz.prog Tryz.f11.results.toList K)) (Nat.beq i 0)) (retK Tryz.prog Tryz.f11.results.toList K)) (s0::s1::A0::I4::(Value.int IntKind.i64 0)::A3::A4::A5::A6::A7::A8::A9::C0::C1::C2::C3::C4::C5::C6::C7::C8::C9::D0::D1::D2::D3::D4::D5::D6::D7::D8::D9::E0::E1::E2::E3::E4::E5::E6::E7::E8::E9::F0::F1::F2::F3::F4::F5::F6::F7::F8::F9::G0::G1::G2::G3::G4::G5::G6::G7::G8::G9::H0::H1::H2::H3::H4::H5::H6::H7::H8::b3::I0::I1::I2::I3::I4::I5::I6::I7::I8::I9::J0::J1::J2::J3::J4::J5::J6::J7::J8::J9::L0::L1::[]) w) w) w) w) w) w) :
    cCode Tryz.prog (cd Tryz.f11 [1, 1, 1, 1, 1, 1, 1, 1, 1, 1, 1, 1, 1]) (retK Tryz.prog Tryz.f11.results.toList K) (fun _ _ _ => False) (retK Tryz.prog Tryz.f11.results.toList K) (s0::s1::A0::b3::i4::A3::A4::A5::A6::A7::A8::A9::C0::C1::C2::C3::C4::C5::C6::C7::C8::C9::D0::D1::D2::D3::D4::D5::D6::D7::D8::D9::E0::E1::E2::E3::E4::E5::E6::E7::E8::E9::F0::F1::F2::F3::F4::F5::F6::F7::F8::F9::G0::G1::G2::G3::G4::G5::G6::G7::G8::G9::H0::H1::H2::H3::H4::H5::H6::H7::H8::H9::I0::I1::I2::I3::I4::I5::I6::I7::I8::I9::J0::J1::J2::J3::J4::J5::J6::J7::J8::J9::L0::L1::[]) w := Eq.mp (by kernel_rfl) h

theorem leatref29_Put_A3_r {K : KV} {w : World}
    (h : fldA Tryz.prog 27 s1 6 (fun I0 w =>
    ld Tryz.prog 25 I0 (fun I1 w =>
    blt Tryz.prog Builtin.len #[25] 3 #[false] #[I1] (fun I2 w =>
    conv Tryz.prog 3 22 I2 (fun I3 w =>
    call Tryz.prog 28 #[b3, I3, (Value.int IntKind.i64 1)] (fun I4 w =>
    (leatref29_Put_L1 K) (s0::s1::A0::I4::(Value.int IntKind.i64 0)::A3::A4::A5::A6::A7::A8::A9::C0::C1::C2::C3::C4::C5::C6::C7::C8::C9::D0::D1::D2::D3::D4::D5::D6::D7::D8::D9::E0::E1::E2::E3::E4::E5::E6::E7::E8::E9::F0::F1::F2::F3::F4::F5::F6::F7::F8::F9::G0::G1::G2::G3::G4::G5::G6::G7::G8::G9::H0::H1::H2::H3::H4::H5::H6::H7::H8::b3::I0::I1::I2::I3::I4::I5::I6::I7::I8::I9::J0::J1::J2::J3::J4::J5::J6::J7::J8::J9::L0::L1::[]) w) w) w) w) w) w) :
    leatref29_Put_A3 K (s0::s1::A0::b3::i4::A3::A4::A5::A6::A7::A8::A9::C0::C1::C2::C3::C4::C5::C6::C7::C8::C9::D0::D1::D2::D3::D4::D5::D6::D7::D8::D9::E0::E1::E2::E3::E4::E5::E6::E7::E8::E9::F0::F1::F2::F3::F4::F5::F6::F7::F8::F9::G0::G1::G2::G3::G4::G5::G6::G7::G8::G9::H0::H1::H2::H3::H4::H5::H6::H7::H8::H9::I0::I1::I2::I3::I4::I5::I6::I7::I8::I9::J0::J1::J2::J3::J4::J5::J6::J7::J8::J9::L0::L1::[]) w := by
  delta leatref29_Put_A3
  exact Eq.mp (congrArg (fun c => cCode Tryz.prog c (retK Tryz.prog Tryz.f11.results.toList K) (fun _ _ _ => False) (retK Tryz.prog Tryz.f11.results.toList K) (s0::s1::A0::b3::i4::A3::A4::A5::A6::A7::A8::A9::C0::C1::C2::C3::C4::C5::C6::C7::C8::C9::D0::D1::D2::D3::D4::D5::D6::D7::D8::D9::E0::E1::E2::E3::E4::E5::E6::E7::E8::E9::F0::F1::F2::F3::F4::F5::F6::F7::F8::F9::G0::G1::G2::G3::G4::G5::G6::G7::G8::G9::H0::H1::H2::H3::H4::H5::H6::H7::H8::H9::I0::I1::I2::I3::I4::I5::I6::I7::I8::I9::J0::J1::J2::J3::J4::J5::J6::J7::J8::J9::L0::L1::[]) w) (by kernel_rfl : (cd Tryz.f11 [1, 1, 1, 1, 1, 1, 1, 1, 1, 1, 1, 1, 1]) = (cd Tryz.f11 [1, 1, 1, 1, 1, 1, 1, 1, 1, 1, 1, 1, 1]))) (leatref29_Put_A3_k h)

end
theorem leatref29_Put_L1_k {K : KV} (B1 : KE) (qc0 : KE) {s0 s1 A0 b3' i4' A3 A4 A5 A6 A7 A8 A9 C0 C1 C2 C3 C4 C5 C6 C7 C8 C9 D0 D1 D2 D3 D4 D5 D6 D7 D8 D9 E0 E1 E2 E3 E4 E5 E6 E7 E8 E9 F0 F1 F2 F3 F4 F5 F6 F7 F8 F9 G0 G1 G2 G3 G4 G5 G6 G7 G8 G9 H0 H1 H2 H3 H4 H5 H6 H7 H8 H9 I0 I1 I2 I3 I4 L1 : Value} {dd : Nat → Value} {w : World}
    (h : fldA Tryz.prog 27 s1 6 (fun I6 w =>
    ld Tryz.prog 25 I6 (fun I7 w =>
    blt Tryz.prog Builtin.len #[25] 3 #[false] #[I7] (fun I8 w =>
    bin Tryz.prog BinOp.lss 3 false false i4' I8 (fun I9 w =>
    cond I9
      (fldA Tryz.prog 27 s1 6 (fun J3 w =>
    ld Tryz.prog 25 J3 (fun J4 w =>
    idxA Tryz.prog 25 J4 i4' (fun J6 w =>
    ld Tryz.prog 3 J6 (fun J7 w =>
    bin Tryz.prog BinOp.add 3 false true J7 (Value.int IntKind.i64 1) (fun J8 w =>
    conv Tryz.prog 3 22 J8 (fun J9 w =>
    call Tryz.prog 28 #[b3', J9, (Value.int IntKind.i64 1)] (fun L0 w =>
    bin Tryz.prog BinOp.add 3 false true i4' (Value.int IntKind.i64 1) (fun J1 w =>
    B1 (s0::s1::A0::L0::J1::A3::A4::A5::A6::A7::A8::A9::C0::C1::C2::C3::C4::C5::C6::C7::C8::C9::D0::D1::D2::D3::D4::D5::D6::D7::D8::D9::E0::E1::E2::E3::E4::E5::E6::E7::E8::E9::F0::F1::F2::F3::F4::F5::F6::F7::F8::F9::G0::G1::G2::G3::G4::G5::G6::G7::G8::G9::H0::H1::H2::H3::H4::H5::H6::H7::H8::H9::I0::I1::I2::I3::I4::i4'::I6::I7::I8::I9::i4'::J1::b3'::J3::J4::i4'::J6::J7::J8::J9::L0::L1::[]) w) w) w) w) w) w) w) w) w)
      (qc0 (s0::s1::A0::b3'::i4'::A3::A4::A5::A6::A7::A8::A9::C0::C1::C2::C3::C4::C5::C6::C7::C8::C9::D0::D1::D2::D3::D4::D5::D6::D7::D8::D9::E0::E1::E2::E3::E4::E5::E6::E7::E8::E9::F0::F1::F2::F3::F4::F5::F6::F7::F8::F9::G0::G1::G2::G3::G4::G5::G6::G7::G8::G9::H0::H1::H2::H3::H4::H5::H6::H7::H8::H9::I0::I1::I2::I3::I4::i4'::I6::I7::I8::I9::(dd 82)::(dd 83)::(dd 84)::(dd 85)::(dd 86)::(dd 87)::(dd 88)::(dd 89)::(dd 90)::(dd 91)::(dd 92)::L1::[]) w)) w) w) w) w) :
    cCode Tryz.prog (cd Tryz.f11 [1, 1, 1, 1, 1, 1, 1, 1, 1, 1, 1, 1, 1, 1, 0, 1, 0, 0]) B1 (fun i => @Bool.rec (fun _ => KE) ((fun _ _ _ => False) i) qc0 (Nat.beq i 0)) (retK Tryz.prog Tryz.f11.results.toList K) (s0::s1::A0::b3'::i4'::A3::A4::A5::A6::A7::A8::A9::C0::C1::C2::C3::C4::C5::C6::C7::C8::C9::D0::D1::D2::D3::D4::D5::D6::D7::D8::D9::E0::E1::E2::E3::E4::E5::E6::E7::E8::E9::F0::F1::F2::F3::F4::F5::F6::F7::F8::F9::G0::G1::G2::G3::G4::G5::G6::G7::G8::G9::H0::H1::H2::H3::H4::H5::H6::H7::H8::H9::I0::I1::I2::I3::I4::(dd 77)::(dd 78)::(dd 79)::(dd 80)::(dd 81)::(dd 82)::(dd 83)::(dd 84)::(dd 85)::(dd 86)::(dd 87)::(dd 88)::(dd 89)::(dd 90)::(dd 91)::(dd 92)::L1::[]) w := Eq.mp (by kernel_rfl) h

section
variable {s0 s1 A0 b3 i4 A3 A4 A5 A6 A7 A8 A9 C0 C1 C2 C3 C4 C5 C6 C7 C8 C9 D0 D1 D2 D3 D4 D5 D6 D7 D8 D9 E0 E1 E2 E3 E4 E5 E6 E7 E8 E9 F0 F1 F2 F3 F4 F5 F6 F7 F8 F9 G0 G1 G2 G3 G4 G5 G6 G7 G8 G9 H0 H1 H2 H3 H4 H5 H6 H7 H8 H9 I0 I1 I2 I3 I4 I5 I6 I7 I8 I9 J0 J1 J2 J3 J4 J5 J6 J7 J8 J9 L0 L1 : Value}
theorem leatref29_Put_L1_r {K : KV} {w : World} (Inv : Value → Value → World → Prop) (μ : Value → Value → World → Nat) (h0 : Inv b3 i4 w)
    (hs : ∀ (b3' i4' : Value) (dd : Nat → Value) (w : World) (m : Nat), Inv b3' i4' w → m = μ b3' i4' w →
    fldA Tryz.prog 27 s1 6 (fun I6 w =>
    ld Tryz.prog 25 I6 (fun I7 w =>
    blt Tryz.prog Builtin.len #[25] 3 #[false] #[I7] (fun I8 w =>
    bin Tryz.prog BinOp.lss 3 false false i4' I8 (fun I9 w =>
    cond I9
      (fldA Tryz.prog 27 s1 6 (fun J3 w =>
    ld Tryz.prog 25 J3 (fun J4 w =>
    idxA Tryz.prog 25 J4 i4' (fun J6 w =>
    ld Tryz.prog 3 J6 (fun J7 w =>
    bin Tryz.prog BinOp.add 3 false true J7 (Value.int IntKind.i64 1) (fun J8 w =>
    conv Tryz.prog 3 22 J8 (fun J9 w =>
    call Tryz.prog 28 #[b3', J9, (Value.int IntKind.i64 1)] (fun L0 w =>
    bin Tryz.prog BinOp.add 3 false true i4' (Value.int IntKind.i64 1) (fun J1 w =>
    (Inv L0 J1 w ∧ μ L0 J1 w < m)) w) w) w) w) w) w) w) w)
      ((leatref29_Put_P1 K) (s0::s1::A0::b3'::i4'::A3::A4::A5::A6::A7::A8::A9::C0::C1::C2::C3::C4::C5::C6::C7::C8::C9::D0::D1::D2::D3::D4::D5::D6::D7::D8::D9::E0::E1::E2::E3::E4::E5::E6::E7::E8::E9::F0::F1::F2::F3::F4::F5::F6::F7::F8::F9::G0::G1::G2::G3::G4::G5::G6::G7::G8::G9::H0::H1::H2::H3::H4::H5::H6::H7::H8::H9::I0::I1::I2::I3::I4::i4'::I6::I7::I8::I9::(dd 82)::(dd 83)::(dd 84)::(dd 85)::(dd 86)::(dd 87)::(dd 88)::(dd 89)::(dd 90)::(dd 91)::(dd 92)::L1::[]) w)) w) w) w) w) :
    leatref29_Put_L1 K (s0::s1::A0::b3::i4::A3::A4::A5::A6::A7::A8::A9::C0::C1::C2::C3::C4::C5::C6::C7::C8::C9::D0::D1::D2::D3::D4::D5::D6::D7::D8::D9::E0::E1::E2::E3::E4::E5::E6::E7::E8::E9::F0::F1::F2::F3::F4::F5::F6::F7::F8::F9::G0::G1::G2::G3::G4::G5::G6::G7::G8::G9::H0::H1::H2::H3::H4::H5::H6::H7::H8::H9::I0::I1::I2::I3::I4::I5::I6::I7::I8::I9::J0::J1::J2::J3::J4::J5::J6::J7::J8::J9::L0::L1::[]) w := by
  refine loop_rule (cd Tryz.f11 [1, 1, 1, 1, 1, 1, 1, 1, 1, 1, 1, 1, 1, 1, 0, 1, 0, 0]) [3, 4, 77, 78, 79, 80, 81, 82, 83, 84, 85, 86, 87, 88, 89, 90, 91, 92] (by kernel_rfl) (fun e2 w2 => Inv (gd e2 3) (gd e2 4) w2) (fun e2 w2 => μ (gd e2 3) (gd e2 4) w2) h0 ?_
  intro e' w' hI
  have h := hs (gd e' 3) (gd e' 4) (fun i => gd e' i) w' _ hI rfl
  have h2 : cCode Tryz.prog (cd Tryz.f11 [1, 1, 1, 1, 1, 1, 1, 1, 1, 1, 1, 1, 1, 1, 0, 1, 0, 0]) (fun e2 w2 => Inv (gd e2 3) (gd e2 4) w2 ∧ μ (gd e2 3) (gd e2 4) w2 < μ (gd e' 3) (gd e' 4) w') (fun i => @Bool.rec (fun _ => KE) ((fun _ _ _ => False) i) (leatref29_Put_P1 K) (Nat.beq i 0)) (retK Tryz.prog Tryz.f11.results.toList K) (s0::s1::A0::(gd e' 3)::(gd e' 4)::A3::A4::A5::A6::A7::A8::A9::C0::C1::C2::C3::C4::C5::C6::C7::C8::C9::D0::D1::D2::D3::D4::D5::D6::D7::D8::D9::E0::E1::E2::E3::E4::E5::E6::E7::E8::E9::F0::F1::F2::F3::F4::F5::F6::F7::F8::F9::G0::G1::G2::G3::G4::G5::G6::G7::G8::G9::H0::H1::H2::H3::H4::H5::H6::H7::H8::H9::I0::I1::I2::I3::I4::(gd e' 77)::(gd e' 78)::(gd e' 79)::(gd e' 80)::(gd e' 81)::(gd e' 82)::(gd e' 83)::(gd e' 84)::(gd e' 85)::(gd e' 86)::(gd e' 87)::(gd e' 88)::(gd e' 89)::(gd e' 90)::(gd e' 91)::(gd e' 92)::L1::[]) w' := leatref29_Put_L1_k (fun e2 w2 => Inv (gd e2 3) (gd e2 4) w2 ∧ μ (gd e2 3) (gd e2 4) w2 < μ (gd e' 3) (gd e' 4) w') (leatref29_Put_P1 K) (Eq.mp (by kernel_rfl) h)
  exact Eq.mp (by kernel_rfl) h2

theorem leatref29_Put_P1_k {K : KV} {w : World}
    (h : K b3 w) :
    cCode Tryz.prog (cd Tryz.f11 [1, 1, 1, 1, 1, 1, 1, 1, 1, 1, 1, 1, 1, 1, 1]) (retK Tryz.prog Tryz.f11.results.toList K) (fun _ _ _ => False) (retK Tryz.prog Tryz.f11.results.toList K) (s0::s1::A0::b3::i4::A3::A4::A5::A6::A7::A8::A9::C0::C1::C2::C3::C4::C5::C6::C7::C8::C9::D0::D1::D2::D3::D4::D5::D6::D7::D8::D9::E0::E1::E2::E3::E4::E5::E6::E7::E8::E9::F0::F1::F2::F3::F4::F5::F6::F7::F8::F9::G0::G1::G2::G3::G4::G5::G6::G7::G8::G9::H0::H1::H2::H3::H4::H5::H6::H7::H8::H9::I0::I1::I2::I3::I4::I5::I6::I7::I8::I9::J0::J1::J2::J3::J4::J5::J6::J7::J8::J9::L0::L1::[]) w := Eq.mp (by kernel_rfl) h

theorem leatref29_Put_P1_r {K : KV} {w : World}
    (h : K b3 w) :
    leatref29_Put_P1 K (s0::s1::A0::b3::i4::A3::A4::A5::A6::A7::A8::A9::C0::C1::C2::C3::C4::C5::C6::C7::C8::C9::D0::D1::D2::D3::D4::D5::D6::D7::D8::D9::E0::E1::E2::E3::E4::E5::E6::E7::E8::E9::F0::F1::F2::F3::F4::F5::F6::F7::F8::F9::G0::G1::G2::G3::G4::G5::G6::G7::G8::G9::H0::H1::H2::H3::H4::H5::H6::H7::H8::H9::I0::I1::I2::I3::I4::I5::I6::I7::I8::I9::J0::J1::J2::J3::J4::J5::J6::J7::J8::J9::L0::L1::[]) w := by
  delta leatref29_Put_P1
  exact Eq.mp (congrArg (fun c => cCode Tryz.prog c (retK Tryz.prog Tryz.f11.results.toList K) (fun _ _ _ => False) (retK Tryz.prog Tryz.f11.results.toList K) (s0::s1::A0::b3::i4::A3::A4::A5::A6::A7::A8::A9::C0::C1::C2::C3::C4::C5::C6::C7::C8::C9::D0::D1::D2::D3::D4::D5::D6::D7::D8::D9::E0::E1::E2::E3::E4::E5::E6::E7::E8::E9::F0::F1::F2::F3::F4::F5::F6::F7::F8::F9::G0::G1::G2::G3::G4::G5::G6::G7::G8::G9::H0::H1::H2::H3::H4::H5::H6::H7::H8::H9::I0::I1::I2::I3::I4::I5::I6::I7::I8::I9::J0::J1::J2::J3::J4::J5::J6::J7::J8::J9::L0::L1::[]) w) (by kernel_rfl : (cd Tryz.f11 [1, 1, 1, 1, 1, 1, 1, 1, 1, 1, 1, 1, 1, 1, 1]) = (cd Tryz.f11 [1, 1, 1, 1, 1, 1, 1, 1, 1, 1, 1, 1, 1, 1, 1]))) (leatref29_Put_P1_k h)
attribute [irreducible] leatref29_Put_A1 leatref29_Put_A2 leatref29_Put_A3 leatref29_Put_P1 leatref29_Put_L1


end
theorem leatref29_reader_next_k {K : KV} {r0 k_1 : Value} {w : World}
    (h : hReg (fun S w =>
    hld S (fun k w => nilC r0 k w) (fun A8 =>
    hld S (fun k w => fldA Tryz.prog 80 A8 0 k w) (fun A9 =>
    hld S (fun k w => ld Tryz.prog 28 A9 k w) (fun C0 =>
    hld S (fun k w => nilC r0 k w) (fun C2 =>
    hld S (fun k w => fldA Tryz.prog 80 C2 1 k w) (fun C3 =>
    hld S (fun k w => ld Tryz.prog 3 C3 k w) (fun C4 =>
    call Tryz.prog 46 #[C0, C4, k_1] (fun C6 w =>
    hReg (fun S w =>
    hld S (fun k w => ext Tryz.prog C6 0 k w) (fun C7 =>
    hld S (fun k w => ext Tryz.prog C6 1 k w) (fun C8 =>
    hld S (fun k w => ext Tryz.prog C6 2 k w) (fun C9 =>
    nilC r0 (fun D1 w =>
    fldA Tryz.prog 80 D1 2 (fun D2 w =>
    ld Tryz.prog 4 D2 (fun D3 w =>
    gsel D3 false (fun k27 =>
    bin Tryz.prog BinOp.neq 34 false true C9 (Value.int IntKind.i64 0) (fun D6 w =>
    k27 [C9, D6] w) w)
    (fun k => k [undef, undef] w) (fun us27 w =>
    pick D3 (Value.bool true) (gd us27 1) (fun D7 w =>
    cond D7
      (nilC r0 (fun D9 w =>
      fldA Tryz.prog 80 D9 2 (fun E0 w =>
      sto Tryz.prog 4 E0 (Value.bool true) (fun _t w =>
      K (Value.int IntKind.u64 0) w) w) w) w)
      (nilC r0 (fun E3 w =>
    fldA Tryz.prog 80 E3 1 (fun E4 w =>
    sto Tryz.prog 3 E4 C8 (fun _t w =>
    K C7 w) w) w) w)) w)) w) w) w)))) w) w))))))) w.drew) :
    cCode Tryz.prog (cd Tryz.f31 []) (retK Tryz.prog Tryz.f31.results.toList K) (fun _ _ _ => False) (retK Tryz.prog Tryz.f31.results.toList K) [r0, k_1, undef, undef, undef, undef, undef, undef, undef, undef, undef, undef, undef, undef, undef, undef, undef, undef, undef, undef, undef, undef, undef, undef, undef, undef, undef, undef, undef, undef, undef, undef, undef, undef, undef, undef, undef, undef] w := Eq.mp (by kernel_rfl) h

theorem leatref29_reader_next_in {K : KV} {r0 k_1 : Value} {w : World}
    (h : hReg (fun S w =>
    hld S (fun k w => nilC r0 k w) (fun A8 =>
    hld S (fun k w => fldA Tryz.prog 80 A8 0 k w) (fun A9 =>
    hld S (fun k w => ld Tryz.prog 28 A9 k w) (fun C0 =>
    hld S (fun k w => nilC r0 k w) (fun C2 =>
    hld S (fun k w => fldA Tryz.prog 80 C2 1 k w) (fun C3 =>
    hld S (fun k w => ld Tryz.prog 3 C3 k w) (fun C4 =>
    call Tryz.prog 46 #[C0, C4, k_1] (fun C6 w =>
    hReg (fun S w =>
    hld S (fun k w => ext Tryz.prog C6 0 k w) (fun C7 =>
    hld S (fun k w => ext Tryz.prog C6 1 k w) (fun C8 =>
    hld S (fun k w => ext Tryz.prog C6 2 k w) (fun C9 =>
    nilC r0 (fun D1 w =>
    fldA Tryz.prog 80 D1 2 (fun D2 w =>
    ld Tryz.prog 4 D2 (fun D3 w =>
    gsel D3 false (fun k27 =>
    bin Tryz.prog BinOp.neq 34 false true C9 (Value.int IntKind.i64 0) (fun D6 w =>
    k27 [C9, D6] w) w)
    (fun k => k [undef, undef] w) (fun us27 w =>
    pick D3 (Value.bool true) (gd us27 1) (fun D7 w =>
    cond D7
      (nilC r0 (fun D9 w =>
      fldA Tryz.prog 80 D9 2 (fun E0 w =>
      sto Tryz.prog 4 E0 (Value.bool true) (fun _t w =>
      K (Value.int IntKind.u64 0) w) w) w) w)
      (nilC r0 (fun E3 w =>
    fldA Tryz.prog 80 E3 1 (fun E4 w =>
    sto Tryz.prog 3 E4 C8 (fun _t w =>
    K C7 w) w) w) w)) w)) w) w) w)))) w) w))))))) w.drew) :
    Gives Tryz.prog 31 #[r0, k_1] w K := enter' Tryz.func31 (by kernel_rfl) (Eq.mp (congrArg (fun c => cCode Tryz.prog c (retK Tryz.prog Tryz.f31.results.toList K) (fun _ _ _ => False) (retK Tryz.prog Tryz.f31.results.toList K) [r0, k_1, undef, undef, undef, undef, undef, undef, undef, undef, undef, undef, undef, undef, undef, undef, undef, undef, undef, undef, undef, undef, undef, undef, undef, undef, undef, undef, undef, undef, undef, undef, undef, undef, undef, undef, undef, undef] w) (by kernel_rfl : (cd Tryz.f31 []) = (cd Tryz.f31 []))) (leatref29_reader_next_k h))
theorem leatref29_reader_next_go : isGo Tryz.prog 31 := ⟨_, Tryz.func31, by kernel_rfl, by kernel_rfl⟩

def leatref29_Get_A1 (K : KV) : KE := cCode Tryz.prog (cd Tryz.f13 [1, 1, 1, 1, 1, 1]) (retK Tryz.prog Tryz.f13.results.toList K) (fun _ _ _ => False) (retK Tryz.prog Tryz.f13.results.toList K)
def leatref29_Get_A2 (K : KV) : KE := cCode Tryz.prog (cd Tryz.f13 [1, 1, 1, 1, 1, 1, 1, 1, 1, 1, 1]) (retK Tryz.prog Tryz.f13.results.toList K) (fun _ _ _ => False) (retK Tryz.prog Tryz.f13.results.toList K)
def leatref29_Get_P1 (K : KV) : KE := cCode Tryz.prog (cd Tryz.f13 [1, 1, 1, 1, 1, 1, 1, 1, 1, 1, 1, 1, 1, 1, 1]) (retK Tryz.prog Tryz.f13.results.toList K) (fun _ _ _ => False) (retK Tryz.prog Tryz.f13.results.toList K)
def leatref29_Get_L1 (K : KV) : KE := cCode Tryz.prog (cd Tryz.f13 [1, 1, 1, 1, 1, 1, 1, 1, 1, 1, 1, 1, 1, 1, 0, 1, 0]) (leatref29_Get_P1 K) (fun i => @Bool.rec (fun _ => KE) ((fun _ _ _ => False) i) (leatref29_Get_P1 K) (Nat.beq i 0)) (retK Tryz.prog Tryz.f13.results.toList K)
theorem leatref29_Get_k {K : KV} (xc0 : Code) {b0 : Value} {w : World}
    (h : alc Tryz.prog 27 (fun A0 w =>
    bld Tryz.prog 80 #[(0, b0)] (fun A7 w =>
    box Tryz.prog 80 A7 (fun A8 w =>
    call Tryz.prog 31 #[A8, (Value.int IntKind.i64 1)] (fun C0 w =>
    conv Tryz.prog 22 5 C0 (fun C1 w =>
    bld Tryz.prog 27 #[(0, C1)] (fun C2 w =>
    alc Tryz.prog 27 (fun s5 w =>
    sto Tryz.prog 27 s5 C2 (fun _t w =>
    call Tryz.prog 31 #[A8, (Value.int IntKind.i64 2)] (fun C4 w =>
    conv Tryz.prog 22 3 C4 (fun C5 w =>
    bin Tryz.prog BinOp.sub 3 false true C5 (Value.int IntKind.i64 1) (fun C6 w =>
    fldA Tryz.prog 27 s5 1 (fun C7 w =>
    sto Tryz.prog 3 C7 C6 (fun _t w =>
    call Tryz.prog 31 #[A8, (Value.int IntKind.i64 2)] (fun C9 w =>
    conv Tryz.prog 22 3 C9 (fun D0 w =>
    bin Tryz.prog BinOp.sub 3 false true D0 (Value.int IntKind.i64 1) (fun D1 w =>
    fldA Tryz.prog 27 s5 4 (fun D2 w =>
    sto Tryz.prog 3 D2 D1 (fun _t w =>
    call Tryz.prog 31 #[A8, (Value.int IntKind.i64 2)] (fun D4 w =>
    conv Tryz.prog 22 3 D4 (fun D5 w =>
    bin Tryz.prog BinOp.sub 3 false true D5 (Value.int IntKind.i64 1) (fun D6 w =>
    fldA Tryz.prog 27 s5 3 (fun D7 w =>
    sto Tryz.prog 3 D7 D6 (fun _t w =>
    (cCode Tryz.prog xc0 (retK Tryz.prog Tryz.f13.results.toList K) (fun _ _ _ => False) (retK Tryz.prog Tryz.f13.results.toList K)) (b0::undef::A0::(Value.int IntKind.i64 0)::A8::s5::undef::undef::b0::A7::A8::A8::C0::C1::C2::A8::C4::C5::C6::C7::A8::C9::D0::D1::D2::A8::D4::D5::D6::D7::undef::undef::undef::undef::undef::undef::undef::undef::undef::undef::undef::undef::undef::undef::undef::undef::undef::undef::undef::undef::undef::undef::undef::undef::undef::undef::undef::undef::undef::undef::undef::undef::undef::undef::undef::undef::undef::undef::undef::undef::undef::undef::undef::undef::undef::undef::undef::undef::undef::undef::undef::undef::undef::undef::undef::undef::undef::undef::undef::undef::undef::undef::undef::undef::undef::undef::undef::undef::undef::undef::undef::undef::undef::undef::undef::undef::undef::[]) w) w) w) w) w) w) w) w) w) w) w) w) w) w) w) w) w) w) w) w) w) w) w) w) :
    cCode Tryz.prog (rep [1, 1, 1, 1, 1, 1] xc0 (cd Tryz.f13 [])) (retK Tryz.prog Tryz.f13.results.toList K) (fun _ _ _ => False) (retK Tryz.prog Tryz.f13.results.toList K) (b0::undef::undef::undef::undef::undef::undef::undef::undef::undef::undef::undef::undef::undef::undef::undef::undef::undef::undef::undef::undef::undef::undef::undef::undef::undef::undef::undef::undef::undef::undef::undef::undef::undef::undef::undef::undef::undef::undef::undef::undef::undef::undef::undef::undef::undef::undef::undef::undef::undef::undef::undef::undef::undef::undef::undef::undef::undef::undef::undef::undef::undef::undef::undef::undef::undef::undef::undef::undef::undef::undef::undef::undef::undef::undef::undef::undef::undef::undef::undef::undef::undef::undef::undef::undef::undef::undef::undef::undef::undef::undef::undef::undef::undef::undef::undef::undef::undef::undef::undef::undef::undef::undef::undef::undef::undef::undef::[]) w := Eq.mp (by kernel_rfl) h

theorem leatref29_Get_in {K : KV} {b0 : Value} {w : World}
    (h : alc Tryz.prog 27 (fun A0 w =>
    bld Tryz.prog 80 #[(0, b0)] (fun A7 w =>
    box Tryz.prog 80 A7 (fun A8 w =>
    call Tryz.prog 31 #[A8, (Value.int IntKind.i64 1)] (fun C0 w =>
    conv Tryz.prog 22 5 C0 (fun C1 w =>
    bld Tryz.prog 27 #[(0, C1)] (fun C2 w =>
    alc Tryz.prog 27 (fun s5 w =>
    sto Tryz.prog 27 s5 C2 (fun _t w =>
    call Tryz.prog 31 #[A8, (Value.int IntKind.i64 2)] (fun C4 w =>
    conv Tryz.prog 22 3 C4 (fun C5 w =>
    bin Tryz.prog BinOp.sub 3 false true C5 (Value.int IntKind.i64 1) (fun C6 w =>
    fldA Tryz.prog 27 s5 1 (fun C7 w =>
    sto Tryz.prog 3 C7 C6 (fun _t w =>
    call Tryz.prog 31 #[A8, (Value.int IntKind.i64 2)] (fun C9 w =>
    conv Tryz.prog 22 3 C9 (fun D0 w =>
    bin Tryz.prog BinOp.sub 3 false true D0 (Value.int IntKind.i64 1) (fun D1 w =>
    fldA Tryz.prog 27 s5 4 (fun D2 w =>
    sto Tryz.prog 3 D2 D1 (fun _t w =>
    call Tryz.prog 31 #[A8, (Value.int IntKind.i64 2)] (fun D4 w =>
    conv Tryz.prog 22 3 D4 (fun D5 w =>
    bin Tryz.prog BinOp.sub 3 false true D5 (Value.int IntKind.i64 1) (fun D6 w =>
    fldA Tryz.prog 27 s5 3 (fun D7 w =>
    sto Tryz.prog 3 D7 D6 (fun _t w =>
    (leatref29_Get_A1 K) (b0::undef::A0::(Value.int IntKind.i64 0)::A8::s5::undef::undef::b0::A7::A8::A8::C0::C1::C2::A8::C4::C5::C6::C7::A8::C9::D0::D1::D2::A8::D4::D5::D6::D7::undef::undef::undef::undef::undef::undef::undef::undef::undef::undef::undef::undef::undef::undef::undef::undef::undef::undef::undef::undef::undef::undef::undef::undef::undef::undef::undef::undef::undef::undef::undef::undef::undef::undef::undef::undef::undef::undef::undef::undef::undef::undef::undef::undef::undef::undef::undef::undef::undef::undef::undef::undef::undef::undef::undef::undef::undef::undef::undef::undef::undef::undef::undef::undef::undef::undef::undef::undef::undef::undef::undef::undef::undef::undef::undef::undef::undef::[]) w) w) w) w) w) w) w) w) w) w) w) w) w) w) w) w) w) w) w) w) w) w) w) w) :
    Gives Tryz.prog 13 #[b0] w K := enter' Tryz.func13 (by kernel_rfl) (Eq.mp (congrArg (fun c => cCode Tryz.prog c (retK Tryz.prog Tryz.f13.results.toList K) (fun _ _ _ => False) (retK Tryz.prog Tryz.f13.results.toList K) (b0::undef::undef::undef::undef::undef::undef::undef::undef::undef::undef::undef::undef::undef::undef::undef::undef::undef::undef::undef::undef::undef::undef::undef::undef::undef::undef::undef::undef::undef::undef::undef::undef::undef::undef::undef::undef::undef::undef::undef::undef::undef::undef::undef::undef::undef::undef::undef::undef::undef::undef::undef::undef::undef::undef::undef::undef::undef::undef::undef::undef::undef::undef::undef::undef::undef::undef::undef::undef::undef::undef::undef::undef::undef::undef::undef::undef::undef::undef::undef::undef::undef::undef::undef::undef::undef::undef::undef::undef::undef::undef::undef::undef::undef::undef::undef::undef::undef::undef::undef::undef::undef::undef::undef::undef::undef::undef::[]) w) (by kernel_rfl : (rep [1, 1, 1, 1, 1, 1] (cd Tryz.f13 [1, 1, 1, 1, 1, 1]) (cd Tryz.f13 [])) = (cd Tryz.f13 []))) (leatref29_Get_k (cd Tryz.f13 [1, 1, 1, 1, 1, 1]) h))
theorem leatref29_Get_go : isGo Tryz.prog 13 := ⟨_, Tryz.func13, by kernel_rfl, by kernel_rfl⟩

section
variable {b0 b1 A0 A1 r4 s5 n6 i7 A6 A7 A8 A9 C0 C1 C2 C3 C4 C5 C6 C7 C8 C9 D0 D1 D2 D3 D4 D5 D6 D7 D8 D9 E0 E1 E2 E3 E4 E5 E6 E7 E8 E9 F0 F1 F2 F3 F4 F5 F6 F7 F8 F9 G0 G1 G2 G3 G4 G5 G6 G7 G8 G9 H0 H1 H2 H3 H4 H5 H6 H7 H8 H9 I0 I1 I2 I3 I4 I5 I6 I7 I8 I9 J0 J1 J2 J3 J4 J5 J6 J7 J8 J9 L0 L1 L2 L3 L4 L5 L6 L7 L8 L9 M0 M1 M2 M3 M4 : Value}
theorem leatref29_Get_A1_k {K : KV} (xc0 : Code) {w : World}
    (h : call Tryz.prog 31 #[r4, (Value.int IntKind.i64 4)] (fun D9 w =>
    conv Tryz.prog 22 3 D9 (fun E0 w =>
    bin Tryz.prog BinOp.sub 3 false true E0 (Value.int IntKind.i64 1) (fun E1 w =>
    fldA Tryz.prog 27 s5 5 (fun E2 w =>
    sto Tryz.prog 3 E2 E1 (fun _t w =>
    call Tryz.prog 31 #[r4, (Value.int IntKind.i64 1)] (fun E4 w =>
    conv Tryz.prog 22 5 E4 (fun E5 w =>
    fldA Tryz.prog 27 s5 2 (fun E6 w =>
    fldA Tryz.prog 24 E6 0 (fun E7 w =>
    sto Tryz.prog 5 E7 E5 (fun _t w =>
    call Tryz.prog 31 #[r4, (Value.int IntKind.i64 8)] (fun E9 w =>
    fldA Tryz.prog 27 s5 2 (fun F0 w =>
    fldA Tryz.prog 24 F0 1 (fun F1 w =>
    sto Tryz.prog 22 F1 E9 (fun _t w =>
    call Tryz.prog 31 #[r4, (Value.int IntKind.i64 2)] (fun F3 w =>
    conv Tryz.prog 22 3 F3 (fun F4 w =>
    bin Tryz.prog BinOp.sub 3 false true F4 (Value.int IntKind.i64 1) (fun F5 w =>
    fldA Tryz.prog 27 s5 2 (fun F6 w =>
    fldA Tryz.prog 24 F6 2 (fun F7 w =>
    sto Tryz.prog 3 F7 F5 (fun _t w =>
    call Tryz.prog 31 #[r4, (Value.int IntKind.i64 8)] (fun F9 w =>
    bin Tryz.prog BinOp.sub 22 false true F9 (Value.int IntKind.u64 1) (fun G0 w =>
    conv Tryz.prog 22 2 G0 (fun G1 w =>
    fldA Tryz.prog 27 s5 2 (fun G2 w =>
    fldA Tryz.prog 24 G2 3 (fun G3 w =>
    sto Tryz.prog 2 G3 G1 (fun _t w =>
    (cCode Tryz.prog xc0 (retK Tryz.prog Tryz.f13.results.toList K) (fun _ _ _ => False) (retK Tryz.prog Tryz.f13.results.toList K)) (b0::b1::A0::A1::r4::s5::n6::i7::A6::A7::A8::A9::C0::C1::C2::C3::C4::C5::C6::C7::C8::C9::D0::D1::D2::D3::D4::D5::D6::D7::r4::D9::E0::E1::E2::r4::E4::E5::E6::E7::r4::E9::F0::F1::r4::F3::F4::F5::F6::F7::r4::F9::G0::G1::G2::G3::G4::G5::G6::G7::G8::G9::H0::H1::H2::H3::H4::H5::H6::H7::H8::H9::I0::I1::I2::I3::I4::I5::I6::I7::I8::I9::J0::J1::J2::J3::J4::J5::J6::J7::J8::J9::L0::L1::L2::L3::L4::L5::L6::L7::L8::L9::M0::M1::M2::M3::M4::[]) w) w) w) w) w) w) w) w) w) w) w) w) w) w) w) w) w) w) w) w) w) w) w) w) w) w) w) :
    cCode Tryz.prog (rep [1, 1, 1, 1, 1] xc0 (cd Tryz.f13 [1, 1, 1, 1, 1, 1])) (retK Tryz.prog Tryz.f13.results.toList K) (fun _ _ _ => False) (retK Tryz.prog Tryz.f13.results.toList K) (b0::b1::A0::A1::r4::s5::n6::i7::A6::A7::A8::A9::C0::C1::C2::C3::C4::C5::C6::C7::C8::C9::D0::D1::D2::D3::D4::D5::D6::D7::D8::D9::E0::E1::E2::E3::E4::E5::E6::E7::E8::E9::F0::F1::F2::F3::F4::F5::F6::F7::F8::F9::G0::G1::G2::G3::G4::G5::G6::G7::G8::G9::H0::H1::H2::H3::H4::H5::H6::H7::H8::H9::I0::I1::I2::I3::I4::I5::I6::I7::I8::I9::J0::J1::J2::J3::J4::J5::J6::J7::J8::J9::L0::L1::L2::L3::L4::L5::L6::L7::L8::L9::M0::M1::M2::M3::M4::[]) w := Eq.mp (by kernel_rfl) h

theorem leatref29_Get_A1_r {K : KV} {w : World}
    (h : call Tryz.prog 31 #[r4, (Value.int IntKind.i64 4)] (fun D9 w =>
    conv Tryz.prog 22 3 D9 (fun E0 w =>
    bin Tryz.prog BinOp.sub 3 false true E0 (Value.int IntKind.i64 1) (fun E1 w =>
    fldA Tryz.prog 27 s5 5 (fun E2 w =>
    sto Tryz.prog 3 E2 E1 (fun _t w =>
    call Tryz.prog 31 #[r4, (Value.int IntKind.i64 1)] (fun E4 w =>
    conv Tryz.prog 22 5 E4 (fun E5 w =>
    fldA Tryz.prog 27 s5 2 (fun E6 w =>
    fldA Tryz.prog 24 E6 0 (fun E7 w =>
    sto Tryz.prog 5 E7 E5 (fun _t w =>
    call Tryz.prog 31 #[r4, (Value.int IntKind.i64 8)] (fun E9 w =>
    fldA Tryz.prog 27 s5 2 (fun F0 w =>
    fldA Tryz.prog 24 F0 1 (fun F1 w =>
    sto Tryz.prog 22 F1 E9 (fun _t w =>
    call Tryz.prog 31 #[r4, (Value.int IntKind.i64 2)] (fun F3 w =>
    conv Tryz.prog 22 3 F3 (fun F4 w =>
    bin Tryz.prog BinOp.sub 3 false true F4 (Value.int IntKind.i64 1) (fun F5 w =>
    fldA Tryz.prog 27 s5 2 (fun F6 w =>
    fldA Tryz.prog 24 F6 2 (fun F7 w =>
    sto Tryz.prog 3 F7 F5 (fun _t w =>
    call Tryz.prog 31 #[r4, (Value.int IntKind.i64 8)] (fun F9 w =>
    bin Tryz.prog BinOp.sub 22 false true F9 (Value.int IntKind.u64 1) (fun G0 w =>
    conv Tryz.prog 22 2 G0 (fun G1 w =>
    fldA Tryz.prog 27 s5 2 (fun G2 w =>
    fldA Tryz.prog 24 G2 3 (fun G3 w =>
    sto Tryz.prog 2 G3 G1 (fun _t w =>
    (leatref29_Get_A2 K) (b0::b1::A0::A1::r4::s5::n6::i7::A6::A7::A8::A9::C0::C1::C2::C3::C4::C5::C6::C7::C8::C9::D0::D1::D2::D3::D4::D5::D6::D7::r4::D9::E0::E1::E2::r4::E4::E5::E6::E7::r4::E9::F0::F1::r4::F3::F4::F5::F6::F7::r4::F9::G0::G1::G2::G3::G4::G5::G6::G7::G8::G9::H0::H1::H2::H3::H4::H5::H6::H7::H8::H9::I0::I1::I2::I3::I4::I5::I6::I7::I8::I9::J0::J1::J2::J3::J4::J5::J6::J7::J8::J9::L0::L1::L2::L3::L4::L5::L6::L7::L8::L9::M0::M1::M2::M3::M4::[]) w) w) w) w) w) w) w) w) w) w) w) w) w) w) w) w) w) w) w) w) w) w) w) w) w) w) w) :
    leatref29_Get_A1 K (b0::b1::A0::A1::r4::s5::n6::i7::A6::A7::A8::A9::C0::C1::C2::C3::C4::C5::C6::C7::C8::C9::D0::D1::D2::D3::D4::D5::D6::D7::D8::D9::E0::E1::E2::E3::E4::E5::E6::E7::E8::E9::F0::F1::F2::F3::F4::F5::F6::F7::F8::F9::G0::G1::G2::G3::G4::G5::G6::G7::G8::G9::H0::H1::H2::H3::H4::H5::H6::H7::H8::H9::I0::I1::I2::I3::I4::I5::I6::I7::I8::I9::J0::J1::J2::J3::J4::J5::J6::J7::J8::J9::L0::L1::L2::L3::L4::L5::L6::L7::L8::L9::M0::M1::M2::M3::M4::[]) w := by
  delta leatref29_Get_A1
  exact Eq.mp (congrArg (fun c => cCode Tryz.prog c (retK Tryz.prog Tryz.f13.results.toList K) (fun _ _ _ => False) (retK Tryz.prog Tryz.f13.results.toList K) (b0::b1::A0::A1::r4::s5::n6::i7::A6::A7::A8::A9::C0::C1::C2::C3::C4::C5::C6::C7::C8::C9::D0::D1::D2::D3::D4::D5::D6::D7::D8::D9::E0::E1::E2::E3::E4::E5::E6::E7::E8::E9::F0::F1::F2::F3::F4::F5::F6::F7::F8::F9::G0::G1::G2::G3::G4::G5::G6::G7::G8::G9::H0::H1::H2::H3::H4::H5::H6::H7::H8::H9::I0::I1::I2::I3::I4::I5::I6::I7::I8::I9::J0::J1::J2::J3::J4::J5::J6::J7::J8::J9::L0::L1::L2::L3::L4::L5::L6::L7::L8::L9::M0::M1::M2::M3::M4::[]) w) (by kernel_rfl : (rep [1, 1, 1, 1, 1] (cd Tryz.f13 [1, 1, 1, 1, 1, 1, 1, 1, 1, 1, 1]) (cd Tryz.f13 [1, 1, 1, 1, 1, 1])) = (cd Tryz.f13 [1, 1, 1, 1, 1, 1]))) (leatref29_Get_A1_k (cd Tryz.f13 [1, 1, 1, 1, 1, 1, 1, 1, 1, 1, 1]) h)

theorem leatref29_Get_A2_k {K : KV} {w : World}
    (h : call Tryz.prog 31 #[r4, (Value.int IntKind.i64 8)] (fun G5 w =>
    fldA Tryz.prog 27 s5 2 (fun G6 w =>
    fldA Tryz.prog 24 G6 4 (fun G7 w =>
    sto Tryz.prog 22 G7 G5 (fun _t w =>
    call Tryz.prog 31 #[r4, (Value.int IntKind.i64 8)] (fun G9 w =>
    fldA Tryz.prog 27 s5 2 (fun H0 w =>
    fldA Tryz.prog 24 H0 5 (fun H1 w =>
    sto Tryz.prog 22 H1 G9 (fun _t w =>
    call Tryz.prog 31 #[r4, (Value.int IntKind.i64 1)] (fun H3 w =>
    conv Tryz.prog 22 3 H3 (fun H4 w =>
    (cCode Tryz.prog (cd Tryz.f13 [1, 1, 1, 1, 1, 1, 1, 1, 1, 1, 1, 1, 1, 1, 0, 1, 0]) (cCode Tryz.prog (cd Tryz.f13 [1, 1, 1, 1, 1, 1, 1, 1, 1, 1, 1, 1, 1, 1, 1]) (retK Tryz.prog Tryz.f13.results.toList K) (fun _ _ _ => False) (retK Tryz.prog Tryz.f13.results.toList K)) (fun i => @Bool.rec (fun _ => KE) ((fun _ _ _ => False) i) (cCode Tryz.prog (cd Tryz.f13 [1, 1, 1, 1, 1, 1, 1, 1, 1, 1, 1, 1, 1, 1, 1]) (retK Tryz.prog Tryz.f13.results.toList K) (fun _ _ _ => False) (retK Tryz.prog Tryz.f13.results.toList K)) (Nat.beq i 0)) (retK Tryz.prog Tryz.f13.results.toList K)) (b0::b1::A0::A1::r4::s5::H4::(Value.int IntKind.i64 0)::A6::A7::A8::A9::C0::C1::C2::C3::C4::C5::C6::C7::C8::C9::D0::D1::D2::D3::D4::D5::D6::D7::D8::D9::E0::E1::E2::E3::E4::E5::E6::E7::E8::E9::F0::F1::F2::F3::F4::F5::F6::F7::F8::F9::G0::G1::G2::G3::r4::G5::G6::G7::r4::G9::H0::H1::r4::H3::H4::H5::H6::H7::H8::H9::I0::I1::I2::I3::I4::I5::I6::I7::I8::I9::J0::J1::J2::J3::J4::J5::J6::J7::J8::J9::L0::L1::L2::L3::L4::L5::L6::L7::L8::L9::M0::M1::M2::M3::M4::[]) w) w) w) w) w) w) w) w) w) w) w) :
    cCode Tryz.prog (cd Tryz.f13 [1, 1, 1, 1, 1, 1, 1, 1, 1, 1, 1]) (retK Tryz.prog Tryz.f13.results.toList K) (fun _ _ _ => False) (retK Tryz.prog Tryz.f13.results.toList K) (b0::b1::A0::A1::r4::s5::n6::i7::A6::A7::A8::A9::C0::C1::C2::C3::C4::C5::C6::C7::C8::C9::D0::D1::D2::D3::D4::D5::D6::D7::D8::D9::E0::E1::E2::E3::E4::E5::E6::E7::E8::E9::F0::F1::F2::F3::F4::F5::F6::F7::F8::F9::G0::G1::G2::G3::G4::G5::G6::G7::G8::G9::H0::H1::H2::H3::H4::H5::H6::H7::H8::H9::I0::I1::I2::I3::I4::I5::I6::I7::I8::I9::J0::J1::J2::J3::J4::J5::J6::J7::J8::J9::L0::L1::L2::L3::L4::L5::L6::L7::L8::L9::M0::M1::M2::M3::M4::[]) w := Eq.mp (by kernel_rfl) h

theorem leatref29_Get_A2_r {K : KV} {w : World}
    (h : call Tryz.prog 31 #[r4, (Value.int IntKind.i64 8)] (fun G5 w =>
    fldA Tryz.prog 27 s5 2 (fun G6 w =>
    fldA Tryz.prog 24 G6 4 (fun G7 w =>
    sto Tryz.prog 22 G7 G5 (fun _t w =>
    call Tryz.prog 31 #[r4, (Value.int IntKind.i64 8)] (fun G9 w =>
    fldA Tryz.prog 27 s5 2 (fun H0 w =>
    fldA Tryz.prog 24 H0 5 (fun H1 w =>
    sto Tryz.prog 22 H1 G9 (fun _t w =>
    call Tryz.prog 31 #[r4, (Value.int IntKind.i64 1)] (fun H3 w =>
    conv Tryz.prog 22 3 H3 (fun H4 w =>
    (leatref29_Get_L1 K) (b0::b1::A0::A1::r4::s5::H4::(Value.int IntKind.i64 0)::A6::A7::A8::A9::C0::C1::C2::C3::C4::C5::C6::C7::C8::C9::D0::D1::D2::D3::D4::D5::D6::D7::D8::D9::E0::E1::E2::E3::E4::E5::E6::E7::E8::E9::F0::F1::F2::F3::F4::F5::F6::F7::F8::F9::G0::G1::G2::G3::r4::G5::G6::G7::r4::G9::H0::H1::r4::H3::H4::H5::H6::H7::H8::H9::I0::I1::I2::I3::I4::I5::I6::I7::I8::I9::J0::J1::J2::J3::J4::J5::J6::J7::J8::J9::L0::L1::L2::L3::L4::L5::L6::L7::L8::L9::M0::M1::M2::M3::M4::[]) w) w) w) w) w) w) w) w) w) w) w) :
    leatref29_Get_A2 K (b0::b1::A0::A1::r4::s5::n6::i7::A6::A7::A8::A9::C0::C1::C2::C3::C4::C5::C6::C7::C8::C9::D0::D1::D2::D3::D4::D5::D6::D7::D8::D9::E0::E1::E2::E3::E4::E5::E6::E7::E8::E9::F0::F1::F2::F3::F4::F5::F6::F7::F8::F9::G0::G1::G2::G3::G4::G5::G6::G7::G8::G9::H0::H1::H2::H3::H4::H5::H6::H7::H8::H9::I0::I1::I2::I3::I4::I5::I6::I7::I8::I9::J0::J1::J2::J3::J4::J5::J6::J7::J8::J9::L0::L1::L2::L3::L4::L5::L6::L7::L8::L9::M0::M1::M2::M3::M4::[]) w := by
  delta leatref29_Get_A2
  exact Eq.mp (congrArg (fun c => cCode Tryz.prog c (retK Tryz.prog Tryz.f13.results.toList K) (fun _ _ _ => False) (retK Tryz.prog Tryz.f13.results.toList K) (b0::b1::A0::A1::r4::s5::n6::i7::A6::A7::A8::A9::C0::C1::C2::C3::C4::C5::C6::C7::C8::C9::D0::D1::D2::D3::D4::D5::D6::D7::D8::D9::E0::E1::E2::E3::E4::E5::E6::E7::E8::E9::F0::F1::F2::F3::F4::F5::F6::F7::F8::F9::G0::G1::G2::G3::G4::G5::G6::G7::G8::G9::H0::H1::H2::H3::H4::H5::H6::H7::H8::H9::I0::I1::I2::I3::I4::I5::I6::I7::I8::I9::J0::J1::J2::J3::J4::J5::J6::J7::J8::J9::L0::L1::L2::L3::L4::L5::L6::L7::L8::L9::M0::M1::M2::M3::M4::[]) w) (by kernel_rfl : (cd Tryz.f13 [1, 1, 1, 1, 1, 1, 1, 1, 1, 1, 1]) = (cd Tryz.f13 [1, 1, 1, 1, 1, 1, 1, 1, 1, 1, 1]))) (leatref29_Get_A2_k h)

end
theorem leatref29_Get_L1_k {K : KV} (B1 : KE) (qc0 : KE) {b0 b1 A0 A1 r4 s5 n6 i7' A6 A7 A8 A9 C0 C1 C2 C3 C4 C5 C6 C7 C8 C9 D0 D1 D2 D3 D4 D5 D6 D7 D8 D9 E0 E1 E2 E3 E4 E5 E6 E7 E8 E9 F0 F1 F2 F3 F4 F5 F6 F7 F8 F9 G0 G1 G2 G3 G4 G5 G6 G7 G8 G9 H0 H1 H2 H3 H4 H9' I0' I1' I2' I3' J6 J7 J8 J9 L0 L1 L2 L3 L4 L5 L6 L7 L8 L9 M0 M1 M2 M3 M4 : Value} {dd : Nat → Value} {w : World}
    (h : bin Tryz.prog BinOp.lss 3 false false i7' n6 (fun H7 w =>
    gsel H7 true (fun k71 =>
    nilC r4 (fun I0 w =>
    fldA Tryz.prog 80 I0 2 (fun I1 w =>
    ld Tryz.prog 4 I1 (fun I2 w =>
    un Tryz.prog UnOp.not I2 (fun I3 w =>
    k71 [r4, I0, I1, I2, I3] w) w) w) w) w)
    (fun k => k [undef, undef, undef, undef, undef] w) (fun us71 w =>
    pick H7 (gd us71 4) (Value.bool false) (fun I4 w =>
    cond I4
      (hReg (fun S w =>
    hld S (fun k w => fldA Tryz.prog 27 s5 6 k w) (fun I7 =>
    hld S (fun k w => ld Tryz.prog 25 I7 k w) (fun I8 =>
    call Tryz.prog 31 #[r4, (Value.int IntKind.i64 1)] (fun J0 w =>
    hSub S (fun S w =>
    hld S (fun k w => conv Tryz.prog 22 3 J0 k w) (fun J1 =>
    hld (fun _ => True) (fun k w => bin Tryz.prog BinOp.sub 3 false true J1 (Value.int IntKind.i64 1) k w) (fun J2 =>
    bldS Tryz.prog 25 1 #[(0, J2)] (fun J3 w =>
    hSub S (fun S w =>
    blt Tryz.prog Builtin.append #[25, 25] 25 #[false, false] #[I8, J3] (fun J4 w =>
    hReg (fun S w =>
    hld S (fun k w => fldA Tryz.prog 27 s5 6 k w) (fun J5 =>
    sto Tryz.prog 25 J5 J4 (fun _t w =>
    bin Tryz.prog BinOp.add 3 false true i7' (Value.int IntKind.i64 1) (fun I6 w =>
    B1 (b0::b1::A0::A1::r4::s5::n6::I6::A6::A7::A8::A9::C0::C1::C2::C3::C4::C5::C6::C7::C8::C9::D0::D1::D2::D3::D4::D5::D6::D7::D8::D9::E0::E1::E2::E3::E4::E5::E6::E7::E8::E9::F0::F1::F2::F3::F4::F5::F6::F7::F8::F9::G0::G1::G2::G3::G4::G5::G6::G7::G8::G9::H0::H1::H2::H3::H4::i7'::n6::H7::H7::(gd us71 0)::(gd us71 1)::(gd us71 2)::(gd us71 3)::(gd us71 4)::I4::i7'::I6::I7::I8::r4::J0::J1::J2::J3::J4::J5::J6::J7::J8::J9::L0::L1::L2::L3::L4::L5::L6::L7::L8::L9::M0::M1::M2::M3::M4::[]) w) w) w)) w) w) w) w))) w) w))) w.drew)
      (qc0 (b0::b1::A0::A1::r4::s5::n6::i7'::A6::A7::A8::A9::C0::C1::C2::C3::C4::C5::C6::C7::C8::C9::D0::D1::D2::D3::D4::D5::D6::D7::D8::D9::E0::E1::E2::E3::E4::E5::E6::E7::E8::E9::F0::F1::F2::F3::F4::F5::F6::F7::F8::F9::G0::G1::G2::G3::G4::G5::G6::G7::G8::G9::H0::H1::H2::H3::H4::i7'::n6::H7::H7::(gd us71 0)::(gd us71 1)::(gd us71 2)::(gd us71 3)::(gd us71 4)::I4::(dd 77)::(dd 78)::(dd 79)::(dd 80)::(dd 81)::(dd 82)::(dd 83)::(dd 84)::(dd 85)::(dd 86)::(dd 87)::J6::J7::J8::J9::L0::L1::L2::L3::L4::L5::L6::L7::L8::L9::M0::M1::M2::M3::M4::[]) w)) w)) w) :
    cCode Tryz.prog (cd Tryz.f13 [1, 1, 1, 1, 1, 1, 1, 1, 1, 1, 1, 1, 1, 1, 0, 1, 0, 0]) B1 (fun i => @Bool.rec (fun _ => KE) ((fun _ _ _ => False) i) qc0 (Nat.beq i 0)) (retK Tryz.prog Tryz.f13.results.toList K) (b0::b1::A0::A1::r4::s5::n6::i7'::A6::A7::A8::A9::C0::C1::C2::C3::C4::C5::C6::C7::C8::C9::D0::D1::D2::D3::D4::D5::D6::D7::D8::D9::E0::E1::E2::E3::E4::E5::E6::E7::E8::E9::F0::F1::F2::F3::F4::F5::F6::F7::F8::F9::G0::G1::G2::G3::G4::G5::G6::G7::G8::G9::H0::H1::H2::H3::H4::(dd 67)::(dd 68)::(dd 69)::(dd 70)::H9'::I0'::I1'::I2'::I3'::(dd 76)::(dd 77)::(dd 78)::(dd 79)::(dd 80)::(dd 81)::(dd 82)::(dd 83)::(dd 84)::(dd 85)::(dd 86)::(dd 87)::J6::J7::J8::J9::L0::L1::L2::L3::L4::L5::L6::L7::L8::L9::M0::M1::M2::M3::M4::[]) w := Eq.mp (by kernel_rfl) h

section
variable {b0 b1 A0 A1 r4 s5 n6 i7 A6 A7 A8 A9 C0 C1 C2 C3 C4 C5 C6 C7 C8 C9 D0 D1 D2 D3 D4 D5 D6 D7 D8 D9 E0 E1 E2 E3 E4 E5 E6 E7 E8 E9 F0 F1 F2 F3 F4 F5 F6 F7 F8 F9 G0 G1 G2 G3 G4 G5 G6 G7 G8 G9 H0 H1 H2 H3 H4 H5 H6 H7 H8 H9 I0 I1 I2 I3 I4 I5 I6 I7 I8 I9 J0 J1 J2 J3 J4 J5 J6 J7 J8 J9 L0 L1 L2 L3 L4 L5 L6 L7 L8 L9 M0 M1 M2 M3 M4 : Value}
theorem leatref29_Get_L1_r {K : KV} {w : World} (Inv : Value → Value → Value → Value → Value → Value → World → Prop) (μ : Value → Value → Value → Value → Value → Value → World → Nat) (h0 : Inv i7 H9 I0 I1 I2 I3 w)
    (hs : ∀ (i7' H9' I0' I1' I2' I3' : Value) (dd : Nat → Value) (w : World) (m : Nat), Inv i7' H9' I0' I1' I2' I3' w → m = μ i7' H9' I0' I1' I2' I3' w →
    bin Tryz.prog BinOp.lss 3 false false i7' n6 (fun H7 w =>
    gsel H7 true (fun k71 =>
    nilC r4 (fun I0 w =>
    fldA Tryz.prog 80 I0 2 (fun I1 w =>
    ld Tryz.prog 4 I1 (fun I2 w =>
    un Tryz.prog UnOp.not I2 (fun I3 w =>
    k71 [r4, I0, I1, I2, I3] w) w) w) w) w)
    (fun k => k [undef, undef, undef, undef, undef] w) (fun us71 w =>
    pick H7 (gd us71 4) (Value.bool false) (fun I4 w =>
    cond I4
      (hReg (fun S w =>
    hld S (fun k w => fldA Tryz.prog 27 s5 6 k w) (fun I7 =>
    hld S (fun k w => ld Tryz.prog 25 I7 k w) (fun I8 =>
    call Tryz.prog 31 #[r4, (Value.int IntKind.i64 1)] (fun J0 w =>
    hSub S (fun S w =>
    hld S (fun k w => conv Tryz.prog 22 3 J0 k w) (fun J1 =>
    hld (fun _ => True) (fun k w => bin Tryz.prog BinOp.sub 3 false true J1 (Value.int IntKind.i64 1) k w) (fun J2 =>
    bldS Tryz.prog 25 1 #[(0, J2)] (fun J3 w =>
    hSub S (fun S w =>
    blt Tryz.prog Builtin.append #[25, 25] 25 #[false, false] #[I8, J3] (fun J4 w =>
    hReg (fun S w =>
    hld S (fun k w => fldA Tryz.prog 27 s5 6 k w) (fun J5 =>
    sto Tryz.prog 25 J5 J4 (fun _t w =>
    bin Tryz.prog BinOp.add 3 false true i7' (Value.int IntKind.i64 1) (fun I6 w =>
    (Inv I6 (gd us71 0) (gd us71 1) (gd us71 2) (gd us71 3) (gd us71 4) w ∧ μ I6 (gd us71 0) (gd us71 1) (gd us71 2) (gd us71 3) (gd us71 4) w < m)) w) w)) w) w) w) w))) w) w))) w.drew)
      ((leatref29_Get_P1 K) (b0::b1::A0::A1::r4::s5::n6::i7'::A6::A7::A8::A9::C0::C1::C2::C3::C4::C5::C6::C7::C8::C9::D0::D1::D2::D3::D4::D5::D6::D7::D8::D9::E0::E1::E2::E3::E4::E5::E6::E7::E8::E9::F0::F1::F2::F3::F4::F5::F6::F7::F8::F9::G0::G1::G2::G3::G4::G5::G6::G7::G8::G9::H0::H1::H2::H3::H4::i7'::n6::H7::H7::(gd us71 0)::(gd us71 1)::(gd us71 2)::(gd us71 3)::(gd us71 4)::I4::(dd 77)::(dd 78)::(dd 79)::(dd 80)::(dd 81)::(dd 82)::(dd 83)::(dd 84)::(dd 85)::(dd 86)::(dd 87)::J6::J7::J8::J9::L0::L1::L2::L3::L4::L5::L6::L7::L8::L9::M0::M1::M2::M3::M4::[]) w)) w)) w) :
    leatref29_Get_L1 K (b0::b1::A0::A1::r4::s5::n6::i7::A6::A7::A8::A9::C0::C1::C2::C3::C4::C5::C6::C7::C8::C9::D0::D1::D2::D3::D4::D5::D6::D7::D8::D9::E0::E1::E2::E3::E4::E5::E6::E7::E8::E9::F0::F1::F2::F3::F4::F5::F6::F7::F8::F9::G0::G1::G2::G3::G4::G5::G6::G7::G8::G9::H0::H1::H2::H3::H4::H5::H6::H7::H8::H9::I0::I1::I2::I3::I4::I5::I6::I7::I8::I9::J0::J1::J2::J3::J4::J5::J6::J7::J8::J9::L0::L1::L2::L3::L4::L5::L6::L7::L8::L9::M0::M1::M2::M3::M4::[]) w := by
  refine loop_rule (cd Tryz.f13 [1, 1, 1, 1, 1, 1, 1, 1, 1, 1, 1, 1, 1, 1, 0, 1, 0, 0]) [7, 67, 68, 69, 70, 71, 72, 73, 74, 75, 76, 77, 78, 79, 80, 81, 82, 83, 84, 85, 86, 87] (by kernel_rfl) (fun e2 w2 => Inv (gd e2 7) (gd e2 71) (gd e2 72) (gd e2 73) (gd e2 74) (gd e2 75) w2) (fun e2 w2 => μ (gd e2 7) (gd e2 71) (gd e2 72) (gd e2 73) (gd e2 74) (gd e2 75) w2) h0 ?_
  intro e' w' hI
  have h := hs (gd e' 7) (gd e' 71) (gd e' 72) (gd e' 73) (gd e' 74) (gd e' 75) (fun i => gd e' i) w' _ hI rfl
  have h2 : cCode Tryz.prog (cd Tryz.f13 [1, 1, 1, 1, 1, 1, 1, 1, 1, 1, 1, 1, 1, 1, 0, 1, 0, 0]) (fun e2 w2 => Inv (gd e2 7) (gd e2 71) (gd e2 72) (gd e2 73) (gd e2 74) (gd e2 75) w2 ∧ μ (gd e2 7) (gd e2 71) (gd e2 72) (gd e2 73) (gd e2 74) (gd e2 75) w2 < μ (gd e' 7) (gd e' 71) (gd e' 72) (gd e' 73) (gd e' 74) (gd e' 75) w') (fun i => @Bool.rec (fun _ => KE) ((fun _ _ _ => False) i) (leatref29_Get_P1 K) (Nat.beq i 0)) (retK Tryz.prog Tryz.f13.results.toList K) (b0::b1::A0::A1::r4::s5::n6::(gd e' 7)::A6::A7::A8::A9::C0::C1::C2::C3::C4::C5::C6::C7::C8::C9::D0::D1::D2::D3::D4::D5::D6::D7::D8::D9::E0::E1::E2::E3::E4::E5::E6::E7::E8::E9::F0::F1::F2::F3::F4::F5::F6::F7::F8::F9::G0::G1::G2::G3::G4::G5::G6::G7::G8::G9::H0::H1::H2::H3::H4::(gd e' 67)::(gd e' 68)::(gd e' 69)::(gd e' 70)::(gd e' 71)::(gd e' 72)::(gd e' 73)::(gd e' 74)::(gd e' 75)::(gd e' 76)::(gd e' 77)::(gd e' 78)::(gd e' 79)::(gd e' 80)::(gd e' 81)::(gd e' 82)::(gd e' 83)::(gd e' 84)::(gd e' 85)::(gd e' 86)::(gd e' 87)::J6::J7::J8::J9::L0::L1::L2::L3::L4::L5::L6::L7::L8::L9::M0::M1::M2::M3::M4::[]) w' := leatref29_Get_L1_k (fun e2 w2 => Inv (gd e2 7) (gd e2 71) (gd e2 72) (gd e2 73) (gd e2 74) (gd e2 75) w2 ∧ μ (gd e2 7) (gd e2 71) (gd e2 72) (gd e2 73) (gd e2 74) (gd e2 75) w2 < μ (gd e' 7) (gd e' 71) (gd e' 72) (gd e' 73) (gd e' 74) (gd e' 75) w') (leatref29_Get_P1 K) (Eq.mp (by kernel_rfl) h)
  exact Eq.mp (by kernel_rfl) h2

theorem leatref29_Get_P1_k {K : KV} {w : World}
    (h : hReg (fun S w =>
    hld S (fun k w => nilC r4 k w) (fun J7 =>
    hld S (fun k w => fldA Tryz.prog 80 J7 2 k w) (fun J8 =>
    hld S (fun k w => ld Tryz.prog 4 J8 k w) (fun J9 =>
    hG J9 false S (fun k w => k b0 w) (fun L1 =>
    hG J9 false S (fun k w => blt Tryz.prog Builtin.len #[28] 3 #[false] #[L1] k w) (fun L2 =>
    hG J9 false S (fun k w => bin Tryz.prog BinOp.eql 3 false true L2 (Value.int IntKind.i64 0) k w) (fun L3 =>
    hld S (fun k w => pick J9 (Value.bool true) L3 k w) (fun L4 =>
    hG L4 false S (fun k w => ld Tryz.prog 27 s5 k w) (fun L6 =>
    hG L4 false S (fun k w => k b0 w) (fun L9 =>
    hG L4 false S (fun k w => conv Tryz.prog 28 9 L9 k w) (fun M0 =>
    xG L4 false (fun k w => call Tryz.prog 11 #[L6] k w) (fun L7 w =>
    hSub S (fun S w =>
    hG L4 false S (fun k w => conv Tryz.prog 28 9 L7 k w) (fun L8 =>
    hG L4 false S (fun k w => bin Tryz.prog BinOp.neq 9 false false L8 M0 k w) (fun M1 =>
    hld S (fun k w => pick L4 (Value.bool true) M1 k w) (fun M2 =>
    cond M2
      (bld Tryz.prog 27 #[] (fun M3 w =>
      sto Tryz.prog 27 A0 M3 (fun _t w =>
      retM Tryz.prog [(some 27, A0), (none, (Value.int IntKind.i64 5))] K w) w) w)
      (ld Tryz.prog 27 s5 (fun M4 w =>
    sto Tryz.prog 27 A0 M4 (fun _t w =>
    retM Tryz.prog [(some 27, A0), (none, (Value.int IntKind.i64 0))] K w) w) w))))) w) w))))))))))) w.drew) :
    cCode Tryz.prog (cd Tryz.f13 [1, 1, 1, 1, 1, 1, 1, 1, 1, 1, 1, 1, 1, 1, 1]) (retK Tryz.prog Tryz.f13.results.toList K) (fun _ _ _ => False) (retK Tryz.prog Tryz.f13.results.toList K) (b0::b1::A0::A1::r4::s5::n6::i7::A6::A7::A8::A9::C0::C1::C2::C3::C4::C5::C6::C7::C8::C9::D0::D1::D2::D3::D4::D5::D6::D7::D8::D9::E0::E1::E2::E3::E4::E5::E6::E7::E8::E9::F0::F1::F2::F3::F4::F5::F6::F7::F8::F9::G0::G1::G2::G3::G4::G5::G6::G7::G8::G9::H0::H1::H2::H3::H4::H5::H6::H7::H8::H9::I0::I1::I2::I3::I4::I5::I6::I7::I8::I9::J0::J1::J2::J3::J4::J5::J6::J7::J8::J9::L0::L1::L2::L3::L4::L5::L6::L7::L8::L9::M0::M1::M2::M3::M4::[]) w := Eq.mp (by kernel_rfl) h

theorem leatref29_Get_P1_r {K : KV} {w : World}
    (h : hReg (fun S w =>
    hld S (fun k w => nilC r4 k w) (fun J7 =>
    hld S (fun k w => fldA Tryz.prog 80 J7 2 k w) (fun J8 =>
    hld S (fun k w => ld Tryz.prog 4 J8 k w) (fun J9 =>
    hG J9 false S (fun k w => k b0 w) (fun L1 =>
    hG J9 false S (fun k w => blt Tryz.prog Builtin.len #[28] 3 #[false] #[L1] k w) (fun L2 =>
    hG J9 false S (fun k w => bin Tryz.prog BinOp.eql 3 false true L2 (Value.int IntKind.i64 0) k w) (fun L3 =>
    hld S (fun k w => pick J9 (Value.bool true) L3 k w) (fun L4 =>
    hG L4 false S (fun k w => ld Tryz.prog 27 s5 k w) (fun L6 =>
    hG L4 false S (fun k w => k b0 w) (fun L9 =>
    hG L4 false S (fun k w => conv Tryz.prog 28 9 L9 k w) (fun M0 =>
    xG L4 false (fun k w => call Tryz.prog 11 #[L6] k w) (fun L7 w =>
    hSub S (fun S w =>
    hG L4 false S (fun k w => conv Tryz.prog 28 9 L7 k w) (fun L8 =>
    hG L4 false S (fun k w => bin Tryz.prog BinOp.neq 9 false false L8 M0 k w) (fun M1 =>
    hld S (fun k w => pick L4 (Value.bool true) M1 k w) (fun M2 =>
    cond M2
      (bld Tryz.prog 27 #[] (fun M3 w =>
      sto Tryz.prog 27 A0 M3 (fun _t w =>
      retM Tryz.prog [(some 27, A0), (none, (Value.int IntKind.i64 5))] K w) w) w)
      (ld Tryz.prog 27 s5 (fun M4 w =>
    sto Tryz.prog 27 A0 M4 (fun _t w =>
    retM Tryz.prog [(some 27, A0), (none, (Value.int IntKind.i64 0))] K w) w) w))))) w) w))))))))))) w.drew) :
    leatref29_Get_P1 K (b0::b1::A0::A1::r4::s5::n6::i7::A6::A7::A8::A9::C0::C1::C2::C3::C4::C5::C6::C7::C8::C9::D0::D1::D2::D3::D4::D5::D6::D7::D8::D9::E0::E1::E2::E3::E4::E5::E6::E7::E8::E9::F0::F1::F2::F3::F4::F5::F6::F7::F8::F9::G0::G1::G2::G3::G4::G5::G6::G7::G8::G9::H0::H1::H2::H3::H4::H5::H6::H7::H8::H9::I0::I1::I2::I3::I4::I5::I6::I7::I8::I9::J0::J1::J2::J3::J4::J5::J6::J7::J8::J9::L0::L1::L2::L3::L4::L5::L6::L7::L8::L9::M0::M1::M2::M3::M4::[]) w := by
  delta leatref29_Get_P1
  exact Eq.mp (congrArg (fun c => cCode Tryz.prog c (retK Tryz.prog Tryz.f13.results.toList K) (fun _ _ _ => False) (retK Tryz.prog Tryz.f13.results.toList K) (b0::b1::A0::A1::r4::s5::n6::i7::A6::A7::A8::A9::C0::C1::C2::C3::C4::C5::C6::C7::C8::C9::D0::D1::D2::D3::D4::D5::D6::D7::D8::D9::E0::E1::E2::E3::E4::E5::E6::E7::E8::E9::F0::F1::F2::F3::F4::F5::F6::F7::F8::F9::G0::G1::G2::G3::G4::G5::G6::G7::G8::G9::H0::H1::H2::H3::H4::H5::H6::H7::H8::H9::I0::I1::I2::I3::I4::I5::I6::I7::I8::I9::J0::J1::J2::J3::J4::J5::J6::J7::J8::J9::L0::L1::L2::L3::L4::L5::L6::L7::L8::L9::M0::M1::M2::M3::M4::[]) w) (by kernel_rfl : (cd Tryz.f13 [1, 1, 1, 1, 1, 1, 1, 1, 1, 1, 1, 1, 1, 1, 1]) = (cd Tryz.f13 [1, 1, 1, 1, 1, 1, 1, 1, 1, 1, 1, 1, 1, 1, 1]))) (leatref29_Get_P1_k h)
attribute [irreducible] leatref29_Get_A1 leatref29_Get_A2 leatref29_Get_P1 leatref29_Get_L1

def leatref29_Same_P1 (K : KV) : KE := cCode Tryz.prog (cd Tryz.f14 [1, 1, 1]) (retK Tryz.prog Tryz.f14.results.toList K) (fun _ _ _ => False) (retK Tryz.prog Tryz.f14.results.toList K)
def leatref29_Same_L1 (K : KV) : KE := cCode Tryz.prog (cd Tryz.f14 [1, 1, 0, 1, 0]) (leatref29_Same_P1 K) (fun i => @Bool.rec (fun _ => KE) ((fun _ _ _ => False) i) (leatref29_Same_P1 K) (Nat.beq i 0)) (retK Tryz.prog Tryz.f14.results.toList K)
end
theorem leatref29_Same_k {K : KV} {a0 b1 : Value} {w : World}
    (h : box Tryz.prog 27 a0 (fun a2 w =>
    box Tryz.prog 27 b1 (fun b3 w =>
    fldA Tryz.prog 27 a2 6 (fun A4 w =>
    ld Tryz.prog 25 A4 (fun A5 w =>
    blt Tryz.prog Builtin.len #[25] 3 #[false] #[A5] (fun A6 w =>
    fldA Tryz.prog 27 b3 6 (fun A7 w =>
    ld Tryz.prog 25 A7 (fun A8 w =>
    blt Tryz.prog Builtin.len #[25] 3 #[false] #[A8] (fun A9 w =>
    bin Tryz.prog BinOp.neq 3 false false A6 A9 (fun C0 w =>
    cond C0
      (K (Value.bool false) w)
      ((cCode Tryz.prog (cd Tryz.f14 [1, 1, 0, 1, 0]) (cCode Tryz.prog (cd Tryz.f14 [1, 1, 1]) (retK Tryz.prog Tryz.f14.results.toList K) (fun _ _ _ => False) (retK Tryz.prog Tryz.f14.results.toList K)) (fun i => @Bool.rec (fun _ => KE) ((fun _ _ _ => False) i) (cCode Tryz.prog (cd Tryz.f14 [1, 1, 1]) (retK Tryz.prog Tryz.f14.results.toList K) (fun _ _ _ => False) (retK Tryz.prog Tryz.f14.results.toList K)) (Nat.beq i 0)) (retK Tryz.prog Tryz.f14.results.toList K)) (a0::b1::a2::b3::(Value.bool false)::(Value.int IntKind.i64 0)::A4::A5::A6::A7::A8::A9::C0::undef::undef::undef::undef::undef::undef::undef::undef::undef::undef::undef::undef::undef::undef::undef::undef::undef::undef::undef::undef::undef::undef::undef::undef::undef::undef::undef::undef::undef::undef::undef::undef::undef::undef::undef::undef::undef::undef::undef::undef::undef::undef::undef::undef::undef::undef::undef::undef::undef::undef::undef::undef::undef::undef::undef::undef::undef::undef::[]) w)) w) w) w) w) w) w) w) w) w) :
    cCode Tryz.prog (cd Tryz.f14 []) (retK Tryz.prog Tryz.f14.results.toList K) (fun _ _ _ => False) (retK Tryz.prog Tryz.f14.results.toList K) (a0::b1::undef::undef::undef::undef::undef::undef::undef::undef::undef::undef::undef::undef::undef::undef::undef::undef::undef::undef::undef::undef::undef::undef::undef::undef::undef::undef::undef::undef::undef::undef::undef::undef::undef::undef::undef::undef::undef::undef::undef::undef::undef::undef::undef::undef::undef::undef::undef::undef::undef::undef::undef::undef::undef::undef::undef::undef::undef::undef::undef::undef::undef::undef::undef::undef::undef::undef::undef::undef::undef::[]) w := Eq.mp (by kernel_rfl) h

theorem leatref29_Same_in {K : KV} {a0 b1 : Value} {w : World}
    (h : box Tryz.prog 27 a0 (fun a2 w =>
    box Tryz.prog 27 b1 (fun b3 w =>
    fldA Tryz.prog 27 a2 6 (fun A4 w =>
    ld Tryz.prog 25 A4 (fun A5 w =>
    blt Tryz.prog Builtin.len #[25] 3 #[false] #[A5] (fun A6 w =>
    fldA Tryz.prog 27 b3 6 (fun A7 w =>
    ld Tryz.prog 25 A7 (fun A8 w =>
    blt Tryz.prog Builtin.len #[25] 3 #[false] #[A8] (fun A9 w =>
    bin Tryz.prog BinOp.neq 3 false false A6 A9 (fun C0 w =>
    cond C0
      (K (Value.bool false) w)
      ((leatref29_Same_L1 K) (a0::b1::a2::b3::(Value.bool false)::(Value.int IntKind.i64 0)::A4::A5::A6::A7::A8::A9::C0::undef::undef::undef::undef::undef::undef::undef::undef::undef::undef::undef::undef::undef::undef::undef::undef::undef::undef::undef::undef::undef::undef::undef::undef::undef::undef::undef::undef::undef::undef::undef::undef::undef::undef::undef::undef::undef::undef::undef::undef::undef::undef::undef::undef::undef::undef::undef::undef::undef::undef::undef::undef::undef::undef::undef::undef::undef::undef::[]) w)) w) w) w) w) w) w) w) w) w) :
    Gives Tryz.prog 14 #[a0, b1] w K := enter' Tryz.func14 (by kernel_rfl) (Eq.mp (congrArg (fun c => cCode Tryz.prog c (retK Tryz.prog Tryz.f14.results.toList K) (fun _ _ _ => False) (retK Tryz.prog Tryz.f14.results.toList K) (a0::b1::undef::undef::undef::undef::undef::undef::undef::undef::undef::undef::undef::undef::undef::undef::undef::undef::undef::undef::undef::undef::undef::undef::undef::undef::undef::undef::undef::undef::undef::undef::undef::undef::undef::undef::undef::undef::undef::undef::undef::undef::undef::undef::undef::undef::undef::undef::undef::undef::undef::undef::undef::undef::undef::undef::undef::undef::undef::undef::undef::undef::undef::undef::undef::undef::undef::undef::undef::undef::undef::[]) w) (by kernel_rfl : (cd Tryz.f14 []) = (cd Tryz.f14 []))) (leatref29_Same_k h))
theorem leatref29_Same_go : isGo Tryz.prog 14 := ⟨_, Tryz.func14, by kernel_rfl, by kernel_rfl⟩

theorem leatref29_Same_L1_k {K : KV} (B1 : KE) (qc0 : KE) {a0 b1 a2 b3 i5' A4 A5 A6 A7 A8 A9 C0 D9 E0 E1 E2 E3 E4 E5 E6 E7 E8 E9 F0 F1 F2 F3 F4 F5 F6 F7 F8 F9 G0 G1 G2 G3 G4 G5 G6 G7 G8 G9 H0 H1 H2 H3 H4 H5 H6 H7 H8 : Value} {dd : Nat → Value} {w : World}
    (h : fldA Tryz.prog 27 a2 6 (fun C2 w =>
    ld Tryz.prog 25 C2 (fun C3 w =>
    blt Tryz.prog Builtin.len #[25] 3 #[false] #[C3] (fun C4 w =>
    bin Tryz.prog BinOp.lss 3 false false i5' C4 (fun C5 w =>
    cond C5
      ((fun w =>
    sti (fun k w => fldA Tryz.prog 27 a2 6 k w) (fun C8 w =>
    sti (fun k w => ld Tryz.prog 25 C8 k w) (fun C9 w =>
    sti (fun k w => idxA Tryz.prog 25 C9 i5' k w) (fun D1 w =>
    sti (fun k w => ld Tryz.prog 3 D1 k w) (fun D2 w =>
    sti (fun k w => fldA Tryz.prog 27 b3 6 k w) (fun D3 w =>
    sti (fun k w => ld Tryz.prog 25 D3 k w) (fun D4 w =>
    sti (fun k w => idxA Tryz.prog 25 D4 i5' k w) (fun D6 w =>
    sti (fun k w => ld Tryz.prog 3 D6 k w) (fun D7 w =>
    sti (fun k w => bin Tryz.prog BinOp.neq 3 false false D2 D7 k w) (fun D8 w =>
    cond D8
      (K (Value.bool false) w)
      (bin Tryz.prog BinOp.add 3 false true i5' (Value.int IntKind.i64 1) (fun C7 w =>
    B1 (a0::b1::a2::b3::(dd 4)::C7::A4::A5::A6::A7::A8::A9::C0::i5'::C2::C3::C4::C5::i5'::C7::C8::C9::i5'::D1::D2::D3::D4::i5'::D6::D7::D8::D9::E0::E1::E2::E3::E4::E5::E6::E7::E8::E9::F0::F1::F2::F3::F4::F5::F6::F7::F8::F9::G0::G1::G2::G3::G4::G5::G6::G7::G8::G9::H0::H1::H2::H3::H4::H5::H6::H7::H8::[]) w) w)) w) w) w) w) w) w) w) w) w) w.drew)
      (qc0 (a0::b1::a2::b3::(dd 4)::i5'::A4::A5::A6::A7::A8::A9::C0::i5'::C2::C3::C4::C5::(dd 18)::(dd 19)::(dd 20)::(dd 21)::(dd 22)::(dd 23)::(dd 24)::(dd 25)::(dd 26)::(dd 27)::(dd 28)::(dd 29)::(dd 30)::D9::E0::E1::E2::E3::E4::E5::E6::E7::E8::E9::F0::F1::F2::F3::F4::F5::F6::F7::F8::F9::G0::G1::G2::G3::G4::G5::G6::G7::G8::G9::H0::H1::H2::H3::H4::H5::H6::H7::H8::[]) w)) w) w) w) w) :
    cCode Tryz.prog (cd Tryz.f14 [1, 1, 0, 1, 0, 0]) B1 (fun i => @Bool.rec (fun _ => KE) ((fun _ _ _ => False) i) qc0 (Nat.beq i 0)) (retK Tryz.prog Tryz.f14.results.toList K) (a0::b1::a2::b3::(dd 4)::i5'::A4::A5::A6::A7::A8::A9::C0::(dd 13)::(dd 14)::(dd 15)::(dd 16)::(dd 17)::(dd 18)::(dd 19)::(dd 20)::(dd 21)::(dd 22)::(dd 23)::(dd 24)::(dd 25)::(dd 26)::(dd 27)::(dd 28)::(dd 29)::(dd 30)::D9::E0::E1::E2::E3::E4::E5::E6::E7::E8::E9::F0::F1::F2::F3::F4::F5::F6::F7::F8::F9::G0::G1::G2::G3::G4::G5::G6::G7::G8::G9::H0::H1::H2::H3::H4::H5::H6::H7::H8::[]) w := Eq.mp (by kernel_rfl) h

section
variable {a0 b1 a2 b3 A2 i5 A4 A5 A6 A7 A8 A9 C0 C1 C2 C3 C4 C5 C6 C7 C8 C9 D0 D1 D2 D3 D4 D5 D6 D7 D8 D9 E0 E1 E2 E3 E4 E5 E6 E7 E8 E9 F0 F1 F2 F3 F4 F5 F6 F7 F8 F9 G0 G1 G2 G3 G4 G5 G6 G7 G8 G9 H0 H1 H2 H3 H4 H5 H6 H7 H8 : Value}
theorem leatref29_Same_L1_r {K : KV} {w : World} (Inv : Value → World → Prop) (μ : Value → World → Nat) (h0 : Inv i5 w)
    (hs : ∀ (i5' : Value) (dd : Nat → Value) (w : World) (m : Nat), Inv i5' w → m = μ i5' w →
    fldA Tryz.prog 27 a2 6 (fun C2 w =>
    ld Tryz.prog 25 C2 (fun C3 w =>
    blt Tryz.prog Builtin.len #[25] 3 #[false] #[C3] (fun C4 w =>
    bin Tryz.prog BinOp.lss 3 false false i5' C4 (fun C5 w =>
    cond C5
      ((fun w =>
    sti (fun k w => fldA Tryz.prog 27 a2 6 k w) (fun C8 w =>
    sti (fun k w => ld Tryz.prog 25 C8 k w) (fun C9 w =>
    sti (fun k w => idxA Tryz.prog 25 C9 i5' k w) (fun D1 w =>
    sti (fun k w => ld Tryz.prog 3 D1 k w) (fun D2 w =>
    sti (fun k w => fldA Tryz.prog 27 b3 6 k w) (fun D3 w =>
    sti (fun k w => ld Tryz.prog 25 D3 k w) (fun D4 w =>
    sti (fun k w => idxA Tryz.prog 25 D4 i5' k w) (fun D6 w =>
    sti (fun k w => ld Tryz.prog 3 D6 k w) (fun D7 w =>
    sti (fun k w => bin Tryz.prog BinOp.neq 3 false false D2 D7 k w) (fun D8 w =>
    cond D8
      (K (Value.bool false) w)
      (bin Tryz.prog BinOp.add 3 false true i5' (Value.int IntKind.i64 1) (fun C7 w =>
    (Inv C7 w ∧ μ C7 w < m)) w)) w) w) w) w) w) w) w) w) w) w.drew)
      ((leatref29_Same_P1 K) (a0::b1::a2::b3::(dd 4)::i5'::A4::A5::A6::A7::A8::A9::C0::i5'::C2::C3::C4::C5::(dd 18)::(dd 19)::(dd 20)::(dd 21)::(dd 22)::(dd 23)::(dd 24)::(dd 25)::(dd 26)::(dd 27)::(dd 28)::(dd 29)::(dd 30)::D9::E0::E1::E2::E3::E4::E5::E6::E7::E8::E9::F0::F1::F2::F3::F4::F5::F6::F7::F8::F9::G0::G1::G2::G3::G4::G5::G6::G7::G8::G9::H0::H1::H2::H3::H4::H5::H6::H7::H8::[]) w)) w) w) w) w) :
    leatref29_Same_L1 K (a0::b1::a2::b3::A2::i5::A4::A5::A6::A7::A8::A9::C0::C1::C2::C3::C4::C5::C6::C7::C8::C9::D0::D1::D2::D3::D4::D5::D6::D7::D8::D9::E0::E1::E2::E3::E4::E5::E6::E7::E8::E9::F0::F1::F2::F3::F4::F5::F6::F7::F8::F9::G0::G1::G2::G3::G4::G5::G6::G7::G8::G9::H0::H1::H2::H3::H4::H5::H6::H7::H8::[]) w := by
  refine loop_rule (cd Tryz.f14 [1, 1, 0, 1, 0, 0]) [4, 5, 13, 14, 15, 16, 17, 18, 19, 20, 21, 22, 23, 24, 25, 26, 27, 28, 29, 30] (by kernel_rfl) (fun e2 w2 => Inv (gd e2 5) w2) (fun e2 w2 => μ (gd e2 5) w2) h0 ?_
  intro e' w' hI
  have h := hs (gd e' 5) (fun i => gd e' i) w' _ hI rfl
  have h2 : cCode Tryz.prog (cd Tryz.f14 [1, 1, 0, 1, 0, 0]) (fun e2 w2 => Inv (gd e2 5) w2 ∧ μ (gd e2 5) w2 < μ (gd e' 5) w') (fun i => @Bool.rec (fun _ => KE) ((fun _ _ _ => False) i) (leatref29_Same_P1 K) (Nat.beq i 0)) (retK Tryz.prog Tryz.f14.results.toList K) (a0::b1::a2::b3::(gd e' 4)::(gd e' 5)::A4::A5::A6::A7::A8::A9::C0::(gd e' 13)::(gd e' 14)::(gd e' 15)::(gd e' 16)::(gd e' 17)::(gd e' 18)::(gd e' 19)::(gd e' 20)::(gd e' 21)::(gd e' 22)::(gd e' 23)::(gd e' 24)::(gd e' 25)::(gd e' 26)::(gd e' 27)::(gd e' 28)::(gd e' 29)::(gd e' 30)::D9::E0::E1::E2::E3::E4::E5::E6::E7::E8::E9::F0::F1::F2::F3::F4::F5::F6::F7::F8::F9::G0::G1::G2::G3::G4::G5::G6::G7::G8::G9::H0::H1::H2::H3::H4::H5::H6::H7::H8::[]) w' := leatref29_Same_L1_k (fun e2 w2 => Inv (gd e2 5) w2 ∧ μ (gd e2 5) w2 < μ (gd e' 5) w') (leatref29_Same_P1 K) (Eq.mp (by kernel_rfl) h)
  exact Eq.mp (by kernel_rfl) h2

theorem leatref29_Same_P1_k {K : KV} {w : World}
    (h : fldA Tryz.prog 27 a2 0 (fun D9 w =>
    ld Tryz.prog 5 D9 (fun E0 w =>
    fldA Tryz.prog 27 b3 0 (fun E1 w =>
    ld Tryz.prog 5 E1 (fun E2 w =>
    bin Tryz.prog BinOp.eql 5 false false E0 E2 (fun E3 w =>
    gsel E3 true (fun k37 =>
    fldA Tryz.prog 27 a2 1 (fun E5 w =>
    ld Tryz.prog 3 E5 (fun E6 w =>
    fldA Tryz.prog 27 b3 1 (fun E7 w =>
    ld Tryz.prog 3 E7 (fun E8 w =>
    bin Tryz.prog BinOp.eql 3 false false E6 E8 (fun E9 w =>
    k37 [E5, E6, E7, E8, E9] w) w) w) w) w) w)
    (fun k => k [undef, undef, undef, undef, undef] w) (fun us37 w =>
    pick E3 (gd us37 4) (Value.bool false) (fun F0 w =>
    gsel F0 true (fun k44 =>
    fldA Tryz.prog 27 a2 2 (fun F2 w =>
    ld Tryz.prog 24 F2 (fun F3 w =>
    fldA Tryz.prog 27 b3 2 (fun F4 w =>
    ld Tryz.prog 24 F4 (fun F5 w =>
    bin Tryz.prog BinOp.eql 24 false false F3 F5 (fun F6 w =>
    k44 [F2, F3, F4, F5, F6] w) w) w) w) w) w)
    (fun k => k [undef, undef, undef, undef, undef] w) (fun us44 w =>
    pick F0 (gd us44 4) (Value.bool false) (fun F7 w =>
    gsel F7 true (fun k51 =>
    fldA Tryz.prog 27 a2 3 (fun F9 w =>
    ld Tryz.prog 3 F9 (fun G0 w =>
    fldA Tryz.prog 27 b3 3 (fun G1 w =>
    ld Tryz.prog 3 G1 (fun G2 w =>
    bin Tryz.prog BinOp.eql 3 false false G0 G2 (fun G3 w =>
    k51 [F9, G0, G1, G2, G3] w) w) w) w) w) w)
    (fun k => k [undef, undef, undef, undef, undef] w) (fun us51 w =>
    pick F7 (gd us51 4) (Value.bool false) (fun G4 w =>
    gsel G4 true (fun k58 =>
    fldA Tryz.prog 27 a2 4 (fun G6 w =>
    ld Tryz.prog 3 G6 (fun G7 w =>
    fldA Tryz.prog 27 b3 4 (fun G8 w =>
    ld Tryz.prog 3 G8 (fun G9 w =>
    bin Tryz.prog BinOp.eql 3 false false G7 G9 (fun H0 w =>
    k58 [G6, G7, G8, G9, H0] w) w) w) w) w) w)
    (fun k => k [undef, undef, undef, undef, undef] w) (fun us58 w =>
    pick G4 (gd us58 4) (Value.bool false) (fun H1 w =>
    gsel H1 true (fun k65 =>
    fldA Tryz.prog 27 a2 5 (fun H3 w =>
    ld Tryz.prog 3 H3 (fun H4 w =>
    fldA Tryz.prog 27 b3 5 (fun H5 w =>
    ld Tryz.prog 3 H5 (fun H6 w =>
    bin Tryz.prog BinOp.eql 3 false false H4 H6 (fun H7 w =>
    k65 [H3, H4, H5, H6, H7] w) w) w) w) w) w)
    (fun k => k [undef, undef, undef, undef, undef] w) (fun us65 w =>
    pick H1 (gd us65 4) (Value.bool false) (fun H8 w =>
    K H8 w) w)) w)) w)) w)) w)) w) w) w) w) w) :
    cCode Tryz.prog (cd Tryz.f14 [1, 1, 1]) (retK Tryz.prog Tryz.f14.results.toList K) (fun _ _ _ => False) (retK Tryz.prog Tryz.f14.results.toList K) (a0::b1::a2::b3::A2::i5::A4::A5::A6::A7::A8::A9::C0::C1::C2::C3::C4::C5::C6::C7::C8::C9::D0::D1::D2::D3::D4::D5::D6::D7::D8::D9::E0::E1::E2::E3::E4::E5::E6::E7::E8::E9::F0::F1::F2::F3::F4::F5::F6::F7::F8::F9::G0::G1::G2::G3::G4::G5::G6::G7::G8::G9::H0::H1::H2::H3::H4::H5::H6::H7::H8::[]) w := Eq.mp (by kernel_rfl) h

theorem leatref29_Same_P1_r {K : KV} {w : World}
    (h : fldA Tryz.prog 27 a2 0 (fun D9 w =>
    ld Tryz.prog 5 D9 (fun E0 w =>
    fldA Tryz.prog 27 b3 0 (fun E1 w =>
    ld Tryz.prog 5 E1 (fun E2 w =>
    bin Tryz.prog BinOp.eql 5 false false E0 E2 (fun E3 w =>
    gsel E3 true (fun k37 =>
    fldA Tryz.prog 27 a2 1 (fun E5 w =>
    ld Tryz.prog 3 E5 (fun E6 w =>
    fldA Tryz.prog 27 b3 1 (fun E7 w =>
    ld Tryz.prog 3 E7 (fun E8 w =>
    bin Tryz.prog BinOp.eql 3 false false E6 E8 (fun E9 w =>
    k37 [E5, E6, E7, E8, E9] w) w) w) w) w) w)
    (fun k => k [undef, undef, undef, undef, undef] w) (fun us37 w =>
    pick E3 (gd us37 4) (Value.bool false) (fun F0 w =>
    gsel F0 true (fun k44 =>
    fldA Tryz.prog 27 a2 2 (fun F2 w =>
    ld Tryz.prog 24 F2 (fun F3 w =>
    fldA Tryz.prog 27 b3 2 (fun F4 w =>
    ld Tryz.prog 24 F4 (fun F5 w =>
    bin Tryz.prog BinOp.eql 24 false false F3 F5 (fun F6 w =>
    k44 [F2, F3, F4, F5, F6] w) w) w) w) w) w)
    (fun k => k [undef, undef, undef, undef, undef] w) (fun us44 w =>
    pick F0 (gd us44 4) (Value.bool false) (fun F7 w =>
    gsel F7 true (fun k51 =>
    fldA Tryz.prog 27 a2 3 (fun F9 w =>
    ld Tryz.prog 3 F9 (fun G0 w =>
    fldA Tryz.prog 27 b3 3 (fun G1 w =>
    ld Tryz.prog 3 G1 (fun G2 w =>
    bin Tryz.prog BinOp.eql 3 false false G0 G2 (fun G3 w =>
    k51 [F9, G0, G1, G2, G3] w) w) w) w) w) w)
    (fun k => k [undef, undef, undef, undef, undef] w) (fun us51 w =>
    pick F7 (gd us51 4) (Value.bool false) (fun G4 w =>
    gsel G4 true (fun k58 =>
    fldA Tryz.prog 27 a2 4 (fun G6 w =>
    ld Tryz.prog 3 G6 (fun G7 w =>
    fldA Tryz.prog 27 b3 4 (fun G8 w =>
    ld Tryz.prog 3 G8 (fun G9 w =>
    bin Tryz.prog BinOp.eql 3 false false G7 G9 (fun H0 w =>
    k58 [G6, G7, G8, G9, H0] w) w) w) w) w) w)
    (fun k => k [undef, undef, undef, undef, undef] w) (fun us58 w =>
    pick G4 (gd us58 4) (Value.bool false) (fun H1 w =>
    gsel H1 true (fun k65 =>
    fldA Tryz.prog 27 a2 5 (fun H3 w =>
    ld Tryz.prog 3 H3 (fun H4 w =>
    fldA Tryz.prog 27 b3 5 (fun H5 w =>
    ld Tryz.prog 3 H5 (fun H6 w =>
    bin Tryz.prog BinOp.eql 3 false false H4 H6 (fun H7 w =>
    k65 [H3, H4, H5, H6, H7] w) w) w) w) w) w)
    (fun k => k [undef, undef, undef, undef, undef] w) (fun us65 w =>
    pick H1 (gd us65 4) (Value.bool false) (fun H8 w =>
    K H8 w) w)) w)) w)) w)) w)) w) w) w) w) w) :
    leatref29_Same_P1 K (a0::b1::a2::b3::A2::i5::A4::A5::A6::A7::A8::A9::C0::C1::C2::C3::C4::C5::C6::C7::C8::C9::D0::D1::D2::D3::D4::D5::D6::D7::D8::D9::E0::E1::E2::E3::E4::E5::E6::E7::E8::E9::F0::F1::F2::F3::F4::F5::F6::F7::F8::F9::G0::G1::G2::G3::G4::G5::G6::G7::G8::G9::H0::H1::H2::H3::H4::H5::H6::H7::H8::[]) w := by
  delta leatref29_Same_P1
  exact Eq.mp (congrArg (fun c => cCode Tryz.prog c (retK Tryz.prog Tryz.f14.results.toList K) (fun _ _ _ => False) (retK Tryz.prog Tryz.f14.results.toList K) (a0::b1::a2::b3::A2::i5::A4::A5::A6::A7::A8::A9::C0::C1::C2::C3::C4::C5::C6::C7::C8::C9::D0::D1::D2::D3::D4::D5::D6::D7::D8::D9::E0::E1::E2::E3::E4::E5::E6::E7::E8::E9::F0::F1::F2::F3::F4::F5::F6::F7::F8::F9::G0::G1::G2::G3::G4::G5::G6::G7::G8::G9::H0::H1::H2::H3::H4::H5::H6::H7::H8::[]) w) (by kernel_rfl : (cd Tryz.f14 [1, 1, 1]) = (cd Tryz.f14 [1, 1, 1]))) (leatref29_Same_P1_k h)
attribute [irreducible] leatref29_Same_P1 leatref29_Same_L1

end
end Go.Proofs.YtfjafbbalohmhaaGreatDoor
/- The document's steps' bytes: which steps may be, their bytes (leatref29.May, number, Put). -/
namespace Go.Proofs.YtfjafbbalohmhaaGreatDoor
set_option maxRecDepth 100000
open Go.RowKit
theorem all_bad {l : List Int} {lo hi : Int} {j : Nat} (hj : j < l.length) (h : inB lo hi (l.getD j 0) = false) : l.all (inB lo hi) = false := by
  have hx : l.getD j 0 = l[j] := by simp [List.getD, hj]
  cases hq : l.all (inB lo hi) with
  | false => rfl
  | true => have := List.all_eq_true.1 hq _ (List.getElem_mem hj); rw [← hx] at this; rw [this] at h; cases h
theorem all_step {l : List Int} {lo hi : Int} {j : Nat} (hj : j < l.length) (hall : (l.take j).all (inB lo hi) = true) (h : inB lo hi (l.getD j 0) = true) : (l.take (j + 1)).all (inB lo hi) = true := by
  have hx : l.getD j 0 = l[j] := by simp [List.getD, hj]
  have ht : l.take (j + 1) = l.take j ++ [l.getD j 0] := by rw [hx, List.take_append_getElem hj]
  rw [ht, List.all_append, hall, List.all_cons, h]; rfl
theorem inB_f {lo hi x : Int} (h : x < lo ∨ hi < x) : inB lo hi x = false := by
  cases hq : inB lo hi x with
  | false => rfl
  | true => have := inB_iff.1 hq; omega
attribute [local irreducible] bin un conv call callV blt slc fldA fld idxA idx lkp mUpd mEnt eSt rng nxt ent ext alc box bld bldS ld sto nilC mkMap mkS ifc pick rdy wts gsel sti cond retM Gives cCode cGrp cSeq cOp
section
variable {w : World} {K : KV}
theorem rdN {K2 : Value → KV} {a : Option Addr} {n c j : Nat} {l : List Int} {x : Int} (hr : RN w a n c l) (hj : j < n) (hn : n ≤ 9223372036854775807) (hxx : l.getD j 0 = x) (h : ∀ t, K2 t (.int .i64 x) w) :
    idxA Tryz.prog 25 (.slice a n c) (.int .i64 (j : Nat)) (fun t w => ld Tryz.prog 3 t (K2 t) w) w := by
  subst hxx
  have hl : l.length = n := by simpa using hr.len
  have hx : (l.map i6)[j]? = some (i6 (l.getD j 0)) := by simp [List.getD, List.getElem?_eq_getElem (show j < l.length by omega)]
  refine idx_slc Tryz.underlying25 (fun _ => by kernel_rfl) (by omega) (by omega) hr.some_ ?_
  rw [Int.toNat_natCast]
  exact ld_cell (fun _ => by kernel_rfl) (hr.cell _ _ hx) (h _)
theorem lenN {ty : TypeId} {cs : Array Bool} {a : Option Addr} {n c : Nat} (h : K (.int .i64 (n : Int)) w) : blt Tryz.prog .len #[25] ty cs #[.slice a n c] K w := len_slc Tryz.underlying25 h
set_option maxHeartbeats 4000000 in
theorem rmay29_c {s : STP} {a : Option Addr} {c : Nat} (hr : RN w a s.picks.length c s.picks) (hn : s.picks.length ≤ 9223372036854775807) (h : ∀ w', Below w.heap.size w w' → K (.bool (mayT s)) w') :
    call Tryz.prog 10 #[.agg (stC s (.slice a s.picks.length c)).toArray] K w := by
  refine call_of leatref29_May_go (leatref29_May_in ?_)
  refine box_of fun w1 hb b1 s1 => ?_
  have hb : blk w1 w.heap.size 27 (stC s (.slice a s.picks.length c)) := hb
  generalize hq0 : w.heap.size = q at *
  have may := @mayT_iff s
  (repeat (first | refine fA_Stp_1 ?_ | refine fA_Stp_2 ?_ | refine fA_Stp_3 ?_ | refine fA_Stp_4 ?_ | refine fA_Tas_2 ?_ | (refine ld_TL_1 ?_ (by assumption) ?_ ?_; rotate_left; exact rfl)))
  refine bldSG (vs := [i6 s.who, i6 s.j, i6 s.k, i6 s.to]) Tryz.underlying25 (s := 1) (by kernel_rfl) (by kernel_rfl) (by omega) rfl (by simp) (by simp) (by simp) (by simp [Value.cells, i6]) ?_
  intro w2 hb2 b2 s2
  have hr2 : RN w2 (some ⟨w1.heap.size, 0, none⟩) 4 4 [s.who, s.j, s.k, s.to] := rv_blk (by simpa [Value.cells, i6] using hb2)
  have hb2' : blk w2 q 27 (stC s (.slice a s.picks.length c)) := below_blk b2 hb (by omega)
  have hlist : [s.who, s.j, s.k, s.to].all (inB (-1) 255) = true ↔ (-1 ≤ s.who ∧ s.who ≤ 255) ∧ (-1 ≤ s.j ∧ s.j ≤ 255) ∧ (-1 ≤ s.k ∧ s.k ≤ 255) ∧ (-1 ≤ s.to ∧ s.to ≤ 255) := by simp [inB_iff, and_assoc]
  have b12 : Below q w w2 := b1.trans (b2.mono (by omega))
  have no : ¬ (mayT s = true) → K (Value.bool false) w2 := fun hq => by have := h w2 b12; rw [show mayT s = false by simpa using hq] at this; exact this
  have hr4 : RN w2 a s.picks.length c s.picks := hr.below b12 (by omega)
  have h := h w2 b12
  clear b1 b2 hb2 hb hr b12
  have hl4 : [s.who, s.j, s.k, s.to].length = 4 := rfl
  generalize hL : [s.who, s.j, s.k, s.to] = L at hr2 hlist hl4
  refine leatref29_May_L1_r (Inv := fun i _ _ _ _ _ wr => ∃ j : Nat, i = .int .i64 (j : Nat) ∧ j ≤ 4 ∧ wr = w2 ∧ (L.take j).all (inB (-1) 255) = true) (μ := fun i _ _ _ _ _ _ => 4 - (intOf i).toNat) ⟨0, rfl, by omega, rfl, by simp⟩ ?_
  rintro _ _ _ _ _ _ dd wr m ⟨j, rfl, hj, rfl, hall⟩ hm
  refine lenN ?_
  refine bin_lss ?_
  by_cases hj4 : j < 4
  · refine cond_t (by omega) ?_
    obtain ⟨x, hx⟩ : ∃ x, L.getD j 0 = x := ⟨_, rfl⟩
    have bad : inB (-1) 255 x = false → K (Value.bool false) wr := fun hb => no (by rw [may]; intro hh; have := hlist.2 ⟨hh.2.2.1, hh.2.2.2.1, hh.2.2.2.2.1, hh.2.2.2.2.2.1⟩; rw [all_bad (by omega) (hx ▸ hb)] at this; cases this)
    have good : inB (-1) 255 x = true → _ := fun hq => all_step (show j < L.length by omega) hall (hx ▸ hq)
    refine rdN hr2 hj4 (by omega) hx fun _ => ?_
    refine bin_lss ?_
    by_cases h0 : x < -1
    · refine gsel_nt h0 ?_
      refine pick_t h0 ?_
      refine cond_T ?_
      exact bad (inB_f (.inl h0))
    · refine gsel_nf h0 ?_
      refine rdN hr2 hj4 (by omega) hx fun _ => ?_
      refine bin_gtr ?_
      refine pick_f h0 ?_
      by_cases h1 : 255 < x
      · refine cond_t h1 ?_
        exact bad (inB_f (.inr h1))
      · refine cond_f h1 ?_
        refine add64 (by omega) (by omega) ?_
        exact ⟨⟨j + 1, by simp, by omega, rfl, good (inB_iff.2 ⟨by omega, by omega⟩)⟩, by rw [hm]; simp [intOf]; omega⟩
  obtain rfl : j = 4 := by omega
  refine cond_f (by simp) ?_
  rw [List.take_of_length_le (by omega)] at hall
  have hl4' := hlist.1 hall
  refine leatref29_May_P1_r ?_
  clear hall hr2 hL hlist
  refine leatref29_May_L2_r (Inv := fun i _ _ _ _ _ _ wr2 => ∃ j : Nat, i = .int .i64 (j : Nat) ∧ j ≤ s.picks.length ∧ wr2 = wr ∧ (s.picks.take j).all (inB (-1) 254) = true) (μ := fun i _ _ _ _ _ _ _ => s.picks.length - (intOf i).toNat) ⟨0, rfl, by omega, rfl, by simp⟩ ?_
  rintro _ _ _ _ _ _ _ dd wr2 m ⟨j, rfl, hj, rfl, hall⟩ hm
  (repeat (first | refine fA_Stp_6 ?_ | (refine ld_TL_4 ?_ (by assumption) ?_ ?_; rotate_left; exact rfl)))
  refine lenN ?_
  refine bin_lss ?_
  by_cases hjn : j < s.picks.length
  · refine cond_t (by omega) ?_
    obtain ⟨x, hx⟩ : ∃ x, s.picks.getD j 0 = x := ⟨_, rfl⟩
    have bad : inB (-1) 254 x = false → K (Value.bool false) wr2 := fun hb => no (by rw [may]; intro hh; have := hh.2.2.2.2.2.2.2.2.2; rw [all_bad (by omega) (hx ▸ hb)] at this; cases this)
    have good : inB (-1) 254 x = true → _ := fun hq => all_step hjn hall (hx ▸ hq)
    (repeat (first | refine fA_Stp_6 ?_ | (refine ld_TL_4 ?_ (by assumption) ?_ ?_; rotate_left; exact rfl)))
    refine rdN hr4 hjn (by omega) hx fun _ => ?_
    refine bin_lss ?_
    by_cases h0 : x < -1
    · refine gsel_nt h0 ?_
      refine pick_t h0 ?_
      refine cond_T ?_
      exact bad (inB_f (.inl h0))
    · refine gsel_nf h0 ?_
      (repeat (first | refine fA_Stp_6 ?_ | (refine ld_TL_4 ?_ (by assumption) ?_ ?_; rotate_left; exact rfl)))
      refine rdN hr4 hjn (by omega) hx fun _ => ?_
      refine bin_gtr ?_
      refine pick_f h0 ?_
      by_cases h1 : 254 < x
      · refine cond_t h1 ?_
        exact bad (inB_f (.inr h1))
      · refine cond_f h1 ?_
        refine add64 (by omega) (by omega) ?_
        exact ⟨⟨j + 1, by simp, by omega, rfl, good (inB_iff.2 ⟨by omega, by omega⟩)⟩, by rw [hm]; simp [intOf]; omega⟩
  obtain rfl : j = s.picks.length := by omega
  refine cond_f (by omega) ?_
  rw [List.take_length] at hall
  refine leatref29_May_P2_r ?_
  by_cases g1 : s.d < 1
  · (repeat (first | refine fA_Stp_0 ?_ | (refine ld_TL_0 ?_ (by assumption) ?_ ?_; rotate_left; exact rfl) | refine bin_geq ?_ | refine pick_F ?_ | refine gsel_F ?_ | refine gsel_pf (by omega) ?_ | refine pick_f (by omega) ?_))
    exact no (by rw [may]; omega)
  by_cases g2 : s.d > 12
  · (repeat (first | refine fA_Stp_0 ?_ | (refine ld_TL_0 ?_ (by assumption) ?_ ?_; rotate_left; exact rfl) | refine bin_leq ?_ | refine bin_geq ?_ | refine pick_F ?_ | refine gsel_F ?_ | refine gsel_pt (by omega) ?_ | refine gsel_pf (by omega) ?_ | refine pick_t (by omega) ?_ | refine pick_f (by omega) ?_))
    exact no (by rw [may]; omega)
  by_cases g3 : s.n < -1
  · (repeat (first | refine fA_Stp_0 ?_ | refine fA_Stp_5 ?_ | (refine ld_TL_0 ?_ (by assumption) ?_ ?_; rotate_left; exact rfl) | (refine ld_TL_1 ?_ (by assumption) ?_ ?_; rotate_left; exact rfl) | refine bin_leq ?_ | refine bin_geq ?_ | refine pick_F ?_ | refine gsel_F ?_ | refine gsel_pt (by omega) ?_ | refine gsel_pf (by omega) ?_ | refine pick_t (by omega) ?_ | refine pick_f (by omega) ?_))
    exact no (by rw [may]; omega)
  by_cases g4 : s.n > 1073741824
  · (repeat (first | refine fA_Stp_0 ?_ | refine fA_Stp_5 ?_ | (refine ld_TL_0 ?_ (by assumption) ?_ ?_; rotate_left; exact rfl) | (refine ld_TL_1 ?_ (by assumption) ?_ ?_; rotate_left; exact rfl) | refine bin_leq ?_ | refine bin_geq ?_ | refine pick_F ?_ | refine gsel_F ?_ | refine gsel_pt (by omega) ?_ | refine gsel_pf (by omega) ?_ | refine pick_t (by omega) ?_ | refine pick_f (by omega) ?_))
    exact no (by rw [may]; omega)
  by_cases g5 : s.kind > 7
  · (repeat (first | refine fA_Stp_0 ?_ | refine fA_Stp_2 ?_ | refine fA_Stp_5 ?_ | refine fA_Tas_0 ?_ | (refine ld_TL_0 ?_ (by assumption) ?_ ?_; rotate_left; exact rfl) | (refine ld_TL_1 ?_ (by assumption) ?_ ?_; rotate_left; exact rfl) | refine bin_leq ?_ | refine bin_geq ?_ | refine pick_F ?_ | refine gsel_F ?_ | refine gsel_pt (by omega) ?_ | refine gsel_pf (by omega) ?_ | refine pick_t (by omega) ?_ | refine pick_f (by omega) ?_))
    exact no (by rw [may]; omega)
  by_cases g6 : s.am < -1
  · (repeat (first | refine fA_Stp_0 ?_ | refine fA_Stp_2 ?_ | refine fA_Stp_5 ?_ | refine fA_Tas_0 ?_ | refine fA_Tas_3 ?_ | (refine ld_TL_0 ?_ (by assumption) ?_ ?_; rotate_left; exact rfl) | (refine ld_TL_1 ?_ (by assumption) ?_ ?_; rotate_left; exact rfl) | (refine ld_TL_3 ?_ (by assumption) ?_ ?_; rotate_left; exact rfl) | refine bin_leq ?_ | refine bin_geq ?_ | refine pick_F ?_ | refine gsel_F ?_ | refine gsel_pt (by omega) ?_ | refine gsel_pf (by omega) ?_ | refine pick_t (by omega) ?_ | refine pick_f (by omega) ?_))
    exact no (by rw [may]; omega)
  by_cases g7 : s.am > 1152921504606846976
  · (repeat (first | refine fA_Stp_0 ?_ | refine fA_Stp_2 ?_ | refine fA_Stp_5 ?_ | refine fA_Tas_0 ?_ | refine fA_Tas_3 ?_ | (refine ld_TL_0 ?_ (by assumption) ?_ ?_; rotate_left; exact rfl) | (refine ld_TL_1 ?_ (by assumption) ?_ ?_; rotate_left; exact rfl) | (refine ld_TL_3 ?_ (by assumption) ?_ ?_; rotate_left; exact rfl) | refine bin_leq ?_ | refine bin_geq ?_ | refine gsel_pt (by omega) ?_ | refine gsel_pf (by omega) ?_ | refine pick_t (by omega) ?_ | refine pick_f (by omega) ?_))
    exact no (by rw [may]; omega)
  have hm : mayT s = decide ((s.picks.length : Int) ≤ 255) := by
    by_cases hq : (s.picks.length : Int) ≤ 255
    · rw [decide_eq_true hq, may]; exact ⟨by omega, by omega, hl4'.1, hl4'.2.1, hl4'.2.2.1, hl4'.2.2.2, by omega, by omega, by omega, hall⟩
    · rw [decide_eq_false hq]
      cases hq2 : mayT s with
      | false => rfl
      | true => have := may.1 hq2; omega
  rw [hm] at h
  (repeat (first | refine fA_Stp_0 ?_ | refine fA_Stp_2 ?_ | refine fA_Stp_5 ?_ | refine fA_Stp_6 ?_ | refine fA_Tas_0 ?_ | refine fA_Tas_3 ?_ | (refine ld_TL_0 ?_ (by assumption) ?_ ?_; rotate_left; exact rfl) | (refine ld_TL_1 ?_ (by assumption) ?_ ?_; rotate_left; exact rfl) | (refine ld_TL_3 ?_ (by assumption) ?_ ?_; rotate_left; exact rfl) | (refine ld_TL_4 ?_ (by assumption) ?_ ?_; rotate_left; exact rfl) | refine lenN ?_ | refine bin_leq ?_ | refine bin_geq ?_ | refine gsel_pt (by omega) ?_ | refine pick_t (by omega) ?_))
  exact h
end
end Go.Proofs.YtfjafbbalohmhaaGreatDoor
/- The document's steps' bytes (leatref29.number, Put). -/
namespace Go.Proofs.YtfjafbbalohmhaaGreatDoor
set_option maxRecDepth 100000
open Go.RowKit
attribute [local irreducible] bin un conv call callV blt slc fldA fld idxA idx lkp mUpd mEnt eSt rng nxt ent ext alc box bld bldS ld sto nilC mkMap mkS ifc pick rdy wts gsel sti cond retM Gives cCode cGrp cSeq cOp
section
variable {w : World} {K : KV}
theorem rnum_c {a : Option Addr} {n c : Nat} {l : List UInt8} {x kk : Int} (k : Nat) (hb : RB w a n c l) (hn : n ≤ 140737488351232) (hk : k = 1 ∨ k = 2 ∨ k = 4 ∨ k = 8) (h0 : 0 ≤ x) (hx : x < 256 ^ k) (hkk : kk = (k : Int))
    (h : ∀ a' n' c' w', OB w' w.heap.size a' n' c' (l ++ beBytes x.toNat k) → Below w.heap.size w w' → K (.slice a' n' c') w') : call Tryz.prog 28 #[.slice a n c, .int .u64 x, .int .i64 kk] K w := by
  subst hkk
  obtain ⟨y, rfl⟩ := Int.eq_ofNat_of_zero_le h0
  rw [Int.toNat_natCast] at h
  have hy : y < 256 ^ k := by rcases hk with rfl | rfl | rfl | rfl <;> omega
  have hx64 : y < 18446744073709551616 := Nat.lt_of_lt_of_le hy (by rcases hk with rfl | rfl | rfl | rfl <;> decide)
  refine call_of leatref29_number_go (leatref29_number_in ?_)
  refine rput_c hb hn hx64 ?_
  intro a' n' c' w1 ho b1
  rw [putS_ok hk hy] at ho ⊢
  refine ext_a ?_
  refine ext_b ?_
  exact h a' n' c' w1 ho b1
/-- The bytes so far, and the step. -/
structure P29 (w0 w : World) (q : Nat) (s : STP) (v : Value) (a : Option Addr) (n c : Nat) (l : List UInt8) : Prop where
  stp : blk w q 27 (stC s v)
  rb : RB w a n c l
  bel : Below q w0 w
theorem p29_c {w0 : World} {q : Nat} {s : STP} {v : Value} {a : Option Addr} {n c : Nat} {l : List UInt8} {x kk : Int} (k : Nat) (hs : P29 w0 w q s v a n c l) (hl : l.length ≤ 1000) (hk : k = 1 ∨ k = 2 ∨ k = 4 ∨ k = 8) (h0 : 0 ≤ x) (hx : x < 256 ^ k) (hkk : kk = (k : Int))
    (h : ∀ a' n' c' w', P29 w0 w' q s v a' n' c' (l ++ beBytes x.toNat k) → K (.slice a' n' c') w') : call Tryz.prog 28 #[.slice a n c, .int .u64 x, .int .i64 kk] K w := by
  have hn := hs.rb.len
  have hlt := hs.stp.lt
  refine rnum_c k hs.rb (by omega) hk h0 hx hkk ?_
  intro a' n' c' w1 ho b1
  exact h a' n' c' w1 ⟨below_blk b1 hs.stp hlt, OV.rv ho, hs.bel.trans (b1.mono (by omega))⟩
set_option maxHeartbeats 4000000 in
theorem rput29_c {s : STP} {a : Option Addr} {c : Nat} (hw : STW s) (hr : RN w a s.picks.length c s.picks) (hn : s.picks.length ≤ 9223372036854775807) (h : ∀ w' a' n' c', RB w' a' n' c' (putT s) → Below w.heap.size w w' → K (.slice a' n' c') w') :
    call Tryz.prog 11 #[.agg (stC s (.slice a s.picks.length c)).toArray] K w := by
  refine call_of leatref29_Put_go (leatref29_Put_in ?_)
  refine box_of fun w1 hb b1 s1 => ?_
  have hb : blk w1 w.heap.size 27 (stC s (.slice a s.picks.length c)) := hb
  generalize hq0 : w.heap.size = q at *
  refine ldA (n := 12) (vs := stC s (.slice a s.picks.length c)) Tryz.underlying27 rfl (by kernel_rfl) hb rfl rfl ?_
  have hr1 : RN w1 a s.picks.length c s.picks := hr.below b1 (by omega)
  refine rmay29_c hr1 hn ?_
  intro w2 b2
  have hb2 : blk w2 q 27 (stC s (.slice a s.picks.length c)) := below_blk b2 hb (by omega)
  have b12 : Below q w w2 := b1.trans (b2.mono (by omega))
  refine un_not ?_
  cases hm : mayT s with
  | false =>
    rw [Bool.not_false]
    refine cond_T ?_
    have hp : putT s = [] := by unfold putT; rw [hm]
    have := h w2 none 0 0 (by rw [hp]; exact RV.nil w2) b12
    exact this
  | true =>
  obtain ⟨⟨d1, d2⟩, k1, ⟨w1', w2'⟩, ⟨j1, j2⟩, ⟨kk1, kk2⟩, ⟨t1, t2⟩, ⟨n1, n2⟩, ⟨a1, a2⟩, p1, p2⟩ := mayT_iff.1 hm
  rw [Bool.not_true]
  refine cond_F ?_
  have hd := hw.d
  have hkd := hw.kind
  have hnd := hw.node
  have hrq := hw.req
  have hof := hw.of_
  have hs2 : P29 w w2 q s (.slice a s.picks.length c) none 0 0 [] := ⟨hb2, RV.nil w2, b12⟩
  clear b2 b1 hb b12
  (repeat (first | refine fA_Stp_0 ?_ | (refine ld_TL_0 ?_ (by assumption) ?_ ?_; rotate_left; exact rfl) | refine cvBU (by omega) (by omega) ?_))
  refine p29_c 1 hs2 (by simp) (by simp) (by omega) (by omega) rfl ?_
  intro a3 n3 c3 w3 hs3
  have hb3 := hs3.stp
  (repeat (first | refine fA_Stp_1 ?_ | (refine ld_TL_1 ?_ (by assumption) ?_ ?_; rotate_left; exact rfl) | refine add64 (by omega) (by omega) ?_ | refine cvIU (by omega) (by omega) ?_))
  refine p29_c 2 hs3 (by simp [beBytes_len]) (by simp) (by omega) (by omega) rfl ?_
  intro a4 n4 c4 w4 hs4
  have hb4 := hs4.stp
  clear hs2 hs3 hb3 hb2
  (repeat (first | refine fA_Stp_4 ?_ | (refine ld_TL_1 ?_ (by assumption) ?_ ?_; rotate_left; exact rfl) | refine add64 (by omega) (by omega) ?_ | refine cvIU (by omega) (by omega) ?_))
  refine p29_c 2 hs4 (by simp [beBytes_len]) (by simp) (by omega) (by omega) rfl ?_
  intro a5 n5 c5 w5 hs5
  have hb5 := hs5.stp
  clear hs4 hb4
  (repeat (first | refine fA_Stp_3 ?_ | (refine ld_TL_1 ?_ (by assumption) ?_ ?_; rotate_left; exact rfl) | refine leatref29_Put_A1_r ?_ | refine add64 (by omega) (by omega) ?_ | refine cvIU (by omega) (by omega) ?_))
  refine p29_c 2 hs5 (by simp [beBytes_len]) (by simp) (by omega) (by omega) rfl ?_
  intro a6 n6 c6 w6 hs6
  have hb6 := hs6.stp
  clear hs5 hb5
  (repeat (first | refine fA_Stp_5 ?_ | (refine ld_TL_1 ?_ (by assumption) ?_ ?_; rotate_left; exact rfl) | refine add64 (by omega) (by omega) ?_ | refine cvIU (by omega) (by omega) ?_))
  refine p29_c 4 hs6 (by simp [beBytes_len]) (by simp) (by omega) (by omega) rfl ?_
  intro a7 n7 c7 w7 hs7
  have hb7 := hs7.stp
  clear hs6 hb6
  (repeat (first | refine fA_Stp_2 ?_ | refine fA_Tas_0 ?_ | (refine ld_TL_0 ?_ (by assumption) ?_ ?_; rotate_left; exact rfl) | refine cvBU (by omega) (by omega) ?_))
  refine p29_c 1 hs7 (by simp [beBytes_len]) (by simp) (by omega) (by omega) rfl ?_
  intro a8 n8 c8 w8 hs8
  have hb8 := hs8.stp
  clear hs7 hb7
  (repeat (first | refine fA_Stp_2 ?_ | refine fA_Tas_1 ?_ | (refine ld_TL_2 ?_ (by assumption) ?_ ?_; rotate_left; exact rfl)))
  refine p29_c 8 hs8 (by simp [beBytes_len]) (by simp) (by omega) (by omega) rfl ?_
  intro a9 n9 c9 w9 hs9
  have hb9 := hs9.stp
  clear hs8 hb8
  (repeat (first | refine fA_Stp_2 ?_ | refine fA_Tas_2 ?_ | (refine ld_TL_1 ?_ (by assumption) ?_ ?_; rotate_left; exact rfl) | refine leatref29_Put_A2_r ?_ | refine add64 (by omega) (by omega) ?_ | refine cvIU (by omega) (by omega) ?_))
  refine p29_c 2 hs9 (by simp [beBytes_len]) (by simp) (by omega) (by omega) rfl ?_
  intro a10 n10 c10 w10 hs10
  have hb10 := hs10.stp
  clear hs9 hb9
  (repeat (first | refine fA_Stp_2 ?_ | refine fA_Tas_3 ?_ | (refine ld_TL_3 ?_ (by assumption) ?_ ?_; rotate_left; exact rfl) | refine conv64 (by omega) (by omega) ?_ | refine add64 (by omega) (by omega) ?_))
  refine p29_c 8 hs10 (by simp [beBytes_len]) (by simp) (by omega) (by omega) rfl ?_
  intro a11 n11 c11 w11 hs11
  have hb11 := hs11.stp
  clear hs10 hb10
  (repeat (first | refine fA_Stp_2 ?_ | refine fA_Tas_4 ?_ | (refine ld_TL_2 ?_ (by assumption) ?_ ?_; rotate_left; exact rfl)))
  refine p29_c 8 hs11 (by simp [beBytes_len]) (by simp) (by omega) (by omega) rfl ?_
  intro a12 n12 c12 w12 hs12
  have hb12 := hs12.stp
  clear hs11 hb11
  (repeat (first | refine fA_Stp_2 ?_ | refine fA_Tas_5 ?_ | (refine ld_TL_2 ?_ (by assumption) ?_ ?_; rotate_left; exact rfl)))
  refine p29_c 8 hs12 (by simp [beBytes_len]) (by simp) (by omega) (by omega) rfl ?_
  intro a13 n13 c13 w13 hs13
  have hb13 := hs13.stp
  clear hs12 hb12
  (repeat (first | refine fA_Stp_6 ?_ | (refine ld_TL_4 ?_ (by assumption) ?_ ?_; rotate_left; exact rfl) | refine leatref29_Put_A3_r ?_))
  refine lenN ?_
  refine cvIU (by omega) (by omega) ?_
  refine p29_c 1 hs13 (by simp [beBytes_len]) (by simp) (by omega) (by omega) rfl ?_
  intro a14 n14 c14 w14 hs14
  clear hs13 hb13
  rw [Int.toNat_natCast] at hs14
  have hs14 : P29 w w14 q s (.slice a s.picks.length c) a14 n14 c14 (bdT s ++ pkT (s.picks.take 0)) := by simpa [pkT, bdT, hdT] using hs14
  refine leatref29_Put_L1_r (Inv := fun b i wr => ∃ (e : Nat) (a' : Option Addr) (n' c' : Nat), b = .slice a' n' c' ∧ i = .int .i64 (e : Nat) ∧ e ≤ s.picks.length ∧ P29 w wr q s (.slice a s.picks.length c) a' n' c' (bdT s ++ pkT (s.picks.take e)))
    (μ := fun _ i _ => s.picks.length - (intOf i).toNat) ⟨0, _, _, _, rfl, rfl, by omega, hs14⟩ ?_
  rintro _ _ dd w15 m ⟨e, a15, n15, c15, rfl, rfl, he, hs15⟩ hmm
  have hb15 := hs15.stp
  (repeat (first | refine fA_Stp_6 ?_ | (refine ld_TL_4 ?_ (by assumption) ?_ ?_; rotate_left; exact rfl)))
  refine lenN ?_
  refine bin_lss ?_
  by_cases hel : e < s.picks.length
  · refine cond_t (by omega) ?_
    have hrr : RN w15 a s.picks.length c s.picks := hr.below hs15.bel (by omega)
    have hxe : s.picks.getD e 0 = s.picks[e] := by simp [List.getD, hel]
    have hxb := inB_iff.1 (List.all_eq_true.1 p2 _ (List.getElem_mem hel))
    have ht : s.picks.take (e + 1) = s.picks.take e ++ [s.picks.getD e 0] := by rw [hxe, List.take_append_getElem hel]
    rw [← hxe] at hxb
    obtain ⟨x, hx⟩ : ∃ x, s.picks.getD e 0 = x := ⟨_, rfl⟩
    rw [hx] at hxb ht
    (repeat (first | refine fA_Stp_6 ?_ | (refine ld_TL_4 ?_ (by assumption) ?_ ?_; rotate_left; exact rfl)))
    refine rdN hrr hel (by omega) hx fun _ => ?_
    refine add64 (by omega) (by omega) ?_
    refine cvIU (by omega) (by omega) ?_
    refine p29_c 1 hs15 (by rw [List.length_append, bdT_len, pkT_len, List.length_take]; omega) (by simp) (by omega) (by omega) rfl ?_
    intro a16 n16 c16 w16 hs16
    refine add64 (by omega) (by omega) ?_
    refine ⟨⟨e + 1, _, _, _, rfl, by simp, by omega, by rw [ht, pkT_snoc, ← List.append_assoc]; exact hs16⟩, by rw [hmm]; simp [intOf]; omega⟩
  obtain rfl : e = s.picks.length := by omega
  refine cond_f (by omega) ?_
  refine leatref29_Put_P1_r ?_
  have x2 := hs15.rb
  rw [List.take_length, ← putT_t hm] at x2
  exact h w15 _ _ _ x2 hs15.bel
end
end Go.Proofs.YtfjafbbalohmhaaGreatDoor
/- Structs and arrays of numbers and bools held against each other: by their cells. Nothing of the program is named here. -/
namespace Go.Proofs.YtfjafbbalohmhaaGreatDoor
set_option maxRecDepth 100000
open Go.RowKit

def contig (P : Program) : List Field → Nat → Nat → Bool
  | [], o, n => Nat.beq o n
  | f :: fs, o, n => Nat.beq f.offset o && contig P fs (o + P.cellsOf f.type) n
/-- Cells that are numbers and bools, as a type has them. -/
def fitsB (P : Program) : Nat → TypeId → List Value → Bool
  | 0, _, _ => false
  | d + 1, t, cs => match P.underlying t with
    | some .bool => (match cs with | [.bool _] => true | _ => false)
    | some (.int q) => (match cs with | [.int q' _] => decide (q' = q) | _ => false)
    | some (.array n e) => (P.info? e).isSome && (Nat.beq cs.length (n * P.cellsOf e) && (List.range n).all fun i => fitsB P d e ((cs.drop (i * P.cellsOf e)).take (P.cellsOf e)))
    | some (.struct fs) => !P.stoodInHeld t && (contig P fs.toList 0 cs.length && fs.toList.all fun f => f.name != "_" && fitsB P d f.type ((cs.drop f.offset).take (P.cellsOf f.type)))
    | _ => false
def valC (P : Program) (t : TypeId) (cs : List Value) : Value := match P.underlying t with
  | some (.array _ _) => .agg cs.toArray
  | some (.struct _) => .agg cs.toArray
  | _ => cs.headD undef
theorem contig_same {P : Program} : ∀ (fs : List Field) (o n m : Nat), contig P fs o n = true → contig P fs o m = true → n = m
  | [], o, n, m, h1, h2 => by
    have := Nat.eq_of_beq_eq_true h1
    have := Nat.eq_of_beq_eq_true h2
    omega
  | f :: fs, o, n, m, h1, h2 => by
    unfold contig at h1 h2
    rw [Bool.and_eq_true] at h1 h2
    exact contig_same fs _ n m h1.2 h2.2
theorem fits_bool {P : Program} {d : Nat} {t : TypeId} {cs : List Value} (hu : P.underlying t = some .bool) (h : fitsB P (d + 1) t cs = true) : ∃ b, cs = [.bool b] := by
  unfold fitsB at h
  simp only [hu] at h
  split at h
  · exact ⟨_, rfl⟩
  · cases h
theorem fits_int {P : Program} {d : Nat} {t : TypeId} {q : IntKind} {cs : List Value} (hu : P.underlying t = some (.int q)) (h : fitsB P (d + 1) t cs = true) : ∃ n, cs = [.int q n] := by
  unfold fitsB at h
  simp only [hu] at h
  split at h
  · have := of_decide_eq_true h; subst this; exact ⟨_, rfl⟩
  · cases h
section
variable {P : Program}
theorem chunk_head {xs : List Value} {off n : Nat} {v : Value} (h : (xs.drop off).take n = [v]) : xs.toArray[off]? = some v := by
  have h1 : ((xs.drop off).take n)[0]? = some v := by rw [h]; rfl
  rw [List.getElem?_take] at h1
  split at h1
  · rw [List.getElem?_drop] at h1
    simpa using h1
  · cases h1
theorem part_fit {e : TypeId} {off d : Nat} {xs : List Value} (w : World) (h : fitsB P d e ((xs.drop off).take (P.cellsOf e)) = true) : (part e xs.toArray off).run P w = .ok (valC P e ((xs.drop off).take (P.cellsOf e))) w := by
  cases d with
  | zero => simp [fitsB] at h
  | succ d =>
    cases hu : P.underlying e with
    | none => simp [fitsB, hu] at h
    | some kd =>
      have hl : (xs.toArray.extract off (off + P.cellsOf e)) = ((xs.drop off).take (P.cellsOf e)).toArray := by
        apply Array.toList_inj.1
        rw [Array.toList_extract]
        simp [List.extract]
      cases kd
      case bool =>
        obtain ⟨b, hb⟩ := fits_bool hu h
        rw [run_part_plain w (by simp [Program.plainKey, hu]) (chunk_head hb), hb]
        simp [valC, hu]
      case int q =>
        obtain ⟨b, hb⟩ := fits_int hu h
        rw [run_part_plain w (by simp [Program.plainKey, hu]) (chunk_head hb), hb]
        simp [valC, hu]
      case array n e' =>
        obtain ⟨i, hi⟩ := info_of_underlying hu
        simp only [part, isAgg, Sem.run_bind, run_underlying hu, run_sizeOf w hi, Result.andThen_ok, Sem.run_pure, if_true, valC, hu, hl]
      case struct fs =>
        obtain ⟨i, hi⟩ := info_of_underlying hu
        simp only [part, isAgg, Sem.run_bind, run_underlying hu, run_sizeOf w hi, Result.andThen_ok, Sem.run_pure, if_true, valC, hu, hl]
      all_goals (simp [fitsB, hu] at h; done)
theorem split_iff {xs ys : List Value} {o c : Nat} (hl : xs.length = ys.length) : (xs.drop o).take c = (ys.drop o).take c ∧ xs.drop (o + c) = ys.drop (o + c) ↔ xs.drop o = ys.drop o := by
  have e : ∀ zs : List Value, zs.drop o = (zs.drop o).take c ++ zs.drop (o + c) := fun zs => by rw [← List.drop_drop]; exact (List.take_append_drop c (zs.drop o)).symm
  constructor
  · rintro ⟨h1, h2⟩
    rw [e xs, e ys, h1, h2]
  · intro h
    refine ⟨by rw [h], ?_⟩
    rw [← List.drop_drop, ← List.drop_drop, h]
/-- What is shown of the types below. -/
def EqB (P : Program) (D d : Nat) : Prop := ∀ (t : TypeId) (w : World) (xs ys : List Value), fitsB P d t xs = true → fitsB P d t ys = true → ∃ r : Bool, (Op.equalIn D t (valC P t xs) (valC P t ys)).run P w = .ok r w ∧ (r = true ↔ xs = ys)
theorem eqF_run {D d : Nat} (IH : EqB P D d) {xs ys : List Value} (hl : xs.length = ys.length) (w : World) : ∀ (fs : List Field) (o : Nat), contig P fs o xs.length = true →
    (∀ f ∈ fs, f.name ≠ "_" ∧ fitsB P d f.type ((xs.drop f.offset).take (P.cellsOf f.type)) = true ∧ fitsB P d f.type ((ys.drop f.offset).take (P.cellsOf f.type)) = true) →
    ∃ r : Bool, (Op.eqFields D xs.toArray ys.toArray fs).run P w = .ok r w ∧ (r = true ↔ xs.drop o = ys.drop o)
  | [], o, hc, _ => by
    have := Nat.eq_of_beq_eq_true hc
    subst this
    exact ⟨true, by simp [Op.eqFields], by rw [List.drop_length, hl, List.drop_length]; simp⟩
  | f :: fs, o, hc, hall => by
    unfold contig at hc
    rw [Bool.and_eq_true] at hc
    have ho := Nat.eq_of_beq_eq_true hc.1
    obtain ⟨hn, hx, hy⟩ := hall f (by simp)
    obtain ⟨r, hr, hiff⟩ := IH f.type w _ _ hx hy
    obtain ⟨r', hr', hiff'⟩ := eqF_run IH hl w fs (o + P.cellsOf f.type) hc.2 (fun g hg => hall g (by simp [hg]))
    simp only [Op.eqFields, hn, ne_eq, not_false_eq_true, if_true, Sem.run_bind, part_fit w hx, part_fit w hy, hr, Result.andThen_ok]
    rw [← split_iff hl (c := P.cellsOf f.type), ← hiff', ← ho, ← hiff]
    cases r
    · exact ⟨false, by simp, by simp⟩
    · exact ⟨r', by simpa using hr', by simp⟩
theorem eqI_run {D d : Nat} (IH : EqB P D d) {xs ys : List Value} {e : TypeId} {n : Nat} (hl : xs.length = ys.length) (hn : xs.length = n * P.cellsOf e) (w : World)
    (hall : ∀ i, i < n → fitsB P d e ((xs.drop (i * P.cellsOf e)).take (P.cellsOf e)) = true ∧ fitsB P d e ((ys.drop (i * P.cellsOf e)).take (P.cellsOf e)) = true) : ∀ (m i : Nat), i + m = n →
    ∃ r : Bool, (Op.eqItems D e (P.cellsOf e) xs.toArray ys.toArray (List.range' i m)).run P w = .ok r w ∧ (r = true ↔ xs.drop (i * P.cellsOf e) = ys.drop (i * P.cellsOf e))
  | 0, i, hi => by
    obtain rfl : i = n := by omega
    exact ⟨true, by simp [Op.eqItems], by rw [← hn, List.drop_length, hl, List.drop_length]; simp⟩
  | m + 1, i, hi => by
    obtain ⟨hx, hy⟩ := hall i (by omega)
    obtain ⟨r, hr, hiff⟩ := IH e w _ _ hx hy
    obtain ⟨r', hr', hiff'⟩ := eqI_run IH hl hn w hall m (i + 1) (by omega)
    simp only [List.range'_succ, Op.eqItems, Sem.run_bind, part_fit w hx, part_fit w hy, hr, Result.andThen_ok]
    rw [← split_iff hl (c := P.cellsOf e), ← hiff]
    rw [show (i + 1) * P.cellsOf e = i * P.cellsOf e + P.cellsOf e by rw [Nat.add_mul, Nat.one_mul]] at hiff'
    rw [← hiff']
    cases r
    · exact ⟨false, by simp, by simp⟩
    · exact ⟨r', by simpa using hr', by simp⟩
theorem eqB_all (D : Nat) : ∀ d : Nat, EqB P (D + d) d
  | 0 => fun t w xs ys hx _ => by simp [fitsB] at hx
  | d + 1 => fun t w xs ys hx hy => by
    have IH := eqB_all D d
    cases hu : P.underlying t with
    | none => simp [fitsB, hu] at hx
    | some kd =>
      cases kd
      case bool =>
        obtain ⟨a, rfl⟩ := fits_bool hu hx
        obtain ⟨b, rfl⟩ := fits_bool hu hy
        refine ⟨a == b, ?_, by simp⟩
        simp only [valC, hu, List.headD_cons]
        exact run_equalIn_bool' w (D + d) t a b hu
      case int q =>
        obtain ⟨a, rfl⟩ := fits_int hu hx
        obtain ⟨b, rfl⟩ := fits_int hu hy
        refine ⟨a == b, ?_, by simp⟩
        simp only [valC, hu, List.headD_cons]
        exact run_equalIn_int w (D + d) t q q a b hu
      case array n e =>
        unfold fitsB at hx hy
        simp only [hu, Bool.and_eq_true, List.all_eq_true, List.mem_range] at hx hy
        have lx := Nat.eq_of_beq_eq_true hx.2.1
        have ly := Nat.eq_of_beq_eq_true hy.2.1
        obtain ⟨i, hi⟩ := Option.isSome_iff_exists.1 hx.1
        obtain ⟨r, hr, hiff⟩ := eqI_run IH (lx.trans ly.symm) lx w (fun i hi => ⟨hx.2.2 i hi, hy.2.2 i hi⟩) n 0 (by omega)
        refine ⟨r, ?_, by simpa using hiff⟩
        simp only [valC, hu]
        rw [show D + (d + 1) = (D + d) + 1 from rfl, run_equalIn_array w (D + d) _ _ hu hi, List.range_eq_range']
        exact hr
      case struct fs =>
        unfold fitsB at hx hy
        simp only [hu, Bool.and_eq_true, List.all_eq_true, Bool.not_eq_true', bne_iff_ne, ne_eq] at hx hy
        have hl := contig_same fs.toList 0 _ _ hx.2.1 hy.2.1
        have hfs : P.fieldsOf t = fs := by simp [Program.fieldsOf, hu]
        obtain ⟨r, hr, hiff⟩ := eqF_run IH hl w fs.toList 0 hx.2.1 (fun f hf => ⟨(hx.2.2 f hf).1, (hx.2.2 f hf).2, (hy.2.2 f hf).2⟩)
        refine ⟨r, ?_, by simpa using hiff⟩
        simp only [valC, hu]
        rw [show D + (d + 1) = (D + d) + 1 from rfl, run_equalIn_struct w (D + d) t _ _ (by rw [hfs]; exact hu) hx.1, hfs]
        exact hr
      all_goals (simp [fitsB, hu] at hx; done)
variable {K : KV} {w : World} {t : TypeId} {cx cy : Bool}
theorem wide_val {cs : List Value} (hw : (match P.underlying t with | some (.array _ _) | some (.struct _) => true | _ => false) = true) : valC P t cs = .agg cs.toArray := by
  unfold valC
  cases hu : P.underlying t with
  | none => simp [hu] at hw
  | some kd => cases kd <;> simp_all
theorem eqA_of {xs ys : List Value} (d : Nat) (hd : d ≤ 10000) (hw : (match P.underlying t with | some (.array _ _) | some (.struct _) => true | _ => false) = true) (hx : fitsB P d t xs = true) (hy : fitsB P d t ys = true) :
    ∃ r : Bool, (Op.equalIn 10000 t (.agg xs.toArray) (.agg ys.toArray)).run P w = .ok r w ∧ (r = true ↔ xs = ys) := by
  have := eqB_all (P := P) (10000 - d) d t w xs ys hx hy
  rw [show 10000 - d + d = 10000 by omega, wide_val hw, wide_val hw] at this
  exact this
theorem bin_eqA {xs ys : List Value} (d : Nat) (hd : d ≤ 10000) (hw : (match P.underlying t with | some (.array _ _) | some (.struct _) => true | _ => false) = true) (hg : P.eqGuardType P.depth t = false)
    (hx : fitsB P d t xs = true) (hy : fitsB P d t ys = true) (h : ∀ r : Bool, (r = true ↔ xs = ys) → K (.bool r) w) : bin P .eql t cx cy (.agg xs.toArray) (.agg ys.toArray) K w := by
  obtain ⟨r, hr, hiff⟩ := eqA_of (w := w) d hd hw hx hy
  exact bin_of (v := .bool r) (by unfold eqG; exact run_eqGuard_agg w _ _ _ _ _ _ hg) (by rw [run_eql_struct w, hr]; rfl) (h r hiff)
theorem bin_neA {xs ys : List Value} (d : Nat) (hd : d ≤ 10000) (hw : (match P.underlying t with | some (.array _ _) | some (.struct _) => true | _ => false) = true) (hg : P.eqGuardType P.depth t = false)
    (hx : fitsB P d t xs = true) (hy : fitsB P d t ys = true) (h : ∀ r : Bool, (r = true ↔ xs = ys) → K (.bool (!r)) w) : bin P .neq t cx cy (.agg xs.toArray) (.agg ys.toArray) K w := by
  obtain ⟨r, hr, hiff⟩ := eqA_of (w := w) d hd hw hx hy
  exact bin_of (v := .bool (!r)) (by unfold eqG; exact run_eqGuard_agg w _ _ _ _ _ _ hg) (by rw [run_neq_struct w, hr]; rfl) (h r hiff)
end
end Go.Proofs.YtfjafbbalohmhaaGreatDoor
