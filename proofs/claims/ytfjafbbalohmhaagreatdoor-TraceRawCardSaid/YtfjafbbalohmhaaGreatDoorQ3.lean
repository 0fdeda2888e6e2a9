/- Laid together: SR29 R29 R29b Trc4. -/
import Derived.Test.YtfjafbbalohmhaaGreatDoorSh
import Derived.Test.YtfjafbbalohmhaaGreatDoorChecked
import Derived.Test.YtfjafbbalohmhaaGreatDoorQ2
namespace Go.Proofs.YtfjafbbalohmhaaGreatDoor
open Go.RowKit
set_option maxRecDepth 100000

def leatref29_May_P1 (K : KV) : KE := cCode Tryz.prog (cd Tryz.f10 [1, 1, 1]) (retK Tryz.prog Tryz.f10.results.toList K) (fun _ _ _ => False) (retK Tryz.prog Tryz.f10.results.toList K)
def leatref29_May_L1 (K : KV) : KE := cCode Tryz.prog (cd Tryz.f10 [1, 1, 0, 1, 0]) (leatref29_May_P1 K) (fun i => @Bool.rec (fun _ => KE) ((fun _ _ _ => False) i) (leatref29_May_P1 K) (Nat.beq i 0)) (retK Tryz.prog Tryz.f10.results.toList K)
def leatref29_May_P2 (K : KV) : KE := cCode Tryz.prog (cd Tryz.f10 [1, 1, 1, 1]) (retK Tryz.prog Tryz.f10.results.toList K) (fun _ _ _ => False) (retK Tryz.prog Tryz.f10.results.toList K)
def leatref29_May_L2 (K : KV) : KE := cCode Tryz.prog (cd Tryz.f10 [1, 1, 1, 0, 1, 0]) (leatref29_May_P2 K) (fun i => @Bool.rec (fun _ => KE) ((fun _ _ _ => False) i) (leatref29_May_P2 K) (Nat.beq i 2)) (retK Tryz.prog Tryz.f10.results.toList K)
theorem leatref29_May_k {K : KV} {s0 : Value} {w : World}
    (h : box Tryz.prog 27 s0 (fun s1 w =>
    fldA Tryz.prog 27 s1 1 (fun A4 w =>
    ld Tryz.prog 3 A4 (fun A5 w =>
    fldA Tryz.prog 27 s1 4 (fun A6 w =>
    ld Tryz.prog 3 A6 (fun A7 w =>
    fldA Tryz.prog 27 s1 3 (fun A8 w =>
    ld Tryz.prog 3 A8 (fun A9 w =>
    fldA Tryz.prog 27 s1 2 (fun C0 w =>
    fldA Tryz.prog 24 C0 2 (fun C1 w =>
    ld Tryz.prog 3 C1 (fun C2 w =>
    bldS Tryz.prog 25 4 #[(0, A5), (1, A7), (2, A9), (3, C2)] (fun C3 w =>
    (cCode Tryz.prog (cd Tryz.f10 [1, 1, 0, 1, 0]) (cCode Tryz.prog (cd Tryz.f10 [1, 1, 1]) (retK Tryz.prog Tryz.f10.results.toList K) (fun _ _ _ => False) (retK Tryz.prog Tryz.f10.results.toList K)) (fun i => @Bool.rec (fun _ => KE) ((fun _ _ _ => False) i) (cCode Tryz.prog (cd Tryz.f10 [1, 1, 1]) (retK Tryz.prog Tryz.f10.results.toList K) (fun _ _ _ => False) (retK Tryz.prog Tryz.f10.results.toList K)) (Nat.beq i 0)) (retK Tryz.prog Tryz.f10.results.toList K)) (s0::s1::(Value.bool false)::C3::(Value.int IntKind.i64 0)::undef::A4::A5::A6::A7::A8::A9::C0::C1::C2::C3::undef::undef::undef::undef::undef::undef::undef::undef::undef::undef::undef::undef::undef::undef::undef::undef::undef::undef::undef::undef::undef::undef::undef::undef::undef::undef::undef::undef::undef::undef::undef::undef::undef::undef::undef::undef::undef::undef::undef::undef::undef::undef::undef::undef::undef::undef::undef::undef::undef::undef::undef::undef::undef::undef::undef::undef::undef::undef::undef::undef::undef::undef::undef::undef::undef::undef::undef::undef::undef::undef::undef::undef::undef::undef::undef::undef::undef::undef::undef::undef::undef::[]) w) w) w) w) w) w) w) w) w) w) w) w) :
    cCode Tryz.prog (cd Tryz.f10 []) (retK Tryz.prog Tryz.f10.results.toList K) (fun _ _ _ => False) (retK Tryz.prog Tryz.f10.results.toList K) (s0::undef::undef::undef::undef::undef::undef::undef::undef::undef::undef::undef::undef::undef::undef::undef::undef::undef::undef::undef::undef::undef::undef::undef::undef::undef::undef::undef::undef::undef::undef::undef::undef::undef::undef::undef::undef::undef::undef::undef::undef::undef::undef::undef::undef::undef::undef::undef::undef::undef::undef::undef::undef::undef::undef::undef::undef::undef::undef::undef::undef::undef::undef::undef::undef::undef::undef::undef::undef::undef::undef::undef::undef::undef::undef::undef::undef::undef::undef::undef::undef::undef::undef::undef::undef::undef::undef::undef::undef::undef::undef::undef::undef::undef::undef::undef::undef::[]) w := Eq.mp (by kernel_rfl) h

theorem leatref29_May_in {K : KV} {s0 : Value} {w : World}
    (h : box Tryz.prog 27 s0 (fun s1 w =>
    fldA Tryz.prog 27 s1 1 (fun A4 w =>
    ld Tryz.prog 3 A4 (fun A5 w =>
    fldA Tryz.prog 27 s1 4 (fun A6 w =>
    ld Tryz.prog 3 A6 (fun A7 w =>
    fldA Tryz.prog 27 s1 3 (fun A8 w =>
    ld Tryz.prog 3 A8 (fun A9 w =>
    fldA Tryz.prog 27 s1 2 (fun C0 w =>
    fldA Tryz.prog 24 C0 2 (fun C1 w =>
    ld Tryz.prog 3 C1 (fun C2 w =>
    bldS Tryz.prog 25 4 #[(0, A5), (1, A7), (2, A9), (3, C2)] (fun C3 w =>
    (leatref29_May_L1 K) (s0::s1::(Value.bool false)::C3::(Value.int IntKind.i64 0)::undef::A4::A5::A6::A7::A8::A9::C0::C1::C2::C3::undef::undef::undef::undef::undef::undef::undef::undef::undef::undef::undef::undef::undef::undef::undef::undef::undef::undef::undef::undef::undef::undef::undef::undef::undef::undef::undef::undef::undef::undef::undef::undef::undef::undef::undef::undef::undef::undef::undef::undef::undef::undef::undef::undef::undef::undef::undef::undef::undef::undef::undef::undef::undef::undef::undef::undef::undef::undef::undef::undef::undef::undef::undef::undef::undef::undef::undef::undef::undef::undef::undef::undef::undef::undef::undef::undef::undef::undef::undef::undef::undef::[]) w) w) w) w) w) w) w) w) w) w) w) w) :
    Gives Tryz.prog 10 #[s0] w K := enter' Tryz.func10 (by kernel_rfl) (Eq.mp (congrArg (fun c => cCode Tryz.prog c (retK Tryz.prog Tryz.f10.results.toList K) (fun _ _ _ => False) (retK Tryz.prog Tryz.f10.results.toList K) (s0::undef::undef::undef::undef::undef::undef::undef::undef::undef::undef::undef::undef::undef::undef::undef::undef::undef::undef::undef::undef::undef::undef::undef::undef::undef::undef::undef::undef::undef::undef::undef::undef::undef::undef::undef::undef::undef::undef::undef::undef::undef::undef::undef::undef::undef::undef::undef::undef::undef::undef::undef::undef::undef::undef::undef::undef::undef::undef::undef::undef::undef::undef::undef::undef::undef::undef::undef::undef::undef::undef::undef::undef::undef::undef::undef::undef::undef::undef::undef::undef::undef::undef::undef::undef::undef::undef::undef::undef::undef::undef::undef::undef::undef::undef::undef::undef::[]) w) (by kernel_rfl : (cd Tryz.f10 []) = (cd Tryz.f10 []))) (leatref29_May_k h))
theorem leatref29_May_go : isGo Tryz.prog 10 := ⟨_, Tryz.func10, by kernel_rfl, by kernel_rfl⟩

theorem leatref29_May_L1_k {K : KV} (B1 : KE) (qc0 : KE) {s0 s1 l3 i4' i5 A4 A5 A6 A7 A8 A9 C0 C1 C2 C3 D6' D7' D8' D9' E0' E2 E3 E4 E5 E6 E7 E8 E9 F0 F1 F2 F3 F4 F5 F6 F7 F8 F9 G0 G1 G2 G3 G4 G5 G6 G7 G8 G9 H0 H1 H2 H3 H4 H5 H6 H7 H8 H9 I0 I1 I2 I3 I4 I5 I6 I7 I8 I9 J0 J1 J2 J3 J4 J5 J6 J7 J8 J9 L0 L1 L2 L3 L4 : Value} {dd : Nat → Value} {w : World}
    (h : blt Tryz.prog Builtin.len #[25] 3 #[false] #[l3] (fun C6 w =>
    bin Tryz.prog BinOp.lss 3 false false i4' C6 (fun C7 w =>
    cond C7
      (idxA Tryz.prog 25 l3 i4' (fun D2 w =>
    ld Tryz.prog 3 D2 (fun D3 w =>
    bin Tryz.prog BinOp.lss 3 false true D3 (Value.int IntKind.i64 (-1)) (fun D4 w =>
    gsel D4 false (fun k28 =>
    idxA Tryz.prog 25 l3 i4' (fun D8 w =>
    ld Tryz.prog 3 D8 (fun D9 w =>
    bin Tryz.prog BinOp.gtr 3 false true D9 (Value.int IntKind.i64 255) (fun E0 w =>
    k28 [l3, i4', D8, D9, E0] w) w) w) w)
    (fun k => k [undef, undef, undef, undef, undef] w) (fun us28 w =>
    pick D4 (Value.bool true) (gd us28 4) (fun E1 w =>
    cond E1
      (K (Value.bool false) w)
      (bin Tryz.prog BinOp.add 3 false true i4' (Value.int IntKind.i64 1) (fun C9 w =>
    B1 (s0::s1::(dd 2)::l3::C9::i5::A4::A5::A6::A7::A8::A9::C0::C1::C2::C3::i4'::l3::C6::C7::i4'::C9::l3::i4'::D2::D3::D4::D4::(gd us28 0)::(gd us28 1)::(gd us28 2)::(gd us28 3)::(gd us28 4)::E1::E2::E3::E4::E5::E6::E7::E8::E9::F0::F1::F2::F3::F4::F5::F6::F7::F8::F9::G0::G1::G2::G3::G4::G5::G6::G7::G8::G9::H0::H1::H2::H3::H4::H5::H6::H7::H8::H9::I0::I1::I2::I3::I4::I5::I6::I7::I8::I9::J0::J1::J2::J3::J4::J5::J6::J7::J8::J9::L0::L1::L2::L3::L4::[]) w) w)) w)) w) w) w)
      (qc0 (s0::s1::(dd 2)::l3::i4'::i5::A4::A5::A6::A7::A8::A9::C0::C1::C2::C3::i4'::l3::C6::C7::(dd 20)::(dd 21)::(dd 22)::(dd 23)::(dd 24)::(dd 25)::(dd 26)::(dd 27)::D6'::D7'::D8'::D9'::E0'::(dd 33)::E2::E3::E4::E5::E6::E7::E8::E9::F0::F1::F2::F3::F4::F5::F6::F7::F8::F9::G0::G1::G2::G3::G4::G5::G6::G7::G8::G9::H0::H1::H2::H3::H4::H5::H6::H7::H8::H9::I0::I1::I2::I3::I4::I5::I6::I7::I8::I9::J0::J1::J2::J3::J4::J5::J6::J7::J8::J9::L0::L1::L2::L3::L4::[]) w)) w) w) :
    cCode Tryz.prog (cd Tryz.f10 [1, 1, 0, 1, 0, 0]) B1 (fun i => @Bool.rec (fun _ => KE) ((fun _ _ _ => False) i) qc0 (Nat.beq i 0)) (retK Tryz.prog Tryz.f10.results.toList K) (s0::s1::(dd 2)::l3::i4'::i5::A4::A5::A6::A7::A8::A9::C0::C1::C2::C3::(dd 16)::(dd 17)::(dd 18)::(dd 19)::(dd 20)::(dd 21)::(dd 22)::(dd 23)::(dd 24)::(dd 25)::(dd 26)::(dd 27)::D6'::D7'::D8'::D9'::E0'::(dd 33)::E2::E3::E4::E5::E6::E7::E8::E9::F0::F1::F2::F3::F4::F5::F6::F7::F8::F9::G0::G1::G2::G3::G4::G5::G6::G7::G8::G9::H0::H1::H2::H3::H4::H5::H6::H7::H8::H9::I0::I1::I2::I3::I4::I5::I6::I7::I8::I9::J0::J1::J2::J3::J4::J5::J6::J7::J8::J9::L0::L1::L2::L3::L4::[]) w := Eq.mp (by kernel_rfl) h

section
variable {s0 s1 A0 l3 i4 i5 A4 A5 A6 A7 A8 A9 C0 C1 C2 C3 C4 C5 C6 C7 C8 C9 D0 D1 D2 D3 D4 D5 D6 D7 D8 D9 E0 E1 E2 E3 E4 E5 E6 E7 E8 E9 F0 F1 F2 F3 F4 F5 F6 F7 F8 F9 G0 G1 G2 G3 G4 G5 G6 G7 G8 G9 H0 H1 H2 H3 H4 H5 H6 H7 H8 H9 I0 I1 I2 I3 I4 I5 I6 I7 I8 I9 J0 J1 J2 J3 J4 J5 J6 J7 J8 J9 L0 L1 L2 L3 L4 : Value}
theorem leatref29_May_L1_r {K : KV} {w : World} (Inv : Value → Value → Value → Value → Value → Value → World → Prop) (μ : Value → Value → Value → Value → Value → Value → World → Nat) (h0 : Inv i4 D6 D7 D8 D9 E0 w)
    (hs : ∀ (i4' D6' D7' D8' D9' E0' : Value) (dd : Nat → Value) (w : World) (m : Nat), Inv i4' D6' D7' D8' D9' E0' w → m = μ i4' D6' D7' D8' D9' E0' w →
    blt Tryz.prog Builtin.len #[25] 3 #[false] #[l3] (fun C6 w =>
    bin Tryz.prog BinOp.lss 3 false false i4' C6 (fun C7 w =>
    cond C7
      (idxA Tryz.prog 25 l3 i4' (fun D2 w =>
    ld Tryz.prog 3 D2 (fun D3 w =>
    bin Tryz.prog BinOp.lss 3 false true D3 (Value.int IntKind.i64 (-1)) (fun D4 w =>
    gsel D4 false (fun k28 =>
    idxA Tryz.prog 25 l3 i4' (fun D8 w =>
    ld Tryz.prog 3 D8 (fun D9 w =>
    bin Tryz.prog BinOp.gtr 3 false true D9 (Value.int IntKind.i64 255) (fun E0 w =>
    k28 [l3, i4', D8, D9, E0] w) w) w) w)
    (fun k => k [undef, undef, undef, undef, undef] w) (fun us28 w =>
    pick D4 (Value.bool true) (gd us28 4) (fun E1 w =>
    cond E1
      (K (Value.bool false) w)
      (bin Tryz.prog BinOp.add 3 false true i4' (Value.int IntKind.i64 1) (fun C9 w =>
    (Inv C9 (gd us28 0) (gd us28 1) (gd us28 2) (gd us28 3) (gd us28 4) w ∧ μ C9 (gd us28 0) (gd us28 1) (gd us28 2) (gd us28 3) (gd us28 4) w < m)) w)) w)) w) w) w)
      ((leatref29_May_P1 K) (s0::s1::(dd 2)::l3::i4'::i5::A4::A5::A6::A7::A8::A9::C0::C1::C2::C3::i4'::l3::C6::C7::(dd 20)::(dd 21)::(dd 22)::(dd 23)::(dd 24)::(dd 25)::(dd 26)::(dd 27)::D6'::D7'::D8'::D9'::E0'::(dd 33)::E2::E3::E4::E5::E6::E7::E8::E9::F0::F1::F2::F3::F4::F5::F6::F7::F8::F9::G0::G1::G2::G3::G4::G5::G6::G7::G8::G9::H0::H1::H2::H3::H4::H5::H6::H7::H8::H9::I0::I1::I2::I3::I4::I5::I6::I7::I8::I9::J0::J1::J2::J3::J4::J5::J6::J7::J8::J9::L0::L1::L2::L3::L4::[]) w)) w) w) :
    leatref29_May_L1 K (s0::s1::A0::l3::i4::i5::A4::A5::A6::A7::A8::A9::C0::C1::C2::C3::C4::C5::C6::C7::C8::C9::D0::D1::D2::D3::D4::D5::D6::D7::D8::D9::E0::E1::E2::E3::E4::E5::E6::E7::E8::E9::F0::F1::F2::F3::F4::F5::F6::F7::F8::F9::G0::G1::G2::G3::G4::G5::G6::G7::G8::G9::H0::H1::H2::H3::H4::H5::H6::H7::H8::H9::I0::I1::I2::I3::I4::I5::I6::I7::I8::I9::J0::J1::J2::J3::J4::J5::J6::J7::J8::J9::L0::L1::L2::L3::L4::[]) w := by
  refine loop_rule (cd Tryz.f10 [1, 1, 0, 1, 0, 0]) [2, 4, 16, 17, 18, 19, 20, 21, 22, 23, 24, 25, 26, 27, 28, 29, 30, 31, 32, 33] (by kernel_rfl) (fun e2 w2 => Inv (gd e2 4) (gd e2 28) (gd e2 29) (gd e2 30) (gd e2 31) (gd e2 32) w2) (fun e2 w2 => μ (gd e2 4) (gd e2 28) (gd e2 29) (gd e2 30) (gd e2 31) (gd e2 32) w2) h0 ?_
  intro e' w' hI
  have h := hs (gd e' 4) (gd e' 28) (gd e' 29) (gd e' 30) (gd e' 31) (gd e' 32) (fun i => gd e' i) w' _ hI rfl
  have h2 : cCode Tryz.prog (cd Tryz.f10 [1, 1, 0, 1, 0, 0]) (fun e2 w2 => Inv (gd e2 4) (gd e2 28) (gd e2 29) (gd e2 30) (gd e2 31) (gd e2 32) w2 ∧ μ (gd e2 4) (gd e2 28) (gd e2 29) (gd e2 30) (gd e2 31) (gd e2 32) w2 < μ (gd e' 4) (gd e' 28) (gd e' 29) (gd e' 30) (gd e' 31) (gd e' 32) w') (fun i => @Bool.rec (fun _ => KE) ((fun _ _ _ => False) i) (leatref29_May_P1 K) (Nat.beq i 0)) (retK Tryz.prog Tryz.f10.results.toList K) (s0::s1::(gd e' 2)::l3::(gd e' 4)::i5::A4::A5::A6::A7::A8::A9::C0::C1::C2::C3::(gd e' 16)::(gd e' 17)::(gd e' 18)::(gd e' 19)::(gd e' 20)::(gd e' 21)::(gd e' 22)::(gd e' 23)::(gd e' 24)::(gd e' 25)::(gd e' 26)::(gd e' 27)::(gd e' 28)::(gd e' 29)::(gd e' 30)::(gd e' 31)::(gd e' 32)::(gd e' 33)::E2::E3::E4::E5::E6::E7::E8::E9::F0::F1::F2::F3::F4::F5::F6::F7::F8::F9::G0::G1::G2::G3::G4::G5::G6::G7::G8::G9::H0::H1::H2::H3::H4::H5::H6::H7::H8::H9::I0::I1::I2::I3::I4::I5::I6::I7::I8::I9::J0::J1::J2::J3::J4::J5::J6::J7::J8::J9::L0::L1::L2::L3::L4::[]) w' := leatref29_May_L1_k (fun e2 w2 => Inv (gd e2 4) (gd e2 28) (gd e2 29) (gd e2 30) (gd e2 31) (gd e2 32) w2 ∧ μ (gd e2 4) (gd e2 28) (gd e2 29) (gd e2 30) (gd e2 31) (gd e2 32) w2 < μ (gd e' 4) (gd e' 28) (gd e' 29) (gd e' 30) (gd e' 31) (gd e' 32) w') (leatref29_May_P1 K) (Eq.mp (by kernel_rfl) h)
  exact Eq.mp (by kernel_rfl) h2

theorem leatref29_May_P1_k {K : KV} {w : World}
    (h : (cCode Tryz.prog (cd Tryz.f10 [1, 1, 1, 0, 1, 0]) (cCode Tryz.prog (cd Tryz.f10 [1, 1, 1, 1]) (retK Tryz.prog Tryz.f10.results.toList K) (fun _ _ _ => False) (retK Tryz.prog Tryz.f10.results.toList K)) (fun i => @Bool.rec (fun _ => KE) ((fun _ _ _ => False) i) (cCode Tryz.prog (cd Tryz.f10 [1, 1, 1, 1]) (retK Tryz.prog Tryz.f10.results.toList K) (fun _ _ _ => False) (retK Tryz.prog Tryz.f10.results.toList K)) (Nat.beq i 2)) (retK Tryz.prog Tryz.f10.results.toList K)) (s0::s1::A0::l3::i4::(Value.int IntKind.i64 0)::A4::A5::A6::A7::A8::A9::C0::C1::C2::C3::C4::C5::C6::C7::C8::C9::D0::D1::D2::D3::D4::D5::D6::D7::D8::D9::E0::E1::E2::E3::E4::E5::E6::E7::E8::E9::F0::F1::F2::F3::F4::F5::F6::F7::F8::F9::G0::G1::G2::G3::G4::G5::G6::G7::G8::G9::H0::H1::H2::H3::H4::H5::H6::H7::H8::H9::I0::I1::I2::I3::I4::I5::I6::I7::I8::I9::J0::J1::J2::J3::J4::J5::J6::J7::J8::J9::L0::L1::L2::L3::L4::[]) w) :
    cCode Tryz.prog (cd Tryz.f10 [1, 1, 1]) (retK Tryz.prog Tryz.f10.results.toList K) (fun _ _ _ => False) (retK Tryz.prog Tryz.f10.results.toList K) (s0::s1::A0::l3::i4::i5::A4::A5::A6::A7::A8::A9::C0::C1::C2::C3::C4::C5::C6::C7::C8::C9::D0::D1::D2::D3::D4::D5::D6::D7::D8::D9::E0::E1::E2::E3::E4::E5::E6::E7::E8::E9::F0::F1::F2::F3::F4::F5::F6::F7::F8::F9::G0::G1::G2::G3::G4::G5::G6::G7::G8::G9::H0::H1::H2::H3::H4::H5::H6::H7::H8::H9::I0::I1::I2::I3::I4::I5::I6::I7::I8::I9::J0::J1::J2::J3::J4::J5::J6::J7::J8::J9::L0::L1::L2::L3::L4::[]) w := Eq.mp (by kernel_rfl) h

theorem leatref29_May_P1_r {K : KV} {w : World}
    (h : (leatref29_May_L2 K) (s0::s1::A0::l3::i4::(Value.int IntKind.i64 0)::A4::A5::A6::A7::A8::A9::C0::C1::C2::C3::C4::C5::C6::C7::C8::C9::D0::D1::D2::D3::D4::D5::D6::D7::D8::D9::E0::E1::E2::E3::E4::E5::E6::E7::E8::E9::F0::F1::F2::F3::F4::F5::F6::F7::F8::F9::G0::G1::G2::G3::G4::G5::G6::G7::G8::G9::H0::H1::H2::H3::H4::H5::H6::H7::H8::H9::I0::I1::I2::I3::I4::I5::I6::I7::I8::I9::J0::J1::J2::J3::J4::J5::J6::J7::J8::J9::L0::L1::L2::L3::L4::[]) w) :
    leatref29_May_P1 K (s0::s1::A0::l3::i4::i5::A4::A5::A6::A7::A8::A9::C0::C1::C2::C3::C4::C5::C6::C7::C8::C9::D0::D1::D2::D3::D4::D5::D6::D7::D8::D9::E0::E1::E2::E3::E4::E5::E6::E7::E8::E9::F0::F1::F2::F3::F4::F5::F6::F7::F8::F9::G0::G1::G2::G3::G4::G5::G6::G7::G8::G9::H0::H1::H2::H3::H4::H5::H6::H7::H8::H9::I0::I1::I2::I3::I4::I5::I6::I7::I8::I9::J0::J1::J2::J3::J4::J5::J6::J7::J8::J9::L0::L1::L2::L3::L4::[]) w := by
  delta leatref29_May_P1
  exact Eq.mp (congrArg (fun c => cCode Tryz.prog c (retK Tryz.prog Tryz.f10.results.toList K) (fun _ _ _ => False) (retK Tryz.prog Tryz.f10.results.toList K) (s0::s1::A0::l3::i4::i5::A4::A5::A6::A7::A8::A9::C0::C1::C2::C3::C4::C5::C6::C7::C8::C9::D0::D1::D2::D3::D4::D5::D6::D7::D8::D9::E0::E1::E2::E3::E4::E5::E6::E7::E8::E9::F0::F1::F2::F3::F4::F5::F6::F7::F8::F9::G0::G1::G2::G3::G4::G5::G6::G7::G8::G9::H0::H1::H2::H3::H4::H5::H6::H7::H8::H9::I0::I1::I2::I3::I4::I5::I6::I7::I8::I9::J0::J1::J2::J3::J4::J5::J6::J7::J8::J9::L0::L1::L2::L3::L4::[]) w) (by kernel_rfl : (cd Tryz.f10 [1, 1, 1]) = (cd Tryz.f10 [1, 1, 1]))) (leatref29_May_P1_k h)

end
theorem leatref29_May_L2_k {K : KV} (B1 : KE) (qc0 : KE) {s0 s1 l3 i4 i5' A4 A5 A6 A7 A8 A9 C0 C1 C2 C3 C4 C5 C6 C7 C8 C9 D0 D1 D2 D3 D4 D5 D6 D7 D8 D9 E0 E1 F6' F7' F8' F9' G0' G1' G3 G4 G5 G6 G7 G8 G9 H0 H1 H2 H3 H4 H5 H6 H7 H8 H9 I0 I1 I2 I3 I4 I5 I6 I7 I8 I9 J0 J1 J2 J3 J4 J5 J6 J7 J8 J9 L0 L1 L2 L3 L4 : Value} {dd : Nat → Value} {w : World}
    (h : fldA Tryz.prog 27 s1 6 (fun E3 w =>
    ld Tryz.prog 25 E3 (fun E4 w =>
    blt Tryz.prog Builtin.len #[25] 3 #[false] #[E4] (fun E5 w =>
    bin Tryz.prog BinOp.lss 3 false false i5' E5 (fun E6 w =>
    cond E6
      (fldA Tryz.prog 27 s1 6 (fun E9 w =>
    ld Tryz.prog 25 E9 (fun F0 w =>
    idxA Tryz.prog 25 F0 i5' (fun F2 w =>
    ld Tryz.prog 3 F2 (fun F3 w =>
    bin Tryz.prog BinOp.lss 3 false true F3 (Value.int IntKind.i64 (-1)) (fun F4 w =>
    gsel F4 false (fun k48 =>
    fldA Tryz.prog 27 s1 6 (fun F6 w =>
    ld Tryz.prog 25 F6 (fun F7 w =>
    idxA Tryz.prog 25 F7 i5' (fun F9 w =>
    ld Tryz.prog 3 F9 (fun G0 w =>
    bin Tryz.prog BinOp.gtr 3 false true G0 (Value.int IntKind.i64 254) (fun G1 w =>
    k48 [F6, F7, i5', F9, G0, G1] w) w) w) w) w) w)
    (fun k => k [undef, undef, undef, undef, undef, undef] w) (fun us48 w =>
    pick F4 (Value.bool true) (gd us48 5) (fun G2 w =>
    cond G2
      (K (Value.bool false) w)
      (bin Tryz.prog BinOp.add 3 false true i5' (Value.int IntKind.i64 1) (fun E8 w =>
    B1 (s0::s1::(dd 2)::l3::i4::E8::A4::A5::A6::A7::A8::A9::C0::C1::C2::C3::C4::C5::C6::C7::C8::C9::D0::D1::D2::D3::D4::D5::D6::D7::D8::D9::E0::E1::i5'::E3::E4::E5::E6::i5'::E8::E9::F0::i5'::F2::F3::F4::F4::(gd us48 0)::(gd us48 1)::(gd us48 2)::(gd us48 3)::(gd us48 4)::(gd us48 5)::G2::G3::G4::G5::G6::G7::G8::G9::H0::H1::H2::H3::H4::H5::H6::H7::H8::H9::I0::I1::I2::I3::I4::I5::I6::I7::I8::I9::J0::J1::J2::J3::J4::J5::J6::J7::J8::J9::L0::L1::L2::L3::L4::[]) w) w)) w)) w) w) w) w) w)
      (qc0 (s0::s1::(dd 2)::l3::i4::i5'::A4::A5::A6::A7::A8::A9::C0::C1::C2::C3::C4::C5::C6::C7::C8::C9::D0::D1::D2::D3::D4::D5::D6::D7::D8::D9::E0::E1::i5'::E3::E4::E5::E6::(dd 39)::(dd 40)::(dd 41)::(dd 42)::(dd 43)::(dd 44)::(dd 45)::(dd 46)::(dd 47)::F6'::F7'::F8'::F9'::G0'::G1'::(dd 54)::G3::G4::G5::G6::G7::G8::G9::H0::H1::H2::H3::H4::H5::H6::H7::H8::H9::I0::I1::I2::I3::I4::I5::I6::I7::I8::I9::J0::J1::J2::J3::J4::J5::J6::J7::J8::J9::L0::L1::L2::L3::L4::[]) w)) w) w) w) w) :
    cCode Tryz.prog (cd Tryz.f10 [1, 1, 1, 0, 1, 0, 0]) B1 (fun i => @Bool.rec (fun _ => KE) ((fun _ _ _ => False) i) qc0 (Nat.beq i 2)) (retK Tryz.prog Tryz.f10.results.toList K) (s0::s1::(dd 2)::l3::i4::i5'::A4::A5::A6::A7::A8::A9::C0::C1::C2::C3::C4::C5::C6::C7::C8::C9::D0::D1::D2::D3::D4::D5::D6::D7::D8::D9::E0::E1::(dd 34)::(dd 35)::(dd 36)::(dd 37)::(dd 38)::(dd 39)::(dd 40)::(dd 41)::(dd 42)::(dd 43)::(dd 44)::(dd 45)::(dd 46)::(dd 47)::F6'::F7'::F8'::F9'::G0'::G1'::(dd 54)::G3::G4::G5::G6::G7::G8::G9::H0::H1::H2::H3::H4::H5::H6::H7::H8::H9::I0::I1::I2::I3::I4::I5::I6::I7::I8::I9::J0::J1::J2::J3::J4::J5::J6::J7::J8::J9::L0::L1::L2::L3::L4::[]) w := Eq.mp (by kernel_rfl) h

section
variable {s0 s1 A0 l3 i4 i5 A4 A5 A6 A7 A8 A9 C0 C1 C2 C3 C4 C5 C6 C7 C8 C9 D0 D1 D2 D3 D4 D5 D6 D7 D8 D9 E0 E1 E2 E3 E4 E5 E6 E7 E8 E9 F0 F1 F2 F3 F4 F5 F6 F7 F8 F9 G0 G1 G2 G3 G4 G5 G6 G7 G8 G9 H0 H1 H2 H3 H4 H5 H6 H7 H8 H9 I0 I1 I2 I3 I4 I5 I6 I7 I8 I9 J0 J1 J2 J3 J4 J5 J6 J7 J8 J9 L0 L1 L2 L3 L4 : Value}
theorem leatref29_May_L2_r {K : KV} {w : World} (Inv : Value → Value → Value → Value → Value → Value → Value → World → Prop) (μ : Value → Value → Value → Value → Value → Value → Value → World → Nat) (h0 : Inv i5 F6 F7 F8 F9 G0 G1 w)
    (hs : ∀ (i5' F6' F7' F8' F9' G0' G1' : Value) (dd : Nat → Value) (w : World) (m : Nat), Inv i5' F6' F7' F8' F9' G0' G1' w → m = μ i5' F6' F7' F8' F9' G0' G1' w →
    fldA Tryz.prog 27 s1 6 (fun E3 w =>
    ld Tryz.prog 25 E3 (fun E4 w =>
    blt Tryz.prog Builtin.len #[25] 3 #[false] #[E4] (fun E5 w =>
    bin Tryz.prog BinOp.lss 3 false false i5' E5 (fun E6 w =>
    cond E6
      (fldA Tryz.prog 27 s1 6 (fun E9 w =>
    ld Tryz.prog 25 E9 (fun F0 w =>
    idxA Tryz.prog 25 F0 i5' (fun F2 w =>
    ld Tryz.prog 3 F2 (fun F3 w =>
    bin Tryz.prog BinOp.lss 3 false true F3 (Value.int IntKind.i64 (-1)) (fun F4 w =>
    gsel F4 false (fun k48 =>
    fldA Tryz.prog 27 s1 6 (fun F6 w =>
    ld Tryz.prog 25 F6 (fun F7 w =>
    idxA Tryz.prog 25 F7 i5' (fun F9 w =>
    ld Tryz.prog 3 F9 (fun G0 w =>
    bin Tryz.prog BinOp.gtr 3 false true G0 (Value.int IntKind.i64 254) (fun G1 w =>
    k48 [F6, F7, i5', F9, G0, G1] w) w) w) w) w) w)
    (fun k => k [undef, undef, undef, undef, undef, undef] w) (fun us48 w =>
    pick F4 (Value.bool true) (gd us48 5) (fun G2 w =>
    cond G2
      (K (Value.bool false) w)
      (bin Tryz.prog BinOp.add 3 false true i5' (Value.int IntKind.i64 1) (fun E8 w =>
    (Inv E8 (gd us48 0) (gd us48 1) (gd us48 2) (gd us48 3) (gd us48 4) (gd us48 5) w ∧ μ E8 (gd us48 0) (gd us48 1) (gd us48 2) (gd us48 3) (gd us48 4) (gd us48 5) w < m)) w)) w)) w) w) w) w) w)
      ((leatref29_May_P2 K) (s0::s1::(dd 2)::l3::i4::i5'::A4::A5::A6::A7::A8::A9::C0::C1::C2::C3::C4::C5::C6::C7::C8::C9::D0::D1::D2::D3::D4::D5::D6::D7::D8::D9::E0::E1::i5'::E3::E4::E5::E6::(dd 39)::(dd 40)::(dd 41)::(dd 42)::(dd 43)::(dd 44)::(dd 45)::(dd 46)::(dd 47)::F6'::F7'::F8'::F9'::G0'::G1'::(dd 54)::G3::G4::G5::G6::G7::G8::G9::H0::H1::H2::H3::H4::H5::H6::H7::H8::H9::I0::I1::I2::I3::I4::I5::I6::I7::I8::I9::J0::J1::J2::J3::J4::J5::J6::J7::J8::J9::L0::L1::L2::L3::L4::[]) w)) w) w) w) w) :
    leatref29_May_L2 K (s0::s1::A0::l3::i4::i5::A4::A5::A6::A7::A8::A9::C0::C1::C2::C3::C4::C5::C6::C7::C8::C9::D0::D1::D2::D3::D4::D5::D6::D7::D8::D9::E0::E1::E2::E3::E4::E5::E6::E7::E8::E9::F0::F1::F2::F3::F4::F5::F6::F7::F8::F9::G0::G1::G2::G3::G4::G5::G6::G7::G8::G9::H0::H1::H2::H3::H4::H5::H6::H7::H8::H9::I0::I1::I2::I3::I4::I5::I6::I7::I8::I9::J0::J1::J2::J3::J4::J5::J6::J7::J8::J9::L0::L1::L2::L3::L4::[]) w := by
  refine loop_rule (cd Tryz.f10 [1, 1, 1, 0, 1, 0, 0]) [2, 5, 34, 35, 36, 37, 38, 39, 40, 41, 42, 43, 44, 45, 46, 47, 48, 49, 50, 51, 52, 53, 54] (by kernel_rfl) (fun e2 w2 => Inv (gd e2 5) (gd e2 48) (gd e2 49) (gd e2 50) (gd e2 51) (gd e2 52) (gd e2 53) w2) (fun e2 w2 => μ (gd e2 5) (gd e2 48) (gd e2 49) (gd e2 50) (gd e2 51) (gd e2 52) (gd e2 53) w2) h0 ?_
  intro e' w' hI
  have h := hs (gd e' 5) (gd e' 48) (gd e' 49) (gd e' 50) (gd e' 51) (gd e' 52) (gd e' 53) (fun i => gd e' i) w' _ hI rfl
  have h2 : cCode Tryz.prog (cd Tryz.f10 [1, 1, 1, 0, 1, 0, 0]) (fun e2 w2 => Inv (gd e2 5) (gd e2 48) (gd e2 49) (gd e2 50) (gd e2 51) (gd e2 52) (gd e2 53) w2 ∧ μ (gd e2 5) (gd e2 48) (gd e2 49) (gd e2 50) (gd e2 51) (gd e2 52) (gd e2 53) w2 < μ (gd e' 5) (gd e' 48) (gd e' 49) (gd e' 50) (gd e' 51) (gd e' 52) (gd e' 53) w') (fun i => @Bool.rec (fun _ => KE) ((fun _ _ _ => False) i) (leatref29_May_P2 K) (Nat.beq i 2)) (retK Tryz.prog Tryz.f10.results.toList K) (s0::s1::(gd e' 2)::l3::i4::(gd e' 5)::A4::A5::A6::A7::A8::A9::C0::C1::C2::C3::C4::C5::C6::C7::C8::C9::D0::D1::D2::D3::D4::D5::D6::D7::D8::D9::E0::E1::(gd e' 34)::(gd e' 35)::(gd e' 36)::(gd e' 37)::(gd e' 38)::(gd e' 39)::(gd e' 40)::(gd e' 41)::(gd e' 42)::(gd e' 43)::(gd e' 44)::(gd e' 45)::(gd e' 46)::(gd e' 47)::(gd e' 48)::(gd e' 49)::(gd e' 50)::(gd e' 51)::(gd e' 52)::(gd e' 53)::(gd e' 54)::G3::G4::G5::G6::G7::G8::G9::H0::H1::H2::H3::H4::H5::H6::H7::H8::H9::I0::I1::I2::I3::I4::I5::I6::I7::I8::I9::J0::J1::J2::J3::J4::J5::J6::J7::J8::J9::L0::L1::L2::L3::L4::[]) w' := leatref29_May_L2_k (fun e2 w2 => Inv (gd e2 5) (gd e2 48) (gd e2 49) (gd e2 50) (gd e2 51) (gd e2 52) (gd e2 53) w2 ∧ μ (gd e2 5) (gd e2 48) (gd e2 49) (gd e2 50) (gd e2 51) (gd e2 52) (gd e2 53) w2 < μ (gd e' 5) (gd e' 48) (gd e' 49) (gd e' 50) (gd e' 51) (gd e' 52) (gd e' 53) w') (leatref29_May_P2 K) (Eq.mp (by kernel_rfl) h)
  exact Eq.mp (by kernel_rfl) h2

theorem leatref29_May_P2_k {K : KV} {w : World}
    (h : fldA Tryz.prog 27 s1 0 (fun G3 w =>
    ld Tryz.prog 5 G3 (fun G4 w =>
    bin Tryz.prog BinOp.geq 5 false true G4 (Value.int IntKind.u8 1) (fun G5 w =>
    gsel G5 true (fun k59 =>
    fldA Tryz.prog 27 s1 0 (fun G7 w =>
    ld Tryz.prog 5 G7 (fun G8 w =>
    bin Tryz.prog BinOp.leq 5 false true G8 (Value.int IntKind.u8 12) (fun G9 w =>
    k59 [G7, G8, G9] w) w) w) w)
    (fun k => k [undef, undef, undef] w) (fun us59 w =>
    pick G5 (gd us59 2) (Value.bool false) (fun H0 w =>
    gsel H0 true (fun k64 =>
    fldA Tryz.prog 27 s1 5 (fun H2 w =>
    ld Tryz.prog 3 H2 (fun H3 w =>
    bin Tryz.prog BinOp.geq 3 false true H3 (Value.int IntKind.i64 (-1)) (fun H4 w =>
    k64 [H2, H3, H4] w) w) w) w)
    (fun k => k [undef, undef, undef] w) (fun us64 w =>
    pick H0 (gd us64 2) (Value.bool false) (fun H5 w =>
    gsel H5 true (fun k69 =>
    fldA Tryz.prog 27 s1 5 (fun H7 w =>
    ld Tryz.prog 3 H7 (fun H8 w =>
    bin Tryz.prog BinOp.leq 3 false true H8 (Value.int IntKind.i64 1073741824) (fun H9 w =>
    k69 [H7, H8, H9] w) w) w) w)
    (fun k => k [undef, undef, undef] w) (fun us69 w =>
    pick H5 (gd us69 2) (Value.bool false) (fun I0 w =>
    gsel I0 true (fun k74 =>
    fldA Tryz.prog 27 s1 2 (fun I2 w =>
    fldA Tryz.prog 24 I2 0 (fun I3 w =>
    ld Tryz.prog 5 I3 (fun I4 w =>
    bin Tryz.prog BinOp.leq 5 false true I4 (Value.int IntKind.u8 7) (fun I5 w =>
    k74 [I2, I3, I4, I5] w) w) w) w) w)
    (fun k => k [undef, undef, undef, undef] w) (fun us74 w =>
    pick I0 (gd us74 3) (Value.bool false) (fun I6 w =>
    gsel I6 true (fun k80 =>
    fldA Tryz.prog 27 s1 2 (fun I8 w =>
    fldA Tryz.prog 24 I8 3 (fun I9 w =>
    ld Tryz.prog 2 I9 (fun J0 w =>
    bin Tryz.prog BinOp.geq 2 false true J0 (Value.int IntKind.i64 (-1)) (fun J1 w =>
    k80 [I8, I9, J0, J1] w) w) w) w) w)
    (fun k => k [undef, undef, undef, undef] w) (fun us80 w =>
    pick I6 (gd us80 3) (Value.bool false) (fun J2 w =>
    gsel J2 true (fun k86 =>
    fldA Tryz.prog 27 s1 2 (fun J4 w =>
    fldA Tryz.prog 24 J4 3 (fun J5 w =>
    ld Tryz.prog 2 J5 (fun J6 w =>
    bin Tryz.prog BinOp.leq 2 false true J6 (Value.int IntKind.i64 1152921504606846976) (fun J7 w =>
    k86 [J4, J5, J6, J7] w) w) w) w) w)
    (fun k => k [undef, undef, undef, undef] w) (fun us86 w =>
    pick J2 (gd us86 3) (Value.bool false) (fun J8 w =>
    gsel J8 true (fun k92 =>
    fldA Tryz.prog 27 s1 6 (fun L0 w =>
    ld Tryz.prog 25 L0 (fun L1 w =>
    blt Tryz.prog Builtin.len #[25] 3 #[false] #[L1] (fun L2 w =>
    bin Tryz.prog BinOp.leq 3 false true L2 (Value.int IntKind.i64 255) (fun L3 w =>
    k92 [L0, L1, L2, L3] w) w) w) w) w)
    (fun k => k [undef, undef, undef, undef] w) (fun us92 w =>
    pick J8 (gd us92 3) (Value.bool false) (fun L4 w =>
    K L4 w) w)) w)) w)) w)) w)) w)) w)) w) w) w) :
    cCode Tryz.prog (cd Tryz.f10 [1, 1, 1, 1]) (retK Tryz.prog Tryz.f10.results.toList K) (fun _ _ _ => False) (retK Tryz.prog Tryz.f10.results.toList K) (s0::s1::A0::l3::i4::i5::A4::A5::A6::A7::A8::A9::C0::C1::C2::C3::C4::C5::C6::C7::C8::C9::D0::D1::D2::D3::D4::D5::D6::D7::D8::D9::E0::E1::E2::E3::E4::E5::E6::E7::E8::E9::F0::F1::F2::F3::F4::F5::F6::F7::F8::F9::G0::G1::G2::G3::G4::G5::G6::G7::G8::G9::H0::H1::H2::H3::H4::H5::H6::H7::H8::H9::I0::I1::I2::I3::I4::I5::I6::I7::I8::I9::J0::J1::J2::J3::J4::J5::J6::J7::J8::J9::L0::L1::L2::L3::L4::[]) w := Eq.mp (by kernel_rfl) h

theorem leatref29_May_P2_r {K : KV} {w : World}
    (h : fldA Tryz.prog 27 s1 0 (fun G3 w =>
    ld Tryz.prog 5 G3 (fun G4 w =>
    bin Tryz.prog BinOp.geq 5 false true G4 (Value.int IntKind.u8 1) (fun G5 w =>
    gsel G5 true (fun k59 =>
    fldA Tryz.prog 27 s1 0 (fun G7 w =>
    ld Tryz.prog 5 G7 (fun G8 w =>
    bin Tryz.prog BinOp.leq 5 false true G8 (Value.int IntKind.u8 12) (fun G9 w =>
    k59 [G7, G8, G9] w) w) w) w)
    (fun k => k [undef, undef, undef] w) (fun us59 w =>
    pick G5 (gd us59 2) (Value.bool false) (fun H0 w =>
    gsel H0 true (fun k64 =>
    fldA Tryz.prog 27 s1 5 (fun H2 w =>
    ld Tryz.prog 3 H2 (fun H3 w =>
    bin Tryz.prog BinOp.geq 3 false true H3 (Value.int IntKind.i64 (-1)) (fun H4 w =>
    k64 [H2, H3, H4] w) w) w) w)
    (fun k => k [undef, undef, undef] w) (fun us64 w =>
    pick H0 (gd us64 2) (Value.bool false) (fun H5 w =>
    gsel H5 true (fun k69 =>
    fldA Tryz.prog 27 s1 5 (fun H7 w =>
    ld Tryz.prog 3 H7 (fun H8 w =>
    bin Tryz.prog BinOp.leq 3 false true H8 (Value.int IntKind.i64 1073741824) (fun H9 w =>
    k69 [H7, H8, H9] w) w) w) w)
    (fun k => k [undef, undef, undef] w) (fun us69 w =>
    pick H5 (gd us69 2) (Value.bool false) (fun I0 w =>
    gsel I0 true (fun k74 =>
    fldA Tryz.prog 27 s1 2 (fun I2 w =>
    fldA Tryz.prog 24 I2 0 (fun I3 w =>
    ld Tryz.prog 5 I3 (fun I4 w =>
    bin Tryz.prog BinOp.leq 5 false true I4 (Value.int IntKind.u8 7) (fun I5 w =>
    k74 [I2, I3, I4, I5] w) w) w) w) w)
    (fun k => k [undef, undef, undef, undef] w) (fun us74 w =>
    pick I0 (gd us74 3) (Value.bool false) (fun I6 w =>
    gsel I6 true (fun k80 =>
    fldA Tryz.prog 27 s1 2 (fun I8 w =>
    fldA Tryz.prog 24 I8 3 (fun I9 w =>
    ld Tryz.prog 2 I9 (fun J0 w =>
    bin Tryz.prog BinOp.geq 2 false true J0 (Value.int IntKind.i64 (-1)) (fun J1 w =>
    k80 [I8, I9, J0, J1] w) w) w) w) w)
    (fun k => k [undef, undef, undef, undef] w) (fun us80 w =>
    pick I6 (gd us80 3) (Value.bool false) (fun J2 w =>
    gsel J2 true (fun k86 =>
    fldA Tryz.prog 27 s1 2 (fun J4 w =>
    fldA Tryz.prog 24 J4 3 (fun J5 w =>
    ld Tryz.prog 2 J5 (fun J6 w =>
    bin Tryz.prog BinOp.leq 2 false true J6 (Value.int IntKind.i64 1152921504606846976) (fun J7 w =>
    k86 [J4, J5, J6, J7] w) w) w) w) w)
    (fun k => k [undef, undef, undef, undef] w) (fun us86 w =>
    pick J2 (gd us86 3) (Value.bool false) (fun J8 w =>
    gsel J8 true (fun k92 =>
    fldA Tryz.prog 27 s1 6 (fun L0 w =>
    ld Tryz.prog 25 L0 (fun L1 w =>
    blt Tryz.prog Builtin.len #[25] 3 #[false] #[L1] (fun L2 w =>
    bin Tryz.prog BinOp.leq 3 false true L2 (Value.int IntKind.i64 255) (fun L3 w =>
    k92 [L0, L1, L2, L3] w) w) w) w) w)
    (fun k => k [undef, undef, undef, undef] w) (fun us92 w =>
    pick J8 (gd us92 3) (Value.bool false) (fun L4 w =>
    K L4 w) w)) w)) w)) w)) w)) w)) w)) w) w) w) :
    leatref29_May_P2 K (s0::s1::A0::l3::i4::i5::A4::A5::A6::A7::A8::A9::C0::C1::C2::C3::C4::C5::C6::C7::C8::C9::D0::D1::D2::D3::D4::D5::D6::D7::D8::D9::E0::E1::E2::E3::E4::E5::E6::E7::E8::E9::F0::F1::F2::F3::F4::F5::F6::F7::F8::F9::G0::G1::G2::G3::G4::G5::G6::G7::G8::G9::H0::H1::H2::H3::H4::H5::H6::H7::H8::H9::I0::I1::I2::I3::I4::I5::I6::I7::I8::I9::J0::J1::J2::J3::J4::J5::J6::J7::J8::J9::L0::L1::L2::L3::L4::[]) w := by
  delta leatref29_May_P2
  exact Eq.mp (congrArg (fun c => cCode Tryz.prog c (retK Tryz.prog Tryz.f10.results.toList K) (fun _ _ _ => False) (retK Tryz.prog Tryz.f10.results.toList K) (s0::s1::A0::l3::i4::i5::A4::A5::A6::A7::A8::A9::C0::C1::C2::C3::C4::C5::C6::C7::C8::C9::D0::D1::D2::D3::D4::D5::D6::D7::D8::D9::E0::E1::E2::E3::E4::E5::E6::E7::E8::E9::F0::F1::F2::F3::F4::F5::F6::F7::F8::F9::G0::G1::G2::G3::G4::G5::G6::G7::G8::G9::H0::H1::H2::H3::H4::H5::H6::H7::H8::H9::I0::I1::I2::I3::I4::I5::I6::I7::I8::I9::J0::J1::J2::J3::J4::J5::J6::J7::J8::J9::L0::L1::L2::L3::L4::[]) w) (by kernel_rfl : (cd Tryz.f10 [1, 1, 1, 1]) = (cd Tryz.f10 [1, 1, 1, 1]))) (leatref29_May_P2_k h)
attribute [irreducible] leatref29_May_P1 leatref29_May_L1 leatref29_May_P2 leatref29_May_L2


end
theorem leatref29_number_k {K : KV} {b0 n1 k_2 : Value} {w : World}
    (h : call Tryz.prog 44 #[b0, n1, k_2] (fun C1 w =>
    ext Tryz.prog C1 0 (fun C2 w =>
    ext Tryz.prog C1 1 (fun C3 w =>
    K C2 w) w) w) w) :
    cCode Tryz.prog (cd Tryz.f28 []) (retK Tryz.prog Tryz.f28.results.toList K) (fun _ _ _ => False) (retK Tryz.prog Tryz.f28.results.toList K) [b0, n1, k_2, undef, undef, undef, undef, undef, undef, undef, undef, undef, undef, undef, undef, undef, undef] w := Eq.mp (by kernel_rfl) h

theorem leatref29_number_in {K : KV} {b0 n1 k_2 : Value} {w : World}
    (h : call Tryz.prog 44 #[b0, n1, k_2] (fun C1 w =>
    ext Tryz.prog C1 0 (fun C2 w =>
    ext Tryz.prog C1 1 (fun C3 w =>
    K C2 w) w) w) w) :
    Gives Tryz.prog 28 #[b0, n1, k_2] w K := enter' Tryz.func28 (by kernel_rfl) (Eq.mp (congrArg (fun c => cCode Tryz.prog c (retK Tryz.prog Tryz.f28.results.toList K) (fun _ _ _ => False) (retK Tryz.prog Tryz.f28.results.toList K) [b0, n1, k_2, undef, undef, undef, undef, undef, undef, undef, undef, undef, undef, undef, undef, undef, undef] w) (by kernel_rfl : (cd Tryz.f28 []) = (cd Tryz.f28 []))) (leatref29_number_k h))
theorem leatref29_number_go : isGo Tryz.prog 28 := ⟨_, Tryz.func28, by kernel_rfl, by kernel_rfl⟩

def leatref29_Put_A1 (K : KV) : KE := cCode Tryz.prog (cd Tryz.f11 [1, 1, 1, 1, 1]) (retK Tryz.prog Tryz.f11.results.toList K) (fun _ _ _ => False) (retK Tryz.prog Tryz.f11.results.toList K)
def leatref29_Put_A2 (K : KV) : KE := cCode Tryz.prog (cd Tryz.f11 [1, 1, 1, 1, 1, 1, 1, 1, 1]) (retK Tryz.prog Tryz.f11.results.toList K) (fun _ _ _ => False) (retK Tryz.prog Tryz.f11.results.toList K)
def leatref29_Put_A3 (K : KV) : KE := cCode Tryz.prog (cd Tryz.f11 [1, 1, 1, 1, 1, 1, 1, 1, 1, 1, 1, 1, 1]) (retK Tryz.prog Tryz.f11.results.toList K) (fun _ _ _ => False) (retK Tryz.prog Tryz.f11.results.toList K)
def leatref29_Put_P1 (K : KV) : KE := cCode Tryz.prog (cd Tryz.f11 [1, 1, 1, 1, 1, 1, 1, 1, 1, 1, 1, 1, 1, 1, 1]) (retK Tryz.prog Tryz.f11.results.toList K) (fun _ _ _ => False) (retK Tryz.prog Tryz.f11.results.toList K)
def leatref29_Put_L1 (K : KV) : KE := cCode Tryz.prog (cd Tryz.f11 [1, 1, 1, 1, 1, 1, 1, 1, 1, 1, 1, 1, 1, 1, 0, 1, 0]) (leatref29_Put_P1 K) (fun i => @Bool.rec (fun _ => KE) ((fun _ _ _ => False) i) (leatref29_Put_P1 K) (Nat.beq i 0)) (retK Tryz.prog Tryz.f11.results.toList K)
theorem leatref29_Put_k {K : KV} (xc0 : Code) {s0 : Value} {w : World}
    (h : box Tryz.prog 27 s0 (fun s1 w =>
    ld Tryz.prog 27 s1 (fun A3 w =>
    call Tryz.prog 10 #[A3] (fun A4 w =>
    un Tryz.prog UnOp.not A4 (fun A5 w =>
    cond A5
      (K (Value.slice none 0 0) w)
      (fldA Tryz.prog 27 s1 0 (fun A6 w =>
    ld Tryz.prog 5 A6 (fun A7 w =>
    conv Tryz.prog 5 22 A7 (fun A8 w =>
    call Tryz.prog 28 #[(Value.slice none 0 0), A8, (Value.int IntKind.i64 1)] (fun A9 w =>
    fldA Tryz.prog 27 s1 1 (fun C1 w =>
    ld Tryz.prog 3 C1 (fun C2 w =>
    bin Tryz.prog BinOp.add 3 false true C2 (Value.int IntKind.i64 1) (fun C3 w =>
    conv Tryz.prog 3 22 C3 (fun C4 w =>
    call Tryz.prog 28 #[A9, C4, (Value.int IntKind.i64 2)] (fun C5 w =>
    fldA Tryz.prog 27 s1 4 (fun C7 w =>
    ld Tryz.prog 3 C7 (fun C8 w =>
    bin Tryz.prog BinOp.add 3 false true C8 (Value.int IntKind.i64 1) (fun C9 w =>
    conv Tryz.prog 3 22 C9 (fun D0 w =>
    call Tryz.prog 28 #[C5, D0, (Value.int IntKind.i64 2)] (fun D1 w =>
    (cCode Tryz.prog xc0 (retK Tryz.prog Tryz.f11.results.toList K) (fun _ _ _ => False) (retK Tryz.prog Tryz.f11.results.toList K)) (s0::s1::(Value.slice none 0 0)::D1::undef::A3::A4::A5::A6::A7::A8::A9::A9::C1::C2::C3::C4::C5::C5::C7::C8::C9::D0::D1::undef::undef::undef::undef::undef::undef::undef::undef::undef::undef::undef::undef::undef::undef::undef::undef::undef::undef::undef::undef::undef::undef::undef::undef::undef::undef::undef::undef::undef::undef::undef::undef::undef::undef::undef::undef::undef::undef::undef::undef::undef::undef::undef::undef::undef::undef::undef::undef::undef::undef::undef::undef::undef::undef::undef::undef::undef::undef::undef::undef::undef::undef::undef::undef::undef::undef::undef::undef::undef::undef::[]) w) w) w) w) w) w) w) w) w) w) w) w) w) w) w)) w) w) w) w) :
    cCode Tryz.prog (rep [1, 1, 1, 1, 1] xc0 (cd Tryz.f11 [])) (retK Tryz.prog Tryz.f11.results.toList K) (fun _ _ _ => False) (retK Tryz.prog Tryz.f11.results.toList K) (s0::undef::undef::undef::undef::undef::undef::undef::undef::undef::undef::undef::undef::undef::undef::undef::undef::undef::undef::undef::undef::undef::undef::undef::undef::undef::undef::undef::undef::undef::undef::undef::undef::undef::undef::undef::undef::undef::undef::undef::undef::undef::undef::undef::undef::undef::undef::undef::undef::undef::undef::undef::undef::undef::undef::undef::undef::undef::undef::undef::undef::undef::undef::undef::undef::undef::undef::undef::undef::undef::undef::undef::undef::undef::undef::undef::undef::undef::undef::undef::undef::undef::undef::undef::undef::undef::undef::undef::undef::undef::undef::undef::undef::undef::[]) w := Eq.mp (by kernel_rfl) h

theorem leatref29_Put_in {K : KV} {s0 : Value} {w : World}
    (h : box Tryz.prog 27 s0 (fun s1 w =>
    ld Tryz.prog 27 s1 (fun A3 w =>
    call Tryz.prog 10 #[A3] (fun A4 w =>
    un Tryz.prog UnOp.not A4 (fun A5 w =>
    cond A5
      (K (Value.slice none 0 0) w)
      (fldA Tryz.prog 27 s1 0 (fun A6 w =>
    ld Tryz.prog 5 A6 (fun A7 w =>
    conv Tryz.prog 5 22 A7 (fun A8 w =>
    call Tryz.prog 28 #[(Value.slice none 0 0), A8, (Value.int IntKind.i64 1)] (fun A9 w =>
    fldA Tryz.prog 27 s1 1 (fun C1 w =>
    ld Tryz.prog 3 C1 (fun C2 w =>
    bin Tryz.prog BinOp.add 3 false true C2 (Value.int IntKind.i64 1) (fun C3 w =>
    conv Tryz.prog 3 22 C3 (fun C4 w =>
    call Tryz.prog 28 #[A9, C4, (Value.int IntKind.i64 2)] (fun C5 w =>
    fldA Tryz.prog 27 s1 4 (fun C7 w =>
    ld Tryz.prog 3 C7 (fun C8 w =>
    bin Tryz.prog BinOp.add 3 false true C8 (Value.int IntKind.i64 1) (fun C9 w =>
    conv Tryz.prog 3 22 C9 (fun D0 w =>
    call Tryz.prog 28 #[C5, D0, (Value.int IntKind.i64 2)] (fun D1 w =>
    (leatref29_Put_A1 K) (s0::s1::(Value.slice none 0 0)::D1::undef::A3::A4::A5::A6::A7::A8::A9::A9::C1::C2::C3::C4::C5::C5::C7::C8::C9::D0::D1::undef::undef::undef::undef::undef::undef::undef::undef::undef::undef::undef::undef::undef::undef::undef::undef::undef::undef::undef::undef::undef::undef::undef::undef::undef::undef::undef::undef::undef::undef::undef::undef::undef::undef::undef::undef::undef::undef::undef::undef::undef::undef::undef::undef::undef::undef::undef::undef::undef::undef::undef::undef::undef::undef::undef::undef::undef::undef::undef::undef::undef::undef::undef::undef::undef::undef::undef::undef::undef::undef::[]) w) w) w) w) w) w) w) w) w) w) w) w) w) w) w)) w) w) w) w) :
    Gives Tryz.prog 11 #[s0] w K := enter' Tryz.func11 (by kernel_rfl) (Eq.mp (congrArg (fun c => cCode Tryz.prog c (retK Tryz.prog Tryz.f11.results.toList K) (fun _ _ _ => False) (retK Tryz.prog Tryz.f11.results.toList K) (s0::undef::undef::undef::undef::undef::undef::undef::undef::undef::undef::undef::undef::undef::undef::undef::undef::undef::undef::undef::undef::undef::undef::undef::undef::undef::undef::undef::undef::undef::undef::undef::undef::undef::undef::undef::undef::undef::undef::undef::undef::undef::undef::undef::undef::undef::undef::undef::undef::undef::undef::undef::undef::undef::undef::undef::undef::undef::undef::undef::undef::undef::undef::undef::undef::undef::undef::undef::undef::undef::undef::undef::undef::undef::undef::undef::undef::undef::undef::undef::undef::undef::undef::undef::undef::undef::undef::undef::undef::undef::undef::undef::undef::undef::[]) w) (by kernel_rfl : (rep [1, 1, 1, 1, 1] (cd Tryz.f11 [1, 1, 1, 1, 1]) (cd Tryz.f11 [])) = (cd Tryz.f11 []))) (leatref29_Put_k (cd Tryz.f11 [1, 1, 1, 1, 1]) h))
theorem leatref29_Put_go : isGo Tryz.prog 11 := ⟨_, Tryz.func11, by kernel_rfl, by kernel_rfl⟩

section
variable {s0 s1 A0 b3 i4 A3 A4 A5 A6 A7 A8 A9 C0 C1 C2 C3 C4 C5 C6 C7 C8 C9 D0 D1 D2 D3 D4 D5 D6 D7 D8 D9 E0 E1 E2 E3 E4 E5 E6 E7 E8 E9 F0 F1 F2 F3 F4 F5 F6 F7 F8 F9 G0 G1 G2 G3 G4 G5 G6 G7 G8 G9 H0 H1 H2 H3 H4 H5 H6 H7 H8 H9 I0 I1 I2 I3 I4 I5 I6 I7 I8 I9 J0 J1 J2 J3 J4 J5 J6 J7 J8 J9 L0 L1 : Value}
theorem leatref29_Put_A1_k {K : KV} (xc0 : Code) {w : World}
    (h : fldA Tryz.prog 27 s1 3 (fun D3 w =>
    ld Tryz.prog 3 D3 (fun D4 w =>
    bin Tryz.prog BinOp.add 3 false true D4 (Value.int IntKind.i64 1) (fun D5 w =>
    conv Tryz.prog 3 22 D5 (fun D6 w =>
    call Tryz.prog 28 #[b3, D6, (Value.int IntKind.i64 2)] (fun D7 w =>
    fldA Tryz.prog 27 s1 5 (fun D9 w =>
    ld Tryz.prog 3 D9 (fun E0 w =>
    bin Tryz.prog BinOp.add 3 false true E0 (Value.int IntKind.i64 1) (fun E1 w =>
    conv Tryz.prog 3 22 E1 (fun E2 w =>
    call Tryz.prog 28 #[D7, E2, (Value.int IntKind.i64 4)] (fun E3 w =>
    fldA Tryz.prog 27 s1 2 (fun E5 w =>
    fldA Tryz.prog 24 E5 0 (fun E6 w =>
    ld Tryz.prog 5 E6 (fun E7 w =>
    conv Tryz.prog 5 22 E7 (fun E8 w =>
    call Tryz.prog 28 #[E3, E8, (Value.int IntKind.i64 1)] (fun E9 w =>
    fldA Tryz.prog 27 s1 2 (fun F1 w =>
    fldA Tryz.prog 24 F1 1 (fun F2 w =>
    ld Tryz.prog 22 F2 (fun F3 w =>
    call Tryz.prog 28 #[E9, F3, (Value.int IntKind.i64 8)] (fun F4 w =>
    (cCode Tryz.prog xc0 (retK Tryz.prog Tryz.f11.results.toList K) (fun _ _ _ => False) (retK Tryz.prog Tryz.f11.results.toList K)) (s0::s1::A0::F4::i4::A3::A4::A5::A6::A7::A8::A9::C0::C1::C2::C3::C4::C5::C6::C7::C8::C9::D0::D1::b3::D3::D4::D5::D6::D7::D7::D9::E0::E1::E2::E3::E3::E5::E6::E7::E8::E9::E9::F1::F2::F3::F4::F5::F6::F7::F8::F9::G0::G1::G2::G3::G4::G5::G6::G7::G8::G9::H0::H1::H2::H3::H4::H5::H6::H7::H8::H9::I0::I1::I2::I3::I4::I5::I6::I7::I8::I9::J0::J1::J2::J3::J4::J5::J6::J7::J8::J9::L0::L1::[]) w) w) w) w) w) w) w) w) w) w) w) w) w) w) w) w) w) w) w) w) :
    cCode Tryz.prog (rep [1, 1, 1, 1] xc0 (cd Tryz.f11 [1, 1, 1, 1, 1])) (retK Tryz.prog Tryz.f11.results.toList K) (fun _ _ _ => False) (retK Tryz.prog Tryz.f11.results.toList K) (s0::s1::A0::b3::i4::A3::A4::A5::A6::A7::A8::A9::C0::C1::C2::C3::C4::C5::C6::C7::C8::C9::D0::D1::D2::D3::D4::D5::D6::D7::D8::D9::E0::E1::E2::E3::E4::E5::E6::E7::E8::E9::F0::F1::F2::F3::F4::F5::F6::F7::F8::F9::G0::G1::G2::G3::G4::G5::G6::G7::G8::G9::H0::H1::H2::H3::H4::H5::H6::H7::H8::H9::I0::I1::I2::I3::I4::I5::I6::I7::I8::I9::J0::J1::J2::J3::J4::J5::J6::J7::J8::J9::L0::L1::[]) w := Eq.mp (by kernel_rfl) h

theorem leatref29_Put_A1_r {K : KV} {w : World}
    (h : fldA Tryz.prog 27 s1 3 (fun D3 w =>
    ld Tryz.prog 3 D3 (fun D4 w =>
    bin Tryz.prog BinOp.add 3 false true D4 (Value.int IntKind.i64 1) (fun D5 w =>
    conv Tryz.prog 3 22 D5 (fun D6 w =>
    call Tryz.prog 28 #[b3, D6, (Value.int IntKind.i64 2)] (fun D7 w =>
    fldA Tryz.prog 27 s1 5 (fun D9 w =>
    ld Tryz.prog 3 D9 (fun E0 w =>
    bin Tryz.prog BinOp.add 3 false true E0 (Value.int IntKind.i64 1) (fun E1 w =>
    conv Tryz.prog 3 22 E1 (fun E2 w =>
    call Tryz.prog 28 #[D7, E2, (Value.int IntKind.i64 4)] (fun E3 w =>
    fldA Tryz.prog 27 s1 2 (fun E5 w =>
    fldA Tryz.prog 24 E5 0 (fun E6 w =>
    ld Tryz.prog 5 E6 (fun E7 w =>
    conv Tryz.prog 5 22 E7 (fun E8 w =>
    call Tryz.prog 28 #[E3, E8, (Value.int IntKind.i64 1)] (fun E9 w =>
    fldA Tryz.prog 27 s1 2 (fun F1 w =>
    fldA Tryz.prog 24 F1 1 (fun F2 w =>
    ld Tryz.prog 22 F2 (fun F3 w =>
    call Tryz.prog 28 #[E9, F3, (Value.int IntKind.i64 8)] (fun F4 w =>
    (leatref29_Put_A2 K) (s0::s1::A0::F4::i4::A3::A4::A5::A6::A7::A8::A9::C0::C1::C2::C3::C4::C5::C6::C7::C8::C9::D0::D1::b3::D3::D4::D5::D6::D7::D7::D9::E0::E1::E2::E3::E3::E5::E6::E7::E8::E9::E9::F1::F2::F3::F4::F5::F6::F7::F8::F9::G0::G1::G2::G3::G4::G5::G6::G7::G8::G9::H0::H1::H2::H3::H4::H5::H6::H7::H8::H9::I0::I1::I2::I3::I4::I5::I6::I7::I8::I9::J0::J1::J2::J3::J4::J5::J6::J7::J8::J9::L0::L1::[]) w) w) w) w) w) w) w) w) w) w) w) w) w) w) w) w) w) w) w) w) :
    leatref29_Put_A1 K (s0::s1::A0::b3::i4::A3::A4::A5::A6::A7::A8::A9::C0::C1::C2::C3::C4::C5::C6::C7::C8::C9::D0::D1::D2::D3::D4::D5::D6::D7::D8::D9::E0::E1::E2::E3::E4::E5::E6::E7::E8::E9::F0::F1::F2::F3::F4::F5::F6::F7::F8::F9::G0::G1::G2::G3::G4::G5::G6::G7::G8::G9::H0::H1::H2::H3::H4::H5::H6::H7::H8::H9::I0::I1::I2::I3::I4::I5::I6::I7::I8::I9::J0::J1::J2::J3::J4::J5::J6::J7::J8::J9::L0::L1::[]) w := by
  delta leatref29_Put_A1
  exact Eq.mp (congrArg (fun c => cCode Tryz.prog c (retK Tryz.prog Tryz.f11.results.toList K) (fun _ _ _ => False) (retK Tryz.prog Tryz.f11.results.toList K) (s0::s1::A0::b3::i4::A3::A4::A5::A6::A7::A8::A9::C0::C1::C2::C3::C4::C5::C6::C7::C8::C9::D0::D1::D2::D3::D4::D5::D6::D7::D8::D9::E0::E1::E2::E3::E4::E5::E6::E7::E8::E9::F0::F1::F2::F3::F4::F5::F6::F7::F8::F9::G0::G1::G2::G3::G4::G5::G6::G7::G8::G9::H0::H1::H2::H3::H4::H5::H6::H7::H8::H9::I0::I1::I2::I3::I4::I5::I6::I7::I8::I9::J0::J1::J2::J3::J4::J5::J6::J7::J8::J9::L0::L1::[]) w) (by kernel_rfl : (rep [1, 1, 1, 1] (cd Tryz.f11 [1, 1, 1, 1, 1, 1, 1, 1, 1]) (cd Tryz.f11 [1, 1, 1, 1, 1])) = (cd Tryz.f11 [1, 1, 1, 1, 1]))) (leatref29_Put_A1_k (cd Tryz.f11 [1, 1, 1, 1, 1, 1, 1, 1, 1]) h)

theorem leatref29_Put_A2_k {K : KV} (xc0 : Code) {w : World}
    (h : fldA Tryz.prog 27 s1 2 (fun F6 w =>
    fldA Tryz.prog 24 F6 2 (fun F7 w =>
    ld Tryz.prog 3 F7 (fun F8 w =>
    bin Tryz.prog BinOp.add 3 false true F8 (Value.int IntKind.i64 1) (fun F9 w =>
    conv Tryz.prog 3 22 F9 (fun G0 w =>
    call Tryz.prog 28 #[b3, G0, (Value.int IntKind.i64 2)] (fun G1 w =>
    fldA Tryz.prog 27 s1 2 (fun G3 w =>
    fldA Tryz.prog 24 G3 3 (fun G4 w =>
    ld Tryz.prog 2 G4 (fun G5 w =>
    bin Tryz.prog BinOp.add 2 false true G5 (Value.int IntKind.i64 1) (fun G6 w =>
    conv Tryz.prog 2 22 G6 (fun G7 w =>
    call Tryz.prog 28 #[G1, G7, (Value.int IntKind.i64 8)] (fun G8 w =>
    fldA Tryz.prog 27 s1 2 (fun H0 w =>
    fldA Tryz.prog 24 H0 4 (fun H1 w =>
    ld Tryz.prog 22 H1 (fun H2 w =>
    call Tryz.prog 28 #[G8, H2, (Value.int IntKind.i64 8)] (fun H3 w =>
    fldA Tryz.prog 27 s1 2 (fun H5 w =>
    fldA Tryz.prog 24 H5 5 (fun H6 w =>
    ld Tryz.prog 22 H6 (fun H7 w =>
    call Tryz.prog 28 #[H3, H7, (Value.int IntKind.i64 8)] (fun H8 w =>
    (cCode Tryz.prog xc0 (retK Tryz.prog Tryz.f11.results.toList K) (fun _ _ _ => False) (retK Tryz.prog Tryz.f11.results.toList K)) (s0::s1::A0::H8::i4::A3::A4::A5::A6::A7::A8::A9::C0::C1::C2::C3::C4::C5::C6::C7::C8::C9::D0::D1::D2::D3::D4::D5::D6::D7::D8::D9::E0::E1::E2::E3::E4::E5::E6::E7::E8::E9::F0::F1::F2::F3::F4::b3::F6::F7::F8::F9::G0::G1::G1::G3::G4::G5::G6::G7::G8::G8::H0::H1::H2::H3::H3::H5::H6::H7::H8::H9::I0::I1::I2::I3::I4::I5::I6::I7::I8::I9::J0::J1::J2::J3::J4::J5::J6::J7::J8::J9::L0::L1::[]) w) w) w) w) w) w) w) w) w) w) w) w) w) w) w) w) w) w) w) w) w) :
    cCode Tryz.prog (rep [1, 1, 1, 1] xc0 (cd Tryz.f11 [1, 1, 1, 1, 1, 1, 1, 1, 1])) (retK Tryz.prog Tryz.f11.results.toList K) (fun _ _ _ => False) (retK Tryz.prog Tryz.f11.results.toList K) (s0::s1::A0::b3::i4::A3::A4::A5::A6::A7::A8::A9::C0::C1::C2::C3::C4::C5::C6::C7::C8::C9::D0::D1::D2::D3::D4::D5::D6::D7::D8::D9::E0::E1::E2::E3::E4::E5::E6::E7::E8::E9::F0::F1::F2::F3::F4::F5::F6::F7::F8::F9::G0::G1::G2::G3::G4::G5::G6::G7::G8::G9::H0::H1::H2::H3::H4::H5::H6::H7::H8::H9::I0::I1::I2::I3::I4::I5::I6::I7::I8::I9::J0::J1::J2::J3::J4::J5::J6::J7::J8::J9::L0::L1::[]) w := Eq.mp (by kernel_rfl) h

theorem leatref29_Put_A2_r {K : KV} {w : World}
    (h : fldA Tryz.prog 27 s1 2 (fun F6 w =>
    fldA Tryz.prog 24 F6 2 (fun F7 w =>
    ld Tryz.prog 3 F7 (fun F8 w =>
    bin Tryz.prog BinOp.add 3 false true F8 (Value.int IntKind.i64 1) (fun F9 w =>
    conv Tryz.prog 3 22 F9 (fun G0 w =>
    call Tryz.prog 28 #[b3, G0, (Value.int IntKind.i64 2)] (fun G1 w =>
    fldA Tryz.prog 27 s1 2 (fun G3 w =>
    fldA Tryz.prog 24 G3 3 (fun G4 w =>
    ld Tryz.prog 2 G4 (fun G5 w =>
    bin Tryz.prog BinOp.add 2 false true G5 (Value.int IntKind.i64 1) (fun G6 w =>
    conv Tryz.prog 2 22 G6 (fun G7 w =>
    call Tryz.prog 28 #[G1, G7, (Value.int IntKind.i64 8)] (fun G8 w =>
    fldA Tryz.prog 27 s1 2 (fun H0 w =>
    fldA Tryz.prog 24 H0 4 (fun H1 w =>
    ld Tryz.prog 22 H1 (fun H2 w =>
    call Tryz.prog 28 #[G8, H2, (Value.int IntKind.i64 8)] (fun H3 w =>
    fldA Tryz.prog 27 s1 2 (fun H5 w =>
    fldA Tryz.prog 24 H5 5 (fun H6 w =>
    ld Tryz.prog 22 H6 (fun H7 w =>
    call Tryz.prog 28 #[H3, H7, (Value.int IntKind.i64 8)] (fun H8 w =>
    (leatref29_Put_A3 K) (s0::s1::A0::H8::i4::A3::A4::A5::A6::A7::A8::A9::C0::C1::C2::C3::C4::C5::C6::C7::C8::C9::D0::D1::D2::D3::D4::D5::D6::D7::D8::D9::E0::E1::E2::E3::E4::E5::E6::E7::E8::E9::F0::F1::F2::F3::F4::b3::F6::F7::F8::F9::G0::G1::G1::G3::G4::G5::G6::G7::G8::G8::H0::H1::H2::H3::H3::H5::H6::H7::H8::H9::I0::I1::I2::I3::I4::I5::I6::I7::I8::I9::J0::J1::J2::J3::J4::J5::J6::J7::J8::J9::L0::L1::[]) w) w) w) w) w) w) w) w) w) w) w) w) w) w) w) w) w) w) w) w) w) :
    leatref29_Put_A2 K (s0::s1::A0::b3::i4::A3::A4::A5::A6::A7::A8::A9::C0::C1::C2::C3::C4::C5::C6::C7::C8::C9::D0::D1::D2::D3::D4::D5::D6::D7::D8::D9::E0::E1::E2::E3::E4::E5::E6::E7::E8::E9::F0::F1::F2::F3::F4::F5::F6::F7::F8::F9::G0::G1::G2::G3::G4::G5::G6::G7::G8::G9::H0::H1::H2::H3::H4::H5::H6::H7::H8::H9::I0::I1::I2::I3::I4::I5::I6::I7::I8::I9::J0::J1::J2::J3::J4::J5::J6::J7::J8::J9::L0::L1::[]) w := by
  delta leatref29_Put_A2
  exact Eq.mp (congrArg (fun c => cCode Tryz.prog c (retK Tryz.prog Tryz.f11.results.toList K) (fun _ _ _ => False) (retK Tryz.prog Tryz.f11.results.toList K) (s0::s1::A0::b3::i4::A3::A4::A5::A6::A7::A8::A9::C0::C1::C2::C3::C4::C5::C6::C7::C8::C9::D0::D1::D2::D3::D4::D5::D6::D7::D8::D9::E0::E1::E2::E3::E4::E5::E6::E7::E8::E9::F0::F1::F2::F3::F4::F5::F6::F7::F8::F9::G0::G1::G2::G3::G4::G5::G6::G7::G8::G9::H0::H1::H2::H3::H4::H5::H6::H7::H8::H9::I0::I1::I2::I3::I4::I5::I6::I7::I8::I9::J0::J1::J2::J3::J4::J5::J6::J7::J8::J9::L0::L1::[]) w) (by kernel_rfl : (rep [1, 1, 1, 1] (cd Tryz.f11 [1, 1, 1, 1, 1, 1, 1, 1, 1, 1, 1, 1, 1]) (cd Tryz.f11 [1, 1, 1, 1, 1, 1, 1, 1, 1])) = (cd Tryz.f11 [1, 1, 1, 1, 1, 1, 1, 1, 1]))) (leatref29_Put_A2_k (cd Tryz.f11 [1, 1, 1, 1, 1, 1, 1, 1, 1, 1, 1, 1, 1]) h)

theorem leatref29_Put_A3_k {K : KV} {w : World}
    (h : fldA Tryz.prog 27 s1 6 (fun I0 w =>
    ld Tryz.prog 25 I0 (fun I1 w =>
    blt Tryz.prog Builtin.len #[25] 3 #[false] #[I1] (fun I2 w =>
    conv Tryz.prog 3 22 I2 (fun I3 w =>
    call Tryz.prog 28 #[b3, I3, (Value.int IntKind.i64 1)] (fun I4 w =>
    (cCode Tryz.prog (cd Tryz.f11 [1, 1, 1, 1, 1, 1, 1, 1, 1, 1, 1, 1, 1, 1, 0, 1, 0]) (cCode Tryz.prog (cd Tryz.f11 [1, 1, 1, 1, 1, 1, 1, 1, 1, 1, 1, 1, 1, 1, 1]) (retK Tryz.prog Tryz.f11.results.toList K) (fun _ _ _ => False) (retK Tryz.prog Tryz.f11.results.toList K)) (fun i => @Bool.rec (fun _ => KE) ((fun _ _ _ => False) i) (cCode Tryz.prog (cd Tryz.f11 [1, 1, 1, 1, 1, 1, 1, 1, 1, 1, 1, 1, 1, 1, 1]) (retK Tryz.prog Tryz.f11.results.toList K) (fun _ _ _ => False) (retK Tryz.prog Tryz.f11.results.toList K)) (Nat.beq i 0)) (retK Tryz.prog Tryz.f11.results.toList K)) (s0::s1::A0::I4::(Value.int IntKind.i64 0)::A3::A4::A5::A6::A7::A8::A9::C0::C1::C2::C3::C4::C5::C6::C7::C8::C9::D0::D1::D2::D3::D4::D5::D6::D7::D8::D9::E0::E1::E2::E3::E4::E5::E6::E7::E8::E9::F0::F1::F2::F3::F4::F5::F6::F7::F8::F9::G0::G1::G2::G3::G4::G5::G6::G7::G8::G9::H0::H1::H2::H3::H4::H5::H6::H7::H8::b3::I0::I1::I2::I3::I4::I5::I6::I7::I8::I9::J0::J1::J2::J3::J4::J5::J6::J7::J8::J9::L0::L1::[]) w) w) w) w) w) w) :
    cCode Tryz.prog (cd Tryz.f11 [1, 1, 1, 1, 1, 1, 1, 1, 1, 1, 1, 1, 1]) (retK Tryz.prog Tryz.f11.results.toList K) (fun _ _ _ => False) (retK Tryz.prog Tryz.f11.results.toList K) (s0::s1::A0::b3::i4::A3::A4::A5::A6::A7::A8::A9::C0::C1::C2::C3::C4::C5::C6::C7::C8::C9::D0::D1::D2::D3::D4::D5::D6::D7::D8::D9::E0::E1::E2::E3::E4::E5::E6::E7::E8::E9::F0::F1::F2::F3::F4::F5::F6::F7::F8::F9::G0::G1::G2::G3::G4::G5::G6::G7::G8::G9::H0::H1::H2::H3::H4::H5::H6::H7::H8::H9::I0::I1::I2::I3::I4::I5::I6::I7::I8::I9::J0::J1::J2::J3::J4::J5::J6::J7::J8::J9::L0::L1::[]) w := Eq.mp (by kernel_rfl) h

theorem leatref29_Put_A3_r {K : KV} {w : World}
    (h : fldA Tryz.prog 27 s1 6 (fun I0 w =>
    ld Tryz.prog 25 I0 (fun I1 w =>
    blt Tryz.prog Builtin.len #[25] 3 #[false] #[I1] (fun I2 w =>
    conv Tryz.prog 3 22 I2 (fun I3 w =>
    call Tryz.prog 28 #[b3, I3, (Value.int IntKind.i64 1)] (fun I4 w =>
    (leatref29_Put_L1 K) (s0::s1::A0::I4::(Value.int IntKind.i64 0)::A3::A4::A5::A6::A7::A8::A9::C0::C1::C2::C3::C4::C5::C6::C7::C8::C9::D0::D1::D2::D3::D4::D5::D6::D7::D8::D9::E0::E1::E2::E3::E4::E5::E6::E7::E8::E9::F0::F1::F2::F3::F4::F5::F6::F7::F8::F9::G0::G1::G2::G3::G4::G5::G6::G7::G8::G9::H0::H1::H2::H3::H4::H5::H6::H7::H8::b3::I0::I1::I2::I3::I4::I5::I6::I7::I8::I9::J0::J1::J2::J3::J4::J5::J6::J7::J8::J9::L0::L1::[]) w) w) w) w) w) w) :
    leatref29_Put_A3 K (s0::s1::A0::b3::i4::A3::A4::A5::A6::A7::A8::A9::C0::C1::C2::C3::C4::C5::C6::C7::C8::C9::D0::D1::D2::D3::D4::D5::D6::D7::D8::D9::E0::E1::E2::E3::E4::E5::E6::E7::E8::E9::F0::F1::F2::F3::F4::F5::F6::F7::F8::F9::G0::G1::G2::G3::G4::G5::G6::G7::G8::G9::H0::H1::H2::H3::H4::H5::H6::H7::H8::H9::I0::I1::I2::I3::I4::I5::I6::I7::I8::I9::J0::J1::J2::J3::J4::J5::J6::J7::J8::J9::L0::L1::[]) w := by
  delta leatref29_Put_A3
  exact Eq.mp (congrArg (fun c => cCode Tryz.prog c (retK Tryz.prog Tryz.f11.results.toList K) (fun _ _ _ => False) (retK Tryz.prog Tryz.f11.results.toList K) (s0::s1::A0::b3::i4::A3::A4::A5::A6::A7::A8::A9::C0::C1::C2::C3::C4::C5::C6::C7::C8::C9::D0::D1::D2::D3::D4::D5::D6::D7::D8::D9::E0::E1::E2::E3::E4::E5::E6::E7::E8::E9::F0::F1::F2::F3::F4::F5::F6::F7::F8::F9::G0::G1::G2::G3::G4::G5::G6::G7::G8::G9::H0::H1::H2::H3::H4::H5::H6::H7::H8::H9::I0::I1::I2::I3::I4::I5::I6::I7::I8::I9::J0::J1::J2::J3::J4::J5::J6::J7::J8::J9::L0::L1::[]) w) (by kernel_rfl : (cd Tryz.f11 [1, 1, 1, 1, 1, 1, 1, 1, 1, 1, 1, 1, 1]) = (cd Tryz.f11 [1, 1, 1, 1, 1, 1, 1, 1, 1, 1, 1, 1, 1]))) (leatref29_Put_A3_k h)

end
theorem leatref29_Put_L1_k {K : KV} (B1 : KE) (qc0 : KE) {s0 s1 A0 b3' i4' A3 A4 A5 A6 A7 A8 A9 C0 C1 C2 C3 C4 C5 C6 C7 C8 C9 D0 D1 D2 D3 D4 D5 D6 D7 D8 D9 E0 E1 E2 E3 E4 E5 E6 E7 E8 E9 F0 F1 F2 F3 F4 F5 F6 F7 F8 F9 G0 G1 G2 G3 G4 G5 G6 G7 G8 G9 H0 H1 H2 H3 H4 H5 H6 H7 H8 H9 I0 I1 I2 I3 I4 L1 : Value} {dd : Nat → Value} {w : World}
    (h : fldA Tryz.prog 27 s1 6 (fun I6 w =>
    ld Tryz.prog 25 I6 (fun I7 w =>
    blt Tryz.prog Builtin.len #[25] 3 #[false] #[I7] (fun I8 w =>
    bin Tryz.prog BinOp.lss 3 false false i4' I8 (fun I9 w =>
    cond I9
      (fldA Tryz.prog 27 s1 6 (fun J3 w =>
    ld Tryz.prog 25 J3 (fun J4 w =>
    idxA Tryz.prog 25 J4 i4' (fun J6 w =>
    ld Tryz.prog 3 J6 (fun J7 w =>
    bin Tryz.prog BinOp.add 3 false true J7 (Value.int IntKind.i64 1) (fun J8 w =>
    conv Tryz.prog 3 22 J8 (fun J9 w =>
    call Tryz.prog 28 #[b3', J9, (Value.int IntKind.i64 1)] (fun L0 w =>
    bin Tryz.prog BinOp.add 3 false true i4' (Value.int IntKind.i64 1) (fun J1 w =>
    B1 (s0::s1::A0::L0::J1::A3::A4::A5::A6::A7::A8::A9::C0::C1::C2::C3::C4::C5::C6::C7::C8::C9::D0::D1::D2::D3::D4::D5::D6::D7::D8::D9::E0::E1::E2::E3::E4::E5::E6::E7::E8::E9::F0::F1::F2::F3::F4::F5::F6::F7::F8::F9::G0::G1::G2::G3::G4::G5::G6::G7::G8::G9::H0::H1::H2::H3::H4::H5::H6::H7::H8::H9::I0::I1::I2::I3::I4::i4'::I6::I7::I8::I9::i4'::J1::b3'::J3::J4::i4'::J6::J7::J8::J9::L0::L1::[]) w) w) w) w) w) w) w) w) w)
      (qc0 (s0::s1::A0::b3'::i4'::A3::A4::A5::A6::A7::A8::A9::C0::C1::C2::C3::C4::C5::C6::C7::C8::C9::D0::D1::D2::D3::D4::D5::D6::D7::D8::D9::E0::E1::E2::E3::E4::E5::E6::E7::E8::E9::F0::F1::F2::F3::F4::F5::F6::F7::F8::F9::G0::G1::G2::G3::G4::G5::G6::G7::G8::G9::H0::H1::H2::H3::H4::H5::H6::H7::H8::H9::I0::I1::I2::I3::I4::i4'::I6::I7::I8::I9::(dd 82)::(dd 83)::(dd 84)::(dd 85)::(dd 86)::(dd 87)::(dd 88)::(dd 89)::(dd 90)::(dd 91)::(dd 92)::L1::[]) w)) w) w) w) w) :
    cCode Tryz.prog (cd Tryz.f11 [1, 1, 1, 1, 1, 1, 1, 1, 1, 1, 1, 1, 1, 1, 0, 1, 0, 0]) B1 (fun i => @Bool.rec (fun _ => KE) ((fun _ _ _ => False) i) qc0 (Nat.beq i 0)) (retK Tryz.prog Tryz.f11.results.toList K) (s0::s1::A0::b3'::i4'::A3::A4::A5::A6::A7::A8::A9::C0::C1::C2::C3::C4::C5::C6::C7::C8::C9::D0::D1::D2::D3::D4::D5::D6::D7::D8::D9::E0::E1::E2::E3::E4::E5::E6::E7::E8::E9::F0::F1::F2::F3::F4::F5::F6::F7::F8::F9::G0::G1::G2::G3::G4::G5::G6::G7::G8::G9::H0::H1::H2::H3::H4::H5::H6::H7::H8::H9::I0::I1::I2::I3::I4::(dd 77)::(dd 78)::(dd 79)::(dd 80)::(dd 81)::(dd 82)::(dd 83)::(dd 84)::(dd 85)::(dd 86)::(dd 87)::(dd 88)::(dd 89)::(dd 90)::(dd 91)::(dd 92)::L1::[]) w := Eq.mp (by kernel_rfl) h

section
variable {s0 s1 A0 b3 i4 A3 A4 A5 A6 A7 A8 A9 C0 C1 C2 C3 C4 C5 C6 C7 C8 C9 D0 D1 D2 D3 D4 D5 D6 D7 D8 D9 E0 E1 E2 E3 E4 E5 E6 E7 E8 E9 F0 F1 F2 F3 F4 F5 F6 F7 F8 F9 G0 G1 G2 G3 G4 G5 G6 G7 G8 G9 H0 H1 H2 H3 H4 H5 H6 H7 H8 H9 I0 I1 I2 I3 I4 I5 I6 I7 I8 I9 J0 J1 J2 J3 J4 J5 J6 J7 J8 J9 L0 L1 : Value}
theorem leatref29_Put_L1_r {K : KV} {w : World} (Inv : Value → Value → World → Prop) (μ : Value → Value → World → Nat) (h0 : Inv b3 i4 w)
    (hs : ∀ (b3' i4' : Value) (dd : Nat → Value) (w : World) (m : Nat), Inv b3' i4' w → m = μ b3' i4' w →
    fldA Tryz.prog 27 s1 6 (fun I6 w =>
    ld Tryz.prog 25 I6 (fun I7 w =>
    blt Tryz.prog Builtin.len #[25] 3 #[false] #[I7] (fun I8 w =>
    bin Tryz.prog BinOp.lss 3 false false i4' I8 (fun I9 w =>
    cond I9
      (fldA Tryz.prog 27 s1 6 (fun J3 w =>
    ld Tryz.prog 25 J3 (fun J4 w =>
    idxA Tryz.prog 25 J4 i4' (fun J6 w =>
    ld Tryz.prog 3 J6 (fun J7 w =>
    bin Tryz.prog BinOp.add 3 false true J7 (Value.int IntKind.i64 1) (fun J8 w =>
    conv Tryz.prog 3 22 J8 (fun J9 w =>
    call Tryz.prog 28 #[b3', J9, (Value.int IntKind.i64 1)] (fun L0 w =>
    bin Tryz.prog BinOp.add 3 false true i4' (Value.int IntKind.i64 1) (fun J1 w =>
    (Inv L0 J1 w ∧ μ L0 J1 w < m)) w) w) w) w) w) w) w) w)
      ((leatref29_Put_P1 K) (s0::s1::A0::b3'::i4'::A3::A4::A5::A6::A7::A8::A9::C0::C1::C2::C3::C4::C5::C6::C7::C8::C9::D0::D1::D2::D3::D4::D5::D6::D7::D8::D9::E0::E1::E2::E3::E4::E5::E6::E7::E8::E9::F0::F1::F2::F3::F4::F5::F6::F7::F8::F9::G0::G1::G2::G3::G4::G5::G6::G7::G8::G9::H0::H1::H2::H3::H4::H5::H6::H7::H8::H9::I0::I1::I2::I3::I4::i4'::I6::I7::I8::I9::(dd 82)::(dd 83)::(dd 84)::(dd 85)::(dd 86)::(dd 87)::(dd 88)::(dd 89)::(dd 90)::(dd 91)::(dd 92)::L1::[]) w)) w) w) w) w) :
    leatref29_Put_L1 K (s0::s1::A0::b3::i4::A3::A4::A5::A6::A7::A8::A9::C0::C1::C2::C3::C4::C5::C6::C7::C8::C9::D0::D1::D2::D3::D4::D5::D6::D7::D8::D9::E0::E1::E2::E3::E4::E5::E6::E7::E8::E9::F0::F1::F2::F3::F4::F5::F6::F7::F8::F9::G0::G1::G2::G3::G4::G5::G6::G7::G8::G9::H0::H1::H2::H3::H4::H5::H6::H7::H8::H9::I0::I1::I2::I3::I4::I5::I6::I7::I8::I9::J0::J1::J2::J3::J4::J5::J6::J7::J8::J9::L0::L1::[]) w := by
  refine loop_rule (cd Tryz.f11 [1, 1, 1, 1, 1, 1, 1, 1, 1, 1, 1, 1, 1, 1, 0, 1, 0, 0]) [3, 4, 77, 78, 79, 80, 81, 82, 83, 84, 85, 86, 87, 88, 89, 90, 91, 92] (by kernel_rfl) (fun e2 w2 => Inv (gd e2 3) (gd e2 4) w2) (fun e2 w2 => μ (gd e2 3) (gd e2 4) w2) h0 ?_
  intro e' w' hI
  have h := hs (gd e' 3) (gd e' 4) (fun i => gd e' i) w' _ hI rfl
  have h2 : cCode Tryz.prog (cd Tryz.f11 [1, 1, 1, 1, 1, 1, 1, 1, 1, 1, 1, 1, 1, 1, 0, 1, 0, 0]) (fun e2 w2 => Inv (gd e2 3) (gd e2 4) w2 ∧ μ (gd e2 3) (gd e2 4) w2 < μ (gd e' 3) (gd e' 4) w') (fun i => @Bool.rec (fun _ => KE) ((fun _ _ _ => False) i) (leatref29_Put_P1 K) (Nat.beq i 0)) (retK Tryz.prog Tryz.f11.results.toList K) (s0::s1::A0::(gd e' 3)::(gd e' 4)::A3::A4::A5::A6::A7::A8::A9::C0::C1::C2::C3::C4::C5::C6::C7::C8::C9::D0::D1::D2::D3::D4::D5::D6::D7::D8::D9::E0::E1::E2::E3::E4::E5::E6::E7::E8::E9::F0::F1::F2::F3::F4::F5::F6::F7::F8::F9::G0::G1::G2::G3::G4::G5::G6::G7::G8::G9::H0::H1::H2::H3::H4::H5::H6::H7::H8::H9::I0::I1::I2::I3::I4::(gd e' 77)::(gd e' 78)::(gd e' 79)::(gd e' 80)::(gd e' 81)::(gd e' 82)::(gd e' 83)::(gd e' 84)::(gd e' 85)::(gd e' 86)::(gd e' 87)::(gd e' 88)::(gd e' 89)::(gd e' 90)::(gd e' 91)::(gd e' 92)::L1::[]) w' := leatref29_Put_L1_k (fun e2 w2 => Inv (gd e2 3) (gd e2 4) w2 ∧ μ (gd e2 3) (gd e2 4) w2 < μ (gd e' 3) (gd e' 4) w') (leatref29_Put_P1 K) (Eq.mp (by kernel_rfl) h)
  exact Eq.mp (by kernel_rfl) h2

theorem leatref29_Put_P1_k {K : KV} {w : World}
    (h : K b3 w) :
    cCode Tryz.prog (cd Tryz.f11 [1, 1, 1, 1, 1, 1, 1, 1, 1, 1, 1, 1, 1, 1, 1]) (retK Tryz.prog Tryz.f11.results.toList K) (fun _ _ _ => False) (retK Tryz.prog Tryz.f11.results.toList K) (s0::s1::A0::b3::i4::A3::A4::A5::A6::A7::A8::A9::C0::C1::C2::C3::C4::C5::C6::C7::C8::C9::D0::D1::D2::D3::D4::D5::D6::D7::D8::D9::E0::E1::E2::E3::E4::E5::E6::E7::E8::E9::F0::F1::F2::F3::F4::F5::F6::F7::F8::F9::G0::G1::G2::G3::G4::G5::G6::G7::G8::G9::H0::H1::H2::H3::H4::H5::H6::H7::H8::H9::I0::I1::I2::I3::I4::I5::I6::I7::I8::I9::J0::J1::J2::J3::J4::J5::J6::J7::J8::J9::L0::L1::[]) w := Eq.mp (by kernel_rfl) h

theorem leatref29_Put_P1_r {K : KV} {w : World}
    (h : K b3 w) :
    leatref29_Put_P1 K (s0::s1::A0::b3::i4::A3::A4::A5::A6::A7::A8::A9::C0::C1::C2::C3::C4::C5::C6::C7::C8::C9::D0::D1::D2::D3::D4::D5::D6::D7::D8::D9::E0::E1::E2::E3::E4::E5::E6::E7::E8::E9::F0::F1::F2::F3::F4::F5::F6::F7::F8::F9::G0::G1::G2::G3::G4::G5::G6::G7::G8::G9::H0::H1::H2::H3::H4::H5::H6::H7::H8::H9::I0::I1::I2::I3::I4::I5::I6::I7::I8::I9::J0::J1::J2::J3::J4::J5::J6::J7::J8::J9::L0::L1::[]) w := by
  delta leatref29_Put_P1
  exact Eq.mp (congrArg (fun c => cCode Tryz.prog c (retK Tryz.prog Tryz.f11.results.toList K) (fun _ _ _ => False) (retK Tryz.prog Tryz.f11.results.toList K) (s0::s1::A0::b3::i4::A3::A4::A5::A6::A7::A8::A9::C0::C1::C2::C3::C4::C5::C6::C7::C8::C9::D0::D1::D2::D3::D4::D5::D6::D7::D8::D9::E0::E1::E2::E3::E4::E5::E6::E7::E8::E9::F0::F1::F2::F3::F4::F5::F6::F7::F8::F9::G0::G1::G2::G3::G4::G5::G6::G7::G8::G9::H0::H1::H2::H3::H4::H5::H6::H7::H8::H9::I0::I1::I2::I3::I4::I5::I6::I7::I8::I9::J0::J1::J2::J3::J4::J5::J6::J7::J8::J9::L0::L1::[]) w) (by kernel_rfl : (cd Tryz.f11 [1, 1, 1, 1, 1, 1, 1, 1, 1, 1, 1, 1, 1, 1, 1]) = (cd Tryz.f11 [1, 1, 1, 1, 1, 1, 1, 1, 1, 1, 1, 1, 1, 1, 1]))) (leatref29_Put_P1_k h)
attribute [irreducible] leatref29_Put_A1 leatref29_Put_A2 leatref29_Put_A3 leatref29_Put_P1 leatref29_Put_L1


end
theorem leatref29_reader_next_k {K : KV} {r0 k_1 : Value} {w : World}
    (h : hReg (fun S w =>
    hld S (fun k w => nilC r0 k w) (fun A8 =>
    hld S (fun k w => fldA Tryz.prog 80 A8 0 k w) (fun A9 =>
    hld S (fun k w => ld Tryz.prog 28 A9 k w) (fun C0 =>
    hld S (fun k w => nilC r0 k w) (fun C2 =>
    hld S (fun k w => fldA Tryz.prog 80 C2 1 k w) (fun C3 =>
    hld S (fun k w => ld Tryz.prog 3 C3 k w) (fun C4 =>
    call Tryz.prog 46 #[C0, C4, k_1] (fun C6 w =>
    hReg (fun S w =>
    hld S (fun k w => ext Tryz.prog C6 0 k w) (fun C7 =>
    hld S (fun k w => ext Tryz.prog C6 1 k w) (fun C8 =>
    hld S (fun k w => ext Tryz.prog C6 2 k w) (fun C9 =>
    nilC r0 (fun D1 w =>
    fldA Tryz.prog 80 D1 2 (fun D2 w =>
    ld Tryz.prog 4 D2 (fun D3 w =>
    gsel D3 false (fun k27 =>
    bin Tryz.prog BinOp.neq 34 false true C9 (Value.int IntKind.i64 0) (fun D6 w =>
    k27 [C9, D6] w) w)
    (fun k => k [undef, undef] w) (fun us27 w =>
    pick D3 (Value.bool true) (gd us27 1) (fun D7 w =>
    cond D7
      (nilC r0 (fun D9 w =>
      fldA Tryz.prog 80 D9 2 (fun E0 w =>
      sto Tryz.prog 4 E0 (Value.bool true) (fun _t w =>
      K (Value.int IntKind.u64 0) w) w) w) w)
      (nilC r0 (fun E3 w =>
    fldA Tryz.prog 80 E3 1 (fun E4 w =>
    sto Tryz.prog 3 E4 C8 (fun _t w =>
    K C7 w) w) w) w)) w)) w) w) w)))) w) w))))))) w.drew) :
    cCode Tryz.prog (cd Tryz.f31 []) (retK Tryz.prog Tryz.f31.results.toList K) (fun _ _ _ => False) (retK Tryz.prog Tryz.f31.results.toList K) [r0, k_1, undef, undef, undef, undef, undef, undef, undef, undef, undef, undef, undef, undef, undef, undef, undef, undef, undef, undef, undef, undef, undef, undef, undef, undef, undef, undef, undef, undef, undef, undef, undef, undef, undef, undef, undef, undef] w := Eq.mp (by kernel_rfl) h

theorem leatref29_reader_next_in {K : KV} {r0 k_1 : Value} {w : World}
    (h : hReg (fun S w =>
    hld S (fun k w => nilC r0 k w) (fun A8 =>
    hld S (fun k w => fldA Tryz.prog 80 A8 0 k w) (fun A9 =>
    hld S (fun k w => ld Tryz.prog 28 A9 k w) (fun C0 =>
    hld S (fun k w => nilC r0 k w) (fun C2 =>
    hld S (fun k w => fldA Tryz.prog 80 C2 1 k w) (fun C3 =>
    hld S (fun k w => ld Tryz.prog 3 C3 k w) (fun C4 =>
    call Tryz.prog 46 #[C0, C4, k_1] (fun C6 w =>
    hReg (fun S w =>
    hld S (fun k w => ext Tryz.prog C6 0 k w) (fun C7 =>
    hld S (fun k w => ext Tryz.prog C6 1 k w) (fun C8 =>
    hld S (fun k w => ext Tryz.prog C6 2 k w) (fun C9 =>
    nilC r0 (fun D1 w =>
    fldA Tryz.prog 80 D1 2 (fun D2 w =>
    ld Tryz.prog 4 D2 (fun D3 w =>
    gsel D3 false (fun k27 =>
    bin Tryz.prog BinOp.neq 34 false true C9 (Value.int IntKind.i64 0) (fun D6 w =>
    k27 [C9, D6] w) w)
    (fun k => k [undef, undef] w) (fun us27 w =>
    pick D3 (Value.bool true) (gd us27 1) (fun D7 w =>
    cond D7
      (nilC r0 (fun D9 w =>
      fldA Tryz.prog 80 D9 2 (fun E0 w =>
      sto Tryz.prog 4 E0 (Value.bool true) (fun _t w =>
      K (Value.int IntKind.u64 0) w) w) w) w)
      (nilC r0 (fun E3 w =>
    fldA Tryz.prog 80 E3 1 (fun E4 w =>
    sto Tryz.prog 3 E4 C8 (fun _t w =>
    K C7 w) w) w) w)) w)) w) w) w)))) w) w))))))) w.drew) :
    Gives Tryz.prog 31 #[r0, k_1] w K := enter' Tryz.func31 (by kernel_rfl) (Eq.mp (congrArg (fun c => cCode Tryz.prog c (retK Tryz.prog Tryz.f31.results.toList K) (fun _ _ _ => False) (retK Tryz.prog Tryz.f31.results.toList K) [r0, k_1, undef, undef, undef, undef, undef, undef, undef, undef, undef, undef, undef, undef, undef, undef, undef, undef, undef, undef, undef, undef, undef, undef, undef, undef, undef, undef, undef, undef, undef, undef, undef, undef, undef, undef, undef, undef] w) (by kernel_rfl : (cd Tryz.f31 []) = (cd Tryz.f31 []))) (leatref29_reader_next_k h))
theorem leatref29_reader_next_go : isGo Tryz.prog 31 := ⟨_, Tryz.func31, by kernel_rfl, by kernel_rfl⟩

def leatref29_Get_A1 (K : KV) : KE := cCode Tryz.prog (cd Tryz.f13 [1, 1, 1, 1, 1, 1]) (retK Tryz.prog Tryz.f13.results.toList K) (fun _ _ _ => False) (retK Tryz.prog Tryz.f13.results.toList K)
def leatref29_Get_A2 (K : KV) : KE := cCode Tryz.prog (cd Tryz.f13 [1, 1, 1, 1, 1, 1, 1, 1, 1, 1, 1]) (retK Tryz.prog Tryz.f13.results.toList K) (fun _ _ _ => False) (retK Tryz.prog Tryz.f13.results.toList K)
def leatref29_Get_P1 (K : KV) : KE := cCode Tryz.prog (cd Tryz.f13 [1, 1, 1, 1, 1, 1, 1, 1, 1, 1, 1, 1, 1, 1, 1]) (retK Tryz.prog Tryz.f13.results.toList K) (fun _ _ _ => False) (retK Tryz.prog Tryz.f13.results.toList K)
def leatref29_Get_L1 (K : KV) : KE := cCode Tryz.prog (cd Tryz.f13 [1, 1, 1, 1, 1, 1, 1, 1, 1, 1, 1, 1, 1, 1, 0, 1, 0]) (leatref29_Get_P1 K) (fun i => @Bool.rec (fun _ => KE) ((fun _ _ _ => False) i) (leatref29_Get_P1 K) (Nat.beq i 0)) (retK Tryz.prog Tryz.f13.results.toList K)
theorem leatref29_Get_k {K : KV} (xc0 : Code) {b0 : Value} {w : World}
    (h : alc Tryz.prog 27 (fun A0 w =>
    bld Tryz.prog 80 #[(0, b0)] (fun A7 w =>
    box Tryz.prog 80 A7 (fun A8 w =>
    call Tryz.prog 31 #[A8, (Value.int IntKind.i64 1)] (fun C0 w =>
    conv Tryz.prog 22 5 C0 (fun C1 w =>
    bld Tryz.prog 27 #[(0, C1)] (fun C2 w =>
    alc Tryz.prog 27 (fun s5 w =>
    sto Tryz.prog 27 s5 C2 (fun _t w =>
    call Tryz.prog 31 #[A8, (Value.int IntKind.i64 2)] (fun C4 w =>
    conv Tryz.prog 22 3 C4 (fun C5 w =>
    bin Tryz.prog BinOp.sub 3 false true C5 (Value.int IntKind.i64 1) (fun C6 w =>
    fldA Tryz.prog 27 s5 1 (fun C7 w =>
    sto Tryz.prog 3 C7 C6 (fun _t w =>
    call Tryz.prog 31 #[A8, (Value.int IntKind.i64 2)] (fun C9 w =>
    conv Tryz.prog 22 3 C9 (fun D0 w =>
    bin Tryz.prog BinOp.sub 3 false true D0 (Value.int IntKind.i64 1) (fun D1 w =>
    fldA Tryz.prog 27 s5 4 (fun D2 w =>
    sto Tryz.prog 3 D2 D1 (fun _t w =>
    call Tryz.prog 31 #[A8, (Value.int IntKind.i64 2)] (fun D4 w =>
    conv Tryz.prog 22 3 D4 (fun D5 w =>
    bin Tryz.prog BinOp.sub 3 false true D5 (Value.int IntKind.i64 1) (fun D6 w =>
    fldA Tryz.prog 27 s5 3 (fun D7 w =>
    sto Tryz.prog 3 D7 D6 (fun _t w =>
    (cCode Tryz.prog xc0 (retK Tryz.prog Tryz.f13.results.toList K) (fun _ _ _ => False) (retK Tryz.prog Tryz.f13.results.toList K)) (b0::undef::A0::(Value.int IntKind.i64 0)::A8::s5::undef::undef::b0::A7::A8::A8::C0::C1::C2::A8::C4::C5::C6::C7::A8::C9::D0::D1::D2::A8::D4::D5::D6::D7::undef::undef::undef::undef::undef::undef::undef::undef::undef::undef::undef::undef::undef::undef::undef::undef::undef::undef::undef::undef::undef::undef::undef::undef::undef::undef::undef::undef::undef::undef::undef::undef::undef::undef::undef::undef::undef::undef::undef::undef::undef::undef::undef::undef::undef::undef::undef::undef::undef::undef::undef::undef::undef::undef::undef::undef::undef::undef::undef::undef::undef::undef::undef::undef::undef::undef::undef::undef::undef::undef::undef::undef::undef::undef::undef::undef::undef::[]) w) w) w) w) w) w) w) w) w) w) w) w) w) w) w) w) w) w) w) w) w) w) w) w) :
    cCode Tryz.prog (rep [1, 1, 1, 1, 1, 1] xc0 (cd Tryz.f13 [])) (retK Tryz.prog Tryz.f13.results.toList K) (fun _ _ _ => False) (retK Tryz.prog Tryz.f13.results.toList K) (b0::undef::undef::undef::undef::undef::undef::undef::undef::undef::undef::undef::undef::undef::undef::undef::undef::undef::undef::undef::undef::undef::undef::undef::undef::undef::undef::undef::undef::undef::undef::undef::undef::undef::undef::undef::undef::undef::undef::undef::undef::undef::undef::undef::undef::undef::undef::undef::undef::undef::undef::undef::undef::undef::undef::undef::undef::undef::undef::undef::undef::undef::undef::undef::undef::undef::undef::undef::undef::undef::undef::undef::undef::undef::undef::undef::undef::undef::undef::undef::undef::undef::undef::undef::undef::undef::undef::undef::undef::undef::undef::undef::undef::undef::undef::undef::undef::undef::undef::undef::undef::undef::undef::undef::undef::undef::undef::[]) w := Eq.mp (by kernel_rfl) h

theorem leatref29_Get_in {K : KV} {b0 : Value} {w : World}
    (h : alc Tryz.prog 27 (fun A0 w =>
    bld Tryz.prog 80 #[(0, b0)] (fun A7 w =>
    box Tryz.prog 80 A7 (fun A8 w =>
    call Tryz.prog 31 #[A8, (Value.int IntKind.i64 1)] (fun C0 w =>
    conv Tryz.prog 22 5 C0 (fun C1 w =>
    bld Tryz.prog 27 #[(0, C1)] (fun C2 w =>
    alc Tryz.prog 27 (fun s5 w =>
    sto Tryz.prog 27 s5 C2 (fun _t w =>
    call Tryz.prog 31 #[A8, (Value.int IntKind.i64 2)] (fun C4 w =>
    conv Tryz.prog 22 3 C4 (fun C5 w =>
    bin Tryz.prog BinOp.sub 3 false true C5 (Value.int IntKind.i64 1) (fun C6 w =>
    fldA Tryz.prog 27 s5 1 (fun C7 w =>
    sto Tryz.prog 3 C7 C6 (fun _t w =>
    call Tryz.prog 31 #[A8, (Value.int IntKind.i64 2)] (fun C9 w =>
    conv Tryz.prog 22 3 C9 (fun D0 w =>
    bin Tryz.prog BinOp.sub 3 false true D0 (Value.int IntKind.i64 1) (fun D1 w =>
    fldA Tryz.prog 27 s5 4 (fun D2 w =>
    sto Tryz.prog 3 D2 D1 (fun _t w =>
    call Tryz.prog 31 #[A8, (Value.int IntKind.i64 2)] (fun D4 w =>
    conv Tryz.prog 22 3 D4 (fun D5 w =>
    bin Tryz.prog BinOp.sub 3 false true D5 (Value.int IntKind.i64 1) (fun D6 w =>
    fldA Tryz.prog 27 s5 3 (fun D7 w =>
    sto Tryz.prog 3 D7 D6 (fun _t w =>
    (leatref29_Get_A1 K) (b0::undef::A0::(Value.int IntKind.i64 0)::A8::s5::undef::undef::b0::A7::A8::A8::C0::C1::C2::A8::C4::C5::C6::C7::A8::C9::D0::D1::D2::A8::D4::D5::D6::D7::undef::undef::undef::undef::undef::undef::undef::undef::undef::undef::undef::undef::undef::undef::undef::undef::undef::undef::undef::undef::undef::undef::undef::undef::undef::undef::undef::undef::undef::undef::undef::undef::undef::undef::undef::undef::undef::undef::undef::undef::undef::undef::undef::undef::undef::undef::undef::undef::undef::undef::undef::undef::undef::undef::undef::undef::undef::undef::undef::undef::undef::undef::undef::undef::undef::undef::undef::undef::undef::undef::undef::undef::undef::undef::undef::undef::undef::[]) w) w) w) w) w) w) w) w) w) w) w) w) w) w) w) w) w) w) w) w) w) w) w) w) :
    Gives Tryz.prog 13 #[b0] w K := enter' Tryz.func13 (by kernel_rfl) (Eq.mp (congrArg (fun c => cCode Tryz.prog c (retK Tryz.prog Tryz.f13.results.toList K) (fun _ _ _ => False) (retK Tryz.prog Tryz.f13.results.toList K) (b0::undef::undef::undef::undef::undef::undef::undef::undef::undef::undef::undef::undef::undef::undef::undef::undef::undef::undef::undef::undef::undef::undef::undef::undef::undef::undef::undef::undef::undef::undef::undef::undef::undef::undef::undef::undef::undef::undef::undef::undef::undef::undef::undef::undef::undef::undef::undef::undef::undef::undef::undef::undef::undef::undef::undef::undef::undef::undef::undef::undef::undef::undef::undef::undef::undef::undef::undef::undef::undef::undef::undef::undef::undef::undef::undef::undef::undef::undef::undef::undef::undef::undef::undef::undef::undef::undef::undef::undef::undef::undef::undef::undef::undef::undef::undef::undef::undef::undef::undef::undef::undef::undef::undef::undef::undef::undef::[]) w) (by kernel_rfl : (rep [1, 1, 1, 1, 1, 1] (cd Tryz.f13 [1, 1, 1, 1, 1, 1]) (cd Tryz.f13 [])) = (cd Tryz.f13 []))) (leatref29_Get_k (cd Tryz.f13 [1, 1, 1, 1, 1, 1]) h))
theorem leatref29_Get_go : isGo Tryz.prog 13 := ⟨_, Tryz.func13, by kernel_rfl, by kernel_rfl⟩

section
variable {b0 b1 A0 A1 r4 s5 n6 i7 A6 A7 A8 A9 C0 C1 C2 C3 C4 C5 C6 C7 C8 C9 D0 D1 D2 D3 D4 D5 D6 D7 D8 D9 E0 E1 E2 E3 E4 E5 E6 E7 E8 E9 F0 F1 F2 F3 F4 F5 F6 F7 F8 F9 G0 G1 G2 G3 G4 G5 G6 G7 G8 G9 H0 H1 H2 H3 H4 H5 H6 H7 H8 H9 I0 I1 I2 I3 I4 I5 I6 I7 I8 I9 J0 J1 J2 J3 J4 J5 J6 J7 J8 J9 L0 L1 L2 L3 L4 L5 L6 L7 L8 L9 M0 M1 M2 M3 M4 : Value}
theorem leatref29_Get_A1_k {K : KV} (xc0 : Code) {w : World}
    (h : call Tryz.prog 31 #[r4, (Value.int IntKind.i64 4)] (fun D9 w =>
    conv Tryz.prog 22 3 D9 (fun E0 w =>
    bin Tryz.prog BinOp.sub 3 false true E0 (Value.int IntKind.i64 1) (fun E1 w =>
    fldA Tryz.prog 27 s5 5 (fun E2 w =>
    sto Tryz.prog 3 E2 E1 (fun _t w =>
    call Tryz.prog 31 #[r4, (Value.int IntKind.i64 1)] (fun E4 w =>
    conv Tryz.prog 22 5 E4 (fun E5 w =>
    fldA Tryz.prog 27 s5 2 (fun E6 w =>
    fldA Tryz.prog 24 E6 0 (fun E7 w =>
    sto Tryz.prog 5 E7 E5 (fun _t w =>
    call Tryz.prog 31 #[r4, (Value.int IntKind.i64 8)] (fun E9 w =>
    fldA Tryz.prog 27 s5 2 (fun F0 w =>
    fldA Tryz.prog 24 F0 1 (fun F1 w =>
    sto Tryz.prog 22 F1 E9 (fun _t w =>
    call Tryz.prog 31 #[r4, (Value.int IntKind.i64 2)] (fun F3 w =>
    conv Tryz.prog 22 3 F3 (fun F4 w =>
    bin Tryz.prog BinOp.sub 3 false true F4 (Value.int IntKind.i64 1) (fun F5 w =>
    fldA Tryz.prog 27 s5 2 (fun F6 w =>
    fldA Tryz.prog 24 F6 2 (fun F7 w =>
    sto Tryz.prog 3 F7 F5 (fun _t w =>
    call Tryz.prog 31 #[r4, (Value.int IntKind.i64 8)] (fun F9 w =>
    bin Tryz.prog BinOp.sub 22 false true F9 (Value.int IntKind.u64 1) (fun G0 w =>
    conv Tryz.prog 22 2 G0 (fun G1 w =>
    fldA Tryz.prog 27 s5 2 (fun G2 w =>
    fldA Tryz.prog 24 G2 3 (fun G3 w =>
    sto Tryz.prog 2 G3 G1 (fun _t w =>
    (cCode Tryz.prog xc0 (retK Tryz.prog Tryz.f13.results.toList K) (fun _ _ _ => False) (retK Tryz.prog Tryz.f13.results.toList K)) (b0::b1::A0::A1::r4::s5::n6::i7::A6::A7::A8::A9::C0::C1::C2::C3::C4::C5::C6::C7::C8::C9::D0::D1::D2::D3::D4::D5::D6::D7::r4::D9::E0::E1::E2::r4::E4::E5::E6::E7::r4::E9::F0::F1::r4::F3::F4::F5::F6::F7::r4::F9::G0::G1::G2::G3::G4::G5::G6::G7::G8::G9::H0::H1::H2::H3::H4::H5::H6::H7::H8::H9::I0::I1::I2::I3::I4::I5::I6::I7::I8::I9::J0::J1::J2::J3::J4::J5::J6::J7::J8::J9::L0::L1::L2::L3::L4::L5::L6::L7::L8::L9::M0::M1::M2::M3::M4::[]) w) w) w) w) w) w) w) w) w) w) w) w) w) w) w) w) w) w) w) w) w) w) w) w) w) w) w) :
    cCode Tryz.prog (rep [1, 1, 1, 1, 1] xc0 (cd Tryz.f13 [1, 1, 1, 1, 1, 1])) (retK Tryz.prog Tryz.f13.results.toList K) (fun _ _ _ => False) (retK Tryz.prog Tryz.f13.results.toList K) (b0::b1::A0::A1::r4::s5::n6::i7::A6::A7::A8::A9::C0::C1::C2::C3::C4::C5::C6::C7::C8::C9::D0::D1::D2::D3::D4::D5::D6::D7::D8::D9::E0::E1::E2::E3::E4::E5::E6::E7::E8::E9::F0::F1::F2::F3::F4::F5::F6::F7::F8::F9::G0::G1::G2::G3::G4::G5::G6::G7::G8::G9::H0::H1::H2::H3::H4::H5::H6::H7::H8::H9::I0::I1::I2::I3::I4::I5::I6::I7::I8::I9::J0::J1::J2::J3::J4::J5::J6::J7::J8::J9::L0::L1::L2::L3::L4::L5::L6::L7::L8::L9::M0::M1::M2::M3::M4::[]) w := Eq.mp (by kernel_rfl) h

theorem leatref29_Get_A1_r {K : KV} {w : World}
    (h : call Tryz.prog 31 #[r4, (Value.int IntKind.i64 4)] (fun D9 w =>
    conv Tryz.prog 22 3 D9 (fun E0 w =>
    bin Tryz.prog BinOp.sub 3 false true E0 (Value.int IntKind.i64 1) (fun E1 w =>
    fldA Tryz.prog 27 s5 5 (fun E2 w =>
    sto Tryz.prog 3 E2 E1 (fun _t w =>
    call Tryz.prog 31 #[r4, (Value.int IntKind.i64 1)] (fun E4 w =>
    conv Tryz.prog 22 5 E4 (fun E5 w =>
    fldA Tryz.prog 27 s5 2 (fun E6 w =>
    fldA Tryz.prog 24 E6 0 (fun E7 w =>
    sto Tryz.prog 5 E7 E5 (fun _t w =>
    call Tryz.prog 31 #[r4, (Value.int IntKind.i64 8)] (fun E9 w =>
    fldA Tryz.prog 27 s5 2 (fun F0 w =>
    fldA Tryz.prog 24 F0 1 (fun F1 w =>
    sto Tryz.prog 22 F1 E9 (fun _t w =>
    call Tryz.prog 31 #[r4, (Value.int IntKind.i64 2)] (fun F3 w =>
    conv Tryz.prog 22 3 F3 (fun F4 w =>
    bin Tryz.prog BinOp.sub 3 false true F4 (Value.int IntKind.i64 1) (fun F5 w =>
    fldA Tryz.prog 27 s5 2 (fun F6 w =>
    fldA Tryz.prog 24 F6 2 (fun F7 w =>
    sto Tryz.prog 3 F7 F5 (fun _t w =>
    call Tryz.prog 31 #[r4, (Value.int IntKind.i64 8)] (fun F9 w =>
    bin Tryz.prog BinOp.sub 22 false true F9 (Value.int IntKind.u64 1) (fun G0 w =>
    conv Tryz.prog 22 2 G0 (fun G1 w =>
    fldA Tryz.prog 27 s5 2 (fun G2 w =>
    fldA Tryz.prog 24 G2 3 (fun G3 w =>
    sto Tryz.prog 2 G3 G1 (fun _t w =>
    (leatref29_Get_A2 K) (b0::b1::A0::A1::r4::s5::n6::i7::A6::A7::A8::A9::C0::C1::C2::C3::C4::C5::C6::C7::C8::C9::D0::D1::D2::D3::D4::D5::D6::D7::r4::D9::E0::E1::E2::r4::E4::E5::E6::E7::r4::E9::F0::F1::r4::F3::F4::F5::F6::F7::r4::F9::G0::G1::G2::G3::G4::G5::G6::G7::G8::G9::H0::H1::H2::H3::H4::H5::H6::H7::H8::H9::I0::I1::I2::I3::I4::I5::I6::I7::I8::I9::J0::J1::J2::J3::J4::J5::J6::J7::J8::J9::L0::L1::L2::L3::L4::L5::L6::L7::L8::L9::M0::M1::M2::M3::M4::[]) w) w) w) w) w) w) w) w) w) w) w) w) w) w) w) w) w) w) w) w) w) w) w) w) w) w) w) :
    leatref29_Get_A1 K (b0::b1::A0::A1::r4::s5::n6::i7::A6::A7::A8::A9::C0::C1::C2::C3::C4::C5::C6::C7::C8::C9::D0::D1::D2::D3::D4::D5::D6::D7::D8::D9::E0::E1::E2::E3::E4::E5::E6::E7::E8::E9::F0::F1::F2::F3::F4::F5::F6::F7::F8::F9::G0::G1::G2::G3::G4::G5::G6::G7::G8::G9::H0::H1::H2::H3::H4::H5::H6::H7::H8::H9::I0::I1::I2::I3::I4::I5::I6::I7::I8::I9::J0::J1::J2::J3::J4::J5::J6::J7::J8::J9::L0::L1::L2::L3::L4::L5::L6::L7::L8::L9::M0::M1::M2::M3::M4::[]) w := by
  delta leatref29_Get_A1
  exact Eq.mp (congrArg (fun c => cCode Tryz.prog c (retK Tryz.prog Tryz.f13.results.toList K) (fun _ _ _ => False) (retK Tryz.prog Tryz.f13.results.toList K) (b0::b1::A0::A1::r4::s5::n6::i7::A6::A7::A8::A9::C0::C1::C2::C3::C4::C5::C6::C7::C8::C9::D0::D1::D2::D3::D4::D5::D6::D7::D8::D9::E0::E1::E2::E3::E4::E5::E6::E7::E8::E9::F0::F1::F2::F3::F4::F5::F6::F7::F8::F9::G0::G1::G2::G3::G4::G5::G6::G7::G8::G9::H0::H1::H2::H3::H4::H5::H6::H7::H8::H9::I0::I1::I2::I3::I4::I5::I6::I7::I8::I9::J0::J1::J2::J3::J4::J5::J6::J7::J8::J9::L0::L1::L2::L3::L4::L5::L6::L7::L8::L9::M0::M1::M2::M3::M4::[]) w) (by kernel_rfl : (rep [1, 1, 1, 1, 1] (cd Tryz.f13 [1, 1, 1, 1, 1, 1, 1, 1, 1, 1, 1]) (cd Tryz.f13 [1, 1, 1, 1, 1, 1])) = (cd Tryz.f13 [1, 1, 1, 1, 1, 1]))) (leatref29_Get_A1_k (cd Tryz.f13 [1, 1, 1, 1, 1, 1, 1, 1, 1, 1, 1]) h)

theorem leatref29_Get_A2_k {K : KV} {w : World}
    (h : call Tryz.prog 31 #[r4, (Value.int IntKind.i64 8)] (fun G5 w =>
    fldA Tryz.prog 27 s5 2 (fun G6 w =>
    fldA Tryz.prog 24 G6 4 (fun G7 w =>
    sto Tryz.prog 22 G7 G5 (fun _t w =>
    call Tryz.prog 31 #[r4, (Value.int IntKind.i64 8)] (fun G9 w =>
    fldA Tryz.prog 27 s5 2 (fun H0 w =>
    fldA Tryz.prog 24 H0 5 (fun H1 w =>
    sto Tryz.prog 22 H1 G9 (fun _t w =>
    call Tryz.prog 31 #[r4, (Value.int IntKind.i64 1)] (fun H3 w =>
    conv Tryz.prog 22 3 H3 (fun H4 w =>
    (cCode Tryz.prog (cd Tryz.f13 [1, 1, 1, 1, 1, 1, 1, 1, 1, 1, 1, 1, 1, 1, 0, 1, 0]) (cCode Tryz.prog (cd Tryz.f13 [1, 1, 1, 1, 1, 1, 1, 1, 1, 1, 1, 1, 1, 1, 1]) (retK Tryz.prog Tryz.f13.results.toList K) (fun _ _ _ => False) (retK Tryz.prog Tryz.f13.results.toList K)) (fun i => @Bool.rec (fun _ => KE) ((fun _ _ _ => False) i) (cCode Tryz.prog (cd Tryz.f13 [1, 1, 1, 1, 1, 1, 1, 1, 1, 1, 1, 1, 1, 1, 1]) (retK Tryz.prog Tryz.f13.results.toList K) (fun _ _ _ => False) (retK Tryz.prog Tryz.f13.results.toList K)) (Nat.beq i 0)) (retK Tryz.prog Tryz.f13.results.toList K)) (b0::b1::A0::A1::r4::s5::H4::(Value.int IntKind.i64 0)::A6::A7::A8::A9::C0::C1::C2::C3::C4::C5::C6::C7::C8::C9::D0::D1::D2::D3::D4::D5::D6::D7::D8::D9::E0::E1::E2::E3::E4::E5::E6::E7::E8::E9::F0::F1::F2::F3::F4::F5::F6::F7::F8::F9::G0::G1::G2::G3::r4::G5::G6::G7::r4::G9::H0::H1::r4::H3::H4::H5::H6::H7::H8::H9::I0::I1::I2::I3::I4::I5::I6::I7::I8::I9::J0::J1::J2::J3::J4::J5::J6::J7::J8::J9::L0::L1::L2::L3::L4::L5::L6::L7::L8::L9::M0::M1::M2::M3::M4::[]) w) w) w) w) w) w) w) w) w) w) w) :
    cCode Tryz.prog (cd Tryz.f13 [1, 1, 1, 1, 1, 1, 1, 1, 1, 1, 1]) (retK Tryz.prog Tryz.f13.results.toList K) (fun _ _ _ => False) (retK Tryz.prog Tryz.f13.results.toList K) (b0::b1::A0::A1::r4::s5::n6::i7::A6::A7::A8::A9::C0::C1::C2::C3::C4::C5::C6::C7::C8::C9::D0::D1::D2::D3::D4::D5::D6::D7::D8::D9::E0::E1::E2::E3::E4::E5::E6::E7::E8::E9::F0::F1::F2::F3::F4::F5::F6::F7::F8::F9::G0::G1::G2::G3::G4::G5::G6::G7::G8::G9::H0::H1::H2::H3::H4::H5::H6::H7::H8::H9::I0::I1::I2::I3::I4::I5::I6::I7::I8::I9::J0::J1::J2::J3::J4::J5::J6::J7::J8::J9::L0::L1::L2::L3::L4::L5::L6::L7::L8::L9::M0::M1::M2::M3::M4::[]) w := Eq.mp (by kernel_rfl) h

theorem leatref29_Get_A2_r {K : KV} {w : World}
    (h : call Tryz.prog 31 #[r4, (Value.int IntKind.i64 8)] (fun G5 w =>
    fldA Tryz.prog 27 s5 2 (fun G6 w =>
    fldA Tryz.prog 24 G6 4 (fun G7 w =>
    sto Tryz.prog 22 G7 G5 (fun _t w =>
    call Tryz.prog 31 #[r4, (Value.int IntKind.i64 8)] (fun G9 w =>
    fldA Tryz.prog 27 s5 2 (fun H0 w =>
    fldA Tryz.prog 24 H0 5 (fun H1 w =>
    sto Tryz.prog 22 H1 G9 (fun _t w =>
    call Tryz.prog 31 #[r4, (Value.int IntKind.i64 1)] (fun H3 w =>
    conv Tryz.prog 22 3 H3 (fun H4 w =>
    (leatref29_Get_L1 K) (b0::b1::A0::A1::r4::s5::H4::(Value.int IntKind.i64 0)::A6::A7::A8::A9::C0::C1::C2::C3::C4::C5::C6::C7::C8::C9::D0::D1::D2::D3::D4::D5::D6::D7::D8::D9::E0::E1::E2::E3::E4::E5::E6::E7::E8::E9::F0::F1::F2::F3::F4::F5::F6::F7::F8::F9::G0::G1::G2::G3::r4::G5::G6::G7::r4::G9::H0::H1::r4::H3::H4::H5::H6::H7::H8::H9::I0::I1::I2::I3::I4::I5::I6::I7::I8::I9::J0::J1::J2::J3::J4::J5::J6::J7::J8::J9::L0::L1::L2::L3::L4::L5::L6::L7::L8::L9::M0::M1::M2::M3::M4::[]) w) w) w) w) w) w) w) w) w) w) w) :
    leatref29_Get_A2 K (b0::b1::A0::A1::r4::s5::n6::i7::A6::A7::A8::A9::C0::C1::C2::C3::C4::C5::C6::C7::C8::C9::D0::D1::D2::D3::D4::D5::D6::D7::D8::D9::E0::E1::E2::E3::E4::E5::E6::E7::E8::E9::F0::F1::F2::F3::F4::F5::F6::F7::F8::F9::G0::G1::G2::G3::G4::G5::G6::G7::G8::G9::H0::H1::H2::H3::H4::H5::H6::H7::H8::H9::I0::I1::I2::I3::I4::I5::I6::I7::I8::I9::J0::J1::J2::J3::J4::J5::J6::J7::J8::J9::L0::L1::L2::L3::L4::L5::L6::L7::L8::L9::M0::M1::M2::M3::M4::[]) w := by
  delta leatref29_Get_A2
  exact Eq.mp (congrArg (fun c => cCode Tryz.prog c (retK Tryz.prog Tryz.f13.results.toList K) (fun _ _ _ => False) (retK Tryz.prog Tryz.f13.results.toList K) (b0::b1::A0::A1::r4::s5::n6::i7::A6::A7::A8::A9::C0::C1::C2::C3::C4::C5::C6::C7::C8::C9::D0::D1::D2::D3::D4::D5::D6::D7::D8::D9::E0::E1::E2::E3::E4::E5::E6::E7::E8::E9::F0::F1::F2::F3::F4::F5::F6::F7::F8::F9::G0::G1::G2::G3::G4::G5::G6::G7::G8::G9::H0::H1::H2::H3::H4::H5::H6::H7::H8::H9::I0::I1::I2::I3::I4::I5::I6::I7::I8::I9::J0::J1::J2::J3::J4::J5::J6::J7::J8::J9::L0::L1::L2::L3::L4::L5::L6::L7::L8::L9::M0::M1::M2::M3::M4::[]) w) (by kernel_rfl : (cd Tryz.f13 [1, 1, 1, 1, 1, 1, 1, 1, 1, 1, 1]) = (cd Tryz.f13 [1, 1, 1, 1, 1, 1, 1, 1, 1, 1, 1]))) (leatref29_Get_A2_k h)

end
theorem leatref29_Get_L1_k {K : KV} (B1 : KE) (qc0 : KE) {b0 b1 A0 A1 r4 s5 n6 i7' A6 A7 A8 A9 C0 C1 C2 C3 C4 C5 C6 C7 C8 C9 D0 D1 D2 D3 D4 D5 D6 D7 D8 D9 E0 E1 E2 E3 E4 E5 E6 E7 E8 E9 F0 F1 F2 F3 F4 F5 F6 F7 F8 F9 G0 G1 G2 G3 G4 G5 G6 G7 G8 G9 H0 H1 H2 H3 H4 H9' I0' I1' I2' I3' J6 J7 J8 J9 L0 L1 L2 L3 L4 L5 L6 L7 L8 L9 M0 M1 M2 M3 M4 : Value} {dd : Nat → Value} {w : World}
    (h : bin Tryz.prog BinOp.lss 3 false false i7' n6 (fun H7 w =>
    gsel H7 true (fun k71 =>
    nilC r4 (fun I0 w =>
    fldA Tryz.prog 80 I0 2 (fun I1 w =>
    ld Tryz.prog 4 I1 (fun I2 w =>
    un Tryz.prog UnOp.not I2 (fun I3 w =>
    k71 [r4, I0, I1, I2, I3] w) w) w) w) w)
    (fun k => k [undef, undef, undef, undef, undef] w) (fun us71 w =>
    pick H7 (gd us71 4) (Value.bool false) (fun I4 w =>
    cond I4
      (hReg (fun S w =>
    hld S (fun k w => fldA Tryz.prog 27 s5 6 k w) (fun I7 =>
    hld S (fun k w => ld Tryz.prog 25 I7 k w) (fun I8 =>
    call Tryz.prog 31 #[r4, (Value.int IntKind.i64 1)] (fun J0 w =>
    hSub S (fun S w =>
    hld S (fun k w => conv Tryz.prog 22 3 J0 k w) (fun J1 =>
    hld (fun _ => True) (fun k w => bin Tryz.prog BinOp.sub 3 false true J1 (Value.int IntKind.i64 1) k w) (fun J2 =>
    bldS Tryz.prog 25 1 #[(0, J2)] (fun J3 w =>
    hSub S (fun S w =>
    blt Tryz.prog Builtin.append #[25, 25] 25 #[false, false] #[I8, J3] (fun J4 w =>
    hReg (fun S w =>
    hld S (fun k w => fldA Tryz.prog 27 s5 6 k w) (fun J5 =>
    sto Tryz.prog 25 J5 J4 (fun _t w =>
    bin Tryz.prog BinOp.add 3 false true i7' (Value.int IntKind.i64 1) (fun I6 w =>
    B1 (b0::b1::A0::A1::r4::s5::n6::I6::A6::A7::A8::A9::C0::C1::C2::C3::C4::C5::C6::C7::C8::C9::D0::D1::D2::D3::D4::D5::D6::D7::D8::D9::E0::E1::E2::E3::E4::E5::E6::E7::E8::E9::F0::F1::F2::F3::F4::F5::F6::F7::F8::F9::G0::G1::G2::G3::G4::G5::G6::G7::G8::G9::H0::H1::H2::H3::H4::i7'::n6::H7::H7::(gd us71 0)::(gd us71 1)::(gd us71 2)::(gd us71 3)::(gd us71 4)::I4::i7'::I6::I7::I8::r4::J0::J1::J2::J3::J4::J5::J6::J7::J8::J9::L0::L1::L2::L3::L4::L5::L6::L7::L8::L9::M0::M1::M2::M3::M4::[]) w) w) w)) w) w) w) w))) w) w))) w.drew)
      (qc0 (b0::b1::A0::A1::r4::s5::n6::i7'::A6::A7::A8::A9::C0::C1::C2::C3::C4::C5::C6::C7::C8::C9::D0::D1::D2::D3::D4::D5::D6::D7::D8::D9::E0::E1::E2::E3::E4::E5::E6::E7::E8::E9::F0::F1::F2::F3::F4::F5::F6::F7::F8::F9::G0::G1::G2::G3::G4::G5::G6::G7::G8::G9::H0::H1::H2::H3::H4::i7'::n6::H7::H7::(gd us71 0)::(gd us71 1)::(gd us71 2)::(gd us71 3)::(gd us71 4)::I4::(dd 77)::(dd 78)::(dd 79)::(dd 80)::(dd 81)::(dd 82)::(dd 83)::(dd 84)::(dd 85)::(dd 86)::(dd 87)::J6::J7::J8::J9::L0::L1::L2::L3::L4::L5::L6::L7::L8::L9::M0::M1::M2::M3::M4::[]) w)) w)) w) :
    cCode Tryz.prog (cd Tryz.f13 [1, 1, 1, 1, 1, 1, 1, 1, 1, 1, 1, 1, 1, 1, 0, 1, 0, 0]) B1 (fun i => @Bool.rec (fun _ => KE) ((fun _ _ _ => False) i) qc0 (Nat.beq i 0)) (retK Tryz.prog Tryz.f13.results.toList K) (b0::b1::A0::A1::r4::s5::n6::i7'::A6::A7::A8::A9::C0::C1::C2::C3::C4::C5::C6::C7::C8::C9::D0::D1::D2::D3::D4::D5::D6::D7::D8::D9::E0::E1::E2::E3::E4::E5::E6::E7::E8::E9::F0::F1::F2::F3::F4::F5::F6::F7::F8::F9::G0::G1::G2::G3::G4::G5::G6::G7::G8::G9::H0::H1::H2::H3::H4::(dd 67)::(dd 68)::(dd 69)::(dd 70)::H9'::I0'::I1'::I2'::I3'::(dd 76)::(dd 77)::(dd 78)::(dd 79)::(dd 80)::(dd 81)::(dd 82)::(dd 83)::(dd 84)::(dd 85)::(dd 86)::(dd 87)::J6::J7::J8::J9::L0::L1::L2::L3::L4::L5::L6::L7::L8::L9::M0::M1::M2::M3::M4::[]) w := Eq.mp (by kernel_rfl) h

section
variable {b0 b1 A0 A1 r4 s5 n6 i7 A6 A7 A8 A9 C0 C1 C2 C3 C4 C5 C6 C7 C8 C9 D0 D1 D2 D3 D4 D5 D6 D7 D8 D9 E0 E1 E2 E3 E4 E5 E6 E7 E8 E9 F0 F1 F2 F3 F4 F5 F6 F7 F8 F9 G0 G1 G2 G3 G4 G5 G6 G7 G8 G9 H0 H1 H2 H3 H4 H5 H6 H7 H8 H9 I0 I1 I2 I3 I4 I5 I6 I7 I8 I9 J0 J1 J2 J3 J4 J5 J6 J7 J8 J9 L0 L1 L2 L3 L4 L5 L6 L7 L8 L9 M0 M1 M2 M3 M4 : Value}
theorem leatref29_Get_L1_r {K : KV} {w : World} (Inv : Value → Value → Value → Value → Value → Value → World → Prop) (μ : Value → Value → Value → Value → Value → Value → World → Nat) (h0 : Inv i7 H9 I0 I1 I2 I3 w)
    (hs : ∀ (i7' H9' I0' I1' I2' I3' : Value) (dd : Nat → Value) (w : World) (m : Nat), Inv i7' H9' I0' I1' I2' I3' w → m = μ i7' H9' I0' I1' I2' I3' w →
    bin Tryz.prog BinOp.lss 3 false false i7' n6 (fun H7 w =>
    gsel H7 true (fun k71 =>
    nilC r4 (fun I0 w =>
    fldA Tryz.prog 80 I0 2 (fun I1 w =>
    ld Tryz.prog 4 I1 (fun I2 w =>
    un Tryz.prog UnOp.not I2 (fun I3 w =>
    k71 [r4, I0, I1, I2, I3] w) w) w) w) w)
    (fun k => k [undef, undef, undef, undef, undef] w) (fun us71 w =>
    pick H7 (gd us71 4) (Value.bool false) (fun I4 w =>
    cond I4
      (hReg (fun S w =>
    hld S (fun k w => fldA Tryz.prog 27 s5 6 k w) (fun I7 =>
    hld S (fun k w => ld Tryz.prog 25 I7 k w) (fun I8 =>
    call Tryz.prog 31 #[r4, (Value.int IntKind.i64 1)] (fun J0 w =>
    hSub S (fun S w =>
    hld S (fun k w => conv Tryz.prog 22 3 J0 k w) (fun J1 =>
    hld (fun _ => True) (fun k w => bin Tryz.prog BinOp.sub 3 false true J1 (Value.int IntKind.i64 1) k w) (fun J2 =>
    bldS Tryz.prog 25 1 #[(0, J2)] (fun J3 w =>
    hSub S (fun S w =>
    blt Tryz.prog Builtin.append #[25, 25] 25 #[false, false] #[I8, J3] (fun J4 w =>
    hReg (fun S w =>
    hld S (fun k w => fldA Tryz.prog 27 s5 6 k w) (fun J5 =>
    sto Tryz.prog 25 J5 J4 (fun _t w =>
    bin Tryz.prog BinOp.add 3 false true i7' (Value.int IntKind.i64 1) (fun I6 w =>
    (Inv I6 (gd us71 0) (gd us71 1) (gd us71 2) (gd us71 3) (gd us71 4) w ∧ μ I6 (gd us71 0) (gd us71 1) (gd us71 2) (gd us71 3) (gd us71 4) w < m)) w) w)) w) w) w) w))) w) w))) w.drew)
      ((leatref29_Get_P1 K) (b0::b1::A0::A1::r4::s5::n6::i7'::A6::A7::A8::A9::C0::C1::C2::C3::C4::C5::C6::C7::C8::C9::D0::D1::D2::D3::D4::D5::D6::D7::D8::D9::E0::E1::E2::E3::E4::E5::E6::E7::E8::E9::F0::F1::F2::F3::F4::F5::F6::F7::F8::F9::G0::G1::G2::G3::G4::G5::G6::G7::G8::G9::H0::H1::H2::H3::H4::i7'::n6::H7::H7::(gd us71 0)::(gd us71 1)::(gd us71 2)::(gd us71 3)::(gd us71 4)::I4::(dd 77)::(dd 78)::(dd 79)::(dd 80)::(dd 81)::(dd 82)::(dd 83)::(dd 84)::(dd 85)::(dd 86)::(dd 87)::J6::J7::J8::J9::L0::L1::L2::L3::L4::L5::L6::L7::L8::L9::M0::M1::M2::M3::M4::[]) w)) w)) w) :
    leatref29_Get_L1 K (b0::b1::A0::A1::r4::s5::n6::i7::A6::A7::A8::A9::C0::C1::C2::C3::C4::C5::C6::C7::C8::C9::D0::D1::D2::D3::D4::D5::D6::D7::D8::D9::E0::E1::E2::E3::E4::E5::E6::E7::E8::E9::F0::F1::F2::F3::F4::F5::F6::F7::F8::F9::G0::G1::G2::G3::G4::G5::G6::G7::G8::G9::H0::H1::H2::H3::H4::H5::H6::H7::H8::H9::I0::I1::I2::I3::I4::I5::I6::I7::I8::I9::J0::J1::J2::J3::J4::J5::J6::J7::J8::J9::L0::L1::L2::L3::L4::L5::L6::L7::L8::L9::M0::M1::M2::M3::M4::[]) w := by
  refine loop_rule (cd Tryz.f13 [1, 1, 1, 1, 1, 1, 1, 1, 1, 1, 1, 1, 1, 1, 0, 1, 0, 0]) [7, 67, 68, 69, 70, 71, 72, 73, 74, 75, 76, 77, 78, 79, 80, 81, 82, 83, 84, 85, 86, 87] (by kernel_rfl) (fun e2 w2 => Inv (gd e2 7) (gd e2 71) (gd e2 72) (gd e2 73) (gd e2 74) (gd e2 75) w2) (fun e2 w2 => μ (gd e2 7) (gd e2 71) (gd e2 72) (gd e2 73) (gd e2 74) (gd e2 75) w2) h0 ?_
  intro e' w' hI
  have h := hs (gd e' 7) (gd e' 71) (gd e' 72) (gd e' 73) (gd e' 74) (gd e' 75) (fun i => gd e' i) w' _ hI rfl
  have h2 : cCode Tryz.prog (cd Tryz.f13 [1, 1, 1, 1, 1, 1, 1, 1, 1, 1, 1, 1, 1, 1, 0, 1, 0, 0]) (fun e2 w2 => Inv (gd e2 7) (gd e2 71) (gd e2 72) (gd e2 73) (gd e2 74) (gd e2 75) w2 ∧ μ (gd e2 7) (gd e2 71) (gd e2 72) (gd e2 73) (gd e2 74) (gd e2 75) w2 < μ (gd e' 7) (gd e' 71) (gd e' 72) (gd e' 73) (gd e' 74) (gd e' 75) w') (fun i => @Bool.rec (fun _ => KE) ((fun _ _ _ => False) i) (leatref29_Get_P1 K) (Nat.beq i 0)) (retK Tryz.prog Tryz.f13.results.toList K) (b0::b1::A0::A1::r4::s5::n6::(gd e' 7)::A6::A7::A8::A9::C0::C1::C2::C3::C4::C5::C6::C7::C8::C9::D0::D1::D2::D3::D4::D5::D6::D7::D8::D9::E0::E1::E2::E3::E4::E5::E6::E7::E8::E9::F0::F1::F2::F3::F4::F5::F6::F7::F8::F9::G0::G1::G2::G3::G4::G5::G6::G7::G8::G9::H0::H1::H2::H3::H4::(gd e' 67)::(gd e' 68)::(gd e' 69)::(gd e' 70)::(gd e' 71)::(gd e' 72)::(gd e' 73)::(gd e' 74)::(gd e' 75)::(gd e' 76)::(gd e' 77)::(gd e' 78)::(gd e' 79)::(gd e' 80)::(gd e' 81)::(gd e' 82)::(gd e' 83)::(gd e' 84)::(gd e' 85)::(gd e' 86)::(gd e' 87)::J6::J7::J8::J9::L0::L1::L2::L3::L4::L5::L6::L7::L8::L9::M0::M1::M2::M3::M4::[]) w' := leatref29_Get_L1_k (fun e2 w2 => Inv (gd e2 7) (gd e2 71) (gd e2 72) (gd e2 73) (gd e2 74) (gd e2 75) w2 ∧ μ (gd e2 7) (gd e2 71) (gd e2 72) (gd e2 73) (gd e2 74) (gd e2 75) w2 < μ (gd e' 7) (gd e' 71) (gd e' 72) (gd e' 73) (gd e' 74) (gd e' 75) w') (leatref29_Get_P1 K) (Eq.mp (by kernel_rfl) h)
  exact Eq.mp (by kernel_rfl) h2

theorem leatref29_Get_P1_k {K : KV} {w : World}
    (h : hReg (fun S w =>
    hld S (fun k w => nilC r4 k w) (fun J7 =>
    hld S (fun k w => fldA Tryz.prog 80 J7 2 k w) (fun J8 =>
    hld S (fun k w => ld Tryz.prog 4 J8 k w) (fun J9 =>
    hG J9 false S (fun k w => k b0 w) (fun L1 =>
    hG J9 false S (fun k w => blt Tryz.prog Builtin.len #[28] 3 #[false] #[L1] k w) (fun L2 =>
    hG J9 false S (fun k w => bin Tryz.prog BinOp.eql 3 false true L2 (Value.int IntKind.i64 0) k w) (fun L3 =>
    hld S (fun k w => pick J9 (Value.bool true) L3 k w) (fun L4 =>
    hG L4 false S (fun k w => ld Tryz.prog 27 s5 k w) (fun L6 =>
    hG L4 false S (fun k w => k b0 w) (fun L9 =>
    hG L4 false S (fun k w => conv Tryz.prog 28 9 L9 k w) (fun M0 =>
    xG L4 false (fun k w => call Tryz.prog 11 #[L6] k w) (fun L7 w =>
    hSub S (fun S w =>
    hG L4 false S (fun k w => conv Tryz.prog 28 9 L7 k w) (fun L8 =>
    hG L4 false S (fun k w => bin Tryz.prog BinOp.neq 9 false false L8 M0 k w) (fun M1 =>
    hld S (fun k w => pick L4 (Value.bool true) M1 k w) (fun M2 =>
    cond M2
      (bld Tryz.prog 27 #[] (fun M3 w =>
      sto Tryz.prog 27 A0 M3 (fun _t w =>
      retM Tryz.prog [(some 27, A0), (none, (Value.int IntKind.i64 5))] K w) w) w)
      (ld Tryz.prog 27 s5 (fun M4 w =>
    sto Tryz.prog 27 A0 M4 (fun _t w =>
    retM Tryz.prog [(some 27, A0), (none, (Value.int IntKind.i64 0))] K w) w) w))))) w) w))))))))))) w.drew) :
    cCode Tryz.prog (cd Tryz.f13 [1, 1, 1, 1, 1, 1, 1, 1, 1, 1, 1, 1, 1, 1, 1]) (retK Tryz.prog Tryz.f13.results.toList K) (fun _ _ _ => False) (retK Tryz.prog Tryz.f13.results.toList K) (b0::b1::A0::A1::r4::s5::n6::i7::A6::A7::A8::A9::C0::C1::C2::C3::C4::C5::C6::C7::C8::C9::D0::D1::D2::D3::D4::D5::D6::D7::D8::D9::E0::E1::E2::E3::E4::E5::E6::E7::E8::E9::F0::F1::F2::F3::F4::F5::F6::F7::F8::F9::G0::G1::G2::G3::G4::G5::G6::G7::G8::G9::H0::H1::H2::H3::H4::H5::H6::H7::H8::H9::I0::I1::I2::I3::I4::I5::I6::I7::I8::I9::J0::J1::J2::J3::J4::J5::J6::J7::J8::J9::L0::L1::L2::L3::L4::L5::L6::L7::L8::L9::M0::M1::M2::M3::M4::[]) w := Eq.mp (by kernel_rfl) h

theorem leatref29_Get_P1_r {K : KV} {w : World}
    (h : hReg (fun S w =>
    hld S (fun k w => nilC r4 k w) (fun J7 =>
    hld S (fun k w => fldA Tryz.prog 80 J7 2 k w) (fun J8 =>
    hld S (fun k w => ld Tryz.prog 4 J8 k w) (fun J9 =>
    hG J9 false S (fun k w => k b0 w) (fun L1 =>
    hG J9 false S (fun k w => blt Tryz.prog Builtin.len #[28] 3 #[false] #[L1] k w) (fun L2 =>
    hG J9 false S (fun k w => bin Tryz.prog BinOp.eql 3 false true L2 (Value.int IntKind.i64 0) k w) (fun L3 =>
    hld S (fun k w => pick J9 (Value.bool true) L3 k w) (fun L4 =>
    hG L4 false S (fun k w => ld Tryz.prog 27 s5 k w) (fun L6 =>
    hG L4 false S (fun k w => k b0 w) (fun L9 =>
    hG L4 false S (fun k w => conv Tryz.prog 28 9 L9 k w) (fun M0 =>
    xG L4 false (fun k w => call Tryz.prog 11 #[L6] k w) (fun L7 w =>
    hSub S (fun S w =>
    hG L4 false S (fun k w => conv Tryz.prog 28 9 L7 k w) (fun L8 =>
    hG L4 false S (fun k w => bin Tryz.prog BinOp.neq 9 false false L8 M0 k w) (fun M1 =>
    hld S (fun k w => pick L4 (Value.bool true) M1 k w) (fun M2 =>
    cond M2
      (bld Tryz.prog 27 #[] (fun M3 w =>
      sto Tryz.prog 27 A0 M3 (fun _t w =>
      retM Tryz.prog [(some 27, A0), (none, (Value.int IntKind.i64 5))] K w) w) w)
      (ld Tryz.prog 27 s5 (fun M4 w =>
    sto Tryz.prog 27 A0 M4 (fun _t w =>
    retM Tryz.prog [(some 27, A0), (none, (Value.int IntKind.i64 0))] K w) w) w))))) w) w))))))))))) w.drew) :
    leatref29_Get_P1 K (b0::b1::A0::A1::r4::s5::n6::i7::A6::A7::A8::A9::C0::C1::C2::C3::C4::C5::C6::C7::C8::C9::D0::D1::D2::D3::D4::D5::D6::D7::D8::D9::E0::E1::E2::E3::E4::E5::E6::E7::E8::E9::F0::F1::F2::F3::F4::F5::F6::F7::F8::F9::G0::G1::G2::G3::G4::G5::G6::G7::G8::G9::H0::H1::H2::H3::H4::H5::H6::H7::H8::H9::I0::I1::I2::I3::I4::I5::I6::I7::I8::I9::J0::J1::J2::J3::J4::J5::J6::J7::J8::J9::L0::L1::L2::L3::L4::L5::L6::L7::L8::L9::M0::M1::M2::M3::M4::[]) w := by
  delta leatref29_Get_P1
  exact Eq.mp (congrArg (fun c => cCode Tryz.prog c (retK Tryz.prog Tryz.f13.results.toList K) (fun _ _ _ => False) (retK Tryz.prog Tryz.f13.results.toList K) (b0::b1::A0::A1::r4::s5::n6::i7::A6::A7::A8::A9::C0::C1::C2::C3::C4::C5::C6::C7::C8::C9::D0::D1::D2::D3::D4::D5::D6::D7::D8::D9::E0::E1::E2::E3::E4::E5::E6::E7::E8::E9::F0::F1::F2::F3::F4::F5::F6::F7::F8::F9::G0::G1::G2::G3::G4::G5::G6::G7::G8::G9::H0::H1::H2::H3::H4::H5::H6::H7::H8::H9::I0::I1::I2::I3::I4::I5::I6::I7::I8::I9::J0::J1::J2::J3::J4::J5::J6::J7::J8::J9::L0::L1::L2::L3::L4::L5::L6::L7::L8::L9::M0::M1::M2::M3::M4::[]) w) (by kernel_rfl : (cd Tryz.f13 [1, 1, 1, 1, 1, 1, 1, 1, 1, 1, 1, 1, 1, 1, 1]) = (cd Tryz.f13 [1, 1, 1, 1, 1, 1, 1, 1, 1, 1, 1, 1, 1, 1, 1]))) (leatref29_Get_P1_k h)
attribute [irreducible] leatref29_Get_A1 leatref29_Get_A2 leatref29_Get_P1 leatref29_Get_L1

end
section
variable {a0 b1 a2 b3 A2 i5 A4 A5 A6 A7 A8 A9 C0 C1 C2 C3 C4 C5 C6 C7 C8 C9 D0 D1 D2 D3 D4 D5 D6 D7 D8 D9 E0 E1 E2 E3 E4 E5 E6 E7 E8 E9 F0 F1 F2 F3 F4 F5 F6 F7 F8 F9 G0 G1 G2 G3 G4 G5 G6 G7 G8 G9 H0 H1 H2 H3 H4 H5 H6 H7 H8 : Value}

end
end Go.Proofs.YtfjafbbalohmhaaGreatDoor
namespace Go.Proofs.YtfjafbbalohmhaaGreatDoor
set_option maxRecDepth 100000
open Go.RowKit
theorem all_bad {l : List Int} {lo hi : Int} {j : Nat} (hj : j < l.length) (h : inB lo hi (l.getD j 0) = false) : l.all (inB lo hi) = false := by
  have hx : l.getD j 0 = l[j] := by simp [List.getD, hj]
  cases hq : l.all (inB lo hi) with
  | false => rfl
  | true => have := List.all_eq_true.1 hq _ (List.getElem_mem hj); rw [← hx] at this; rw [this] at h; cases h
theorem all_step {l : List Int} {lo hi : Int} {j : Nat} (hj : j < l.length) (hall : (l.take j).all (inB lo hi) = true) (h : inB lo hi (l.getD j 0) = true) : (l.take (j + 1)).all (inB lo hi) = true := by
  have hx : l.getD j 0 = l[j] := by simp [List.getD, hj]
  have ht : l.take (j + 1) = l.take j ++ [l.getD j 0] := by rw [hx, List.take_append_getElem hj]
  rw [ht, List.all_append, hall, List.all_cons, h]; rfl
theorem inB_f {lo hi x : Int} (h : x < lo ∨ hi < x) : inB lo hi x = false := by
  cases hq : inB lo hi x with
  | false => rfl
  | true => have := inB_iff.1 hq; omega
attribute [local irreducible] bin un conv call callV blt slc fldA fld idxA idx lkp mUpd mEnt eSt rng nxt ent ext alc box bld bldS ld sto nilC mkMap mkS ifc pick rdy wts gsel sti cond retM Gives cCode cGrp cSeq cOp
section
variable {w : World} {K : KV}
theorem rdN {K2 : Value → KV} {a : Option Addr} {n c j : Nat} {l : List Int} {x : Int} (hr : RN w a n c l) (hj : j < n) (hn : n ≤ 9223372036854775807) (hxx : l.getD j 0 = x) (h : ∀ t, K2 t (.int .i64 x) w) :
    idxA Tryz.prog 25 (.slice a n c) (.int .i64 (j : Nat)) (fun t w => ld Tryz.prog 3 t (K2 t) w) w := by
  subst hxx
  have hl : l.length = n := by simpa using hr.len
  have hx : (l.map i6)[j]? = some (i6 (l.getD j 0)) := by simp [List.getD, List.getElem?_eq_getElem (show j < l.length by omega)]
  refine idx_slc Tryz.underlying25 (fun _ => by kernel_rfl) (by omega) (by omega) hr.some_ ?_
  rw [Int.toNat_natCast]
  exact ld_cell (fun _ => by kernel_rfl) (hr.cell _ _ hx) (h _)
theorem lenN {ty : TypeId} {cs : Array Bool} {a : Option Addr} {n c : Nat} (h : K (.int .i64 (n : Int)) w) : blt Tryz.prog .len #[25] ty cs #[.slice a n c] K w := len_slc Tryz.underlying25 h
set_option maxHeartbeats 4000000 in
theorem rmay29_c {s : STP} {a : Option Addr} {c : Nat} (hr : RN w a s.picks.length c s.picks) (hn : s.picks.length ≤ 9223372036854775807) (h : ∀ w', Below w.heap.size w w' → K (.bool (mayT s)) w') :
    call Tryz.prog 10 #[.agg (stC s (.slice a s.picks.length c)).toArray] K w := by
  refine call_of leatref29_May_go (leatref29_May_in ?_)
  refine box_of fun w1 hb b1 s1 => ?_
  have hb : blk w1 w.heap.size 27 (stC s (.slice a s.picks.length c)) := hb
  generalize hq0 : w.heap.size = q at *
  have may := @mayT_iff s
  (repeat (first | refine fA_Stp_1 ?_ | refine fA_Stp_2 ?_ | refine fA_Stp_3 ?_ | refine fA_Stp_4 ?_ | refine fA_Tas_2 ?_ | (refine ld_TL_1 ?_ (by assumption) ?_ ?_; rotate_left; exact rfl)))
  refine bldSG (vs := [i6 s.who, i6 s.j, i6 s.k, i6 s.to]) Tryz.underlying25 (s := 1) (by kernel_rfl) (by kernel_rfl) (by omega) rfl (by simp) (by simp) (by simp) (by simp [Value.cells, i6]) ?_
  intro w2 hb2 b2 s2
  have hr2 : RN w2 (some ⟨w1.heap.size, 0, none⟩) 4 4 [s.who, s.j, s.k, s.to] := rv_blk (by simpa [Value.cells, i6] using hb2)
  have hb2' : blk w2 q 27 (stC s (.slice a s.picks.length c)) := below_blk b2 hb (by omega)
  have hlist : [s.who, s.j, s.k, s.to].all (inB (-1) 255) = true ↔ (-1 ≤ s.who ∧ s.who ≤ 255) ∧ (-1 ≤ s.j ∧ s.j ≤ 255) ∧ (-1 ≤ s.k ∧ s.k ≤ 255) ∧ (-1 ≤ s.to ∧ s.to ≤ 255) := by simp [inB_iff, and_assoc]
  have b12 : Below q w w2 := b1.trans (b2.mono (by omega))
  have no : ¬ (mayT s = true) → K (Value.bool false) w2 := fun hq => by have := h w2 b12; rw [show mayT s = false by simpa using hq] at this; exact this
  have hr4 : RN w2 a s.picks.length c s.picks := hr.below b12 (by omega)
  have h := h w2 b12
  clear b1 b2 hb2 hb hr b12
  have hl4 : [s.who, s.j, s.k, s.to].length = 4 := rfl
  generalize hL : [s.who, s.j, s.k, s.to] = L at hr2 hlist hl4
  refine leatref29_May_L1_r (Inv := fun i _ _ _ _ _ wr => ∃ j : Nat, i = .int .i64 (j : Nat) ∧ j ≤ 4 ∧ wr = w2 ∧ (L.take j).all (inB (-1) 255) = true) (μ := fun i _ _ _ _ _ _ => 4 - (intOf i).toNat) ⟨0, rfl, by omega, rfl, by simp⟩ ?_
  rintro _ _ _ _ _ _ dd wr m ⟨j, rfl, hj, rfl, hall⟩ hm
  refine lenN ?_
  refine bin_lss ?_
  by_cases hj4 : j < 4
  · refine cond_t (by omega) ?_
    obtain ⟨x, hx⟩ : ∃ x, L.getD j 0 = x := ⟨_, rfl⟩
    have bad : inB (-1) 255 x = false → K (Value.bool false) wr := fun hb => no (by rw [may]; intro hh; have := hlist.2 ⟨hh.2.2.1, hh.2.2.2.1, hh.2.2.2.2.1, hh.2.2.2.2.2.1⟩; rw [all_bad (by omega) (hx ▸ hb)] at this; cases this)
    have good : inB (-1) 255 x = true → _ := fun hq => all_step (show j < L.length by omega) hall (hx ▸ hq)
    refine rdN hr2 hj4 (by omega) hx fun _ => ?_
    refine bin_lss ?_
    by_cases h0 : x < -1
    · refine gsel_nt h0 ?_
      refine pick_t h0 ?_
      refine cond_T ?_
      exact bad (inB_f (.inl h0))
    · refine gsel_nf h0 ?_
      refine rdN hr2 hj4 (by omega) hx fun _ => ?_
      refine bin_gtr ?_
      refine pick_f h0 ?_
      by_cases h1 : 255 < x
      · refine cond_t h1 ?_
        exact bad (inB_f (.inr h1))
      · refine cond_f h1 ?_
        refine add64 (by omega) (by omega) ?_
        exact ⟨⟨j + 1, by simp, by omega, rfl, good (inB_iff.2 ⟨by omega, by omega⟩)⟩, by rw [hm]; simp [intOf]; omega⟩
  obtain rfl : j = 4 := by omega
  refine cond_f (by simp) ?_
  rw [List.take_of_length_le (by omega)] at hall
  have hl4' := hlist.1 hall
  refine leatref29_May_P1_r ?_
  clear hall hr2 hL hlist
  refine leatref29_May_L2_r (Inv := fun i _ _ _ _ _ _ wr2 => ∃ j : Nat, i = .int .i64 (j : Nat) ∧ j ≤ s.picks.length ∧ wr2 = wr ∧ (s.picks.take j).all (inB (-1) 254) = true) (μ := fun i _ _ _ _ _ _ _ => s.picks.length - (intOf i).toNat) ⟨0, rfl, by omega, rfl, by simp⟩ ?_
  rintro _ _ _ _ _ _ _ dd wr2 m ⟨j, rfl, hj, rfl, hall⟩ hm
  (repeat (first | refine fA_Stp_6 ?_ | (refine ld_TL_4 ?_ (by assumption) ?_ ?_; rotate_left; exact rfl)))
  refine lenN ?_
  refine bin_lss ?_
  by_cases hjn : j < s.picks.length
  · refine cond_t (by omega) ?_
    obtain ⟨x, hx⟩ : ∃ x, s.picks.getD j 0 = x := ⟨_, rfl⟩
    have bad : inB (-1) 254 x = false → K (Value.bool false) wr2 := fun hb => no (by rw [may]; intro hh; have := hh.2.2.2.2.2.2.2.2.2; rw [all_bad (by omega) (hx ▸ hb)] at this; cases this)
    have good : inB (-1) 254 x = true → _ := fun hq => all_step hjn hall (hx ▸ hq)
    (repeat (first | refine fA_Stp_6 ?_ | (refine ld_TL_4 ?_ (by assumption) ?_ ?_; rotate_left; exact rfl)))
    refine rdN hr4 hjn (by omega) hx fun _ => ?_
    refine bin_lss ?_
    by_cases h0 : x < -1
    · refine gsel_nt h0 ?_
      refine pick_t h0 ?_
      refine cond_T ?_
      exact bad (inB_f (.inl h0))
    · refine gsel_nf h0 ?_
      (repeat (first | refine fA_Stp_6 ?_ | (refine ld_TL_4 ?_ (by assumption) ?_ ?_; rotate_left; exact rfl)))
      refine rdN hr4 hjn (by omega) hx fun _ => ?_
      refine bin_gtr ?_
      refine pick_f h0 ?_
      by_cases h1 : 254 < x
      · refine cond_t h1 ?_
        exact bad (inB_f (.inr h1))
      · refine cond_f h1 ?_
        refine add64 (by omega) (by omega) ?_
        exact ⟨⟨j + 1, by simp, by omega, rfl, good (inB_iff.2 ⟨by omega, by omega⟩)⟩, by rw [hm]; simp [intOf]; omega⟩
  obtain rfl : j = s.picks.length := by omega
  refine cond_f (by omega) ?_
  rw [List.take_length] at hall
  refine leatref29_May_P2_r ?_
  by_cases g1 : s.d < 1
  · (repeat (first | refine fA_Stp_0 ?_ | (refine ld_TL_0 ?_ (by assumption) ?_ ?_; rotate_left; exact rfl) | refine bin_geq ?_ | refine pick_F ?_ | refine gsel_F ?_ | refine gsel_pf (by omega) ?_ | refine pick_f (by omega) ?_))
    exact no (by rw [may]; omega)
  by_cases g2 : s.d > 12
  · (repeat (first | refine fA_Stp_0 ?_ | (refine ld_TL_0 ?_ (by assumption) ?_ ?_; rotate_left; exact rfl) | refine bin_leq ?_ | refine bin_geq ?_ | refine pick_F ?_ | refine gsel_F ?_ | refine gsel_pt (by omega) ?_ | refine gsel_pf (by omega) ?_ | refine pick_t (by omega) ?_ | refine pick_f (by omega) ?_))
    exact no (by rw [may]; omega)
  by_cases g3 : s.n < -1
  · (repeat (first | refine fA_Stp_0 ?_ | refine fA_Stp_5 ?_ | (refine ld_TL_0 ?_ (by assumption) ?_ ?_; rotate_left; exact rfl) | (refine ld_TL_1 ?_ (by assumption) ?_ ?_; rotate_left; exact rfl) | refine bin_leq ?_ | refine bin_geq ?_ | refine pick_F ?_ | refine gsel_F ?_ | refine gsel_pt (by omega) ?_ | refine gsel_pf (by omega) ?_ | refine pick_t (by omega) ?_ | refine pick_f (by omega) ?_))
    exact no (by rw [may]; omega)
  by_cases g4 : s.n > 1073741824
  · (repeat (first | refine fA_Stp_0 ?_ | refine fA_Stp_5 ?_ | (refine ld_TL_0 ?_ (by assumption) ?_ ?_; rotate_left; exact rfl) | (refine ld_TL_1 ?_ (by assumption) ?_ ?_; rotate_left; exact rfl) | refine bin_leq ?_ | refine bin_geq ?_ | refine pick_F ?_ | refine gsel_F ?_ | refine gsel_pt (by omega) ?_ | refine gsel_pf (by omega) ?_ | refine pick_t (by omega) ?_ | refine pick_f (by omega) ?_))
    exact no (by rw [may]; omega)
  by_cases g5 : s.kind > 7
  · (repeat (first | refine fA_Stp_0 ?_ | refine fA_Stp_2 ?_ | refine fA_Stp_5 ?_ | refine fA_Tas_0 ?_ | (refine ld_TL_0 ?_ (by assumption) ?_ ?_; rotate_left; exact rfl) | (refine ld_TL_1 ?_ (by assumption) ?_ ?_; rotate_left; exact rfl) | refine bin_leq ?_ | refine bin_geq ?_ | refine pick_F ?_ | refine gsel_F ?_ | refine gsel_pt (by omega) ?_ | refine gsel_pf (by omega) ?_ | refine pick_t (by omega) ?_ | refine pick_f (by omega) ?_))
    exact no (by rw [may]; omega)
  by_cases g6 : s.am < -1
  · (repeat (first | refine fA_Stp_0 ?_ | refine fA_Stp_2 ?_ | refine fA_Stp_5 ?_ | refine fA_Tas_0 ?_ | refine fA_Tas_3 ?_ | (refine ld_TL_0 ?_ (by assumption) ?_ ?_; rotate_left; exact rfl) | (refine ld_TL_1 ?_ (by assumption) ?_ ?_; rotate_left; exact rfl) | (refine ld_TL_3 ?_ (by assumption) ?_ ?_; rotate_left; exact rfl) | refine bin_leq ?_ | refine bin_geq ?_ | refine pick_F ?_ | refine gsel_F ?_ | refine gsel_pt (by omega) ?_ | refine gsel_pf (by omega) ?_ | refine pick_t (by omega) ?_ | refine pick_f (by omega) ?_))
    exact no (by rw [may]; omega)
  by_cases g7 : s.am > 1152921504606846976
  · (repeat (first | refine fA_Stp_0 ?_ | refine fA_Stp_2 ?_ | refine fA_Stp_5 ?_ | refine fA_Tas_0 ?_ | refine fA_Tas_3 ?_ | (refine ld_TL_0 ?_ (by assumption) ?_ ?_; rotate_left; exact rfl) | (refine ld_TL_1 ?_ (by assumption) ?_ ?_; rotate_left; exact rfl) | (refine ld_TL_3 ?_ (by assumption) ?_ ?_; rotate_left; exact rfl) | refine bin_leq ?_ | refine bin_geq ?_ | refine gsel_pt (by omega) ?_ | refine gsel_pf (by omega) ?_ | refine pick_t (by omega) ?_ | refine pick_f (by omega) ?_))
    exact no (by rw [may]; omega)
  have hm : mayT s = decide ((s.picks.length : Int) ≤ 255) := by
    by_cases hq : (s.picks.length : Int) ≤ 255
    · rw [decide_eq_true hq, may]; exact ⟨by omega, by omega, hl4'.1, hl4'.2.1, hl4'.2.2.1, hl4'.2.2.2, by omega, by omega, by omega, hall⟩
    · rw [decide_eq_false hq]
      cases hq2 : mayT s with
      | false => rfl
      | true => have := may.1 hq2; omega
  rw [hm] at h
  (repeat (first | refine fA_Stp_0 ?_ | refine fA_Stp_2 ?_ | refine fA_Stp_5 ?_ | refine fA_Stp_6 ?_ | refine fA_Tas_0 ?_ | refine fA_Tas_3 ?_ | (refine ld_TL_0 ?_ (by assumption) ?_ ?_; rotate_left; exact rfl) | (refine ld_TL_1 ?_ (by assumption) ?_ ?_; rotate_left; exact rfl) | (refine ld_TL_3 ?_ (by assumption) ?_ ?_; rotate_left; exact rfl) | (refine ld_TL_4 ?_ (by assumption) ?_ ?_; rotate_left; exact rfl) | refine lenN ?_ | refine bin_leq ?_ | refine bin_geq ?_ | refine gsel_pt (by omega) ?_ | refine pick_t (by omega) ?_))
  exact h
end
end Go.Proofs.YtfjafbbalohmhaaGreatDoor
namespace Go.Proofs.YtfjafbbalohmhaaGreatDoor
set_option maxRecDepth 100000
open Go.RowKit
attribute [local irreducible] bin un conv call callV blt slc fldA fld idxA idx lkp mUpd mEnt eSt rng nxt ent ext alc box bld bldS ld sto nilC mkMap mkS ifc pick rdy wts gsel sti cond retM Gives cCode cGrp cSeq cOp
section
variable {w : World} {K : KV}
theorem rnum_c {a : Option Addr} {n c : Nat} {l : List UInt8} {x kk : Int} (k : Nat) (hb : RB w a n c l) (hn : n ≤ 140737488351232) (hk : k = 1 ∨ k = 2 ∨ k = 4 ∨ k = 8) (h0 : 0 ≤ x) (hx : x < 256 ^ k) (hkk : kk = (k : Int))
    (h : ∀ a' n' c' w', OB w' w.heap.size a' n' c' (l ++ beBytes x.toNat k) → Below w.heap.size w w' → K (.slice a' n' c') w') : call Tryz.prog 28 #[.slice a n c, .int .u64 x, .int .i64 kk] K w := by
  subst hkk
  obtain ⟨y, rfl⟩ := Int.eq_ofNat_of_zero_le h0
  rw [Int.toNat_natCast] at h
  have hy : y < 256 ^ k := by rcases hk with rfl | rfl | rfl | rfl <;> omega
  have hx64 : y < 18446744073709551616 := Nat.lt_of_lt_of_le hy (by rcases hk with rfl | rfl | rfl | rfl <;> decide)
  refine call_of leatref29_number_go (leatref29_number_in ?_)
  refine rput_c hb hn hx64 ?_
  intro a' n' c' w1 ho b1
  rw [putS_ok hk hy] at ho ⊢
  refine ext_a ?_
  refine ext_b ?_
  exact h a' n' c' w1 ho b1
structure P29 (w0 w : World) (q : Nat) (s : STP) (v : Value) (a : Option Addr) (n c : Nat) (l : List UInt8) : Prop where
  stp : blk w q 27 (stC s v)
  rb : RB w a n c l
  bel : Below q w0 w
theorem p29_c {w0 : World} {q : Nat} {s : STP} {v : Value} {a : Option Addr} {n c : Nat} {l : List UInt8} {x kk : Int} (k : Nat) (hs : P29 w0 w q s v a n c l) (hl : l.length ≤ 1000) (hk : k = 1 ∨ k = 2 ∨ k = 4 ∨ k = 8) (h0 : 0 ≤ x) (hx : x < 256 ^ k) (hkk : kk = (k : Int))
    (h : ∀ a' n' c' w', P29 w0 w' q s v a' n' c' (l ++ beBytes x.toNat k) → K (.slice a' n' c') w') : call Tryz.prog 28 #[.slice a n c, .int .u64 x, .int .i64 kk] K w := by
  have hn := hs.rb.len
  have hlt := hs.stp.lt
  refine rnum_c k hs.rb (by omega) hk h0 hx hkk ?_
  intro a' n' c' w1 ho b1
  exact h a' n' c' w1 ⟨below_blk b1 hs.stp hlt, OV.rv ho, hs.bel.trans (b1.mono (by omega))⟩
set_option maxHeartbeats 4000000 in
theorem rput29_c {s : STP} {a : Option Addr} {c : Nat} (hw : STW s) (hr : RN w a s.picks.length c s.picks) (hn : s.picks.length ≤ 9223372036854775807) (h : ∀ w' a' n' c', RB w' a' n' c' (putT s) → Below w.heap.size w w' → K (.slice a' n' c') w') :
    call Tryz.prog 11 #[.agg (stC s (.slice a s.picks.length c)).toArray] K w := by
  refine call_of leatref29_Put_go (leatref29_Put_in ?_)
  refine box_of fun w1 hb b1 s1 => ?_
  have hb : blk w1 w.heap.size 27 (stC s (.slice a s.picks.length c)) := hb
  generalize hq0 : w.heap.size = q at *
  refine ldA (n := 12) (vs := stC s (.slice a s.picks.length c)) Tryz.underlying27 rfl (by kernel_rfl) hb rfl rfl ?_
  have hr1 : RN w1 a s.picks.length c s.picks := hr.below b1 (by omega)
  refine rmay29_c hr1 hn ?_
  intro w2 b2
  have hb2 : blk w2 q 27 (stC s (.slice a s.picks.length c)) := below_blk b2 hb (by omega)
  have b12 : Below q w w2 := b1.trans (b2.mono (by omega))
  refine un_not ?_
  cases hm : mayT s with
  | false =>
    rw [Bool.not_false]
    refine cond_T ?_
    have hp : putT s = [] := by unfold putT; rw [hm]
    have := h w2 none 0 0 (by rw [hp]; exact RV.nil w2) b12
    exact this
  | true =>
  obtain ⟨⟨d1, d2⟩, k1, ⟨w1', w2'⟩, ⟨j1, j2⟩, ⟨kk1, kk2⟩, ⟨t1, t2⟩, ⟨n1, n2⟩, ⟨a1, a2⟩, p1, p2⟩ := mayT_iff.1 hm
  rw [Bool.not_true]
  refine cond_F ?_
  have hd := hw.d
  have hkd := hw.kind
  have hnd := hw.node
  have hrq := hw.req
  have hof := hw.of_
  have hs2 : P29 w w2 q s (.slice a s.picks.length c) none 0 0 [] := ⟨hb2, RV.nil w2, b12⟩
  clear b2 b1 hb b12
  (repeat (first | refine fA_Stp_0 ?_ | (refine ld_TL_0 ?_ (by assumption) ?_ ?_; rotate_left; exact rfl) | refine cvBU (by omega) (by omega) ?_))
  refine p29_c 1 hs2 (by simp) (by simp) (by omega) (by omega) rfl ?_
  intro a3 n3 c3 w3 hs3
  have hb3 := hs3.stp
  (repeat (first | refine fA_Stp_1 ?_ | (refine ld_TL_1 ?_ (by assumption) ?_ ?_; rotate_left; exact rfl) | refine add64 (by omega) (by omega) ?_ | refine cvIU (by omega) (by omega) ?_))
  refine p29_c 2 hs3 (by simp [beBytes_len]) (by simp) (by omega) (by omega) rfl ?_
  intro a4 n4 c4 w4 hs4
  have hb4 := hs4.stp
  clear hs2 hs3 hb3 hb2
  (repeat (first | refine fA_Stp_4 ?_ | (refine ld_TL_1 ?_ (by assumption) ?_ ?_; rotate_left; exact rfl) | refine add64 (by omega) (by omega) ?_ | refine cvIU (by omega) (by omega) ?_))
  refine p29_c 2 hs4 (by simp [beBytes_len]) (by simp) (by omega) (by omega) rfl ?_
  intro a5 n5 c5 w5 hs5
  have hb5 := hs5.stp
  clear hs4 hb4
  (repeat (first | refine fA_Stp_3 ?_ | (refine ld_TL_1 ?_ (by assumption) ?_ ?_; rotate_left; exact rfl) | refine leatref29_Put_A1_r ?_ | refine add64 (by omega) (by omega) ?_ | refine cvIU (by omega) (by omega) ?_))
  refine p29_c 2 hs5 (by simp [beBytes_len]) (by simp) (by omega) (by omega) rfl ?_
  intro a6 n6 c6 w6 hs6
  have hb6 := hs6.stp
  clear hs5 hb5
  (repeat (first | refine fA_Stp_5 ?_ | (refine ld_TL_1 ?_ (by assumption) ?_ ?_; rotate_left; exact rfl) | refine add64 (by omega) (by omega) ?_ | refine cvIU (by omega) (by omega) ?_))
  refine p29_c 4 hs6 (by simp [beBytes_len]) (by simp) (by omega) (by omega) rfl ?_
  intro a7 n7 c7 w7 hs7
  have hb7 := hs7.stp
  clear hs6 hb6
  (repeat (first | refine fA_Stp_2 ?_ | refine fA_Tas_0 ?_ | (refine ld_TL_0 ?_ (by assumption) ?_ ?_; rotate_left; exact rfl) | refine cvBU (by omega) (by omega) ?_))
  refine p29_c 1 hs7 (by simp [beBytes_len]) (by simp) (by omega) (by omega) rfl ?_
  intro a8 n8 c8 w8 hs8
  have hb8 := hs8.stp
  clear hs7 hb7
  (repeat (first | refine fA_Stp_2 ?_ | refine fA_Tas_1 ?_ | (refine ld_TL_2 ?_ (by assumption) ?_ ?_; rotate_left; exact rfl)))
  refine p29_c 8 hs8 (by simp [beBytes_len]) (by simp) (by omega) (by omega) rfl ?_
  intro a9 n9 c9 w9 hs9
  have hb9 := hs9.stp
  clear hs8 hb8
  (repeat (first | refine fA_Stp_2 ?_ | refine fA_Tas_2 ?_ | (refine ld_TL_1 ?_ (by assumption) ?_ ?_; rotate_left; exact rfl) | refine leatref29_Put_A2_r ?_ | refine add64 (by omega) (by omega) ?_ | refine cvIU (by omega) (by omega) ?_))
  refine p29_c 2 hs9 (by simp [beBytes_len]) (by simp) (by omega) (by omega) rfl ?_
  intro a10 n10 c10 w10 hs10
  have hb10 := hs10.stp
  clear hs9 hb9
  (repeat (first | refine fA_Stp_2 ?_ | refine fA_Tas_3 ?_ | (refine ld_TL_3 ?_ (by assumption) ?_ ?_; rotate_left; exact rfl) | refine conv64 (by omega) (by omega) ?_ | refine add64 (by omega) (by omega) ?_))
  refine p29_c 8 hs10 (by simp [beBytes_len]) (by simp) (by omega) (by omega) rfl ?_
  intro a11 n11 c11 w11 hs11
  have hb11 := hs11.stp
  clear hs10 hb10
  (repeat (first | refine fA_Stp_2 ?_ | refine fA_Tas_4 ?_ | (refine ld_TL_2 ?_ (by assumption) ?_ ?_; rotate_left; exact rfl)))
  refine p29_c 8 hs11 (by simp [beBytes_len]) (by simp) (by omega) (by omega) rfl ?_
  intro a12 n12 c12 w12 hs12
  have hb12 := hs12.stp
  clear hs11 hb11
  (repeat (first | refine fA_Stp_2 ?_ | refine fA_Tas_5 ?_ | (refine ld_TL_2 ?_ (by assumption) ?_ ?_; rotate_left; exact rfl)))
  refine p29_c 8 hs12 (by simp [beBytes_len]) (by simp) (by omega) (by omega) rfl ?_
  intro a13 n13 c13 w13 hs13
  have hb13 := hs13.stp
  clear hs12 hb12
  (repeat (first | refine fA_Stp_6 ?_ | (refine ld_TL_4 ?_ (by assumption) ?_ ?_; rotate_left; exact rfl) | refine leatref29_Put_A3_r ?_))
  refine lenN ?_
  refine cvIU (by omega) (by omega) ?_
  refine p29_c 1 hs13 (by simp [beBytes_len]) (by simp) (by omega) (by omega) rfl ?_
  intro a14 n14 c14 w14 hs14
  clear hs13 hb13
  rw [Int.toNat_natCast] at hs14
  have hs14 : P29 w w14 q s (.slice a s.picks.length c) a14 n14 c14 (bdT s ++ pkT (s.picks.take 0)) := by simpa [pkT, bdT, hdT] using hs14
  refine leatref29_Put_L1_r (Inv := fun b i wr => ∃ (e : Nat) (a' : Option Addr) (n' c' : Nat), b = .slice a' n' c' ∧ i = .int .i64 (e : Nat) ∧ e ≤ s.picks.length ∧ P29 w wr q s (.slice a s.picks.length c) a' n' c' (bdT s ++ pkT (s.picks.take e)))
    (μ := fun _ i _ => s.picks.length - (intOf i).toNat) ⟨0, _, _, _, rfl, rfl, by omega, hs14⟩ ?_
  rintro _ _ dd w15 m ⟨e, a15, n15, c15, rfl, rfl, he, hs15⟩ hmm
  have hb15 := hs15.stp
  (repeat (first | refine fA_Stp_6 ?_ | (refine ld_TL_4 ?_ (by assumption) ?_ ?_; rotate_left; exact rfl)))
  refine lenN ?_
  refine bin_lss ?_
  by_cases hel : e < s.picks.length
  · refine cond_t (by omega) ?_
    have hrr : RN w15 a s.picks.length c s.picks := hr.below hs15.bel (by omega)
    have hxe : s.picks.getD e 0 = s.picks[e] := by simp [List.getD, hel]
    have hxb := inB_iff.1 (List.all_eq_true.1 p2 _ (List.getElem_mem hel))
    have ht : s.picks.take (e + 1) = s.picks.take e ++ [s.picks.getD e 0] := by rw [hxe, List.take_append_getElem hel]
    rw [← hxe] at hxb
    obtain ⟨x, hx⟩ : ∃ x, s.picks.getD e 0 = x := ⟨_, rfl⟩
    rw [hx] at hxb ht
    (repeat (first | refine fA_Stp_6 ?_ | (refine ld_TL_4 ?_ (by assumption) ?_ ?_; rotate_left; exact rfl)))
    refine rdN hrr hel (by omega) hx fun _ => ?_
    refine add64 (by omega) (by omega) ?_
    refine cvIU (by omega) (by omega) ?_
    refine p29_c 1 hs15 (by rw [List.length_append, bdT_len, pkT_len, List.length_take]; omega) (by simp) (by omega) (by omega) rfl ?_
    intro a16 n16 c16 w16 hs16
    refine add64 (by omega) (by omega) ?_
    refine ⟨⟨e + 1, _, _, _, rfl, by simp, by omega, by rw [ht, pkT_snoc, ← List.append_assoc]; exact hs16⟩, by rw [hmm]; simp [intOf]; omega⟩
  obtain rfl : e = s.picks.length := by omega
  refine cond_f (by omega) ?_
  refine leatref29_Put_P1_r ?_
  have x2 := hs15.rb
  rw [List.take_length, ← putT_t hm] at x2
  exact h w15 _ _ _ x2 hs15.bel
end
end Go.Proofs.YtfjafbbalohmhaaGreatDoor
namespace Go.Proofs.YtfjafbbalohmhaaGreatDoor
set_option maxRecDepth 100000
open Go.RowKit
structure GS (w0 w : World) (p q r : Nat) (a : Option Addr) (n c : Nat) (b : List UInt8) (st : EyS) (cs : List Value) : Prop where
  ey : blk w p 75 (eyC a n c st)
  sp : blk w q 27 cs
  rs : blk w r 27 stp0
  at_ : st.1 ≤ b.length
  bel : Below w0.heap.size w0 w
  rb : RB w0 a n c b
  pq : p ≠ q
  rp : r ≠ p
  rq : r ≠ q
  lp : w0.heap.size ≤ p
  lq : w0.heap.size ≤ q
theorem oth_blk {p b : Nat} {w w' : World} {E : TypeId} {cs : List Value} (h : Oth p w w') (hb : blk w b E cs) (hne : b ≠ p) : blk w' b E cs := by
  unfold blk; rw [h.other b hne]; exact hb
theorem oth_below {p B : Nat} {w0 w w' : World} (hb : Below B w0 w) (h : Oth p w w') (hB : B ≤ p) : Below B w0 w' := ⟨h.os.trans hb.os, h.tape.trans hb.tape, h.output.trans hb.output, by rw [h.size]; exact hb.size, fun k hk => by rw [h.other k (by omega)]; exact hb.block k hk⟩
attribute [local irreducible] bin un conv call callV blt slc fldA fld idxA idx lkp mUpd mEnt eSt rng nxt ent ext alc box bld bldS ld sto nilC mkMap mkS ifc pick rdy wts gsel sti cond retM Gives cCode cGrp cSeq cOp
section
variable {w : World} {K : KV}
variable {w0 : World} {p q r : Nat} {a : Option Addr} {n c : Nat} {b : List UInt8} {st : EyS} {cs : List Value}
theorem GS.now (h : GS w0 w p q r a n c b st cs) : RB w a n c b := RV.below h.rb h.bel (Nat.le_refl _)
theorem gs_get {kk : Int} (k : Nat) (hs : GS w0 w p q r a n c b st cs) (hn : n ≤ 9223372036854775807) (hk : k = 1 ∨ k = 2 ∨ k = 4 ∨ k = 8) (hkk : kk = (k : Int)) (h : ∀ w', GS w0 w' p q r a n c b (gtE b st k).2 cs → K (.int .u64 ((gtE b st k).1 : Nat)) w') :
    call Tryz.prog 29 #[.pointer (some ⟨p, 0, none⟩), .int .i64 kk] K w :=
  eget_c k hs.ey hs.now hn hs.at_ hk hkk fun w' h1 h2 => h w' ⟨h1, oth_blk h2 hs.sp (Ne.symm hs.pq), oth_blk h2 hs.rs hs.rp, gtE_le hs.at_, oth_below hs.bel h2 hs.lp, hs.rb, hs.pq, hs.rp, hs.rq, hs.lp, hs.lq⟩
theorem gs_less {kk : Int} (k : Nat) (hs : GS w0 w p q r a n c b st cs) (hn : n ≤ 9223372036854775807) (hk : k = 1 ∨ k = 2 ∨ k = 4) (hkk : kk = (k : Int)) (h : ∀ w', GS w0 w' p q r a n c b (gtE b st k).2 cs → Oth p w w' → K (i6 (((gtE b st k).1 : Int) - 1)) w') :
    call Tryz.prog 30 #[.pointer (some ⟨p, 0, none⟩), .int .i64 kk] K w :=
  eless_c k hs.ey hs.now hn hs.at_ hk hkk fun w' h1 h2 => h w' ⟨h1, oth_blk h2 hs.sp (Ne.symm hs.pq), oth_blk h2 hs.rs hs.rp, gtE_le hs.at_, oth_below hs.bel h2 hs.lp, hs.rb, hs.pq, hs.rp, hs.rq, hs.lp, hs.lq⟩ h2
theorem gs_sto {t : TypeId} {i : Nat} {v : Value} (hs : GS w0 w p q r a n c b st cs) (ht : ∀ w, (sizeOf t).run Tryz.prog w = .ok 1 w) (hi : i < cs.length) (hv : v.oneCell' = true) (h : ∀ w', GS w0 w' p q r a n c b st (cs.set i v) → Oth q w w' → K undef w') : sto Tryz.prog t (.pointer (some ⟨q, i, none⟩)) v K w :=
  sto1 ht hs.sp hi hv fun w' h1 h2 => h w' ⟨oth_blk h2 hs.ey hs.pq, h1, oth_blk h2 hs.rs hs.rq, hs.at_, oth_below hs.bel h2 hs.lq, hs.rb, hs.pq, hs.rp, hs.rq, hs.lp, hs.lq⟩ h2
theorem GS.fresh {w' : World} (hs : GS w0 w p q r a n c b st cs) (hb : Below w.heap.size w w') : GS w0 w' p q r a n c b st cs :=
  ⟨below_blk hb hs.ey hs.ey.lt, below_blk hb hs.sp hs.sp.lt, below_blk hb hs.rs hs.rs.lt, hs.at_, hs.bel.trans (hb.mono hs.bel.size), hs.rb, hs.pq, hs.rp, hs.rq, hs.lp, hs.lq⟩
theorem GS.drew (hs : GS w0 w p q r a n c b st cs) : GS w0 w.drew p q r a n c b st cs := ⟨hs.ey, hs.sp, hs.rs, hs.at_, hs.bel.drew, hs.rb, hs.pq, hs.rp, hs.rq, hs.lp, hs.lq⟩
theorem convU8 {x : Nat} (hx : x < 256) (h : K (.int .u8 (x : Int)) w) : conv Tryz.prog 22 5 (.int .u64 (x : Int)) K w := by
  refine conv_int Tryz.underlying22 Tryz.underlying5 ?_
  rw [wrap_u8, show ((x : Int) % 256) = x by omega]
  exact h
theorem convAm {x : Int} (h : K (.int .i64 (IntKind.i64.wrap x)) w) : conv Tryz.prog 22 2 (.int .u64 x) K w := conv_int Tryz.underlying22 Tryz.underlying2 h
theorem info_int3 : (Tryz.prog.info? 3).map (fun i => (i.zero, i.size, i.bytes)) = some (some (.int .i64 0), 1, 8) := by kernel_rfl
abbrev ON (w : World) (B : Nat) (a : Option Addr) (n c : Nat) (l : List Int) : Prop := OV w B 3 a n c (l.map i6)
abbrev RH (w : World) (B : Nat) (a : Option Addr) (n c : Nat) (l : List Int) : Prop := RN w a n c l ∧ ∀ q, q < n → B ≤ (slotA a q).block
theorem ON.rh {w : World} {B B0 : Nat} {a : Option Addr} {n c : Nat} {l : List Int} (h : ON w B a n c l) (hB : B0 ≤ B) : RH w B0 a n c l :=
  ⟨OV.rv h, fun q hq => by
    rcases h.2 with ⟨hv, hn⟩ | ⟨g, cap, cur, hv, hg, _⟩
    · omega
    · simp only [Value.slice.injEq] at hv
      rw [hv.1]
      show B0 ≤ g
      omega⟩
theorem apN {cs : Array Bool} {ty : TypeId} {B n c g : Nat} {a : Option Addr} {l : List Int} {x : Int} (ho : ON w B a n c l) (hg : blk w g 3 [i6 x]) (hB : B ≤ w.heap.size) (hn : n ≤ 1000)
    (h : ∀ a' c' w', ON w' B a' (n + 1) c' (l ++ [x]) → w.grownBy w' (Value.slice a n c).ownBlock → K (.slice a' (n + 1) c') w') :
    blt Tryz.prog .append #[25, 25] ty cs #[.slice a n c, .slice (some ⟨g, 0, none⟩) 1 1] K w := by
  obtain ⟨i, hi, hz, hsz, hby⟩ := info_parts info_int3
  refine appA (base := B) (s := 1) (m := 1) (ys := [i6 x]) Tryz.underlying25 hi hz hsz hby rfl (by omega) ho hg rfl (by simp [i6, Value.oneCell']) (by omega) (by omega) hB ?_
  intro a' c' w' ho' hgr _
  exact h a' c' w' (by simpa [OV] using ho') hgr
theorem pksE_len (b : List UInt8) : ∀ (m : Nat) (st : EyS), (pksE b m st).1.length ≤ m
  | 0, st => by simp [pksE]
  | m + 1, st => by
    unfold pksE
    split
    · simp
    · have := pksE_len b m (gtE b st 1).2
      simp; omega
theorem lenB8 {ty : TypeId} {cs : Array Bool} {a : Option Addr} {n c : Nat} (h : K (.int .i64 (n : Int)) w) : blt Tryz.prog .len #[28] ty cs #[.slice a n c] K w := len_slc Tryz.underlying28 h
theorem retM_ct {t : TypeId} {ad : Addr} {v u : Value} (hl : ∀ K' : KV, K' v w → ld Tryz.prog t (.pointer (some ad)) K' w) (h : K (.tuple #[v, u]) w) : retM Tryz.prog [(some t, .pointer (some ad)), (none, u)] K w := by
  have h1 : (loadVar t ad).run Tryz.prog w = .ok v w := by
    have := hl (fun v' w' => v' = v ∧ w' = w) ⟨rfl, rfl⟩
    unfold ld okV at this
    unfold Instr.loadAt at this
    simp only [Instr.sureAddr, Sem.run_bind, Sem.run_pure, Result.andThen_ok] at this
    split at this
    · rename_i v' w' hrun; rw [hrun, this.1, this.2]
    · exact this.elim
  unfold retM
  have : (resSem [(some t, .pointer (some ad)), (none, u)]).run Tryz.prog w = .ok (.tuple #[v, u]) w := by simp [resSem, asAddr, Sem.run_bind, h1]
  rw [this]; exact ⟨rfl, h⟩
set_option maxHeartbeats 1000000 in
theorem getP1_c {B : Nat} {b0 b1 t2 t3 y4 s5 n6 t7 t8 t9 t10 t11 t12 t13 t14 t15 t16 t17 t18 t19 t20 t21 t22 t23 t24 t25 t26 t27 t28 t29 t30 t31 t32 t33 t34 t35 t36 t37 t38 t39 t40 t41 t42 t43 t44 t45 t46 t47 t48 t49 t50 t51 t52 t53 t54 t55 t56 t57 t58 t59 t60 t61 t62 t63 t64 t65 t66 t67 t68 t69 t70 t71 t72 t73 t74 t75 t76 t77 t78 t79 t80 t81 t82 t83 t84 t85 t86 t87 t88 t89 t90 t91 t92 : Value} {s : STP} {av : Option Addr} {cv : Nat} (hs : GS w0 w p q r a n c b st (stC s (.slice av s.picks.length cv))) (hw : STW s) (hlen : b.length = n) (hn : n ≤ 4611686018427387904) (hon : ON w B av s.picks.length cv s.picks) (hpl : s.picks.length ≤ 1000)
    (h0 : ∀ w', (st.2 = true ∨ st.1 ≠ b.length ∨ mayT s = false) → Below w0.heap.size w0 w' → K (.tuple #[.agg stp0.toArray, .int .i64 5]) w')
    (h1 : ∀ w', st.2 = false → st.1 = b.length → mayT s = true → Below w0.heap.size w0 w' → RH w' w0.heap.size av s.picks.length cv s.picks → K (.tuple #[.agg (stC s (.slice av s.picks.length cv)).toArray, .int .i64 0]) w')
    (hr0 : r = w0.heap.size) (hrB : r < B) (e1 : y4 = .pointer (some ⟨p, 0, none⟩)) (e2 : s5 = .pointer (some ⟨q, 0, none⟩)) (e3 : t2 = .pointer (some ⟨r, 0, none⟩)) (e4 : b0 = .slice a n c) : trace_Get_P1 K ((b0 :: b1 :: t2 :: t3 :: y4 :: s5 :: n6 :: t7 :: t8 :: t9 :: t10 :: t11 :: t12 :: t13 :: t14 :: t15 :: t16 :: t17 :: t18 :: t19 :: t20 :: t21 :: t22 :: t23 :: t24 :: t25 :: t26 :: t27 :: t28 :: t29 :: t30 :: t31 :: t32 :: t33 :: t34 :: t35 :: t36 :: t37 :: t38 :: t39 :: t40 :: t41 :: t42 :: t43 :: t44 :: t45 :: t46 :: t47 :: t48 :: t49 :: t50 :: t51 :: t52 :: t53 :: t54 :: t55 :: t56 :: t57 :: t58 :: t59 :: t60 :: t61 :: t62 :: t63 :: t64 :: t65 :: t66 :: t67 :: t68 :: t69 :: t70 :: t71 :: t72 :: t73 :: t74 :: t75 :: t76 :: t77 :: t78 :: t79 :: t80 :: t81 :: t82 :: t83 :: t84 :: t85 :: t86 :: t87 :: t88 :: t89 :: t90 :: t91 :: t92 :: [])) w := by
  subst e1 e2 e3 e4
  refine trace_Get_P1_r ?_
  have hey := hs.ey
  obtain ⟨i, sp⟩ := st
  refine nilC_p ?_
  refine fA_Eye_2 ?_
  refine ld1 (v := .bool sp) (fun _ => by kernel_rfl) hey rfl ?_
  -- what is handed back
  have no : ∀ {w1 : World}, GS w0 w1 p q r a n c b (i, sp) (stC s (.slice av s.picks.length cv)) → (sp = true ∨ i ≠ b.length ∨ mayT s = false) → bld Tryz.prog 27 #[] (fun t91 w => sto Tryz.prog 27 (.pointer (some ⟨r, 0, none⟩)) t91 (fun _t w => retM Tryz.prog [(some 27, .pointer (some ⟨r, 0, none⟩)), (none, (.int .i64 5))] K w) w) w1 := by
    intro w1 hs1 hbad
    refine bld_of (vs := stp0) (by kernel_rfl) ?_
    refine stoA (n := 12) (vs := stp0) (by kernel_rfl) rfl hs1.rs (by simp [stp0]) (by simp [stp0, i6, Value.oneCell']) ?_
    intro w2 h2 o2
    refine retM_ct (v := .agg stp0.toArray) (fun K' hK' => ldA (n := 12) (vs := stp0) Tryz.underlying27 rfl (by kernel_rfl) h2 rfl rfl hK') ?_
    exact h0 w2 hbad (oth_below hs1.bel o2 (by omega))
  have yes : ∀ {w1 : World}, GS w0 w1 p q r a n c b (i, sp) (stC s (.slice av s.picks.length cv)) → ON w1 B av s.picks.length cv s.picks → sp = false → i = b.length → mayT s = true → ld Tryz.prog 27 (.pointer (some ⟨q, 0, none⟩)) (fun t92 w => sto Tryz.prog 27 (.pointer (some ⟨r, 0, none⟩)) t92 (fun _t w => retM Tryz.prog [(some 27, .pointer (some ⟨r, 0, none⟩)), (none, (.int .i64 0))] K w) w) w1 := by
    intro w1 hs1 hrn1 x1 x2 x3
    refine ldA (n := 12) (vs := stC s (.slice av s.picks.length cv)) Tryz.underlying27 rfl (by kernel_rfl) hs1.sp rfl rfl ?_
    refine stoA (n := 12) (vs := stC s (.slice av s.picks.length cv)) (by kernel_rfl) rfl hs1.rs (by simp [stp0]) (by simp [stC, i6, Value.oneCell']) ?_
    intro w2 h2 o2
    refine retM_ct (v := .agg (stC s (.slice av s.picks.length cv)).toArray) (fun K' hK' => ldA (n := 12) (vs := stC s (.slice av s.picks.length cv)) Tryz.underlying27 rfl (by kernel_rfl) h2 rfl rfl hK') ?_
    refine h1 w2 x1 x2 x3 (oth_below hs1.bel o2 (by omega)) (ON.rh (ownS hrn1 fun k hk => o2.other k ?_) (by omega))
    have := (OV.block hrn1 k hk).1
    omega
  cases sp with
  | true =>
    refine gsel_Tn ?_
    refine pick_T ?_
    refine gsel_Tn ?_
    refine pick_T ?_
    refine cond_T ?_
    exact no hs (.inl rfl)
  | false =>
    refine gsel_Fn ?_
    refine nilC_p ?_
    refine fA_Eye_1 ?_
    refine ld1 (v := i6 i) (fun _ => by kernel_rfl) hey rfl ?_
    refine lenB8 ?_
    unfold i6
    refine bin_neq ?_
    refine pick_F ?_
    by_cases hi : i = n
    · refine gsel_nf (by simp; omega) ?_
      refine ldA (n := 12) (vs := stC s (.slice av s.picks.length cv)) Tryz.underlying27 rfl (by kernel_rfl) hs.sp rfl rfl ?_
      refine tmay_c hw (OV.rv hon) (by omega) ?_
      intro w2 b2
      have hs2 := hs.fresh b2
      have hon2 : ON w2 B av s.picks.length cv s.picks := ownS hon fun k hk => b2.block k (OV.block hon k hk).2
      refine un_not ?_
      refine pick_f (by simp; omega) ?_
      cases hm : mayT s with
      | false =>
        rw [Bool.not_false]
        refine cond_T ?_
        exact no hs2 (.inr (.inr hm))
      | true =>
        rw [Bool.not_true]
        refine cond_F ?_
        exact yes hs2 hon2 rfl (by omega) hm
    · refine gsel_nt (by simp; omega) ?_
      refine pick_t (by simp; omega) ?_
      refine cond_T ?_
      exact no hs (.inr (.inl (by omega)))
set_option maxHeartbeats 4000000 in
theorem tget_c (hr : RB w a n c b) (hn : n ≤ 4611686018427387904)
    (h : ∀ w' v, Below w.heap.size w w' → (match getP b with | none => v = .tuple #[.agg stp0.toArray, .int .i64 5] | some s => ∃ a' c', RH w' w.heap.size a' s.picks.length c' s.picks ∧ v = .tuple #[.agg (stC s (.slice a' s.picks.length c')).toArray, .int .i64 0]) → K v w') :
    call Tryz.prog 12 #[.slice a n c] K w := by
  have hlen := hr.len
  refine call_of trace_Get_go (trace_Get_in ?_)
  refine alc_of (z := .agg stp0.toArray) (by kernel_rfl) fun w1 hr1 b1 s1 => ?_
  have hr1 : blk w1 w.heap.size 27 stp0 := hr1
  refine bld_of (vs := eyC a n c (0, false)) (by kernel_rfl) ?_
  refine box_of fun w2 hp2 b2 s2 => ?_
  have hp2 : blk w2 w1.heap.size 75 (eyC a n c (0, false)) := hp2
  refine alc_of (z := .agg stp0.toArray) (by kernel_rfl) fun w3 hq3 b3 s3 => ?_
  have hq3 : blk w3 w2.heap.size 27 stp0 := hq3
  have hs : GS w w3 w1.heap.size w2.heap.size w.heap.size a n c b (0, false) stp0 :=
    ⟨below_blk b3 hp2 (by omega), hq3, below_blk b3 (below_blk b2 hr1 (by omega)) (by omega), Nat.zero_le _, (b1.trans (b2.mono (by omega))).trans (b3.mono (by omega)), hr, by omega, by omega, by omega, by omega, by omega⟩
  generalize w1.heap.size = p at *
  generalize w2.heap.size = q at *
  clear b1 b2 b3 hr1 hp2 hq3 s1 s2
  have hn63 : n ≤ 9223372036854775807 := by omega
  have lt1 : ∀ st : EyS, (gtE b st 1).1 < 256 := fun st => gtE_lt
  -- Do
  refine gs_get 1 hs hn63 (by simp) rfl fun w4 h4 => ?_
  refine convU8 (lt1 _) ?_
  refine fA_Stp_0 ?_
  refine gs_sto h4 (fun _ => by kernel_rfl) (by simp [stp0]) rfl fun w5 h5 _ => ?_
  -- Who, J, K, N
  refine gs_less 2 h5 hn63 (by simp) rfl fun w6 h6 _ => ?_
  refine gs_less 2 h6 hn63 (by simp) rfl fun w7 h7 _ => ?_
  refine gs_less 2 h7 hn63 (by simp) rfl fun w8 h8 _ => ?_
  refine gs_less 4 h8 hn63 (by simp) rfl fun w9 h9 _ => ?_
  refine fA_Stp_1 ?_
  refine gs_sto h9 (fun _ => by kernel_rfl) (by simp [stp0]) rfl fun w10 h10 _ => ?_
  refine fA_Stp_4 ?_
  refine gs_sto h10 (fun _ => by kernel_rfl) (by simp [stp0]) rfl fun w11 h11 _ => ?_
  refine fA_Stp_3 ?_
  refine gs_sto h11 (fun _ => by kernel_rfl) (by simp [stp0]) rfl fun w12 h12 _ => ?_
  refine fA_Stp_5 ?_
  refine gs_sto h12 (fun _ => by kernel_rfl) (by simp [stp0]) rfl fun w13 h13 _ => ?_
  -- Kind, Node, To
  refine trace_Get_A1_r ?_
  refine gs_get 1 h13 hn63 (by simp) rfl fun w14 h14 => ?_
  refine convU8 (lt1 _) ?_
  refine gs_get 8 h14 hn63 (by simp) rfl fun w15 h15 => ?_
  refine gs_less 2 h15 hn63 (by simp) rfl fun w16 h16 _ => ?_
  refine fA_Stp_2 ?_
  refine fA_Tas_0 ?_
  refine gs_sto h16 (fun _ => by kernel_rfl) (by simp [stp0]) rfl fun w17 h17 _ => ?_
  refine fA_Stp_2 ?_
  refine fA_Tas_1 ?_
  refine gs_sto h17 (fun _ => by kernel_rfl) (by simp [stp0]) rfl fun w18 h18 _ => ?_
  refine fA_Stp_2 ?_
  refine fA_Tas_2 ?_
  refine gs_sto h18 (fun _ => by kernel_rfl) (by simp [stp0]) rfl fun w19 h19 _ => ?_
  -- Amount, Req, Of
  refine gs_get 8 h19 hn63 (by simp) rfl fun w20 h20 => ?_
  refine bin_sub ?_
  refine convAm ?_
  refine fA_Stp_2 ?_
  refine fA_Tas_3 ?_
  refine gs_sto h20 (fun _ => by kernel_rfl) (by simp [stp0]) rfl fun w21 h21 _ => ?_
  refine gs_get 8 h21 hn63 (by simp) rfl fun w22 h22 => ?_
  refine gs_get 8 h22 hn63 (by simp) rfl fun w23 h23 => ?_
  refine fA_Stp_2 ?_
  refine fA_Tas_4 ?_
  refine gs_sto h23 (fun _ => by kernel_rfl) (by simp [stp0]) rfl fun w24 h24 _ => ?_
  refine fA_Stp_2 ?_
  refine fA_Tas_5 ?_
  refine gs_sto h24 (fun _ => by kernel_rfl) (by simp [stp0]) rfl fun w25 h25 _ => ?_
  refine trace_Get_A2_r ?_
  refine gs_get 1 h25 hn63 (by simp) rfl fun w26 h26 => ?_
  have hs0 : GS w w26 p q w.heap.size a n c b (rdsT b (0, false)).st (stC (stpT (rdsT b (0, false)) []) (.slice none 0 0)) := h26
  clear hs h4 h5 h6 h7 h8 h9 h10 h11 h12 h13 h14 h15 h16 h17 h18 h19 h20 h21 h22 h23 h24 h25 h26
  have hgp : getP b = if (pksE b (rdsT b (0, false)).cnt (rdsT b (0, false)).st).2.2 = false ∧ (pksE b (rdsT b (0, false)).cnt (rdsT b (0, false)).st).2.1 = b.length ∧ mayT (stpT (rdsT b (0, false)) (pksE b (rdsT b (0, false)).cnt (rdsT b (0, false)).st).1) = true then some (stpT (rdsT b (0, false)) (pksE b (rdsT b (0, false)).cnt (rdsT b (0, false)).st).1) else none := rfl
  have hcnt : (rdsT b (0, false)).cnt < 256 := lt1 _
  have hSW : ∀ l, STW (stpT (rdsT b (0, false)) l) := fun l => ⟨by have : (rdsT b (0, false)).d < 256 := lt1 _; simp only [stpT]; omega, by have : (rdsT b (0, false)).kind < 256 := lt1 _; simp only [stpT]; omega,
    by have : (rdsT b (0, false)).node < 256 ^ 8 := gtE_lt; simp only [stpT]; omega, by have : (rdsT b (0, false)).req < 256 ^ 8 := gtE_lt; simp only [stpT]; omega, by have : (rdsT b (0, false)).of_ < 256 ^ 8 := gtE_lt; simp only [stpT]; omega⟩
  show trace_Get_L1 K _ w26
  have hcn : (gtE b (gtE b (gtE b (gtE b (gtE b (gtE b (gtE b (gtE b (gtE b (gtE b (gtE b (gtE b (0, false) 1).2 2).2 2).2 2).2 4).2 1).2 8).2 2).2 8).2 8).2 8).2 1).1 = (rdsT b (0, false)).cnt := rfl
  rw [hcn]
  have hpl := pksE_len b (rdsT b (0, false)).cnt (rdsT b (0, false)).st
  generalize hfull : pksE b (rdsT b (0, false)).cnt (rdsT b (0, false)).st = full at hgp hpl
  refine trace_Get_L1_r (Inv := fun i _ _ _ _ _ wr => ∃ (m : Nat) (acc : List Int) (st : EyS) (a' : Option Addr) (c' : Nat), i = .int .u64 (m : Nat) ∧ GS w wr p q w.heap.size a n c b st (stC (stpT (rdsT b (0, false)) acc) (.slice a' acc.length c')) ∧ ON wr w26.heap.size a' acc.length c' acc ∧
      (acc ++ (pksE b m st).1, (pksE b m st).2) = full ∧ acc.length + m ≤ 256 ∧ w26.heap.size ≤ wr.heap.size)
    (μ := fun i _ _ _ _ _ _ => (intOf i).toNat) ⟨(rdsT b (0, false)).cnt, [], (rdsT b (0, false)).st, none, 0, rfl, hs0, OV.nil _ _ _, by simpa using hfull, by simp; omega, Nat.le_refl _⟩ ?_
  rintro _ _ _ _ _ _ dd w27 m0 ⟨m, acc, st, a', c', rfl, hs1, hon, hf, ham, hsz⟩ hm0
  have hpq := hs0.sp.lt
  have hpp := hs0.ey.lt
  have hrr := hs0.rs.lt
  have fin0 : pksE b m st = ([], st) → full = (acc, st) := fun he => by rw [he] at hf; simpa using hf.symm
  have hW1 := hSW acc
  have fin1 : pksE b m st = ([], st) → ∀ w', (st.2 = true ∨ st.1 ≠ b.length ∨ mayT (stpT (rdsT b (0, false)) acc) = false) → Below w.heap.size w w' → K (.tuple #[.agg stp0.toArray, .int .i64 5]) w' := by
    intro he w' hbad hb
    refine h w' _ hb ?_
    have hfl := fin0 he
    rw [hfl] at hgp
    rw [hgp, if_neg (by
      rintro ⟨x1, x2, x3⟩
      rcases hbad with y | y | y
      · rw [y] at x1; cases x1
      · exact y x2
      · rw [y] at x3; cases x3)]
  have fin2 : pksE b m st = ([], st) → ∀ w', st.2 = false → st.1 = b.length → mayT (stpT (rdsT b (0, false)) acc) = true → Below w.heap.size w w' → RH w' w.heap.size a' acc.length c' acc → K (.tuple #[.agg (stC (stpT (rdsT b (0, false)) acc) (.slice a' acc.length c')).toArray, .int .i64 0]) w' := by
    intro he w' x1 x2 x3 hb hrn
    refine h w' _ hb ?_
    have hfl := fin0 he
    rw [hfl] at hgp
    rw [hgp, if_pos ⟨x1, x2, x3⟩]
    exact ⟨a', c', hrn, rfl⟩
  have hal : acc.length ≤ 1000 := by omega
  have hey := hs1.ey
  have hpick : (stpT (rdsT b (0, false)) acc).picks = acc := rfl
  refine bin_gtr ?_
  by_cases hm : m = 0
  · subst hm
    refine gsel_pf (by simp) ?_
    refine pick_f (by simp) ?_
    refine cond_F ?_
    exact getP1_c (s := stpT (rdsT b (0, false)) acc) hs1 hW1 hlen hn hon hal (fin1 rfl) (fin2 rfl) rfl hrr rfl rfl rfl rfl
  refine gsel_pt (by omega) ?_
  refine nilC_p ?_
  refine fA_Eye_2 ?_
  obtain ⟨i, sp⟩ := st
  refine ld1 (v := .bool sp) (fun _ => by kernel_rfl) hey rfl ?_
  refine un_not ?_
  refine pick_t (by omega) ?_
  cases sp with
  | true =>
    rw [Bool.not_true]
    refine cond_F ?_
    have he : pksE b m (i, true) = ([], (i, true)) := by cases m <;> rfl
    exact getP1_c (s := stpT (rdsT b (0, false)) acc) hs1 hW1 hlen hn hon hal (fin1 he) (fin2 he) rfl hrr rfl rfl rfl rfl
  | false =>
    rw [Bool.not_false]
    refine cond_T ?_
    obtain ⟨m, rfl⟩ := Nat.exists_eq_succ_of_ne_zero hm
    have he : pksE b (m + 1) (i, false) = ((((gtE b (i, false) 1).1 : Int) - 1) :: (pksE b m (gtE b (i, false) 1).2).1, (pksE b m (gtE b (i, false) 1).2).2) := rfl
    rw [Nat.succ_eq_add_one, he] at hf
    generalize hg : ((gtE b (i, false) 1).1 : Int) - 1 = x at hf
    refine hReg_of (fun z => blk z q 27 (stC (stpT (rdsT b (0, false)) acc) (.slice a' acc.length c'))) hs1.drew.sp ?_
    refine hld_of (fun z hz K hK => fA_Stp_6 hK) ?_
    refine hld_of (v := .slice a' acc.length c') (fun z hz K hK => ld1 (fun _ => by kernel_rfl) hz rfl hK) ?_
    refine gs_less 1 hs1.drew hn63 (by simp) rfl fun w28 h28 o28 => ?_
    rw [hg]
    refine hSub_same h28.sp ?_
    have hon28 : ON w28 w26.heap.size a' acc.length c' acc := ownS hon fun k hk => o28.other k (by have := (OV.block hon k hk).1; omega)
    refine bldSG (vs := [i6 x]) Tryz.underlying25 (s := 1) (by kernel_rfl) (by kernel_rfl) (by omega) rfl (by simp) (by simp) (by simp) (by simp [Value.cells, i6]) ?_
    intro w29 hb29 b29 s29
    have hb29 : blk w29 w28.heap.size 3 [i6 x] := by simpa [Value.cells, i6] using hb29
    have h29 := h28.fresh b29
    refine hSub_same h29.sp ?_
    have hon29 : ON w29 w26.heap.size a' acc.length c' acc := ownS hon28 fun k hk => b29.block k (OV.block hon28 k hk).2
    have hsz28 : w28.heap.size = w27.heap.size := o28.size
    refine apN hon29 hb29 (by omega) (by omega) ?_
    intro a2 c2 w30 hon30 g30
    have hne : ∀ {k : Nat} {E : TypeId} {cs : List Value}, blk w29 k E cs → k < w26.heap.size → blk w30 k E cs := by
      intro k E cs hb hk
      unfold blk
      rw [g30.block k hb.lt (fun e => by have := (OV.block hon29 k e.symm).1; omega)]
      exact hb
    have b30 : Below w26.heap.size w29 w30 := below_of_grown g30 (by omega) (fun k hk => (OV.block hon29 k hk).1)
    have h30 : GS w w30 p q w.heap.size a n c b (gtE b (i, false) 1).2 (stC (stpT (rdsT b (0, false)) acc) (.slice a' acc.length c')) :=
      ⟨hne h29.ey hpp, hne h29.sp hpq, hne h29.rs hrr, h29.at_, h29.bel.trans (b30.mono (by omega)), h29.rb, h29.pq, h29.rp, h29.rq, h29.lp, h29.lq⟩
    refine hReg_of (fun _ => True) trivial ?_
    refine hld_of (fun z hz K hK => fA_Stp_6 hK) ?_
    refine gs_sto h30 (fun _ => by kernel_rfl) (by simp [stC]) rfl fun w31 h31 o31 => ?_
    have hon31 : ON w31 w26.heap.size a2 (acc.length + 1) c2 (acc ++ [x]) := ownS hon30 fun k hk => o31.other k (by have := (OV.block hon30 k hk).1; omega)
    refine bin_sub ?_
    rw [wrap_u64, show (((m.succ : Nat) : Int) - 1) % 18446744073709551616 = (m : Nat) by omega]
    have hs30 : w29.heap.size ≤ w30.heap.size := b30.size
    refine ⟨⟨m, acc ++ [x], (gtE b (i, false) 1).2, a2, c2, rfl, ?_, ?_, ?_, by simp; omega, by rw [o31.size]; omega⟩, by rw [hm0]; simp [intOf]⟩
    · rw [List.length_append, List.length_singleton]; exact h31
    · rw [List.length_append, List.length_singleton]; exact hon31
    · rw [← hf]; simp
end
end Go.Proofs.YtfjafbbalohmhaaGreatDoor
