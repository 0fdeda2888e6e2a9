/- Written by program (gen.py): what the code of some functions asks, part by part; each text is checked by the kernel against the translation. -/
import Derived.Test.YtjkmblbonambjaaSh
import Derived.Test.YtjkmblbonambjaaChecked
namespace Go.Proofs.Ytjkmblbonambjaa
open Go.RowKit
set_option maxRecDepth 100000

def leatlaw05_JournalFresh_P1 (K : KV) : KE := cCode Try.prog (cd Try.f7 [1, 1, 1, 1]) (retK Try.prog Try.f7.results.toList K) (fun _ _ _ => False) (retK Try.prog Try.f7.results.toList K)
def leatlaw05_JournalFresh_L1 (K : KV) : KE := cCode Try.prog (cd Try.f7 [1, 1, 1, 0, 1, 0]) (leatlaw05_JournalFresh_P1 K) (fun i => @Bool.rec (fun _ => KE) ((fun _ _ _ => False) i) (leatlaw05_JournalFresh_P1 K) (Nat.beq i 0)) (retK Try.prog Try.f7.results.toList K)
def leatlaw05_JournalFresh_P2 (K : KV) : KE := cCode Try.prog (cd Try.f7 [1, 1, 1, 1, 1, 1, 1, 1, 1, 1, 1]) (retK Try.prog Try.f7.results.toList K) (fun _ _ _ => False) (retK Try.prog Try.f7.results.toList K)
def leatlaw05_JournalFresh_L2 (K : KV) : KE := cCode Try.prog (cd Try.f7 [1, 1, 1, 1, 1, 1, 1, 1, 1, 1, 0, 1, 0]) (leatlaw05_JournalFresh_P2 K) (fun i => @Bool.rec (fun _ => KE) ((fun _ _ _ => False) i) (leatlaw05_JournalFresh_P2 K) (Nat.beq i 2)) (retK Try.prog Try.f7.results.toList K)
theorem leatlaw05_JournalFresh_k {K : KV} {old0 fresh1 more2 : Value} {w : World}
    (h : blt Try.prog Builtin.len #[50] 3 #[false] #[old0] (fun A6 w =>
    blt Try.prog Builtin.len #[50] 3 #[false] #[fresh1] (fun A8 w =>
    bin Try.prog BinOp.add 3 false false A6 A8 (fun A9 w =>
    blt Try.prog Builtin.len #[50] 3 #[false] #[more2] (fun C1 w =>
    bin Try.prog BinOp.add 3 false false A9 C1 (fun C2 w =>
    bin Try.prog BinOp.gtr 3 false true C2 (Value.int IntKind.i64 60) (fun C3 w =>
    cond C3
      (call Try.prog 20 #[] (fun C4 w =>
      K C4 w) w)
      (bldS Try.prog 50 0 #[] (fun C5 w =>
    blt Try.prog Builtin.append #[50, 50] 50 #[false, false] #[C5, old0] (fun C7 w =>
    blt Try.prog Builtin.append #[50, 50] 50 #[false, false] #[C7, fresh1] (fun C9 w =>
    blt Try.prog Builtin.append #[50, 50] 50 #[false, false] #[C9, more2] (fun D1 w =>
    (cCode Try.prog (cd Try.f7 [1, 1, 1, 0, 1, 0]) (cCode Try.prog (cd Try.f7 [1, 1, 1, 1]) (retK Try.prog Try.f7.results.toList K) (fun _ _ _ => False) (retK Try.prog Try.f7.results.toList K)) (fun i => @Bool.rec (fun _ => KE) ((fun _ _ _ => False) i) (cCode Try.prog (cd Try.f7 [1, 1, 1, 1]) (retK Try.prog Try.f7.results.toList K) (fun _ _ _ => False) (retK Try.prog Try.f7.results.toList K)) (Nat.beq i 0)) (retK Try.prog Try.f7.results.toList K)) (old0::fresh1::more2::undef::undef::undef::(Value.bool false)::D1::(Value.int IntKind.i64 0)::undef::undef::undef::undef::undef::undef::undef::undef::undef::undef::undef::undef::undef::undef::undef::old0::A6::fresh1::A8::A9::more2::C1::C2::C3::undef::C5::old0::C7::fresh1::C9::more2::D1::undef::undef::undef::undef::undef::undef::undef::undef::undef::undef::undef::undef::undef::undef::undef::undef::undef::undef::undef::undef::undef::undef::undef::undef::undef::undef::undef::undef::undef::undef::undef::undef::undef::undef::undef::undef::undef::undef::undef::undef::undef::undef::undef::undef::undef::undef::undef::undef::undef::undef::undef::undef::undef::undef::undef::undef::undef::undef::undef::undef::undef::undef::undef::undef::undef::undef::undef::undef::undef::undef::undef::undef::undef::undef::undef::undef::undef::undef::undef::undef::undef::undef::undef::undef::undef::undef::undef::undef::undef::undef::undef::undef::undef::undef::undef::undef::undef::undef::undef::undef::undef::undef::undef::undef::undef::undef::undef::undef::undef::undef::undef::undef::undef::undef::undef::undef::undef::[]) w) w) w) w) w)) w) w) w) w) w) w) :
    cCode Try.prog (cd Try.f7 []) (retK Try.prog Try.f7.results.toList K) (fun _ _ _ => False) (retK Try.prog Try.f7.results.toList K) (old0::fresh1::more2::undef::undef::undef::undef::undef::undef::undef::undef::undef::undef::undef::undef::undef::undef::undef::undef::undef::undef::undef::undef::undef::undef::undef::undef::undef::undef::undef::undef::undef::undef::undef::undef::undef::undef::undef::undef::undef::undef::undef::undef::undef::undef::undef::undef::undef::undef::undef::undef::undef::undef::undef::undef::undef::undef::undef::undef::undef::undef::undef::undef::undef::undef::undef::undef::undef::undef::undef::undef::undef::undef::undef::undef::undef::undef::undef::undef::undef::undef::undef::undef::undef::undef::undef::undef::undef::undef::undef::undef::undef::undef::undef::undef::undef::undef::undef::undef::undef::undef::undef::undef::undef::undef::undef::undef::undef::undef::undef::undef::undef::undef::undef::undef::undef::undef::undef::undef::undef::undef::undef::undef::undef::undef::undef::undef::undef::undef::undef::undef::undef::undef::undef::undef::undef::undef::undef::undef::undef::undef::undef::undef::undef::undef::undef::undef::undef::undef::undef::undef::undef::undef::undef::undef::undef::undef::undef::[]) w := Eq.mp (by kernel_rfl) h

theorem leatlaw05_JournalFresh_in {K : KV} {old0 fresh1 more2 : Value} {w : World}
    (h : blt Try.prog Builtin.len #[50] 3 #[false] #[old0] (fun A6 w =>
    blt Try.prog Builtin.len #[50] 3 #[false] #[fresh1] (fun A8 w =>
    bin Try.prog BinOp.add 3 false false A6 A8 (fun A9 w =>
    blt Try.prog Builtin.len #[50] 3 #[false] #[more2] (fun C1 w =>
    bin Try.prog BinOp.add 3 false false A9 C1 (fun C2 w =>
    bin Try.prog BinOp.gtr 3 false true C2 (Value.int IntKind.i64 60) (fun C3 w =>
    cond C3
      (call Try.prog 20 #[] (fun C4 w =>
      K C4 w) w)
      (bldS Try.prog 50 0 #[] (fun C5 w =>
    blt Try.prog Builtin.append #[50, 50] 50 #[false, false] #[C5, old0] (fun C7 w =>
    blt Try.prog Builtin.append #[50, 50] 50 #[false, false] #[C7, fresh1] (fun C9 w =>
    blt Try.prog Builtin.append #[50, 50] 50 #[false, false] #[C9, more2] (fun D1 w =>
    (leatlaw05_JournalFresh_L1 K) (old0::fresh1::more2::undef::undef::undef::(Value.bool false)::D1::(Value.int IntKind.i64 0)::undef::undef::undef::undef::undef::undef::undef::undef::undef::undef::undef::undef::undef::undef::undef::old0::A6::fresh1::A8::A9::more2::C1::C2::C3::undef::C5::old0::C7::fresh1::C9::more2::D1::undef::undef::undef::undef::undef::undef::undef::undef::undef::undef::undef::undef::undef::undef::undef::undef::undef::undef::undef::undef::undef::undef::undef::undef::undef::undef::undef::undef::undef::undef::undef::undef::undef::undef::undef::undef::undef::undef::undef::undef::undef::undef::undef::undef::undef::undef::undef::undef::undef::undef::undef::undef::undef::undef::undef::undef::undef::undef::undef::undef::undef::undef::undef::undef::undef::undef::undef::undef::undef::undef::undef::undef::undef::undef::undef::undef::undef::undef::undef::undef::undef::undef::undef::undef::undef::undef::undef::undef::undef::undef::undef::undef::undef::undef::undef::undef::undef::undef::undef::undef::undef::undef::undef::undef::undef::undef::undef::undef::undef::undef::undef::undef::undef::undef::undef::undef::undef::[]) w) w) w) w) w)) w) w) w) w) w) w) :
    Gives Try.prog 7 #[old0, fresh1, more2] w K := enter' Try.func7 (by kernel_rfl) (Eq.mp (congrArg (fun c => cCode Try.prog c (retK Try.prog Try.f7.results.toList K) (fun _ _ _ => False) (retK Try.prog Try.f7.results.toList K) (old0::fresh1::more2::undef::undef::undef::undef::undef::undef::undef::undef::undef::undef::undef::undef::undef::undef::undef::undef::undef::undef::undef::undef::undef::undef::undef::undef::undef::undef::undef::undef::undef::undef::undef::undef::undef::undef::undef::undef::undef::undef::undef::undef::undef::undef::undef::undef::undef::undef::undef::undef::undef::undef::undef::undef::undef::undef::undef::undef::undef::undef::undef::undef::undef::undef::undef::undef::undef::undef::undef::undef::undef::undef::undef::undef::undef::undef::undef::undef::undef::undef::undef::undef::undef::undef::undef::undef::undef::undef::undef::undef::undef::undef::undef::undef::undef::undef::undef::undef::undef::undef::undef::undef::undef::undef::undef::undef::undef::undef::undef::undef::undef::undef::undef::undef::undef::undef::undef::undef::undef::undef::undef::undef::undef::undef::undef::undef::undef::undef::undef::undef::undef::undef::undef::undef::undef::undef::undef::undef::undef::undef::undef::undef::undef::undef::undef::undef::undef::undef::undef::undef::undef::undef::undef::undef::undef::undef::undef::[]) w) (by kernel_rfl : (cd Try.f7 []) = (cd Try.f7 []))) (leatlaw05_JournalFresh_k h))
theorem leatlaw05_JournalFresh_go : isGo Try.prog 7 := ⟨_, Try.func7, by kernel_rfl, by kernel_rfl⟩

theorem leatlaw05_JournalFresh_L1_k {K : KV} (B1 : KE) (qc0 : KE) {old0 fresh1 more2 old3 fresh4 more5 all7 i8' d9 c10 j11 A1 e13 k_14 A2 f16 i17 A3 x19 g20 A4 y22 h23 A5 A6 A7 A8 A9 C0 C1 C2 C3 C4 C5 C6 C7 C8 C9 D0 D1 E5 E6 E7 E8 E9 F0 F1 F2 F3 F4 F5 F6 F7 F8 F9 G0 G1 G2 G3 G4 G5 G6 G7 G8 G9 H0 H1 H2 H3 H4 H5 H6 H7 H8 H9 I0 I1 I2 I3 I4 I5 I6 I7 I8 I9 J0 J1 J2 J3 J4 J5 J6 J7 J8 J9 L0 L1 L2 L3 L4 L5 L6 L7 L8 L9 M0 M1 M2 M3 M4 M5 M6 M7 M8 M9 N0 N1 N2 N3 N4 N5 N6 N7 N8 N9 O0 O1 O2 O3 O4 O5 O6 O7 O8 O9 P0 P1 P2 P3 P4 P5 P6 P7 P8 : Value} {dd : Nat → Value} {w : World}
    (h : blt Try.prog Builtin.len #[50] 3 #[false] #[all7] (fun D4 w =>
    bin Try.prog BinOp.lss 3 false false i8' D4 (fun D5 w =>
    cond D5
      (idxA Try.prog 50 all7 i8' (fun E0 w =>
    ld Try.prog 29 E0 (fun E1 w =>
    blt Try.prog Builtin.len #[29] 3 #[false] #[E1] (fun E2 w =>
    bin Try.prog BinOp.gtr 3 false true E2 (Value.int IntKind.i64 200) (fun E3 w =>
    cond E3
      (call Try.prog 20 #[] (fun E4 w =>
      K E4 w) w)
      (bin Try.prog BinOp.add 3 false true i8' (Value.int IntKind.i64 1) (fun D7 w =>
    B1 (old0::fresh1::more2::old3::fresh4::more5::(dd 6)::all7::D7::d9::c10::j11::A1::e13::k_14::A2::f16::i17::A3::x19::g20::A4::y22::h23::A5::A6::A7::A8::A9::C0::C1::C2::C3::C4::C5::C6::C7::C8::C9::D0::D1::i8'::all7::D4::D5::i8'::D7::all7::i8'::E0::E1::E2::E3::(dd 53)::E5::E6::E7::E8::E9::F0::F1::F2::F3::F4::F5::F6::F7::F8::F9::G0::G1::G2::G3::G4::G5::G6::G7::G8::G9::H0::H1::H2::H3::H4::H5::H6::H7::H8::H9::I0::I1::I2::I3::I4::I5::I6::I7::I8::I9::J0::J1::J2::J3::J4::J5::J6::J7::J8::J9::L0::L1::L2::L3::L4::L5::L6::L7::L8::L9::M0::M1::M2::M3::M4::M5::M6::M7::M8::M9::N0::N1::N2::N3::N4::N5::N6::N7::N8::N9::O0::O1::O2::O3::O4::O5::O6::O7::O8::O9::P0::P1::P2::P3::P4::P5::P6::P7::P8::[]) w) w)) w) w) w) w)
      (qc0 (old0::fresh1::more2::old3::fresh4::more5::(dd 6)::all7::i8'::d9::c10::j11::A1::e13::k_14::A2::f16::i17::A3::x19::g20::A4::y22::h23::A5::A6::A7::A8::A9::C0::C1::C2::C3::C4::C5::C6::C7::C8::C9::D0::D1::i8'::all7::D4::D5::(dd 45)::(dd 46)::(dd 47)::(dd 48)::(dd 49)::(dd 50)::(dd 51)::(dd 52)::(dd 53)::E5::E6::E7::E8::E9::F0::F1::F2::F3::F4::F5::F6::F7::F8::F9::G0::G1::G2::G3::G4::G5::G6::G7::G8::G9::H0::H1::H2::H3::H4::H5::H6::H7::H8::H9::I0::I1::I2::I3::I4::I5::I6::I7::I8::I9::J0::J1::J2::J3::J4::J5::J6::J7::J8::J9::L0::L1::L2::L3::L4::L5::L6::L7::L8::L9::M0::M1::M2::M3::M4::M5::M6::M7::M8::M9::N0::N1::N2::N3::N4::N5::N6::N7::N8::N9::O0::O1::O2::O3::O4::O5::O6::O7::O8::O9::P0::P1::P2::P3::P4::P5::P6::P7::P8::[]) w)) w) w) :
    cCode Try.prog (cd Try.f7 [1, 1, 1, 0, 1, 0, 0]) B1 (fun i => @Bool.rec (fun _ => KE) ((fun _ _ _ => False) i) qc0 (Nat.beq i 0)) (retK Try.prog Try.f7.results.toList K) (old0::fresh1::more2::old3::fresh4::more5::(dd 6)::all7::i8'::d9::c10::j11::A1::e13::k_14::A2::f16::i17::A3::x19::g20::A4::y22::h23::A5::A6::A7::A8::A9::C0::C1::C2::C3::C4::C5::C6::C7::C8::C9::D0::D1::(dd 41)::(dd 42)::(dd 43)::(dd 44)::(dd 45)::(dd 46)::(dd 47)::(dd 48)::(dd 49)::(dd 50)::(dd 51)::(dd 52)::(dd 53)::E5::E6::E7::E8::E9::F0::F1::F2::F3::F4::F5::F6::F7::F8::F9::G0::G1::G2::G3::G4::G5::G6::G7::G8::G9::H0::H1::H2::H3::H4::H5::H6::H7::H8::H9::I0::I1::I2::I3::I4::I5::I6::I7::I8::I9::J0::J1::J2::J3::J4::J5::J6::J7::J8::J9::L0::L1::L2::L3::L4::L5::L6::L7::L8::L9::M0::M1::M2::M3::M4::M5::M6::M7::M8::M9::N0::N1::N2::N3::N4::N5::N6::N7::N8::N9::O0::O1::O2::O3::O4::O5::O6::O7::O8::O9::P0::P1::P2::P3::P4::P5::P6::P7::P8::[]) w := Eq.mp (by kernel_rfl) h

section
variable {old0 fresh1 more2 old3 fresh4 more5 A0 all7 i8 d9 c10 j11 A1 e13 k_14 A2 f16 i17 A3 x19 g20 A4 y22 h23 A5 A6 A7 A8 A9 C0 C1 C2 C3 C4 C5 C6 C7 C8 C9 D0 D1 D2 D3 D4 D5 D6 D7 D8 D9 E0 E1 E2 E3 E4 E5 E6 E7 E8 E9 F0 F1 F2 F3 F4 F5 F6 F7 F8 F9 G0 G1 G2 G3 G4 G5 G6 G7 G8 G9 H0 H1 H2 H3 H4 H5 H6 H7 H8 H9 I0 I1 I2 I3 I4 I5 I6 I7 I8 I9 J0 J1 J2 J3 J4 J5 J6 J7 J8 J9 L0 L1 L2 L3 L4 L5 L6 L7 L8 L9 M0 M1 M2 M3 M4 M5 M6 M7 M8 M9 N0 N1 N2 N3 N4 N5 N6 N7 N8 N9 O0 O1 O2 O3 O4 O5 O6 O7 O8 O9 P0 P1 P2 P3 P4 P5 P6 P7 P8 : Value}
theorem leatlaw05_JournalFresh_L1_r {K : KV} {w : World} (Inv : Value → World → Prop) (μ : Value → World → Nat) (h0 : Inv i8 w)
    (hs : ∀ (i8' : Value) (dd : Nat → Value) (w : World) (m : Nat), Inv i8' w → m = μ i8' w →
    blt Try.prog Builtin.len #[50] 3 #[false] #[all7] (fun D4 w =>
    bin Try.prog BinOp.lss 3 false false i8' D4 (fun D5 w =>
    cond D5
      (idxA Try.prog 50 all7 i8' (fun E0 w =>
    ld Try.prog 29 E0 (fun E1 w =>
    blt Try.prog Builtin.len #[29] 3 #[false] #[E1] (fun E2 w =>
    bin Try.prog BinOp.gtr 3 false true E2 (Value.int IntKind.i64 200) (fun E3 w =>
    cond E3
      (call Try.prog 20 #[] (fun E4 w =>
      K E4 w) w)
      (bin Try.prog BinOp.add 3 false true i8' (Value.int IntKind.i64 1) (fun D7 w =>
    (Inv D7 w ∧ μ D7 w < m)) w)) w) w) w) w)
      ((leatlaw05_JournalFresh_P1 K) (old0::fresh1::more2::old3::fresh4::more5::(dd 6)::all7::i8'::d9::c10::j11::A1::e13::k_14::A2::f16::i17::A3::x19::g20::A4::y22::h23::A5::A6::A7::A8::A9::C0::C1::C2::C3::C4::C5::C6::C7::C8::C9::D0::D1::i8'::all7::D4::D5::(dd 45)::(dd 46)::(dd 47)::(dd 48)::(dd 49)::(dd 50)::(dd 51)::(dd 52)::(dd 53)::E5::E6::E7::E8::E9::F0::F1::F2::F3::F4::F5::F6::F7::F8::F9::G0::G1::G2::G3::G4::G5::G6::G7::G8::G9::H0::H1::H2::H3::H4::H5::H6::H7::H8::H9::I0::I1::I2::I3::I4::I5::I6::I7::I8::I9::J0::J1::J2::J3::J4::J5::J6::J7::J8::J9::L0::L1::L2::L3::L4::L5::L6::L7::L8::L9::M0::M1::M2::M3::M4::M5::M6::M7::M8::M9::N0::N1::N2::N3::N4::N5::N6::N7::N8::N9::O0::O1::O2::O3::O4::O5::O6::O7::O8::O9::P0::P1::P2::P3::P4::P5::P6::P7::P8::[]) w)) w) w) :
    leatlaw05_JournalFresh_L1 K (old0::fresh1::more2::old3::fresh4::more5::A0::all7::i8::d9::c10::j11::A1::e13::k_14::A2::f16::i17::A3::x19::g20::A4::y22::h23::A5::A6::A7::A8::A9::C0::C1::C2::C3::C4::C5::C6::C7::C8::C9::D0::D1::D2::D3::D4::D5::D6::D7::D8::D9::E0::E1::E2::E3::E4::E5::E6::E7::E8::E9::F0::F1::F2::F3::F4::F5::F6::F7::F8::F9::G0::G1::G2::G3::G4::G5::G6::G7::G8::G9::H0::H1::H2::H3::H4::H5::H6::H7::H8::H9::I0::I1::I2::I3::I4::I5::I6::I7::I8::I9::J0::J1::J2::J3::J4::J5::J6::J7::J8::J9::L0::L1::L2::L3::L4::L5::L6::L7::L8::L9::M0::M1::M2::M3::M4::M5::M6::M7::M8::M9::N0::N1::N2::N3::N4::N5::N6::N7::N8::N9::O0::O1::O2::O3::O4::O5::O6::O7::O8::O9::P0::P1::P2::P3::P4::P5::P6::P7::P8::[]) w := by
  refine loop_rule (cd Try.f7 [1, 1, 1, 0, 1, 0, 0]) [6, 8, 41, 42, 43, 44, 45, 46, 47, 48, 49, 50, 51, 52, 53] (by kernel_rfl) (fun e2 w2 => Inv (gd e2 8) w2) (fun e2 w2 => μ (gd e2 8) w2) h0 ?_
  intro e' w' hI
  have h := hs (gd e' 8) (fun i => gd e' i) w' _ hI rfl
  have h2 : cCode Try.prog (cd Try.f7 [1, 1, 1, 0, 1, 0, 0]) (fun e2 w2 => Inv (gd e2 8) w2 ∧ μ (gd e2 8) w2 < μ (gd e' 8) w') (fun i => @Bool.rec (fun _ => KE) ((fun _ _ _ => False) i) (leatlaw05_JournalFresh_P1 K) (Nat.beq i 0)) (retK Try.prog Try.f7.results.toList K) (old0::fresh1::more2::old3::fresh4::more5::(gd e' 6)::all7::(gd e' 8)::d9::c10::j11::A1::e13::k_14::A2::f16::i17::A3::x19::g20::A4::y22::h23::A5::A6::A7::A8::A9::C0::C1::C2::C3::C4::C5::C6::C7::C8::C9::D0::D1::(gd e' 41)::(gd e' 42)::(gd e' 43)::(gd e' 44)::(gd e' 45)::(gd e' 46)::(gd e' 47)::(gd e' 48)::(gd e' 49)::(gd e' 50)::(gd e' 51)::(gd e' 52)::(gd e' 53)::E5::E6::E7::E8::E9::F0::F1::F2::F3::F4::F5::F6::F7::F8::F9::G0::G1::G2::G3::G4::G5::G6::G7::G8::G9::H0::H1::H2::H3::H4::H5::H6::H7::H8::H9::I0::I1::I2::I3::I4::I5::I6::I7::I8::I9::J0::J1::J2::J3::J4::J5::J6::J7::J8::J9::L0::L1::L2::L3::L4::L5::L6::L7::L8::L9::M0::M1::M2::M3::M4::M5::M6::M7::M8::M9::N0::N1::N2::N3::N4::N5::N6::N7::N8::N9::O0::O1::O2::O3::O4::O5::O6::O7::O8::O9::P0::P1::P2::P3::P4::P5::P6::P7::P8::[]) w' := leatlaw05_JournalFresh_L1_k (fun e2 w2 => Inv (gd e2 8) w2 ∧ μ (gd e2 8) w2 < μ (gd e' 8) w') (leatlaw05_JournalFresh_P1 K) (Eq.mp (by kernel_rfl) h)
  exact Eq.mp (by kernel_rfl) h2

theorem leatlaw05_JournalFresh_P1_k {K : KV} {w : World}
    (h : call Try.prog 11 #[] (fun E5 w =>
    call Try.prog 11 #[] (fun E6 w =>
    call Try.prog 21 #[E5] (fun E9 w =>
    ext Try.prog E9 0 (fun F0 w =>
    ext Try.prog E9 1 (fun F1 w =>
    ext Try.prog E9 2 (fun F2 w =>
    call Try.prog 21 #[E6] (fun F5 w =>
    ext Try.prog F5 0 (fun F6 w =>
    ext Try.prog F5 1 (fun F7 w =>
    ext Try.prog F5 2 (fun F8 w =>
    bin Try.prog BinOp.neq 33 false true F2 (Value.int IntKind.i64 0) (fun G0 w =>
    gsel G0 false (fun k71 =>
    bin Try.prog BinOp.neq 33 false true F8 (Value.int IntKind.i64 0) (fun G3 w =>
    k71 [F8, G3] w) w)
    (fun k => k [undef, undef] w) (fun us71 w =>
    pick G0 (Value.bool true) (gd us71 1) (fun G4 w =>
    gsel G4 false (fun k75 =>
    bin Try.prog BinOp.eql 49 false true F0 (Value.pointer none) (fun G7 w =>
    k75 [F0, G7] w) w)
    (fun k => k [undef, undef] w) (fun us75 w =>
    pick G4 (Value.bool true) (gd us75 1) (fun G8 w =>
    gsel G8 false (fun k79 =>
    bin Try.prog BinOp.eql 49 false true F6 (Value.pointer none) (fun H1 w =>
    k79 [F6, H1] w) w)
    (fun k => k [undef, undef] w) (fun us79 w =>
    pick G8 (Value.bool true) (gd us79 1) (fun H2 w =>
    cond H2
      (K (Value.bool false) w)
      (call Try.prog 23 #[F0, old0] (fun H5 w =>
    bin Try.prog BinOp.neq 33 false true H5 (Value.int IntKind.i64 0) (fun H6 w =>
    gsel H6 false (fun k87 =>
    call Try.prog 24 #[F0, fresh1] (fun I0 w =>
    bin Try.prog BinOp.neq 33 false true I0 (Value.int IntKind.i64 0) (fun I1 w =>
    k87 [F0, fresh1, I0, I1] w) w) w)
    (fun k => k [undef, undef, undef, undef] w) (fun us87 w =>
    pick H6 (Value.bool true) (gd us87 3) (fun I2 w =>
    gsel I2 false (fun k93 =>
    call Try.prog 23 #[F0, more2] (fun I6 w =>
    bin Try.prog BinOp.neq 33 false true I6 (Value.int IntKind.i64 0) (fun I7 w =>
    k93 [F0, more2, I6, I7] w) w) w)
    (fun k => k [undef, undef, undef, undef] w) (fun us93 w =>
    pick I2 (Value.bool true) (gd us93 3) (fun I8 w =>
    cond I8
      (K (Value.bool false) w)
      (blt Try.prog Builtin.len #[50] 3 #[false] #[old0] (fun J0 w =>
    (cCode Try.prog (cd Try.f7 [1, 1, 1, 1, 1, 1, 1, 1, 1, 1, 0, 1, 0]) (cCode Try.prog (cd Try.f7 [1, 1, 1, 1, 1, 1, 1, 1, 1, 1, 1]) (retK Try.prog Try.f7.results.toList K) (fun _ _ _ => False) (retK Try.prog Try.f7.results.toList K)) (fun i => @Bool.rec (fun _ => KE) ((fun _ _ _ => False) i) (cCode Try.prog (cd Try.f7 [1, 1, 1, 1, 1, 1, 1, 1, 1, 1, 1]) (retK Try.prog Try.f7.results.toList K) (fun _ _ _ => False) (retK Try.prog Try.f7.results.toList K)) (Nat.beq i 2)) (retK Try.prog Try.f7.results.toList K)) (old0::fresh1::more2::old3::fresh4::more5::A0::all7::i8::E5::E6::F0::F1::F2::F6::F7::F8::J0::A3::x19::g20::A4::y22::h23::A5::A6::A7::A8::A9::C0::C1::C2::C3::C4::C5::C6::C7::C8::C9::D0::D1::D2::D3::D4::D5::D6::D7::D8::D9::E0::E1::E2::E3::E4::E5::E6::E9::E5::E9::F0::F1::F2::F5::E6::F5::F6::F7::F8::F2::G0::G0::(gd us71 0)::(gd us71 1)::G4::G4::(gd us75 0)::(gd us75 1)::G8::G8::(gd us79 0)::(gd us79 1)::H2::F0::old0::H5::H6::H6::(gd us87 0)::(gd us87 1)::(gd us87 2)::(gd us87 3)::I2::I2::(gd us93 0)::(gd us93 1)::(gd us93 2)::(gd us93 3)::I8::old0::J0::J1::J2::J3::J4::J5::J6::J7::J8::J9::L0::L1::L2::L3::L4::L5::L6::L7::L8::L9::M0::M1::M2::M3::M4::M5::M6::M7::M8::M9::N0::N1::N2::N3::N4::N5::N6::N7::N8::N9::O0::O1::O2::O3::O4::O5::O6::O7::O8::O9::P0::P1::P2::P3::P4::P5::P6::P7::P8::[]) w) w)) w)) w)) w) w)) w)) w)) w)) w) w) w) w) w) w) w) w) w) w) w) :
    cCode Try.prog (cd Try.f7 [1, 1, 1, 1]) (retK Try.prog Try.f7.results.toList K) (fun _ _ _ => False) (retK Try.prog Try.f7.results.toList K) (old0::fresh1::more2::old3::fresh4::more5::A0::all7::i8::d9::c10::j11::A1::e13::k_14::A2::f16::i17::A3::x19::g20::A4::y22::h23::A5::A6::A7::A8::A9::C0::C1::C2::C3::C4::C5::C6::C7::C8::C9::D0::D1::D2::D3::D4::D5::D6::D7::D8::D9::E0::E1::E2::E3::E4::E5::E6::E7::E8::E9::F0::F1::F2::F3::F4::F5::F6::F7::F8::F9::G0::G1::G2::G3::G4::G5::G6::G7::G8::G9::H0::H1::H2::H3::H4::H5::H6::H7::H8::H9::I0::I1::I2::I3::I4::I5::I6::I7::I8::I9::J0::J1::J2::J3::J4::J5::J6::J7::J8::J9::L0::L1::L2::L3::L4::L5::L6::L7::L8::L9::M0::M1::M2::M3::M4::M5::M6::M7::M8::M9::N0::N1::N2::N3::N4::N5::N6::N7::N8::N9::O0::O1::O2::O3::O4::O5::O6::O7::O8::O9::P0::P1::P2::P3::P4::P5::P6::P7::P8::[]) w := Eq.mp (by kernel_rfl) h

theorem leatlaw05_JournalFresh_P1_r {K : KV} {w : World}
    (h : call Try.prog 11 #[] (fun E5 w =>
    call Try.prog 11 #[] (fun E6 w =>
    call Try.prog 21 #[E5] (fun E9 w =>
    ext Try.prog E9 0 (fun F0 w =>
    ext Try.prog E9 1 (fun F1 w =>
    ext Try.prog E9 2 (fun F2 w =>
    call Try.prog 21 #[E6] (fun F5 w =>
    ext Try.prog F5 0 (fun F6 w =>
    ext Try.prog F5 1 (fun F7 w =>
    ext Try.prog F5 2 (fun F8 w =>
    bin Try.prog BinOp.neq 33 false true F2 (Value.int IntKind.i64 0) (fun G0 w =>
    gsel G0 false (fun k71 =>
    bin Try.prog BinOp.neq 33 false true F8 (Value.int IntKind.i64 0) (fun G3 w =>
    k71 [F8, G3] w) w)
    (fun k => k [undef, undef] w) (fun us71 w =>
    pick G0 (Value.bool true) (gd us71 1) (fun G4 w =>
    gsel G4 false (fun k75 =>
    bin Try.prog BinOp.eql 49 false true F0 (Value.pointer none) (fun G7 w =>
    k75 [F0, G7] w) w)
    (fun k => k [undef, undef] w) (fun us75 w =>
    pick G4 (Value.bool true) (gd us75 1) (fun G8 w =>
    gsel G8 false (fun k79 =>
    bin Try.prog BinOp.eql 49 false true F6 (Value.pointer none) (fun H1 w =>
    k79 [F6, H1] w) w)
    (fun k => k [undef, undef] w) (fun us79 w =>
    pick G8 (Value.bool true) (gd us79 1) (fun H2 w =>
    cond H2
      (K (Value.bool false) w)
      (call Try.prog 23 #[F0, old0] (fun H5 w =>
    bin Try.prog BinOp.neq 33 false true H5 (Value.int IntKind.i64 0) (fun H6 w =>
    gsel H6 false (fun k87 =>
    call Try.prog 24 #[F0, fresh1] (fun I0 w =>
    bin Try.prog BinOp.neq 33 false true I0 (Value.int IntKind.i64 0) (fun I1 w =>
    k87 [F0, fresh1, I0, I1] w) w) w)
    (fun k => k [undef, undef, undef, undef] w) (fun us87 w =>
    pick H6 (Value.bool true) (gd us87 3) (fun I2 w =>
    gsel I2 false (fun k93 =>
    call Try.prog 23 #[F0, more2] (fun I6 w =>
    bin Try.prog BinOp.neq 33 false true I6 (Value.int IntKind.i64 0) (fun I7 w =>
    k93 [F0, more2, I6, I7] w) w) w)
    (fun k => k [undef, undef, undef, undef] w) (fun us93 w =>
    pick I2 (Value.bool true) (gd us93 3) (fun I8 w =>
    cond I8
      (K (Value.bool false) w)
      (blt Try.prog Builtin.len #[50] 3 #[false] #[old0] (fun J0 w =>
    (leatlaw05_JournalFresh_L2 K) (old0::fresh1::more2::old3::fresh4::more5::A0::all7::i8::E5::E6::F0::F1::F2::F6::F7::F8::J0::A3::x19::g20::A4::y22::h23::A5::A6::A7::A8::A9::C0::C1::C2::C3::C4::C5::C6::C7::C8::C9::D0::D1::D2::D3::D4::D5::D6::D7::D8::D9::E0::E1::E2::E3::E4::E5::E6::E9::E5::E9::F0::F1::F2::F5::E6::F5::F6::F7::F8::F2::G0::G0::(gd us71 0)::(gd us71 1)::G4::G4::(gd us75 0)::(gd us75 1)::G8::G8::(gd us79 0)::(gd us79 1)::H2::F0::old0::H5::H6::H6::(gd us87 0)::(gd us87 1)::(gd us87 2)::(gd us87 3)::I2::I2::(gd us93 0)::(gd us93 1)::(gd us93 2)::(gd us93 3)::I8::old0::J0::J1::J2::J3::J4::J5::J6::J7::J8::J9::L0::L1::L2::L3::L4::L5::L6::L7::L8::L9::M0::M1::M2::M3::M4::M5::M6::M7::M8::M9::N0::N1::N2::N3::N4::N5::N6::N7::N8::N9::O0::O1::O2::O3::O4::O5::O6::O7::O8::O9::P0::P1::P2::P3::P4::P5::P6::P7::P8::[]) w) w)) w)) w)) w) w)) w)) w)) w)) w) w) w) w) w) w) w) w) w) w) w) :
    leatlaw05_JournalFresh_P1 K (old0::fresh1::more2::old3::fresh4::more5::A0::all7::i8::d9::c10::j11::A1::e13::k_14::A2::f16::i17::A3::x19::g20::A4::y22::h23::A5::A6::A7::A8::A9::C0::C1::C2::C3::C4::C5::C6::C7::C8::C9::D0::D1::D2::D3::D4::D5::D6::D7::D8::D9::E0::E1::E2::E3::E4::E5::E6::E7::E8::E9::F0::F1::F2::F3::F4::F5::F6::F7::F8::F9::G0::G1::G2::G3::G4::G5::G6::G7::G8::G9::H0::H1::H2::H3::H4::H5::H6::H7::H8::H9::I0::I1::I2::I3::I4::I5::I6::I7::I8::I9::J0::J1::J2::J3::J4::J5::J6::J7::J8::J9::L0::L1::L2::L3::L4::L5::L6::L7::L8::L9::M0::M1::M2::M3::M4::M5::M6::M7::M8::M9::N0::N1::N2::N3::N4::N5::N6::N7::N8::N9::O0::O1::O2::O3::O4::O5::O6::O7::O8::O9::P0::P1::P2::P3::P4::P5::P6::P7::P8::[]) w := by
  delta leatlaw05_JournalFresh_P1
  exact Eq.mp (congrArg (fun c => cCode Try.prog c (retK Try.prog Try.f7.results.toList K) (fun _ _ _ => False) (retK Try.prog Try.f7.results.toList K) (old0::fresh1::more2::old3::fresh4::more5::A0::all7::i8::d9::c10::j11::A1::e13::k_14::A2::f16::i17::A3::x19::g20::A4::y22::h23::A5::A6::A7::A8::A9::C0::C1::C2::C3::C4::C5::C6::C7::C8::C9::D0::D1::D2::D3::D4::D5::D6::D7::D8::D9::E0::E1::E2::E3::E4::E5::E6::E7::E8::E9::F0::F1::F2::F3::F4::F5::F6::F7::F8::F9::G0::G1::G2::G3::G4::G5::G6::G7::G8::G9::H0::H1::H2::H3::H4::H5::H6::H7::H8::H9::I0::I1::I2::I3::I4::I5::I6::I7::I8::I9::J0::J1::J2::J3::J4::J5::J6::J7::J8::J9::L0::L1::L2::L3::L4::L5::L6::L7::L8::L9::M0::M1::M2::M3::M4::M5::M6::M7::M8::M9::N0::N1::N2::N3::N4::N5::N6::N7::N8::N9::O0::O1::O2::O3::O4::O5::O6::O7::O8::O9::P0::P1::P2::P3::P4::P5::P6::P7::P8::[]) w) (by kernel_rfl : (cd Try.f7 [1, 1, 1, 1]) = (cd Try.f7 [1, 1, 1, 1]))) (leatlaw05_JournalFresh_P1_k h)

end
theorem leatlaw05_JournalFresh_L2_k {K : KV} (B1 : KE) (qc0 : KE) {old0 fresh1 more2 old3 fresh4 more5 all7 i8 d9 c10 j11 A1 e13 k_14 A2 f16 i17' A3 x19 g20 A4 y22 h23 A5 A6 A7 A8 A9 C0 C1 C2 C3 C4 C5 C6 C7 C8 C9 D0 D1 D2 D3 D4 D5 D6 D7 D8 D9 E0 E1 E2 E3 E4 E5 E6 E7 E8 E9 F0 F1 F2 F3 F4 F5 F6 F7 F8 F9 G0 G1 G2 G3 G4 G5 G6 G7 G8 G9 H0 H1 H2 H3 H4 H5 H6 H7 H8 H9 I0 I1 I2 I3 I4 I5 I6 I7 I8 I9 J0 L5 L6 L7 L8 L9 M0 M1 M2 M3 M4 M5 M6 M7 M8 M9 N0 N1 N2 N3 N4 N5 N6 N7 N8 N9 O0 O1 O2 O3 O4 O5 O6 O7 O8 O9 P0 P1 P2 P3 P4 P5 P6 P7 P8 : Value} {dd : Nat → Value} {w : World}
    (h : blt Try.prog Builtin.len #[50] 3 #[false] #[all7] (fun J3 w =>
    bin Try.prog BinOp.lss 3 false false i17' J3 (fun J4 w =>
    cond J4
      (idxA Try.prog 50 all7 i17' (fun L0 w =>
    ld Try.prog 29 L0 (fun L1 w =>
    bldS Try.prog 50 1 #[(0, L1)] (fun L2 w =>
    call Try.prog 23 #[k_14, L2] (fun L3 w =>
    bin Try.prog BinOp.neq 33 false true L3 (Value.int IntKind.i64 0) (fun L4 w =>
    cond L4
      (K (Value.bool false) w)
      (bin Try.prog BinOp.add 3 false true i17' (Value.int IntKind.i64 1) (fun J6 w =>
    B1 (old0::fresh1::more2::old3::fresh4::more5::(dd 6)::all7::i8::d9::c10::j11::A1::e13::k_14::A2::f16::J6::A3::x19::g20::A4::y22::h23::A5::A6::A7::A8::A9::C0::C1::C2::C3::C4::C5::C6::C7::C8::C9::D0::D1::D2::D3::D4::D5::D6::D7::D8::D9::E0::E1::E2::E3::E4::E5::E6::E7::E8::E9::F0::F1::F2::F3::F4::F5::F6::F7::F8::F9::G0::G1::G2::G3::G4::G5::G6::G7::G8::G9::H0::H1::H2::H3::H4::H5::H6::H7::H8::H9::I0::I1::I2::I3::I4::I5::I6::I7::I8::I9::J0::i17'::all7::J3::J4::i17'::J6::k_14::all7::i17'::L0::L1::L2::L3::L4::L5::L6::L7::L8::L9::M0::M1::M2::M3::M4::M5::M6::M7::M8::M9::N0::N1::N2::N3::N4::N5::N6::N7::N8::N9::O0::O1::O2::O3::O4::O5::O6::O7::O8::O9::P0::P1::P2::P3::P4::P5::P6::P7::P8::[]) w) w)) w) w) w) w) w)
      (qc0 (old0::fresh1::more2::old3::fresh4::more5::(dd 6)::all7::i8::d9::c10::j11::A1::e13::k_14::A2::f16::i17'::A3::x19::g20::A4::y22::h23::A5::A6::A7::A8::A9::C0::C1::C2::C3::C4::C5::C6::C7::C8::C9::D0::D1::D2::D3::D4::D5::D6::D7::D8::D9::E0::E1::E2::E3::E4::E5::E6::E7::E8::E9::F0::F1::F2::F3::F4::F5::F6::F7::F8::F9::G0::G1::G2::G3::G4::G5::G6::G7::G8::G9::H0::H1::H2::H3::H4::H5::H6::H7::H8::H9::I0::I1::I2::I3::I4::I5::I6::I7::I8::I9::J0::i17'::all7::J3::J4::(dd 104)::(dd 105)::(dd 106)::(dd 107)::(dd 108)::(dd 109)::(dd 110)::(dd 111)::(dd 112)::(dd 113)::L5::L6::L7::L8::L9::M0::M1::M2::M3::M4::M5::M6::M7::M8::M9::N0::N1::N2::N3::N4::N5::N6::N7::N8::N9::O0::O1::O2::O3::O4::O5::O6::O7::O8::O9::P0::P1::P2::P3::P4::P5::P6::P7::P8::[]) w)) w) w) :
    cCode Try.prog (cd Try.f7 [1, 1, 1, 1, 1, 1, 1, 1, 1, 1, 0, 1, 0, 0]) B1 (fun i => @Bool.rec (fun _ => KE) ((fun _ _ _ => False) i) qc0 (Nat.beq i 2)) (retK Try.prog Try.f7.results.toList K) (old0::fresh1::more2::old3::fresh4::more5::(dd 6)::all7::i8::d9::c10::j11::A1::e13::k_14::A2::f16::i17'::A3::x19::g20::A4::y22::h23::A5::A6::A7::A8::A9::C0::C1::C2::C3::C4::C5::C6::C7::C8::C9::D0::D1::D2::D3::D4::D5::D6::D7::D8::D9::E0::E1::E2::E3::E4::E5::E6::E7::E8::E9::F0::F1::F2::F3::F4::F5::F6::F7::F8::F9::G0::G1::G2::G3::G4::G5::G6::G7::G8::G9::H0::H1::H2::H3::H4::H5::H6::H7::H8::H9::I0::I1::I2::I3::I4::I5::I6::I7::I8::I9::J0::(dd 100)::(dd 101)::(dd 102)::(dd 103)::(dd 104)::(dd 105)::(dd 106)::(dd 107)::(dd 108)::(dd 109)::(dd 110)::(dd 111)::(dd 112)::(dd 113)::L5::L6::L7::L8::L9::M0::M1::M2::M3::M4::M5::M6::M7::M8::M9::N0::N1::N2::N3::N4::N5::N6::N7::N8::N9::O0::O1::O2::O3::O4::O5::O6::O7::O8::O9::P0::P1::P2::P3::P4::P5::P6::P7::P8::[]) w := Eq.mp (by kernel_rfl) h

section
variable {old0 fresh1 more2 old3 fresh4 more5 A0 all7 i8 d9 c10 j11 A1 e13 k_14 A2 f16 i17 A3 x19 g20 A4 y22 h23 A5 A6 A7 A8 A9 C0 C1 C2 C3 C4 C5 C6 C7 C8 C9 D0 D1 D2 D3 D4 D5 D6 D7 D8 D9 E0 E1 E2 E3 E4 E5 E6 E7 E8 E9 F0 F1 F2 F3 F4 F5 F6 F7 F8 F9 G0 G1 G2 G3 G4 G5 G6 G7 G8 G9 H0 H1 H2 H3 H4 H5 H6 H7 H8 H9 I0 I1 I2 I3 I4 I5 I6 I7 I8 I9 J0 J1 J2 J3 J4 J5 J6 J7 J8 J9 L0 L1 L2 L3 L4 L5 L6 L7 L8 L9 M0 M1 M2 M3 M4 M5 M6 M7 M8 M9 N0 N1 N2 N3 N4 N5 N6 N7 N8 N9 O0 O1 O2 O3 O4 O5 O6 O7 O8 O9 P0 P1 P2 P3 P4 P5 P6 P7 P8 : Value}
theorem leatlaw05_JournalFresh_L2_r {K : KV} {w : World} (Inv : Value → World → Prop) (μ : Value → World → Nat) (h0 : Inv i17 w)
    (hs : ∀ (i17' : Value) (dd : Nat → Value) (w : World) (m : Nat), Inv i17' w → m = μ i17' w →
    blt Try.prog Builtin.len #[50] 3 #[false] #[all7] (fun J3 w =>
    bin Try.prog BinOp.lss 3 false false i17' J3 (fun J4 w =>
    cond J4
      (idxA Try.prog 50 all7 i17' (fun L0 w =>
    ld Try.prog 29 L0 (fun L1 w =>
    bldS Try.prog 50 1 #[(0, L1)] (fun L2 w =>
    call Try.prog 23 #[k_14, L2] (fun L3 w =>
    bin Try.prog BinOp.neq 33 false true L3 (Value.int IntKind.i64 0) (fun L4 w =>
    cond L4
      (K (Value.bool false) w)
      (bin Try.prog BinOp.add 3 false true i17' (Value.int IntKind.i64 1) (fun J6 w =>
    (Inv J6 w ∧ μ J6 w < m)) w)) w) w) w) w) w)
      ((leatlaw05_JournalFresh_P2 K) (old0::fresh1::more2::old3::fresh4::more5::(dd 6)::all7::i8::d9::c10::j11::A1::e13::k_14::A2::f16::i17'::A3::x19::g20::A4::y22::h23::A5::A6::A7::A8::A9::C0::C1::C2::C3::C4::C5::C6::C7::C8::C9::D0::D1::D2::D3::D4::D5::D6::D7::D8::D9::E0::E1::E2::E3::E4::E5::E6::E7::E8::E9::F0::F1::F2::F3::F4::F5::F6::F7::F8::F9::G0::G1::G2::G3::G4::G5::G6::G7::G8::G9::H0::H1::H2::H3::H4::H5::H6::H7::H8::H9::I0::I1::I2::I3::I4::I5::I6::I7::I8::I9::J0::i17'::all7::J3::J4::(dd 104)::(dd 105)::(dd 106)::(dd 107)::(dd 108)::(dd 109)::(dd 110)::(dd 111)::(dd 112)::(dd 113)::L5::L6::L7::L8::L9::M0::M1::M2::M3::M4::M5::M6::M7::M8::M9::N0::N1::N2::N3::N4::N5::N6::N7::N8::N9::O0::O1::O2::O3::O4::O5::O6::O7::O8::O9::P0::P1::P2::P3::P4::P5::P6::P7::P8::[]) w)) w) w) :
    leatlaw05_JournalFresh_L2 K (old0::fresh1::more2::old3::fresh4::more5::A0::all7::i8::d9::c10::j11::A1::e13::k_14::A2::f16::i17::A3::x19::g20::A4::y22::h23::A5::A6::A7::A8::A9::C0::C1::C2::C3::C4::C5::C6::C7::C8::C9::D0::D1::D2::D3::D4::D5::D6::D7::D8::D9::E0::E1::E2::E3::E4::E5::E6::E7::E8::E9::F0::F1::F2::F3::F4::F5::F6::F7::F8::F9::G0::G1::G2::G3::G4::G5::G6::G7::G8::G9::H0::H1::H2::H3::H4::H5::H6::H7::H8::H9::I0::I1::I2::I3::I4::I5::I6::I7::I8::I9::J0::J1::J2::J3::J4::J5::J6::J7::J8::J9::L0::L1::L2::L3::L4::L5::L6::L7::L8::L9::M0::M1::M2::M3::M4::M5::M6::M7::M8::M9::N0::N1::N2::N3::N4::N5::N6::N7::N8::N9::O0::O1::O2::O3::O4::O5::O6::O7::O8::O9::P0::P1::P2::P3::P4::P5::P6::P7::P8::[]) w := by
  refine loop_rule (cd Try.f7 [1, 1, 1, 1, 1, 1, 1, 1, 1, 1, 0, 1, 0, 0]) [6, 17, 100, 101, 102, 103, 104, 105, 106, 107, 108, 109, 110, 111, 112, 113] (by kernel_rfl) (fun e2 w2 => Inv (gd e2 17) w2) (fun e2 w2 => μ (gd e2 17) w2) h0 ?_
  intro e' w' hI
  have h := hs (gd e' 17) (fun i => gd e' i) w' _ hI rfl
  have h2 : cCode Try.prog (cd Try.f7 [1, 1, 1, 1, 1, 1, 1, 1, 1, 1, 0, 1, 0, 0]) (fun e2 w2 => Inv (gd e2 17) w2 ∧ μ (gd e2 17) w2 < μ (gd e' 17) w') (fun i => @Bool.rec (fun _ => KE) ((fun _ _ _ => False) i) (leatlaw05_JournalFresh_P2 K) (Nat.beq i 2)) (retK Try.prog Try.f7.results.toList K) (old0::fresh1::more2::old3::fresh4::more5::(gd e' 6)::all7::i8::d9::c10::j11::A1::e13::k_14::A2::f16::(gd e' 17)::A3::x19::g20::A4::y22::h23::A5::A6::A7::A8::A9::C0::C1::C2::C3::C4::C5::C6::C7::C8::C9::D0::D1::D2::D3::D4::D5::D6::D7::D8::D9::E0::E1::E2::E3::E4::E5::E6::E7::E8::E9::F0::F1::F2::F3::F4::F5::F6::F7::F8::F9::G0::G1::G2::G3::G4::G5::G6::G7::G8::G9::H0::H1::H2::H3::H4::H5::H6::H7::H8::H9::I0::I1::I2::I3::I4::I5::I6::I7::I8::I9::J0::(gd e' 100)::(gd e' 101)::(gd e' 102)::(gd e' 103)::(gd e' 104)::(gd e' 105)::(gd e' 106)::(gd e' 107)::(gd e' 108)::(gd e' 109)::(gd e' 110)::(gd e' 111)::(gd e' 112)::(gd e' 113)::L5::L6::L7::L8::L9::M0::M1::M2::M3::M4::M5::M6::M7::M8::M9::N0::N1::N2::N3::N4::N5::N6::N7::N8::N9::O0::O1::O2::O3::O4::O5::O6::O7::O8::O9::P0::P1::P2::P3::P4::P5::P6::P7::P8::[]) w' := leatlaw05_JournalFresh_L2_k (fun e2 w2 => Inv (gd e2 17) w2 ∧ μ (gd e2 17) w2 < μ (gd e' 17) w') (leatlaw05_JournalFresh_P2 K) (Eq.mp (by kernel_rfl) h)
  exact Eq.mp (by kernel_rfl) h2

theorem leatlaw05_JournalFresh_P2_k {K : KV} {w : World}
    (h : call Try.prog 21 #[d9] (fun L7 w =>
    ext Try.prog L7 0 (fun L8 w =>
    ext Try.prog L7 1 (fun L9 w =>
    ext Try.prog L7 2 (fun M0 w =>
    call Try.prog 21 #[c10] (fun M3 w =>
    ext Try.prog M3 0 (fun M4 w =>
    ext Try.prog M3 1 (fun M5 w =>
    ext Try.prog M3 2 (fun M6 w =>
    bin Try.prog BinOp.eql 33 false true M0 (Value.int IntKind.i64 0) (fun M8 w =>
    gsel M8 true (fun k129 =>
    bin Try.prog BinOp.eql 33 false true M6 (Value.int IntKind.i64 0) (fun N1 w =>
    k129 [M6, N1] w) w)
    (fun k => k [undef, undef] w) (fun us129 w =>
    pick M8 (gd us129 1) (Value.bool false) (fun N2 w =>
    gsel N2 true (fun k133 =>
    blt Try.prog Builtin.len #[50] 3 #[false] #[old0] (fun N7 w =>
    slc Try.prog 50 all7 (some N7) none none (fun N8 w =>
    call Try.prog 27 #[L9, N8] (fun N9 w =>
    k133 [L9, all7, old0, N7, N8, N9] w) w) w) w)
    (fun k => k [undef, undef, undef, undef, undef, undef] w) (fun us133 w =>
    pick N2 (gd us133 5) (Value.bool false) (fun O0 w =>
    gsel O0 true (fun k141 =>
    blt Try.prog Builtin.len #[50] 3 #[false] #[old0] (fun O5 w =>
    slc Try.prog 50 all7 (some O5) none none (fun O6 w =>
    call Try.prog 27 #[M5, O6] (fun O7 w =>
    k141 [M5, all7, old0, O5, O6, O7] w) w) w) w)
    (fun k => k [undef, undef, undef, undef, undef, undef] w) (fun us141 w =>
    pick O0 (gd us141 5) (Value.bool false) (fun O8 w =>
    gsel O8 true (fun k149 =>
    call Try.prog 30 #[j11] (fun P1 w =>
    call Try.prog 30 #[k_14] (fun P3 w =>
    bin Try.prog BinOp.eql 3 false false P1 P3 (fun P4 w =>
    k149 [j11, P1, k_14, P3, P4] w) w) w) w)
    (fun k => k [undef, undef, undef, undef, undef] w) (fun us149 w =>
    pick O8 (gd us149 4) (Value.bool false) (fun P5 w =>
    gsel P5 true (fun k156 =>
    call Try.prog 20 #[] (fun P7 w =>
    k156 [P7] w) w)
    (fun k => k [undef] w) (fun us156 w =>
    pick P5 (gd us156 0) (Value.bool false) (fun P8 w =>
    K P8 w) w)) w)) w)) w)) w)) w) w) w) w) w) w) w) w) w) :
    cCode Try.prog (cd Try.f7 [1, 1, 1, 1, 1, 1, 1, 1, 1, 1, 1]) (retK Try.prog Try.f7.results.toList K) (fun _ _ _ => False) (retK Try.prog Try.f7.results.toList K) (old0::fresh1::more2::old3::fresh4::more5::A0::all7::i8::d9::c10::j11::A1::e13::k_14::A2::f16::i17::A3::x19::g20::A4::y22::h23::A5::A6::A7::A8::A9::C0::C1::C2::C3::C4::C5::C6::C7::C8::C9::D0::D1::D2::D3::D4::D5::D6::D7::D8::D9::E0::E1::E2::E3::E4::E5::E6::E7::E8::E9::F0::F1::F2::F3::F4::F5::F6::F7::F8::F9::G0::G1::G2::G3::G4::G5::G6::G7::G8::G9::H0::H1::H2::H3::H4::H5::H6::H7::H8::H9::I0::I1::I2::I3::I4::I5::I6::I7::I8::I9::J0::J1::J2::J3::J4::J5::J6::J7::J8::J9::L0::L1::L2::L3::L4::L5::L6::L7::L8::L9::M0::M1::M2::M3::M4::M5::M6::M7::M8::M9::N0::N1::N2::N3::N4::N5::N6::N7::N8::N9::O0::O1::O2::O3::O4::O5::O6::O7::O8::O9::P0::P1::P2::P3::P4::P5::P6::P7::P8::[]) w := Eq.mp (by kernel_rfl) h

theorem leatlaw05_JournalFresh_P2_r {K : KV} {w : World}
    (h : call Try.prog 21 #[d9] (fun L7 w =>
    ext Try.prog L7 0 (fun L8 w =>
    ext Try.prog L7 1 (fun L9 w =>
    ext Try.prog L7 2 (fun M0 w =>
    call Try.prog 21 #[c10] (fun M3 w =>
    ext Try.prog M3 0 (fun M4 w =>
    ext Try.prog M3 1 (fun M5 w =>
    ext Try.prog M3 2 (fun M6 w =>
    bin Try.prog BinOp.eql 33 false true M0 (Value.int IntKind.i64 0) (fun M8 w =>
    gsel M8 true (fun k129 =>
    bin Try.prog BinOp.eql 33 false true M6 (Value.int IntKind.i64 0) (fun N1 w =>
    k129 [M6, N1] w) w)
    (fun k => k [undef, undef] w) (fun us129 w =>
    pick M8 (gd us129 1) (Value.bool false) (fun N2 w =>
    gsel N2 true (fun k133 =>
    blt Try.prog Builtin.len #[50] 3 #[false] #[old0] (fun N7 w =>
    slc Try.prog 50 all7 (some N7) none none (fun N8 w =>
    call Try.prog 27 #[L9, N8] (fun N9 w =>
    k133 [L9, all7, old0, N7, N8, N9] w) w) w) w)
    (fun k => k [undef, undef, undef, undef, undef, undef] w) (fun us133 w =>
    pick N2 (gd us133 5) (Value.bool false) (fun O0 w =>
    gsel O0 true (fun k141 =>
    blt Try.prog Builtin.len #[50] 3 #[false] #[old0] (fun O5 w =>
    slc Try.prog 50 all7 (some O5) none none (fun O6 w =>
    call Try.prog 27 #[M5, O6] (fun O7 w =>
    k141 [M5, all7, old0, O5, O6, O7] w) w) w) w)
    (fun k => k [undef, undef, undef, undef, undef, undef] w) (fun us141 w =>
    pick O0 (gd us141 5) (Value.bool false) (fun O8 w =>
    gsel O8 true (fun k149 =>
    call Try.prog 30 #[j11] (fun P1 w =>
    call Try.prog 30 #[k_14] (fun P3 w =>
    bin Try.prog BinOp.eql 3 false false P1 P3 (fun P4 w =>
    k149 [j11, P1, k_14, P3, P4] w) w) w) w)
    (fun k => k [undef, undef, undef, undef, undef] w) (fun us149 w =>
    pick O8 (gd us149 4) (Value.bool false) (fun P5 w =>
    gsel P5 true (fun k156 =>
    call Try.prog 20 #[] (fun P7 w =>
    k156 [P7] w) w)
    (fun k => k [undef] w) (fun us156 w =>
    pick P5 (gd us156 0) (Value.bool false) (fun P8 w =>
    K P8 w) w)) w)) w)) w)) w)) w) w) w) w) w) w) w) w) w) :
    leatlaw05_JournalFresh_P2 K (old0::fresh1::more2::old3::fresh4::more5::A0::all7::i8::d9::c10::j11::A1::e13::k_14::A2::f16::i17::A3::x19::g20::A4::y22::h23::A5::A6::A7::A8::A9::C0::C1::C2::C3::C4::C5::C6::C7::C8::C9::D0::D1::D2::D3::D4::D5::D6::D7::D8::D9::E0::E1::E2::E3::E4::E5::E6::E7::E8::E9::F0::F1::F2::F3::F4::F5::F6::F7::F8::F9::G0::G1::G2::G3::G4::G5::G6::G7::G8::G9::H0::H1::H2::H3::H4::H5::H6::H7::H8::H9::I0::I1::I2::I3::I4::I5::I6::I7::I8::I9::J0::J1::J2::J3::J4::J5::J6::J7::J8::J9::L0::L1::L2::L3::L4::L5::L6::L7::L8::L9::M0::M1::M2::M3::M4::M5::M6::M7::M8::M9::N0::N1::N2::N3::N4::N5::N6::N7::N8::N9::O0::O1::O2::O3::O4::O5::O6::O7::O8::O9::P0::P1::P2::P3::P4::P5::P6::P7::P8::[]) w := by
  delta leatlaw05_JournalFresh_P2
  exact Eq.mp (congrArg (fun c => cCode Try.prog c (retK Try.prog Try.f7.results.toList K) (fun _ _ _ => False) (retK Try.prog Try.f7.results.toList K) (old0::fresh1::more2::old3::fresh4::more5::A0::all7::i8::d9::c10::j11::A1::e13::k_14::A2::f16::i17::A3::x19::g20::A4::y22::h23::A5::A6::A7::A8::A9::C0::C1::C2::C3::C4::C5::C6::C7::C8::C9::D0::D1::D2::D3::D4::D5::D6::D7::D8::D9::E0::E1::E2::E3::E4::E5::E6::E7::E8::E9::F0::F1::F2::F3::F4::F5::F6::F7::F8::F9::G0::G1::G2::G3::G4::G5::G6::G7::G8::G9::H0::H1::H2::H3::H4::H5::H6::H7::H8::H9::I0::I1::I2::I3::I4::I5::I6::I7::I8::I9::J0::J1::J2::J3::J4::J5::J6::J7::J8::J9::L0::L1::L2::L3::L4::L5::L6::L7::L8::L9::M0::M1::M2::M3::M4::M5::M6::M7::M8::M9::N0::N1::N2::N3::N4::N5::N6::N7::N8::N9::O0::O1::O2::O3::O4::O5::O6::O7::O8::O9::P0::P1::P2::P3::P4::P5::P6::P7::P8::[]) w) (by kernel_rfl : (cd Try.f7 [1, 1, 1, 1, 1, 1, 1, 1, 1, 1, 1]) = (cd Try.f7 [1, 1, 1, 1, 1, 1, 1, 1, 1, 1, 1]))) (leatlaw05_JournalFresh_P2_k h)
attribute [irreducible] leatlaw05_JournalFresh_P1 leatlaw05_JournalFresh_L1 leatlaw05_JournalFresh_P2 leatlaw05_JournalFresh_L2

end
end Go.Proofs.Ytjkmblbonambjaa
