/- Written by program (gen.py): what the code of some functions asks, part by part; each text is checked by the kernel against the translation. -/
import Derived.Test.YtjkmblbonambjaaSh
import Derived.Test.YtjkmblbonambjaaChecked
namespace Go.Proofs.Ytjkmblbonambjaa
open Go.RowKit
set_option maxRecDepth 100000

def leatlaw05_works_A1 (K : KV) : KE := cCode Try.prog (cd Try.f20 [1, 1, 1, 1, 1]) (retK Try.prog Try.f20.results.toList K) (fun _ _ _ => False) (retK Try.prog Try.f20.results.toList K)
def leatlaw05_works_A2 (K : KV) : KE := cCode Try.prog (cd Try.f20 [1, 1, 1, 1, 1, 1, 1, 1, 1, 1]) (retK Try.prog Try.f20.results.toList K) (fun _ _ _ => False) (retK Try.prog Try.f20.results.toList K)
def leatlaw05_works_A3 (K : KV) : KE := cCode Try.prog (cd Try.f20 [1, 1, 1, 1, 1, 1, 1, 1, 1, 1, 1, 1, 1, 1]) (retK Try.prog Try.f20.results.toList K) (fun _ _ _ => False) (retK Try.prog Try.f20.results.toList K)
def leatlaw05_works_A4 (K : KV) : KE := cCode Try.prog (cd Try.f20 [1, 1, 1, 1, 1, 1, 1, 1, 1, 1, 1, 1, 1, 1, 1, 1, 1, 1, 1]) (retK Try.prog Try.f20.results.toList K) (fun _ _ _ => False) (retK Try.prog Try.f20.results.toList K)
theorem leatlaw05_works_k {K : KV} (xc0 : Code) {w : World}
    (h : call Try.prog 11 #[] (fun A5 w =>
    call Try.prog 21 #[A5] (fun A8 w =>
    ext Try.prog A8 0 (fun A9 w =>
    ext Try.prog A8 1 (fun C0 w =>
    ext Try.prog A8 2 (fun C1 w =>
    bin Try.prog BinOp.neq 33 false true C1 (Value.int IntKind.i64 0) (fun C3 w =>
    gsel C3 false (fun k27 =>
    bin Try.prog BinOp.eql 49 false true A9 (Value.pointer none) (fun C6 w =>
    k27 [A9, C6] w) w)
    (fun k => k [undef, undef] w) (fun us27 w =>
    pick C3 (Value.bool true) (gd us27 1) (fun C7 w =>
    gsel C7 false (fun k31 =>
    blt Try.prog Builtin.len #[50] 3 #[false] #[C0] (fun D0 w =>
    bin Try.prog BinOp.neq 3 false true D0 (Value.int IntKind.i64 0) (fun D1 w =>
    k31 [C0, D0, D1] w) w) w)
    (fun k => k [undef, undef, undef] w) (fun us31 w =>
    pick C7 (Value.bool true) (gd us31 2) (fun D2 w =>
    cond D2
      (K (Value.bool false) w)
      (bldS Try.prog 29 1 #[(0, (Value.int IntKind.u8 97))] (fun D4 w =>
    conv Try.prog 29 29 D4 (fun D5 w =>
    bldS Try.prog 29 1 #[(0, (Value.int IntKind.u8 98))] (fun D6 w =>
    conv Try.prog 29 29 D6 (fun D7 w =>
    bldS Try.prog 50 2 #[(0, D5), (1, D7)] (fun D8 w =>
    call Try.prog 23 #[A9, D8] (fun D9 w =>
    (cCode Try.prog xc0 (retK Try.prog Try.f20.results.toList K) (fun _ _ _ => False) (retK Try.prog Try.f20.results.toList K)) ((Value.bool false)::A5::A9::C0::C1::D9::undef::undef::undef::undef::undef::undef::undef::undef::undef::undef::undef::A5::A8::A5::A8::A9::C0::C1::C1::C3::C3::(gd us27 0)::(gd us27 1)::C7::C7::(gd us31 0)::(gd us31 1)::(gd us31 2)::D2::A9::D4::D5::D6::D7::D8::D9::undef::undef::undef::undef::undef::undef::undef::undef::undef::undef::undef::undef::undef::undef::undef::undef::undef::undef::undef::undef::undef::undef::undef::undef::undef::undef::undef::undef::undef::undef::undef::undef::undef::undef::undef::undef::undef::undef::undef::undef::undef::undef::undef::undef::undef::undef::undef::undef::undef::undef::undef::undef::undef::undef::undef::undef::undef::undef::undef::undef::undef::undef::undef::undef::undef::undef::undef::undef::undef::undef::undef::undef::undef::undef::undef::undef::undef::undef::undef::undef::undef::undef::undef::undef::undef::undef::undef::undef::undef::undef::undef::undef::undef::undef::undef::undef::[]) w) w) w) w) w) w) w)) w)) w)) w) w) w) w) w) w) :
    cCode Try.prog (rep [1, 1, 1, 1, 1] xc0 (cd Try.f20 [])) (retK Try.prog Try.f20.results.toList K) (fun _ _ _ => False) (retK Try.prog Try.f20.results.toList K) (undef::undef::undef::undef::undef::undef::undef::undef::undef::undef::undef::undef::undef::undef::undef::undef::undef::undef::undef::undef::undef::undef::undef::undef::undef::undef::undef::undef::undef::undef::undef::undef::undef::undef::undef::undef::undef::undef::undef::undef::undef::undef::undef::undef::undef::undef::undef::undef::undef::undef::undef::undef::undef::undef::undef::undef::undef::undef::undef::undef::undef::undef::undef::undef::undef::undef::undef::undef::undef::undef::undef::undef::undef::undef::undef::undef::undef::undef::undef::undef::undef::undef::undef::undef::undef::undef::undef::undef::undef::undef::undef::undef::undef::undef::undef::undef::undef::undef::undef::undef::undef::undef::undef::undef::undef::undef::undef::undef::undef::undef::undef::undef::undef::undef::undef::undef::undef::undef::undef::undef::undef::undef::undef::undef::undef::undef::undef::undef::undef::undef::undef::undef::undef::undef::undef::undef::undef::undef::[]) w := Eq.mp (by kernel_rfl) h

theorem leatlaw05_works_in {K : KV} {w : World}
    (h : call Try.prog 11 #[] (fun A5 w =>
    call Try.prog 21 #[A5] (fun A8 w =>
    ext Try.prog A8 0 (fun A9 w =>
    ext Try.prog A8 1 (fun C0 w =>
    ext Try.prog A8 2 (fun C1 w =>
    bin Try.prog BinOp.neq 33 false true C1 (Value.int IntKind.i64 0) (fun C3 w =>
    gsel C3 false (fun k27 =>
    bin Try.prog BinOp.eql 49 false true A9 (Value.pointer none) (fun C6 w =>
    k27 [A9, C6] w) w)
    (fun k => k [undef, undef] w) (fun us27 w =>
    pick C3 (Value.bool true) (gd us27 1) (fun C7 w =>
    gsel C7 false (fun k31 =>
    blt Try.prog Builtin.len #[50] 3 #[false] #[C0] (fun D0 w =>
    bin Try.prog BinOp.neq 3 false true D0 (Value.int IntKind.i64 0) (fun D1 w =>
    k31 [C0, D0, D1] w) w) w)
    (fun k => k [undef, undef, undef] w) (fun us31 w =>
    pick C7 (Value.bool true) (gd us31 2) (fun D2 w =>
    cond D2
      (K (Value.bool false) w)
      (bldS Try.prog 29 1 #[(0, (Value.int IntKind.u8 97))] (fun D4 w =>
    conv Try.prog 29 29 D4 (fun D5 w =>
    bldS Try.prog 29 1 #[(0, (Value.int IntKind.u8 98))] (fun D6 w =>
    conv Try.prog 29 29 D6 (fun D7 w =>
    bldS Try.prog 50 2 #[(0, D5), (1, D7)] (fun D8 w =>
    call Try.prog 23 #[A9, D8] (fun D9 w =>
    (leatlaw05_works_A1 K) ((Value.bool false)::A5::A9::C0::C1::D9::undef::undef::undef::undef::undef::undef::undef::undef::undef::undef::undef::A5::A8::A5::A8::A9::C0::C1::C1::C3::C3::(gd us27 0)::(gd us27 1)::C7::C7::(gd us31 0)::(gd us31 1)::(gd us31 2)::D2::A9::D4::D5::D6::D7::D8::D9::undef::undef::undef::undef::undef::undef::undef::undef::undef::undef::undef::undef::undef::undef::undef::undef::undef::undef::undef::undef::undef::undef::undef::undef::undef::undef::undef::undef::undef::undef::undef::undef::undef::undef::undef::undef::undef::undef::undef::undef::undef::undef::undef::undef::undef::undef::undef::undef::undef::undef::undef::undef::undef::undef::undef::undef::undef::undef::undef::undef::undef::undef::undef::undef::undef::undef::undef::undef::undef::undef::undef::undef::undef::undef::undef::undef::undef::undef::undef::undef::undef::undef::undef::undef::undef::undef::undef::undef::undef::undef::undef::undef::undef::undef::undef::undef::[]) w) w) w) w) w) w) w)) w)) w)) w) w) w) w) w) w) :
    Gives Try.prog 20 #[] w K := enter' Try.func20 (by kernel_rfl) (Eq.mp (congrArg (fun c => cCode Try.prog c (retK Try.prog Try.f20.results.toList K) (fun _ _ _ => False) (retK Try.prog Try.f20.results.toList K) (undef::undef::undef::undef::undef::undef::undef::undef::undef::undef::undef::undef::undef::undef::undef::undef::undef::undef::undef::undef::undef::undef::undef::undef::undef::undef::undef::undef::undef::undef::undef::undef::undef::undef::undef::undef::undef::undef::undef::undef::undef::undef::undef::undef::undef::undef::undef::undef::undef::undef::undef::undef::undef::undef::undef::undef::undef::undef::undef::undef::undef::undef::undef::undef::undef::undef::undef::undef::undef::undef::undef::undef::undef::undef::undef::undef::undef::undef::undef::undef::undef::undef::undef::undef::undef::undef::undef::undef::undef::undef::undef::undef::undef::undef::undef::undef::undef::undef::undef::undef::undef::undef::undef::undef::undef::undef::undef::undef::undef::undef::undef::undef::undef::undef::undef::undef::undef::undef::undef::undef::undef::undef::undef::undef::undef::undef::undef::undef::undef::undef::undef::undef::undef::undef::undef::undef::undef::undef::[]) w) (by kernel_rfl : (rep [1, 1, 1, 1, 1] (cd Try.f20 [1, 1, 1, 1, 1]) (cd Try.f20 [])) = (cd Try.f20 []))) (leatlaw05_works_k (cd Try.f20 [1, 1, 1, 1, 1]) h))
theorem leatlaw05_works_go : isGo Try.prog 20 := ⟨_, Try.func20, by kernel_rfl, by kernel_rfl⟩

section
variable {A0 d1 j2 l3 e4 a5 A1 m7 A2 b9 broken10 n11 f12 c13 A3 o15 A4 A5 A6 A7 A8 A9 C0 C1 C2 C3 C4 C5 C6 C7 C8 C9 D0 D1 D2 D3 D4 D5 D6 D7 D8 D9 E0 E1 E2 E3 E4 E5 E6 E7 E8 E9 F0 F1 F2 F3 F4 F5 F6 F7 F8 F9 G0 G1 G2 G3 G4 G5 G6 G7 G8 G9 H0 H1 H2 H3 H4 H5 H6 H7 H8 H9 I0 I1 I2 I3 I4 I5 I6 I7 I8 I9 J0 J1 J2 J3 J4 J5 J6 J7 J8 J9 L0 L1 L2 L3 L4 L5 L6 L7 L8 L9 M0 M1 M2 M3 M4 M5 M6 M7 M8 M9 N0 N1 N2 N3 N4 N5 N6 N7 N8 N9 O0 O1 O2 O3 O4 O5 : Value}
theorem leatlaw05_works_A1_k {K : KV} (xc0 : Code) {w : World}
    (h : call Try.prog 21 #[d1] (fun E2 w =>
    ext Try.prog E2 0 (fun E3 w =>
    ext Try.prog E2 1 (fun E4 w =>
    ext Try.prog E2 2 (fun E5 w =>
    call Try.prog 11 #[] (fun E6 w =>
    call Try.prog 21 #[E6] (fun E9 w =>
    ext Try.prog E9 0 (fun F0 w =>
    ext Try.prog E9 1 (fun F1 w =>
    ext Try.prog E9 2 (fun F2 w =>
    bldS Try.prog 29 1 #[(0, (Value.int IntKind.u8 97))] (fun F4 w =>
    conv Try.prog 29 29 F4 (fun F5 w =>
    bldS Try.prog 50 1 #[(0, F5)] (fun F6 w =>
    call Try.prog 23 #[F0, F6] (fun F7 w =>
    call Try.prog 22 #[E6, (Value.int IntKind.i64 1)] (fun F9 w =>
    (cCode Try.prog xc0 (retK Try.prog Try.f20.results.toList K) (fun _ _ _ => False) (retK Try.prog Try.f20.results.toList K)) (A0::E6::F0::l3::e4::a5::E3::E4::E5::b9::broken10::n11::f12::c13::A3::o15::A4::A5::A6::A7::A8::A9::C0::C1::C2::C3::C4::C5::C6::C7::C8::C9::D0::D1::D2::D3::D4::D5::D6::D7::D8::D9::E2::d1::E2::E3::E4::E5::E6::E9::E6::E9::F0::F1::F2::F0::F4::F5::F6::F7::E6::F9::G0::G1::G2::G3::G4::G5::G6::G7::G8::G9::H0::H1::H2::H3::H4::H5::H6::H7::H8::H9::I0::I1::I2::I3::I4::I5::I6::I7::I8::I9::J0::J1::J2::J3::J4::J5::J6::J7::J8::J9::L0::L1::L2::L3::L4::L5::L6::L7::L8::L9::M0::M1::M2::M3::M4::M5::M6::M7::M8::M9::N0::N1::N2::N3::N4::N5::N6::N7::N8::N9::O0::O1::O2::O3::O4::O5::[]) w) w) w) w) w) w) w) w) w) w) w) w) w) w) w) :
    cCode Try.prog (rep [1, 1, 1, 1, 1] xc0 (cd Try.f20 [1, 1, 1, 1, 1])) (retK Try.prog Try.f20.results.toList K) (fun _ _ _ => False) (retK Try.prog Try.f20.results.toList K) (A0::d1::j2::l3::e4::a5::A1::m7::A2::b9::broken10::n11::f12::c13::A3::o15::A4::A5::A6::A7::A8::A9::C0::C1::C2::C3::C4::C5::C6::C7::C8::C9::D0::D1::D2::D3::D4::D5::D6::D7::D8::D9::E0::E1::E2::E3::E4::E5::E6::E7::E8::E9::F0::F1::F2::F3::F4::F5::F6::F7::F8::F9::G0::G1::G2::G3::G4::G5::G6::G7::G8::G9::H0::H1::H2::H3::H4::H5::H6::H7::H8::H9::I0::I1::I2::I3::I4::I5::I6::I7::I8::I9::J0::J1::J2::J3::J4::J5::J6::J7::J8::J9::L0::L1::L2::L3::L4::L5::L6::L7::L8::L9::M0::M1::M2::M3::M4::M5::M6::M7::M8::M9::N0::N1::N2::N3::N4::N5::N6::N7::N8::N9::O0::O1::O2::O3::O4::O5::[]) w := Eq.mp (by kernel_rfl) h

theorem leatlaw05_works_A1_r {K : KV} {w : World}
    (h : call Try.prog 21 #[d1] (fun E2 w =>
    ext Try.prog E2 0 (fun E3 w =>
    ext Try.prog E2 1 (fun E4 w =>
    ext Try.prog E2 2 (fun E5 w =>
    call Try.prog 11 #[] (fun E6 w =>
    call Try.prog 21 #[E6] (fun E9 w =>
    ext Try.prog E9 0 (fun F0 w =>
    ext Try.prog E9 1 (fun F1 w =>
    ext Try.prog E9 2 (fun F2 w =>
    bldS Try.prog 29 1 #[(0, (Value.int IntKind.u8 97))] (fun F4 w =>
    conv Try.prog 29 29 F4 (fun F5 w =>
    bldS Try.prog 50 1 #[(0, F5)] (fun F6 w =>
    call Try.prog 23 #[F0, F6] (fun F7 w =>
    call Try.prog 22 #[E6, (Value.int IntKind.i64 1)] (fun F9 w =>
    (leatlaw05_works_A2 K) (A0::E6::F0::l3::e4::a5::E3::E4::E5::b9::broken10::n11::f12::c13::A3::o15::A4::A5::A6::A7::A8::A9::C0::C1::C2::C3::C4::C5::C6::C7::C8::C9::D0::D1::D2::D3::D4::D5::D6::D7::D8::D9::E2::d1::E2::E3::E4::E5::E6::E9::E6::E9::F0::F1::F2::F0::F4::F5::F6::F7::E6::F9::G0::G1::G2::G3::G4::G5::G6::G7::G8::G9::H0::H1::H2::H3::H4::H5::H6::H7::H8::H9::I0::I1::I2::I3::I4::I5::I6::I7::I8::I9::J0::J1::J2::J3::J4::J5::J6::J7::J8::J9::L0::L1::L2::L3::L4::L5::L6::L7::L8::L9::M0::M1::M2::M3::M4::M5::M6::M7::M8::M9::N0::N1::N2::N3::N4::N5::N6::N7::N8::N9::O0::O1::O2::O3::O4::O5::[]) w) w) w) w) w) w) w) w) w) w) w) w) w) w) w) :
    leatlaw05_works_A1 K (A0::d1::j2::l3::e4::a5::A1::m7::A2::b9::broken10::n11::f12::c13::A3::o15::A4::A5::A6::A7::A8::A9::C0::C1::C2::C3::C4::C5::C6::C7::C8::C9::D0::D1::D2::D3::D4::D5::D6::D7::D8::D9::E0::E1::E2::E3::E4::E5::E6::E7::E8::E9::F0::F1::F2::F3::F4::F5::F6::F7::F8::F9::G0::G1::G2::G3::G4::G5::G6::G7::G8::G9::H0::H1::H2::H3::H4::H5::H6::H7::H8::H9::I0::I1::I2::I3::I4::I5::I6::I7::I8::I9::J0::J1::J2::J3::J4::J5::J6::J7::J8::J9::L0::L1::L2::L3::L4::L5::L6::L7::L8::L9::M0::M1::M2::M3::M4::M5::M6::M7::M8::M9::N0::N1::N2::N3::N4::N5::N6::N7::N8::N9::O0::O1::O2::O3::O4::O5::[]) w := by
  delta leatlaw05_works_A1
  exact Eq.mp (congrArg (fun c => cCode Try.prog c (retK Try.prog Try.f20.results.toList K) (fun _ _ _ => False) (retK Try.prog Try.f20.results.toList K) (A0::d1::j2::l3::e4::a5::A1::m7::A2::b9::broken10::n11::f12::c13::A3::o15::A4::A5::A6::A7::A8::A9::C0::C1::C2::C3::C4::C5::C6::C7::C8::C9::D0::D1::D2::D3::D4::D5::D6::D7::D8::D9::E0::E1::E2::E3::E4::E5::E6::E7::E8::E9::F0::F1::F2::F3::F4::F5::F6::F7::F8::F9::G0::G1::G2::G3::G4::G5::G6::G7::G8::G9::H0::H1::H2::H3::H4::H5::H6::H7::H8::H9::I0::I1::I2::I3::I4::I5::I6::I7::I8::I9::J0::J1::J2::J3::J4::J5::J6::J7::J8::J9::L0::L1::L2::L3::L4::L5::L6::L7::L8::L9::M0::M1::M2::M3::M4::M5::M6::M7::M8::M9::N0::N1::N2::N3::N4::N5::N6::N7::N8::N9::O0::O1::O2::O3::O4::O5::[]) w) (by kernel_rfl : (rep [1, 1, 1, 1, 1] (cd Try.f20 [1, 1, 1, 1, 1, 1, 1, 1, 1, 1]) (cd Try.f20 [1, 1, 1, 1, 1])) = (cd Try.f20 [1, 1, 1, 1, 1]))) (leatlaw05_works_A1_k (cd Try.f20 [1, 1, 1, 1, 1, 1, 1, 1, 1, 1]) h)

theorem leatlaw05_works_A2_k {K : KV} (xc0 : Code) {w : World}
    (h : bldS Try.prog 29 1 #[(0, (Value.int IntKind.u8 98))] (fun G1 w =>
    conv Try.prog 29 29 G1 (fun G2 w =>
    bldS Try.prog 50 1 #[(0, G2)] (fun G3 w =>
    call Try.prog 23 #[j2, G3] (fun G4 w =>
    call Try.prog 31 #[j2] (fun G6 w =>
    un Try.prog UnOp.not G6 (fun G7 w =>
    gsel G7 true (fun k71 =>
    call Try.prog 23 #[j2, (Value.slice none 0 0)] (fun H0 w =>
    bin Try.prog BinOp.eql 33 false true H0 (Value.int IntKind.i64 3) (fun H1 w =>
    k71 [j2, H0, H1] w) w) w)
    (fun k => k [undef, undef, undef] w) (fun us71 w =>
    pick G7 (gd us71 2) (Value.bool false) (fun H2 w =>
    bldS Try.prog 30 2 #[(0, (Value.int IntKind.i64 0)), (1, (Value.int IntKind.i64 8))] (fun H4 w =>
    call Try.prog 25 #[d1, H4] (fun H5 w =>
    call Try.prog 21 #[d1] (fun H8 w =>
    ext Try.prog H8 0 (fun H9 w =>
    ext Try.prog H8 1 (fun I0 w =>
    ext Try.prog H8 2 (fun I1 w =>
    (cCode Try.prog xc0 (retK Try.prog Try.f20.results.toList K) (fun _ _ _ => False) (retK Try.prog Try.f20.results.toList K)) (A0::d1::H9::l3::e4::a5::A1::m7::A2::G4::H2::I0::I1::c13::A3::o15::A4::A5::A6::A7::A8::A9::C0::C1::C2::C3::C4::C5::C6::C7::C8::C9::D0::D1::D2::D3::D4::D5::D6::D7::D8::D9::E0::E1::E2::E3::E4::E5::E6::E7::E8::E9::F0::F1::F2::F3::F4::F5::F6::F7::F8::F9::j2::G1::G2::G3::G4::j2::G6::G7::G7::(gd us71 0)::(gd us71 1)::(gd us71 2)::H2::d1::H4::H5::H8::d1::H8::H9::I0::I1::I2::I3::I4::I5::I6::I7::I8::I9::J0::J1::J2::J3::J4::J5::J6::J7::J8::J9::L0::L1::L2::L3::L4::L5::L6::L7::L8::L9::M0::M1::M2::M3::M4::M5::M6::M7::M8::M9::N0::N1::N2::N3::N4::N5::N6::N7::N8::N9::O0::O1::O2::O3::O4::O5::[]) w) w) w) w) w) w) w) w)) w) w) w) w) w) w) :
    cCode Try.prog (rep [1, 1, 1, 1] xc0 (cd Try.f20 [1, 1, 1, 1, 1, 1, 1, 1, 1, 1])) (retK Try.prog Try.f20.results.toList K) (fun _ _ _ => False) (retK Try.prog Try.f20.results.toList K) (A0::d1::j2::l3::e4::a5::A1::m7::A2::b9::broken10::n11::f12::c13::A3::o15::A4::A5::A6::A7::A8::A9::C0::C1::C2::C3::C4::C5::C6::C7::C8::C9::D0::D1::D2::D3::D4::D5::D6::D7::D8::D9::E0::E1::E2::E3::E4::E5::E6::E7::E8::E9::F0::F1::F2::F3::F4::F5::F6::F7::F8::F9::G0::G1::G2::G3::G4::G5::G6::G7::G8::G9::H0::H1::H2::H3::H4::H5::H6::H7::H8::H9::I0::I1::I2::I3::I4::I5::I6::I7::I8::I9::J0::J1::J2::J3::J4::J5::J6::J7::J8::J9::L0::L1::L2::L3::L4::L5::L6::L7::L8::L9::M0::M1::M2::M3::M4::M5::M6::M7::M8::M9::N0::N1::N2::N3::N4::N5::N6::N7::N8::N9::O0::O1::O2::O3::O4::O5::[]) w := Eq.mp (by kernel_rfl) h

theorem leatlaw05_works_A2_r {K : KV} {w : World}
    (h : bldS Try.prog 29 1 #[(0, (Value.int IntKind.u8 98))] (fun G1 w =>
    conv Try.prog 29 29 G1 (fun G2 w =>
    bldS Try.prog 50 1 #[(0, G2)] (fun G3 w =>
    call Try.prog 23 #[j2, G3] (fun G4 w =>
    call Try.prog 31 #[j2] (fun G6 w =>
    un Try.prog UnOp.not G6 (fun G7 w =>
    gsel G7 true (fun k71 =>
    call Try.prog 23 #[j2, (Value.slice none 0 0)] (fun H0 w =>
    bin Try.prog BinOp.eql 33 false true H0 (Value.int IntKind.i64 3) (fun H1 w =>
    k71 [j2, H0, H1] w) w) w)
    (fun k => k [undef, undef, undef] w) (fun us71 w =>
    pick G7 (gd us71 2) (Value.bool false) (fun H2 w =>
    bldS Try.prog 30 2 #[(0, (Value.int IntKind.i64 0)), (1, (Value.int IntKind.i64 8))] (fun H4 w =>
    call Try.prog 25 #[d1, H4] (fun H5 w =>
    call Try.prog 21 #[d1] (fun H8 w =>
    ext Try.prog H8 0 (fun H9 w =>
    ext Try.prog H8 1 (fun I0 w =>
    ext Try.prog H8 2 (fun I1 w =>
    (leatlaw05_works_A3 K) (A0::d1::H9::l3::e4::a5::A1::m7::A2::G4::H2::I0::I1::c13::A3::o15::A4::A5::A6::A7::A8::A9::C0::C1::C2::C3::C4::C5::C6::C7::C8::C9::D0::D1::D2::D3::D4::D5::D6::D7::D8::D9::E0::E1::E2::E3::E4::E5::E6::E7::E8::E9::F0::F1::F2::F3::F4::F5::F6::F7::F8::F9::j2::G1::G2::G3::G4::j2::G6::G7::G7::(gd us71 0)::(gd us71 1)::(gd us71 2)::H2::d1::H4::H5::H8::d1::H8::H9::I0::I1::I2::I3::I4::I5::I6::I7::I8::I9::J0::J1::J2::J3::J4::J5::J6::J7::J8::J9::L0::L1::L2::L3::L4::L5::L6::L7::L8::L9::M0::M1::M2::M3::M4::M5::M6::M7::M8::M9::N0::N1::N2::N3::N4::N5::N6::N7::N8::N9::O0::O1::O2::O3::O4::O5::[]) w) w) w) w) w) w) w) w)) w) w) w) w) w) w) :
    leatlaw05_works_A2 K (A0::d1::j2::l3::e4::a5::A1::m7::A2::b9::broken10::n11::f12::c13::A3::o15::A4::A5::A6::A7::A8::A9::C0::C1::C2::C3::C4::C5::C6::C7::C8::C9::D0::D1::D2::D3::D4::D5::D6::D7::D8::D9::E0::E1::E2::E3::E4::E5::E6::E7::E8::E9::F0::F1::F2::F3::F4::F5::F6::F7::F8::F9::G0::G1::G2::G3::G4::G5::G6::G7::G8::G9::H0::H1::H2::H3::H4::H5::H6::H7::H8::H9::I0::I1::I2::I3::I4::I5::I6::I7::I8::I9::J0::J1::J2::J3::J4::J5::J6::J7::J8::J9::L0::L1::L2::L3::L4::L5::L6::L7::L8::L9::M0::M1::M2::M3::M4::M5::M6::M7::M8::M9::N0::N1::N2::N3::N4::N5::N6::N7::N8::N9::O0::O1::O2::O3::O4::O5::[]) w := by
  delta leatlaw05_works_A2
  exact Eq.mp (congrArg (fun c => cCode Try.prog c (retK Try.prog Try.f20.results.toList K) (fun _ _ _ => False) (retK Try.prog Try.f20.results.toList K) (A0::d1::j2::l3::e4::a5::A1::m7::A2::b9::broken10::n11::f12::c13::A3::o15::A4::A5::A6::A7::A8::A9::C0::C1::C2::C3::C4::C5::C6::C7::C8::C9::D0::D1::D2::D3::D4::D5::D6::D7::D8::D9::E0::E1::E2::E3::E4::E5::E6::E7::E8::E9::F0::F1::F2::F3::F4::F5::F6::F7::F8::F9::G0::G1::G2::G3::G4::G5::G6::G7::G8::G9::H0::H1::H2::H3::H4::H5::H6::H7::H8::H9::I0::I1::I2::I3::I4::I5::I6::I7::I8::I9::J0::J1::J2::J3::J4::J5::J6::J7::J8::J9::L0::L1::L2::L3::L4::L5::L6::L7::L8::L9::M0::M1::M2::M3::M4::M5::M6::M7::M8::M9::N0::N1::N2::N3::N4::N5::N6::N7::N8::N9::O0::O1::O2::O3::O4::O5::[]) w) (by kernel_rfl : (rep [1, 1, 1, 1] (cd Try.f20 [1, 1, 1, 1, 1, 1, 1, 1, 1, 1, 1, 1, 1, 1]) (cd Try.f20 [1, 1, 1, 1, 1, 1, 1, 1, 1, 1])) = (cd Try.f20 [1, 1, 1, 1, 1, 1, 1, 1, 1, 1]))) (leatlaw05_works_A2_k (cd Try.f20 [1, 1, 1, 1, 1, 1, 1, 1, 1, 1, 1, 1, 1, 1]) h)

theorem leatlaw05_works_A3_k {K : KV} (xc0 : Code) {w : World}
    (h : bin Try.prog BinOp.neq 33 false true f12 (Value.int IntKind.i64 0) (fun I3 w =>
    gsel I3 false (fun k87 =>
    bin Try.prog BinOp.eql 49 false true j2 (Value.pointer none) (fun I6 w =>
    k87 [j2, I6] w) w)
    (fun k => k [undef, undef] w) (fun us87 w =>
    pick I3 (Value.bool true) (gd us87 1) (fun I7 w =>
    cond I7
      (K (Value.bool false) w)
      (call Try.prog 22 #[d1, (Value.int IntKind.i64 3)] (fun I9 w =>
    bldS Try.prog 29 1 #[(0, (Value.int IntKind.u8 122))] (fun J1 w =>
    conv Try.prog 29 29 J1 (fun J2 w =>
    bldS Try.prog 50 1 #[(0, J2)] (fun J3 w =>
    call Try.prog 24 #[j2, J3] (fun J4 w =>
    bldS Try.prog 30 1 #[(0, (Value.int IntKind.i64 1))] (fun J6 w =>
    call Try.prog 25 #[d1, J6] (fun J7 w =>
    call Try.prog 21 #[d1] (fun L0 w =>
    ext Try.prog L0 0 (fun L1 w =>
    ext Try.prog L0 1 (fun L2 w =>
    ext Try.prog L0 2 (fun L3 w =>
    (cCode Try.prog xc0 (retK Try.prog Try.f20.results.toList K) (fun _ _ _ => False) (retK Try.prog Try.f20.results.toList K)) (A0::d1::j2::l3::e4::a5::A1::m7::A2::b9::broken10::n11::f12::J4::L1::L2::L3::A5::A6::A7::A8::A9::C0::C1::C2::C3::C4::C5::C6::C7::C8::C9::D0::D1::D2::D3::D4::D5::D6::D7::D8::D9::E0::E1::E2::E3::E4::E5::E6::E7::E8::E9::F0::F1::F2::F3::F4::F5::F6::F7::F8::F9::G0::G1::G2::G3::G4::G5::G6::G7::G8::G9::H0::H1::H2::H3::H4::H5::H6::H7::H8::H9::I0::I1::f12::I3::I3::(gd us87 0)::(gd us87 1)::I7::d1::I9::j2::J1::J2::J3::J4::d1::J6::J7::L0::d1::L0::L1::L2::L3::L4::L5::L6::L7::L8::L9::M0::M1::M2::M3::M4::M5::M6::M7::M8::M9::N0::N1::N2::N3::N4::N5::N6::N7::N8::N9::O0::O1::O2::O3::O4::O5::[]) w) w) w) w) w) w) w) w) w) w) w) w)) w)) w) :
    cCode Try.prog (rep [1, 1, 1, 1, 1] xc0 (cd Try.f20 [1, 1, 1, 1, 1, 1, 1, 1, 1, 1, 1, 1, 1, 1])) (retK Try.prog Try.f20.results.toList K) (fun _ _ _ => False) (retK Try.prog Try.f20.results.toList K) (A0::d1::j2::l3::e4::a5::A1::m7::A2::b9::broken10::n11::f12::c13::A3::o15::A4::A5::A6::A7::A8::A9::C0::C1::C2::C3::C4::C5::C6::C7::C8::C9::D0::D1::D2::D3::D4::D5::D6::D7::D8::D9::E0::E1::E2::E3::E4::E5::E6::E7::E8::E9::F0::F1::F2::F3::F4::F5::F6::F7::F8::F9::G0::G1::G2::G3::G4::G5::G6::G7::G8::G9::H0::H1::H2::H3::H4::H5::H6::H7::H8::H9::I0::I1::I2::I3::I4::I5::I6::I7::I8::I9::J0::J1::J2::J3::J4::J5::J6::J7::J8::J9::L0::L1::L2::L3::L4::L5::L6::L7::L8::L9::M0::M1::M2::M3::M4::M5::M6::M7::M8::M9::N0::N1::N2::N3::N4::N5::N6::N7::N8::N9::O0::O1::O2::O3::O4::O5::[]) w := Eq.mp (by kernel_rfl) h

theorem leatlaw05_works_A3_r {K : KV} {w : World}
    (h : bin Try.prog BinOp.neq 33 false true f12 (Value.int IntKind.i64 0) (fun I3 w =>
    gsel I3 false (fun k87 =>
    bin Try.prog BinOp.eql 49 false true j2 (Value.pointer none) (fun I6 w =>
    k87 [j2, I6] w) w)
    (fun k => k [undef, undef] w) (fun us87 w =>
    pick I3 (Value.bool true) (gd us87 1) (fun I7 w =>
    cond I7
      (K (Value.bool false) w)
      (call Try.prog 22 #[d1, (Value.int IntKind.i64 3)] (fun I9 w =>
    bldS Try.prog 29 1 #[(0, (Value.int IntKind.u8 122))] (fun J1 w =>
    conv Try.prog 29 29 J1 (fun J2 w =>
    bldS Try.prog 50 1 #[(0, J2)] (fun J3 w =>
    call Try.prog 24 #[j2, J3] (fun J4 w =>
    bldS Try.prog 30 1 #[(0, (Value.int IntKind.i64 1))] (fun J6 w =>
    call Try.prog 25 #[d1, J6] (fun J7 w =>
    call Try.prog 21 #[d1] (fun L0 w =>
    ext Try.prog L0 0 (fun L1 w =>
    ext Try.prog L0 1 (fun L2 w =>
    ext Try.prog L0 2 (fun L3 w =>
    (leatlaw05_works_A4 K) (A0::d1::j2::l3::e4::a5::A1::m7::A2::b9::broken10::n11::f12::J4::L1::L2::L3::A5::A6::A7::A8::A9::C0::C1::C2::C3::C4::C5::C6::C7::C8::C9::D0::D1::D2::D3::D4::D5::D6::D7::D8::D9::E0::E1::E2::E3::E4::E5::E6::E7::E8::E9::F0::F1::F2::F3::F4::F5::F6::F7::F8::F9::G0::G1::G2::G3::G4::G5::G6::G7::G8::G9::H0::H1::H2::H3::H4::H5::H6::H7::H8::H9::I0::I1::f12::I3::I3::(gd us87 0)::(gd us87 1)::I7::d1::I9::j2::J1::J2::J3::J4::d1::J6::J7::L0::d1::L0::L1::L2::L3::L4::L5::L6::L7::L8::L9::M0::M1::M2::M3::M4::M5::M6::M7::M8::M9::N0::N1::N2::N3::N4::N5::N6::N7::N8::N9::O0::O1::O2::O3::O4::O5::[]) w) w) w) w) w) w) w) w) w) w) w) w)) w)) w) :
    leatlaw05_works_A3 K (A0::d1::j2::l3::e4::a5::A1::m7::A2::b9::broken10::n11::f12::c13::A3::o15::A4::A5::A6::A7::A8::A9::C0::C1::C2::C3::C4::C5::C6::C7::C8::C9::D0::D1::D2::D3::D4::D5::D6::D7::D8::D9::E0::E1::E2::E3::E4::E5::E6::E7::E8::E9::F0::F1::F2::F3::F4::F5::F6::F7::F8::F9::G0::G1::G2::G3::G4::G5::G6::G7::G8::G9::H0::H1::H2::H3::H4::H5::H6::H7::H8::H9::I0::I1::I2::I3::I4::I5::I6::I7::I8::I9::J0::J1::J2::J3::J4::J5::J6::J7::J8::J9::L0::L1::L2::L3::L4::L5::L6::L7::L8::L9::M0::M1::M2::M3::M4::M5::M6::M7::M8::M9::N0::N1::N2::N3::N4::N5::N6::N7::N8::N9::O0::O1::O2::O3::O4::O5::[]) w := by
  delta leatlaw05_works_A3
  exact Eq.mp (congrArg (fun c => cCode Try.prog c (retK Try.prog Try.f20.results.toList K) (fun _ _ _ => False) (retK Try.prog Try.f20.results.toList K) (A0::d1::j2::l3::e4::a5::A1::m7::A2::b9::broken10::n11::f12::c13::A3::o15::A4::A5::A6::A7::A8::A9::C0::C1::C2::C3::C4::C5::C6::C7::C8::C9::D0::D1::D2::D3::D4::D5::D6::D7::D8::D9::E0::E1::E2::E3::E4::E5::E6::E7::E8::E9::F0::F1::F2::F3::F4::F5::F6::F7::F8::F9::G0::G1::G2::G3::G4::G5::G6::G7::G8::G9::H0::H1::H2::H3::H4::H5::H6::H7::H8::H9::I0::I1::I2::I3::I4::I5::I6::I7::I8::I9::J0::J1::J2::J3::J4::J5::J6::J7::J8::J9::L0::L1::L2::L3::L4::L5::L6::L7::L8::L9::M0::M1::M2::M3::M4::M5::M6::M7::M8::M9::N0::N1::N2::N3::N4::N5::N6::N7::N8::N9::O0::O1::O2::O3::O4::O5::[]) w) (by kernel_rfl : (rep [1, 1, 1, 1, 1] (cd Try.f20 [1, 1, 1, 1, 1, 1, 1, 1, 1, 1, 1, 1, 1, 1, 1, 1, 1, 1, 1]) (cd Try.f20 [1, 1, 1, 1, 1, 1, 1, 1, 1, 1, 1, 1, 1, 1])) = (cd Try.f20 [1, 1, 1, 1, 1, 1, 1, 1, 1, 1, 1, 1, 1, 1]))) (leatlaw05_works_A3_k (cd Try.f20 [1, 1, 1, 1, 1, 1, 1, 1, 1, 1, 1, 1, 1, 1, 1, 1, 1, 1, 1]) h)

theorem leatlaw05_works_A4_k {K : KV} {w : World}
    (h : bin Try.prog BinOp.eql 33 false true a5 (Value.int IntKind.i64 0) (fun L5 w =>
    gsel L5 true (fun k109 =>
    bldS Try.prog 29 1 #[(0, (Value.int IntKind.u8 97))] (fun L8 w =>
    bldS Try.prog 29 1 #[(0, (Value.int IntKind.u8 98))] (fun L9 w =>
    bldS Try.prog 50 2 #[(0, L8), (1, L9)] (fun M0 w =>
    call Try.prog 27 #[m7, M0] (fun M1 w =>
    k109 [m7, L8, L9, M0, M1] w) w) w) w) w)
    (fun k => k [undef, undef, undef, undef, undef] w) (fun us109 w =>
    pick L5 (gd us109 4) (Value.bool false) (fun M2 w =>
    gsel M2 true (fun k116 =>
    bin Try.prog BinOp.eql 33 false true b9 (Value.int IntKind.i64 8) (fun M5 w =>
    k116 [b9, M5] w) w)
    (fun k => k [undef, undef] w) (fun us116 w =>
    pick M2 (gd us116 1) (Value.bool false) (fun M6 w =>
    gsel M6 true (fun k120 =>
    k120 [broken10] w)
    (fun k => k [undef] w) (fun us120 w =>
    pick M6 (gd us120 0) (Value.bool false) (fun M9 w =>
    gsel M9 true (fun k123 =>
    bldS Try.prog 29 1 #[(0, (Value.int IntKind.u8 97))] (fun N2 w =>
    bldS Try.prog 50 1 #[(0, N2)] (fun N3 w =>
    call Try.prog 27 #[n11, N3] (fun N4 w =>
    k123 [n11, N2, N3, N4] w) w) w) w)
    (fun k => k [undef, undef, undef, undef] w) (fun us123 w =>
    pick M9 (gd us123 3) (Value.bool false) (fun N5 w =>
    gsel N5 true (fun k129 =>
    bin Try.prog BinOp.eql 33 false true c13 (Value.int IntKind.i64 8) (fun N8 w =>
    k129 [c13, N8] w) w)
    (fun k => k [undef, undef] w) (fun us129 w =>
    pick N5 (gd us129 1) (Value.bool false) (fun N9 w =>
    gsel N9 true (fun k133 =>
    bldS Try.prog 29 1 #[(0, (Value.int IntKind.u8 122))] (fun O2 w =>
    bldS Try.prog 50 1 #[(0, O2)] (fun O3 w =>
    call Try.prog 27 #[o15, O3] (fun O4 w =>
    k133 [o15, O2, O3, O4] w) w) w) w)
    (fun k => k [undef, undef, undef, undef] w) (fun us133 w =>
    pick N9 (gd us133 3) (Value.bool false) (fun O5 w =>
    K O5 w) w)) w)) w)) w)) w)) w)) w) :
    cCode Try.prog (cd Try.f20 [1, 1, 1, 1, 1, 1, 1, 1, 1, 1, 1, 1, 1, 1, 1, 1, 1, 1, 1]) (retK Try.prog Try.f20.results.toList K) (fun _ _ _ => False) (retK Try.prog Try.f20.results.toList K) (A0::d1::j2::l3::e4::a5::A1::m7::A2::b9::broken10::n11::f12::c13::A3::o15::A4::A5::A6::A7::A8::A9::C0::C1::C2::C3::C4::C5::C6::C7::C8::C9::D0::D1::D2::D3::D4::D5::D6::D7::D8::D9::E0::E1::E2::E3::E4::E5::E6::E7::E8::E9::F0::F1::F2::F3::F4::F5::F6::F7::F8::F9::G0::G1::G2::G3::G4::G5::G6::G7::G8::G9::H0::H1::H2::H3::H4::H5::H6::H7::H8::H9::I0::I1::I2::I3::I4::I5::I6::I7::I8::I9::J0::J1::J2::J3::J4::J5::J6::J7::J8::J9::L0::L1::L2::L3::L4::L5::L6::L7::L8::L9::M0::M1::M2::M3::M4::M5::M6::M7::M8::M9::N0::N1::N2::N3::N4::N5::N6::N7::N8::N9::O0::O1::O2::O3::O4::O5::[]) w := Eq.mp (by kernel_rfl) h

theorem leatlaw05_works_A4_r {K : KV} {w : World}
    (h : bin Try.prog BinOp.eql 33 false true a5 (Value.int IntKind.i64 0) (fun L5 w =>
    gsel L5 true (fun k109 =>
    bldS Try.prog 29 1 #[(0, (Value.int IntKind.u8 97))] (fun L8 w =>
    bldS Try.prog 29 1 #[(0, (Value.int IntKind.u8 98))] (fun L9 w =>
    bldS Try.prog 50 2 #[(0, L8), (1, L9)] (fun M0 w =>
    call Try.prog 27 #[m7, M0] (fun M1 w =>
    k109 [m7, L8, L9, M0, M1] w) w) w) w) w)
    (fun k => k [undef, undef, undef, undef, undef] w) (fun us109 w =>
    pick L5 (gd us109 4) (Value.bool false) (fun M2 w =>
    gsel M2 true (fun k116 =>
    bin Try.prog BinOp.eql 33 false true b9 (Value.int IntKind.i64 8) (fun M5 w =>
    k116 [b9, M5] w) w)
    (fun k => k [undef, undef] w) (fun us116 w =>
    pick M2 (gd us116 1) (Value.bool false) (fun M6 w =>
    gsel M6 true (fun k120 =>
    k120 [broken10] w)
    (fun k => k [undef] w) (fun us120 w =>
    pick M6 (gd us120 0) (Value.bool false) (fun M9 w =>
    gsel M9 true (fun k123 =>
    bldS Try.prog 29 1 #[(0, (Value.int IntKind.u8 97))] (fun N2 w =>
    bldS Try.prog 50 1 #[(0, N2)] (fun N3 w =>
    call Try.prog 27 #[n11, N3] (fun N4 w =>
    k123 [n11, N2, N3, N4] w) w) w) w)
    (fun k => k [undef, undef, undef, undef] w) (fun us123 w =>
    pick M9 (gd us123 3) (Value.bool false) (fun N5 w =>
    gsel N5 true (fun k129 =>
    bin Try.prog BinOp.eql 33 false true c13 (Value.int IntKind.i64 8) (fun N8 w =>
    k129 [c13, N8] w) w)
    (fun k => k [undef, undef] w) (fun us129 w =>
    pick N5 (gd us129 1) (Value.bool false) (fun N9 w =>
    gsel N9 true (fun k133 =>
    bldS Try.prog 29 1 #[(0, (Value.int IntKind.u8 122))] (fun O2 w =>
    bldS Try.prog 50 1 #[(0, O2)] (fun O3 w =>
    call Try.prog 27 #[o15, O3] (fun O4 w =>
    k133 [o15, O2, O3, O4] w) w) w) w)
    (fun k => k [undef, undef, undef, undef] w) (fun us133 w =>
    pick N9 (gd us133 3) (Value.bool false) (fun O5 w =>
    K O5 w) w)) w)) w)) w)) w)) w)) w) :
    leatlaw05_works_A4 K (A0::d1::j2::l3::e4::a5::A1::m7::A2::b9::broken10::n11::f12::c13::A3::o15::A4::A5::A6::A7::A8::A9::C0::C1::C2::C3::C4::C5::C6::C7::C8::C9::D0::D1::D2::D3::D4::D5::D6::D7::D8::D9::E0::E1::E2::E3::E4::E5::E6::E7::E8::E9::F0::F1::F2::F3::F4::F5::F6::F7::F8::F9::G0::G1::G2::G3::G4::G5::G6::G7::G8::G9::H0::H1::H2::H3::H4::H5::H6::H7::H8::H9::I0::I1::I2::I3::I4::I5::I6::I7::I8::I9::J0::J1::J2::J3::J4::J5::J6::J7::J8::J9::L0::L1::L2::L3::L4::L5::L6::L7::L8::L9::M0::M1::M2::M3::M4::M5::M6::M7::M8::M9::N0::N1::N2::N3::N4::N5::N6::N7::N8::N9::O0::O1::O2::O3::O4::O5::[]) w := by
  delta leatlaw05_works_A4
  exact Eq.mp (congrArg (fun c => cCode Try.prog c (retK Try.prog Try.f20.results.toList K) (fun _ _ _ => False) (retK Try.prog Try.f20.results.toList K) (A0::d1::j2::l3::e4::a5::A1::m7::A2::b9::broken10::n11::f12::c13::A3::o15::A4::A5::A6::A7::A8::A9::C0::C1::C2::C3::C4::C5::C6::C7::C8::C9::D0::D1::D2::D3::D4::D5::D6::D7::D8::D9::E0::E1::E2::E3::E4::E5::E6::E7::E8::E9::F0::F1::F2::F3::F4::F5::F6::F7::F8::F9::G0::G1::G2::G3::G4::G5::G6::G7::G8::G9::H0::H1::H2::H3::H4::H5::H6::H7::H8::H9::I0::I1::I2::I3::I4::I5::I6::I7::I8::I9::J0::J1::J2::J3::J4::J5::J6::J7::J8::J9::L0::L1::L2::L3::L4::L5::L6::L7::L8::L9::M0::M1::M2::M3::M4::M5::M6::M7::M8::M9::N0::N1::N2::N3::N4::N5::N6::N7::N8::N9::O0::O1::O2::O3::O4::O5::[]) w) (by kernel_rfl : (cd Try.f20 [1, 1, 1, 1, 1, 1, 1, 1, 1, 1, 1, 1, 1, 1, 1, 1, 1, 1, 1]) = (cd Try.f20 [1, 1, 1, 1, 1, 1, 1, 1, 1, 1, 1, 1, 1, 1, 1, 1, 1, 1, 1]))) (leatlaw05_works_A4_k h)
attribute [irreducible] leatlaw05_works_A1 leatlaw05_works_A2 leatlaw05_works_A3 leatlaw05_works_A4

end
end Go.Proofs.Ytjkmblbonambjaa
