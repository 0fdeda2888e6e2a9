/- Written by program (gen.py): what the code of some functions asks, part by part; each text is checked by the kernel against the translation. -/
import Derived.Test.YtjkmblbonambjaaSh
import Derived.Test.YtjkmblbonambjaaChecked
namespace Go.Proofs.Ytjkmblbonambjaa
open Go.RowKit
set_option maxRecDepth 100000

def leatlaw04_works_A1 (K : KV) : KE := cCode Try.prog (cd Try.f10 [1, 1, 1, 1, 1, 1, 1, 1, 1]) (retK Try.prog Try.f10.results.toList K) (fun _ _ _ => False) (retK Try.prog Try.f10.results.toList K)
def leatlaw04_works_A2 (K : KV) : KE := cCode Try.prog (cd Try.f10 [1, 1, 1, 1, 1, 1, 1, 1, 1, 1, 1, 1, 1, 1, 1, 1]) (retK Try.prog Try.f10.results.toList K) (fun _ _ _ => False) (retK Try.prog Try.f10.results.toList K)
theorem leatlaw04_works_k {K : KV} (xc0 : Code) {w : World}
    (h : call Try.prog 11 #[] (fun A4 w =>
    bin Try.prog BinOp.eql 25 false true A4 (Value.pointer none) (fun A6 w =>
    cond A6
      (K (Value.bool false) w)
      (bldS Try.prog 29 2 #[(0, (Value.int IntKind.u8 97)), (1, (Value.int IntKind.u8 98))] (fun A8 w =>
    conv Try.prog 29 29 A8 (fun A9 w =>
    call Try.prog 32 #[A4, (Value.int IntKind.i64 0), A9] (fun C0 w =>
    call Try.prog 33 #[A4] (fun C2 w =>
    bldS Try.prog 29 2 #[(0, (Value.int IntKind.u8 99)), (1, (Value.int IntKind.u8 100))] (fun C4 w =>
    conv Try.prog 29 29 C4 (fun C5 w =>
    call Try.prog 32 #[A4, (Value.int IntKind.i64 0), C5] (fun C6 w =>
    call Try.prog 16 #[A4] (fun C8 w =>
    call Try.prog 28 #[A4] (fun D0 w =>
    call Try.prog 15 #[A4] (fun D2 w =>
    (cCode Try.prog xc0 (retK Try.prog Try.f10.results.toList K) (fun _ _ _ => False) (retK Try.prog Try.f10.results.toList K)) ((Value.bool false)::A4::C0::C2::C6::C8::D2::undef::undef::undef::undef::undef::undef::undef::undef::undef::A4::A4::A6::A4::A8::A9::C0::A4::C2::A4::C4::C5::C6::A4::C8::A4::D0::A4::D2::undef::undef::undef::undef::undef::undef::undef::undef::undef::undef::undef::undef::undef::undef::undef::undef::undef::undef::undef::undef::undef::undef::undef::undef::undef::undef::undef::undef::undef::undef::undef::undef::undef::undef::undef::undef::undef::undef::undef::undef::undef::undef::undef::undef::undef::undef::undef::undef::undef::undef::undef::undef::undef::undef::undef::undef::undef::undef::undef::undef::undef::undef::undef::undef::undef::undef::undef::undef::undef::undef::undef::undef::undef::undef::undef::undef::undef::undef::undef::undef::undef::undef::undef::undef::undef::undef::undef::undef::undef::undef::undef::[]) w) w) w) w) w) w) w) w) w) w) w)) w) w) :
    cCode Try.prog (rep [1, 1, 1, 1, 1, 1, 1, 1, 1] xc0 (cd Try.f10 [])) (retK Try.prog Try.f10.results.toList K) (fun _ _ _ => False) (retK Try.prog Try.f10.results.toList K) (undef::undef::undef::undef::undef::undef::undef::undef::undef::undef::undef::undef::undef::undef::undef::undef::undef::undef::undef::undef::undef::undef::undef::undef::undef::undef::undef::undef::undef::undef::undef::undef::undef::undef::undef::undef::undef::undef::undef::undef::undef::undef::undef::undef::undef::undef::undef::undef::undef::undef::undef::undef::undef::undef::undef::undef::undef::undef::undef::undef::undef::undef::undef::undef::undef::undef::undef::undef::undef::undef::undef::undef::undef::undef::undef::undef::undef::undef::undef::undef::undef::undef::undef::undef::undef::undef::undef::undef::undef::undef::undef::undef::undef::undef::undef::undef::undef::undef::undef::undef::undef::undef::undef::undef::undef::undef::undef::undef::undef::undef::undef::undef::undef::undef::undef::undef::undef::undef::undef::undef::undef::undef::undef::undef::undef::undef::[]) w := Eq.mp (by kernel_rfl) h

theorem leatlaw04_works_in {K : KV} {w : World}
    (h : call Try.prog 11 #[] (fun A4 w =>
    bin Try.prog BinOp.eql 25 false true A4 (Value.pointer none) (fun A6 w =>
    cond A6
      (K (Value.bool false) w)
      (bldS Try.prog 29 2 #[(0, (Value.int IntKind.u8 97)), (1, (Value.int IntKind.u8 98))] (fun A8 w =>
    conv Try.prog 29 29 A8 (fun A9 w =>
    call Try.prog 32 #[A4, (Value.int IntKind.i64 0), A9] (fun C0 w =>
    call Try.prog 33 #[A4] (fun C2 w =>
    bldS Try.prog 29 2 #[(0, (Value.int IntKind.u8 99)), (1, (Value.int IntKind.u8 100))] (fun C4 w =>
    conv Try.prog 29 29 C4 (fun C5 w =>
    call Try.prog 32 #[A4, (Value.int IntKind.i64 0), C5] (fun C6 w =>
    call Try.prog 16 #[A4] (fun C8 w =>
    call Try.prog 28 #[A4] (fun D0 w =>
    call Try.prog 15 #[A4] (fun D2 w =>
    (leatlaw04_works_A1 K) ((Value.bool false)::A4::C0::C2::C6::C8::D2::undef::undef::undef::undef::undef::undef::undef::undef::undef::A4::A4::A6::A4::A8::A9::C0::A4::C2::A4::C4::C5::C6::A4::C8::A4::D0::A4::D2::undef::undef::undef::undef::undef::undef::undef::undef::undef::undef::undef::undef::undef::undef::undef::undef::undef::undef::undef::undef::undef::undef::undef::undef::undef::undef::undef::undef::undef::undef::undef::undef::undef::undef::undef::undef::undef::undef::undef::undef::undef::undef::undef::undef::undef::undef::undef::undef::undef::undef::undef::undef::undef::undef::undef::undef::undef::undef::undef::undef::undef::undef::undef::undef::undef::undef::undef::undef::undef::undef::undef::undef::undef::undef::undef::undef::undef::undef::undef::undef::undef::undef::undef::undef::undef::undef::undef::undef::undef::undef::undef::[]) w) w) w) w) w) w) w) w) w) w) w)) w) w) :
    Gives Try.prog 10 #[] w K := enter' Try.func10 (by kernel_rfl) (Eq.mp (congrArg (fun c => cCode Try.prog c (retK Try.prog Try.f10.results.toList K) (fun _ _ _ => False) (retK Try.prog Try.f10.results.toList K) (undef::undef::undef::undef::undef::undef::undef::undef::undef::undef::undef::undef::undef::undef::undef::undef::undef::undef::undef::undef::undef::undef::undef::undef::undef::undef::undef::undef::undef::undef::undef::undef::undef::undef::undef::undef::undef::undef::undef::undef::undef::undef::undef::undef::undef::undef::undef::undef::undef::undef::undef::undef::undef::undef::undef::undef::undef::undef::undef::undef::undef::undef::undef::undef::undef::undef::undef::undef::undef::undef::undef::undef::undef::undef::undef::undef::undef::undef::undef::undef::undef::undef::undef::undef::undef::undef::undef::undef::undef::undef::undef::undef::undef::undef::undef::undef::undef::undef::undef::undef::undef::undef::undef::undef::undef::undef::undef::undef::undef::undef::undef::undef::undef::undef::undef::undef::undef::undef::undef::undef::undef::undef::undef::undef::undef::undef::[]) w) (by kernel_rfl : (rep [1, 1, 1, 1, 1, 1, 1, 1, 1] (cd Try.f10 [1, 1, 1, 1, 1, 1, 1, 1, 1]) (cd Try.f10 [])) = (cd Try.f10 []))) (leatlaw04_works_k (cd Try.f10 [1, 1, 1, 1, 1, 1, 1, 1, 1]) h))
theorem leatlaw04_works_go : isGo Try.prog 10 := ⟨_, Try.func10, by kernel_rfl, by kernel_rfl⟩

section
variable {A0 d1 a2 b3 c4 n5 on6 e7 s8 f9 A1 A2 u_12 A3 g14 h15 A4 A5 A6 A7 A8 A9 C0 C1 C2 C3 C4 C5 C6 C7 C8 C9 D0 D1 D2 D3 D4 D5 D6 D7 D8 D9 E0 E1 E2 E3 E4 E5 E6 E7 E8 E9 F0 F1 F2 F3 F4 F5 F6 F7 F8 F9 G0 G1 G2 G3 G4 G5 G6 G7 G8 G9 H0 H1 H2 H3 H4 H5 H6 H7 H8 H9 I0 I1 I2 I3 I4 I5 I6 I7 I8 I9 J0 J1 J2 J3 J4 J5 J6 J7 J8 J9 L0 L1 L2 L3 L4 L5 L6 L7 L8 L9 M0 M1 M2 M3 M4 M5 M6 M7 M8 M9 N0 N1 N2 N3 : Value}
theorem leatlaw04_works_A1_k {K : KV} (xc0 : Code) {w : World}
    (h : bldS Try.prog 30 2 #[(0, (Value.int IntKind.i64 0)), (1, (Value.int IntKind.i64 1))] (fun D4 w =>
    call Try.prog 25 #[d1, D4] (fun D5 w =>
    call Try.prog 17 #[d1, (Value.int IntKind.i64 0)] (fun D8 w =>
    ext Try.prog D8 0 (fun D9 w =>
    ext Try.prog D8 1 (fun E0 w =>
    bldS Try.prog 29 1 #[(0, (Value.int IntKind.u8 120))] (fun E2 w =>
    conv Try.prog 29 29 E2 (fun E3 w =>
    call Try.prog 32 #[d1, (Value.int IntKind.i64 1), E3] (fun E4 w =>
    call Try.prog 34 #[d1] (fun E6 w =>
    call Try.prog 28 #[d1] (fun E8 w =>
    bldS Try.prog 30 1 #[(0, (Value.int IntKind.i64 1))] (fun F0 w =>
    call Try.prog 25 #[d1, F0] (fun F1 w =>
    call Try.prog 17 #[d1, (Value.int IntKind.i64 0)] (fun F4 w =>
    ext Try.prog F4 0 (fun F5 w =>
    ext Try.prog F4 1 (fun F6 w =>
    (cCode Try.prog xc0 (retK Try.prog Try.f10.results.toList K) (fun _ _ _ => False) (retK Try.prog Try.f10.results.toList K)) (A0::d1::a2::b3::c4::n5::on6::D5::D9::E0::F5::F6::u_12::A3::g14::h15::A4::A5::A6::A7::A8::A9::C0::C1::C2::C3::C4::C5::C6::C7::C8::C9::D0::D1::D2::d1::D4::D5::D8::d1::D8::D9::E0::d1::E2::E3::E4::d1::E6::d1::E8::d1::F0::F1::F4::d1::F4::F5::F6::F7::F8::F9::G0::G1::G2::G3::G4::G5::G6::G7::G8::G9::H0::H1::H2::H3::H4::H5::H6::H7::H8::H9::I0::I1::I2::I3::I4::I5::I6::I7::I8::I9::J0::J1::J2::J3::J4::J5::J6::J7::J8::J9::L0::L1::L2::L3::L4::L5::L6::L7::L8::L9::M0::M1::M2::M3::M4::M5::M6::M7::M8::M9::N0::N1::N2::N3::[]) w) w) w) w) w) w) w) w) w) w) w) w) w) w) w) w) :
    cCode Try.prog (rep [1, 1, 1, 1, 1, 1, 1] xc0 (cd Try.f10 [1, 1, 1, 1, 1, 1, 1, 1, 1])) (retK Try.prog Try.f10.results.toList K) (fun _ _ _ => False) (retK Try.prog Try.f10.results.toList K) (A0::d1::a2::b3::c4::n5::on6::e7::s8::f9::A1::A2::u_12::A3::g14::h15::A4::A5::A6::A7::A8::A9::C0::C1::C2::C3::C4::C5::C6::C7::C8::C9::D0::D1::D2::D3::D4::D5::D6::D7::D8::D9::E0::E1::E2::E3::E4::E5::E6::E7::E8::E9::F0::F1::F2::F3::F4::F5::F6::F7::F8::F9::G0::G1::G2::G3::G4::G5::G6::G7::G8::G9::H0::H1::H2::H3::H4::H5::H6::H7::H8::H9::I0::I1::I2::I3::I4::I5::I6::I7::I8::I9::J0::J1::J2::J3::J4::J5::J6::J7::J8::J9::L0::L1::L2::L3::L4::L5::L6::L7::L8::L9::M0::M1::M2::M3::M4::M5::M6::M7::M8::M9::N0::N1::N2::N3::[]) w := Eq.mp (by kernel_rfl) h

theorem leatlaw04_works_A1_r {K : KV} {w : World}
    (h : bldS Try.prog 30 2 #[(0, (Value.int IntKind.i64 0)), (1, (Value.int IntKind.i64 1))] (fun D4 w =>
    call Try.prog 25 #[d1, D4] (fun D5 w =>
    call Try.prog 17 #[d1, (Value.int IntKind.i64 0)] (fun D8 w =>
    ext Try.prog D8 0 (fun D9 w =>
    ext Try.prog D8 1 (fun E0 w =>
    bldS Try.prog 29 1 #[(0, (Value.int IntKind.u8 120))] (fun E2 w =>
    conv Try.prog 29 29 E2 (fun E3 w =>
    call Try.prog 32 #[d1, (Value.int IntKind.i64 1), E3] (fun E4 w =>
    call Try.prog 34 #[d1] (fun E6 w =>
    call Try.prog 28 #[d1] (fun E8 w =>
    bldS Try.prog 30 1 #[(0, (Value.int IntKind.i64 1))] (fun F0 w =>
    call Try.prog 25 #[d1, F0] (fun F1 w =>
    call Try.prog 17 #[d1, (Value.int IntKind.i64 0)] (fun F4 w =>
    ext Try.prog F4 0 (fun F5 w =>
    ext Try.prog F4 1 (fun F6 w =>
    (leatlaw04_works_A2 K) (A0::d1::a2::b3::c4::n5::on6::D5::D9::E0::F5::F6::u_12::A3::g14::h15::A4::A5::A6::A7::A8::A9::C0::C1::C2::C3::C4::C5::C6::C7::C8::C9::D0::D1::D2::d1::D4::D5::D8::d1::D8::D9::E0::d1::E2::E3::E4::d1::E6::d1::E8::d1::F0::F1::F4::d1::F4::F5::F6::F7::F8::F9::G0::G1::G2::G3::G4::G5::G6::G7::G8::G9::H0::H1::H2::H3::H4::H5::H6::H7::H8::H9::I0::I1::I2::I3::I4::I5::I6::I7::I8::I9::J0::J1::J2::J3::J4::J5::J6::J7::J8::J9::L0::L1::L2::L3::L4::L5::L6::L7::L8::L9::M0::M1::M2::M3::M4::M5::M6::M7::M8::M9::N0::N1::N2::N3::[]) w) w) w) w) w) w) w) w) w) w) w) w) w) w) w) w) :
    leatlaw04_works_A1 K (A0::d1::a2::b3::c4::n5::on6::e7::s8::f9::A1::A2::u_12::A3::g14::h15::A4::A5::A6::A7::A8::A9::C0::C1::C2::C3::C4::C5::C6::C7::C8::C9::D0::D1::D2::D3::D4::D5::D6::D7::D8::D9::E0::E1::E2::E3::E4::E5::E6::E7::E8::E9::F0::F1::F2::F3::F4::F5::F6::F7::F8::F9::G0::G1::G2::G3::G4::G5::G6::G7::G8::G9::H0::H1::H2::H3::H4::H5::H6::H7::H8::H9::I0::I1::I2::I3::I4::I5::I6::I7::I8::I9::J0::J1::J2::J3::J4::J5::J6::J7::J8::J9::L0::L1::L2::L3::L4::L5::L6::L7::L8::L9::M0::M1::M2::M3::M4::M5::M6::M7::M8::M9::N0::N1::N2::N3::[]) w := by
  delta leatlaw04_works_A1
  exact Eq.mp (congrArg (fun c => cCode Try.prog c (retK Try.prog Try.f10.results.toList K) (fun _ _ _ => False) (retK Try.prog Try.f10.results.toList K) (A0::d1::a2::b3::c4::n5::on6::e7::s8::f9::A1::A2::u_12::A3::g14::h15::A4::A5::A6::A7::A8::A9::C0::C1::C2::C3::C4::C5::C6::C7::C8::C9::D0::D1::D2::D3::D4::D5::D6::D7::D8::D9::E0::E1::E2::E3::E4::E5::E6::E7::E8::E9::F0::F1::F2::F3::F4::F5::F6::F7::F8::F9::G0::G1::G2::G3::G4::G5::G6::G7::G8::G9::H0::H1::H2::H3::H4::H5::H6::H7::H8::H9::I0::I1::I2::I3::I4::I5::I6::I7::I8::I9::J0::J1::J2::J3::J4::J5::J6::J7::J8::J9::L0::L1::L2::L3::L4::L5::L6::L7::L8::L9::M0::M1::M2::M3::M4::M5::M6::M7::M8::M9::N0::N1::N2::N3::[]) w) (by kernel_rfl : (rep [1, 1, 1, 1, 1, 1, 1] (cd Try.f10 [1, 1, 1, 1, 1, 1, 1, 1, 1, 1, 1, 1, 1, 1, 1, 1]) (cd Try.f10 [1, 1, 1, 1, 1, 1, 1, 1, 1])) = (cd Try.f10 [1, 1, 1, 1, 1, 1, 1, 1, 1]))) (leatlaw04_works_A1_k (cd Try.f10 [1, 1, 1, 1, 1, 1, 1, 1, 1, 1, 1, 1, 1, 1, 1, 1]) h)

theorem leatlaw04_works_A2_k {K : KV} {w : World}
    (h : call Try.prog 17 #[d1, (Value.int IntKind.i64 1)] (fun F9 w =>
    ext Try.prog F9 0 (fun G0 w =>
    ext Try.prog F9 1 (fun G1 w =>
    call Try.prog 22 #[d1, (Value.int IntKind.i64 1)] (fun G3 w =>
    bldS Try.prog 29 1 #[(0, (Value.int IntKind.u8 97))] (fun G5 w =>
    conv Try.prog 29 29 G5 (fun G6 w =>
    call Try.prog 32 #[d1, (Value.int IntKind.i64 0), G6] (fun G7 w =>
    call Try.prog 33 #[d1] (fun G9 w =>
    bin Try.prog BinOp.eql 33 false true a2 (Value.int IntKind.i64 0) (fun H1 w =>
    gsel H1 true (fun k75 =>
    bin Try.prog BinOp.eql 33 false true b3 (Value.int IntKind.i64 0) (fun H4 w =>
    k75 [b3, H4] w) w)
    (fun k => k [undef, undef] w) (fun us75 w =>
    pick H1 (gd us75 1) (Value.bool false) (fun H5 w =>
    gsel H5 true (fun k79 =>
    bin Try.prog BinOp.eql 33 false true c4 (Value.int IntKind.i64 0) (fun H8 w =>
    k79 [c4, H8] w) w)
    (fun k => k [undef, undef] w) (fun us79 w =>
    pick H5 (gd us79 1) (Value.bool false) (fun H9 w =>
    gsel H9 true (fun k83 =>
    bin Try.prog BinOp.eql 3 false true n5 (Value.int IntKind.i64 1) (fun I2 w =>
    k83 [n5, I2] w) w)
    (fun k => k [undef, undef] w) (fun us83 w =>
    pick H9 (gd us83 1) (Value.bool false) (fun I3 w =>
    gsel I3 true (fun k87 =>
    un Try.prog UnOp.not on6 (fun I6 w =>
    k87 [on6, I6] w) w)
    (fun k => k [undef, undef] w) (fun us87 w =>
    pick I3 (gd us87 1) (Value.bool false) (fun I7 w =>
    gsel I7 true (fun k91 =>
    bin Try.prog BinOp.eql 33 false true e7 (Value.int IntKind.i64 0) (fun J0 w =>
    k91 [e7, J0] w) w)
    (fun k => k [undef, undef] w) (fun us91 w =>
    pick I7 (gd us91 1) (Value.bool false) (fun J1 w =>
    gsel J1 true (fun k95 =>
    conv Try.prog 29 9 s8 (fun J4 w =>
    bin Try.prog BinOp.eql 9 false true J4 (Value.string (bstr [97, 98, 99])) (fun J5 w =>
    k95 [s8, J4, J5] w) w) w)
    (fun k => k [undef, undef, undef] w) (fun us95 w =>
    pick J1 (gd us95 2) (Value.bool false) (fun J6 w =>
    gsel J6 true (fun k100 =>
    bin Try.prog BinOp.eql 33 false true f9 (Value.int IntKind.i64 0) (fun J9 w =>
    k100 [f9, J9] w) w)
    (fun k => k [undef, undef] w) (fun us100 w =>
    pick J6 (gd us100 1) (Value.bool false) (fun L0 w =>
    gsel L0 true (fun k104 =>
    conv Try.prog 29 9 A1 (fun L3 w =>
    bin Try.prog BinOp.eql 9 false true L3 (Value.string (bstr [97, 98, 99])) (fun L4 w =>
    k104 [A1, L3, L4] w) w) w)
    (fun k => k [undef, undef, undef] w) (fun us104 w =>
    pick L0 (gd us104 2) (Value.bool false) (fun L5 w =>
    gsel L5 true (fun k109 =>
    conv Try.prog 29 9 G0 (fun L8 w =>
    bin Try.prog BinOp.eql 9 false true L8 (Value.string (bstr [120])) (fun L9 w =>
    k109 [G0, L8, L9] w) w) w)
    (fun k => k [undef, undef, undef] w) (fun us109 w =>
    pick L5 (gd us109 2) (Value.bool false) (fun M0 w =>
    gsel M0 true (fun k114 =>
    bin Try.prog BinOp.eql 33 false true G7 (Value.int IntKind.i64 0) (fun M3 w =>
    k114 [G7, M3] w) w)
    (fun k => k [undef, undef] w) (fun us114 w =>
    pick M0 (gd us114 1) (Value.bool false) (fun M4 w =>
    gsel M4 true (fun k118 =>
    bin Try.prog BinOp.eql 33 false true G9 (Value.int IntKind.i64 8) (fun M7 w =>
    k118 [G9, M7] w) w)
    (fun k => k [undef, undef] w) (fun us118 w =>
    pick M4 (gd us118 1) (Value.bool false) (fun M8 w =>
    gsel M8 true (fun k122 =>
    call Try.prog 15 #[d1] (fun N1 w =>
    un Try.prog UnOp.not N1 (fun N2 w =>
    k122 [d1, N1, N2] w) w) w)
    (fun k => k [undef, undef, undef] w) (fun us122 w =>
    pick M8 (gd us122 2) (Value.bool false) (fun N3 w =>
    K N3 w) w)) w)) w)) w)) w)) w)) w)) w)) w)) w)) w)) w)) w) w) w) w) w) w) w) w) w) :
    cCode Try.prog (cd Try.f10 [1, 1, 1, 1, 1, 1, 1, 1, 1, 1, 1, 1, 1, 1, 1, 1]) (retK Try.prog Try.f10.results.toList K) (fun _ _ _ => False) (retK Try.prog Try.f10.results.toList K) (A0::d1::a2::b3::c4::n5::on6::e7::s8::f9::A1::A2::u_12::A3::g14::h15::A4::A5::A6::A7::A8::A9::C0::C1::C2::C3::C4::C5::C6::C7::C8::C9::D0::D1::D2::D3::D4::D5::D6::D7::D8::D9::E0::E1::E2::E3::E4::E5::E6::E7::E8::E9::F0::F1::F2::F3::F4::F5::F6::F7::F8::F9::G0::G1::G2::G3::G4::G5::G6::G7::G8::G9::H0::H1::H2::H3::H4::H5::H6::H7::H8::H9::I0::I1::I2::I3::I4::I5::I6::I7::I8::I9::J0::J1::J2::J3::J4::J5::J6::J7::J8::J9::L0::L1::L2::L3::L4::L5::L6::L7::L8::L9::M0::M1::M2::M3::M4::M5::M6::M7::M8::M9::N0::N1::N2::N3::[]) w := Eq.mp (by kernel_rfl) h

theorem leatlaw04_works_A2_r {K : KV} {w : World}
    (h : call Try.prog 17 #[d1, (Value.int IntKind.i64 1)] (fun F9 w =>
    ext Try.prog F9 0 (fun G0 w =>
    ext Try.prog F9 1 (fun G1 w =>
    call Try.prog 22 #[d1, (Value.int IntKind.i64 1)] (fun G3 w =>
    bldS Try.prog 29 1 #[(0, (Value.int IntKind.u8 97))] (fun G5 w =>
    conv Try.prog 29 29 G5 (fun G6 w =>
    call Try.prog 32 #[d1, (Value.int IntKind.i64 0), G6] (fun G7 w =>
    call Try.prog 33 #[d1] (fun G9 w =>
    bin Try.prog BinOp.eql 33 false true a2 (Value.int IntKind.i64 0) (fun H1 w =>
    gsel H1 true (fun k75 =>
    bin Try.prog BinOp.eql 33 false true b3 (Value.int IntKind.i64 0) (fun H4 w =>
    k75 [b3, H4] w) w)
    (fun k => k [undef, undef] w) (fun us75 w =>
    pick H1 (gd us75 1) (Value.bool false) (fun H5 w =>
    gsel H5 true (fun k79 =>
    bin Try.prog BinOp.eql 33 false true c4 (Value.int IntKind.i64 0) (fun H8 w =>
    k79 [c4, H8] w) w)
    (fun k => k [undef, undef] w) (fun us79 w =>
    pick H5 (gd us79 1) (Value.bool false) (fun H9 w =>
    gsel H9 true (fun k83 =>
    bin Try.prog BinOp.eql 3 false true n5 (Value.int IntKind.i64 1) (fun I2 w =>
    k83 [n5, I2] w) w)
    (fun k => k [undef, undef] w) (fun us83 w =>
    pick H9 (gd us83 1) (Value.bool false) (fun I3 w =>
    gsel I3 true (fun k87 =>
    un Try.prog UnOp.not on6 (fun I6 w =>
    k87 [on6, I6] w) w)
    (fun k => k [undef, undef] w) (fun us87 w =>
    pick I3 (gd us87 1) (Value.bool false) (fun I7 w =>
    gsel I7 true (fun k91 =>
    bin Try.prog BinOp.eql 33 false true e7 (Value.int IntKind.i64 0) (fun J0 w =>
    k91 [e7, J0] w) w)
    (fun k => k [undef, undef] w) (fun us91 w =>
    pick I7 (gd us91 1) (Value.bool false) (fun J1 w =>
    gsel J1 true (fun k95 =>
    conv Try.prog 29 9 s8 (fun J4 w =>
    bin Try.prog BinOp.eql 9 false true J4 (Value.string (bstr [97, 98, 99])) (fun J5 w =>
    k95 [s8, J4, J5] w) w) w)
    (fun k => k [undef, undef, undef] w) (fun us95 w =>
    pick J1 (gd us95 2) (Value.bool false) (fun J6 w =>
    gsel J6 true (fun k100 =>
    bin Try.prog BinOp.eql 33 false true f9 (Value.int IntKind.i64 0) (fun J9 w =>
    k100 [f9, J9] w) w)
    (fun k => k [undef, undef] w) (fun us100 w =>
    pick J6 (gd us100 1) (Value.bool false) (fun L0 w =>
    gsel L0 true (fun k104 =>
    conv Try.prog 29 9 A1 (fun L3 w =>
    bin Try.prog BinOp.eql 9 false true L3 (Value.string (bstr [97, 98, 99])) (fun L4 w =>
    k104 [A1, L3, L4] w) w) w)
    (fun k => k [undef, undef, undef] w) (fun us104 w =>
    pick L0 (gd us104 2) (Value.bool false) (fun L5 w =>
    gsel L5 true (fun k109 =>
    conv Try.prog 29 9 G0 (fun L8 w =>
    bin Try.prog BinOp.eql 9 false true L8 (Value.string (bstr [120])) (fun L9 w =>
    k109 [G0, L8, L9] w) w) w)
    (fun k => k [undef, undef, undef] w) (fun us109 w =>
    pick L5 (gd us109 2) (Value.bool false) (fun M0 w =>
    gsel M0 true (fun k114 =>
    bin Try.prog BinOp.eql 33 false true G7 (Value.int IntKind.i64 0) (fun M3 w =>
    k114 [G7, M3] w) w)
    (fun k => k [undef, undef] w) (fun us114 w =>
    pick M0 (gd us114 1) (Value.bool false) (fun M4 w =>
    gsel M4 true (fun k118 =>
    bin Try.prog BinOp.eql 33 false true G9 (Value.int IntKind.i64 8) (fun M7 w =>
    k118 [G9, M7] w) w)
    (fun k => k [undef, undef] w) (fun us118 w =>
    pick M4 (gd us118 1) (Value.bool false) (fun M8 w =>
    gsel M8 true (fun k122 =>
    call Try.prog 15 #[d1] (fun N1 w =>
    un Try.prog UnOp.not N1 (fun N2 w =>
    k122 [d1, N1, N2] w) w) w)
    (fun k => k [undef, undef, undef] w) (fun us122 w =>
    pick M8 (gd us122 2) (Value.bool false) (fun N3 w =>
    K N3 w) w)) w)) w)) w)) w)) w)) w)) w)) w)) w)) w)) w)) w) w) w) w) w) w) w) w) w) :
    leatlaw04_works_A2 K (A0::d1::a2::b3::c4::n5::on6::e7::s8::f9::A1::A2::u_12::A3::g14::h15::A4::A5::A6::A7::A8::A9::C0::C1::C2::C3::C4::C5::C6::C7::C8::C9::D0::D1::D2::D3::D4::D5::D6::D7::D8::D9::E0::E1::E2::E3::E4::E5::E6::E7::E8::E9::F0::F1::F2::F3::F4::F5::F6::F7::F8::F9::G0::G1::G2::G3::G4::G5::G6::G7::G8::G9::H0::H1::H2::H3::H4::H5::H6::H7::H8::H9::I0::I1::I2::I3::I4::I5::I6::I7::I8::I9::J0::J1::J2::J3::J4::J5::J6::J7::J8::J9::L0::L1::L2::L3::L4::L5::L6::L7::L8::L9::M0::M1::M2::M3::M4::M5::M6::M7::M8::M9::N0::N1::N2::N3::[]) w := by
  delta leatlaw04_works_A2
  exact Eq.mp (congrArg (fun c => cCode Try.prog c (retK Try.prog Try.f10.results.toList K) (fun _ _ _ => False) (retK Try.prog Try.f10.results.toList K) (A0::d1::a2::b3::c4::n5::on6::e7::s8::f9::A1::A2::u_12::A3::g14::h15::A4::A5::A6::A7::A8::A9::C0::C1::C2::C3::C4::C5::C6::C7::C8::C9::D0::D1::D2::D3::D4::D5::D6::D7::D8::D9::E0::E1::E2::E3::E4::E5::E6::E7::E8::E9::F0::F1::F2::F3::F4::F5::F6::F7::F8::F9::G0::G1::G2::G3::G4::G5::G6::G7::G8::G9::H0::H1::H2::H3::H4::H5::H6::H7::H8::H9::I0::I1::I2::I3::I4::I5::I6::I7::I8::I9::J0::J1::J2::J3::J4::J5::J6::J7::J8::J9::L0::L1::L2::L3::L4::L5::L6::L7::L8::L9::M0::M1::M2::M3::M4::M5::M6::M7::M8::M9::N0::N1::N2::N3::[]) w) (by kernel_rfl : (cd Try.f10 [1, 1, 1, 1, 1, 1, 1, 1, 1, 1, 1, 1, 1, 1, 1, 1]) = (cd Try.f10 [1, 1, 1, 1, 1, 1, 1, 1, 1, 1, 1, 1, 1, 1, 1, 1]))) (leatlaw04_works_A2_k h)
attribute [irreducible] leatlaw04_works_A1 leatlaw04_works_A2

end
end Go.Proofs.Ytjkmblbonambjaa
