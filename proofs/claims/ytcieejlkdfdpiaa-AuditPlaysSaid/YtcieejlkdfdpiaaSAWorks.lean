/- Written by program (gen.py): what the code of some functions asks, part by part; each text is checked by the kernel against the translation. -/
import Derived.Test.YtcieejlkdfdpiaaSh
import Derived.Test.YtcieejlkdfdpiaaChecked
namespace Go.Proofs.Ytcieejlkdfdpiaa
open Go.RowKit
set_option maxRecDepth 100000

def leatlaw26_works_A1 (K : KV) : KE := cCode Try.prog (cd Try.f6 [1, 1, 1, 1, 1, 1, 1]) (retK Try.prog Try.f6.results.toList K) (fun _ _ _ => False) (retK Try.prog Try.f6.results.toList K)
theorem leatlaw26_works_k {K : KV} (xc0 : Code) {w : World}
    (h : call Try.prog 7 #[] (fun A3 w =>
    bld Try.prog 35 #[(0, (Value.int IntKind.u8 1)), (3, (Value.int IntKind.i64 10))] (fun A5 w =>
    bld Try.prog 39 #[(0, (Value.int IntKind.i64 1)), (1, (Value.int IntKind.u64 1)), (3, (Value.int IntKind.u8 1)), (6, (Value.int IntKind.i64 10))] (fun A6 w =>
    bld Try.prog 42 #[(0, A6)] (fun A7 w =>
    call Try.prog 8 #[A3, (Value.int IntKind.i64 1), A5, A7] (fun A8 w =>
    bld Try.prog 35 #[(0, (Value.int IntKind.u8 3)), (1, (Value.int IntKind.u64 1099511627777)), (3, (Value.int IntKind.i64 4)), (4, (Value.int IntKind.u64 1))] (fun C1 w =>
    bld Try.prog 42 #[] (fun C2 w =>
    call Try.prog 8 #[A3, (Value.int IntKind.i64 1), C1, C2] (fun C3 w =>
    call Try.prog 10 #[A3, (Value.int IntKind.u64 1099511627777)] (fun C7 w =>
    ext Try.prog C7 0 (fun C8 w =>
    ext Try.prog C7 1 (fun C9 w =>
    ext Try.prog C7 2 (fun D0 w =>
    call Try.prog 10 #[A3, (Value.int IntKind.u64 1)] (fun D3 w =>
    ext Try.prog D3 0 (fun D4 w =>
    ext Try.prog D3 1 (fun D5 w =>
    ext Try.prog D3 2 (fun D6 w =>
    (cCode Try.prog xc0 (retK Try.prog Try.f6.results.toList K) (fun _ _ _ => False) (retK Try.prog Try.f6.results.toList K)) ((Value.bool false)::A3::(Value.int IntKind.u64 1099511627777)::C8::C9::D0::D4::D5::D6::undef::A3::A3::A5::A6::A7::A8::A3::(Value.int IntKind.u64 1099511627777)::C1::C2::C3::C7::A3::(Value.int IntKind.u64 1099511627777)::C7::C8::C9::D0::D3::A3::D3::D4::D5::D6::undef::undef::undef::undef::undef::undef::undef::undef::undef::undef::undef::undef::undef::undef::undef::undef::undef::undef::undef::undef::undef::undef::undef::undef::undef::undef::undef::undef::undef::undef::undef::undef::undef::undef::undef::[]) w) w) w) w) w) w) w) w) w) w) w) w) w) w) w) w) w) :
    cCode Try.prog (rep [1, 1, 1, 1, 1, 1, 1] xc0 (cd Try.f6 [])) (retK Try.prog Try.f6.results.toList K) (fun _ _ _ => False) (retK Try.prog Try.f6.results.toList K) (undef::undef::undef::undef::undef::undef::undef::undef::undef::undef::undef::undef::undef::undef::undef::undef::undef::undef::undef::undef::undef::undef::undef::undef::undef::undef::undef::undef::undef::undef::undef::undef::undef::undef::undef::undef::undef::undef::undef::undef::undef::undef::undef::undef::undef::undef::undef::undef::undef::undef::undef::undef::undef::undef::undef::undef::undef::undef::undef::undef::undef::undef::undef::undef::undef::undef::undef::undef::undef::[]) w := Eq.mp (by kernel_rfl) h

theorem leatlaw26_works_in {K : KV} {w : World}
    (h : call Try.prog 7 #[] (fun A3 w =>
    bld Try.prog 35 #[(0, (Value.int IntKind.u8 1)), (3, (Value.int IntKind.i64 10))] (fun A5 w =>
    bld Try.prog 39 #[(0, (Value.int IntKind.i64 1)), (1, (Value.int IntKind.u64 1)), (3, (Value.int IntKind.u8 1)), (6, (Value.int IntKind.i64 10))] (fun A6 w =>
    bld Try.prog 42 #[(0, A6)] (fun A7 w =>
    call Try.prog 8 #[A3, (Value.int IntKind.i64 1), A5, A7] (fun A8 w =>
    bld Try.prog 35 #[(0, (Value.int IntKind.u8 3)), (1, (Value.int IntKind.u64 1099511627777)), (3, (Value.int IntKind.i64 4)), (4, (Value.int IntKind.u64 1))] (fun C1 w =>
    bld Try.prog 42 #[] (fun C2 w =>
    call Try.prog 8 #[A3, (Value.int IntKind.i64 1), C1, C2] (fun C3 w =>
    call Try.prog 10 #[A3, (Value.int IntKind.u64 1099511627777)] (fun C7 w =>
    ext Try.prog C7 0 (fun C8 w =>
    ext Try.prog C7 1 (fun C9 w =>
    ext Try.prog C7 2 (fun D0 w =>
    call Try.prog 10 #[A3, (Value.int IntKind.u64 1)] (fun D3 w =>
    ext Try.prog D3 0 (fun D4 w =>
    ext Try.prog D3 1 (fun D5 w =>
    ext Try.prog D3 2 (fun D6 w =>
    (leatlaw26_works_A1 K) ((Value.bool false)::A3::(Value.int IntKind.u64 1099511627777)::C8::C9::D0::D4::D5::D6::undef::A3::A3::A5::A6::A7::A8::A3::(Value.int IntKind.u64 1099511627777)::C1::C2::C3::C7::A3::(Value.int IntKind.u64 1099511627777)::C7::C8::C9::D0::D3::A3::D3::D4::D5::D6::undef::undef::undef::undef::undef::undef::undef::undef::undef::undef::undef::undef::undef::undef::undef::undef::undef::undef::undef::undef::undef::undef::undef::undef::undef::undef::undef::undef::undef::undef::undef::undef::undef::undef::undef::[]) w) w) w) w) w) w) w) w) w) w) w) w) w) w) w) w) w) :
    Gives Try.prog 6 #[] w K := enter' Try.func6 (by kernel_rfl) (Eq.mp (congrArg (fun c => cCode Try.prog c (retK Try.prog Try.f6.results.toList K) (fun _ _ _ => False) (retK Try.prog Try.f6.results.toList K) (undef::undef::undef::undef::undef::undef::undef::undef::undef::undef::undef::undef::undef::undef::undef::undef::undef::undef::undef::undef::undef::undef::undef::undef::undef::undef::undef::undef::undef::undef::undef::undef::undef::undef::undef::undef::undef::undef::undef::undef::undef::undef::undef::undef::undef::undef::undef::undef::undef::undef::undef::undef::undef::undef::undef::undef::undef::undef::undef::undef::undef::undef::undef::undef::undef::undef::undef::undef::undef::[]) w) (by kernel_rfl : (rep [1, 1, 1, 1, 1, 1, 1] (cd Try.f6 [1, 1, 1, 1, 1, 1, 1]) (cd Try.f6 [])) = (cd Try.f6 []))) (leatlaw26_works_k (cd Try.f6 [1, 1, 1, 1, 1, 1, 1]) h))
theorem leatlaw26_works_go : isGo Try.prog 6 := ⟨_, Try.func6, by kernel_rfl, by kernel_rfl⟩

section
variable {A0 a1 node2 limit3 used4 e5 A1 A2 f8 b9 A3 A4 A5 A6 A7 A8 A9 C0 C1 C2 C3 C4 C5 C6 C7 C8 C9 D0 D1 D2 D3 D4 D5 D6 D7 D8 D9 E0 E1 E2 E3 E4 E5 E6 E7 E8 E9 F0 F1 F2 F3 F4 F5 F6 F7 F8 F9 G0 G1 G2 G3 G4 G5 G6 G7 G8 G9 H0 H1 : Value}
theorem leatlaw26_works_A1_k {K : KV} {w : World}
    (h : call Try.prog 12 #[a1] (fun D8 w =>
    bld Try.prog 35 #[(0, (Value.int IntKind.u8 3)), (1, node2), (3, (Value.int IntKind.i64 7)), (4, (Value.int IntKind.u64 1))] (fun E1 w =>
    bld Try.prog 42 #[] (fun E2 w =>
    call Try.prog 8 #[a1, (Value.int IntKind.i64 2), E1, E2] (fun E3 w =>
    bin Try.prog BinOp.eql 2 false true limit3 (Value.int IntKind.i64 10) (fun E5 w =>
    gsel E5 true (fun k44 =>
    bin Try.prog BinOp.eql 2 false true used4 (Value.int IntKind.i64 4) (fun E8 w =>
    k44 [used4, E8] w) w)
    (fun k => k [undef, undef] w) (fun us44 w =>
    pick E5 (gd us44 1) (Value.bool false) (fun E9 w =>
    gsel E9 true (fun k48 =>
    bin Try.prog BinOp.eql 40 false true e5 (Value.int IntKind.i64 0) (fun F2 w =>
    k48 [e5, F2] w) w)
    (fun k => k [undef, undef] w) (fun us48 w =>
    pick E9 (gd us48 1) (Value.bool false) (fun F3 w =>
    gsel F3 true (fun k52 =>
    bin Try.prog BinOp.eql 40 false true f8 (Value.int IntKind.i64 9) (fun F6 w =>
    k52 [f8, F6] w) w)
    (fun k => k [undef, undef] w) (fun us52 w =>
    pick F3 (gd us52 1) (Value.bool false) (fun F7 w =>
    gsel F7 true (fun k56 =>
    k56 [D8] w)
    (fun k => k [undef] w) (fun us56 w =>
    pick F7 (gd us56 0) (Value.bool false) (fun G0 w =>
    gsel G0 true (fun k59 =>
    call Try.prog 12 #[a1] (fun G3 w =>
    un Try.prog UnOp.not G3 (fun G4 w =>
    k59 [a1, G3, G4] w) w) w)
    (fun k => k [undef, undef, undef] w) (fun us59 w =>
    pick G0 (gd us59 2) (Value.bool false) (fun G5 w =>
    gsel G5 true (fun k64 =>
    call Try.prog 15 #[a1] (fun G8 w =>
    blt Try.prog Builtin.len #[47] 3 #[false] #[G8] (fun G9 w =>
    bin Try.prog BinOp.eql 3 false true G9 (Value.int IntKind.i64 1) (fun H0 w =>
    k64 [a1, G8, G9, H0] w) w) w) w)
    (fun k => k [undef, undef, undef, undef] w) (fun us64 w =>
    pick G5 (gd us64 3) (Value.bool false) (fun H1 w =>
    K H1 w) w)) w)) w)) w)) w)) w)) w) w) w) w) w) :
    cCode Try.prog (cd Try.f6 [1, 1, 1, 1, 1, 1, 1]) (retK Try.prog Try.f6.results.toList K) (fun _ _ _ => False) (retK Try.prog Try.f6.results.toList K) (A0::a1::node2::limit3::used4::e5::A1::A2::f8::b9::A3::A4::A5::A6::A7::A8::A9::C0::C1::C2::C3::C4::C5::C6::C7::C8::C9::D0::D1::D2::D3::D4::D5::D6::D7::D8::D9::E0::E1::E2::E3::E4::E5::E6::E7::E8::E9::F0::F1::F2::F3::F4::F5::F6::F7::F8::F9::G0::G1::G2::G3::G4::G5::G6::G7::G8::G9::H0::H1::[]) w := Eq.mp (by kernel_rfl) h

theorem leatlaw26_works_A1_r {K : KV} {w : World}
    (h : call Try.prog 12 #[a1] (fun D8 w =>
    bld Try.prog 35 #[(0, (Value.int IntKind.u8 3)), (1, node2), (3, (Value.int IntKind.i64 7)), (4, (Value.int IntKind.u64 1))] (fun E1 w =>
    bld Try.prog 42 #[] (fun E2 w =>
    call Try.prog 8 #[a1, (Value.int IntKind.i64 2), E1, E2] (fun E3 w =>
    bin Try.prog BinOp.eql 2 false true limit3 (Value.int IntKind.i64 10) (fun E5 w =>
    gsel E5 true (fun k44 =>
    bin Try.prog BinOp.eql 2 false true used4 (Value.int IntKind.i64 4) (fun E8 w =>
    k44 [used4, E8] w) w)
    (fun k => k [undef, undef] w) (fun us44 w =>
    pick E5 (gd us44 1) (Value.bool false) (fun E9 w =>
    gsel E9 true (fun k48 =>
    bin Try.prog BinOp.eql 40 false true e5 (Value.int IntKind.i64 0) (fun F2 w =>
    k48 [e5, F2] w) w)
    (fun k => k [undef, undef] w) (fun us48 w =>
    pick E9 (gd us48 1) (Value.bool false) (fun F3 w =>
    gsel F3 true (fun k52 =>
    bin Try.prog BinOp.eql 40 false true f8 (Value.int IntKind.i64 9) (fun F6 w =>
    k52 [f8, F6] w) w)
    (fun k => k [undef, undef] w) (fun us52 w =>
    pick F3 (gd us52 1) (Value.bool false) (fun F7 w =>
    gsel F7 true (fun k56 =>
    k56 [D8] w)
    (fun k => k [undef] w) (fun us56 w =>
    pick F7 (gd us56 0) (Value.bool false) (fun G0 w =>
    gsel G0 true (fun k59 =>
    call Try.prog 12 #[a1] (fun G3 w =>
    un Try.prog UnOp.not G3 (fun G4 w =>
    k59 [a1, G3, G4] w) w) w)
    (fun k => k [undef, undef, undef] w) (fun us59 w =>
    pick G0 (gd us59 2) (Value.bool false) (fun G5 w =>
    gsel G5 true (fun k64 =>
    call Try.prog 15 #[a1] (fun G8 w =>
    blt Try.prog Builtin.len #[47] 3 #[false] #[G8] (fun G9 w =>
    bin Try.prog BinOp.eql 3 false true G9 (Value.int IntKind.i64 1) (fun H0 w =>
    k64 [a1, G8, G9, H0] w) w) w) w)
    (fun k => k [undef, undef, undef, undef] w) (fun us64 w =>
    pick G5 (gd us64 3) (Value.bool false) (fun H1 w =>
    K H1 w) w)) w)) w)) w)) w)) w)) w) w) w) w) w) :
    leatlaw26_works_A1 K (A0::a1::node2::limit3::used4::e5::A1::A2::f8::b9::A3::A4::A5::A6::A7::A8::A9::C0::C1::C2::C3::C4::C5::C6::C7::C8::C9::D0::D1::D2::D3::D4::D5::D6::D7::D8::D9::E0::E1::E2::E3::E4::E5::E6::E7::E8::E9::F0::F1::F2::F3::F4::F5::F6::F7::F8::F9::G0::G1::G2::G3::G4::G5::G6::G7::G8::G9::H0::H1::[]) w := by
  delta leatlaw26_works_A1
  exact Eq.mp (congrArg (fun c => cCode Try.prog c (retK Try.prog Try.f6.results.toList K) (fun _ _ _ => False) (retK Try.prog Try.f6.results.toList K) (A0::a1::node2::limit3::used4::e5::A1::A2::f8::b9::A3::A4::A5::A6::A7::A8::A9::C0::C1::C2::C3::C4::C5::C6::C7::C8::C9::D0::D1::D2::D3::D4::D5::D6::D7::D8::D9::E0::E1::E2::E3::E4::E5::E6::E7::E8::E9::F0::F1::F2::F3::F4::F5::F6::F7::F8::F9::G0::G1::G2::G3::G4::G5::G6::G7::G8::G9::H0::H1::[]) w) (by kernel_rfl : (cd Try.f6 [1, 1, 1, 1, 1, 1, 1]) = (cd Try.f6 [1, 1, 1, 1, 1, 1, 1]))) (leatlaw26_works_A1_k h)
attribute [irreducible] leatlaw26_works_A1

end
end Go.Proofs.Ytcieejlkdfdpiaa
