/- Written by program (gen.py): what the code of some functions asks, part by part; each text is checked by the kernel against the translation. -/
import Derived.Test.YtjkmblbonambjaaSh
import Derived.Test.YtjkmblbonambjaaChecked
namespace Go.Proofs.Ytjkmblbonambjaa
open Go.RowKit
set_option maxRecDepth 100000


theorem leatlaw05_JournalNil_k {K : KV} {l0 : Value} {w : World}
    (h : call Try.prog 29 #[l0, (Value.int IntKind.i64 4096)] (fun t8 w =>
    cond t8
      (call Try.prog 20 #[] (fun t9 w =>
      K t9 w) w)
      (call Try.prog 21 #[(Value.pointer none)] (fun t11 w =>
    ext Try.prog t11 0 (fun t12 w =>
    ext Try.prog t11 1 (fun t13 w =>
    ext Try.prog t11 2 (fun t14 w =>
    bin Try.prog BinOp.eql 49 false true t12 (Value.pointer none) (fun t16 w =>
    gsel t16 true (fun k18 =>
    blt Try.prog Builtin.len #[50] 3 #[false] #[t13] (fun t19 w =>
    bin Try.prog BinOp.eql 3 false true t19 (Value.int IntKind.i64 0) (fun t20 w =>
    k18 [t13, t19, t20] w) w) w)
    (fun k => k [undef, undef, undef] w) (fun us18 w =>
    pick t16 (gd us18 2) (Value.bool false) (fun t21 w =>
    gsel t21 true (fun k23 =>
    bin Try.prog BinOp.eql 33 false true t14 (Value.int IntKind.i64 2) (fun t24 w =>
    k23 [t14, t24] w) w)
    (fun k => k [undef, undef] w) (fun us23 w =>
    pick t21 (gd us23 1) (Value.bool false) (fun t25 w =>
    gsel t25 true (fun k27 =>
    call Try.prog 23 #[(Value.pointer none), l0] (fun t29 w =>
    bin Try.prog BinOp.eql 33 false true t29 (Value.int IntKind.i64 2) (fun t30 w =>
    k27 [(Value.pointer none), l0, t29, t30] w) w) w)
    (fun k => k [undef, undef, undef, undef] w) (fun us27 w =>
    pick t25 (gd us27 3) (Value.bool false) (fun t31 w =>
    gsel t31 true (fun k33 =>
    call Try.prog 24 #[(Value.pointer none), l0] (fun t35 w =>
    bin Try.prog BinOp.eql 33 false true t35 (Value.int IntKind.i64 2) (fun t36 w =>
    k33 [(Value.pointer none), l0, t35, t36] w) w) w)
    (fun k => k [undef, undef, undef, undef] w) (fun us33 w =>
    pick t31 (gd us33 3) (Value.bool false) (fun t37 w =>
    gsel t37 true (fun k39 =>
    call Try.prog 30 #[(Value.pointer none)] (fun t40 w =>
    bin Try.prog BinOp.eql 3 false true t40 (Value.int IntKind.i64 0) (fun t41 w =>
    k39 [(Value.pointer none), t40, t41] w) w) w)
    (fun k => k [undef, undef, undef] w) (fun us39 w =>
    pick t37 (gd us39 2) (Value.bool false) (fun t42 w =>
    gsel t42 true (fun k44 =>
    call Try.prog 31 #[(Value.pointer none)] (fun t45 w =>
    un Try.prog UnOp.not t45 (fun t46 w =>
    k44 [(Value.pointer none), t45, t46] w) w) w)
    (fun k => k [undef, undef, undef] w) (fun us44 w =>
    pick t42 (gd us44 2) (Value.bool false) (fun t47 w =>
    gsel t47 true (fun k49 =>
    call Try.prog 20 #[] (fun t49 w =>
    k49 [t49] w) w)
    (fun k => k [undef] w) (fun us49 w =>
    pick t47 (gd us49 0) (Value.bool false) (fun t50 w =>
    K t50 w) w)) w)) w)) w)) w)) w)) w)) w) w) w) w) w)) w) :
    cCode Try.prog (cd Try.f6 []) (retK Try.prog Try.f6.results.toList K) (fun _ _ _ => False) (retK Try.prog Try.f6.results.toList K) (l0 :: undef :: undef :: undef :: undef :: undef :: undef :: undef :: undef :: undef :: undef :: undef :: undef :: undef :: undef :: undef :: undef :: undef :: undef :: undef :: undef :: undef :: undef :: undef :: undef :: undef :: undef :: undef :: undef :: undef :: undef :: undef :: undef :: undef :: undef :: undef :: undef :: undef :: undef :: undef :: undef :: undef :: undef :: undef :: undef :: undef :: undef :: undef :: undef :: undef :: undef :: []) w := Eq.mp (by kernel_rfl) h

theorem leatlaw05_JournalNil_in {K : KV} {l0 : Value} {w : World}
    (h : call Try.prog 29 #[l0, (Value.int IntKind.i64 4096)] (fun t8 w =>
    cond t8
      (call Try.prog 20 #[] (fun t9 w =>
      K t9 w) w)
      (call Try.prog 21 #[(Value.pointer none)] (fun t11 w =>
    ext Try.prog t11 0 (fun t12 w =>
    ext Try.prog t11 1 (fun t13 w =>
    ext Try.prog t11 2 (fun t14 w =>
    bin Try.prog BinOp.eql 49 false true t12 (Value.pointer none) (fun t16 w =>
    gsel t16 true (fun k18 =>
    blt Try.prog Builtin.len #[50] 3 #[false] #[t13] (fun t19 w =>
    bin Try.prog BinOp.eql 3 false true t19 (Value.int IntKind.i64 0) (fun t20 w =>
    k18 [t13, t19, t20] w) w) w)
    (fun k => k [undef, undef, undef] w) (fun us18 w =>
    pick t16 (gd us18 2) (Value.bool false) (fun t21 w =>
    gsel t21 true (fun k23 =>
    bin Try.prog BinOp.eql 33 false true t14 (Value.int IntKind.i64 2) (fun t24 w =>
    k23 [t14, t24] w) w)
    (fun k => k [undef, undef] w) (fun us23 w =>
    pick t21 (gd us23 1) (Value.bool false) (fun t25 w =>
    gsel t25 true (fun k27 =>
    call Try.prog 23 #[(Value.pointer none), l0] (fun t29 w =>
    bin Try.prog BinOp.eql 33 false true t29 (Value.int IntKind.i64 2) (fun t30 w =>
    k27 [(Value.pointer none), l0, t29, t30] w) w) w)
    (fun k => k [undef, undef, undef, undef] w) (fun us27 w =>
    pick t25 (gd us27 3) (Value.bool false) (fun t31 w =>
    gsel t31 true (fun k33 =>
    call Try.prog 24 #[(Value.pointer none), l0] (fun t35 w =>
    bin Try.prog BinOp.eql 33 false true t35 (Value.int IntKind.i64 2) (fun t36 w =>
    k33 [(Value.pointer none), l0, t35, t36] w) w) w)
    (fun k => k [undef, undef, undef, undef] w) (fun us33 w =>
    pick t31 (gd us33 3) (Value.bool false) (fun t37 w =>
    gsel t37 true (fun k39 =>
    call Try.prog 30 #[(Value.pointer none)] (fun t40 w =>
    bin Try.prog BinOp.eql 3 false true t40 (Value.int IntKind.i64 0) (fun t41 w =>
    k39 [(Value.pointer none), t40, t41] w) w) w)
    (fun k => k [undef, undef, undef] w) (fun us39 w =>
    pick t37 (gd us39 2) (Value.bool false) (fun t42 w =>
    gsel t42 true (fun k44 =>
    call Try.prog 31 #[(Value.pointer none)] (fun t45 w =>
    un Try.prog UnOp.not t45 (fun t46 w =>
    k44 [(Value.pointer none), t45, t46] w) w) w)
    (fun k => k [undef, undef, undef] w) (fun us44 w =>
    pick t42 (gd us44 2) (Value.bool false) (fun t47 w =>
    gsel t47 true (fun k49 =>
    call Try.prog 20 #[] (fun t49 w =>
    k49 [t49] w) w)
    (fun k => k [undef] w) (fun us49 w =>
    pick t47 (gd us49 0) (Value.bool false) (fun t50 w =>
    K t50 w) w)) w)) w)) w)) w)) w)) w)) w) w) w) w) w)) w) :
    Gives Try.prog 6 #[l0] w K := enter' Try.func6 (by kernel_rfl) (Eq.mp (congrArg (fun c => cCode Try.prog c (retK Try.prog Try.f6.results.toList K) (fun _ _ _ => False) (retK Try.prog Try.f6.results.toList K) (l0 :: undef :: undef :: undef :: undef :: undef :: undef :: undef :: undef :: undef :: undef :: undef :: undef :: undef :: undef :: undef :: undef :: undef :: undef :: undef :: undef :: undef :: undef :: undef :: undef :: undef :: undef :: undef :: undef :: undef :: undef :: undef :: undef :: undef :: undef :: undef :: undef :: undef :: undef :: undef :: undef :: undef :: undef :: undef :: undef :: undef :: undef :: undef :: undef :: undef :: undef :: []) w) (by kernel_rfl : (cd Try.f6 []) = (cd Try.f6 []))) (leatlaw05_JournalNil_k (h : call Try.prog 29 #[l0, (Value.int IntKind.i64 4096)] (fun t8 w =>
    cond t8
      (call Try.prog 20 #[] (fun t9 w =>
      K t9 w) w)
      (call Try.prog 21 #[(Value.pointer none)] (fun t11 w =>
    ext Try.prog t11 0 (fun t12 w =>
    ext Try.prog t11 1 (fun t13 w =>
    ext Try.prog t11 2 (fun t14 w =>
    bin Try.prog BinOp.eql 49 false true t12 (Value.pointer none) (fun t16 w =>
    gsel t16 true (fun k18 =>
    blt Try.prog Builtin.len #[50] 3 #[false] #[t13] (fun t19 w =>
    bin Try.prog BinOp.eql 3 false true t19 (Value.int IntKind.i64 0) (fun t20 w =>
    k18 [t13, t19, t20] w) w) w)
    (fun k => k [undef, undef, undef] w) (fun us18 w =>
    pick t16 (gd us18 2) (Value.bool false) (fun t21 w =>
    gsel t21 true (fun k23 =>
    bin Try.prog BinOp.eql 33 false true t14 (Value.int IntKind.i64 2) (fun t24 w =>
    k23 [t14, t24] w) w)
    (fun k => k [undef, undef] w) (fun us23 w =>
    pick t21 (gd us23 1) (Value.bool false) (fun t25 w =>
    gsel t25 true (fun k27 =>
    call Try.prog 23 #[(Value.pointer none), l0] (fun t29 w =>
    bin Try.prog BinOp.eql 33 false true t29 (Value.int IntKind.i64 2) (fun t30 w =>
    k27 [(Value.pointer none), l0, t29, t30] w) w) w)
    (fun k => k [undef, undef, undef, undef] w) (fun us27 w =>
    pick t25 (gd us27 3) (Value.bool false) (fun t31 w =>
    gsel t31 true (fun k33 =>
    call Try.prog 24 #[(Value.pointer none), l0] (fun t35 w =>
    bin Try.prog BinOp.eql 33 false true t35 (Value.int IntKind.i64 2) (fun t36 w =>
    k33 [(Value.pointer none), l0, t35, t36] w) w) w)
    (fun k => k [undef, undef, undef, undef] w) (fun us33 w =>
    pick t31 (gd us33 3) (Value.bool false) (fun t37 w =>
    gsel t37 true (fun k39 =>
    call Try.prog 30 #[(Value.pointer none)] (fun t40 w =>
    bin Try.prog BinOp.eql 3 false true t40 (Value.int IntKind.i64 0) (fun t41 w =>
    k39 [(Value.pointer none), t40, t41] w) w) w)
    (fun k => k [undef, undef, undef] w) (fun us39 w =>
    pick t37 (gd us39 2) (Value.bool false) (fun t42 w =>
    gsel t42 true (fun k44 =>
    call Try.prog 31 #[(Value.pointer none)] (fun t45 w =>
    un Try.prog UnOp.not t45 (fun t46 w =>
    k44 [(Value.pointer none), t45, t46] w) w) w)
    (fun k => k [undef, undef, undef] w) (fun us44 w =>
    pick t42 (gd us44 2) (Value.bool false) (fun t47 w =>
    gsel t47 true (fun k49 =>
    call Try.prog 20 #[] (fun t49 w =>
    k49 [t49] w) w)
    (fun k => k [undef] w) (fun us49 w =>
    pick t47 (gd us49 0) (Value.bool false) (fun t50 w =>
    K t50 w) w)) w)) w)) w)) w)) w)) w)) w) w) w) w) w)) w)))
theorem leatlaw05_JournalNil_go : isGo Try.prog 6 := ⟨_, Try.func6, by kernel_rfl, by kernel_rfl⟩

end Go.Proofs.Ytjkmblbonambjaa
