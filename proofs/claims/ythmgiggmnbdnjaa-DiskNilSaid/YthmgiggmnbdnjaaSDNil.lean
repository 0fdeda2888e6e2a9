/- Written by program (gen.py): what the code of some functions asks, part by part; each text is checked by the kernel against the translation. -/
import Derived.Test.YthmgiggmnbdnjaaSh
import Derived.Test.YthmgiggmnbdnjaaChecked
namespace Go.Proofs.Ythmgiggmnbdnjaa
open Go.RowKit
set_option maxRecDepth 100000


theorem leatlaw04_DiskNil_k {K : KV} {file0 n1 b2 : Value} {w : World}
    (h : blt Try.prog Builtin.len #[22] 3 #[false] #[b2] (fun t11 w =>
    bin Try.prog BinOp.gtr 3 false true t11 (Value.int IntKind.i64 100) (fun t12 w =>
    cond t12
      (call Try.prog 9 #[] (fun t13 w =>
      K t13 w) w)
      (call Try.prog 16 #[(Value.pointer none), file0] (fun t17 w =>
    ext Try.prog t17 0 (fun t18 w =>
    ext Try.prog t17 1 (fun t19 w =>
    call Try.prog 18 #[(Value.pointer none), n1] (fun t22 w =>
    call Try.prog 14 #[(Value.pointer none)] (fun t24 w =>
    call Try.prog 11 #[(Value.pointer none), file0, b2] (fun t28 w =>
    bin Try.prog BinOp.eql 27 false true t28 (Value.int IntKind.i64 2) (fun t29 w =>
    gsel t29 true (fun k31 =>
    call Try.prog 26 #[(Value.pointer none), file0, n1] (fun t34 w =>
    bin Try.prog BinOp.eql 27 false true t34 (Value.int IntKind.i64 2) (fun t35 w =>
    k31 [(Value.pointer none), file0, n1, t34, t35] w) w) w)
    (fun k => k [undef, undef, undef, undef, undef] w) (fun us31 w =>
    pick t29 (gd us31 4) (Value.bool false) (fun t36 w =>
    gsel t36 true (fun k38 =>
    call Try.prog 13 #[(Value.pointer none)] (fun t39 w =>
    bin Try.prog BinOp.eql 27 false true t39 (Value.int IntKind.i64 2) (fun t40 w =>
    k38 [(Value.pointer none), t39, t40] w) w) w)
    (fun k => k [undef, undef, undef] w) (fun us38 w =>
    pick t36 (gd us38 2) (Value.bool false) (fun t41 w =>
    gsel t41 true (fun k43 =>
    call Try.prog 12 #[(Value.pointer none)] (fun t44 w =>
    bin Try.prog BinOp.eql 27 false true t44 (Value.int IntKind.i64 2) (fun t45 w =>
    k43 [(Value.pointer none), t44, t45] w) w) w)
    (fun k => k [undef, undef, undef] w) (fun us43 w =>
    pick t41 (gd us43 2) (Value.bool false) (fun t46 w =>
    gsel t46 true (fun k48 =>
    blt Try.prog Builtin.len #[22] 3 #[false] #[t18] (fun t49 w =>
    bin Try.prog BinOp.eql 3 false true t49 (Value.int IntKind.i64 0) (fun t50 w =>
    k48 [t18, t49, t50] w) w) w)
    (fun k => k [undef, undef, undef] w) (fun us48 w =>
    pick t46 (gd us48 2) (Value.bool false) (fun t51 w =>
    gsel t51 true (fun k53 =>
    bin Try.prog BinOp.eql 27 false true t19 (Value.int IntKind.i64 2) (fun t54 w =>
    k53 [t19, t54] w) w)
    (fun k => k [undef, undef] w) (fun us53 w =>
    pick t51 (gd us53 1) (Value.bool false) (fun t55 w =>
    gsel t55 true (fun k57 =>
    bldS Try.prog 23 1 #[(0, n1)] (fun t59 w =>
    call Try.prog 15 #[(Value.pointer none), t59] (fun t60 w =>
    bin Try.prog BinOp.eql 27 false true t60 (Value.int IntKind.i64 2) (fun t61 w =>
    k57 [(Value.pointer none), n1, t59, t60, t61] w) w) w) w)
    (fun k => k [undef, undef, undef, undef, undef] w) (fun us57 w =>
    pick t55 (gd us57 4) (Value.bool false) (fun t62 w =>
    gsel t62 true (fun k64 =>
    call Try.prog 19 #[(Value.pointer none)] (fun t65 w =>
    un Try.prog UnOp.not t65 (fun t66 w =>
    k64 [(Value.pointer none), t65, t66] w) w) w)
    (fun k => k [undef, undef, undef] w) (fun us64 w =>
    pick t62 (gd us64 2) (Value.bool false) (fun t67 w =>
    gsel t67 true (fun k69 =>
    call Try.prog 17 #[(Value.pointer none)] (fun t70 w =>
    bin Try.prog BinOp.eql 3 false true t70 (Value.int IntKind.i64 0) (fun t71 w =>
    k69 [(Value.pointer none), t70, t71] w) w) w)
    (fun k => k [undef, undef, undef] w) (fun us69 w =>
    pick t67 (gd us69 2) (Value.bool false) (fun t72 w =>
    gsel t72 true (fun k74 =>
    call Try.prog 9 #[] (fun t74 w =>
    k74 [t74] w) w)
    (fun k => k [undef] w) (fun us74 w =>
    pick t72 (gd us74 0) (Value.bool false) (fun t75 w =>
    K t75 w) w)) w)) w)) w)) w)) w)) w)) w)) w)) w) w) w) w) w) w) w)) w) w) :
    cCode Try.prog (cd Try.f8 []) (retK Try.prog Try.f8.results.toList K) (fun _ _ _ => False) (retK Try.prog Try.f8.results.toList K) (file0 :: n1 :: b2 :: undef :: undef :: undef :: undef :: undef :: undef :: undef :: undef :: undef :: undef :: undef :: undef :: undef :: undef :: undef :: undef :: undef :: undef :: undef :: undef :: undef :: undef :: undef :: undef :: undef :: undef :: undef :: undef :: undef :: undef :: undef :: undef :: undef :: undef :: undef :: undef :: undef :: undef :: undef :: undef :: undef :: undef :: undef :: undef :: undef :: undef :: undef :: undef :: undef :: undef :: undef :: undef :: undef :: undef :: undef :: undef :: undef :: undef :: undef :: undef :: undef :: undef :: undef :: undef :: undef :: undef :: undef :: undef :: undef :: undef :: undef :: undef :: undef :: []) w := Eq.mp (by kernel_rfl) h

theorem leatlaw04_DiskNil_in {K : KV} {file0 n1 b2 : Value} {w : World}
    (h : blt Try.prog Builtin.len #[22] 3 #[false] #[b2] (fun t11 w =>
    bin Try.prog BinOp.gtr 3 false true t11 (Value.int IntKind.i64 100) (fun t12 w =>
    cond t12
      (call Try.prog 9 #[] (fun t13 w =>
      K t13 w) w)
      (call Try.prog 16 #[(Value.pointer none), file0] (fun t17 w =>
    ext Try.prog t17 0 (fun t18 w =>
    ext Try.prog t17 1 (fun t19 w =>
    call Try.prog 18 #[(Value.pointer none), n1] (fun t22 w =>
    call Try.prog 14 #[(Value.pointer none)] (fun t24 w =>
    call Try.prog 11 #[(Value.pointer none), file0, b2] (fun t28 w =>
    bin Try.prog BinOp.eql 27 false true t28 (Value.int IntKind.i64 2) (fun t29 w =>
    gsel t29 true (fun k31 =>
    call Try.prog 26 #[(Value.pointer none), file0, n1] (fun t34 w =>
    bin Try.prog BinOp.eql 27 false true t34 (Value.int IntKind.i64 2) (fun t35 w =>
    k31 [(Value.pointer none), file0, n1, t34, t35] w) w) w)
    (fun k => k [undef, undef, undef, undef, undef] w) (fun us31 w =>
    pick t29 (gd us31 4) (Value.bool false) (fun t36 w =>
    gsel t36 true (fun k38 =>
    call Try.prog 13 #[(Value.pointer none)] (fun t39 w =>
    bin Try.prog BinOp.eql 27 false true t39 (Value.int IntKind.i64 2) (fun t40 w =>
    k38 [(Value.pointer none), t39, t40] w) w) w)
    (fun k => k [undef, undef, undef] w) (fun us38 w =>
    pick t36 (gd us38 2) (Value.bool false) (fun t41 w =>
    gsel t41 true (fun k43 =>
    call Try.prog 12 #[(Value.pointer none)] (fun t44 w =>
    bin Try.prog BinOp.eql 27 false true t44 (Value.int IntKind.i64 2) (fun t45 w =>
    k43 [(Value.pointer none), t44, t45] w) w) w)
    (fun k => k [undef, undef, undef] w) (fun us43 w =>
    pick t41 (gd us43 2) (Value.bool false) (fun t46 w =>
    gsel t46 true (fun k48 =>
    blt Try.prog Builtin.len #[22] 3 #[false] #[t18] (fun t49 w =>
    bin Try.prog BinOp.eql 3 false true t49 (Value.int IntKind.i64 0) (fun t50 w =>
    k48 [t18, t49, t50] w) w) w)
    (fun k => k [undef, undef, undef] w) (fun us48 w =>
    pick t46 (gd us48 2) (Value.bool false) (fun t51 w =>
    gsel t51 true (fun k53 =>
    bin Try.prog BinOp.eql 27 false true t19 (Value.int IntKind.i64 2) (fun t54 w =>
    k53 [t19, t54] w) w)
    (fun k => k [undef, undef] w) (fun us53 w =>
    pick t51 (gd us53 1) (Value.bool false) (fun t55 w =>
    gsel t55 true (fun k57 =>
    bldS Try.prog 23 1 #[(0, n1)] (fun t59 w =>
    call Try.prog 15 #[(Value.pointer none), t59] (fun t60 w =>
    bin Try.prog BinOp.eql 27 false true t60 (Value.int IntKind.i64 2) (fun t61 w =>
    k57 [(Value.pointer none), n1, t59, t60, t61] w) w) w) w)
    (fun k => k [undef, undef, undef, undef, undef] w) (fun us57 w =>
    pick t55 (gd us57 4) (Value.bool false) (fun t62 w =>
    gsel t62 true (fun k64 =>
    call Try.prog 19 #[(Value.pointer none)] (fun t65 w =>
    un Try.prog UnOp.not t65 (fun t66 w =>
    k64 [(Value.pointer none), t65, t66] w) w) w)
    (fun k => k [undef, undef, undef] w) (fun us64 w =>
    pick t62 (gd us64 2) (Value.bool false) (fun t67 w =>
    gsel t67 true (fun k69 =>
    call Try.prog 17 #[(Value.pointer none)] (fun t70 w =>
    bin Try.prog BinOp.eql 3 false true t70 (Value.int IntKind.i64 0) (fun t71 w =>
    k69 [(Value.pointer none), t70, t71] w) w) w)
    (fun k => k [undef, undef, undef] w) (fun us69 w =>
    pick t67 (gd us69 2) (Value.bool false) (fun t72 w =>
    gsel t72 true (fun k74 =>
    call Try.prog 9 #[] (fun t74 w =>
    k74 [t74] w) w)
    (fun k => k [undef] w) (fun us74 w =>
    pick t72 (gd us74 0) (Value.bool false) (fun t75 w =>
    K t75 w) w)) w)) w)) w)) w)) w)) w)) w)) w)) w) w) w) w) w) w) w)) w) w) :
    Gives Try.prog 8 #[file0, n1, b2] w K := enter' Try.func8 (by kernel_rfl) (Eq.mp (congrArg (fun c => cCode Try.prog c (retK Try.prog Try.f8.results.toList K) (fun _ _ _ => False) (retK Try.prog Try.f8.results.toList K) (file0 :: n1 :: b2 :: undef :: undef :: undef :: undef :: undef :: undef :: undef :: undef :: undef :: undef :: undef :: undef :: undef :: undef :: undef :: undef :: undef :: undef :: undef :: undef :: undef :: undef :: undef :: undef :: undef :: undef :: undef :: undef :: undef :: undef :: undef :: undef :: undef :: undef :: undef :: undef :: undef :: undef :: undef :: undef :: undef :: undef :: undef :: undef :: undef :: undef :: undef :: undef :: undef :: undef :: undef :: undef :: undef :: undef :: undef :: undef :: undef :: undef :: undef :: undef :: undef :: undef :: undef :: undef :: undef :: undef :: undef :: undef :: undef :: undef :: undef :: undef :: undef :: []) w) (by kernel_rfl : (cd Try.f8 []) = (cd Try.f8 []))) (leatlaw04_DiskNil_k (h : blt Try.prog Builtin.len #[22] 3 #[false] #[b2] (fun t11 w =>
    bin Try.prog BinOp.gtr 3 false true t11 (Value.int IntKind.i64 100) (fun t12 w =>
    cond t12
      (call Try.prog 9 #[] (fun t13 w =>
      K t13 w) w)
      (call Try.prog 16 #[(Value.pointer none), file0] (fun t17 w =>
    ext Try.prog t17 0 (fun t18 w =>
    ext Try.prog t17 1 (fun t19 w =>
    call Try.prog 18 #[(Value.pointer none), n1] (fun t22 w =>
    call Try.prog 14 #[(Value.pointer none)] (fun t24 w =>
    call Try.prog 11 #[(Value.pointer none), file0, b2] (fun t28 w =>
    bin Try.prog BinOp.eql 27 false true t28 (Value.int IntKind.i64 2) (fun t29 w =>
    gsel t29 true (fun k31 =>
    call Try.prog 26 #[(Value.pointer none), file0, n1] (fun t34 w =>
    bin Try.prog BinOp.eql 27 false true t34 (Value.int IntKind.i64 2) (fun t35 w =>
    k31 [(Value.pointer none), file0, n1, t34, t35] w) w) w)
    (fun k => k [undef, undef, undef, undef, undef] w) (fun us31 w =>
    pick t29 (gd us31 4) (Value.bool false) (fun t36 w =>
    gsel t36 true (fun k38 =>
    call Try.prog 13 #[(Value.pointer none)] (fun t39 w =>
    bin Try.prog BinOp.eql 27 false true t39 (Value.int IntKind.i64 2) (fun t40 w =>
    k38 [(Value.pointer none), t39, t40] w) w) w)
    (fun k => k [undef, undef, undef] w) (fun us38 w =>
    pick t36 (gd us38 2) (Value.bool false) (fun t41 w =>
    gsel t41 true (fun k43 =>
    call Try.prog 12 #[(Value.pointer none)] (fun t44 w =>
    bin Try.prog BinOp.eql 27 false true t44 (Value.int IntKind.i64 2) (fun t45 w =>
    k43 [(Value.pointer none), t44, t45] w) w) w)
    (fun k => k [undef, undef, undef] w) (fun us43 w =>
    pick t41 (gd us43 2) (Value.bool false) (fun t46 w =>
    gsel t46 true (fun k48 =>
    blt Try.prog Builtin.len #[22] 3 #[false] #[t18] (fun t49 w =>
    bin Try.prog BinOp.eql 3 false true t49 (Value.int IntKind.i64 0) (fun t50 w =>
    k48 [t18, t49, t50] w) w) w)
    (fun k => k [undef, undef, undef] w) (fun us48 w =>
    pick t46 (gd us48 2) (Value.bool false) (fun t51 w =>
    gsel t51 true (fun k53 =>
    bin Try.prog BinOp.eql 27 false true t19 (Value.int IntKind.i64 2) (fun t54 w =>
    k53 [t19, t54] w) w)
    (fun k => k [undef, undef] w) (fun us53 w =>
    pick t51 (gd us53 1) (Value.bool false) (fun t55 w =>
    gsel t55 true (fun k57 =>
    bldS Try.prog 23 1 #[(0, n1)] (fun t59 w =>
    call Try.prog 15 #[(Value.pointer none), t59] (fun t60 w =>
    bin Try.prog BinOp.eql 27 false true t60 (Value.int IntKind.i64 2) (fun t61 w =>
    k57 [(Value.pointer none), n1, t59, t60, t61] w) w) w) w)
    (fun k => k [undef, undef, undef, undef, undef] w) (fun us57 w =>
    pick t55 (gd us57 4) (Value.bool false) (fun t62 w =>
    gsel t62 true (fun k64 =>
    call Try.prog 19 #[(Value.pointer none)] (fun t65 w =>
    un Try.prog UnOp.not t65 (fun t66 w =>
    k64 [(Value.pointer none), t65, t66] w) w) w)
    (fun k => k [undef, undef, undef] w) (fun us64 w =>
    pick t62 (gd us64 2) (Value.bool false) (fun t67 w =>
    gsel t67 true (fun k69 =>
    call Try.prog 17 #[(Value.pointer none)] (fun t70 w =>
    bin Try.prog BinOp.eql 3 false true t70 (Value.int IntKind.i64 0) (fun t71 w =>
    k69 [(Value.pointer none), t70, t71] w) w) w)
    (fun k => k [undef, undef, undef] w) (fun us69 w =>
    pick t67 (gd us69 2) (Value.bool false) (fun t72 w =>
    gsel t72 true (fun k74 =>
    call Try.prog 9 #[] (fun t74 w =>
    k74 [t74] w) w)
    (fun k => k [undef] w) (fun us74 w =>
    pick t72 (gd us74 0) (Value.bool false) (fun t75 w =>
    K t75 w) w)) w)) w)) w)) w)) w)) w)) w)) w)) w) w) w) w) w) w) w)) w) w)))
theorem leatlaw04_DiskNil_go : isGo Try.prog 8 := ⟨_, Try.func8, by kernel_rfl, by kernel_rfl⟩

end Go.Proofs.Ythmgiggmnbdnjaa
