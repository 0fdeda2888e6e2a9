/- Written by program (gen.py): what the code of some functions asks, part by part; each text is checked by the kernel against the translation. -/
import Derived.Test.YtccllogpakmjcaaSh
import Derived.Test.YtccllogpakmjcaaChecked
namespace Go.Proofs.Ytccllogpakmjcaa
open Go.RowKit
set_option maxRecDepth 100000

def leatlaw03_works_A1 (K : KV) : KE := cCode Try.prog (cd Try.f8 [1, 1, 1, 1]) (retK Try.prog Try.f8.results.toList K) (fun _ _ _ => False) (retK Try.prog Try.f8.results.toList K)
theorem leatlaw03_works_k {K : KV} (x0 : Code) {w : World}
    (h : bldS Try.prog 22 1 #[(0, (Value.int IntKind.u8 97))] (fun t9 w =>
    conv Try.prog 22 22 t9 (fun t10 w =>
    bldS Try.prog 26 1 #[(0, t10)] (fun t11 w =>
    call Try.prog 16 #[(Value.slice none 0 0), t11] (fun t12 w =>
    ext Try.prog t12 0 (fun t13 w =>
    ext Try.prog t12 1 (fun t14 w =>
    bin Try.prog BinOp.neq 36 false true t14 (Value.int IntKind.i64 0) (fun t16 w =>
    gsel t16 false (fun k18 =>
    blt Try.prog Builtin.len #[22] 3 #[false] #[t13] (fun t19 w =>
    bin Try.prog BinOp.neq 3 false true t19 (Value.int IntKind.i64 9) (fun t20 w =>
    k18 [t13, t19, t20] w) w) w)
    (fun k => k [undef, undef, undef] w) (fun us18 w =>
    pick t16 (Value.bool true) (gd us18 2) (fun t21 w =>
    pick t21 (Value.bool true) (Value.bool false) (fun t23 w =>
    cond t23
      (K (Value.bool false) w)
      (bldS Try.prog 22 0 #[] (fun t24 w =>
    blt Try.prog Builtin.append #[22, 22] 22 #[false, false] #[t24, t13] (fun t26 w =>
    blt Try.prog Builtin.append #[22, 22] 22 #[false, false] #[t26, t13] (fun t28 w =>
    (cCode Try.prog x0 (retK Try.prog Try.f8.results.toList K) (fun _ _ _ => False) (retK Try.prog Try.f8.results.toList K)) ((Value.bool false) :: t13 :: t14 :: t28 :: undef :: undef :: undef :: undef :: t12 :: t9 :: t10 :: t11 :: t12 :: t13 :: t14 :: t14 :: t16 :: t16 :: (gd us18 0) :: (gd us18 1) :: (gd us18 2) :: t21 :: t21 :: t23 :: t24 :: t13 :: t26 :: t13 :: t28 :: undef :: undef :: undef :: undef :: undef :: undef :: undef :: undef :: undef :: undef :: undef :: undef :: undef :: undef :: undef :: undef :: undef :: undef :: undef :: undef :: undef :: undef :: undef :: undef :: undef :: undef :: undef :: undef :: undef :: undef :: undef :: undef :: undef :: undef :: undef :: undef :: undef :: undef :: undef :: undef :: undef :: undef :: undef :: undef :: undef :: undef :: undef :: undef :: undef :: undef :: undef :: []) w) w) w) w)) w) w)) w) w) w) w) w) w) w) :
    cCode Try.prog (rep [1, 1, 1, 1] x0 (cd Try.f8 [])) (retK Try.prog Try.f8.results.toList K) (fun _ _ _ => False) (retK Try.prog Try.f8.results.toList K) (undef :: undef :: undef :: undef :: undef :: undef :: undef :: undef :: undef :: undef :: undef :: undef :: undef :: undef :: undef :: undef :: undef :: undef :: undef :: undef :: undef :: undef :: undef :: undef :: undef :: undef :: undef :: undef :: undef :: undef :: undef :: undef :: undef :: undef :: undef :: undef :: undef :: undef :: undef :: undef :: undef :: undef :: undef :: undef :: undef :: undef :: undef :: undef :: undef :: undef :: undef :: undef :: undef :: undef :: undef :: undef :: undef :: undef :: undef :: undef :: undef :: undef :: undef :: undef :: undef :: undef :: undef :: undef :: undef :: undef :: undef :: undef :: undef :: undef :: undef :: undef :: undef :: undef :: undef :: undef :: []) w := Eq.mp (by kernel_rfl) h

theorem leatlaw03_works_in {K : KV} {w : World}
    (h : bldS Try.prog 22 1 #[(0, (Value.int IntKind.u8 97))] (fun t9 w =>
    conv Try.prog 22 22 t9 (fun t10 w =>
    bldS Try.prog 26 1 #[(0, t10)] (fun t11 w =>
    call Try.prog 16 #[(Value.slice none 0 0), t11] (fun t12 w =>
    ext Try.prog t12 0 (fun t13 w =>
    ext Try.prog t12 1 (fun t14 w =>
    bin Try.prog BinOp.neq 36 false true t14 (Value.int IntKind.i64 0) (fun t16 w =>
    gsel t16 false (fun k18 =>
    blt Try.prog Builtin.len #[22] 3 #[false] #[t13] (fun t19 w =>
    bin Try.prog BinOp.neq 3 false true t19 (Value.int IntKind.i64 9) (fun t20 w =>
    k18 [t13, t19, t20] w) w) w)
    (fun k => k [undef, undef, undef] w) (fun us18 w =>
    pick t16 (Value.bool true) (gd us18 2) (fun t21 w =>
    pick t21 (Value.bool true) (Value.bool false) (fun t23 w =>
    cond t23
      (K (Value.bool false) w)
      (bldS Try.prog 22 0 #[] (fun t24 w =>
    blt Try.prog Builtin.append #[22, 22] 22 #[false, false] #[t24, t13] (fun t26 w =>
    blt Try.prog Builtin.append #[22, 22] 22 #[false, false] #[t26, t13] (fun t28 w =>
    (leatlaw03_works_A1 K) ((Value.bool false) :: t13 :: t14 :: t28 :: undef :: undef :: undef :: undef :: t12 :: t9 :: t10 :: t11 :: t12 :: t13 :: t14 :: t14 :: t16 :: t16 :: (gd us18 0) :: (gd us18 1) :: (gd us18 2) :: t21 :: t21 :: t23 :: t24 :: t13 :: t26 :: t13 :: t28 :: undef :: undef :: undef :: undef :: undef :: undef :: undef :: undef :: undef :: undef :: undef :: undef :: undef :: undef :: undef :: undef :: undef :: undef :: undef :: undef :: undef :: undef :: undef :: undef :: undef :: undef :: undef :: undef :: undef :: undef :: undef :: undef :: undef :: undef :: undef :: undef :: undef :: undef :: undef :: undef :: undef :: undef :: undef :: undef :: undef :: undef :: undef :: undef :: undef :: undef :: undef :: []) w) w) w) w)) w) w)) w) w) w) w) w) w) w) :
    Gives Try.prog 8 #[] w K := enter' Try.func8 (by kernel_rfl) (Eq.mp (congrArg (fun c => cCode Try.prog c (retK Try.prog Try.f8.results.toList K) (fun _ _ _ => False) (retK Try.prog Try.f8.results.toList K) (undef :: undef :: undef :: undef :: undef :: undef :: undef :: undef :: undef :: undef :: undef :: undef :: undef :: undef :: undef :: undef :: undef :: undef :: undef :: undef :: undef :: undef :: undef :: undef :: undef :: undef :: undef :: undef :: undef :: undef :: undef :: undef :: undef :: undef :: undef :: undef :: undef :: undef :: undef :: undef :: undef :: undef :: undef :: undef :: undef :: undef :: undef :: undef :: undef :: undef :: undef :: undef :: undef :: undef :: undef :: undef :: undef :: undef :: undef :: undef :: undef :: undef :: undef :: undef :: undef :: undef :: undef :: undef :: undef :: undef :: undef :: undef :: undef :: undef :: undef :: undef :: undef :: undef :: undef :: undef :: []) w) (by kernel_rfl : (rep [1, 1, 1, 1] (cd Try.f8 [1, 1, 1, 1]) (cd Try.f8 [])) = (cd Try.f8 []))) (leatlaw03_works_k (cd Try.f8 [1, 1, 1, 1]) (h : bldS Try.prog 22 1 #[(0, (Value.int IntKind.u8 97))] (fun t9 w =>
    conv Try.prog 22 22 t9 (fun t10 w =>
    bldS Try.prog 26 1 #[(0, t10)] (fun t11 w =>
    call Try.prog 16 #[(Value.slice none 0 0), t11] (fun t12 w =>
    ext Try.prog t12 0 (fun t13 w =>
    ext Try.prog t12 1 (fun t14 w =>
    bin Try.prog BinOp.neq 36 false true t14 (Value.int IntKind.i64 0) (fun t16 w =>
    gsel t16 false (fun k18 =>
    blt Try.prog Builtin.len #[22] 3 #[false] #[t13] (fun t19 w =>
    bin Try.prog BinOp.neq 3 false true t19 (Value.int IntKind.i64 9) (fun t20 w =>
    k18 [t13, t19, t20] w) w) w)
    (fun k => k [undef, undef, undef] w) (fun us18 w =>
    pick t16 (Value.bool true) (gd us18 2) (fun t21 w =>
    pick t21 (Value.bool true) (Value.bool false) (fun t23 w =>
    cond t23
      (K (Value.bool false) w)
      (bldS Try.prog 22 0 #[] (fun t24 w =>
    blt Try.prog Builtin.append #[22, 22] 22 #[false, false] #[t24, t13] (fun t26 w =>
    blt Try.prog Builtin.append #[22, 22] 22 #[false, false] #[t26, t13] (fun t28 w =>
    (leatlaw03_works_A1 K) ((Value.bool false) :: t13 :: t14 :: t28 :: undef :: undef :: undef :: undef :: t12 :: t9 :: t10 :: t11 :: t12 :: t13 :: t14 :: t14 :: t16 :: t16 :: (gd us18 0) :: (gd us18 1) :: (gd us18 2) :: t21 :: t21 :: t23 :: t24 :: t13 :: t26 :: t13 :: t28 :: undef :: undef :: undef :: undef :: undef :: undef :: undef :: undef :: undef :: undef :: undef :: undef :: undef :: undef :: undef :: undef :: undef :: undef :: undef :: undef :: undef :: undef :: undef :: undef :: undef :: undef :: undef :: undef :: undef :: undef :: undef :: undef :: undef :: undef :: undef :: undef :: undef :: undef :: undef :: undef :: undef :: undef :: undef :: undef :: undef :: undef :: undef :: undef :: undef :: undef :: undef :: []) w) w) w) w)) w) w)) w) w) w) w) w) w) w)))
theorem leatlaw03_works_go : isGo Try.prog 8 := ⟨_, Try.func8, by kernel_rfl, by kernel_rfl⟩

theorem leatlaw03_works_A1_k {K : KV} {t0 b1 e2 two3 l4 at5 m6 to7 t8 t9 t10 t11 t12 t13 t14 t15 t16 t17 t18 t19 t20 t21 t22 t23 t24 t25 t26 t27 t28 t29 t30 t31 t32 t33 t34 t35 t36 t37 t38 t39 t40 t41 t42 t43 t44 t45 t46 t47 t48 t49 t50 t51 t52 t53 t54 t55 t56 t57 t58 t59 t60 t61 t62 t63 t64 t65 t66 t67 t68 t69 t70 t71 t72 t73 t74 t75 t76 t77 t78 t79 : Value} {w : World}
    (h : idxA Try.prog 22 two3 (Value.int IntKind.i64 17) (fun t30 w =>
    ld Try.prog 5 t30 (fun t31 w =>
    bin Try.prog BinOp.xor 5 false true t31 (Value.int IntKind.u8 1) (fun t32 w =>
    idxA Try.prog 22 two3 (Value.int IntKind.i64 17) (fun t33 w =>
    sto Try.prog 5 t33 t32 (fun _t w =>
    slc Try.prog 22 b1 none (some (Value.int IntKind.i64 8)) none (fun t36 w =>
    call Try.prog 10 #[t36] (fun t37 w =>
    ext Try.prog t37 0 (fun t38 w =>
    ext Try.prog t37 1 (fun t39 w =>
    call Try.prog 10 #[two3] (fun t42 w =>
    ext Try.prog t42 0 (fun t43 w =>
    ext Try.prog t42 1 (fun t44 w =>
    slc Try.prog 22 b1 none (some (Value.int IntKind.i64 4)) none (fun t46 w =>
    conv Try.prog 22 9 t46 (fun t47 w =>
    bin Try.prog BinOp.eql 9 false true t47 (Value.string (bstr [0, 0, 0, 1])) (fun t48 w =>
    gsel t48 true (fun k50 =>
    idxA Try.prog 22 b1 (Value.int IntKind.i64 8) (fun t51 w =>
    ld Try.prog 5 t51 (fun t52 w =>
    bin Try.prog BinOp.eql 5 false true t52 (Value.int IntKind.u8 97) (fun t53 w =>
    k50 [b1, t51, t52, t53] w) w) w) w)
    (fun k => k [undef, undef, undef, undef] w) (fun us50 w =>
    pick t48 (gd us50 3) (Value.bool false) (fun t54 w =>
    gsel t54 true (fun k56 =>
    blt Try.prog Builtin.len #[26] 3 #[false] #[t38] (fun t57 w =>
    bin Try.prog BinOp.eql 3 false true t57 (Value.int IntKind.i64 0) (fun t58 w =>
    k56 [t38, t57, t58] w) w) w)
    (fun k => k [undef, undef, undef] w) (fun us56 w =>
    pick t54 (gd us56 2) (Value.bool false) (fun t59 w =>
    gsel t59 true (fun k61 =>
    bin Try.prog BinOp.eql 3 false true t39 (Value.int IntKind.i64 0) (fun t62 w =>
    k61 [t39, t62] w) w)
    (fun k => k [undef, undef] w) (fun us61 w =>
    pick t59 (gd us61 1) (Value.bool false) (fun t63 w =>
    gsel t63 true (fun k65 =>
    blt Try.prog Builtin.len #[26] 3 #[false] #[t43] (fun t66 w =>
    bin Try.prog BinOp.eql 3 false true t66 (Value.int IntKind.i64 1) (fun t67 w =>
    k65 [t43, t66, t67] w) w) w)
    (fun k => k [undef, undef, undef] w) (fun us65 w =>
    pick t63 (gd us65 2) (Value.bool false) (fun t68 w =>
    gsel t68 true (fun k70 =>
    idxA Try.prog 26 t43 (Value.int IntKind.i64 0) (fun t71 w =>
    ld Try.prog 22 t71 (fun t72 w =>
    conv Try.prog 22 9 t72 (fun t73 w =>
    bin Try.prog BinOp.eql 9 false true t73 (Value.string (bstr [97])) (fun t74 w =>
    k70 [t43, t71, t72, t73, t74] w) w) w) w) w)
    (fun k => k [undef, undef, undef, undef, undef] w) (fun us70 w =>
    pick t68 (gd us70 4) (Value.bool false) (fun t75 w =>
    gsel t75 true (fun k77 =>
    bin Try.prog BinOp.eql 3 false true t44 (Value.int IntKind.i64 9) (fun t78 w =>
    k77 [t44, t78] w) w)
    (fun k => k [undef, undef] w) (fun us77 w =>
    pick t75 (gd us77 1) (Value.bool false) (fun t79 w =>
    K t79 w) w)) w)) w)) w)) w)) w)) w) w) w) w) w) w) w) w) w) w) w) w) w) w) w) :
    cCode Try.prog (cd Try.f8 [1, 1, 1, 1]) (retK Try.prog Try.f8.results.toList K) (fun _ _ _ => False) (retK Try.prog Try.f8.results.toList K) (t0 :: b1 :: e2 :: two3 :: l4 :: at5 :: m6 :: to7 :: t8 :: t9 :: t10 :: t11 :: t12 :: t13 :: t14 :: t15 :: t16 :: t17 :: t18 :: t19 :: t20 :: t21 :: t22 :: t23 :: t24 :: t25 :: t26 :: t27 :: t28 :: t29 :: t30 :: t31 :: t32 :: t33 :: t34 :: t35 :: t36 :: t37 :: t38 :: t39 :: t40 :: t41 :: t42 :: t43 :: t44 :: t45 :: t46 :: t47 :: t48 :: t49 :: t50 :: t51 :: t52 :: t53 :: t54 :: t55 :: t56 :: t57 :: t58 :: t59 :: t60 :: t61 :: t62 :: t63 :: t64 :: t65 :: t66 :: t67 :: t68 :: t69 :: t70 :: t71 :: t72 :: t73 :: t74 :: t75 :: t76 :: t77 :: t78 :: t79 :: []) w := Eq.mp (by kernel_rfl) h

theorem leatlaw03_works_A1_r {K : KV} {t0 b1 e2 two3 l4 at5 m6 to7 t8 t9 t10 t11 t12 t13 t14 t15 t16 t17 t18 t19 t20 t21 t22 t23 t24 t25 t26 t27 t28 t29 t30 t31 t32 t33 t34 t35 t36 t37 t38 t39 t40 t41 t42 t43 t44 t45 t46 t47 t48 t49 t50 t51 t52 t53 t54 t55 t56 t57 t58 t59 t60 t61 t62 t63 t64 t65 t66 t67 t68 t69 t70 t71 t72 t73 t74 t75 t76 t77 t78 t79 : Value} {w : World}
    (h : idxA Try.prog 22 two3 (Value.int IntKind.i64 17) (fun t30 w =>
    ld Try.prog 5 t30 (fun t31 w =>
    bin Try.prog BinOp.xor 5 false true t31 (Value.int IntKind.u8 1) (fun t32 w =>
    idxA Try.prog 22 two3 (Value.int IntKind.i64 17) (fun t33 w =>
    sto Try.prog 5 t33 t32 (fun _t w =>
    slc Try.prog 22 b1 none (some (Value.int IntKind.i64 8)) none (fun t36 w =>
    call Try.prog 10 #[t36] (fun t37 w =>
    ext Try.prog t37 0 (fun t38 w =>
    ext Try.prog t37 1 (fun t39 w =>
    call Try.prog 10 #[two3] (fun t42 w =>
    ext Try.prog t42 0 (fun t43 w =>
    ext Try.prog t42 1 (fun t44 w =>
    slc Try.prog 22 b1 none (some (Value.int IntKind.i64 4)) none (fun t46 w =>
    conv Try.prog 22 9 t46 (fun t47 w =>
    bin Try.prog BinOp.eql 9 false true t47 (Value.string (bstr [0, 0, 0, 1])) (fun t48 w =>
    gsel t48 true (fun k50 =>
    idxA Try.prog 22 b1 (Value.int IntKind.i64 8) (fun t51 w =>
    ld Try.prog 5 t51 (fun t52 w =>
    bin Try.prog BinOp.eql 5 false true t52 (Value.int IntKind.u8 97) (fun t53 w =>
    k50 [b1, t51, t52, t53] w) w) w) w)
    (fun k => k [undef, undef, undef, undef] w) (fun us50 w =>
    pick t48 (gd us50 3) (Value.bool false) (fun t54 w =>
    gsel t54 true (fun k56 =>
    blt Try.prog Builtin.len #[26] 3 #[false] #[t38] (fun t57 w =>
    bin Try.prog BinOp.eql 3 false true t57 (Value.int IntKind.i64 0) (fun t58 w =>
    k56 [t38, t57, t58] w) w) w)
    (fun k => k [undef, undef, undef] w) (fun us56 w =>
    pick t54 (gd us56 2) (Value.bool false) (fun t59 w =>
    gsel t59 true (fun k61 =>
    bin Try.prog BinOp.eql 3 false true t39 (Value.int IntKind.i64 0) (fun t62 w =>
    k61 [t39, t62] w) w)
    (fun k => k [undef, undef] w) (fun us61 w =>
    pick t59 (gd us61 1) (Value.bool false) (fun t63 w =>
    gsel t63 true (fun k65 =>
    blt Try.prog Builtin.len #[26] 3 #[false] #[t43] (fun t66 w =>
    bin Try.prog BinOp.eql 3 false true t66 (Value.int IntKind.i64 1) (fun t67 w =>
    k65 [t43, t66, t67] w) w) w)
    (fun k => k [undef, undef, undef] w) (fun us65 w =>
    pick t63 (gd us65 2) (Value.bool false) (fun t68 w =>
    gsel t68 true (fun k70 =>
    idxA Try.prog 26 t43 (Value.int IntKind.i64 0) (fun t71 w =>
    ld Try.prog 22 t71 (fun t72 w =>
    conv Try.prog 22 9 t72 (fun t73 w =>
    bin Try.prog BinOp.eql 9 false true t73 (Value.string (bstr [97])) (fun t74 w =>
    k70 [t43, t71, t72, t73, t74] w) w) w) w) w)
    (fun k => k [undef, undef, undef, undef, undef] w) (fun us70 w =>
    pick t68 (gd us70 4) (Value.bool false) (fun t75 w =>
    gsel t75 true (fun k77 =>
    bin Try.prog BinOp.eql 3 false true t44 (Value.int IntKind.i64 9) (fun t78 w =>
    k77 [t44, t78] w) w)
    (fun k => k [undef, undef] w) (fun us77 w =>
    pick t75 (gd us77 1) (Value.bool false) (fun t79 w =>
    K t79 w) w)) w)) w)) w)) w)) w)) w) w) w) w) w) w) w) w) w) w) w) w) w) w) w) :
    leatlaw03_works_A1 K (t0 :: b1 :: e2 :: two3 :: l4 :: at5 :: m6 :: to7 :: t8 :: t9 :: t10 :: t11 :: t12 :: t13 :: t14 :: t15 :: t16 :: t17 :: t18 :: t19 :: t20 :: t21 :: t22 :: t23 :: t24 :: t25 :: t26 :: t27 :: t28 :: t29 :: t30 :: t31 :: t32 :: t33 :: t34 :: t35 :: t36 :: t37 :: t38 :: t39 :: t40 :: t41 :: t42 :: t43 :: t44 :: t45 :: t46 :: t47 :: t48 :: t49 :: t50 :: t51 :: t52 :: t53 :: t54 :: t55 :: t56 :: t57 :: t58 :: t59 :: t60 :: t61 :: t62 :: t63 :: t64 :: t65 :: t66 :: t67 :: t68 :: t69 :: t70 :: t71 :: t72 :: t73 :: t74 :: t75 :: t76 :: t77 :: t78 :: t79 :: []) w := by
  delta leatlaw03_works_A1
  exact Eq.mp (congrArg (fun c => cCode Try.prog c (retK Try.prog Try.f8.results.toList K) (fun _ _ _ => False) (retK Try.prog Try.f8.results.toList K) (t0 :: b1 :: e2 :: two3 :: l4 :: at5 :: m6 :: to7 :: t8 :: t9 :: t10 :: t11 :: t12 :: t13 :: t14 :: t15 :: t16 :: t17 :: t18 :: t19 :: t20 :: t21 :: t22 :: t23 :: t24 :: t25 :: t26 :: t27 :: t28 :: t29 :: t30 :: t31 :: t32 :: t33 :: t34 :: t35 :: t36 :: t37 :: t38 :: t39 :: t40 :: t41 :: t42 :: t43 :: t44 :: t45 :: t46 :: t47 :: t48 :: t49 :: t50 :: t51 :: t52 :: t53 :: t54 :: t55 :: t56 :: t57 :: t58 :: t59 :: t60 :: t61 :: t62 :: t63 :: t64 :: t65 :: t66 :: t67 :: t68 :: t69 :: t70 :: t71 :: t72 :: t73 :: t74 :: t75 :: t76 :: t77 :: t78 :: t79 :: []) w) (by kernel_rfl : (cd Try.f8 [1, 1, 1, 1]) = (cd Try.f8 [1, 1, 1, 1]))) (leatlaw03_works_A1_k h)
attribute [irreducible] leatlaw03_works_A1

end Go.Proofs.Ytccllogpakmjcaa
