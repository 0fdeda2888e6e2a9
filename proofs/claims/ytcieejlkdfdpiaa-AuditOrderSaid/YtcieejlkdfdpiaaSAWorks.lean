/- Written by program (gen.py): what the code of some functions asks, part by part; each text is checked by the kernel against the translation. -/
import Derived.Test.YtcieejlkdfdpiaaSh
import Derived.Test.YtcieejlkdfdpiaaChecked
namespace Go.Proofs.Ytcieejlkdfdpiaa
open Go.RowKit
set_option maxRecDepth 100000

def leatlaw26_works_A1 (K : KV) : KE := cCode Try.prog (cd Try.f6 [1, 1, 1, 1, 1, 1, 1]) (retK Try.prog Try.f6.results.toList K) (fun _ _ _ => False) (retK Try.prog Try.f6.results.toList K)
theorem leatlaw26_works_k {K : KV} (xc0 : Code) {w : World}
    (h : call Try.prog 7 #[] (fun t10 w =>
    bld Try.prog 35 #[(0, (Value.int IntKind.u8 1)), (3, (Value.int IntKind.i64 10))] (fun t12 w =>
    bld Try.prog 39 #[(0, (Value.int IntKind.i64 1)), (1, (Value.int IntKind.u64 1)), (3, (Value.int IntKind.u8 1)), (6, (Value.int IntKind.i64 10))] (fun t13 w =>
    bld Try.prog 42 #[(0, t13)] (fun t14 w =>
    call Try.prog 8 #[t10, (Value.int IntKind.i64 1), t12, t14] (fun t15 w =>
    bld Try.prog 35 #[(0, (Value.int IntKind.u8 3)), (1, (Value.int IntKind.u64 1099511627777)), (3, (Value.int IntKind.i64 4)), (4, (Value.int IntKind.u64 1))] (fun t18 w =>
    bld Try.prog 42 #[] (fun t19 w =>
    call Try.prog 8 #[t10, (Value.int IntKind.i64 1), t18, t19] (fun t20 w =>
    call Try.prog 10 #[t10, (Value.int IntKind.u64 1099511627777)] (fun t24 w =>
    ext Try.prog t24 0 (fun t25 w =>
    ext Try.prog t24 1 (fun t26 w =>
    ext Try.prog t24 2 (fun t27 w =>
    call Try.prog 10 #[t10, (Value.int IntKind.u64 1)] (fun t30 w =>
    ext Try.prog t30 0 (fun t31 w =>
    ext Try.prog t30 1 (fun t32 w =>
    ext Try.prog t30 2 (fun t33 w =>
    (cCode Try.prog xc0 (retK Try.prog Try.f6.results.toList K) (fun _ _ _ => False) (retK Try.prog Try.f6.results.toList K)) ((Value.bool false) :: t10 :: (Value.int IntKind.u64 1099511627777) :: t25 :: t26 :: t27 :: t31 :: t32 :: t33 :: undef :: t10 :: t10 :: t12 :: t13 :: t14 :: t15 :: t10 :: (Value.int IntKind.u64 1099511627777) :: t18 :: t19 :: t20 :: t24 :: t10 :: (Value.int IntKind.u64 1099511627777) :: t24 :: t25 :: t26 :: t27 :: t30 :: t10 :: t30 :: t31 :: t32 :: t33 :: undef :: undef :: undef :: undef :: undef :: undef :: undef :: undef :: undef :: undef :: undef :: undef :: undef :: undef :: undef :: undef :: undef :: undef :: undef :: undef :: undef :: undef :: undef :: undef :: undef :: undef :: undef :: undef :: undef :: undef :: undef :: undef :: undef :: undef :: undef :: []) w) w) w) w) w) w) w) w) w) w) w) w) w) w) w) w) w) :
    cCode Try.prog (rep [1, 1, 1, 1, 1, 1, 1] xc0 (cd Try.f6 [])) (retK Try.prog Try.f6.results.toList K) (fun _ _ _ => False) (retK Try.prog Try.f6.results.toList K) (undef :: undef :: undef :: undef :: undef :: undef :: undef :: undef :: undef :: undef :: undef :: undef :: undef :: undef :: undef :: undef :: undef :: undef :: undef :: undef :: undef :: undef :: undef :: undef :: undef :: undef :: undef :: undef :: undef :: undef :: undef :: undef :: undef :: undef :: undef :: undef :: undef :: undef :: undef :: undef :: undef :: undef :: undef :: undef :: undef :: undef :: undef :: undef :: undef :: undef :: undef :: undef :: undef :: undef :: undef :: undef :: undef :: undef :: undef :: undef :: undef :: undef :: undef :: undef :: undef :: undef :: undef :: undef :: undef :: []) w := Eq.mp (by kernel_rfl) h

theorem leatlaw26_works_in {K : KV} {w : World}
    (h : call Try.prog 7 #[] (fun t10 w =>
    bld Try.prog 35 #[(0, (Value.int IntKind.u8 1)), (3, (Value.int IntKind.i64 10))] (fun t12 w =>
    bld Try.prog 39 #[(0, (Value.int IntKind.i64 1)), (1, (Value.int IntKind.u64 1)), (3, (Value.int IntKind.u8 1)), (6, (Value.int IntKind.i64 10))] (fun t13 w =>
    bld Try.prog 42 #[(0, t13)] (fun t14 w =>
    call Try.prog 8 #[t10, (Value.int IntKind.i64 1), t12, t14] (fun t15 w =>
    bld Try.prog 35 #[(0, (Value.int IntKind.u8 3)), (1, (Value.int IntKind.u64 1099511627777)), (3, (Value.int IntKind.i64 4)), (4, (Value.int IntKind.u64 1))] (fun t18 w =>
    bld Try.prog 42 #[] (fun t19 w =>
    call Try.prog 8 #[t10, (Value.int IntKind.i64 1), t18, t19] (fun t20 w =>
    call Try.prog 10 #[t10, (Value.int IntKind.u64 1099511627777)] (fun t24 w =>
    ext Try.prog t24 0 (fun t25 w =>
    ext Try.prog t24 1 (fun t26 w =>
    ext Try.prog t24 2 (fun t27 w =>
    call Try.prog 10 #[t10, (Value.int IntKind.u64 1)] (fun t30 w =>
    ext Try.prog t30 0 (fun t31 w =>
    ext Try.prog t30 1 (fun t32 w =>
    ext Try.prog t30 2 (fun t33 w =>
    (leatlaw26_works_A1 K) ((Value.bool false) :: t10 :: (Value.int IntKind.u64 1099511627777) :: t25 :: t26 :: t27 :: t31 :: t32 :: t33 :: undef :: t10 :: t10 :: t12 :: t13 :: t14 :: t15 :: t10 :: (Value.int IntKind.u64 1099511627777) :: t18 :: t19 :: t20 :: t24 :: t10 :: (Value.int IntKind.u64 1099511627777) :: t24 :: t25 :: t26 :: t27 :: t30 :: t10 :: t30 :: t31 :: t32 :: t33 :: undef :: undef :: undef :: undef :: undef :: undef :: undef :: undef :: undef :: undef :: undef :: undef :: undef :: undef :: undef :: undef :: undef :: undef :: undef :: undef :: undef :: undef :: undef :: undef :: undef :: undef :: undef :: undef :: undef :: undef :: undef :: undef :: undef :: undef :: undef :: []) w) w) w) w) w) w) w) w) w) w) w) w) w) w) w) w) w) :
    Gives Try.prog 6 #[] w K := enter' Try.func6 (by kernel_rfl) (Eq.mp (congrArg (fun c => cCode Try.prog c (retK Try.prog Try.f6.results.toList K) (fun _ _ _ => False) (retK Try.prog Try.f6.results.toList K) (undef :: undef :: undef :: undef :: undef :: undef :: undef :: undef :: undef :: undef :: undef :: undef :: undef :: undef :: undef :: undef :: undef :: undef :: undef :: undef :: undef :: undef :: undef :: undef :: undef :: undef :: undef :: undef :: undef :: undef :: undef :: undef :: undef :: undef :: undef :: undef :: undef :: undef :: undef :: undef :: undef :: undef :: undef :: undef :: undef :: undef :: undef :: undef :: undef :: undef :: undef :: undef :: undef :: undef :: undef :: undef :: undef :: undef :: undef :: undef :: undef :: undef :: undef :: undef :: undef :: undef :: undef :: undef :: undef :: []) w) (by kernel_rfl : (rep [1, 1, 1, 1, 1, 1, 1] (cd Try.f6 [1, 1, 1, 1, 1, 1, 1]) (cd Try.f6 [])) = (cd Try.f6 []))) (leatlaw26_works_k (cd Try.f6 [1, 1, 1, 1, 1, 1, 1]) h))
theorem leatlaw26_works_go : isGo Try.prog 6 := ⟨_, Try.func6, by kernel_rfl, by kernel_rfl⟩

theorem leatlaw26_works_A1_k {K : KV} {t0 a1 node2 limit3 used4 e5 t6 t7 f8 b9 t10 t11 t12 t13 t14 t15 t16 t17 t18 t19 t20 t21 t22 t23 t24 t25 t26 t27 t28 t29 t30 t31 t32 t33 t34 t35 t36 t37 t38 t39 t40 t41 t42 t43 t44 t45 t46 t47 t48 t49 t50 t51 t52 t53 t54 t55 t56 t57 t58 t59 t60 t61 t62 t63 t64 t65 t66 t67 t68 : Value} {w : World}
    (h : call Try.prog 12 #[a1] (fun t35 w =>
    bld Try.prog 35 #[(0, (Value.int IntKind.u8 3)), (1, node2), (3, (Value.int IntKind.i64 7)), (4, (Value.int IntKind.u64 1))] (fun t38 w =>
    bld Try.prog 42 #[] (fun t39 w =>
    call Try.prog 8 #[a1, (Value.int IntKind.i64 2), t38, t39] (fun t40 w =>
    bin Try.prog BinOp.eql 2 false true limit3 (Value.int IntKind.i64 10) (fun t42 w =>
    gsel t42 true (fun k44 =>
    bin Try.prog BinOp.eql 2 false true used4 (Value.int IntKind.i64 4) (fun t45 w =>
    k44 [used4, t45] w) w)
    (fun k => k [undef, undef] w) (fun us44 w =>
    pick t42 (gd us44 1) (Value.bool false) (fun t46 w =>
    gsel t46 true (fun k48 =>
    bin Try.prog BinOp.eql 40 false true e5 (Value.int IntKind.i64 0) (fun t49 w =>
    k48 [e5, t49] w) w)
    (fun k => k [undef, undef] w) (fun us48 w =>
    pick t46 (gd us48 1) (Value.bool false) (fun t50 w =>
    gsel t50 true (fun k52 =>
    bin Try.prog BinOp.eql 40 false true f8 (Value.int IntKind.i64 9) (fun t53 w =>
    k52 [f8, t53] w) w)
    (fun k => k [undef, undef] w) (fun us52 w =>
    pick t50 (gd us52 1) (Value.bool false) (fun t54 w =>
    gsel t54 true (fun k56 =>
    k56 [t35] w)
    (fun k => k [undef] w) (fun us56 w =>
    pick t54 (gd us56 0) (Value.bool false) (fun t57 w =>
    gsel t57 true (fun k59 =>
    call Try.prog 12 #[a1] (fun t60 w =>
    un Try.prog UnOp.not t60 (fun t61 w =>
    k59 [a1, t60, t61] w) w) w)
    (fun k => k [undef, undef, undef] w) (fun us59 w =>
    pick t57 (gd us59 2) (Value.bool false) (fun t62 w =>
    gsel t62 true (fun k64 =>
    call Try.prog 15 #[a1] (fun t65 w =>
    blt Try.prog Builtin.len #[47] 3 #[false] #[t65] (fun t66 w =>
    bin Try.prog BinOp.eql 3 false true t66 (Value.int IntKind.i64 1) (fun t67 w =>
    k64 [a1, t65, t66, t67] w) w) w) w)
    (fun k => k [undef, undef, undef, undef] w) (fun us64 w =>
    pick t62 (gd us64 3) (Value.bool false) (fun t68 w =>
    K t68 w) w)) w)) w)) w)) w)) w)) w) w) w) w) w) :
    cCode Try.prog (cd Try.f6 [1, 1, 1, 1, 1, 1, 1]) (retK Try.prog Try.f6.results.toList K) (fun _ _ _ => False) (retK Try.prog Try.f6.results.toList K) (t0 :: a1 :: node2 :: limit3 :: used4 :: e5 :: t6 :: t7 :: f8 :: b9 :: t10 :: t11 :: t12 :: t13 :: t14 :: t15 :: t16 :: t17 :: t18 :: t19 :: t20 :: t21 :: t22 :: t23 :: t24 :: t25 :: t26 :: t27 :: t28 :: t29 :: t30 :: t31 :: t32 :: t33 :: t34 :: t35 :: t36 :: t37 :: t38 :: t39 :: t40 :: t41 :: t42 :: t43 :: t44 :: t45 :: t46 :: t47 :: t48 :: t49 :: t50 :: t51 :: t52 :: t53 :: t54 :: t55 :: t56 :: t57 :: t58 :: t59 :: t60 :: t61 :: t62 :: t63 :: t64 :: t65 :: t66 :: t67 :: t68 :: []) w := Eq.mp (by kernel_rfl) h

theorem leatlaw26_works_A1_r {K : KV} {t0 a1 node2 limit3 used4 e5 t6 t7 f8 b9 t10 t11 t12 t13 t14 t15 t16 t17 t18 t19 t20 t21 t22 t23 t24 t25 t26 t27 t28 t29 t30 t31 t32 t33 t34 t35 t36 t37 t38 t39 t40 t41 t42 t43 t44 t45 t46 t47 t48 t49 t50 t51 t52 t53 t54 t55 t56 t57 t58 t59 t60 t61 t62 t63 t64 t65 t66 t67 t68 : Value} {w : World}
    (h : call Try.prog 12 #[a1] (fun t35 w =>
    bld Try.prog 35 #[(0, (Value.int IntKind.u8 3)), (1, node2), (3, (Value.int IntKind.i64 7)), (4, (Value.int IntKind.u64 1))] (fun t38 w =>
    bld Try.prog 42 #[] (fun t39 w =>
    call Try.prog 8 #[a1, (Value.int IntKind.i64 2), t38, t39] (fun t40 w =>
    bin Try.prog BinOp.eql 2 false true limit3 (Value.int IntKind.i64 10) (fun t42 w =>
    gsel t42 true (fun k44 =>
    bin Try.prog BinOp.eql 2 false true used4 (Value.int IntKind.i64 4) (fun t45 w =>
    k44 [used4, t45] w) w)
    (fun k => k [undef, undef] w) (fun us44 w =>
    pick t42 (gd us44 1) (Value.bool false) (fun t46 w =>
    gsel t46 true (fun k48 =>
    bin Try.prog BinOp.eql 40 false true e5 (Value.int IntKind.i64 0) (fun t49 w =>
    k48 [e5, t49] w) w)
    (fun k => k [undef, undef] w) (fun us48 w =>
    pick t46 (gd us48 1) (Value.bool false) (fun t50 w =>
    gsel t50 true (fun k52 =>
    bin Try.prog BinOp.eql 40 false true f8 (Value.int IntKind.i64 9) (fun t53 w =>
    k52 [f8, t53] w) w)
    (fun k => k [undef, undef] w) (fun us52 w =>
    pick t50 (gd us52 1) (Value.bool false) (fun t54 w =>
    gsel t54 true (fun k56 =>
    k56 [t35] w)
    (fun k => k [undef] w) (fun us56 w =>
    pick t54 (gd us56 0) (Value.bool false) (fun t57 w =>
    gsel t57 true (fun k59 =>
    call Try.prog 12 #[a1] (fun t60 w =>
    un Try.prog UnOp.not t60 (fun t61 w =>
    k59 [a1, t60, t61] w) w) w)
    (fun k => k [undef, undef, undef] w) (fun us59 w =>
    pick t57 (gd us59 2) (Value.bool false) (fun t62 w =>
    gsel t62 true (fun k64 =>
    call Try.prog 15 #[a1] (fun t65 w =>
    blt Try.prog Builtin.len #[47] 3 #[false] #[t65] (fun t66 w =>
    bin Try.prog BinOp.eql 3 false true t66 (Value.int IntKind.i64 1) (fun t67 w =>
    k64 [a1, t65, t66, t67] w) w) w) w)
    (fun k => k [undef, undef, undef, undef] w) (fun us64 w =>
    pick t62 (gd us64 3) (Value.bool false) (fun t68 w =>
    K t68 w) w)) w)) w)) w)) w)) w)) w) w) w) w) w) :
    leatlaw26_works_A1 K (t0 :: a1 :: node2 :: limit3 :: used4 :: e5 :: t6 :: t7 :: f8 :: b9 :: t10 :: t11 :: t12 :: t13 :: t14 :: t15 :: t16 :: t17 :: t18 :: t19 :: t20 :: t21 :: t22 :: t23 :: t24 :: t25 :: t26 :: t27 :: t28 :: t29 :: t30 :: t31 :: t32 :: t33 :: t34 :: t35 :: t36 :: t37 :: t38 :: t39 :: t40 :: t41 :: t42 :: t43 :: t44 :: t45 :: t46 :: t47 :: t48 :: t49 :: t50 :: t51 :: t52 :: t53 :: t54 :: t55 :: t56 :: t57 :: t58 :: t59 :: t60 :: t61 :: t62 :: t63 :: t64 :: t65 :: t66 :: t67 :: t68 :: []) w := by
  delta leatlaw26_works_A1
  exact Eq.mp (congrArg (fun c => cCode Try.prog c (retK Try.prog Try.f6.results.toList K) (fun _ _ _ => False) (retK Try.prog Try.f6.results.toList K) (t0 :: a1 :: node2 :: limit3 :: used4 :: e5 :: t6 :: t7 :: f8 :: b9 :: t10 :: t11 :: t12 :: t13 :: t14 :: t15 :: t16 :: t17 :: t18 :: t19 :: t20 :: t21 :: t22 :: t23 :: t24 :: t25 :: t26 :: t27 :: t28 :: t29 :: t30 :: t31 :: t32 :: t33 :: t34 :: t35 :: t36 :: t37 :: t38 :: t39 :: t40 :: t41 :: t42 :: t43 :: t44 :: t45 :: t46 :: t47 :: t48 :: t49 :: t50 :: t51 :: t52 :: t53 :: t54 :: t55 :: t56 :: t57 :: t58 :: t59 :: t60 :: t61 :: t62 :: t63 :: t64 :: t65 :: t66 :: t67 :: t68 :: []) w) (by kernel_rfl : (cd Try.f6 [1, 1, 1, 1, 1, 1, 1]) = (cd Try.f6 [1, 1, 1, 1, 1, 1, 1]))) (leatlaw26_works_A1_k h)
attribute [irreducible] leatlaw26_works_A1

end Go.Proofs.Ytcieejlkdfdpiaa
