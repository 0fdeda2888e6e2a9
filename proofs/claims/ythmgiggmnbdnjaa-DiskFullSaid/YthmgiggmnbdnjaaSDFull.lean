/- Written by program (gen.py): what the code of some functions asks, part by part; each text is checked by the kernel against the translation. -/
import Derived.Test.YthmgiggmnbdnjaaSh
import Derived.Test.YthmgiggmnbdnjaaChecked
namespace Go.Proofs.Ythmgiggmnbdnjaa
open Go.RowKit
set_option maxRecDepth 100000

def leatlaw04_DiskFull_P1 (K : KV) : KE := cCode Try.prog (cd Try.f4 [1, 1, 1, 1, 1, 1, 1]) (retK Try.prog Try.f4.results.toList K) (fun _ _ _ => False) (retK Try.prog Try.f4.results.toList K)
def leatlaw04_DiskFull_A1 (K : KV) : KE := cCode Try.prog (cd Try.f4 [1, 1, 1, 1, 1, 1, 0, 1]) (leatlaw04_DiskFull_P1 K) (fun _ _ _ => False) (retK Try.prog Try.f4.results.toList K)
theorem leatlaw04_DiskFull_k {K : KV} (x0 : Code) {over0 first1 : Value} {w : World}
    (h : conv Try.prog 34 3 over0 (fun t11 w =>
    bin Try.prog BinOp.add 3 true false (Value.int IntKind.i64 4194304) t11 (fun t12 w =>
    conv Try.prog 35 3 first1 (fun t14 w =>
    bin Try.prog BinOp.rem 3 false true t14 (Value.int IntKind.i64 4194304) (fun t15 w =>
    call Try.prog 10 #[] (fun t16 w =>
    mkS Try.prog 22 t15 t15 (fun t19 w =>
    call Try.prog 11 #[t16, (Value.int IntKind.i64 0), t19] (fun t20 w =>
    bin Try.prog BinOp.sub 3 false false t12 t15 (fun t24 w =>
    blt Try.prog Builtin.max #[3, 3] 3 #[false, true] #[t24, (Value.int IntKind.i64 0)] (fun t25 w =>
    mkS Try.prog 22 t25 t25 (fun t26 w =>
    call Try.prog 11 #[t16, (Value.int IntKind.i64 1), t26] (fun t27 w =>
    bin Try.prog BinOp.gtr 34 false true over0 (Value.int IntKind.i8 0) (fun t29 w =>
    (cCode Try.prog x0 (cCode Try.prog (cd Try.f4 [1, 1, 1, 1, 1, 1, 1]) (retK Try.prog Try.f4.results.toList K) (fun _ _ _ => False) (retK Try.prog Try.f4.results.toList K)) (fun _ _ _ => False) (retK Try.prog Try.f4.results.toList K)) (over0 :: first1 :: undef :: undef :: (Value.bool false) :: t12 :: t15 :: t16 :: t20 :: t27 :: over0 :: t11 :: t12 :: first1 :: t14 :: t15 :: t16 :: t16 :: t15 :: t19 :: t20 :: t16 :: t12 :: t15 :: t24 :: t25 :: t26 :: t27 :: over0 :: t29 :: undef :: undef :: undef :: undef :: undef :: undef :: undef :: undef :: undef :: undef :: undef :: undef :: undef :: undef :: undef :: undef :: undef :: undef :: undef :: undef :: undef :: undef :: undef :: undef :: undef :: undef :: undef :: undef :: []) w) w) w) w) w) w) w) w) w) w) w) w) w) :
    cCode Try.prog (rep [1, 1, 1, 1, 1, 1, 0, 1] x0 (cd Try.f4 [])) (retK Try.prog Try.f4.results.toList K) (fun _ _ _ => False) (retK Try.prog Try.f4.results.toList K) (over0 :: first1 :: undef :: undef :: undef :: undef :: undef :: undef :: undef :: undef :: undef :: undef :: undef :: undef :: undef :: undef :: undef :: undef :: undef :: undef :: undef :: undef :: undef :: undef :: undef :: undef :: undef :: undef :: undef :: undef :: undef :: undef :: undef :: undef :: undef :: undef :: undef :: undef :: undef :: undef :: undef :: undef :: undef :: undef :: undef :: undef :: undef :: undef :: undef :: undef :: undef :: undef :: undef :: undef :: undef :: undef :: undef :: undef :: []) w := Eq.mp (by kernel_rfl) h

theorem leatlaw04_DiskFull_in {K : KV} {over0 first1 : Value} {w : World}
    (h : conv Try.prog 34 3 over0 (fun t11 w =>
    bin Try.prog BinOp.add 3 true false (Value.int IntKind.i64 4194304) t11 (fun t12 w =>
    conv Try.prog 35 3 first1 (fun t14 w =>
    bin Try.prog BinOp.rem 3 false true t14 (Value.int IntKind.i64 4194304) (fun t15 w =>
    call Try.prog 10 #[] (fun t16 w =>
    mkS Try.prog 22 t15 t15 (fun t19 w =>
    call Try.prog 11 #[t16, (Value.int IntKind.i64 0), t19] (fun t20 w =>
    bin Try.prog BinOp.sub 3 false false t12 t15 (fun t24 w =>
    blt Try.prog Builtin.max #[3, 3] 3 #[false, true] #[t24, (Value.int IntKind.i64 0)] (fun t25 w =>
    mkS Try.prog 22 t25 t25 (fun t26 w =>
    call Try.prog 11 #[t16, (Value.int IntKind.i64 1), t26] (fun t27 w =>
    bin Try.prog BinOp.gtr 34 false true over0 (Value.int IntKind.i8 0) (fun t29 w =>
    (leatlaw04_DiskFull_A1 K) (over0 :: first1 :: undef :: undef :: (Value.bool false) :: t12 :: t15 :: t16 :: t20 :: t27 :: over0 :: t11 :: t12 :: first1 :: t14 :: t15 :: t16 :: t16 :: t15 :: t19 :: t20 :: t16 :: t12 :: t15 :: t24 :: t25 :: t26 :: t27 :: over0 :: t29 :: undef :: undef :: undef :: undef :: undef :: undef :: undef :: undef :: undef :: undef :: undef :: undef :: undef :: undef :: undef :: undef :: undef :: undef :: undef :: undef :: undef :: undef :: undef :: undef :: undef :: undef :: undef :: undef :: []) w) w) w) w) w) w) w) w) w) w) w) w) w) :
    Gives Try.prog 4 #[over0, first1] w K := enter' Try.func4 (by kernel_rfl) (Eq.mp (congrArg (fun c => cCode Try.prog c (retK Try.prog Try.f4.results.toList K) (fun _ _ _ => False) (retK Try.prog Try.f4.results.toList K) (over0 :: first1 :: undef :: undef :: undef :: undef :: undef :: undef :: undef :: undef :: undef :: undef :: undef :: undef :: undef :: undef :: undef :: undef :: undef :: undef :: undef :: undef :: undef :: undef :: undef :: undef :: undef :: undef :: undef :: undef :: undef :: undef :: undef :: undef :: undef :: undef :: undef :: undef :: undef :: undef :: undef :: undef :: undef :: undef :: undef :: undef :: undef :: undef :: undef :: undef :: undef :: undef :: undef :: undef :: undef :: undef :: undef :: undef :: []) w) (by kernel_rfl : (rep [1, 1, 1, 1, 1, 1, 0, 1] (cd Try.f4 [1, 1, 1, 1, 1, 1, 0, 1]) (cd Try.f4 [])) = (cd Try.f4 []))) (leatlaw04_DiskFull_k (cd Try.f4 [1, 1, 1, 1, 1, 1, 0, 1]) (h : conv Try.prog 34 3 over0 (fun t11 w =>
    bin Try.prog BinOp.add 3 true false (Value.int IntKind.i64 4194304) t11 (fun t12 w =>
    conv Try.prog 35 3 first1 (fun t14 w =>
    bin Try.prog BinOp.rem 3 false true t14 (Value.int IntKind.i64 4194304) (fun t15 w =>
    call Try.prog 10 #[] (fun t16 w =>
    mkS Try.prog 22 t15 t15 (fun t19 w =>
    call Try.prog 11 #[t16, (Value.int IntKind.i64 0), t19] (fun t20 w =>
    bin Try.prog BinOp.sub 3 false false t12 t15 (fun t24 w =>
    blt Try.prog Builtin.max #[3, 3] 3 #[false, true] #[t24, (Value.int IntKind.i64 0)] (fun t25 w =>
    mkS Try.prog 22 t25 t25 (fun t26 w =>
    call Try.prog 11 #[t16, (Value.int IntKind.i64 1), t26] (fun t27 w =>
    bin Try.prog BinOp.gtr 34 false true over0 (Value.int IntKind.i8 0) (fun t29 w =>
    (leatlaw04_DiskFull_A1 K) (over0 :: first1 :: undef :: undef :: (Value.bool false) :: t12 :: t15 :: t16 :: t20 :: t27 :: over0 :: t11 :: t12 :: first1 :: t14 :: t15 :: t16 :: t16 :: t15 :: t19 :: t20 :: t16 :: t12 :: t15 :: t24 :: t25 :: t26 :: t27 :: over0 :: t29 :: undef :: undef :: undef :: undef :: undef :: undef :: undef :: undef :: undef :: undef :: undef :: undef :: undef :: undef :: undef :: undef :: undef :: undef :: undef :: undef :: undef :: undef :: undef :: undef :: undef :: undef :: undef :: undef :: []) w) w) w) w) w) w) w) w) w) w) w) w) w)))
theorem leatlaw04_DiskFull_go : isGo Try.prog 4 := ⟨_, Try.func4, by kernel_rfl, by kernel_rfl⟩

theorem leatlaw04_DiskFull_A1_k {K : KV} (q0 : KE) {over0 first1 over2 first3 t4 n5 k_6 d7 a8 b9 t10 t11 t12 t13 t14 t15 t16 t17 t18 t19 t20 t21 t22 t23 t24 t25 t26 t27 t28 t29 t30 t31 t32 t33 t34 t35 t36 t37 t38 t39 t40 t41 t42 t43 t44 t45 t46 t47 t48 t49 t50 t51 t52 t53 t54 t55 t56 t57 : Value} {w : World}
    (h : cond t29
      (bin Try.prog BinOp.eql 27 false true a8 (Value.int IntKind.i64 0) (fun t31 w =>
      gsel t31 true (fun k33 =>
      bin Try.prog BinOp.eql 27 false true b9 (Value.int IntKind.i64 7) (fun t34 w =>
      k33 [b9, t34] w) w)
      (fun k => k [undef, undef] w) (fun us33 w =>
      pick t31 (gd us33 1) (Value.bool false) (fun t35 w =>
      gsel t35 true (fun k37 =>
      call Try.prog 17 #[d7] (fun t38 w =>
      bin Try.prog BinOp.eql 3 false true t38 (Value.int IntKind.i64 1) (fun t39 w =>
      k37 [d7, t38, t39] w) w) w)
      (fun k => k [undef, undef, undef] w) (fun us37 w =>
      pick t35 (gd us37 2) (Value.bool false) (fun t40 w =>
      gsel t40 true (fun k42 =>
      call Try.prog 9 #[] (fun t42 w =>
      k42 [t42] w) w)
      (fun k => k [undef] w) (fun us42 w =>
      pick t40 (gd us42 0) (Value.bool false) (fun t43 w =>
      K t43 w) w)) w)) w)) w)
      (q0 (over0 :: first1 :: over2 :: first3 :: t4 :: n5 :: k_6 :: d7 :: a8 :: b9 :: t10 :: t11 :: t12 :: t13 :: t14 :: t15 :: t16 :: t17 :: t18 :: t19 :: t20 :: t21 :: t22 :: t23 :: t24 :: t25 :: t26 :: t27 :: t28 :: t29 :: t30 :: t31 :: t32 :: t33 :: t34 :: t35 :: t36 :: t37 :: t38 :: t39 :: t40 :: t41 :: t42 :: t43 :: t44 :: t45 :: t46 :: t47 :: t48 :: t49 :: t50 :: t51 :: t52 :: t53 :: t54 :: t55 :: t56 :: t57 :: []) w)) :
    cCode Try.prog (cd Try.f4 [1, 1, 1, 1, 1, 1, 0, 1]) q0 (fun _ _ _ => False) (retK Try.prog Try.f4.results.toList K) (over0 :: first1 :: over2 :: first3 :: t4 :: n5 :: k_6 :: d7 :: a8 :: b9 :: t10 :: t11 :: t12 :: t13 :: t14 :: t15 :: t16 :: t17 :: t18 :: t19 :: t20 :: t21 :: t22 :: t23 :: t24 :: t25 :: t26 :: t27 :: t28 :: t29 :: t30 :: t31 :: t32 :: t33 :: t34 :: t35 :: t36 :: t37 :: t38 :: t39 :: t40 :: t41 :: t42 :: t43 :: t44 :: t45 :: t46 :: t47 :: t48 :: t49 :: t50 :: t51 :: t52 :: t53 :: t54 :: t55 :: t56 :: t57 :: []) w := Eq.mp (by kernel_rfl) h

theorem leatlaw04_DiskFull_A1_r {K : KV} {over0 first1 over2 first3 t4 n5 k_6 d7 a8 b9 t10 t11 t12 t13 t14 t15 t16 t17 t18 t19 t20 t21 t22 t23 t24 t25 t26 t27 t28 t29 t30 t31 t32 t33 t34 t35 t36 t37 t38 t39 t40 t41 t42 t43 t44 t45 t46 t47 t48 t49 t50 t51 t52 t53 t54 t55 t56 t57 : Value} {w : World}
    (h : cond t29
      (bin Try.prog BinOp.eql 27 false true a8 (Value.int IntKind.i64 0) (fun t31 w =>
      gsel t31 true (fun k33 =>
      bin Try.prog BinOp.eql 27 false true b9 (Value.int IntKind.i64 7) (fun t34 w =>
      k33 [b9, t34] w) w)
      (fun k => k [undef, undef] w) (fun us33 w =>
      pick t31 (gd us33 1) (Value.bool false) (fun t35 w =>
      gsel t35 true (fun k37 =>
      call Try.prog 17 #[d7] (fun t38 w =>
      bin Try.prog BinOp.eql 3 false true t38 (Value.int IntKind.i64 1) (fun t39 w =>
      k37 [d7, t38, t39] w) w) w)
      (fun k => k [undef, undef, undef] w) (fun us37 w =>
      pick t35 (gd us37 2) (Value.bool false) (fun t40 w =>
      gsel t40 true (fun k42 =>
      call Try.prog 9 #[] (fun t42 w =>
      k42 [t42] w) w)
      (fun k => k [undef] w) (fun us42 w =>
      pick t40 (gd us42 0) (Value.bool false) (fun t43 w =>
      K t43 w) w)) w)) w)) w)
      ((leatlaw04_DiskFull_P1 K) (over0 :: first1 :: over2 :: first3 :: t4 :: n5 :: k_6 :: d7 :: a8 :: b9 :: t10 :: t11 :: t12 :: t13 :: t14 :: t15 :: t16 :: t17 :: t18 :: t19 :: t20 :: t21 :: t22 :: t23 :: t24 :: t25 :: t26 :: t27 :: t28 :: t29 :: t30 :: t31 :: t32 :: t33 :: t34 :: t35 :: t36 :: t37 :: t38 :: t39 :: t40 :: t41 :: t42 :: t43 :: t44 :: t45 :: t46 :: t47 :: t48 :: t49 :: t50 :: t51 :: t52 :: t53 :: t54 :: t55 :: t56 :: t57 :: []) w)) :
    leatlaw04_DiskFull_A1 K (over0 :: first1 :: over2 :: first3 :: t4 :: n5 :: k_6 :: d7 :: a8 :: b9 :: t10 :: t11 :: t12 :: t13 :: t14 :: t15 :: t16 :: t17 :: t18 :: t19 :: t20 :: t21 :: t22 :: t23 :: t24 :: t25 :: t26 :: t27 :: t28 :: t29 :: t30 :: t31 :: t32 :: t33 :: t34 :: t35 :: t36 :: t37 :: t38 :: t39 :: t40 :: t41 :: t42 :: t43 :: t44 :: t45 :: t46 :: t47 :: t48 :: t49 :: t50 :: t51 :: t52 :: t53 :: t54 :: t55 :: t56 :: t57 :: []) w := by
  delta leatlaw04_DiskFull_A1
  exact Eq.mp (congrArg (fun c => cCode Try.prog c (leatlaw04_DiskFull_P1 K) (fun _ _ _ => False) (retK Try.prog Try.f4.results.toList K) (over0 :: first1 :: over2 :: first3 :: t4 :: n5 :: k_6 :: d7 :: a8 :: b9 :: t10 :: t11 :: t12 :: t13 :: t14 :: t15 :: t16 :: t17 :: t18 :: t19 :: t20 :: t21 :: t22 :: t23 :: t24 :: t25 :: t26 :: t27 :: t28 :: t29 :: t30 :: t31 :: t32 :: t33 :: t34 :: t35 :: t36 :: t37 :: t38 :: t39 :: t40 :: t41 :: t42 :: t43 :: t44 :: t45 :: t46 :: t47 :: t48 :: t49 :: t50 :: t51 :: t52 :: t53 :: t54 :: t55 :: t56 :: t57 :: []) w) (by kernel_rfl : (cd Try.f4 [1, 1, 1, 1, 1, 1, 0, 1]) = (cd Try.f4 [1, 1, 1, 1, 1, 1, 0, 1]))) (leatlaw04_DiskFull_A1_k (leatlaw04_DiskFull_P1 K) h)

theorem leatlaw04_DiskFull_P1_k {K : KV} {over0 first1 over2 first3 t4 n5 k_6 d7 a8 b9 t10 t11 t12 t13 t14 t15 t16 t17 t18 t19 t20 t21 t22 t23 t24 t25 t26 t27 t28 t29 t30 t31 t32 t33 t34 t35 t36 t37 t38 t39 t40 t41 t42 t43 t44 t45 t46 t47 t48 t49 t50 t51 t52 t53 t54 t55 t56 t57 : Value} {w : World}
    (h : bin Try.prog BinOp.eql 27 false true a8 (Value.int IntKind.i64 0) (fun t45 w =>
    gsel t45 true (fun k47 =>
    bin Try.prog BinOp.eql 27 false true b9 (Value.int IntKind.i64 0) (fun t48 w =>
    k47 [b9, t48] w) w)
    (fun k => k [undef, undef] w) (fun us47 w =>
    pick t45 (gd us47 1) (Value.bool false) (fun t49 w =>
    gsel t49 true (fun k51 =>
    call Try.prog 17 #[d7] (fun t52 w =>
    bin Try.prog BinOp.eql 3 false true t52 (Value.int IntKind.i64 2) (fun t53 w =>
    k51 [d7, t52, t53] w) w) w)
    (fun k => k [undef, undef, undef] w) (fun us51 w =>
    pick t49 (gd us51 2) (Value.bool false) (fun t54 w =>
    gsel t54 true (fun k56 =>
    call Try.prog 9 #[] (fun t56 w =>
    k56 [t56] w) w)
    (fun k => k [undef] w) (fun us56 w =>
    pick t54 (gd us56 0) (Value.bool false) (fun t57 w =>
    K t57 w) w)) w)) w)) w) :
    cCode Try.prog (cd Try.f4 [1, 1, 1, 1, 1, 1, 1]) (retK Try.prog Try.f4.results.toList K) (fun _ _ _ => False) (retK Try.prog Try.f4.results.toList K) (over0 :: first1 :: over2 :: first3 :: t4 :: n5 :: k_6 :: d7 :: a8 :: b9 :: t10 :: t11 :: t12 :: t13 :: t14 :: t15 :: t16 :: t17 :: t18 :: t19 :: t20 :: t21 :: t22 :: t23 :: t24 :: t25 :: t26 :: t27 :: t28 :: t29 :: t30 :: t31 :: t32 :: t33 :: t34 :: t35 :: t36 :: t37 :: t38 :: t39 :: t40 :: t41 :: t42 :: t43 :: t44 :: t45 :: t46 :: t47 :: t48 :: t49 :: t50 :: t51 :: t52 :: t53 :: t54 :: t55 :: t56 :: t57 :: []) w := Eq.mp (by kernel_rfl) h

theorem leatlaw04_DiskFull_P1_r {K : KV} {over0 first1 over2 first3 t4 n5 k_6 d7 a8 b9 t10 t11 t12 t13 t14 t15 t16 t17 t18 t19 t20 t21 t22 t23 t24 t25 t26 t27 t28 t29 t30 t31 t32 t33 t34 t35 t36 t37 t38 t39 t40 t41 t42 t43 t44 t45 t46 t47 t48 t49 t50 t51 t52 t53 t54 t55 t56 t57 : Value} {w : World}
    (h : bin Try.prog BinOp.eql 27 false true a8 (Value.int IntKind.i64 0) (fun t45 w =>
    gsel t45 true (fun k47 =>
    bin Try.prog BinOp.eql 27 false true b9 (Value.int IntKind.i64 0) (fun t48 w =>
    k47 [b9, t48] w) w)
    (fun k => k [undef, undef] w) (fun us47 w =>
    pick t45 (gd us47 1) (Value.bool false) (fun t49 w =>
    gsel t49 true (fun k51 =>
    call Try.prog 17 #[d7] (fun t52 w =>
    bin Try.prog BinOp.eql 3 false true t52 (Value.int IntKind.i64 2) (fun t53 w =>
    k51 [d7, t52, t53] w) w) w)
    (fun k => k [undef, undef, undef] w) (fun us51 w =>
    pick t49 (gd us51 2) (Value.bool false) (fun t54 w =>
    gsel t54 true (fun k56 =>
    call Try.prog 9 #[] (fun t56 w =>
    k56 [t56] w) w)
    (fun k => k [undef] w) (fun us56 w =>
    pick t54 (gd us56 0) (Value.bool false) (fun t57 w =>
    K t57 w) w)) w)) w)) w) :
    leatlaw04_DiskFull_P1 K (over0 :: first1 :: over2 :: first3 :: t4 :: n5 :: k_6 :: d7 :: a8 :: b9 :: t10 :: t11 :: t12 :: t13 :: t14 :: t15 :: t16 :: t17 :: t18 :: t19 :: t20 :: t21 :: t22 :: t23 :: t24 :: t25 :: t26 :: t27 :: t28 :: t29 :: t30 :: t31 :: t32 :: t33 :: t34 :: t35 :: t36 :: t37 :: t38 :: t39 :: t40 :: t41 :: t42 :: t43 :: t44 :: t45 :: t46 :: t47 :: t48 :: t49 :: t50 :: t51 :: t52 :: t53 :: t54 :: t55 :: t56 :: t57 :: []) w := by
  delta leatlaw04_DiskFull_P1
  exact Eq.mp (congrArg (fun c => cCode Try.prog c (retK Try.prog Try.f4.results.toList K) (fun _ _ _ => False) (retK Try.prog Try.f4.results.toList K) (over0 :: first1 :: over2 :: first3 :: t4 :: n5 :: k_6 :: d7 :: a8 :: b9 :: t10 :: t11 :: t12 :: t13 :: t14 :: t15 :: t16 :: t17 :: t18 :: t19 :: t20 :: t21 :: t22 :: t23 :: t24 :: t25 :: t26 :: t27 :: t28 :: t29 :: t30 :: t31 :: t32 :: t33 :: t34 :: t35 :: t36 :: t37 :: t38 :: t39 :: t40 :: t41 :: t42 :: t43 :: t44 :: t45 :: t46 :: t47 :: t48 :: t49 :: t50 :: t51 :: t52 :: t53 :: t54 :: t55 :: t56 :: t57 :: []) w) (by kernel_rfl : (cd Try.f4 [1, 1, 1, 1, 1, 1, 1]) = (cd Try.f4 [1, 1, 1, 1, 1, 1, 1]))) (leatlaw04_DiskFull_P1_k h)
attribute [irreducible] leatlaw04_DiskFull_P1 leatlaw04_DiskFull_A1

end Go.Proofs.Ythmgiggmnbdnjaa
