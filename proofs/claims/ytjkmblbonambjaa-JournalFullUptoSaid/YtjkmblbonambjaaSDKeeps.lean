/- Written by program (gen.py): what the code of some functions asks, part by part; each text is checked by the kernel against the translation. -/
import Derived.Test.YtjkmblbonambjaaSh
import Derived.Test.YtjkmblbonambjaaChecked
namespace Go.Proofs.Ytjkmblbonambjaa
open Go.RowKit
set_option maxRecDepth 100000

def leatlaw04_Few_P1 (K : KV) : KE := cCode Try.prog (cd Try.f9 [1, 1, 1, 1]) (retK Try.prog Try.f9.results.toList K) (fun _ _ _ => False) (retK Try.prog Try.f9.results.toList K)
def leatlaw04_Few_L1 (K : KV) : KE := cCode Try.prog (cd Try.f9 [1, 1, 1, 0, 1, 0]) (leatlaw04_Few_P1 K) (fun i => @Bool.rec (fun _ => KE) ((fun _ _ _ => False) i) (leatlaw04_Few_P1 K) (Nat.beq i 0)) (retK Try.prog Try.f9.results.toList K)
theorem leatlaw04_Few_k {K : KV} {l0 : Value} {w : World}
    (h : blt Try.prog Builtin.len #[22] 3 #[false] #[l0] (fun t6 w =>
    bin Try.prog BinOp.gtr 3 false true t6 (Value.int IntKind.i64 60) (fun t7 w =>
    cond t7
      (K (Value.bool false) w)
      ((cCode Try.prog (cd Try.f9 [1, 1, 1, 0, 1, 0]) (cCode Try.prog (cd Try.f9 [1, 1, 1, 1]) (retK Try.prog Try.f9.results.toList K) (fun _ _ _ => False) (retK Try.prog Try.f9.results.toList K)) (fun i => @Bool.rec (fun _ => KE) ((fun _ _ _ => False) i) (cCode Try.prog (cd Try.f9 [1, 1, 1, 1]) (retK Try.prog Try.f9.results.toList K) (fun _ _ _ => False) (retK Try.prog Try.f9.results.toList K)) (Nat.beq i 0)) (retK Try.prog Try.f9.results.toList K)) [l0, undef, (Value.bool false), (Value.int IntKind.i64 0), (Value.int IntKind.i64 0), l0, t6, t7, undef, undef, undef, undef, undef, undef, undef, undef, undef, undef, undef, undef, undef, undef, undef, undef, undef, undef, undef, undef, undef, undef, undef] w)) w) w) :
    cCode Try.prog (cd Try.f9 []) (retK Try.prog Try.f9.results.toList K) (fun _ _ _ => False) (retK Try.prog Try.f9.results.toList K) [l0, undef, undef, undef, undef, undef, undef, undef, undef, undef, undef, undef, undef, undef, undef, undef, undef, undef, undef, undef, undef, undef, undef, undef, undef, undef, undef, undef, undef, undef, undef] w := Eq.mp (by kernel_rfl) h

theorem leatlaw04_Few_in {K : KV} {l0 : Value} {w : World}
    (h : blt Try.prog Builtin.len #[22] 3 #[false] #[l0] (fun t6 w =>
    bin Try.prog BinOp.gtr 3 false true t6 (Value.int IntKind.i64 60) (fun t7 w =>
    cond t7
      (K (Value.bool false) w)
      ((leatlaw04_Few_L1 K) [l0, undef, (Value.bool false), (Value.int IntKind.i64 0), (Value.int IntKind.i64 0), l0, t6, t7, undef, undef, undef, undef, undef, undef, undef, undef, undef, undef, undef, undef, undef, undef, undef, undef, undef, undef, undef, undef, undef, undef, undef] w)) w) w) :
    Gives Try.prog 9 #[l0] w K := enter' Try.func9 (by kernel_rfl) (Eq.mp (congrArg (fun c => cCode Try.prog c (retK Try.prog Try.f9.results.toList K) (fun _ _ _ => False) (retK Try.prog Try.f9.results.toList K) [l0, undef, undef, undef, undef, undef, undef, undef, undef, undef, undef, undef, undef, undef, undef, undef, undef, undef, undef, undef, undef, undef, undef, undef, undef, undef, undef, undef, undef, undef, undef] w) (by kernel_rfl : (cd Try.f9 []) = (cd Try.f9 []))) (leatlaw04_Few_k h))
theorem leatlaw04_Few_go : isGo Try.prog 9 := ⟨_, Try.func9, by kernel_rfl, by kernel_rfl⟩

theorem leatlaw04_Few_L1_k {K : KV} (B1 : KE) (q0 : KE) {l0 l1 t2 n3' i4' t5 t6 t7 t29 t30 : Value} {dd : Nat → Value} {w : World}
    (h : blt Try.prog Builtin.len #[22] 3 #[false] #[l0] (fun t10 w =>
    bin Try.prog BinOp.lss 3 false false i4' t10 (fun t11 w =>
    cond t11
      ((fun w =>
    sti (fun k w => idxA Try.prog 22 l0 i4' k w) (fun t17 w =>
    sti (fun k w => fldA Try.prog 32 t17 3 k w) (fun t18 w =>
    sti (fun k w => ld Try.prog 29 t18 k w) (fun t19 w =>
    sti (fun k w => blt Try.prog Builtin.len #[29] 3 #[false] #[t19] k w) (fun t20 w =>
    sti (fun k w => bin Try.prog BinOp.add 3 false false n3' t20 k w) (fun t21 w =>
    sti (fun k w => idxA Try.prog 22 l0 i4' k w) (fun t24 w =>
    sti (fun k w => fldA Try.prog 32 t24 4 k w) (fun t25 w =>
    sti (fun k w => ld Try.prog 30 t25 k w) (fun t26 w =>
    sti (fun k w => blt Try.prog Builtin.len #[30] 3 #[false] #[t26] k w) (fun t27 w =>
    sti (fun k w => bin Try.prog BinOp.add 3 false false t21 t27 k w) (fun t28 w =>
    bin Try.prog BinOp.add 3 false true i4' (Value.int IntKind.i64 1) (fun t13 w =>
    B1 [l0, l1, t2, t28, t13, t5, t6, t7, i4', l0, t10, t11, i4', t13, n3', l0, i4', t17, t18, t19, t20, t21, l0, i4', t24, t25, t26, t27, t28, t29, t30] w) w) w) w) w) w) w) w) w) w) w) w) w.drew)
      (q0 [l0, l1, t2, n3', i4', t5, t6, t7, i4', l0, t10, t11, (dd 12), (dd 13), (dd 14), (dd 15), (dd 16), (dd 17), (dd 18), (dd 19), (dd 20), (dd 21), (dd 22), (dd 23), (dd 24), (dd 25), (dd 26), (dd 27), (dd 28), t29, t30] w)) w) w) :
    cCode Try.prog (cd Try.f9 [1, 1, 1, 0, 1, 0, 0]) B1 (fun i => @Bool.rec (fun _ => KE) ((fun _ _ _ => False) i) q0 (Nat.beq i 0)) (retK Try.prog Try.f9.results.toList K) [l0, l1, t2, n3', i4', t5, t6, t7, (dd 8), (dd 9), (dd 10), (dd 11), (dd 12), (dd 13), (dd 14), (dd 15), (dd 16), (dd 17), (dd 18), (dd 19), (dd 20), (dd 21), (dd 22), (dd 23), (dd 24), (dd 25), (dd 26), (dd 27), (dd 28), t29, t30] w := Eq.mp (by kernel_rfl) h

theorem leatlaw04_Few_L1_r {K : KV} {l0 l1 t2 n3 i4 t5 t6 t7 t8 t9 t10 t11 t12 t13 t14 t15 t16 t17 t18 t19 t20 t21 t22 t23 t24 t25 t26 t27 t28 t29 t30 : Value} {w : World} (Inv : Value → Value → World → Prop) (μ : Value → Value → World → Nat) (h0 : Inv n3 i4 w)
    (hs : ∀ (n3' i4' : Value) (dd : Nat → Value) (w : World) (m : Nat), Inv n3' i4' w → m = μ n3' i4' w →
    blt Try.prog Builtin.len #[22] 3 #[false] #[l0] (fun t10 w =>
    bin Try.prog BinOp.lss 3 false false i4' t10 (fun t11 w =>
    cond t11
      ((fun w =>
    sti (fun k w => idxA Try.prog 22 l0 i4' k w) (fun t17 w =>
    sti (fun k w => fldA Try.prog 32 t17 3 k w) (fun t18 w =>
    sti (fun k w => ld Try.prog 29 t18 k w) (fun t19 w =>
    sti (fun k w => blt Try.prog Builtin.len #[29] 3 #[false] #[t19] k w) (fun t20 w =>
    sti (fun k w => bin Try.prog BinOp.add 3 false false n3' t20 k w) (fun t21 w =>
    sti (fun k w => idxA Try.prog 22 l0 i4' k w) (fun t24 w =>
    sti (fun k w => fldA Try.prog 32 t24 4 k w) (fun t25 w =>
    sti (fun k w => ld Try.prog 30 t25 k w) (fun t26 w =>
    sti (fun k w => blt Try.prog Builtin.len #[30] 3 #[false] #[t26] k w) (fun t27 w =>
    sti (fun k w => bin Try.prog BinOp.add 3 false false t21 t27 k w) (fun t28 w =>
    bin Try.prog BinOp.add 3 false true i4' (Value.int IntKind.i64 1) (fun t13 w =>
    (Inv t28 t13 w ∧ μ t28 t13 w < m)) w) w) w) w) w) w) w) w) w) w) w) w.drew)
      ((leatlaw04_Few_P1 K) [l0, l1, t2, n3', i4', t5, t6, t7, i4', l0, t10, t11, (dd 12), (dd 13), (dd 14), (dd 15), (dd 16), (dd 17), (dd 18), (dd 19), (dd 20), (dd 21), (dd 22), (dd 23), (dd 24), (dd 25), (dd 26), (dd 27), (dd 28), t29, t30] w)) w) w) :
    leatlaw04_Few_L1 K [l0, l1, t2, n3, i4, t5, t6, t7, t8, t9, t10, t11, t12, t13, t14, t15, t16, t17, t18, t19, t20, t21, t22, t23, t24, t25, t26, t27, t28, t29, t30] w := by
  refine loop_rule (cd Try.f9 [1, 1, 1, 0, 1, 0, 0]) [3, 4, 8, 9, 10, 11, 12, 13, 14, 15, 16, 17, 18, 19, 20, 21, 22, 23, 24, 25, 26, 27, 28] (by kernel_rfl) (fun e2 w2 => Inv (gd e2 3) (gd e2 4) w2) (fun e2 w2 => μ (gd e2 3) (gd e2 4) w2) h0 ?_
  intro e' w' hI
  have h := hs (gd e' 3) (gd e' 4) (fun i => gd e' i) w' _ hI rfl
  have h2 : cCode Try.prog (cd Try.f9 [1, 1, 1, 0, 1, 0, 0]) (fun e2 w2 => Inv (gd e2 3) (gd e2 4) w2 ∧ μ (gd e2 3) (gd e2 4) w2 < μ (gd e' 3) (gd e' 4) w') (fun i => @Bool.rec (fun _ => KE) ((fun _ _ _ => False) i) (leatlaw04_Few_P1 K) (Nat.beq i 0)) (retK Try.prog Try.f9.results.toList K) [l0, l1, t2, (gd e' 3), (gd e' 4), t5, t6, t7, (gd e' 8), (gd e' 9), (gd e' 10), (gd e' 11), (gd e' 12), (gd e' 13), (gd e' 14), (gd e' 15), (gd e' 16), (gd e' 17), (gd e' 18), (gd e' 19), (gd e' 20), (gd e' 21), (gd e' 22), (gd e' 23), (gd e' 24), (gd e' 25), (gd e' 26), (gd e' 27), (gd e' 28), t29, t30] w' := leatlaw04_Few_L1_k (fun e2 w2 => Inv (gd e2 3) (gd e2 4) w2 ∧ μ (gd e2 3) (gd e2 4) w2 < μ (gd e' 3) (gd e' 4) w') (leatlaw04_Few_P1 K) (Eq.mp (by kernel_rfl) h)
  exact Eq.mp (by kernel_rfl) h2

theorem leatlaw04_Few_P1_k {K : KV} {l0 l1 t2 n3 i4 t5 t6 t7 t8 t9 t10 t11 t12 t13 t14 t15 t16 t17 t18 t19 t20 t21 t22 t23 t24 t25 t26 t27 t28 t29 t30 : Value} {w : World}
    (h : bin Try.prog BinOp.leq 3 false true n3 (Value.int IntKind.i64 8192) (fun t30 w =>
    K t30 w) w) :
    cCode Try.prog (cd Try.f9 [1, 1, 1, 1]) (retK Try.prog Try.f9.results.toList K) (fun _ _ _ => False) (retK Try.prog Try.f9.results.toList K) [l0, l1, t2, n3, i4, t5, t6, t7, t8, t9, t10, t11, t12, t13, t14, t15, t16, t17, t18, t19, t20, t21, t22, t23, t24, t25, t26, t27, t28, t29, t30] w := Eq.mp (by kernel_rfl) h

theorem leatlaw04_Few_P1_r {K : KV} {l0 l1 t2 n3 i4 t5 t6 t7 t8 t9 t10 t11 t12 t13 t14 t15 t16 t17 t18 t19 t20 t21 t22 t23 t24 t25 t26 t27 t28 t29 t30 : Value} {w : World}
    (h : bin Try.prog BinOp.leq 3 false true n3 (Value.int IntKind.i64 8192) (fun t30 w =>
    K t30 w) w) :
    leatlaw04_Few_P1 K [l0, l1, t2, n3, i4, t5, t6, t7, t8, t9, t10, t11, t12, t13, t14, t15, t16, t17, t18, t19, t20, t21, t22, t23, t24, t25, t26, t27, t28, t29, t30] w := by
  delta leatlaw04_Few_P1
  exact Eq.mp (congrArg (fun c => cCode Try.prog c (retK Try.prog Try.f9.results.toList K) (fun _ _ _ => False) (retK Try.prog Try.f9.results.toList K) [l0, l1, t2, n3, i4, t5, t6, t7, t8, t9, t10, t11, t12, t13, t14, t15, t16, t17, t18, t19, t20, t21, t22, t23, t24, t25, t26, t27, t28, t29, t30] w) (by kernel_rfl : (cd Try.f9 [1, 1, 1, 1]) = (cd Try.f9 [1, 1, 1, 1]))) (leatlaw04_Few_P1_k h)
attribute [irreducible] leatlaw04_Few_P1 leatlaw04_Few_L1

def leatlaw04_does_P1 (K : KV) : KE := cCode Try.prog (cd Try.f13 [1, 1]) (retK Try.prog Try.f13.results.toList K) (fun _ _ _ => False) (retK Try.prog Try.f13.results.toList K)
def leatlaw04_does_A1 (K : KV) : KE := cCode Try.prog (cd Try.f13 [1, 0, 1]) (leatlaw04_does_P1 K) (fun _ _ _ => False) (retK Try.prog Try.f13.results.toList K)
def leatlaw04_does_A2 (K : KV) : KE := cCode Try.prog (cd Try.f13 [1, 0, 1, 0, 1, 1, 1, 1, 1, 1, 1]) (leatlaw04_does_P1 K) (fun i => @Bool.rec (fun _ => KE) ((fun _ _ _ => False) i) (leatlaw04_does_P1 K) (Nat.beq i 0)) (retK Try.prog Try.f13.results.toList K)
theorem leatlaw04_does_k {K : KV} (x0 : Code) {d0 x1 : Value} {w : World}
    (h : box Try.prog 32 x1 (fun x3 w =>
    fldA Try.prog 32 x3 0 (fun t5 w =>
    ld Try.prog 3 t5 (fun t6 w =>
    (cCode Try.prog x0 (cCode Try.prog (cd Try.f13 [1, 1]) (retK Try.prog Try.f13.results.toList K) (fun _ _ _ => False) (retK Try.prog Try.f13.results.toList K)) (fun _ _ _ => False) (retK Try.prog Try.f13.results.toList K)) [d0, x1, undef, x3, (Value.int IntKind.i64 0), t5, t6, undef, undef, undef, undef, undef, undef, undef, undef, undef, undef, undef, undef, undef, undef, undef, undef, undef, undef, undef, undef, undef, undef, undef, undef, undef, undef, undef, undef, undef, undef, undef, undef, undef, undef, undef, undef, undef, undef, undef, undef] w) w) w) w) :
    cCode Try.prog (rep [1, 0, 1] x0 (cd Try.f13 [])) (retK Try.prog Try.f13.results.toList K) (fun _ _ _ => False) (retK Try.prog Try.f13.results.toList K) [d0, x1, undef, undef, undef, undef, undef, undef, undef, undef, undef, undef, undef, undef, undef, undef, undef, undef, undef, undef, undef, undef, undef, undef, undef, undef, undef, undef, undef, undef, undef, undef, undef, undef, undef, undef, undef, undef, undef, undef, undef, undef, undef, undef, undef, undef, undef] w := Eq.mp (by kernel_rfl) h

theorem leatlaw04_does_in {K : KV} {d0 x1 : Value} {w : World}
    (h : box Try.prog 32 x1 (fun x3 w =>
    fldA Try.prog 32 x3 0 (fun t5 w =>
    ld Try.prog 3 t5 (fun t6 w =>
    (leatlaw04_does_A1 K) [d0, x1, undef, x3, (Value.int IntKind.i64 0), t5, t6, undef, undef, undef, undef, undef, undef, undef, undef, undef, undef, undef, undef, undef, undef, undef, undef, undef, undef, undef, undef, undef, undef, undef, undef, undef, undef, undef, undef, undef, undef, undef, undef, undef, undef, undef, undef, undef, undef, undef, undef] w) w) w) w) :
    Gives Try.prog 13 #[d0, x1] w K := enter' Try.func13 (by kernel_rfl) (Eq.mp (congrArg (fun c => cCode Try.prog c (retK Try.prog Try.f13.results.toList K) (fun _ _ _ => False) (retK Try.prog Try.f13.results.toList K) [d0, x1, undef, undef, undef, undef, undef, undef, undef, undef, undef, undef, undef, undef, undef, undef, undef, undef, undef, undef, undef, undef, undef, undef, undef, undef, undef, undef, undef, undef, undef, undef, undef, undef, undef, undef, undef, undef, undef, undef, undef, undef, undef, undef, undef, undef, undef] w) (by kernel_rfl : (rep [1, 0, 1] (cd Try.f13 [1, 0, 1]) (cd Try.f13 [])) = (cd Try.f13 []))) (leatlaw04_does_k (cd Try.f13 [1, 0, 1]) h))
theorem leatlaw04_does_go : isGo Try.prog 13 := ⟨_, Try.func13, by kernel_rfl, by kernel_rfl⟩

theorem leatlaw04_does_A1_k {K : KV} (q0 : KE) (x0 : Code) {d0 x1 d2 x3 t4 t5 t6 t7 t8 t9 t10 t11 t12 t13 t14 t15 t16 t17 t18 t19 t20 t21 t22 t23 t24 t25 t26 t27 t28 t29 t30 t31 t32 t33 t34 t35 t36 t37 t38 t39 t40 t41 t42 t43 t44 t45 t46 : Value} {w : World}
    (h : bin Try.prog BinOp.eql 3 false true t6 (Value.int IntKind.i64 1) (fun t8 w =>
    cond t8
      (fldA Try.prog 32 x3 1 (fun t10 w =>
      ld Try.prog 3 t10 (fun t11 w =>
      fldA Try.prog 32 x3 3 (fun t12 w =>
      ld Try.prog 29 t12 (fun t13 w =>
      call Try.prog 32 #[d0, t11, t13] (fun t14 w =>
      K t14 w) w) w) w) w) w)
      (bin Try.prog BinOp.eql 3 false true t6 (Value.int IntKind.i64 2) (fun t16 w =>
      cond t16
        (fldA Try.prog 32 x3 1 (fun t18 w =>
        ld Try.prog 3 t18 (fun t19 w =>
        fldA Try.prog 32 x3 2 (fun t20 w =>
        ld Try.prog 3 t20 (fun t21 w =>
        call Try.prog 35 #[d0, t19, t21] (fun t22 w =>
        K t22 w) w) w) w) w) w)
        (bin Try.prog BinOp.eql 3 false true t6 (Value.int IntKind.i64 3) (fun t24 w =>
        cond t24
          (call Try.prog 34 #[d0] (fun t26 w =>
          K t26 w) w)
          (bin Try.prog BinOp.eql 3 false true t6 (Value.int IntKind.i64 4) (fun t28 w =>
          (cCode Try.prog x0 q0 (fun i => @Bool.rec (fun _ => KE) ((fun _ _ _ => False) i) q0 (Nat.beq i 0)) (retK Try.prog Try.f13.results.toList K)) [d0, x1, d2, x3, t4, t5, t6, t8, t8, t9, t10, t11, t12, t13, t14, t16, t16, t17, t18, t19, t20, t21, t22, t24, t24, t25, t26, t28, t28, t29, t30, t31, t32, t33, t34, t35, t36, t37, t38, t39, t40, t41, t42, t43, t44, t45, t46] w) w)) w)) w)) w) :
    cCode Try.prog (rep [0, 1, 1, 1, 1, 1, 1, 1] x0 (cd Try.f13 [1, 0, 1])) q0 (fun _ _ _ => False) (retK Try.prog Try.f13.results.toList K) [d0, x1, d2, x3, t4, t5, t6, t7, t8, t9, t10, t11, t12, t13, t14, t15, t16, t17, t18, t19, t20, t21, t22, t23, t24, t25, t26, t27, t28, t29, t30, t31, t32, t33, t34, t35, t36, t37, t38, t39, t40, t41, t42, t43, t44, t45, t46] w := Eq.mp (by kernel_rfl) h

theorem leatlaw04_does_A1_r {K : KV} {d0 x1 d2 x3 t4 t5 t6 t7 t8 t9 t10 t11 t12 t13 t14 t15 t16 t17 t18 t19 t20 t21 t22 t23 t24 t25 t26 t27 t28 t29 t30 t31 t32 t33 t34 t35 t36 t37 t38 t39 t40 t41 t42 t43 t44 t45 t46 : Value} {w : World}
    (h : bin Try.prog BinOp.eql 3 false true t6 (Value.int IntKind.i64 1) (fun t8 w =>
    cond t8
      (fldA Try.prog 32 x3 1 (fun t10 w =>
      ld Try.prog 3 t10 (fun t11 w =>
      fldA Try.prog 32 x3 3 (fun t12 w =>
      ld Try.prog 29 t12 (fun t13 w =>
      call Try.prog 32 #[d0, t11, t13] (fun t14 w =>
      K t14 w) w) w) w) w) w)
      (bin Try.prog BinOp.eql 3 false true t6 (Value.int IntKind.i64 2) (fun t16 w =>
      cond t16
        (fldA Try.prog 32 x3 1 (fun t18 w =>
        ld Try.prog 3 t18 (fun t19 w =>
        fldA Try.prog 32 x3 2 (fun t20 w =>
        ld Try.prog 3 t20 (fun t21 w =>
        call Try.prog 35 #[d0, t19, t21] (fun t22 w =>
        K t22 w) w) w) w) w) w)
        (bin Try.prog BinOp.eql 3 false true t6 (Value.int IntKind.i64 3) (fun t24 w =>
        cond t24
          (call Try.prog 34 #[d0] (fun t26 w =>
          K t26 w) w)
          (bin Try.prog BinOp.eql 3 false true t6 (Value.int IntKind.i64 4) (fun t28 w =>
          (leatlaw04_does_A2 K) [d0, x1, d2, x3, t4, t5, t6, t8, t8, t9, t10, t11, t12, t13, t14, t16, t16, t17, t18, t19, t20, t21, t22, t24, t24, t25, t26, t28, t28, t29, t30, t31, t32, t33, t34, t35, t36, t37, t38, t39, t40, t41, t42, t43, t44, t45, t46] w) w)) w)) w)) w) :
    leatlaw04_does_A1 K [d0, x1, d2, x3, t4, t5, t6, t7, t8, t9, t10, t11, t12, t13, t14, t15, t16, t17, t18, t19, t20, t21, t22, t23, t24, t25, t26, t27, t28, t29, t30, t31, t32, t33, t34, t35, t36, t37, t38, t39, t40, t41, t42, t43, t44, t45, t46] w := by
  delta leatlaw04_does_A1
  exact Eq.mp (congrArg (fun c => cCode Try.prog c (leatlaw04_does_P1 K) (fun _ _ _ => False) (retK Try.prog Try.f13.results.toList K) [d0, x1, d2, x3, t4, t5, t6, t7, t8, t9, t10, t11, t12, t13, t14, t15, t16, t17, t18, t19, t20, t21, t22, t23, t24, t25, t26, t27, t28, t29, t30, t31, t32, t33, t34, t35, t36, t37, t38, t39, t40, t41, t42, t43, t44, t45, t46] w) (by kernel_rfl : (rep [0, 1, 1, 1, 1, 1, 1, 1] (cd Try.f13 [1, 0, 1, 0, 1, 1, 1, 1, 1, 1, 1]) (cd Try.f13 [1, 0, 1])) = (cd Try.f13 [1, 0, 1]))) (leatlaw04_does_A1_k (leatlaw04_does_P1 K) (cd Try.f13 [1, 0, 1, 0, 1, 1, 1, 1, 1, 1, 1]) h)

theorem leatlaw04_does_A2_k {K : KV} (q0 : KE) {d0 x1 d2 x3 t4 t5 t6 t7 t8 t9 t10 t11 t12 t13 t14 t15 t16 t17 t18 t19 t20 t21 t22 t23 t24 t25 t26 t27 t28 t29 t30 t31 t32 t33 t34 t35 t36 t37 t38 t39 t40 t41 t42 t43 t44 t45 t46 : Value} {w : World}
    (h : cond t27
      (call Try.prog 33 #[d0] (fun t30 w =>
      K t30 w) w)
      (bin Try.prog BinOp.eql 3 false true t6 (Value.int IntKind.i64 5) (fun t32 w =>
      cond t32
        (fldA Try.prog 32 x3 2 (fun t34 w =>
        ld Try.prog 3 t34 (fun t35 w =>
        call Try.prog 22 #[d0, t35] (fun t36 w =>
        q0 [d0, x1, d2, x3, t4, t5, t6, t7, t8, t9, t10, t11, t12, t13, t14, t15, t16, t17, t18, t19, t20, t21, t22, t23, t24, t25, t26, t27, t28, t29, t30, t32, t32, d0, t34, t35, t36, t37, t38, t39, t40, t41, t42, t43, t44, t45, t46] w) w) w) w)
        (bin Try.prog BinOp.eql 3 false true t6 (Value.int IntKind.i64 6) (fun t38 w =>
        cond t38
          (call Try.prog 28 #[d0] (fun t40 w =>
          q0 [d0, x1, d2, x3, t4, t5, t6, t7, t8, t9, t10, t11, t12, t13, t14, t15, t16, t17, t18, t19, t20, t21, t22, t23, t24, t25, t26, t27, t28, t29, t30, t32, t32, t33, t34, t35, t36, t38, t38, d0, t40, t41, t42, t43, t44, t45, t46] w) w)
          (bin Try.prog BinOp.eql 3 false true t6 (Value.int IntKind.i64 7) (fun t42 w =>
          cond t42
            (fldA Try.prog 32 x3 4 (fun t44 w =>
            ld Try.prog 30 t44 (fun t45 w =>
            call Try.prog 25 #[d0, t45] (fun t46 w =>
            K t46 w) w) w) w)
            (q0 [d0, x1, d2, x3, t4, t5, t6, t7, t8, t9, t10, t11, t12, t13, t14, t15, t16, t17, t18, t19, t20, t21, t22, t23, t24, t25, t26, t27, t28, t29, t30, t32, t32, t33, t34, t35, t36, t38, t38, t39, t40, t42, t42, t43, t44, t45, t46] w)) w)) w)) w)) :
    cCode Try.prog (cd Try.f13 [1, 0, 1, 0, 1, 1, 1, 1, 1, 1, 1]) q0 (fun i => @Bool.rec (fun _ => KE) ((fun _ _ _ => False) i) q0 (Nat.beq i 0)) (retK Try.prog Try.f13.results.toList K) [d0, x1, d2, x3, t4, t5, t6, t7, t8, t9, t10, t11, t12, t13, t14, t15, t16, t17, t18, t19, t20, t21, t22, t23, t24, t25, t26, t27, t28, t29, t30, t31, t32, t33, t34, t35, t36, t37, t38, t39, t40, t41, t42, t43, t44, t45, t46] w := Eq.mp (by kernel_rfl) h

theorem leatlaw04_does_A2_r {K : KV} {d0 x1 d2 x3 t4 t5 t6 t7 t8 t9 t10 t11 t12 t13 t14 t15 t16 t17 t18 t19 t20 t21 t22 t23 t24 t25 t26 t27 t28 t29 t30 t31 t32 t33 t34 t35 t36 t37 t38 t39 t40 t41 t42 t43 t44 t45 t46 : Value} {w : World}
    (h : cond t27
      (call Try.prog 33 #[d0] (fun t30 w =>
      K t30 w) w)
      (bin Try.prog BinOp.eql 3 false true t6 (Value.int IntKind.i64 5) (fun t32 w =>
      cond t32
        (fldA Try.prog 32 x3 2 (fun t34 w =>
        ld Try.prog 3 t34 (fun t35 w =>
        call Try.prog 22 #[d0, t35] (fun t36 w =>
        (leatlaw04_does_P1 K) [d0, x1, d2, x3, t4, t5, t6, t7, t8, t9, t10, t11, t12, t13, t14, t15, t16, t17, t18, t19, t20, t21, t22, t23, t24, t25, t26, t27, t28, t29, t30, t32, t32, d0, t34, t35, t36, t37, t38, t39, t40, t41, t42, t43, t44, t45, t46] w) w) w) w)
        (bin Try.prog BinOp.eql 3 false true t6 (Value.int IntKind.i64 6) (fun t38 w =>
        cond t38
          (call Try.prog 28 #[d0] (fun t40 w =>
          (leatlaw04_does_P1 K) [d0, x1, d2, x3, t4, t5, t6, t7, t8, t9, t10, t11, t12, t13, t14, t15, t16, t17, t18, t19, t20, t21, t22, t23, t24, t25, t26, t27, t28, t29, t30, t32, t32, t33, t34, t35, t36, t38, t38, d0, t40, t41, t42, t43, t44, t45, t46] w) w)
          (bin Try.prog BinOp.eql 3 false true t6 (Value.int IntKind.i64 7) (fun t42 w =>
          cond t42
            (fldA Try.prog 32 x3 4 (fun t44 w =>
            ld Try.prog 30 t44 (fun t45 w =>
            call Try.prog 25 #[d0, t45] (fun t46 w =>
            K t46 w) w) w) w)
            ((leatlaw04_does_P1 K) [d0, x1, d2, x3, t4, t5, t6, t7, t8, t9, t10, t11, t12, t13, t14, t15, t16, t17, t18, t19, t20, t21, t22, t23, t24, t25, t26, t27, t28, t29, t30, t32, t32, t33, t34, t35, t36, t38, t38, t39, t40, t42, t42, t43, t44, t45, t46] w)) w)) w)) w)) :
    leatlaw04_does_A2 K [d0, x1, d2, x3, t4, t5, t6, t7, t8, t9, t10, t11, t12, t13, t14, t15, t16, t17, t18, t19, t20, t21, t22, t23, t24, t25, t26, t27, t28, t29, t30, t31, t32, t33, t34, t35, t36, t37, t38, t39, t40, t41, t42, t43, t44, t45, t46] w := by
  delta leatlaw04_does_A2
  exact Eq.mp (congrArg (fun c => cCode Try.prog c (leatlaw04_does_P1 K) (fun i => @Bool.rec (fun _ => KE) ((fun _ _ _ => False) i) (leatlaw04_does_P1 K) (Nat.beq i 0)) (retK Try.prog Try.f13.results.toList K) [d0, x1, d2, x3, t4, t5, t6, t7, t8, t9, t10, t11, t12, t13, t14, t15, t16, t17, t18, t19, t20, t21, t22, t23, t24, t25, t26, t27, t28, t29, t30, t31, t32, t33, t34, t35, t36, t37, t38, t39, t40, t41, t42, t43, t44, t45, t46] w) (by kernel_rfl : (cd Try.f13 [1, 0, 1, 0, 1, 1, 1, 1, 1, 1, 1]) = (cd Try.f13 [1, 0, 1, 0, 1, 1, 1, 1, 1, 1, 1]))) (leatlaw04_does_A2_k (leatlaw04_does_P1 K) h)

theorem leatlaw04_does_P1_k {K : KV} {d0 x1 d2 x3 t4 t5 t6 t7 t8 t9 t10 t11 t12 t13 t14 t15 t16 t17 t18 t19 t20 t21 t22 t23 t24 t25 t26 t27 t28 t29 t30 t31 t32 t33 t34 t35 t36 t37 t38 t39 t40 t41 t42 t43 t44 t45 t46 : Value} {w : World}
    (h : K (Value.int IntKind.i64 0) w) :
    cCode Try.prog (cd Try.f13 [1, 1]) (retK Try.prog Try.f13.results.toList K) (fun _ _ _ => False) (retK Try.prog Try.f13.results.toList K) [d0, x1, d2, x3, t4, t5, t6, t7, t8, t9, t10, t11, t12, t13, t14, t15, t16, t17, t18, t19, t20, t21, t22, t23, t24, t25, t26, t27, t28, t29, t30, t31, t32, t33, t34, t35, t36, t37, t38, t39, t40, t41, t42, t43, t44, t45, t46] w := Eq.mp (by kernel_rfl) h

theorem leatlaw04_does_P1_r {K : KV} {d0 x1 d2 x3 t4 t5 t6 t7 t8 t9 t10 t11 t12 t13 t14 t15 t16 t17 t18 t19 t20 t21 t22 t23 t24 t25 t26 t27 t28 t29 t30 t31 t32 t33 t34 t35 t36 t37 t38 t39 t40 t41 t42 t43 t44 t45 t46 : Value} {w : World}
    (h : K (Value.int IntKind.i64 0) w) :
    leatlaw04_does_P1 K [d0, x1, d2, x3, t4, t5, t6, t7, t8, t9, t10, t11, t12, t13, t14, t15, t16, t17, t18, t19, t20, t21, t22, t23, t24, t25, t26, t27, t28, t29, t30, t31, t32, t33, t34, t35, t36, t37, t38, t39, t40, t41, t42, t43, t44, t45, t46] w := by
  delta leatlaw04_does_P1
  exact Eq.mp (congrArg (fun c => cCode Try.prog c (retK Try.prog Try.f13.results.toList K) (fun _ _ _ => False) (retK Try.prog Try.f13.results.toList K) [d0, x1, d2, x3, t4, t5, t6, t7, t8, t9, t10, t11, t12, t13, t14, t15, t16, t17, t18, t19, t20, t21, t22, t23, t24, t25, t26, t27, t28, t29, t30, t31, t32, t33, t34, t35, t36, t37, t38, t39, t40, t41, t42, t43, t44, t45, t46] w) (by kernel_rfl : (cd Try.f13 [1, 1]) = (cd Try.f13 [1, 1]))) (leatlaw04_does_P1_k h)
attribute [irreducible] leatlaw04_does_P1 leatlaw04_does_A1 leatlaw04_does_A2

end Go.Proofs.Ytjkmblbonambjaa
