/- Written by program (gen.py): what the code of some functions asks, part by part; each text is checked by the kernel against the translation. -/
import Derived.Test.YtjkmblbonambjaaSh
import Derived.Test.YtjkmblbonambjaaChecked
namespace Go.Proofs.Ytjkmblbonambjaa
open Go.RowKit
set_option maxRecDepth 100000

def leatref01_Same_P1 (K : KV) : KE := cCode Try.prog (cd Try.f27 [1, 1, 1]) (retK Try.prog Try.f27.results.toList K) (fun _ _ _ => False) (retK Try.prog Try.f27.results.toList K)
def leatref01_Same_L1 (K : KV) : KE := cCode Try.prog (cd Try.f27 [1, 1, 0, 1, 0]) (leatref01_Same_P1 K) (fun i => @Bool.rec (fun _ => KE) ((fun _ _ _ => False) i) (leatref01_Same_P1 K) (Nat.beq i 0)) (retK Try.prog Try.f27.results.toList K)
theorem leatref01_Same_k {K : KV} {a0 b1 : Value} {w : World}
    (h : blt Try.prog Builtin.len #[50] 3 #[false] #[a0] (fun t7 w =>
    blt Try.prog Builtin.len #[50] 3 #[false] #[b1] (fun t9 w =>
    bin Try.prog BinOp.neq 3 false false t7 t9 (fun t10 w =>
    cond t10
      (K (Value.bool false) w)
      ((cCode Try.prog (cd Try.f27 [1, 1, 0, 1, 0]) (cCode Try.prog (cd Try.f27 [1, 1, 1]) (retK Try.prog Try.f27.results.toList K) (fun _ _ _ => False) (retK Try.prog Try.f27.results.toList K)) (fun i => @Bool.rec (fun _ => KE) ((fun _ _ _ => False) i) (cCode Try.prog (cd Try.f27 [1, 1, 1]) (retK Try.prog Try.f27.results.toList K) (fun _ _ _ => False) (retK Try.prog Try.f27.results.toList K)) (Nat.beq i 0)) (retK Try.prog Try.f27.results.toList K)) [a0, b1, undef, undef, (Value.bool false), (Value.int IntKind.i64 0), a0, t7, b1, t9, t10, undef, undef, undef, undef, undef, undef, undef, undef, undef, undef, undef, undef, undef, undef, undef, undef, undef] w)) w) w) w) :
    cCode Try.prog (cd Try.f27 []) (retK Try.prog Try.f27.results.toList K) (fun _ _ _ => False) (retK Try.prog Try.f27.results.toList K) [a0, b1, undef, undef, undef, undef, undef, undef, undef, undef, undef, undef, undef, undef, undef, undef, undef, undef, undef, undef, undef, undef, undef, undef, undef, undef, undef, undef] w := Eq.mp (by kernel_rfl) h

theorem leatref01_Same_in {K : KV} {a0 b1 : Value} {w : World}
    (h : blt Try.prog Builtin.len #[50] 3 #[false] #[a0] (fun t7 w =>
    blt Try.prog Builtin.len #[50] 3 #[false] #[b1] (fun t9 w =>
    bin Try.prog BinOp.neq 3 false false t7 t9 (fun t10 w =>
    cond t10
      (K (Value.bool false) w)
      ((leatref01_Same_L1 K) [a0, b1, undef, undef, (Value.bool false), (Value.int IntKind.i64 0), a0, t7, b1, t9, t10, undef, undef, undef, undef, undef, undef, undef, undef, undef, undef, undef, undef, undef, undef, undef, undef, undef] w)) w) w) w) :
    Gives Try.prog 27 #[a0, b1] w K := enter' Try.func27 (by kernel_rfl) (Eq.mp (congrArg (fun c => cCode Try.prog c (retK Try.prog Try.f27.results.toList K) (fun _ _ _ => False) (retK Try.prog Try.f27.results.toList K) [a0, b1, undef, undef, undef, undef, undef, undef, undef, undef, undef, undef, undef, undef, undef, undef, undef, undef, undef, undef, undef, undef, undef, undef, undef, undef, undef, undef] w) (by kernel_rfl : (cd Try.f27 []) = (cd Try.f27 []))) (leatref01_Same_k h))
theorem leatref01_Same_go : isGo Try.prog 27 := ⟨_, Try.func27, by kernel_rfl, by kernel_rfl⟩

theorem leatref01_Same_L1_k {K : KV} (B1 : KE) (q0 : KE) {a0 b1 a2 b3 i5' t6 t7 t8 t9 t10 : Value} {dd : Nat → Value} {w : World}
    (h : blt Try.prog Builtin.len #[50] 3 #[false] #[a0] (fun t13 w =>
    bin Try.prog BinOp.lss 3 false false i5' t13 (fun t14 w =>
    cond t14
      ((fun w =>
    sti (fun k w => idxA Try.prog 50 a0 i5' k w) (fun t19 w =>
    sti (fun k w => ld Try.prog 29 t19 k w) (fun t20 w =>
    sti (fun k w => conv Try.prog 29 9 t20 k w) (fun t21 w =>
    sti (fun k w => idxA Try.prog 50 b1 i5' k w) (fun t24 w =>
    sti (fun k w => ld Try.prog 29 t24 k w) (fun t25 w =>
    sti (fun k w => conv Try.prog 29 9 t25 k w) (fun t26 w =>
    sti (fun k w => bin Try.prog BinOp.neq 9 false false t21 t26 k w) (fun t27 w =>
    cond t27
      (K (Value.bool false) w)
      (bin Try.prog BinOp.add 3 false true i5' (Value.int IntKind.i64 1) (fun t16 w =>
    B1 [a0, b1, a2, b3, (dd 4), t16, t6, t7, t8, t9, t10, i5', a0, t13, t14, i5', t16, a0, i5', t19, t20, t21, b1, i5', t24, t25, t26, t27] w) w)) w) w) w) w) w) w) w) w.drew)
      (q0 [a0, b1, a2, b3, (dd 4), i5', t6, t7, t8, t9, t10, i5', a0, t13, t14, (dd 15), (dd 16), (dd 17), (dd 18), (dd 19), (dd 20), (dd 21), (dd 22), (dd 23), (dd 24), (dd 25), (dd 26), (dd 27)] w)) w) w) :
    cCode Try.prog (cd Try.f27 [1, 1, 0, 1, 0, 0]) B1 (fun i => @Bool.rec (fun _ => KE) ((fun _ _ _ => False) i) q0 (Nat.beq i 0)) (retK Try.prog Try.f27.results.toList K) [a0, b1, a2, b3, (dd 4), i5', t6, t7, t8, t9, t10, (dd 11), (dd 12), (dd 13), (dd 14), (dd 15), (dd 16), (dd 17), (dd 18), (dd 19), (dd 20), (dd 21), (dd 22), (dd 23), (dd 24), (dd 25), (dd 26), (dd 27)] w := Eq.mp (by kernel_rfl) h

theorem leatref01_Same_L1_r {K : KV} {a0 b1 a2 b3 t4 i5 t6 t7 t8 t9 t10 t11 t12 t13 t14 t15 t16 t17 t18 t19 t20 t21 t22 t23 t24 t25 t26 t27 : Value} {w : World} (Inv : Value → World → Prop) (μ : Value → World → Nat) (h0 : Inv i5 w)
    (hs : ∀ (i5' : Value) (dd : Nat → Value) (w : World) (m : Nat), Inv i5' w → m = μ i5' w →
    blt Try.prog Builtin.len #[50] 3 #[false] #[a0] (fun t13 w =>
    bin Try.prog BinOp.lss 3 false false i5' t13 (fun t14 w =>
    cond t14
      ((fun w =>
    sti (fun k w => idxA Try.prog 50 a0 i5' k w) (fun t19 w =>
    sti (fun k w => ld Try.prog 29 t19 k w) (fun t20 w =>
    sti (fun k w => conv Try.prog 29 9 t20 k w) (fun t21 w =>
    sti (fun k w => idxA Try.prog 50 b1 i5' k w) (fun t24 w =>
    sti (fun k w => ld Try.prog 29 t24 k w) (fun t25 w =>
    sti (fun k w => conv Try.prog 29 9 t25 k w) (fun t26 w =>
    sti (fun k w => bin Try.prog BinOp.neq 9 false false t21 t26 k w) (fun t27 w =>
    cond t27
      (K (Value.bool false) w)
      (bin Try.prog BinOp.add 3 false true i5' (Value.int IntKind.i64 1) (fun t16 w =>
    (Inv t16 w ∧ μ t16 w < m)) w)) w) w) w) w) w) w) w) w.drew)
      ((leatref01_Same_P1 K) [a0, b1, a2, b3, (dd 4), i5', t6, t7, t8, t9, t10, i5', a0, t13, t14, (dd 15), (dd 16), (dd 17), (dd 18), (dd 19), (dd 20), (dd 21), (dd 22), (dd 23), (dd 24), (dd 25), (dd 26), (dd 27)] w)) w) w) :
    leatref01_Same_L1 K [a0, b1, a2, b3, t4, i5, t6, t7, t8, t9, t10, t11, t12, t13, t14, t15, t16, t17, t18, t19, t20, t21, t22, t23, t24, t25, t26, t27] w := by
  refine loop_rule (cd Try.f27 [1, 1, 0, 1, 0, 0]) [4, 5, 11, 12, 13, 14, 15, 16, 17, 18, 19, 20, 21, 22, 23, 24, 25, 26, 27] (by kernel_rfl) (fun e2 w2 => Inv (gd e2 5) w2) (fun e2 w2 => μ (gd e2 5) w2) h0 ?_
  intro e' w' hI
  have h := hs (gd e' 5) (fun i => gd e' i) w' _ hI rfl
  have h2 : cCode Try.prog (cd Try.f27 [1, 1, 0, 1, 0, 0]) (fun e2 w2 => Inv (gd e2 5) w2 ∧ μ (gd e2 5) w2 < μ (gd e' 5) w') (fun i => @Bool.rec (fun _ => KE) ((fun _ _ _ => False) i) (leatref01_Same_P1 K) (Nat.beq i 0)) (retK Try.prog Try.f27.results.toList K) [a0, b1, a2, b3, (gd e' 4), (gd e' 5), t6, t7, t8, t9, t10, (gd e' 11), (gd e' 12), (gd e' 13), (gd e' 14), (gd e' 15), (gd e' 16), (gd e' 17), (gd e' 18), (gd e' 19), (gd e' 20), (gd e' 21), (gd e' 22), (gd e' 23), (gd e' 24), (gd e' 25), (gd e' 26), (gd e' 27)] w' := leatref01_Same_L1_k (fun e2 w2 => Inv (gd e2 5) w2 ∧ μ (gd e2 5) w2 < μ (gd e' 5) w') (leatref01_Same_P1 K) (Eq.mp (by kernel_rfl) h)
  exact Eq.mp (by kernel_rfl) h2

theorem leatref01_Same_P1_k {K : KV} {a0 b1 a2 b3 t4 i5 t6 t7 t8 t9 t10 t11 t12 t13 t14 t15 t16 t17 t18 t19 t20 t21 t22 t23 t24 t25 t26 t27 : Value} {w : World}
    (h : K (Value.bool true) w) :
    cCode Try.prog (cd Try.f27 [1, 1, 1]) (retK Try.prog Try.f27.results.toList K) (fun _ _ _ => False) (retK Try.prog Try.f27.results.toList K) [a0, b1, a2, b3, t4, i5, t6, t7, t8, t9, t10, t11, t12, t13, t14, t15, t16, t17, t18, t19, t20, t21, t22, t23, t24, t25, t26, t27] w := Eq.mp (by kernel_rfl) h

theorem leatref01_Same_P1_r {K : KV} {a0 b1 a2 b3 t4 i5 t6 t7 t8 t9 t10 t11 t12 t13 t14 t15 t16 t17 t18 t19 t20 t21 t22 t23 t24 t25 t26 t27 : Value} {w : World}
    (h : K (Value.bool true) w) :
    leatref01_Same_P1 K [a0, b1, a2, b3, t4, i5, t6, t7, t8, t9, t10, t11, t12, t13, t14, t15, t16, t17, t18, t19, t20, t21, t22, t23, t24, t25, t26, t27] w := by
  delta leatref01_Same_P1
  exact Eq.mp (congrArg (fun c => cCode Try.prog c (retK Try.prog Try.f27.results.toList K) (fun _ _ _ => False) (retK Try.prog Try.f27.results.toList K) [a0, b1, a2, b3, t4, i5, t6, t7, t8, t9, t10, t11, t12, t13, t14, t15, t16, t17, t18, t19, t20, t21, t22, t23, t24, t25, t26, t27] w) (by kernel_rfl : (cd Try.f27 [1, 1, 1]) = (cd Try.f27 [1, 1, 1]))) (leatref01_Same_P1_k h)
attribute [irreducible] leatref01_Same_P1 leatref01_Same_L1

def leatref01_Vast_P1 (K : KV) : KE := cCode Try.prog (cd Try.f29 [1, 1, 1]) (retK Try.prog Try.f29.results.toList K) (fun _ _ _ => False) (retK Try.prog Try.f29.results.toList K)
def leatref01_Vast_L1 (K : KV) : KE := cCode Try.prog (cd Try.f29 [1, 1, 0, 1, 0]) (leatref01_Vast_P1 K) (fun i => @Bool.rec (fun _ => KE) ((fun _ _ _ => False) i) (leatref01_Vast_P1 K) (Nat.beq i 0)) (retK Try.prog Try.f29.results.toList K)
theorem leatref01_Vast_k {K : KV} {l0 most1 : Value} {w : World}
    (h : blt Try.prog Builtin.len #[50] 3 #[false] #[l0] (fun t8 w =>
    (cCode Try.prog (cd Try.f29 [1, 1, 0, 1, 0]) (cCode Try.prog (cd Try.f29 [1, 1, 1]) (retK Try.prog Try.f29.results.toList K) (fun _ _ _ => False) (retK Try.prog Try.f29.results.toList K)) (fun i => @Bool.rec (fun _ => KE) ((fun _ _ _ => False) i) (cCode Try.prog (cd Try.f29 [1, 1, 1]) (retK Try.prog Try.f29.results.toList K) (fun _ _ _ => False) (retK Try.prog Try.f29.results.toList K)) (Nat.beq i 0)) (retK Try.prog Try.f29.results.toList K)) [l0, most1, undef, undef, (Value.bool false), t8, (Value.int IntKind.i64 0), l0, t8, undef, undef, undef, undef, undef, undef, undef, undef, undef, undef, undef, undef, undef, undef, undef, undef] w) w) :
    cCode Try.prog (cd Try.f29 []) (retK Try.prog Try.f29.results.toList K) (fun _ _ _ => False) (retK Try.prog Try.f29.results.toList K) [l0, most1, undef, undef, undef, undef, undef, undef, undef, undef, undef, undef, undef, undef, undef, undef, undef, undef, undef, undef, undef, undef, undef, undef, undef] w := Eq.mp (by kernel_rfl) h

theorem leatref01_Vast_in {K : KV} {l0 most1 : Value} {w : World}
    (h : blt Try.prog Builtin.len #[50] 3 #[false] #[l0] (fun t8 w =>
    (leatref01_Vast_L1 K) [l0, most1, undef, undef, (Value.bool false), t8, (Value.int IntKind.i64 0), l0, t8, undef, undef, undef, undef, undef, undef, undef, undef, undef, undef, undef, undef, undef, undef, undef, undef] w) w) :
    Gives Try.prog 29 #[l0, most1] w K := enter' Try.func29 (by kernel_rfl) (Eq.mp (congrArg (fun c => cCode Try.prog c (retK Try.prog Try.f29.results.toList K) (fun _ _ _ => False) (retK Try.prog Try.f29.results.toList K) [l0, most1, undef, undef, undef, undef, undef, undef, undef, undef, undef, undef, undef, undef, undef, undef, undef, undef, undef, undef, undef, undef, undef, undef, undef] w) (by kernel_rfl : (cd Try.f29 []) = (cd Try.f29 []))) (leatref01_Vast_k h))
theorem leatref01_Vast_go : isGo Try.prog 29 := ⟨_, Try.func29, by kernel_rfl, by kernel_rfl⟩

theorem leatref01_Vast_L1_k {K : KV} (B1 : KE) (q0 : KE) {l0 most1 l2 most3 t4 n5' i6' t7 t8 t22 t23 t24 : Value} {dd : Nat → Value} {w : World}
    (h : blt Try.prog Builtin.len #[50] 3 #[false] #[l0] (fun t11 w =>
    bin Try.prog BinOp.lss 3 false false i6' t11 (fun t12 w =>
    cond t12
      (idxA Try.prog 50 l0 i6' (fun t18 w =>
    ld Try.prog 29 t18 (fun t19 w =>
    blt Try.prog Builtin.len #[29] 3 #[false] #[t19] (fun t20 w =>
    bin Try.prog BinOp.add 3 false false n5' t20 (fun t21 w =>
    bin Try.prog BinOp.add 3 false true i6' (Value.int IntKind.i64 1) (fun t14 w =>
    B1 [l0, most1, l2, most3, t4, t21, t14, t7, t8, i6', l0, t11, t12, i6', t14, n5', l0, i6', t18, t19, t20, t21, t22, t23, t24] w) w) w) w) w) w)
      (q0 [l0, most1, l2, most3, t4, n5', i6', t7, t8, i6', l0, t11, t12, (dd 13), (dd 14), (dd 15), (dd 16), (dd 17), (dd 18), (dd 19), (dd 20), (dd 21), t22, t23, t24] w)) w) w) :
    cCode Try.prog (cd Try.f29 [1, 1, 0, 1, 0, 0]) B1 (fun i => @Bool.rec (fun _ => KE) ((fun _ _ _ => False) i) q0 (Nat.beq i 0)) (retK Try.prog Try.f29.results.toList K) [l0, most1, l2, most3, t4, n5', i6', t7, t8, (dd 9), (dd 10), (dd 11), (dd 12), (dd 13), (dd 14), (dd 15), (dd 16), (dd 17), (dd 18), (dd 19), (dd 20), (dd 21), t22, t23, t24] w := Eq.mp (by kernel_rfl) h

theorem leatref01_Vast_L1_r {K : KV} {l0 most1 l2 most3 t4 n5 i6 t7 t8 t9 t10 t11 t12 t13 t14 t15 t16 t17 t18 t19 t20 t21 t22 t23 t24 : Value} {w : World} (Inv : Value → Value → World → Prop) (μ : Value → Value → World → Nat) (h0 : Inv n5 i6 w)
    (hs : ∀ (n5' i6' : Value) (dd : Nat → Value) (w : World) (m : Nat), Inv n5' i6' w → m = μ n5' i6' w →
    blt Try.prog Builtin.len #[50] 3 #[false] #[l0] (fun t11 w =>
    bin Try.prog BinOp.lss 3 false false i6' t11 (fun t12 w =>
    cond t12
      (idxA Try.prog 50 l0 i6' (fun t18 w =>
    ld Try.prog 29 t18 (fun t19 w =>
    blt Try.prog Builtin.len #[29] 3 #[false] #[t19] (fun t20 w =>
    bin Try.prog BinOp.add 3 false false n5' t20 (fun t21 w =>
    bin Try.prog BinOp.add 3 false true i6' (Value.int IntKind.i64 1) (fun t14 w =>
    (Inv t21 t14 w ∧ μ t21 t14 w < m)) w) w) w) w) w)
      ((leatref01_Vast_P1 K) [l0, most1, l2, most3, t4, n5', i6', t7, t8, i6', l0, t11, t12, (dd 13), (dd 14), (dd 15), (dd 16), (dd 17), (dd 18), (dd 19), (dd 20), (dd 21), t22, t23, t24] w)) w) w) :
    leatref01_Vast_L1 K [l0, most1, l2, most3, t4, n5, i6, t7, t8, t9, t10, t11, t12, t13, t14, t15, t16, t17, t18, t19, t20, t21, t22, t23, t24] w := by
  refine loop_rule (cd Try.f29 [1, 1, 0, 1, 0, 0]) [5, 6, 9, 10, 11, 12, 13, 14, 15, 16, 17, 18, 19, 20, 21] (by kernel_rfl) (fun e2 w2 => Inv (gd e2 5) (gd e2 6) w2) (fun e2 w2 => μ (gd e2 5) (gd e2 6) w2) h0 ?_
  intro e' w' hI
  have h := hs (gd e' 5) (gd e' 6) (fun i => gd e' i) w' _ hI rfl
  have h2 : cCode Try.prog (cd Try.f29 [1, 1, 0, 1, 0, 0]) (fun e2 w2 => Inv (gd e2 5) (gd e2 6) w2 ∧ μ (gd e2 5) (gd e2 6) w2 < μ (gd e' 5) (gd e' 6) w') (fun i => @Bool.rec (fun _ => KE) ((fun _ _ _ => False) i) (leatref01_Vast_P1 K) (Nat.beq i 0)) (retK Try.prog Try.f29.results.toList K) [l0, most1, l2, most3, t4, (gd e' 5), (gd e' 6), t7, t8, (gd e' 9), (gd e' 10), (gd e' 11), (gd e' 12), (gd e' 13), (gd e' 14), (gd e' 15), (gd e' 16), (gd e' 17), (gd e' 18), (gd e' 19), (gd e' 20), (gd e' 21), t22, t23, t24] w' := leatref01_Vast_L1_k (fun e2 w2 => Inv (gd e2 5) (gd e2 6) w2 ∧ μ (gd e2 5) (gd e2 6) w2 < μ (gd e' 5) (gd e' 6) w') (leatref01_Vast_P1 K) (Eq.mp (by kernel_rfl) h)
  exact Eq.mp (by kernel_rfl) h2

theorem leatref01_Vast_P1_k {K : KV} {l0 most1 l2 most3 t4 n5 i6 t7 t8 t9 t10 t11 t12 t13 t14 t15 t16 t17 t18 t19 t20 t21 t22 t23 t24 : Value} {w : World}
    (h : bin Try.prog BinOp.gtr 3 false false n5 most1 (fun t24 w =>
    K t24 w) w) :
    cCode Try.prog (cd Try.f29 [1, 1, 1]) (retK Try.prog Try.f29.results.toList K) (fun _ _ _ => False) (retK Try.prog Try.f29.results.toList K) [l0, most1, l2, most3, t4, n5, i6, t7, t8, t9, t10, t11, t12, t13, t14, t15, t16, t17, t18, t19, t20, t21, t22, t23, t24] w := Eq.mp (by kernel_rfl) h

theorem leatref01_Vast_P1_r {K : KV} {l0 most1 l2 most3 t4 n5 i6 t7 t8 t9 t10 t11 t12 t13 t14 t15 t16 t17 t18 t19 t20 t21 t22 t23 t24 : Value} {w : World}
    (h : bin Try.prog BinOp.gtr 3 false false n5 most1 (fun t24 w =>
    K t24 w) w) :
    leatref01_Vast_P1 K [l0, most1, l2, most3, t4, n5, i6, t7, t8, t9, t10, t11, t12, t13, t14, t15, t16, t17, t18, t19, t20, t21, t22, t23, t24] w := by
  delta leatref01_Vast_P1
  exact Eq.mp (congrArg (fun c => cCode Try.prog c (retK Try.prog Try.f29.results.toList K) (fun _ _ _ => False) (retK Try.prog Try.f29.results.toList K) [l0, most1, l2, most3, t4, n5, i6, t7, t8, t9, t10, t11, t12, t13, t14, t15, t16, t17, t18, t19, t20, t21, t22, t23, t24] w) (by kernel_rfl : (cd Try.f29 [1, 1, 1]) = (cd Try.f29 [1, 1, 1]))) (leatref01_Vast_P1_k h)
attribute [irreducible] leatref01_Vast_P1 leatref01_Vast_L1

end Go.Proofs.Ytjkmblbonambjaa
