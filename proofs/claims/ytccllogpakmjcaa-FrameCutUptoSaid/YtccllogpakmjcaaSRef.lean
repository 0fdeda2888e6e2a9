/- Written by program (gen.py): what the code of some functions asks, part by part; each text is checked by the kernel against the translation. -/
import Derived.Test.YtccllogpakmjcaaSh
import Derived.Test.YtccllogpakmjcaaChecked
namespace Go.Proofs.Ytccllogpakmjcaa
open Go.RowKit
set_option maxRecDepth 100000

def leatref01_Put_P1 (K : KV) : KE := cCode Try.prog (cd Try.f31 [1, 1, 1, 1, 1]) (retK Try.prog Try.f31.results.toList K) (fun _ _ _ => False) (retK Try.prog Try.f31.results.toList K)
def leatref01_Put_L1 (K : KV) : KE := cCode Try.prog (cd Try.f31 [1, 1, 1, 1, 0, 1, 0]) (leatref01_Put_P1 K) (fun i => @Bool.rec (fun _ => KE) ((fun _ _ _ => False) i) (leatref01_Put_P1 K) (Nat.beq i 0)) (retK Try.prog Try.f31.results.toList K)
theorem leatref01_Put_k {K : KV} {b0 n1 k_2 : Value} {w : World}
    (h : call Try.prog 33 #[k_2] (fun t11 w =>
    un Try.prog UnOp.not t11 (fun t12 w =>
    cond t12
      (K (Value.tuple #[(Value.slice none 0 0), (Value.int IntKind.i64 1)]) w)
      (bin Try.prog BinOp.lss 3 false true k_2 (Value.int IntKind.i64 8) (fun t14 w =>
    gsel t14 true (fun k16 =>
    bin Try.prog BinOp.mul 3 true false (Value.int IntKind.i64 8) k_2 (fun t18 w =>
    conv Try.prog 3 65 t18 (fun t19 w =>
    bin Try.prog BinOp.shr 56 false false n1 t19 (fun t20 w =>
    bin Try.prog BinOp.gtr 56 false true t20 (Value.int IntKind.u64 0) (fun t21 w =>
    k16 [n1, k_2, t18, t19, t20, t21] w) w) w) w) w)
    (fun k => k [undef, undef, undef, undef, undef, undef] w) (fun us16 w =>
    pick t14 (gd us16 5) (Value.bool false) (fun t22 w =>
    cond t22
      (K (Value.tuple #[(Value.slice none 0 0), (Value.int IntKind.i64 6)]) w)
      (bldS Try.prog 22 0 #[] (fun t23 w =>
    blt Try.prog Builtin.append #[22, 22] 22 #[false, false] #[t23, b0] (fun t25 w =>
    bin Try.prog BinOp.sub 3 false true k_2 (Value.int IntKind.i64 1) (fun t27 w =>
    (cCode Try.prog (cd Try.f31 [1, 1, 1, 1, 0, 1, 0]) (cCode Try.prog (cd Try.f31 [1, 1, 1, 1, 1]) (retK Try.prog Try.f31.results.toList K) (fun _ _ _ => False) (retK Try.prog Try.f31.results.toList K)) (fun i => @Bool.rec (fun _ => KE) ((fun _ _ _ => False) i) (cCode Try.prog (cd Try.f31 [1, 1, 1, 1, 1]) (retK Try.prog Try.f31.results.toList K) (fun _ _ _ => False) (retK Try.prog Try.f31.results.toList K)) (Nat.beq i 0)) (retK Try.prog Try.f31.results.toList K)) [b0, n1, k_2, undef, undef, undef, (Value.slice none 0 0), (Value.int IntKind.i64 0), t25, t27, k_2, t11, t12, k_2, t14, t14, (gd us16 0), (gd us16 1), (gd us16 2), (gd us16 3), (gd us16 4), (gd us16 5), t22, t23, b0, t25, k_2, t27, undef, undef, undef, undef, undef, undef, undef, undef, undef, undef, undef, undef, undef, undef] w) w) w) w)) w)) w)) w) w) :
    cCode Try.prog (cd Try.f31 []) (retK Try.prog Try.f31.results.toList K) (fun _ _ _ => False) (retK Try.prog Try.f31.results.toList K) [b0, n1, k_2, undef, undef, undef, undef, undef, undef, undef, undef, undef, undef, undef, undef, undef, undef, undef, undef, undef, undef, undef, undef, undef, undef, undef, undef, undef, undef, undef, undef, undef, undef, undef, undef, undef, undef, undef, undef, undef, undef, undef] w := Eq.mp (by kernel_rfl) h

theorem leatref01_Put_in {K : KV} {b0 n1 k_2 : Value} {w : World}
    (h : call Try.prog 33 #[k_2] (fun t11 w =>
    un Try.prog UnOp.not t11 (fun t12 w =>
    cond t12
      (K (Value.tuple #[(Value.slice none 0 0), (Value.int IntKind.i64 1)]) w)
      (bin Try.prog BinOp.lss 3 false true k_2 (Value.int IntKind.i64 8) (fun t14 w =>
    gsel t14 true (fun k16 =>
    bin Try.prog BinOp.mul 3 true false (Value.int IntKind.i64 8) k_2 (fun t18 w =>
    conv Try.prog 3 65 t18 (fun t19 w =>
    bin Try.prog BinOp.shr 56 false false n1 t19 (fun t20 w =>
    bin Try.prog BinOp.gtr 56 false true t20 (Value.int IntKind.u64 0) (fun t21 w =>
    k16 [n1, k_2, t18, t19, t20, t21] w) w) w) w) w)
    (fun k => k [undef, undef, undef, undef, undef, undef] w) (fun us16 w =>
    pick t14 (gd us16 5) (Value.bool false) (fun t22 w =>
    cond t22
      (K (Value.tuple #[(Value.slice none 0 0), (Value.int IntKind.i64 6)]) w)
      (bldS Try.prog 22 0 #[] (fun t23 w =>
    blt Try.prog Builtin.append #[22, 22] 22 #[false, false] #[t23, b0] (fun t25 w =>
    bin Try.prog BinOp.sub 3 false true k_2 (Value.int IntKind.i64 1) (fun t27 w =>
    (leatref01_Put_L1 K) [b0, n1, k_2, undef, undef, undef, (Value.slice none 0 0), (Value.int IntKind.i64 0), t25, t27, k_2, t11, t12, k_2, t14, t14, (gd us16 0), (gd us16 1), (gd us16 2), (gd us16 3), (gd us16 4), (gd us16 5), t22, t23, b0, t25, k_2, t27, undef, undef, undef, undef, undef, undef, undef, undef, undef, undef, undef, undef, undef, undef] w) w) w) w)) w)) w)) w) w) :
    Gives Try.prog 31 #[b0, n1, k_2] w K := enter' Try.func31 (by kernel_rfl) (Eq.mp (congrArg (fun c => cCode Try.prog c (retK Try.prog Try.f31.results.toList K) (fun _ _ _ => False) (retK Try.prog Try.f31.results.toList K) [b0, n1, k_2, undef, undef, undef, undef, undef, undef, undef, undef, undef, undef, undef, undef, undef, undef, undef, undef, undef, undef, undef, undef, undef, undef, undef, undef, undef, undef, undef, undef, undef, undef, undef, undef, undef, undef, undef, undef, undef, undef, undef] w) (by kernel_rfl : (cd Try.f31 []) = (cd Try.f31 []))) (leatref01_Put_k (h : call Try.prog 33 #[k_2] (fun t11 w =>
    un Try.prog UnOp.not t11 (fun t12 w =>
    cond t12
      (K (Value.tuple #[(Value.slice none 0 0), (Value.int IntKind.i64 1)]) w)
      (bin Try.prog BinOp.lss 3 false true k_2 (Value.int IntKind.i64 8) (fun t14 w =>
    gsel t14 true (fun k16 =>
    bin Try.prog BinOp.mul 3 true false (Value.int IntKind.i64 8) k_2 (fun t18 w =>
    conv Try.prog 3 65 t18 (fun t19 w =>
    bin Try.prog BinOp.shr 56 false false n1 t19 (fun t20 w =>
    bin Try.prog BinOp.gtr 56 false true t20 (Value.int IntKind.u64 0) (fun t21 w =>
    k16 [n1, k_2, t18, t19, t20, t21] w) w) w) w) w)
    (fun k => k [undef, undef, undef, undef, undef, undef] w) (fun us16 w =>
    pick t14 (gd us16 5) (Value.bool false) (fun t22 w =>
    cond t22
      (K (Value.tuple #[(Value.slice none 0 0), (Value.int IntKind.i64 6)]) w)
      (bldS Try.prog 22 0 #[] (fun t23 w =>
    blt Try.prog Builtin.append #[22, 22] 22 #[false, false] #[t23, b0] (fun t25 w =>
    bin Try.prog BinOp.sub 3 false true k_2 (Value.int IntKind.i64 1) (fun t27 w =>
    (leatref01_Put_L1 K) [b0, n1, k_2, undef, undef, undef, (Value.slice none 0 0), (Value.int IntKind.i64 0), t25, t27, k_2, t11, t12, k_2, t14, t14, (gd us16 0), (gd us16 1), (gd us16 2), (gd us16 3), (gd us16 4), (gd us16 5), t22, t23, b0, t25, k_2, t27, undef, undef, undef, undef, undef, undef, undef, undef, undef, undef, undef, undef, undef, undef] w) w) w) w)) w)) w)) w) w)))
theorem leatref01_Put_go : isGo Try.prog 31 := ⟨_, Try.func31, by kernel_rfl, by kernel_rfl⟩

theorem leatref01_Put_L1_k {K : KV} (B1 : KE) (q0 : KE) {b0 n1 k_2 b3 n4 k_5 t6 t7 out8' i9' t10 t11 t12 t13 t14 t15 t16 t17 t18 t19 t20 t21 t22 t23 t24 t25 t26 t27 t41 : Value} {dd : Nat → Value} {w : World}
    (h : bin Try.prog BinOp.geq 3 false true i9' (Value.int IntKind.i64 0) (fun t29 w =>
    cond t29
      (bin Try.prog BinOp.mul 3 true false (Value.int IntKind.i64 8) i9' (fun t35 w =>
    conv Try.prog 3 65 t35 (fun t36 w =>
    bin Try.prog BinOp.shr 56 false false n1 t36 (fun t37 w =>
    conv Try.prog 56 5 t37 (fun t38 w =>
    bldS Try.prog 22 1 #[(0, t38)] (fun t39 w =>
    blt Try.prog Builtin.append #[22, 22] 22 #[false, false] #[out8', t39] (fun t40 w =>
    bin Try.prog BinOp.sub 3 false true i9' (Value.int IntKind.i64 1) (fun t31 w =>
    B1 [b0, n1, k_2, b3, n4, k_5, t6, t7, t40, t31, t10, t11, t12, t13, t14, t15, t16, t17, t18, t19, t20, t21, t22, t23, t24, t25, t26, t27, i9', t29, i9', t31, out8', n1, i9', t35, t36, t37, t38, t39, t40, t41] w) w) w) w) w) w) w) w)
      (q0 [b0, n1, k_2, b3, n4, k_5, t6, t7, out8', i9', t10, t11, t12, t13, t14, t15, t16, t17, t18, t19, t20, t21, t22, t23, t24, t25, t26, t27, i9', t29, (dd 30), (dd 31), (dd 32), (dd 33), (dd 34), (dd 35), (dd 36), (dd 37), (dd 38), (dd 39), (dd 40), t41] w)) w) :
    cCode Try.prog (cd Try.f31 [1, 1, 1, 1, 0, 1, 0, 0]) B1 (fun i => @Bool.rec (fun _ => KE) ((fun _ _ _ => False) i) q0 (Nat.beq i 0)) (retK Try.prog Try.f31.results.toList K) [b0, n1, k_2, b3, n4, k_5, t6, t7, out8', i9', t10, t11, t12, t13, t14, t15, t16, t17, t18, t19, t20, t21, t22, t23, t24, t25, t26, t27, (dd 28), (dd 29), (dd 30), (dd 31), (dd 32), (dd 33), (dd 34), (dd 35), (dd 36), (dd 37), (dd 38), (dd 39), (dd 40), t41] w := Eq.mp (by kernel_rfl) h

theorem leatref01_Put_L1_r {K : KV} {b0 n1 k_2 b3 n4 k_5 t6 t7 out8 i9 t10 t11 t12 t13 t14 t15 t16 t17 t18 t19 t20 t21 t22 t23 t24 t25 t26 t27 t28 t29 t30 t31 t32 t33 t34 t35 t36 t37 t38 t39 t40 t41 : Value} {w : World} (Inv : Value → Value → World → Prop) (μ : Value → Value → World → Nat) (h0 : Inv out8 i9 w)
    (hs : ∀ (out8' i9' : Value) (dd : Nat → Value) (w : World) (m : Nat), Inv out8' i9' w → m = μ out8' i9' w →
    bin Try.prog BinOp.geq 3 false true i9' (Value.int IntKind.i64 0) (fun t29 w =>
    cond t29
      (bin Try.prog BinOp.mul 3 true false (Value.int IntKind.i64 8) i9' (fun t35 w =>
    conv Try.prog 3 65 t35 (fun t36 w =>
    bin Try.prog BinOp.shr 56 false false n1 t36 (fun t37 w =>
    conv Try.prog 56 5 t37 (fun t38 w =>
    bldS Try.prog 22 1 #[(0, t38)] (fun t39 w =>
    blt Try.prog Builtin.append #[22, 22] 22 #[false, false] #[out8', t39] (fun t40 w =>
    bin Try.prog BinOp.sub 3 false true i9' (Value.int IntKind.i64 1) (fun t31 w =>
    (Inv t40 t31 w ∧ μ t40 t31 w < m)) w) w) w) w) w) w) w)
      ((leatref01_Put_P1 K) [b0, n1, k_2, b3, n4, k_5, t6, t7, out8', i9', t10, t11, t12, t13, t14, t15, t16, t17, t18, t19, t20, t21, t22, t23, t24, t25, t26, t27, i9', t29, (dd 30), (dd 31), (dd 32), (dd 33), (dd 34), (dd 35), (dd 36), (dd 37), (dd 38), (dd 39), (dd 40), t41] w)) w) :
    leatref01_Put_L1 K [b0, n1, k_2, b3, n4, k_5, t6, t7, out8, i9, t10, t11, t12, t13, t14, t15, t16, t17, t18, t19, t20, t21, t22, t23, t24, t25, t26, t27, t28, t29, t30, t31, t32, t33, t34, t35, t36, t37, t38, t39, t40, t41] w := by
  refine loop_rule (cd Try.f31 [1, 1, 1, 1, 0, 1, 0, 0]) [8, 9, 28, 29, 30, 31, 32, 33, 34, 35, 36, 37, 38, 39, 40] (by kernel_rfl) (fun e2 w2 => Inv (gd e2 8) (gd e2 9) w2) (fun e2 w2 => μ (gd e2 8) (gd e2 9) w2) h0 ?_
  intro e' w' hI
  have h := hs (gd e' 8) (gd e' 9) (fun i => gd e' i) w' _ hI rfl
  have h2 : cCode Try.prog (cd Try.f31 [1, 1, 1, 1, 0, 1, 0, 0]) (fun e2 w2 => Inv (gd e2 8) (gd e2 9) w2 ∧ μ (gd e2 8) (gd e2 9) w2 < μ (gd e' 8) (gd e' 9) w') (fun i => @Bool.rec (fun _ => KE) ((fun _ _ _ => False) i) (leatref01_Put_P1 K) (Nat.beq i 0)) (retK Try.prog Try.f31.results.toList K) [b0, n1, k_2, b3, n4, k_5, t6, t7, (gd e' 8), (gd e' 9), t10, t11, t12, t13, t14, t15, t16, t17, t18, t19, t20, t21, t22, t23, t24, t25, t26, t27, (gd e' 28), (gd e' 29), (gd e' 30), (gd e' 31), (gd e' 32), (gd e' 33), (gd e' 34), (gd e' 35), (gd e' 36), (gd e' 37), (gd e' 38), (gd e' 39), (gd e' 40), t41] w' := leatref01_Put_L1_k (fun e2 w2 => Inv (gd e2 8) (gd e2 9) w2 ∧ μ (gd e2 8) (gd e2 9) w2 < μ (gd e' 8) (gd e' 9) w') (leatref01_Put_P1 K) (Eq.mp (by kernel_rfl) h)
  exact Eq.mp (by kernel_rfl) h2

theorem leatref01_Put_P1_k {K : KV} {b0 n1 k_2 b3 n4 k_5 t6 t7 out8 i9 t10 t11 t12 t13 t14 t15 t16 t17 t18 t19 t20 t21 t22 t23 t24 t25 t26 t27 t28 t29 t30 t31 t32 t33 t34 t35 t36 t37 t38 t39 t40 t41 : Value} {w : World}
    (h : K (Value.tuple #[out8, (Value.int IntKind.i64 0)]) w) :
    cCode Try.prog (cd Try.f31 [1, 1, 1, 1, 1]) (retK Try.prog Try.f31.results.toList K) (fun _ _ _ => False) (retK Try.prog Try.f31.results.toList K) [b0, n1, k_2, b3, n4, k_5, t6, t7, out8, i9, t10, t11, t12, t13, t14, t15, t16, t17, t18, t19, t20, t21, t22, t23, t24, t25, t26, t27, t28, t29, t30, t31, t32, t33, t34, t35, t36, t37, t38, t39, t40, t41] w := Eq.mp (by kernel_rfl) h

theorem leatref01_Put_P1_r {K : KV} {b0 n1 k_2 b3 n4 k_5 t6 t7 out8 i9 t10 t11 t12 t13 t14 t15 t16 t17 t18 t19 t20 t21 t22 t23 t24 t25 t26 t27 t28 t29 t30 t31 t32 t33 t34 t35 t36 t37 t38 t39 t40 t41 : Value} {w : World}
    (h : K (Value.tuple #[out8, (Value.int IntKind.i64 0)]) w) :
    leatref01_Put_P1 K [b0, n1, k_2, b3, n4, k_5, t6, t7, out8, i9, t10, t11, t12, t13, t14, t15, t16, t17, t18, t19, t20, t21, t22, t23, t24, t25, t26, t27, t28, t29, t30, t31, t32, t33, t34, t35, t36, t37, t38, t39, t40, t41] w := by
  delta leatref01_Put_P1
  exact Eq.mp (congrArg (fun c => cCode Try.prog c (retK Try.prog Try.f31.results.toList K) (fun _ _ _ => False) (retK Try.prog Try.f31.results.toList K) [b0, n1, k_2, b3, n4, k_5, t6, t7, out8, i9, t10, t11, t12, t13, t14, t15, t16, t17, t18, t19, t20, t21, t22, t23, t24, t25, t26, t27, t28, t29, t30, t31, t32, t33, t34, t35, t36, t37, t38, t39, t40, t41] w) (by kernel_rfl : (cd Try.f31 [1, 1, 1, 1, 1]) = (cd Try.f31 [1, 1, 1, 1, 1]))) (leatref01_Put_P1_k h)
attribute [irreducible] leatref01_Put_P1 leatref01_Put_L1

def leatref01_Take_A1 (K : KV) : KE := cCode Try.prog (cd Try.f27 [1, 1, 1, 1]) (retK Try.prog Try.f27.results.toList K) (fun _ _ _ => False) (retK Try.prog Try.f27.results.toList K)
def leatref01_Take_P1 (K : KV) : KE := cCode Try.prog (cd Try.f27 [1, 1, 1, 1, 1]) (retK Try.prog Try.f27.results.toList K) (fun _ _ _ => False) (retK Try.prog Try.f27.results.toList K)
def leatref01_Take_L1 (K : KV) : KE := cCode Try.prog (cd Try.f27 [1, 1, 1, 1, 0, 1, 0]) (leatref01_Take_P1 K) (fun i => @Bool.rec (fun _ => KE) ((fun _ _ _ => False) i) (leatref01_Take_P1 K) (Nat.beq i 0)) (retK Try.prog Try.f27.results.toList K)
theorem leatref01_Take_k {K : KV} (x0 : Code) {b0 at1 k_2 : Value} {w : World}
    (h : call Try.prog 33 #[k_2] (fun t12 w =>
    un Try.prog UnOp.not t12 (fun t13 w =>
    gsel t13 false (fun k15 =>
    bin Try.prog BinOp.lss 3 false true at1 (Value.int IntKind.i64 0) (fun t16 w =>
    k15 [at1, t16] w) w)
    (fun k => k [undef, undef] w) (fun us15 w =>
    pick t13 (Value.bool true) (gd us15 1) (fun t17 w =>
    gsel t17 false (fun k19 =>
    blt Try.prog Builtin.len #[22] 3 #[false] #[b0] (fun t21 w =>
    bin Try.prog BinOp.gtr 3 false false at1 t21 (fun t22 w =>
    k19 [at1, b0, t21, t22] w) w) w)
    (fun k => k [undef, undef, undef, undef] w) (fun us19 w =>
    pick t17 (Value.bool true) (gd us19 3) (fun t23 w =>
    cond t23
      (K (Value.tuple #[(Value.int IntKind.u64 0), (Value.int IntKind.i64 0), (Value.int IntKind.i64 1)]) w)
      (blt Try.prog Builtin.len #[22] 3 #[false] #[b0] (fun t25 w =>
    bin Try.prog BinOp.sub 3 false false t25 at1 (fun t27 w =>
    bin Try.prog BinOp.lss 3 false false t27 k_2 (fun t29 w =>
    cond t29
      (K (Value.tuple #[(Value.int IntKind.u64 0), (Value.int IntKind.i64 0), (Value.int IntKind.i64 5)]) w)
      ((cCode Try.prog x0 (retK Try.prog Try.f27.results.toList K) (fun _ _ _ => False) (retK Try.prog Try.f27.results.toList K)) (b0 :: at1 :: k_2 :: undef :: undef :: undef :: (Value.int IntKind.u64 0) :: (Value.int IntKind.i64 0) :: (Value.int IntKind.i64 0) :: (Value.int IntKind.u64 0) :: undef :: k_2 :: t12 :: t13 :: t13 :: (gd us15 0) :: (gd us15 1) :: t17 :: t17 :: (gd us19 0) :: (gd us19 1) :: (gd us19 2) :: (gd us19 3) :: t23 :: b0 :: t25 :: at1 :: t27 :: k_2 :: t29 :: undef :: undef :: undef :: undef :: undef :: undef :: undef :: undef :: undef :: undef :: undef :: undef :: undef :: undef :: undef :: undef :: undef :: undef :: undef :: []) w)) w) w) w)) w)) w)) w) w) :
    cCode Try.prog (rep [1, 1, 1, 1] x0 (cd Try.f27 [])) (retK Try.prog Try.f27.results.toList K) (fun _ _ _ => False) (retK Try.prog Try.f27.results.toList K) (b0 :: at1 :: k_2 :: undef :: undef :: undef :: undef :: undef :: undef :: undef :: undef :: undef :: undef :: undef :: undef :: undef :: undef :: undef :: undef :: undef :: undef :: undef :: undef :: undef :: undef :: undef :: undef :: undef :: undef :: undef :: undef :: undef :: undef :: undef :: undef :: undef :: undef :: undef :: undef :: undef :: undef :: undef :: undef :: undef :: undef :: undef :: undef :: undef :: undef :: []) w := Eq.mp (by kernel_rfl) h

theorem leatref01_Take_in {K : KV} {b0 at1 k_2 : Value} {w : World}
    (h : call Try.prog 33 #[k_2] (fun t12 w =>
    un Try.prog UnOp.not t12 (fun t13 w =>
    gsel t13 false (fun k15 =>
    bin Try.prog BinOp.lss 3 false true at1 (Value.int IntKind.i64 0) (fun t16 w =>
    k15 [at1, t16] w) w)
    (fun k => k [undef, undef] w) (fun us15 w =>
    pick t13 (Value.bool true) (gd us15 1) (fun t17 w =>
    gsel t17 false (fun k19 =>
    blt Try.prog Builtin.len #[22] 3 #[false] #[b0] (fun t21 w =>
    bin Try.prog BinOp.gtr 3 false false at1 t21 (fun t22 w =>
    k19 [at1, b0, t21, t22] w) w) w)
    (fun k => k [undef, undef, undef, undef] w) (fun us19 w =>
    pick t17 (Value.bool true) (gd us19 3) (fun t23 w =>
    cond t23
      (K (Value.tuple #[(Value.int IntKind.u64 0), (Value.int IntKind.i64 0), (Value.int IntKind.i64 1)]) w)
      (blt Try.prog Builtin.len #[22] 3 #[false] #[b0] (fun t25 w =>
    bin Try.prog BinOp.sub 3 false false t25 at1 (fun t27 w =>
    bin Try.prog BinOp.lss 3 false false t27 k_2 (fun t29 w =>
    cond t29
      (K (Value.tuple #[(Value.int IntKind.u64 0), (Value.int IntKind.i64 0), (Value.int IntKind.i64 5)]) w)
      ((leatref01_Take_A1 K) (b0 :: at1 :: k_2 :: undef :: undef :: undef :: (Value.int IntKind.u64 0) :: (Value.int IntKind.i64 0) :: (Value.int IntKind.i64 0) :: (Value.int IntKind.u64 0) :: undef :: k_2 :: t12 :: t13 :: t13 :: (gd us15 0) :: (gd us15 1) :: t17 :: t17 :: (gd us19 0) :: (gd us19 1) :: (gd us19 2) :: (gd us19 3) :: t23 :: b0 :: t25 :: at1 :: t27 :: k_2 :: t29 :: undef :: undef :: undef :: undef :: undef :: undef :: undef :: undef :: undef :: undef :: undef :: undef :: undef :: undef :: undef :: undef :: undef :: undef :: undef :: []) w)) w) w) w)) w)) w)) w) w) :
    Gives Try.prog 27 #[b0, at1, k_2] w K := enter' Try.func27 (by kernel_rfl) (Eq.mp (congrArg (fun c => cCode Try.prog c (retK Try.prog Try.f27.results.toList K) (fun _ _ _ => False) (retK Try.prog Try.f27.results.toList K) (b0 :: at1 :: k_2 :: undef :: undef :: undef :: undef :: undef :: undef :: undef :: undef :: undef :: undef :: undef :: undef :: undef :: undef :: undef :: undef :: undef :: undef :: undef :: undef :: undef :: undef :: undef :: undef :: undef :: undef :: undef :: undef :: undef :: undef :: undef :: undef :: undef :: undef :: undef :: undef :: undef :: undef :: undef :: undef :: undef :: undef :: undef :: undef :: undef :: undef :: []) w) (by kernel_rfl : (rep [1, 1, 1, 1] (cd Try.f27 [1, 1, 1, 1]) (cd Try.f27 [])) = (cd Try.f27 []))) (leatref01_Take_k (cd Try.f27 [1, 1, 1, 1]) (h : call Try.prog 33 #[k_2] (fun t12 w =>
    un Try.prog UnOp.not t12 (fun t13 w =>
    gsel t13 false (fun k15 =>
    bin Try.prog BinOp.lss 3 false true at1 (Value.int IntKind.i64 0) (fun t16 w =>
    k15 [at1, t16] w) w)
    (fun k => k [undef, undef] w) (fun us15 w =>
    pick t13 (Value.bool true) (gd us15 1) (fun t17 w =>
    gsel t17 false (fun k19 =>
    blt Try.prog Builtin.len #[22] 3 #[false] #[b0] (fun t21 w =>
    bin Try.prog BinOp.gtr 3 false false at1 t21 (fun t22 w =>
    k19 [at1, b0, t21, t22] w) w) w)
    (fun k => k [undef, undef, undef, undef] w) (fun us19 w =>
    pick t17 (Value.bool true) (gd us19 3) (fun t23 w =>
    cond t23
      (K (Value.tuple #[(Value.int IntKind.u64 0), (Value.int IntKind.i64 0), (Value.int IntKind.i64 1)]) w)
      (blt Try.prog Builtin.len #[22] 3 #[false] #[b0] (fun t25 w =>
    bin Try.prog BinOp.sub 3 false false t25 at1 (fun t27 w =>
    bin Try.prog BinOp.lss 3 false false t27 k_2 (fun t29 w =>
    cond t29
      (K (Value.tuple #[(Value.int IntKind.u64 0), (Value.int IntKind.i64 0), (Value.int IntKind.i64 5)]) w)
      ((leatref01_Take_A1 K) (b0 :: at1 :: k_2 :: undef :: undef :: undef :: (Value.int IntKind.u64 0) :: (Value.int IntKind.i64 0) :: (Value.int IntKind.i64 0) :: (Value.int IntKind.u64 0) :: undef :: k_2 :: t12 :: t13 :: t13 :: (gd us15 0) :: (gd us15 1) :: t17 :: t17 :: (gd us19 0) :: (gd us19 1) :: (gd us19 2) :: (gd us19 3) :: t23 :: b0 :: t25 :: at1 :: t27 :: k_2 :: t29 :: undef :: undef :: undef :: undef :: undef :: undef :: undef :: undef :: undef :: undef :: undef :: undef :: undef :: undef :: undef :: undef :: undef :: undef :: undef :: []) w)) w) w) w)) w)) w)) w) w)))
theorem leatref01_Take_go : isGo Try.prog 27 := ⟨_, Try.func27, by kernel_rfl, by kernel_rfl⟩

theorem leatref01_Take_A1_k {K : KV} {b0 at1 k_2 b3 at4 k_5 t6 t7 t8 n9 i10 t11 t12 t13 t14 t15 t16 t17 t18 t19 t20 t21 t22 t23 t24 t25 t26 t27 t28 t29 t30 t31 t32 t33 t34 t35 t36 t37 t38 t39 t40 t41 t42 t43 t44 t45 t46 t47 t48 : Value} {w : World}
    (h : (cCode Try.prog (cd Try.f27 [1, 1, 1, 1, 0, 1, 0]) (cCode Try.prog (cd Try.f27 [1, 1, 1, 1, 1]) (retK Try.prog Try.f27.results.toList K) (fun _ _ _ => False) (retK Try.prog Try.f27.results.toList K)) (fun i => @Bool.rec (fun _ => KE) ((fun _ _ _ => False) i) (cCode Try.prog (cd Try.f27 [1, 1, 1, 1, 1]) (retK Try.prog Try.f27.results.toList K) (fun _ _ _ => False) (retK Try.prog Try.f27.results.toList K)) (Nat.beq i 0)) (retK Try.prog Try.f27.results.toList K)) (b0 :: at1 :: k_2 :: b3 :: at4 :: k_5 :: t6 :: t7 :: t8 :: n9 :: (Value.int IntKind.i64 0) :: t11 :: t12 :: t13 :: t14 :: t15 :: t16 :: t17 :: t18 :: t19 :: t20 :: t21 :: t22 :: t23 :: t24 :: t25 :: t26 :: t27 :: t28 :: t29 :: t30 :: t31 :: t32 :: t33 :: t34 :: t35 :: t36 :: t37 :: t38 :: t39 :: t40 :: t41 :: t42 :: t43 :: t44 :: t45 :: t46 :: t47 :: t48 :: []) w) :
    cCode Try.prog (cd Try.f27 [1, 1, 1, 1]) (retK Try.prog Try.f27.results.toList K) (fun _ _ _ => False) (retK Try.prog Try.f27.results.toList K) (b0 :: at1 :: k_2 :: b3 :: at4 :: k_5 :: t6 :: t7 :: t8 :: n9 :: i10 :: t11 :: t12 :: t13 :: t14 :: t15 :: t16 :: t17 :: t18 :: t19 :: t20 :: t21 :: t22 :: t23 :: t24 :: t25 :: t26 :: t27 :: t28 :: t29 :: t30 :: t31 :: t32 :: t33 :: t34 :: t35 :: t36 :: t37 :: t38 :: t39 :: t40 :: t41 :: t42 :: t43 :: t44 :: t45 :: t46 :: t47 :: t48 :: []) w := Eq.mp (by kernel_rfl) h

theorem leatref01_Take_A1_r {K : KV} {b0 at1 k_2 b3 at4 k_5 t6 t7 t8 n9 i10 t11 t12 t13 t14 t15 t16 t17 t18 t19 t20 t21 t22 t23 t24 t25 t26 t27 t28 t29 t30 t31 t32 t33 t34 t35 t36 t37 t38 t39 t40 t41 t42 t43 t44 t45 t46 t47 t48 : Value} {w : World}
    (h : (leatref01_Take_L1 K) (b0 :: at1 :: k_2 :: b3 :: at4 :: k_5 :: t6 :: t7 :: t8 :: n9 :: (Value.int IntKind.i64 0) :: t11 :: t12 :: t13 :: t14 :: t15 :: t16 :: t17 :: t18 :: t19 :: t20 :: t21 :: t22 :: t23 :: t24 :: t25 :: t26 :: t27 :: t28 :: t29 :: t30 :: t31 :: t32 :: t33 :: t34 :: t35 :: t36 :: t37 :: t38 :: t39 :: t40 :: t41 :: t42 :: t43 :: t44 :: t45 :: t46 :: t47 :: t48 :: []) w) :
    leatref01_Take_A1 K (b0 :: at1 :: k_2 :: b3 :: at4 :: k_5 :: t6 :: t7 :: t8 :: n9 :: i10 :: t11 :: t12 :: t13 :: t14 :: t15 :: t16 :: t17 :: t18 :: t19 :: t20 :: t21 :: t22 :: t23 :: t24 :: t25 :: t26 :: t27 :: t28 :: t29 :: t30 :: t31 :: t32 :: t33 :: t34 :: t35 :: t36 :: t37 :: t38 :: t39 :: t40 :: t41 :: t42 :: t43 :: t44 :: t45 :: t46 :: t47 :: t48 :: []) w := by
  delta leatref01_Take_A1
  exact Eq.mp (congrArg (fun c => cCode Try.prog c (retK Try.prog Try.f27.results.toList K) (fun _ _ _ => False) (retK Try.prog Try.f27.results.toList K) (b0 :: at1 :: k_2 :: b3 :: at4 :: k_5 :: t6 :: t7 :: t8 :: n9 :: i10 :: t11 :: t12 :: t13 :: t14 :: t15 :: t16 :: t17 :: t18 :: t19 :: t20 :: t21 :: t22 :: t23 :: t24 :: t25 :: t26 :: t27 :: t28 :: t29 :: t30 :: t31 :: t32 :: t33 :: t34 :: t35 :: t36 :: t37 :: t38 :: t39 :: t40 :: t41 :: t42 :: t43 :: t44 :: t45 :: t46 :: t47 :: t48 :: []) w) (by kernel_rfl : (cd Try.f27 [1, 1, 1, 1]) = (cd Try.f27 [1, 1, 1, 1]))) (leatref01_Take_A1_k h)

theorem leatref01_Take_L1_k {K : KV} (B1 : KE) (q0 : KE) {b0 at1 k_2 b3 at4 k_5 t6 t7 t8 n9' i10' t11 t12 t13 t14 t15 t16 t17 t18 t19 t20 t21 t22 t23 t24 t25 t26 t27 t28 t29 t45 t46 t47 t48 : Value} {dd : Nat → Value} {w : World}
    (h : bin Try.prog BinOp.lss 3 false false i10' k_2 (fun t32 w =>
    cond t32
      (bin Try.prog BinOp.mul 56 true false (Value.int IntKind.u64 256) n9' (fun t36 w =>
    bin Try.prog BinOp.add 3 false false at1 i10' (fun t40 w =>
    idxA Try.prog 22 b0 t40 (fun t41 w =>
    ld Try.prog 5 t41 (fun t42 w =>
    conv Try.prog 5 56 t42 (fun t43 w =>
    bin Try.prog BinOp.add 56 false false t36 t43 (fun t44 w =>
    bin Try.prog BinOp.add 3 false true i10' (Value.int IntKind.i64 1) (fun t34 w =>
    B1 (b0 :: at1 :: k_2 :: b3 :: at4 :: k_5 :: t6 :: t7 :: t8 :: t44 :: t34 :: t11 :: t12 :: t13 :: t14 :: t15 :: t16 :: t17 :: t18 :: t19 :: t20 :: t21 :: t22 :: t23 :: t24 :: t25 :: t26 :: t27 :: t28 :: t29 :: i10' :: k_2 :: t32 :: i10' :: t34 :: n9' :: t36 :: b0 :: at1 :: i10' :: t40 :: t41 :: t42 :: t43 :: t44 :: t45 :: t46 :: t47 :: t48 :: []) w) w) w) w) w) w) w) w)
      (q0 (b0 :: at1 :: k_2 :: b3 :: at4 :: k_5 :: t6 :: t7 :: t8 :: n9' :: i10' :: t11 :: t12 :: t13 :: t14 :: t15 :: t16 :: t17 :: t18 :: t19 :: t20 :: t21 :: t22 :: t23 :: t24 :: t25 :: t26 :: t27 :: t28 :: t29 :: i10' :: k_2 :: t32 :: (dd 33) :: (dd 34) :: (dd 35) :: (dd 36) :: (dd 37) :: (dd 38) :: (dd 39) :: (dd 40) :: (dd 41) :: (dd 42) :: (dd 43) :: (dd 44) :: t45 :: t46 :: t47 :: t48 :: []) w)) w) :
    cCode Try.prog (cd Try.f27 [1, 1, 1, 1, 0, 1, 0, 0]) B1 (fun i => @Bool.rec (fun _ => KE) ((fun _ _ _ => False) i) q0 (Nat.beq i 0)) (retK Try.prog Try.f27.results.toList K) (b0 :: at1 :: k_2 :: b3 :: at4 :: k_5 :: t6 :: t7 :: t8 :: n9' :: i10' :: t11 :: t12 :: t13 :: t14 :: t15 :: t16 :: t17 :: t18 :: t19 :: t20 :: t21 :: t22 :: t23 :: t24 :: t25 :: t26 :: t27 :: t28 :: t29 :: (dd 30) :: (dd 31) :: (dd 32) :: (dd 33) :: (dd 34) :: (dd 35) :: (dd 36) :: (dd 37) :: (dd 38) :: (dd 39) :: (dd 40) :: (dd 41) :: (dd 42) :: (dd 43) :: (dd 44) :: t45 :: t46 :: t47 :: t48 :: []) w := Eq.mp (by kernel_rfl) h

theorem leatref01_Take_L1_r {K : KV} {b0 at1 k_2 b3 at4 k_5 t6 t7 t8 n9 i10 t11 t12 t13 t14 t15 t16 t17 t18 t19 t20 t21 t22 t23 t24 t25 t26 t27 t28 t29 t30 t31 t32 t33 t34 t35 t36 t37 t38 t39 t40 t41 t42 t43 t44 t45 t46 t47 t48 : Value} {w : World} (Inv : Value → Value → World → Prop) (μ : Value → Value → World → Nat) (h0 : Inv n9 i10 w)
    (hs : ∀ (n9' i10' : Value) (dd : Nat → Value) (w : World) (m : Nat), Inv n9' i10' w → m = μ n9' i10' w →
    bin Try.prog BinOp.lss 3 false false i10' k_2 (fun t32 w =>
    cond t32
      (bin Try.prog BinOp.mul 56 true false (Value.int IntKind.u64 256) n9' (fun t36 w =>
    bin Try.prog BinOp.add 3 false false at1 i10' (fun t40 w =>
    idxA Try.prog 22 b0 t40 (fun t41 w =>
    ld Try.prog 5 t41 (fun t42 w =>
    conv Try.prog 5 56 t42 (fun t43 w =>
    bin Try.prog BinOp.add 56 false false t36 t43 (fun t44 w =>
    bin Try.prog BinOp.add 3 false true i10' (Value.int IntKind.i64 1) (fun t34 w =>
    (Inv t44 t34 w ∧ μ t44 t34 w < m)) w) w) w) w) w) w) w)
      ((leatref01_Take_P1 K) (b0 :: at1 :: k_2 :: b3 :: at4 :: k_5 :: t6 :: t7 :: t8 :: n9' :: i10' :: t11 :: t12 :: t13 :: t14 :: t15 :: t16 :: t17 :: t18 :: t19 :: t20 :: t21 :: t22 :: t23 :: t24 :: t25 :: t26 :: t27 :: t28 :: t29 :: i10' :: k_2 :: t32 :: (dd 33) :: (dd 34) :: (dd 35) :: (dd 36) :: (dd 37) :: (dd 38) :: (dd 39) :: (dd 40) :: (dd 41) :: (dd 42) :: (dd 43) :: (dd 44) :: t45 :: t46 :: t47 :: t48 :: []) w)) w) :
    leatref01_Take_L1 K (b0 :: at1 :: k_2 :: b3 :: at4 :: k_5 :: t6 :: t7 :: t8 :: n9 :: i10 :: t11 :: t12 :: t13 :: t14 :: t15 :: t16 :: t17 :: t18 :: t19 :: t20 :: t21 :: t22 :: t23 :: t24 :: t25 :: t26 :: t27 :: t28 :: t29 :: t30 :: t31 :: t32 :: t33 :: t34 :: t35 :: t36 :: t37 :: t38 :: t39 :: t40 :: t41 :: t42 :: t43 :: t44 :: t45 :: t46 :: t47 :: t48 :: []) w := by
  refine loop_rule (cd Try.f27 [1, 1, 1, 1, 0, 1, 0, 0]) [9, 10, 30, 31, 32, 33, 34, 35, 36, 37, 38, 39, 40, 41, 42, 43, 44] (by kernel_rfl) (fun e2 w2 => Inv (gd e2 9) (gd e2 10) w2) (fun e2 w2 => μ (gd e2 9) (gd e2 10) w2) h0 ?_
  intro e' w' hI
  have h := hs (gd e' 9) (gd e' 10) (fun i => gd e' i) w' _ hI rfl
  have h2 : cCode Try.prog (cd Try.f27 [1, 1, 1, 1, 0, 1, 0, 0]) (fun e2 w2 => Inv (gd e2 9) (gd e2 10) w2 ∧ μ (gd e2 9) (gd e2 10) w2 < μ (gd e' 9) (gd e' 10) w') (fun i => @Bool.rec (fun _ => KE) ((fun _ _ _ => False) i) (leatref01_Take_P1 K) (Nat.beq i 0)) (retK Try.prog Try.f27.results.toList K) (b0 :: at1 :: k_2 :: b3 :: at4 :: k_5 :: t6 :: t7 :: t8 :: (gd e' 9) :: (gd e' 10) :: t11 :: t12 :: t13 :: t14 :: t15 :: t16 :: t17 :: t18 :: t19 :: t20 :: t21 :: t22 :: t23 :: t24 :: t25 :: t26 :: t27 :: t28 :: t29 :: (gd e' 30) :: (gd e' 31) :: (gd e' 32) :: (gd e' 33) :: (gd e' 34) :: (gd e' 35) :: (gd e' 36) :: (gd e' 37) :: (gd e' 38) :: (gd e' 39) :: (gd e' 40) :: (gd e' 41) :: (gd e' 42) :: (gd e' 43) :: (gd e' 44) :: t45 :: t46 :: t47 :: t48 :: []) w' := leatref01_Take_L1_k (fun e2 w2 => Inv (gd e2 9) (gd e2 10) w2 ∧ μ (gd e2 9) (gd e2 10) w2 < μ (gd e' 9) (gd e' 10) w') (leatref01_Take_P1 K) (Eq.mp (by kernel_rfl) h)
  exact Eq.mp (by kernel_rfl) h2

theorem leatref01_Take_P1_k {K : KV} {b0 at1 k_2 b3 at4 k_5 t6 t7 t8 n9 i10 t11 t12 t13 t14 t15 t16 t17 t18 t19 t20 t21 t22 t23 t24 t25 t26 t27 t28 t29 t30 t31 t32 t33 t34 t35 t36 t37 t38 t39 t40 t41 t42 t43 t44 t45 t46 t47 t48 : Value} {w : World}
    (h : bin Try.prog BinOp.add 3 false false at1 k_2 (fun t48 w =>
    K (Value.tuple #[n9, t48, (Value.int IntKind.i64 0)]) w) w) :
    cCode Try.prog (cd Try.f27 [1, 1, 1, 1, 1]) (retK Try.prog Try.f27.results.toList K) (fun _ _ _ => False) (retK Try.prog Try.f27.results.toList K) (b0 :: at1 :: k_2 :: b3 :: at4 :: k_5 :: t6 :: t7 :: t8 :: n9 :: i10 :: t11 :: t12 :: t13 :: t14 :: t15 :: t16 :: t17 :: t18 :: t19 :: t20 :: t21 :: t22 :: t23 :: t24 :: t25 :: t26 :: t27 :: t28 :: t29 :: t30 :: t31 :: t32 :: t33 :: t34 :: t35 :: t36 :: t37 :: t38 :: t39 :: t40 :: t41 :: t42 :: t43 :: t44 :: t45 :: t46 :: t47 :: t48 :: []) w := Eq.mp (by kernel_rfl) h

theorem leatref01_Take_P1_r {K : KV} {b0 at1 k_2 b3 at4 k_5 t6 t7 t8 n9 i10 t11 t12 t13 t14 t15 t16 t17 t18 t19 t20 t21 t22 t23 t24 t25 t26 t27 t28 t29 t30 t31 t32 t33 t34 t35 t36 t37 t38 t39 t40 t41 t42 t43 t44 t45 t46 t47 t48 : Value} {w : World}
    (h : bin Try.prog BinOp.add 3 false false at1 k_2 (fun t48 w =>
    K (Value.tuple #[n9, t48, (Value.int IntKind.i64 0)]) w) w) :
    leatref01_Take_P1 K (b0 :: at1 :: k_2 :: b3 :: at4 :: k_5 :: t6 :: t7 :: t8 :: n9 :: i10 :: t11 :: t12 :: t13 :: t14 :: t15 :: t16 :: t17 :: t18 :: t19 :: t20 :: t21 :: t22 :: t23 :: t24 :: t25 :: t26 :: t27 :: t28 :: t29 :: t30 :: t31 :: t32 :: t33 :: t34 :: t35 :: t36 :: t37 :: t38 :: t39 :: t40 :: t41 :: t42 :: t43 :: t44 :: t45 :: t46 :: t47 :: t48 :: []) w := by
  delta leatref01_Take_P1
  exact Eq.mp (congrArg (fun c => cCode Try.prog c (retK Try.prog Try.f27.results.toList K) (fun _ _ _ => False) (retK Try.prog Try.f27.results.toList K) (b0 :: at1 :: k_2 :: b3 :: at4 :: k_5 :: t6 :: t7 :: t8 :: n9 :: i10 :: t11 :: t12 :: t13 :: t14 :: t15 :: t16 :: t17 :: t18 :: t19 :: t20 :: t21 :: t22 :: t23 :: t24 :: t25 :: t26 :: t27 :: t28 :: t29 :: t30 :: t31 :: t32 :: t33 :: t34 :: t35 :: t36 :: t37 :: t38 :: t39 :: t40 :: t41 :: t42 :: t43 :: t44 :: t45 :: t46 :: t47 :: t48 :: []) w) (by kernel_rfl : (cd Try.f27 [1, 1, 1, 1, 1]) = (cd Try.f27 [1, 1, 1, 1, 1]))) (leatref01_Take_P1_k h)
attribute [irreducible] leatref01_Take_A1 leatref01_Take_P1 leatref01_Take_L1


theorem leatref01_size_k {K : KV} {k_0 : Value} {w : World}
    (h : bin Try.prog BinOp.eql 3 false true k_0 (Value.int IntKind.i64 1) (fun t4 w =>
    gsel t4 false (fun k6 =>
    bin Try.prog BinOp.eql 3 false true k_0 (Value.int IntKind.i64 2) (fun t7 w =>
    k6 [k_0, t7] w) w)
    (fun k => k [undef, undef] w) (fun us6 w =>
    pick t4 (Value.bool true) (gd us6 1) (fun t8 w =>
    gsel t8 false (fun k10 =>
    bin Try.prog BinOp.eql 3 false true k_0 (Value.int IntKind.i64 4) (fun t11 w =>
    k10 [k_0, t11] w) w)
    (fun k => k [undef, undef] w) (fun us10 w =>
    pick t8 (Value.bool true) (gd us10 1) (fun t12 w =>
    gsel t12 false (fun k14 =>
    bin Try.prog BinOp.eql 3 false true k_0 (Value.int IntKind.i64 8) (fun t15 w =>
    k14 [k_0, t15] w) w)
    (fun k => k [undef, undef] w) (fun us14 w =>
    pick t12 (Value.bool true) (gd us14 1) (fun t16 w =>
    K t16 w) w)) w)) w)) w) :
    cCode Try.prog (cd Try.f33 []) (retK Try.prog Try.f33.results.toList K) (fun _ _ _ => False) (retK Try.prog Try.f33.results.toList K) [k_0, undef, undef, undef, undef, undef, undef, undef, undef, undef, undef, undef, undef, undef, undef, undef, undef] w := Eq.mp (by kernel_rfl) h

theorem leatref01_size_in {K : KV} {k_0 : Value} {w : World}
    (h : bin Try.prog BinOp.eql 3 false true k_0 (Value.int IntKind.i64 1) (fun t4 w =>
    gsel t4 false (fun k6 =>
    bin Try.prog BinOp.eql 3 false true k_0 (Value.int IntKind.i64 2) (fun t7 w =>
    k6 [k_0, t7] w) w)
    (fun k => k [undef, undef] w) (fun us6 w =>
    pick t4 (Value.bool true) (gd us6 1) (fun t8 w =>
    gsel t8 false (fun k10 =>
    bin Try.prog BinOp.eql 3 false true k_0 (Value.int IntKind.i64 4) (fun t11 w =>
    k10 [k_0, t11] w) w)
    (fun k => k [undef, undef] w) (fun us10 w =>
    pick t8 (Value.bool true) (gd us10 1) (fun t12 w =>
    gsel t12 false (fun k14 =>
    bin Try.prog BinOp.eql 3 false true k_0 (Value.int IntKind.i64 8) (fun t15 w =>
    k14 [k_0, t15] w) w)
    (fun k => k [undef, undef] w) (fun us14 w =>
    pick t12 (Value.bool true) (gd us14 1) (fun t16 w =>
    K t16 w) w)) w)) w)) w) :
    Gives Try.prog 33 #[k_0] w K := enter' Try.func33 (by kernel_rfl) (Eq.mp (congrArg (fun c => cCode Try.prog c (retK Try.prog Try.f33.results.toList K) (fun _ _ _ => False) (retK Try.prog Try.f33.results.toList K) [k_0, undef, undef, undef, undef, undef, undef, undef, undef, undef, undef, undef, undef, undef, undef, undef, undef] w) (by kernel_rfl : (cd Try.f33 []) = (cd Try.f33 []))) (leatref01_size_k (h : bin Try.prog BinOp.eql 3 false true k_0 (Value.int IntKind.i64 1) (fun t4 w =>
    gsel t4 false (fun k6 =>
    bin Try.prog BinOp.eql 3 false true k_0 (Value.int IntKind.i64 2) (fun t7 w =>
    k6 [k_0, t7] w) w)
    (fun k => k [undef, undef] w) (fun us6 w =>
    pick t4 (Value.bool true) (gd us6 1) (fun t8 w =>
    gsel t8 false (fun k10 =>
    bin Try.prog BinOp.eql 3 false true k_0 (Value.int IntKind.i64 4) (fun t11 w =>
    k10 [k_0, t11] w) w)
    (fun k => k [undef, undef] w) (fun us10 w =>
    pick t8 (Value.bool true) (gd us10 1) (fun t12 w =>
    gsel t12 false (fun k14 =>
    bin Try.prog BinOp.eql 3 false true k_0 (Value.int IntKind.i64 8) (fun t15 w =>
    k14 [k_0, t15] w) w)
    (fun k => k [undef, undef] w) (fun us14 w =>
    pick t12 (Value.bool true) (gd us14 1) (fun t16 w =>
    K t16 w) w)) w)) w)) w)))
theorem leatref01_size_go : isGo Try.prog 33 := ⟨_, Try.func33, by kernel_rfl, by kernel_rfl⟩

def leatref01_Same_P1 (K : KV) : KE := cCode Try.prog (cd Try.f12 [1, 1, 1]) (retK Try.prog Try.f12.results.toList K) (fun _ _ _ => False) (retK Try.prog Try.f12.results.toList K)
def leatref01_Same_L1 (K : KV) : KE := cCode Try.prog (cd Try.f12 [1, 1, 0, 1, 0]) (leatref01_Same_P1 K) (fun i => @Bool.rec (fun _ => KE) ((fun _ _ _ => False) i) (leatref01_Same_P1 K) (Nat.beq i 0)) (retK Try.prog Try.f12.results.toList K)
theorem leatref01_Same_k {K : KV} {a0 b1 : Value} {w : World}
    (h : blt Try.prog Builtin.len #[26] 3 #[false] #[a0] (fun t7 w =>
    blt Try.prog Builtin.len #[26] 3 #[false] #[b1] (fun t9 w =>
    bin Try.prog BinOp.neq 3 false false t7 t9 (fun t10 w =>
    cond t10
      (K (Value.bool false) w)
      ((cCode Try.prog (cd Try.f12 [1, 1, 0, 1, 0]) (cCode Try.prog (cd Try.f12 [1, 1, 1]) (retK Try.prog Try.f12.results.toList K) (fun _ _ _ => False) (retK Try.prog Try.f12.results.toList K)) (fun i => @Bool.rec (fun _ => KE) ((fun _ _ _ => False) i) (cCode Try.prog (cd Try.f12 [1, 1, 1]) (retK Try.prog Try.f12.results.toList K) (fun _ _ _ => False) (retK Try.prog Try.f12.results.toList K)) (Nat.beq i 0)) (retK Try.prog Try.f12.results.toList K)) [a0, b1, undef, undef, (Value.bool false), (Value.int IntKind.i64 0), a0, t7, b1, t9, t10, undef, undef, undef, undef, undef, undef, undef, undef, undef, undef, undef, undef, undef, undef, undef, undef, undef] w)) w) w) w) :
    cCode Try.prog (cd Try.f12 []) (retK Try.prog Try.f12.results.toList K) (fun _ _ _ => False) (retK Try.prog Try.f12.results.toList K) [a0, b1, undef, undef, undef, undef, undef, undef, undef, undef, undef, undef, undef, undef, undef, undef, undef, undef, undef, undef, undef, undef, undef, undef, undef, undef, undef, undef] w := Eq.mp (by kernel_rfl) h

theorem leatref01_Same_in {K : KV} {a0 b1 : Value} {w : World}
    (h : blt Try.prog Builtin.len #[26] 3 #[false] #[a0] (fun t7 w =>
    blt Try.prog Builtin.len #[26] 3 #[false] #[b1] (fun t9 w =>
    bin Try.prog BinOp.neq 3 false false t7 t9 (fun t10 w =>
    cond t10
      (K (Value.bool false) w)
      ((leatref01_Same_L1 K) [a0, b1, undef, undef, (Value.bool false), (Value.int IntKind.i64 0), a0, t7, b1, t9, t10, undef, undef, undef, undef, undef, undef, undef, undef, undef, undef, undef, undef, undef, undef, undef, undef, undef] w)) w) w) w) :
    Gives Try.prog 12 #[a0, b1] w K := enter' Try.func12 (by kernel_rfl) (Eq.mp (congrArg (fun c => cCode Try.prog c (retK Try.prog Try.f12.results.toList K) (fun _ _ _ => False) (retK Try.prog Try.f12.results.toList K) [a0, b1, undef, undef, undef, undef, undef, undef, undef, undef, undef, undef, undef, undef, undef, undef, undef, undef, undef, undef, undef, undef, undef, undef, undef, undef, undef, undef] w) (by kernel_rfl : (cd Try.f12 []) = (cd Try.f12 []))) (leatref01_Same_k (h : blt Try.prog Builtin.len #[26] 3 #[false] #[a0] (fun t7 w =>
    blt Try.prog Builtin.len #[26] 3 #[false] #[b1] (fun t9 w =>
    bin Try.prog BinOp.neq 3 false false t7 t9 (fun t10 w =>
    cond t10
      (K (Value.bool false) w)
      ((leatref01_Same_L1 K) [a0, b1, undef, undef, (Value.bool false), (Value.int IntKind.i64 0), a0, t7, b1, t9, t10, undef, undef, undef, undef, undef, undef, undef, undef, undef, undef, undef, undef, undef, undef, undef, undef, undef] w)) w) w) w)))
theorem leatref01_Same_go : isGo Try.prog 12 := ⟨_, Try.func12, by kernel_rfl, by kernel_rfl⟩

theorem leatref01_Same_L1_k {K : KV} (B1 : KE) (q0 : KE) {a0 b1 a2 b3 i5' t6 t7 t8 t9 t10 : Value} {dd : Nat → Value} {w : World}
    (h : blt Try.prog Builtin.len #[26] 3 #[false] #[a0] (fun t13 w =>
    bin Try.prog BinOp.lss 3 false false i5' t13 (fun t14 w =>
    cond t14
      ((fun w =>
    sti (fun k w => idxA Try.prog 26 a0 i5' k w) (fun t19 w =>
    sti (fun k w => ld Try.prog 22 t19 k w) (fun t20 w =>
    sti (fun k w => conv Try.prog 22 9 t20 k w) (fun t21 w =>
    sti (fun k w => idxA Try.prog 26 b1 i5' k w) (fun t24 w =>
    sti (fun k w => ld Try.prog 22 t24 k w) (fun t25 w =>
    sti (fun k w => conv Try.prog 22 9 t25 k w) (fun t26 w =>
    sti (fun k w => bin Try.prog BinOp.neq 9 false false t21 t26 k w) (fun t27 w =>
    cond t27
      (K (Value.bool false) w)
      (bin Try.prog BinOp.add 3 false true i5' (Value.int IntKind.i64 1) (fun t16 w =>
    B1 [a0, b1, a2, b3, (dd 4), t16, t6, t7, t8, t9, t10, i5', a0, t13, t14, i5', t16, a0, i5', t19, t20, t21, b1, i5', t24, t25, t26, t27] w) w)) w) w) w) w) w) w) w) w.drew)
      (q0 [a0, b1, a2, b3, (dd 4), i5', t6, t7, t8, t9, t10, i5', a0, t13, t14, (dd 15), (dd 16), (dd 17), (dd 18), (dd 19), (dd 20), (dd 21), (dd 22), (dd 23), (dd 24), (dd 25), (dd 26), (dd 27)] w)) w) w) :
    cCode Try.prog (cd Try.f12 [1, 1, 0, 1, 0, 0]) B1 (fun i => @Bool.rec (fun _ => KE) ((fun _ _ _ => False) i) q0 (Nat.beq i 0)) (retK Try.prog Try.f12.results.toList K) [a0, b1, a2, b3, (dd 4), i5', t6, t7, t8, t9, t10, (dd 11), (dd 12), (dd 13), (dd 14), (dd 15), (dd 16), (dd 17), (dd 18), (dd 19), (dd 20), (dd 21), (dd 22), (dd 23), (dd 24), (dd 25), (dd 26), (dd 27)] w := Eq.mp (by kernel_rfl) h

theorem leatref01_Same_L1_r {K : KV} {a0 b1 a2 b3 t4 i5 t6 t7 t8 t9 t10 t11 t12 t13 t14 t15 t16 t17 t18 t19 t20 t21 t22 t23 t24 t25 t26 t27 : Value} {w : World} (Inv : Value → World → Prop) (μ : Value → World → Nat) (h0 : Inv i5 w)
    (hs : ∀ (i5' : Value) (dd : Nat → Value) (w : World) (m : Nat), Inv i5' w → m = μ i5' w →
    blt Try.prog Builtin.len #[26] 3 #[false] #[a0] (fun t13 w =>
    bin Try.prog BinOp.lss 3 false false i5' t13 (fun t14 w =>
    cond t14
      ((fun w =>
    sti (fun k w => idxA Try.prog 26 a0 i5' k w) (fun t19 w =>
    sti (fun k w => ld Try.prog 22 t19 k w) (fun t20 w =>
    sti (fun k w => conv Try.prog 22 9 t20 k w) (fun t21 w =>
    sti (fun k w => idxA Try.prog 26 b1 i5' k w) (fun t24 w =>
    sti (fun k w => ld Try.prog 22 t24 k w) (fun t25 w =>
    sti (fun k w => conv Try.prog 22 9 t25 k w) (fun t26 w =>
    sti (fun k w => bin Try.prog BinOp.neq 9 false false t21 t26 k w) (fun t27 w =>
    cond t27
      (K (Value.bool false) w)
      (bin Try.prog BinOp.add 3 false true i5' (Value.int IntKind.i64 1) (fun t16 w =>
    (Inv t16 w ∧ μ t16 w < m)) w)) w) w) w) w) w) w) w) w.drew)
      ((leatref01_Same_P1 K) [a0, b1, a2, b3, (dd 4), i5', t6, t7, t8, t9, t10, i5', a0, t13, t14, (dd 15), (dd 16), (dd 17), (dd 18), (dd 19), (dd 20), (dd 21), (dd 22), (dd 23), (dd 24), (dd 25), (dd 26), (dd 27)] w)) w) w) :
    leatref01_Same_L1 K [a0, b1, a2, b3, t4, i5, t6, t7, t8, t9, t10, t11, t12, t13, t14, t15, t16, t17, t18, t19, t20, t21, t22, t23, t24, t25, t26, t27] w := by
  refine loop_rule (cd Try.f12 [1, 1, 0, 1, 0, 0]) [4, 5, 11, 12, 13, 14, 15, 16, 17, 18, 19, 20, 21, 22, 23, 24, 25, 26, 27] (by kernel_rfl) (fun e2 w2 => Inv (gd e2 5) w2) (fun e2 w2 => μ (gd e2 5) w2) h0 ?_
  intro e' w' hI
  have h := hs (gd e' 5) (fun i => gd e' i) w' _ hI rfl
  have h2 : cCode Try.prog (cd Try.f12 [1, 1, 0, 1, 0, 0]) (fun e2 w2 => Inv (gd e2 5) w2 ∧ μ (gd e2 5) w2 < μ (gd e' 5) w') (fun i => @Bool.rec (fun _ => KE) ((fun _ _ _ => False) i) (leatref01_Same_P1 K) (Nat.beq i 0)) (retK Try.prog Try.f12.results.toList K) [a0, b1, a2, b3, (gd e' 4), (gd e' 5), t6, t7, t8, t9, t10, (gd e' 11), (gd e' 12), (gd e' 13), (gd e' 14), (gd e' 15), (gd e' 16), (gd e' 17), (gd e' 18), (gd e' 19), (gd e' 20), (gd e' 21), (gd e' 22), (gd e' 23), (gd e' 24), (gd e' 25), (gd e' 26), (gd e' 27)] w' := leatref01_Same_L1_k (fun e2 w2 => Inv (gd e2 5) w2 ∧ μ (gd e2 5) w2 < μ (gd e' 5) w') (leatref01_Same_P1 K) (Eq.mp (by kernel_rfl) h)
  exact Eq.mp (by kernel_rfl) h2

theorem leatref01_Same_P1_k {K : KV} {a0 b1 a2 b3 t4 i5 t6 t7 t8 t9 t10 t11 t12 t13 t14 t15 t16 t17 t18 t19 t20 t21 t22 t23 t24 t25 t26 t27 : Value} {w : World}
    (h : K (Value.bool true) w) :
    cCode Try.prog (cd Try.f12 [1, 1, 1]) (retK Try.prog Try.f12.results.toList K) (fun _ _ _ => False) (retK Try.prog Try.f12.results.toList K) [a0, b1, a2, b3, t4, i5, t6, t7, t8, t9, t10, t11, t12, t13, t14, t15, t16, t17, t18, t19, t20, t21, t22, t23, t24, t25, t26, t27] w := Eq.mp (by kernel_rfl) h

theorem leatref01_Same_P1_r {K : KV} {a0 b1 a2 b3 t4 i5 t6 t7 t8 t9 t10 t11 t12 t13 t14 t15 t16 t17 t18 t19 t20 t21 t22 t23 t24 t25 t26 t27 : Value} {w : World}
    (h : K (Value.bool true) w) :
    leatref01_Same_P1 K [a0, b1, a2, b3, t4, i5, t6, t7, t8, t9, t10, t11, t12, t13, t14, t15, t16, t17, t18, t19, t20, t21, t22, t23, t24, t25, t26, t27] w := by
  delta leatref01_Same_P1
  exact Eq.mp (congrArg (fun c => cCode Try.prog c (retK Try.prog Try.f12.results.toList K) (fun _ _ _ => False) (retK Try.prog Try.f12.results.toList K) [a0, b1, a2, b3, t4, i5, t6, t7, t8, t9, t10, t11, t12, t13, t14, t15, t16, t17, t18, t19, t20, t21, t22, t23, t24, t25, t26, t27] w) (by kernel_rfl : (cd Try.f12 [1, 1, 1]) = (cd Try.f12 [1, 1, 1]))) (leatref01_Same_P1_k h)
attribute [irreducible] leatref01_Same_P1 leatref01_Same_L1

def leatref01_Vast_P1 (K : KV) : KE := cCode Try.prog (cd Try.f15 [1, 1, 1]) (retK Try.prog Try.f15.results.toList K) (fun _ _ _ => False) (retK Try.prog Try.f15.results.toList K)
def leatref01_Vast_L1 (K : KV) : KE := cCode Try.prog (cd Try.f15 [1, 1, 0, 1, 0]) (leatref01_Vast_P1 K) (fun i => @Bool.rec (fun _ => KE) ((fun _ _ _ => False) i) (leatref01_Vast_P1 K) (Nat.beq i 0)) (retK Try.prog Try.f15.results.toList K)
theorem leatref01_Vast_k {K : KV} {l0 most1 : Value} {w : World}
    (h : blt Try.prog Builtin.len #[26] 3 #[false] #[l0] (fun t8 w =>
    (cCode Try.prog (cd Try.f15 [1, 1, 0, 1, 0]) (cCode Try.prog (cd Try.f15 [1, 1, 1]) (retK Try.prog Try.f15.results.toList K) (fun _ _ _ => False) (retK Try.prog Try.f15.results.toList K)) (fun i => @Bool.rec (fun _ => KE) ((fun _ _ _ => False) i) (cCode Try.prog (cd Try.f15 [1, 1, 1]) (retK Try.prog Try.f15.results.toList K) (fun _ _ _ => False) (retK Try.prog Try.f15.results.toList K)) (Nat.beq i 0)) (retK Try.prog Try.f15.results.toList K)) [l0, most1, undef, undef, (Value.bool false), t8, (Value.int IntKind.i64 0), l0, t8, undef, undef, undef, undef, undef, undef, undef, undef, undef, undef, undef, undef, undef, undef, undef, undef] w) w) :
    cCode Try.prog (cd Try.f15 []) (retK Try.prog Try.f15.results.toList K) (fun _ _ _ => False) (retK Try.prog Try.f15.results.toList K) [l0, most1, undef, undef, undef, undef, undef, undef, undef, undef, undef, undef, undef, undef, undef, undef, undef, undef, undef, undef, undef, undef, undef, undef, undef] w := Eq.mp (by kernel_rfl) h

theorem leatref01_Vast_in {K : KV} {l0 most1 : Value} {w : World}
    (h : blt Try.prog Builtin.len #[26] 3 #[false] #[l0] (fun t8 w =>
    (leatref01_Vast_L1 K) [l0, most1, undef, undef, (Value.bool false), t8, (Value.int IntKind.i64 0), l0, t8, undef, undef, undef, undef, undef, undef, undef, undef, undef, undef, undef, undef, undef, undef, undef, undef] w) w) :
    Gives Try.prog 15 #[l0, most1] w K := enter' Try.func15 (by kernel_rfl) (Eq.mp (congrArg (fun c => cCode Try.prog c (retK Try.prog Try.f15.results.toList K) (fun _ _ _ => False) (retK Try.prog Try.f15.results.toList K) [l0, most1, undef, undef, undef, undef, undef, undef, undef, undef, undef, undef, undef, undef, undef, undef, undef, undef, undef, undef, undef, undef, undef, undef, undef] w) (by kernel_rfl : (cd Try.f15 []) = (cd Try.f15 []))) (leatref01_Vast_k (h : blt Try.prog Builtin.len #[26] 3 #[false] #[l0] (fun t8 w =>
    (leatref01_Vast_L1 K) [l0, most1, undef, undef, (Value.bool false), t8, (Value.int IntKind.i64 0), l0, t8, undef, undef, undef, undef, undef, undef, undef, undef, undef, undef, undef, undef, undef, undef, undef, undef] w) w)))
theorem leatref01_Vast_go : isGo Try.prog 15 := ⟨_, Try.func15, by kernel_rfl, by kernel_rfl⟩

theorem leatref01_Vast_L1_k {K : KV} (B1 : KE) (q0 : KE) {l0 most1 l2 most3 t4 n5' i6' t7 t8 t22 t23 t24 : Value} {dd : Nat → Value} {w : World}
    (h : blt Try.prog Builtin.len #[26] 3 #[false] #[l0] (fun t11 w =>
    bin Try.prog BinOp.lss 3 false false i6' t11 (fun t12 w =>
    cond t12
      (idxA Try.prog 26 l0 i6' (fun t18 w =>
    ld Try.prog 22 t18 (fun t19 w =>
    blt Try.prog Builtin.len #[22] 3 #[false] #[t19] (fun t20 w =>
    bin Try.prog BinOp.add 3 false false n5' t20 (fun t21 w =>
    bin Try.prog BinOp.add 3 false true i6' (Value.int IntKind.i64 1) (fun t14 w =>
    B1 [l0, most1, l2, most3, t4, t21, t14, t7, t8, i6', l0, t11, t12, i6', t14, n5', l0, i6', t18, t19, t20, t21, t22, t23, t24] w) w) w) w) w) w)
      (q0 [l0, most1, l2, most3, t4, n5', i6', t7, t8, i6', l0, t11, t12, (dd 13), (dd 14), (dd 15), (dd 16), (dd 17), (dd 18), (dd 19), (dd 20), (dd 21), t22, t23, t24] w)) w) w) :
    cCode Try.prog (cd Try.f15 [1, 1, 0, 1, 0, 0]) B1 (fun i => @Bool.rec (fun _ => KE) ((fun _ _ _ => False) i) q0 (Nat.beq i 0)) (retK Try.prog Try.f15.results.toList K) [l0, most1, l2, most3, t4, n5', i6', t7, t8, (dd 9), (dd 10), (dd 11), (dd 12), (dd 13), (dd 14), (dd 15), (dd 16), (dd 17), (dd 18), (dd 19), (dd 20), (dd 21), t22, t23, t24] w := Eq.mp (by kernel_rfl) h

theorem leatref01_Vast_L1_r {K : KV} {l0 most1 l2 most3 t4 n5 i6 t7 t8 t9 t10 t11 t12 t13 t14 t15 t16 t17 t18 t19 t20 t21 t22 t23 t24 : Value} {w : World} (Inv : Value → Value → World → Prop) (μ : Value → Value → World → Nat) (h0 : Inv n5 i6 w)
    (hs : ∀ (n5' i6' : Value) (dd : Nat → Value) (w : World) (m : Nat), Inv n5' i6' w → m = μ n5' i6' w →
    blt Try.prog Builtin.len #[26] 3 #[false] #[l0] (fun t11 w =>
    bin Try.prog BinOp.lss 3 false false i6' t11 (fun t12 w =>
    cond t12
      (idxA Try.prog 26 l0 i6' (fun t18 w =>
    ld Try.prog 22 t18 (fun t19 w =>
    blt Try.prog Builtin.len #[22] 3 #[false] #[t19] (fun t20 w =>
    bin Try.prog BinOp.add 3 false false n5' t20 (fun t21 w =>
    bin Try.prog BinOp.add 3 false true i6' (Value.int IntKind.i64 1) (fun t14 w =>
    (Inv t21 t14 w ∧ μ t21 t14 w < m)) w) w) w) w) w)
      ((leatref01_Vast_P1 K) [l0, most1, l2, most3, t4, n5', i6', t7, t8, i6', l0, t11, t12, (dd 13), (dd 14), (dd 15), (dd 16), (dd 17), (dd 18), (dd 19), (dd 20), (dd 21), t22, t23, t24] w)) w) w) :
    leatref01_Vast_L1 K [l0, most1, l2, most3, t4, n5, i6, t7, t8, t9, t10, t11, t12, t13, t14, t15, t16, t17, t18, t19, t20, t21, t22, t23, t24] w := by
  refine loop_rule (cd Try.f15 [1, 1, 0, 1, 0, 0]) [5, 6, 9, 10, 11, 12, 13, 14, 15, 16, 17, 18, 19, 20, 21] (by kernel_rfl) (fun e2 w2 => Inv (gd e2 5) (gd e2 6) w2) (fun e2 w2 => μ (gd e2 5) (gd e2 6) w2) h0 ?_
  intro e' w' hI
  have h := hs (gd e' 5) (gd e' 6) (fun i => gd e' i) w' _ hI rfl
  have h2 : cCode Try.prog (cd Try.f15 [1, 1, 0, 1, 0, 0]) (fun e2 w2 => Inv (gd e2 5) (gd e2 6) w2 ∧ μ (gd e2 5) (gd e2 6) w2 < μ (gd e' 5) (gd e' 6) w') (fun i => @Bool.rec (fun _ => KE) ((fun _ _ _ => False) i) (leatref01_Vast_P1 K) (Nat.beq i 0)) (retK Try.prog Try.f15.results.toList K) [l0, most1, l2, most3, t4, (gd e' 5), (gd e' 6), t7, t8, (gd e' 9), (gd e' 10), (gd e' 11), (gd e' 12), (gd e' 13), (gd e' 14), (gd e' 15), (gd e' 16), (gd e' 17), (gd e' 18), (gd e' 19), (gd e' 20), (gd e' 21), t22, t23, t24] w' := leatref01_Vast_L1_k (fun e2 w2 => Inv (gd e2 5) (gd e2 6) w2 ∧ μ (gd e2 5) (gd e2 6) w2 < μ (gd e' 5) (gd e' 6) w') (leatref01_Vast_P1 K) (Eq.mp (by kernel_rfl) h)
  exact Eq.mp (by kernel_rfl) h2

theorem leatref01_Vast_P1_k {K : KV} {l0 most1 l2 most3 t4 n5 i6 t7 t8 t9 t10 t11 t12 t13 t14 t15 t16 t17 t18 t19 t20 t21 t22 t23 t24 : Value} {w : World}
    (h : bin Try.prog BinOp.gtr 3 false false n5 most1 (fun t24 w =>
    K t24 w) w) :
    cCode Try.prog (cd Try.f15 [1, 1, 1]) (retK Try.prog Try.f15.results.toList K) (fun _ _ _ => False) (retK Try.prog Try.f15.results.toList K) [l0, most1, l2, most3, t4, n5, i6, t7, t8, t9, t10, t11, t12, t13, t14, t15, t16, t17, t18, t19, t20, t21, t22, t23, t24] w := Eq.mp (by kernel_rfl) h

theorem leatref01_Vast_P1_r {K : KV} {l0 most1 l2 most3 t4 n5 i6 t7 t8 t9 t10 t11 t12 t13 t14 t15 t16 t17 t18 t19 t20 t21 t22 t23 t24 : Value} {w : World}
    (h : bin Try.prog BinOp.gtr 3 false false n5 most1 (fun t24 w =>
    K t24 w) w) :
    leatref01_Vast_P1 K [l0, most1, l2, most3, t4, n5, i6, t7, t8, t9, t10, t11, t12, t13, t14, t15, t16, t17, t18, t19, t20, t21, t22, t23, t24] w := by
  delta leatref01_Vast_P1
  exact Eq.mp (congrArg (fun c => cCode Try.prog c (retK Try.prog Try.f15.results.toList K) (fun _ _ _ => False) (retK Try.prog Try.f15.results.toList K) [l0, most1, l2, most3, t4, n5, i6, t7, t8, t9, t10, t11, t12, t13, t14, t15, t16, t17, t18, t19, t20, t21, t22, t23, t24] w) (by kernel_rfl : (cd Try.f15 [1, 1, 1]) = (cd Try.f15 [1, 1, 1]))) (leatref01_Vast_P1_k h)
attribute [irreducible] leatref01_Vast_P1 leatref01_Vast_L1

def leatref01_Copy_P1 (K : KV) : KE := cCode Try.prog (cd Try.f17 [1, 1, 1]) (retK Try.prog Try.f17.results.toList K) (fun _ _ _ => False) (retK Try.prog Try.f17.results.toList K)
def leatref01_Copy_L1 (K : KV) : KE := cCode Try.prog (cd Try.f17 [1, 1, 0, 1, 0]) (leatref01_Copy_P1 K) (fun i => @Bool.rec (fun _ => KE) ((fun _ _ _ => False) i) (leatref01_Copy_P1 K) (Nat.beq i 0)) (retK Try.prog Try.f17.results.toList K)
theorem leatref01_Copy_k {K : KV} {l0 : Value} {w : World}
    (h : (cCode Try.prog (cd Try.f17 [1, 1, 0, 1, 0]) (cCode Try.prog (cd Try.f17 [1, 1, 1]) (retK Try.prog Try.f17.results.toList K) (fun _ _ _ => False) (retK Try.prog Try.f17.results.toList K)) (fun i => @Bool.rec (fun _ => KE) ((fun _ _ _ => False) i) (cCode Try.prog (cd Try.f17 [1, 1, 1]) (retK Try.prog Try.f17.results.toList K) (fun _ _ _ => False) (retK Try.prog Try.f17.results.toList K)) (Nat.beq i 0)) (retK Try.prog Try.f17.results.toList K)) [l0, undef, (Value.slice none 0 0), (Value.slice none 0 0), (Value.int IntKind.i64 0), undef, undef, undef, undef, undef, undef, undef, undef, undef, undef, undef, undef, undef, undef, undef, undef] w) :
    cCode Try.prog (cd Try.f17 []) (retK Try.prog Try.f17.results.toList K) (fun _ _ _ => False) (retK Try.prog Try.f17.results.toList K) [l0, undef, undef, undef, undef, undef, undef, undef, undef, undef, undef, undef, undef, undef, undef, undef, undef, undef, undef, undef, undef] w := Eq.mp (by kernel_rfl) h

theorem leatref01_Copy_in {K : KV} {l0 : Value} {w : World}
    (h : (leatref01_Copy_L1 K) [l0, undef, (Value.slice none 0 0), (Value.slice none 0 0), (Value.int IntKind.i64 0), undef, undef, undef, undef, undef, undef, undef, undef, undef, undef, undef, undef, undef, undef, undef, undef] w) :
    Gives Try.prog 17 #[l0] w K := enter' Try.func17 (by kernel_rfl) (Eq.mp (congrArg (fun c => cCode Try.prog c (retK Try.prog Try.f17.results.toList K) (fun _ _ _ => False) (retK Try.prog Try.f17.results.toList K) [l0, undef, undef, undef, undef, undef, undef, undef, undef, undef, undef, undef, undef, undef, undef, undef, undef, undef, undef, undef, undef] w) (by kernel_rfl : (cd Try.f17 []) = (cd Try.f17 []))) (leatref01_Copy_k (h : (leatref01_Copy_L1 K) [l0, undef, (Value.slice none 0 0), (Value.slice none 0 0), (Value.int IntKind.i64 0), undef, undef, undef, undef, undef, undef, undef, undef, undef, undef, undef, undef, undef, undef, undef, undef] w)))
theorem leatref01_Copy_go : isGo Try.prog 17 := ⟨_, Try.func17, by kernel_rfl, by kernel_rfl⟩

theorem leatref01_Copy_L1_k {K : KV} (B1 : KE) (q0 : KE) {l0 l1 t2 out3' i4' t20 : Value} {dd : Nat → Value} {w : World}
    (h : blt Try.prog Builtin.len #[26] 3 #[false] #[l0] (fun t7 w =>
    bin Try.prog BinOp.lss 3 false false i4' t7 (fun t8 w =>
    cond t8
      (bldS Try.prog 22 0 #[] (fun t12 w =>
    idxA Try.prog 26 l0 i4' (fun t15 w =>
    ld Try.prog 22 t15 (fun t16 w =>
    blt Try.prog Builtin.append #[22, 22] 22 #[false, false] #[t12, t16] (fun t17 w =>
    bldS Try.prog 26 1 #[(0, t17)] (fun t18 w =>
    blt Try.prog Builtin.append #[26, 26] 26 #[false, false] #[out3', t18] (fun t19 w =>
    bin Try.prog BinOp.add 3 false true i4' (Value.int IntKind.i64 1) (fun t10 w =>
    B1 [l0, l1, t2, t19, t10, i4', l0, t7, t8, i4', t10, out3', t12, l0, i4', t15, t16, t17, t18, t19, t20] w) w) w) w) w) w) w) w)
      (q0 [l0, l1, t2, out3', i4', i4', l0, t7, t8, (dd 9), (dd 10), (dd 11), (dd 12), (dd 13), (dd 14), (dd 15), (dd 16), (dd 17), (dd 18), (dd 19), t20] w)) w) w) :
    cCode Try.prog (cd Try.f17 [1, 1, 0, 1, 0, 0]) B1 (fun i => @Bool.rec (fun _ => KE) ((fun _ _ _ => False) i) q0 (Nat.beq i 0)) (retK Try.prog Try.f17.results.toList K) [l0, l1, t2, out3', i4', (dd 5), (dd 6), (dd 7), (dd 8), (dd 9), (dd 10), (dd 11), (dd 12), (dd 13), (dd 14), (dd 15), (dd 16), (dd 17), (dd 18), (dd 19), t20] w := Eq.mp (by kernel_rfl) h

theorem leatref01_Copy_L1_r {K : KV} {l0 l1 t2 out3 i4 t5 t6 t7 t8 t9 t10 t11 t12 t13 t14 t15 t16 t17 t18 t19 t20 : Value} {w : World} (Inv : Value → Value → World → Prop) (μ : Value → Value → World → Nat) (h0 : Inv out3 i4 w)
    (hs : ∀ (out3' i4' : Value) (dd : Nat → Value) (w : World) (m : Nat), Inv out3' i4' w → m = μ out3' i4' w →
    blt Try.prog Builtin.len #[26] 3 #[false] #[l0] (fun t7 w =>
    bin Try.prog BinOp.lss 3 false false i4' t7 (fun t8 w =>
    cond t8
      (bldS Try.prog 22 0 #[] (fun t12 w =>
    idxA Try.prog 26 l0 i4' (fun t15 w =>
    ld Try.prog 22 t15 (fun t16 w =>
    blt Try.prog Builtin.append #[22, 22] 22 #[false, false] #[t12, t16] (fun t17 w =>
    bldS Try.prog 26 1 #[(0, t17)] (fun t18 w =>
    blt Try.prog Builtin.append #[26, 26] 26 #[false, false] #[out3', t18] (fun t19 w =>
    bin Try.prog BinOp.add 3 false true i4' (Value.int IntKind.i64 1) (fun t10 w =>
    (Inv t19 t10 w ∧ μ t19 t10 w < m)) w) w) w) w) w) w) w)
      ((leatref01_Copy_P1 K) [l0, l1, t2, out3', i4', i4', l0, t7, t8, (dd 9), (dd 10), (dd 11), (dd 12), (dd 13), (dd 14), (dd 15), (dd 16), (dd 17), (dd 18), (dd 19), t20] w)) w) w) :
    leatref01_Copy_L1 K [l0, l1, t2, out3, i4, t5, t6, t7, t8, t9, t10, t11, t12, t13, t14, t15, t16, t17, t18, t19, t20] w := by
  refine loop_rule (cd Try.f17 [1, 1, 0, 1, 0, 0]) [3, 4, 5, 6, 7, 8, 9, 10, 11, 12, 13, 14, 15, 16, 17, 18, 19] (by kernel_rfl) (fun e2 w2 => Inv (gd e2 3) (gd e2 4) w2) (fun e2 w2 => μ (gd e2 3) (gd e2 4) w2) h0 ?_
  intro e' w' hI
  have h := hs (gd e' 3) (gd e' 4) (fun i => gd e' i) w' _ hI rfl
  have h2 : cCode Try.prog (cd Try.f17 [1, 1, 0, 1, 0, 0]) (fun e2 w2 => Inv (gd e2 3) (gd e2 4) w2 ∧ μ (gd e2 3) (gd e2 4) w2 < μ (gd e' 3) (gd e' 4) w') (fun i => @Bool.rec (fun _ => KE) ((fun _ _ _ => False) i) (leatref01_Copy_P1 K) (Nat.beq i 0)) (retK Try.prog Try.f17.results.toList K) [l0, l1, t2, (gd e' 3), (gd e' 4), (gd e' 5), (gd e' 6), (gd e' 7), (gd e' 8), (gd e' 9), (gd e' 10), (gd e' 11), (gd e' 12), (gd e' 13), (gd e' 14), (gd e' 15), (gd e' 16), (gd e' 17), (gd e' 18), (gd e' 19), t20] w' := leatref01_Copy_L1_k (fun e2 w2 => Inv (gd e2 3) (gd e2 4) w2 ∧ μ (gd e2 3) (gd e2 4) w2 < μ (gd e' 3) (gd e' 4) w') (leatref01_Copy_P1 K) (Eq.mp (by kernel_rfl) h)
  exact Eq.mp (by kernel_rfl) h2

theorem leatref01_Copy_P1_k {K : KV} {l0 l1 t2 out3 i4 t5 t6 t7 t8 t9 t10 t11 t12 t13 t14 t15 t16 t17 t18 t19 t20 : Value} {w : World}
    (h : K out3 w) :
    cCode Try.prog (cd Try.f17 [1, 1, 1]) (retK Try.prog Try.f17.results.toList K) (fun _ _ _ => False) (retK Try.prog Try.f17.results.toList K) [l0, l1, t2, out3, i4, t5, t6, t7, t8, t9, t10, t11, t12, t13, t14, t15, t16, t17, t18, t19, t20] w := Eq.mp (by kernel_rfl) h

theorem leatref01_Copy_P1_r {K : KV} {l0 l1 t2 out3 i4 t5 t6 t7 t8 t9 t10 t11 t12 t13 t14 t15 t16 t17 t18 t19 t20 : Value} {w : World}
    (h : K out3 w) :
    leatref01_Copy_P1 K [l0, l1, t2, out3, i4, t5, t6, t7, t8, t9, t10, t11, t12, t13, t14, t15, t16, t17, t18, t19, t20] w := by
  delta leatref01_Copy_P1
  exact Eq.mp (congrArg (fun c => cCode Try.prog c (retK Try.prog Try.f17.results.toList K) (fun _ _ _ => False) (retK Try.prog Try.f17.results.toList K) [l0, l1, t2, out3, i4, t5, t6, t7, t8, t9, t10, t11, t12, t13, t14, t15, t16, t17, t18, t19, t20] w) (by kernel_rfl : (cd Try.f17 [1, 1, 1]) = (cd Try.f17 [1, 1, 1]))) (leatref01_Copy_P1_k h)
attribute [irreducible] leatref01_Copy_P1 leatref01_Copy_L1

end Go.Proofs.Ytccllogpakmjcaa
