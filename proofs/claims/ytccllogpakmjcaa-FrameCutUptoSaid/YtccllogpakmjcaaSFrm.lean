/- Written by program (gen.py): what the code of some functions asks, part by part; each text is checked by the kernel against the translation. -/
import Derived.Test.YtccllogpakmjcaaSh
import Derived.Test.YtccllogpakmjcaaChecked
namespace Go.Proofs.Ytccllogpakmjcaa
open Go.RowKit
set_option maxRecDepth 100000

def crc_stepped_P1 (K : KV) : KE := cCode Try.prog (cd Try.f30 [1, 1]) (retK Try.prog Try.f30.results.toList K) (fun _ _ _ => False) (retK Try.prog Try.f30.results.toList K)
def crc_stepped_L1 (K : KV) : KE := cCode Try.prog (cd Try.f30 [1, 0, 1, 0]) (crc_stepped_P1 K) (fun i => @Bool.rec (fun _ => KE) ((fun _ _ _ => False) i) (crc_stepped_P1 K) (Nat.beq i 0)) (retK Try.prog Try.f30.results.toList K)
theorem crc_stepped_k {K : KV} {s0 : Value} {w : World}
    (h : (cCode Try.prog (cd Try.f30 [1, 0, 1, 0]) (cCode Try.prog (cd Try.f30 [1, 1]) (retK Try.prog Try.f30.results.toList K) (fun _ _ _ => False) (retK Try.prog Try.f30.results.toList K)) (fun i => @Bool.rec (fun _ => KE) ((fun _ _ _ => False) i) (cCode Try.prog (cd Try.f30 [1, 1]) (retK Try.prog Try.f30.results.toList K) (fun _ _ _ => False) (retK Try.prog Try.f30.results.toList K)) (Nat.beq i 0)) (retK Try.prog Try.f30.results.toList K)) [s0, undef, (Value.int IntKind.u32 0), (Value.int IntKind.i64 0), undef, undef, undef, undef, undef, undef, undef, undef, undef] w) :
    cCode Try.prog (cd Try.f30 []) (retK Try.prog Try.f30.results.toList K) (fun _ _ _ => False) (retK Try.prog Try.f30.results.toList K) [s0, undef, undef, undef, undef, undef, undef, undef, undef, undef, undef, undef, undef] w := Eq.mp (by kernel_rfl) h

theorem crc_stepped_in {K : KV} {s0 : Value} {w : World}
    (h : (crc_stepped_L1 K) [s0, undef, (Value.int IntKind.u32 0), (Value.int IntKind.i64 0), undef, undef, undef, undef, undef, undef, undef, undef, undef] w) :
    Gives Try.prog 30 #[s0] w K := enter' Try.func30 (by kernel_rfl) (Eq.mp (congrArg (fun c => cCode Try.prog c (retK Try.prog Try.f30.results.toList K) (fun _ _ _ => False) (retK Try.prog Try.f30.results.toList K) [s0, undef, undef, undef, undef, undef, undef, undef, undef, undef, undef, undef, undef] w) (by kernel_rfl : (cd Try.f30 []) = (cd Try.f30 []))) (crc_stepped_k (h : (crc_stepped_L1 K) [s0, undef, (Value.int IntKind.u32 0), (Value.int IntKind.i64 0), undef, undef, undef, undef, undef, undef, undef, undef, undef] w)))
theorem crc_stepped_go : isGo Try.prog 30 := ⟨_, Try.func30, by kernel_rfl, by kernel_rfl⟩

theorem crc_stepped_L1_k {K : KV} (B1 : KE) (q0 : KE) {s0' s1 t2 t3' t12 : Value} {dd : Nat → Value} {w : World}
    (h : bin Try.prog BinOp.lss 3 false true t3' (Value.int IntKind.i64 8) (fun t4 w =>
    cond t4
      (bin Try.prog BinOp.shr 52 false true s0' (Value.int IntKind.u64 1) (fun t6 w =>
    bin Try.prog BinOp.and 52 false true s0' (Value.int IntKind.u32 1) (fun t8 w =>
    bin Try.prog BinOp.mul 52 true false (Value.int IntKind.u32 3988292384) t8 (fun t9 w =>
    bin Try.prog BinOp.xor 52 false false t6 t9 (fun t10 w =>
    bin Try.prog BinOp.add 3 false true t3' (Value.int IntKind.i64 1) (fun t11 w =>
    B1 [t10, s1, t2, t11, t4, s0', t6, s0', t8, t9, t10, t11, t12] w) w) w) w) w) w)
      (q0 [s0', s1, t2, t3', t4, (dd 5), (dd 6), (dd 7), (dd 8), (dd 9), (dd 10), (dd 11), t12] w)) w) :
    cCode Try.prog (cd Try.f30 [1, 0, 1, 0, 0]) B1 (fun i => @Bool.rec (fun _ => KE) ((fun _ _ _ => False) i) q0 (Nat.beq i 0)) (retK Try.prog Try.f30.results.toList K) [s0', s1, t2, t3', (dd 4), (dd 5), (dd 6), (dd 7), (dd 8), (dd 9), (dd 10), (dd 11), t12] w := Eq.mp (by kernel_rfl) h

theorem crc_stepped_L1_r {K : KV} {s0 s1 t2 t3 t4 t5 t6 t7 t8 t9 t10 t11 t12 : Value} {w : World} (Inv : Value → Value → World → Prop) (μ : Value → Value → World → Nat) (h0 : Inv s0 t3 w)
    (hs : ∀ (s0' t3' : Value) (dd : Nat → Value) (w : World) (m : Nat), Inv s0' t3' w → m = μ s0' t3' w →
    bin Try.prog BinOp.lss 3 false true t3' (Value.int IntKind.i64 8) (fun t4 w =>
    cond t4
      (bin Try.prog BinOp.shr 52 false true s0' (Value.int IntKind.u64 1) (fun t6 w =>
    bin Try.prog BinOp.and 52 false true s0' (Value.int IntKind.u32 1) (fun t8 w =>
    bin Try.prog BinOp.mul 52 true false (Value.int IntKind.u32 3988292384) t8 (fun t9 w =>
    bin Try.prog BinOp.xor 52 false false t6 t9 (fun t10 w =>
    bin Try.prog BinOp.add 3 false true t3' (Value.int IntKind.i64 1) (fun t11 w =>
    (Inv t10 t11 w ∧ μ t10 t11 w < m)) w) w) w) w) w)
      ((crc_stepped_P1 K) [s0', s1, t2, t3', t4, (dd 5), (dd 6), (dd 7), (dd 8), (dd 9), (dd 10), (dd 11), t12] w)) w) :
    crc_stepped_L1 K [s0, s1, t2, t3, t4, t5, t6, t7, t8, t9, t10, t11, t12] w := by
  refine loop_rule (cd Try.f30 [1, 0, 1, 0, 0]) [0, 3, 4, 5, 6, 7, 8, 9, 10, 11] (by kernel_rfl) (fun e2 w2 => Inv (gd e2 0) (gd e2 3) w2) (fun e2 w2 => μ (gd e2 0) (gd e2 3) w2) h0 ?_
  intro e' w' hI
  have h := hs (gd e' 0) (gd e' 3) (fun i => gd e' i) w' _ hI rfl
  have h2 : cCode Try.prog (cd Try.f30 [1, 0, 1, 0, 0]) (fun e2 w2 => Inv (gd e2 0) (gd e2 3) w2 ∧ μ (gd e2 0) (gd e2 3) w2 < μ (gd e' 0) (gd e' 3) w') (fun i => @Bool.rec (fun _ => KE) ((fun _ _ _ => False) i) (crc_stepped_P1 K) (Nat.beq i 0)) (retK Try.prog Try.f30.results.toList K) [(gd e' 0), s1, t2, (gd e' 3), (gd e' 4), (gd e' 5), (gd e' 6), (gd e' 7), (gd e' 8), (gd e' 9), (gd e' 10), (gd e' 11), t12] w' := crc_stepped_L1_k (fun e2 w2 => Inv (gd e2 0) (gd e2 3) w2 ∧ μ (gd e2 0) (gd e2 3) w2 < μ (gd e' 0) (gd e' 3) w') (crc_stepped_P1 K) (Eq.mp (by kernel_rfl) h)
  exact Eq.mp (by kernel_rfl) h2

theorem crc_stepped_P1_k {K : KV} {s0 s1 t2 t3 t4 t5 t6 t7 t8 t9 t10 t11 t12 : Value} {w : World}
    (h : K s0 w) :
    cCode Try.prog (cd Try.f30 [1, 1]) (retK Try.prog Try.f30.results.toList K) (fun _ _ _ => False) (retK Try.prog Try.f30.results.toList K) [s0, s1, t2, t3, t4, t5, t6, t7, t8, t9, t10, t11, t12] w := Eq.mp (by kernel_rfl) h

theorem crc_stepped_P1_r {K : KV} {s0 s1 t2 t3 t4 t5 t6 t7 t8 t9 t10 t11 t12 : Value} {w : World}
    (h : K s0 w) :
    crc_stepped_P1 K [s0, s1, t2, t3, t4, t5, t6, t7, t8, t9, t10, t11, t12] w := by
  delta crc_stepped_P1
  exact Eq.mp (congrArg (fun c => cCode Try.prog c (retK Try.prog Try.f30.results.toList K) (fun _ _ _ => False) (retK Try.prog Try.f30.results.toList K) [s0, s1, t2, t3, t4, t5, t6, t7, t8, t9, t10, t11, t12] w) (by kernel_rfl : (cd Try.f30 [1, 1]) = (cd Try.f30 [1, 1]))) (crc_stepped_P1_k h)
attribute [irreducible] crc_stepped_P1 crc_stepped_L1

def crc_More_P1 (K : KV) : KE := cCode Try.prog (cd Try.f24 [1, 1, 1]) (retK Try.prog Try.f24.results.toList K) (fun _ _ _ => False) (retK Try.prog Try.f24.results.toList K)
def crc_More_L1 (K : KV) : KE := cCode Try.prog (cd Try.f24 [1, 1, 0, 1, 0]) (crc_More_P1 K) (fun i => @Bool.rec (fun _ => KE) ((fun _ _ _ => False) i) (crc_More_P1 K) (Nat.beq i 0)) (retK Try.prog Try.f24.results.toList K)
theorem crc_More_k {K : KV} {sum0 b1 : Value} {w : World}
    (h : un Try.prog UnOp.xor sum0 (fun t9 w =>
    blt Try.prog Builtin.len #[22] 3 #[false] #[b1] (fun t11 w =>
    (cCode Try.prog (cd Try.f24 [1, 1, 0, 1, 0]) (cCode Try.prog (cd Try.f24 [1, 1, 1]) (retK Try.prog Try.f24.results.toList K) (fun _ _ _ => False) (retK Try.prog Try.f24.results.toList K)) (fun i => @Bool.rec (fun _ => KE) ((fun _ _ _ => False) i) (cCode Try.prog (cd Try.f24 [1, 1, 1]) (retK Try.prog Try.f24.results.toList K) (fun _ _ _ => False) (retK Try.prog Try.f24.results.toList K)) (Nat.beq i 0)) (retK Try.prog Try.f24.results.toList K)) [sum0, b1, undef, undef, (Value.int IntKind.u32 0), t9, undef, undef, sum0, t9, b1, t11, (Value.int IntKind.i64 0), undef, undef, undef, undef, undef, undef, undef, undef, undef, undef, undef] w) w) w) :
    cCode Try.prog (cd Try.f24 []) (retK Try.prog Try.f24.results.toList K) (fun _ _ _ => False) (retK Try.prog Try.f24.results.toList K) [sum0, b1, undef, undef, undef, undef, undef, undef, undef, undef, undef, undef, undef, undef, undef, undef, undef, undef, undef, undef, undef, undef, undef, undef] w := Eq.mp (by kernel_rfl) h

theorem crc_More_in {K : KV} {sum0 b1 : Value} {w : World}
    (h : un Try.prog UnOp.xor sum0 (fun t9 w =>
    blt Try.prog Builtin.len #[22] 3 #[false] #[b1] (fun t11 w =>
    (crc_More_L1 K) [sum0, b1, undef, undef, (Value.int IntKind.u32 0), t9, undef, undef, sum0, t9, b1, t11, (Value.int IntKind.i64 0), undef, undef, undef, undef, undef, undef, undef, undef, undef, undef, undef] w) w) w) :
    Gives Try.prog 24 #[sum0, b1] w K := enter' Try.func24 (by kernel_rfl) (Eq.mp (congrArg (fun c => cCode Try.prog c (retK Try.prog Try.f24.results.toList K) (fun _ _ _ => False) (retK Try.prog Try.f24.results.toList K) [sum0, b1, undef, undef, undef, undef, undef, undef, undef, undef, undef, undef, undef, undef, undef, undef, undef, undef, undef, undef, undef, undef, undef, undef] w) (by kernel_rfl : (cd Try.f24 []) = (cd Try.f24 []))) (crc_More_k (h : un Try.prog UnOp.xor sum0 (fun t9 w =>
    blt Try.prog Builtin.len #[22] 3 #[false] #[b1] (fun t11 w =>
    (crc_More_L1 K) [sum0, b1, undef, undef, (Value.int IntKind.u32 0), t9, undef, undef, sum0, t9, b1, t11, (Value.int IntKind.i64 0), undef, undef, undef, undef, undef, undef, undef, undef, undef, undef, undef] w) w) w)))
theorem crc_More_go : isGo Try.prog 24 := ⟨_, Try.func24, by kernel_rfl, by kernel_rfl⟩

theorem crc_More_L1_k {K : KV} (B1 : KE) (q0 : KE) {sum0 b1 sum2 b3 t4 s5' t6 t8 t9 t10 t11 t12' t22 t23 : Value} {dd : Nat → Value} {w : World}
    (h : bin Try.prog BinOp.lss 3 false false t12' t11 (fun t13 w =>
    cond t13
      (idxA Try.prog 22 t10 t12' (fun t14 w =>
    ld Try.prog 5 t14 (fun t15 w =>
    conv Try.prog 5 52 t15 (fun t18 w =>
    bin Try.prog BinOp.xor 52 false false s5' t18 (fun t19 w =>
    call Try.prog 30 #[t19] (fun t20 w =>
    bin Try.prog BinOp.add 3 false true t12' (Value.int IntKind.i64 1) (fun t21 w =>
    B1 [sum0, b1, sum2, b3, t4, t20, t6, t15, t8, t9, t10, t11, t21, t13, t14, t15, s5', t15, t18, t19, t20, t21, t22, t23] w) w) w) w) w) w) w)
      (q0 [sum0, b1, sum2, b3, t4, s5', t6, (dd 7), t8, t9, t10, t11, t12', t13, (dd 14), (dd 15), (dd 16), (dd 17), (dd 18), (dd 19), (dd 20), (dd 21), t22, t23] w)) w) :
    cCode Try.prog (cd Try.f24 [1, 1, 0, 1, 0, 0]) B1 (fun i => @Bool.rec (fun _ => KE) ((fun _ _ _ => False) i) q0 (Nat.beq i 0)) (retK Try.prog Try.f24.results.toList K) [sum0, b1, sum2, b3, t4, s5', t6, (dd 7), t8, t9, t10, t11, t12', (dd 13), (dd 14), (dd 15), (dd 16), (dd 17), (dd 18), (dd 19), (dd 20), (dd 21), t22, t23] w := Eq.mp (by kernel_rfl) h

theorem crc_More_L1_r {K : KV} {sum0 b1 sum2 b3 t4 s5 t6 c7 t8 t9 t10 t11 t12 t13 t14 t15 t16 t17 t18 t19 t20 t21 t22 t23 : Value} {w : World} (Inv : Value → Value → World → Prop) (μ : Value → Value → World → Nat) (h0 : Inv s5 t12 w)
    (hs : ∀ (s5' t12' : Value) (dd : Nat → Value) (w : World) (m : Nat), Inv s5' t12' w → m = μ s5' t12' w →
    bin Try.prog BinOp.lss 3 false false t12' t11 (fun t13 w =>
    cond t13
      (idxA Try.prog 22 t10 t12' (fun t14 w =>
    ld Try.prog 5 t14 (fun t15 w =>
    conv Try.prog 5 52 t15 (fun t18 w =>
    bin Try.prog BinOp.xor 52 false false s5' t18 (fun t19 w =>
    call Try.prog 30 #[t19] (fun t20 w =>
    bin Try.prog BinOp.add 3 false true t12' (Value.int IntKind.i64 1) (fun t21 w =>
    (Inv t20 t21 w ∧ μ t20 t21 w < m)) w) w) w) w) w) w)
      ((crc_More_P1 K) [sum0, b1, sum2, b3, t4, s5', t6, (dd 7), t8, t9, t10, t11, t12', t13, (dd 14), (dd 15), (dd 16), (dd 17), (dd 18), (dd 19), (dd 20), (dd 21), t22, t23] w)) w) :
    crc_More_L1 K [sum0, b1, sum2, b3, t4, s5, t6, c7, t8, t9, t10, t11, t12, t13, t14, t15, t16, t17, t18, t19, t20, t21, t22, t23] w := by
  refine loop_rule (cd Try.f24 [1, 1, 0, 1, 0, 0]) [5, 7, 12, 13, 14, 15, 16, 17, 18, 19, 20, 21] (by kernel_rfl) (fun e2 w2 => Inv (gd e2 5) (gd e2 12) w2) (fun e2 w2 => μ (gd e2 5) (gd e2 12) w2) h0 ?_
  intro e' w' hI
  have h := hs (gd e' 5) (gd e' 12) (fun i => gd e' i) w' _ hI rfl
  have h2 : cCode Try.prog (cd Try.f24 [1, 1, 0, 1, 0, 0]) (fun e2 w2 => Inv (gd e2 5) (gd e2 12) w2 ∧ μ (gd e2 5) (gd e2 12) w2 < μ (gd e' 5) (gd e' 12) w') (fun i => @Bool.rec (fun _ => KE) ((fun _ _ _ => False) i) (crc_More_P1 K) (Nat.beq i 0)) (retK Try.prog Try.f24.results.toList K) [sum0, b1, sum2, b3, t4, (gd e' 5), t6, (gd e' 7), t8, t9, t10, t11, (gd e' 12), (gd e' 13), (gd e' 14), (gd e' 15), (gd e' 16), (gd e' 17), (gd e' 18), (gd e' 19), (gd e' 20), (gd e' 21), t22, t23] w' := crc_More_L1_k (fun e2 w2 => Inv (gd e2 5) (gd e2 12) w2 ∧ μ (gd e2 5) (gd e2 12) w2 < μ (gd e' 5) (gd e' 12) w') (crc_More_P1 K) (Eq.mp (by kernel_rfl) h)
  exact Eq.mp (by kernel_rfl) h2

theorem crc_More_P1_k {K : KV} {sum0 b1 sum2 b3 t4 s5 t6 c7 t8 t9 t10 t11 t12 t13 t14 t15 t16 t17 t18 t19 t20 t21 t22 t23 : Value} {w : World}
    (h : un Try.prog UnOp.xor s5 (fun t23 w =>
    K t23 w) w) :
    cCode Try.prog (cd Try.f24 [1, 1, 1]) (retK Try.prog Try.f24.results.toList K) (fun _ _ _ => False) (retK Try.prog Try.f24.results.toList K) [sum0, b1, sum2, b3, t4, s5, t6, c7, t8, t9, t10, t11, t12, t13, t14, t15, t16, t17, t18, t19, t20, t21, t22, t23] w := Eq.mp (by kernel_rfl) h

theorem crc_More_P1_r {K : KV} {sum0 b1 sum2 b3 t4 s5 t6 c7 t8 t9 t10 t11 t12 t13 t14 t15 t16 t17 t18 t19 t20 t21 t22 t23 : Value} {w : World}
    (h : un Try.prog UnOp.xor s5 (fun t23 w =>
    K t23 w) w) :
    crc_More_P1 K [sum0, b1, sum2, b3, t4, s5, t6, c7, t8, t9, t10, t11, t12, t13, t14, t15, t16, t17, t18, t19, t20, t21, t22, t23] w := by
  delta crc_More_P1
  exact Eq.mp (congrArg (fun c => cCode Try.prog c (retK Try.prog Try.f24.results.toList K) (fun _ _ _ => False) (retK Try.prog Try.f24.results.toList K) [sum0, b1, sum2, b3, t4, s5, t6, c7, t8, t9, t10, t11, t12, t13, t14, t15, t16, t17, t18, t19, t20, t21, t22, t23] w) (by kernel_rfl : (cd Try.f24 [1, 1, 1]) = (cd Try.f24 [1, 1, 1]))) (crc_More_P1_k h)
attribute [irreducible] crc_More_P1 crc_More_L1


theorem crc_Sum_k {K : KV} {b0 : Value} {w : World}
    (h : call Try.prog 24 #[(Value.int IntKind.u32 0), b0] (fun t4 w =>
    K t4 w) w) :
    cCode Try.prog (cd Try.f25 []) (retK Try.prog Try.f25.results.toList K) (fun _ _ _ => False) (retK Try.prog Try.f25.results.toList K) [b0, undef, undef, undef, undef] w := Eq.mp (by kernel_rfl) h

theorem crc_Sum_in {K : KV} {b0 : Value} {w : World}
    (h : call Try.prog 24 #[(Value.int IntKind.u32 0), b0] (fun t4 w =>
    K t4 w) w) :
    Gives Try.prog 25 #[b0] w K := enter' Try.func25 (by kernel_rfl) (Eq.mp (congrArg (fun c => cCode Try.prog c (retK Try.prog Try.f25.results.toList K) (fun _ _ _ => False) (retK Try.prog Try.f25.results.toList K) [b0, undef, undef, undef, undef] w) (by kernel_rfl : (cd Try.f25 []) = (cd Try.f25 []))) (crc_Sum_k (h : call Try.prog 24 #[(Value.int IntKind.u32 0), b0] (fun t4 w =>
    K t4 w) w)))
theorem crc_Sum_go : isGo Try.prog 25 := ⟨_, Try.func25, by kernel_rfl, by kernel_rfl⟩


theorem frame_number_k {K : KV} {n0 : Value} {w : World}
    (h : conv Try.prog 52 56 n0 (fun t7 w =>
    call Try.prog 29 #[(Value.slice none 0 0), t7, (Value.int IntKind.i64 4)] (fun t8 w =>
    ext Try.prog t8 0 (fun t9 w =>
    ext Try.prog t8 1 (fun t10 w =>
    K t9 w) w) w) w) w) :
    cCode Try.prog (cd Try.f23 []) (retK Try.prog Try.f23.results.toList K) (fun _ _ _ => False) (retK Try.prog Try.f23.results.toList K) [n0, undef, undef, undef, undef, undef, undef, undef, undef, undef, undef, undef] w := Eq.mp (by kernel_rfl) h

theorem frame_number_in {K : KV} {n0 : Value} {w : World}
    (h : conv Try.prog 52 56 n0 (fun t7 w =>
    call Try.prog 29 #[(Value.slice none 0 0), t7, (Value.int IntKind.i64 4)] (fun t8 w =>
    ext Try.prog t8 0 (fun t9 w =>
    ext Try.prog t8 1 (fun t10 w =>
    K t9 w) w) w) w) w) :
    Gives Try.prog 23 #[n0] w K := enter' Try.func23 (by kernel_rfl) (Eq.mp (congrArg (fun c => cCode Try.prog c (retK Try.prog Try.f23.results.toList K) (fun _ _ _ => False) (retK Try.prog Try.f23.results.toList K) [n0, undef, undef, undef, undef, undef, undef, undef, undef, undef, undef, undef] w) (by kernel_rfl : (cd Try.f23 []) = (cd Try.f23 []))) (frame_number_k (h : conv Try.prog 52 56 n0 (fun t7 w =>
    call Try.prog 29 #[(Value.slice none 0 0), t7, (Value.int IntKind.i64 4)] (fun t8 w =>
    ext Try.prog t8 0 (fun t9 w =>
    ext Try.prog t8 1 (fun t10 w =>
    K t9 w) w) w) w) w)))
theorem frame_number_go : isGo Try.prog 23 := ⟨_, Try.func23, by kernel_rfl, by kernel_rfl⟩

def frame_Put_P1 (K : KV) : KE := cCode Try.prog (cd Try.f16 [1, 1, 1]) (retK Try.prog Try.f16.results.toList K) (fun _ _ _ => False) (retK Try.prog Try.f16.results.toList K)
def frame_Put_L1 (K : KV) : KE := cCode Try.prog (cd Try.f16 [1, 1, 0, 1, 0]) (frame_Put_P1 K) (fun i => @Bool.rec (fun _ => KE) ((fun _ _ _ => False) i) (frame_Put_P1 K) (Nat.beq i 0)) (retK Try.prog Try.f16.results.toList K)
theorem frame_Put_k {K : KV} {b0 records1 : Value} {w : World}
    (h : call Try.prog 21 #[b0] (fun t12 w =>
    blt Try.prog Builtin.len #[26] 3 #[false] #[records1] (fun t14 w =>
    (cCode Try.prog (cd Try.f16 [1, 1, 0, 1, 0]) (cCode Try.prog (cd Try.f16 [1, 1, 1]) (retK Try.prog Try.f16.results.toList K) (fun _ _ _ => False) (retK Try.prog Try.f16.results.toList K)) (fun i => @Bool.rec (fun _ => KE) ((fun _ _ _ => False) i) (cCode Try.prog (cd Try.f16 [1, 1, 1]) (retK Try.prog Try.f16.results.toList K) (fun _ _ _ => False) (retK Try.prog Try.f16.results.toList K)) (Nat.beq i 0)) (retK Try.prog Try.f16.results.toList K)) [b0, records1, undef, undef, (Value.slice none 0 0), (Value.int IntKind.i64 0), t12, undef, undef, undef, undef, b0, t12, records1, t14, (Value.int IntKind.i64 0), undef, undef, undef, undef, undef, undef, undef, undef, undef, undef, undef, undef, undef, undef, undef, undef, undef, undef, undef, undef, undef, undef, undef, undef] w) w) w) :
    cCode Try.prog (cd Try.f16 []) (retK Try.prog Try.f16.results.toList K) (fun _ _ _ => False) (retK Try.prog Try.f16.results.toList K) [b0, records1, undef, undef, undef, undef, undef, undef, undef, undef, undef, undef, undef, undef, undef, undef, undef, undef, undef, undef, undef, undef, undef, undef, undef, undef, undef, undef, undef, undef, undef, undef, undef, undef, undef, undef, undef, undef, undef, undef] w := Eq.mp (by kernel_rfl) h

theorem frame_Put_in {K : KV} {b0 records1 : Value} {w : World}
    (h : call Try.prog 21 #[b0] (fun t12 w =>
    blt Try.prog Builtin.len #[26] 3 #[false] #[records1] (fun t14 w =>
    (frame_Put_L1 K) [b0, records1, undef, undef, (Value.slice none 0 0), (Value.int IntKind.i64 0), t12, undef, undef, undef, undef, b0, t12, records1, t14, (Value.int IntKind.i64 0), undef, undef, undef, undef, undef, undef, undef, undef, undef, undef, undef, undef, undef, undef, undef, undef, undef, undef, undef, undef, undef, undef, undef, undef] w) w) w) :
    Gives Try.prog 16 #[b0, records1] w K := enter' Try.func16 (by kernel_rfl) (Eq.mp (congrArg (fun c => cCode Try.prog c (retK Try.prog Try.f16.results.toList K) (fun _ _ _ => False) (retK Try.prog Try.f16.results.toList K) [b0, records1, undef, undef, undef, undef, undef, undef, undef, undef, undef, undef, undef, undef, undef, undef, undef, undef, undef, undef, undef, undef, undef, undef, undef, undef, undef, undef, undef, undef, undef, undef, undef, undef, undef, undef, undef, undef, undef, undef] w) (by kernel_rfl : (cd Try.f16 []) = (cd Try.f16 []))) (frame_Put_k (h : call Try.prog 21 #[b0] (fun t12 w =>
    blt Try.prog Builtin.len #[26] 3 #[false] #[records1] (fun t14 w =>
    (frame_Put_L1 K) [b0, records1, undef, undef, (Value.slice none 0 0), (Value.int IntKind.i64 0), t12, undef, undef, undef, undef, b0, t12, records1, t14, (Value.int IntKind.i64 0), undef, undef, undef, undef, undef, undef, undef, undef, undef, undef, undef, undef, undef, undef, undef, undef, undef, undef, undef, undef, undef, undef, undef, undef] w) w) w)))
theorem frame_Put_go : isGo Try.prog 16 := ⟨_, Try.func16, by kernel_rfl, by kernel_rfl⟩

theorem frame_Put_L1_k {K : KV} (B1 : KE) (q0 : KE) {b0 records1 b2 records3 out6' t7 t11 t12 t13 t14 t15' t39 : Value} {dd : Nat → Value} {w : World}
    (h : bin Try.prog BinOp.lss 3 false false t15' t14 (fun t16 w =>
    cond t16
      (idxA Try.prog 26 t13 t15' (fun t17 w =>
    ld Try.prog 22 t17 (fun t18 w =>
    blt Try.prog Builtin.len #[22] 3 #[false] #[t18] (fun t20 w =>
    bin Try.prog BinOp.gtr 3 false true t20 (Value.int IntKind.i64 4096) (fun t21 w =>
    cond t21
      (K (Value.tuple #[(Value.slice none 0 0), (Value.int IntKind.i64 6)]) w)
      (blt Try.prog Builtin.len #[22] 3 #[false] #[t18] (fun t23 w =>
    conv Try.prog 3 52 t23 (fun t24 w =>
    call Try.prog 23 #[t24] (fun t25 w =>
    call Try.prog 25 #[t25] (fun t27 w =>
    call Try.prog 24 #[t27, t18] (fun t29 w =>
    blt Try.prog Builtin.append #[22, 22] 22 #[false, false] #[out6', t25] (fun t32 w =>
    call Try.prog 23 #[t29] (fun t34 w =>
    blt Try.prog Builtin.append #[22, 22] 22 #[false, false] #[t32, t34] (fun t35 w =>
    blt Try.prog Builtin.append #[22, 22] 22 #[false, false] #[t35, t18] (fun t37 w =>
    bin Try.prog BinOp.add 3 false true t15' (Value.int IntKind.i64 1) (fun t38 w =>
    B1 [b0, records1, b2, records3, (dd 4), (dd 5), t37, t7, t18, t25, t29, t11, t12, t13, t14, t38, t16, t17, t18, t18, t20, t21, t18, t23, t24, t25, t25, t27, t18, t29, out6', t25, t32, t29, t34, t35, t18, t37, t38, t39] w) w) w) w) w) w) w) w) w) w) w)) w) w) w) w)
      (q0 [b0, records1, b2, records3, (dd 4), (dd 5), out6', t7, (dd 8), (dd 9), (dd 10), t11, t12, t13, t14, t15', t16, (dd 17), (dd 18), (dd 19), (dd 20), (dd 21), (dd 22), (dd 23), (dd 24), (dd 25), (dd 26), (dd 27), (dd 28), (dd 29), (dd 30), (dd 31), (dd 32), (dd 33), (dd 34), (dd 35), (dd 36), (dd 37), (dd 38), t39] w)) w) :
    cCode Try.prog (cd Try.f16 [1, 1, 0, 1, 0, 0]) B1 (fun i => @Bool.rec (fun _ => KE) ((fun _ _ _ => False) i) q0 (Nat.beq i 0)) (retK Try.prog Try.f16.results.toList K) [b0, records1, b2, records3, (dd 4), (dd 5), out6', t7, (dd 8), (dd 9), (dd 10), t11, t12, t13, t14, t15', (dd 16), (dd 17), (dd 18), (dd 19), (dd 20), (dd 21), (dd 22), (dd 23), (dd 24), (dd 25), (dd 26), (dd 27), (dd 28), (dd 29), (dd 30), (dd 31), (dd 32), (dd 33), (dd 34), (dd 35), (dd 36), (dd 37), (dd 38), t39] w := Eq.mp (by kernel_rfl) h

theorem frame_Put_L1_r {K : KV} {b0 records1 b2 records3 t4 t5 out6 t7 s8 size9 sum10 t11 t12 t13 t14 t15 t16 t17 t18 t19 t20 t21 t22 t23 t24 t25 t26 t27 t28 t29 t30 t31 t32 t33 t34 t35 t36 t37 t38 t39 : Value} {w : World} (Inv : Value → Value → World → Prop) (μ : Value → Value → World → Nat) (h0 : Inv out6 t15 w)
    (hs : ∀ (out6' t15' : Value) (dd : Nat → Value) (w : World) (m : Nat), Inv out6' t15' w → m = μ out6' t15' w →
    bin Try.prog BinOp.lss 3 false false t15' t14 (fun t16 w =>
    cond t16
      (idxA Try.prog 26 t13 t15' (fun t17 w =>
    ld Try.prog 22 t17 (fun t18 w =>
    blt Try.prog Builtin.len #[22] 3 #[false] #[t18] (fun t20 w =>
    bin Try.prog BinOp.gtr 3 false true t20 (Value.int IntKind.i64 4096) (fun t21 w =>
    cond t21
      (K (Value.tuple #[(Value.slice none 0 0), (Value.int IntKind.i64 6)]) w)
      (blt Try.prog Builtin.len #[22] 3 #[false] #[t18] (fun t23 w =>
    conv Try.prog 3 52 t23 (fun t24 w =>
    call Try.prog 23 #[t24] (fun t25 w =>
    call Try.prog 25 #[t25] (fun t27 w =>
    call Try.prog 24 #[t27, t18] (fun t29 w =>
    blt Try.prog Builtin.append #[22, 22] 22 #[false, false] #[out6', t25] (fun t32 w =>
    call Try.prog 23 #[t29] (fun t34 w =>
    blt Try.prog Builtin.append #[22, 22] 22 #[false, false] #[t32, t34] (fun t35 w =>
    blt Try.prog Builtin.append #[22, 22] 22 #[false, false] #[t35, t18] (fun t37 w =>
    bin Try.prog BinOp.add 3 false true t15' (Value.int IntKind.i64 1) (fun t38 w =>
    (Inv t37 t38 w ∧ μ t37 t38 w < m)) w) w) w) w) w) w) w) w) w) w)) w) w) w) w)
      ((frame_Put_P1 K) [b0, records1, b2, records3, (dd 4), (dd 5), out6', t7, (dd 8), (dd 9), (dd 10), t11, t12, t13, t14, t15', t16, (dd 17), (dd 18), (dd 19), (dd 20), (dd 21), (dd 22), (dd 23), (dd 24), (dd 25), (dd 26), (dd 27), (dd 28), (dd 29), (dd 30), (dd 31), (dd 32), (dd 33), (dd 34), (dd 35), (dd 36), (dd 37), (dd 38), t39] w)) w) :
    frame_Put_L1 K [b0, records1, b2, records3, t4, t5, out6, t7, s8, size9, sum10, t11, t12, t13, t14, t15, t16, t17, t18, t19, t20, t21, t22, t23, t24, t25, t26, t27, t28, t29, t30, t31, t32, t33, t34, t35, t36, t37, t38, t39] w := by
  refine loop_rule (cd Try.f16 [1, 1, 0, 1, 0, 0]) [4, 5, 6, 8, 9, 10, 15, 16, 17, 18, 19, 20, 21, 22, 23, 24, 25, 26, 27, 28, 29, 30, 31, 32, 33, 34, 35, 36, 37, 38] (by kernel_rfl) (fun e2 w2 => Inv (gd e2 6) (gd e2 15) w2) (fun e2 w2 => μ (gd e2 6) (gd e2 15) w2) h0 ?_
  intro e' w' hI
  have h := hs (gd e' 6) (gd e' 15) (fun i => gd e' i) w' _ hI rfl
  have h2 : cCode Try.prog (cd Try.f16 [1, 1, 0, 1, 0, 0]) (fun e2 w2 => Inv (gd e2 6) (gd e2 15) w2 ∧ μ (gd e2 6) (gd e2 15) w2 < μ (gd e' 6) (gd e' 15) w') (fun i => @Bool.rec (fun _ => KE) ((fun _ _ _ => False) i) (frame_Put_P1 K) (Nat.beq i 0)) (retK Try.prog Try.f16.results.toList K) [b0, records1, b2, records3, (gd e' 4), (gd e' 5), (gd e' 6), t7, (gd e' 8), (gd e' 9), (gd e' 10), t11, t12, t13, t14, (gd e' 15), (gd e' 16), (gd e' 17), (gd e' 18), (gd e' 19), (gd e' 20), (gd e' 21), (gd e' 22), (gd e' 23), (gd e' 24), (gd e' 25), (gd e' 26), (gd e' 27), (gd e' 28), (gd e' 29), (gd e' 30), (gd e' 31), (gd e' 32), (gd e' 33), (gd e' 34), (gd e' 35), (gd e' 36), (gd e' 37), (gd e' 38), t39] w' := frame_Put_L1_k (fun e2 w2 => Inv (gd e2 6) (gd e2 15) w2 ∧ μ (gd e2 6) (gd e2 15) w2 < μ (gd e' 6) (gd e' 15) w') (frame_Put_P1 K) (Eq.mp (by kernel_rfl) h)
  exact Eq.mp (by kernel_rfl) h2

theorem frame_Put_P1_k {K : KV} {b0 records1 b2 records3 t4 t5 out6 t7 s8 size9 sum10 t11 t12 t13 t14 t15 t16 t17 t18 t19 t20 t21 t22 t23 t24 t25 t26 t27 t28 t29 t30 t31 t32 t33 t34 t35 t36 t37 t38 t39 : Value} {w : World}
    (h : K (Value.tuple #[out6, (Value.int IntKind.i64 0)]) w) :
    cCode Try.prog (cd Try.f16 [1, 1, 1]) (retK Try.prog Try.f16.results.toList K) (fun _ _ _ => False) (retK Try.prog Try.f16.results.toList K) [b0, records1, b2, records3, t4, t5, out6, t7, s8, size9, sum10, t11, t12, t13, t14, t15, t16, t17, t18, t19, t20, t21, t22, t23, t24, t25, t26, t27, t28, t29, t30, t31, t32, t33, t34, t35, t36, t37, t38, t39] w := Eq.mp (by kernel_rfl) h

theorem frame_Put_P1_r {K : KV} {b0 records1 b2 records3 t4 t5 out6 t7 s8 size9 sum10 t11 t12 t13 t14 t15 t16 t17 t18 t19 t20 t21 t22 t23 t24 t25 t26 t27 t28 t29 t30 t31 t32 t33 t34 t35 t36 t37 t38 t39 : Value} {w : World}
    (h : K (Value.tuple #[out6, (Value.int IntKind.i64 0)]) w) :
    frame_Put_P1 K [b0, records1, b2, records3, t4, t5, out6, t7, s8, size9, sum10, t11, t12, t13, t14, t15, t16, t17, t18, t19, t20, t21, t22, t23, t24, t25, t26, t27, t28, t29, t30, t31, t32, t33, t34, t35, t36, t37, t38, t39] w := by
  delta frame_Put_P1
  exact Eq.mp (congrArg (fun c => cCode Try.prog c (retK Try.prog Try.f16.results.toList K) (fun _ _ _ => False) (retK Try.prog Try.f16.results.toList K) [b0, records1, b2, records3, t4, t5, out6, t7, s8, size9, sum10, t11, t12, t13, t14, t15, t16, t17, t18, t19, t20, t21, t22, t23, t24, t25, t26, t27, t28, t29, t30, t31, t32, t33, t34, t35, t36, t37, t38, t39] w) (by kernel_rfl : (cd Try.f16 [1, 1, 1]) = (cd Try.f16 [1, 1, 1]))) (frame_Put_P1_k h)
attribute [irreducible] frame_Put_P1 frame_Put_L1


theorem frame_place_number_k {K : KV} {p0 : Value} {w : World}
    (h : hReg (fun S w =>
    hld S (fun k w => nilC p0 k w) (fun t9 =>
    hld S (fun k w => fldA Try.prog 48 t9 0 k w) (fun t10 =>
    hld S (fun k w => ld Try.prog 22 t10 k w) (fun t11 =>
    hld S (fun k w => nilC p0 k w) (fun t13 =>
    hld S (fun k w => fldA Try.prog 48 t13 1 k w) (fun t14 =>
    hld S (fun k w => ld Try.prog 3 t14 k w) (fun t15 =>
    call Try.prog 34 #[t11, t15, (Value.int IntKind.i64 4)] (fun t16 w =>
    hReg (fun S w =>
    hld S (fun k w => ext Try.prog t16 0 k w) (fun t17 =>
    hld S (fun k w => ext Try.prog t16 1 k w) (fun t18 =>
    hld S (fun k w => ext Try.prog t16 2 k w) (fun t19 =>
    bin Try.prog BinOp.neq 36 false true t19 (Value.int IntKind.i64 0) (fun t21 w =>
    cond t21
      (K (Value.tuple #[(Value.int IntKind.u32 0), (Value.bool false)]) w)
      (nilC p0 (fun t24 w =>
    fldA Try.prog 48 t24 1 (fun t25 w =>
    sto Try.prog 3 t25 t18 (fun _t w =>
    conv Try.prog 56 52 t17 (fun t27 w =>
    K (Value.tuple #[t27, (Value.bool true)]) w) w) w) w) w)) w)))) w) w))))))) w.drew) :
    cCode Try.prog (cd Try.f28 []) (retK Try.prog Try.f28.results.toList K) (fun _ _ _ => False) (retK Try.prog Try.f28.results.toList K) [p0, undef, undef, undef, undef, undef, undef, undef, undef, undef, undef, undef, undef, undef, undef, undef, undef, undef, undef, undef, undef, undef, undef, undef, undef, undef, undef, undef] w := Eq.mp (by kernel_rfl) h

theorem frame_place_number_in {K : KV} {p0 : Value} {w : World}
    (h : hReg (fun S w =>
    hld S (fun k w => nilC p0 k w) (fun t9 =>
    hld S (fun k w => fldA Try.prog 48 t9 0 k w) (fun t10 =>
    hld S (fun k w => ld Try.prog 22 t10 k w) (fun t11 =>
    hld S (fun k w => nilC p0 k w) (fun t13 =>
    hld S (fun k w => fldA Try.prog 48 t13 1 k w) (fun t14 =>
    hld S (fun k w => ld Try.prog 3 t14 k w) (fun t15 =>
    call Try.prog 34 #[t11, t15, (Value.int IntKind.i64 4)] (fun t16 w =>
    hReg (fun S w =>
    hld S (fun k w => ext Try.prog t16 0 k w) (fun t17 =>
    hld S (fun k w => ext Try.prog t16 1 k w) (fun t18 =>
    hld S (fun k w => ext Try.prog t16 2 k w) (fun t19 =>
    bin Try.prog BinOp.neq 36 false true t19 (Value.int IntKind.i64 0) (fun t21 w =>
    cond t21
      (K (Value.tuple #[(Value.int IntKind.u32 0), (Value.bool false)]) w)
      (nilC p0 (fun t24 w =>
    fldA Try.prog 48 t24 1 (fun t25 w =>
    sto Try.prog 3 t25 t18 (fun _t w =>
    conv Try.prog 56 52 t17 (fun t27 w =>
    K (Value.tuple #[t27, (Value.bool true)]) w) w) w) w) w)) w)))) w) w))))))) w.drew) :
    Gives Try.prog 28 #[p0] w K := enter' Try.func28 (by kernel_rfl) (Eq.mp (congrArg (fun c => cCode Try.prog c (retK Try.prog Try.f28.results.toList K) (fun _ _ _ => False) (retK Try.prog Try.f28.results.toList K) [p0, undef, undef, undef, undef, undef, undef, undef, undef, undef, undef, undef, undef, undef, undef, undef, undef, undef, undef, undef, undef, undef, undef, undef, undef, undef, undef, undef] w) (by kernel_rfl : (cd Try.f28 []) = (cd Try.f28 []))) (frame_place_number_k (h : hReg (fun S w =>
    hld S (fun k w => nilC p0 k w) (fun t9 =>
    hld S (fun k w => fldA Try.prog 48 t9 0 k w) (fun t10 =>
    hld S (fun k w => ld Try.prog 22 t10 k w) (fun t11 =>
    hld S (fun k w => nilC p0 k w) (fun t13 =>
    hld S (fun k w => fldA Try.prog 48 t13 1 k w) (fun t14 =>
    hld S (fun k w => ld Try.prog 3 t14 k w) (fun t15 =>
    call Try.prog 34 #[t11, t15, (Value.int IntKind.i64 4)] (fun t16 w =>
    hReg (fun S w =>
    hld S (fun k w => ext Try.prog t16 0 k w) (fun t17 =>
    hld S (fun k w => ext Try.prog t16 1 k w) (fun t18 =>
    hld S (fun k w => ext Try.prog t16 2 k w) (fun t19 =>
    bin Try.prog BinOp.neq 36 false true t19 (Value.int IntKind.i64 0) (fun t21 w =>
    cond t21
      (K (Value.tuple #[(Value.int IntKind.u32 0), (Value.bool false)]) w)
      (nilC p0 (fun t24 w =>
    fldA Try.prog 48 t24 1 (fun t25 w =>
    sto Try.prog 3 t25 t18 (fun _t w =>
    conv Try.prog 56 52 t17 (fun t27 w =>
    K (Value.tuple #[t27, (Value.bool true)]) w) w) w) w) w)) w)))) w) w))))))) w.drew)))
theorem frame_place_number_go : isGo Try.prog 28 := ⟨_, Try.func28, by kernel_rfl, by kernel_rfl⟩

def frame_place_record_A1 (K : KV) : KE := cCode Try.prog (cd Try.f22 [1, 1, 1, 1, 1, 1]) (retK Try.prog Try.f22.results.toList K) (fun _ _ _ => False) (retK Try.prog Try.f22.results.toList K)
theorem frame_place_record_k {K : KV} (x0 : Code) {p0 : Value} {w : World}
    (h : nilC p0 (fun t11 w =>
    ld Try.prog 48 t11 (fun t12 w =>
    alc Try.prog 48 (fun q4 w =>
    sto Try.prog 48 q4 t12 (fun _t w =>
    call Try.prog 28 #[q4] (fun t14 w =>
    ext Try.prog t14 0 (fun t15 w =>
    ext Try.prog t14 1 (fun t16 w =>
    call Try.prog 28 #[q4] (fun t18 w =>
    ext Try.prog t18 0 (fun t19 w =>
    ext Try.prog t18 1 (fun t20 w =>
    un Try.prog UnOp.not t16 (fun t22 w =>
    gsel t22 false (fun k24 =>
    un Try.prog UnOp.not t20 (fun t25 w =>
    k24 [t20, t25] w) w)
    (fun k => k [undef, undef] w) (fun us24 w =>
    pick t22 (Value.bool true) (gd us24 1) (fun t26 w =>
    gsel t26 false (fun k28 =>
    bin Try.prog BinOp.gtr 52 false true t15 (Value.int IntKind.u32 4096) (fun t29 w =>
    k28 [t15, t29] w) w)
    (fun k => k [undef, undef] w) (fun us28 w =>
    pick t26 (Value.bool true) (gd us28 1) (fun t30 w =>
    gsel t30 false (fun k32 =>
    conv Try.prog 52 3 t15 (fun t33 w =>
    fldA Try.prog 48 q4 0 (fun t34 w =>
    ld Try.prog 22 t34 (fun t35 w =>
    blt Try.prog Builtin.len #[22] 3 #[false] #[t35] (fun t36 w =>
    fldA Try.prog 48 q4 1 (fun t37 w =>
    ld Try.prog 3 t37 (fun t38 w =>
    bin Try.prog BinOp.sub 3 false false t36 t38 (fun t39 w =>
    bin Try.prog BinOp.gtr 3 false false t33 t39 (fun t40 w =>
    k32 [t15, t33, t34, t35, t36, t37, t38, t39, t40] w) w) w) w) w) w) w) w) w)
    (fun k => k [undef, undef, undef, undef, undef, undef, undef, undef, undef] w) (fun us32 w =>
    pick t30 (Value.bool true) (gd us32 8) (fun t41 w =>
    cond t41
      (K (Value.tuple #[(Value.slice none 0 0), (Value.bool false)]) w)
      (fldA Try.prog 48 q4 0 (fun t42 w =>
    ld Try.prog 22 t42 (fun t43 w =>
    fldA Try.prog 48 q4 1 (fun t44 w =>
    ld Try.prog 3 t44 (fun t45 w =>
    slc Try.prog 22 t43 (some t45) none none (fun t46 w =>
    slc Try.prog 22 t46 none (some t15) none (fun t48 w =>
    (cCode Try.prog x0 (retK Try.prog Try.f22.results.toList K) (fun _ _ _ => False) (retK Try.prog Try.f22.results.toList K)) (p0 :: undef :: (Value.slice none 0 0) :: (Value.bool false) :: q4 :: t15 :: t16 :: t19 :: t20 :: t48 :: p0 :: t11 :: t12 :: t14 :: t14 :: t15 :: t16 :: t18 :: t18 :: t19 :: t20 :: t16 :: t22 :: t22 :: (gd us24 0) :: (gd us24 1) :: t26 :: t26 :: (gd us28 0) :: (gd us28 1) :: t30 :: t30 :: (gd us32 0) :: (gd us32 1) :: (gd us32 2) :: (gd us32 3) :: (gd us32 4) :: (gd us32 5) :: (gd us32 6) :: (gd us32 7) :: (gd us32 8) :: t41 :: t42 :: t43 :: t44 :: t45 :: t46 :: t15 :: t48 :: undef :: undef :: undef :: undef :: undef :: undef :: undef :: undef :: undef :: undef :: undef :: undef :: undef :: undef :: undef :: undef :: undef :: []) w) w) w) w) w) w) w)) w)) w)) w)) w) w) w) w) w) w) w) w) w) w) w) :
    cCode Try.prog (rep [1, 1, 1, 1, 1, 1] x0 (cd Try.f22 [])) (retK Try.prog Try.f22.results.toList K) (fun _ _ _ => False) (retK Try.prog Try.f22.results.toList K) (p0 :: undef :: undef :: undef :: undef :: undef :: undef :: undef :: undef :: undef :: undef :: undef :: undef :: undef :: undef :: undef :: undef :: undef :: undef :: undef :: undef :: undef :: undef :: undef :: undef :: undef :: undef :: undef :: undef :: undef :: undef :: undef :: undef :: undef :: undef :: undef :: undef :: undef :: undef :: undef :: undef :: undef :: undef :: undef :: undef :: undef :: undef :: undef :: undef :: undef :: undef :: undef :: undef :: undef :: undef :: undef :: undef :: undef :: undef :: undef :: undef :: undef :: undef :: undef :: undef :: undef :: []) w := Eq.mp (by kernel_rfl) h

theorem frame_place_record_in {K : KV} {p0 : Value} {w : World}
    (h : nilC p0 (fun t11 w =>
    ld Try.prog 48 t11 (fun t12 w =>
    alc Try.prog 48 (fun q4 w =>
    sto Try.prog 48 q4 t12 (fun _t w =>
    call Try.prog 28 #[q4] (fun t14 w =>
    ext Try.prog t14 0 (fun t15 w =>
    ext Try.prog t14 1 (fun t16 w =>
    call Try.prog 28 #[q4] (fun t18 w =>
    ext Try.prog t18 0 (fun t19 w =>
    ext Try.prog t18 1 (fun t20 w =>
    un Try.prog UnOp.not t16 (fun t22 w =>
    gsel t22 false (fun k24 =>
    un Try.prog UnOp.not t20 (fun t25 w =>
    k24 [t20, t25] w) w)
    (fun k => k [undef, undef] w) (fun us24 w =>
    pick t22 (Value.bool true) (gd us24 1) (fun t26 w =>
    gsel t26 false (fun k28 =>
    bin Try.prog BinOp.gtr 52 false true t15 (Value.int IntKind.u32 4096) (fun t29 w =>
    k28 [t15, t29] w) w)
    (fun k => k [undef, undef] w) (fun us28 w =>
    pick t26 (Value.bool true) (gd us28 1) (fun t30 w =>
    gsel t30 false (fun k32 =>
    conv Try.prog 52 3 t15 (fun t33 w =>
    fldA Try.prog 48 q4 0 (fun t34 w =>
    ld Try.prog 22 t34 (fun t35 w =>
    blt Try.prog Builtin.len #[22] 3 #[false] #[t35] (fun t36 w =>
    fldA Try.prog 48 q4 1 (fun t37 w =>
    ld Try.prog 3 t37 (fun t38 w =>
    bin Try.prog BinOp.sub 3 false false t36 t38 (fun t39 w =>
    bin Try.prog BinOp.gtr 3 false false t33 t39 (fun t40 w =>
    k32 [t15, t33, t34, t35, t36, t37, t38, t39, t40] w) w) w) w) w) w) w) w) w)
    (fun k => k [undef, undef, undef, undef, undef, undef, undef, undef, undef] w) (fun us32 w =>
    pick t30 (Value.bool true) (gd us32 8) (fun t41 w =>
    cond t41
      (K (Value.tuple #[(Value.slice none 0 0), (Value.bool false)]) w)
      (fldA Try.prog 48 q4 0 (fun t42 w =>
    ld Try.prog 22 t42 (fun t43 w =>
    fldA Try.prog 48 q4 1 (fun t44 w =>
    ld Try.prog 3 t44 (fun t45 w =>
    slc Try.prog 22 t43 (some t45) none none (fun t46 w =>
    slc Try.prog 22 t46 none (some t15) none (fun t48 w =>
    (frame_place_record_A1 K) (p0 :: undef :: (Value.slice none 0 0) :: (Value.bool false) :: q4 :: t15 :: t16 :: t19 :: t20 :: t48 :: p0 :: t11 :: t12 :: t14 :: t14 :: t15 :: t16 :: t18 :: t18 :: t19 :: t20 :: t16 :: t22 :: t22 :: (gd us24 0) :: (gd us24 1) :: t26 :: t26 :: (gd us28 0) :: (gd us28 1) :: t30 :: t30 :: (gd us32 0) :: (gd us32 1) :: (gd us32 2) :: (gd us32 3) :: (gd us32 4) :: (gd us32 5) :: (gd us32 6) :: (gd us32 7) :: (gd us32 8) :: t41 :: t42 :: t43 :: t44 :: t45 :: t46 :: t15 :: t48 :: undef :: undef :: undef :: undef :: undef :: undef :: undef :: undef :: undef :: undef :: undef :: undef :: undef :: undef :: undef :: undef :: undef :: []) w) w) w) w) w) w) w)) w)) w)) w)) w) w) w) w) w) w) w) w) w) w) w) :
    Gives Try.prog 22 #[p0] w K := enter' Try.func22 (by kernel_rfl) (Eq.mp (congrArg (fun c => cCode Try.prog c (retK Try.prog Try.f22.results.toList K) (fun _ _ _ => False) (retK Try.prog Try.f22.results.toList K) (p0 :: undef :: undef :: undef :: undef :: undef :: undef :: undef :: undef :: undef :: undef :: undef :: undef :: undef :: undef :: undef :: undef :: undef :: undef :: undef :: undef :: undef :: undef :: undef :: undef :: undef :: undef :: undef :: undef :: undef :: undef :: undef :: undef :: undef :: undef :: undef :: undef :: undef :: undef :: undef :: undef :: undef :: undef :: undef :: undef :: undef :: undef :: undef :: undef :: undef :: undef :: undef :: undef :: undef :: undef :: undef :: undef :: undef :: undef :: undef :: undef :: undef :: undef :: undef :: undef :: undef :: []) w) (by kernel_rfl : (rep [1, 1, 1, 1, 1, 1] (cd Try.f22 [1, 1, 1, 1, 1, 1]) (cd Try.f22 [])) = (cd Try.f22 []))) (frame_place_record_k (cd Try.f22 [1, 1, 1, 1, 1, 1]) (h : nilC p0 (fun t11 w =>
    ld Try.prog 48 t11 (fun t12 w =>
    alc Try.prog 48 (fun q4 w =>
    sto Try.prog 48 q4 t12 (fun _t w =>
    call Try.prog 28 #[q4] (fun t14 w =>
    ext Try.prog t14 0 (fun t15 w =>
    ext Try.prog t14 1 (fun t16 w =>
    call Try.prog 28 #[q4] (fun t18 w =>
    ext Try.prog t18 0 (fun t19 w =>
    ext Try.prog t18 1 (fun t20 w =>
    un Try.prog UnOp.not t16 (fun t22 w =>
    gsel t22 false (fun k24 =>
    un Try.prog UnOp.not t20 (fun t25 w =>
    k24 [t20, t25] w) w)
    (fun k => k [undef, undef] w) (fun us24 w =>
    pick t22 (Value.bool true) (gd us24 1) (fun t26 w =>
    gsel t26 false (fun k28 =>
    bin Try.prog BinOp.gtr 52 false true t15 (Value.int IntKind.u32 4096) (fun t29 w =>
    k28 [t15, t29] w) w)
    (fun k => k [undef, undef] w) (fun us28 w =>
    pick t26 (Value.bool true) (gd us28 1) (fun t30 w =>
    gsel t30 false (fun k32 =>
    conv Try.prog 52 3 t15 (fun t33 w =>
    fldA Try.prog 48 q4 0 (fun t34 w =>
    ld Try.prog 22 t34 (fun t35 w =>
    blt Try.prog Builtin.len #[22] 3 #[false] #[t35] (fun t36 w =>
    fldA Try.prog 48 q4 1 (fun t37 w =>
    ld Try.prog 3 t37 (fun t38 w =>
    bin Try.prog BinOp.sub 3 false false t36 t38 (fun t39 w =>
    bin Try.prog BinOp.gtr 3 false false t33 t39 (fun t40 w =>
    k32 [t15, t33, t34, t35, t36, t37, t38, t39, t40] w) w) w) w) w) w) w) w) w)
    (fun k => k [undef, undef, undef, undef, undef, undef, undef, undef, undef] w) (fun us32 w =>
    pick t30 (Value.bool true) (gd us32 8) (fun t41 w =>
    cond t41
      (K (Value.tuple #[(Value.slice none 0 0), (Value.bool false)]) w)
      (fldA Try.prog 48 q4 0 (fun t42 w =>
    ld Try.prog 22 t42 (fun t43 w =>
    fldA Try.prog 48 q4 1 (fun t44 w =>
    ld Try.prog 3 t44 (fun t45 w =>
    slc Try.prog 22 t43 (some t45) none none (fun t46 w =>
    slc Try.prog 22 t46 none (some t15) none (fun t48 w =>
    (frame_place_record_A1 K) (p0 :: undef :: (Value.slice none 0 0) :: (Value.bool false) :: q4 :: t15 :: t16 :: t19 :: t20 :: t48 :: p0 :: t11 :: t12 :: t14 :: t14 :: t15 :: t16 :: t18 :: t18 :: t19 :: t20 :: t16 :: t22 :: t22 :: (gd us24 0) :: (gd us24 1) :: t26 :: t26 :: (gd us28 0) :: (gd us28 1) :: t30 :: t30 :: (gd us32 0) :: (gd us32 1) :: (gd us32 2) :: (gd us32 3) :: (gd us32 4) :: (gd us32 5) :: (gd us32 6) :: (gd us32 7) :: (gd us32 8) :: t41 :: t42 :: t43 :: t44 :: t45 :: t46 :: t15 :: t48 :: undef :: undef :: undef :: undef :: undef :: undef :: undef :: undef :: undef :: undef :: undef :: undef :: undef :: undef :: undef :: undef :: undef :: []) w) w) w) w) w) w) w)) w)) w)) w)) w) w) w) w) w) w) w) w) w) w) w)))
theorem frame_place_record_go : isGo Try.prog 22 := ⟨_, Try.func22, by kernel_rfl, by kernel_rfl⟩

theorem frame_place_record_A1_k {K : KV} {p0 p1 t2 t3 q4 size5 one6 sum7 two8 s9 t10 t11 t12 t13 t14 t15 t16 t17 t18 t19 t20 t21 t22 t23 t24 t25 t26 t27 t28 t29 t30 t31 t32 t33 t34 t35 t36 t37 t38 t39 t40 t41 t42 t43 t44 t45 t46 t47 t48 t49 t50 t51 t52 t53 t54 t55 t56 t57 t58 t59 t60 t61 t62 t63 t64 t65 : Value} {w : World}
    (h : call Try.prog 23 #[size5] (fun t50 w =>
    call Try.prog 25 #[t50] (fun t51 w =>
    call Try.prog 24 #[t51, s9] (fun t53 w =>
    bin Try.prog BinOp.neq 52 false false t53 sum7 (fun t55 w =>
    cond t55
      (K (Value.tuple #[(Value.slice none 0 0), (Value.bool false)]) w)
      (fldA Try.prog 48 q4 1 (fun t57 w =>
    ld Try.prog 3 t57 (fun t58 w =>
    conv Try.prog 52 3 size5 (fun t60 w =>
    bin Try.prog BinOp.add 3 false false t58 t60 (fun t61 w =>
    nilC p0 (fun t62 w =>
    fldA Try.prog 48 t62 1 (fun t63 w =>
    sto Try.prog 3 t63 t61 (fun _t w =>
    call Try.prog 21 #[s9] (fun t65 w =>
    K (Value.tuple #[t65, (Value.bool true)]) w) w) w) w) w) w) w) w) w)) w) w) w) w) :
    cCode Try.prog (cd Try.f22 [1, 1, 1, 1, 1, 1]) (retK Try.prog Try.f22.results.toList K) (fun _ _ _ => False) (retK Try.prog Try.f22.results.toList K) (p0 :: p1 :: t2 :: t3 :: q4 :: size5 :: one6 :: sum7 :: two8 :: s9 :: t10 :: t11 :: t12 :: t13 :: t14 :: t15 :: t16 :: t17 :: t18 :: t19 :: t20 :: t21 :: t22 :: t23 :: t24 :: t25 :: t26 :: t27 :: t28 :: t29 :: t30 :: t31 :: t32 :: t33 :: t34 :: t35 :: t36 :: t37 :: t38 :: t39 :: t40 :: t41 :: t42 :: t43 :: t44 :: t45 :: t46 :: t47 :: t48 :: t49 :: t50 :: t51 :: t52 :: t53 :: t54 :: t55 :: t56 :: t57 :: t58 :: t59 :: t60 :: t61 :: t62 :: t63 :: t64 :: t65 :: []) w := Eq.mp (by kernel_rfl) h

theorem frame_place_record_A1_r {K : KV} {p0 p1 t2 t3 q4 size5 one6 sum7 two8 s9 t10 t11 t12 t13 t14 t15 t16 t17 t18 t19 t20 t21 t22 t23 t24 t25 t26 t27 t28 t29 t30 t31 t32 t33 t34 t35 t36 t37 t38 t39 t40 t41 t42 t43 t44 t45 t46 t47 t48 t49 t50 t51 t52 t53 t54 t55 t56 t57 t58 t59 t60 t61 t62 t63 t64 t65 : Value} {w : World}
    (h : call Try.prog 23 #[size5] (fun t50 w =>
    call Try.prog 25 #[t50] (fun t51 w =>
    call Try.prog 24 #[t51, s9] (fun t53 w =>
    bin Try.prog BinOp.neq 52 false false t53 sum7 (fun t55 w =>
    cond t55
      (K (Value.tuple #[(Value.slice none 0 0), (Value.bool false)]) w)
      (fldA Try.prog 48 q4 1 (fun t57 w =>
    ld Try.prog 3 t57 (fun t58 w =>
    conv Try.prog 52 3 size5 (fun t60 w =>
    bin Try.prog BinOp.add 3 false false t58 t60 (fun t61 w =>
    nilC p0 (fun t62 w =>
    fldA Try.prog 48 t62 1 (fun t63 w =>
    sto Try.prog 3 t63 t61 (fun _t w =>
    call Try.prog 21 #[s9] (fun t65 w =>
    K (Value.tuple #[t65, (Value.bool true)]) w) w) w) w) w) w) w) w) w)) w) w) w) w) :
    frame_place_record_A1 K (p0 :: p1 :: t2 :: t3 :: q4 :: size5 :: one6 :: sum7 :: two8 :: s9 :: t10 :: t11 :: t12 :: t13 :: t14 :: t15 :: t16 :: t17 :: t18 :: t19 :: t20 :: t21 :: t22 :: t23 :: t24 :: t25 :: t26 :: t27 :: t28 :: t29 :: t30 :: t31 :: t32 :: t33 :: t34 :: t35 :: t36 :: t37 :: t38 :: t39 :: t40 :: t41 :: t42 :: t43 :: t44 :: t45 :: t46 :: t47 :: t48 :: t49 :: t50 :: t51 :: t52 :: t53 :: t54 :: t55 :: t56 :: t57 :: t58 :: t59 :: t60 :: t61 :: t62 :: t63 :: t64 :: t65 :: []) w := by
  delta frame_place_record_A1
  exact Eq.mp (congrArg (fun c => cCode Try.prog c (retK Try.prog Try.f22.results.toList K) (fun _ _ _ => False) (retK Try.prog Try.f22.results.toList K) (p0 :: p1 :: t2 :: t3 :: q4 :: size5 :: one6 :: sum7 :: two8 :: s9 :: t10 :: t11 :: t12 :: t13 :: t14 :: t15 :: t16 :: t17 :: t18 :: t19 :: t20 :: t21 :: t22 :: t23 :: t24 :: t25 :: t26 :: t27 :: t28 :: t29 :: t30 :: t31 :: t32 :: t33 :: t34 :: t35 :: t36 :: t37 :: t38 :: t39 :: t40 :: t41 :: t42 :: t43 :: t44 :: t45 :: t46 :: t47 :: t48 :: t49 :: t50 :: t51 :: t52 :: t53 :: t54 :: t55 :: t56 :: t57 :: t58 :: t59 :: t60 :: t61 :: t62 :: t63 :: t64 :: t65 :: []) w) (by kernel_rfl : (cd Try.f22 [1, 1, 1, 1, 1, 1]) = (cd Try.f22 [1, 1, 1, 1, 1, 1]))) (frame_place_record_A1_k h)
attribute [irreducible] frame_place_record_A1

def frame_Take_A1 (K : KV) : KE := cCode Try.prog (cd Try.f19 [1, 1, 1, 1]) (retK Try.prog Try.f19.results.toList K) (fun _ _ _ => False) (retK Try.prog Try.f19.results.toList K)
theorem frame_Take_k {K : KV} (x0 : Code) {b0 at1 : Value} {w : World}
    (h : bin Try.prog BinOp.lss 3 false true at1 (Value.int IntKind.i64 0) (fun t11 w =>
    gsel t11 false (fun k13 =>
    blt Try.prog Builtin.len #[22] 3 #[false] #[b0] (fun t15 w =>
    bin Try.prog BinOp.gtr 3 false false at1 t15 (fun t16 w =>
    k13 [at1, b0, t15, t16] w) w) w)
    (fun k => k [undef, undef, undef, undef] w) (fun us13 w =>
    pick t11 (Value.bool true) (gd us13 3) (fun t17 w =>
    cond t17
      (K (Value.tuple #[(Value.slice none 0 0), (Value.int IntKind.i64 0), (Value.int IntKind.i64 1)]) w)
      (bld Try.prog 48 #[(0, b0), (1, at1)] (fun t20 w =>
    box Try.prog 48 t20 (fun t21 w =>
    call Try.prog 22 #[t21] (fun t24 w =>
    ext Try.prog t24 0 (fun t25 w =>
    ext Try.prog t24 1 (fun t26 w =>
    (cCode Try.prog x0 (retK Try.prog Try.f19.results.toList K) (fun _ _ _ => False) (retK Try.prog Try.f19.results.toList K)) [b0, at1, undef, undef, (Value.slice none 0 0), (Value.int IntKind.i64 0), (Value.int IntKind.i64 0), t21, t25, t26, at1, t11, t11, (gd us13 0), (gd us13 1), (gd us13 2), (gd us13 3), t17, b0, at1, t20, t21, t24, t21, t24, t25, t26, undef, undef, undef, undef, undef, undef, undef] w) w) w) w) w) w)) w)) w) :
    cCode Try.prog (rep [1, 1, 1, 1] x0 (cd Try.f19 [])) (retK Try.prog Try.f19.results.toList K) (fun _ _ _ => False) (retK Try.prog Try.f19.results.toList K) [b0, at1, undef, undef, undef, undef, undef, undef, undef, undef, undef, undef, undef, undef, undef, undef, undef, undef, undef, undef, undef, undef, undef, undef, undef, undef, undef, undef, undef, undef, undef, undef, undef, undef] w := Eq.mp (by kernel_rfl) h

theorem frame_Take_in {K : KV} {b0 at1 : Value} {w : World}
    (h : bin Try.prog BinOp.lss 3 false true at1 (Value.int IntKind.i64 0) (fun t11 w =>
    gsel t11 false (fun k13 =>
    blt Try.prog Builtin.len #[22] 3 #[false] #[b0] (fun t15 w =>
    bin Try.prog BinOp.gtr 3 false false at1 t15 (fun t16 w =>
    k13 [at1, b0, t15, t16] w) w) w)
    (fun k => k [undef, undef, undef, undef] w) (fun us13 w =>
    pick t11 (Value.bool true) (gd us13 3) (fun t17 w =>
    cond t17
      (K (Value.tuple #[(Value.slice none 0 0), (Value.int IntKind.i64 0), (Value.int IntKind.i64 1)]) w)
      (bld Try.prog 48 #[(0, b0), (1, at1)] (fun t20 w =>
    box Try.prog 48 t20 (fun t21 w =>
    call Try.prog 22 #[t21] (fun t24 w =>
    ext Try.prog t24 0 (fun t25 w =>
    ext Try.prog t24 1 (fun t26 w =>
    (frame_Take_A1 K) [b0, at1, undef, undef, (Value.slice none 0 0), (Value.int IntKind.i64 0), (Value.int IntKind.i64 0), t21, t25, t26, at1, t11, t11, (gd us13 0), (gd us13 1), (gd us13 2), (gd us13 3), t17, b0, at1, t20, t21, t24, t21, t24, t25, t26, undef, undef, undef, undef, undef, undef, undef] w) w) w) w) w) w)) w)) w) :
    Gives Try.prog 19 #[b0, at1] w K := enter' Try.func19 (by kernel_rfl) (Eq.mp (congrArg (fun c => cCode Try.prog c (retK Try.prog Try.f19.results.toList K) (fun _ _ _ => False) (retK Try.prog Try.f19.results.toList K) [b0, at1, undef, undef, undef, undef, undef, undef, undef, undef, undef, undef, undef, undef, undef, undef, undef, undef, undef, undef, undef, undef, undef, undef, undef, undef, undef, undef, undef, undef, undef, undef, undef, undef] w) (by kernel_rfl : (rep [1, 1, 1, 1] (cd Try.f19 [1, 1, 1, 1]) (cd Try.f19 [])) = (cd Try.f19 []))) (frame_Take_k (cd Try.f19 [1, 1, 1, 1]) (h : bin Try.prog BinOp.lss 3 false true at1 (Value.int IntKind.i64 0) (fun t11 w =>
    gsel t11 false (fun k13 =>
    blt Try.prog Builtin.len #[22] 3 #[false] #[b0] (fun t15 w =>
    bin Try.prog BinOp.gtr 3 false false at1 t15 (fun t16 w =>
    k13 [at1, b0, t15, t16] w) w) w)
    (fun k => k [undef, undef, undef, undef] w) (fun us13 w =>
    pick t11 (Value.bool true) (gd us13 3) (fun t17 w =>
    cond t17
      (K (Value.tuple #[(Value.slice none 0 0), (Value.int IntKind.i64 0), (Value.int IntKind.i64 1)]) w)
      (bld Try.prog 48 #[(0, b0), (1, at1)] (fun t20 w =>
    box Try.prog 48 t20 (fun t21 w =>
    call Try.prog 22 #[t21] (fun t24 w =>
    ext Try.prog t24 0 (fun t25 w =>
    ext Try.prog t24 1 (fun t26 w =>
    (frame_Take_A1 K) [b0, at1, undef, undef, (Value.slice none 0 0), (Value.int IntKind.i64 0), (Value.int IntKind.i64 0), t21, t25, t26, at1, t11, t11, (gd us13 0), (gd us13 1), (gd us13 2), (gd us13 3), t17, b0, at1, t20, t21, t24, t21, t24, t25, t26, undef, undef, undef, undef, undef, undef, undef] w) w) w) w) w) w)) w)) w)))
theorem frame_Take_go : isGo Try.prog 19 := ⟨_, Try.func19, by kernel_rfl, by kernel_rfl⟩

theorem frame_Take_A1_k {K : KV} {b0 at1 b2 at3 record4 next5 e6 p7 s8 is9 t10 t11 t12 t13 t14 t15 t16 t17 t18 t19 t20 t21 t22 t23 t24 t25 t26 t27 t28 t29 t30 t31 t32 t33 : Value} {w : World}
    (h : un Try.prog UnOp.not is9 (fun t28 w =>
    cond t28
      (K (Value.tuple #[(Value.slice none 0 0), (Value.int IntKind.i64 0), (Value.int IntKind.i64 5)]) w)
      ((fun w =>
    sti (fun k w => nilC p7 k w) (fun t31 w =>
    sti (fun k w => fldA Try.prog 48 t31 1 k w) (fun t32 w =>
    sti (fun k w => ld Try.prog 3 t32 k w) (fun t33 w =>
    K (Value.tuple #[s8, t33, (Value.int IntKind.i64 0)]) w) w) w) w) w.drew)) w) :
    cCode Try.prog (cd Try.f19 [1, 1, 1, 1]) (retK Try.prog Try.f19.results.toList K) (fun _ _ _ => False) (retK Try.prog Try.f19.results.toList K) [b0, at1, b2, at3, record4, next5, e6, p7, s8, is9, t10, t11, t12, t13, t14, t15, t16, t17, t18, t19, t20, t21, t22, t23, t24, t25, t26, t27, t28, t29, t30, t31, t32, t33] w := Eq.mp (by kernel_rfl) h

theorem frame_Take_A1_r {K : KV} {b0 at1 b2 at3 record4 next5 e6 p7 s8 is9 t10 t11 t12 t13 t14 t15 t16 t17 t18 t19 t20 t21 t22 t23 t24 t25 t26 t27 t28 t29 t30 t31 t32 t33 : Value} {w : World}
    (h : un Try.prog UnOp.not is9 (fun t28 w =>
    cond t28
      (K (Value.tuple #[(Value.slice none 0 0), (Value.int IntKind.i64 0), (Value.int IntKind.i64 5)]) w)
      ((fun w =>
    sti (fun k w => nilC p7 k w) (fun t31 w =>
    sti (fun k w => fldA Try.prog 48 t31 1 k w) (fun t32 w =>
    sti (fun k w => ld Try.prog 3 t32 k w) (fun t33 w =>
    K (Value.tuple #[s8, t33, (Value.int IntKind.i64 0)]) w) w) w) w) w.drew)) w) :
    frame_Take_A1 K [b0, at1, b2, at3, record4, next5, e6, p7, s8, is9, t10, t11, t12, t13, t14, t15, t16, t17, t18, t19, t20, t21, t22, t23, t24, t25, t26, t27, t28, t29, t30, t31, t32, t33] w := by
  delta frame_Take_A1
  exact Eq.mp (congrArg (fun c => cCode Try.prog c (retK Try.prog Try.f19.results.toList K) (fun _ _ _ => False) (retK Try.prog Try.f19.results.toList K) [b0, at1, b2, at3, record4, next5, e6, p7, s8, is9, t10, t11, t12, t13, t14, t15, t16, t17, t18, t19, t20, t21, t22, t23, t24, t25, t26, t27, t28, t29, t30, t31, t32, t33] w) (by kernel_rfl : (cd Try.f19 [1, 1, 1, 1]) = (cd Try.f19 [1, 1, 1, 1]))) (frame_Take_A1_k h)
attribute [irreducible] frame_Take_A1


theorem frame_New_k {K : KV} {b0 : Value} {w : World}
    (h : call Try.prog 21 #[b0] (fun t4 w =>
    bld Try.prog 48 #[(0, t4)] (fun t5 w =>
    bld Try.prog 50 #[(0, t5)] (fun t6 w =>
    box Try.prog 50 t6 (fun t7 w =>
    K t7 w) w) w) w) w) :
    cCode Try.prog (cd Try.f9 []) (retK Try.prog Try.f9.results.toList K) (fun _ _ _ => False) (retK Try.prog Try.f9.results.toList K) [b0, undef, undef, undef, undef, undef, undef, undef] w := Eq.mp (by kernel_rfl) h

theorem frame_New_in {K : KV} {b0 : Value} {w : World}
    (h : call Try.prog 21 #[b0] (fun t4 w =>
    bld Try.prog 48 #[(0, t4)] (fun t5 w =>
    bld Try.prog 50 #[(0, t5)] (fun t6 w =>
    box Try.prog 50 t6 (fun t7 w =>
    K t7 w) w) w) w) w) :
    Gives Try.prog 9 #[b0] w K := enter' Try.func9 (by kernel_rfl) (Eq.mp (congrArg (fun c => cCode Try.prog c (retK Try.prog Try.f9.results.toList K) (fun _ _ _ => False) (retK Try.prog Try.f9.results.toList K) [b0, undef, undef, undef, undef, undef, undef, undef] w) (by kernel_rfl : (cd Try.f9 []) = (cd Try.f9 []))) (frame_New_k (h : call Try.prog 21 #[b0] (fun t4 w =>
    bld Try.prog 48 #[(0, t4)] (fun t5 w =>
    bld Try.prog 50 #[(0, t5)] (fun t6 w =>
    box Try.prog 50 t6 (fun t7 w =>
    K t7 w) w) w) w) w)))
theorem frame_New_go : isGo Try.prog 9 := ⟨_, Try.func9, by kernel_rfl, by kernel_rfl⟩


theorem frame_Reader_Next_k {K : KV} {r0 : Value} {w : World}
    (h : bin Try.prog BinOp.eql 24 false true r0 (Value.pointer none) (fun t5 w =>
    cond t5
      (K (Value.tuple #[(Value.slice none 0 0), (Value.bool false)]) w)
      (nilC r0 (fun t7 w =>
    fldA Try.prog 50 t7 0 (fun t8 w =>
    call Try.prog 22 #[t8] (fun t9 w =>
    ext Try.prog t9 0 (fun t10 w =>
    ext Try.prog t9 1 (fun t11 w =>
    K (Value.tuple #[t10, t11]) w) w) w) w) w) w)) w) :
    cCode Try.prog (cd Try.f13 []) (retK Try.prog Try.f13.results.toList K) (fun _ _ _ => False) (retK Try.prog Try.f13.results.toList K) [r0, undef, undef, undef, undef, undef, undef, undef, undef, undef, undef, undef] w := Eq.mp (by kernel_rfl) h

theorem frame_Reader_Next_in {K : KV} {r0 : Value} {w : World}
    (h : bin Try.prog BinOp.eql 24 false true r0 (Value.pointer none) (fun t5 w =>
    cond t5
      (K (Value.tuple #[(Value.slice none 0 0), (Value.bool false)]) w)
      (nilC r0 (fun t7 w =>
    fldA Try.prog 50 t7 0 (fun t8 w =>
    call Try.prog 22 #[t8] (fun t9 w =>
    ext Try.prog t9 0 (fun t10 w =>
    ext Try.prog t9 1 (fun t11 w =>
    K (Value.tuple #[t10, t11]) w) w) w) w) w) w)) w) :
    Gives Try.prog 13 #[r0] w K := enter' Try.func13 (by kernel_rfl) (Eq.mp (congrArg (fun c => cCode Try.prog c (retK Try.prog Try.f13.results.toList K) (fun _ _ _ => False) (retK Try.prog Try.f13.results.toList K) [r0, undef, undef, undef, undef, undef, undef, undef, undef, undef, undef, undef] w) (by kernel_rfl : (cd Try.f13 []) = (cd Try.f13 []))) (frame_Reader_Next_k (h : bin Try.prog BinOp.eql 24 false true r0 (Value.pointer none) (fun t5 w =>
    cond t5
      (K (Value.tuple #[(Value.slice none 0 0), (Value.bool false)]) w)
      (nilC r0 (fun t7 w =>
    fldA Try.prog 50 t7 0 (fun t8 w =>
    call Try.prog 22 #[t8] (fun t9 w =>
    ext Try.prog t9 0 (fun t10 w =>
    ext Try.prog t9 1 (fun t11 w =>
    K (Value.tuple #[t10, t11]) w) w) w) w) w) w)) w)))
theorem frame_Reader_Next_go : isGo Try.prog 13 := ⟨_, Try.func13, by kernel_rfl, by kernel_rfl⟩


theorem frame_Reader_At_k {K : KV} {r0 : Value} {w : World}
    (h : bin Try.prog BinOp.eql 24 false true r0 (Value.pointer none) (fun t4 w =>
    cond t4
      (K (Value.int IntKind.i64 0) w)
      (nilC r0 (fun t6 w =>
    fldA Try.prog 50 t6 0 (fun t7 w =>
    fldA Try.prog 48 t7 1 (fun t8 w =>
    ld Try.prog 3 t8 (fun t9 w =>
    K t9 w) w) w) w) w)) w) :
    cCode Try.prog (cd Try.f14 []) (retK Try.prog Try.f14.results.toList K) (fun _ _ _ => False) (retK Try.prog Try.f14.results.toList K) [r0, undef, undef, undef, undef, undef, undef, undef, undef, undef] w := Eq.mp (by kernel_rfl) h

theorem frame_Reader_At_in {K : KV} {r0 : Value} {w : World}
    (h : bin Try.prog BinOp.eql 24 false true r0 (Value.pointer none) (fun t4 w =>
    cond t4
      (K (Value.int IntKind.i64 0) w)
      (nilC r0 (fun t6 w =>
    fldA Try.prog 50 t6 0 (fun t7 w =>
    fldA Try.prog 48 t7 1 (fun t8 w =>
    ld Try.prog 3 t8 (fun t9 w =>
    K t9 w) w) w) w) w)) w) :
    Gives Try.prog 14 #[r0] w K := enter' Try.func14 (by kernel_rfl) (Eq.mp (congrArg (fun c => cCode Try.prog c (retK Try.prog Try.f14.results.toList K) (fun _ _ _ => False) (retK Try.prog Try.f14.results.toList K) [r0, undef, undef, undef, undef, undef, undef, undef, undef, undef] w) (by kernel_rfl : (cd Try.f14 []) = (cd Try.f14 []))) (frame_Reader_At_k (h : bin Try.prog BinOp.eql 24 false true r0 (Value.pointer none) (fun t4 w =>
    cond t4
      (K (Value.int IntKind.i64 0) w)
      (nilC r0 (fun t6 w =>
    fldA Try.prog 50 t6 0 (fun t7 w =>
    fldA Try.prog 48 t7 1 (fun t8 w =>
    ld Try.prog 3 t8 (fun t9 w =>
    K t9 w) w) w) w) w)) w)))
theorem frame_Reader_At_go : isGo Try.prog 14 := ⟨_, Try.func14, by kernel_rfl, by kernel_rfl⟩

def frame_All_L1 (K : KV) : KE := cCode Try.prog (cd Try.f10 [1, 1, 0]) (retK Try.prog Try.f10.results.toList K) (fun i => @Bool.rec (fun _ => KE) ((fun _ _ _ => False) i) (retK Try.prog Try.f10.results.toList K) (Nat.beq i 0)) (retK Try.prog Try.f10.results.toList K)
theorem frame_All_k {K : KV} {b0 : Value} {w : World}
    (h : call Try.prog 9 #[b0] (fun t8 w =>
    (cCode Try.prog (cd Try.f10 [1, 1, 0]) (retK Try.prog Try.f10.results.toList K) (fun i => @Bool.rec (fun _ => KE) ((fun _ _ _ => False) i) (retK Try.prog Try.f10.results.toList K) (Nat.beq i 0)) (retK Try.prog Try.f10.results.toList K)) [b0, undef, (Value.slice none 0 0), (Value.int IntKind.i64 0), t8, undef, undef, b0, t8, undef, undef, undef, undef, undef, undef, undef, undef, undef, undef, undef, undef, undef, undef] w) w) :
    cCode Try.prog (cd Try.f10 []) (retK Try.prog Try.f10.results.toList K) (fun _ _ _ => False) (retK Try.prog Try.f10.results.toList K) [b0, undef, undef, undef, undef, undef, undef, undef, undef, undef, undef, undef, undef, undef, undef, undef, undef, undef, undef, undef, undef, undef, undef] w := Eq.mp (by kernel_rfl) h

theorem frame_All_in {K : KV} {b0 : Value} {w : World}
    (h : call Try.prog 9 #[b0] (fun t8 w =>
    (frame_All_L1 K) [b0, undef, (Value.slice none 0 0), (Value.int IntKind.i64 0), t8, undef, undef, b0, t8, undef, undef, undef, undef, undef, undef, undef, undef, undef, undef, undef, undef, undef, undef] w) w) :
    Gives Try.prog 10 #[b0] w K := enter' Try.func10 (by kernel_rfl) (Eq.mp (congrArg (fun c => cCode Try.prog c (retK Try.prog Try.f10.results.toList K) (fun _ _ _ => False) (retK Try.prog Try.f10.results.toList K) [b0, undef, undef, undef, undef, undef, undef, undef, undef, undef, undef, undef, undef, undef, undef, undef, undef, undef, undef, undef, undef, undef, undef] w) (by kernel_rfl : (cd Try.f10 []) = (cd Try.f10 []))) (frame_All_k (h : call Try.prog 9 #[b0] (fun t8 w =>
    (frame_All_L1 K) [b0, undef, (Value.slice none 0 0), (Value.int IntKind.i64 0), t8, undef, undef, b0, t8, undef, undef, undef, undef, undef, undef, undef, undef, undef, undef, undef, undef, undef, undef] w) w)))
theorem frame_All_go : isGo Try.prog 10 := ⟨_, Try.func10, by kernel_rfl, by kernel_rfl⟩

theorem frame_All_L1_k {K : KV} (B1 : KE) {b0 b1 l2' r4 t7 t8 : Value} {dd : Nat → Value} {w : World}
    (h : call Try.prog 13 #[r4] (fun t11 w =>
    ext Try.prog t11 0 (fun t12 w =>
    ext Try.prog t11 1 (fun t13 w =>
    un Try.prog UnOp.not t13 (fun t15 w =>
    cond t15
      (call Try.prog 14 #[r4] (fun t18 w =>
      K (Value.tuple #[l2', t18]) w) w)
      (bldS Try.prog 26 1 #[(0, t12)] (fun t21 w =>
    blt Try.prog Builtin.append #[26, 26] 26 #[false, false] #[l2', t21] (fun t22 w =>
    B1 [b0, b1, t22, (dd 3), r4, t12, t13, t7, t8, t11, r4, t11, t12, t13, t13, t15, (dd 16), (dd 17), (dd 18), l2', t12, t21, t22] w) w) w)) w) w) w) w) :
    cCode Try.prog (cd Try.f10 [1, 1, 0, 0]) B1 (fun i => @Bool.rec (fun _ => KE) ((fun _ _ _ => False) i) (retK Try.prog Try.f10.results.toList K) (Nat.beq i 0)) (retK Try.prog Try.f10.results.toList K) [b0, b1, l2', (dd 3), r4, (dd 5), (dd 6), t7, t8, (dd 9), (dd 10), (dd 11), (dd 12), (dd 13), (dd 14), (dd 15), (dd 16), (dd 17), (dd 18), (dd 19), (dd 20), (dd 21), (dd 22)] w := Eq.mp (by kernel_rfl) h

theorem frame_All_L1_r {K : KV} {b0 b1 l2 at3 r4 s5 is6 t7 t8 t9 t10 t11 t12 t13 t14 t15 t16 t17 t18 t19 t20 t21 t22 : Value} {w : World} (Inv : Value → World → Prop) (μ : Value → World → Nat) (h0 : Inv l2 w)
    (hs : ∀ (l2' : Value) (dd : Nat → Value) (w : World) (m : Nat), Inv l2' w → m = μ l2' w →
    call Try.prog 13 #[r4] (fun t11 w =>
    ext Try.prog t11 0 (fun t12 w =>
    ext Try.prog t11 1 (fun t13 w =>
    un Try.prog UnOp.not t13 (fun t15 w =>
    cond t15
      (call Try.prog 14 #[r4] (fun t18 w =>
      K (Value.tuple #[l2', t18]) w) w)
      (bldS Try.prog 26 1 #[(0, t12)] (fun t21 w =>
    blt Try.prog Builtin.append #[26, 26] 26 #[false, false] #[l2', t21] (fun t22 w =>
    (Inv t22 w ∧ μ t22 w < m)) w) w)) w) w) w) w) :
    frame_All_L1 K [b0, b1, l2, at3, r4, s5, is6, t7, t8, t9, t10, t11, t12, t13, t14, t15, t16, t17, t18, t19, t20, t21, t22] w := by
  refine loop_rule (cd Try.f10 [1, 1, 0, 0]) [2, 3, 5, 6, 9, 10, 11, 12, 13, 14, 15, 16, 17, 18, 19, 20, 21, 22] (by kernel_rfl) (fun e2 w2 => Inv (gd e2 2) w2) (fun e2 w2 => μ (gd e2 2) w2) h0 ?_
  intro e' w' hI
  have h := hs (gd e' 2) (fun i => gd e' i) w' _ hI rfl
  have h2 : cCode Try.prog (cd Try.f10 [1, 1, 0, 0]) (fun e2 w2 => Inv (gd e2 2) w2 ∧ μ (gd e2 2) w2 < μ (gd e' 2) w') (fun i => @Bool.rec (fun _ => KE) ((fun _ _ _ => False) i) (retK Try.prog Try.f10.results.toList K) (Nat.beq i 0)) (retK Try.prog Try.f10.results.toList K) [b0, b1, (gd e' 2), (gd e' 3), r4, (gd e' 5), (gd e' 6), t7, t8, (gd e' 9), (gd e' 10), (gd e' 11), (gd e' 12), (gd e' 13), (gd e' 14), (gd e' 15), (gd e' 16), (gd e' 17), (gd e' 18), (gd e' 19), (gd e' 20), (gd e' 21), (gd e' 22)] w' := frame_All_L1_k (fun e2 w2 => Inv (gd e2 2) w2 ∧ μ (gd e2 2) w2 < μ (gd e' 2) w') (Eq.mp (by kernel_rfl) h)
  exact Eq.mp (by kernel_rfl) h2
attribute [irreducible] frame_All_L1

def leatref02_step_P1 (K : KV) : KE := cCode Try.prog (cd Try.f37 [1, 1, 1, 1]) (retK Try.prog Try.f37.results.toList K) (fun _ _ _ => False) (retK Try.prog Try.f37.results.toList K)
def leatref02_step_A1 (K : KV) : KE := cCode Try.prog (cd Try.f37 [1, 1, 1, 0, 1]) (leatref02_step_P1 K) (fun _ _ _ => False) (retK Try.prog Try.f37.results.toList K)
theorem leatref02_step_k {K : KV} (x0 : Code) {s0 x1 : Value} {w : World}
    (h : bin Try.prog BinOp.and 52 false true s0 (Value.int IntKind.u32 1) (fun t7 w =>
    bin Try.prog BinOp.xor 52 false false t7 x1 (fun t9 w =>
    bin Try.prog BinOp.shr 52 false true s0 (Value.int IntKind.u64 1) (fun t11 w =>
    bin Try.prog BinOp.eql 52 false true t9 (Value.int IntKind.u32 1) (fun t13 w =>
    (cCode Try.prog x0 (cCode Try.prog (cd Try.f37 [1, 1, 1, 1]) (retK Try.prog Try.f37.results.toList K) (fun _ _ _ => False) (retK Try.prog Try.f37.results.toList K)) (fun _ _ _ => False) (retK Try.prog Try.f37.results.toList K)) [t11, x1, undef, undef, (Value.int IntKind.u32 0), t9, s0, t7, x1, t9, s0, t11, t9, t13, undef, undef, undef] w) w) w) w) w) :
    cCode Try.prog (rep [1, 1, 1, 0, 1] x0 (cd Try.f37 [])) (retK Try.prog Try.f37.results.toList K) (fun _ _ _ => False) (retK Try.prog Try.f37.results.toList K) [s0, x1, undef, undef, undef, undef, undef, undef, undef, undef, undef, undef, undef, undef, undef, undef, undef] w := Eq.mp (by kernel_rfl) h

theorem leatref02_step_in {K : KV} {s0 x1 : Value} {w : World}
    (h : bin Try.prog BinOp.and 52 false true s0 (Value.int IntKind.u32 1) (fun t7 w =>
    bin Try.prog BinOp.xor 52 false false t7 x1 (fun t9 w =>
    bin Try.prog BinOp.shr 52 false true s0 (Value.int IntKind.u64 1) (fun t11 w =>
    bin Try.prog BinOp.eql 52 false true t9 (Value.int IntKind.u32 1) (fun t13 w =>
    (leatref02_step_A1 K) [t11, x1, undef, undef, (Value.int IntKind.u32 0), t9, s0, t7, x1, t9, s0, t11, t9, t13, undef, undef, undef] w) w) w) w) w) :
    Gives Try.prog 37 #[s0, x1] w K := enter' Try.func37 (by kernel_rfl) (Eq.mp (congrArg (fun c => cCode Try.prog c (retK Try.prog Try.f37.results.toList K) (fun _ _ _ => False) (retK Try.prog Try.f37.results.toList K) [s0, x1, undef, undef, undef, undef, undef, undef, undef, undef, undef, undef, undef, undef, undef, undef, undef] w) (by kernel_rfl : (rep [1, 1, 1, 0, 1] (cd Try.f37 [1, 1, 1, 0, 1]) (cd Try.f37 [])) = (cd Try.f37 []))) (leatref02_step_k (cd Try.f37 [1, 1, 1, 0, 1]) (h : bin Try.prog BinOp.and 52 false true s0 (Value.int IntKind.u32 1) (fun t7 w =>
    bin Try.prog BinOp.xor 52 false false t7 x1 (fun t9 w =>
    bin Try.prog BinOp.shr 52 false true s0 (Value.int IntKind.u64 1) (fun t11 w =>
    bin Try.prog BinOp.eql 52 false true t9 (Value.int IntKind.u32 1) (fun t13 w =>
    (leatref02_step_A1 K) [t11, x1, undef, undef, (Value.int IntKind.u32 0), t9, s0, t7, x1, t9, s0, t11, t9, t13, undef, undef, undef] w) w) w) w) w)))
theorem leatref02_step_go : isGo Try.prog 37 := ⟨_, Try.func37, by kernel_rfl, by kernel_rfl⟩

theorem leatref02_step_A1_k {K : KV} (q0 : KE) {s0 x1 s2 x3 t4 y5 t6 t7 t8 t9 t10 t11 t12 t13 t14 t15 t16 : Value} {w : World}
    (h : cond t13
      (bin Try.prog BinOp.xor 52 false true s0 (Value.int IntKind.u32 3988292384) (fun t15 w =>
      q0 [t15, x1, s2, x3, t4, y5, t6, t7, t8, t9, t10, t11, t12, t13, s0, t15, t16] w) w)
      (q0 [s0, x1, s2, x3, t4, y5, t6, t7, t8, t9, t10, t11, t12, t13, t14, t15, t16] w)) :
    cCode Try.prog (cd Try.f37 [1, 1, 1, 0, 1]) q0 (fun _ _ _ => False) (retK Try.prog Try.f37.results.toList K) [s0, x1, s2, x3, t4, y5, t6, t7, t8, t9, t10, t11, t12, t13, t14, t15, t16] w := Eq.mp (by kernel_rfl) h

theorem leatref02_step_A1_r {K : KV} {s0 x1 s2 x3 t4 y5 t6 t7 t8 t9 t10 t11 t12 t13 t14 t15 t16 : Value} {w : World}
    (h : cond t13
      (bin Try.prog BinOp.xor 52 false true s0 (Value.int IntKind.u32 3988292384) (fun t15 w =>
      (leatref02_step_P1 K) [t15, x1, s2, x3, t4, y5, t6, t7, t8, t9, t10, t11, t12, t13, s0, t15, t16] w) w)
      ((leatref02_step_P1 K) [s0, x1, s2, x3, t4, y5, t6, t7, t8, t9, t10, t11, t12, t13, t14, t15, t16] w)) :
    leatref02_step_A1 K [s0, x1, s2, x3, t4, y5, t6, t7, t8, t9, t10, t11, t12, t13, t14, t15, t16] w := by
  delta leatref02_step_A1
  exact Eq.mp (congrArg (fun c => cCode Try.prog c (leatref02_step_P1 K) (fun _ _ _ => False) (retK Try.prog Try.f37.results.toList K) [s0, x1, s2, x3, t4, y5, t6, t7, t8, t9, t10, t11, t12, t13, t14, t15, t16] w) (by kernel_rfl : (cd Try.f37 [1, 1, 1, 0, 1]) = (cd Try.f37 [1, 1, 1, 0, 1]))) (leatref02_step_A1_k (leatref02_step_P1 K) h)

theorem leatref02_step_P1_k {K : KV} {s0 x1 s2 x3 t4 y5 t6 t7 t8 t9 t10 t11 t12 t13 t14 t15 t16 : Value} {w : World}
    (h : K s0 w) :
    cCode Try.prog (cd Try.f37 [1, 1, 1, 1]) (retK Try.prog Try.f37.results.toList K) (fun _ _ _ => False) (retK Try.prog Try.f37.results.toList K) [s0, x1, s2, x3, t4, y5, t6, t7, t8, t9, t10, t11, t12, t13, t14, t15, t16] w := Eq.mp (by kernel_rfl) h

theorem leatref02_step_P1_r {K : KV} {s0 x1 s2 x3 t4 y5 t6 t7 t8 t9 t10 t11 t12 t13 t14 t15 t16 : Value} {w : World}
    (h : K s0 w) :
    leatref02_step_P1 K [s0, x1, s2, x3, t4, y5, t6, t7, t8, t9, t10, t11, t12, t13, t14, t15, t16] w := by
  delta leatref02_step_P1
  exact Eq.mp (congrArg (fun c => cCode Try.prog c (retK Try.prog Try.f37.results.toList K) (fun _ _ _ => False) (retK Try.prog Try.f37.results.toList K) [s0, x1, s2, x3, t4, y5, t6, t7, t8, t9, t10, t11, t12, t13, t14, t15, t16] w) (by kernel_rfl : (cd Try.f37 [1, 1, 1, 1]) = (cd Try.f37 [1, 1, 1, 1]))) (leatref02_step_P1_k h)
attribute [irreducible] leatref02_step_P1 leatref02_step_A1

def leatref02_More_P1 (K : KV) : KE := cCode Try.prog (cd Try.f36 [1, 1, 1]) (retK Try.prog Try.f36.results.toList K) (fun _ _ _ => False) (retK Try.prog Try.f36.results.toList K)
def leatref02_More_L1 (K : KV) : KE := cCode Try.prog (cd Try.f36 [1, 1, 0, 1, 0]) (leatref02_More_P1 K) (fun i => @Bool.rec (fun _ => KE) ((fun _ _ _ => False) i) (leatref02_More_P1 K) (Nat.beq i 0)) (retK Try.prog Try.f36.results.toList K)
def leatref02_More_P2 (K : KV) (B1 : KE) : KE := cCode Try.prog (cd Try.f36 [1, 1, 0, 1, 0, 0, 1, 1]) B1 (fun i => @Bool.rec (fun _ => KE) ((fun _ _ _ => False) i) (leatref02_More_P1 K) (Nat.beq i 0)) (retK Try.prog Try.f36.results.toList K)
def leatref02_More_L2 (K : KV) (B1 : KE) : KE := cCode Try.prog (cd Try.f36 [1, 1, 0, 1, 0, 0, 1, 0, 0, 1, 0]) (leatref02_More_P2 K B1) (fun i => @Bool.rec (fun _ => KE) ((fun i => @Bool.rec (fun _ => KE) ((fun i => @Bool.rec (fun _ => KE) ((fun _ _ _ => False) i) (leatref02_More_P1 K) (Nat.beq i 0)) i) (leatref02_More_P2 K B1) (Nat.beq i 1)) i) (leatref02_More_P2 K B1) (Nat.beq i 2)) (retK Try.prog Try.f36.results.toList K)
theorem leatref02_More_k {K : KV} {sum0 b1 : Value} {w : World}
    (h : un Try.prog UnOp.xor sum0 (fun t9 w =>
    (cCode Try.prog (cd Try.f36 [1, 1, 0, 1, 0]) (cCode Try.prog (cd Try.f36 [1, 1, 1]) (retK Try.prog Try.f36.results.toList K) (fun _ _ _ => False) (retK Try.prog Try.f36.results.toList K)) (fun i => @Bool.rec (fun _ => KE) ((fun _ _ _ => False) i) (cCode Try.prog (cd Try.f36 [1, 1, 1]) (retK Try.prog Try.f36.results.toList K) (fun _ _ _ => False) (retK Try.prog Try.f36.results.toList K)) (Nat.beq i 0)) (retK Try.prog Try.f36.results.toList K)) [sum0, b1, undef, undef, (Value.int IntKind.u32 0), t9, (Value.int IntKind.i64 0), undef, sum0, t9, undef, undef, undef, undef, undef, undef, undef, undef, undef, undef, undef, undef, undef, undef, undef, undef, undef, undef, undef, undef, undef, undef, undef] w) w) :
    cCode Try.prog (cd Try.f36 []) (retK Try.prog Try.f36.results.toList K) (fun _ _ _ => False) (retK Try.prog Try.f36.results.toList K) [sum0, b1, undef, undef, undef, undef, undef, undef, undef, undef, undef, undef, undef, undef, undef, undef, undef, undef, undef, undef, undef, undef, undef, undef, undef, undef, undef, undef, undef, undef, undef, undef, undef] w := Eq.mp (by kernel_rfl) h

theorem leatref02_More_in {K : KV} {sum0 b1 : Value} {w : World}
    (h : un Try.prog UnOp.xor sum0 (fun t9 w =>
    (leatref02_More_L1 K) [sum0, b1, undef, undef, (Value.int IntKind.u32 0), t9, (Value.int IntKind.i64 0), undef, sum0, t9, undef, undef, undef, undef, undef, undef, undef, undef, undef, undef, undef, undef, undef, undef, undef, undef, undef, undef, undef, undef, undef, undef, undef] w) w) :
    Gives Try.prog 36 #[sum0, b1] w K := enter' Try.func36 (by kernel_rfl) (Eq.mp (congrArg (fun c => cCode Try.prog c (retK Try.prog Try.f36.results.toList K) (fun _ _ _ => False) (retK Try.prog Try.f36.results.toList K) [sum0, b1, undef, undef, undef, undef, undef, undef, undef, undef, undef, undef, undef, undef, undef, undef, undef, undef, undef, undef, undef, undef, undef, undef, undef, undef, undef, undef, undef, undef, undef, undef, undef] w) (by kernel_rfl : (cd Try.f36 []) = (cd Try.f36 []))) (leatref02_More_k (h : un Try.prog UnOp.xor sum0 (fun t9 w =>
    (leatref02_More_L1 K) [sum0, b1, undef, undef, (Value.int IntKind.u32 0), t9, (Value.int IntKind.i64 0), undef, sum0, t9, undef, undef, undef, undef, undef, undef, undef, undef, undef, undef, undef, undef, undef, undef, undef, undef, undef, undef, undef, undef, undef, undef, undef] w) w)))
theorem leatref02_More_go : isGo Try.prog 36 := ⟨_, Try.func36, by kernel_rfl, by kernel_rfl⟩

theorem leatref02_More_L1_k {K : KV} (B1 : KE) (q0 : KE) {sum0 b1 sum2 b3 t4 s5' i6' t8 t9 t31 t32 : Value} {dd : Nat → Value} {w : World}
    (h : blt Try.prog Builtin.len #[22] 3 #[false] #[b1] (fun t12 w =>
    bin Try.prog BinOp.lss 3 false false i6' t12 (fun t13 w =>
    cond t13
      ((cCode Try.prog (cd Try.f36 [1, 1, 0, 1, 0, 0, 1, 0, 0, 1, 0]) (cCode Try.prog (cd Try.f36 [1, 1, 0, 1, 0, 0, 1, 1]) B1 (fun i => @Bool.rec (fun _ => KE) ((fun _ _ _ => False) i) q0 (Nat.beq i 0)) (retK Try.prog Try.f36.results.toList K)) (fun i => @Bool.rec (fun _ => KE) ((fun i => @Bool.rec (fun _ => KE) ((fun i => @Bool.rec (fun _ => KE) ((fun _ _ _ => False) i) q0 (Nat.beq i 0)) i) (cCode Try.prog (cd Try.f36 [1, 1, 0, 1, 0, 0, 1, 1]) B1 (fun i => @Bool.rec (fun _ => KE) ((fun _ _ _ => False) i) q0 (Nat.beq i 0)) (retK Try.prog Try.f36.results.toList K)) (Nat.beq i 1)) i) (cCode Try.prog (cd Try.f36 [1, 1, 0, 1, 0, 0, 1, 1]) B1 (fun i => @Bool.rec (fun _ => KE) ((fun _ _ _ => False) i) q0 (Nat.beq i 0)) (retK Try.prog Try.f36.results.toList K)) (Nat.beq i 2)) (retK Try.prog Try.f36.results.toList K)) [sum0, b1, sum2, b3, t4, s5', i6', (Value.int IntKind.i64 0), t8, t9, i6', b1, t12, t13, (dd 14), (dd 15), (dd 16), (dd 17), (dd 18), (dd 19), (dd 20), (dd 21), (dd 22), (dd 23), (dd 24), (dd 25), (dd 26), (dd 27), (dd 28), (dd 29), (dd 30), t31, t32] w)
      (q0 [sum0, b1, sum2, b3, t4, s5', i6', (dd 7), t8, t9, i6', b1, t12, t13, (dd 14), (dd 15), (dd 16), (dd 17), (dd 18), (dd 19), (dd 20), (dd 21), (dd 22), (dd 23), (dd 24), (dd 25), (dd 26), (dd 27), (dd 28), (dd 29), (dd 30), t31, t32] w)) w) w) :
    cCode Try.prog (cd Try.f36 [1, 1, 0, 1, 0, 0]) B1 (fun i => @Bool.rec (fun _ => KE) ((fun _ _ _ => False) i) q0 (Nat.beq i 0)) (retK Try.prog Try.f36.results.toList K) [sum0, b1, sum2, b3, t4, s5', i6', (dd 7), t8, t9, (dd 10), (dd 11), (dd 12), (dd 13), (dd 14), (dd 15), (dd 16), (dd 17), (dd 18), (dd 19), (dd 20), (dd 21), (dd 22), (dd 23), (dd 24), (dd 25), (dd 26), (dd 27), (dd 28), (dd 29), (dd 30), t31, t32] w := Eq.mp (by kernel_rfl) h

theorem leatref02_More_L1_r {K : KV} {sum0 b1 sum2 b3 t4 s5 i6 k_7 t8 t9 t10 t11 t12 t13 t14 t15 t16 t17 t18 t19 t20 t21 t22 t23 t24 t25 t26 t27 t28 t29 t30 t31 t32 : Value} {w : World} (Inv : Value → Value → World → Prop) (μ : Value → Value → World → Nat) (h0 : Inv s5 i6 w)
    (hs : ∀ (s5' i6' : Value) (dd : Nat → Value) (w : World) (m : Nat), Inv s5' i6' w → m = μ s5' i6' w →
    blt Try.prog Builtin.len #[22] 3 #[false] #[b1] (fun t12 w =>
    bin Try.prog BinOp.lss 3 false false i6' t12 (fun t13 w =>
    cond t13
      ((leatref02_More_L2 K (fun e2 w2 => Inv (gd e2 5) (gd e2 6) w2 ∧ μ (gd e2 5) (gd e2 6) w2 < m)) [sum0, b1, sum2, b3, t4, s5', i6', (Value.int IntKind.i64 0), t8, t9, i6', b1, t12, t13, (dd 14), (dd 15), (dd 16), (dd 17), (dd 18), (dd 19), (dd 20), (dd 21), (dd 22), (dd 23), (dd 24), (dd 25), (dd 26), (dd 27), (dd 28), (dd 29), (dd 30), t31, t32] w)
      ((leatref02_More_P1 K) [sum0, b1, sum2, b3, t4, s5', i6', (dd 7), t8, t9, i6', b1, t12, t13, (dd 14), (dd 15), (dd 16), (dd 17), (dd 18), (dd 19), (dd 20), (dd 21), (dd 22), (dd 23), (dd 24), (dd 25), (dd 26), (dd 27), (dd 28), (dd 29), (dd 30), t31, t32] w)) w) w) :
    leatref02_More_L1 K [sum0, b1, sum2, b3, t4, s5, i6, k_7, t8, t9, t10, t11, t12, t13, t14, t15, t16, t17, t18, t19, t20, t21, t22, t23, t24, t25, t26, t27, t28, t29, t30, t31, t32] w := by
  refine loop_rule (cd Try.f36 [1, 1, 0, 1, 0, 0]) [5, 6, 7, 10, 11, 12, 13, 14, 15, 16, 17, 18, 19, 20, 21, 22, 23, 24, 25, 26, 27, 28, 29, 30] (by kernel_rfl) (fun e2 w2 => Inv (gd e2 5) (gd e2 6) w2) (fun e2 w2 => μ (gd e2 5) (gd e2 6) w2) h0 ?_
  intro e' w' hI
  have h := hs (gd e' 5) (gd e' 6) (fun i => gd e' i) w' _ hI rfl
  have h2 : cCode Try.prog (cd Try.f36 [1, 1, 0, 1, 0, 0]) (fun e2 w2 => Inv (gd e2 5) (gd e2 6) w2 ∧ μ (gd e2 5) (gd e2 6) w2 < μ (gd e' 5) (gd e' 6) w') (fun i => @Bool.rec (fun _ => KE) ((fun _ _ _ => False) i) (leatref02_More_P1 K) (Nat.beq i 0)) (retK Try.prog Try.f36.results.toList K) [sum0, b1, sum2, b3, t4, (gd e' 5), (gd e' 6), (gd e' 7), t8, t9, (gd e' 10), (gd e' 11), (gd e' 12), (gd e' 13), (gd e' 14), (gd e' 15), (gd e' 16), (gd e' 17), (gd e' 18), (gd e' 19), (gd e' 20), (gd e' 21), (gd e' 22), (gd e' 23), (gd e' 24), (gd e' 25), (gd e' 26), (gd e' 27), (gd e' 28), (gd e' 29), (gd e' 30), t31, t32] w' := leatref02_More_L1_k (fun e2 w2 => Inv (gd e2 5) (gd e2 6) w2 ∧ μ (gd e2 5) (gd e2 6) w2 < μ (gd e' 5) (gd e' 6) w') (leatref02_More_P1 K) (Eq.mp (by kernel_rfl) h)
  exact Eq.mp (by kernel_rfl) h2

theorem leatref02_More_L2_k {K : KV} (B1 : KE) (B2 : KE) (q0 : KE) (q1 : KE) {sum0 b1 sum2 b3 t4 s5' i6 k_7' t8 t9 t10 t11 t12 t13 t14 t15 t31 t32 : Value} {dd : Nat → Value} {w : World}
    (h : bin Try.prog BinOp.lss 3 false true k_7' (Value.int IntKind.i64 8) (fun t17 w =>
    cond t17
      (idxA Try.prog 22 b1 i6 (fun t23 w =>
    ld Try.prog 5 t23 (fun t24 w =>
    conv Try.prog 3 65 k_7' (fun t26 w =>
    bin Try.prog BinOp.shr 5 false false t24 t26 (fun t27 w =>
    conv Try.prog 5 52 t27 (fun t28 w =>
    bin Try.prog BinOp.and 52 false true t28 (Value.int IntKind.u32 1) (fun t29 w =>
    call Try.prog 37 #[s5', t29] (fun t30 w =>
    bin Try.prog BinOp.add 3 false true k_7' (Value.int IntKind.i64 1) (fun t19 w =>
    B2 [sum0, b1, sum2, b3, t4, t30, i6, t19, t8, t9, t10, t11, t12, t13, t14, t15, k_7', t17, k_7', t19, s5', b1, i6, t23, t24, k_7', t26, t27, t28, t29, t30, t31, t32] w) w) w) w) w) w) w) w) w)
      (q1 [sum0, b1, sum2, b3, t4, s5', i6, k_7', t8, t9, t10, t11, t12, t13, t14, t15, k_7', t17, (dd 18), (dd 19), (dd 20), (dd 21), (dd 22), (dd 23), (dd 24), (dd 25), (dd 26), (dd 27), (dd 28), (dd 29), (dd 30), t31, t32] w)) w) :
    cCode Try.prog (cd Try.f36 [1, 1, 0, 1, 0, 0, 1, 0, 0, 1, 0, 0]) B2 (fun i => @Bool.rec (fun _ => KE) ((fun i => @Bool.rec (fun _ => KE) ((fun i => @Bool.rec (fun _ => KE) ((fun _ _ _ => False) i) q0 (Nat.beq i 0)) i) q1 (Nat.beq i 1)) i) q1 (Nat.beq i 2)) (retK Try.prog Try.f36.results.toList K) [sum0, b1, sum2, b3, t4, s5', i6, k_7', t8, t9, t10, t11, t12, t13, t14, t15, (dd 16), (dd 17), (dd 18), (dd 19), (dd 20), (dd 21), (dd 22), (dd 23), (dd 24), (dd 25), (dd 26), (dd 27), (dd 28), (dd 29), (dd 30), t31, t32] w := Eq.mp (by kernel_rfl) h

theorem leatref02_More_L2_r {K : KV} {B1 : KE} {sum0 b1 sum2 b3 t4 s5 i6 k_7 t8 t9 t10 t11 t12 t13 t14 t15 t16 t17 t18 t19 t20 t21 t22 t23 t24 t25 t26 t27 t28 t29 t30 t31 t32 : Value} {w : World} (Inv : Value → Value → World → Prop) (μ : Value → Value → World → Nat) (h0 : Inv s5 k_7 w)
    (hs : ∀ (s5' k_7' : Value) (dd : Nat → Value) (w : World) (m : Nat), Inv s5' k_7' w → m = μ s5' k_7' w →
    bin Try.prog BinOp.lss 3 false true k_7' (Value.int IntKind.i64 8) (fun t17 w =>
    cond t17
      (idxA Try.prog 22 b1 i6 (fun t23 w =>
    ld Try.prog 5 t23 (fun t24 w =>
    conv Try.prog 3 65 k_7' (fun t26 w =>
    bin Try.prog BinOp.shr 5 false false t24 t26 (fun t27 w =>
    conv Try.prog 5 52 t27 (fun t28 w =>
    bin Try.prog BinOp.and 52 false true t28 (Value.int IntKind.u32 1) (fun t29 w =>
    call Try.prog 37 #[s5', t29] (fun t30 w =>
    bin Try.prog BinOp.add 3 false true k_7' (Value.int IntKind.i64 1) (fun t19 w =>
    (Inv t30 t19 w ∧ μ t30 t19 w < m)) w) w) w) w) w) w) w) w)
      ((leatref02_More_P2 K B1) [sum0, b1, sum2, b3, t4, s5', i6, k_7', t8, t9, t10, t11, t12, t13, t14, t15, k_7', t17, (dd 18), (dd 19), (dd 20), (dd 21), (dd 22), (dd 23), (dd 24), (dd 25), (dd 26), (dd 27), (dd 28), (dd 29), (dd 30), t31, t32] w)) w) :
    leatref02_More_L2 K B1 [sum0, b1, sum2, b3, t4, s5, i6, k_7, t8, t9, t10, t11, t12, t13, t14, t15, t16, t17, t18, t19, t20, t21, t22, t23, t24, t25, t26, t27, t28, t29, t30, t31, t32] w := by
  refine loop_rule (cd Try.f36 [1, 1, 0, 1, 0, 0, 1, 0, 0, 1, 0, 0]) [5, 7, 16, 17, 18, 19, 20, 21, 22, 23, 24, 25, 26, 27, 28, 29, 30] (by kernel_rfl) (fun e2 w2 => Inv (gd e2 5) (gd e2 7) w2) (fun e2 w2 => μ (gd e2 5) (gd e2 7) w2) h0 ?_
  intro e' w' hI
  have h := hs (gd e' 5) (gd e' 7) (fun i => gd e' i) w' _ hI rfl
  have h2 : cCode Try.prog (cd Try.f36 [1, 1, 0, 1, 0, 0, 1, 0, 0, 1, 0, 0]) (fun e2 w2 => Inv (gd e2 5) (gd e2 7) w2 ∧ μ (gd e2 5) (gd e2 7) w2 < μ (gd e' 5) (gd e' 7) w') (fun i => @Bool.rec (fun _ => KE) ((fun i => @Bool.rec (fun _ => KE) ((fun i => @Bool.rec (fun _ => KE) ((fun _ _ _ => False) i) (leatref02_More_P1 K) (Nat.beq i 0)) i) (leatref02_More_P2 K B1) (Nat.beq i 1)) i) (leatref02_More_P2 K B1) (Nat.beq i 2)) (retK Try.prog Try.f36.results.toList K) [sum0, b1, sum2, b3, t4, (gd e' 5), i6, (gd e' 7), t8, t9, t10, t11, t12, t13, t14, t15, (gd e' 16), (gd e' 17), (gd e' 18), (gd e' 19), (gd e' 20), (gd e' 21), (gd e' 22), (gd e' 23), (gd e' 24), (gd e' 25), (gd e' 26), (gd e' 27), (gd e' 28), (gd e' 29), (gd e' 30), t31, t32] w' := leatref02_More_L2_k B1 (fun e2 w2 => Inv (gd e2 5) (gd e2 7) w2 ∧ μ (gd e2 5) (gd e2 7) w2 < μ (gd e' 5) (gd e' 7) w') (leatref02_More_P1 K) (leatref02_More_P2 K B1) (Eq.mp (by kernel_rfl) h)
  exact Eq.mp (by kernel_rfl) h2

theorem leatref02_More_P1_k {K : KV} {sum0 b1 sum2 b3 t4 s5 i6 k_7 t8 t9 t10 t11 t12 t13 t14 t15 t16 t17 t18 t19 t20 t21 t22 t23 t24 t25 t26 t27 t28 t29 t30 t31 t32 : Value} {w : World}
    (h : un Try.prog UnOp.xor s5 (fun t32 w =>
    K t32 w) w) :
    cCode Try.prog (cd Try.f36 [1, 1, 1]) (retK Try.prog Try.f36.results.toList K) (fun _ _ _ => False) (retK Try.prog Try.f36.results.toList K) [sum0, b1, sum2, b3, t4, s5, i6, k_7, t8, t9, t10, t11, t12, t13, t14, t15, t16, t17, t18, t19, t20, t21, t22, t23, t24, t25, t26, t27, t28, t29, t30, t31, t32] w := Eq.mp (by kernel_rfl) h

theorem leatref02_More_P1_r {K : KV} {sum0 b1 sum2 b3 t4 s5 i6 k_7 t8 t9 t10 t11 t12 t13 t14 t15 t16 t17 t18 t19 t20 t21 t22 t23 t24 t25 t26 t27 t28 t29 t30 t31 t32 : Value} {w : World}
    (h : un Try.prog UnOp.xor s5 (fun t32 w =>
    K t32 w) w) :
    leatref02_More_P1 K [sum0, b1, sum2, b3, t4, s5, i6, k_7, t8, t9, t10, t11, t12, t13, t14, t15, t16, t17, t18, t19, t20, t21, t22, t23, t24, t25, t26, t27, t28, t29, t30, t31, t32] w := by
  delta leatref02_More_P1
  exact Eq.mp (congrArg (fun c => cCode Try.prog c (retK Try.prog Try.f36.results.toList K) (fun _ _ _ => False) (retK Try.prog Try.f36.results.toList K) [sum0, b1, sum2, b3, t4, s5, i6, k_7, t8, t9, t10, t11, t12, t13, t14, t15, t16, t17, t18, t19, t20, t21, t22, t23, t24, t25, t26, t27, t28, t29, t30, t31, t32] w) (by kernel_rfl : (cd Try.f36 [1, 1, 1]) = (cd Try.f36 [1, 1, 1]))) (leatref02_More_P1_k h)

theorem leatref02_More_P2_k {K : KV} (B1 : KE) (q0 : KE) {sum0 b1 sum2 b3 t4 s5 i6 k_7 t8 t9 t10 t11 t12 t13 t14 t15 t16 t17 t18 t19 t20 t21 t22 t23 t24 t25 t26 t27 t28 t29 t30 t31 t32 : Value} {w : World}
    (h : bin Try.prog BinOp.add 3 false true i6 (Value.int IntKind.i64 1) (fun t15 w =>
    B1 [sum0, b1, sum2, b3, t4, s5, t15, k_7, t8, t9, t10, t11, t12, t13, i6, t15, t16, t17, t18, t19, t20, t21, t22, t23, t24, t25, t26, t27, t28, t29, t30, t31, t32] w) w) :
    cCode Try.prog (cd Try.f36 [1, 1, 0, 1, 0, 0, 1, 1]) B1 (fun i => @Bool.rec (fun _ => KE) ((fun _ _ _ => False) i) q0 (Nat.beq i 0)) (retK Try.prog Try.f36.results.toList K) [sum0, b1, sum2, b3, t4, s5, i6, k_7, t8, t9, t10, t11, t12, t13, t14, t15, t16, t17, t18, t19, t20, t21, t22, t23, t24, t25, t26, t27, t28, t29, t30, t31, t32] w := Eq.mp (by kernel_rfl) h

theorem leatref02_More_P2_r {K : KV} {B1 : KE} {sum0 b1 sum2 b3 t4 s5 i6 k_7 t8 t9 t10 t11 t12 t13 t14 t15 t16 t17 t18 t19 t20 t21 t22 t23 t24 t25 t26 t27 t28 t29 t30 t31 t32 : Value} {w : World}
    (h : bin Try.prog BinOp.add 3 false true i6 (Value.int IntKind.i64 1) (fun t15 w =>
    B1 [sum0, b1, sum2, b3, t4, s5, t15, k_7, t8, t9, t10, t11, t12, t13, i6, t15, t16, t17, t18, t19, t20, t21, t22, t23, t24, t25, t26, t27, t28, t29, t30, t31, t32] w) w) :
    leatref02_More_P2 K B1 [sum0, b1, sum2, b3, t4, s5, i6, k_7, t8, t9, t10, t11, t12, t13, t14, t15, t16, t17, t18, t19, t20, t21, t22, t23, t24, t25, t26, t27, t28, t29, t30, t31, t32] w := by
  delta leatref02_More_P2
  exact Eq.mp (congrArg (fun c => cCode Try.prog c B1 (fun i => @Bool.rec (fun _ => KE) ((fun _ _ _ => False) i) (leatref02_More_P1 K) (Nat.beq i 0)) (retK Try.prog Try.f36.results.toList K) [sum0, b1, sum2, b3, t4, s5, i6, k_7, t8, t9, t10, t11, t12, t13, t14, t15, t16, t17, t18, t19, t20, t21, t22, t23, t24, t25, t26, t27, t28, t29, t30, t31, t32] w) (by kernel_rfl : (cd Try.f36 [1, 1, 0, 1, 0, 0, 1, 1]) = (cd Try.f36 [1, 1, 0, 1, 0, 0, 1, 1]))) (leatref02_More_P2_k B1 (leatref02_More_P1 K) h)
attribute [irreducible] leatref02_More_P1 leatref02_More_L1 leatref02_More_P2 leatref02_More_L2


theorem leatref02_Sum_k {K : KV} {b0 : Value} {w : World}
    (h : call Try.prog 36 #[(Value.int IntKind.u32 0), b0] (fun t4 w =>
    K t4 w) w) :
    cCode Try.prog (cd Try.f32 []) (retK Try.prog Try.f32.results.toList K) (fun _ _ _ => False) (retK Try.prog Try.f32.results.toList K) [b0, undef, undef, undef, undef] w := Eq.mp (by kernel_rfl) h

theorem leatref02_Sum_in {K : KV} {b0 : Value} {w : World}
    (h : call Try.prog 36 #[(Value.int IntKind.u32 0), b0] (fun t4 w =>
    K t4 w) w) :
    Gives Try.prog 32 #[b0] w K := enter' Try.func32 (by kernel_rfl) (Eq.mp (congrArg (fun c => cCode Try.prog c (retK Try.prog Try.f32.results.toList K) (fun _ _ _ => False) (retK Try.prog Try.f32.results.toList K) [b0, undef, undef, undef, undef] w) (by kernel_rfl : (cd Try.f32 []) = (cd Try.f32 []))) (leatref02_Sum_k (h : call Try.prog 36 #[(Value.int IntKind.u32 0), b0] (fun t4 w =>
    K t4 w) w)))
theorem leatref02_Sum_go : isGo Try.prog 32 := ⟨_, Try.func32, by kernel_rfl, by kernel_rfl⟩


theorem leatref03_Frame_k {K : KV} {record0 : Value} {w : World}
    (h : blt Try.prog Builtin.len #[22] 3 #[false] #[record0] (fun t10 w =>
    conv Try.prog 3 56 t10 (fun t11 w =>
    call Try.prog 31 #[(Value.slice none 0 0), t11, (Value.int IntKind.i64 4)] (fun t12 w =>
    ext Try.prog t12 0 (fun t13 w =>
    ext Try.prog t12 1 (fun t14 w =>
    bldS Try.prog 22 0 #[] (fun t15 w =>
    blt Try.prog Builtin.append #[22, 22] 22 #[false, false] #[t15, t13] (fun t17 w =>
    blt Try.prog Builtin.append #[22, 22] 22 #[false, false] #[t17, record0] (fun t19 w =>
    call Try.prog 32 #[t19] (fun t20 w =>
    conv Try.prog 52 56 t20 (fun t24 w =>
    call Try.prog 31 #[t13, t24, (Value.int IntKind.i64 4)] (fun t25 w =>
    ext Try.prog t25 0 (fun t26 w =>
    ext Try.prog t25 1 (fun t27 w =>
    blt Try.prog Builtin.append #[22, 22] 22 #[false, false] #[t26, record0] (fun t30 w =>
    K t30 w) w) w) w) w) w) w) w) w) w) w) w) w) w) w) :
    cCode Try.prog (cd Try.f26 []) (retK Try.prog Try.f26.results.toList K) (fun _ _ _ => False) (retK Try.prog Try.f26.results.toList K) [record0, undef, undef, undef, undef, undef, undef, undef, undef, undef, undef, undef, undef, undef, undef, undef, undef, undef, undef, undef, undef, undef, undef, undef, undef, undef, undef, undef, undef, undef, undef] w := Eq.mp (by kernel_rfl) h

theorem leatref03_Frame_in {K : KV} {record0 : Value} {w : World}
    (h : blt Try.prog Builtin.len #[22] 3 #[false] #[record0] (fun t10 w =>
    conv Try.prog 3 56 t10 (fun t11 w =>
    call Try.prog 31 #[(Value.slice none 0 0), t11, (Value.int IntKind.i64 4)] (fun t12 w =>
    ext Try.prog t12 0 (fun t13 w =>
    ext Try.prog t12 1 (fun t14 w =>
    bldS Try.prog 22 0 #[] (fun t15 w =>
    blt Try.prog Builtin.append #[22, 22] 22 #[false, false] #[t15, t13] (fun t17 w =>
    blt Try.prog Builtin.append #[22, 22] 22 #[false, false] #[t17, record0] (fun t19 w =>
    call Try.prog 32 #[t19] (fun t20 w =>
    conv Try.prog 52 56 t20 (fun t24 w =>
    call Try.prog 31 #[t13, t24, (Value.int IntKind.i64 4)] (fun t25 w =>
    ext Try.prog t25 0 (fun t26 w =>
    ext Try.prog t25 1 (fun t27 w =>
    blt Try.prog Builtin.append #[22, 22] 22 #[false, false] #[t26, record0] (fun t30 w =>
    K t30 w) w) w) w) w) w) w) w) w) w) w) w) w) w) w) :
    Gives Try.prog 26 #[record0] w K := enter' Try.func26 (by kernel_rfl) (Eq.mp (congrArg (fun c => cCode Try.prog c (retK Try.prog Try.f26.results.toList K) (fun _ _ _ => False) (retK Try.prog Try.f26.results.toList K) [record0, undef, undef, undef, undef, undef, undef, undef, undef, undef, undef, undef, undef, undef, undef, undef, undef, undef, undef, undef, undef, undef, undef, undef, undef, undef, undef, undef, undef, undef, undef] w) (by kernel_rfl : (cd Try.f26 []) = (cd Try.f26 []))) (leatref03_Frame_k (h : blt Try.prog Builtin.len #[22] 3 #[false] #[record0] (fun t10 w =>
    conv Try.prog 3 56 t10 (fun t11 w =>
    call Try.prog 31 #[(Value.slice none 0 0), t11, (Value.int IntKind.i64 4)] (fun t12 w =>
    ext Try.prog t12 0 (fun t13 w =>
    ext Try.prog t12 1 (fun t14 w =>
    bldS Try.prog 22 0 #[] (fun t15 w =>
    blt Try.prog Builtin.append #[22, 22] 22 #[false, false] #[t15, t13] (fun t17 w =>
    blt Try.prog Builtin.append #[22, 22] 22 #[false, false] #[t17, record0] (fun t19 w =>
    call Try.prog 32 #[t19] (fun t20 w =>
    conv Try.prog 52 56 t20 (fun t24 w =>
    call Try.prog 31 #[t13, t24, (Value.int IntKind.i64 4)] (fun t25 w =>
    ext Try.prog t25 0 (fun t26 w =>
    ext Try.prog t25 1 (fun t27 w =>
    blt Try.prog Builtin.append #[22, 22] 22 #[false, false] #[t26, record0] (fun t30 w =>
    K t30 w) w) w) w) w) w) w) w) w) w) w) w) w) w) w)))
theorem leatref03_Frame_go : isGo Try.prog 26 := ⟨_, Try.func26, by kernel_rfl, by kernel_rfl⟩

def leatref03_Put_P1 (K : KV) : KE := cCode Try.prog (cd Try.f18 [1, 1, 1]) (retK Try.prog Try.f18.results.toList K) (fun _ _ _ => False) (retK Try.prog Try.f18.results.toList K)
def leatref03_Put_L1 (K : KV) : KE := cCode Try.prog (cd Try.f18 [1, 1, 0, 1, 0]) (leatref03_Put_P1 K) (fun i => @Bool.rec (fun _ => KE) ((fun _ _ _ => False) i) (leatref03_Put_P1 K) (Nat.beq i 0)) (retK Try.prog Try.f18.results.toList K)
theorem leatref03_Put_k {K : KV} {b0 l1 : Value} {w : World}
    (h : bldS Try.prog 22 0 #[] (fun t8 w =>
    blt Try.prog Builtin.append #[22, 22] 22 #[false, false] #[t8, b0] (fun t10 w =>
    (cCode Try.prog (cd Try.f18 [1, 1, 0, 1, 0]) (cCode Try.prog (cd Try.f18 [1, 1, 1]) (retK Try.prog Try.f18.results.toList K) (fun _ _ _ => False) (retK Try.prog Try.f18.results.toList K)) (fun i => @Bool.rec (fun _ => KE) ((fun _ _ _ => False) i) (cCode Try.prog (cd Try.f18 [1, 1, 1]) (retK Try.prog Try.f18.results.toList K) (fun _ _ _ => False) (retK Try.prog Try.f18.results.toList K)) (Nat.beq i 0)) (retK Try.prog Try.f18.results.toList K)) [b0, l1, undef, undef, (Value.slice none 0 0), (Value.int IntKind.i64 0), t10, (Value.int IntKind.i64 0), t8, b0, t10, undef, undef, undef, undef, undef, undef, undef, undef, undef, undef, undef, undef, undef, undef, undef, undef, undef, undef, undef, undef] w) w) w) :
    cCode Try.prog (cd Try.f18 []) (retK Try.prog Try.f18.results.toList K) (fun _ _ _ => False) (retK Try.prog Try.f18.results.toList K) [b0, l1, undef, undef, undef, undef, undef, undef, undef, undef, undef, undef, undef, undef, undef, undef, undef, undef, undef, undef, undef, undef, undef, undef, undef, undef, undef, undef, undef, undef, undef] w := Eq.mp (by kernel_rfl) h

theorem leatref03_Put_in {K : KV} {b0 l1 : Value} {w : World}
    (h : bldS Try.prog 22 0 #[] (fun t8 w =>
    blt Try.prog Builtin.append #[22, 22] 22 #[false, false] #[t8, b0] (fun t10 w =>
    (leatref03_Put_L1 K) [b0, l1, undef, undef, (Value.slice none 0 0), (Value.int IntKind.i64 0), t10, (Value.int IntKind.i64 0), t8, b0, t10, undef, undef, undef, undef, undef, undef, undef, undef, undef, undef, undef, undef, undef, undef, undef, undef, undef, undef, undef, undef] w) w) w) :
    Gives Try.prog 18 #[b0, l1] w K := enter' Try.func18 (by kernel_rfl) (Eq.mp (congrArg (fun c => cCode Try.prog c (retK Try.prog Try.f18.results.toList K) (fun _ _ _ => False) (retK Try.prog Try.f18.results.toList K) [b0, l1, undef, undef, undef, undef, undef, undef, undef, undef, undef, undef, undef, undef, undef, undef, undef, undef, undef, undef, undef, undef, undef, undef, undef, undef, undef, undef, undef, undef, undef] w) (by kernel_rfl : (cd Try.f18 []) = (cd Try.f18 []))) (leatref03_Put_k (h : bldS Try.prog 22 0 #[] (fun t8 w =>
    blt Try.prog Builtin.append #[22, 22] 22 #[false, false] #[t8, b0] (fun t10 w =>
    (leatref03_Put_L1 K) [b0, l1, undef, undef, (Value.slice none 0 0), (Value.int IntKind.i64 0), t10, (Value.int IntKind.i64 0), t8, b0, t10, undef, undef, undef, undef, undef, undef, undef, undef, undef, undef, undef, undef, undef, undef, undef, undef, undef, undef, undef, undef] w) w) w)))
theorem leatref03_Put_go : isGo Try.prog 18 := ⟨_, Try.func18, by kernel_rfl, by kernel_rfl⟩

theorem leatref03_Put_L1_k {K : KV} (B1 : KE) (q0 : KE) {b0 l1 b2 l3 out6' i7' t8 t9 t10 t30 : Value} {dd : Nat → Value} {w : World}
    (h : blt Try.prog Builtin.len #[26] 3 #[false] #[l1] (fun t13 w =>
    bin Try.prog BinOp.lss 3 false false i7' t13 (fun t14 w =>
    cond t14
      (idxA Try.prog 26 l1 i7' (fun t19 w =>
    ld Try.prog 22 t19 (fun t20 w =>
    blt Try.prog Builtin.len #[22] 3 #[false] #[t20] (fun t21 w =>
    bin Try.prog BinOp.gtr 3 false true t21 (Value.int IntKind.i64 4096) (fun t22 w =>
    cond t22
      (K (Value.tuple #[(Value.slice none 0 0), (Value.int IntKind.i64 6)]) w)
      (idxA Try.prog 26 l1 i7' (fun t26 w =>
    ld Try.prog 22 t26 (fun t27 w =>
    call Try.prog 26 #[t27] (fun t28 w =>
    blt Try.prog Builtin.append #[22, 22] 22 #[false, false] #[out6', t28] (fun t29 w =>
    bin Try.prog BinOp.add 3 false true i7' (Value.int IntKind.i64 1) (fun t16 w =>
    B1 [b0, l1, b2, l3, (dd 4), (dd 5), t29, t16, t8, t9, t10, i7', l1, t13, t14, i7', t16, l1, i7', t19, t20, t21, t22, out6', l1, i7', t26, t27, t28, t29, t30] w) w) w) w) w) w)) w) w) w) w)
      (q0 [b0, l1, b2, l3, (dd 4), (dd 5), out6', i7', t8, t9, t10, i7', l1, t13, t14, (dd 15), (dd 16), (dd 17), (dd 18), (dd 19), (dd 20), (dd 21), (dd 22), (dd 23), (dd 24), (dd 25), (dd 26), (dd 27), (dd 28), (dd 29), t30] w)) w) w) :
    cCode Try.prog (cd Try.f18 [1, 1, 0, 1, 0, 0]) B1 (fun i => @Bool.rec (fun _ => KE) ((fun _ _ _ => False) i) q0 (Nat.beq i 0)) (retK Try.prog Try.f18.results.toList K) [b0, l1, b2, l3, (dd 4), (dd 5), out6', i7', t8, t9, t10, (dd 11), (dd 12), (dd 13), (dd 14), (dd 15), (dd 16), (dd 17), (dd 18), (dd 19), (dd 20), (dd 21), (dd 22), (dd 23), (dd 24), (dd 25), (dd 26), (dd 27), (dd 28), (dd 29), t30] w := Eq.mp (by kernel_rfl) h

theorem leatref03_Put_L1_r {K : KV} {b0 l1 b2 l3 t4 t5 out6 i7 t8 t9 t10 t11 t12 t13 t14 t15 t16 t17 t18 t19 t20 t21 t22 t23 t24 t25 t26 t27 t28 t29 t30 : Value} {w : World} (Inv : Value → Value → World → Prop) (μ : Value → Value → World → Nat) (h0 : Inv out6 i7 w)
    (hs : ∀ (out6' i7' : Value) (dd : Nat → Value) (w : World) (m : Nat), Inv out6' i7' w → m = μ out6' i7' w →
    blt Try.prog Builtin.len #[26] 3 #[false] #[l1] (fun t13 w =>
    bin Try.prog BinOp.lss 3 false false i7' t13 (fun t14 w =>
    cond t14
      (idxA Try.prog 26 l1 i7' (fun t19 w =>
    ld Try.prog 22 t19 (fun t20 w =>
    blt Try.prog Builtin.len #[22] 3 #[false] #[t20] (fun t21 w =>
    bin Try.prog BinOp.gtr 3 false true t21 (Value.int IntKind.i64 4096) (fun t22 w =>
    cond t22
      (K (Value.tuple #[(Value.slice none 0 0), (Value.int IntKind.i64 6)]) w)
      (idxA Try.prog 26 l1 i7' (fun t26 w =>
    ld Try.prog 22 t26 (fun t27 w =>
    call Try.prog 26 #[t27] (fun t28 w =>
    blt Try.prog Builtin.append #[22, 22] 22 #[false, false] #[out6', t28] (fun t29 w =>
    bin Try.prog BinOp.add 3 false true i7' (Value.int IntKind.i64 1) (fun t16 w =>
    (Inv t29 t16 w ∧ μ t29 t16 w < m)) w) w) w) w) w)) w) w) w) w)
      ((leatref03_Put_P1 K) [b0, l1, b2, l3, (dd 4), (dd 5), out6', i7', t8, t9, t10, i7', l1, t13, t14, (dd 15), (dd 16), (dd 17), (dd 18), (dd 19), (dd 20), (dd 21), (dd 22), (dd 23), (dd 24), (dd 25), (dd 26), (dd 27), (dd 28), (dd 29), t30] w)) w) w) :
    leatref03_Put_L1 K [b0, l1, b2, l3, t4, t5, out6, i7, t8, t9, t10, t11, t12, t13, t14, t15, t16, t17, t18, t19, t20, t21, t22, t23, t24, t25, t26, t27, t28, t29, t30] w := by
  refine loop_rule (cd Try.f18 [1, 1, 0, 1, 0, 0]) [4, 5, 6, 7, 11, 12, 13, 14, 15, 16, 17, 18, 19, 20, 21, 22, 23, 24, 25, 26, 27, 28, 29] (by kernel_rfl) (fun e2 w2 => Inv (gd e2 6) (gd e2 7) w2) (fun e2 w2 => μ (gd e2 6) (gd e2 7) w2) h0 ?_
  intro e' w' hI
  have h := hs (gd e' 6) (gd e' 7) (fun i => gd e' i) w' _ hI rfl
  have h2 : cCode Try.prog (cd Try.f18 [1, 1, 0, 1, 0, 0]) (fun e2 w2 => Inv (gd e2 6) (gd e2 7) w2 ∧ μ (gd e2 6) (gd e2 7) w2 < μ (gd e' 6) (gd e' 7) w') (fun i => @Bool.rec (fun _ => KE) ((fun _ _ _ => False) i) (leatref03_Put_P1 K) (Nat.beq i 0)) (retK Try.prog Try.f18.results.toList K) [b0, l1, b2, l3, (gd e' 4), (gd e' 5), (gd e' 6), (gd e' 7), t8, t9, t10, (gd e' 11), (gd e' 12), (gd e' 13), (gd e' 14), (gd e' 15), (gd e' 16), (gd e' 17), (gd e' 18), (gd e' 19), (gd e' 20), (gd e' 21), (gd e' 22), (gd e' 23), (gd e' 24), (gd e' 25), (gd e' 26), (gd e' 27), (gd e' 28), (gd e' 29), t30] w' := leatref03_Put_L1_k (fun e2 w2 => Inv (gd e2 6) (gd e2 7) w2 ∧ μ (gd e2 6) (gd e2 7) w2 < μ (gd e' 6) (gd e' 7) w') (leatref03_Put_P1 K) (Eq.mp (by kernel_rfl) h)
  exact Eq.mp (by kernel_rfl) h2

theorem leatref03_Put_P1_k {K : KV} {b0 l1 b2 l3 t4 t5 out6 i7 t8 t9 t10 t11 t12 t13 t14 t15 t16 t17 t18 t19 t20 t21 t22 t23 t24 t25 t26 t27 t28 t29 t30 : Value} {w : World}
    (h : K (Value.tuple #[out6, (Value.int IntKind.i64 0)]) w) :
    cCode Try.prog (cd Try.f18 [1, 1, 1]) (retK Try.prog Try.f18.results.toList K) (fun _ _ _ => False) (retK Try.prog Try.f18.results.toList K) [b0, l1, b2, l3, t4, t5, out6, i7, t8, t9, t10, t11, t12, t13, t14, t15, t16, t17, t18, t19, t20, t21, t22, t23, t24, t25, t26, t27, t28, t29, t30] w := Eq.mp (by kernel_rfl) h

theorem leatref03_Put_P1_r {K : KV} {b0 l1 b2 l3 t4 t5 out6 i7 t8 t9 t10 t11 t12 t13 t14 t15 t16 t17 t18 t19 t20 t21 t22 t23 t24 t25 t26 t27 t28 t29 t30 : Value} {w : World}
    (h : K (Value.tuple #[out6, (Value.int IntKind.i64 0)]) w) :
    leatref03_Put_P1 K [b0, l1, b2, l3, t4, t5, out6, i7, t8, t9, t10, t11, t12, t13, t14, t15, t16, t17, t18, t19, t20, t21, t22, t23, t24, t25, t26, t27, t28, t29, t30] w := by
  delta leatref03_Put_P1
  exact Eq.mp (congrArg (fun c => cCode Try.prog c (retK Try.prog Try.f18.results.toList K) (fun _ _ _ => False) (retK Try.prog Try.f18.results.toList K) [b0, l1, b2, l3, t4, t5, out6, i7, t8, t9, t10, t11, t12, t13, t14, t15, t16, t17, t18, t19, t20, t21, t22, t23, t24, t25, t26, t27, t28, t29, t30] w) (by kernel_rfl : (cd Try.f18 [1, 1, 1]) = (cd Try.f18 [1, 1, 1]))) (leatref03_Put_P1_k h)
attribute [irreducible] leatref03_Put_P1 leatref03_Put_L1

def leatref03_Take_A1 (K : KV) : KE := cCode Try.prog (cd Try.f20 [1, 1, 1, 1]) (retK Try.prog Try.f20.results.toList K) (fun _ _ _ => False) (retK Try.prog Try.f20.results.toList K)
def leatref03_Take_A2 (K : KV) : KE := cCode Try.prog (cd Try.f20 [1, 1, 1, 1, 1, 1, 1]) (retK Try.prog Try.f20.results.toList K) (fun _ _ _ => False) (retK Try.prog Try.f20.results.toList K)
theorem leatref03_Take_k {K : KV} (x0 : Code) {b0 at1 : Value} {w : World}
    (h : bin Try.prog BinOp.lss 3 false true at1 (Value.int IntKind.i64 0) (fun t13 w =>
    gsel t13 false (fun k15 =>
    blt Try.prog Builtin.len #[22] 3 #[false] #[b0] (fun t17 w =>
    bin Try.prog BinOp.gtr 3 false false at1 t17 (fun t18 w =>
    k15 [at1, b0, t17, t18] w) w) w)
    (fun k => k [undef, undef, undef, undef] w) (fun us15 w =>
    pick t13 (Value.bool true) (gd us15 3) (fun t19 w =>
    cond t19
      (K (Value.tuple #[(Value.slice none 0 0), (Value.int IntKind.i64 0), (Value.int IntKind.i64 1)]) w)
      (blt Try.prog Builtin.len #[22] 3 #[false] #[b0] (fun t21 w =>
    bin Try.prog BinOp.sub 3 false false t21 at1 (fun t23 w =>
    bin Try.prog BinOp.lss 3 false true t23 (Value.int IntKind.i64 8) (fun t24 w =>
    cond t24
      (K (Value.tuple #[(Value.slice none 0 0), (Value.int IntKind.i64 0), (Value.int IntKind.i64 5)]) w)
      (call Try.prog 27 #[b0, at1, (Value.int IntKind.i64 4)] (fun t28 w =>
    ext Try.prog t28 0 (fun t29 w =>
    ext Try.prog t28 1 (fun t30 w =>
    ext Try.prog t28 2 (fun t31 w =>
    (cCode Try.prog x0 (retK Try.prog Try.f20.results.toList K) (fun _ _ _ => False) (retK Try.prog Try.f20.results.toList K)) (b0 :: at1 :: undef :: undef :: (Value.slice none 0 0) :: (Value.int IntKind.i64 0) :: (Value.int IntKind.i64 0) :: t29 :: t30 :: t31 :: undef :: undef :: at1 :: t13 :: t13 :: (gd us15 0) :: (gd us15 1) :: (gd us15 2) :: (gd us15 3) :: t19 :: b0 :: t21 :: at1 :: t23 :: t24 :: t28 :: b0 :: at1 :: t28 :: t29 :: t30 :: t31 :: undef :: undef :: undef :: undef :: undef :: undef :: undef :: undef :: undef :: undef :: undef :: undef :: undef :: undef :: undef :: undef :: undef :: undef :: undef :: undef :: undef :: undef :: undef :: undef :: undef :: undef :: undef :: undef :: undef :: undef :: undef :: undef :: undef :: undef :: undef :: []) w) w) w) w) w)) w) w) w)) w)) w) :
    cCode Try.prog (rep [1, 1, 1, 1] x0 (cd Try.f20 [])) (retK Try.prog Try.f20.results.toList K) (fun _ _ _ => False) (retK Try.prog Try.f20.results.toList K) (b0 :: at1 :: undef :: undef :: undef :: undef :: undef :: undef :: undef :: undef :: undef :: undef :: undef :: undef :: undef :: undef :: undef :: undef :: undef :: undef :: undef :: undef :: undef :: undef :: undef :: undef :: undef :: undef :: undef :: undef :: undef :: undef :: undef :: undef :: undef :: undef :: undef :: undef :: undef :: undef :: undef :: undef :: undef :: undef :: undef :: undef :: undef :: undef :: undef :: undef :: undef :: undef :: undef :: undef :: undef :: undef :: undef :: undef :: undef :: undef :: undef :: undef :: undef :: undef :: undef :: undef :: undef :: []) w := Eq.mp (by kernel_rfl) h

theorem leatref03_Take_in {K : KV} {b0 at1 : Value} {w : World}
    (h : bin Try.prog BinOp.lss 3 false true at1 (Value.int IntKind.i64 0) (fun t13 w =>
    gsel t13 false (fun k15 =>
    blt Try.prog Builtin.len #[22] 3 #[false] #[b0] (fun t17 w =>
    bin Try.prog BinOp.gtr 3 false false at1 t17 (fun t18 w =>
    k15 [at1, b0, t17, t18] w) w) w)
    (fun k => k [undef, undef, undef, undef] w) (fun us15 w =>
    pick t13 (Value.bool true) (gd us15 3) (fun t19 w =>
    cond t19
      (K (Value.tuple #[(Value.slice none 0 0), (Value.int IntKind.i64 0), (Value.int IntKind.i64 1)]) w)
      (blt Try.prog Builtin.len #[22] 3 #[false] #[b0] (fun t21 w =>
    bin Try.prog BinOp.sub 3 false false t21 at1 (fun t23 w =>
    bin Try.prog BinOp.lss 3 false true t23 (Value.int IntKind.i64 8) (fun t24 w =>
    cond t24
      (K (Value.tuple #[(Value.slice none 0 0), (Value.int IntKind.i64 0), (Value.int IntKind.i64 5)]) w)
      (call Try.prog 27 #[b0, at1, (Value.int IntKind.i64 4)] (fun t28 w =>
    ext Try.prog t28 0 (fun t29 w =>
    ext Try.prog t28 1 (fun t30 w =>
    ext Try.prog t28 2 (fun t31 w =>
    (leatref03_Take_A1 K) (b0 :: at1 :: undef :: undef :: (Value.slice none 0 0) :: (Value.int IntKind.i64 0) :: (Value.int IntKind.i64 0) :: t29 :: t30 :: t31 :: undef :: undef :: at1 :: t13 :: t13 :: (gd us15 0) :: (gd us15 1) :: (gd us15 2) :: (gd us15 3) :: t19 :: b0 :: t21 :: at1 :: t23 :: t24 :: t28 :: b0 :: at1 :: t28 :: t29 :: t30 :: t31 :: undef :: undef :: undef :: undef :: undef :: undef :: undef :: undef :: undef :: undef :: undef :: undef :: undef :: undef :: undef :: undef :: undef :: undef :: undef :: undef :: undef :: undef :: undef :: undef :: undef :: undef :: undef :: undef :: undef :: undef :: undef :: undef :: undef :: undef :: undef :: []) w) w) w) w) w)) w) w) w)) w)) w) :
    Gives Try.prog 20 #[b0, at1] w K := enter' Try.func20 (by kernel_rfl) (Eq.mp (congrArg (fun c => cCode Try.prog c (retK Try.prog Try.f20.results.toList K) (fun _ _ _ => False) (retK Try.prog Try.f20.results.toList K) (b0 :: at1 :: undef :: undef :: undef :: undef :: undef :: undef :: undef :: undef :: undef :: undef :: undef :: undef :: undef :: undef :: undef :: undef :: undef :: undef :: undef :: undef :: undef :: undef :: undef :: undef :: undef :: undef :: undef :: undef :: undef :: undef :: undef :: undef :: undef :: undef :: undef :: undef :: undef :: undef :: undef :: undef :: undef :: undef :: undef :: undef :: undef :: undef :: undef :: undef :: undef :: undef :: undef :: undef :: undef :: undef :: undef :: undef :: undef :: undef :: undef :: undef :: undef :: undef :: undef :: undef :: undef :: []) w) (by kernel_rfl : (rep [1, 1, 1, 1] (cd Try.f20 [1, 1, 1, 1]) (cd Try.f20 [])) = (cd Try.f20 []))) (leatref03_Take_k (cd Try.f20 [1, 1, 1, 1]) (h : bin Try.prog BinOp.lss 3 false true at1 (Value.int IntKind.i64 0) (fun t13 w =>
    gsel t13 false (fun k15 =>
    blt Try.prog Builtin.len #[22] 3 #[false] #[b0] (fun t17 w =>
    bin Try.prog BinOp.gtr 3 false false at1 t17 (fun t18 w =>
    k15 [at1, b0, t17, t18] w) w) w)
    (fun k => k [undef, undef, undef, undef] w) (fun us15 w =>
    pick t13 (Value.bool true) (gd us15 3) (fun t19 w =>
    cond t19
      (K (Value.tuple #[(Value.slice none 0 0), (Value.int IntKind.i64 0), (Value.int IntKind.i64 1)]) w)
      (blt Try.prog Builtin.len #[22] 3 #[false] #[b0] (fun t21 w =>
    bin Try.prog BinOp.sub 3 false false t21 at1 (fun t23 w =>
    bin Try.prog BinOp.lss 3 false true t23 (Value.int IntKind.i64 8) (fun t24 w =>
    cond t24
      (K (Value.tuple #[(Value.slice none 0 0), (Value.int IntKind.i64 0), (Value.int IntKind.i64 5)]) w)
      (call Try.prog 27 #[b0, at1, (Value.int IntKind.i64 4)] (fun t28 w =>
    ext Try.prog t28 0 (fun t29 w =>
    ext Try.prog t28 1 (fun t30 w =>
    ext Try.prog t28 2 (fun t31 w =>
    (leatref03_Take_A1 K) (b0 :: at1 :: undef :: undef :: (Value.slice none 0 0) :: (Value.int IntKind.i64 0) :: (Value.int IntKind.i64 0) :: t29 :: t30 :: t31 :: undef :: undef :: at1 :: t13 :: t13 :: (gd us15 0) :: (gd us15 1) :: (gd us15 2) :: (gd us15 3) :: t19 :: b0 :: t21 :: at1 :: t23 :: t24 :: t28 :: b0 :: at1 :: t28 :: t29 :: t30 :: t31 :: undef :: undef :: undef :: undef :: undef :: undef :: undef :: undef :: undef :: undef :: undef :: undef :: undef :: undef :: undef :: undef :: undef :: undef :: undef :: undef :: undef :: undef :: undef :: undef :: undef :: undef :: undef :: undef :: undef :: undef :: undef :: undef :: undef :: undef :: undef :: []) w) w) w) w) w)) w) w) w)) w)) w)))
theorem leatref03_Take_go : isGo Try.prog 20 := ⟨_, Try.func20, by kernel_rfl, by kernel_rfl⟩

theorem leatref03_Take_A1_k {K : KV} (x0 : Code) {b0 at1 b2 at3 t4 t5 t6 n7 t8 t9 end10 record11 t12 t13 t14 t15 t16 t17 t18 t19 t20 t21 t22 t23 t24 t25 t26 t27 t28 t29 t30 t31 t32 t33 t34 t35 t36 t37 t38 t39 t40 t41 t42 t43 t44 t45 t46 t47 t48 t49 t50 t51 t52 t53 t54 t55 t56 t57 t58 t59 t60 t61 t62 t63 t64 t65 t66 : Value} {w : World}
    (h : bin Try.prog BinOp.gtr 56 false true n7 (Value.int IntKind.u64 4096) (fun t33 w =>
    gsel t33 false (fun k35 =>
    conv Try.prog 56 3 n7 (fun t36 w =>
    blt Try.prog Builtin.len #[22] 3 #[false] #[b0] (fun t38 w =>
    bin Try.prog BinOp.sub 3 false false t38 at1 (fun t40 w =>
    bin Try.prog BinOp.sub 3 false true t40 (Value.int IntKind.i64 8) (fun t41 w =>
    bin Try.prog BinOp.gtr 3 false false t36 t41 (fun t42 w =>
    k35 [n7, t36, b0, t38, at1, t40, t41, t42] w) w) w) w) w) w)
    (fun k => k [undef, undef, undef, undef, undef, undef, undef, undef] w) (fun us35 w =>
    pick t33 (Value.bool true) (gd us35 7) (fun t43 w =>
    cond t43
      (K (Value.tuple #[(Value.slice none 0 0), (Value.int IntKind.i64 0), (Value.int IntKind.i64 5)]) w)
      (bin Try.prog BinOp.add 3 false true at1 (Value.int IntKind.i64 8) (fun t45 w =>
    conv Try.prog 56 3 n7 (fun t47 w =>
    bin Try.prog BinOp.add 3 false false t45 t47 (fun t48 w =>
    bldS Try.prog 22 0 #[] (fun t49 w =>
    bin Try.prog BinOp.add 3 false true at1 (Value.int IntKind.i64 8) (fun t52 w =>
    slc Try.prog 22 b0 (some t52) (some t48) none (fun t54 w =>
    blt Try.prog Builtin.append #[22, 22] 22 #[false, false] #[t49, t54] (fun t55 w =>
    (cCode Try.prog x0 (retK Try.prog Try.f20.results.toList K) (fun _ _ _ => False) (retK Try.prog Try.f20.results.toList K)) (b0 :: at1 :: b2 :: at3 :: t4 :: t5 :: t6 :: n7 :: t8 :: t9 :: t48 :: t55 :: t12 :: t13 :: t14 :: t15 :: t16 :: t17 :: t18 :: t19 :: t20 :: t21 :: t22 :: t23 :: t24 :: t25 :: t26 :: t27 :: t28 :: t29 :: t30 :: t31 :: n7 :: t33 :: t33 :: (gd us35 0) :: (gd us35 1) :: (gd us35 2) :: (gd us35 3) :: (gd us35 4) :: (gd us35 5) :: (gd us35 6) :: (gd us35 7) :: t43 :: at1 :: t45 :: n7 :: t47 :: t48 :: t49 :: b0 :: at1 :: t52 :: t48 :: t54 :: t55 :: t56 :: t57 :: t58 :: t59 :: t60 :: t61 :: t62 :: t63 :: t64 :: t65 :: t66 :: []) w) w) w) w) w) w) w) w)) w)) w) :
    cCode Try.prog (rep [1, 1, 1] x0 (cd Try.f20 [1, 1, 1, 1])) (retK Try.prog Try.f20.results.toList K) (fun _ _ _ => False) (retK Try.prog Try.f20.results.toList K) (b0 :: at1 :: b2 :: at3 :: t4 :: t5 :: t6 :: n7 :: t8 :: t9 :: end10 :: record11 :: t12 :: t13 :: t14 :: t15 :: t16 :: t17 :: t18 :: t19 :: t20 :: t21 :: t22 :: t23 :: t24 :: t25 :: t26 :: t27 :: t28 :: t29 :: t30 :: t31 :: t32 :: t33 :: t34 :: t35 :: t36 :: t37 :: t38 :: t39 :: t40 :: t41 :: t42 :: t43 :: t44 :: t45 :: t46 :: t47 :: t48 :: t49 :: t50 :: t51 :: t52 :: t53 :: t54 :: t55 :: t56 :: t57 :: t58 :: t59 :: t60 :: t61 :: t62 :: t63 :: t64 :: t65 :: t66 :: []) w := Eq.mp (by kernel_rfl) h

theorem leatref03_Take_A1_r {K : KV} {b0 at1 b2 at3 t4 t5 t6 n7 t8 t9 end10 record11 t12 t13 t14 t15 t16 t17 t18 t19 t20 t21 t22 t23 t24 t25 t26 t27 t28 t29 t30 t31 t32 t33 t34 t35 t36 t37 t38 t39 t40 t41 t42 t43 t44 t45 t46 t47 t48 t49 t50 t51 t52 t53 t54 t55 t56 t57 t58 t59 t60 t61 t62 t63 t64 t65 t66 : Value} {w : World}
    (h : bin Try.prog BinOp.gtr 56 false true n7 (Value.int IntKind.u64 4096) (fun t33 w =>
    gsel t33 false (fun k35 =>
    conv Try.prog 56 3 n7 (fun t36 w =>
    blt Try.prog Builtin.len #[22] 3 #[false] #[b0] (fun t38 w =>
    bin Try.prog BinOp.sub 3 false false t38 at1 (fun t40 w =>
    bin Try.prog BinOp.sub 3 false true t40 (Value.int IntKind.i64 8) (fun t41 w =>
    bin Try.prog BinOp.gtr 3 false false t36 t41 (fun t42 w =>
    k35 [n7, t36, b0, t38, at1, t40, t41, t42] w) w) w) w) w) w)
    (fun k => k [undef, undef, undef, undef, undef, undef, undef, undef] w) (fun us35 w =>
    pick t33 (Value.bool true) (gd us35 7) (fun t43 w =>
    cond t43
      (K (Value.tuple #[(Value.slice none 0 0), (Value.int IntKind.i64 0), (Value.int IntKind.i64 5)]) w)
      (bin Try.prog BinOp.add 3 false true at1 (Value.int IntKind.i64 8) (fun t45 w =>
    conv Try.prog 56 3 n7 (fun t47 w =>
    bin Try.prog BinOp.add 3 false false t45 t47 (fun t48 w =>
    bldS Try.prog 22 0 #[] (fun t49 w =>
    bin Try.prog BinOp.add 3 false true at1 (Value.int IntKind.i64 8) (fun t52 w =>
    slc Try.prog 22 b0 (some t52) (some t48) none (fun t54 w =>
    blt Try.prog Builtin.append #[22, 22] 22 #[false, false] #[t49, t54] (fun t55 w =>
    (leatref03_Take_A2 K) (b0 :: at1 :: b2 :: at3 :: t4 :: t5 :: t6 :: n7 :: t8 :: t9 :: t48 :: t55 :: t12 :: t13 :: t14 :: t15 :: t16 :: t17 :: t18 :: t19 :: t20 :: t21 :: t22 :: t23 :: t24 :: t25 :: t26 :: t27 :: t28 :: t29 :: t30 :: t31 :: n7 :: t33 :: t33 :: (gd us35 0) :: (gd us35 1) :: (gd us35 2) :: (gd us35 3) :: (gd us35 4) :: (gd us35 5) :: (gd us35 6) :: (gd us35 7) :: t43 :: at1 :: t45 :: n7 :: t47 :: t48 :: t49 :: b0 :: at1 :: t52 :: t48 :: t54 :: t55 :: t56 :: t57 :: t58 :: t59 :: t60 :: t61 :: t62 :: t63 :: t64 :: t65 :: t66 :: []) w) w) w) w) w) w) w) w)) w)) w) :
    leatref03_Take_A1 K (b0 :: at1 :: b2 :: at3 :: t4 :: t5 :: t6 :: n7 :: t8 :: t9 :: end10 :: record11 :: t12 :: t13 :: t14 :: t15 :: t16 :: t17 :: t18 :: t19 :: t20 :: t21 :: t22 :: t23 :: t24 :: t25 :: t26 :: t27 :: t28 :: t29 :: t30 :: t31 :: t32 :: t33 :: t34 :: t35 :: t36 :: t37 :: t38 :: t39 :: t40 :: t41 :: t42 :: t43 :: t44 :: t45 :: t46 :: t47 :: t48 :: t49 :: t50 :: t51 :: t52 :: t53 :: t54 :: t55 :: t56 :: t57 :: t58 :: t59 :: t60 :: t61 :: t62 :: t63 :: t64 :: t65 :: t66 :: []) w := by
  delta leatref03_Take_A1
  exact Eq.mp (congrArg (fun c => cCode Try.prog c (retK Try.prog Try.f20.results.toList K) (fun _ _ _ => False) (retK Try.prog Try.f20.results.toList K) (b0 :: at1 :: b2 :: at3 :: t4 :: t5 :: t6 :: n7 :: t8 :: t9 :: end10 :: record11 :: t12 :: t13 :: t14 :: t15 :: t16 :: t17 :: t18 :: t19 :: t20 :: t21 :: t22 :: t23 :: t24 :: t25 :: t26 :: t27 :: t28 :: t29 :: t30 :: t31 :: t32 :: t33 :: t34 :: t35 :: t36 :: t37 :: t38 :: t39 :: t40 :: t41 :: t42 :: t43 :: t44 :: t45 :: t46 :: t47 :: t48 :: t49 :: t50 :: t51 :: t52 :: t53 :: t54 :: t55 :: t56 :: t57 :: t58 :: t59 :: t60 :: t61 :: t62 :: t63 :: t64 :: t65 :: t66 :: []) w) (by kernel_rfl : (rep [1, 1, 1] (cd Try.f20 [1, 1, 1, 1, 1, 1, 1]) (cd Try.f20 [1, 1, 1, 1])) = (cd Try.f20 [1, 1, 1, 1]))) (leatref03_Take_A1_k (cd Try.f20 [1, 1, 1, 1, 1, 1, 1]) h)

theorem leatref03_Take_A2_k {K : KV} {b0 at1 b2 at3 t4 t5 t6 n7 t8 t9 end10 record11 t12 t13 t14 t15 t16 t17 t18 t19 t20 t21 t22 t23 t24 t25 t26 t27 t28 t29 t30 t31 t32 t33 t34 t35 t36 t37 t38 t39 t40 t41 t42 t43 t44 t45 t46 t47 t48 t49 t50 t51 t52 t53 t54 t55 t56 t57 t58 t59 t60 t61 t62 t63 t64 t65 t66 : Value} {w : World}
    (h : hReg (fun S w =>
    hld S (fun k w => slc Try.prog 22 b0 (some at1) (some end10) none k w) (fun t62 =>
    hld S (fun k w => conv Try.prog 22 9 t62 k w) (fun t63 =>
    call Try.prog 26 #[record11] (fun t57 w =>
    hSub S (fun S w =>
    hld S (fun k w => conv Try.prog 22 9 t57 k w) (fun t58 =>
    hld S (fun k w => bin Try.prog BinOp.neq 9 false false t58 t63 k w) (fun t64 =>
    cond t64
      (K (Value.tuple #[(Value.slice none 0 0), (Value.int IntKind.i64 0), (Value.int IntKind.i64 5)]) w)
      (K (Value.tuple #[record11, end10, (Value.int IntKind.i64 0)]) w)))) w) w))) w.drew) :
    cCode Try.prog (cd Try.f20 [1, 1, 1, 1, 1, 1, 1]) (retK Try.prog Try.f20.results.toList K) (fun _ _ _ => False) (retK Try.prog Try.f20.results.toList K) (b0 :: at1 :: b2 :: at3 :: t4 :: t5 :: t6 :: n7 :: t8 :: t9 :: end10 :: record11 :: t12 :: t13 :: t14 :: t15 :: t16 :: t17 :: t18 :: t19 :: t20 :: t21 :: t22 :: t23 :: t24 :: t25 :: t26 :: t27 :: t28 :: t29 :: t30 :: t31 :: t32 :: t33 :: t34 :: t35 :: t36 :: t37 :: t38 :: t39 :: t40 :: t41 :: t42 :: t43 :: t44 :: t45 :: t46 :: t47 :: t48 :: t49 :: t50 :: t51 :: t52 :: t53 :: t54 :: t55 :: t56 :: t57 :: t58 :: t59 :: t60 :: t61 :: t62 :: t63 :: t64 :: t65 :: t66 :: []) w := Eq.mp (by kernel_rfl) h

theorem leatref03_Take_A2_r {K : KV} {b0 at1 b2 at3 t4 t5 t6 n7 t8 t9 end10 record11 t12 t13 t14 t15 t16 t17 t18 t19 t20 t21 t22 t23 t24 t25 t26 t27 t28 t29 t30 t31 t32 t33 t34 t35 t36 t37 t38 t39 t40 t41 t42 t43 t44 t45 t46 t47 t48 t49 t50 t51 t52 t53 t54 t55 t56 t57 t58 t59 t60 t61 t62 t63 t64 t65 t66 : Value} {w : World}
    (h : hReg (fun S w =>
    hld S (fun k w => slc Try.prog 22 b0 (some at1) (some end10) none k w) (fun t62 =>
    hld S (fun k w => conv Try.prog 22 9 t62 k w) (fun t63 =>
    call Try.prog 26 #[record11] (fun t57 w =>
    hSub S (fun S w =>
    hld S (fun k w => conv Try.prog 22 9 t57 k w) (fun t58 =>
    hld S (fun k w => bin Try.prog BinOp.neq 9 false false t58 t63 k w) (fun t64 =>
    cond t64
      (K (Value.tuple #[(Value.slice none 0 0), (Value.int IntKind.i64 0), (Value.int IntKind.i64 5)]) w)
      (K (Value.tuple #[record11, end10, (Value.int IntKind.i64 0)]) w)))) w) w))) w.drew) :
    leatref03_Take_A2 K (b0 :: at1 :: b2 :: at3 :: t4 :: t5 :: t6 :: n7 :: t8 :: t9 :: end10 :: record11 :: t12 :: t13 :: t14 :: t15 :: t16 :: t17 :: t18 :: t19 :: t20 :: t21 :: t22 :: t23 :: t24 :: t25 :: t26 :: t27 :: t28 :: t29 :: t30 :: t31 :: t32 :: t33 :: t34 :: t35 :: t36 :: t37 :: t38 :: t39 :: t40 :: t41 :: t42 :: t43 :: t44 :: t45 :: t46 :: t47 :: t48 :: t49 :: t50 :: t51 :: t52 :: t53 :: t54 :: t55 :: t56 :: t57 :: t58 :: t59 :: t60 :: t61 :: t62 :: t63 :: t64 :: t65 :: t66 :: []) w := by
  delta leatref03_Take_A2
  exact Eq.mp (congrArg (fun c => cCode Try.prog c (retK Try.prog Try.f20.results.toList K) (fun _ _ _ => False) (retK Try.prog Try.f20.results.toList K) (b0 :: at1 :: b2 :: at3 :: t4 :: t5 :: t6 :: n7 :: t8 :: t9 :: end10 :: record11 :: t12 :: t13 :: t14 :: t15 :: t16 :: t17 :: t18 :: t19 :: t20 :: t21 :: t22 :: t23 :: t24 :: t25 :: t26 :: t27 :: t28 :: t29 :: t30 :: t31 :: t32 :: t33 :: t34 :: t35 :: t36 :: t37 :: t38 :: t39 :: t40 :: t41 :: t42 :: t43 :: t44 :: t45 :: t46 :: t47 :: t48 :: t49 :: t50 :: t51 :: t52 :: t53 :: t54 :: t55 :: t56 :: t57 :: t58 :: t59 :: t60 :: t61 :: t62 :: t63 :: t64 :: t65 :: t66 :: []) w) (by kernel_rfl : (cd Try.f20 [1, 1, 1, 1, 1, 1, 1]) = (cd Try.f20 [1, 1, 1, 1, 1, 1, 1]))) (leatref03_Take_A2_k h)
attribute [irreducible] leatref03_Take_A1 leatref03_Take_A2

def leatref03_All_L1 (K : KV) : KE := cCode Try.prog (cd Try.f11 [1, 1, 1, 0]) (retK Try.prog Try.f11.results.toList K) (fun i => @Bool.rec (fun _ => KE) ((fun _ _ _ => False) i) (retK Try.prog Try.f11.results.toList K) (Nat.beq i 0)) (retK Try.prog Try.f11.results.toList K)
theorem leatref03_All_k {K : KV} {b0 : Value} {w : World}
    (h : (cCode Try.prog (cd Try.f11 [1, 1, 1, 0]) (retK Try.prog Try.f11.results.toList K) (fun i => @Bool.rec (fun _ => KE) ((fun _ _ _ => False) i) (retK Try.prog Try.f11.results.toList K) (Nat.beq i 0)) (retK Try.prog Try.f11.results.toList K)) [b0, undef, (Value.slice none 0 0), (Value.int IntKind.i64 0), (Value.slice none 0 0), (Value.int IntKind.i64 0), undef, undef, undef, undef, undef, undef, undef, undef, undef, undef, undef, undef, undef, undef, undef, undef, undef, undef, undef] w) :
    cCode Try.prog (cd Try.f11 []) (retK Try.prog Try.f11.results.toList K) (fun _ _ _ => False) (retK Try.prog Try.f11.results.toList K) [b0, undef, undef, undef, undef, undef, undef, undef, undef, undef, undef, undef, undef, undef, undef, undef, undef, undef, undef, undef, undef, undef, undef, undef, undef] w := Eq.mp (by kernel_rfl) h

theorem leatref03_All_in {K : KV} {b0 : Value} {w : World}
    (h : (leatref03_All_L1 K) [b0, undef, (Value.slice none 0 0), (Value.int IntKind.i64 0), (Value.slice none 0 0), (Value.int IntKind.i64 0), undef, undef, undef, undef, undef, undef, undef, undef, undef, undef, undef, undef, undef, undef, undef, undef, undef, undef, undef] w) :
    Gives Try.prog 11 #[b0] w K := enter' Try.func11 (by kernel_rfl) (Eq.mp (congrArg (fun c => cCode Try.prog c (retK Try.prog Try.f11.results.toList K) (fun _ _ _ => False) (retK Try.prog Try.f11.results.toList K) [b0, undef, undef, undef, undef, undef, undef, undef, undef, undef, undef, undef, undef, undef, undef, undef, undef, undef, undef, undef, undef, undef, undef, undef, undef] w) (by kernel_rfl : (cd Try.f11 []) = (cd Try.f11 []))) (leatref03_All_k (h : (leatref03_All_L1 K) [b0, undef, (Value.slice none 0 0), (Value.int IntKind.i64 0), (Value.slice none 0 0), (Value.int IntKind.i64 0), undef, undef, undef, undef, undef, undef, undef, undef, undef, undef, undef, undef, undef, undef, undef, undef, undef, undef, undef] w)))
theorem leatref03_All_go : isGo Try.prog 11 := ⟨_, Try.func11, by kernel_rfl, by kernel_rfl⟩

theorem leatref03_All_L1_k {K : KV} (B1 : KE) {b0 b1 out4' at5' : Value} {dd : Nat → Value} {w : World}
    (h : call Try.prog 20 #[b0, at5'] (fun t12 w =>
    ext Try.prog t12 0 (fun t13 w =>
    ext Try.prog t12 1 (fun t14 w =>
    ext Try.prog t12 2 (fun t15 w =>
    bin Try.prog BinOp.neq 36 false true t15 (Value.int IntKind.i64 0) (fun t17 w =>
    cond t17
      (K (Value.tuple #[out4', at5']) w)
      (bldS Try.prog 26 1 #[(0, t13)] (fun t22 w =>
    blt Try.prog Builtin.append #[26, 26] 26 #[false, false] #[out4', t22] (fun t23 w =>
    B1 [b0, b1, (dd 2), (dd 3), t23, t14, t13, t14, t15, t12, b0, at5', t12, t13, t14, t15, t15, t17, (dd 18), (dd 19), out4', t13, t22, t23, t14] w) w) w)) w) w) w) w) w) :
    cCode Try.prog (cd Try.f11 [1, 1, 1, 0, 0]) B1 (fun i => @Bool.rec (fun _ => KE) ((fun _ _ _ => False) i) (retK Try.prog Try.f11.results.toList K) (Nat.beq i 0)) (retK Try.prog Try.f11.results.toList K) [b0, b1, (dd 2), (dd 3), out4', at5', (dd 6), (dd 7), (dd 8), (dd 9), (dd 10), (dd 11), (dd 12), (dd 13), (dd 14), (dd 15), (dd 16), (dd 17), (dd 18), (dd 19), (dd 20), (dd 21), (dd 22), (dd 23), (dd 24)] w := Eq.mp (by kernel_rfl) h

theorem leatref03_All_L1_r {K : KV} {b0 b1 t2 t3 out4 at5 record6 next7 e8 t9 t10 t11 t12 t13 t14 t15 t16 t17 t18 t19 t20 t21 t22 t23 t24 : Value} {w : World} (Inv : Value → Value → World → Prop) (μ : Value → Value → World → Nat) (h0 : Inv out4 at5 w)
    (hs : ∀ (out4' at5' : Value) (dd : Nat → Value) (w : World) (m : Nat), Inv out4' at5' w → m = μ out4' at5' w →
    call Try.prog 20 #[b0, at5'] (fun t12 w =>
    ext Try.prog t12 0 (fun t13 w =>
    ext Try.prog t12 1 (fun t14 w =>
    ext Try.prog t12 2 (fun t15 w =>
    bin Try.prog BinOp.neq 36 false true t15 (Value.int IntKind.i64 0) (fun t17 w =>
    cond t17
      (K (Value.tuple #[out4', at5']) w)
      (bldS Try.prog 26 1 #[(0, t13)] (fun t22 w =>
    blt Try.prog Builtin.append #[26, 26] 26 #[false, false] #[out4', t22] (fun t23 w =>
    (Inv t23 t14 w ∧ μ t23 t14 w < m)) w) w)) w) w) w) w) w) :
    leatref03_All_L1 K [b0, b1, t2, t3, out4, at5, record6, next7, e8, t9, t10, t11, t12, t13, t14, t15, t16, t17, t18, t19, t20, t21, t22, t23, t24] w := by
  refine loop_rule (cd Try.f11 [1, 1, 1, 0, 0]) [2, 3, 4, 5, 6, 7, 8, 9, 10, 11, 12, 13, 14, 15, 16, 17, 18, 19, 20, 21, 22, 23, 24] (by kernel_rfl) (fun e2 w2 => Inv (gd e2 4) (gd e2 5) w2) (fun e2 w2 => μ (gd e2 4) (gd e2 5) w2) h0 ?_
  intro e' w' hI
  have h := hs (gd e' 4) (gd e' 5) (fun i => gd e' i) w' _ hI rfl
  have h2 : cCode Try.prog (cd Try.f11 [1, 1, 1, 0, 0]) (fun e2 w2 => Inv (gd e2 4) (gd e2 5) w2 ∧ μ (gd e2 4) (gd e2 5) w2 < μ (gd e' 4) (gd e' 5) w') (fun i => @Bool.rec (fun _ => KE) ((fun _ _ _ => False) i) (retK Try.prog Try.f11.results.toList K) (Nat.beq i 0)) (retK Try.prog Try.f11.results.toList K) [b0, b1, (gd e' 2), (gd e' 3), (gd e' 4), (gd e' 5), (gd e' 6), (gd e' 7), (gd e' 8), (gd e' 9), (gd e' 10), (gd e' 11), (gd e' 12), (gd e' 13), (gd e' 14), (gd e' 15), (gd e' 16), (gd e' 17), (gd e' 18), (gd e' 19), (gd e' 20), (gd e' 21), (gd e' 22), (gd e' 23), (gd e' 24)] w' := leatref03_All_L1_k (fun e2 w2 => Inv (gd e2 4) (gd e2 5) w2 ∧ μ (gd e2 4) (gd e2 5) w2 < μ (gd e' 4) (gd e' 5) w') (Eq.mp (by kernel_rfl) h)
  exact Eq.mp (by kernel_rfl) h2
attribute [irreducible] leatref03_All_L1

end Go.Proofs.Ytccllogpakmjcaa
