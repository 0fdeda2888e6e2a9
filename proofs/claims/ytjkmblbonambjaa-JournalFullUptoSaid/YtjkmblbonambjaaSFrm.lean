/- Written by program (gen.py): what the code of some functions asks, part by part; each text is checked by the kernel against the translation. -/
import Derived.Test.YtjkmblbonambjaaSh
import Derived.Test.YtjkmblbonambjaaChecked
namespace Go.Proofs.Ytjkmblbonambjaa
open Go.RowKit
set_option maxRecDepth 100000

def crc_stepped_P1 (K : KV) : KE := cCode Try.prog (cd Try.f74 [1, 1]) (retK Try.prog Try.f74.results.toList K) (fun _ _ _ => False) (retK Try.prog Try.f74.results.toList K)
def crc_stepped_L1 (K : KV) : KE := cCode Try.prog (cd Try.f74 [1, 0, 1, 0]) (crc_stepped_P1 K) (fun i => @Bool.rec (fun _ => KE) ((fun _ _ _ => False) i) (crc_stepped_P1 K) (Nat.beq i 0)) (retK Try.prog Try.f74.results.toList K)
theorem crc_stepped_k {K : KV} {s0 : Value} {w : World}
    (h : (cCode Try.prog (cd Try.f74 [1, 0, 1, 0]) (cCode Try.prog (cd Try.f74 [1, 1]) (retK Try.prog Try.f74.results.toList K) (fun _ _ _ => False) (retK Try.prog Try.f74.results.toList K)) (fun i => @Bool.rec (fun _ => KE) ((fun _ _ _ => False) i) (cCode Try.prog (cd Try.f74 [1, 1]) (retK Try.prog Try.f74.results.toList K) (fun _ _ _ => False) (retK Try.prog Try.f74.results.toList K)) (Nat.beq i 0)) (retK Try.prog Try.f74.results.toList K)) [s0, undef, (Value.int IntKind.u32 0), (Value.int IntKind.i64 0), undef, undef, undef, undef, undef, undef, undef, undef, undef] w) :
    cCode Try.prog (cd Try.f74 []) (retK Try.prog Try.f74.results.toList K) (fun _ _ _ => False) (retK Try.prog Try.f74.results.toList K) [s0, undef, undef, undef, undef, undef, undef, undef, undef, undef, undef, undef, undef] w := Eq.mp (by kernel_rfl) h

theorem crc_stepped_in {K : KV} {s0 : Value} {w : World}
    (h : (crc_stepped_L1 K) [s0, undef, (Value.int IntKind.u32 0), (Value.int IntKind.i64 0), undef, undef, undef, undef, undef, undef, undef, undef, undef] w) :
    Gives Try.prog 74 #[s0] w K := enter' Try.func74 (by kernel_rfl) (Eq.mp (congrArg (fun c => cCode Try.prog c (retK Try.prog Try.f74.results.toList K) (fun _ _ _ => False) (retK Try.prog Try.f74.results.toList K) [s0, undef, undef, undef, undef, undef, undef, undef, undef, undef, undef, undef, undef] w) (by kernel_rfl : (cd Try.f74 []) = (cd Try.f74 []))) (crc_stepped_k h))
theorem crc_stepped_go : isGo Try.prog 74 := ⟨_, Try.func74, by kernel_rfl, by kernel_rfl⟩

theorem crc_stepped_L1_k {K : KV} (B1 : KE) (q0 : KE) {s0' s1 t2 t3' t12 : Value} {dd : Nat → Value} {w : World}
    (h : bin Try.prog BinOp.lss 3 false true t3' (Value.int IntKind.i64 8) (fun t4 w =>
    cond t4
      (bin Try.prog BinOp.shr 106 false true s0' (Value.int IntKind.u64 1) (fun t6 w =>
    bin Try.prog BinOp.and 106 false true s0' (Value.int IntKind.u32 1) (fun t8 w =>
    bin Try.prog BinOp.mul 106 true false (Value.int IntKind.u32 3988292384) t8 (fun t9 w =>
    bin Try.prog BinOp.xor 106 false false t6 t9 (fun t10 w =>
    bin Try.prog BinOp.add 3 false true t3' (Value.int IntKind.i64 1) (fun t11 w =>
    B1 [t10, s1, t2, t11, t4, s0', t6, s0', t8, t9, t10, t11, t12] w) w) w) w) w) w)
      (q0 [s0', s1, t2, t3', t4, (dd 5), (dd 6), (dd 7), (dd 8), (dd 9), (dd 10), (dd 11), t12] w)) w) :
    cCode Try.prog (cd Try.f74 [1, 0, 1, 0, 0]) B1 (fun i => @Bool.rec (fun _ => KE) ((fun _ _ _ => False) i) q0 (Nat.beq i 0)) (retK Try.prog Try.f74.results.toList K) [s0', s1, t2, t3', (dd 4), (dd 5), (dd 6), (dd 7), (dd 8), (dd 9), (dd 10), (dd 11), t12] w := Eq.mp (by kernel_rfl) h

theorem crc_stepped_L1_r {K : KV} {s0 s1 t2 t3 t4 t5 t6 t7 t8 t9 t10 t11 t12 : Value} {w : World} (Inv : Value → Value → World → Prop) (μ : Value → Value → World → Nat) (h0 : Inv s0 t3 w)
    (hs : ∀ (s0' t3' : Value) (dd : Nat → Value) (w : World) (m : Nat), Inv s0' t3' w → m = μ s0' t3' w →
    bin Try.prog BinOp.lss 3 false true t3' (Value.int IntKind.i64 8) (fun t4 w =>
    cond t4
      (bin Try.prog BinOp.shr 106 false true s0' (Value.int IntKind.u64 1) (fun t6 w =>
    bin Try.prog BinOp.and 106 false true s0' (Value.int IntKind.u32 1) (fun t8 w =>
    bin Try.prog BinOp.mul 106 true false (Value.int IntKind.u32 3988292384) t8 (fun t9 w =>
    bin Try.prog BinOp.xor 106 false false t6 t9 (fun t10 w =>
    bin Try.prog BinOp.add 3 false true t3' (Value.int IntKind.i64 1) (fun t11 w =>
    (Inv t10 t11 w ∧ μ t10 t11 w < m)) w) w) w) w) w)
      ((crc_stepped_P1 K) [s0', s1, t2, t3', t4, (dd 5), (dd 6), (dd 7), (dd 8), (dd 9), (dd 10), (dd 11), t12] w)) w) :
    crc_stepped_L1 K [s0, s1, t2, t3, t4, t5, t6, t7, t8, t9, t10, t11, t12] w := by
  refine loop_rule (cd Try.f74 [1, 0, 1, 0, 0]) [0, 3, 4, 5, 6, 7, 8, 9, 10, 11] (by kernel_rfl) (fun e2 w2 => Inv (gd e2 0) (gd e2 3) w2) (fun e2 w2 => μ (gd e2 0) (gd e2 3) w2) h0 ?_
  intro e' w' hI
  have h := hs (gd e' 0) (gd e' 3) (fun i => gd e' i) w' _ hI rfl
  have h2 : cCode Try.prog (cd Try.f74 [1, 0, 1, 0, 0]) (fun e2 w2 => Inv (gd e2 0) (gd e2 3) w2 ∧ μ (gd e2 0) (gd e2 3) w2 < μ (gd e' 0) (gd e' 3) w') (fun i => @Bool.rec (fun _ => KE) ((fun _ _ _ => False) i) (crc_stepped_P1 K) (Nat.beq i 0)) (retK Try.prog Try.f74.results.toList K) [(gd e' 0), s1, t2, (gd e' 3), (gd e' 4), (gd e' 5), (gd e' 6), (gd e' 7), (gd e' 8), (gd e' 9), (gd e' 10), (gd e' 11), t12] w' := crc_stepped_L1_k (fun e2 w2 => Inv (gd e2 0) (gd e2 3) w2 ∧ μ (gd e2 0) (gd e2 3) w2 < μ (gd e' 0) (gd e' 3) w') (crc_stepped_P1 K) (Eq.mp (by kernel_rfl) h)
  exact Eq.mp (by kernel_rfl) h2

theorem crc_stepped_P1_k {K : KV} {s0 s1 t2 t3 t4 t5 t6 t7 t8 t9 t10 t11 t12 : Value} {w : World}
    (h : K s0 w) :
    cCode Try.prog (cd Try.f74 [1, 1]) (retK Try.prog Try.f74.results.toList K) (fun _ _ _ => False) (retK Try.prog Try.f74.results.toList K) [s0, s1, t2, t3, t4, t5, t6, t7, t8, t9, t10, t11, t12] w := Eq.mp (by kernel_rfl) h

theorem crc_stepped_P1_r {K : KV} {s0 s1 t2 t3 t4 t5 t6 t7 t8 t9 t10 t11 t12 : Value} {w : World}
    (h : K s0 w) :
    crc_stepped_P1 K [s0, s1, t2, t3, t4, t5, t6, t7, t8, t9, t10, t11, t12] w := by
  delta crc_stepped_P1
  exact Eq.mp (congrArg (fun c => cCode Try.prog c (retK Try.prog Try.f74.results.toList K) (fun _ _ _ => False) (retK Try.prog Try.f74.results.toList K) [s0, s1, t2, t3, t4, t5, t6, t7, t8, t9, t10, t11, t12] w) (by kernel_rfl : (cd Try.f74 [1, 1]) = (cd Try.f74 [1, 1]))) (crc_stepped_P1_k h)
attribute [irreducible] crc_stepped_P1 crc_stepped_L1

def crc_More_P1 (K : KV) : KE := cCode Try.prog (cd Try.f70 [1, 1, 1]) (retK Try.prog Try.f70.results.toList K) (fun _ _ _ => False) (retK Try.prog Try.f70.results.toList K)
def crc_More_L1 (K : KV) : KE := cCode Try.prog (cd Try.f70 [1, 1, 0, 1, 0]) (crc_More_P1 K) (fun i => @Bool.rec (fun _ => KE) ((fun _ _ _ => False) i) (crc_More_P1 K) (Nat.beq i 0)) (retK Try.prog Try.f70.results.toList K)
theorem crc_More_k {K : KV} {sum0 b1 : Value} {w : World}
    (h : un Try.prog UnOp.xor sum0 (fun t9 w =>
    blt Try.prog Builtin.len #[29] 3 #[false] #[b1] (fun t11 w =>
    (cCode Try.prog (cd Try.f70 [1, 1, 0, 1, 0]) (cCode Try.prog (cd Try.f70 [1, 1, 1]) (retK Try.prog Try.f70.results.toList K) (fun _ _ _ => False) (retK Try.prog Try.f70.results.toList K)) (fun i => @Bool.rec (fun _ => KE) ((fun _ _ _ => False) i) (cCode Try.prog (cd Try.f70 [1, 1, 1]) (retK Try.prog Try.f70.results.toList K) (fun _ _ _ => False) (retK Try.prog Try.f70.results.toList K)) (Nat.beq i 0)) (retK Try.prog Try.f70.results.toList K)) [sum0, b1, undef, undef, (Value.int IntKind.u32 0), t9, undef, undef, sum0, t9, b1, t11, (Value.int IntKind.i64 0), undef, undef, undef, undef, undef, undef, undef, undef, undef, undef, undef] w) w) w) :
    cCode Try.prog (cd Try.f70 []) (retK Try.prog Try.f70.results.toList K) (fun _ _ _ => False) (retK Try.prog Try.f70.results.toList K) [sum0, b1, undef, undef, undef, undef, undef, undef, undef, undef, undef, undef, undef, undef, undef, undef, undef, undef, undef, undef, undef, undef, undef, undef] w := Eq.mp (by kernel_rfl) h

theorem crc_More_in {K : KV} {sum0 b1 : Value} {w : World}
    (h : un Try.prog UnOp.xor sum0 (fun t9 w =>
    blt Try.prog Builtin.len #[29] 3 #[false] #[b1] (fun t11 w =>
    (crc_More_L1 K) [sum0, b1, undef, undef, (Value.int IntKind.u32 0), t9, undef, undef, sum0, t9, b1, t11, (Value.int IntKind.i64 0), undef, undef, undef, undef, undef, undef, undef, undef, undef, undef, undef] w) w) w) :
    Gives Try.prog 70 #[sum0, b1] w K := enter' Try.func70 (by kernel_rfl) (Eq.mp (congrArg (fun c => cCode Try.prog c (retK Try.prog Try.f70.results.toList K) (fun _ _ _ => False) (retK Try.prog Try.f70.results.toList K) [sum0, b1, undef, undef, undef, undef, undef, undef, undef, undef, undef, undef, undef, undef, undef, undef, undef, undef, undef, undef, undef, undef, undef, undef] w) (by kernel_rfl : (cd Try.f70 []) = (cd Try.f70 []))) (crc_More_k h))
theorem crc_More_go : isGo Try.prog 70 := ⟨_, Try.func70, by kernel_rfl, by kernel_rfl⟩

theorem crc_More_L1_k {K : KV} (B1 : KE) (q0 : KE) {sum0 b1 sum2 b3 t4 s5' t6 t8 t9 t10 t11 t12' t22 t23 : Value} {dd : Nat → Value} {w : World}
    (h : bin Try.prog BinOp.lss 3 false false t12' t11 (fun t13 w =>
    cond t13
      (idxA Try.prog 29 t10 t12' (fun t14 w =>
    ld Try.prog 5 t14 (fun t15 w =>
    conv Try.prog 5 106 t15 (fun t18 w =>
    bin Try.prog BinOp.xor 106 false false s5' t18 (fun t19 w =>
    call Try.prog 74 #[t19] (fun t20 w =>
    bin Try.prog BinOp.add 3 false true t12' (Value.int IntKind.i64 1) (fun t21 w =>
    B1 [sum0, b1, sum2, b3, t4, t20, t6, t15, t8, t9, t10, t11, t21, t13, t14, t15, s5', t15, t18, t19, t20, t21, t22, t23] w) w) w) w) w) w) w)
      (q0 [sum0, b1, sum2, b3, t4, s5', t6, (dd 7), t8, t9, t10, t11, t12', t13, (dd 14), (dd 15), (dd 16), (dd 17), (dd 18), (dd 19), (dd 20), (dd 21), t22, t23] w)) w) :
    cCode Try.prog (cd Try.f70 [1, 1, 0, 1, 0, 0]) B1 (fun i => @Bool.rec (fun _ => KE) ((fun _ _ _ => False) i) q0 (Nat.beq i 0)) (retK Try.prog Try.f70.results.toList K) [sum0, b1, sum2, b3, t4, s5', t6, (dd 7), t8, t9, t10, t11, t12', (dd 13), (dd 14), (dd 15), (dd 16), (dd 17), (dd 18), (dd 19), (dd 20), (dd 21), t22, t23] w := Eq.mp (by kernel_rfl) h

theorem crc_More_L1_r {K : KV} {sum0 b1 sum2 b3 t4 s5 t6 c7 t8 t9 t10 t11 t12 t13 t14 t15 t16 t17 t18 t19 t20 t21 t22 t23 : Value} {w : World} (Inv : Value → Value → World → Prop) (μ : Value → Value → World → Nat) (h0 : Inv s5 t12 w)
    (hs : ∀ (s5' t12' : Value) (dd : Nat → Value) (w : World) (m : Nat), Inv s5' t12' w → m = μ s5' t12' w →
    bin Try.prog BinOp.lss 3 false false t12' t11 (fun t13 w =>
    cond t13
      (idxA Try.prog 29 t10 t12' (fun t14 w =>
    ld Try.prog 5 t14 (fun t15 w =>
    conv Try.prog 5 106 t15 (fun t18 w =>
    bin Try.prog BinOp.xor 106 false false s5' t18 (fun t19 w =>
    call Try.prog 74 #[t19] (fun t20 w =>
    bin Try.prog BinOp.add 3 false true t12' (Value.int IntKind.i64 1) (fun t21 w =>
    (Inv t20 t21 w ∧ μ t20 t21 w < m)) w) w) w) w) w) w)
      ((crc_More_P1 K) [sum0, b1, sum2, b3, t4, s5', t6, (dd 7), t8, t9, t10, t11, t12', t13, (dd 14), (dd 15), (dd 16), (dd 17), (dd 18), (dd 19), (dd 20), (dd 21), t22, t23] w)) w) :
    crc_More_L1 K [sum0, b1, sum2, b3, t4, s5, t6, c7, t8, t9, t10, t11, t12, t13, t14, t15, t16, t17, t18, t19, t20, t21, t22, t23] w := by
  refine loop_rule (cd Try.f70 [1, 1, 0, 1, 0, 0]) [5, 7, 12, 13, 14, 15, 16, 17, 18, 19, 20, 21] (by kernel_rfl) (fun e2 w2 => Inv (gd e2 5) (gd e2 12) w2) (fun e2 w2 => μ (gd e2 5) (gd e2 12) w2) h0 ?_
  intro e' w' hI
  have h := hs (gd e' 5) (gd e' 12) (fun i => gd e' i) w' _ hI rfl
  have h2 : cCode Try.prog (cd Try.f70 [1, 1, 0, 1, 0, 0]) (fun e2 w2 => Inv (gd e2 5) (gd e2 12) w2 ∧ μ (gd e2 5) (gd e2 12) w2 < μ (gd e' 5) (gd e' 12) w') (fun i => @Bool.rec (fun _ => KE) ((fun _ _ _ => False) i) (crc_More_P1 K) (Nat.beq i 0)) (retK Try.prog Try.f70.results.toList K) [sum0, b1, sum2, b3, t4, (gd e' 5), t6, (gd e' 7), t8, t9, t10, t11, (gd e' 12), (gd e' 13), (gd e' 14), (gd e' 15), (gd e' 16), (gd e' 17), (gd e' 18), (gd e' 19), (gd e' 20), (gd e' 21), t22, t23] w' := crc_More_L1_k (fun e2 w2 => Inv (gd e2 5) (gd e2 12) w2 ∧ μ (gd e2 5) (gd e2 12) w2 < μ (gd e' 5) (gd e' 12) w') (crc_More_P1 K) (Eq.mp (by kernel_rfl) h)
  exact Eq.mp (by kernel_rfl) h2

theorem crc_More_P1_k {K : KV} {sum0 b1 sum2 b3 t4 s5 t6 c7 t8 t9 t10 t11 t12 t13 t14 t15 t16 t17 t18 t19 t20 t21 t22 t23 : Value} {w : World}
    (h : un Try.prog UnOp.xor s5 (fun t23 w =>
    K t23 w) w) :
    cCode Try.prog (cd Try.f70 [1, 1, 1]) (retK Try.prog Try.f70.results.toList K) (fun _ _ _ => False) (retK Try.prog Try.f70.results.toList K) [sum0, b1, sum2, b3, t4, s5, t6, c7, t8, t9, t10, t11, t12, t13, t14, t15, t16, t17, t18, t19, t20, t21, t22, t23] w := Eq.mp (by kernel_rfl) h

theorem crc_More_P1_r {K : KV} {sum0 b1 sum2 b3 t4 s5 t6 c7 t8 t9 t10 t11 t12 t13 t14 t15 t16 t17 t18 t19 t20 t21 t22 t23 : Value} {w : World}
    (h : un Try.prog UnOp.xor s5 (fun t23 w =>
    K t23 w) w) :
    crc_More_P1 K [sum0, b1, sum2, b3, t4, s5, t6, c7, t8, t9, t10, t11, t12, t13, t14, t15, t16, t17, t18, t19, t20, t21, t22, t23] w := by
  delta crc_More_P1
  exact Eq.mp (congrArg (fun c => cCode Try.prog c (retK Try.prog Try.f70.results.toList K) (fun _ _ _ => False) (retK Try.prog Try.f70.results.toList K) [sum0, b1, sum2, b3, t4, s5, t6, c7, t8, t9, t10, t11, t12, t13, t14, t15, t16, t17, t18, t19, t20, t21, t22, t23] w) (by kernel_rfl : (cd Try.f70 [1, 1, 1]) = (cd Try.f70 [1, 1, 1]))) (crc_More_P1_k h)
attribute [irreducible] crc_More_P1 crc_More_L1


theorem crc_Sum_k {K : KV} {b0 : Value} {w : World}
    (h : call Try.prog 70 #[(Value.int IntKind.u32 0), b0] (fun t4 w =>
    K t4 w) w) :
    cCode Try.prog (cd Try.f71 []) (retK Try.prog Try.f71.results.toList K) (fun _ _ _ => False) (retK Try.prog Try.f71.results.toList K) [b0, undef, undef, undef, undef] w := Eq.mp (by kernel_rfl) h

theorem crc_Sum_in {K : KV} {b0 : Value} {w : World}
    (h : call Try.prog 70 #[(Value.int IntKind.u32 0), b0] (fun t4 w =>
    K t4 w) w) :
    Gives Try.prog 71 #[b0] w K := enter' Try.func71 (by kernel_rfl) (Eq.mp (congrArg (fun c => cCode Try.prog c (retK Try.prog Try.f71.results.toList K) (fun _ _ _ => False) (retK Try.prog Try.f71.results.toList K) [b0, undef, undef, undef, undef] w) (by kernel_rfl : (cd Try.f71 []) = (cd Try.f71 []))) (crc_Sum_k h))
theorem crc_Sum_go : isGo Try.prog 71 := ⟨_, Try.func71, by kernel_rfl, by kernel_rfl⟩


theorem frame_number_k {K : KV} {n0 : Value} {w : World}
    (h : conv Try.prog 106 113 n0 (fun t7 w =>
    call Try.prog 73 #[(Value.slice none 0 0), t7, (Value.int IntKind.i64 4)] (fun t8 w =>
    ext Try.prog t8 0 (fun t9 w =>
    ext Try.prog t8 1 (fun t10 w =>
    K t9 w) w) w) w) w) :
    cCode Try.prog (cd Try.f69 []) (retK Try.prog Try.f69.results.toList K) (fun _ _ _ => False) (retK Try.prog Try.f69.results.toList K) [n0, undef, undef, undef, undef, undef, undef, undef, undef, undef, undef, undef] w := Eq.mp (by kernel_rfl) h

theorem frame_number_in {K : KV} {n0 : Value} {w : World}
    (h : conv Try.prog 106 113 n0 (fun t7 w =>
    call Try.prog 73 #[(Value.slice none 0 0), t7, (Value.int IntKind.i64 4)] (fun t8 w =>
    ext Try.prog t8 0 (fun t9 w =>
    ext Try.prog t8 1 (fun t10 w =>
    K t9 w) w) w) w) w) :
    Gives Try.prog 69 #[n0] w K := enter' Try.func69 (by kernel_rfl) (Eq.mp (congrArg (fun c => cCode Try.prog c (retK Try.prog Try.f69.results.toList K) (fun _ _ _ => False) (retK Try.prog Try.f69.results.toList K) [n0, undef, undef, undef, undef, undef, undef, undef, undef, undef, undef, undef] w) (by kernel_rfl : (cd Try.f69 []) = (cd Try.f69 []))) (frame_number_k h))
theorem frame_number_go : isGo Try.prog 69 := ⟨_, Try.func69, by kernel_rfl, by kernel_rfl⟩

def frame_Put_P1 (K : KV) : KE := cCode Try.prog (cd Try.f67 [1, 1, 1]) (retK Try.prog Try.f67.results.toList K) (fun _ _ _ => False) (retK Try.prog Try.f67.results.toList K)
def frame_Put_L1 (K : KV) : KE := cCode Try.prog (cd Try.f67 [1, 1, 0, 1, 0]) (frame_Put_P1 K) (fun i => @Bool.rec (fun _ => KE) ((fun _ _ _ => False) i) (frame_Put_P1 K) (Nat.beq i 0)) (retK Try.prog Try.f67.results.toList K)
theorem frame_Put_k {K : KV} {b0 records1 : Value} {w : World}
    (h : call Try.prog 42 #[b0] (fun t12 w =>
    blt Try.prog Builtin.len #[50] 3 #[false] #[records1] (fun t14 w =>
    (cCode Try.prog (cd Try.f67 [1, 1, 0, 1, 0]) (cCode Try.prog (cd Try.f67 [1, 1, 1]) (retK Try.prog Try.f67.results.toList K) (fun _ _ _ => False) (retK Try.prog Try.f67.results.toList K)) (fun i => @Bool.rec (fun _ => KE) ((fun _ _ _ => False) i) (cCode Try.prog (cd Try.f67 [1, 1, 1]) (retK Try.prog Try.f67.results.toList K) (fun _ _ _ => False) (retK Try.prog Try.f67.results.toList K)) (Nat.beq i 0)) (retK Try.prog Try.f67.results.toList K)) [b0, records1, undef, undef, (Value.slice none 0 0), (Value.int IntKind.i64 0), t12, undef, undef, undef, undef, b0, t12, records1, t14, (Value.int IntKind.i64 0), undef, undef, undef, undef, undef, undef, undef, undef, undef, undef, undef, undef, undef, undef, undef, undef, undef, undef, undef, undef, undef, undef, undef, undef] w) w) w) :
    cCode Try.prog (cd Try.f67 []) (retK Try.prog Try.f67.results.toList K) (fun _ _ _ => False) (retK Try.prog Try.f67.results.toList K) [b0, records1, undef, undef, undef, undef, undef, undef, undef, undef, undef, undef, undef, undef, undef, undef, undef, undef, undef, undef, undef, undef, undef, undef, undef, undef, undef, undef, undef, undef, undef, undef, undef, undef, undef, undef, undef, undef, undef, undef] w := Eq.mp (by kernel_rfl) h

theorem frame_Put_in {K : KV} {b0 records1 : Value} {w : World}
    (h : call Try.prog 42 #[b0] (fun t12 w =>
    blt Try.prog Builtin.len #[50] 3 #[false] #[records1] (fun t14 w =>
    (frame_Put_L1 K) [b0, records1, undef, undef, (Value.slice none 0 0), (Value.int IntKind.i64 0), t12, undef, undef, undef, undef, b0, t12, records1, t14, (Value.int IntKind.i64 0), undef, undef, undef, undef, undef, undef, undef, undef, undef, undef, undef, undef, undef, undef, undef, undef, undef, undef, undef, undef, undef, undef, undef, undef] w) w) w) :
    Gives Try.prog 67 #[b0, records1] w K := enter' Try.func67 (by kernel_rfl) (Eq.mp (congrArg (fun c => cCode Try.prog c (retK Try.prog Try.f67.results.toList K) (fun _ _ _ => False) (retK Try.prog Try.f67.results.toList K) [b0, records1, undef, undef, undef, undef, undef, undef, undef, undef, undef, undef, undef, undef, undef, undef, undef, undef, undef, undef, undef, undef, undef, undef, undef, undef, undef, undef, undef, undef, undef, undef, undef, undef, undef, undef, undef, undef, undef, undef] w) (by kernel_rfl : (cd Try.f67 []) = (cd Try.f67 []))) (frame_Put_k h))
theorem frame_Put_go : isGo Try.prog 67 := ⟨_, Try.func67, by kernel_rfl, by kernel_rfl⟩

theorem frame_Put_L1_k {K : KV} (B1 : KE) (q0 : KE) {b0 records1 b2 records3 out6' t7 t11 t12 t13 t14 t15' t39 : Value} {dd : Nat → Value} {w : World}
    (h : bin Try.prog BinOp.lss 3 false false t15' t14 (fun t16 w =>
    cond t16
      (idxA Try.prog 50 t13 t15' (fun t17 w =>
    ld Try.prog 29 t17 (fun t18 w =>
    blt Try.prog Builtin.len #[29] 3 #[false] #[t18] (fun t20 w =>
    bin Try.prog BinOp.gtr 3 false true t20 (Value.int IntKind.i64 4096) (fun t21 w =>
    cond t21
      (K (Value.tuple #[(Value.slice none 0 0), (Value.int IntKind.i64 6)]) w)
      (blt Try.prog Builtin.len #[29] 3 #[false] #[t18] (fun t23 w =>
    conv Try.prog 3 106 t23 (fun t24 w =>
    call Try.prog 69 #[t24] (fun t25 w =>
    call Try.prog 71 #[t25] (fun t27 w =>
    call Try.prog 70 #[t27, t18] (fun t29 w =>
    blt Try.prog Builtin.append #[29, 29] 29 #[false, false] #[out6', t25] (fun t32 w =>
    call Try.prog 69 #[t29] (fun t34 w =>
    blt Try.prog Builtin.append #[29, 29] 29 #[false, false] #[t32, t34] (fun t35 w =>
    blt Try.prog Builtin.append #[29, 29] 29 #[false, false] #[t35, t18] (fun t37 w =>
    bin Try.prog BinOp.add 3 false true t15' (Value.int IntKind.i64 1) (fun t38 w =>
    B1 [b0, records1, b2, records3, (dd 4), (dd 5), t37, t7, t18, t25, t29, t11, t12, t13, t14, t38, t16, t17, t18, t18, t20, t21, t18, t23, t24, t25, t25, t27, t18, t29, out6', t25, t32, t29, t34, t35, t18, t37, t38, t39] w) w) w) w) w) w) w) w) w) w) w)) w) w) w) w)
      (q0 [b0, records1, b2, records3, (dd 4), (dd 5), out6', t7, (dd 8), (dd 9), (dd 10), t11, t12, t13, t14, t15', t16, (dd 17), (dd 18), (dd 19), (dd 20), (dd 21), (dd 22), (dd 23), (dd 24), (dd 25), (dd 26), (dd 27), (dd 28), (dd 29), (dd 30), (dd 31), (dd 32), (dd 33), (dd 34), (dd 35), (dd 36), (dd 37), (dd 38), t39] w)) w) :
    cCode Try.prog (cd Try.f67 [1, 1, 0, 1, 0, 0]) B1 (fun i => @Bool.rec (fun _ => KE) ((fun _ _ _ => False) i) q0 (Nat.beq i 0)) (retK Try.prog Try.f67.results.toList K) [b0, records1, b2, records3, (dd 4), (dd 5), out6', t7, (dd 8), (dd 9), (dd 10), t11, t12, t13, t14, t15', (dd 16), (dd 17), (dd 18), (dd 19), (dd 20), (dd 21), (dd 22), (dd 23), (dd 24), (dd 25), (dd 26), (dd 27), (dd 28), (dd 29), (dd 30), (dd 31), (dd 32), (dd 33), (dd 34), (dd 35), (dd 36), (dd 37), (dd 38), t39] w := Eq.mp (by kernel_rfl) h

theorem frame_Put_L1_r {K : KV} {b0 records1 b2 records3 t4 t5 out6 t7 s8 size9 sum10 t11 t12 t13 t14 t15 t16 t17 t18 t19 t20 t21 t22 t23 t24 t25 t26 t27 t28 t29 t30 t31 t32 t33 t34 t35 t36 t37 t38 t39 : Value} {w : World} (Inv : Value → Value → World → Prop) (μ : Value → Value → World → Nat) (h0 : Inv out6 t15 w)
    (hs : ∀ (out6' t15' : Value) (dd : Nat → Value) (w : World) (m : Nat), Inv out6' t15' w → m = μ out6' t15' w →
    bin Try.prog BinOp.lss 3 false false t15' t14 (fun t16 w =>
    cond t16
      (idxA Try.prog 50 t13 t15' (fun t17 w =>
    ld Try.prog 29 t17 (fun t18 w =>
    blt Try.prog Builtin.len #[29] 3 #[false] #[t18] (fun t20 w =>
    bin Try.prog BinOp.gtr 3 false true t20 (Value.int IntKind.i64 4096) (fun t21 w =>
    cond t21
      (K (Value.tuple #[(Value.slice none 0 0), (Value.int IntKind.i64 6)]) w)
      (blt Try.prog Builtin.len #[29] 3 #[false] #[t18] (fun t23 w =>
    conv Try.prog 3 106 t23 (fun t24 w =>
    call Try.prog 69 #[t24] (fun t25 w =>
    call Try.prog 71 #[t25] (fun t27 w =>
    call Try.prog 70 #[t27, t18] (fun t29 w =>
    blt Try.prog Builtin.append #[29, 29] 29 #[false, false] #[out6', t25] (fun t32 w =>
    call Try.prog 69 #[t29] (fun t34 w =>
    blt Try.prog Builtin.append #[29, 29] 29 #[false, false] #[t32, t34] (fun t35 w =>
    blt Try.prog Builtin.append #[29, 29] 29 #[false, false] #[t35, t18] (fun t37 w =>
    bin Try.prog BinOp.add 3 false true t15' (Value.int IntKind.i64 1) (fun t38 w =>
    (Inv t37 t38 w ∧ μ t37 t38 w < m)) w) w) w) w) w) w) w) w) w) w)) w) w) w) w)
      ((frame_Put_P1 K) [b0, records1, b2, records3, (dd 4), (dd 5), out6', t7, (dd 8), (dd 9), (dd 10), t11, t12, t13, t14, t15', t16, (dd 17), (dd 18), (dd 19), (dd 20), (dd 21), (dd 22), (dd 23), (dd 24), (dd 25), (dd 26), (dd 27), (dd 28), (dd 29), (dd 30), (dd 31), (dd 32), (dd 33), (dd 34), (dd 35), (dd 36), (dd 37), (dd 38), t39] w)) w) :
    frame_Put_L1 K [b0, records1, b2, records3, t4, t5, out6, t7, s8, size9, sum10, t11, t12, t13, t14, t15, t16, t17, t18, t19, t20, t21, t22, t23, t24, t25, t26, t27, t28, t29, t30, t31, t32, t33, t34, t35, t36, t37, t38, t39] w := by
  refine loop_rule (cd Try.f67 [1, 1, 0, 1, 0, 0]) [4, 5, 6, 8, 9, 10, 15, 16, 17, 18, 19, 20, 21, 22, 23, 24, 25, 26, 27, 28, 29, 30, 31, 32, 33, 34, 35, 36, 37, 38] (by kernel_rfl) (fun e2 w2 => Inv (gd e2 6) (gd e2 15) w2) (fun e2 w2 => μ (gd e2 6) (gd e2 15) w2) h0 ?_
  intro e' w' hI
  have h := hs (gd e' 6) (gd e' 15) (fun i => gd e' i) w' _ hI rfl
  have h2 : cCode Try.prog (cd Try.f67 [1, 1, 0, 1, 0, 0]) (fun e2 w2 => Inv (gd e2 6) (gd e2 15) w2 ∧ μ (gd e2 6) (gd e2 15) w2 < μ (gd e' 6) (gd e' 15) w') (fun i => @Bool.rec (fun _ => KE) ((fun _ _ _ => False) i) (frame_Put_P1 K) (Nat.beq i 0)) (retK Try.prog Try.f67.results.toList K) [b0, records1, b2, records3, (gd e' 4), (gd e' 5), (gd e' 6), t7, (gd e' 8), (gd e' 9), (gd e' 10), t11, t12, t13, t14, (gd e' 15), (gd e' 16), (gd e' 17), (gd e' 18), (gd e' 19), (gd e' 20), (gd e' 21), (gd e' 22), (gd e' 23), (gd e' 24), (gd e' 25), (gd e' 26), (gd e' 27), (gd e' 28), (gd e' 29), (gd e' 30), (gd e' 31), (gd e' 32), (gd e' 33), (gd e' 34), (gd e' 35), (gd e' 36), (gd e' 37), (gd e' 38), t39] w' := frame_Put_L1_k (fun e2 w2 => Inv (gd e2 6) (gd e2 15) w2 ∧ μ (gd e2 6) (gd e2 15) w2 < μ (gd e' 6) (gd e' 15) w') (frame_Put_P1 K) (Eq.mp (by kernel_rfl) h)
  exact Eq.mp (by kernel_rfl) h2

theorem frame_Put_P1_k {K : KV} {b0 records1 b2 records3 t4 t5 out6 t7 s8 size9 sum10 t11 t12 t13 t14 t15 t16 t17 t18 t19 t20 t21 t22 t23 t24 t25 t26 t27 t28 t29 t30 t31 t32 t33 t34 t35 t36 t37 t38 t39 : Value} {w : World}
    (h : K (Value.tuple #[out6, (Value.int IntKind.i64 0)]) w) :
    cCode Try.prog (cd Try.f67 [1, 1, 1]) (retK Try.prog Try.f67.results.toList K) (fun _ _ _ => False) (retK Try.prog Try.f67.results.toList K) [b0, records1, b2, records3, t4, t5, out6, t7, s8, size9, sum10, t11, t12, t13, t14, t15, t16, t17, t18, t19, t20, t21, t22, t23, t24, t25, t26, t27, t28, t29, t30, t31, t32, t33, t34, t35, t36, t37, t38, t39] w := Eq.mp (by kernel_rfl) h

theorem frame_Put_P1_r {K : KV} {b0 records1 b2 records3 t4 t5 out6 t7 s8 size9 sum10 t11 t12 t13 t14 t15 t16 t17 t18 t19 t20 t21 t22 t23 t24 t25 t26 t27 t28 t29 t30 t31 t32 t33 t34 t35 t36 t37 t38 t39 : Value} {w : World}
    (h : K (Value.tuple #[out6, (Value.int IntKind.i64 0)]) w) :
    frame_Put_P1 K [b0, records1, b2, records3, t4, t5, out6, t7, s8, size9, sum10, t11, t12, t13, t14, t15, t16, t17, t18, t19, t20, t21, t22, t23, t24, t25, t26, t27, t28, t29, t30, t31, t32, t33, t34, t35, t36, t37, t38, t39] w := by
  delta frame_Put_P1
  exact Eq.mp (congrArg (fun c => cCode Try.prog c (retK Try.prog Try.f67.results.toList K) (fun _ _ _ => False) (retK Try.prog Try.f67.results.toList K) [b0, records1, b2, records3, t4, t5, out6, t7, s8, size9, sum10, t11, t12, t13, t14, t15, t16, t17, t18, t19, t20, t21, t22, t23, t24, t25, t26, t27, t28, t29, t30, t31, t32, t33, t34, t35, t36, t37, t38, t39] w) (by kernel_rfl : (cd Try.f67 [1, 1, 1]) = (cd Try.f67 [1, 1, 1]))) (frame_Put_P1_k h)
attribute [irreducible] frame_Put_P1 frame_Put_L1


theorem frame_place_number_k {K : KV} {p0 : Value} {w : World}
    (h : hReg (fun S w =>
    hld S (fun k w => nilC p0 k w) (fun t9 =>
    hld S (fun k w => fldA Try.prog 102 t9 0 k w) (fun t10 =>
    hld S (fun k w => ld Try.prog 29 t10 k w) (fun t11 =>
    hld S (fun k w => nilC p0 k w) (fun t13 =>
    hld S (fun k w => fldA Try.prog 102 t13 1 k w) (fun t14 =>
    hld S (fun k w => ld Try.prog 3 t14 k w) (fun t15 =>
    call Try.prog 75 #[t11, t15, (Value.int IntKind.i64 4)] (fun t16 w =>
    hReg (fun S w =>
    hld S (fun k w => ext Try.prog t16 0 k w) (fun t17 =>
    hld S (fun k w => ext Try.prog t16 1 k w) (fun t18 =>
    hld S (fun k w => ext Try.prog t16 2 k w) (fun t19 =>
    bin Try.prog BinOp.neq 33 false true t19 (Value.int IntKind.i64 0) (fun t21 w =>
    cond t21
      (K (Value.tuple #[(Value.int IntKind.u32 0), (Value.bool false)]) w)
      (nilC p0 (fun t24 w =>
    fldA Try.prog 102 t24 1 (fun t25 w =>
    sto Try.prog 3 t25 t18 (fun _t w =>
    conv Try.prog 113 106 t17 (fun t27 w =>
    K (Value.tuple #[t27, (Value.bool true)]) w) w) w) w) w)) w)))) w) w))))))) w.drew) :
    cCode Try.prog (cd Try.f72 []) (retK Try.prog Try.f72.results.toList K) (fun _ _ _ => False) (retK Try.prog Try.f72.results.toList K) [p0, undef, undef, undef, undef, undef, undef, undef, undef, undef, undef, undef, undef, undef, undef, undef, undef, undef, undef, undef, undef, undef, undef, undef, undef, undef, undef, undef] w := Eq.mp (by kernel_rfl) h

theorem frame_place_number_in {K : KV} {p0 : Value} {w : World}
    (h : hReg (fun S w =>
    hld S (fun k w => nilC p0 k w) (fun t9 =>
    hld S (fun k w => fldA Try.prog 102 t9 0 k w) (fun t10 =>
    hld S (fun k w => ld Try.prog 29 t10 k w) (fun t11 =>
    hld S (fun k w => nilC p0 k w) (fun t13 =>
    hld S (fun k w => fldA Try.prog 102 t13 1 k w) (fun t14 =>
    hld S (fun k w => ld Try.prog 3 t14 k w) (fun t15 =>
    call Try.prog 75 #[t11, t15, (Value.int IntKind.i64 4)] (fun t16 w =>
    hReg (fun S w =>
    hld S (fun k w => ext Try.prog t16 0 k w) (fun t17 =>
    hld S (fun k w => ext Try.prog t16 1 k w) (fun t18 =>
    hld S (fun k w => ext Try.prog t16 2 k w) (fun t19 =>
    bin Try.prog BinOp.neq 33 false true t19 (Value.int IntKind.i64 0) (fun t21 w =>
    cond t21
      (K (Value.tuple #[(Value.int IntKind.u32 0), (Value.bool false)]) w)
      (nilC p0 (fun t24 w =>
    fldA Try.prog 102 t24 1 (fun t25 w =>
    sto Try.prog 3 t25 t18 (fun _t w =>
    conv Try.prog 113 106 t17 (fun t27 w =>
    K (Value.tuple #[t27, (Value.bool true)]) w) w) w) w) w)) w)))) w) w))))))) w.drew) :
    Gives Try.prog 72 #[p0] w K := enter' Try.func72 (by kernel_rfl) (Eq.mp (congrArg (fun c => cCode Try.prog c (retK Try.prog Try.f72.results.toList K) (fun _ _ _ => False) (retK Try.prog Try.f72.results.toList K) [p0, undef, undef, undef, undef, undef, undef, undef, undef, undef, undef, undef, undef, undef, undef, undef, undef, undef, undef, undef, undef, undef, undef, undef, undef, undef, undef, undef] w) (by kernel_rfl : (cd Try.f72 []) = (cd Try.f72 []))) (frame_place_number_k h))
theorem frame_place_number_go : isGo Try.prog 72 := ⟨_, Try.func72, by kernel_rfl, by kernel_rfl⟩

def frame_place_record_A1 (K : KV) : KE := cCode Try.prog (cd Try.f68 [1, 1, 1, 1, 1, 1]) (retK Try.prog Try.f68.results.toList K) (fun _ _ _ => False) (retK Try.prog Try.f68.results.toList K)
theorem frame_place_record_k {K : KV} (x0 : Code) {p0 : Value} {w : World}
    (h : nilC p0 (fun t11 w =>
    ld Try.prog 102 t11 (fun t12 w =>
    alc Try.prog 102 (fun q4 w =>
    sto Try.prog 102 q4 t12 (fun _t w =>
    call Try.prog 72 #[q4] (fun t14 w =>
    ext Try.prog t14 0 (fun t15 w =>
    ext Try.prog t14 1 (fun t16 w =>
    call Try.prog 72 #[q4] (fun t18 w =>
    ext Try.prog t18 0 (fun t19 w =>
    ext Try.prog t18 1 (fun t20 w =>
    un Try.prog UnOp.not t16 (fun t22 w =>
    gsel t22 false (fun k24 =>
    un Try.prog UnOp.not t20 (fun t25 w =>
    k24 [t20, t25] w) w)
    (fun k => k [undef, undef] w) (fun us24 w =>
    pick t22 (Value.bool true) (gd us24 1) (fun t26 w =>
    gsel t26 false (fun k28 =>
    bin Try.prog BinOp.gtr 106 false true t15 (Value.int IntKind.u32 4096) (fun t29 w =>
    k28 [t15, t29] w) w)
    (fun k => k [undef, undef] w) (fun us28 w =>
    pick t26 (Value.bool true) (gd us28 1) (fun t30 w =>
    gsel t30 false (fun k32 =>
    conv Try.prog 106 3 t15 (fun t33 w =>
    fldA Try.prog 102 q4 0 (fun t34 w =>
    ld Try.prog 29 t34 (fun t35 w =>
    blt Try.prog Builtin.len #[29] 3 #[false] #[t35] (fun t36 w =>
    fldA Try.prog 102 q4 1 (fun t37 w =>
    ld Try.prog 3 t37 (fun t38 w =>
    bin Try.prog BinOp.sub 3 false false t36 t38 (fun t39 w =>
    bin Try.prog BinOp.gtr 3 false false t33 t39 (fun t40 w =>
    k32 [t15, t33, t34, t35, t36, t37, t38, t39, t40] w) w) w) w) w) w) w) w) w)
    (fun k => k [undef, undef, undef, undef, undef, undef, undef, undef, undef] w) (fun us32 w =>
    pick t30 (Value.bool true) (gd us32 8) (fun t41 w =>
    cond t41
      (K (Value.tuple #[(Value.slice none 0 0), (Value.bool false)]) w)
      (fldA Try.prog 102 q4 0 (fun t42 w =>
    ld Try.prog 29 t42 (fun t43 w =>
    fldA Try.prog 102 q4 1 (fun t44 w =>
    ld Try.prog 3 t44 (fun t45 w =>
    slc Try.prog 29 t43 (some t45) none none (fun t46 w =>
    slc Try.prog 29 t46 none (some t15) none (fun t48 w =>
    (cCode Try.prog x0 (retK Try.prog Try.f68.results.toList K) (fun _ _ _ => False) (retK Try.prog Try.f68.results.toList K)) (p0 :: undef :: (Value.slice none 0 0) :: (Value.bool false) :: q4 :: t15 :: t16 :: t19 :: t20 :: t48 :: p0 :: t11 :: t12 :: t14 :: t14 :: t15 :: t16 :: t18 :: t18 :: t19 :: t20 :: t16 :: t22 :: t22 :: (gd us24 0) :: (gd us24 1) :: t26 :: t26 :: (gd us28 0) :: (gd us28 1) :: t30 :: t30 :: (gd us32 0) :: (gd us32 1) :: (gd us32 2) :: (gd us32 3) :: (gd us32 4) :: (gd us32 5) :: (gd us32 6) :: (gd us32 7) :: (gd us32 8) :: t41 :: t42 :: t43 :: t44 :: t45 :: t46 :: t15 :: t48 :: undef :: undef :: undef :: undef :: undef :: undef :: undef :: undef :: undef :: undef :: undef :: undef :: undef :: undef :: undef :: undef :: undef :: []) w) w) w) w) w) w) w)) w)) w)) w)) w) w) w) w) w) w) w) w) w) w) w) :
    cCode Try.prog (rep [1, 1, 1, 1, 1, 1] x0 (cd Try.f68 [])) (retK Try.prog Try.f68.results.toList K) (fun _ _ _ => False) (retK Try.prog Try.f68.results.toList K) (p0 :: undef :: undef :: undef :: undef :: undef :: undef :: undef :: undef :: undef :: undef :: undef :: undef :: undef :: undef :: undef :: undef :: undef :: undef :: undef :: undef :: undef :: undef :: undef :: undef :: undef :: undef :: undef :: undef :: undef :: undef :: undef :: undef :: undef :: undef :: undef :: undef :: undef :: undef :: undef :: undef :: undef :: undef :: undef :: undef :: undef :: undef :: undef :: undef :: undef :: undef :: undef :: undef :: undef :: undef :: undef :: undef :: undef :: undef :: undef :: undef :: undef :: undef :: undef :: undef :: undef :: []) w := Eq.mp (by kernel_rfl) h

theorem frame_place_record_in {K : KV} {p0 : Value} {w : World}
    (h : nilC p0 (fun t11 w =>
    ld Try.prog 102 t11 (fun t12 w =>
    alc Try.prog 102 (fun q4 w =>
    sto Try.prog 102 q4 t12 (fun _t w =>
    call Try.prog 72 #[q4] (fun t14 w =>
    ext Try.prog t14 0 (fun t15 w =>
    ext Try.prog t14 1 (fun t16 w =>
    call Try.prog 72 #[q4] (fun t18 w =>
    ext Try.prog t18 0 (fun t19 w =>
    ext Try.prog t18 1 (fun t20 w =>
    un Try.prog UnOp.not t16 (fun t22 w =>
    gsel t22 false (fun k24 =>
    un Try.prog UnOp.not t20 (fun t25 w =>
    k24 [t20, t25] w) w)
    (fun k => k [undef, undef] w) (fun us24 w =>
    pick t22 (Value.bool true) (gd us24 1) (fun t26 w =>
    gsel t26 false (fun k28 =>
    bin Try.prog BinOp.gtr 106 false true t15 (Value.int IntKind.u32 4096) (fun t29 w =>
    k28 [t15, t29] w) w)
    (fun k => k [undef, undef] w) (fun us28 w =>
    pick t26 (Value.bool true) (gd us28 1) (fun t30 w =>
    gsel t30 false (fun k32 =>
    conv Try.prog 106 3 t15 (fun t33 w =>
    fldA Try.prog 102 q4 0 (fun t34 w =>
    ld Try.prog 29 t34 (fun t35 w =>
    blt Try.prog Builtin.len #[29] 3 #[false] #[t35] (fun t36 w =>
    fldA Try.prog 102 q4 1 (fun t37 w =>
    ld Try.prog 3 t37 (fun t38 w =>
    bin Try.prog BinOp.sub 3 false false t36 t38 (fun t39 w =>
    bin Try.prog BinOp.gtr 3 false false t33 t39 (fun t40 w =>
    k32 [t15, t33, t34, t35, t36, t37, t38, t39, t40] w) w) w) w) w) w) w) w) w)
    (fun k => k [undef, undef, undef, undef, undef, undef, undef, undef, undef] w) (fun us32 w =>
    pick t30 (Value.bool true) (gd us32 8) (fun t41 w =>
    cond t41
      (K (Value.tuple #[(Value.slice none 0 0), (Value.bool false)]) w)
      (fldA Try.prog 102 q4 0 (fun t42 w =>
    ld Try.prog 29 t42 (fun t43 w =>
    fldA Try.prog 102 q4 1 (fun t44 w =>
    ld Try.prog 3 t44 (fun t45 w =>
    slc Try.prog 29 t43 (some t45) none none (fun t46 w =>
    slc Try.prog 29 t46 none (some t15) none (fun t48 w =>
    (frame_place_record_A1 K) (p0 :: undef :: (Value.slice none 0 0) :: (Value.bool false) :: q4 :: t15 :: t16 :: t19 :: t20 :: t48 :: p0 :: t11 :: t12 :: t14 :: t14 :: t15 :: t16 :: t18 :: t18 :: t19 :: t20 :: t16 :: t22 :: t22 :: (gd us24 0) :: (gd us24 1) :: t26 :: t26 :: (gd us28 0) :: (gd us28 1) :: t30 :: t30 :: (gd us32 0) :: (gd us32 1) :: (gd us32 2) :: (gd us32 3) :: (gd us32 4) :: (gd us32 5) :: (gd us32 6) :: (gd us32 7) :: (gd us32 8) :: t41 :: t42 :: t43 :: t44 :: t45 :: t46 :: t15 :: t48 :: undef :: undef :: undef :: undef :: undef :: undef :: undef :: undef :: undef :: undef :: undef :: undef :: undef :: undef :: undef :: undef :: undef :: []) w) w) w) w) w) w) w)) w)) w)) w)) w) w) w) w) w) w) w) w) w) w) w) :
    Gives Try.prog 68 #[p0] w K := enter' Try.func68 (by kernel_rfl) (Eq.mp (congrArg (fun c => cCode Try.prog c (retK Try.prog Try.f68.results.toList K) (fun _ _ _ => False) (retK Try.prog Try.f68.results.toList K) (p0 :: undef :: undef :: undef :: undef :: undef :: undef :: undef :: undef :: undef :: undef :: undef :: undef :: undef :: undef :: undef :: undef :: undef :: undef :: undef :: undef :: undef :: undef :: undef :: undef :: undef :: undef :: undef :: undef :: undef :: undef :: undef :: undef :: undef :: undef :: undef :: undef :: undef :: undef :: undef :: undef :: undef :: undef :: undef :: undef :: undef :: undef :: undef :: undef :: undef :: undef :: undef :: undef :: undef :: undef :: undef :: undef :: undef :: undef :: undef :: undef :: undef :: undef :: undef :: undef :: undef :: []) w) (by kernel_rfl : (rep [1, 1, 1, 1, 1, 1] (cd Try.f68 [1, 1, 1, 1, 1, 1]) (cd Try.f68 [])) = (cd Try.f68 []))) (frame_place_record_k (cd Try.f68 [1, 1, 1, 1, 1, 1]) h))
theorem frame_place_record_go : isGo Try.prog 68 := ⟨_, Try.func68, by kernel_rfl, by kernel_rfl⟩

theorem frame_place_record_A1_k {K : KV} {p0 p1 t2 t3 q4 size5 one6 sum7 two8 s9 t10 t11 t12 t13 t14 t15 t16 t17 t18 t19 t20 t21 t22 t23 t24 t25 t26 t27 t28 t29 t30 t31 t32 t33 t34 t35 t36 t37 t38 t39 t40 t41 t42 t43 t44 t45 t46 t47 t48 t49 t50 t51 t52 t53 t54 t55 t56 t57 t58 t59 t60 t61 t62 t63 t64 t65 : Value} {w : World}
    (h : call Try.prog 69 #[size5] (fun t50 w =>
    call Try.prog 71 #[t50] (fun t51 w =>
    call Try.prog 70 #[t51, s9] (fun t53 w =>
    bin Try.prog BinOp.neq 106 false false t53 sum7 (fun t55 w =>
    cond t55
      (K (Value.tuple #[(Value.slice none 0 0), (Value.bool false)]) w)
      (fldA Try.prog 102 q4 1 (fun t57 w =>
    ld Try.prog 3 t57 (fun t58 w =>
    conv Try.prog 106 3 size5 (fun t60 w =>
    bin Try.prog BinOp.add 3 false false t58 t60 (fun t61 w =>
    nilC p0 (fun t62 w =>
    fldA Try.prog 102 t62 1 (fun t63 w =>
    sto Try.prog 3 t63 t61 (fun _t w =>
    call Try.prog 42 #[s9] (fun t65 w =>
    K (Value.tuple #[t65, (Value.bool true)]) w) w) w) w) w) w) w) w) w)) w) w) w) w) :
    cCode Try.prog (cd Try.f68 [1, 1, 1, 1, 1, 1]) (retK Try.prog Try.f68.results.toList K) (fun _ _ _ => False) (retK Try.prog Try.f68.results.toList K) (p0 :: p1 :: t2 :: t3 :: q4 :: size5 :: one6 :: sum7 :: two8 :: s9 :: t10 :: t11 :: t12 :: t13 :: t14 :: t15 :: t16 :: t17 :: t18 :: t19 :: t20 :: t21 :: t22 :: t23 :: t24 :: t25 :: t26 :: t27 :: t28 :: t29 :: t30 :: t31 :: t32 :: t33 :: t34 :: t35 :: t36 :: t37 :: t38 :: t39 :: t40 :: t41 :: t42 :: t43 :: t44 :: t45 :: t46 :: t47 :: t48 :: t49 :: t50 :: t51 :: t52 :: t53 :: t54 :: t55 :: t56 :: t57 :: t58 :: t59 :: t60 :: t61 :: t62 :: t63 :: t64 :: t65 :: []) w := Eq.mp (by kernel_rfl) h

theorem frame_place_record_A1_r {K : KV} {p0 p1 t2 t3 q4 size5 one6 sum7 two8 s9 t10 t11 t12 t13 t14 t15 t16 t17 t18 t19 t20 t21 t22 t23 t24 t25 t26 t27 t28 t29 t30 t31 t32 t33 t34 t35 t36 t37 t38 t39 t40 t41 t42 t43 t44 t45 t46 t47 t48 t49 t50 t51 t52 t53 t54 t55 t56 t57 t58 t59 t60 t61 t62 t63 t64 t65 : Value} {w : World}
    (h : call Try.prog 69 #[size5] (fun t50 w =>
    call Try.prog 71 #[t50] (fun t51 w =>
    call Try.prog 70 #[t51, s9] (fun t53 w =>
    bin Try.prog BinOp.neq 106 false false t53 sum7 (fun t55 w =>
    cond t55
      (K (Value.tuple #[(Value.slice none 0 0), (Value.bool false)]) w)
      (fldA Try.prog 102 q4 1 (fun t57 w =>
    ld Try.prog 3 t57 (fun t58 w =>
    conv Try.prog 106 3 size5 (fun t60 w =>
    bin Try.prog BinOp.add 3 false false t58 t60 (fun t61 w =>
    nilC p0 (fun t62 w =>
    fldA Try.prog 102 t62 1 (fun t63 w =>
    sto Try.prog 3 t63 t61 (fun _t w =>
    call Try.prog 42 #[s9] (fun t65 w =>
    K (Value.tuple #[t65, (Value.bool true)]) w) w) w) w) w) w) w) w) w)) w) w) w) w) :
    frame_place_record_A1 K (p0 :: p1 :: t2 :: t3 :: q4 :: size5 :: one6 :: sum7 :: two8 :: s9 :: t10 :: t11 :: t12 :: t13 :: t14 :: t15 :: t16 :: t17 :: t18 :: t19 :: t20 :: t21 :: t22 :: t23 :: t24 :: t25 :: t26 :: t27 :: t28 :: t29 :: t30 :: t31 :: t32 :: t33 :: t34 :: t35 :: t36 :: t37 :: t38 :: t39 :: t40 :: t41 :: t42 :: t43 :: t44 :: t45 :: t46 :: t47 :: t48 :: t49 :: t50 :: t51 :: t52 :: t53 :: t54 :: t55 :: t56 :: t57 :: t58 :: t59 :: t60 :: t61 :: t62 :: t63 :: t64 :: t65 :: []) w := by
  delta frame_place_record_A1
  exact Eq.mp (congrArg (fun c => cCode Try.prog c (retK Try.prog Try.f68.results.toList K) (fun _ _ _ => False) (retK Try.prog Try.f68.results.toList K) (p0 :: p1 :: t2 :: t3 :: q4 :: size5 :: one6 :: sum7 :: two8 :: s9 :: t10 :: t11 :: t12 :: t13 :: t14 :: t15 :: t16 :: t17 :: t18 :: t19 :: t20 :: t21 :: t22 :: t23 :: t24 :: t25 :: t26 :: t27 :: t28 :: t29 :: t30 :: t31 :: t32 :: t33 :: t34 :: t35 :: t36 :: t37 :: t38 :: t39 :: t40 :: t41 :: t42 :: t43 :: t44 :: t45 :: t46 :: t47 :: t48 :: t49 :: t50 :: t51 :: t52 :: t53 :: t54 :: t55 :: t56 :: t57 :: t58 :: t59 :: t60 :: t61 :: t62 :: t63 :: t64 :: t65 :: []) w) (by kernel_rfl : (cd Try.f68 [1, 1, 1, 1, 1, 1]) = (cd Try.f68 [1, 1, 1, 1, 1, 1]))) (frame_place_record_A1_k h)
attribute [irreducible] frame_place_record_A1


theorem frame_New_k {K : KV} {b0 : Value} {w : World}
    (h : call Try.prog 42 #[b0] (fun t4 w =>
    bld Try.prog 102 #[(0, t4)] (fun t5 w =>
    bld Try.prog 104 #[(0, t5)] (fun t6 w =>
    box Try.prog 104 t6 (fun t7 w =>
    K t7 w) w) w) w) w) :
    cCode Try.prog (cd Try.f64 []) (retK Try.prog Try.f64.results.toList K) (fun _ _ _ => False) (retK Try.prog Try.f64.results.toList K) [b0, undef, undef, undef, undef, undef, undef, undef] w := Eq.mp (by kernel_rfl) h

theorem frame_New_in {K : KV} {b0 : Value} {w : World}
    (h : call Try.prog 42 #[b0] (fun t4 w =>
    bld Try.prog 102 #[(0, t4)] (fun t5 w =>
    bld Try.prog 104 #[(0, t5)] (fun t6 w =>
    box Try.prog 104 t6 (fun t7 w =>
    K t7 w) w) w) w) w) :
    Gives Try.prog 64 #[b0] w K := enter' Try.func64 (by kernel_rfl) (Eq.mp (congrArg (fun c => cCode Try.prog c (retK Try.prog Try.f64.results.toList K) (fun _ _ _ => False) (retK Try.prog Try.f64.results.toList K) [b0, undef, undef, undef, undef, undef, undef, undef] w) (by kernel_rfl : (cd Try.f64 []) = (cd Try.f64 []))) (frame_New_k h))
theorem frame_New_go : isGo Try.prog 64 := ⟨_, Try.func64, by kernel_rfl, by kernel_rfl⟩


theorem frame_Reader_Next_k {K : KV} {r0 : Value} {w : World}
    (h : bin Try.prog BinOp.eql 95 false true r0 (Value.pointer none) (fun t5 w =>
    cond t5
      (K (Value.tuple #[(Value.slice none 0 0), (Value.bool false)]) w)
      (nilC r0 (fun t7 w =>
    fldA Try.prog 104 t7 0 (fun t8 w =>
    call Try.prog 68 #[t8] (fun t9 w =>
    ext Try.prog t9 0 (fun t10 w =>
    ext Try.prog t9 1 (fun t11 w =>
    K (Value.tuple #[t10, t11]) w) w) w) w) w) w)) w) :
    cCode Try.prog (cd Try.f65 []) (retK Try.prog Try.f65.results.toList K) (fun _ _ _ => False) (retK Try.prog Try.f65.results.toList K) [r0, undef, undef, undef, undef, undef, undef, undef, undef, undef, undef, undef] w := Eq.mp (by kernel_rfl) h

theorem frame_Reader_Next_in {K : KV} {r0 : Value} {w : World}
    (h : bin Try.prog BinOp.eql 95 false true r0 (Value.pointer none) (fun t5 w =>
    cond t5
      (K (Value.tuple #[(Value.slice none 0 0), (Value.bool false)]) w)
      (nilC r0 (fun t7 w =>
    fldA Try.prog 104 t7 0 (fun t8 w =>
    call Try.prog 68 #[t8] (fun t9 w =>
    ext Try.prog t9 0 (fun t10 w =>
    ext Try.prog t9 1 (fun t11 w =>
    K (Value.tuple #[t10, t11]) w) w) w) w) w) w)) w) :
    Gives Try.prog 65 #[r0] w K := enter' Try.func65 (by kernel_rfl) (Eq.mp (congrArg (fun c => cCode Try.prog c (retK Try.prog Try.f65.results.toList K) (fun _ _ _ => False) (retK Try.prog Try.f65.results.toList K) [r0, undef, undef, undef, undef, undef, undef, undef, undef, undef, undef, undef] w) (by kernel_rfl : (cd Try.f65 []) = (cd Try.f65 []))) (frame_Reader_Next_k h))
theorem frame_Reader_Next_go : isGo Try.prog 65 := ⟨_, Try.func65, by kernel_rfl, by kernel_rfl⟩


theorem frame_Reader_At_k {K : KV} {r0 : Value} {w : World}
    (h : bin Try.prog BinOp.eql 95 false true r0 (Value.pointer none) (fun t4 w =>
    cond t4
      (K (Value.int IntKind.i64 0) w)
      (nilC r0 (fun t6 w =>
    fldA Try.prog 104 t6 0 (fun t7 w =>
    fldA Try.prog 102 t7 1 (fun t8 w =>
    ld Try.prog 3 t8 (fun t9 w =>
    K t9 w) w) w) w) w)) w) :
    cCode Try.prog (cd Try.f66 []) (retK Try.prog Try.f66.results.toList K) (fun _ _ _ => False) (retK Try.prog Try.f66.results.toList K) [r0, undef, undef, undef, undef, undef, undef, undef, undef, undef] w := Eq.mp (by kernel_rfl) h

theorem frame_Reader_At_in {K : KV} {r0 : Value} {w : World}
    (h : bin Try.prog BinOp.eql 95 false true r0 (Value.pointer none) (fun t4 w =>
    cond t4
      (K (Value.int IntKind.i64 0) w)
      (nilC r0 (fun t6 w =>
    fldA Try.prog 104 t6 0 (fun t7 w =>
    fldA Try.prog 102 t7 1 (fun t8 w =>
    ld Try.prog 3 t8 (fun t9 w =>
    K t9 w) w) w) w) w)) w) :
    Gives Try.prog 66 #[r0] w K := enter' Try.func66 (by kernel_rfl) (Eq.mp (congrArg (fun c => cCode Try.prog c (retK Try.prog Try.f66.results.toList K) (fun _ _ _ => False) (retK Try.prog Try.f66.results.toList K) [r0, undef, undef, undef, undef, undef, undef, undef, undef, undef] w) (by kernel_rfl : (cd Try.f66 []) = (cd Try.f66 []))) (frame_Reader_At_k h))
theorem frame_Reader_At_go : isGo Try.prog 66 := ⟨_, Try.func66, by kernel_rfl, by kernel_rfl⟩

def frame_All_L1 (K : KV) : KE := cCode Try.prog (cd Try.f44 [1, 1, 0]) (retK Try.prog Try.f44.results.toList K) (fun i => @Bool.rec (fun _ => KE) ((fun _ _ _ => False) i) (retK Try.prog Try.f44.results.toList K) (Nat.beq i 0)) (retK Try.prog Try.f44.results.toList K)
theorem frame_All_k {K : KV} {b0 : Value} {w : World}
    (h : call Try.prog 64 #[b0] (fun t8 w =>
    (cCode Try.prog (cd Try.f44 [1, 1, 0]) (retK Try.prog Try.f44.results.toList K) (fun i => @Bool.rec (fun _ => KE) ((fun _ _ _ => False) i) (retK Try.prog Try.f44.results.toList K) (Nat.beq i 0)) (retK Try.prog Try.f44.results.toList K)) [b0, undef, (Value.slice none 0 0), (Value.int IntKind.i64 0), t8, undef, undef, b0, t8, undef, undef, undef, undef, undef, undef, undef, undef, undef, undef, undef, undef, undef, undef] w) w) :
    cCode Try.prog (cd Try.f44 []) (retK Try.prog Try.f44.results.toList K) (fun _ _ _ => False) (retK Try.prog Try.f44.results.toList K) [b0, undef, undef, undef, undef, undef, undef, undef, undef, undef, undef, undef, undef, undef, undef, undef, undef, undef, undef, undef, undef, undef, undef] w := Eq.mp (by kernel_rfl) h

theorem frame_All_in {K : KV} {b0 : Value} {w : World}
    (h : call Try.prog 64 #[b0] (fun t8 w =>
    (frame_All_L1 K) [b0, undef, (Value.slice none 0 0), (Value.int IntKind.i64 0), t8, undef, undef, b0, t8, undef, undef, undef, undef, undef, undef, undef, undef, undef, undef, undef, undef, undef, undef] w) w) :
    Gives Try.prog 44 #[b0] w K := enter' Try.func44 (by kernel_rfl) (Eq.mp (congrArg (fun c => cCode Try.prog c (retK Try.prog Try.f44.results.toList K) (fun _ _ _ => False) (retK Try.prog Try.f44.results.toList K) [b0, undef, undef, undef, undef, undef, undef, undef, undef, undef, undef, undef, undef, undef, undef, undef, undef, undef, undef, undef, undef, undef, undef] w) (by kernel_rfl : (cd Try.f44 []) = (cd Try.f44 []))) (frame_All_k h))
theorem frame_All_go : isGo Try.prog 44 := ⟨_, Try.func44, by kernel_rfl, by kernel_rfl⟩

theorem frame_All_L1_k {K : KV} (B1 : KE) {b0 b1 l2' r4 t7 t8 : Value} {dd : Nat → Value} {w : World}
    (h : call Try.prog 65 #[r4] (fun t11 w =>
    ext Try.prog t11 0 (fun t12 w =>
    ext Try.prog t11 1 (fun t13 w =>
    un Try.prog UnOp.not t13 (fun t15 w =>
    cond t15
      (call Try.prog 66 #[r4] (fun t18 w =>
      K (Value.tuple #[l2', t18]) w) w)
      (bldS Try.prog 50 1 #[(0, t12)] (fun t21 w =>
    blt Try.prog Builtin.append #[50, 50] 50 #[false, false] #[l2', t21] (fun t22 w =>
    B1 [b0, b1, t22, (dd 3), r4, t12, t13, t7, t8, t11, r4, t11, t12, t13, t13, t15, (dd 16), (dd 17), (dd 18), l2', t12, t21, t22] w) w) w)) w) w) w) w) :
    cCode Try.prog (cd Try.f44 [1, 1, 0, 0]) B1 (fun i => @Bool.rec (fun _ => KE) ((fun _ _ _ => False) i) (retK Try.prog Try.f44.results.toList K) (Nat.beq i 0)) (retK Try.prog Try.f44.results.toList K) [b0, b1, l2', (dd 3), r4, (dd 5), (dd 6), t7, t8, (dd 9), (dd 10), (dd 11), (dd 12), (dd 13), (dd 14), (dd 15), (dd 16), (dd 17), (dd 18), (dd 19), (dd 20), (dd 21), (dd 22)] w := Eq.mp (by kernel_rfl) h

theorem frame_All_L1_r {K : KV} {b0 b1 l2 at3 r4 s5 is6 t7 t8 t9 t10 t11 t12 t13 t14 t15 t16 t17 t18 t19 t20 t21 t22 : Value} {w : World} (Inv : Value → World → Prop) (μ : Value → World → Nat) (h0 : Inv l2 w)
    (hs : ∀ (l2' : Value) (dd : Nat → Value) (w : World) (m : Nat), Inv l2' w → m = μ l2' w →
    call Try.prog 65 #[r4] (fun t11 w =>
    ext Try.prog t11 0 (fun t12 w =>
    ext Try.prog t11 1 (fun t13 w =>
    un Try.prog UnOp.not t13 (fun t15 w =>
    cond t15
      (call Try.prog 66 #[r4] (fun t18 w =>
      K (Value.tuple #[l2', t18]) w) w)
      (bldS Try.prog 50 1 #[(0, t12)] (fun t21 w =>
    blt Try.prog Builtin.append #[50, 50] 50 #[false, false] #[l2', t21] (fun t22 w =>
    (Inv t22 w ∧ μ t22 w < m)) w) w)) w) w) w) w) :
    frame_All_L1 K [b0, b1, l2, at3, r4, s5, is6, t7, t8, t9, t10, t11, t12, t13, t14, t15, t16, t17, t18, t19, t20, t21, t22] w := by
  refine loop_rule (cd Try.f44 [1, 1, 0, 0]) [2, 3, 5, 6, 9, 10, 11, 12, 13, 14, 15, 16, 17, 18, 19, 20, 21, 22] (by kernel_rfl) (fun e2 w2 => Inv (gd e2 2) w2) (fun e2 w2 => μ (gd e2 2) w2) h0 ?_
  intro e' w' hI
  have h := hs (gd e' 2) (fun i => gd e' i) w' _ hI rfl
  have h2 : cCode Try.prog (cd Try.f44 [1, 1, 0, 0]) (fun e2 w2 => Inv (gd e2 2) w2 ∧ μ (gd e2 2) w2 < μ (gd e' 2) w') (fun i => @Bool.rec (fun _ => KE) ((fun _ _ _ => False) i) (retK Try.prog Try.f44.results.toList K) (Nat.beq i 0)) (retK Try.prog Try.f44.results.toList K) [b0, b1, (gd e' 2), (gd e' 3), r4, (gd e' 5), (gd e' 6), t7, t8, (gd e' 9), (gd e' 10), (gd e' 11), (gd e' 12), (gd e' 13), (gd e' 14), (gd e' 15), (gd e' 16), (gd e' 17), (gd e' 18), (gd e' 19), (gd e' 20), (gd e' 21), (gd e' 22)] w' := frame_All_L1_k (fun e2 w2 => Inv (gd e2 2) w2 ∧ μ (gd e2 2) w2 < μ (gd e' 2) w') (Eq.mp (by kernel_rfl) h)
  exact Eq.mp (by kernel_rfl) h2
attribute [irreducible] frame_All_L1

end Go.Proofs.Ytjkmblbonambjaa
