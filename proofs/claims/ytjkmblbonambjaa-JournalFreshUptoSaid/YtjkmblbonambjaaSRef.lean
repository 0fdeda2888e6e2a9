/- Written by program (gen.py): what the code of some functions asks, part by part; each text is checked by the kernel against the translation. -/
import Derived.Test.YtjkmblbonambjaaSh
import Derived.Test.YtjkmblbonambjaaChecked
namespace Go.Proofs.Ytjkmblbonambjaa
open Go.RowKit
set_option maxRecDepth 100000

def leatref01_Same_P1 (K : KV) : KE := cCode Try.prog (cd Try.f27 [1, 1, 1]) (retK Try.prog Try.f27.results.toList K) (fun _ _ _ => False) (retK Try.prog Try.f27.results.toList K)
def leatref01_Same_L1 (K : KV) : KE := cCode Try.prog (cd Try.f27 [1, 1, 0, 1, 0]) (leatref01_Same_P1 K) (fun i => @Bool.rec (fun _ => KE) ((fun _ _ _ => False) i) (leatref01_Same_P1 K) (Nat.beq i 0)) (retK Try.prog Try.f27.results.toList K)
theorem leatref01_Same_k {K : KV} {a0 b1 : Value} {w : World}
    (h : blt Try.prog Builtin.len #[50] 3 #[false] #[a0] (fun A2 w =>
    blt Try.prog Builtin.len #[50] 3 #[false] #[b1] (fun A4 w =>
    bin Try.prog BinOp.neq 3 false false A2 A4 (fun A5 w =>
    cond A5
      (K (Value.bool false) w)
      ((cCode Try.prog (cd Try.f27 [1, 1, 0, 1, 0]) (cCode Try.prog (cd Try.f27 [1, 1, 1]) (retK Try.prog Try.f27.results.toList K) (fun _ _ _ => False) (retK Try.prog Try.f27.results.toList K)) (fun i => @Bool.rec (fun _ => KE) ((fun _ _ _ => False) i) (cCode Try.prog (cd Try.f27 [1, 1, 1]) (retK Try.prog Try.f27.results.toList K) (fun _ _ _ => False) (retK Try.prog Try.f27.results.toList K)) (Nat.beq i 0)) (retK Try.prog Try.f27.results.toList K)) [a0, b1, undef, undef, (Value.bool false), (Value.int IntKind.i64 0), a0, A2, b1, A4, A5, undef, undef, undef, undef, undef, undef, undef, undef, undef, undef, undef, undef, undef, undef, undef, undef, undef] w)) w) w) w) :
    cCode Try.prog (cd Try.f27 []) (retK Try.prog Try.f27.results.toList K) (fun _ _ _ => False) (retK Try.prog Try.f27.results.toList K) [a0, b1, undef, undef, undef, undef, undef, undef, undef, undef, undef, undef, undef, undef, undef, undef, undef, undef, undef, undef, undef, undef, undef, undef, undef, undef, undef, undef] w := Eq.mp (by kernel_rfl) h

theorem leatref01_Same_in {K : KV} {a0 b1 : Value} {w : World}
    (h : blt Try.prog Builtin.len #[50] 3 #[false] #[a0] (fun A2 w =>
    blt Try.prog Builtin.len #[50] 3 #[false] #[b1] (fun A4 w =>
    bin Try.prog BinOp.neq 3 false false A2 A4 (fun A5 w =>
    cond A5
      (K (Value.bool false) w)
      ((leatref01_Same_L1 K) [a0, b1, undef, undef, (Value.bool false), (Value.int IntKind.i64 0), a0, A2, b1, A4, A5, undef, undef, undef, undef, undef, undef, undef, undef, undef, undef, undef, undef, undef, undef, undef, undef, undef] w)) w) w) w) :
    Gives Try.prog 27 #[a0, b1] w K := enter' Try.func27 (by kernel_rfl) (Eq.mp (congrArg (fun c => cCode Try.prog c (retK Try.prog Try.f27.results.toList K) (fun _ _ _ => False) (retK Try.prog Try.f27.results.toList K) [a0, b1, undef, undef, undef, undef, undef, undef, undef, undef, undef, undef, undef, undef, undef, undef, undef, undef, undef, undef, undef, undef, undef, undef, undef, undef, undef, undef] w) (by kernel_rfl : (cd Try.f27 []) = (cd Try.f27 []))) (leatref01_Same_k h))
theorem leatref01_Same_go : isGo Try.prog 27 := ⟨_, Try.func27, by kernel_rfl, by kernel_rfl⟩

theorem leatref01_Same_L1_k {K : KV} (B1 : KE) (qc0 : KE) {a0 b1 a2 b3 i5' A1 A2 A3 A4 A5 : Value} {dd : Nat → Value} {w : World}
    (h : blt Try.prog Builtin.len #[50] 3 #[false] #[a0] (fun A8 w =>
    bin Try.prog BinOp.lss 3 false false i5' A8 (fun A9 w =>
    cond A9
      ((fun w =>
    sti (fun k w => idxA Try.prog 50 a0 i5' k w) (fun C4 w =>
    sti (fun k w => ld Try.prog 29 C4 k w) (fun C5 w =>
    sti (fun k w => conv Try.prog 29 9 C5 k w) (fun C6 w =>
    sti (fun k w => idxA Try.prog 50 b1 i5' k w) (fun C9 w =>
    sti (fun k w => ld Try.prog 29 C9 k w) (fun D0 w =>
    sti (fun k w => conv Try.prog 29 9 D0 k w) (fun D1 w =>
    sti (fun k w => bin Try.prog BinOp.neq 9 false false C6 D1 k w) (fun D2 w =>
    cond D2
      (K (Value.bool false) w)
      (bin Try.prog BinOp.add 3 false true i5' (Value.int IntKind.i64 1) (fun C1 w =>
    B1 [a0, b1, a2, b3, (dd 4), C1, A1, A2, A3, A4, A5, i5', a0, A8, A9, i5', C1, a0, i5', C4, C5, C6, b1, i5', C9, D0, D1, D2] w) w)) w) w) w) w) w) w) w) w.drew)
      (qc0 [a0, b1, a2, b3, (dd 4), i5', A1, A2, A3, A4, A5, i5', a0, A8, A9, (dd 15), (dd 16), (dd 17), (dd 18), (dd 19), (dd 20), (dd 21), (dd 22), (dd 23), (dd 24), (dd 25), (dd 26), (dd 27)] w)) w) w) :
    cCode Try.prog (cd Try.f27 [1, 1, 0, 1, 0, 0]) B1 (fun i => @Bool.rec (fun _ => KE) ((fun _ _ _ => False) i) qc0 (Nat.beq i 0)) (retK Try.prog Try.f27.results.toList K) [a0, b1, a2, b3, (dd 4), i5', A1, A2, A3, A4, A5, (dd 11), (dd 12), (dd 13), (dd 14), (dd 15), (dd 16), (dd 17), (dd 18), (dd 19), (dd 20), (dd 21), (dd 22), (dd 23), (dd 24), (dd 25), (dd 26), (dd 27)] w := Eq.mp (by kernel_rfl) h

theorem leatref01_Same_L1_r {K : KV} {a0 b1 a2 b3 A0 i5 A1 A2 A3 A4 A5 A6 A7 A8 A9 C0 C1 C2 C3 C4 C5 C6 C7 C8 C9 D0 D1 D2 : Value} {w : World} (Inv : Value → World → Prop) (μ : Value → World → Nat) (h0 : Inv i5 w)
    (hs : ∀ (i5' : Value) (dd : Nat → Value) (w : World) (m : Nat), Inv i5' w → m = μ i5' w →
    blt Try.prog Builtin.len #[50] 3 #[false] #[a0] (fun A8 w =>
    bin Try.prog BinOp.lss 3 false false i5' A8 (fun A9 w =>
    cond A9
      ((fun w =>
    sti (fun k w => idxA Try.prog 50 a0 i5' k w) (fun C4 w =>
    sti (fun k w => ld Try.prog 29 C4 k w) (fun C5 w =>
    sti (fun k w => conv Try.prog 29 9 C5 k w) (fun C6 w =>
    sti (fun k w => idxA Try.prog 50 b1 i5' k w) (fun C9 w =>
    sti (fun k w => ld Try.prog 29 C9 k w) (fun D0 w =>
    sti (fun k w => conv Try.prog 29 9 D0 k w) (fun D1 w =>
    sti (fun k w => bin Try.prog BinOp.neq 9 false false C6 D1 k w) (fun D2 w =>
    cond D2
      (K (Value.bool false) w)
      (bin Try.prog BinOp.add 3 false true i5' (Value.int IntKind.i64 1) (fun C1 w =>
    (Inv C1 w ∧ μ C1 w < m)) w)) w) w) w) w) w) w) w) w.drew)
      ((leatref01_Same_P1 K) [a0, b1, a2, b3, (dd 4), i5', A1, A2, A3, A4, A5, i5', a0, A8, A9, (dd 15), (dd 16), (dd 17), (dd 18), (dd 19), (dd 20), (dd 21), (dd 22), (dd 23), (dd 24), (dd 25), (dd 26), (dd 27)] w)) w) w) :
    leatref01_Same_L1 K [a0, b1, a2, b3, A0, i5, A1, A2, A3, A4, A5, A6, A7, A8, A9, C0, C1, C2, C3, C4, C5, C6, C7, C8, C9, D0, D1, D2] w := by
  refine loop_rule (cd Try.f27 [1, 1, 0, 1, 0, 0]) [4, 5, 11, 12, 13, 14, 15, 16, 17, 18, 19, 20, 21, 22, 23, 24, 25, 26, 27] (by kernel_rfl) (fun e2 w2 => Inv (gd e2 5) w2) (fun e2 w2 => μ (gd e2 5) w2) h0 ?_
  intro e' w' hI
  have h := hs (gd e' 5) (fun i => gd e' i) w' _ hI rfl
  have h2 : cCode Try.prog (cd Try.f27 [1, 1, 0, 1, 0, 0]) (fun e2 w2 => Inv (gd e2 5) w2 ∧ μ (gd e2 5) w2 < μ (gd e' 5) w') (fun i => @Bool.rec (fun _ => KE) ((fun _ _ _ => False) i) (leatref01_Same_P1 K) (Nat.beq i 0)) (retK Try.prog Try.f27.results.toList K) [a0, b1, a2, b3, (gd e' 4), (gd e' 5), A1, A2, A3, A4, A5, (gd e' 11), (gd e' 12), (gd e' 13), (gd e' 14), (gd e' 15), (gd e' 16), (gd e' 17), (gd e' 18), (gd e' 19), (gd e' 20), (gd e' 21), (gd e' 22), (gd e' 23), (gd e' 24), (gd e' 25), (gd e' 26), (gd e' 27)] w' := leatref01_Same_L1_k (fun e2 w2 => Inv (gd e2 5) w2 ∧ μ (gd e2 5) w2 < μ (gd e' 5) w') (leatref01_Same_P1 K) (Eq.mp (by kernel_rfl) h)
  exact Eq.mp (by kernel_rfl) h2

theorem leatref01_Same_P1_k {K : KV} {a0 b1 a2 b3 A0 i5 A1 A2 A3 A4 A5 A6 A7 A8 A9 C0 C1 C2 C3 C4 C5 C6 C7 C8 C9 D0 D1 D2 : Value} {w : World}
    (h : K (Value.bool true) w) :
    cCode Try.prog (cd Try.f27 [1, 1, 1]) (retK Try.prog Try.f27.results.toList K) (fun _ _ _ => False) (retK Try.prog Try.f27.results.toList K) [a0, b1, a2, b3, A0, i5, A1, A2, A3, A4, A5, A6, A7, A8, A9, C0, C1, C2, C3, C4, C5, C6, C7, C8, C9, D0, D1, D2] w := Eq.mp (by kernel_rfl) h

theorem leatref01_Same_P1_r {K : KV} {a0 b1 a2 b3 A0 i5 A1 A2 A3 A4 A5 A6 A7 A8 A9 C0 C1 C2 C3 C4 C5 C6 C7 C8 C9 D0 D1 D2 : Value} {w : World}
    (h : K (Value.bool true) w) :
    leatref01_Same_P1 K [a0, b1, a2, b3, A0, i5, A1, A2, A3, A4, A5, A6, A7, A8, A9, C0, C1, C2, C3, C4, C5, C6, C7, C8, C9, D0, D1, D2] w := by
  delta leatref01_Same_P1
  exact Eq.mp (congrArg (fun c => cCode Try.prog c (retK Try.prog Try.f27.results.toList K) (fun _ _ _ => False) (retK Try.prog Try.f27.results.toList K) [a0, b1, a2, b3, A0, i5, A1, A2, A3, A4, A5, A6, A7, A8, A9, C0, C1, C2, C3, C4, C5, C6, C7, C8, C9, D0, D1, D2] w) (by kernel_rfl : (cd Try.f27 [1, 1, 1]) = (cd Try.f27 [1, 1, 1]))) (leatref01_Same_P1_k h)
attribute [irreducible] leatref01_Same_P1 leatref01_Same_L1

def leatref01_Vast_P1 (K : KV) : KE := cCode Try.prog (cd Try.f29 [1, 1, 1]) (retK Try.prog Try.f29.results.toList K) (fun _ _ _ => False) (retK Try.prog Try.f29.results.toList K)
def leatref01_Vast_L1 (K : KV) : KE := cCode Try.prog (cd Try.f29 [1, 1, 0, 1, 0]) (leatref01_Vast_P1 K) (fun i => @Bool.rec (fun _ => KE) ((fun _ _ _ => False) i) (leatref01_Vast_P1 K) (Nat.beq i 0)) (retK Try.prog Try.f29.results.toList K)
theorem leatref01_Vast_k {K : KV} {l0 most1 : Value} {w : World}
    (h : blt Try.prog Builtin.len #[50] 3 #[false] #[l0] (fun A3 w =>
    (cCode Try.prog (cd Try.f29 [1, 1, 0, 1, 0]) (cCode Try.prog (cd Try.f29 [1, 1, 1]) (retK Try.prog Try.f29.results.toList K) (fun _ _ _ => False) (retK Try.prog Try.f29.results.toList K)) (fun i => @Bool.rec (fun _ => KE) ((fun _ _ _ => False) i) (cCode Try.prog (cd Try.f29 [1, 1, 1]) (retK Try.prog Try.f29.results.toList K) (fun _ _ _ => False) (retK Try.prog Try.f29.results.toList K)) (Nat.beq i 0)) (retK Try.prog Try.f29.results.toList K)) [l0, most1, undef, undef, (Value.bool false), A3, (Value.int IntKind.i64 0), l0, A3, undef, undef, undef, undef, undef, undef, undef, undef, undef, undef, undef, undef, undef, undef, undef, undef] w) w) :
    cCode Try.prog (cd Try.f29 []) (retK Try.prog Try.f29.results.toList K) (fun _ _ _ => False) (retK Try.prog Try.f29.results.toList K) [l0, most1, undef, undef, undef, undef, undef, undef, undef, undef, undef, undef, undef, undef, undef, undef, undef, undef, undef, undef, undef, undef, undef, undef, undef] w := Eq.mp (by kernel_rfl) h

theorem leatref01_Vast_in {K : KV} {l0 most1 : Value} {w : World}
    (h : blt Try.prog Builtin.len #[50] 3 #[false] #[l0] (fun A3 w =>
    (leatref01_Vast_L1 K) [l0, most1, undef, undef, (Value.bool false), A3, (Value.int IntKind.i64 0), l0, A3, undef, undef, undef, undef, undef, undef, undef, undef, undef, undef, undef, undef, undef, undef, undef, undef] w) w) :
    Gives Try.prog 29 #[l0, most1] w K := enter' Try.func29 (by kernel_rfl) (Eq.mp (congrArg (fun c => cCode Try.prog c (retK Try.prog Try.f29.results.toList K) (fun _ _ _ => False) (retK Try.prog Try.f29.results.toList K) [l0, most1, undef, undef, undef, undef, undef, undef, undef, undef, undef, undef, undef, undef, undef, undef, undef, undef, undef, undef, undef, undef, undef, undef, undef] w) (by kernel_rfl : (cd Try.f29 []) = (cd Try.f29 []))) (leatref01_Vast_k h))
theorem leatref01_Vast_go : isGo Try.prog 29 := ⟨_, Try.func29, by kernel_rfl, by kernel_rfl⟩

theorem leatref01_Vast_L1_k {K : KV} (B1 : KE) (qc0 : KE) {l0 most1 l2 most3 A0 n5' i6' A2 A3 C7 C8 C9 : Value} {dd : Nat → Value} {w : World}
    (h : blt Try.prog Builtin.len #[50] 3 #[false] #[l0] (fun A6 w =>
    bin Try.prog BinOp.lss 3 false false i6' A6 (fun A7 w =>
    cond A7
      (idxA Try.prog 50 l0 i6' (fun C3 w =>
    ld Try.prog 29 C3 (fun C4 w =>
    blt Try.prog Builtin.len #[29] 3 #[false] #[C4] (fun C5 w =>
    bin Try.prog BinOp.add 3 false false n5' C5 (fun C6 w =>
    bin Try.prog BinOp.add 3 false true i6' (Value.int IntKind.i64 1) (fun A9 w =>
    B1 [l0, most1, l2, most3, A0, C6, A9, A2, A3, i6', l0, A6, A7, i6', A9, n5', l0, i6', C3, C4, C5, C6, C7, C8, C9] w) w) w) w) w) w)
      (qc0 [l0, most1, l2, most3, A0, n5', i6', A2, A3, i6', l0, A6, A7, (dd 13), (dd 14), (dd 15), (dd 16), (dd 17), (dd 18), (dd 19), (dd 20), (dd 21), C7, C8, C9] w)) w) w) :
    cCode Try.prog (cd Try.f29 [1, 1, 0, 1, 0, 0]) B1 (fun i => @Bool.rec (fun _ => KE) ((fun _ _ _ => False) i) qc0 (Nat.beq i 0)) (retK Try.prog Try.f29.results.toList K) [l0, most1, l2, most3, A0, n5', i6', A2, A3, (dd 9), (dd 10), (dd 11), (dd 12), (dd 13), (dd 14), (dd 15), (dd 16), (dd 17), (dd 18), (dd 19), (dd 20), (dd 21), C7, C8, C9] w := Eq.mp (by kernel_rfl) h

theorem leatref01_Vast_L1_r {K : KV} {l0 most1 l2 most3 A0 n5 i6 A2 A3 A4 A5 A6 A7 A8 A9 C0 C1 C2 C3 C4 C5 C6 C7 C8 C9 : Value} {w : World} (Inv : Value → Value → World → Prop) (μ : Value → Value → World → Nat) (h0 : Inv n5 i6 w)
    (hs : ∀ (n5' i6' : Value) (dd : Nat → Value) (w : World) (m : Nat), Inv n5' i6' w → m = μ n5' i6' w →
    blt Try.prog Builtin.len #[50] 3 #[false] #[l0] (fun A6 w =>
    bin Try.prog BinOp.lss 3 false false i6' A6 (fun A7 w =>
    cond A7
      (idxA Try.prog 50 l0 i6' (fun C3 w =>
    ld Try.prog 29 C3 (fun C4 w =>
    blt Try.prog Builtin.len #[29] 3 #[false] #[C4] (fun C5 w =>
    bin Try.prog BinOp.add 3 false false n5' C5 (fun C6 w =>
    bin Try.prog BinOp.add 3 false true i6' (Value.int IntKind.i64 1) (fun A9 w =>
    (Inv C6 A9 w ∧ μ C6 A9 w < m)) w) w) w) w) w)
      ((leatref01_Vast_P1 K) [l0, most1, l2, most3, A0, n5', i6', A2, A3, i6', l0, A6, A7, (dd 13), (dd 14), (dd 15), (dd 16), (dd 17), (dd 18), (dd 19), (dd 20), (dd 21), C7, C8, C9] w)) w) w) :
    leatref01_Vast_L1 K [l0, most1, l2, most3, A0, n5, i6, A2, A3, A4, A5, A6, A7, A8, A9, C0, C1, C2, C3, C4, C5, C6, C7, C8, C9] w := by
  refine loop_rule (cd Try.f29 [1, 1, 0, 1, 0, 0]) [5, 6, 9, 10, 11, 12, 13, 14, 15, 16, 17, 18, 19, 20, 21] (by kernel_rfl) (fun e2 w2 => Inv (gd e2 5) (gd e2 6) w2) (fun e2 w2 => μ (gd e2 5) (gd e2 6) w2) h0 ?_
  intro e' w' hI
  have h := hs (gd e' 5) (gd e' 6) (fun i => gd e' i) w' _ hI rfl
  have h2 : cCode Try.prog (cd Try.f29 [1, 1, 0, 1, 0, 0]) (fun e2 w2 => Inv (gd e2 5) (gd e2 6) w2 ∧ μ (gd e2 5) (gd e2 6) w2 < μ (gd e' 5) (gd e' 6) w') (fun i => @Bool.rec (fun _ => KE) ((fun _ _ _ => False) i) (leatref01_Vast_P1 K) (Nat.beq i 0)) (retK Try.prog Try.f29.results.toList K) [l0, most1, l2, most3, A0, (gd e' 5), (gd e' 6), A2, A3, (gd e' 9), (gd e' 10), (gd e' 11), (gd e' 12), (gd e' 13), (gd e' 14), (gd e' 15), (gd e' 16), (gd e' 17), (gd e' 18), (gd e' 19), (gd e' 20), (gd e' 21), C7, C8, C9] w' := leatref01_Vast_L1_k (fun e2 w2 => Inv (gd e2 5) (gd e2 6) w2 ∧ μ (gd e2 5) (gd e2 6) w2 < μ (gd e' 5) (gd e' 6) w') (leatref01_Vast_P1 K) (Eq.mp (by kernel_rfl) h)
  exact Eq.mp (by kernel_rfl) h2

theorem leatref01_Vast_P1_k {K : KV} {l0 most1 l2 most3 A0 n5 i6 A2 A3 A4 A5 A6 A7 A8 A9 C0 C1 C2 C3 C4 C5 C6 C7 C8 C9 : Value} {w : World}
    (h : bin Try.prog BinOp.gtr 3 false false n5 most1 (fun C9 w =>
    K C9 w) w) :
    cCode Try.prog (cd Try.f29 [1, 1, 1]) (retK Try.prog Try.f29.results.toList K) (fun _ _ _ => False) (retK Try.prog Try.f29.results.toList K) [l0, most1, l2, most3, A0, n5, i6, A2, A3, A4, A5, A6, A7, A8, A9, C0, C1, C2, C3, C4, C5, C6, C7, C8, C9] w := Eq.mp (by kernel_rfl) h

theorem leatref01_Vast_P1_r {K : KV} {l0 most1 l2 most3 A0 n5 i6 A2 A3 A4 A5 A6 A7 A8 A9 C0 C1 C2 C3 C4 C5 C6 C7 C8 C9 : Value} {w : World}
    (h : bin Try.prog BinOp.gtr 3 false false n5 most1 (fun C9 w =>
    K C9 w) w) :
    leatref01_Vast_P1 K [l0, most1, l2, most3, A0, n5, i6, A2, A3, A4, A5, A6, A7, A8, A9, C0, C1, C2, C3, C4, C5, C6, C7, C8, C9] w := by
  delta leatref01_Vast_P1
  exact Eq.mp (congrArg (fun c => cCode Try.prog c (retK Try.prog Try.f29.results.toList K) (fun _ _ _ => False) (retK Try.prog Try.f29.results.toList K) [l0, most1, l2, most3, A0, n5, i6, A2, A3, A4, A5, A6, A7, A8, A9, C0, C1, C2, C3, C4, C5, C6, C7, C8, C9] w) (by kernel_rfl : (cd Try.f29 [1, 1, 1]) = (cd Try.f29 [1, 1, 1]))) (leatref01_Vast_P1_k h)
attribute [irreducible] leatref01_Vast_P1 leatref01_Vast_L1

end Go.Proofs.Ytjkmblbonambjaa
