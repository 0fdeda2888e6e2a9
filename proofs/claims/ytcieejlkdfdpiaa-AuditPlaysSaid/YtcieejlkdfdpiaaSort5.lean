/- slices.Sort of numbers, on: partition. -/
import Derived.Test.YtcieejlkdfdpiaaSort4
namespace Go.Proofs.Ytcieejlkdfdpiaa
set_option maxRecDepth 100000
open Go.RowKit
/-- In partition: up to i less than the pivot, which stands at a; beyond j not less. -/
structure PI (zs : List Int) (a b i j : Nat) : Prop where
  hi : a + 1 ≤ i
  hj : a ≤ j ∧ j < b
  ij : i ≤ j + 1
  lo : ∀ k, a < k → k < i → G zs k < G zs a
  up : ∀ k, j < k → k < b → G zs a ≤ G zs k
structure PR (ys : List Int) (a b m : Nat) : Prop where
  hm : a ≤ m ∧ m < b
  lo : ∀ k, a ≤ k → k < m → G ys k < G ys m
  up : ∀ k, m < k → k < b → G ys m ≤ G ys k
theorem PI.done {zs : List Int} {a b i j : Nat} (h : PI zs a b i j) (hij : ¬ i ≤ j) (hb : b ≤ zs.length) : PR (swp zs j a) a b j := by
  have h1 := h.hi; have h2 := h.hj; have h3 := h.ij
  have gs := fun k => G_swp (xs := zs) (i := j) (j := a) (k := k) (by omega) (by omega)
  refine ⟨h2, fun k hk hkm => ?_, fun k hk hkb => ?_⟩
  · rw [gs, gs]
    by_cases e : k = a
    · rw [if_pos e, if_neg (by omega), if_pos rfl]
      exact h.lo j (by omega) (by omega)
    · rw [if_neg e, if_neg (by omega), if_neg (by omega), if_pos rfl]
      exact h.lo k (by omega) (by omega)
  · rw [gs, gs]
    rw [if_neg (c := k = a) (by omega), if_neg (c := k = j) (by omega)]
    by_cases e : j = a
    · rw [if_pos e, e]
      have := h.up k (by omega) hkb
      exact this
    · rw [if_neg e, if_pos rfl]
      exact h.up k hk hkb
theorem PI.swap {zs : List Int} {a b i j : Nat} (h : PI zs a b i j) (hij : i ≤ j) (hb : b ≤ zs.length) (hi : ¬ G zs i < G zs a) (hj : G zs j < G zs a) : PI (swp zs i j) a b (i + 1) (j - 1) ∧ i < j := by
  have h1 := h.hi; have h2 := h.hj; have h3 := h.ij
  have hne : i ≠ j := by rintro rfl; exact hi hj
  have gs := fun k => G_swp (xs := zs) (i := i) (j := j) (k := k) (by omega) (by omega)
  have ga : G (swp zs i j) a = G zs a := by rw [gs, if_neg (by omega), if_neg (by omega)]
  refine ⟨⟨by omega, by omega, by omega, fun k hk hki => ?_, fun k hk hkb => ?_⟩, by omega⟩
  · rw [ga, gs, if_neg (by omega)]
    by_cases e : k = i
    · rw [if_pos e]; exact hj
    · rw [if_neg e]; exact h.lo k hk (by omega)
  · rw [ga, gs]
    by_cases e : k = j
    · rw [if_pos e]; omega
    · rw [if_neg e, if_neg (by omega)]; exact h.up k (by omega) hkb
end Go.Proofs.Ytcieejlkdfdpiaa
