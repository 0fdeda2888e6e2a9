/- More rules: make with a length, max and min. Nothing of the program is named here. -/
import Derived.Test.YtjkmblbonambjaaMem
namespace Go.Proofs.Ytjkmblbonambjaa
set_option maxRecDepth 100000
open Go.RowKit
section
variable {P : Program} {K : KV} {w : World} {t : TypeId}

theorem max2i {ats : Array TypeId} {ty : TypeId} {cs : Array Bool} {k k' : IntKind} {x y : Int} (h : K (.int k (if x < y then y else x)) w) : blt P .max ats ty cs #[.int k x, .int k' y] K w :=
  blt_of (v := .int k (if x < y then y else x)) (w' := w) (by rw [BigFrame.builtin_max]; simp [Builtin.max_, Builtin.max2, Sem.run_pure]) h
theorem min2i {ats : Array TypeId} {ty : TypeId} {cs : Array Bool} {k k' : IntKind} {x y : Int} (h : K (.int k (if y < x then y else x)) w) : blt P .min ats ty cs #[.int k x, .int k' y] K w :=
  blt_of (v := .int k (if y < x then y else x)) (w' := w) (by rw [BigFrame.builtin_min]; simp [Builtin.min_, Builtin.min2, Sem.run_pure]) h

/-- make([]T, n), elements of one cell. -/
theorem mkSN {e : TypeId} {i : TypeInfo} {z : Value} {bytes : Nat} (ht : P.underlying t = some (.slice e)) (hi : P.info? e = some i) (hz : i.zero = some z) (hsize : i.size = 1) (hby : i.bytes = bytes) (hzs : z.cells = #[z])
    {kl kc : IntKind} {L C : Int} {n : Nat} (hL : L = (n : Int)) (hC : C = (n : Int)) (b2 : bytes * n ≤ 281474976710656) (b3 : n ≤ 9223372036854775807)
    (h : ∀ w', blk w' w.heap.size e (List.replicate n z) → Below w.heap.size w w' → w'.heap.size = w.heap.size + 1 → K (.slice (some ⟨w.heap.size, 0, none⟩) n n) w') : mkS P t (.int kl L) (.int kc C) K w := by
  subst hC
  subst hL
  have hrun := run_make (P := P) w t e i z ht hi hz kl kc n n (by omega) (by omega) (by rw [hby]; omega) (by omega)
  rw [hsize, hzs] at hrun
  have hm : madeCells #[z] (((n : Int)).toNat * 1) = (List.replicate n z).toArray := by
    have := toList_madeCells_one z n
    rw [← this]; simp
  rw [hm] at hrun
  unfold mkS
  exact okV_of hrun (h _ (heap_alloc_new w _) (below_of_grown (World.grownBy_alloc _ _ none) (Nat.le_refl _) (fun k hk => by cases hk)) (by simp))
end
section
variable {P : Program} {t : TypeId} {w : World} {K : KV} {cx cy : Bool}

theorem idx_cell {e : TypeId} (ht : P.underlying t = some (.slice e)) (hs : ∀ w, (sizeOf e).run P w = .ok 1 w) {av : Option Addr} {n c : Nat} {iv : Int} {k : IntKind} {vs : List Value} {v : Value} (hr : RV w av n c vs)
    (h0 : 0 ≤ iv) (hv : vs[iv.toNat]? = some v) (h : w.cell? (slotA av iv.toNat) = some v → K (.pointer (some (slotA av iv.toNat))) w) : idxA P t (.slice av n c) (.int k iv) K w := by
  have hl := (List.getElem?_eq_some_iff.1 hv).1
  exact idx_slc ht hs h0 (by rw [← hr.len]; omega) hr.some_ (h (hr.cell _ _ hv))

theorem bin_neqBF {p q : Prop} [Decidable p] [Decidable q] (hg : P.underlying t = some .bool) (hpq : p ↔ q) (h : K (.bool false) w) : bin P .neq t cx cy (.bool (decide p)) (.bool (decide q)) K w := by
  refine bin_neqB ?_ hg
  have : decide p = decide q := decide_eq_decide.2 hpq
  rw [this]; simpa using h
theorem bin_neqBS {x y : Bool} (hg : P.underlying t = some .bool) (hxy : x = y) (h : K (.bool false) w) : bin P .neq t cx cy (.bool x) (.bool y) K w := by
  refine bin_neqB ?_ hg
  rw [hxy]; simpa using h
end
end Go.Proofs.Ytjkmblbonambjaa
