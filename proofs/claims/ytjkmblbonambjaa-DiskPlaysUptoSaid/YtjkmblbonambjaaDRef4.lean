/- The document's disk, on: how its list of changes grows. -/
import Derived.Test.YtjkmblbonambjaaDRef3
namespace Go.Proofs.Ytjkmblbonambjaa
set_option maxRecDepth 100000
open Go.RowKit

theorem RR.snoc {w' : World} {B : Nat} {a' : Option Addr} {n c' : Nat} {l : List Chg} {ch : Chg} {cs : List Value} {css : List (List Value)} (hl : css.length = l.length) (hn : l.length = n)
    (ho : w'.ownsRow B 74 4 (.slice a' (n + 1) c') (n + 1) (css.flatten ++ cs)) (hc : ∀ (i : Nat) (ch : Chg) (cs : List Value), l[i]? = some ch → css[i]? = some cs → RC ch cs) (hch : RC ch cs) : RR w' B a' (n + 1) c' (l ++ [ch]) := by
  refine ⟨css ++ [cs], by simpa using ho, by simp [hl], by simp [hn], fun i ch2 cs2 h1 h2 => ?_⟩
  by_cases hi : i < l.length
  · rw [List.getElem?_append_left hi] at h1
    rw [List.getElem?_append_left (by omega)] at h2
    exact hc i ch2 cs2 h1 h2
  · rw [List.getElem?_append_right (by omega)] at h1
    rw [List.getElem?_append_right (by omega)] at h2
    have h0 : i - l.length = 0 := by have := (List.getElem?_eq_some_iff.1 h1).1; simpa using this
    rw [h0] at h1
    rw [hl, h0] at h2
    simp at h1 h2
    subst h1 h2
    exact hch

theorem info_rchg : (Try.prog.info? 74).map (fun i => (i.zero, i.size, i.bytes)) = some (some (.agg #[.int .i64 0, .int .i64 0, .int .i64 0, .string (bstr [])]), 4, 40) := by kernel_rfl
theorem rinfo : ∃ i, Try.prog.info? 74 = some i ∧ i.zero = some (.agg #[.int .i64 0, .int .i64 0, .int .i64 0, .string (bstr [])]) ∧ i.size = 4 ∧ i.bytes = 40 := by
  obtain ⟨i, hi, h⟩ := Option.map_eq_some_iff.1 info_rchg
  simp only [Prod.mk.injEq] at h
  exact ⟨i, hi, h.1, h.2.1, h.2.2⟩

abbrev TRC : TypeId := 74
abbrev TRS : TypeId := 38

section
attribute [local irreducible] bin un conv call callV blt slc fldA fld idxA idx lkp mUpd mEnt eSt rng nxt ent ext alc box bld bldS ld sto nilC mkMap mkS ifc pick rdy wts gsel sti cond retM Gives cCode cGrp cSeq cOp
/-- []Change{}: a row of the call's own. -/
theorem rbld0 {w : World} {K : KV} (base : Nat) (hbase : base ≤ w.heap.size) (h : ∀ a' w', w'.ownsRow base TRC 4 (.slice a' 0 0) 0 [] → Below w.heap.size w w' → K (.slice a' 0 0) w') : bldS Try.prog TRS 0 #[] K w := by
  obtain ⟨i, hi, hz, hsz, hby⟩ := rinfo
  unfold bldS
  refine okV_of (w' := w.alloc (.cells #[] TRC)) (v := .slice (some ⟨w.heap.size, 0, none⟩) 0 0) ?_ (h _ _ (World.ownsRow_made w #[] 0 hbase (Nat.zero_le _) rfl) (below_of_grown (World.grownBy_alloc _ _ none) (Nat.le_refl _) (fun k hk => by cases hk)))
  have e0 : ∀ f : Nat → Value, (Array.range 0).map f = #[] := fun f => by apply Array.ext <;> simp
  simp [Instr.buildSlice, Instr.fill, run_underlying Try.underlying38, sizeOf, typeInfo, hi, hsz, newRow, e0]

/-- append([]Change{}, l...): a copy. -/
theorem rcopy {w : World} {K : KV} {ty : TypeId} {cs : Array Bool} {base B : Nat} {av a2 : Option Addr} {m c2 : Nat} {l : List Chg} (hown : w.ownsRow base TRC 4 (.slice av 0 0) 0 []) (hr : RR w B a2 m c2 l) (hm : m ≤ 1000000000000) (hbase : base ≤ w.heap.size)
    (h : ∀ a' c' w', RR w' base a' m c' l → w.grownBy w' (Value.slice av 0 0).ownBlock → K (.slice a' m c') w') : blt Try.prog .append #[TRS, TRS] ty cs #[.slice av 0 0, .slice a2 m c2] K w := by
  obtain ⟨i, hi, hz, hsz, hby⟩ := rinfo
  obtain ⟨css, ho, c1, c3, hc⟩ := hr
  have h4 : ∀ x ∈ css, x.length = 4 := by
    intro x hx
    obtain ⟨j, hj, rfl⟩ := List.getElem_of_mem hx
    obtain ⟨k, f, n, b, e⟩ := (hc j l[j] css[j] (List.getElem?_eq_getElem (by omega)) (List.getElem?_eq_getElem hj)).shape
    rw [e]; rfl
  have h1c : ∀ u ∈ css.flatten, u.oneCell' = true := by
    intro u hu
    obtain ⟨x, hx, hu⟩ := List.mem_flatten.1 hu
    obtain ⟨j, hj, rfl⟩ := List.getElem_of_mem hx
    obtain ⟨k, f, n, b, e⟩ := (hc j l[j] css[j] (List.getElem?_eq_getElem (by omega)) (List.getElem?_eq_getElem hj)).shape
    rw [e] at hu
    simp only [List.mem_cons, List.not_mem_nil, or_false] at hu
    rcases hu with rfl | rfl | rfl | rfl <;> rfl
  rcases ho.2 with ⟨hv, hn⟩ | ⟨g, cap, cur, hv, _, hh, hnc, hmx, hs, ht⟩
  · cases hv
    have hl : l = [] := List.eq_nil_of_length_eq_zero (by omega)
    have hcs : css = [] := List.eq_nil_of_length_eq_zero (by omega)
    subst hl hcs
    refine blt_of (v := .slice av 0 0) (w' := w) ?_ (h av 0 w ⟨[], hown, rfl, rfl, fun i ch cs h => by simp at h⟩ ⟨rfl, rfl, rfl, Nat.le_refl _, fun _ _ _ => rfl⟩)
    rw [BigFrame.builtin_append]
    have ht := Try.underlying38
    cases av <;> simp [Builtin.append_, run_underlying ht, sizeOf, typeInfo, hi, Builtin.lenOf, Builtin.firstCells, storeCells]
  · cases hv
    refine app_own (s := 4) Try.underlying38 hi hz hsz hby rfl (by decide) hown (g := g) (q := 0) (zs := cur.toList) (ys := css.flatten) hh (by simpa using ho.1) (by rw [List.drop_zero]; exact ht) h1c (by omega) (by omega) hbase ?_
    intro a' c' w' ho' hg'
    rw [Nat.zero_add, List.nil_append] at *
    exact h a' c' w' ⟨css, ho', c1, c3, hc⟩ hg'

/-- append(l, c): one more. -/
theorem rmore {w : World} {K : KV} {ty : TypeId} {bs : Array Bool} {B : Nat} {av : Option Addr} {g n c : Nat} {l : List Chg} {ch : Chg} {cs : List Value} (hr : RR w B av n c l) (hb : blk w g TRC cs) (hC : RC ch cs) (hn : n ≤ 1000000000000) (hB : B ≤ w.heap.size)
    (h : ∀ a' c' w', RR w' B a' (n + 1) c' (l ++ [ch]) → w.grownBy w' (Value.slice av n c).ownBlock → K (.slice a' (n + 1) c') w') : blt Try.prog .append #[TRS, TRS] ty bs #[.slice av n c, .slice (some ⟨g, 0, none⟩) 1 1] K w := by
  obtain ⟨i, hi, hz, hsz, hby⟩ := rinfo
  obtain ⟨css, ho, c1, c3, hc⟩ := hr
  obtain ⟨k, f, m, b, e⟩ := hC.shape
  refine app_own (s := 4) Try.underlying38 hi hz hsz hby rfl (by decide) ho (g := g) (q := 0) (zs := cs) (ys := cs) hb (by rw [e]; rfl) (by rw [e]; rfl) ?_ (by omega) (by omega) hB ?_
  · intro u hu
    rw [e] at hu
    simp only [List.mem_cons, List.not_mem_nil, or_false] at hu
    rcases hu with rfl | rfl | rfl | rfl <;> rfl
  intro a' c' w' ho' hg'
  exact h a' c' w' (RR.snoc c1 c3 ho' hc hC) hg'

/-- []Change{c}. -/
theorem rbld1 {w : World} {K : KV} {cs : List Value} {ch : Chg} (hC : RC ch cs) (h : ∀ w', blk w' w.heap.size TRC cs → Below w.heap.size w w' → w'.heap.size = w.heap.size + 1 → K (.slice (some ⟨w.heap.size, 0, none⟩) 1 1) w') :
    bldS Try.prog TRS 1 #[(0, .agg cs.toArray)] K w := by
  obtain ⟨k, f, m, b, e⟩ := hC.shape
  subst e
  refine bldSG (s := 4) [.agg #[.int .i64 k, .int .i64 f, .int .i64 m, .string (bstr b)]] Try.underlying38 (by kernel_rfl) (by kernel_rfl) (by decide) rfl (by simp) (by decide) rfl (by simp [Value.cells]) ?_
  intro w' hb' b' s'
  exact h w' (by simpa [Value.cells] using hb') b' s'
end
end Go.Proofs.Ytjkmblbonambjaa
