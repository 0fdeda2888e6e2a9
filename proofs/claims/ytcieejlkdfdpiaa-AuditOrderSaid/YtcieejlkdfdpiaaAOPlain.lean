/- AuditOrder, plain: whatever the order in which takes and frees are said, and however often, the sums are the same. -/
import Derived.Test.YtcieejlkdfdpiaaSort2
namespace Go.Proofs.Ytcieejlkdfdpiaa
set_option maxRecDepth 100000
open Go.RowKit Go.ChangeMaps
section
variable {n : Nat} {wf : Nat → Int} {q : Nat → Ak} {N0 : List (Int × (Int × Int))}
def stp (wf : Nat → Int) (q : Nat → Ak) (S : AS) (i : Nat) : AS := sayS S (wf i) (q i) 0 0 0
structure Its (n : Nat) (q : Nat → Ak) : Prop where
  kind : ∀ i, i < n → (q i).kind = 3 ∨ (q i).kind = 4
  req : ∀ i, i < n → (q i).req = (i : Int) + 1
  am : ∀ i, i < n → (q i).kind = 3 → 1 ≤ (q i).amount ∧ (q i).amount ≤ 65536
structure GS (n : Nat) (wf : Nat → Int) (q : Nat → Ak) (N0 : List (Int × (Int × Int))) (D : Nat → Prop) (S : AS) : Prop where
  nodes : S.nodes = N0
  raises : S.raises = []
  nodup : (S.takes.map (·.1)).Nodup
  takes : ∀ x v, mget S.takes x = some v ↔ ∃ i, i < n ∧ D i ∧ (q i).kind = 3 ∧ x = (wf i, (q i).req) ∧ v = ((q i).node, (q i).amount)
  back : ∀ x, (mget S.back x).getD false = true ↔ ∃ i, i < n ∧ D i ∧ (q i).kind = 4 ∧ x = (wf i, (q i).of)
theorem GS.start : GS n wf q N0 (fun _ => False) ⟨N0, [], [], []⟩ := ⟨rfl, rfl, by simp, fun x v => by simp [mget], fun x => by simp [mget]⟩
theorem GS.mono {D E : Nat → Prop} {S : AS} (h : GS n wf q N0 D S) (hDE : ∀ i, i < n → (D i ↔ E i)) : GS n wf q N0 E S := by
  refine ⟨h.nodes, h.raises, h.nodup, fun x v => (h.takes x v).trans ?_, fun x => (h.back x).trans ?_⟩
  · constructor
    · rintro ⟨i, hi, hd, r⟩; exact ⟨i, hi, (hDE i hi).1 hd, r⟩
    · rintro ⟨i, hi, hd, r⟩; exact ⟨i, hi, (hDE i hi).2 hd, r⟩
  · constructor
    · rintro ⟨i, hi, hd, r⟩; exact ⟨i, hi, (hDE i hi).1 hd, r⟩
    · rintro ⟨i, hi, hd, r⟩; exact ⟨i, hi, (hDE i hi).2 hd, r⟩
theorem GS.step {D : Nat → Prop} {S : AS} (hq : Its n q) (h : GS n wf q N0 D S) {i : Nat} (hi : i < n) : GS n wf q N0 (fun j => D j ∨ j = i) (stp wf q S i) := by
  have hz : ¬ ((0 : Int) ≠ 0 ∧ (0 : Int) ≠ 8) := by omega
  rcases hq.kind i hi with hk | hk
  · have e : stp wf q S i = if (mget S.takes (wf i, (q i).req)).isSome ∨ (0 : Int) ≠ 0 then S else { S with takes := mput S.takes (wf i, (q i).req) ((q i).node, (q i).amount) } := by
      obtain ⟨a1, a2⟩ := hq.am i hi hk
      have hw : withinS (q i).amount = (q i).amount := by unfold withinS; rw [if_neg (by omega), if_neg (by omega)]
      unfold stp sayS
      rw [if_neg hz, if_neg (by omega), if_neg (by omega), if_pos hk, hw]
      simp
    rw [e]
    cases hg : mget S.takes (wf i, (q i).req) with
    | some v =>
      rw [if_pos (.inl (by simp))]
      obtain ⟨j, hj, hd, hjk, hx, _⟩ := (h.takes _ _).1 hg
      have hji : j = i := by
        simp only [Prod.mk.injEq] at hx
        have h1 := hq.req i hi
        have h2 := hq.req j hj
        omega
      subst hji
      exact h.mono fun k hkn => ⟨.inl, fun hh => hh.elim id fun e => e ▸ hd⟩
    | none =>
      rw [if_neg (by simp)]
      refine ⟨h.nodes, h.raises, mput_nodup h.nodup, fun x v => ?_, fun x => (h.back x).trans ?_⟩
      · show mget (mput S.takes _ _) x = some v ↔ _
        rw [mget_put]
        by_cases hx : x = (wf i, (q i).req)
        · rw [if_pos hx]
          constructor
          · intro hv
            exact ⟨i, hi, .inr rfl, hk, hx, by simpa using hv.symm⟩
          · rintro ⟨j, hj, hd, hjk, hx2, rfl⟩
            have hji : j = i := by
              rw [hx] at hx2
              simp only [Prod.mk.injEq] at hx2
              have h1 := hq.req i hi
              have h2 := hq.req j hj
              omega
            subst hji
            rfl
        · rw [if_neg hx, h.takes]
          constructor
          · rintro ⟨j, hj, hd, r⟩; exact ⟨j, hj, .inl hd, r⟩
          · rintro ⟨j, hj, hd, hjk, hx2, hv⟩
            rcases hd with hd | rfl
            · exact ⟨j, hj, hd, hjk, hx2, hv⟩
            · exact absurd hx2 hx
      · constructor
        · rintro ⟨j, hj, hd, r⟩; exact ⟨j, hj, .inl hd, r⟩
        · rintro ⟨j, hj, hd, hjk, r⟩
          rcases hd with hd | rfl
          · exact ⟨j, hj, hd, hjk, r⟩
          · omega
  · have e : stp wf q S i = { S with back := mput S.back (wf i, (q i).of) true } := by
      unfold stp sayS
      rw [if_neg hz, if_neg (by omega), if_neg (by omega), if_neg (by omega), if_pos hk]
    rw [e]
    refine ⟨h.nodes, h.raises, h.nodup, fun x v => (h.takes x v).trans ?_, fun x => ?_⟩
    · constructor
      · rintro ⟨j, hj, hd, r⟩; exact ⟨j, hj, .inl hd, r⟩
      · rintro ⟨j, hj, hd, hjk, r⟩
        rcases hd with hd | rfl
        · exact ⟨j, hj, hd, hjk, r⟩
        · omega
    · show (mget (mput S.back _ _) x).getD false = true ↔ _
      rw [mget_put]
      by_cases hx : x = (wf i, (q i).of)
      · rw [if_pos hx]
        exact ⟨fun _ => ⟨i, hi, .inr rfl, hk, hx⟩, fun _ => rfl⟩
      · rw [if_neg hx, h.back]
        constructor
        · rintro ⟨j, hj, hd, r⟩; exact ⟨j, hj, .inl hd, r⟩
        · rintro ⟨j, hj, hd, hjk, hx2⟩
          rcases hd with hd | rfl
          · exact ⟨j, hj, hd, hjk, hx2⟩
          · exact absurd hx2 hx
theorem GS.ab {D : Nat → Prop} {S : AS} (hq : Its n q) (h : GS n wf q N0 D S) (hn : n ≤ 1024) (hN : ∀ p ∈ N0, 0 ≤ p.2.2 ∧ p.2.2 ≤ 1125899906842624) : AB S := by
  refine ⟨by rw [h.nodes]; exact hN, by rw [h.raises]; simp, fun p hp => ?_, ?_⟩
  · obtain ⟨i, hi, _, hk, _, hv⟩ := (h.takes p.1 p.2).1 (mget_of_mem h.nodup hp)
    obtain ⟨a1, a2⟩ := hq.am i hi hk
    rw [hv]; dsimp only; omega
  · have := nodup_len (l' := (List.range n).map fun i => (wf i, (q i).req)) h.nodup fun x hx => by
      obtain ⟨p, hp, rfl⟩ := List.mem_map.1 hx
      obtain ⟨i, hi, _, _, he, _⟩ := (h.takes p.1 p.2).1 (mget_of_mem h.nodup hp)
      exact List.mem_map.2 ⟨i, by simpa using hi, he.symm⟩
    simp at this; omega
theorem GS.sums {D E : Nat → Prop} {S T : AS} (h : GS n wf q N0 D S) (k : GS n wf q N0 E T) (hD : ∀ i, i < n → (D i ↔ E i)) (id : Int) : sumsS S id = sumsS T id := by
  have h := h.mono hD
  have tk : ∀ x, mget S.takes x = mget T.takes x := fun x => by
    apply Option.ext
    intro v
    exact (h.takes x v).trans (k.takes x v).symm
  have bk : ∀ x, (mget S.back x).getD false = (mget T.back x).getD false := fun x => by
    have := (h.back x).trans (k.back x).symm
    cases h1 : (mget S.back x).getD false <;> cases h2 : (mget T.back x).getD false <;> simp_all
  have nd : S.nodes = T.nodes := h.nodes.trans k.nodes.symm
  have ux : ∀ x, usedX S id x = usedX T id x := fun x => by
    unfold usedX
    rw [tk x, bk x, nd]
  have pm : (S.takes.map (·.1)).Perm (T.takes.map (·.1)) := by
    refine (List.perm_ext_iff_of_nodup h.nodup k.nodup).2 fun x => ?_
    have h1 := mget_none (m := S.takes) (x := x)
    have h2 := mget_none (m := T.takes) (x := x)
    rw [tk x] at h1
    constructor
    · intro hx; exact Classical.byContradiction fun hc => (h1.1 (h2.2 hc)) hx
    · intro hx; exact Classical.byContradiction fun hc => (h2.1 (h1.2 hc)) hx
  have ul : ∀ l, usedL S id l = usedL T id l := fun l => by
    unfold usedL
    rw [show usedX S id = usedX T id from funext ux]
  unfold sumsS
  rw [nd, h.raises, k.raises, ul, usedL_perm pm]
theorem GS.bnd {D E : Nat → Prop} {S T : AS} (h : GS n wf q N0 D S) (k : GS n wf q N0 E T) (hD : ∀ i, i < n → (D i ↔ E i)) : bndS S = bndS T := by
  unfold bndS
  rw [h.nodes, k.nodes]
  congr 1
  funext p
  rw [h.sums k hD]
def oid (j : Nat) : Int := ((j : Int) + 1) * 1099511627776 + 1
def N4 (j : Nat) : List (Int × (Int × Int)) := (List.range j).map fun i => (oid i, ((if i = 0 then 0 else oid (i - 1)), 1000000))
theorem N4_get {j : Nat} (h : j < 4) : mget (N4 4) (oid j) = some ((if j = 0 then 0 else oid (j - 1)), 1000000) := by
  refine mget_of_mem (by decide) ?_
  exact List.mem_map.2 ⟨j, by simpa using h, rfl⟩
theorem N4_sums {D : Nat → Prop} {S : AS} (h : GS n wf q (N4 4) D S) {j : Nat} (hj : j < 4) : (sumsS S (oid j)).1 = 1000000 ∧ (sumsS S (oid j)).2.2 = 0 := by
  unfold sumsS
  rw [h.nodes, N4_get hj, h.raises]
  simp [mget]
theorem N4_next {j : Nat} (hj : j < 4) (w : Int) (a : Ak) (h1 : a.kind = 1) (h2 : a.node = if j = 0 then 0 else oid (j - 1)) (h3 : a.amount = 1000000) : sayS ⟨N4 j, [], [], []⟩ w a ((j : Int) + 1) 1 0 = ⟨N4 (j + 1), [], [], []⟩ := by
  have ht : treeIdS ((j : Int) + 1) 1 = oid j := by unfold treeIdS oid; rw [if_neg (by omega)]
  have hne : oid j ≠ 0 := by unfold oid; omega
  have hnone : mget (N4 j) (oid j) = none := by
    rw [mget_none]
    simp only [N4, List.map_map, List.mem_map, List.mem_range, Function.comp]
    rintro ⟨i, hi, he⟩
    unfold oid at he
    omega
  have hput : ∀ (m : List (Int × (Int × Int))) x v, mget m x = none → mput m x v = m ++ [(x, v)] := by
    intro m x v
    induction m with
    | nil => intro _; rfl
    | cons p m ih =>
      intro hm
      simp only [mget] at hm
      split at hm
      · cases hm
      · rename_i hpx
        simp only [mput, if_neg hpx, ih hm, List.cons_append]
  unfold sayS
  rw [if_neg (by omega), if_pos h1, ht, if_pos ⟨hne, hnone⟩]
  rw [hput _ _ _ hnone]
  have : withinS a.amount = 1000000 := by rw [h3]; rfl
  rw [this, h2]
  simp [N4, List.range_succ]
theorem N4_bnd : ∀ p ∈ N4 4, 0 ≤ p.2.2 ∧ p.2.2 ≤ 1125899906842624 := by
  intro p hp
  obtain ⟨i, _, rfl⟩ := List.mem_map.1 hp
  dsimp only; omega
end
end Go.Proofs.Ytcieejlkdfdpiaa
