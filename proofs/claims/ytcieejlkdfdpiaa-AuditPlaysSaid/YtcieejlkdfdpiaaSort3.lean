/- slices.Sort of numbers, on: insertion, with order. -/
import Derived.Test.YtcieejlkdfdpiaaSort2
namespace Go.Proofs.Ytcieejlkdfdpiaa
set_option maxRecDepth 100000
open Go.RowKit
theorem G_set {xs : List Int} {i k : Nat} {v : Int} (hi : i < xs.length) : G (xs.set i v) k = if k = i then v else G xs k := by
  unfold G
  by_cases h : k = i
  · subst h; simp [List.getD, hi]
  · have : ¬ i = k := fun e => h e.symm
    simp [List.getD, h, this]
theorem G_swp {xs : List Int} {i j k : Nat} (hi : i < xs.length) (hj : j < xs.length) : G (swp xs i j) k = if k = j then G xs i else if k = i then G xs j else G xs k := by
  unfold swp
  rw [G_set (by simpa using hj), G_set hi]
/-- Sorted from a up to b. -/
def Srt (xs : List Int) (a b : Nat) : Prop := ∀ i, a ≤ i → i + 1 < b → G xs i ≤ G xs (i + 1)
/-- The same numbers; outside of a .. b as they stood. -/
structure Rng (a b : Nat) (xs ys : List Int) : Prop where
  perm : ys.Perm xs
  out : ∀ k, k < a ∨ b ≤ k → G ys k = G xs k
theorem Rng.refl (a b : Nat) (xs : List Int) : Rng a b xs xs := ⟨List.Perm.refl _, fun _ _ => rfl⟩
theorem Rng.trans {a b : Nat} {xs ys zs : List Int} (h : Rng a b xs ys) (k : Rng a b ys zs) : Rng a b xs zs := ⟨k.perm.trans h.perm, fun i hi => (k.out i hi).trans (h.out i hi)⟩
theorem Rng.len {a b : Nat} {xs ys : List Int} (h : Rng a b xs ys) : ys.length = xs.length := h.perm.length_eq
theorem Rng.mono {a b c d : Nat} {xs ys : List Int} (h : Rng a b xs ys) (h1 : c ≤ a) (h2 : b ≤ d) : Rng c d xs ys := ⟨h.perm, fun k hk => h.out k (by omega)⟩
theorem Rng.swp {a b i j : Nat} {xs : List Int} (hi : i < xs.length) (hj : j < xs.length) (ha : a ≤ i ∧ i < b) (hb : a ≤ j ∧ j < b) : Rng a b xs (swp xs i j) :=
  ⟨swp_perm hi hj, fun k hk => by rw [G_swp hi hj, if_neg (by omega), if_neg (by omega)]⟩
/-- Each number from a up to b of the new list is one of those of the old. -/
theorem Rng.from {a b : Nat} {xs ys : List Int} (h : Rng a b xs ys) (hb : b ≤ xs.length) (hn : xs.Nodup) : ∀ k, a ≤ k → k < b → ∃ j, a ≤ j ∧ j < b ∧ G ys k = G xs j := by
  intro k hk hkb
  have hl := h.len
  have e : G ys k = ys[k]'(by omega) := by simp [G, List.getD, show k < ys.length by omega]
  have hm : G ys k ∈ xs := by rw [e]; exact h.perm.subset (List.getElem_mem _)
  obtain ⟨j, hj, hje⟩ := List.getElem_of_mem hm
  have ej : G xs j = xs[j] := by simp [G, List.getD, hj]
  by_cases hr : a ≤ j ∧ j < b
  · exact ⟨j, hr.1, hr.2, by rw [ej, hje]⟩
  · have ho := h.out j (by omega)
    have ejy : G ys j = ys[j]'(by omega) := by simp [G, List.getD, show j < ys.length by omega]
    have hyn : ys.Nodup := h.perm.nodup_iff.2 hn
    have he : ys[j]'(by omega) = ys[k]'(by omega) := by rw [← ejy, ← e, ho, ej, hje]
    have hp := List.pairwise_iff_getElem.1 hyn
    rcases Nat.lt_trichotomy j k with h1 | h1 | h1
    · exact absurd he (hp j k _ _ h1)
    · omega
    · exact absurd he.symm (hp k j _ _ h1)
attribute [local irreducible] bin un conv call callV blt slc fldA fld idxA idx lkp mUpd mEnt eSt rng nxt ent ext alc box bld bldS ld sto nilC mkMap mkS ifc pick rdy wts gsel sti cond retM Gives cCode cGrp cSeq cOp
section
variable {w w' : World} {K : KV} {g n c : Nat} {xs : List Int}
theorem isortS_c {a b : Nat} (hd : SD w g n c xs) (hab : a ≤ b) (hb : b ≤ n) (h : ∀ w' ys, SD w' g n c ys → Oth g w w' → Rng a b xs ys → Srt ys a b → K (.tuple #[]) w') :
    call Try.prog 26 #[.slice (some ⟨g, 0, none⟩) n c, .int .i64 (a : Nat), .int .i64 (b : Nat)] K w := by
  have hm : n ≤ 4611686018427387904 := by obtain ⟨_, _, _, _, hm⟩ := hd; exact hm
  refine call_of slices_insertionSortOrdered_uint64_go (slices_insertionSortOrdered_uint64_in ?_)
  (repeat (first | refine add64 (by omega) (by omega) ?_))
  refine slices_insertionSortOrdered_uint64_L1_r (Inv := fun i _ _ _ _ _ _ _ _ _ _ wr => ∃ (p : Nat) (ys : List Int), i = .int .i64 (p : Nat) ∧ a + 1 ≤ p ∧ (p ≤ b ∨ p = a + 1) ∧ SD wr g n c ys ∧ Oth g w wr ∧ Rng a b xs ys ∧ Srt ys a p)
    (μ := fun i _ _ _ _ _ _ _ _ _ _ _ => b - (intOf i).toNat) ⟨a + 1, xs, by simp, Nat.le_refl _, .inr rfl, hd, oth_refl _ _, Rng.refl _ _ _, fun i h1 h2 => by omega⟩ ?_
  rintro _ _ _ _ _ _ _ _ _ _ _ _ w1 m ⟨p, ys, rfl, hp1, hp2, hd1, o1, r1, s1⟩ hm1
  by_cases hpb : p < b
  rotate_left
  · (repeat (first | refine bin_lss ?_ | refine cond_f (by omega) ?_))
    exact h w1 ys hd1 o1 r1 (fun i h1 h2 => s1 i h1 (by omega))
  (repeat (first | refine bin_lss ?_ | refine cond_t (by omega) ?_))
  refine slices_insertionSortOrdered_uint64_L2_r (Inv := fun j _ _ _ _ _ _ _ _ _ _ wr => ∃ (q : Nat) (zs : List Int), j = .int .i64 (q : Nat) ∧ a ≤ q ∧ q ≤ p ∧ SD wr g n c zs ∧ Oth g w wr ∧ Rng a b xs zs ∧
      (∀ i, a ≤ i → i + 1 ≤ p → i + 1 ≠ q → G zs i ≤ G zs (i + 1)) ∧ (a < q → q < p → G zs (q - 1) ≤ G zs (q + 1)))
    (μ := fun j _ _ _ _ _ _ _ _ _ _ _ => (intOf j).toNat) ⟨p, ys, rfl, by omega, Nat.le_refl _, hd1, o1, r1, fun i h1 h2 h3 => s1 i h1 (by omega), fun _ h => by omega⟩ ?_
  rintro _ _ _ _ _ _ _ _ _ _ _ _ w2 m2 ⟨q, zs, rfl, hq1, hq2, hd2, o2, r2, hs2, hx2⟩ hm2
  have hdd := hd2.drew
  refine sti_of (fun K hK => bin_gtr hK) ?_
  by_cases hqa : a < q
  · have eq1 : ((q : Nat) : Int) - 1 = ((q - 1 : Nat) : Int) := by omega
    have hql : q < zs.length := by rw [hd2.len]; omega
    refine gsel_pt (by omega) ?_
    refine sti_of (fun K hK => idxS (by omega) hK) ?_
    refine sti_of (fun K hK => ldS hdd (by omega) hK) ?_
    refine sti_of (fun K hK => sub64 (by omega) (by omega) hK) ?_
    rw [eq1]
    refine sti_of (fun K hK => idxS (by omega) hK) ?_
    refine sti_of (fun K hK => ldS hdd (by omega) hK) ?_
    refine sti_of (fun K hK => less_c hK) ?_
    refine sti_of (fun K hK => pick_t (by omega) hK) ?_
    by_cases hlt : G zs q < G zs (q - 1)
    · refine cond_t hlt ?_
      refine hReg_of (fun x => SD x g n c zs) hdd.drew ?_
      refine hld_of (fun x hx K hK => sub64 (by omega) (by omega) hK) ?_
      refine hld_of (fun x hx K hK => sub64 (by omega) (by omega) hK) ?_
      rw [eq1]
      refine hld_of (fun x hx K hK => idxS (by omega) hK) ?_
      refine hld_of (fun x hx K hK => ldS hx (by omega) hK) ?_
      refine hld_of (fun x hx K hK => idxS (by omega) hK) ?_
      refine hld_of (fun x hx K hK => ldS hx (by omega) hK) ?_
      refine hld_of (fun x hx K hK => idxS (by omega) hK) ?_
      refine stoS hdd.drew (by omega) ?_
      intro w3 hd3 o3
      refine hReg_of (fun _ => True) trivial ?_
      refine hld_of (fun x hx K hK => idxS (by omega) hK) ?_
      refine stoS hd3 (by omega) ?_
      intro w4 hd4 o4
      refine sub64 (by omega) (by omega) ?_
      have hql1 : q - 1 < zs.length := by omega
      have gs := fun k => G_swp (k := k) hql hql1
      refine ⟨⟨q - 1, swp zs q (q - 1), by rw [eq1], by omega, by omega, hd4, oth_trans (oth_trans (oth_drew (oth_drew o2)) o3) o4, r2.trans (Rng.swp hql hql1 (by omega) (by omega)), fun i h1 h2 h3 => ?_, fun h1 h2 => ?_⟩, ?_⟩
      · rw [gs, gs]
        by_cases i1 : i = q - 1
        · subst i1
          rw [if_pos rfl, if_neg (by omega), if_pos (by omega)]; omega
        by_cases i2 : i = q
        · subst i2
          rw [if_neg i1, if_pos rfl, if_neg (by omega), if_neg (by omega)]
          exact hx2 hqa (by omega)
        by_cases i3 : i + 1 = q - 1
        · omega
        rw [if_neg i1, if_neg i2, if_neg i3, if_neg (by omega)]
        exact hs2 i h1 h2 (by omega)
      · rw [gs, gs]
        rw [if_neg (by omega), if_neg (by omega), if_neg (by omega), if_pos (by omega)]
        have := hs2 (q - 1 - 1) (by omega) (by omega) (by omega)
        rw [show q - 1 - 1 + 1 = q - 1 by omega] at this
        exact this
      · rw [hm2]; show (intOf (.int .i64 ((q : Int) - 1))).toNat < _; simp only [intOf]; omega
    · refine cond_f hlt ?_
      refine slices_insertionSortOrdered_uint64_P1_r ?_
      (repeat (first | refine add64 (by omega) (by omega) ?_))
      refine ⟨⟨p + 1, zs, (show Value.int .i64 ((p : Int) + 1) = _ by simp), by omega, .inl (by omega), hdd, oth_drew o2, r2, fun i h1 h2 => ?_⟩, by rw [hm1]; show b - (intOf (.int .i64 ((p : Int) + 1))).toNat < _; simp only [intOf]; omega⟩
      by_cases hi : i + 1 = q
      · have : i = q - 1 := by omega
        rw [hi, this]; omega
      · exact hs2 i h1 (by omega) hi
  · refine gsel_pf (by omega) ?_
    refine sti_of (fun K hK => pick_f (by omega) hK) ?_
    refine cond_F ?_
    refine slices_insertionSortOrdered_uint64_P1_r ?_
    (repeat (first | refine add64 (by omega) (by omega) ?_))
    exact ⟨⟨p + 1, zs, (show Value.int .i64 ((p : Int) + 1) = _ by simp), by omega, .inl (by omega), hdd, oth_drew o2, r2, fun i h1 h2 => hs2 i h1 (by omega) (by omega)⟩, by rw [hm1]; show b - (intOf (.int .i64 ((p : Int) + 1))).toNat < _; simp only [intOf]; omega⟩
end
end Go.Proofs.Ytcieejlkdfdpiaa
