/- slices.Sort of numbers: a row as it is sorted in place; insertion; rows of at most 12. -/
import Derived.Test.YtcieejlkdfdpiaaSSort
import Derived.Test.YtcieejlkdfdpiaaNodes
namespace Go.Proofs.Ytcieejlkdfdpiaa
set_option maxRecDepth 100000
open Go.RowKit

/-! ## Plain -/
def G (xs : List Int) (i : Nat) : Int := xs.getD i 0
def swp (xs : List Int) (i j : Nat) : List Int := (xs.set i (G xs j)).set j (G xs i)
theorem swp_perm {xs : List Int} {i j : Nat} (hi : i < xs.length) (hj : j < xs.length) : (swp xs i j).Perm xs := by
  unfold swp
  have e1 : G xs j = xs[j] := by simp [G, List.getD, hj]
  have e2 : G xs i = xs[i] := by simp [G, List.getD, hi]
  rw [e1, e2]
  exact List.set_set_perm hi hj

/-! ## In memory -/
abbrev E64 : TypeId := 33
abbrev uv (x : Int) : Value := .int .u64 x
/-- Block g holds the numbers xs, then others. -/
def SD (w : World) (g n c : Nat) (xs : List Int) : Prop := ∃ rest, blk w g E64 (xs.map uv ++ rest) ∧ xs.length = n ∧ n ≤ c ∧ n ≤ 4611686018427387904
attribute [local irreducible] bin un conv call callV blt slc fldA fld idxA idx lkp mUpd mEnt eSt rng nxt ent ext alc box bld bldS ld sto nilC mkMap mkS ifc pick rdy wts gsel sti cond retM Gives cCode cGrp cSeq cOp
section
variable {w w' : World} {K : KV} {g n c : Nat} {xs : List Int}
theorem SD.drew (h : SD w g n c xs) : SD w.drew g n c xs := h
theorem SD.len (h : SD w g n c xs) : xs.length = n := by obtain ⟨_, _, hl, _⟩ := h; exact hl
theorem size_u64 : ∀ w, (sizeOf 33).run Try.prog w = .ok 1 w := fun _ => by kernel_rfl
theorem idxS {i : Nat} {k : IntKind} {m : Nat} (hi : i < m) (h : K (.pointer (some ⟨g, 0 + i * 1, none⟩)) w) : idxA Try.prog 47 (.slice (some ⟨g, 0, none⟩) m c) (.int k (i : Nat)) K w := by
  refine idxRow (s := 1) Try.underlying47 size_u64 (by omega) (by omega) ?_
  rw [Int.toNat_natCast]; exact h
theorem ldS {i : Nat} (hd : SD w g n c xs) (hi : i < n) (h : K (uv (G xs i)) w) : ld Try.prog 33 (.pointer (some ⟨g, 0 + i * 1, none⟩)) K w := by
  obtain ⟨rest, hb, hl, _⟩ := hd
  refine ld1 (fun _ => by kernel_rfl) hb ?_ h
  rw [Nat.zero_add, Nat.mul_one, List.getElem?_append_left (by simp; omega), List.getElem?_map, List.getElem?_eq_getElem (by omega)]
  simp [G, List.getD, show i < xs.length by omega]
theorem stoS {i : Nat} {v : Int} (hd : SD w g n c xs) (hi : i < n) (h : ∀ w', SD w' g n c (xs.set i v) → Oth g w w' → K undef w') : sto Try.prog 33 (.pointer (some ⟨g, 0 + i * 1, none⟩)) (uv v) K w := by
  obtain ⟨rest, hb, hl, hc, hm⟩ := hd
  refine sto1 size_u64 hb (by simp; omega) rfl ?_
  intro w' hb' o'
  refine h w' ⟨rest, ?_, by simp [hl], hc, hm⟩ o'
  rw [Nat.zero_add, Nat.mul_one, List.set_append_left _ _ (by simp; omega), ← List.map_set] at hb'
  exact hb'
theorem less_c {x y : Int} (h : K (.bool (decide (x < y))) w) : call Try.prog 32 #[uv x, uv y] K w := by
  refine call_of cmp_Less_uint64_go (cmp_Less_uint64_in ?_)
  have nan : ∀ {z : Int} {K' : KV}, K' (.bool false) w → call Try.prog 42 #[uv z] K' w := by
    intro z K' hK
    refine call_of cmp_isNaN_uint64_go (cmp_isNaN_uint64_in ?_)
    refine bin_neq ?_
    rw [decide_eq_false (fun hh => hh rfl)]; exact hK
  refine nan ?_
  (repeat (first | refine bin_lss ?_ | refine pick_F ?_ | refine gsel_F ?_ | refine gsel_Fn ?_))
  exact h
theorem oth_trans {a b d : World} (h : Oth g a b) (k : Oth g b d) : Oth g a d := ⟨k.os.trans h.os, k.tape.trans h.tape, k.output.trans h.output, k.size.trans h.size, fun i hi => (k.other i hi).trans (h.other i hi)⟩
theorem oth_drew (h : Oth g w w') : Oth g w w'.drew := ⟨h.os, h.tape, h.output, h.size, h.other⟩
theorem oth_refl (w : World) (g : Nat) : Oth g w w := ⟨rfl, rfl, rfl, rfl, fun _ _ => rfl⟩

theorem isort_c {a b : Nat} (hd : SD w g n c xs) (hab : a ≤ b) (hb : b ≤ n) (h : ∀ w' ys, SD w' g n c ys → Oth g w w' → ys.Perm xs → K (.tuple #[]) w') :
    call Try.prog 26 #[.slice (some ⟨g, 0, none⟩) n c, .int .i64 (a : Nat), .int .i64 (b : Nat)] K w := by
  have hm : n ≤ 4611686018427387904 := by obtain ⟨_, _, _, _, hm⟩ := hd; exact hm
  refine call_of slices_insertionSortOrdered_uint64_go (slices_insertionSortOrdered_uint64_in ?_)
  (repeat (first | refine add64 (by omega) (by omega) ?_))
  refine slices_insertionSortOrdered_uint64_L1_r (Inv := fun i _ _ _ _ _ _ _ _ _ _ wr => ∃ (p : Nat) (ys : List Int), i = .int .i64 (p : Nat) ∧ a + 1 ≤ p ∧ (p ≤ b ∨ p = a + 1) ∧ SD wr g n c ys ∧ Oth g w wr ∧ ys.Perm xs)
    (μ := fun i _ _ _ _ _ _ _ _ _ _ _ => b - (intOf i).toNat) ⟨a + 1, xs, by simp, Nat.le_refl _, .inr rfl, hd, oth_refl _ _, List.Perm.refl _⟩ ?_
  rintro _ _ _ _ _ _ _ _ _ _ _ _ w1 m ⟨p, ys, rfl, hp1, hp2, hd1, o1, r1⟩ hm1
  by_cases hpb : p < b
  rotate_left
  · (repeat (first | refine bin_lss ?_ | refine cond_f (by omega) ?_))
    exact h w1 ys hd1 o1 r1
  (repeat (first | refine bin_lss ?_ | refine cond_t (by omega) ?_))
  refine slices_insertionSortOrdered_uint64_L2_r (Inv := fun j _ _ _ _ _ _ _ _ _ _ wr => ∃ (q : Nat) (zs : List Int), j = .int .i64 (q : Nat) ∧ a ≤ q ∧ q ≤ p ∧ SD wr g n c zs ∧ Oth g w wr ∧ zs.Perm xs)
    (μ := fun j _ _ _ _ _ _ _ _ _ _ _ => (intOf j).toNat) ⟨p, ys, rfl, by omega, Nat.le_refl _, hd1, o1, r1⟩ ?_
  rintro _ _ _ _ _ _ _ _ _ _ _ _ w2 m2 ⟨q, zs, rfl, hq1, hq2, hd2, o2, r2⟩ hm2
  have hdd := hd2.drew
  refine sti_of (fun K hK => bin_gtr hK) ?_
  by_cases hqa : a < q
  · have eq1 : ((q : Nat) : Int) - 1 = ((q - 1 : Nat) : Int) := by omega
    have hql : q < zs.length := by rw [hd2.len]; omega
    refine gsel_pt (by omega) ?_
    refine sti_of (fun K hK => idxS (by omega) hK) ?_
    refine sti_of (fun K hK => ldS hdd (by omega) hK) ?_
    refine sti_of (fun K hK => sub64 (by omega) (by omega) hK) ?_
    rw [eq1]
    refine sti_of (fun K hK => idxS (by omega) hK) ?_
    refine sti_of (fun K hK => ldS hdd (by omega) hK) ?_
    refine sti_of (fun K hK => less_c hK) ?_
    refine sti_of (fun K hK => pick_t (by omega) hK) ?_
    by_cases hlt : G zs q < G zs (q - 1)
    · refine cond_t hlt ?_
      refine hReg_of (fun x => SD x g n c zs) hdd.drew ?_
      refine hld_of (fun x hx K hK => sub64 (by omega) (by omega) hK) ?_
      refine hld_of (fun x hx K hK => sub64 (by omega) (by omega) hK) ?_
      rw [eq1]
      refine hld_of (fun x hx K hK => idxS (by omega) hK) ?_
      refine hld_of (fun x hx K hK => ldS hx (by omega) hK) ?_
      refine hld_of (fun x hx K hK => idxS (by omega) hK) ?_
      refine hld_of (fun x hx K hK => ldS hx (by omega) hK) ?_
      refine hld_of (fun x hx K hK => idxS (by omega) hK) ?_
      refine stoS hdd.drew (by omega) ?_
      intro w3 hd3 o3
      refine hReg_of (fun _ => True) trivial ?_
      refine hld_of (fun x hx K hK => idxS (by omega) hK) ?_
      refine stoS hd3 (by omega) ?_
      intro w4 hd4 o4
      refine sub64 (by omega) (by omega) ?_
      refine ⟨⟨q - 1, swp zs q (q - 1), by rw [eq1], by omega, by omega, hd4, oth_trans (oth_trans (oth_drew (oth_drew o2)) o3) o4, (swp_perm hql (by omega)).trans r2⟩, ?_⟩
      rw [hm2]; show (intOf (.int .i64 ((q : Int) - 1))).toNat < _; simp only [intOf]; omega
    · refine cond_f hlt ?_
      refine slices_insertionSortOrdered_uint64_P1_r ?_
      (repeat (first | refine add64 (by omega) (by omega) ?_))
      exact ⟨⟨p + 1, zs, (show Value.int .i64 ((p : Int) + 1) = _ by simp), by omega, .inl (by omega), hdd, oth_drew o2, r2⟩, by rw [hm1]; show b - (intOf (.int .i64 ((p : Int) + 1))).toNat < _; simp only [intOf]; omega⟩
  · refine gsel_pf (by omega) ?_
    refine sti_of (fun K hK => pick_f (by omega) hK) ?_
    refine cond_F ?_
    refine slices_insertionSortOrdered_uint64_P1_r ?_
    (repeat (first | refine add64 (by omega) (by omega) ?_))
    exact ⟨⟨p + 1, zs, (show Value.int .i64 ((p : Int) + 1) = _ by simp), by omega, .inl (by omega), hdd, oth_drew o2, r2⟩, by rw [hm1]; show b - (intOf (.int .i64 ((p : Int) + 1))).toNat < _; simp only [intOf]; omega⟩

theorem pdqs_c {l : Value} (hd : SD w g n c xs) (hn : n ≤ 12) (h : ∀ w' ys, SD w' g n c ys → Oth g w w' → ys.Perm xs → K (.tuple #[]) w') :
    call Try.prog 24 #[.slice (some ⟨g, 0, none⟩) n c, .int .i64 0, .int .i64 (n : Nat), l] K w := by
  refine call_of slices_pdqsortOrdered_uint64_go (slices_pdqsortOrdered_uint64_in ?_)
  refine slices_pdqsortOrdered_uint64_L1_r (Inv := fun a b _ _ _ _ _ _ _ _ _ _ _ _ _ _ _ _ _ wr => a = .int .i64 0 ∧ b = .int .i64 (n : Nat) ∧ wr = w) (μ := fun a b _ _ _ _ _ _ _ _ _ _ _ _ _ _ _ _ _ _ => 0) ⟨rfl, rfl, rfl⟩ ?_
  rintro _ _ _ _ _ _ _ _ _ _ _ _ _ _ _ _ _ _ _ _ w1 m ⟨rfl, rfl, rfl⟩ hm1
  refine sub64 (by omega) (by omega) ?_
  refine bin_leq ?_
  refine cond_t (by omega) ?_
  refine isort_c (a := 0) hd (by omega) (Nat.le_refl _) ?_
  intro w2 ys h1 h2 h3
  exact h w2 ys h1 h2 h3
theorem sort4_c (hd : SD w g 4 c xs) (h : ∀ w' ys, SD w' g 4 c ys → Oth g w w' → ys.Perm xs → K (.tuple #[]) w') :
    call Try.prog 23 #[.slice (some ⟨g, 0, none⟩) 4 c] K w := by
  refine call_of slices_Sort_uint64_uint64_go (slices_Sort_uint64_uint64_in ?_)
  refine lenS ?_
  refine conv_of (w' := w) (v := .int .u64 4) (by kernel_rfl) ?_
  have len4 : ∀ {K' : KV}, K' (.int .i64 3) w → call Try.prog 25 #[.int .u64 4] K' w := by
    intro K' hK
    refine call_of math_bits_Len_go (math_bits_Len_in ?_)
    (repeat (first | refine cond_F ?_))
    refine call_of math_bits_Len64_go (math_bits_Len64_in ?_)
    (repeat (first | refine math_bits_Len64_P1_r ?_ | refine math_bits_Len64_A1_r ?_ | refine math_bits_Len64_P2_r ?_ | refine math_bits_Len64_A2_r ?_ | refine math_bits_Len64_P3_r ?_ | refine math_bits_Len64_A3_r ?_ | refine bin_geq ?_ | refine cond_F ?_))
    refine conv_of (w' := w) (v := .int .u8 4) (by kernel_rfl) ?_
    refine idx_of (w' := w) (v := .int .u8 3) (by kernel_rfl) ?_
    refine conv_of (w' := w) (v := .int .i64 3) (by kernel_rfl) ?_
    (repeat (first | refine add64 (by omega) (by omega) ?_))
    exact hK
  refine len4 ?_
  refine pdqs_c hd (by omega) ?_
  exact h
end
end Go.Proofs.Ytcieejlkdfdpiaa
