/- slices.Sort of numbers, on: the heap. -/
import Derived.Test.YtcieejlkdfdpiaaSort6
namespace Go.Proofs.Ytcieejlkdfdpiaa
set_option maxRecDepth 100000
open Go.RowKit
/-- c is a child of i. -/
def chi (i c : Nat) : Prop := c = 2 * i + 1 ∨ c = 2 * i + 2
/-- From lo on none less than its children, up to hi. -/
def Hp (xs : List Int) (f lo hi : Nat) : Prop := ∀ i c, lo ≤ i → chi i c → c < hi → G xs (f + c) ≤ G xs (f + i)
/-- The same, but at r. -/
structure HI (xs : List Int) (f lo hi r : Nat) : Prop where
  own : ∀ i c, lo ≤ i → i ≠ r → chi i c → c < hi → G xs (f + c) ≤ G xs (f + i)
  far : ∀ p c, lo ≤ p → chi p r → chi r c → c < hi → G xs (f + c) ≤ G xs (f + p)
theorem HI.start {xs : List Int} {f lo hi : Nat} (h : Hp xs f (lo + 1) hi) : HI xs f lo hi lo :=
  ⟨fun i c h1 h2 h3 h4 => h i c (by omega) h3 h4, fun p c h1 h2 => by unfold chi at h2; omega⟩
theorem HI.stop {xs : List Int} {f lo hi r : Nat} (h : HI xs f lo hi r) (hs : ∀ c, chi r c → c < hi → G xs (f + c) ≤ G xs (f + r)) : Hp xs f lo hi := by
  intro i c h1 h2 h3
  by_cases e : i = r
  · rw [e] at h2 ⊢; exact hs c h2 h3
  · exact h.own i c h1 e h2 h3
theorem HI.swap {xs : List Int} {f lo hi r c : Nat} (h : HI xs f lo hi r) (hlo : lo ≤ r) (hf : f + hi ≤ xs.length) (hc : chi r c) (hch : c < hi) (hlt : G xs (f + r) < G xs (f + c)) (hs : ∀ c', chi r c' → c' < hi → G xs (f + c') ≤ G xs (f + c)) :
    HI (swp xs (f + r) (f + c)) f lo hi c := by
  have gs := fun k => G_swp (xs := xs) (i := f + r) (j := f + c) (k := k) (by unfold chi at hc; omega) (by omega)
  refine ⟨fun i d h1 h2 h3 h4 => ?_, fun p d h1 h2 h3 h4 => ?_⟩
  · rw [gs, gs]
    by_cases ei : i = r
    · subst ei
      rw [if_neg (c := f + i = f + c) (by omega), if_pos rfl]
      by_cases ed : d = c
      · rw [if_pos (by omega)]; omega
      · rw [if_neg (by omega), if_neg (by unfold chi at h3; omega)]
        exact hs d h3 h4
    · rw [if_neg (c := f + i = f + c) (by omega), if_neg (c := f + i = f + r) (by omega), if_neg (by unfold chi at h3 hc; omega)]
      by_cases ed : d = r
      · rw [if_pos (by omega)]
        subst ed
        exact h.far i c h1 h3 hc hch
      · rw [if_neg (by omega)]
        exact h.own i d h1 ei h3 h4
  · have ep : p = r := by unfold chi at h2 hc; omega
    subst ep
    rw [gs, gs]
    rw [if_neg (c := f + p = f + c) (by unfold chi at hc; omega), if_pos rfl, if_neg (by unfold chi at h3; omega), if_neg (by unfold chi at h3 hc; omega)]
    exact h.own c d (by unfold chi at hc; omega) (by unfold chi at hc; omega) h3 h4
/-- The first of a heap is the greatest. -/
theorem Hp.top {xs : List Int} {f hi : Nat} (h : Hp xs f 0 hi) : ∀ k, k < hi → G xs (f + k) ≤ G xs f := by
  intro k
  induction k using Nat.strongRecOn with
  | _ k ih =>
    intro hk
    by_cases e : k = 0
    · rw [e, Nat.add_zero]; exact Int.le_refl _
    · have h1 := h ((k - 1) / 2) k (by omega) (by unfold chi; omega) hk
      have h2 := ih ((k - 1) / 2) (by omega) (by omega)
      omega
attribute [local irreducible] bin un conv call callV blt slc fldA fld idxA idx lkp mUpd mEnt eSt rng nxt ent ext alc box bld bldS ld sto nilC mkMap mkS ifc pick rdy wts gsel sti cond retM Gives cCode cGrp cSeq cOp
section
variable {w w' : World} {K : KV} {g n c : Nat} {xs : List Int}
/-- The body of a swap's region: data[i], data[j] = data[j], data[i]. -/
theorem swapI_c {i j : Nat} {K2 : Value → Value → Value → Value → Value → Value → World → Prop} (hd : SD w g n c xs) (hi : i < n) (hj : j < n)
    (h : ∀ w', SD w' g n c (swp xs i j) → Oth g w w' → K2 (.pointer (some ⟨g, 0 + j * 1, none⟩)) (uv (G xs j)) (.pointer (some ⟨g, 0 + i * 1, none⟩)) (uv (G xs i)) (.pointer (some ⟨g, 0 + i * 1, none⟩)) (.pointer (some ⟨g, 0 + j * 1, none⟩)) w') :
      hld (fun x => SD x g n c xs) (fun k w => idxA Try.prog 47 (.slice (some ⟨g, 0, none⟩) n c) (.int .i64 (j : Nat)) k w) (fun t20 =>
      hld (fun x => SD x g n c xs) (fun k w => ld Try.prog 33 t20 k w) (fun t21 =>
      hld (fun x => SD x g n c xs) (fun k w => idxA Try.prog 47 (.slice (some ⟨g, 0, none⟩) n c) (.int .i64 (i : Nat)) k w) (fun t24 =>
      hld (fun x => SD x g n c xs) (fun k w => ld Try.prog 33 t24 k w) (fun t25 =>
      hld (fun x => SD x g n c xs) (fun k w => idxA Try.prog 47 (.slice (some ⟨g, 0, none⟩) n c) (.int .i64 (i : Nat)) k w) (fun t26 =>
      sto Try.prog 33 t26 t21 (fun _t w =>
      hReg (fun S w =>
      hld S (fun k w => idxA Try.prog 47 (.slice (some ⟨g, 0, none⟩) n c) (.int .i64 (j : Nat)) k w) (fun t27 =>
      sto Try.prog 33 t27 t25 (fun _t w => K2 t20 t21 t24 t25 t26 t27 w) w)) w) w))))) := by
  refine hld_of (fun x hx K hK => idxS hj hK) ?_
  refine hld_of (fun x hx K hK => ldS hx hj hK) ?_
  refine hld_of (fun x hx K hK => idxS hi hK) ?_
  refine hld_of (fun x hx K hK => ldS hx hi hK) ?_
  refine hld_of (fun x hx K hK => idxS hi hK) ?_
  refine stoS hd hi ?_
  intro w3 hd3 o3
  refine hReg_of (fun _ => True) trivial ?_
  refine hld_of (fun x hx K hK => idxS hj hK) ?_
  refine stoS hd3 hj ?_
  intro w4 hd4 o4
  exact h w4 hd4 (oth_trans o3 o4)
theorem cadd (a b : Nat) : (a : Int) + (b : Int) = ((a + b : Nat) : Int) := rfl
theorem cadd1 (a : Nat) : (a : Int) + 1 = ((a + 1 : Nat) : Int) := rfl
theorem cmul2 (a : Nat) : (2 : Int) * (a : Int) = ((2 * a : Nat) : Int) := by omega
theorem csub1 {a : Nat} (h : 0 < a) : (a : Int) - 1 = ((a - 1 : Nat) : Int) := by omega
theorem csub {a b : Nat} (h : b ≤ a) : (a : Int) - (b : Int) = ((a - b : Nat) : Int) := by omega

set_option maxHeartbeats 1000000 in
theorem siftP_c {f lo hi r ch : Nat} {B1 : List Value → World → Prop} {data0 lo1 hi2 first3 data4 lo5 hi6 first7 root8 child9 t10 t11 t12 t13 t14 t15 t16 t17 t18 t19 t20 t21 t22 t23 t24 t25 t26 t27 t28 t29 t30 t31 t32 t33 t34 t35 t36 t37 t38 t39 t40 t41 t42 t43 t44 t45 t46 t47 t48 t49 t50 t51 t52 t53 t54 t55 t56 t57 t58 t59 t60 t61 t62 t63 t64 t65 t66 t67 t68 t69 t70 t71 t72 t73 t74 t75 : Value} (e0 : data0 = .slice (some ⟨g, 0, none⟩) n c) (e3 : first3 = .int .i64 (f : Nat)) (e8 : root8 = .int .i64 (r : Nat)) (e9 : child9 = .int .i64 (ch : Nat))
    (hd : SD w g n c xs) (hb : f + hi ≤ n) (hr : r < hi) (hc : chi r ch) (hch : ch < hi) (hs : ∀ c', chi r c' → c' < hi → G xs (f + c') ≤ G xs (f + ch))
    (hK : ∀ w', ¬ G xs (f + r) < G xs (f + ch) → SD w' g n c xs → Oth g w w' → K (.tuple #[]) w')
    (hB : ∀ e w', gd e 8 = .int .i64 (ch : Nat) → G xs (f + r) < G xs (f + ch) → SD w' g n c (swp xs (f + r) (f + ch)) → Oth g w w' → B1 e w') :
    slices_siftDownOrdered_uint64_P1 K B1 ((data0 :: lo1 :: hi2 :: first3 :: data4 :: lo5 :: hi6 :: first7 :: root8 :: child9 :: t10 :: t11 :: t12 :: t13 :: t14 :: t15 :: t16 :: t17 :: t18 :: t19 :: t20 :: t21 :: t22 :: t23 :: t24 :: t25 :: t26 :: t27 :: t28 :: t29 :: t30 :: t31 :: t32 :: t33 :: t34 :: t35 :: t36 :: t37 :: t38 :: t39 :: t40 :: t41 :: t42 :: t43 :: t44 :: t45 :: t46 :: t47 :: t48 :: t49 :: t50 :: t51 :: t52 :: t53 :: t54 :: t55 :: t56 :: t57 :: t58 :: t59 :: t60 :: t61 :: t62 :: t63 :: t64 :: t65 :: t66 :: t67 :: t68 :: t69 :: t70 :: t71 :: t72 :: t73 :: t74 :: t75 :: [])) w := by
  subst e0 e3 e8 e9
  have hm : n ≤ 4611686018427387904 := by obtain ⟨_, _, _, _, hm⟩ := hd; exact hm
  refine slices_siftDownOrdered_uint64_P1_r ?_
  refine hReg_of (fun x => SD x g n c xs) hd.drew ?_
  refine hld_of (fun x hx K hK => add64 (by omega) (by omega) hK) ?_
  rw [cadd]
  refine hld_of (fun x hx K hK => idxS (by omega) hK) ?_
  refine hld_of (fun x hx K hK => ldS hx (by omega) hK) ?_
  refine hld_of (fun x hx K hK => add64 (by omega) (by omega) hK) ?_
  rw [cadd]
  refine hld_of (fun x hx K hK => idxS (by omega) hK) ?_
  refine hld_of (fun x hx K hK => ldS hx (by omega) hK) ?_
  refine less_c ?_
  refine hReg_of (fun _ => True) trivial ?_
  refine hld_of (fun x hx K hK => un_notD hK) ?_
  by_cases hlt : G xs (f + r) < G xs (f + ch)
  rotate_left
  · refine cond_t hlt ?_
    exact hK _ hlt hd.drew (oth_drew (oth_refl _ _))
  refine cond_f (by omega) ?_
  refine hReg_of (fun x => SD x g n c xs) hd.drew.drew ?_
  refine hld_of (fun x hx K hK => add64 (by omega) (by omega) hK) ?_
  refine hld_of (fun x hx K hK => add64 (by omega) (by omega) hK) ?_
  refine hld_of (fun x hx K hK => add64 (by omega) (by omega) hK) ?_
  rw [cadd, cadd]
  refine hld_of (fun x hx K hK => idxS (by omega) hK) ?_
  refine hld_of (fun x hx K hK => ldS hx (by omega) hK) ?_
  refine hld_of (fun x hx K hK => add64 (by omega) (by omega) hK) ?_
  rw [cadd]
  refine hld_of (fun x hx K hK => idxS (by omega) hK) ?_
  refine hld_of (fun x hx K hK => ldS hx (by omega) hK) ?_
  refine hld_of (fun x hx K hK => idxS (by omega) hK) ?_
  refine stoS hd.drew.drew (by omega) ?_
  intro w3 hd3 o3
  refine hReg_of (fun _ => True) trivial ?_
  refine hld_of (fun x hx K hK => idxS (by omega) hK) ?_
  refine stoS hd3 (by omega) ?_
  intro w4 hd4 o4
  exact hB _ _ rfl hlt hd4 (oth_trans (oth_trans (oth_drew (oth_drew (oth_refl _ _))) o3) o4)

set_option maxHeartbeats 1000000 in
theorem sift_c {f lo hi : Nat} (hd : SD w g n c xs) (hb : f + hi ≤ n) (hlo : lo < hi ∨ lo = 0) (hp : Hp xs f (lo + 1) hi) (h : ∀ w' ys, SD w' g n c ys → Oth g w w' → Rng f (f + hi) xs ys → Hp ys f lo hi → K (.tuple #[]) w') :
    call Try.prog 37 #[.slice (some ⟨g, 0, none⟩) n c, .int .i64 (lo : Nat), .int .i64 (hi : Nat), .int .i64 (f : Nat)] K w := by
  have hm : n ≤ 4611686018427387904 := by obtain ⟨_, _, _, _, hm⟩ := hd; exact hm
  refine call_of slices_siftDownOrdered_uint64_go (slices_siftDownOrdered_uint64_in ?_)
  refine slices_siftDownOrdered_uint64_L1_r (Inv := fun r _ _ _ _ _ _ _ _ _ _ _ _ _ _ wr => ∃ (p : Nat) (z : List Int), r = .int .i64 (p : Nat) ∧ lo ≤ p ∧ (p < hi ∨ p = 0) ∧ SD wr g n c z ∧ Oth g w wr ∧ Rng f (f + hi) xs z ∧ HI z f lo hi p)
    (μ := fun r _ _ _ _ _ _ _ _ _ _ _ _ _ _ _ => hi - (intOf r).toNat) ⟨lo, xs, rfl, Nat.le_refl _, hlo, hd, oth_refl _ _, Rng.refl _ _ _, HI.start hp⟩ ?_
  rintro _ _ _ _ _ _ _ _ _ _ _ _ _ _ _ _ w1 m ⟨r, z, rfl, hp1, hp2, hd1, o1, r1, s1⟩ hm1
  have lz := hd1.len
  refine mul64 (by omega) (by omega) ?_
  rw [cmul2]
  refine add64 (by omega) (by omega) ?_
  rw [cadd1]
  refine bin_geq ?_
  by_cases hge : hi ≤ 2 * r + 1
  · refine cond_t (by omega) ?_
    exact h _ z hd1 o1 r1 (s1.stop fun c hc hlt => by unfold chi at hc; omega)
  refine cond_f (by omega) ?_
  refine sti_of (fun K hK => add64 (by omega) (by omega) hK) ?_
  rw [cadd1]
  refine sti_of (fun K hK => bin_lss hK) ?_
  have fin : ∀ w', ∀ ch, chi r ch → ch < hi → (∀ c', chi r c' → c' < hi → G z (f + c') ≤ G z (f + ch)) → ¬ G z (f + r) < G z (f + ch) → SD w' g n c z → Oth g w w' → K (.tuple #[]) w' := by
    intro w' ch h1 h2 h3 h4 h5 h6
    exact h _ z h5 h6 r1 (s1.stop fun c hc hlt => by have := h3 c hc hlt; omega)
  by_cases h2 : 2 * r + 1 + 1 < hi
  · refine gsel_pt (by omega) ?_
    refine sti_of (fun K hK => add64 (by omega) (by omega) hK) ?_
    rw [cadd]
    refine sti_of (fun K hK => idxS (by omega) hK) ?_
    refine sti_of (fun K hK => ldS hd1.drew (by omega) hK) ?_
    refine sti_of (fun K hK => add64 (by omega) (by omega) hK) ?_
    rw [cadd]
    refine sti_of (fun K hK => add64 (by omega) (by omega) hK) ?_
    rw [cadd1]
    refine sti_of (fun K hK => idxS (by omega) hK) ?_
    refine sti_of (fun K hK => ldS hd1.drew (by omega) hK) ?_
    refine sti_of (fun K hK => less_c hK) ?_
    refine sti_of (fun K hK => pick_t (by omega) hK) ?_
    refine slices_siftDownOrdered_uint64_A1_r ?_
    by_cases hlt : G z (f + (2 * r + 1)) < G z (f + (2 * r + 1) + 1)
    · refine cond_t hlt ?_
      refine add64 (by omega) (by omega) ?_
      have hs : ∀ c', chi r c' → c' < hi → G z (f + c') ≤ G z (f + (2 * r + 1 + 1)) := by
        intro c' hc hlt'
        rcases hc with rfl | rfl
        · rw [← Nat.add_assoc f (2 * r + 1)]; omega
        · exact Int.le_refl _
      refine siftP_c (f := f) (lo := lo) (hi := hi) (r := r) (ch := 2 * r + 1 + 1) rfl rfl rfl rfl hd1.drew hb (by omega) (.inr rfl) h2 hs (fun w' a b d => fin w' _ (.inr rfl) h2 hs a b (oth_trans (oth_drew o1) d)) ?_
      intro e w' e8 hlt2 hd2 o2
      refine ⟨⟨2 * r + 1 + 1, _, e8, by omega, .inl h2, hd2, oth_trans (oth_drew o1) o2, r1.trans (Rng.swp (by omega) (by omega) (by omega) (by omega)), s1.swap hp1 (by omega) (.inr rfl) h2 hlt2 hs⟩, ?_⟩
      show hi - (intOf (gd e 8)).toNat < _
      rw [e8, hm1]; simp only [intOf]; omega
    · refine cond_f hlt ?_
      have hs : ∀ c', chi r c' → c' < hi → G z (f + c') ≤ G z (f + (2 * r + 1)) := by
        intro c' hc hlt'
        rcases hc with rfl | rfl
        · exact Int.le_refl _
        · rw [Nat.add_assoc f (2 * r + 1)] at hlt
          have : f + (2 * r + 2) = f + (2 * r + 1 + 1) := rfl
          rw [this]; omega
      refine siftP_c (f := f) (lo := lo) (hi := hi) (r := r) (ch := 2 * r + 1) rfl rfl rfl rfl hd1.drew hb (by omega) (.inl rfl) (by omega) hs (fun w' a b d => fin w' _ (.inl rfl) (by omega) hs a b (oth_trans (oth_drew o1) d)) ?_
      intro e w' e8 hlt2 hd2 o2
      refine ⟨⟨2 * r + 1, _, e8, by omega, .inl (by omega), hd2, oth_trans (oth_drew o1) o2, r1.trans (Rng.swp (by omega) (by omega) (by omega) (by omega)), s1.swap hp1 (by omega) (.inl rfl) (by omega) hlt2 hs⟩, ?_⟩
      show hi - (intOf (gd e 8)).toNat < _
      rw [e8, hm1]; simp only [intOf]; omega
  · refine gsel_pf (by omega) ?_
    refine sti_of (fun K hK => pick_f (by omega) hK) ?_
    refine slices_siftDownOrdered_uint64_A1_r ?_
    refine cond_F ?_
    have hs : ∀ c', chi r c' → c' < hi → G z (f + c') ≤ G z (f + (2 * r + 1)) := by
      intro c' hc hlt'
      rcases hc with rfl | rfl
      · exact Int.le_refl _
      · omega
    refine siftP_c (f := f) (lo := lo) (hi := hi) (r := r) (ch := 2 * r + 1) rfl rfl rfl rfl hd1.drew hb (by omega) (.inl rfl) (by omega) hs (fun w' a b d => fin w' _ (.inl rfl) (by omega) hs a b (oth_trans (oth_drew o1) d)) ?_
    intro e w' e8 hlt2 hd2 o2
    refine ⟨⟨2 * r + 1, _, e8, by omega, .inl (by omega), hd2, oth_trans (oth_drew o1) o2, r1.trans (Rng.swp (by omega) (by omega) (by omega) (by omega)), s1.swap hp1 (by omega) (.inl rfl) (by omega) hlt2 hs⟩, ?_⟩
    show hi - (intOf (gd e 8)).toNat < _
    rw [e8, hm1]; simp only [intOf]; omega

/-- Up to i a heap, behind it sorted, and none of these less. -/
structure HS (z : List Int) (a b i : Nat) : Prop where
  heap : Hp z a 0 i
  srt : Srt z (a + i) b
  sep : ∀ k m, k < i → a + i ≤ m → m < b → G z (a + k) ≤ G z m
set_option maxHeartbeats 1000000 in
theorem heap_c {a b : Nat} (hd : SD w g n c xs) (hab : a < b) (hb : b ≤ n) (hn : xs.Nodup) (h : ∀ w' ys, SD w' g n c ys → Oth g w w' → Rng a b xs ys → Srt ys a b → K (.tuple #[]) w') :
    call Try.prog 27 #[.slice (some ⟨g, 0, none⟩) n c, .int .i64 (a : Nat), .int .i64 (b : Nat)] K w := by
  have hm : n ≤ 4611686018427387904 := by obtain ⟨_, _, _, _, hm⟩ := hd; exact hm
  refine call_of slices_heapSortOrdered_uint64_go (slices_heapSortOrdered_uint64_in ?_)
  refine sub64 (by omega) (by omega) ?_
  rw [csub (by omega)]
  refine sub64 (by omega) (by omega) ?_
  rw [csub1 (by omega)]
  refine quo64 (by omega) (by omega) (by omega) ?_
  refine slices_heapSortOrdered_uint64_L1_r (Inv := fun i wr => ∃ (p : Nat) (z : List Int), i = .int .i64 ((p : Int) - 1) ∧ (p ≤ b - a) ∧ SD wr g n c z ∧ Oth g w wr ∧ Rng a b xs z ∧ Hp z a p (b - a))
    (μ := fun i _ => (intOf i + 1).toNat) ⟨(b - a - 1) / 2 + 1, xs, by congr 1; omega, by omega, hd, oth_refl _ _, Rng.refl _ _ _, fun i c h1 h2 h3 => by unfold chi at h2; omega⟩ ?_
  rintro _ _ w1 m ⟨p, z, rfl, hp1, hd1, o1, r1, s1⟩ hm1
  have lz := hd1.len
  refine bin_geq ?_
  by_cases hp0 : 0 < p
  · refine cond_t (by omega) ?_
    rw [csub1 hp0]
    refine sift_c hd1 (f := a) (lo := p - 1) (hi := b - a) (by omega) (by omega) (by rw [show p - 1 + 1 = p by omega]; exact s1) ?_
    intro w2 y hd2 o2 r2 s2
    rw [show a + (b - a) = b by omega] at r2
    refine sub64 (by omega) (by omega) ?_
    refine ⟨⟨p - 1, y, rfl, by omega, hd2, oth_trans o1 o2, r1.trans r2, s2⟩, ?_⟩
    rw [hm1]; simp only [intOf]; omega
  refine cond_f (by omega) ?_
  refine slices_heapSortOrdered_uint64_P1_r ?_
  have ep : p = 0 := by omega
  subst ep
  refine sub64 (by omega) (by omega) ?_
  refine slices_heapSortOrdered_uint64_L2_r (Inv := fun i wr => ∃ (p : Nat) (z : List Int), i = .int .i64 ((p : Int) - 1) ∧ (p ≤ b - a) ∧ SD wr g n c z ∧ Oth g w wr ∧ Rng a b xs z ∧ HS z a b p)
    (μ := fun i _ => (intOf i + 1).toNat) ⟨b - a, z, rfl, Nat.le_refl _, hd1, o1, r1, s1, fun i h1 h2 => by omega, fun k m h1 h2 h3 => by omega⟩ ?_
  rintro _ _ w3 m3 ⟨p, z3, rfl, hp3, hd3, o3, r3, s3⟩ hm3
  have lz3 := hd3.len
  refine bin_geq ?_
  by_cases hp0 : 0 < p
  rotate_left
  · refine cond_f (by omega) ?_
    have ep : p = 0 := by omega
    subst ep
    exact h _ z3 hd3 o3 r3 s3.srt
  refine cond_t (by omega) ?_
  rw [csub1 hp0]
  refine hReg_of (fun x => SD x g n c z3) hd3.drew ?_
  refine hld_of (fun x hx K hK => add64 (by omega) (by omega) hK) ?_
  refine hld_of (fun x hx K hK => add64 (by omega) (by omega) hK) ?_
  rw [cadd]
  refine swapI_c hd3.drew (i := a) (j := a + (p - 1)) (by omega) (by omega) ?_
  intro w4 hd4 o4
  have gs := fun k => G_swp (xs := z3) (i := a) (j := a + (p - 1)) (k := k) (by omega) (by omega)
  refine sift_c hd4 (f := a) (lo := 0) (hi := p - 1) (by omega) (.inr rfl) ?_ ?_
  · intro i c h1 h2 h3
    rw [gs, gs, if_neg (by omega), if_neg (by unfold chi at h2; omega), if_neg (by unfold chi at h2; omega), if_neg (by omega)]
    exact s3.heap i c (by omega) h2 (by omega)
  intro w5 y hd5 o5 r5 s5
  refine sub64 (by omega) (by omega) ?_
  have hnz : z3.Nodup := r3.perm.nodup_iff.2 hn
  have r4 : Rng a (a + p) z3 (swp z3 a (a + (p - 1))) := Rng.swp (by omega) (by omega) (by omega) (by omega)
  have r34 := r4.trans (r5.mono (c := a) (d := a + p) (by omega) (by omega))
  have top : ∀ k, k < p - 1 → G y (a + k) ≤ G z3 a := by
    intro k hk
    obtain ⟨j, hj1, hj2, hj3⟩ := r34.from (by omega) hnz (a + k) (by omega) (by omega)
    rw [hj3]
    have := s3.heap.top (j - a) (by omega)
    rw [show a + (j - a) = j by omega] at this
    exact this
  have high : ∀ m, a + p ≤ m → G y m = G z3 m := fun m h1 => r34.out m (by omega)
  have at_p : G y (a + (p - 1)) = G z3 a := by rw [r5.out _ (by omega), gs, if_pos rfl]
  refine ⟨⟨p - 1, y, rfl, by omega, hd5, oth_trans (oth_trans (oth_drew o3) o4) o5, r3.trans (r34.mono (by omega) (by omega)), ⟨s5, fun i h1 h2 => ?_, fun k m h1 h2 h3 => ?_⟩⟩, ?_⟩
  · by_cases e : i = a + (p - 1)
    · rw [e, at_p, high _ (by omega)]
      have := s3.sep 0 (a + (p - 1) + 1) (by omega) (by omega) (by omega)
      exact this
    · rw [high _ (by omega), high _ (by omega)]
      exact s3.srt i (by omega) h2
  · by_cases e : m = a + (p - 1)
    · rw [e, at_p]; exact top k h1
    · rw [high m (by omega)]
      have h5 := top k h1
      have h6 := s3.sep 0 m (by omega) (by omega) h3
      rw [Nat.add_zero] at h6
      omega
  · rw [hm3, csub1 hp0]; simp only [intOf]; omega
end
end Go.Proofs.Ytcieejlkdfdpiaa
