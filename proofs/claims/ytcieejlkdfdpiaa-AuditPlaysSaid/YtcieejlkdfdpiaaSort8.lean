/- slices.Sort of numbers, on: a few insertions. -/
import Derived.Test.YtcieejlkdfdpiaaSSort3
import Derived.Test.YtcieejlkdfdpiaaSort7
namespace Go.Proofs.Ytcieejlkdfdpiaa
set_option maxRecDepth 100000
open Go.RowKit
/-- What stands ahead of a is less than what stands from a to b. -/
def Low (a b : Nat) (xs : List Int) : Prop := ∀ i k, i < a → a ≤ k → k < b → G xs i < G xs k
theorem Low.rng {a b : Nat} {xs ys : List Int} (h : Low a b xs) (r : Rng a b xs ys) (hb : b ≤ xs.length) (hn : xs.Nodup) : Low a b ys := by
  intro i k h1 h2 h3
  obtain ⟨j, j1, j2, j3⟩ := r.from hb hn k h2 h3
  rw [r.out i (.inl h1), j3]
  exact h i j h1 j1 j2
attribute [local irreducible] bin un conv call callV blt slc fldA fld idxA idx lkp mUpd mEnt eSt rng nxt ent ext alc box bld bldS ld sto nilC mkMap mkS ifc pick rdy wts gsel sti cond retM Gives cCode cGrp cSeq cOp
section
variable {w w0 w' : World} {K : KV} {g n c : Nat} {xs z : List Int}
set_option maxHeartbeats 1000000 in
theorem pis4_c {a b i s : Nat} {B1 : List Value → World → Prop} {data0 a1 b2 data3 a4 b5 t6 i7 j8 j9 j10 t11 t12 t13 t14 t15 t16 t17 t18 t19 t20 t21 t22 t23 t24 t25 t26 t27 t28 t29 t30 t31 t32 t33 t34 t35 t36 t37 t38 t39 t40 t41 t42 t43 t44 t45 t46 t47 t48 t49 t50 t51 t52 t53 t54 t55 t56 t57 t58 t59 t60 t61 t62 t63 t64 t65 t66 t67 t68 t69 t70 t71 t72 t73 t74 t75 t76 t77 t78 t79 t80 t81 t82 t83 t84 t85 t86 t87 t88 t89 t90 t91 t92 t93 t94 t95 t96 t97 t98 t99 t100 t101 t102 t103 t104 t105 t106 t107 t108 t109 t110 t111 t112 t113 t114 t115 t116 t117 t118 t119 t120 t121 t122 t123 t124 t125 t126 t127 t128 t129 t130 t131 t132 : Value} (e0 : data0 = .slice (some ⟨g, 0, none⟩) n c) (e1 : a1 = .int .i64 (a : Nat)) (e2 : b2 = .int .i64 (b : Nat)) (e7 : i7 = .int .i64 (i : Nat)) (e8 : j8 = .int .i64 (s : Nat))
    (hd : SD w g n c z) (ho : Oth g w0 w) (hr : Rng a b xs z) (hs : Srt z a i) (hai : a < i) (hib : i < b) (hb : b ≤ n) (hs5 : s < 5)
    (hB : ∀ e w' z, gd e 7 = .int .i64 (i : Nat) → gd e 8 = .int .i64 ((s : Int) + 1) → SD w' g n c z → Oth g w0 w' → Rng a b xs z → Srt z a i → B1 e w') :
    slices_partialInsertionSortOrdered_uint64_P4 K B1 ((data0 :: a1 :: b2 :: data3 :: a4 :: b5 :: t6 :: i7 :: j8 :: j9 :: j10 :: t11 :: t12 :: t13 :: t14 :: t15 :: t16 :: t17 :: t18 :: t19 :: t20 :: t21 :: t22 :: t23 :: t24 :: t25 :: t26 :: t27 :: t28 :: t29 :: t30 :: t31 :: t32 :: t33 :: t34 :: t35 :: t36 :: t37 :: t38 :: t39 :: t40 :: t41 :: t42 :: t43 :: t44 :: t45 :: t46 :: t47 :: t48 :: t49 :: t50 :: t51 :: t52 :: t53 :: t54 :: t55 :: t56 :: t57 :: t58 :: t59 :: t60 :: t61 :: t62 :: t63 :: t64 :: t65 :: t66 :: t67 :: t68 :: t69 :: t70 :: t71 :: t72 :: t73 :: t74 :: t75 :: t76 :: t77 :: t78 :: t79 :: t80 :: t81 :: t82 :: t83 :: t84 :: t85 :: t86 :: t87 :: t88 :: t89 :: t90 :: t91 :: t92 :: t93 :: t94 :: t95 :: t96 :: t97 :: t98 :: t99 :: t100 :: t101 :: t102 :: t103 :: t104 :: t105 :: t106 :: t107 :: t108 :: t109 :: t110 :: t111 :: t112 :: t113 :: t114 :: t115 :: t116 :: t117 :: t118 :: t119 :: t120 :: t121 :: t122 :: t123 :: t124 :: t125 :: t126 :: t127 :: t128 :: t129 :: t130 :: t131 :: t132 :: [])) w := by
  subst e0 e1 e2 e7 e8
  have hm : n ≤ 4611686018427387904 := by obtain ⟨_, _, _, _, hm⟩ := hd; exact hm
  refine slices_partialInsertionSortOrdered_uint64_P4_r ?_
  refine sub64 (by omega) (by omega) ?_
  refine bin_geq ?_
  by_cases h2 : (2 : Int) ≤ (b : Int) - i
  rotate_left
  · refine cond_f h2 ?_
    refine slices_partialInsertionSortOrdered_uint64_P2_r ?_
    refine add64 (by omega) (by omega) ?_
    exact hB _ _ _ rfl rfl hd ho hr hs
  refine cond_t h2 ?_
  refine add64 (by omega) (by omega) ?_
  rw [cadd1]
  refine slices_partialInsertionSortOrdered_uint64_L4_r (Inv := fun j wr => ∃ (q : Nat) (z : List Int), j = .int .i64 (q : Nat) ∧ i + 1 ≤ q ∧ q ≤ b ∧ SD wr g n c z ∧ Oth g w0 wr ∧ Rng a b xs z ∧ Srt z a i) (μ := fun j _ => b - (intOf j).toNat)
    ⟨i + 1, z, rfl, Nat.le_refl _, by omega, hd, ho, hr, hs⟩ ?_
  rintro _ _ w1 m1 ⟨q, z1, rfl, hq1, hq2, d1, o1, r1, s1⟩ hm1
  have lz := d1.len
  refine bin_lss ?_
  by_cases hqb : q < b
  rotate_left
  · refine cond_f (by omega) ?_
    refine slices_partialInsertionSortOrdered_uint64_P2_r ?_
    refine add64 (by omega) (by omega) ?_
    exact hB _ _ _ rfl rfl d1 o1 r1 s1
  refine cond_t (by omega) ?_
  refine hReg_of (fun x => SD x g n c z1) d1.drew ?_
  refine hld_of (fun x hx K hK => idxS (by omega) hK) ?_
  refine hld_of (fun x hx K hK => ldS hx (by omega) hK) ?_
  refine hld_of (fun x hx K hK => sub64 (by omega) (by omega) hK) ?_
  rw [csub1 (by omega)]
  refine hld_of (fun x hx K hK => idxS (by omega) hK) ?_
  refine hld_of (fun x hx K hK => ldS hx (by omega) hK) ?_
  refine less_c ?_
  refine hReg_of (fun _ => True) trivial ?_
  refine hld_of (fun x hx K hK => un_notD hK) ?_
  by_cases hlt : G z1 q < G z1 (q - 1)
  rotate_left
  · refine cond_t hlt ?_
    refine slices_partialInsertionSortOrdered_uint64_P2_r ?_
    refine add64 (by omega) (by omega) ?_
    exact hB _ _ _ rfl rfl d1.drew (oth_drew o1) r1 s1
  refine cond_f (by omega) ?_
  refine hReg_of (fun x => SD x g n c z1) d1.drew.drew ?_
  refine hld_of (fun x hx K hK => sub64 (by omega) (by omega) hK) ?_
  refine hld_of (fun x hx K hK => sub64 (by omega) (by omega) hK) ?_
  rw [csub1 (by omega)]
  refine swapI_c d1.drew.drew (i := q) (j := q - 1) (by omega) (by omega) ?_
  intro w4 d4 o4
  refine add64 (by omega) (by omega) ?_
  have gs := fun k => G_swp (xs := z1) (i := q) (j := q - 1) (k := k) (by omega) (by omega)
  refine ⟨⟨q + 1, _, rfl, by omega, by omega, d4, oth_trans (oth_drew (oth_drew o1)) o4, r1.trans (Rng.swp (by omega) (by omega) (by omega) (by omega)), fun k h1 h2 => ?_⟩, ?_⟩
  · rw [gs, gs, if_neg (by omega), if_neg (by omega), if_neg (by omega), if_neg (by omega)]
    exact s1 k h1 h2
  · rw [hm1, cadd1]; simp only [intOf]; omega

set_option maxHeartbeats 1000000 in
theorem pis3_c {a b i s : Nat} {B1 : List Value → World → Prop} {data0 a1 b2 data3 a4 b5 t6 i7 j8 j9 j10 t11 t12 t13 t14 t15 t16 t17 t18 t19 t20 t21 t22 t23 t24 t25 t26 t27 t28 t29 t30 t31 t32 t33 t34 t35 t36 t37 t38 t39 t40 t41 t42 t43 t44 t45 t46 t47 t48 t49 t50 t51 t52 t53 t54 t55 t56 t57 t58 t59 t60 t61 t62 t63 t64 t65 t66 t67 t68 t69 t70 t71 t72 t73 t74 t75 t76 t77 t78 t79 t80 t81 t82 t83 t84 t85 t86 t87 t88 t89 t90 t91 t92 t93 t94 t95 t96 t97 t98 t99 t100 t101 t102 t103 t104 t105 t106 t107 t108 t109 t110 t111 t112 t113 t114 t115 t116 t117 t118 t119 t120 t121 t122 t123 t124 t125 t126 t127 t128 t129 t130 t131 t132 : Value} (e0 : data0 = .slice (some ⟨g, 0, none⟩) n c) (e1 : a1 = .int .i64 (a : Nat)) (e2 : b2 = .int .i64 (b : Nat)) (e7 : i7 = .int .i64 (i : Nat)) (e8 : j8 = .int .i64 (s : Nat))
    (hd : SD w g n c z) (ho : Oth g w0 w) (hr : Rng a b xs z) (hs : Srt z a (i - 1)) (hai : a < i) (hib : i < b) (hb : b ≤ n) (hs5 : s < 5) (hlow : Low a b xs) (hn : xs.Nodup)
    (hB : ∀ e w' z, gd e 7 = .int .i64 (i : Nat) → gd e 8 = .int .i64 ((s : Int) + 1) → SD w' g n c z → Oth g w0 w' → Rng a b xs z → Srt z a i → B1 e w') :
    slices_partialInsertionSortOrdered_uint64_A2 K B1 ((data0 :: a1 :: b2 :: data3 :: a4 :: b5 :: t6 :: i7 :: j8 :: j9 :: j10 :: t11 :: t12 :: t13 :: t14 :: t15 :: t16 :: t17 :: t18 :: t19 :: t20 :: t21 :: t22 :: t23 :: t24 :: t25 :: t26 :: t27 :: t28 :: t29 :: t30 :: t31 :: t32 :: t33 :: t34 :: t35 :: t36 :: t37 :: t38 :: t39 :: t40 :: t41 :: t42 :: t43 :: t44 :: t45 :: t46 :: t47 :: t48 :: t49 :: t50 :: t51 :: t52 :: t53 :: t54 :: t55 :: t56 :: t57 :: t58 :: t59 :: t60 :: t61 :: t62 :: t63 :: t64 :: t65 :: t66 :: t67 :: t68 :: t69 :: t70 :: t71 :: t72 :: t73 :: t74 :: t75 :: t76 :: t77 :: t78 :: t79 :: t80 :: t81 :: t82 :: t83 :: t84 :: t85 :: t86 :: t87 :: t88 :: t89 :: t90 :: t91 :: t92 :: t93 :: t94 :: t95 :: t96 :: t97 :: t98 :: t99 :: t100 :: t101 :: t102 :: t103 :: t104 :: t105 :: t106 :: t107 :: t108 :: t109 :: t110 :: t111 :: t112 :: t113 :: t114 :: t115 :: t116 :: t117 :: t118 :: t119 :: t120 :: t121 :: t122 :: t123 :: t124 :: t125 :: t126 :: t127 :: t128 :: t129 :: t130 :: t131 :: t132 :: [])) w := by
  subst e0 e1 e2 e7 e8
  have hm : n ≤ 4611686018427387904 := by obtain ⟨_, _, _, _, hm⟩ := hd; exact hm
  refine slices_partialInsertionSortOrdered_uint64_A2_r ?_
  refine sub64 (by omega) (by omega) ?_
  refine bin_geq ?_
  refine slices_partialInsertionSortOrdered_uint64_A3_r ?_
  by_cases h2 : (2 : Int) ≤ (i : Int) - a
  rotate_left
  · refine cond_f h2 ?_
    exact pis4_c rfl rfl rfl rfl rfl hd ho hr (fun k h1 h3 => by omega) hai hib hb hs5 hB
  refine cond_t h2 ?_
  refine sub64 (by omega) (by omega) ?_
  rw [csub1 (by omega)]
  refine slices_partialInsertionSortOrdered_uint64_L3_r (Inv := fun j wr => ∃ (q : Nat) (z : List Int), j = .int .i64 (q : Nat) ∧ a ≤ q ∧ q ≤ i - 1 ∧ SD wr g n c z ∧ Oth g w0 wr ∧ Rng a b xs z ∧
      (∀ k, a ≤ k → k + 1 ≤ i - 1 → k + 1 ≠ q → G z k ≤ G z (k + 1)) ∧ (a < q → q < i - 1 → G z (q - 1) ≤ G z (q + 1))) (μ := fun j _ => (intOf j).toNat)
    ⟨i - 1, z, rfl, by omega, Nat.le_refl _, hd, ho, hr, fun k h1 h2 h3 => hs k h1 (by omega), fun _ h => by omega⟩ ?_
  rintro _ _ w1 m1 ⟨q, z1, rfl, hq1, hq2, d1, o1, r1, s1, x1⟩ hm1
  have lz := d1.len
  have hx := r1.len
  have low1 := hlow.rng r1 (by omega) hn
  refine bin_geq ?_
  by_cases hq0 : 0 < q
  rotate_left
  · refine cond_f (by omega) ?_
    exact pis4_c rfl rfl rfl rfl rfl d1 o1 r1 (fun k h1 h3 => s1 k h1 (by omega) (by omega)) hai hib hb hs5 hB
  refine cond_t (by omega) ?_
  refine hReg_of (fun x => SD x g n c z1) d1.drew ?_
  refine hld_of (fun x hx K hK => idxS (by omega) hK) ?_
  refine hld_of (fun x hx K hK => ldS hx (by omega) hK) ?_
  refine hld_of (fun x hx K hK => sub64 (by omega) (by omega) hK) ?_
  rw [csub1 hq0]
  refine hld_of (fun x hx K hK => idxS (by omega) hK) ?_
  refine hld_of (fun x hx K hK => ldS hx (by omega) hK) ?_
  refine less_c ?_
  refine hReg_of (fun _ => True) trivial ?_
  refine hld_of (fun x hx K hK => un_notD hK) ?_
  by_cases hlt : G z1 q < G z1 (q - 1)
  rotate_left
  · refine cond_t hlt ?_
    refine pis4_c rfl rfl rfl rfl rfl d1.drew (oth_drew o1) r1 (fun k h1 h3 => ?_) hai hib hb hs5 hB
    by_cases e : k + 1 = q
    · rw [e, show k = q - 1 by omega]; omega
    · exact s1 k h1 (by omega) e
  refine cond_f (by omega) ?_
  have hqa : a < q := by
    rcases Nat.lt_or_ge a q with h | h
    · exact h
    · have := low1 (q - 1) q (by omega) (by omega) (by omega)
      omega
  refine hReg_of (fun x => SD x g n c z1) d1.drew.drew ?_
  refine hld_of (fun x hx K hK => sub64 (by omega) (by omega) hK) ?_
  refine hld_of (fun x hx K hK => sub64 (by omega) (by omega) hK) ?_
  rw [csub1 hq0]
  refine swapI_c d1.drew.drew (i := q) (j := q - 1) (by omega) (by omega) ?_
  intro w4 d4 o4
  refine sub64 (by omega) (by omega) ?_
  rw [csub1 hq0]
  have gs := fun k => G_swp (xs := z1) (i := q) (j := q - 1) (k := k) (by omega) (by omega)
  refine ⟨⟨q - 1, _, rfl, by omega, by omega, d4, oth_trans (oth_drew (oth_drew o1)) o4, r1.trans (Rng.swp (by omega) (by omega) (by omega) (by omega)), fun k h1 h2 h3 => ?_, fun h1 h2 => ?_⟩, ?_⟩
  · rw [gs, gs]
    by_cases i1 : k = q - 1
    · subst i1
      rw [if_pos rfl, if_neg (by omega), if_pos (by omega)]; omega
    by_cases i2 : k = q
    · subst i2
      rw [if_neg i1, if_pos rfl, if_neg (by omega), if_neg (by omega)]
      exact x1 hqa (by omega)
    by_cases i3 : k + 1 = q - 1
    · omega
    rw [if_neg i1, if_neg i2, if_neg i3, if_neg (by omega)]
    exact s1 k h1 h2 (by omega)
  · rw [gs, gs]
    rw [if_neg (by omega), if_neg (by omega), if_neg (by omega), if_pos (by omega)]
    have := s1 (q - 1 - 1) (by omega) (by omega) (by omega)
    rw [show q - 1 - 1 + 1 = q - 1 by omega] at this
    exact this
  · rw [hm1]; simp only [intOf]; omega

set_option maxHeartbeats 1000000 in
theorem pis_c {a b : Nat} (hd : SD w g n c xs) (hab : a < b) (hb : b ≤ n) (hlow : Low a b xs) (hn : xs.Nodup) (h : ∀ w' ys f, SD w' g n c ys → Oth g w w' → Rng a b xs ys → (f = true → Srt ys a b) → K (.bool f) w') :
    call Try.prog 31 #[.slice (some ⟨g, 0, none⟩) n c, .int .i64 (a : Nat), .int .i64 (b : Nat)] K w := by
  have hm : n ≤ 4611686018427387904 := by obtain ⟨_, _, _, _, hm⟩ := hd; exact hm
  refine call_of slices_partialInsertionSortOrdered_uint64_go (slices_partialInsertionSortOrdered_uint64_in ?_)
  refine add64 (by omega) (by omega) ?_
  rw [cadd1]
  refine slices_partialInsertionSortOrdered_uint64_L1_r (Inv := fun i j _ _ _ _ _ _ _ _ _ _ _ wr => ∃ (p s : Nat) (z : List Int), i = .int .i64 (p : Nat) ∧ j = .int .i64 (s : Nat) ∧ a + 1 ≤ p ∧ p ≤ b ∧ SD wr g n c z ∧ Oth g w wr ∧ Rng a b xs z ∧ Srt z a p)
    (μ := fun i j _ _ _ _ _ _ _ _ _ _ _ _ => 5 - (intOf j).toNat) ⟨a + 1, 0, xs, rfl, rfl, Nat.le_refl _, by omega, hd, oth_refl _ _, Rng.refl _ _ _, fun k h1 h2 => by omega⟩ ?_
  rintro _ _ _ _ _ _ _ _ _ _ _ _ _ _ w1 m ⟨p, s, z, rfl, rfl, hp1, hp2, hd1, o1, r1, s1⟩ hm1
  have lz := hd1.len
  refine bin_lss ?_
  by_cases hs5 : s < 5
  rotate_left
  · refine cond_f (by omega) ?_
    refine slices_partialInsertionSortOrdered_uint64_P1_r ?_
    exact h _ z false hd1 o1 r1 (fun e => by cases e)
  refine cond_t (by omega) ?_
  refine slices_partialInsertionSortOrdered_uint64_A1_r ?_
  refine slices_partialInsertionSortOrdered_uint64_L2_r (Inv := fun i _ _ _ _ _ _ _ _ _ _ _ wr => ∃ (p : Nat), i = .int .i64 (p : Nat) ∧ a + 1 ≤ p ∧ p ≤ b ∧ SD wr g n c z ∧ Oth g w wr ∧ Srt z a p)
    (μ := fun i _ _ _ _ _ _ _ _ _ _ _ _ => b - (intOf i).toNat) ⟨p, rfl, hp1, hp2, hd1, o1, s1⟩ ?_
  rintro _ _ _ _ _ _ _ _ _ _ _ _ _ w2 m2 ⟨p, rfl, hp1, hp2, d2, o2, s2⟩ hm2
  refine sti_of (fun K hK => bin_lss hK) ?_
  by_cases hpb : p < b
  rotate_left
  · refine gsel_pf (by omega) ?_
    refine sti_of (fun K hK => pick_f (by omega) hK) ?_
    refine cond_F ?_
    refine slices_partialInsertionSortOrdered_uint64_P3_r ?_
    refine bin_eql ?_
    refine cond_t (by omega) ?_
    refine h _ z true d2.drew (oth_drew o2) r1 (fun _ => ?_)
    have : p = b := by omega
    rw [← this]; exact s2
  refine gsel_pt (by omega) ?_
  refine sti_of (fun K hK => idxS (by omega) hK) ?_
  refine sti_of (fun K hK => ldS d2.drew (by omega) hK) ?_
  refine sti_of (fun K hK => sub64 (by omega) (by omega) hK) ?_
  rw [csub1 (by omega)]
  refine sti_of (fun K hK => idxS (by omega) hK) ?_
  refine sti_of (fun K hK => ldS d2.drew (by omega) hK) ?_
  refine sti_of (fun K hK => less_c hK) ?_
  refine sti_of (fun K hK => un_notD hK) ?_
  refine sti_of (fun K hK => pick_t (by omega) hK) ?_
  by_cases hlt : G z p < G z (p - 1)
  rotate_left
  · refine cond_t hlt ?_
    refine add64 (by omega) (by omega) ?_
    refine ⟨⟨p + 1, rfl, by omega, by omega, d2.drew, oth_drew o2, fun k h1 h2 => ?_⟩, by rw [hm2, cadd1]; simp only [intOf]; omega⟩
    by_cases e : k + 1 = p
    · rw [e, show k = p - 1 by omega]; omega
    · exact s2 k h1 (by omega)
  refine cond_f (by omega) ?_
  refine slices_partialInsertionSortOrdered_uint64_P3_r ?_
  refine bin_eql ?_
  refine cond_f (by omega) ?_
  refine sub64 (by omega) (by omega) ?_
  refine bin_lss ?_
  by_cases h50 : (b : Int) - a < 50
  · refine cond_t h50 ?_
    exact h _ z false d2.drew (oth_drew o2) r1 (fun e => by cases e)
  refine cond_f h50 ?_
  refine hReg_of (fun x => SD x g n c z) d2.drew.drew ?_
  refine hld_of (fun x hx K hK => sub64 (by omega) (by omega) hK) ?_
  refine hld_of (fun x hx K hK => sub64 (by omega) (by omega) hK) ?_
  rw [csub1 (by omega)]
  refine swapI_c d2.drew.drew (i := p) (j := p - 1) (by omega) (by omega) ?_
  intro w4 d4 o4
  have gs := fun k => G_swp (xs := z) (i := p) (j := p - 1) (k := k) (by omega) (by omega)
  refine pis3_c (s := s) rfl rfl rfl rfl rfl d4 (oth_trans (oth_drew (oth_drew o2)) o4) (r1.trans (Rng.swp (by omega) (by omega) (by omega) (by omega))) (fun k h1 h2 => ?_) (by omega) hpb hb hs5 hlow hn ?_
  · rw [gs, gs, if_neg (by omega), if_neg (by omega), if_neg (by omega), if_neg (by omega)]
    exact s2 k h1 (by omega)
  intro e w5 z5 e7 e8 d5 o5 r5 s5
  refine ⟨⟨p, s + 1, z5, e7, by rw [e8, cadd1], by omega, by omega, d5, o5, r5, s5⟩, ?_⟩
  show 5 - (intOf (gd e 8)).toNat < _
  rw [e8, hm1, cadd1]; simp only [intOf]; omega
end
end Go.Proofs.Ytcieejlkdfdpiaa
