/- slices.Sort of numbers, on: partition, the walk. -/
import Derived.Test.YtcieejlkdfdpiaaSort5
namespace Go.Proofs.Ytcieejlkdfdpiaa
set_option maxRecDepth 100000
open Go.RowKit
attribute [local irreducible] bin un conv call callV blt slc fldA fld idxA idx lkp mUpd mEnt eSt rng nxt ent ext alc box bld bldS ld sto nilC mkMap mkS ifc pick rdy wts gsel sti cond retM Gives cCode cGrp cSeq cOp
section
variable {w w' : World} {K : KV} {g n c : Nat} {xs : List Int}
/-- The region of data[i], data[j] = data[j], data[i]. -/
theorem swap_c {i j : Nat} {K2 : Value → Value → Value → Value → Value → Value → World → Prop} (hd : SD w g n c xs) (hi : i < n) (hj : j < n)
    (h : ∀ w', SD w' g n c (swp xs i j) → Oth g w w' → K2 (.pointer (some ⟨g, 0 + j * 1, none⟩)) (uv (G xs j)) (.pointer (some ⟨g, 0 + i * 1, none⟩)) (uv (G xs i)) (.pointer (some ⟨g, 0 + i * 1, none⟩)) (.pointer (some ⟨g, 0 + j * 1, none⟩)) w') :
    hReg (fun S w =>
      hld S (fun k w => idxA Try.prog 47 (.slice (some ⟨g, 0, none⟩) n c) (.int .i64 (j : Nat)) k w) (fun t20 =>
      hld S (fun k w => ld Try.prog 33 t20 k w) (fun t21 =>
      hld S (fun k w => idxA Try.prog 47 (.slice (some ⟨g, 0, none⟩) n c) (.int .i64 (i : Nat)) k w) (fun t24 =>
      hld S (fun k w => ld Try.prog 33 t24 k w) (fun t25 =>
      hld S (fun k w => idxA Try.prog 47 (.slice (some ⟨g, 0, none⟩) n c) (.int .i64 (i : Nat)) k w) (fun t26 =>
      sto Try.prog 33 t26 t21 (fun _t w =>
      hReg (fun S w =>
      hld S (fun k w => idxA Try.prog 47 (.slice (some ⟨g, 0, none⟩) n c) (.int .i64 (j : Nat)) k w) (fun t27 =>
      sto Try.prog 33 t27 t25 (fun _t w => K2 t20 t21 t24 t25 t26 t27 w) w)) w) w)))))) w.drew := by
  refine hReg_of (fun x => SD x g n c xs) hd.drew ?_
  refine hld_of (fun x hx K hK => idxS hj hK) ?_
  refine hld_of (fun x hx K hK => ldS hx hj hK) ?_
  refine hld_of (fun x hx K hK => idxS hi hK) ?_
  refine hld_of (fun x hx K hK => ldS hx hi hK) ?_
  refine hld_of (fun x hx K hK => idxS hi hK) ?_
  refine stoS hd.drew hi ?_
  intro w3 hd3 o3
  refine hReg_of (fun _ => True) trivial ?_
  refine hld_of (fun x hx K hK => idxS hj hK) ?_
  refine stoS hd3 hj ?_
  intro w4 hd4 o4
  exact h w4 hd4 (oth_trans (oth_trans (oth_drew (oth_refl _ _)) o3) o4)

set_option maxHeartbeats 1000000 in
/-- The body of partition's outer loop. -/
theorem part3_c {a b i j : Nat} {B1 : List Value → World → Prop} {data0 a1 b2 pivot3 data4 a5 b6 pivot7 newpivot8 alreadyPartitioned9 i10 j11 t12 t13 t14 t15 t16 t17 t18 t19 t20 t21 t22 t23 t24 t25 t26 t27 t28 t29 t30 t31 t32 t33 t34 t35 t36 t37 t38 t39 t40 t41 t42 t43 t44 t45 t46 t47 t48 t49 t50 t51 t52 t53 t54 t55 t56 t57 t58 t59 t60 t61 t62 t63 t64 t65 t66 t67 t68 t69 t70 t71 t72 t73 t74 t75 t76 t77 t78 t79 t80 t81 t82 t83 t84 t85 t86 t87 t88 t89 t90 t91 t92 t93 t94 t95 t96 t97 t98 t99 t100 t101 t102 t103 t104 t105 t106 t107 t108 t109 t110 t111 t112 t113 t114 t115 t116 t117 t118 t119 t120 t121 t122 t123 t124 t125 t126 t127 t128 t129 t130 t131 t132 t133 t134 t135 t136 t137 t138 t139 t140 t141 t142 t143 t144 t145 t146 t147 t148 t149 t150 t151 t152 t153 t154 t155 t156 t157 t158 t159 t160 t161 t162 t163 t164 t165 t166 t167 : Value} (e0 : data0 = .slice (some ⟨g, 0, none⟩) n c) (e1 : a1 = .int .i64 (a : Nat)) (e10 : i10 = .int .i64 (i : Nat)) (e11 : j11 = .int .i64 (j : Nat))
    (hd : SD w g n c xs) (hb : b ≤ n) (q : PI xs a b i j)
    (hB : ∀ e w' (i' j' : Nat), gd e 10 = .int .i64 ((i' : Int) + 1) → gd e 11 = .int .i64 ((j' : Int) - 1) → i ≤ i' → j' ≤ j → i' < j' → SD w' g n c (swp xs i' j') → Oth g w w' → PI (swp xs i' j') a b (i' + 1) (j' - 1) → B1 e w')
    (fin : ∀ {j : Nat} {wz : World} {f : Bool}, SD wz g n c (swp xs j a) → Oth g w wz → PI xs a b (j + 1) j → K (.tuple #[.int .i64 (j : Nat), .bool f]) wz) :
    slices_partitionOrdered_uint64_L4 K B1 ((data0 :: a1 :: b2 :: pivot3 :: data4 :: a5 :: b6 :: pivot7 :: newpivot8 :: alreadyPartitioned9 :: i10 :: j11 :: t12 :: t13 :: t14 :: t15 :: t16 :: t17 :: t18 :: t19 :: t20 :: t21 :: t22 :: t23 :: t24 :: t25 :: t26 :: t27 :: t28 :: t29 :: t30 :: t31 :: t32 :: t33 :: t34 :: t35 :: t36 :: t37 :: t38 :: t39 :: t40 :: t41 :: t42 :: t43 :: t44 :: t45 :: t46 :: t47 :: t48 :: t49 :: t50 :: t51 :: t52 :: t53 :: t54 :: t55 :: t56 :: t57 :: t58 :: t59 :: t60 :: t61 :: t62 :: t63 :: t64 :: t65 :: t66 :: t67 :: t68 :: t69 :: t70 :: t71 :: t72 :: t73 :: t74 :: t75 :: t76 :: t77 :: t78 :: t79 :: t80 :: t81 :: t82 :: t83 :: t84 :: t85 :: t86 :: t87 :: t88 :: t89 :: t90 :: t91 :: t92 :: t93 :: t94 :: t95 :: t96 :: t97 :: t98 :: t99 :: t100 :: t101 :: t102 :: t103 :: t104 :: t105 :: t106 :: t107 :: t108 :: t109 :: t110 :: t111 :: t112 :: t113 :: t114 :: t115 :: t116 :: t117 :: t118 :: t119 :: t120 :: t121 :: t122 :: t123 :: t124 :: t125 :: t126 :: t127 :: t128 :: t129 :: t130 :: t131 :: t132 :: t133 :: t134 :: t135 :: t136 :: t137 :: t138 :: t139 :: t140 :: t141 :: t142 :: t143 :: t144 :: t145 :: t146 :: t147 :: t148 :: t149 :: t150 :: t151 :: t152 :: t153 :: t154 :: t155 :: t156 :: t157 :: t158 :: t159 :: t160 :: t161 :: t162 :: t163 :: t164 :: t165 :: t166 :: t167 :: [])) w := by
  subst e0 e1 e10 e11
  have hm : n ≤ 4611686018427387904 := by obtain ⟨_, _, _, _, hm⟩ := hd; exact hm
  have lz := hd.len
  refine slices_partitionOrdered_uint64_L4_r (Inv := fun i' _ _ _ _ _ _ _ _ _ wr => ∃ q : Nat, i' = .int .i64 (q : Nat) ∧ i ≤ q ∧ PI xs a b q j ∧ SD wr g n c xs ∧ Oth g w wr) (μ := fun i _ _ _ _ _ _ _ _ _ _ => b - (intOf i).toNat) ⟨i, rfl, Nat.le_refl _, q, hd, oth_refl _ _⟩ ?_
  rintro _ _ _ _ _ _ _ _ _ _ _ w2 m2 ⟨i, rfl, hii, q2, d2, o2⟩ hm2
  have hi2 := q2.hi
  have hj2 := q2.hj
  have hij2 := q2.ij
  have step1 : ∀ {w3 : World}, SD w3 g n c xs → Oth g w w3 → (¬ i ≤ j ∨ ¬ G xs i < G xs a) → ∀ {data0 a1 b2 pivot3 data4 a5 b6 pivot7 newpivot8 alreadyPartitioned9 i10 j11 t12 t13 t14 t15 t16 t17 t18 t19 t20 t21 t22 t23 t24 t25 t26 t27 t28 t29 t30 t31 t32 t33 t34 t35 t36 t37 t38 t39 t40 t41 t42 t43 t44 t45 t46 t47 t48 t49 t50 t51 t52 t53 t54 t55 t56 t57 t58 t59 t60 t61 t62 t63 t64 t65 t66 t67 t68 t69 t70 t71 t72 t73 t74 t75 t76 t77 t78 t79 t80 t81 t82 t83 t84 t85 t86 t87 t88 t89 t90 t91 t92 t93 t94 t95 t96 t97 t98 t99 t100 t101 t102 t103 t104 t105 t106 t107 t108 t109 t110 t111 t112 t113 t114 t115 t116 t117 t118 t119 t120 t121 t122 t123 t124 t125 t126 t127 t128 t129 t130 t131 t132 t133 t134 t135 t136 t137 t138 t139 t140 t141 t142 t143 t144 t145 t146 t147 t148 t149 t150 t151 t152 t153 t154 t155 t156 t157 t158 t159 t160 t161 t162 t163 t164 t165 t166 t167 : Value}, data0 = .slice (some ⟨g, 0, none⟩) n c → a1 = .int .i64 (a : Nat) → i10 = .int .i64 (i : Nat) → j11 = .int .i64 (j : Nat) → slices_partitionOrdered_uint64_P4 K B1 ((data0 :: a1 :: b2 :: pivot3 :: data4 :: a5 :: b6 :: pivot7 :: newpivot8 :: alreadyPartitioned9 :: i10 :: j11 :: t12 :: t13 :: t14 :: t15 :: t16 :: t17 :: t18 :: t19 :: t20 :: t21 :: t22 :: t23 :: t24 :: t25 :: t26 :: t27 :: t28 :: t29 :: t30 :: t31 :: t32 :: t33 :: t34 :: t35 :: t36 :: t37 :: t38 :: t39 :: t40 :: t41 :: t42 :: t43 :: t44 :: t45 :: t46 :: t47 :: t48 :: t49 :: t50 :: t51 :: t52 :: t53 :: t54 :: t55 :: t56 :: t57 :: t58 :: t59 :: t60 :: t61 :: t62 :: t63 :: t64 :: t65 :: t66 :: t67 :: t68 :: t69 :: t70 :: t71 :: t72 :: t73 :: t74 :: t75 :: t76 :: t77 :: t78 :: t79 :: t80 :: t81 :: t82 :: t83 :: t84 :: t85 :: t86 :: t87 :: t88 :: t89 :: t90 :: t91 :: t92 :: t93 :: t94 :: t95 :: t96 :: t97 :: t98 :: t99 :: t100 :: t101 :: t102 :: t103 :: t104 :: t105 :: t106 :: t107 :: t108 :: t109 :: t110 :: t111 :: t112 :: t113 :: t114 :: t115 :: t116 :: t117 :: t118 :: t119 :: t120 :: t121 :: t122 :: t123 :: t124 :: t125 :: t126 :: t127 :: t128 :: t129 :: t130 :: t131 :: t132 :: t133 :: t134 :: t135 :: t136 :: t137 :: t138 :: t139 :: t140 :: t141 :: t142 :: t143 :: t144 :: t145 :: t146 :: t147 :: t148 :: t149 :: t150 :: t151 :: t152 :: t153 :: t154 :: t155 :: t156 :: t157 :: t158 :: t159 :: t160 :: t161 :: t162 :: t163 :: t164 :: t165 :: t166 :: t167 :: [])) w3 := by
    intro w3 d3 o3 hst
    intros
    rename_i e1 e2 e3 e4
    subst e1 e2 e3 e4
    refine slices_partitionOrdered_uint64_P4_r ?_
    refine slices_partitionOrdered_uint64_L5_r (Inv := fun j' _ _ _ _ _ _ _ _ _ _ wr => ∃ q : Nat, j' = .int .i64 (q : Nat) ∧ q ≤ j ∧ PI xs a b i q ∧ SD wr g n c xs ∧ Oth g w wr) (μ := fun j _ _ _ _ _ _ _ _ _ _ _ => (intOf j).toNat) ⟨j, rfl, Nat.le_refl _, q2, d3, o3⟩ ?_
    rintro _ _ _ _ _ _ _ _ _ _ _ _ w4 m4 ⟨j, rfl, hjb, q4, d4, o4⟩ hm4
    have hi4 := q4.hi
    have hj4 := q4.hj
    have hij4 := q4.ij
    have step2 : ∀ {w5 : World}, SD w5 g n c xs → Oth g w w5 → (¬ i ≤ j ∨ G xs j < G xs a) → ∀ {data0 a1 b2 pivot3 data4 a5 b6 pivot7 newpivot8 alreadyPartitioned9 i10 j11 t12 t13 t14 t15 t16 t17 t18 t19 t20 t21 t22 t23 t24 t25 t26 t27 t28 t29 t30 t31 t32 t33 t34 t35 t36 t37 t38 t39 t40 t41 t42 t43 t44 t45 t46 t47 t48 t49 t50 t51 t52 t53 t54 t55 t56 t57 t58 t59 t60 t61 t62 t63 t64 t65 t66 t67 t68 t69 t70 t71 t72 t73 t74 t75 t76 t77 t78 t79 t80 t81 t82 t83 t84 t85 t86 t87 t88 t89 t90 t91 t92 t93 t94 t95 t96 t97 t98 t99 t100 t101 t102 t103 t104 t105 t106 t107 t108 t109 t110 t111 t112 t113 t114 t115 t116 t117 t118 t119 t120 t121 t122 t123 t124 t125 t126 t127 t128 t129 t130 t131 t132 t133 t134 t135 t136 t137 t138 t139 t140 t141 t142 t143 t144 t145 t146 t147 t148 t149 t150 t151 t152 t153 t154 t155 t156 t157 t158 t159 t160 t161 t162 t163 t164 t165 t166 t167 : Value}, data0 = .slice (some ⟨g, 0, none⟩) n c → a1 = .int .i64 (a : Nat) → i10 = .int .i64 (i : Nat) → j11 = .int .i64 (j : Nat) → slices_partitionOrdered_uint64_P5 K B1 ((data0 :: a1 :: b2 :: pivot3 :: data4 :: a5 :: b6 :: pivot7 :: newpivot8 :: alreadyPartitioned9 :: i10 :: j11 :: t12 :: t13 :: t14 :: t15 :: t16 :: t17 :: t18 :: t19 :: t20 :: t21 :: t22 :: t23 :: t24 :: t25 :: t26 :: t27 :: t28 :: t29 :: t30 :: t31 :: t32 :: t33 :: t34 :: t35 :: t36 :: t37 :: t38 :: t39 :: t40 :: t41 :: t42 :: t43 :: t44 :: t45 :: t46 :: t47 :: t48 :: t49 :: t50 :: t51 :: t52 :: t53 :: t54 :: t55 :: t56 :: t57 :: t58 :: t59 :: t60 :: t61 :: t62 :: t63 :: t64 :: t65 :: t66 :: t67 :: t68 :: t69 :: t70 :: t71 :: t72 :: t73 :: t74 :: t75 :: t76 :: t77 :: t78 :: t79 :: t80 :: t81 :: t82 :: t83 :: t84 :: t85 :: t86 :: t87 :: t88 :: t89 :: t90 :: t91 :: t92 :: t93 :: t94 :: t95 :: t96 :: t97 :: t98 :: t99 :: t100 :: t101 :: t102 :: t103 :: t104 :: t105 :: t106 :: t107 :: t108 :: t109 :: t110 :: t111 :: t112 :: t113 :: t114 :: t115 :: t116 :: t117 :: t118 :: t119 :: t120 :: t121 :: t122 :: t123 :: t124 :: t125 :: t126 :: t127 :: t128 :: t129 :: t130 :: t131 :: t132 :: t133 :: t134 :: t135 :: t136 :: t137 :: t138 :: t139 :: t140 :: t141 :: t142 :: t143 :: t144 :: t145 :: t146 :: t147 :: t148 :: t149 :: t150 :: t151 :: t152 :: t153 :: t154 :: t155 :: t156 :: t157 :: t158 :: t159 :: t160 :: t161 :: t162 :: t163 :: t164 :: t165 :: t166 :: t167 :: [])) w5 := by
      intro w5 d5 o5 hst2
      intros
      rename_i e1 e2 e3 e4
      subst e1 e2 e3 e4
      refine slices_partitionOrdered_uint64_P5_r ?_
      refine bin_gtr ?_
      by_cases hgt : j < i
      · refine cond_t (by omega) ?_
        refine slices_partitionOrdered_uint64_P3_r ?_
        refine swap_c (i := j) (j := a) d5 (by omega) (by omega) ?_
        intro w6 d6 o6
        have : i = j + 1 := by omega
        subst this
        exact fin d6 (oth_trans o5 o6) q4
      · refine cond_f (by omega) ?_
        refine swap_c (i := i) (j := j) d5 (by omega) (by omega) ?_
        intro w6 d6 o6
        obtain ⟨q6, hlt6⟩ := q4.swap (by omega) (by omega) (hst.resolve_left (by omega)) (hst2.resolve_left (by omega))
        refine add64 (by omega) (by omega) ?_
        refine sub64 (by omega) (by omega) ?_
        exact hB _ _ i j rfl rfl hii hjb hlt6 d6 (oth_trans o5 o6) q6
    refine sti_of (fun K hK => bin_leq hK) ?_
    by_cases c4 : i ≤ j
    · refine gsel_pt (by omega) ?_
      refine sti_of (fun K hK => idxS (by omega) hK) ?_
      refine sti_of (fun K hK => ldS d4.drew (by omega) hK) ?_
      refine sti_of (fun K hK => idxS (by omega) hK) ?_
      refine sti_of (fun K hK => ldS d4.drew (by omega) hK) ?_
      refine sti_of (fun K hK => less_c hK) ?_
      refine sti_of (fun K hK => un_notD hK) ?_
      refine sti_of (fun K hK => pick_t (by omega) hK) ?_
      by_cases hlt : G xs j < G xs a
      · refine cond_f (by omega) ?_
        exact step2 d4.drew (oth_drew o4) (.inr hlt) rfl rfl rfl rfl
      · refine cond_t (by omega) ?_
        refine sub64 (by omega) (by omega) ?_
        refine ⟨⟨j - 1, by show Value.int .i64 _ = Value.int .i64 _; congr 1; omega, by omega, ⟨q4.hi, by omega, by omega, q4.lo, fun k h1 h2 => ?_⟩, d4.drew, oth_drew o4⟩, by rw [hm4]; show (intOf (.int .i64 ((j : Int) - 1))).toNat < _; simp only [intOf]; omega⟩
        by_cases e : k = j
        · rw [e]; omega
        · exact q4.up k (by omega) h2
    · refine gsel_pf (by omega) ?_
      refine sti_of (fun K hK => pick_f (by omega) hK) ?_
      refine cond_F ?_
      exact step2 d4.drew (oth_drew o4) (.inl c4) rfl rfl rfl rfl
  refine sti_of (fun K hK => bin_leq hK) ?_
  by_cases c2 : i ≤ j
  · refine gsel_pt (by omega) ?_
    refine sti_of (fun K hK => idxS (by omega) hK) ?_
    refine sti_of (fun K hK => ldS d2.drew (by omega) hK) ?_
    refine sti_of (fun K hK => idxS (by omega) hK) ?_
    refine sti_of (fun K hK => ldS d2.drew (by omega) hK) ?_
    refine sti_of (fun K hK => less_c hK) ?_
    refine sti_of (fun K hK => pick_t (by omega) hK) ?_
    by_cases hlt : G xs i < G xs a
    · refine cond_t hlt ?_
      refine add64 (by omega) (by omega) ?_
      refine ⟨⟨i + 1, (show Value.int .i64 ((i : Int) + 1) = _ by simp), by omega, ⟨by omega, q2.hj, by omega, fun k h1 h2 => ?_, q2.up⟩, d2.drew, oth_drew o2⟩, by rw [hm2]; show b - (intOf (.int .i64 ((i : Int) + 1))).toNat < _; simp only [intOf]; omega⟩
      by_cases e : k = i
      · rw [e]; exact hlt
      · exact q2.lo k h1 (by omega)
    · refine cond_f hlt ?_
      exact step1 d2.drew (oth_drew o2) (.inr hlt) rfl rfl rfl rfl
  · refine gsel_pf (by omega) ?_
    refine sti_of (fun K hK => pick_f (by omega) hK) ?_
    refine cond_F ?_
    exact step1 d2.drew (oth_drew o2) (.inl c2) rfl rfl rfl rfl

set_option maxHeartbeats 1000000 in
theorem part_c {a b p : Nat} (hd : SD w g n c xs) (hap : a ≤ p) (hpb : p < b) (hb : b ≤ n) (h : ∀ w' ys m f, SD w' g n c ys → Oth g w w' → Rng a b xs ys → PR ys a b m → K (.tuple #[.int .i64 (m : Nat), .bool f]) w') :
    call Try.prog 34 #[.slice (some ⟨g, 0, none⟩) n c, .int .i64 (a : Nat), .int .i64 (b : Nat), .int .i64 (p : Nat)] K w := by
  have hm : n ≤ 4611686018427387904 := by obtain ⟨_, _, _, _, hm⟩ := hd; exact hm
  have hl0 := hd.len
  refine call_of slices_partitionOrdered_uint64_go (slices_partitionOrdered_uint64_in ?_)
  refine swap_c (i := a) (j := p) hd (by omega) (by omega) ?_
  intro w1 d1 o1
  have r1 : Rng a b xs (swp xs a p) := Rng.swp (by omega) (by omega) (by omega) (by omega)
  obtain ⟨zs, hzs⟩ : ∃ zs, swp xs a p = zs := ⟨_, rfl⟩
  rw [hzs] at d1 r1
  have lz := d1.len
  have fin : ∀ {z : List Int} {j : Nat} {wz : World} {f : Bool}, SD wz g n c (swp z j a) → Oth g w wz → Rng a b xs z → PI z a b (j + 1) j → K (.tuple #[.int .i64 (j : Nat), .bool f]) wz := by
    intro z j wz f d o r q
    have hl := r.len
    have hj := q.hj
    exact h wz _ j f d o (r.trans (Rng.swp (by omega) (by omega) (by omega) (by omega))) (q.done (by omega) (by omega))
  refine add64 (by omega) (by omega) ?_
  refine sub64 (by omega) (by omega) ?_
  refine slices_partitionOrdered_uint64_L1_r (Inv := fun i _ _ _ _ _ _ _ _ _ wr => ∃ q : Nat, i = .int .i64 (q : Nat) ∧ PI zs a b q (b - 1) ∧ SD wr g n c zs ∧ Oth g w1 wr) (μ := fun i _ _ _ _ _ _ _ _ _ _ => b - (intOf i).toNat) ⟨a + 1, by simp, ⟨Nat.le_refl _, by omega, by omega, fun k h1 h2 => by omega, fun k h1 h2 => by omega⟩, d1, oth_refl _ _⟩ ?_
  rintro _ _ _ _ _ _ _ _ _ _ _ w2 m2 ⟨i, rfl, q2, d2, o2⟩ hm2
  have hi2 := q2.hi
  have hj2 := q2.hj
  have hij2 := q2.ij
  have step1 : ∀ {w3 : World}, SD w3 g n c zs → Oth g w1 w3 → (¬ i ≤ b - 1 ∨ ¬ G zs i < G zs a) → ∀ {data0 a1 b2 pivot3 data4 a5 b6 pivot7 newpivot8 alreadyPartitioned9 i10 j11 t12 t13 t14 t15 t16 t17 t18 t19 t20 t21 t22 t23 t24 t25 t26 t27 t28 t29 t30 t31 t32 t33 t34 t35 t36 t37 t38 t39 t40 t41 t42 t43 t44 t45 t46 t47 t48 t49 t50 t51 t52 t53 t54 t55 t56 t57 t58 t59 t60 t61 t62 t63 t64 t65 t66 t67 t68 t69 t70 t71 t72 t73 t74 t75 t76 t77 t78 t79 t80 t81 t82 t83 t84 t85 t86 t87 t88 t89 t90 t91 t92 t93 t94 t95 t96 t97 t98 t99 t100 t101 t102 t103 t104 t105 t106 t107 t108 t109 t110 t111 t112 t113 t114 t115 t116 t117 t118 t119 t120 t121 t122 t123 t124 t125 t126 t127 t128 t129 t130 t131 t132 t133 t134 t135 t136 t137 t138 t139 t140 t141 t142 t143 t144 t145 t146 t147 t148 t149 t150 t151 t152 t153 t154 t155 t156 t157 t158 t159 t160 t161 t162 t163 t164 t165 t166 t167 : Value}, data0 = .slice (some ⟨g, 0, none⟩) n c → a1 = .int .i64 (a : Nat) → i10 = .int .i64 (i : Nat) → j11 = .int .i64 ((b : Int) - 1) → slices_partitionOrdered_uint64_P1 K ((data0 :: a1 :: b2 :: pivot3 :: data4 :: a5 :: b6 :: pivot7 :: newpivot8 :: alreadyPartitioned9 :: i10 :: j11 :: t12 :: t13 :: t14 :: t15 :: t16 :: t17 :: t18 :: t19 :: t20 :: t21 :: t22 :: t23 :: t24 :: t25 :: t26 :: t27 :: t28 :: t29 :: t30 :: t31 :: t32 :: t33 :: t34 :: t35 :: t36 :: t37 :: t38 :: t39 :: t40 :: t41 :: t42 :: t43 :: t44 :: t45 :: t46 :: t47 :: t48 :: t49 :: t50 :: t51 :: t52 :: t53 :: t54 :: t55 :: t56 :: t57 :: t58 :: t59 :: t60 :: t61 :: t62 :: t63 :: t64 :: t65 :: t66 :: t67 :: t68 :: t69 :: t70 :: t71 :: t72 :: t73 :: t74 :: t75 :: t76 :: t77 :: t78 :: t79 :: t80 :: t81 :: t82 :: t83 :: t84 :: t85 :: t86 :: t87 :: t88 :: t89 :: t90 :: t91 :: t92 :: t93 :: t94 :: t95 :: t96 :: t97 :: t98 :: t99 :: t100 :: t101 :: t102 :: t103 :: t104 :: t105 :: t106 :: t107 :: t108 :: t109 :: t110 :: t111 :: t112 :: t113 :: t114 :: t115 :: t116 :: t117 :: t118 :: t119 :: t120 :: t121 :: t122 :: t123 :: t124 :: t125 :: t126 :: t127 :: t128 :: t129 :: t130 :: t131 :: t132 :: t133 :: t134 :: t135 :: t136 :: t137 :: t138 :: t139 :: t140 :: t141 :: t142 :: t143 :: t144 :: t145 :: t146 :: t147 :: t148 :: t149 :: t150 :: t151 :: t152 :: t153 :: t154 :: t155 :: t156 :: t157 :: t158 :: t159 :: t160 :: t161 :: t162 :: t163 :: t164 :: t165 :: t166 :: t167 :: [])) w3 := by
    intro w3 d3 o3 hst
    intros
    rename_i e1 e2 e3 e4
    subst e1 e2 e3 e4
    refine slices_partitionOrdered_uint64_P1_r ?_
    refine slices_partitionOrdered_uint64_L2_r (Inv := fun j _ _ _ _ _ _ _ _ _ _ wr => ∃ q : Nat, j = .int .i64 (q : Nat) ∧ q ≤ b - 1 ∧ PI zs a b i q ∧ SD wr g n c zs ∧ Oth g w1 wr) (μ := fun j _ _ _ _ _ _ _ _ _ _ _ => (intOf j).toNat) ⟨b - 1, by congr 1; omega, Nat.le_refl _, q2, d3, o3⟩ ?_
    rintro _ _ _ _ _ _ _ _ _ _ _ _ w4 m4 ⟨j, rfl, hjb, q4, d4, o4⟩ hm4
    have hi4 := q4.hi
    have hj4 := q4.hj
    have hij4 := q4.ij
    have step2 : ∀ {w5 : World}, SD w5 g n c zs → Oth g w1 w5 → (¬ i ≤ j ∨ G zs j < G zs a) → ∀ {data0 a1 b2 pivot3 data4 a5 b6 pivot7 newpivot8 alreadyPartitioned9 i10 j11 t12 t13 t14 t15 t16 t17 t18 t19 t20 t21 t22 t23 t24 t25 t26 t27 t28 t29 t30 t31 t32 t33 t34 t35 t36 t37 t38 t39 t40 t41 t42 t43 t44 t45 t46 t47 t48 t49 t50 t51 t52 t53 t54 t55 t56 t57 t58 t59 t60 t61 t62 t63 t64 t65 t66 t67 t68 t69 t70 t71 t72 t73 t74 t75 t76 t77 t78 t79 t80 t81 t82 t83 t84 t85 t86 t87 t88 t89 t90 t91 t92 t93 t94 t95 t96 t97 t98 t99 t100 t101 t102 t103 t104 t105 t106 t107 t108 t109 t110 t111 t112 t113 t114 t115 t116 t117 t118 t119 t120 t121 t122 t123 t124 t125 t126 t127 t128 t129 t130 t131 t132 t133 t134 t135 t136 t137 t138 t139 t140 t141 t142 t143 t144 t145 t146 t147 t148 t149 t150 t151 t152 t153 t154 t155 t156 t157 t158 t159 t160 t161 t162 t163 t164 t165 t166 t167 : Value}, data0 = .slice (some ⟨g, 0, none⟩) n c → a1 = .int .i64 (a : Nat) → i10 = .int .i64 (i : Nat) → j11 = .int .i64 (j : Nat) → slices_partitionOrdered_uint64_P2 K ((data0 :: a1 :: b2 :: pivot3 :: data4 :: a5 :: b6 :: pivot7 :: newpivot8 :: alreadyPartitioned9 :: i10 :: j11 :: t12 :: t13 :: t14 :: t15 :: t16 :: t17 :: t18 :: t19 :: t20 :: t21 :: t22 :: t23 :: t24 :: t25 :: t26 :: t27 :: t28 :: t29 :: t30 :: t31 :: t32 :: t33 :: t34 :: t35 :: t36 :: t37 :: t38 :: t39 :: t40 :: t41 :: t42 :: t43 :: t44 :: t45 :: t46 :: t47 :: t48 :: t49 :: t50 :: t51 :: t52 :: t53 :: t54 :: t55 :: t56 :: t57 :: t58 :: t59 :: t60 :: t61 :: t62 :: t63 :: t64 :: t65 :: t66 :: t67 :: t68 :: t69 :: t70 :: t71 :: t72 :: t73 :: t74 :: t75 :: t76 :: t77 :: t78 :: t79 :: t80 :: t81 :: t82 :: t83 :: t84 :: t85 :: t86 :: t87 :: t88 :: t89 :: t90 :: t91 :: t92 :: t93 :: t94 :: t95 :: t96 :: t97 :: t98 :: t99 :: t100 :: t101 :: t102 :: t103 :: t104 :: t105 :: t106 :: t107 :: t108 :: t109 :: t110 :: t111 :: t112 :: t113 :: t114 :: t115 :: t116 :: t117 :: t118 :: t119 :: t120 :: t121 :: t122 :: t123 :: t124 :: t125 :: t126 :: t127 :: t128 :: t129 :: t130 :: t131 :: t132 :: t133 :: t134 :: t135 :: t136 :: t137 :: t138 :: t139 :: t140 :: t141 :: t142 :: t143 :: t144 :: t145 :: t146 :: t147 :: t148 :: t149 :: t150 :: t151 :: t152 :: t153 :: t154 :: t155 :: t156 :: t157 :: t158 :: t159 :: t160 :: t161 :: t162 :: t163 :: t164 :: t165 :: t166 :: t167 :: [])) w5 := by
      intro w5 d5 o5 hst2
      intros
      rename_i e1 e2 e3 e4
      subst e1 e2 e3 e4
      refine slices_partitionOrdered_uint64_P2_r ?_
      refine bin_gtr ?_
      by_cases hgt : j < i
      · refine cond_t (by omega) ?_
        refine swap_c (i := j) (j := a) d5 (by omega) (by omega) ?_
        intro w6 d6 o6
        have : i = j + 1 := by omega
        subst this
        exact fin d6 (oth_trans (oth_trans o1 o5) o6) r1 q4
      · refine cond_f (by omega) ?_
        refine swap_c (i := i) (j := j) d5 (by omega) (by omega) ?_
        intro w6 d6 o6
        obtain ⟨q6, hlt6⟩ := q4.swap (by omega) (by omega) (hst.resolve_left (by omega)) (hst2.resolve_left (by omega))
        have r6 := r1.trans (Rng.swp (xs := zs) (i := i) (j := j) (by omega) (by omega) (by omega) (by omega))
        refine slices_partitionOrdered_uint64_A1_r ?_
        refine add64 (by omega) (by omega) ?_
        refine sub64 (by omega) (by omega) ?_
        refine slices_partitionOrdered_uint64_L3_r (Inv := fun i j _ _ _ _ _ _ _ _ _ _ _ _ _ _ _ _ _ _ _ wr => ∃ (i' j' : Nat) (z : List Int), i = .int .i64 (i' : Nat) ∧ j = .int .i64 (j' : Nat) ∧ PI z a b i' j' ∧ SD wr g n c z ∧ Oth g w wr ∧ Rng a b xs z)
          (μ := fun i j _ _ _ _ _ _ _ _ _ _ _ _ _ _ _ _ _ _ _ _ => (intOf j + 2 - intOf i).toNat) ⟨i + 1, j - 1, swp zs i j, by simp, by congr 1; omega, q6, d6, oth_trans (oth_trans o1 o5) o6, r6⟩ ?_
        rintro _ _ _ _ _ _ _ _ _ _ _ _ _ _ _ _ _ _ _ _ _ _ w7 m7 ⟨i7, j7, z, rfl, rfl, q7, d7, o7, r7⟩ hm7
        have lz7 := d7.len
        refine part3_c rfl rfl rfl rfl d7 hb q7 ?_ (fun d o q => fin d (oth_trans o7 o) r7 q)
        intro e w8 i8 j8 e10 e11 h1 h2 h3 d8 o8 q8
        have := q7.hi
        have := q7.hj
        refine ⟨⟨i8 + 1, j8 - 1, swp z i8 j8, by rw [e10]; simp, by rw [e11]; congr 1; omega, q8, d8, oth_trans o7 o8, r7.trans (Rng.swp (by omega) (by omega) (by omega) (by omega))⟩, ?_⟩
        show (intOf (gd e 11) + 2 - intOf (gd e 10)).toNat < _
        rw [e10, e11, hm7]; simp only [intOf]; omega
    refine sti_of (fun K hK => bin_leq hK) ?_
    by_cases c4 : i ≤ j
    · refine gsel_pt (by omega) ?_
      refine sti_of (fun K hK => idxS (by omega) hK) ?_
      refine sti_of (fun K hK => ldS d4.drew (by omega) hK) ?_
      refine sti_of (fun K hK => idxS (by omega) hK) ?_
      refine sti_of (fun K hK => ldS d4.drew (by omega) hK) ?_
      refine sti_of (fun K hK => less_c hK) ?_
      refine sti_of (fun K hK => un_notD hK) ?_
      refine sti_of (fun K hK => pick_t (by omega) hK) ?_
      by_cases hlt : G zs j < G zs a
      · refine cond_f (by omega) ?_
        exact step2 d4.drew (oth_drew o4) (.inr hlt) rfl rfl rfl rfl
      · refine cond_t (by omega) ?_
        refine sub64 (by omega) (by omega) ?_
        refine ⟨⟨j - 1, by show Value.int .i64 _ = Value.int .i64 _; congr 1; omega, by omega, ⟨q4.hi, by omega, by omega, q4.lo, fun k h1 h2 => ?_⟩, d4.drew, oth_drew o4⟩, by rw [hm4]; show (intOf (.int .i64 ((j : Int) - 1))).toNat < _; simp only [intOf]; omega⟩
        by_cases e : k = j
        · rw [e]; omega
        · exact q4.up k (by omega) h2
    · refine gsel_pf (by omega) ?_
      refine sti_of (fun K hK => pick_f (by omega) hK) ?_
      refine cond_F ?_
      exact step2 d4.drew (oth_drew o4) (.inl c4) rfl rfl rfl rfl
  refine sti_of (fun K hK => bin_leq hK) ?_
  by_cases c2 : i ≤ b - 1
  · refine gsel_pt (by omega) ?_
    refine sti_of (fun K hK => idxS (by omega) hK) ?_
    refine sti_of (fun K hK => ldS d2.drew (by omega) hK) ?_
    refine sti_of (fun K hK => idxS (by omega) hK) ?_
    refine sti_of (fun K hK => ldS d2.drew (by omega) hK) ?_
    refine sti_of (fun K hK => less_c hK) ?_
    refine sti_of (fun K hK => pick_t (by omega) hK) ?_
    by_cases hlt : G zs i < G zs a
    · refine cond_t hlt ?_
      refine add64 (by omega) (by omega) ?_
      refine ⟨⟨i + 1, (show Value.int .i64 ((i : Int) + 1) = _ by simp), ⟨by omega, q2.hj, by omega, fun k h1 h2 => ?_, q2.up⟩, d2.drew, oth_drew o2⟩, by rw [hm2]; show b - (intOf (.int .i64 ((i : Int) + 1))).toNat < _; simp only [intOf]; omega⟩
      by_cases e : k = i
      · rw [e]; exact hlt
      · exact q2.lo k h1 (by omega)
    · refine cond_f hlt ?_
      exact step1 d2.drew (oth_drew o2) (.inr hlt) rfl rfl rfl rfl
  · refine gsel_pf (by omega) ?_
    refine sti_of (fun K hK => pick_f (by omega) hK) ?_
    refine cond_F ?_
    exact step1 d2.drew (oth_drew o2) (.inl c2) rfl rfl rfl rfl
end
end Go.Proofs.Ytcieejlkdfdpiaa
