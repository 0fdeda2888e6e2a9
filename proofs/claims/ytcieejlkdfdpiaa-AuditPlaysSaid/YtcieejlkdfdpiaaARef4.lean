/- The document's audit, on: a raise, a take, a free; what is said, whole. -/
import Derived.Test.YtcieejlkdfdpiaaARef3
namespace Go.Proofs.Ytcieejlkdfdpiaa
set_option maxRecDepth 100000
open Go.RowKit Go.ChangeMaps
theorem fA_RTk2_0 {w : World} {K : KV} {b o : Nat} (h : K (.pointer (some ⟨b, o + 0, none⟩)) w) : fldA Try.prog 81 (.pointer (some ⟨b, o, none⟩)) 0 K w := fldA_of (by kernel_rfl) h
theorem fA_RTk2_1 {w : World} {K : KV} {b o : Nat} (h : K (.pointer (some ⟨b, o + 1, none⟩)) w) : fldA Try.prog 81 (.pointer (some ⟨b, o, none⟩)) 1 K w := fldA_of (by kernel_rfl) h
theorem fA_RTk2_2 {w : World} {K : KV} {b o : Nat} (h : K (.pointer (some ⟨b, o + 2, none⟩)) w) : fldA Try.prog 81 (.pointer (some ⟨b, o, none⟩)) 2 K w := fldA_of (by kernel_rfl) h
theorem fA_RTk2_3 {w : World} {K : KV} {b o : Nat} (h : K (.pointer (some ⟨b, o + 3, none⟩)) w) : fldA Try.prog 81 (.pointer (some ⟨b, o, none⟩)) 3 K w := fldA_of (by kernel_rfl) h
theorem fA_RTk2_4 {w : World} {K : KV} {b o : Nat} (h : K (.pointer (some ⟨b, o + 4, none⟩)) w) : fldA Try.prog 81 (.pointer (some ⟨b, o, none⟩)) 4 K w := fldA_of (by kernel_rfl) h
attribute [local irreducible] bin un conv call callV blt slc fldA fld idxA idx lkp mUpd mEnt eSt rng nxt ent ext alc box bld bldS ld sto nilC mkMap mkS ifc pick rdy wts gsel sti cond retM Gives cCode cGrp cSeq cOp
section
variable {w w0 : World} {K : KV} {B : Nat} {f : RF} {S : RS} {i : Nat}
theorem rhB {K3 : Value → Value → Value → World → Prop} (hr : RK w B f S) (h : ∀ u1 u2, K3 u1 u2 (.slice f.b.1 S.B.length f.b.2) w) : nilC (ptr f.p) (fun u1 w => fldA Try.prog 31 u1 3 (fun u2 w => ld Try.prog 29 u2 (fun u3 w => K3 u1 u2 u3 w) w) w) w :=
  nilC_p (fA_Ref_3 (ld_RL_2 _ hr.head rfl (h _ _)))
theorem footMem {f : RF} : (∀ k, f.n.1.map (·.block) = some k → k ∈ f.foot) ∧ (∀ k, f.r.1.map (·.block) = some k → k ∈ f.foot) ∧ (∀ k, f.t.1.map (·.block) = some k → k ∈ f.foot) ∧ (∀ k, f.b.1.map (·.block) = some k → k ∈ f.foot) :=
  ⟨fun k h => by simp [RF.foot, h], fun k h => by simp [RF.foot, h], fun k h => by simp [RF.foot, h], fun k h => by simp [RF.foot, h]⟩
theorem ch_below {F : List Nat} {w w' : World} (hr : RK w B f S) (hB : B ≤ w.heap.size) (hc : Ch F w w') (hF : ∀ k ∈ F, k ∈ f.foot) : Below B w w' := hc.below (fun k hk => (hr.lt k (hF k hk)).1) hB

theorem takeK (x : (Int × Int) × (Int × Int) × Bool) : (rtC x).set 4 (.bool true) = rtC (x.1, x.2.1, true) := rfl

set_option maxHeartbeats 1000000 in
theorem rsay_P1 {a0 who1 k_2 x3 a4 who5 k_6 x7 id8 at9 n10 n11 x12 i13 at14 t15 t16 t17 t18 t19 t20 t21 t22 t23 t24 t25 t26 t27 t28 t29 t30 t31 t32 t33 t34 t35 t36 t37 t38 t39 t40 t41 t42 t43 t44 t45 t46 t47 t48 t49 t50 t51 t52 t53 t54 t55 t56 t57 t58 t59 t60 t61 t62 t63 t64 t65 t66 t67 t68 t69 t70 t71 t72 t73 t74 t75 t76 t77 t78 t79 t80 t81 t82 t83 t84 t85 t86 t87 t88 t89 t90 t91 t92 t93 t94 t95 t96 t97 t98 t99 t100 t101 t102 t103 t104 t105 t106 t107 t108 t109 t110 t111 t112 t113 t114 t115 t116 t117 t118 t119 t120 t121 t122 t123 t124 t125 t126 t127 t128 t129 t130 t131 t132 t133 t134 t135 t136 t137 t138 t139 t140 t141 t142 t143 t144 t145 t146 t147 t148 t149 t150 t151 t152 t153 t154 t155 t156 t157 t158 t159 t160 t161 t162 t163 t164 t165 t166 t167 t168 t169 t170 t171 t172 t173 t174 t175 t176 t177 t178 t179 t180 t181 t182 t183 t184 t185 t186 t187 t188 t189 t190 t191 t192 t193 t194 t195 t196 t197 t198 t199 t200 t201 t202 t203 t204 t205 t206 t207 t208 t209 t210 t211 t212 t213 t214 t215 t216 t217 t218 t219 t220 t221 t222 t223 t224 : Value} {a : Ak} {who am : Int} {kb : Nat} (hr : RK w B f S) (hb : RB0 S) (hB : B ≤ w.heap.size) (e0 : a0 = ptr f.p) (e1 : who1 = .int .i64 who) (e6 : k_6 = ptr kb) (hk : blk w kb 35 (askC a)) (e11 : n11 = .int .i64 am)
    (h : ∀ w' f', f'.p = f.p → RK w' B f' { S with T := S.T ++ [((who, a.req), (a.node, am), S.B.any (fun q => decide (q = (who, a.req))))] } → Below B w w' → K (.tuple #[]) w') :
    leatref26_Audit_Say_P1 K ((a0 :: who1 :: k_2 :: x3 :: a4 :: who5 :: k_6 :: x7 :: id8 :: at9 :: n10 :: n11 :: x12 :: i13 :: at14 :: t15 :: t16 :: t17 :: t18 :: t19 :: t20 :: t21 :: t22 :: t23 :: t24 :: t25 :: t26 :: t27 :: t28 :: t29 :: t30 :: t31 :: t32 :: t33 :: t34 :: t35 :: t36 :: t37 :: t38 :: t39 :: t40 :: t41 :: t42 :: t43 :: t44 :: t45 :: t46 :: t47 :: t48 :: t49 :: t50 :: t51 :: t52 :: t53 :: t54 :: t55 :: t56 :: t57 :: t58 :: t59 :: t60 :: t61 :: t62 :: t63 :: t64 :: t65 :: t66 :: t67 :: t68 :: t69 :: t70 :: t71 :: t72 :: t73 :: t74 :: t75 :: t76 :: t77 :: t78 :: t79 :: t80 :: t81 :: t82 :: t83 :: t84 :: t85 :: t86 :: t87 :: t88 :: t89 :: t90 :: t91 :: t92 :: t93 :: t94 :: t95 :: t96 :: t97 :: t98 :: t99 :: t100 :: t101 :: t102 :: t103 :: t104 :: t105 :: t106 :: t107 :: t108 :: t109 :: t110 :: t111 :: t112 :: t113 :: t114 :: t115 :: t116 :: t117 :: t118 :: t119 :: t120 :: t121 :: t122 :: t123 :: t124 :: t125 :: t126 :: t127 :: t128 :: t129 :: t130 :: t131 :: t132 :: t133 :: t134 :: t135 :: t136 :: t137 :: t138 :: t139 :: t140 :: t141 :: t142 :: t143 :: t144 :: t145 :: t146 :: t147 :: t148 :: t149 :: t150 :: t151 :: t152 :: t153 :: t154 :: t155 :: t156 :: t157 :: t158 :: t159 :: t160 :: t161 :: t162 :: t163 :: t164 :: t165 :: t166 :: t167 :: t168 :: t169 :: t170 :: t171 :: t172 :: t173 :: t174 :: t175 :: t176 :: t177 :: t178 :: t179 :: t180 :: t181 :: t182 :: t183 :: t184 :: t185 :: t186 :: t187 :: t188 :: t189 :: t190 :: t191 :: t192 :: t193 :: t194 :: t195 :: t196 :: t197 :: t198 :: t199 :: t200 :: t201 :: t202 :: t203 :: t204 :: t205 :: t206 :: t207 :: t208 :: t209 :: t210 :: t211 :: t212 :: t213 :: t214 :: t215 :: t216 :: t217 :: t218 :: t219 :: t220 :: t221 :: t222 :: t223 :: t224 :: [])) w := by
  subst e0 e1 e6 e11
  have htl := hb.tl
  have hbl := hb.bl
  refine leatref26_Audit_Say_P1_r ?_
  refine fA_Ask_4 ?_
  refine ld1 (v := .int .u64 a.req) (fun _ => by kernel_rfl) hk rfl ?_
  refine fA_Ask_1 ?_
  refine ld1 (v := .int .u64 a.node) (fun _ => by kernel_rfl) hk rfl ?_
  refine bld_of (vs := rtC ((who, a.req), (a.node, am), false)) (by kernel_rfl) ?_
  refine alc_of (z := .agg #[.int .i64 0, .int .u64 0, .int .u64 0, .int .i64 0, .bool false]) (by kernel_rfl) ?_
  intro w1 hb1 b1 s1
  refine stoA (n := 5) (vs := rtC ((who, a.req), (a.node, am), false)) (by kernel_rfl) rfl hb1 (by simp [Value.cells]) (by simp [rtC, Value.oneCell']) ?_
  intro w2 hx2 o2
  have hx2 : blk w2 w.heap.size TTk2 (rtC ((who, a.req), (a.node, am), false)) := hx2
  have hlt := hr.lt
  have hnb : w.heap.size ∉ f.foot := fun h => by have := hlt _ h; omega
  have hr2 : RK w2 B f S := (hr.below b1).new o2 hnb
  have b2 : Below B w w2 := (b1.trans o2.below).mono hB
  have s2 : w2.heap.size = w.heap.size + 1 := by rw [o2.size, s1]
  have hkl := hk.lt
  have hk2 : blk w2 kb 35 (askC a) := o2.blk (below_blk b1 hk hk.lt) (by omega)
  have bx : ∀ (j : Nat) (y : Int × Int), S.B[j]? = some y → ∀ {wr : World}, RK wr B f S → ∃ g cur, f.b.1 = some ⟨g, 0, none⟩ ∧ Opn wr B TTk2 5 S.B.length f.b.2 g cur (S.B.flatMap rbC) := by
    intro j y hy wr hz
    have := (List.getElem?_eq_some_iff.1 hy).1
    exact own_open hz.b (by omega)
  refine leatref26_Audit_Say_L2_r (Inv := fun i _ _ _ _ _ _ _ _ _ _ _ _ _ _ _ _ _ _ _ _ _ _ _ wr => ∃ (k : Nat) (b : Bool), i = .int .i64 (k : Nat) ∧ k ≤ S.B.length ∧ RK wr B f S ∧ blk wr w.heap.size TTk2 (rtC ((who, a.req), (a.node, am), b)) ∧ b = (S.B.take k).any (fun q => decide (q = (who, a.req))) ∧ blk wr kb 35 (askC a) ∧ Below B w wr)
    (μ := fun i _ _ _ _ _ _ _ _ _ _ _ _ _ _ _ _ _ _ _ _ _ _ _ _ => S.B.length - (intOf i).toNat) ⟨0, false, rfl, by omega, hr2, hx2, rfl, hk2, b2⟩ ?_
  rintro _ _ _ _ _ _ _ _ _ _ _ _ _ _ _ _ _ _ _ _ _ _ _ _ _ w3 m ⟨k, b, rfl, hkl3, hr3, hx3, hb3, hk3, b3⟩ hm
  refine rhB hr3 (fun _ _ => ?_)
  refine lenT ?_
  refine bin_lss ?_
  by_cases hlt3 : k < S.B.length
  rotate_left
  · refine cond_f (by omega) ?_
    refine leatref26_Audit_Say_P3_r ?_
    have hall : b = S.B.any (fun q => decide (q = (who, a.req))) := by rw [hb3, List.take_of_length_le (by omega)]
    have s3 := b3.size
    refine hReg_of (fun y => RK y B f S ∧ blk y w.heap.size TTk2 (rtC ((who, a.req), (a.node, am), b))) ⟨hr3.drew, hx3.drew⟩ ?_
    refine hld_of (fun y hy K hK => nilC_p hK) ?_
    refine hld_of (fun y hy K hK => fA_Ref_2 hK) ?_
    refine hld_of (fun y hy K hK => ld1 (v := .slice f.t.1 S.T.length f.t.2) (fun _ => by kernel_rfl) hy.1.head rfl hK) ?_
    refine hld_of (fun y hy K hK => ldA (n := 5) (vs := rtC ((who, a.req), (a.node, am), b)) Try.underlying81 rfl (by kernel_rfl) hy.2 rfl rfl hK) ?_
    have hB3 : B ≤ w3.heap.size := by omega
    refine tail_c (j := 2) Try.underlying29 info_tk2 rfl (by omega) (by omega) (by omega) (fun _ => by kernel_rfl) (by kernel_rfl) rfl (by simp [rtC, Value.oneCell']) hr3.drew.t hB3 (by omega) hr3.drew.head (by simp) ty_ne.2.2.2.2.2 (fun w' hb' => ⟨hr3.drew.below hb', below_blk hb' hx3.drew hx3.drew.lt⟩) ?_
    intro a' c' w4 u r u1 u2 ho4 hh4 c4 m4
    have el : (S.T ++ [((who, a.req), (a.node, am), b)]).length = S.T.length + 1 := by simp
    have ef : (S.T ++ [((who, a.req), (a.node, am), b)]).flatMap rtC = S.T.flatMap rtC ++ rtC ((who, a.req), (a.node, am), b) := by simp
    have hr4 : RK w4 B { f with t := (a', c') } { S with T := S.T ++ [((who, a.req), (a.node, am), b)] } := by
      have hoN : w4.ownsRow B TTk2 5 (.slice a' (S.T ++ [((who, a.req), (a.node, am), b)]).length c') (S.T ++ [((who, a.req), (a.node, am), b)]).length ((S.T ++ [((who, a.req), (a.node, am), b)]).flatMap rtC) := by rw [el, ef]; exact ho4
      obtain ⟨q1, q2, q3, q4, q5, q6⟩ := ty_ne
      have h0 := hr3.drew
      refine ⟨by simp only [el]; exact hh4, own_out h0.n c4 (fun k hk => ?_), own_out h0.r c4 (fun k hk => ?_), hoN, own_out h0.b c4 (fun k hk => ?_), h0.hp, fun k hk hk2 => ?_⟩
      · rw [List.mem_cons, Option.mem_toList, not_or]
        exact ⟨fun e => own_p h0.n h0.head q4 (e ▸ hk), own_ne h0.n h0.t q2 k hk⟩
      · rw [List.mem_cons, Option.mem_toList, not_or]
        exact ⟨fun e => own_p h0.r h0.head q5 (e ▸ hk), own_ne h0.r h0.t q3 k hk⟩
      · rw [List.mem_cons, Option.mem_toList, not_or]
        exact ⟨fun e => own_p h0.b h0.head q6 (e ▸ hk), fun e => h0.tb k e hk⟩
      · rw [el] at hk
        rcases m4 with e | e
        · exact h0.tb k (e ▸ hk) hk2
        · have h7 := (own_blk h0.b hk2).2.2
          have h8 := e k hk
          omega
    rw [hall] at hr4
    refine h w4 _ (by rfl) hr4 (b3.trans (((Below.refl _ w3).drew.mono hB3).trans (ch_below hr3.drew hB3 c4 (fun k hk => ?_))))
    rw [ownB, List.mem_cons, Option.mem_toList] at hk
    rcases hk with rfl | hk
    · simp [RF.foot]
    · exact footMem.2.2.1 k hk
  refine cond_t (by omega) ?_
  obtain ⟨y, hy⟩ : ∃ y, S.B[k]? = some y := ⟨_, List.getElem?_eq_getElem hlt3⟩
  obtain ⟨g, cur, ha, ho⟩ := bx k y hy hr3
  have hs4 : w3.heap.size = w3.drew.heap.size := rfl
  have hbnext : (S.B.take (k + 1)).any (fun q => decide (q = (who, a.req))) = (b || decide (y = (who, a.req))) := by rw [take_snoc hy, List.any_append, ← hb3]; simp
  have done : ∀ {b' : Bool} {w4 : World} {v : Value}, b' = (b || decide (y = (who, a.req))) → Oth w.heap.size w3.drew w4 → blk w4 w.heap.size TTk2 ((rtC ((who, a.req), (a.node, am), b)).set (0 + 4) (.bool b')) → v = .int .i64 ((k : Int) + 1) →
      (∃ (k : Nat) (b : Bool), v = .int .i64 (k : Nat) ∧ k ≤ S.B.length ∧ RK w4 B f S ∧ blk w4 w.heap.size TTk2 (rtC ((who, a.req), (a.node, am), b)) ∧ b = (S.B.take k).any (fun q => decide (q = (who, a.req))) ∧ blk w4 kb 35 (askC a) ∧ Below B w w4) ∧ S.B.length - (intOf v).toNat < m := by
    rintro b' w4 _ rfl o4 hx4 rfl
    refine ⟨⟨k + 1, (b || decide (y = (who, a.req))), by simp, by omega, hr3.drew.new o4 hnb, (hx4 : blk w4 w.heap.size TTk2 (rtC ((who, a.req), (a.node, am), (b || decide (y = (who, a.req)))))), hbnext.symm, o4.blk hk3.drew (by omega), b3.trans (((Below.refl _ w3).drew.mono (by have := b3.size; omega)).trans (o4.below.mono hB))⟩, by rw [hm]; simp only [intOf]; omega⟩
  have rb0 : ∀ {K' : KV} {wr : World}, wr = w3.drew → K' (.int .i64 y.1) wr → ld Try.prog 3 (.pointer (some ⟨g, k * 5 + 0, none⟩)) K' wr := by
    rintro K' _ rfl hK
    exact ld1 (fun _ => by kernel_rfl) ho.blk.drew (by rw [ho.cell rbC_len rfl hy (by omega)]; rfl) hK
  have rb1 : ∀ {K' : KV} {wr : World}, wr = w3.drew → K' (.int .u64 y.2) wr → ld Try.prog 33 (.pointer (some ⟨g, k * 5 + 1, none⟩)) K' wr := by
    rintro K' _ rfl hK
    exact ld1 (fun _ => by kernel_rfl) ho.blk.drew (by rw [ho.cell rbC_len rfl hy (by omega)]; rfl) hK
  refine sti_of (fun K hK => fA_RTk2_4 hK) ?_
  refine sti_of (fun K hK => ld1 (v := .bool b) (fun _ => by kernel_rfl) hx3.drew rfl hK) ?_
  cases b with
  | true =>
    refine gsel_Tn ?_
    refine gsel_U ?_
    refine gsel_Tn ?_
    refine sti_of (fun K hK => pick_T hK) ?_
    refine sti_of (fun K hK => fA_RTk2_4 hK) ?_
    refine sto1 (fun _ => by kernel_rfl) hx3.drew (by simp [rtC]) rfl ?_
    intro w4 hx4 o4
    refine add64 (by omega) (by omega) ?_
    exact done (by simp) o4 hx4 rfl
  | false =>
    refine gsel_Fn ?_
    refine sti_of (fun K hK => nilC_p hK) ?_
    refine sti_of (fun K hK => fA_Ref_3 hK) ?_
    refine sti_of (fun K hK => ld1 (v := .slice f.b.1 S.B.length f.b.2) (fun _ => by kernel_rfl) hr3.drew.head rfl hK) ?_
    refine sti_of (fun K hK => idxO ha Try.underlying29 szT hlt3 hK) ?_
    refine sti_of (fun K hK => fA_RTk2_0 hK) ?_
    refine sti_of (fun K hK => rb0 rfl hK) ?_
    refine sti_of (fun K hK => bin_eql hK) ?_
    by_cases ew : y.1 = who
    · refine gsel_pt ew ?_
      refine sti_of (fun K hK => nilC_p hK) ?_
      refine sti_of (fun K hK => fA_Ref_3 hK) ?_
      refine sti_of (fun K hK => ld1 (v := .slice f.b.1 S.B.length f.b.2) (fun _ => by kernel_rfl) hr3.drew.head rfl hK) ?_
      refine sti_of (fun K hK => idxO ha Try.underlying29 szT hlt3 hK) ?_
      refine sti_of (fun K hK => fA_RTk2_1 hK) ?_
      refine sti_of (fun K hK => rb1 rfl hK) ?_
      refine sti_of (fun K hK => fA_Ask_4 hK) ?_
      refine sti_of (fun K hK => ld1 (v := .int .u64 a.req) (fun _ => by kernel_rfl) hk3.drew rfl hK) ?_
      refine sti_of (fun K hK => bin_eql hK) ?_
      refine gsel_Fn ?_
      refine sti_of (fun K hK => pick_t ew hK) ?_
      refine sti_of (fun K hK => pick_F hK) ?_
      refine sti_of (fun K hK => fA_RTk2_4 hK) ?_
      refine sto1 (fun _ => by kernel_rfl) hx3.drew (by simp [rtC]) rfl ?_
      intro w4 hx4 o4
      refine add64 (by omega) (by omega) ?_
      refine done (b' := decide (y.2 = a.req)) ?_ o4 hx4 rfl
      have : (y = (who, a.req)) ↔ y.2 = a.req := by rw [Prod.ext_iff]; simp [ew]
      simp [this]
    · refine gsel_pf ew ?_
      refine gsel_Fn ?_
      refine sti_of (fun K hK => pick_f ew hK) ?_
      refine sti_of (fun K hK => pick_F hK) ?_
      refine sti_of (fun K hK => fA_RTk2_4 hK) ?_
      refine sto1 (fun _ => by kernel_rfl) hx3.drew (by simp [rtC]) rfl ?_
      intro w4 hx4 o4
      refine add64 (by omega) (by omega) ?_
      refine done (b' := false) ?_ o4 hx4 rfl
      have : ¬ (y = (who, a.req)) := fun hh => ew (by rw [hh])
      simp [this]

set_option maxHeartbeats 1000000 in
theorem rsay_A2 {a0 who1 k_2 x3 a4 who5 k_6 x7 id8 at9 n10 n11 x12 i13 at14 t15 t16 t17 t18 t19 t20 t21 t22 t23 t24 t25 t26 t27 t28 t29 t30 t31 t32 t33 t34 t35 t36 t37 t38 t39 t40 t41 t42 t43 t44 t45 t46 t47 t48 t49 t50 t51 t52 t53 t54 t55 t56 t57 t58 t59 t60 t61 t62 t63 t64 t65 t66 t67 t68 t69 t70 t71 t72 t73 t74 t75 t76 t77 t78 t79 t80 t81 t82 t83 t84 t85 t86 t87 t88 t89 t90 t91 t92 t93 t94 t95 t96 t97 t98 t99 t100 t101 t102 t103 t104 t105 t106 t107 t108 t109 t110 t111 t112 t113 t114 t115 t116 t117 t118 t119 t120 t121 t122 t123 t124 t125 t126 t127 t128 t129 t130 t131 t132 t133 t134 t135 t136 t137 t138 t139 t140 t141 t142 t143 t144 t145 t146 t147 t148 t149 t150 t151 t152 t153 t154 t155 t156 t157 t158 t159 t160 t161 t162 t163 t164 t165 t166 t167 t168 t169 t170 t171 t172 t173 t174 t175 t176 t177 t178 t179 t180 t181 t182 t183 t184 t185 t186 t187 t188 t189 t190 t191 t192 t193 t194 t195 t196 t197 t198 t199 t200 t201 t202 t203 t204 t205 t206 t207 t208 t209 t210 t211 t212 t213 t214 t215 t216 t217 t218 t219 t220 t221 t222 t223 t224 : Value} {a : Ak} {who e : Int} {cs : List Value} {kb xb : Nat} (hr : RK w B f S) (hb : RB0 S) (hB : B ≤ w.heap.size) (e0 : a0 = ptr f.p) (e1 : who1 = .int .i64 who) (e2 : k_6 = ptr kb) (hk : blk w kb 35 (askC a)) (hkf : kb ∉ f.foot)
    (e3 : x7 = ptr xb) (hx : blk w xb 42 cs) (hce : cs[14]? = some (.int .i64 e)) (et : t103 = .bool (decide (a.kind = 2))) (e24 : t24 = .int .u8 a.kind) (o s : Int) (he : ¬ (e ≠ 0 ∧ e ≠ 8)) (hk1 : a.kind ≠ 1)
    (h : ∀ w' f' S', f'.p = f.p → RK w' B f' S' → RSay S who a o s e S' → Below B w w' → K (.tuple #[]) w') : leatref26_Audit_Say_A2 K ((a0 :: who1 :: k_2 :: x3 :: a4 :: who5 :: k_6 :: x7 :: id8 :: at9 :: n10 :: n11 :: x12 :: i13 :: at14 :: t15 :: t16 :: t17 :: t18 :: t19 :: t20 :: t21 :: t22 :: t23 :: t24 :: t25 :: t26 :: t27 :: t28 :: t29 :: t30 :: t31 :: t32 :: t33 :: t34 :: t35 :: t36 :: t37 :: t38 :: t39 :: t40 :: t41 :: t42 :: t43 :: t44 :: t45 :: t46 :: t47 :: t48 :: t49 :: t50 :: t51 :: t52 :: t53 :: t54 :: t55 :: t56 :: t57 :: t58 :: t59 :: t60 :: t61 :: t62 :: t63 :: t64 :: t65 :: t66 :: t67 :: t68 :: t69 :: t70 :: t71 :: t72 :: t73 :: t74 :: t75 :: t76 :: t77 :: t78 :: t79 :: t80 :: t81 :: t82 :: t83 :: t84 :: t85 :: t86 :: t87 :: t88 :: t89 :: t90 :: t91 :: t92 :: t93 :: t94 :: t95 :: t96 :: t97 :: t98 :: t99 :: t100 :: t101 :: t102 :: t103 :: t104 :: t105 :: t106 :: t107 :: t108 :: t109 :: t110 :: t111 :: t112 :: t113 :: t114 :: t115 :: t116 :: t117 :: t118 :: t119 :: t120 :: t121 :: t122 :: t123 :: t124 :: t125 :: t126 :: t127 :: t128 :: t129 :: t130 :: t131 :: t132 :: t133 :: t134 :: t135 :: t136 :: t137 :: t138 :: t139 :: t140 :: t141 :: t142 :: t143 :: t144 :: t145 :: t146 :: t147 :: t148 :: t149 :: t150 :: t151 :: t152 :: t153 :: t154 :: t155 :: t156 :: t157 :: t158 :: t159 :: t160 :: t161 :: t162 :: t163 :: t164 :: t165 :: t166 :: t167 :: t168 :: t169 :: t170 :: t171 :: t172 :: t173 :: t174 :: t175 :: t176 :: t177 :: t178 :: t179 :: t180 :: t181 :: t182 :: t183 :: t184 :: t185 :: t186 :: t187 :: t188 :: t189 :: t190 :: t191 :: t192 :: t193 :: t194 :: t195 :: t196 :: t197 :: t198 :: t199 :: t200 :: t201 :: t202 :: t203 :: t204 :: t205 :: t206 :: t207 :: t208 :: t209 :: t210 :: t211 :: t212 :: t213 :: t214 :: t215 :: t216 :: t217 :: t218 :: t219 :: t220 :: t221 :: t222 :: t223 :: t224 :: [])) w := by
  subst e0 e1 e2 e3 et e24
  have hrl := hb.rl
  have htl := hb.tl
  have hbl := hb.bl
  have hB1 : B ≤ w.drew.heap.size := hB
  have bd : Below B w w.drew := (Below.refl _ w).drew.mono hB
  have hFB : ∀ {v : Option Addr} {n c : Nat}, (∀ k, v.map (·.block) = some k → k ∈ f.foot) → ∀ k ∈ f.p :: (Value.slice v n c).ownBlock.toList, k ∈ f.foot := by
    intro v n c hv k hk
    rw [ownB, List.mem_cons, Option.mem_toList] at hk
    rcases hk with rfl | hk
    · simp [RF.foot]
    · exact hv k hk
  refine leatref26_Audit_Say_A2_r ?_
  by_cases h2 : a.kind = 2
  · refine cond_t h2 ?_
    refine hReg_of (fun y => RK y B f S ∧ blk y kb 35 (askC a)) ⟨hr.drew, hk.drew⟩ ?_
    refine hld_of (fun y hy K hK => nilC_p hK) ?_
    refine hld_of (fun y hy K hK => fA_Ref_1 hK) ?_
    refine hld_of (fun y hy K hK => ld1 (v := .slice f.r.1 S.R.length f.r.2) (fun _ => by kernel_rfl) hy.1.head rfl hK) ?_
    refine hld_of (fun y hy K hK => fA_Ask_1 hK) ?_
    refine hld_of (fun y hy K hK => ld1 (v := .int .u64 a.node) (fun _ => by kernel_rfl) hy.2 rfl hK) ?_
    refine hld_of (fun y hy K hK => fA_Ask_3 hK) ?_
    refine hld_of (fun y hy K hK => ld1 (v := .int .i64 a.amount) (fun _ => by kernel_rfl) hy.2 rfl hK) ?_
    refine min2i ?_
    refine hSub_same ⟨hr.drew, hk.drew⟩ ?_
    refine max2i ?_
    refine hSub_same ⟨hr.drew, hk.drew⟩ ?_
    rw [wi_is]
    refine hld_of (fun y hy K hK => bld_of (vs := rrC (a.node, withinS a.amount)) (by kernel_rfl) hK) ?_
    refine tail_c (j := 1) Try.underlying28 info_rs rfl (by omega) (by omega) (by omega) (fun _ => by kernel_rfl) (by kernel_rfl) rfl (by simp [rrC, Value.oneCell']) hr.drew.r hB1 (by omega) hr.drew.head (by simp) ty_ne.2.2.2.2.1 (fun w' hb' => ⟨hr.drew.below hb', below_blk hb' hk.drew hk.drew.lt⟩) ?_
    intro a' c' w4 u r u1 u2 ho4 hh4 c4 m4
    have el : (S.R ++ [(a.node, withinS a.amount)]).length = S.R.length + 1 := by simp
    have ef : (S.R ++ [(a.node, withinS a.amount)]).flatMap rrC = S.R.flatMap rrC ++ rrC (a.node, withinS a.amount) := by simp
    have hr4 : RK w4 B { f with r := (a', c') } { S with R := S.R ++ [(a.node, withinS a.amount)] } := by
      refine hr.drew.newR c4 ?_ ?_
      · rw [RK.hd]; simp only [el]; exact hh4
      · rw [el, ef]; exact ho4
    refine h w4 _ _ (by rfl) hr4 (by unfold RSay; rw [if_neg he, if_neg hk1, if_pos h2]) (bd.trans (ch_below hr.drew hB1 c4 (hFB footMem.2.1)))
  refine cond_f h2 ?_
  refine bin_eql ?_
  by_cases h3 : a.kind = 3
  · refine cond_t h3 ?_
    have rs : ∀ {S'}, (if e = 0 ∧ ∀ y ∈ S.T, y.1 ≠ (who, a.req) then S' = { S with T := S.T ++ [((who, a.req), (a.node, amS a.amount), S.B.any (fun q => decide (q = (who, a.req))))] } else S' = S) → RSay S who a o s e S' := by
      intro S' hh; unfold RSay; rw [if_neg he, if_neg hk1, if_neg h2, if_pos h3]; exact hh
    refine fA_Ans_1 ?_
    refine ld1 (v := .int .i64 e) (fun _ => by kernel_rfl) hx hce ?_
    refine bin_eql ?_
    by_cases he0 : e = 0
    rotate_left
    · refine gsel_pf he0 ?_
      refine pick_f he0 ?_
      refine cond_F ?_
      exact h w f S rfl hr (rs (by rw [if_neg (fun hh => he0 hh.1)])) (Below.refl _ _)
    refine gsel_pt he0 ?_
    refine fA_Ask_4 ?_
    refine ld1 (v := .int .u64 a.req) (fun _ => by kernel_rfl) hk rfl ?_
    refine rtake_c hr hb (fun k x hx1 hx2 _ => ?_) (fun hno => ?_)
    · refine bin_lss ?_
      refine pick_t he0 ?_
      refine cond_f (by omega) ?_
      exact h w f S rfl hr (rs (by rw [if_neg (fun hh => hh.2 x (List.mem_of_getElem? hx1) hx2)])) (Below.refl _ _)
    refine bin_lss ?_
    refine pick_t he0 ?_
    refine cond_t (by omega) ?_
    refine fA_Ask_3 ?_
    refine ld1 (v := .int .i64 a.amount) (fun _ => by kernel_rfl) hk rfl ?_
    refine bin_lss ?_
    have fin : ∀ {am : Int}, am = amS a.amount → ∀ w' f', f'.p = f.p → RK w' B f' { S with T := S.T ++ [((who, a.req), (a.node, am), S.B.any (fun q => decide (q = (who, a.req))))] } → Below B w w' → K (.tuple #[]) w' := by
      rintro _ rfl w' f' h4 h5 h6
      exact h w' f' _ h4 h5 (rs (by rw [if_pos ⟨he0, hno⟩])) h6
    by_cases hneg : a.amount < 0
    · refine gsel_nt hneg ?_
      refine pick_t hneg ?_
      refine leatref26_Audit_Say_A4_r ?_
      refine cond_T ?_
      exact rsay_P1 hr hb hB rfl rfl rfl hk rfl (fin (by unfold amS; rw [if_pos (.inl hneg)]))
    · refine gsel_nf hneg ?_
      refine bin_gtr ?_
      refine pick_f hneg ?_
      refine leatref26_Audit_Say_A4_r ?_
      refine cond_p (fun hgt => ?_) (fun hgt => ?_)
      · exact rsay_P1 hr hb hB rfl rfl rfl hk rfl (fin (by unfold amS; rw [if_pos (.inr hgt)]))
      · exact rsay_P1 hr hb hB rfl rfl rfl hk rfl (fin (by unfold amS; rw [if_neg (by omega)]))
  refine cond_f h3 ?_
  refine bin_eql ?_
  by_cases h4 : a.kind = 4
  rotate_left
  · refine cond_f h4 ?_
    exact h w f S rfl hr (by unfold RSay; rw [if_neg he, if_neg hk1, if_neg h2, if_neg h3, if_neg h4]) (Below.refl _ _)
  refine cond_t h4 ?_
  refine hReg_of (fun y => RK y B f S ∧ blk y kb 35 (askC a)) ⟨hr.drew, hk.drew⟩ ?_
  refine hld_of (fun y hy K hK => nilC_p hK) ?_
  refine hld_of (fun y hy K hK => fA_Ref_3 hK) ?_
  refine hld_of (fun y hy K hK => ld1 (v := .slice f.b.1 S.B.length f.b.2) (fun _ => by kernel_rfl) hy.1.head rfl hK) ?_
  refine hld_of (fun y hy K hK => fA_Ask_5 hK) ?_
  refine hld_of (fun y hy K hK => ld1 (v := .int .u64 a.of) (fun _ => by kernel_rfl) hy.2 rfl hK) ?_
  refine hld_of (fun y hy K hK => bld_of (vs := rbC (who, a.of)) (by kernel_rfl) hK) ?_
  refine tail_c (j := 3) Try.underlying29 info_tk2 rfl (by omega) (by omega) (by omega) (fun _ => by kernel_rfl) (by kernel_rfl) rfl (by simp [rbC, Value.oneCell']) hr.drew.b hB1 (by omega) hr.drew.head (by simp) ty_ne.2.2.2.2.2 (fun w' hb' => ⟨hr.drew.below hb', below_blk hb' hk.drew hk.drew.lt⟩) ?_
  intro a' c' w4 u r u1 u2 ho4 hh4 c4 m4
  have el : (S.B ++ [(who, a.of)]).length = S.B.length + 1 := by simp
  have ef : (S.B ++ [(who, a.of)]).flatMap rbC = S.B.flatMap rbC ++ rbC (who, a.of) := by simp
  have hr4 : RK w4 B { f with b := (a', c') } { S with B := S.B ++ [(who, a.of)] } := by
    have hoN : w4.ownsRow B TTk2 5 (.slice a' (S.B ++ [(who, a.of)]).length c') (S.B ++ [(who, a.of)]).length ((S.B ++ [(who, a.of)]).flatMap rbC) := by rw [el, ef]; exact ho4
    obtain ⟨q1, q2, q3, q4, q5, q6⟩ := ty_ne
    have h0 := hr.drew
    refine ⟨by simp only [el]; exact hh4, own_out h0.n c4 (fun k hk => ?_), own_out h0.r c4 (fun k hk => ?_), own_out h0.t c4 (fun k hk => ?_), hoN, h0.hp, fun k hk hk2 => ?_⟩
    · rw [List.mem_cons, Option.mem_toList, not_or]
      exact ⟨fun e => own_p h0.n h0.head q4 (e ▸ hk), own_ne h0.n h0.b q2 k hk⟩
    · rw [List.mem_cons, Option.mem_toList, not_or]
      exact ⟨fun e => own_p h0.r h0.head q5 (e ▸ hk), own_ne h0.r h0.b q3 k hk⟩
    · rw [List.mem_cons, Option.mem_toList, not_or]
      exact ⟨fun e => own_p h0.t h0.head q6 (e ▸ hk), fun e => h0.tb k hk e⟩
    · rw [el] at hk2
      rcases m4 with e | e
      · exact h0.tb k hk (e ▸ hk2)
      · have h7 := (own_blk h0.t hk).2.2
        have h8 := e k hk2
        omega
  have hk4 : blk w4 kb 35 (askC a) := hk.drew.ch c4 (fun hm => hkf (hFB footMem.2.2.2 kb hm))
  have b4 : Below B w w4 := bd.trans (ch_below hr.drew hB1 c4 (hFB footMem.2.2.2))
  have hB4 : B ≤ w4.heap.size := by have := b4.size; omega
  have rs : ∀ {S'}, (((∀ y ∈ S.T, y.1 ≠ (who, a.of)) ∧ S' = { S with B := S.B ++ [(who, a.of)] }) ∨ (∃ k x, S.T[k]? = some x ∧ x.1 = (who, a.of) ∧ (∀ j y, j < k → S.T[j]? = some y → y.1 ≠ (who, a.of)) ∧ S' = { S with B := S.B ++ [(who, a.of)], T := S.T.set k (x.1, x.2.1, true) })) → RSay S who a o s e S' := by
    intro S' hh; unfold RSay; rw [if_neg he, if_neg hk1, if_neg h2, if_neg h3, if_pos h4]; exact hh
  refine leatref26_Audit_Say_A5_r ?_
  refine fA_Ask_5 ?_
  refine ld1 (v := .int .u64 a.of) (fun _ => by kernel_rfl) hk4 rfl ?_
  obtain ⟨f4, hf4⟩ : ∃ f4 : RF, f4 = { f with b := (a', c') } := ⟨_, rfl⟩
  have hp4 : f4.p = f.p := by rw [hf4]
  rw [← hf4] at hr4
  rw [← hp4]
  refine rtake_c' hr4 htl (fun k x hx1 hx2 hx3 => ?_) (fun hno => ?_)
  · refine bin_geq ?_
    refine cond_t (by omega) ?_
    refine rhT hr4 (fun _ _ => ?_)
    have hkT : k < S.T.length := (List.getElem?_eq_some_iff.1 hx1).1
    obtain ⟨g, cur, ha, ho⟩ := own_open hr4.t (show 0 < S.T.length by omega)
    refine idxO ha Try.underlying29 szT hkT ?_
    refine fA_RTk2_4 ?_
    have hlen := ho.len
    have hnc : S.T.length ≤ f4.t.2 := ho.nc
    refine sto1 (fun _ => by kernel_rfl) ho.blk (by omega) rfl ?_
    intro w5 hb5 o5
    have hr5 := hr4.setT (N' := S.T.set k (x.1, x.2.1, true)) ha o5 (by simp) (Opn.set1 rtC_len ho rfl hx1 (by omega) (takeK x) hb5)
    exact h w5 f4 _ hp4 hr5 (rs (.inr ⟨k, x, hx1, hx2, hx3, rfl⟩)) (b4.trans (o5.below.mono ho.lo))
  · refine bin_geq ?_
    refine cond_f (by omega) ?_
    exact h w4 f4 _ hp4 hr4 (rs (.inl ⟨hno, rfl⟩)) b4

theorem rId_c {o s : Int} (hs : 0 ≤ s) (hs2 : s < 18446744073709551616) (h : K (.int .u64 (treeIdS o s)) w) : call Try.prog 18 #[.int .i64 o, .int .u64 s] K w := by
  refine call_of leatref09_Id_go (leatref09_Id_in ?_)
  by_cases h1 : o < 1
  · have e : treeIdS o s = 0 := by unfold treeIdS; rw [if_pos (by omega)]
    rw [e] at h
    (repeat (first | refine bin_lss ?_ | refine pick_T ?_ | refine cond_T ?_ | refine gsel_Tn ?_ | refine gsel_nt (by omega) ?_ | refine pick_t (by omega) ?_))
    exact h
  by_cases h2 : 6 < o
  · have e : treeIdS o s = 0 := by unfold treeIdS; rw [if_pos (by omega)]
    rw [e] at h
    (repeat (first | refine bin_lss ?_ | refine bin_gtr ?_ | refine pick_T ?_ | refine cond_T ?_ | refine gsel_Tn ?_ | refine gsel_nt (by omega) ?_ | refine gsel_nf (by omega) ?_ | refine pick_t (by omega) ?_ | refine pick_f (by omega) ?_))
    exact h
  by_cases h3 : s < 1
  · have e : treeIdS o s = 0 := by unfold treeIdS; rw [if_pos (by omega)]
    rw [e] at h
    (repeat (first | refine bin_lss ?_ | refine bin_gtr ?_ | refine cond_T ?_ | refine gsel_nt (by omega) ?_ | refine gsel_nf (by omega) ?_ | refine pick_t (by omega) ?_ | refine pick_f (by omega) ?_))
    exact h
  by_cases h4 : 1099511627776 ≤ s
  · have e : treeIdS o s = 0 := by unfold treeIdS; rw [if_pos (by omega)]
    rw [e] at h
    (repeat (first | refine bin_lss ?_ | refine bin_gtr ?_ | refine bin_geq ?_ | refine cond_t (by omega) ?_ | refine gsel_nf (by omega) ?_ | refine pick_f (by omega) ?_))
    exact h
  have e : treeIdS o s = o * 1099511627776 + s := by unfold treeIdS; rw [if_neg (by omega)]
  rw [e] at h
  (repeat (first | refine bin_lss ?_ | refine bin_gtr ?_ | refine bin_geq ?_ | refine cvIU (by omega) (by omega) ?_ | refine cond_f (by omega) ?_ | refine gsel_nf (by omega) ?_ | refine pick_f (by omega) ?_))
  refine bin_shl (by omega) ?_
  have e40 : (2 : Int) ^ (min (40 : Int).toNat IntKind.u64.bits) = 1099511627776 := rfl
  rw [e40, wrap_u64, show (o * 1099511627776) % 18446744073709551616 = o * 1099511627776 by omega]
  refine bin_add ?_
  rw [wrap_u64, show (o * 1099511627776 + s) % 18446744073709551616 = o * 1099511627776 + s by omega]
  exact h

set_option maxHeartbeats 2000000 in
theorem rsay_c {who o s e : Int} {a : Ak} {cs : List Value} (hr : RK w B f S) (hb : RB0 S) (hB : B ≤ w.heap.size) (hx : ansOk cs o s e) (hs : 0 ≤ s) (hs2 : s < 18446744073709551616) (h : ∀ w' f' S', f'.p = f.p → RK w' B f' S' → RSay S who a o s e S' → Below B w w' → K (.tuple #[]) w') :
    call Try.prog 9 #[ptr f.p, .int .i64 who, .agg (askC a).toArray, .agg cs.toArray] K w := by
  obtain ⟨x0, x1, x2, x3⟩ := hx
  refine call_of leatref26_Audit_Say_go (leatref26_Audit_Say_in ?_)
  refine box_of ?_
  intro w1 hk1 b1 s1
  have hk1 : blk w1 w.heap.size 35 (askC a) := hk1
  refine box_of ?_
  intro w2 hx2 b2 s2
  have hx2 : blk w2 w1.heap.size 42 cs := hx2
  have b02 : Below w.heap.size w w2 := b1.trans (b2.mono b1.size)
  have hk2 := below_blk b2 hk1 hk1.lt
  have hr2 := hr.below b02
  have hkf : w.heap.size ∉ f.foot := fun hm => by have := hr.lt _ hm; omega
  have hB2 : B ≤ w2.heap.size := by have := b02.size; omega
  have fin : ∀ w' f' S', f'.p = f.p → RK w' B f' S' → RSay S who a o s e S' → Below B w2 w' → K (.tuple #[]) w' := fun w' f' S' h1 h2 h3 h4 => h w' f' S' h1 h2 h3 ((b02.mono hB).trans h4)
  refine fA_Ans_1 ?_
  refine ld1 (v := .int .i64 e) (fun _ => by kernel_rfl) hx2 x3 ?_
  refine bin_neq ?_
  have go : ¬ (e ≠ 0 ∧ e ≠ 8) → a.kind = 1 → ∀ {a0 who1 k_2 x3 a4 who5 k_6 x7 id8 at9 n10 n11 x12 i13 at14 t15 t16 t17 t18 t19 t20 t21 t22 t23 t24 t25 t26 t27 t28 t29 t30 t31 t32 t33 t34 t35 t36 t37 t38 t39 t40 t41 t42 t43 t44 t45 t46 t47 t48 t49 t50 t51 t52 t53 t54 t55 t56 t57 t58 t59 t60 t61 t62 t63 t64 t65 t66 t67 t68 t69 t70 t71 t72 t73 t74 t75 t76 t77 t78 t79 t80 t81 t82 t83 t84 t85 t86 t87 t88 t89 t90 t91 t92 t93 t94 t95 t96 t97 t98 t99 t100 t101 t102 t103 t104 t105 t106 t107 t108 t109 t110 t111 t112 t113 t114 t115 t116 t117 t118 t119 t120 t121 t122 t123 t124 t125 t126 t127 t128 t129 t130 t131 t132 t133 t134 t135 t136 t137 t138 t139 t140 t141 t142 t143 t144 t145 t146 t147 t148 t149 t150 t151 t152 t153 t154 t155 t156 t157 t158 t159 t160 t161 t162 t163 t164 t165 t166 t167 t168 t169 t170 t171 t172 t173 t174 t175 t176 t177 t178 t179 t180 t181 t182 t183 t184 t185 t186 t187 t188 t189 t190 t191 t192 t193 t194 t195 t196 t197 t198 t199 t200 t201 t202 t203 t204 t205 t206 t207 t208 t209 t210 t211 t212 t213 t214 t215 t216 t217 t218 t219 t220 t221 t222 t223 t224 : Value}, a0 = ptr f.p → k_6 = ptr w.heap.size → id8 = .int .u64 (treeIdS o s) → t41 = .bool (decide (treeIdS o s ≠ 0 ∧ mget S.N (treeIdS o s) = none)) → leatref26_Audit_Say_A1 K ((a0 :: who1 :: k_2 :: x3 :: a4 :: who5 :: k_6 :: x7 :: id8 :: at9 :: n10 :: n11 :: x12 :: i13 :: at14 :: t15 :: t16 :: t17 :: t18 :: t19 :: t20 :: t21 :: t22 :: t23 :: t24 :: t25 :: t26 :: t27 :: t28 :: t29 :: t30 :: t31 :: t32 :: t33 :: t34 :: t35 :: t36 :: t37 :: t38 :: t39 :: t40 :: t41 :: t42 :: t43 :: t44 :: t45 :: t46 :: t47 :: t48 :: t49 :: t50 :: t51 :: t52 :: t53 :: t54 :: t55 :: t56 :: t57 :: t58 :: t59 :: t60 :: t61 :: t62 :: t63 :: t64 :: t65 :: t66 :: t67 :: t68 :: t69 :: t70 :: t71 :: t72 :: t73 :: t74 :: t75 :: t76 :: t77 :: t78 :: t79 :: t80 :: t81 :: t82 :: t83 :: t84 :: t85 :: t86 :: t87 :: t88 :: t89 :: t90 :: t91 :: t92 :: t93 :: t94 :: t95 :: t96 :: t97 :: t98 :: t99 :: t100 :: t101 :: t102 :: t103 :: t104 :: t105 :: t106 :: t107 :: t108 :: t109 :: t110 :: t111 :: t112 :: t113 :: t114 :: t115 :: t116 :: t117 :: t118 :: t119 :: t120 :: t121 :: t122 :: t123 :: t124 :: t125 :: t126 :: t127 :: t128 :: t129 :: t130 :: t131 :: t132 :: t133 :: t134 :: t135 :: t136 :: t137 :: t138 :: t139 :: t140 :: t141 :: t142 :: t143 :: t144 :: t145 :: t146 :: t147 :: t148 :: t149 :: t150 :: t151 :: t152 :: t153 :: t154 :: t155 :: t156 :: t157 :: t158 :: t159 :: t160 :: t161 :: t162 :: t163 :: t164 :: t165 :: t166 :: t167 :: t168 :: t169 :: t170 :: t171 :: t172 :: t173 :: t174 :: t175 :: t176 :: t177 :: t178 :: t179 :: t180 :: t181 :: t182 :: t183 :: t184 :: t185 :: t186 :: t187 :: t188 :: t189 :: t190 :: t191 :: t192 :: t193 :: t194 :: t195 :: t196 :: t197 :: t198 :: t199 :: t200 :: t201 :: t202 :: t203 :: t204 :: t205 :: t206 :: t207 :: t208 :: t209 :: t210 :: t211 :: t212 :: t213 :: t214 :: t215 :: t216 :: t217 :: t218 :: t219 :: t220 :: t221 :: t222 :: t223 :: t224 :: [])) w2 := by
    intro he h1
    intros
    rename_i e0 e6 e8 e41
    have rs : ∀ {S'}, (if treeIdS o s ≠ 0 ∧ mget S.N (treeIdS o s) = none then ∃ L', InsN S.N (treeIdS o s, (a.node, withinS a.amount)) L' ∧ S' = { S with N := L' } else S' = S) → RSay S who a o s e S' := by
      intro S' hh; unfold RSay; rw [if_neg he, if_pos h1]; exact hh
    refine rsay_A1 hr2 hb hB2 e0 e6 hk2 e8 e41 (fun hf => ?_) (fun ht => ?_)
    · exact fin w2 f S rfl hr2 (rs (by rw [if_neg (of_decide_eq_false hf)])) (Below.refl _ _)
    · intro w' f' L' h4 h5 h6 h7
      exact fin w' f' _ h4 h5 (rs (by rw [if_pos (of_decide_eq_true ht)]; exact ⟨L', h6, rfl⟩)) h7
  by_cases he0 : e = 0
  · have he : ¬ (e ≠ 0 ∧ e ≠ 8) := fun hh => hh.1 he0
    refine gsel_pf (by omega) ?_
    refine pick_f (by omega) ?_
    refine cond_F ?_
    refine fA_Ask_0 ?_
    refine ld1 (v := .int .u8 a.kind) (fun _ => by kernel_rfl) hk2 rfl ?_
    refine bin_eql ?_
    by_cases h1 : a.kind = 1
    · refine cond_t h1 ?_
      refine fA_Ans_0 ?_
      refine fA_Ev_0 ?_
      refine ld1 (v := .int .i64 o) (fun _ => by kernel_rfl) hx2 x1 ?_
      refine fA_Ans_0 ?_
      refine fA_Ev_1 ?_
      refine ld1 (v := .int .u64 s) (fun _ => by kernel_rfl) hx2 x2 ?_
      refine rId_c hs hs2 ?_
      refine bin_neq ?_
      by_cases hid : treeIdS o s = 0
      · refine gsel_pf (by omega) ?_
        refine pick_f (by omega) ?_
        exact go he h1 rfl rfl rfl (by simp [hid])
      refine gsel_pt hid ?_
      refine rnode_c hr2 hb (fun k x hx1 hx2 hg => ?_) (fun hg => ?_)
      · refine bin_lss ?_
        refine pick_t hid ?_
        exact go he h1 rfl rfl rfl (by rw [decide_eq_false (by omega), decide_eq_false (by rw [hg]; simp)]; rfl)
      · refine bin_lss ?_
        refine pick_t hid ?_
        exact go he h1 rfl rfl rfl (by rw [decide_eq_true (by omega), decide_eq_true ⟨hid, hg⟩]; rfl)
    · refine cond_f h1 ?_
      refine bin_eql ?_
      exact rsay_A2 hr2 hb hB2 rfl rfl rfl hk2 hkf rfl hx2 x3 rfl rfl o s he h1 fin
  refine gsel_pt he0 ?_
  refine fA_Ans_1 ?_
  refine ld1 (v := .int .i64 e) (fun _ => by kernel_rfl) hx2 x3 ?_
  refine bin_neq ?_
  refine pick_t he0 ?_
  by_cases he8 : e = 8
  · have he : ¬ (e ≠ 0 ∧ e ≠ 8) := fun hh => hh.2 he8
    refine cond_f (by omega) ?_
    refine fA_Ask_0 ?_
    refine ld1 (v := .int .u8 a.kind) (fun _ => by kernel_rfl) hk2 rfl ?_
    refine bin_eql ?_
    by_cases h1 : a.kind = 1
    · refine cond_t h1 ?_
      refine fA_Ans_0 ?_
      refine fA_Ev_0 ?_
      refine ld1 (v := .int .i64 o) (fun _ => by kernel_rfl) hx2 x1 ?_
      refine fA_Ans_0 ?_
      refine fA_Ev_1 ?_
      refine ld1 (v := .int .u64 s) (fun _ => by kernel_rfl) hx2 x2 ?_
      refine rId_c hs hs2 ?_
      refine bin_neq ?_
      by_cases hid : treeIdS o s = 0
      · refine gsel_pf (by omega) ?_
        refine pick_f (by omega) ?_
        exact go he h1 rfl rfl rfl (by simp [hid])
      refine gsel_pt hid ?_
      refine rnode_c hr2 hb (fun k x hx1 hx2 hg => ?_) (fun hg => ?_)
      · refine bin_lss ?_
        refine pick_t hid ?_
        exact go he h1 rfl rfl rfl (by rw [decide_eq_false (by omega), decide_eq_false (by rw [hg]; simp)]; rfl)
      · refine bin_lss ?_
        refine pick_t hid ?_
        exact go he h1 rfl rfl rfl (by rw [decide_eq_true (by omega), decide_eq_true ⟨hid, hg⟩]; rfl)
    · refine cond_f h1 ?_
      refine bin_eql ?_
      exact rsay_A2 hr2 hb hB2 rfl rfl rfl hk2 hkf rfl hx2 x3 rfl rfl o s he h1 fin
  refine cond_t he8 ?_
  exact fin w2 f S rfl hr2 (by unfold RSay; rw [if_pos ⟨he0, he8⟩]) (Below.refl _ _)
end
end Go.Proofs.Ytcieejlkdfdpiaa
