/- The statement of AuditOrder: whatever the input, true, and the input reads as it did. -/
import Derived.Test.YtcieejlkdfdpiaaAO4
import Derived.Test.YtcieejlkdfdpiaaFrame
namespace Go.Proofs.Ytcieejlkdfdpiaa
set_option maxRecDepth 100000
open Go.ChangeShapes Go.WideShapes Go.ChangeAt Go.RowKit Go.ChangeMaps
section
variable {H : Type} {enc : TypeId × Value → H} {W : World} {base : Nat} {held : Bool}
theorem ru_of_trod {fuel : Nat} {cs : List Value} {a : Option Addr} {n c : Nat} {x : DataW H × List MemPlace} (hc : cs = [.slice a n c])
    (hf : DataW.trod enc Try.prog W base (fun _ => true) held fuel 55 cs = some x) : (∃ l, RU W a n c l) ∧ n ≤ c ∧ c ≤ 9223372036854775807 := by
  rcases open_ints Try.underlying55 Try.underlying58 (by kernel_rfl) hf with ⟨hcs, _⟩ | ⟨x, l, c, zs, hcs, _, hl, hm, hz, _, hcell, hwz⟩
  · rw [hc] at hcs
    simp only [List.cons.injEq, Value.slice.injEq, and_true] at hcs
    obtain ⟨rfl, rfl, rfl⟩ := hcs
    exact ⟨⟨[], RV.nil W, by simp⟩, by omega, by omega⟩
  · rw [hc] at hcs
    simp only [List.cons.injEq, Value.slice.injEq, and_true] at hcs
    obtain ⟨rfl, rfl, rfl⟩ := hcs
    have hz : zs.length = c := by simpa using hz
    refine ⟨⟨zs.take n, ?_, fun z hzm => ?_⟩, hl, by simpa [maxLen] using hm⟩
    · have hsp : 0 < n → x.spot = none := by
        intro h0
        have := World.cell?_spot (hcell 0 (by omega))
        simpa [Addr.add] using this
      refine ⟨by simp; omega, hl, fun h0 => ⟨x.block, x.off, by have := hsp h0; obtain ⟨b, o, s⟩ := x; cases this; rfl⟩, (fun hh => by cases hh), fun i v hv => ?_⟩
      have hi : i < n := by
        have := (List.getElem?_eq_some_iff.1 hv).1
        simp at this; omega
      rw [← add_slot (hsp (by omega)), hcell i (by omega)]
      have hiz : i < zs.length := by omega
      rw [List.getElem?_map, List.getElem?_take_of_lt hi, List.getElem?_eq_getElem hiz] at hv
      simp only [Option.map_some, Option.some.injEq] at hv
      rw [← hv]
      simp [List.getD, hiz]
    · have := hwz z (List.mem_of_mem_take hzm)
      simpa [Lit.wf, IntKind.min, IntKind.max, IntKind.signed, IntKind.bits] using this
end
attribute [local irreducible] bin un conv call callV blt slc fldA fld idxA idx lkp mUpd mEnt eSt rng nxt ent ext alc box bld bldS ld sto nilC mkMap mkS ifc pick rdy wts gsel sti cond retM Gives cCode cGrp cSeq cOp
attribute [local irreducible] leatlaw26_AuditOrder_A1 leatlaw26_AuditOrder_A2 leatlaw26_AuditOrder_A3 leatlaw26_AuditOrder_A4 leatlaw26_AuditOrder_A5 leatlaw26_AuditOrder_A6 leatlaw26_AuditOrder_L1 leatlaw26_AuditOrder_L2 leatlaw26_AuditOrder_L3 leatlaw26_AuditOrder_L4 leatlaw26_AuditOrder_P1 leatlaw26_AuditOrder_P10 leatlaw26_AuditOrder_P11 leatlaw26_AuditOrder_P2 leatlaw26_AuditOrder_P3 leatlaw26_AuditOrder_P4 leatlaw26_AuditOrder_P5 leatlaw26_AuditOrder_P6 leatlaw26_AuditOrder_P7 leatlaw26_AuditOrder_P8 leatlaw26_AuditOrder_P9
section
variable {w : World} {K : KV}
theorem N4_len : (N4 4).length = 4 := by simp [N4]
theorem GS.n4 {n : Nat} {wf : Nat → Int} {q : Nat → Ak} {D : Nat → Prop} {S : AS} (h : GS n wf q (N4 4) D S) : S.nodes.length = 4 := by rw [h.nodes]; exact N4_len

set_option maxHeartbeats 1000000 in
theorem ord_L4 {kinds0 whos1 nodes2 amounts3 order4 kinds5 whos6 nodes7 amounts8 order9 t10 a11 b12 ids13 i14 m15 k_16 all17 i18 x19 i20 at21 i22 l23 u_24 e25 m26 v27 f28 t29 t30 t31 t32 t33 t34 t35 t36 t37 t38 t39 t40 t41 t42 t43 t44 t45 t46 t47 t48 t49 t50 t51 t52 t53 t54 t55 t56 t57 t58 t59 t60 t61 t62 t63 t64 t65 t66 t67 t68 t69 t70 t71 t72 t73 t74 t75 t76 t77 t78 t79 t80 t81 t82 t83 t84 t85 t86 t87 t88 t89 t90 t91 t92 t93 t94 t95 t96 t97 t98 t99 t100 t101 t102 t103 t104 t105 t106 t107 t108 t109 t110 t111 t112 t113 t114 t115 t116 t117 t118 t119 t120 t121 t122 t123 t124 t125 t126 t127 t128 t129 t130 t131 t132 t133 t134 t135 t136 t137 t138 t139 t140 t141 t142 t143 t144 t145 t146 t147 t148 t149 t150 t151 t152 t153 t154 t155 t156 t157 t158 t159 t160 t161 t162 t163 t164 t165 t166 t167 t168 t169 t170 t171 t172 t173 t174 t175 t176 t177 t178 t179 t180 t181 t182 t183 t184 t185 t186 t187 t188 t189 t190 t191 t192 t193 t194 t195 t196 t197 t198 t199 t200 t201 t202 t203 t204 t205 t206 t207 t208 t209 t210 t211 t212 t213 t214 t215 t216 t217 t218 t219 t220 t221 t222 t223 t224 t225 t226 t227 t228 t229 t230 t231 t232 t233 t234 t235 t236 t237 t238 t239 t240 t241 t242 t243 t244 t245 t246 t247 t248 t249 t250 t251 t252 t253 t254 t255 t256 t257 t258 t259 t260 t261 : Value} {B : Nat} {fa fb : AF} {W : World} {o : OI} {n : Nat} {kk ww mm aa : Option Addr × Nat} {ia : Option Addr} {ic : Nat} {Sa Sb : AS} {Da Db : Nat → Prop}
    (hA : OA W o n kk ww mm aa) (ht : TW W.heap.size B w fa fb Sa Sb) (ga : GS n o.who o.ask (N4 4) Da Sa) (gb : GS n o.who o.ask (N4 4) Db Sb) (hD : ∀ i, i < n → (Da i ↔ Db i)) (hI : OV w B E64 ia 4 ic ((oids 4).map uv)) (hW : Below W.heap.size W w)
    (ea : a11 = ptr fa.p) (eb : b12 = ptr fb.p) (eid : ids13 = .slice ia 4 ic) (ei : i22 = .int .i64 0) (h : ∀ w', Below W.heap.size W w' → K (.bool true) w') :
    leatlaw26_AuditOrder_L4 K ((kinds0 :: whos1 :: nodes2 :: amounts3 :: order4 :: kinds5 :: whos6 :: nodes7 :: amounts8 :: order9 :: t10 :: a11 :: b12 :: ids13 :: i14 :: m15 :: k_16 :: all17 :: i18 :: x19 :: i20 :: at21 :: i22 :: l23 :: u_24 :: e25 :: m26 :: v27 :: f28 :: t29 :: t30 :: t31 :: t32 :: t33 :: t34 :: t35 :: t36 :: t37 :: t38 :: t39 :: t40 :: t41 :: t42 :: t43 :: t44 :: t45 :: t46 :: t47 :: t48 :: t49 :: t50 :: t51 :: t52 :: t53 :: t54 :: t55 :: t56 :: t57 :: t58 :: t59 :: t60 :: t61 :: t62 :: t63 :: t64 :: t65 :: t66 :: t67 :: t68 :: t69 :: t70 :: t71 :: t72 :: t73 :: t74 :: t75 :: t76 :: t77 :: t78 :: t79 :: t80 :: t81 :: t82 :: t83 :: t84 :: t85 :: t86 :: t87 :: t88 :: t89 :: t90 :: t91 :: t92 :: t93 :: t94 :: t95 :: t96 :: t97 :: t98 :: t99 :: t100 :: t101 :: t102 :: t103 :: t104 :: t105 :: t106 :: t107 :: t108 :: t109 :: t110 :: t111 :: t112 :: t113 :: t114 :: t115 :: t116 :: t117 :: t118 :: t119 :: t120 :: t121 :: t122 :: t123 :: t124 :: t125 :: t126 :: t127 :: t128 :: t129 :: t130 :: t131 :: t132 :: t133 :: t134 :: t135 :: t136 :: t137 :: t138 :: t139 :: t140 :: t141 :: t142 :: t143 :: t144 :: t145 :: t146 :: t147 :: t148 :: t149 :: t150 :: t151 :: t152 :: t153 :: t154 :: t155 :: t156 :: t157 :: t158 :: t159 :: t160 :: t161 :: t162 :: t163 :: t164 :: t165 :: t166 :: t167 :: t168 :: t169 :: t170 :: t171 :: t172 :: t173 :: t174 :: t175 :: t176 :: t177 :: t178 :: t179 :: t180 :: t181 :: t182 :: t183 :: t184 :: t185 :: t186 :: t187 :: t188 :: t189 :: t190 :: t191 :: t192 :: t193 :: t194 :: t195 :: t196 :: t197 :: t198 :: t199 :: t200 :: t201 :: t202 :: t203 :: t204 :: t205 :: t206 :: t207 :: t208 :: t209 :: t210 :: t211 :: t212 :: t213 :: t214 :: t215 :: t216 :: t217 :: t218 :: t219 :: t220 :: t221 :: t222 :: t223 :: t224 :: t225 :: t226 :: t227 :: t228 :: t229 :: t230 :: t231 :: t232 :: t233 :: t234 :: t235 :: t236 :: t237 :: t238 :: t239 :: t240 :: t241 :: t242 :: t243 :: t244 :: t245 :: t246 :: t247 :: t248 :: t249 :: t250 :: t251 :: t252 :: t253 :: t254 :: t255 :: t256 :: t257 :: t258 :: t259 :: t260 :: t261 :: [])) w := by
  subst ea eb eid ei
  have hn30 := hA.hn
  have aba : AB Sa := ga.ab hA.its (by omega) N4_bnd
  have abb : AB Sb := gb.ab hA.its (by omega) N4_bnd
  refine leatlaw26_AuditOrder_L4_r (Inv := fun i _ _ _ _ _ _ _ _ _ _ wr => ∃ j : Nat, i = .int .i64 (j : Nat) ∧ j ≤ 4 ∧ TW W.heap.size B wr fa fb Sa Sb ∧ OV wr B E64 ia 4 ic ((oids 4).map uv) ∧ Below W.heap.size W wr)
    (μ := fun i _ _ _ _ _ _ _ _ _ _ _ => 4 - (intOf i).toNat) ⟨0, rfl, by omega, ht, hI, hW⟩ ?_
  rintro _ _ _ _ _ _ _ _ _ _ _ _ w1 m ⟨j, rfl, hj, t1, i1, W1⟩ hm
  refine bin_lss ?_
  by_cases hj4 : j < 4
  · refine cond_t (by omega) ?_
    obtain ⟨z1, z2⟩ := N4_sums ga hj4
    have ze := ga.sums gb hD (oid j)
    refine idxU (OV.rv i1) hj4 fun _ => ?_
    refine ldUn (OV.rv i1) hj4 ?_
    rw [G_oids hj4]
    refine sums_c t1.a aba ?_
    intro w2 b2
    refine ext_of rfl ?_
    refine ext_of rfl ?_
    refine ext_of rfl ?_
    have t2 := t1.below b2
    have i2 := own_bel i1 b2
    refine idxU (OV.rv i2) hj4 fun _ => ?_
    refine ldUn (OV.rv i2) hj4 ?_
    rw [G_oids hj4]
    refine sums_c t2.b abb ?_
    intro w3 b3
    rw [← ze]
    refine ext_of rfl ?_
    refine ext_of rfl ?_
    refine ext_of rfl ?_
    have t3 := t2.below b3
    have i3 := own_bel i2 b3
    have W3 := (W1.trans (b2.mono t1.b0)).trans (b3.mono t2.b0)
    refine leatlaw26_AuditOrder_A6_r ?_
    (repeat (first | refine bin_neq ?_ | refine cond_f (by omega) ?_ | refine gsel_nf (by omega) ?_ | refine pick_f (by omega) ?_))
    refine leatlaw26_AuditOrder_P11_r ?_
    refine add64 (by omega) (by omega) ?_
    exact ⟨⟨j + 1, (show Value.int .i64 ((j : Int) + 1) = _ by simp), by omega, t3, i3, W3⟩, by rw [hm]; show 4 - (intOf (.int .i64 ((j : Int) + 1))).toNat < _; simp only [intOf]; omega⟩
  · refine cond_f (by omega) ?_
    refine leatlaw26_AuditOrder_P10_r ?_
    have la := ga.n4
    have lb := gb.n4
    refine boundS_c t1.a aba (by omega) (by intro e; rw [e] at la; cases la) ?_
    intro w2 b2
    have t2 := t1.below b2
    refine boundS_c t2.b abb (by omega) (by intro e; rw [e] at lb; cases lb) ?_
    intro w3 b3
    rw [← ga.bnd gb hD]
    have t3 := t2.below b3
    refine bin_eqlB ?_ Try.underlying4
    rw [show (bndS Sa == bndS Sa) = true by simp]
    (repeat (first | refine gsel_T ?_))
    refine nodesS_c t3.a (by omega) (by intro e; rw [e] at la; cases la) ?_
    intro w4 g c ys hg hp hgl b4
    rw [la]
    refine lenS ?_
    (repeat (first | refine bin_eql ?_ | refine pick_T ?_ | refine gsel_T ?_))
    refine works26_c ?_
    intro w5 b5
    (repeat (first | refine pick_T ?_))
    have t4 := t3.below b4
    exact h w5 ((((W1.trans (b2.mono t1.b0)).trans (b3.mono t2.b0)).trans (b4.mono t3.b0)).trans (b5.mono t4.b0))

theorem order_law {W : World} {K : KV} {nk nw nm na no ck cw cm ca co : Nat} {pk pw pm pa po : Option Addr} {kl wl nl ol : List UInt8} {al : List Int} (h1 : RB W pk nk ck kl) (h2 : RB W pw nw cw wl) (h3 : RB W pm nm cm nl) (h4 : RU W pa na ca al) (h5 : RB W po no co ol)
    (h : ∀ w', Below W.heap.size W w' → K (.bool true) w') : call Try.prog 5 #[.slice pk nk ck, .slice pw nw cw, .slice pm nm cm, .slice pa na ca, .slice po no co] K W := by
  refine call_of leatlaw26_AuditOrder_go (leatlaw26_AuditOrder_in ?_)
  by_cases g1 : 30 < nk
  · (repeat (first | refine bin_gtr ?_ | refine len8 ?_ | refine pick_T ?_ | refine cond_T ?_ | refine gsel_Tn ?_ | refine gsel_nt (by omega) ?_ | refine pick_t (by omega) ?_))
    exact works26_c h
  by_cases g2 : nw = nk
  rotate_left
  · (repeat (first | refine bin_neq ?_ | refine bin_gtr ?_ | refine len8 ?_ | refine pick_T ?_ | refine cond_T ?_ | refine gsel_Tn ?_ | refine gsel_nt (by omega) ?_ | refine gsel_nf (by omega) ?_ | refine pick_t (by omega) ?_ | refine pick_f (by omega) ?_))
    exact works26_c h
  by_cases g3 : nm = nk
  rotate_left
  · (repeat (first | refine bin_neq ?_ | refine bin_gtr ?_ | refine len8 ?_ | refine pick_T ?_ | refine cond_T ?_ | refine gsel_Tn ?_ | refine gsel_nt (by omega) ?_ | refine gsel_nf (by omega) ?_ | refine pick_t (by omega) ?_ | refine pick_f (by omega) ?_))
    exact works26_c h
  by_cases g4 : na = nk
  rotate_left
  · (repeat (first | refine len16 ?_ | refine bin_neq ?_ | refine bin_gtr ?_ | refine len8 ?_ | refine cond_T ?_ | refine gsel_nt (by omega) ?_ | refine gsel_nf (by omega) ?_ | refine pick_t (by omega) ?_ | refine pick_f (by omega) ?_))
    exact works26_c h
  by_cases g5 : 60 < no
  · (repeat (first | refine len16 ?_ | refine bin_neq ?_ | refine bin_gtr ?_ | refine len8 ?_ | refine cond_t (by omega) ?_ | refine gsel_nf (by omega) ?_ | refine pick_f (by omega) ?_))
    exact works26_c h
  subst g2 g3 g4
  (repeat (first | refine len16 ?_ | refine bin_neq ?_ | refine bin_gtr ?_ | refine len8 ?_ | refine cond_f (by omega) ?_ | refine gsel_nf (by omega) ?_ | refine pick_f (by omega) ?_))
  refine anew_c ?_
  intro w1 fa ha1 b1 hfa
  refine leatlaw26_AuditOrder_A1_r ?_
  refine anew_c ?_
  intro w2 fb hb2 b2 hfb
  have s1 := b1.size
  have s2 := b2.size
  have lta : ∀ x ∈ fa.p :: fa.foot, x < w1.heap.size := fun x hx => by
    rcases List.mem_cons.1 hx with rfl | hx
    · exact ha1.head.lt
    · exact foot_lt ha1 x hx
  have ltb : ∀ x ∈ fb.p :: fb.foot, x < w2.heap.size := fun x hx => by
    rcases List.mem_cons.1 hx with rfl | hx
    · exact hb2.head.lt
    · exact foot_lt hb2 x hx
  have t2 : TW W.heap.size w2.heap.size w2 fa fb ⟨[], [], [], []⟩ ⟨[], [], [], []⟩ := by
    refine ⟨ha1.below b2, hb2, fun x hx => ?_, fun x hx hx2 => ?_, Nat.le_refl _⟩
    · rcases hx with hx | hx
      · have := hfa x hx; have := lta x hx; omega
      · have := hfb x hx; have := ltb x hx; omega
    · have := hfb x hx2; have := lta x hx; omega
  have W2 : Below W.heap.size W w2 := b1.trans (b2.mono s1)
  have hA : OA W ⟨kl, wl, nl, al⟩ na (pk, ck) (pw, cw) (pm, cm) (pa, ca) := ⟨h1, h2, h3, h4, by omega⟩
  refine ord_L1 t2 W2 (by omega) rfl rfl rfl rfl rfl rfl rfl rfl rfl (fun e0 e1 e2 e3 e4 ea eb eid t3 i3 W3 => ?_)
  refine leatlaw26_AuditOrder_P1_r ?_
  refine ord_L2 hA t3 i3 W3 (by omega) e0 e1 e2 e3 ea eb eid rfl rfl e4 (fun e1 e4 ea eb eid eal t4 g4 o4 hBB i4 W4 => ?_)
  refine leatlaw26_AuditOrder_P4_r ?_
  refine ord_L3 hA h5 (by omega) t4 o4 hBB i4 W4 e1 e4 ea eb eid eal rfl (fun ea eb eid t5 g5 d5 i5 W5 => ?_)
  refine leatlaw26_AuditOrder_P7_r ?_
  exact ord_L4 hA t5 g4 g5 (fun i hi => ⟨fun _ => d5 i hi, fun _ => hi⟩) i5 W5 ea eb eid rfl h
end

set_option maxRecDepth 100000 in
theorem auditOrder_contract (H : Type) (enc : TypeId × Value → H) (W : World) (base : Nat) (args : Array Value) (ds gs : List (DataW H)) (before : List MemPlace)
    (hval0 : ∀ (j : Nat) t v, Try.f5.params[j]? = some t → args[j]? = some v → Value.okWide Try.prog W .any base t v)
    (hW : DataW.Whole enc Try.prog Try.f5.params.toList Rows.auditOrderSpec.vars false W args.toList ds gs before) :
    Calls Try.prog 5 args W fun e W' => ∃ v, e = .returned v ∧ Rows.auditOrderSpec.post enc Try.prog Try.f5 false true false false W args v W' := by
  have hval := hval0
  have hW' := hW
  obtain ⟨p, q, hA0, hV, rfl, hfz, hnd⟩ := hW
  have hA : DataW.TrodAll enc Try.prog W 0 (fun _ => true) true Try.f5.params.toList args.toList ds p := hA0
  rw [Try.params5] at hA hval
  obtain ⟨v0, vs0, d0, ds0, p0, q0, hargs, rfl, rfl, h0, r0⟩ := trodAll_cons hA
  obtain ⟨v1, vs1, d1, ds1, p1, q1, rfl, rfl, rfl, h1, r1⟩ := trodAll_cons r0
  obtain ⟨v2, vs2, d2, ds2, p2, q2, rfl, rfl, rfl, h2, r2⟩ := trodAll_cons r1
  obtain ⟨v3, vs3, d3, ds3, p3, q3, rfl, rfl, rfl, h3, r3⟩ := trodAll_cons r2
  obtain ⟨v4, vs4, d4, ds4, p4, q4, rfl, rfl, rfl, h4, r4⟩ := trodAll_cons r3
  obtain ⟨rfl, rfl, rfl⟩ := trodAll_nil r4
  obtain rfl : args = #[v0, v1, v2, v3, v4] := by cases args; simp_all
  obtain ⟨rfl, rfl⟩ := trodVars_none hV
  obtain ⟨a0, n0, c0, rfl⟩ := okWide_slice Try.underlying54 (hval 0 54 v0 rfl rfl)
  have k0 := h0
  have lt0 : ∀ x ∈ p0, x.block < W.heap.size := by obtain ⟨m, hm⟩ := k0; exact DataW.trod_lt m _ _ _ hm
  obtain ⟨⟨l0, rb0⟩, hle0, hmx0⟩ : (∃ l, RB W a0 n0 c0 l) ∧ n0 ≤ c0 ∧ c0 ≤ 9223372036854775807 := by
    obtain ⟨fuel, hf⟩ := h0
    exact rb_of_trod (by rfl) hf
  obtain ⟨a1, n1, c1, rfl⟩ := okWide_slice Try.underlying54 (hval 1 54 v1 rfl rfl)
  have k1 := h1
  have lt1 : ∀ x ∈ p1, x.block < W.heap.size := by obtain ⟨m, hm⟩ := k1; exact DataW.trod_lt m _ _ _ hm
  obtain ⟨⟨l1, rb1⟩, hle1, hmx1⟩ : (∃ l, RB W a1 n1 c1 l) ∧ n1 ≤ c1 ∧ c1 ≤ 9223372036854775807 := by
    obtain ⟨fuel, hf⟩ := h1
    exact rb_of_trod (by rfl) hf
  obtain ⟨a2, n2, c2, rfl⟩ := okWide_slice Try.underlying54 (hval 2 54 v2 rfl rfl)
  have k2 := h2
  have lt2 : ∀ x ∈ p2, x.block < W.heap.size := by obtain ⟨m, hm⟩ := k2; exact DataW.trod_lt m _ _ _ hm
  obtain ⟨⟨l2, rb2⟩, hle2, hmx2⟩ : (∃ l, RB W a2 n2 c2 l) ∧ n2 ≤ c2 ∧ c2 ≤ 9223372036854775807 := by
    obtain ⟨fuel, hf⟩ := h2
    exact rb_of_trod (by rfl) hf
  obtain ⟨a3, n3, c3, rfl⟩ := okWide_slice Try.underlying55 (hval 3 55 v3 rfl rfl)
  have k3 := h3
  have lt3 : ∀ x ∈ p3, x.block < W.heap.size := by obtain ⟨m, hm⟩ := k3; exact DataW.trod_lt m _ _ _ hm
  obtain ⟨⟨l3, rb3⟩, hle3, hmx3⟩ : (∃ l, RU W a3 n3 c3 l) ∧ n3 ≤ c3 ∧ c3 ≤ 9223372036854775807 := by
    obtain ⟨fuel, hf⟩ := h3
    exact ru_of_trod (by rfl) hf
  obtain ⟨a4, n4, c4, rfl⟩ := okWide_slice Try.underlying54 (hval 4 54 v4 rfl rfl)
  have k4 := h4
  have lt4 : ∀ x ∈ p4, x.block < W.heap.size := by obtain ⟨m, hm⟩ := k4; exact DataW.trod_lt m _ _ _ hm
  obtain ⟨⟨l4, rb4⟩, hle4, hmx4⟩ : (∃ l, RB W a4 n4 c4 l) ∧ n4 ≤ c4 ∧ c4 ≤ 9223372036854775807 := by
    obtain ⟨fuel, hf⟩ := h4
    exact rb_of_trod (by rfl) hf
  clear hA0 hval0 hval
  have hcalls : Calls Try.prog 5 #[.slice a0 n0 c0, .slice a1 n1 c1, .slice a2 n2 c2, .slice a3 n3 c3, .slice a4 n4 c4] W fun e w' => e = .returned (.bool true) ∧ Below W.heap.size W w' := by
    exact calls_of (order_law rb0 rb1 rb2 rb3 rb4 (fun w' hb' => ⟨rfl, hb'⟩))
  refine hcalls.mono fun e W' ⟨he, bel⟩ => ?_
  subst he
  exact ⟨_, rfl, _, _, _, [], _, [], hW', trodAll_mk1 (shut_bool Try.underlying4 _), (trodAll_cons_mk (Below.trod frame_laid (by kernel_rfl) (of_decide_eq_true (by kernel_rfl)) k0 bel lt0) (trodAll_cons_mk (Below.trod frame_laid (by kernel_rfl) (of_decide_eq_true (by kernel_rfl)) k1 bel lt1) (trodAll_cons_mk (Below.trod frame_laid (by kernel_rfl) (of_decide_eq_true (by kernel_rfl)) k2 bel lt2) (trodAll_cons_mk (Below.trod frame_laid (by kernel_rfl) (of_decide_eq_true (by kernel_rfl)) k3 bel lt3) (trodAll_cons_mk (Below.trod frame_laid (by kernel_rfl) (of_decide_eq_true (by kernel_rfl)) k4 bel lt4) trodAll_mk0))))), rfl, bel.frame _, fun h => by cases h⟩

set_option maxRecDepth 100000 in
theorem auditOrder_lifted (os : Os) (started : os.Started) (H : Type) (enc : TypeId × Value → H) :
    ReturnsInHanded {} Try.checked os 5 .any (Rows.auditOrderSpec.pre6 enc Try.prog Try.f5 Rows.auditOrderRow.domain false) (Rows.auditOrderSpec.post enc Try.prog Try.f5 false true false false) := by
  refine returnsInHanded_of_change (C := Try.checked) frame_own started (by kernel_rfl) Try.func5
    (ChangeSpec.witness6 (enc := enc) (C := Try.checked) false ⟨#[], #[.slice none 0 0, .slice none 0 0, .slice none 0 0, .slice none 0 0, .slice none 0 0], []⟩ 8 (by kernel_rfl) (by kernel_rfl) (by kernel_rfl) (by kernel_rfl)) ?_
  intro W base args ds gs before hval hW _ _
  exact auditOrder_contract H enc W base args ds gs before hval hW

theorem auditOrder_proved : Rows.AuditOrderSaid :=
  OpenClaim.holds_of_wide 5 Try.f5 rfl rfl rfl rfl rfl rfl rfl ⟨rfl, rfl, rfl, rfl, rfl⟩ rfl rfl rfl rfl rfl (by kernel_rfl) Try.func5 (by kernel_rfl)
    (of_decide_eq_true (by kernel_rfl)) (by unfold Func.isWrapper; first | (rw [if_pos (by decide +kernel)]; kernel_rfl) | (rw [if_neg (by decide +kernel)]; exact ⟨rfl, rfl⟩))
    (fun os started H enc _ => auditOrder_lifted os started H enc)

end Go.Proofs.Ytcieejlkdfdpiaa
