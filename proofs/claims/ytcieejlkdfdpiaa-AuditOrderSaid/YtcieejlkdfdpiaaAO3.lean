/- AuditOrder, the walk: the loop over what is said. -/
import Derived.Test.YtcieejlkdfdpiaaAO2
namespace Go.Proofs.Ytcieejlkdfdpiaa
set_option maxRecDepth 100000
open Go.RowKit Go.ChangeMaps
attribute [local irreducible] bin un conv call callV blt slc fldA fld idxA idx lkp mUpd mEnt eSt rng nxt ent ext alc box bld bldS ld sto nilC mkMap mkS ifc pick rdy wts gsel sti cond retM Gives cCode cGrp cSeq cOp
attribute [local irreducible] leatlaw26_AuditOrder_A1 leatlaw26_AuditOrder_A2 leatlaw26_AuditOrder_A3 leatlaw26_AuditOrder_A4 leatlaw26_AuditOrder_A5 leatlaw26_AuditOrder_A6 leatlaw26_AuditOrder_L1 leatlaw26_AuditOrder_L2 leatlaw26_AuditOrder_L3 leatlaw26_AuditOrder_L4 leatlaw26_AuditOrder_P1 leatlaw26_AuditOrder_P10 leatlaw26_AuditOrder_P11 leatlaw26_AuditOrder_P2 leatlaw26_AuditOrder_P3 leatlaw26_AuditOrder_P4 leatlaw26_AuditOrder_P5 leatlaw26_AuditOrder_P6 leatlaw26_AuditOrder_P7 leatlaw26_AuditOrder_P8 leatlaw26_AuditOrder_P9
section
variable {w : World} {K : KV}
set_option maxHeartbeats 1000000 in
theorem ord_L2 {kinds0 whos1 nodes2 amounts3 order4 kinds5 whos6 nodes7 amounts8 order9 t10 a11 b12 ids13 i14 m15 k_16 all17 i18 x19 i20 at21 i22 l23 u_24 e25 m26 v27 f28 t29 t30 t31 t32 t33 t34 t35 t36 t37 t38 t39 t40 t41 t42 t43 t44 t45 t46 t47 t48 t49 t50 t51 t52 t53 t54 t55 t56 t57 t58 t59 t60 t61 t62 t63 t64 t65 t66 t67 t68 t69 t70 t71 t72 t73 t74 t75 t76 t77 t78 t79 t80 t81 t82 t83 t84 t85 t86 t87 t88 t89 t90 t91 t92 t93 t94 t95 t96 t97 t98 t99 t100 t101 t102 t103 t104 t105 t106 t107 t108 t109 t110 t111 t112 t113 t114 t115 t116 t117 t118 t119 t120 t121 t122 t123 t124 t125 t126 t127 t128 t129 t130 t131 t132 t133 t134 t135 t136 t137 t138 t139 t140 t141 t142 t143 t144 t145 t146 t147 t148 t149 t150 t151 t152 t153 t154 t155 t156 t157 t158 t159 t160 t161 t162 t163 t164 t165 t166 t167 t168 t169 t170 t171 t172 t173 t174 t175 t176 t177 t178 t179 t180 t181 t182 t183 t184 t185 t186 t187 t188 t189 t190 t191 t192 t193 t194 t195 t196 t197 t198 t199 t200 t201 t202 t203 t204 t205 t206 t207 t208 t209 t210 t211 t212 t213 t214 t215 t216 t217 t218 t219 t220 t221 t222 t223 t224 t225 t226 t227 t228 t229 t230 t231 t232 t233 t234 t235 t236 t237 t238 t239 t240 t241 t242 t243 t244 t245 t246 t247 t248 t249 t250 t251 t252 t253 t254 t255 t256 t257 t258 t259 t260 t261 : Value} {B : Nat} {fa fb : AF} {W : World} {o : OI} {n : Nat} {kk ww mm aa : Option Addr × Nat} {ia : Option Addr} {ic : Nat}
    (hA : OA W o n kk ww mm aa) (ht : TW W.heap.size B w fa fb ⟨N4 4, [], [], []⟩ ⟨N4 4, [], [], []⟩) (hI : OV w B E64 ia 4 ic ((oids 4).map uv)) (hW : Below W.heap.size W w) (h0 : W.heap.size ≤ B)
    (ek : kinds0 = .slice kk.1 n kk.2) (ew : whos1 = .slice ww.1 n ww.2) (en : nodes2 = .slice mm.1 n mm.2) (eam : amounts3 = .slice aa.1 n aa.2) (ea : a11 = ptr fa.p) (eb : b12 = ptr fb.p) (eid : ids13 = .slice ia 4 ic) (eal : all17 = .slice none 0 0) (ei : i18 = .int .i64 0)
    {v4 : Value} (e4 : order4 = v4)
    (hB : ∀ {kinds0 whos1 nodes2 amounts3 order4 kinds5 whos6 nodes7 amounts8 order9 t10 a11 b12 ids13 i14 m15 k_16 all17 i18 x19 i20 at21 i22 l23 u_24 e25 m26 v27 f28 t29 t30 t31 t32 t33 t34 t35 t36 t37 t38 t39 t40 t41 t42 t43 t44 t45 t46 t47 t48 t49 t50 t51 t52 t53 t54 t55 t56 t57 t58 t59 t60 t61 t62 t63 t64 t65 t66 t67 t68 t69 t70 t71 t72 t73 t74 t75 t76 t77 t78 t79 t80 t81 t82 t83 t84 t85 t86 t87 t88 t89 t90 t91 t92 t93 t94 t95 t96 t97 t98 t99 t100 t101 t102 t103 t104 t105 t106 t107 t108 t109 t110 t111 t112 t113 t114 t115 t116 t117 t118 t119 t120 t121 t122 t123 t124 t125 t126 t127 t128 t129 t130 t131 t132 t133 t134 t135 t136 t137 t138 t139 t140 t141 t142 t143 t144 t145 t146 t147 t148 t149 t150 t151 t152 t153 t154 t155 t156 t157 t158 t159 t160 t161 t162 t163 t164 t165 t166 t167 t168 t169 t170 t171 t172 t173 t174 t175 t176 t177 t178 t179 t180 t181 t182 t183 t184 t185 t186 t187 t188 t189 t190 t191 t192 t193 t194 t195 t196 t197 t198 t199 t200 t201 t202 t203 t204 t205 t206 t207 t208 t209 t210 t211 t212 t213 t214 t215 t216 t217 t218 t219 t220 t221 t222 t223 t224 t225 t226 t227 t228 t229 t230 t231 t232 t233 t234 t235 t236 t237 t238 t239 t240 t241 t242 t243 t244 t245 t246 t247 t248 t249 t250 t251 t252 t253 t254 t255 t256 t257 t258 t259 t260 t261 : Value} {w2 : World} {a2 : Option Addr} {c2 : Nat} {S : AS} {B2 : Nat}, whos1 = .slice ww.1 n ww.2 → order4 = v4 → a11 = ptr fa.p → b12 = ptr fb.p → ids13 = .slice ia 4 ic → all17 = .slice a2 n c2 → TW W.heap.size B w2 fa fb S ⟨N4 4, [], [], []⟩ → GS n o.who o.ask (N4 4) (fun i => i < n) S →
      w2.ownsRow B2 TAsk 6 (.slice a2 n c2) n (askR o n) → B ≤ B2 → OV w2 B E64 ia 4 ic ((oids 4).map uv) → Below W.heap.size W w2 → leatlaw26_AuditOrder_P4 K ((kinds0 :: whos1 :: nodes2 :: amounts3 :: order4 :: kinds5 :: whos6 :: nodes7 :: amounts8 :: order9 :: t10 :: a11 :: b12 :: ids13 :: i14 :: m15 :: k_16 :: all17 :: i18 :: x19 :: i20 :: at21 :: i22 :: l23 :: u_24 :: e25 :: m26 :: v27 :: f28 :: t29 :: t30 :: t31 :: t32 :: t33 :: t34 :: t35 :: t36 :: t37 :: t38 :: t39 :: t40 :: t41 :: t42 :: t43 :: t44 :: t45 :: t46 :: t47 :: t48 :: t49 :: t50 :: t51 :: t52 :: t53 :: t54 :: t55 :: t56 :: t57 :: t58 :: t59 :: t60 :: t61 :: t62 :: t63 :: t64 :: t65 :: t66 :: t67 :: t68 :: t69 :: t70 :: t71 :: t72 :: t73 :: t74 :: t75 :: t76 :: t77 :: t78 :: t79 :: t80 :: t81 :: t82 :: t83 :: t84 :: t85 :: t86 :: t87 :: t88 :: t89 :: t90 :: t91 :: t92 :: t93 :: t94 :: t95 :: t96 :: t97 :: t98 :: t99 :: t100 :: t101 :: t102 :: t103 :: t104 :: t105 :: t106 :: t107 :: t108 :: t109 :: t110 :: t111 :: t112 :: t113 :: t114 :: t115 :: t116 :: t117 :: t118 :: t119 :: t120 :: t121 :: t122 :: t123 :: t124 :: t125 :: t126 :: t127 :: t128 :: t129 :: t130 :: t131 :: t132 :: t133 :: t134 :: t135 :: t136 :: t137 :: t138 :: t139 :: t140 :: t141 :: t142 :: t143 :: t144 :: t145 :: t146 :: t147 :: t148 :: t149 :: t150 :: t151 :: t152 :: t153 :: t154 :: t155 :: t156 :: t157 :: t158 :: t159 :: t160 :: t161 :: t162 :: t163 :: t164 :: t165 :: t166 :: t167 :: t168 :: t169 :: t170 :: t171 :: t172 :: t173 :: t174 :: t175 :: t176 :: t177 :: t178 :: t179 :: t180 :: t181 :: t182 :: t183 :: t184 :: t185 :: t186 :: t187 :: t188 :: t189 :: t190 :: t191 :: t192 :: t193 :: t194 :: t195 :: t196 :: t197 :: t198 :: t199 :: t200 :: t201 :: t202 :: t203 :: t204 :: t205 :: t206 :: t207 :: t208 :: t209 :: t210 :: t211 :: t212 :: t213 :: t214 :: t215 :: t216 :: t217 :: t218 :: t219 :: t220 :: t221 :: t222 :: t223 :: t224 :: t225 :: t226 :: t227 :: t228 :: t229 :: t230 :: t231 :: t232 :: t233 :: t234 :: t235 :: t236 :: t237 :: t238 :: t239 :: t240 :: t241 :: t242 :: t243 :: t244 :: t245 :: t246 :: t247 :: t248 :: t249 :: t250 :: t251 :: t252 :: t253 :: t254 :: t255 :: t256 :: t257 :: t258 :: t259 :: t260 :: t261 :: [])) w2) :
    leatlaw26_AuditOrder_L2 K ((kinds0 :: whos1 :: nodes2 :: amounts3 :: order4 :: kinds5 :: whos6 :: nodes7 :: amounts8 :: order9 :: t10 :: a11 :: b12 :: ids13 :: i14 :: m15 :: k_16 :: all17 :: i18 :: x19 :: i20 :: at21 :: i22 :: l23 :: u_24 :: e25 :: m26 :: v27 :: f28 :: t29 :: t30 :: t31 :: t32 :: t33 :: t34 :: t35 :: t36 :: t37 :: t38 :: t39 :: t40 :: t41 :: t42 :: t43 :: t44 :: t45 :: t46 :: t47 :: t48 :: t49 :: t50 :: t51 :: t52 :: t53 :: t54 :: t55 :: t56 :: t57 :: t58 :: t59 :: t60 :: t61 :: t62 :: t63 :: t64 :: t65 :: t66 :: t67 :: t68 :: t69 :: t70 :: t71 :: t72 :: t73 :: t74 :: t75 :: t76 :: t77 :: t78 :: t79 :: t80 :: t81 :: t82 :: t83 :: t84 :: t85 :: t86 :: t87 :: t88 :: t89 :: t90 :: t91 :: t92 :: t93 :: t94 :: t95 :: t96 :: t97 :: t98 :: t99 :: t100 :: t101 :: t102 :: t103 :: t104 :: t105 :: t106 :: t107 :: t108 :: t109 :: t110 :: t111 :: t112 :: t113 :: t114 :: t115 :: t116 :: t117 :: t118 :: t119 :: t120 :: t121 :: t122 :: t123 :: t124 :: t125 :: t126 :: t127 :: t128 :: t129 :: t130 :: t131 :: t132 :: t133 :: t134 :: t135 :: t136 :: t137 :: t138 :: t139 :: t140 :: t141 :: t142 :: t143 :: t144 :: t145 :: t146 :: t147 :: t148 :: t149 :: t150 :: t151 :: t152 :: t153 :: t154 :: t155 :: t156 :: t157 :: t158 :: t159 :: t160 :: t161 :: t162 :: t163 :: t164 :: t165 :: t166 :: t167 :: t168 :: t169 :: t170 :: t171 :: t172 :: t173 :: t174 :: t175 :: t176 :: t177 :: t178 :: t179 :: t180 :: t181 :: t182 :: t183 :: t184 :: t185 :: t186 :: t187 :: t188 :: t189 :: t190 :: t191 :: t192 :: t193 :: t194 :: t195 :: t196 :: t197 :: t198 :: t199 :: t200 :: t201 :: t202 :: t203 :: t204 :: t205 :: t206 :: t207 :: t208 :: t209 :: t210 :: t211 :: t212 :: t213 :: t214 :: t215 :: t216 :: t217 :: t218 :: t219 :: t220 :: t221 :: t222 :: t223 :: t224 :: t225 :: t226 :: t227 :: t228 :: t229 :: t230 :: t231 :: t232 :: t233 :: t234 :: t235 :: t236 :: t237 :: t238 :: t239 :: t240 :: t241 :: t242 :: t243 :: t244 :: t245 :: t246 :: t247 :: t248 :: t249 :: t250 :: t251 :: t252 :: t253 :: t254 :: t255 :: t256 :: t257 :: t258 :: t259 :: t260 :: t261 :: [])) w := by
  subst ek ew en eam ea eb eid eal ei e4
  have hn30 := hA.hn
  refine leatlaw26_AuditOrder_L2_r (Inv := fun all i _ _ wr => ∃ (j : Nat) (a : Option Addr) (c : Nat) (S : AS), i = .int .i64 (j : Nat) ∧ j ≤ n ∧ all = .slice a j c ∧ TW W.heap.size B wr fa fb S ⟨N4 4, [], [], []⟩ ∧ GS n o.who o.ask (N4 4) (fun i => i < j) S ∧
      wr.ownsRow w.heap.size TAsk 6 (.slice a j c) j (askR o j) ∧ OV wr B E64 ia 4 ic ((oids 4).map uv) ∧ Below W.heap.size W wr ∧ w.heap.size ≤ wr.heap.size)
    (μ := fun all i _ _ _ => n - (intOf i).toNat) ⟨0, none, 0, _, rfl, by omega, rfl, ht, GS.start.mono (fun i _ => by simp), World.ownsRow_nil w w.heap.size TAsk 6, hI, hW, Nat.le_refl _⟩ ?_
  rintro _ _ _ _ _ w1 m ⟨j, a, c, S, rfl, hj, rfl, t1, g1, o1, i1, W1, z1⟩ hm
  refine len8 ?_
  refine bin_lss ?_
  by_cases hjn : j < n
  rotate_left
  · have : j = n := by omega
    subst this
    refine cond_f (by omega) ?_
    exact hB rfl rfl rfl rfl rfl rfl t1 g1 o1 ht.top i1 W1
  refine cond_t (by omega) ?_
  have A1 := hA.below W1
  have al := hA.ha.2 _ (getD_mem (l := o.al) (i := j) (by have := hA.ha.len; omega))
  refine hReg_of (fun x => RB x mm.1 n mm.2 o.nl ∧ RV x ia 4 ic ((oids 4).map uv) ∧ RU x aa.1 n aa.2 o.al) ⟨rb_drew A1.hm, rv_drew (OV.rv i1), rv_drew A1.ha.1, A1.ha.2⟩ ?_
  refine hld_of (fun x hx K hK => idx8n hx.1 hjn hK) ?_
  refine hld_of (fun x hx K hK => ld8n hx.1 hjn hK) ?_
  refine hld_of (v := .int .u8 (((o.nl.getD j 0).toNat % 4 : Nat) : Int)) (fun x hx K hK => rem_nn (by omega) (by omega) (by rw [show (((o.nl.getD j 0).toNat : Nat) : Int) % 4 = (((o.nl.getD j 0).toNat % 4 : Nat) : Int) by omega]; exact hK)) ?_
  refine hld_of (fun x hx K hK => idxU hx.2.1 (by omega) fun _ => hK) ?_
  refine hld_of (v := uv (oid ((o.nl.getD j 0).toNat % 4))) (fun x hx K hK => ldUn hx.2.1 (by omega) (by rw [G_oids (by omega)]; exact hK)) ?_
  refine hld_of (fun x hx K hK => idx16n hx.2.2 hjn hK) ?_
  refine hld_of (fun x hx K hK => ld16n hx.2.2 hjn hK) ?_
  refine hld_of (v := .int .i64 (o.al.getD j 0)) (fun x hx K hK => conv_int Try.underlying58 Try.underlying2 (by rw [wrap_i64 (by omega) (by omega)]; exact hK)) ?_
  refine hld_of (v := .int .i64 (1 + o.al.getD j 0)) (fun x hx K hK => add64 (by omega) (by omega) hK) ?_
  refine hld_of (v := .int .u64 (j : Nat)) (fun x hx K hK => conv_int Try.underlying3 Try.underlying33 (by rw [wrap_u64, show ((j : Nat) : Int) % 18446744073709551616 = (j : Nat) by omega]; exact hK)) ?_
  refine hld_of (v := .int .u64 ((j : Int) + 1)) (fun x hx K hK => bin_add (by rw [wrap_u64, show ((j : Nat) + 1 : Int) % 18446744073709551616 = (j : Int) + 1 by omega]; exact hK)) ?_
  refine hld_of (fun x hx K hK => bld_of (vs := askC (o.tak j)) (by kernel_rfl) hK) ?_
  refine alc_of (z := .agg #[.int .u8 0, .int .u64 0, .int .i64 0, .int .i64 0, .int .u64 0, .int .u64 0]) (by kernel_rfl) ?_
  intro w2 hb2 b2 s2
  have bd : Below w1.heap.size w1 w1.drew := (Below.refl _ w1).drew
  have b12 : Below w1.heap.size w1 w2 := bd.trans b2
  have A2 := hA.below (W1.trans (b12.mono t1.b0))
  have i2 := own_bel i1 b12
  have zd : w1.drew.heap.size = w1.heap.size := rfl
  refine hSub_same ⟨A2.hm, OV.rv i2, A2.ha⟩ ?_
  refine stoA (n := 6) (vs := askC (o.tak j)) (by kernel_rfl) rfl hb2 (by simp [Value.cells]) (by simp [askC, Value.oneCell']) ?_
  intro w3 hb3 o3
  have hb3 : blk w3 w1.heap.size TAsk (askC (o.tak j)) := hb3
  have b13 : Below w1.heap.size w1 w3 := b12.trans o3.below
  have W3 := W1.trans (b13.mono t1.b0)
  have A3 := hA.below W3
  have t3 := t1.below b13
  have i3 := own_bel i1 b13
  have own3 := own_bel o1 b13
  have s3 : w3.heap.size = w1.heap.size + 1 := o3.size.trans s2
  have tp := t1.top
  refine idx8n A3.hk hjn ?_
  refine ld8n A3.hk hjn ?_
  refine rem_nn (by omega) (by omega) ?_
  refine bin_eql ?_
  have dec : ∀ {x : Value}, x = .int .i64 ((j : Int) + 1) → n - (intOf x).toNat < m := by
    rintro _ rfl; rw [hm]; simp only [intOf]; omega
  have fin : ∀ {w4 : World} {a2 : Option Addr} {c2 : Nat} {e2 : Env}, Below w1.heap.size w1 w3 → w3.heap.size ≤ w4.heap.size → gd e2 17 = .slice a2 (j + 1) c2 → gd e2 18 = .int .i64 ((j : Int) + 1) → TW W.heap.size B w4 fa fb (stp o.who o.ask S j) ⟨N4 4, [], [], []⟩ →
      w4.ownsRow w.heap.size TAsk 6 (.slice a2 (j + 1) c2) (j + 1) (askR o (j + 1)) → Below W.heap.size W w4 → OV w4 B E64 ia 4 ic ((oids 4).map uv) →
      (∃ (j' : Nat) (a : Option Addr) (c : Nat) (S : AS), gd e2 18 = .int .i64 (j' : Nat) ∧ j' ≤ n ∧ gd e2 17 = .slice a j' c ∧ TW W.heap.size B w4 fa fb S ⟨N4 4, [], [], []⟩ ∧ GS n o.who o.ask (N4 4) (fun i => i < j') S ∧
      w4.ownsRow w.heap.size TAsk 6 (.slice a j' c) j' (askR o j') ∧ OV w4 B E64 ia 4 ic ((oids 4).map uv) ∧ Below W.heap.size W w4 ∧ w.heap.size ≤ w4.heap.size) := by
    intro w4 a2 c2 e2 _ hz h17 h18 t4 o4 W4 i4
    exact ⟨j + 1, a2, c2, _, by rw [h18]; simp, by omega, h17, t4, (g1.step hA.its hjn).mono (fun i _ => by constructor <;> intro h <;> omega), o4, i4, W4, by omega⟩
  have hidb : ∀ k, (Value.slice ia 4 ic).ownBlock = some k → B ≤ k ∧ k < w.heap.size := fun k hk => World.ownsRow.lt hI k hk
  have keepI : ∀ {w4 w5 : World}, (∀ k, k < w4.heap.size → B ≤ k → (∀ q, (Value.slice a j c).ownBlock = some q → k ≠ q) → w5.heap[k]? = w4.heap[k]?) → OV w4 B E64 ia 4 ic ((oids 4).map uv) → OV w5 B E64 ia 4 ic ((oids 4).map uv) := fun hk h4 => own_same h4 fun k hkk => hk k (World.ownsRow.lt h4 k hkk).2 (hidb k hkk).1 fun q hq e => by
    have := (World.ownsRow.lt o1 q hq).1
    have := (hidb k hkk).2
    omega
  have hxo : ∀ k, (Value.slice a j c).ownBlock = some k → k ≠ w1.heap.size := fun k hk => by have := (World.ownsRow.lt o1 k hk).2; omega
  by_cases hc : (o.kl.getD j 0).toNat % 2 = 1 ∧ 0 < j
  · have hask : o.ask j = o.fre j := by unfold OI.ask; rw [if_pos hc]
    refine gsel_pt (by omega) ?_
    refine bin_gtr ?_
    refine pick_t (by omega) ?_
    refine leatlaw26_AuditOrder_A3_r ?_
    refine cond_t (by omega) ?_
    refine conv_int Try.underlying3 Try.underlying33 ?_
    rw [wrap_u64, show ((j : Nat) : Int) % 18446744073709551616 = (j : Nat) by omega]
    refine bin_add ?_
    rw [wrap_u64, show (((j : Nat) : Int) + 1) % 18446744073709551616 = (j : Int) + 1 by omega]
    refine idx16n A3.ha hjn ?_
    refine ld16n A3.ha hjn ?_
    refine conv_int Try.underlying58 Try.underlying33 ?_
    rw [wrap_u64, show (o.al.getD j 0) % 18446744073709551616 = o.al.getD j 0 by omega]
    refine conv_int Try.underlying3 Try.underlying33 ?_
    rw [wrap_u64, show ((j : Nat) : Int) % 18446744073709551616 = (j : Nat) by omega]
    refine rem_nn (by omega) (by omega) ?_
    have hr0 := Int.emod_nonneg (o.al.getD j 0) (show ((j : Nat) : Int) ≠ 0 by omega)
    have hr1 := Int.emod_lt_of_pos (o.al.getD j 0) (show (0 : Int) < (j : Nat) by omega)
    refine bin_add ?_
    rw [wrap_u64, show (1 + o.al.getD j 0 % ((j : Nat) : Int)) % 18446744073709551616 = 1 + o.al.getD j 0 % ((j : Nat) : Int) by omega]
    refine bld_of (vs := askC (o.fre j)) (by kernel_rfl) ?_
    refine stoA (n := 6) (vs := askC (o.fre j)) (by kernel_rfl) rfl hb3 (by simp [askC]) (by simp [askC, Value.oneCell']) ?_
    intro w4 hb4 o4
    have hb4 : blk w4 w1.heap.size TAsk (askC (o.ask j)) := by rw [hask]; exact hb4
    have cg : Ch [w1.heap.size] w3 w4 := Ch.of_oth o4 (by simp)
    have own4 : w4.ownsRow w.heap.size TAsk 6 (.slice a j c) j (askR o j) := own_same own3 fun k hk => o4.other k (hxo k hk)
    have i4 : OV w4 B E64 ia 4 ic ((oids 4).map uv) := own_same i3 fun k hk => o4.other k (by have := (hidb k hk).2; omega)
    have t4 := t3.ch cg (by simp; omega)
    have W4 := W3.trans (cg.below (by simp; omega) t3.b0)
    have s4 := o4.size
    refine ord_P6 (a := a) (c := c) (xb := w1.heap.size) hjn hA t4 own4 W4 ht.top (by omega) h0 rfl rfl rfl rfl rfl hb4 (by omega) hxo ?_
    intro e2 w5 a2 c2 h17 h18 t5 o5 W5 hk5 hz5
    exact ⟨fin b13 (by omega) h17 h18 t5 o5 W5 (keepI hk5 i4), dec h18⟩
  · have hask : o.ask j = o.tak j := by unfold OI.ask; rw [if_neg hc]
    by_cases hk1 : (o.kl.getD j 0).toNat % 2 = 1
    · refine gsel_pt (by omega) ?_
      refine bin_gtr ?_
      refine pick_t (by omega) ?_
      refine leatlaw26_AuditOrder_A3_r ?_
      refine cond_f (by omega) ?_
      refine ord_P6 (a := a) (c := c) (xb := w1.heap.size) hjn hA t3 own3 W3 ht.top (by omega) h0 rfl rfl rfl rfl rfl (by rw [hask]; exact hb3) (by omega) hxo ?_
      intro e2 w5 a2 c2 h17 h18 t5 o5 W5 hk5 hz5
      exact ⟨fin b13 (by omega) h17 h18 t5 o5 W5 (keepI hk5 i3), dec h18⟩
    · refine gsel_pf (by omega) ?_
      refine pick_f (by omega) ?_
      refine leatlaw26_AuditOrder_A3_r ?_
      refine cond_F ?_
      refine ord_P6 (a := a) (c := c) (xb := w1.heap.size) hjn hA t3 own3 W3 ht.top (by omega) h0 rfl rfl rfl rfl rfl (by rw [hask]; exact hb3) (by omega) hxo ?_
      intro e2 w5 a2 c2 h17 h18 t5 o5 W5 hk5 hz5
      exact ⟨fin b13 (by omega) h17 h18 t5 o5 W5 (keepI hk5 i3), dec h18⟩
end
end Go.Proofs.Ytcieejlkdfdpiaa
