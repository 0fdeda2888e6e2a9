/- AuditOrder, the walk: what is said to the second audit. -/
import Derived.Test.YtcieejlkdfdpiaaAO3
namespace Go.Proofs.Ytcieejlkdfdpiaa
set_option maxRecDepth 100000
open Go.RowKit Go.ChangeMaps
theorem askR_len (o : OI) (n : Nat) : (askR o n).length = n * 6 := by
  induction n with
  | zero => rfl
  | succ n ih => rw [askR_next, List.length_append, ih]; simp [askC]; omega
theorem askR_at (o : OI) {k n : Nat} (h : k < n) : ((askR o n).drop (k * 6)).take 6 = askC (o.ask k) := by
  induction n with
  | zero => omega
  | succ n ih =>
    rw [askR_next]
    by_cases hk : k = n
    · subst hk
      rw [List.drop_append_of_le_length (by rw [askR_len]; omega), List.drop_eq_nil_of_le (by rw [askR_len]; omega)]
      simp [askC]
    · rw [List.drop_append_of_le_length (by rw [askR_len]; omega), List.take_append_of_le_length (by rw [List.length_drop, askR_len]; omega)]
      exact ih (by omega)
attribute [local irreducible] bin un conv call callV blt slc fldA fld idxA idx lkp mUpd mEnt eSt rng nxt ent ext alc box bld bldS ld sto nilC mkMap mkS ifc pick rdy wts gsel sti cond retM Gives cCode cGrp cSeq cOp
attribute [local irreducible] leatlaw26_AuditOrder_A1 leatlaw26_AuditOrder_A2 leatlaw26_AuditOrder_A3 leatlaw26_AuditOrder_A4 leatlaw26_AuditOrder_A5 leatlaw26_AuditOrder_A6 leatlaw26_AuditOrder_L1 leatlaw26_AuditOrder_L2 leatlaw26_AuditOrder_L3 leatlaw26_AuditOrder_L4 leatlaw26_AuditOrder_P1 leatlaw26_AuditOrder_P10 leatlaw26_AuditOrder_P11 leatlaw26_AuditOrder_P2 leatlaw26_AuditOrder_P3 leatlaw26_AuditOrder_P4 leatlaw26_AuditOrder_P5 leatlaw26_AuditOrder_P6 leatlaw26_AuditOrder_P7 leatlaw26_AuditOrder_P8 leatlaw26_AuditOrder_P9
section
variable {w : World} {K : KV}
theorem lenA {a : Option Addr} {n c : Nat} {ty : TypeId} {cs : Array Bool} (h : K (.int .i64 (n : Int)) w) : blt Try.prog .len #[57] ty cs #[.slice a n c] K w := len_slc Try.underlying57 h
theorem len16 {a : Option Addr} {n c : Nat} {ty : TypeId} {cs : Array Bool} (h : K (.int .i64 (n : Int)) w) : blt Try.prog .len #[55] ty cs #[.slice a n c] K w := len_slc Try.underlying55 h

theorem ord_P9 {kinds0 whos1 nodes2 amounts3 order4 kinds5 whos6 nodes7 amounts8 order9 t10 a11 b12 ids13 i14 m15 k_16 all17 i18 x19 i20 at21 i22 l23 u_24 e25 m26 v27 f28 t29 t30 t31 t32 t33 t34 t35 t36 t37 t38 t39 t40 t41 t42 t43 t44 t45 t46 t47 t48 t49 t50 t51 t52 t53 t54 t55 t56 t57 t58 t59 t60 t61 t62 t63 t64 t65 t66 t67 t68 t69 t70 t71 t72 t73 t74 t75 t76 t77 t78 t79 t80 t81 t82 t83 t84 t85 t86 t87 t88 t89 t90 t91 t92 t93 t94 t95 t96 t97 t98 t99 t100 t101 t102 t103 t104 t105 t106 t107 t108 t109 t110 t111 t112 t113 t114 t115 t116 t117 t118 t119 t120 t121 t122 t123 t124 t125 t126 t127 t128 t129 t130 t131 t132 t133 t134 t135 t136 t137 t138 t139 t140 t141 t142 t143 t144 t145 t146 t147 t148 t149 t150 t151 t152 t153 t154 t155 t156 t157 t158 t159 t160 t161 t162 t163 t164 t165 t166 t167 t168 t169 t170 t171 t172 t173 t174 t175 t176 t177 t178 t179 t180 t181 t182 t183 t184 t185 t186 t187 t188 t189 t190 t191 t192 t193 t194 t195 t196 t197 t198 t199 t200 t201 t202 t203 t204 t205 t206 t207 t208 t209 t210 t211 t212 t213 t214 t215 t216 t217 t218 t219 t220 t221 t222 t223 t224 t225 t226 t227 t228 t229 t230 t231 t232 t233 t234 t235 t236 t237 t238 t239 t240 t241 t242 t243 t244 t245 t246 t247 t248 t249 t250 t251 t252 t253 t254 t255 t256 t257 t258 t259 t260 t261 : Value} {B1 : KE} {B B2 : Nat} {fa fb : AF} {W : World} {o : OI} {n k i : Nat} {kk ww mm aa : Option Addr × Nat} {a : Option Addr} {c : Nat} {Sa Sb : AS} (hk : k < n) (hi : i < 1000)
    (hA : OA W o n kk ww mm aa) (ht : TW W.heap.size B w fa fb Sa Sb) (ho : w.ownsRow B2 TAsk 6 (.slice a n c) n (askR o n)) (hW : Below W.heap.size W w)
    (eb : b12 = ptr fb.p) (ew : whos1 = .slice ww.1 n ww.2) (ei : i20 = .int .i64 (i : Nat)) (eal : all17 = .slice a n c) (eat : at21 = .int .i64 (k : Nat))
    (hB : ∀ e2 w2, gd e2 20 = .int .i64 ((i : Int) + 1) → TW W.heap.size B w2 fa fb Sa (stp o.who o.ask Sb k) → Ch fb.foot w w2 → B1 e2 w2) :
    leatlaw26_AuditOrder_P9 K B1 ((kinds0 :: whos1 :: nodes2 :: amounts3 :: order4 :: kinds5 :: whos6 :: nodes7 :: amounts8 :: order9 :: t10 :: a11 :: b12 :: ids13 :: i14 :: m15 :: k_16 :: all17 :: i18 :: x19 :: i20 :: at21 :: i22 :: l23 :: u_24 :: e25 :: m26 :: v27 :: f28 :: t29 :: t30 :: t31 :: t32 :: t33 :: t34 :: t35 :: t36 :: t37 :: t38 :: t39 :: t40 :: t41 :: t42 :: t43 :: t44 :: t45 :: t46 :: t47 :: t48 :: t49 :: t50 :: t51 :: t52 :: t53 :: t54 :: t55 :: t56 :: t57 :: t58 :: t59 :: t60 :: t61 :: t62 :: t63 :: t64 :: t65 :: t66 :: t67 :: t68 :: t69 :: t70 :: t71 :: t72 :: t73 :: t74 :: t75 :: t76 :: t77 :: t78 :: t79 :: t80 :: t81 :: t82 :: t83 :: t84 :: t85 :: t86 :: t87 :: t88 :: t89 :: t90 :: t91 :: t92 :: t93 :: t94 :: t95 :: t96 :: t97 :: t98 :: t99 :: t100 :: t101 :: t102 :: t103 :: t104 :: t105 :: t106 :: t107 :: t108 :: t109 :: t110 :: t111 :: t112 :: t113 :: t114 :: t115 :: t116 :: t117 :: t118 :: t119 :: t120 :: t121 :: t122 :: t123 :: t124 :: t125 :: t126 :: t127 :: t128 :: t129 :: t130 :: t131 :: t132 :: t133 :: t134 :: t135 :: t136 :: t137 :: t138 :: t139 :: t140 :: t141 :: t142 :: t143 :: t144 :: t145 :: t146 :: t147 :: t148 :: t149 :: t150 :: t151 :: t152 :: t153 :: t154 :: t155 :: t156 :: t157 :: t158 :: t159 :: t160 :: t161 :: t162 :: t163 :: t164 :: t165 :: t166 :: t167 :: t168 :: t169 :: t170 :: t171 :: t172 :: t173 :: t174 :: t175 :: t176 :: t177 :: t178 :: t179 :: t180 :: t181 :: t182 :: t183 :: t184 :: t185 :: t186 :: t187 :: t188 :: t189 :: t190 :: t191 :: t192 :: t193 :: t194 :: t195 :: t196 :: t197 :: t198 :: t199 :: t200 :: t201 :: t202 :: t203 :: t204 :: t205 :: t206 :: t207 :: t208 :: t209 :: t210 :: t211 :: t212 :: t213 :: t214 :: t215 :: t216 :: t217 :: t218 :: t219 :: t220 :: t221 :: t222 :: t223 :: t224 :: t225 :: t226 :: t227 :: t228 :: t229 :: t230 :: t231 :: t232 :: t233 :: t234 :: t235 :: t236 :: t237 :: t238 :: t239 :: t240 :: t241 :: t242 :: t243 :: t244 :: t245 :: t246 :: t247 :: t248 :: t249 :: t250 :: t251 :: t252 :: t253 :: t254 :: t255 :: t256 :: t257 :: t258 :: t259 :: t260 :: t261 :: [])) w := by
  subst eb ew ei eal eat
  refine leatlaw26_AuditOrder_P9_r ?_
  have A4 := hA.below hW
  rcases ho.2 with ⟨_, hz⟩ | ⟨g, cap, cur, hv, hg, hh, hn, hcm, hsz, htk⟩
  · omega
  simp only [Value.slice.injEq] at hv
  obtain ⟨rfl, _, rfl⟩ := hv
  have hbk : blk w g TAsk cur.toList := hh
  have hcs : (cur.toList.drop (0 + k * 6)).take 6 = askC (o.ask k) := by
    rw [Nat.zero_add, ← askR_at o hk, ← htk, List.drop_take, List.take_take]
    congr 1
    omega
  have bd : Below w.heap.size w w.drew := (Below.refl _ w).drew
  refine hReg_of (fun x => RB x ww.1 n ww.2 o.wl ∧ blk x g TAsk cur.toList) ⟨rb_drew A4.hw, hbk.drew⟩ ?_
  refine hld_of (fun x hx K hK => idx8n hx.1 hk hK) ?_
  refine hld_of (fun x hx K hK => ld8n hx.1 hk hK) ?_
  refine hld_of (v := .int .u8 (((o.wl.getD k 0).toNat % 3 : Nat) : Int)) (fun x hx K hK => rem_nn (by omega) (by omega) (by rw [show (((o.wl.getD k 0).toNat : Nat) : Int) % 3 = (((o.wl.getD k 0).toNat % 3 : Nat) : Int) by omega]; exact hK)) ?_
  refine hld_of (v := .int .i64 (((o.wl.getD k 0).toNat % 3 : Nat) : Int)) (fun x hx K hK => conv_int Try.underlying5 Try.underlying3 (by rw [wrap_i64 (by omega) (by omega)]; exact hK)) ?_
  refine hld_of (v := .int .i64 (o.who k)) (fun x hx K hK => add64 (by omega) (by omega) hK) ?_
  refine hld_of (v := .pointer (some ⟨g, 0 + k * 6, none⟩)) (fun x hx K hK => idxRow (s := 6) Try.underlying57 (fun _ => by kernel_rfl) (by omega) (by omega) (by rw [Int.toNat_natCast]; exact hK)) ?_
  refine hld_of (fun x hx K hK => ldA (n := 6) (vs := askC (o.ask k)) Try.underlying35 rfl (by kernel_rfl) hx.2 hcs rfl hK) ?_
  refine hld_of (fun x hx K hK => bld_of (vs := [.int .i64 0, .int .u64 0, .int .u64 0, .int .u64 0, .int .u64 0, .int .u64 0, .int .u64 0, .int .u64 0, .int .u8 0, .int .u64 0, .int .i64 0, .int .i64 0, .int .u64 0, .int .u64 0, .int .i64 0]) (by kernel_rfl) hK) ?_
  have t5 := ht.below bd
  refine say_c (e := 0) t5.b (⟨rfl, rfl, rfl, rfl⟩ : ansOk _ 0 0 0) (by omega) ?_
  intro w6 hb6 c6
  have t6 := t5.chB hb6 c6
  refine leatlaw26_AuditOrder_P8_r ?_
  refine add64 (by omega) (by omega) ?_
  exact hB _ w6 rfl t6 ((Ch.of_below (F := fb.foot) bd).trans c6 fun x hx => .inl hx)

set_option maxHeartbeats 1000000 in
theorem ord_L3 {kinds0 whos1 nodes2 amounts3 order4 kinds5 whos6 nodes7 amounts8 order9 t10 a11 b12 ids13 i14 m15 k_16 all17 i18 x19 i20 at21 i22 l23 u_24 e25 m26 v27 f28 t29 t30 t31 t32 t33 t34 t35 t36 t37 t38 t39 t40 t41 t42 t43 t44 t45 t46 t47 t48 t49 t50 t51 t52 t53 t54 t55 t56 t57 t58 t59 t60 t61 t62 t63 t64 t65 t66 t67 t68 t69 t70 t71 t72 t73 t74 t75 t76 t77 t78 t79 t80 t81 t82 t83 t84 t85 t86 t87 t88 t89 t90 t91 t92 t93 t94 t95 t96 t97 t98 t99 t100 t101 t102 t103 t104 t105 t106 t107 t108 t109 t110 t111 t112 t113 t114 t115 t116 t117 t118 t119 t120 t121 t122 t123 t124 t125 t126 t127 t128 t129 t130 t131 t132 t133 t134 t135 t136 t137 t138 t139 t140 t141 t142 t143 t144 t145 t146 t147 t148 t149 t150 t151 t152 t153 t154 t155 t156 t157 t158 t159 t160 t161 t162 t163 t164 t165 t166 t167 t168 t169 t170 t171 t172 t173 t174 t175 t176 t177 t178 t179 t180 t181 t182 t183 t184 t185 t186 t187 t188 t189 t190 t191 t192 t193 t194 t195 t196 t197 t198 t199 t200 t201 t202 t203 t204 t205 t206 t207 t208 t209 t210 t211 t212 t213 t214 t215 t216 t217 t218 t219 t220 t221 t222 t223 t224 t225 t226 t227 t228 t229 t230 t231 t232 t233 t234 t235 t236 t237 t238 t239 t240 t241 t242 t243 t244 t245 t246 t247 t248 t249 t250 t251 t252 t253 t254 t255 t256 t257 t258 t259 t260 t261 : Value} {B B2 : Nat} {fa fb : AF} {W : World} {o : OI} {n no ro : Nat} {la : Option Addr} {ol : List UInt8} {kk ww mm aa : Option Addr × Nat} {a : Option Addr} {c : Nat} {ia : Option Addr} {ic : Nat} {Sa : AS}
    (hA : OA W o n kk ww mm aa) (hO : RB W la no ro ol) (hno : no ≤ 60) (ht : TW W.heap.size B w fa fb Sa ⟨N4 4, [], [], []⟩) (ho : w.ownsRow B2 TAsk 6 (.slice a n c) n (askR o n)) (hBB : B ≤ B2) (hI : OV w B E64 ia 4 ic ((oids 4).map uv)) (hW : Below W.heap.size W w)
    (ew : whos1 = .slice ww.1 n ww.2) (eo : order4 = .slice la no ro) (ea : a11 = ptr fa.p) (eb : b12 = ptr fb.p) (eid : ids13 = .slice ia 4 ic) (eal : all17 = .slice a n c) (ei : i20 = .int .i64 0)
    (hB : ∀ {kinds0 whos1 nodes2 amounts3 order4 kinds5 whos6 nodes7 amounts8 order9 t10 a11 b12 ids13 i14 m15 k_16 all17 i18 x19 i20 at21 i22 l23 u_24 e25 m26 v27 f28 t29 t30 t31 t32 t33 t34 t35 t36 t37 t38 t39 t40 t41 t42 t43 t44 t45 t46 t47 t48 t49 t50 t51 t52 t53 t54 t55 t56 t57 t58 t59 t60 t61 t62 t63 t64 t65 t66 t67 t68 t69 t70 t71 t72 t73 t74 t75 t76 t77 t78 t79 t80 t81 t82 t83 t84 t85 t86 t87 t88 t89 t90 t91 t92 t93 t94 t95 t96 t97 t98 t99 t100 t101 t102 t103 t104 t105 t106 t107 t108 t109 t110 t111 t112 t113 t114 t115 t116 t117 t118 t119 t120 t121 t122 t123 t124 t125 t126 t127 t128 t129 t130 t131 t132 t133 t134 t135 t136 t137 t138 t139 t140 t141 t142 t143 t144 t145 t146 t147 t148 t149 t150 t151 t152 t153 t154 t155 t156 t157 t158 t159 t160 t161 t162 t163 t164 t165 t166 t167 t168 t169 t170 t171 t172 t173 t174 t175 t176 t177 t178 t179 t180 t181 t182 t183 t184 t185 t186 t187 t188 t189 t190 t191 t192 t193 t194 t195 t196 t197 t198 t199 t200 t201 t202 t203 t204 t205 t206 t207 t208 t209 t210 t211 t212 t213 t214 t215 t216 t217 t218 t219 t220 t221 t222 t223 t224 t225 t226 t227 t228 t229 t230 t231 t232 t233 t234 t235 t236 t237 t238 t239 t240 t241 t242 t243 t244 t245 t246 t247 t248 t249 t250 t251 t252 t253 t254 t255 t256 t257 t258 t259 t260 t261 : Value} {w2 : World} {S : AS} {D : Nat → Prop}, a11 = ptr fa.p → b12 = ptr fb.p → ids13 = .slice ia 4 ic → TW W.heap.size B w2 fa fb Sa S → GS n o.who o.ask (N4 4) D S → (∀ k, k < n → D k) →
      OV w2 B E64 ia 4 ic ((oids 4).map uv) → Below W.heap.size W w2 → leatlaw26_AuditOrder_P7 K ((kinds0 :: whos1 :: nodes2 :: amounts3 :: order4 :: kinds5 :: whos6 :: nodes7 :: amounts8 :: order9 :: t10 :: a11 :: b12 :: ids13 :: i14 :: m15 :: k_16 :: all17 :: i18 :: x19 :: i20 :: at21 :: i22 :: l23 :: u_24 :: e25 :: m26 :: v27 :: f28 :: t29 :: t30 :: t31 :: t32 :: t33 :: t34 :: t35 :: t36 :: t37 :: t38 :: t39 :: t40 :: t41 :: t42 :: t43 :: t44 :: t45 :: t46 :: t47 :: t48 :: t49 :: t50 :: t51 :: t52 :: t53 :: t54 :: t55 :: t56 :: t57 :: t58 :: t59 :: t60 :: t61 :: t62 :: t63 :: t64 :: t65 :: t66 :: t67 :: t68 :: t69 :: t70 :: t71 :: t72 :: t73 :: t74 :: t75 :: t76 :: t77 :: t78 :: t79 :: t80 :: t81 :: t82 :: t83 :: t84 :: t85 :: t86 :: t87 :: t88 :: t89 :: t90 :: t91 :: t92 :: t93 :: t94 :: t95 :: t96 :: t97 :: t98 :: t99 :: t100 :: t101 :: t102 :: t103 :: t104 :: t105 :: t106 :: t107 :: t108 :: t109 :: t110 :: t111 :: t112 :: t113 :: t114 :: t115 :: t116 :: t117 :: t118 :: t119 :: t120 :: t121 :: t122 :: t123 :: t124 :: t125 :: t126 :: t127 :: t128 :: t129 :: t130 :: t131 :: t132 :: t133 :: t134 :: t135 :: t136 :: t137 :: t138 :: t139 :: t140 :: t141 :: t142 :: t143 :: t144 :: t145 :: t146 :: t147 :: t148 :: t149 :: t150 :: t151 :: t152 :: t153 :: t154 :: t155 :: t156 :: t157 :: t158 :: t159 :: t160 :: t161 :: t162 :: t163 :: t164 :: t165 :: t166 :: t167 :: t168 :: t169 :: t170 :: t171 :: t172 :: t173 :: t174 :: t175 :: t176 :: t177 :: t178 :: t179 :: t180 :: t181 :: t182 :: t183 :: t184 :: t185 :: t186 :: t187 :: t188 :: t189 :: t190 :: t191 :: t192 :: t193 :: t194 :: t195 :: t196 :: t197 :: t198 :: t199 :: t200 :: t201 :: t202 :: t203 :: t204 :: t205 :: t206 :: t207 :: t208 :: t209 :: t210 :: t211 :: t212 :: t213 :: t214 :: t215 :: t216 :: t217 :: t218 :: t219 :: t220 :: t221 :: t222 :: t223 :: t224 :: t225 :: t226 :: t227 :: t228 :: t229 :: t230 :: t231 :: t232 :: t233 :: t234 :: t235 :: t236 :: t237 :: t238 :: t239 :: t240 :: t241 :: t242 :: t243 :: t244 :: t245 :: t246 :: t247 :: t248 :: t249 :: t250 :: t251 :: t252 :: t253 :: t254 :: t255 :: t256 :: t257 :: t258 :: t259 :: t260 :: t261 :: [])) w2) :
    leatlaw26_AuditOrder_L3 K ((kinds0 :: whos1 :: nodes2 :: amounts3 :: order4 :: kinds5 :: whos6 :: nodes7 :: amounts8 :: order9 :: t10 :: a11 :: b12 :: ids13 :: i14 :: m15 :: k_16 :: all17 :: i18 :: x19 :: i20 :: at21 :: i22 :: l23 :: u_24 :: e25 :: m26 :: v27 :: f28 :: t29 :: t30 :: t31 :: t32 :: t33 :: t34 :: t35 :: t36 :: t37 :: t38 :: t39 :: t40 :: t41 :: t42 :: t43 :: t44 :: t45 :: t46 :: t47 :: t48 :: t49 :: t50 :: t51 :: t52 :: t53 :: t54 :: t55 :: t56 :: t57 :: t58 :: t59 :: t60 :: t61 :: t62 :: t63 :: t64 :: t65 :: t66 :: t67 :: t68 :: t69 :: t70 :: t71 :: t72 :: t73 :: t74 :: t75 :: t76 :: t77 :: t78 :: t79 :: t80 :: t81 :: t82 :: t83 :: t84 :: t85 :: t86 :: t87 :: t88 :: t89 :: t90 :: t91 :: t92 :: t93 :: t94 :: t95 :: t96 :: t97 :: t98 :: t99 :: t100 :: t101 :: t102 :: t103 :: t104 :: t105 :: t106 :: t107 :: t108 :: t109 :: t110 :: t111 :: t112 :: t113 :: t114 :: t115 :: t116 :: t117 :: t118 :: t119 :: t120 :: t121 :: t122 :: t123 :: t124 :: t125 :: t126 :: t127 :: t128 :: t129 :: t130 :: t131 :: t132 :: t133 :: t134 :: t135 :: t136 :: t137 :: t138 :: t139 :: t140 :: t141 :: t142 :: t143 :: t144 :: t145 :: t146 :: t147 :: t148 :: t149 :: t150 :: t151 :: t152 :: t153 :: t154 :: t155 :: t156 :: t157 :: t158 :: t159 :: t160 :: t161 :: t162 :: t163 :: t164 :: t165 :: t166 :: t167 :: t168 :: t169 :: t170 :: t171 :: t172 :: t173 :: t174 :: t175 :: t176 :: t177 :: t178 :: t179 :: t180 :: t181 :: t182 :: t183 :: t184 :: t185 :: t186 :: t187 :: t188 :: t189 :: t190 :: t191 :: t192 :: t193 :: t194 :: t195 :: t196 :: t197 :: t198 :: t199 :: t200 :: t201 :: t202 :: t203 :: t204 :: t205 :: t206 :: t207 :: t208 :: t209 :: t210 :: t211 :: t212 :: t213 :: t214 :: t215 :: t216 :: t217 :: t218 :: t219 :: t220 :: t221 :: t222 :: t223 :: t224 :: t225 :: t226 :: t227 :: t228 :: t229 :: t230 :: t231 :: t232 :: t233 :: t234 :: t235 :: t236 :: t237 :: t238 :: t239 :: t240 :: t241 :: t242 :: t243 :: t244 :: t245 :: t246 :: t247 :: t248 :: t249 :: t250 :: t251 :: t252 :: t253 :: t254 :: t255 :: t256 :: t257 :: t258 :: t259 :: t260 :: t261 :: [])) w := by
  subst ew eo ea eb eid eal ei
  have hn30 := hA.hn
  refine leatlaw26_AuditOrder_L3_r (Inv := fun i wr => ∃ (j : Nat) (S : AS) (D : Nat → Prop), i = .int .i64 (j : Nat) ∧ j ≤ no + n ∧ TW W.heap.size B wr fa fb Sa S ∧ GS n o.who o.ask (N4 4) D S ∧ (∀ k, k < n → no + (n - 1 - k) < j → D k) ∧
      wr.ownsRow B2 TAsk 6 (.slice a n c) n (askR o n) ∧ OV wr B E64 ia 4 ic ((oids 4).map uv) ∧ Below W.heap.size W wr)
    (μ := fun i _ => no + n - (intOf i).toNat) ⟨0, _, _, rfl, by omega, ht, GS.start, fun k _ h => by omega, ho, hI, hW⟩ ?_
  rintro _ _ w1 m ⟨j, S, D, rfl, hj, t1, g1, d1, o1, i1, W1⟩ hm
  refine len8 ?_
  refine lenA ?_
  refine add64 (by omega) (by omega) ?_
  refine bin_lss ?_
  by_cases hjn : j < no + n
  rotate_left
  · refine cond_f (by omega) ?_
    exact hB rfl rfl rfl t1 g1 (fun k hk => d1 k hk (by omega)) i1 W1
  refine cond_t (by omega) ?_
  have dec : ∀ {x : Value}, x = .int .i64 ((j : Int) + 1) → no + n - (intOf x).toNat < m := by
    rintro _ rfl; rw [hm]; simp only [intOf]; omega
  have cont : ∀ {k : Nat} {e2 : Env} {w2 : World}, k < n → (∀ q, q < n → no + (n - 1 - q) < j + 1 → no + (n - 1 - q) < j ∨ q = k) → gd e2 20 = .int .i64 ((j : Int) + 1) → TW W.heap.size B w2 fa fb Sa (stp o.who o.ask S k) → Ch fb.foot w1 w2 →
      (∃ (j : Nat) (S : AS) (D : Nat → Prop), gd e2 20 = .int .i64 (j : Nat) ∧ j ≤ no + n ∧ TW W.heap.size B w2 fa fb Sa S ∧ GS n o.who o.ask (N4 4) D S ∧ (∀ k, k < n → no + (n - 1 - k) < j → D k) ∧
      w2.ownsRow B2 TAsk 6 (.slice a n c) n (askR o n) ∧ OV w2 B E64 ia 4 ic ((oids 4).map uv) ∧ Below W.heap.size W w2) ∧ no + n - (intOf (gd e2 20)).toNat < m := by
    intro k e2 w2 hk hq h20 t2 c2
    refine ⟨⟨j + 1, _, _, by rw [h20]; simp, by omega, t2, g1.step hA.its hk, fun q hqn hqj => ?_, own_ch o1 c2 (fun x hx => Nat.lt_of_lt_of_le (t1.ftB x hx).2 hBB), own_ch i1 c2 (fun x hx => (t1.ftB x hx).2), W1.trans (c2.below (fun x hx => (t1.ftB x hx).1) t1.b0)⟩, dec h20⟩
    rcases hq q hqn hqj with h | h
    · exact .inl (d1 q hqn h)
    · exact .inr h
  refine leatlaw26_AuditOrder_A4_r ?_
  refine lenA ?_
  refine sub64 (by omega) (by omega) ?_
  refine len8 ?_
  refine sub64 (by omega) (by omega) ?_
  refine sub64 (by omega) (by omega) ?_
  refine len8 ?_
  refine bin_lss ?_
  refine leatlaw26_AuditOrder_A5_r ?_
  by_cases hjo : j < no
  · refine cond_t (by omega) ?_
    refine lenA ?_
    refine bin_eql ?_
    by_cases hn0 : n = 0
    · refine cond_t (by omega) ?_
      refine leatlaw26_AuditOrder_P8_r ?_
      refine add64 (by omega) (by omega) ?_
      exact ⟨⟨j + 1, S, D, (show Value.int .i64 ((j : Int) + 1) = _ by simp), by omega, t1, g1, fun q hq => by omega, o1, i1, W1⟩, dec rfl⟩
    refine cond_f (by omega) ?_
    have O1 : RB w1 la no ro ol := RV.below hO W1 (Nat.le_refl _)
    refine idx8n O1 hjo ?_
    refine ld8n O1 hjo ?_
    refine conv_int Try.underlying5 Try.underlying3 ?_
    have hb := (ol.getD j 0).toNat_lt
    rw [wrap_i64 (by omega) (by omega)]
    refine lenA ?_
    refine rem_nn (by omega) (by omega) ?_
    rw [show (((ol.getD j 0).toNat : Nat) : Int) % ((n : Nat) : Int) = (((ol.getD j 0).toNat % n : Nat) : Int) by simp]
    have hlt : (ol.getD j 0).toNat % n < n := Nat.mod_lt _ (by omega)
    refine ord_P9 (a := a) (c := c) (k := (ol.getD j 0).toNat % n) (i := j) hlt (by omega) hA t1 o1 W1 rfl rfl rfl rfl rfl ?_
    intro e2 w2 h20 t2 c2
    exact cont hlt (fun q hq hqj => by omega) h20 t2 c2
  · refine cond_f (by omega) ?_
    have hk : n - 1 - (j - no) < n := by omega
    refine ord_P9 (a := a) (c := c) (k := n - 1 - (j - no)) (i := j) hk (by omega) hA t1 o1 W1 rfl rfl rfl rfl ?_ ?_
    · show Value.int .i64 _ = Value.int .i64 _
      congr 1
      omega
    intro e2 w2 h20 t2 c2
    exact cont hk (fun q hq hqj => by omega) h20 t2 c2
end
end Go.Proofs.Ytcieejlkdfdpiaa
