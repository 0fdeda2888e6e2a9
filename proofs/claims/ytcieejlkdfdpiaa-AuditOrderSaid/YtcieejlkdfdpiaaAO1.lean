/- AuditOrder, the walk: two audits side by side; four nodes. -/
import Derived.Test.YtcieejlkdfdpiaaSAOrder
import Derived.Test.YtcieejlkdfdpiaaAOPlain
import Derived.Test.YtcieejlkdfdpiaaAWorks
namespace Go.Proofs.Ytcieejlkdfdpiaa
set_option maxRecDepth 100000
open Go.RowKit Go.ChangeMaps
structure TW (B0 B : Nat) (w : World) (fa fb : AF) (Sa Sb : AS) : Prop where
  a : AK w fa Sa
  b : AK w fb Sb
  lo : ∀ x, x ∈ fa.p :: fa.foot ∨ x ∈ fb.p :: fb.foot → B0 ≤ x ∧ x < B
  dis : ∀ x ∈ fa.p :: fa.foot, x ∉ fb.p :: fb.foot
  top : B ≤ w.heap.size
section
variable {B0 B : Nat} {w w' : World} {fa fb : AF} {Sa Sb S' : AS} {F : List Nat}
theorem TW.ch (h : TW B0 B w fa fb Sa Sb) (hc : Ch F w w') (hF : ∀ x ∈ F, B ≤ x) : TW B0 B w' fa fb Sa Sb := by
  have out : ∀ x, x ∈ fa.p :: fa.foot ∨ x ∈ fb.p :: fb.foot → x ∉ F := fun x hx hf => by have := (h.lo x hx).2; have := hF x hf; omega
  exact ⟨h.a.ch hc (out _ (.inl (by simp))) fun x hx => out x (.inl (by simp [hx])), h.b.ch hc (out _ (.inr (by simp))) fun x hx => out x (.inr (by simp [hx])), h.lo, h.dis, Nat.le_trans h.top hc.size⟩
theorem TW.below (h : TW B0 B w fa fb Sa Sb) (hb : Below w.heap.size w w') : TW B0 B w' fa fb Sa Sb := h.ch (Ch.of_below (F := []) hb) (by simp)
theorem TW.chA (h : TW B0 B w fa fb Sa Sb) (ha : AK w' fa S') (hc : Ch fa.foot w w') : TW B0 B w' fa fb S' Sb :=
  ⟨ha, h.b.ch hc (fun hf => h.dis _ (List.mem_cons_of_mem _ hf) (by simp)) fun x hx hf => h.dis x (List.mem_cons_of_mem _ hf) (List.mem_cons_of_mem _ hx), h.lo, h.dis, Nat.le_trans h.top hc.size⟩
theorem TW.chB (h : TW B0 B w fa fb Sa Sb) (hb : AK w' fb S') (hc : Ch fb.foot w w') : TW B0 B w' fa fb Sa S' :=
  ⟨h.a.ch hc (fun hf => h.dis _ (by simp) (List.mem_cons_of_mem _ hf)) fun x hx hf => h.dis x (List.mem_cons_of_mem _ hx) (List.mem_cons_of_mem _ hf), hb, h.lo, h.dis, Nat.le_trans h.top hc.size⟩
theorem TW.ftA (h : TW B0 B w fa fb Sa Sb) : ∀ x ∈ fa.foot, B0 ≤ x ∧ x < B := fun x hx => h.lo x (.inl (List.mem_cons_of_mem _ hx))
theorem TW.ftB (h : TW B0 B w fa fb Sa Sb) : ∀ x ∈ fb.foot, B0 ≤ x ∧ x < B := fun x hx => h.lo x (.inr (List.mem_cons_of_mem _ hx))
theorem TW.b0 (h : TW B0 B w fa fb Sa Sb) : B0 ≤ w.heap.size := by have := h.lo fa.p (.inl (by simp)); have := h.top; omega
theorem own_ch {E : TypeId} {s n : Nat} {v : Value} {xs : List Value} (h : w.ownsRow B E s v n xs) (hc : Ch F w w') (hF : ∀ x ∈ F, x < B) : w'.ownsRow B E s v n xs :=
  own_same h fun k hk => hc.block k (World.ownsRow.lt h k hk).2 fun hf => by have := (World.ownsRow.lt h k hk).1; have := hF k hf; omega
theorem own_bel {E : TypeId} {s n : Nat} {v : Value} {xs : List Value} (h : w.ownsRow B E s v n xs) (hb : Below w.heap.size w w') : w'.ownsRow B E s v n xs := own_same h fun k hk => hb.block k (World.ownsRow.lt h k hk).2
theorem Ch.of_grown {r : Option Nat} (h : w.grownBy w' r) : Ch r.toList w w' := ⟨h.os, h.tape, h.output, h.size, fun k hk hn => h.block k hk fun e => hn (by rw [← e]; simp)⟩
end
attribute [local irreducible] bin un conv call callV blt slc fldA fld idxA idx lkp mUpd mEnt eSt rng nxt ent ext alc box bld bldS ld sto nilC mkMap mkS ifc pick rdy wts gsel sti cond retM Gives cCode cGrp cSeq cOp
attribute [local irreducible] leatlaw26_AuditOrder_A1 leatlaw26_AuditOrder_A2 leatlaw26_AuditOrder_A3 leatlaw26_AuditOrder_A4 leatlaw26_AuditOrder_A5 leatlaw26_AuditOrder_A6 leatlaw26_AuditOrder_L1 leatlaw26_AuditOrder_L2 leatlaw26_AuditOrder_L3 leatlaw26_AuditOrder_L4 leatlaw26_AuditOrder_P1 leatlaw26_AuditOrder_P10 leatlaw26_AuditOrder_P11 leatlaw26_AuditOrder_P2 leatlaw26_AuditOrder_P3 leatlaw26_AuditOrder_P4 leatlaw26_AuditOrder_P5 leatlaw26_AuditOrder_P6 leatlaw26_AuditOrder_P7 leatlaw26_AuditOrder_P8 leatlaw26_AuditOrder_P9
section
variable {w : World} {K : KV}
theorem idxU {a : Option Addr} {n c i : Nat} {k : IntKind} {l : List Int} (hr : RV w a n c (l.map uv)) (hi : i < n) (h : w.cell? (slotA a i) = some (uv (G l i)) → K (.pointer (some (slotA a i))) w) :
    idxA Try.prog 47 (.slice a n c) (.int k (i : Nat)) K w := by
  have hl : l.length = n := by simpa using RV.len hr
  refine idx_slc Try.underlying47 size_u64 (by omega) (by omega) (RV.some_ hr) ?_
  rw [Int.toNat_natCast]
  refine h ?_
  rw [RV.cell hr i (uv (G l i)) (by simp [List.getElem?_map, List.getElem?_eq_getElem (show i < l.length by omega), G, List.getD, show i < l.length by omega])]
theorem ldU {ad : Addr} {v : Value} (hc : w.cell? ad = some v) (h : K v w) : ld Try.prog 33 (.pointer (some ad)) K w := ld_cell (fun _ => by kernel_rfl) hc h
def oids (j : Nat) : List Int := (List.range j).map oid
theorem oids_len (j : Nat) : (oids j).length = j := by simp [oids]
theorem G_oids {i j : Nat} (h : i < j) : G (oids j) i = oid i := by simp [G, oids, List.getD, h]
def evC (j : Nat) : List Value := [.int .i64 ((j : Int) + 1), .int .u64 1, .int .u64 0, .int .u64 0, .int .u64 0, .int .u64 0, .int .u64 0, .int .u64 0, .int .u8 0, .int .u64 0, .int .i64 0, .int .i64 0, .int .u64 0, .int .u64 0]
def ndA (j : Nat) : Ak := ⟨1, if j = 0 then 0 else oid (j - 1), 0, 1000000, 0, 0⟩

theorem ord_P3 {kinds0 whos1 nodes2 amounts3 order4 kinds5 whos6 nodes7 amounts8 order9 t10 a11 b12 ids13 i14 m15 k_16 all17 i18 x19 i20 at21 i22 l23 u_24 e25 m26 v27 f28 t29 t30 t31 t32 t33 t34 t35 t36 t37 t38 t39 t40 t41 t42 t43 t44 t45 t46 t47 t48 t49 t50 t51 t52 t53 t54 t55 t56 t57 t58 t59 t60 t61 t62 t63 t64 t65 t66 t67 t68 t69 t70 t71 t72 t73 t74 t75 t76 t77 t78 t79 t80 t81 t82 t83 t84 t85 t86 t87 t88 t89 t90 t91 t92 t93 t94 t95 t96 t97 t98 t99 t100 t101 t102 t103 t104 t105 t106 t107 t108 t109 t110 t111 t112 t113 t114 t115 t116 t117 t118 t119 t120 t121 t122 t123 t124 t125 t126 t127 t128 t129 t130 t131 t132 t133 t134 t135 t136 t137 t138 t139 t140 t141 t142 t143 t144 t145 t146 t147 t148 t149 t150 t151 t152 t153 t154 t155 t156 t157 t158 t159 t160 t161 t162 t163 t164 t165 t166 t167 t168 t169 t170 t171 t172 t173 t174 t175 t176 t177 t178 t179 t180 t181 t182 t183 t184 t185 t186 t187 t188 t189 t190 t191 t192 t193 t194 t195 t196 t197 t198 t199 t200 t201 t202 t203 t204 t205 t206 t207 t208 t209 t210 t211 t212 t213 t214 t215 t216 t217 t218 t219 t220 t221 t222 t223 t224 t225 t226 t227 t228 t229 t230 t231 t232 t233 t234 t235 t236 t237 t238 t239 t240 t241 t242 t243 t244 t245 t246 t247 t248 t249 t250 t251 t252 t253 t254 t255 t256 t257 t258 t259 t260 t261 : Value} {B1 : KE} {B0 B : Nat} {fa fb : AF} {W : World} {j : Nat} {a : Option Addr} {c mb kb : Nat} (hj : j < 4)
    (ht : TW B0 B w fa fb ⟨N4 j, [], [], []⟩ ⟨N4 j, [], [], []⟩) (ho : OV w B E64 a j c ((oids j).map uv)) (hW : Below B0 W w) (hBB : B0 ≤ B)
    (ea : a11 = ptr fa.p) (eb : b12 = ptr fb.p) (ei : i14 = .int .i64 ((j : Int) + 1)) (eid : ids13 = .slice a j c) (em : m15 = ptr mb) (ek : k_16 = ptr kb)
    (hm : blk w mb 39 (evC j)) (hk : blk w kb 35 (askC (ndA j))) (hmb : B ≤ mb) (hkb : B ≤ kb)
    (hB : ∀ e2 w2 a2 c2, gd e2 13 = .slice a2 (j + 1) c2 → gd e2 14 = .int .i64 ((j : Int) + 1 + 1) → TW B0 B w2 fa fb ⟨N4 (j + 1), [], [], []⟩ ⟨N4 (j + 1), [], [], []⟩ → OV w2 B E64 a2 (j + 1) c2 ((oids (j + 1)).map uv) → Below B0 W w2 → B1 e2 w2) :
    leatlaw26_AuditOrder_P3 K B1 ((kinds0 :: whos1 :: nodes2 :: amounts3 :: order4 :: kinds5 :: whos6 :: nodes7 :: amounts8 :: order9 :: t10 :: a11 :: b12 :: ids13 :: i14 :: m15 :: k_16 :: all17 :: i18 :: x19 :: i20 :: at21 :: i22 :: l23 :: u_24 :: e25 :: m26 :: v27 :: f28 :: t29 :: t30 :: t31 :: t32 :: t33 :: t34 :: t35 :: t36 :: t37 :: t38 :: t39 :: t40 :: t41 :: t42 :: t43 :: t44 :: t45 :: t46 :: t47 :: t48 :: t49 :: t50 :: t51 :: t52 :: t53 :: t54 :: t55 :: t56 :: t57 :: t58 :: t59 :: t60 :: t61 :: t62 :: t63 :: t64 :: t65 :: t66 :: t67 :: t68 :: t69 :: t70 :: t71 :: t72 :: t73 :: t74 :: t75 :: t76 :: t77 :: t78 :: t79 :: t80 :: t81 :: t82 :: t83 :: t84 :: t85 :: t86 :: t87 :: t88 :: t89 :: t90 :: t91 :: t92 :: t93 :: t94 :: t95 :: t96 :: t97 :: t98 :: t99 :: t100 :: t101 :: t102 :: t103 :: t104 :: t105 :: t106 :: t107 :: t108 :: t109 :: t110 :: t111 :: t112 :: t113 :: t114 :: t115 :: t116 :: t117 :: t118 :: t119 :: t120 :: t121 :: t122 :: t123 :: t124 :: t125 :: t126 :: t127 :: t128 :: t129 :: t130 :: t131 :: t132 :: t133 :: t134 :: t135 :: t136 :: t137 :: t138 :: t139 :: t140 :: t141 :: t142 :: t143 :: t144 :: t145 :: t146 :: t147 :: t148 :: t149 :: t150 :: t151 :: t152 :: t153 :: t154 :: t155 :: t156 :: t157 :: t158 :: t159 :: t160 :: t161 :: t162 :: t163 :: t164 :: t165 :: t166 :: t167 :: t168 :: t169 :: t170 :: t171 :: t172 :: t173 :: t174 :: t175 :: t176 :: t177 :: t178 :: t179 :: t180 :: t181 :: t182 :: t183 :: t184 :: t185 :: t186 :: t187 :: t188 :: t189 :: t190 :: t191 :: t192 :: t193 :: t194 :: t195 :: t196 :: t197 :: t198 :: t199 :: t200 :: t201 :: t202 :: t203 :: t204 :: t205 :: t206 :: t207 :: t208 :: t209 :: t210 :: t211 :: t212 :: t213 :: t214 :: t215 :: t216 :: t217 :: t218 :: t219 :: t220 :: t221 :: t222 :: t223 :: t224 :: t225 :: t226 :: t227 :: t228 :: t229 :: t230 :: t231 :: t232 :: t233 :: t234 :: t235 :: t236 :: t237 :: t238 :: t239 :: t240 :: t241 :: t242 :: t243 :: t244 :: t245 :: t246 :: t247 :: t248 :: t249 :: t250 :: t251 :: t252 :: t253 :: t254 :: t255 :: t256 :: t257 :: t258 :: t259 :: t260 :: t261 :: [])) w := by
  subst ea eb ei eid em ek
  refine leatlaw26_AuditOrder_P3_r ?_
  have nm : ∀ {F : List Nat}, (∀ x ∈ F, B0 ≤ x ∧ x < B) → ∀ k, B ≤ k → k ∉ F := fun hF k hk hf => by have := hF k hf; omega
  have hn := N4_next hj ((j : Int) + 1) (ndA j) rfl rfl rfl
  refine ldA (n := 6) (vs := askC (ndA j)) Try.underlying35 rfl (by kernel_rfl) hk rfl rfl ?_
  refine ldA (n := 14) (vs := evC j) Try.underlying39 rfl (by kernel_rfl) hm rfl rfl ?_
  refine bld_of (vs := evC j ++ [.int .i64 0]) (by kernel_rfl) ?_
  refine say_c (e := 0) ht.a (⟨rfl, rfl, rfl, rfl⟩ : ansOk _ ((j : Int) + 1) 1 0) (by omega) ?_
  intro w1 ha1 c1
  rw [hn] at ha1
  have t1 := ht.chA ha1 c1
  have hm1 := hm.ch c1 (nm ht.ftA _ hmb)
  have hk1 := hk.ch c1 (nm ht.ftA _ hkb)
  have o1 := own_ch ho c1 fun x hx => (ht.ftA x hx).2
  have W1 := hW.trans (c1.below (fun x hx => (ht.ftA x hx).1) ht.b0)
  refine ldA (n := 6) (vs := askC (ndA j)) Try.underlying35 rfl (by kernel_rfl) hk1 rfl rfl ?_
  refine ldA (n := 14) (vs := evC j) Try.underlying39 rfl (by kernel_rfl) hm1 rfl rfl ?_
  refine bld_of (vs := evC j ++ [.int .i64 0]) (by kernel_rfl) ?_
  refine say_c (e := 0) t1.b (⟨rfl, rfl, rfl, rfl⟩ : ansOk _ ((j : Int) + 1) 1 0) (by omega) ?_
  intro w2 hb2 c2
  rw [hn] at hb2
  have t2 := t1.chB hb2 c2
  have o2 := own_ch o1 c2 fun x hx => (t1.ftB x hx).2
  have W2 := W1.trans (c2.below (fun x hx => (t1.ftB x hx).1) t1.b0)
  refine conv_int Try.underlying3 Try.underlying33 ?_
  rw [wrap_u64, show ((j : Int) + 1) % 18446744073709551616 = (j : Int) + 1 by omega]
  refine bin_shl (by omega) ?_
  have e1 : IntKind.u64.wrap (((j : Int) + 1) * 2 ^ (min (40 : Int).toNat IntKind.u64.bits)) = ((j : Int) + 1) * 1099511627776 := by
    rw [show (2 : Int) ^ (min (40 : Int).toNat IntKind.u64.bits) = 1099511627776 from rfl, wrap_u64]; omega
  rw [e1]
  refine bin_add ?_
  have e2 : IntKind.u64.wrap (((j : Int) + 1) * 1099511627776 + 1) = oid j := by rw [wrap_u64]; unfold oid; omega
  rw [e2]
  refine bldSG (vs := [uv (oid j)]) Try.underlying47 (s := 1) (by kernel_rfl) (by kernel_rfl) (by omega) rfl (by simp) (by simp) (by simp) (by simp [Value.cells]) ?_
  intro w3 hb3 b3 s3
  have hb3 : blk w3 w2.heap.size 33 [uv (oid j)] := hb3
  have t3 := t2.below b3
  have o3 := own_bel o2 b3
  obtain ⟨i, hi, hz, hsz, hby⟩ := info_parts info_u64
  refine app_own (base := B) (s := 1) (ys := [uv (oid j)]) Try.underlying47 hi hz hsz hby rfl (by omega) o3 hb3 rfl rfl (by simp [Value.oneCell']) (by omega) (by omega) t3.top ?_
  intro a4 c4 w4 o4 g4
  have cg := Ch.of_grown g4
  have hg : ∀ x ∈ ((Value.slice a j c).ownBlock).toList, B ≤ x := fun x hx => (World.ownsRow.lt o3 x (by simpa using hx)).1
  have t4 := t3.ch cg hg
  have W4 := (W2.trans (b3.mono t2.b0)).trans (cg.below (fun x hx => Nat.le_trans hBB (hg x hx)) t3.b0)
  refine leatlaw26_AuditOrder_P2_r ?_
  refine add64 (by omega) (by omega) ?_
  have o4' : OV w4 B E64 a4 (j + 1) c4 ((oids (j + 1)).map uv) := by
    rw [show (oids (j + 1)).map uv = (oids j).map uv ++ [uv (oid j)] by simp [oids, List.range_succ]]
    exact o4
  exact hB _ w4 a4 c4 rfl rfl t4 o4' W4

set_option maxHeartbeats 1000000 in
theorem ord_L1 {kinds0 whos1 nodes2 amounts3 order4 kinds5 whos6 nodes7 amounts8 order9 t10 a11 b12 ids13 i14 m15 k_16 all17 i18 x19 i20 at21 i22 l23 u_24 e25 m26 v27 f28 t29 t30 t31 t32 t33 t34 t35 t36 t37 t38 t39 t40 t41 t42 t43 t44 t45 t46 t47 t48 t49 t50 t51 t52 t53 t54 t55 t56 t57 t58 t59 t60 t61 t62 t63 t64 t65 t66 t67 t68 t69 t70 t71 t72 t73 t74 t75 t76 t77 t78 t79 t80 t81 t82 t83 t84 t85 t86 t87 t88 t89 t90 t91 t92 t93 t94 t95 t96 t97 t98 t99 t100 t101 t102 t103 t104 t105 t106 t107 t108 t109 t110 t111 t112 t113 t114 t115 t116 t117 t118 t119 t120 t121 t122 t123 t124 t125 t126 t127 t128 t129 t130 t131 t132 t133 t134 t135 t136 t137 t138 t139 t140 t141 t142 t143 t144 t145 t146 t147 t148 t149 t150 t151 t152 t153 t154 t155 t156 t157 t158 t159 t160 t161 t162 t163 t164 t165 t166 t167 t168 t169 t170 t171 t172 t173 t174 t175 t176 t177 t178 t179 t180 t181 t182 t183 t184 t185 t186 t187 t188 t189 t190 t191 t192 t193 t194 t195 t196 t197 t198 t199 t200 t201 t202 t203 t204 t205 t206 t207 t208 t209 t210 t211 t212 t213 t214 t215 t216 t217 t218 t219 t220 t221 t222 t223 t224 t225 t226 t227 t228 t229 t230 t231 t232 t233 t234 t235 t236 t237 t238 t239 t240 t241 t242 t243 t244 t245 t246 t247 t248 t249 t250 t251 t252 t253 t254 t255 t256 t257 t258 t259 t260 t261 : Value} {B0 B : Nat} {fa fb : AF} {W : World} (ht : TW B0 B w fa fb ⟨[], [], [], []⟩ ⟨[], [], [], []⟩) (hW : Below B0 W w) (hBB : B0 ≤ B)
    {v0 v1 v2 v3 v4 : Value} (e0 : kinds0 = v0) (e1 : whos1 = v1) (e2 : nodes2 = v2) (e3 : amounts3 = v3) (e4 : order4 = v4)
    (ea : a11 = ptr fa.p) (eb : b12 = ptr fb.p) (ei : i14 = .int .i64 1) (eid : ids13 = .slice none 0 0)
    (hB : ∀ {kinds0 whos1 nodes2 amounts3 order4 kinds5 whos6 nodes7 amounts8 order9 t10 a11 b12 ids13 i14 m15 k_16 all17 i18 x19 i20 at21 i22 l23 u_24 e25 m26 v27 f28 t29 t30 t31 t32 t33 t34 t35 t36 t37 t38 t39 t40 t41 t42 t43 t44 t45 t46 t47 t48 t49 t50 t51 t52 t53 t54 t55 t56 t57 t58 t59 t60 t61 t62 t63 t64 t65 t66 t67 t68 t69 t70 t71 t72 t73 t74 t75 t76 t77 t78 t79 t80 t81 t82 t83 t84 t85 t86 t87 t88 t89 t90 t91 t92 t93 t94 t95 t96 t97 t98 t99 t100 t101 t102 t103 t104 t105 t106 t107 t108 t109 t110 t111 t112 t113 t114 t115 t116 t117 t118 t119 t120 t121 t122 t123 t124 t125 t126 t127 t128 t129 t130 t131 t132 t133 t134 t135 t136 t137 t138 t139 t140 t141 t142 t143 t144 t145 t146 t147 t148 t149 t150 t151 t152 t153 t154 t155 t156 t157 t158 t159 t160 t161 t162 t163 t164 t165 t166 t167 t168 t169 t170 t171 t172 t173 t174 t175 t176 t177 t178 t179 t180 t181 t182 t183 t184 t185 t186 t187 t188 t189 t190 t191 t192 t193 t194 t195 t196 t197 t198 t199 t200 t201 t202 t203 t204 t205 t206 t207 t208 t209 t210 t211 t212 t213 t214 t215 t216 t217 t218 t219 t220 t221 t222 t223 t224 t225 t226 t227 t228 t229 t230 t231 t232 t233 t234 t235 t236 t237 t238 t239 t240 t241 t242 t243 t244 t245 t246 t247 t248 t249 t250 t251 t252 t253 t254 t255 t256 t257 t258 t259 t260 t261 : Value} {w2 : World} {a2 : Option Addr} {c2 : Nat}, kinds0 = v0 → whos1 = v1 → nodes2 = v2 → amounts3 = v3 → order4 = v4 → a11 = ptr fa.p → b12 = ptr fb.p → ids13 = .slice a2 4 c2 → TW B0 B w2 fa fb ⟨N4 4, [], [], []⟩ ⟨N4 4, [], [], []⟩ → OV w2 B E64 a2 4 c2 ((oids 4).map uv) → Below B0 W w2 → leatlaw26_AuditOrder_P1 K ((kinds0 :: whos1 :: nodes2 :: amounts3 :: order4 :: kinds5 :: whos6 :: nodes7 :: amounts8 :: order9 :: t10 :: a11 :: b12 :: ids13 :: i14 :: m15 :: k_16 :: all17 :: i18 :: x19 :: i20 :: at21 :: i22 :: l23 :: u_24 :: e25 :: m26 :: v27 :: f28 :: t29 :: t30 :: t31 :: t32 :: t33 :: t34 :: t35 :: t36 :: t37 :: t38 :: t39 :: t40 :: t41 :: t42 :: t43 :: t44 :: t45 :: t46 :: t47 :: t48 :: t49 :: t50 :: t51 :: t52 :: t53 :: t54 :: t55 :: t56 :: t57 :: t58 :: t59 :: t60 :: t61 :: t62 :: t63 :: t64 :: t65 :: t66 :: t67 :: t68 :: t69 :: t70 :: t71 :: t72 :: t73 :: t74 :: t75 :: t76 :: t77 :: t78 :: t79 :: t80 :: t81 :: t82 :: t83 :: t84 :: t85 :: t86 :: t87 :: t88 :: t89 :: t90 :: t91 :: t92 :: t93 :: t94 :: t95 :: t96 :: t97 :: t98 :: t99 :: t100 :: t101 :: t102 :: t103 :: t104 :: t105 :: t106 :: t107 :: t108 :: t109 :: t110 :: t111 :: t112 :: t113 :: t114 :: t115 :: t116 :: t117 :: t118 :: t119 :: t120 :: t121 :: t122 :: t123 :: t124 :: t125 :: t126 :: t127 :: t128 :: t129 :: t130 :: t131 :: t132 :: t133 :: t134 :: t135 :: t136 :: t137 :: t138 :: t139 :: t140 :: t141 :: t142 :: t143 :: t144 :: t145 :: t146 :: t147 :: t148 :: t149 :: t150 :: t151 :: t152 :: t153 :: t154 :: t155 :: t156 :: t157 :: t158 :: t159 :: t160 :: t161 :: t162 :: t163 :: t164 :: t165 :: t166 :: t167 :: t168 :: t169 :: t170 :: t171 :: t172 :: t173 :: t174 :: t175 :: t176 :: t177 :: t178 :: t179 :: t180 :: t181 :: t182 :: t183 :: t184 :: t185 :: t186 :: t187 :: t188 :: t189 :: t190 :: t191 :: t192 :: t193 :: t194 :: t195 :: t196 :: t197 :: t198 :: t199 :: t200 :: t201 :: t202 :: t203 :: t204 :: t205 :: t206 :: t207 :: t208 :: t209 :: t210 :: t211 :: t212 :: t213 :: t214 :: t215 :: t216 :: t217 :: t218 :: t219 :: t220 :: t221 :: t222 :: t223 :: t224 :: t225 :: t226 :: t227 :: t228 :: t229 :: t230 :: t231 :: t232 :: t233 :: t234 :: t235 :: t236 :: t237 :: t238 :: t239 :: t240 :: t241 :: t242 :: t243 :: t244 :: t245 :: t246 :: t247 :: t248 :: t249 :: t250 :: t251 :: t252 :: t253 :: t254 :: t255 :: t256 :: t257 :: t258 :: t259 :: t260 :: t261 :: [])) w2) :
    leatlaw26_AuditOrder_L1 K ((kinds0 :: whos1 :: nodes2 :: amounts3 :: order4 :: kinds5 :: whos6 :: nodes7 :: amounts8 :: order9 :: t10 :: a11 :: b12 :: ids13 :: i14 :: m15 :: k_16 :: all17 :: i18 :: x19 :: i20 :: at21 :: i22 :: l23 :: u_24 :: e25 :: m26 :: v27 :: f28 :: t29 :: t30 :: t31 :: t32 :: t33 :: t34 :: t35 :: t36 :: t37 :: t38 :: t39 :: t40 :: t41 :: t42 :: t43 :: t44 :: t45 :: t46 :: t47 :: t48 :: t49 :: t50 :: t51 :: t52 :: t53 :: t54 :: t55 :: t56 :: t57 :: t58 :: t59 :: t60 :: t61 :: t62 :: t63 :: t64 :: t65 :: t66 :: t67 :: t68 :: t69 :: t70 :: t71 :: t72 :: t73 :: t74 :: t75 :: t76 :: t77 :: t78 :: t79 :: t80 :: t81 :: t82 :: t83 :: t84 :: t85 :: t86 :: t87 :: t88 :: t89 :: t90 :: t91 :: t92 :: t93 :: t94 :: t95 :: t96 :: t97 :: t98 :: t99 :: t100 :: t101 :: t102 :: t103 :: t104 :: t105 :: t106 :: t107 :: t108 :: t109 :: t110 :: t111 :: t112 :: t113 :: t114 :: t115 :: t116 :: t117 :: t118 :: t119 :: t120 :: t121 :: t122 :: t123 :: t124 :: t125 :: t126 :: t127 :: t128 :: t129 :: t130 :: t131 :: t132 :: t133 :: t134 :: t135 :: t136 :: t137 :: t138 :: t139 :: t140 :: t141 :: t142 :: t143 :: t144 :: t145 :: t146 :: t147 :: t148 :: t149 :: t150 :: t151 :: t152 :: t153 :: t154 :: t155 :: t156 :: t157 :: t158 :: t159 :: t160 :: t161 :: t162 :: t163 :: t164 :: t165 :: t166 :: t167 :: t168 :: t169 :: t170 :: t171 :: t172 :: t173 :: t174 :: t175 :: t176 :: t177 :: t178 :: t179 :: t180 :: t181 :: t182 :: t183 :: t184 :: t185 :: t186 :: t187 :: t188 :: t189 :: t190 :: t191 :: t192 :: t193 :: t194 :: t195 :: t196 :: t197 :: t198 :: t199 :: t200 :: t201 :: t202 :: t203 :: t204 :: t205 :: t206 :: t207 :: t208 :: t209 :: t210 :: t211 :: t212 :: t213 :: t214 :: t215 :: t216 :: t217 :: t218 :: t219 :: t220 :: t221 :: t222 :: t223 :: t224 :: t225 :: t226 :: t227 :: t228 :: t229 :: t230 :: t231 :: t232 :: t233 :: t234 :: t235 :: t236 :: t237 :: t238 :: t239 :: t240 :: t241 :: t242 :: t243 :: t244 :: t245 :: t246 :: t247 :: t248 :: t249 :: t250 :: t251 :: t252 :: t253 :: t254 :: t255 :: t256 :: t257 :: t258 :: t259 :: t260 :: t261 :: [])) w := by
  subst e0 e1 e2 e3 e4 ea eb ei eid
  refine leatlaw26_AuditOrder_L1_r (Inv := fun l i wr => ∃ (j : Nat) (a : Option Addr) (c : Nat), i = .int .i64 ((j : Int) + 1) ∧ j ≤ 4 ∧ l = .slice a j c ∧ TW B0 B wr fa fb ⟨N4 j, [], [], []⟩ ⟨N4 j, [], [], []⟩ ∧ OV wr B E64 a j c ((oids j).map uv) ∧ Below B0 W wr)
    (μ := fun l i _ => 5 - (intOf i).toNat) ⟨0, none, 0, rfl, by omega, rfl, ht, OV.nil _ _ _, hW⟩ ?_
  rintro _ _ _ w1 m ⟨j, a, c, rfl, hj, rfl, t1, o1, W1⟩ hm
  by_cases hj4 : j < 4
  rotate_left
  · have : j = 4 := by omega
    subst this
    refine bin_leq ?_
    refine cond_f (by omega) ?_
    exact hB rfl rfl rfl rfl rfl rfl rfl rfl t1 o1 W1
  refine bin_leq ?_
  refine cond_t (by omega) ?_
  refine bld_of (vs := evC j) (by kernel_rfl) ?_
  refine alc_of (z := .agg #[.int .i64 0, .int .u64 0, .int .u64 0, .int .u64 0, .int .u64 0, .int .u64 0, .int .u64 0, .int .u64 0, .int .u8 0, .int .u64 0, .int .i64 0, .int .i64 0, .int .u64 0, .int .u64 0]) (by kernel_rfl) ?_
  intro w2 hb2 b2 s2
  refine stoA (n := 14) (vs := evC j) (by kernel_rfl) rfl hb2 (by simp [Value.cells]) (by simp [evC, Value.oneCell']) ?_
  intro w3 hb3 o3
  have hb3 : blk w3 w1.heap.size 39 (evC j) := hb3
  have b13 : Below w1.heap.size w1 w3 := b2.trans o3.below
  have s3 : w3.heap.size = w1.heap.size + 1 := o3.size.trans s2
  refine bld_of (vs := askC ⟨1, 0, 0, 1000000, 0, 0⟩) (by kernel_rfl) ?_
  refine alc_of (z := .agg #[.int .u8 0, .int .u64 0, .int .i64 0, .int .i64 0, .int .u64 0, .int .u64 0]) (by kernel_rfl) ?_
  intro w4 hb4 b4 s4
  refine stoA (n := 6) (vs := askC ⟨1, 0, 0, 1000000, 0, 0⟩) (by kernel_rfl) rfl hb4 (by simp [Value.cells]) (by simp [askC, Value.oneCell']) ?_
  intro w5 hb5 o5
  have hb5 : blk w5 w3.heap.size 35 (askC ⟨1, 0, 0, 1000000, 0, 0⟩) := hb5
  have b35 : Below w3.heap.size w3 w5 := b4.trans o5.below
  have b15 : Below w1.heap.size w1 w5 := b13.trans (b35.mono b13.size)
  have hm5 := below_blk b35 hb3 hb3.lt
  have t5 := t1.below b15
  have o5' := own_bel o1 b15
  have W5 := W1.trans (b15.mono t1.b0)
  have tp := t1.top
  refine bin_gtr ?_
  have dec : ∀ {x : Value}, x = .int .i64 ((j : Int) + 1 + 1) → 5 - (intOf x).toNat < m := by
    rintro _ rfl; rw [hm]; simp only [intOf]; omega
  by_cases hj0 : j = 0
  · subst hj0
    refine leatlaw26_AuditOrder_A2_r ?_
    refine cond_f (by omega) ?_
    refine ord_P3 (a := a) (c := c) (mb := w1.heap.size) (kb := w3.heap.size) hj4 t5 o5' W5 hBB rfl rfl rfl rfl rfl rfl hm5 hb5 (by omega) (by omega) ?_
    intro e2 w6 a6 c6 h13 h14 t6 o6 W6
    exact ⟨⟨1, a6, c6, by rw [h14]; rfl, by omega, h13, t6, o6, W6⟩, dec h14⟩
  · refine leatlaw26_AuditOrder_A2_r ?_
    refine cond_t (by omega) ?_
    refine sub64 (by omega) (by omega) ?_
    rw [show (j : Int) + 1 - 2 = ((j - 1 : Nat) : Int) by omega]
    refine idxU (OV.rv o5') (by omega) ?_
    intro hc
    refine ldU hc ?_
    rw [G_oids (by omega)]
    refine fA_Ask_1 ?_
    refine sto1 (fun _ => by kernel_rfl) hb5 (by simp [askC]) rfl ?_
    intro w6 hb6 o6
    have hb6 : blk w6 w3.heap.size 35 (askC (ndA j)) := by
      have : askC (ndA j) = (askC ⟨1, 0, 0, 1000000, 0, 0⟩).set (0 + 1) (uv (oid (j - 1))) := by simp [ndA, askC, hj0]
      rw [this]; exact hb6
    have cg : Ch [w3.heap.size] w5 w6 := Ch.of_oth o6 (by simp)
    have t6 := t5.ch cg (by simp; omega)
    have o6' : OV w6 B E64 a j c ((oids j).map uv) := own_same o5' fun k hk => o6.other k (by
      have h1 := (World.ownsRow.lt o1 k hk).2
      omega)
    have W6 := W5.trans (cg.below (by simp; omega) t5.b0)
    refine ord_P3 (a := a) (c := c) (mb := w1.heap.size) (kb := w3.heap.size) hj4 t6 o6' W6 hBB rfl rfl rfl rfl rfl rfl (o6.blk hm5 (by omega)) hb6 (by omega) (by omega) ?_
    intro e2 w7 a7 c7 h13 h14 t7 o7 W7
    exact ⟨⟨j + 1, a7, c7, by rw [h14]; simp, by omega, h13, t7, o7, W7⟩, dec h14⟩
end
end Go.Proofs.Ytcieejlkdfdpiaa
