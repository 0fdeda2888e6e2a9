/- AuditOrder, the walk: what is said to the first audit. -/
import Derived.Test.YtcieejlkdfdpiaaAO1
namespace Go.Proofs.Ytcieejlkdfdpiaa
set_option maxRecDepth 100000
open Go.RowKit Go.ChangeMaps
theorem rb_drew {w : World} {a : Option Addr} {n c : Nat} {xs : List UInt8} (h : RB w a n c xs) : RB w.drew a n c xs := ⟨RV.len h, RV.cap h, RV.some_ h, RV.nil_ h, fun i v hv => RV.cell (w := w) h i v hv⟩
theorem rv_drew {w : World} {a : Option Addr} {n c : Nat} {xs : List Value} (h : RV w a n c xs) : RV w.drew a n c xs := ⟨RV.len h, RV.cap h, RV.some_ h, RV.nil_ h, fun i v hv => RV.cell (w := w) h i v hv⟩
structure OI where
  kl : List UInt8
  wl : List UInt8
  nl : List UInt8
  al : List Int
def OI.who (o : OI) (i : Nat) : Int := 1 + ((o.wl.getD i 0).toNat % 3 : Nat)
def OI.tak (o : OI) (i : Nat) : Ak := ⟨3, oid ((o.nl.getD i 0).toNat % 4), 0, 1 + o.al.getD i 0, (i : Int) + 1, 0⟩
def OI.fre (o : OI) (i : Nat) : Ak := ⟨4, 0, 0, 0, (i : Int) + 1, 1 + o.al.getD i 0 % (i : Int)⟩
def OI.ask (o : OI) (i : Nat) : Ak := if (o.kl.getD i 0).toNat % 2 = 1 ∧ 0 < i then o.fre i else o.tak i
def RU (w : World) (a : Option Addr) (n c : Nat) (l : List Int) : Prop := RV w a n c (l.map (Value.int .u16)) ∧ ∀ x ∈ l, 0 ≤ x ∧ x ≤ 65535
theorem RU.len {w : World} {a : Option Addr} {n c : Nat} {l : List Int} (h : RU w a n c l) : l.length = n := by simpa using RV.len h.1
theorem getD_mem {l : List Int} {i : Nat} (h : i < l.length) : l.getD i 0 ∈ l := by simp [List.getD, h]
theorem OI.its (o : OI) {n : Nat} (h : ∀ x ∈ o.al, 0 ≤ x ∧ x ≤ 65535) (hn : o.al.length = n) : Its n o.ask := by
  refine ⟨fun i hi => ?_, fun i hi => ?_, fun i hi hk => ?_⟩
  · unfold OI.ask; split
    · exact .inr rfl
    · exact .inl rfl
  · unfold OI.ask; split <;> rfl
  · have := h _ (getD_mem (l := o.al) (i := i) (by omega))
    unfold OI.ask at hk ⊢
    split
    · rename_i hc; rw [if_pos hc] at hk; cases hk
    · show 1 ≤ 1 + o.al.getD i 0 ∧ 1 + o.al.getD i 0 ≤ 65536
      omega
structure OA (W : World) (o : OI) (n : Nat) (k w m a : Option Addr × Nat) : Prop where
  hk : RB W k.1 n k.2 o.kl
  hw : RB W w.1 n w.2 o.wl
  hm : RB W m.1 n m.2 o.nl
  ha : RU W a.1 n a.2 o.al
  hn : n ≤ 30
theorem OA.below {W w' : World} {o : OI} {n : Nat} {k w m a : Option Addr × Nat} (h : OA W o n k w m a) (hb : Below W.heap.size W w') : OA w' o n k w m a :=
  ⟨RV.below h.hk hb (Nat.le_refl _), RV.below h.hw hb (Nat.le_refl _), RV.below h.hm hb (Nat.le_refl _), ⟨RV.below h.ha.1 hb (Nat.le_refl _), h.ha.2⟩, h.hn⟩
theorem OA.its {W : World} {o : OI} {n : Nat} {k w m a : Option Addr × Nat} (h : OA W o n k w m a) : Its n o.ask := o.its h.ha.2 h.ha.len
abbrev TAsk : TypeId := 35
def askR (o : OI) (j : Nat) : List Value := (List.range j).flatMap fun i => askC (o.ask i)
attribute [local irreducible] bin un conv call callV blt slc fldA fld idxA idx lkp mUpd mEnt eSt rng nxt ent ext alc box bld bldS ld sto nilC mkMap mkS ifc pick rdy wts gsel sti cond retM Gives cCode cGrp cSeq cOp
attribute [local irreducible] leatlaw26_AuditOrder_A1 leatlaw26_AuditOrder_A2 leatlaw26_AuditOrder_A3 leatlaw26_AuditOrder_A4 leatlaw26_AuditOrder_A5 leatlaw26_AuditOrder_A6 leatlaw26_AuditOrder_L1 leatlaw26_AuditOrder_L2 leatlaw26_AuditOrder_L3 leatlaw26_AuditOrder_L4 leatlaw26_AuditOrder_P1 leatlaw26_AuditOrder_P10 leatlaw26_AuditOrder_P11 leatlaw26_AuditOrder_P2 leatlaw26_AuditOrder_P3 leatlaw26_AuditOrder_P4 leatlaw26_AuditOrder_P5 leatlaw26_AuditOrder_P6 leatlaw26_AuditOrder_P7 leatlaw26_AuditOrder_P8 leatlaw26_AuditOrder_P9
section
variable {w : World} {K : KV}
theorem idx8n {a : Option Addr} {n c i : Nat} {k : IntKind} {l : List UInt8} (hr : RB w a n c l) (hi : i < n) (h : K (.pointer (some (slotA a i))) w) : idxA Try.prog 54 (.slice a n c) (.int k (i : Nat)) K w := by
  refine idx8 hr (by omega) (by omega) ?_
  intro _; rw [Int.toNat_natCast]; exact h
theorem ld8n {a : Option Addr} {n c i : Nat} {l : List UInt8} (hr : RB w a n c l) (hi : i < n) (h : K (.int .u8 (((l.getD i 0).toNat : Nat) : Int)) w) : ld Try.prog 5 (.pointer (some (slotA a i))) K w := by
  refine ld8 ?_ h
  have hl : i < l.length := by have := RV.len hr; simp at this; omega
  rw [RV.cell hr i (u8v l[i]) (by simp [List.getElem?_map, List.getElem?_eq_getElem hl])]
  simp [u8v, List.getD, hl]
theorem idx16n {a : Option Addr} {n c i : Nat} {k : IntKind} {l : List Int} (hr : RU w a n c l) (hi : i < n) (h : K (.pointer (some (slotA a i))) w) : idxA Try.prog 55 (.slice a n c) (.int k (i : Nat)) K w := by
  refine idx_slc Try.underlying55 (fun _ => by kernel_rfl) (by omega) (by omega) (RV.some_ hr.1) ?_
  rw [Int.toNat_natCast]; exact h
theorem ld16n {a : Option Addr} {n c i : Nat} {l : List Int} (hr : RU w a n c l) (hi : i < n) (h : K (.int .u16 (l.getD i 0)) w) : ld Try.prog 58 (.pointer (some (slotA a i))) K w := by
  refine ld_cell (fun _ => by kernel_rfl) ?_ h
  have hl : i < l.length := by have := hr.len; omega
  rw [RV.cell hr.1 i (.int .u16 l[i]) (by simp [List.getElem?_map, List.getElem?_eq_getElem hl])]
  simp [List.getD, hl]
theorem ldUn {a : Option Addr} {n c i : Nat} {l : List Int} (hr : RV w a n c (l.map uv)) (hi : i < n) (h : K (uv (G l i)) w) : ld Try.prog 33 (.pointer (some (slotA a i))) K w := by
  refine ldU ?_ h
  have hl : l.length = n := by simpa using RV.len hr
  rw [RV.cell hr i (uv (G l i)) (by simp [List.getElem?_map, List.getElem?_eq_getElem (show i < l.length by omega), G, List.getD, show i < l.length by omega])]
theorem info_ask : (Try.prog.info? 35).map (fun i => (i.zero, i.size, i.bytes)) = some (some (.agg #[.int .u8 0, .int .u64 0, .int .i64 0, .int .i64 0, .int .u64 0, .int .u64 0]), 6, 48) := by kernel_rfl
theorem askR_next (o : OI) (j : Nat) : askR o (j + 1) = askR o j ++ askC (o.ask j) := by simp [askR, List.range_succ]

theorem ord_P6 {kinds0 whos1 nodes2 amounts3 order4 kinds5 whos6 nodes7 amounts8 order9 t10 a11 b12 ids13 i14 m15 k_16 all17 i18 x19 i20 at21 i22 l23 u_24 e25 m26 v27 f28 t29 t30 t31 t32 t33 t34 t35 t36 t37 t38 t39 t40 t41 t42 t43 t44 t45 t46 t47 t48 t49 t50 t51 t52 t53 t54 t55 t56 t57 t58 t59 t60 t61 t62 t63 t64 t65 t66 t67 t68 t69 t70 t71 t72 t73 t74 t75 t76 t77 t78 t79 t80 t81 t82 t83 t84 t85 t86 t87 t88 t89 t90 t91 t92 t93 t94 t95 t96 t97 t98 t99 t100 t101 t102 t103 t104 t105 t106 t107 t108 t109 t110 t111 t112 t113 t114 t115 t116 t117 t118 t119 t120 t121 t122 t123 t124 t125 t126 t127 t128 t129 t130 t131 t132 t133 t134 t135 t136 t137 t138 t139 t140 t141 t142 t143 t144 t145 t146 t147 t148 t149 t150 t151 t152 t153 t154 t155 t156 t157 t158 t159 t160 t161 t162 t163 t164 t165 t166 t167 t168 t169 t170 t171 t172 t173 t174 t175 t176 t177 t178 t179 t180 t181 t182 t183 t184 t185 t186 t187 t188 t189 t190 t191 t192 t193 t194 t195 t196 t197 t198 t199 t200 t201 t202 t203 t204 t205 t206 t207 t208 t209 t210 t211 t212 t213 t214 t215 t216 t217 t218 t219 t220 t221 t222 t223 t224 t225 t226 t227 t228 t229 t230 t231 t232 t233 t234 t235 t236 t237 t238 t239 t240 t241 t242 t243 t244 t245 t246 t247 t248 t249 t250 t251 t252 t253 t254 t255 t256 t257 t258 t259 t260 t261 : Value} {B1 : KE} {B B2 : Nat} {fa fb : AF} {W : World} {o : OI} {n j : Nat} {kk ww mm aa : Option Addr × Nat} {a : Option Addr} {c xb : Nat} {S Sb : AS} (hj : j < n)
    (hA : OA W o n kk ww mm aa) (ht : TW W.heap.size B w fa fb S Sb) (ho : w.ownsRow B2 TAsk 6 (.slice a j c) j (askR o j)) (hW : Below W.heap.size W w) (hBB : B ≤ B2) (h2 : B2 ≤ w.heap.size) (h0 : W.heap.size ≤ B)
    (ea : a11 = ptr fa.p) (ew : whos1 = .slice ww.1 n ww.2) (ei : i18 = .int .i64 (j : Nat)) (eal : all17 = .slice a j c) (ex : x19 = ptr xb) (hx : blk w xb TAsk (askC (o.ask j))) (hxb : B2 ≤ xb) (hxo : ∀ k, (Value.slice a j c).ownBlock = some k → k ≠ xb)
    (hB : ∀ e2 w2 a2 c2, gd e2 17 = .slice a2 (j + 1) c2 → gd e2 18 = .int .i64 ((j : Int) + 1) → TW W.heap.size B w2 fa fb (stp o.who o.ask S j) Sb → w2.ownsRow B2 TAsk 6 (.slice a2 (j + 1) c2) (j + 1) (askR o (j + 1)) → Below W.heap.size W w2 → (∀ k, k < w.heap.size → B ≤ k → (∀ q, (Value.slice a j c).ownBlock = some q → k ≠ q) → w2.heap[k]? = w.heap[k]?) → w.heap.size ≤ w2.heap.size → B1 e2 w2) :
    leatlaw26_AuditOrder_P6 K B1 ((kinds0 :: whos1 :: nodes2 :: amounts3 :: order4 :: kinds5 :: whos6 :: nodes7 :: amounts8 :: order9 :: t10 :: a11 :: b12 :: ids13 :: i14 :: m15 :: k_16 :: all17 :: i18 :: x19 :: i20 :: at21 :: i22 :: l23 :: u_24 :: e25 :: m26 :: v27 :: f28 :: t29 :: t30 :: t31 :: t32 :: t33 :: t34 :: t35 :: t36 :: t37 :: t38 :: t39 :: t40 :: t41 :: t42 :: t43 :: t44 :: t45 :: t46 :: t47 :: t48 :: t49 :: t50 :: t51 :: t52 :: t53 :: t54 :: t55 :: t56 :: t57 :: t58 :: t59 :: t60 :: t61 :: t62 :: t63 :: t64 :: t65 :: t66 :: t67 :: t68 :: t69 :: t70 :: t71 :: t72 :: t73 :: t74 :: t75 :: t76 :: t77 :: t78 :: t79 :: t80 :: t81 :: t82 :: t83 :: t84 :: t85 :: t86 :: t87 :: t88 :: t89 :: t90 :: t91 :: t92 :: t93 :: t94 :: t95 :: t96 :: t97 :: t98 :: t99 :: t100 :: t101 :: t102 :: t103 :: t104 :: t105 :: t106 :: t107 :: t108 :: t109 :: t110 :: t111 :: t112 :: t113 :: t114 :: t115 :: t116 :: t117 :: t118 :: t119 :: t120 :: t121 :: t122 :: t123 :: t124 :: t125 :: t126 :: t127 :: t128 :: t129 :: t130 :: t131 :: t132 :: t133 :: t134 :: t135 :: t136 :: t137 :: t138 :: t139 :: t140 :: t141 :: t142 :: t143 :: t144 :: t145 :: t146 :: t147 :: t148 :: t149 :: t150 :: t151 :: t152 :: t153 :: t154 :: t155 :: t156 :: t157 :: t158 :: t159 :: t160 :: t161 :: t162 :: t163 :: t164 :: t165 :: t166 :: t167 :: t168 :: t169 :: t170 :: t171 :: t172 :: t173 :: t174 :: t175 :: t176 :: t177 :: t178 :: t179 :: t180 :: t181 :: t182 :: t183 :: t184 :: t185 :: t186 :: t187 :: t188 :: t189 :: t190 :: t191 :: t192 :: t193 :: t194 :: t195 :: t196 :: t197 :: t198 :: t199 :: t200 :: t201 :: t202 :: t203 :: t204 :: t205 :: t206 :: t207 :: t208 :: t209 :: t210 :: t211 :: t212 :: t213 :: t214 :: t215 :: t216 :: t217 :: t218 :: t219 :: t220 :: t221 :: t222 :: t223 :: t224 :: t225 :: t226 :: t227 :: t228 :: t229 :: t230 :: t231 :: t232 :: t233 :: t234 :: t235 :: t236 :: t237 :: t238 :: t239 :: t240 :: t241 :: t242 :: t243 :: t244 :: t245 :: t246 :: t247 :: t248 :: t249 :: t250 :: t251 :: t252 :: t253 :: t254 :: t255 :: t256 :: t257 :: t258 :: t259 :: t260 :: t261 :: [])) w := by
  subst ea ew ei eal ex
  have hn30 := hA.hn
  refine leatlaw26_AuditOrder_P6_r ?_
  refine ldA (n := 6) (vs := askC (o.ask j)) Try.underlying35 rfl (by kernel_rfl) hx rfl rfl ?_
  refine bldSG (vs := [.agg (askC (o.ask j)).toArray]) Try.underlying57 (s := 6) (by kernel_rfl) (by kernel_rfl) (by omega) rfl (by simp) (by simp) (by simp) (by simp [Value.cells, askC]) ?_
  intro w3 hb3 b3 s3
  have hb3 : blk w3 w.heap.size TAsk (askC (o.ask j)) := by
    have e : ([Value.agg (askC (o.ask j)).toArray].flatMap fun v => v.cells.toList) = askC (o.ask j) := by simp [Value.cells]
    rw [e] at hb3; exact hb3
  have t3 := ht.below b3
  have o3 := own_bel ho b3
  have hx3 := below_blk b3 hx hx.lt
  obtain ⟨i, hi, hz, hsz, hby⟩ := info_parts info_ask
  refine app_own (base := B2) (s := 6) (ys := askC (o.ask j)) Try.underlying57 hi hz hsz hby rfl (by omega) o3 hb3 rfl rfl (by simp [askC, Value.oneCell']) (by omega) (by omega) (by omega) ?_
  intro a4 c4 w4 o4 g4
  have cg := Ch.of_grown g4
  have hg : ∀ x ∈ ((Value.slice a j c).ownBlock).toList, B2 ≤ x := fun x hx => (World.ownsRow.lt o3 x (by simpa using hx)).1
  have t4 := t3.ch cg (fun x hx => Nat.le_trans hBB (hg x hx))
  have W4 := (hW.trans (b3.mono ht.b0)).trans (cg.below (fun x hx => Nat.le_trans (Nat.le_trans h0 hBB) (hg x hx)) t3.b0)
  have hx4 : blk w4 xb TAsk (askC (o.ask j)) := hx3.ch cg (by
    intro hf; exact hxo xb (by simpa using hf) rfl)
  have A4 := (hA.below W4)
  have bd : Below w4.heap.size w4 w4.drew := (Below.refl _ w4).drew
  refine hReg_of (fun x => RB x ww.1 n ww.2 o.wl ∧ blk x xb TAsk (askC (o.ask j))) ⟨rb_drew A4.hw, hx4.drew⟩ ?_
  refine hld_of (fun x hx K hK => idx8n hx.1 hj hK) ?_
  refine hld_of (fun x hx K hK => ld8n hx.1 hj hK) ?_
  refine hld_of (v := .int .u8 (((o.wl.getD j 0).toNat % 3 : Nat) : Int)) (fun x hx K hK => rem_nn (by omega) (by omega) (by rw [show (((o.wl.getD j 0).toNat : Nat) : Int) % 3 = (((o.wl.getD j 0).toNat % 3 : Nat) : Int) by omega]; exact hK)) ?_
  refine hld_of (v := .int .i64 (((o.wl.getD j 0).toNat % 3 : Nat) : Int)) (fun x hx K hK => conv_int Try.underlying5 Try.underlying3 (by rw [wrap_i64 (by omega) (by omega)]; exact hK)) ?_
  refine hld_of (v := .int .i64 (o.who j)) (fun x hx K hK => add64 (by omega) (by omega) hK) ?_
  refine hld_of (fun x hx K hK => ldA (n := 6) (vs := askC (o.ask j)) Try.underlying35 rfl (by kernel_rfl) hx.2 rfl rfl hK) ?_
  refine hld_of (fun x hx K hK => bld_of (vs := [.int .i64 0, .int .u64 0, .int .u64 0, .int .u64 0, .int .u64 0, .int .u64 0, .int .u64 0, .int .u64 0, .int .u8 0, .int .u64 0, .int .i64 0, .int .i64 0, .int .u64 0, .int .u64 0, .int .i64 0]) (by kernel_rfl) hK) ?_
  have t5 := t4.below bd
  refine say_c (e := 0) t5.a (⟨rfl, rfl, rfl, rfl⟩ : ansOk _ 0 0 0) (by omega) ?_
  intro w6 ha6 c6
  have t6 := t5.chA ha6 c6
  refine leatlaw26_AuditOrder_P5_r ?_
  refine add64 (by omega) (by omega) ?_
  have o5 : w4.drew.ownsRow B2 TAsk 6 (.slice a4 (j + 1) c4) (j + 1) (askR o (j + 1)) := by rw [askR_next]; exact o4
  refine hB _ w6 a4 c4 rfl rfl t6 (own_ch o5 c6 fun x hx => Nat.lt_of_lt_of_le (t5.ftA x hx).2 hBB) ((W4.trans (bd.mono t4.b0)).trans (c6.below (fun x hx => (t5.ftA x hx).1) t5.b0)) (fun k hk hBk hq => ?_) ?_
  · have s4 := g4.size
    have hd : w4.drew.heap.size = w4.heap.size := rfl
    rw [c6.block k (by omega) (fun hf => by have := (t5.ftA k hf).2; omega)]
    show w4.heap[k]? = _
    rw [g4.block k (by omega) (fun e => hq k e.symm rfl), b3.block k hk]
  · have := c6.size
    have := g4.size
    have hd : w4.drew.heap.size = w4.heap.size := rfl
    omega
end
end Go.Proofs.Ytcieejlkdfdpiaa
