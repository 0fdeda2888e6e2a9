/- The document's audit, on: what is said. -/
import Derived.Test.YtcieejlkdfdpiaaARef2
import Derived.Test.YtcieejlkdfdpiaaAud2
namespace Go.Proofs.Ytcieejlkdfdpiaa
set_option maxRecDepth 100000
open Go.RowKit Go.ChangeMaps
/-! ## Plain -/
def InsN (L : List (Int × (Int × Int))) (p : Int × (Int × Int)) (L' : List (Int × (Int × Int))) : Prop :=
  ∃ k, k ≤ L.length ∧ L' = L.take k ++ p :: L.drop k ∧ (∀ x ∈ L.drop k, p.1 < x.1) ∧ (k = 0 ∨ ∃ x, L[k - 1]? = some x ∧ x.1 ≤ p.1)
def amS (x : Int) : Int := if x < 0 ∨ 1125899906842624 < x then 0 else x
/-- What is there behind a word to the document's audit. -/
def RSay (S : RS) (who : Int) (a : Ak) (o s e : Int) (S' : RS) : Prop :=
  if e ≠ 0 ∧ e ≠ 8 then S' = S
  else if a.kind = 1 then (if treeIdS o s ≠ 0 ∧ mget S.N (treeIdS o s) = none then ∃ L', InsN S.N (treeIdS o s, (a.node, withinS a.amount)) L' ∧ S' = { S with N := L' } else S' = S)
  else if a.kind = 2 then S' = { S with R := S.R ++ [(a.node, withinS a.amount)] }
  else if a.kind = 3 then (if e = 0 ∧ ∀ y ∈ S.T, y.1 ≠ (who, a.req) then S' = { S with T := S.T ++ [((who, a.req), (a.node, amS a.amount), S.B.any (fun q => decide (q = (who, a.req))))] } else S' = S)
  else if a.kind = 4 then ((∀ y ∈ S.T, y.1 ≠ (who, a.of)) ∧ S' = { S with B := S.B ++ [(who, a.of)] }) ∨ (∃ k x, S.T[k]? = some x ∧ x.1 = (who, a.of) ∧ (∀ j y, j < k → S.T[j]? = some y → y.1 ≠ (who, a.of)) ∧ S' = { S with B := S.B ++ [(who, a.of)], T := S.T.set k (x.1, x.2.1, true) })
  else S' = S
section
variable {P : Program} {w w' : World} {K : KV} {t : TypeId} {g B n c s : Nat} {e : TypeId} {α : Type} {enc : α → List Value} {L : List α} {cur : List Value}
theorem Opn.cell {i j : Nat} {x : α} (hs : ∀ x, (enc x).length = s) (h : Opn w B e s n c g cur (L.flatMap enc)) (hl : L.length = n) (hx : L[i]? = some x) (hj : j < s) : cur[i * s + j]? = (enc x)[j]? := by
  rw [← h.elem hs hl hx, List.getElem?_take_of_lt hj, List.getElem?_drop]
theorem Opn.set1 {i j : Nat} {x x' : α} {v : Value} (hs : ∀ x, (enc x).length = s) (h : Opn w B e s n c g cur (L.flatMap enc)) (hl : L.length = n) (hx : L[i]? = some x) (hj : j < s) (hv : (enc x).set j v = enc x') (hb : Go.Proofs.Ytcieejlkdfdpiaa.blk w' g e (cur.set (i * s + j) v)) :
    Opn w' B e s n c g (cur.set (i * s + j) v) ((L.set i x').flatMap enc) := by
  have hi : i < n := by rw [← hl]; exact (List.getElem?_eq_some_iff.1 hx).1
  have h1 : (i + 1) * s ≤ n * s := Nat.mul_le_mul_right _ hi
  have h2 : n * s ≤ c * s := Nat.mul_le_mul_right _ h.nc
  rw [Nat.succ_mul] at h1
  have hcl := h.len
  have e1 : cur = cur.take (i * s) ++ (enc x ++ cur.drop (i * s + s)) := by
    rw [← h.elem hs hl hx]
    have : cur.drop (i * s + s) = (cur.drop (i * s)).drop s := by rw [List.drop_drop]
    rw [this, List.take_append_drop, List.take_append_drop]
  have e2 : cur.set (i * s + j) v = cur.take (i * s) ++ enc x' ++ cur.drop (i * s + s) := by
    have hlt : (cur.take (i * s)).length = i * s := by rw [List.length_take]; omega
    conv => lhs; rw [e1]
    rw [List.set_append_right _ _ (by rw [hlt]; omega), hlt, show i * s + j - i * s = j by omega, List.set_append_left _ _ (by rw [hs]; exact hj), hv, List.append_assoc]
  rw [e2] at hb ⊢
  exact h.set hs hl hi hb
theorem idxO {a : Option Addr} {i : Nat} {k : IntKind} (ha : a = some ⟨g, 0, none⟩) (ht : P.underlying t = some (.slice e)) (hsz : ∀ w, (sizeOf e).run P w = .ok s w) (hi : i < n) (h : K (.pointer (some ⟨g, i * s, none⟩)) w) : idxA P t (.slice a n c) (.int k (i : Nat)) K w := by
  subst ha
  refine idxRow (s := s) ht hsz (by omega) (by omega) ?_
  rw [Int.toNat_natCast, Nat.zero_add]; exact h
end
section
variable {w w' : World} {B : Nat} {f : RF} {S : RS}
theorem RK.drew (h : RK w B f S) : RK w.drew B f S := h.below (Below.refl _ w).drew
end
attribute [local irreducible] bin un conv call callV blt slc fldA fld idxA idx lkp mUpd mEnt eSt rng nxt ent ext alc box bld bldS ld sto nilC mkMap mkS ifc pick rdy wts gsel sti cond retM Gives cCode cGrp cSeq cOp
section
variable {w w0 : World} {K : KV} {B : Nat} {f : RF} {S : RS} {i : Nat}
theorem wi_is (x : Int) : (if (0 : Int) < (if (1125899906842624 : Int) < x then 1125899906842624 else x) then (if (1125899906842624 : Int) < x then 1125899906842624 else x) else 0) = withinS x := by unfold withinS; split <;> split <;> split <;> omega
theorem szN : ∀ w, (sizeOf TNd).run Try.prog w = .ok 3 w := fun _ => by kernel_rfl
theorem szT : ∀ w, (sizeOf TTk2).run Try.prog w = .ok 5 w := fun _ => by kernel_rfl

set_option maxHeartbeats 1000000 in
theorem rsay_A1 {a0 who1 k_2 x3 a4 who5 k_6 x7 id8 at9 n10 n11 x12 i13 at14 t15 t16 t17 t18 t19 t20 t21 t22 t23 t24 t25 t26 t27 t28 t29 t30 t31 t32 t33 t34 t35 t36 t37 t38 t39 t40 t41 t42 t43 t44 t45 t46 t47 t48 t49 t50 t51 t52 t53 t54 t55 t56 t57 t58 t59 t60 t61 t62 t63 t64 t65 t66 t67 t68 t69 t70 t71 t72 t73 t74 t75 t76 t77 t78 t79 t80 t81 t82 t83 t84 t85 t86 t87 t88 t89 t90 t91 t92 t93 t94 t95 t96 t97 t98 t99 t100 t101 t102 t103 t104 t105 t106 t107 t108 t109 t110 t111 t112 t113 t114 t115 t116 t117 t118 t119 t120 t121 t122 t123 t124 t125 t126 t127 t128 t129 t130 t131 t132 t133 t134 t135 t136 t137 t138 t139 t140 t141 t142 t143 t144 t145 t146 t147 t148 t149 t150 t151 t152 t153 t154 t155 t156 t157 t158 t159 t160 t161 t162 t163 t164 t165 t166 t167 t168 t169 t170 t171 t172 t173 t174 t175 t176 t177 t178 t179 t180 t181 t182 t183 t184 t185 t186 t187 t188 t189 t190 t191 t192 t193 t194 t195 t196 t197 t198 t199 t200 t201 t202 t203 t204 t205 t206 t207 t208 t209 t210 t211 t212 t213 t214 t215 t216 t217 t218 t219 t220 t221 t222 t223 t224 : Value} {a : Ak} {id : Int} {kb : Nat} {t : Bool} (hr : RK w B f S) (hb : RB0 S) (hB : B ≤ w.heap.size) (e0 : a0 = ptr f.p) (e6 : k_6 = ptr kb) (hk : blk w kb 35 (askC a)) (e8 : id8 = .int .u64 id) (e41 : t41 = .bool t)
    (hF : t = false → K (.tuple #[]) w) (hT : t = true → ∀ w' f' L', f'.p = f.p → RK w' B f' { S with N := L' } → InsN S.N (id, (a.node, withinS a.amount)) L' → Below B w w' → K (.tuple #[]) w') :
    leatref26_Audit_Say_A1 K ((a0 :: who1 :: k_2 :: x3 :: a4 :: who5 :: k_6 :: x7 :: id8 :: at9 :: n10 :: n11 :: x12 :: i13 :: at14 :: t15 :: t16 :: t17 :: t18 :: t19 :: t20 :: t21 :: t22 :: t23 :: t24 :: t25 :: t26 :: t27 :: t28 :: t29 :: t30 :: t31 :: t32 :: t33 :: t34 :: t35 :: t36 :: t37 :: t38 :: t39 :: t40 :: t41 :: t42 :: t43 :: t44 :: t45 :: t46 :: t47 :: t48 :: t49 :: t50 :: t51 :: t52 :: t53 :: t54 :: t55 :: t56 :: t57 :: t58 :: t59 :: t60 :: t61 :: t62 :: t63 :: t64 :: t65 :: t66 :: t67 :: t68 :: t69 :: t70 :: t71 :: t72 :: t73 :: t74 :: t75 :: t76 :: t77 :: t78 :: t79 :: t80 :: t81 :: t82 :: t83 :: t84 :: t85 :: t86 :: t87 :: t88 :: t89 :: t90 :: t91 :: t92 :: t93 :: t94 :: t95 :: t96 :: t97 :: t98 :: t99 :: t100 :: t101 :: t102 :: t103 :: t104 :: t105 :: t106 :: t107 :: t108 :: t109 :: t110 :: t111 :: t112 :: t113 :: t114 :: t115 :: t116 :: t117 :: t118 :: t119 :: t120 :: t121 :: t122 :: t123 :: t124 :: t125 :: t126 :: t127 :: t128 :: t129 :: t130 :: t131 :: t132 :: t133 :: t134 :: t135 :: t136 :: t137 :: t138 :: t139 :: t140 :: t141 :: t142 :: t143 :: t144 :: t145 :: t146 :: t147 :: t148 :: t149 :: t150 :: t151 :: t152 :: t153 :: t154 :: t155 :: t156 :: t157 :: t158 :: t159 :: t160 :: t161 :: t162 :: t163 :: t164 :: t165 :: t166 :: t167 :: t168 :: t169 :: t170 :: t171 :: t172 :: t173 :: t174 :: t175 :: t176 :: t177 :: t178 :: t179 :: t180 :: t181 :: t182 :: t183 :: t184 :: t185 :: t186 :: t187 :: t188 :: t189 :: t190 :: t191 :: t192 :: t193 :: t194 :: t195 :: t196 :: t197 :: t198 :: t199 :: t200 :: t201 :: t202 :: t203 :: t204 :: t205 :: t206 :: t207 :: t208 :: t209 :: t210 :: t211 :: t212 :: t213 :: t214 :: t215 :: t216 :: t217 :: t218 :: t219 :: t220 :: t221 :: t222 :: t223 :: t224 :: [])) w := by
  subst e0 e6 e8 e41
  have hnl := hb.nl
  refine leatref26_Audit_Say_A1_r ?_
  cases t
  · exact cond_F (hF rfl)
  have hT := hT rfl
  obtain ⟨x, hx⟩ : ∃ x : Int × (Int × Int), x = (id, (a.node, withinS a.amount)) := ⟨_, rfl⟩
  rw [← hx] at hT
  refine cond_T ?_
  refine rhN hr (fun _ _ => ?_)
  refine lenN ?_
  refine fA_Ask_1 ?_
  refine ld1 (v := .int .u64 a.node) (fun _ => by kernel_rfl) hk rfl ?_
  refine fA_Ask_3 ?_
  refine ld1 (v := .int .i64 a.amount) (fun _ => by kernel_rfl) hk rfl ?_
  refine min2i ?_
  refine max2i ?_
  rw [wi_is]
  refine bld_of (vs := rdC (id, (a.node, withinS a.amount))) (by kernel_rfl) ?_
  rw [← hx]
  refine alc_of (z := .agg #[.int .u64 0, .int .u64 0, .int .i64 0]) (by kernel_rfl) ?_
  intro w1 hb1 b1 s1
  refine stoA (n := 3) (vs := rdC x) (by kernel_rfl) rfl hb1 (by simp [Value.cells]) (by simp [rdC, Value.oneCell']) ?_
  intro w2 hn2 o2
  have hn2 : blk w2 w.heap.size TNd (rdC x) := hn2
  have hlt := hr.lt
  have hr2 : RK w2 B f S := (hr.below b1).new o2 (fun h => by have := hlt _ h; omega)
  have b2 : Below B w w2 := (b1.trans o2.below).mono hB
  have s2 : w2.heap.size = w.heap.size + 1 := by rw [o2.size, s1]
  refine hReg_of (fun y => RK y B f S ∧ blk y w.heap.size TNd (rdC x)) ⟨hr2.drew, hn2.drew⟩ ?_
  refine hld_of (fun y hy K hK => nilC_p hK) ?_
  refine hld_of (fun y hy K hK => fA_Ref_0 hK) ?_
  refine hld_of (fun y hy K hK => ld1 (v := .slice f.n.1 S.N.length f.n.2) (fun _ => by kernel_rfl) hy.1.head rfl hK) ?_
  refine hld_of (fun y hy K hK => ldA (n := 3) (vs := rdC x) Try.underlying49 rfl (by kernel_rfl) hy.2 rfl rfl hK) ?_
  refine tail_c (j := 0) Try.underlying27 info_nd rfl (by omega) (by omega) (by omega) (fun _ => by kernel_rfl) (by kernel_rfl) rfl (by simp [rdC, Value.oneCell']) hr2.drew.n (by show B ≤ w2.heap.size; omega) (by omega) hr2.drew.head (by simp) ty_ne.2.2.2.1 (fun w' hb' => ⟨hr2.drew.below hb', below_blk hb' hn2.drew hn2.drew.lt⟩) ?_
  intro a' c' w4 u r u1 u2 ho4 hh4 c4 m4
  have el : (S.N ++ [x]).length = S.N.length + 1 := by simp
  have ef : (S.N ++ [x]).flatMap rdC = S.N.flatMap rdC ++ rdC x := by simp
  have hr4 : RK w4 B { f with n := (a', c') } { S with N := S.N ++ [x] } := by
    refine hr2.drew.newN c4 ?_ ?_
    · rw [RK.hd]; simp only [el]; exact hh4
    · rw [el, ef]; exact ho4
  obtain ⟨f1, hf1⟩ : ∃ f1 : RF, f1 = { f with n := (a', c') } := ⟨_, rfl⟩
  have hp1 : f1.p = f.p := by rw [hf1]
  have hnb : w.heap.size ∉ f1.foot := by
    intro hm
    rw [hf1] at hm
    simp only [RF.foot, List.mem_cons, List.mem_append, Option.mem_toList] at hm
    rcases hm with hm | hm | hm | hm | hm
    · have := hlt f.p (by simp [RF.foot]); omega
    · have e1 : (Value.slice a' (S.N.length + 1) c').ownBlock = some w.heap.size := by rw [ownB]; exact hm
      rcases m4 with m4 | m4
      · rw [e1] at m4
        have := hlt w.heap.size (by rw [ownB] at m4; simp [RF.foot, m4.symm])
        omega
      · have h5 : w2.heap.size ≤ w.heap.size := m4 _ e1
        omega
    · have := hlt w.heap.size (by simp [RF.foot, hm]); omega
    · have := hlt w.heap.size (by simp [RF.foot, hm]); omega
    · have := hlt w.heap.size (by simp [RF.foot, hm]); omega
  have hFB : ∀ k ∈ f.p :: (Value.slice f.n.1 S.N.length f.n.2).ownBlock.toList, k ∈ f.foot := by
    intro k hk
    rw [ownB, List.mem_cons, Option.mem_toList] at hk
    rcases hk with rfl | hk
    · simp [RF.foot]
    · simp [RF.foot, hk]
  have b4 : Below B w w4 := b2.trans ((Ch.of_below (F := f.p :: (Value.slice f.n.1 S.N.length f.n.2).ownBlock.toList) ((Below.refl _ w2).drew)).trans c4 (fun x hx => .inl hx) |>.below (fun k hk => (hlt k (hFB k hk)).1) (by omega))
  have hn4 : blk w4 w.heap.size TNd (rdC x) := hn2.drew.ch c4 (fun hm => by have := hlt _ (hFB _ hm); omega)
  rw [← hf1] at hr4
  refine leatref26_Audit_Say_A3_r ?_
  have hxid : x.1 = id := by rw [hx]
  have opn : ∀ {wr : World} {z : List (Int × (Int × Int))}, RK wr B f1 { S with N := z } → z.length = S.N.length + 1 → ∃ g cur, f1.n.1 = some ⟨g, 0, none⟩ ∧ Opn wr B TNd 3 z.length f1.n.2 g cur (z.flatMap rdC) ∧ g ≠ w.heap.size ∧ B ≤ g := by
    intro wr z hz hl
    obtain ⟨g, cur, h1, h2⟩ := own_open hz.n (show 0 < z.length by omega)
    exact ⟨g, cur, h1, h2, fun e => hnb (by rw [← e]; simp [RF.foot, h1]), h2.lo⟩
  have p2 : ∀ {wr : World} {z : List (Int × (Int × Int))} {k : Nat} {a0 who1 k_2 x3 a4 who5 k_6 x7 id8 at9 n10 n11 x12 i13 at14 t15 t16 t17 t18 t19 t20 t21 t22 t23 t24 t25 t26 t27 t28 t29 t30 t31 t32 t33 t34 t35 t36 t37 t38 t39 t40 t41 t42 t43 t44 t45 t46 t47 t48 t49 t50 t51 t52 t53 t54 t55 t56 t57 t58 t59 t60 t61 t62 t63 t64 t65 t66 t67 t68 t69 t70 t71 t72 t73 t74 t75 t76 t77 t78 t79 t80 t81 t82 t83 t84 t85 t86 t87 t88 t89 t90 t91 t92 t93 t94 t95 t96 t97 t98 t99 t100 t101 t102 t103 t104 t105 t106 t107 t108 t109 t110 t111 t112 t113 t114 t115 t116 t117 t118 t119 t120 t121 t122 t123 t124 t125 t126 t127 t128 t129 t130 t131 t132 t133 t134 t135 t136 t137 t138 t139 t140 t141 t142 t143 t144 t145 t146 t147 t148 t149 t150 t151 t152 t153 t154 t155 t156 t157 t158 t159 t160 t161 t162 t163 t164 t165 t166 t167 t168 t169 t170 t171 t172 t173 t174 t175 t176 t177 t178 t179 t180 t181 t182 t183 t184 t185 t186 t187 t188 t189 t190 t191 t192 t193 t194 t195 t196 t197 t198 t199 t200 t201 t202 t203 t204 t205 t206 t207 t208 t209 t210 t211 t212 t213 t214 t215 t216 t217 t218 t219 t220 t221 t222 t223 t224 : Value}, a0 = ptr f.p → n10 = ptr w.heap.size → at9 = .int .i64 (k : Nat) → k ≤ S.N.length → RK wr B f1 { S with N := z } → blk wr w.heap.size TNd (rdC x) → z.length = S.N.length + 1 → z.take k = S.N.take k → z.drop (k + 1) = S.N.drop k → (∀ y ∈ S.N.drop k, id < y.1) →
      (k = 0 ∨ ∃ y, S.N[k - 1]? = some y ∧ y.1 ≤ id) → Below B w wr → leatref26_Audit_Say_P2 K ((a0 :: who1 :: k_2 :: x3 :: a4 :: who5 :: k_6 :: x7 :: id8 :: at9 :: n10 :: n11 :: x12 :: i13 :: at14 :: t15 :: t16 :: t17 :: t18 :: t19 :: t20 :: t21 :: t22 :: t23 :: t24 :: t25 :: t26 :: t27 :: t28 :: t29 :: t30 :: t31 :: t32 :: t33 :: t34 :: t35 :: t36 :: t37 :: t38 :: t39 :: t40 :: t41 :: t42 :: t43 :: t44 :: t45 :: t46 :: t47 :: t48 :: t49 :: t50 :: t51 :: t52 :: t53 :: t54 :: t55 :: t56 :: t57 :: t58 :: t59 :: t60 :: t61 :: t62 :: t63 :: t64 :: t65 :: t66 :: t67 :: t68 :: t69 :: t70 :: t71 :: t72 :: t73 :: t74 :: t75 :: t76 :: t77 :: t78 :: t79 :: t80 :: t81 :: t82 :: t83 :: t84 :: t85 :: t86 :: t87 :: t88 :: t89 :: t90 :: t91 :: t92 :: t93 :: t94 :: t95 :: t96 :: t97 :: t98 :: t99 :: t100 :: t101 :: t102 :: t103 :: t104 :: t105 :: t106 :: t107 :: t108 :: t109 :: t110 :: t111 :: t112 :: t113 :: t114 :: t115 :: t116 :: t117 :: t118 :: t119 :: t120 :: t121 :: t122 :: t123 :: t124 :: t125 :: t126 :: t127 :: t128 :: t129 :: t130 :: t131 :: t132 :: t133 :: t134 :: t135 :: t136 :: t137 :: t138 :: t139 :: t140 :: t141 :: t142 :: t143 :: t144 :: t145 :: t146 :: t147 :: t148 :: t149 :: t150 :: t151 :: t152 :: t153 :: t154 :: t155 :: t156 :: t157 :: t158 :: t159 :: t160 :: t161 :: t162 :: t163 :: t164 :: t165 :: t166 :: t167 :: t168 :: t169 :: t170 :: t171 :: t172 :: t173 :: t174 :: t175 :: t176 :: t177 :: t178 :: t179 :: t180 :: t181 :: t182 :: t183 :: t184 :: t185 :: t186 :: t187 :: t188 :: t189 :: t190 :: t191 :: t192 :: t193 :: t194 :: t195 :: t196 :: t197 :: t198 :: t199 :: t200 :: t201 :: t202 :: t203 :: t204 :: t205 :: t206 :: t207 :: t208 :: t209 :: t210 :: t211 :: t212 :: t213 :: t214 :: t215 :: t216 :: t217 :: t218 :: t219 :: t220 :: t221 :: t222 :: t223 :: t224 :: [])) wr := by
    intro wr z k
    intros
    rename_i e0 e10 e9 hkl hz hn hl ht hd hu hlo hbw
    subst e0 e10 e9
    obtain ⟨g, cur, ha, ho, hg, hBg⟩ := opn hz hl
    refine leatref26_Audit_Say_P2_r ?_
    rw [← hp1]
    refine sti_of (fun K hK => nilC_p hK) ?_
    refine sti_of (fun K hK => fA_Ref_0 hK) ?_
    refine sti_of (fun K hK => ld1 (v := .slice f1.n.1 z.length f1.n.2) (fun _ => by kernel_rfl) hz.drew.head rfl hK) ?_
    refine sti_of (fun K hK => ldA (n := 3) (vs := rdC x) Try.underlying49 rfl (by kernel_rfl) hn.drew rfl rfl hK) ?_
    refine sti_of (fun K hK => idxO ha Try.underlying27 szN (by omega) hK) ?_
    have hlen := ho.len
    have hnc := ho.nc
    refine stoA (n := 3) (vs := rdC x) (by kernel_rfl) rfl ho.blk.drew (by omega) (by simp [rdC, Value.oneCell']) ?_
    intro w5 hb5 o5
    have e5 : z.set k x = S.N.take k ++ x :: S.N.drop k := by rw [List.set_eq_take_append_cons_drop, if_pos (by omega), ht, hd]
    have hr5 := hz.drew.setN (N' := z.set k x) ha o5 (by simp) (Opn.set rdC_len ⟨ho.blk.drew, ho.lo, ho.nc, ho.cm, ho.len, ho.take, ho.xl⟩ rfl (by show k < z.length; omega) hb5)
    rw [e5] at hr5
    have hb5 : Below B w w5 := hbw.trans (((Below.refl _ wr).drew.mono (by have := hbw.size; omega)).trans (o5.below.mono hBg))
    exact hT w5 f1 _ hp1 hr5 ⟨k, hkl, rfl, by rw [hxid]; exact hu, by rw [hxid]; exact hlo⟩ hb5
  refine leatref26_Audit_Say_L1_r (Inv := fun t _ _ _ _ _ _ _ _ _ _ _ wr => ∃ (k : Nat) (z : List (Int × (Int × Int))), t = .int .i64 (k : Nat) ∧ k ≤ S.N.length ∧ RK wr B f1 { S with N := z } ∧ blk wr w.heap.size TNd (rdC x) ∧ z.length = S.N.length + 1 ∧ z.take k = S.N.take k ∧ z.drop (k + 1) = S.N.drop k ∧ (∀ y ∈ S.N.drop k, id < y.1) ∧ Below B w wr)
    (μ := fun t _ _ _ _ _ _ _ _ _ _ _ _ => (intOf t).toNat) ⟨S.N.length, S.N ++ [x], rfl, Nat.le_refl _, hr4, hn4, el, by rw [List.take_append_of_le_length (Nat.le_refl _)], by rw [List.drop_of_length_le (by rw [el]; exact Nat.le_refl _), List.drop_of_length_le (Nat.le_refl _)], by rw [List.drop_of_length_le (Nat.le_refl _)]; simp, b4⟩ ?_
  rintro _ _ _ _ _ _ _ _ _ _ _ _ _ w5 m ⟨k, z, rfl, hk5, hr5, hn5, hl5, ht5, hd5, hu5, b5⟩ hm
  refine bin_gtr ?_
  by_cases hk0 : 0 < k
  rotate_left
  · refine gsel_pf (by omega) ?_
    refine pick_f (by omega) ?_
    refine cond_F ?_
    exact p2 rfl rfl rfl hk5 hr5 hn5 hl5 ht5 hd5 hu5 (.inl (by omega)) b5
  refine gsel_pt (by omega) ?_
  obtain ⟨y, hy⟩ : ∃ y, S.N[k - 1]? = some y := ⟨_, List.getElem?_eq_getElem (by omega)⟩
  have hzy : z[k - 1]? = some y := by
    rw [← hy, ← List.getElem?_take_of_lt (show k - 1 < k by omega), ht5, List.getElem?_take_of_lt (by omega)]
  rw [← hp1]
  refine rhN hr5 (fun _ _ => ?_)
  refine sub64 (by omega) (by omega) ?_
  rw [csub1 hk0]
  refine rdN0 hr5 hzy (fun _ _ => ?_)
  refine bin_gtr ?_
  refine pick_t (by omega) ?_
  refine cond_p (fun hlt5 => ?_) (fun hlt5 => ?_)
  rotate_left
  · rw [hp1]
    exact p2 rfl rfl rfl hk5 hr5 hn5 hl5 ht5 hd5 hu5 (.inr ⟨y, hy, by omega⟩) b5
  obtain ⟨g, cur, ha, ho, hg, hBg⟩ := opn hr5 hl5
  refine sti_of (fun K hK => nilC_p hK) ?_
  refine sti_of (fun K hK => fA_Ref_0 hK) ?_
  refine sti_of (fun K hK => ld1 (v := .slice f1.n.1 z.length f1.n.2) (fun _ => by kernel_rfl) hr5.drew.head rfl hK) ?_
  refine sti_of (fun K hK => nilC_p hK) ?_
  refine sti_of (fun K hK => fA_Ref_0 hK) ?_
  refine sti_of (fun K hK => ld1 (v := .slice f1.n.1 z.length f1.n.2) (fun _ => by kernel_rfl) hr5.drew.head rfl hK) ?_
  refine sti_of (fun K hK => sub64 (by omega) (by omega) hK) ?_
  rw [csub1 hk0]
  refine sti_of (fun K hK => idxO ha Try.underlying27 szN (by omega) hK) ?_
  refine sti_of (fun K hK => ldA (n := 3) (vs := rdC y) Try.underlying49 rfl (by kernel_rfl) ho.blk.drew (ho.elem rdC_len rfl hzy) rfl hK) ?_
  refine sti_of (fun K hK => idxO ha Try.underlying27 szN (by omega) hK) ?_
  have hlen := ho.len
  have hnc := ho.nc
  refine stoA (n := 3) (vs := rdC y) (by kernel_rfl) rfl ho.blk.drew (by omega) (by simp [rdC, Value.oneCell']) ?_
  intro w6 hb6 o6
  have hr6 := hr5.drew.setN (N' := z.set k y) ha o6 (by simp) (Opn.set rdC_len ⟨ho.blk.drew, ho.lo, ho.nc, ho.cm, ho.len, ho.take, ho.xl⟩ rfl (by show k < z.length; omega) hb6)
  have b6 : Below B w w6 := b5.trans (((Below.refl _ w5).drew.mono (by have := b5.size; omega)).trans (o6.below.mono hBg))
  refine sub64 (by omega) (by omega) ?_
  rw [csub1 hk0]
  have hyd : S.N.drop (k - 1) = y :: S.N.drop k := by
    have := List.drop_eq_getElem_cons (l := S.N) (i := k - 1) (by omega)
    rw [this, show k - 1 + 1 = k by omega]
    congr 1
    have := hy
    rw [List.getElem?_eq_getElem (by omega)] at this
    simpa using this
  refine ⟨⟨k - 1, z.set k y, rfl, by omega, hr6, o6.blk hn5.drew (fun e => hg e.symm), by simp [hl5], ?_, ?_, ?_, b6⟩, by rw [hm]; simp only [intOf]; omega⟩
  · rw [List.take_set_of_le (by omega)]
    have : (z.take k).take (k - 1) = (S.N.take k).take (k - 1) := by rw [ht5]
    rw [List.take_take, List.take_take, show min (k - 1) k = k - 1 by omega] at this
    exact this
  · rw [show k - 1 + 1 = k by omega, hyd, ← hd5]
    rw [List.set_eq_take_append_cons_drop, if_pos (by omega), List.drop_append_of_le_length (by simp; omega), List.drop_of_length_le (by simp; omega), List.nil_append]
  · rw [hyd]
    intro q hq
    rcases List.mem_cons.1 hq with rfl | hq
    · exact hlt5
    · exact hu5 q hq
end
end Go.Proofs.Ytcieejlkdfdpiaa
