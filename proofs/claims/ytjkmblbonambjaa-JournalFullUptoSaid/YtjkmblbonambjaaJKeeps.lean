/- Whenever the power goes, and whatever is picked: the parts of the statement JournalKeeps. -/
import Derived.Test.YtjkmblbonambjaaJSteps
namespace Go.Proofs.Ytjkmblbonambjaa
set_option maxRecDepth 100000
open Go.RowKit

/-! ## Plain: what is there when the power is on again -/
def Crash (A X : List (List UInt8)) (odd : Prop) (D : DS) : Prop :=
  D.off = true ∧ D.loose.length ≤ 1 ∧ ∀ q, ∃ g0 g1 M, onS D q = (⟨(g0, g1), [], false, -1⟩, 0) ∧ g0.length + g1.length ≤ 4194304 ∧ (allB g0).1 = M ∧ g0.take (allB g0).2 = framesB M ∧ (allB g0).2 = (framesB M).length ∧ okR M ∧ (sz M ≤ sz A ∨ sz M ≤ sz X) ∧
    (odd → A <+: M ∧ M <+: X) ∧ (¬ odd → M = A ∨ M = X)
theorem sz_frames (L : List (List UInt8)) : (framesB L).length ≤ 8 * sz L := by rw [framesB_len]; unfold sz; omega
theorem sz_take (L : List (List UInt8)) (j : Nat) : sz (L.take j) ≤ sz L := by
  have h := congrArg sz (List.take_append_drop j L)
  rw [sz_app] at h; omega
theorem crash_add {A L : List (List UInt8)} (hA : okR A) (hL : okR L) (hs : sz A + sz L ≤ 100000) : Crash A (A ++ L) True ⟨(framesB A, []), [.app false (framesB L)], true, -1⟩ := by
  refine ⟨rfl, by simp, fun q => ?_⟩
  obtain ⟨m, hm, ho⟩ := on_app (F := (framesB A, [])) (f := false) (b := framesB L) (q := q) (fu := -1)
  obtain ⟨j, hj, h1, h2⟩ := allB_torn hA hL hm
  have f1 := sz_frames A
  have f2 := sz_frames L
  refine ⟨framesB A ++ (framesB L).take m, [], A ++ L.take j, ho, by simp; omega, by rw [h1], by rw [h1]; exact h2, by rw [h1], fun s hs => (List.mem_append.1 hs).elim (hA s) (fun h => hL s (List.mem_of_mem_take h)), .inr ?_, fun _ => ⟨List.prefix_append _ _, ?_⟩, fun h => absurd trivial h⟩
  · have := sz_take L j
    rw [sz_app, sz_app]; omega
  · exact List.prefix_append_right_inj A |>.2 (List.take_prefix _ _)
theorem allB_fr {A : List (List UInt8)} (hA : okR A) : (allB (framesB A)).1 = A ∧ (framesB A).take (allB (framesB A)).2 = framesB A ∧ (allB (framesB A)).2 = (framesB A).length := by
  rw [allB_frames hA]; simp
theorem crash_comp1 {A L : List (List UInt8)} (hA : okR A) (hs : sz A + sz L ≤ 100000) {odd : Prop} (ho : ¬ odd) : Crash A L odd ⟨(framesB A, []), [.app true (framesB L)], true, -1⟩ := by
  refine ⟨rfl, by simp, fun q => ?_⟩
  obtain ⟨m, hm, ho⟩ := on_app (F := (framesB A, [])) (f := true) (b := framesB L) (q := q) (fu := -1)
  have f1 := sz_frames A
  have f2 := sz_frames L
  obtain ⟨e1, e2, e3⟩ := allB_fr hA
  exact ⟨framesB A, [] ++ (framesB L).take m, A, ho, by simp; omega, e1, e2, e3, hA, .inl (Nat.le_refl _), fun h => absurd h ‹¬ odd›, fun _ => .inl rfl⟩
theorem crash_comp2 {A L : List (List UInt8)} (hA : okR A) (hL : okR L) (hs : sz A + sz L ≤ 100000) {odd : Prop} (ho : ¬ odd) : Crash A L odd ⟨(framesB A, framesB L), [.ren], true, -1⟩ := by
  refine ⟨rfl, by simp, fun q => ?_⟩
  have f1 := sz_frames A
  have f2 := sz_frames L
  rcases on_ren (F := (framesB A, framesB L)) (q := q) (fu := -1) with h | h
  · obtain ⟨e1, e2, e3⟩ := allB_fr hA
    exact ⟨framesB A, framesB L, A, h, by omega, e1, e2, e3, hA, .inl (Nat.le_refl _), fun h => absurd h ho, fun _ => .inl rfl⟩
  · obtain ⟨e1, e2, e3⟩ := allB_fr hL
    exact ⟨framesB L, [], L, h, by simp; omega, e1, e2, e3, hL, .inr (Nat.le_refl _), fun h => absurd h ho, fun _ => .inr rfl⟩

section
attribute [local irreducible] bin un conv call callV blt slc fldA fld idxA idx lkp mUpd mEnt eSt rng nxt ent ext alc box bld bldS ld sto nilC mkMap mkS ifc pick rdy wts gsel sti cond retM Gives cCode cGrp cSeq cOp
theorem slcBB0 {w : World} {K : KV} {av : Option Addr} {n c m : Nat} {vs : List (Option Addr × Nat × Nat)} {L : List (List UInt8)} (hr : RBB w av n c vs L) (hmn : m ≤ n)
    (h : RBB w av m c (vs.take m) (L.take m) → K (.slice av m c) w) : slc Try.prog 50 (.slice av n c) none (some (.int .i64 (m : Nat))) none K w := by
  refine slcTo (s := 1) (m := m) Try.underlying50 size_sl (by have := RV.cap hr.row; omega) (h ?_)
  have hl := hr.len
  have hll := hr.lenL
  refine ⟨⟨by simp; omega, by have := RV.cap hr.row; omega, fun h0 => RV.some_ hr.row (by omega), fun ha => ?_, fun i u hu => ?_⟩, by simp [hl], fun i v l hv hl => ?_⟩
  · have := RV.nil_ hr.row ha; omega
  · rw [List.map_take, List.getElem?_take] at hu
    split at hu
    · exact RV.cell hr.row i u hu
    · cases hu
  · by_cases hi : i < m
    · rw [List.getElem?_take_of_lt hi] at hv hl
      exact hr.each i v l hv hl
    · rw [List.getElem?_eq_none (by rw [List.length_take]; omega)] at hv
      cases hv
theorem begins5_c {w : World} {K : KV} {a a2 : Option Addr} {n c n2 c2 : Nat} {vs vs2 : List (Option Addr × Nat × Nat)} {A M : List (List UInt8)} (ra : RBB w a n c vs A) (rm : RBB w a2 n2 c2 vs2 M) (hn : n2 ≤ 9000000000000000000) (hp : A <+: M)
    (h : ∀ w', Below w.heap.size w w' → K (.bool true) w') : call Try.prog 26 #[.slice a n c, .slice a2 n2 c2] K w := by
  have h1 := ra.lenL
  have h2 := rm.lenL
  have h3 := hp.length_le
  have h4 := List.prefix_iff_eq_take.1 hp
  refine call_of leatlaw05_begins_go (leatlaw05_begins_in ?_)
  (repeat (first | refine len26 ?_ | refine bin_leq ?_ | refine gsel_pt (by omega) ?_))
  refine slcBB0 rm (by omega) ?_
  intro rm2
  refine same_c ra rm2 (by omega) ?_
  rw [← h1, ← h4, decide_eq_true rfl]
  intro w' hb
  (repeat (first | refine pick_t (by omega) ?_))
  exact h w' hb

/-- Where the loop stands. -/
def KI (W : World) (p : Nat) (S : Nat) (jv al : Value) (w : World) : Prop :=
  ∃ (q : Nat) (A : List (List UInt8)) (a : Option Addr) (n c : Nat) (vs : List (Option Addr × Nat × Nat)), jv = ptr q ∧ al = .slice a n c ∧ KRow W.heap.size W.heap.size w a n c vs A ∧ okR A ∧ sz A ≤ S ∧
    DK (fun _ => True) w W.heap.size p ⟨(framesB A, []), [], false, -1⟩ ∧ JR w p q (framesB A).length false ∧ W.heap.size ≤ q ∧ Below W.heap.size W w

variable {W : World} {p S i : Nat} {K : KV} {B1 : KE}

theorem keeps_P2 {l0 l1 t2 d3 j4 t5 e6 all7 i8 x9 more10 f11 k_12 m13 g14 t15 m16 f17 t18 t19 t20 t21 t22 t23 t24 t25 t26 t27 t28 t29 t30 t31 t32 t33 t34 t35 t36 t37 t38 t39 t40 t41 t42 t43 t44 t45 t46 t47 t48 t49 t50 t51 t52 t53 t54 t55 t56 t57 t58 t59 t60 t61 t62 t63 t64 t65 t66 t67 t68 t69 t70 t71 t72 t73 t74 t75 t76 t77 t78 t79 t80 t81 t82 t83 t84 t85 t86 t87 t88 t89 t90 t91 t92 t93 t94 t95 t96 t97 t98 t99 t100 t101 t102 t103 t104 t105 t106 t107 t108 t109 t110 t111 t112 t113 t114 t115 t116 t117 t118 t119 t120 t121 t122 t123 t124 t125 t126 t127 t128 t129 t130 t131 t132 t133 t134 t135 t136 t137 t138 t139 t140 t141 t142 t143 t144 t145 t146 t147 t148 t149 t150 t151 t152 t153 t154 t155 t156 t157 t158 t159 t160 t161 t162 t163 t164 t165 t166 t167 t168 t169 : Value} {w : World} (hB : ∀ (e : List Value) (w' : World), KI W p S (gd e 4) (gd e 7) w' → gd e 8 = .int .i64 ((i + 1 : Nat) : Int) → B1 e w')
    (hi : i8 = .int .i64 (i : Nat)) (h40 : i ≤ 40) (hk : KI W p S j4 all7 w) : leatlaw05_JournalKeeps_P2 K B1 ((l0 :: l1 :: t2 :: d3 :: j4 :: t5 :: e6 :: all7 :: i8 :: x9 :: more10 :: f11 :: k_12 :: m13 :: g14 :: t15 :: m16 :: f17 :: t18 :: t19 :: t20 :: t21 :: t22 :: t23 :: t24 :: t25 :: t26 :: t27 :: t28 :: t29 :: t30 :: t31 :: t32 :: t33 :: t34 :: t35 :: t36 :: t37 :: t38 :: t39 :: t40 :: t41 :: t42 :: t43 :: t44 :: t45 :: t46 :: t47 :: t48 :: t49 :: t50 :: t51 :: t52 :: t53 :: t54 :: t55 :: t56 :: t57 :: t58 :: t59 :: t60 :: t61 :: t62 :: t63 :: t64 :: t65 :: t66 :: t67 :: t68 :: t69 :: t70 :: t71 :: t72 :: t73 :: t74 :: t75 :: t76 :: t77 :: t78 :: t79 :: t80 :: t81 :: t82 :: t83 :: t84 :: t85 :: t86 :: t87 :: t88 :: t89 :: t90 :: t91 :: t92 :: t93 :: t94 :: t95 :: t96 :: t97 :: t98 :: t99 :: t100 :: t101 :: t102 :: t103 :: t104 :: t105 :: t106 :: t107 :: t108 :: t109 :: t110 :: t111 :: t112 :: t113 :: t114 :: t115 :: t116 :: t117 :: t118 :: t119 :: t120 :: t121 :: t122 :: t123 :: t124 :: t125 :: t126 :: t127 :: t128 :: t129 :: t130 :: t131 :: t132 :: t133 :: t134 :: t135 :: t136 :: t137 :: t138 :: t139 :: t140 :: t141 :: t142 :: t143 :: t144 :: t145 :: t146 :: t147 :: t148 :: t149 :: t150 :: t151 :: t152 :: t153 :: t154 :: t155 :: t156 :: t157 :: t158 :: t159 :: t160 :: t161 :: t162 :: t163 :: t164 :: t165 :: t166 :: t167 :: t168 :: t169 :: [])) w := by
  subst hi
  refine leatlaw05_JournalKeeps_P2_r ?_
  (repeat (first | refine add64 (by omega) (by omega) ?_))
  exact hB _ _ hk (show Value.int .i64 ((i : Int) + 1) = _ by simp)

theorem ld_S5L_0 {w : World} {K : KV} {b o : Nat} {E : TypeId} {cs : List Value} (v : Value) (hb : blk w b E cs) (ho : cs[o]? = some v) (h : K v w) : ld Try.prog 3 (.pointer (some ⟨b, o, none⟩)) K w := ld1 (fun _ => by kernel_rfl) hb ho h
theorem ld_S5L_1 {w : World} {K : KV} {b o : Nat} {E : TypeId} {cs : List Value} (v : Value) (hb : blk w b E cs) (ho : cs[o]? = some v) (h : K v w) : ld Try.prog 50 (.pointer (some ⟨b, o, none⟩)) K w := ld1 (fun _ => by kernel_rfl) hb ho h
theorem ld_S5L_2 {w : World} {K : KV} {b o : Nat} {E : TypeId} {cs : List Value} (v : Value) (hb : blk w b E cs) (ho : cs[o]? = some v) (h : K v w) : ld Try.prog 30 (.pointer (some ⟨b, o, none⟩)) K w := ld1 (fun _ => by kernel_rfl) hb ho h

theorem keeps_P5ok {l0 l1 t2 d3 j4 t5 e6 all7 i8 x9 more10 f11 k_12 m13 g14 t15 m16 f17 t18 t19 t20 t21 t22 t23 t24 t25 t26 t27 t28 t29 t30 t31 t32 t33 t34 t35 t36 t37 t38 t39 t40 t41 t42 t43 t44 t45 t46 t47 t48 t49 t50 t51 t52 t53 t54 t55 t56 t57 t58 t59 t60 t61 t62 t63 t64 t65 t66 t67 t68 t69 t70 t71 t72 t73 t74 t75 t76 t77 t78 t79 t80 t81 t82 t83 t84 t85 t86 t87 t88 t89 t90 t91 t92 t93 t94 t95 t96 t97 t98 t99 t100 t101 t102 t103 t104 t105 t106 t107 t108 t109 t110 t111 t112 t113 t114 t115 t116 t117 t118 t119 t120 t121 t122 t123 t124 t125 t126 t127 t128 t129 t130 t131 t132 t133 t134 t135 t136 t137 t138 t139 t140 t141 t142 t143 t144 t145 t146 t147 t148 t149 t150 t151 t152 t153 t154 t155 t156 t157 t158 t159 t160 t161 t162 t163 t164 t165 t166 t167 t168 t169 : Value} {w : World} (hB : ∀ (e : List Value) (w' : World), KI W p S (gd e 4) (gd e 7) w' → gd e 8 = .int .i64 ((i + 1 : Nat) : Int) → B1 e w')
    (hi : i8 = .int .i64 (i : Nat)) (h40 : i ≤ 40) (hd : d3 = ptr p) {bx : Nat} {v pv : Option Addr × Nat × Nat} {d N e : Int} (hx9 : x9 = ptr bx) (hx : blk w bx 54 [.int .i64 d, slv v, .int .i64 N, slv pv])
    (hf : f11 = .int .i64 e) (he : e = 0 ∨ e = 6) {q n c : Nat} {A : List (List UInt8)} {a : Option Addr} {vs : List (Option Addr × Nat × Nat)} {fu : Int} (hj : j4 = ptr q) (hal : all7 = .slice a n c) (hrow : KRow W.heap.size W.heap.size w a n c vs A)
    (hok : okR A) (hsz : sz A ≤ S) (hD : DK (fun _ => True) w W.heap.size p ⟨(framesB A, []), [], false, fu⟩) (hfu : N < 0 → fu = -1) (hJ : JR w p q (framesB A).length false) (hq : W.heap.size ≤ q) (hW : Below W.heap.size W w) :
    leatlaw05_JournalKeeps_P5 K B1 ((l0 :: l1 :: t2 :: d3 :: j4 :: t5 :: e6 :: all7 :: i8 :: x9 :: more10 :: f11 :: k_12 :: m13 :: g14 :: t15 :: m16 :: f17 :: t18 :: t19 :: t20 :: t21 :: t22 :: t23 :: t24 :: t25 :: t26 :: t27 :: t28 :: t29 :: t30 :: t31 :: t32 :: t33 :: t34 :: t35 :: t36 :: t37 :: t38 :: t39 :: t40 :: t41 :: t42 :: t43 :: t44 :: t45 :: t46 :: t47 :: t48 :: t49 :: t50 :: t51 :: t52 :: t53 :: t54 :: t55 :: t56 :: t57 :: t58 :: t59 :: t60 :: t61 :: t62 :: t63 :: t64 :: t65 :: t66 :: t67 :: t68 :: t69 :: t70 :: t71 :: t72 :: t73 :: t74 :: t75 :: t76 :: t77 :: t78 :: t79 :: t80 :: t81 :: t82 :: t83 :: t84 :: t85 :: t86 :: t87 :: t88 :: t89 :: t90 :: t91 :: t92 :: t93 :: t94 :: t95 :: t96 :: t97 :: t98 :: t99 :: t100 :: t101 :: t102 :: t103 :: t104 :: t105 :: t106 :: t107 :: t108 :: t109 :: t110 :: t111 :: t112 :: t113 :: t114 :: t115 :: t116 :: t117 :: t118 :: t119 :: t120 :: t121 :: t122 :: t123 :: t124 :: t125 :: t126 :: t127 :: t128 :: t129 :: t130 :: t131 :: t132 :: t133 :: t134 :: t135 :: t136 :: t137 :: t138 :: t139 :: t140 :: t141 :: t142 :: t143 :: t144 :: t145 :: t146 :: t147 :: t148 :: t149 :: t150 :: t151 :: t152 :: t153 :: t154 :: t155 :: t156 :: t157 :: t158 :: t159 :: t160 :: t161 :: t162 :: t163 :: t164 :: t165 :: t166 :: t167 :: t168 :: t169 :: [])) w := by
  subst hi hd hx9 hf hj hal
  refine leatlaw05_JournalKeeps_P5_r ?_
  have fin : ∀ {w' : World}, DK (fun _ => True) w' W.heap.size p ⟨(framesB A, []), [], false, -1⟩ → Keep DT W.heap.size w w' → KI W p S (ptr q) (.slice a n c) w' := fun h1 h2 =>
    ⟨q, A, a, n, c, vs, rfl, rfl, hrow.keep h2 (Nat.le_refl _) (by decide) (by decide), hok, hsz, h1, hJ.keep h2 (by decide), hq, hW.trans (h2.below hW.size)⟩
  by_cases hN : 0 ≤ N
  · have step : ∀ {vv : Value} {K2 : KV}, vv = .int .i64 (-1) → (∀ w', KI W p S (ptr q) (.slice a n c) w' → K2 (.tuple #[]) w') → call Try.prog 22 #[ptr p, vv] K2 w := by
      intro vv K2 hvv h
      subst hvv
      refine fuse_c (n := -1) hD (by decide) ?_
      intro w' hd' k'
      exact h w' (fin hd' (k'.mono (by decide) hD.base))
    rcases he with rfl | rfl
    · (repeat (first | refine fA_Step5_2 ?_ | (refine ld_S5L_0 ?_ (by assumption) ?_ ?_; rotate_left; exact rfl) | refine bin_neq ?_ | refine bin_geq ?_ | refine pick_T ?_ | refine pick_F ?_ | refine cond_F ?_ | refine cond_t (by omega) ?_ | refine gsel_T ?_ | refine gsel_F ?_))
      refine step rfl ?_
      intro w' hk
      exact keeps_P2 hB rfl h40 hk
    · (repeat (first | refine fA_Step5_2 ?_ | (refine ld_S5L_0 ?_ (by assumption) ?_ ?_; rotate_left; exact rfl) | refine bin_neq ?_ | refine bin_geq ?_ | refine pick_T ?_ | refine cond_F ?_ | refine cond_t (by omega) ?_ | refine gsel_T ?_))
      refine step rfl ?_
      intro w' hk
      exact keeps_P2 hB rfl h40 hk
  · have hfu := hfu (by omega)
    subst hfu
    rcases he with rfl | rfl
    · (repeat (first | refine fA_Step5_2 ?_ | (refine ld_S5L_0 ?_ (by assumption) ?_ ?_; rotate_left; exact rfl) | refine bin_neq ?_ | refine bin_geq ?_ | refine pick_T ?_ | refine pick_F ?_ | refine cond_T ?_ | refine cond_F ?_ | refine cond_f (by omega) ?_ | refine gsel_T ?_ | refine gsel_F ?_))
      exact keeps_P2 hB rfl h40 (fin hD (Keep.refl _ _ _))
    · (repeat (first | refine fA_Step5_2 ?_ | (refine ld_S5L_0 ?_ (by assumption) ?_ ?_; rotate_left; exact rfl) | refine bin_neq ?_ | refine bin_geq ?_ | refine pick_T ?_ | refine cond_T ?_ | refine cond_F ?_ | refine cond_f (by omega) ?_ | refine gsel_T ?_))
      exact keeps_P2 hB rfl h40 (fin hD (Keep.refl _ _ _))

theorem keeps_P5crash {l0 l1 t2 d3 j4 t5 e6 all7 i8 x9 more10 f11 k_12 m13 g14 t15 m16 f17 t18 t19 t20 t21 t22 t23 t24 t25 t26 t27 t28 t29 t30 t31 t32 t33 t34 t35 t36 t37 t38 t39 t40 t41 t42 t43 t44 t45 t46 t47 t48 t49 t50 t51 t52 t53 t54 t55 t56 t57 t58 t59 t60 t61 t62 t63 t64 t65 t66 t67 t68 t69 t70 t71 t72 t73 t74 t75 t76 t77 t78 t79 t80 t81 t82 t83 t84 t85 t86 t87 t88 t89 t90 t91 t92 t93 t94 t95 t96 t97 t98 t99 t100 t101 t102 t103 t104 t105 t106 t107 t108 t109 t110 t111 t112 t113 t114 t115 t116 t117 t118 t119 t120 t121 t122 t123 t124 t125 t126 t127 t128 t129 t130 t131 t132 t133 t134 t135 t136 t137 t138 t139 t140 t141 t142 t143 t144 t145 t146 t147 t148 t149 t150 t151 t152 t153 t154 t155 t156 t157 t158 t159 t160 t161 t162 t163 t164 t165 t166 t167 t168 t169 : Value} {w : World} (hB : ∀ (e : List Value) (w' : World), KI W p S (gd e 4) (gd e 7) w' → gd e 8 = .int .i64 ((i + 1 : Nat) : Int) → B1 e w')
    (hi : i8 = .int .i64 (i : Nat)) (h40 : i ≤ 40) (hd : d3 = ptr p) {bx : Nat} {v pv : Option Addr × Nat × Nat} {d N : Int} {picks : List Int} (hx9 : x9 = ptr bx) (hx : blk w bx 54 [.int .i64 d, slv v, .int .i64 N, slv pv]) (hpk : RI W pv.1 pv.2.1 pv.2.2 picks)
    (hf : f11 = .int .i64 8) {n c n2 c2 : Nat} {A X : List (List UInt8)} {a a2 : Option Addr} {vs vs2 : List (Option Addr × Nat × Nat)} {D : DS} (hal : all7 = .slice a n c) (hrow : KRow W.heap.size W.heap.size w a n c vs A)
    (hmo : more10 = .slice a2 n2 c2) (hrow2 : KRow W.heap.size W.heap.size w a2 n2 c2 vs2 X) (hszA : sz A ≤ S) (hszX : sz X ≤ S) (hS : S ≤ 100000) (hD : DK (fun _ => True) w W.heap.size p D) (hC : Crash A X (d.tmod 2 = 1) D) (hW : Below W.heap.size W w) :
    leatlaw05_JournalKeeps_P5 K B1 ((l0 :: l1 :: t2 :: d3 :: j4 :: t5 :: e6 :: all7 :: i8 :: x9 :: more10 :: f11 :: k_12 :: m13 :: g14 :: t15 :: m16 :: f17 :: t18 :: t19 :: t20 :: t21 :: t22 :: t23 :: t24 :: t25 :: t26 :: t27 :: t28 :: t29 :: t30 :: t31 :: t32 :: t33 :: t34 :: t35 :: t36 :: t37 :: t38 :: t39 :: t40 :: t41 :: t42 :: t43 :: t44 :: t45 :: t46 :: t47 :: t48 :: t49 :: t50 :: t51 :: t52 :: t53 :: t54 :: t55 :: t56 :: t57 :: t58 :: t59 :: t60 :: t61 :: t62 :: t63 :: t64 :: t65 :: t66 :: t67 :: t68 :: t69 :: t70 :: t71 :: t72 :: t73 :: t74 :: t75 :: t76 :: t77 :: t78 :: t79 :: t80 :: t81 :: t82 :: t83 :: t84 :: t85 :: t86 :: t87 :: t88 :: t89 :: t90 :: t91 :: t92 :: t93 :: t94 :: t95 :: t96 :: t97 :: t98 :: t99 :: t100 :: t101 :: t102 :: t103 :: t104 :: t105 :: t106 :: t107 :: t108 :: t109 :: t110 :: t111 :: t112 :: t113 :: t114 :: t115 :: t116 :: t117 :: t118 :: t119 :: t120 :: t121 :: t122 :: t123 :: t124 :: t125 :: t126 :: t127 :: t128 :: t129 :: t130 :: t131 :: t132 :: t133 :: t134 :: t135 :: t136 :: t137 :: t138 :: t139 :: t140 :: t141 :: t142 :: t143 :: t144 :: t145 :: t146 :: t147 :: t148 :: t149 :: t150 :: t151 :: t152 :: t153 :: t154 :: t155 :: t156 :: t157 :: t158 :: t159 :: t160 :: t161 :: t162 :: t163 :: t164 :: t165 :: t166 :: t167 :: t168 :: t169 :: [])) w := by
  subst hi hd hx9 hf hal hmo
  obtain ⟨hoff, hll, hon⟩ := hC
  obtain ⟨g0, g1, M, e1, e2, e3, e4, e5, okM, szM, co, ce⟩ := hon picks
  have szM : sz M ≤ S := by omega
  have hnA := hrow.lenL
  have hnX := hrow2.lenL
  have hcA : A.length ≤ sz A := by unfold sz; omega
  have hcX : X.length ≤ sz X := by unfold sz; omega
  refine leatlaw05_JournalKeeps_P5_r ?_
  (repeat (first | refine fA_Step5_3 ?_ | (refine ld_S5L_2 ?_ (by assumption) ?_ ?_; rotate_left; exact rfl) | refine bin_neq ?_ | refine pick_T ?_ | refine pick_F ?_ | refine cond_F ?_ | refine gsel_T ?_ | refine gsel_F ?_))
  refine on_c hD (hpk.below hW (Nat.le_refl _)) (by omega) ?_
  rw [e1]
  intro w1 hd1 k1
  have W1 := hW.trans (k1.below hW.size)
  have hx1 := k1.blk hx (.inr (by decide))
  (repeat (first | refine bin_neq ?_ | refine cond_F ?_))
  have eo : jopenS ⟨(g0, g1), [], false, -1⟩ = ⟨⟨(framesB M, []), [], false, -1⟩, 0, M, (framesB M).length⟩ := by rw [open_on e2, e3, e4, e5]
  refine open_c hd1 (by simp) ?_ (fun hh => absurd (by rw [eo]) hh)
  intro _ w2 q2 a3 n3 c3 vs3 hd2 k2 L2 hj2 hq2
  rw [eo] at hd2 L2 hj2
  have S1 := W1.size
  have W2 := W1.trans (k2.below S1)
  have hx2 := k2.blk hx1 (.inr (by decide))
  have rA := (hrow.keep k1 (Nat.le_refl _) (by decide) (by decide)).keep k2 (Nat.le_refl _) (by decide) (by decide)
  have rX := (hrow2.keep k1 (Nat.le_refl _) (by decide) (by decide)).keep k2 (Nat.le_refl _) (by decide) (by decide)
  have rM : KRow W.heap.size W.heap.size w2 a3 n3 c3 vs3 M := (KRow.of_obb (L2.mono S1))
  have hnM := rM.lenL
  have hcM : M.length ≤ sz M := by unfold sz; omega
  have fin : ∀ {w' : World}, Below w2.heap.size w2 w' → KI W p S (ptr q2) (.slice a3 n3 c3) w' := fun hb =>
    ⟨q2, M, a3, n3, c3, vs3, rfl, rfl, rM.below hb, okM, szM, hd2.below hb, hj2.below hb, by omega, W2.trans (hb.mono W2.size)⟩
  (repeat (first | refine ext3_a ?_ | refine ext3_b ?_ | refine ext3_c ?_))
  refine leatlaw05_JournalKeeps_A6_r ?_
  (repeat (first | refine fA_Step5_0 ?_ | refine eqJ_nil ?_ | (refine ld_S5L_0 ?_ (by assumption) ?_ ?_; rotate_left; exact rfl) | refine bin_neq ?_ | refine pick_F ?_ | refine cond_F ?_ | refine gsel_Fn ?_))
  refine bin_rem (by decide) ?_
  by_cases h1 : d.tmod 2 = 1
  · obtain ⟨p1, p2⟩ := co h1
    have h0 : ¬ d.tmod 2 = 0 := by omega
    (repeat (first | refine bin_eql ?_ | refine gsel_pt (by omega) ?_))
    refine begins5_c rA.rbb rM.rbb (by omega) p1 ?_
    intro w3 b3
    (repeat (first | refine gsel_T ?_))
    refine begins5_c (rM.below b3).rbb (rX.below b3).rbb (by omega) p2 ?_
    intro w4 b4
    have b24 := b3.trans (b4.mono b3.size)
    have hx4 := below_blk b24 hx2 hx2.lt
    (repeat (first | refine pick_T ?_ | refine gsel_pt (by omega) ?_))
    refine un_not ?_
    (repeat (first | refine fA_Step5_0 ?_ | (refine ld_S5L_0 ?_ (by assumption) ?_ ?_; rotate_left; exact rfl) | refine cond_F ?_ | refine pick_t (by omega) ?_))
    refine bin_rem (by decide) ?_
    (repeat (first | refine bin_eql ?_ | refine pick_F ?_ | refine cond_F ?_ | refine gsel_F ?_ | refine gsel_pf (by omega) ?_ | refine pick_f (by omega) ?_))
    exact keeps_P2 hB rfl h40 (fin b24)
  by_cases h0 : d.tmod 2 = 0
  · have hce := ce h1
    (repeat (first | refine fA_Step5_0 ?_ | (refine ld_S5L_0 ?_ (by assumption) ?_ ?_; rotate_left; exact rfl) | refine bin_eql ?_ | refine cond_F ?_ | refine gsel_U ?_ | refine gsel_pf (by omega) ?_ | refine pick_f (by omega) ?_))
    refine bin_rem (by decide) ?_
    (repeat (first | refine bin_eql ?_ | refine gsel_pt (by omega) ?_))
    refine same_c rM.rbb rA.rbb (by omega) ?_
    intro w3 b3
    refine un_notD ?_
    by_cases hMA : M = A
    · (repeat (first | refine gsel_pf (fun hh => hh hMA) ?_ | refine pick_f (fun hh => hh hMA) ?_ | refine cond_F ?_ | refine pick_t (by omega) ?_))
      exact keeps_P2 hB rfl h40 (fin b3)
    · have hMX : M = X := hce.resolve_left hMA
      (repeat (first | refine gsel_pt hMA ?_ | refine pick_t (by omega) ?_))
      refine same_c (rM.below b3).rbb (rX.below b3).rbb (by omega) ?_
      intro w4 b4
      refine un_notD ?_
      (repeat (first | refine pick_t hMA ?_ | refine cond_f (fun hh => hh hMX) ?_))
      exact keeps_P2 hB rfl h40 (fin (b3.trans (b4.mono b3.size)))
  · (repeat (first | refine fA_Step5_0 ?_ | (refine ld_S5L_0 ?_ (by assumption) ?_ ?_; rotate_left; exact rfl) | refine bin_eql ?_ | refine cond_F ?_ | refine gsel_U ?_ | refine gsel_pf (by omega) ?_ | refine pick_f (by omega) ?_))
    refine bin_rem (by decide) ?_
    (repeat (first | refine bin_eql ?_ | refine pick_F ?_ | refine cond_F ?_ | refine gsel_F ?_ | refine gsel_pf (by omega) ?_ | refine pick_f (by omega) ?_))
    exact keeps_P2 hB rfl h40 (fin (Below.refl _ _))
end
end Go.Proofs.Ytjkmblbonambjaa
