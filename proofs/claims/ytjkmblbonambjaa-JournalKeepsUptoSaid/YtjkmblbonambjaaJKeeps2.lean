/- The statement of JournalKeeps, THE THEOREM OF STAGE 5: whenever the power goes, and whatever is picked: the records that are there again are those of all that answered OK; of an Add that was under way a beginning of its records more, of a Compact these alone or all that were: where what it reads is of bulk at most 1048576: true, and the input reads as it did. -/
import Derived.Test.YtjkmblbonambjaaJKeeps
namespace Go.Proofs.Ytjkmblbonambjaa
set_option maxRecDepth 100000
open Go.ChangeShapes Go.WideShapes Go.ChangeAt Go.RowKit
section
attribute [local irreducible] bin un conv call callV blt slc fldA fld idxA idx lkp mUpd mEnt eSt rng nxt ent ext alc box bld bldS ld sto nilC mkMap mkS ifc pick rdy wts gsel sti cond retM Gives cCode cGrp cSeq cOp
variable {W : World} {p S i : Nat} {K : KV} {B1 : KE}

/-- What a call of the journal left. -/
def KCase (W : World) (p q : Nat) (A X : List (List UInt8)) (N d e : Int) (w : World) : Prop :=
  (e = 0 ∧ okR X ∧ ∃ fu, (N < 0 → fu = -1) ∧ DK (fun _ => True) w W.heap.size p ⟨(framesB X, []), [], false, fu⟩ ∧ JR w p q (framesB X).length false) ∨
  (e = 6 ∧ ∃ fu, (N < 0 → fu = -1) ∧ DK (fun _ => True) w W.heap.size p ⟨(framesB A, []), [], false, fu⟩ ∧ JR w p q (framesB A).length false) ∨
  (e = 8 ∧ ∃ D, DK (fun _ => True) w W.heap.size p D ∧ Crash A X (d.tmod 2 = 1) D)

theorem keeps_P4 {l0 l1 t2 d3 j4 t5 e6 all7 i8 x9 more10 f11 k_12 m13 g14 t15 m16 f17 t18 t19 t20 t21 t22 t23 t24 t25 t26 t27 t28 t29 t30 t31 t32 t33 t34 t35 t36 t37 t38 t39 t40 t41 t42 t43 t44 t45 t46 t47 t48 t49 t50 t51 t52 t53 t54 t55 t56 t57 t58 t59 t60 t61 t62 t63 t64 t65 t66 t67 t68 t69 t70 t71 t72 t73 t74 t75 t76 t77 t78 t79 t80 t81 t82 t83 t84 t85 t86 t87 t88 t89 t90 t91 t92 t93 t94 t95 t96 t97 t98 t99 t100 t101 t102 t103 t104 t105 t106 t107 t108 t109 t110 t111 t112 t113 t114 t115 t116 t117 t118 t119 t120 t121 t122 t123 t124 t125 t126 t127 t128 t129 t130 t131 t132 t133 t134 t135 t136 t137 t138 t139 t140 t141 t142 t143 t144 t145 t146 t147 t148 t149 t150 t151 t152 t153 t154 t155 t156 t157 t158 t159 t160 t161 t162 t163 t164 t165 t166 t167 t168 t169 : Value} {w : World} (hB : ∀ (e : List Value) (w' : World), KI W p S (gd e 4) (gd e 7) w' → gd e 8 = .int .i64 ((i + 1 : Nat) : Int) → B1 e w')
    (hi : i8 = .int .i64 (i : Nat)) (h40 : i ≤ 40) (hd : d3 = ptr p) {bx : Nat} {v pv : Option Addr × Nat × Nat} {d N e : Int} {picks : List Int} (hx9 : x9 = ptr bx) (hx : blk w bx 54 [.int .i64 d, slv v, .int .i64 N, slv pv]) (hpk : RI W pv.1 pv.2.1 pv.2.2 picks)
    (hf : f11 = .int .i64 e) {q n c n2 c2 : Nat} {A X : List (List UInt8)} {a a2 : Option Addr} {vs vs2 : List (Option Addr × Nat × Nat)} (hj : j4 = ptr q) (hal : all7 = .slice a n c) (hrow : KRow W.heap.size W.heap.size w a n c vs A) (hokA : okR A)
    (hmo : more10 = .slice a2 n2 c2) (hrow2 : KRow W.heap.size W.heap.size w a2 n2 c2 vs2 X) (hszA : sz A ≤ S) (hszX : sz X ≤ S) (hS : S ≤ 100000) (hc : KCase W p q A X N d e w) (hq : W.heap.size ≤ q) (hW : Below W.heap.size W w) :
    leatlaw05_JournalKeeps_P4 K B1 ((l0 :: l1 :: t2 :: d3 :: j4 :: t5 :: e6 :: all7 :: i8 :: x9 :: more10 :: f11 :: k_12 :: m13 :: g14 :: t15 :: m16 :: f17 :: t18 :: t19 :: t20 :: t21 :: t22 :: t23 :: t24 :: t25 :: t26 :: t27 :: t28 :: t29 :: t30 :: t31 :: t32 :: t33 :: t34 :: t35 :: t36 :: t37 :: t38 :: t39 :: t40 :: t41 :: t42 :: t43 :: t44 :: t45 :: t46 :: t47 :: t48 :: t49 :: t50 :: t51 :: t52 :: t53 :: t54 :: t55 :: t56 :: t57 :: t58 :: t59 :: t60 :: t61 :: t62 :: t63 :: t64 :: t65 :: t66 :: t67 :: t68 :: t69 :: t70 :: t71 :: t72 :: t73 :: t74 :: t75 :: t76 :: t77 :: t78 :: t79 :: t80 :: t81 :: t82 :: t83 :: t84 :: t85 :: t86 :: t87 :: t88 :: t89 :: t90 :: t91 :: t92 :: t93 :: t94 :: t95 :: t96 :: t97 :: t98 :: t99 :: t100 :: t101 :: t102 :: t103 :: t104 :: t105 :: t106 :: t107 :: t108 :: t109 :: t110 :: t111 :: t112 :: t113 :: t114 :: t115 :: t116 :: t117 :: t118 :: t119 :: t120 :: t121 :: t122 :: t123 :: t124 :: t125 :: t126 :: t127 :: t128 :: t129 :: t130 :: t131 :: t132 :: t133 :: t134 :: t135 :: t136 :: t137 :: t138 :: t139 :: t140 :: t141 :: t142 :: t143 :: t144 :: t145 :: t146 :: t147 :: t148 :: t149 :: t150 :: t151 :: t152 :: t153 :: t154 :: t155 :: t156 :: t157 :: t158 :: t159 :: t160 :: t161 :: t162 :: t163 :: t164 :: t165 :: t166 :: t167 :: t168 :: t169 :: [])) w := by
  refine leatlaw05_JournalKeeps_P4_r ?_
  rw [hf]
  (repeat (first | refine bin_eql ?_))
  refine leatlaw05_JournalKeeps_A5_r ?_
  rcases hc with ⟨rfl, okX, fu, hfu, hD, hJ⟩ | ⟨rfl, fu, hfu, hD, hJ⟩ | ⟨rfl, D, hD, hC⟩
  · (repeat (first | refine cond_T ?_))
    exact keeps_P5ok hB hi h40 hd hx9 hx rfl (.inl rfl) hj hmo hrow2 okX hszX hD hfu hJ hq hW
  · (repeat (first | refine cond_F ?_))
    exact keeps_P5ok hB hi h40 hd hx9 hx rfl (.inr rfl) hj hal hrow hokA hszA hD hfu hJ hq hW
  · (repeat (first | refine cond_F ?_))
    exact keeps_P5crash hB hi h40 hd hx9 hx hpk rfl hal hrow hmo hrow2 hszA hszX hS hD hC hW

theorem keeps_A4 {l0 l1 t2 d3 j4 t5 e6 all7 i8 x9 more10 f11 k_12 m13 g14 t15 m16 f17 t18 t19 t20 t21 t22 t23 t24 t25 t26 t27 t28 t29 t30 t31 t32 t33 t34 t35 t36 t37 t38 t39 t40 t41 t42 t43 t44 t45 t46 t47 t48 t49 t50 t51 t52 t53 t54 t55 t56 t57 t58 t59 t60 t61 t62 t63 t64 t65 t66 t67 t68 t69 t70 t71 t72 t73 t74 t75 t76 t77 t78 t79 t80 t81 t82 t83 t84 t85 t86 t87 t88 t89 t90 t91 t92 t93 t94 t95 t96 t97 t98 t99 t100 t101 t102 t103 t104 t105 t106 t107 t108 t109 t110 t111 t112 t113 t114 t115 t116 t117 t118 t119 t120 t121 t122 t123 t124 t125 t126 t127 t128 t129 t130 t131 t132 t133 t134 t135 t136 t137 t138 t139 t140 t141 t142 t143 t144 t145 t146 t147 t148 t149 t150 t151 t152 t153 t154 t155 t156 t157 t158 t159 t160 t161 t162 t163 t164 t165 t166 t167 t168 t169 : Value} {w : World} (hB : ∀ (e : List Value) (w' : World), KI W p S (gd e 4) (gd e 7) w' → gd e 8 = .int .i64 ((i + 1 : Nat) : Int) → B1 e w')
    (hi : i8 = .int .i64 (i : Nat)) (h40 : i ≤ 40) (hd : d3 = ptr p) {bx : Nat} {v pv : Option Addr × Nat × Nat} {d N fu : Int} {picks : List Int} (hx9 : x9 = ptr bx) (hx : blk w bx 54 [.int .i64 d, slv v, .int .i64 N, slv pv]) (hpk : RI W pv.1 pv.2.1 pv.2.2 picks)
    {vsL : List (Option Addr × Nat × Nat)} {L : List (List UInt8)} (hL : RBB W v.1 v.2.1 v.2.2 vsL L) (ht : t62 = .bool (decide (d.tmod 2 = 1)))
    {q n c n2 c2 : Nat} {A : List (List UInt8)} {a a2 : Option Addr} {vs vs2 : List (Option Addr × Nat × Nat)} (hj : j4 = ptr q) (hal : all7 = .slice a n c) (hrow : KRow W.heap.size W.heap.size w a n c vs A) (hokA : okR A)
    (hmo : more10 = .slice a2 n2 c2) (hrow2 : KRow W.heap.size W.heap.size w a2 n2 c2 vs2 (A ++ L)) (hsz : sz A + sz L ≤ S) (hS : S ≤ 100000)
    (hfu : N < 0 → fu = -1) (hD : DK (fun _ => True) w W.heap.size p ⟨(framesB A, []), [], false, fu⟩) (hJ : JR w p q (framesB A).length false) (hq : W.heap.size ≤ q) (hW : Below W.heap.size W w) :
    leatlaw05_JournalKeeps_A4 K B1 ((l0 :: l1 :: t2 :: d3 :: j4 :: t5 :: e6 :: all7 :: i8 :: x9 :: more10 :: f11 :: k_12 :: m13 :: g14 :: t15 :: m16 :: f17 :: t18 :: t19 :: t20 :: t21 :: t22 :: t23 :: t24 :: t25 :: t26 :: t27 :: t28 :: t29 :: t30 :: t31 :: t32 :: t33 :: t34 :: t35 :: t36 :: t37 :: t38 :: t39 :: t40 :: t41 :: t42 :: t43 :: t44 :: t45 :: t46 :: t47 :: t48 :: t49 :: t50 :: t51 :: t52 :: t53 :: t54 :: t55 :: t56 :: t57 :: t58 :: t59 :: t60 :: t61 :: t62 :: t63 :: t64 :: t65 :: t66 :: t67 :: t68 :: t69 :: t70 :: t71 :: t72 :: t73 :: t74 :: t75 :: t76 :: t77 :: t78 :: t79 :: t80 :: t81 :: t82 :: t83 :: t84 :: t85 :: t86 :: t87 :: t88 :: t89 :: t90 :: t91 :: t92 :: t93 :: t94 :: t95 :: t96 :: t97 :: t98 :: t99 :: t100 :: t101 :: t102 :: t103 :: t104 :: t105 :: t106 :: t107 :: t108 :: t109 :: t110 :: t111 :: t112 :: t113 :: t114 :: t115 :: t116 :: t117 :: t118 :: t119 :: t120 :: t121 :: t122 :: t123 :: t124 :: t125 :: t126 :: t127 :: t128 :: t129 :: t130 :: t131 :: t132 :: t133 :: t134 :: t135 :: t136 :: t137 :: t138 :: t139 :: t140 :: t141 :: t142 :: t143 :: t144 :: t145 :: t146 :: t147 :: t148 :: t149 :: t150 :: t151 :: t152 :: t153 :: t154 :: t155 :: t156 :: t157 :: t158 :: t159 :: t160 :: t161 :: t162 :: t163 :: t164 :: t165 :: t166 :: t167 :: t168 :: t169 :: [])) w := by
  have hLw := hL.below hW (Nat.le_refl _)
  have hlL := hL.lenL
  have hcL : L.length + vast L = sz L := rfl
  have f1 := sz_frames A
  have f2 := sz_frames L
  have eAL := sz_app A L
  refine leatlaw05_JournalKeeps_A4_r ?_
  subst ht hx9
  have hj' := hj
  subst hj'
  by_cases h1 : d.tmod 2 = 1
  · refine cond_t h1 ?_
    (repeat (first | refine fA_Step5_1 ?_ | (refine ld_S5L_1 ?_ (by assumption) ?_ ?_; rotate_left; exact rfl)))
    refine add_c (J := ⟨⟨(framesB A, []), [], false, fu⟩, (framesB A).length, false⟩) hD hJ hLw (by omega) (by omega) (by simp) ⟨by dsimp only; omega, by dsimp only; omega⟩ hq ?_
    intro w' hd' hj' hk
    refine keeps_P4 hB hi h40 hd rfl (hk.blk hx (.inr (by decide))) hpk rfl rfl hal (hrow.keep hk (Nat.le_refl _) (by decide) (by decide)) hokA hmo (hrow2.keep hk (Nat.le_refl _) (by decide) (by decide)) (by omega) (by omega) hS ?_ hq (hW.trans (hk.below hW.size))
    by_cases hok : okR L
    rotate_left
    · rw [jadd_many rfl hok] at hd' hj' ⊢
      exact .inr (.inl ⟨rfl, fu, hfu, hd', hj'⟩)
    have okAL : okR (A ++ L) := fun s hs => (List.mem_append.1 hs).elim (hokA s) (hok s)
    by_cases hn : L = []
    · rw [hn, jadd_nil rfl] at hd' hj' ⊢
      refine .inl ⟨rfl, ?_, fu, hfu, ?_, ?_⟩
      · rw [List.append_nil]; exact hokA
      · rw [List.append_nil]; exact hd'
      · rw [List.append_nil]; exact hj'
    rw [jadd_go hok hn (by simp [tot]; omega)] at hd' hj' ⊢
    by_cases hfz : fu = 0 ∨ fu = 1
    · rw [if_pos hfz] at hd' hj' ⊢
      refine .inr (.inr ⟨rfl, _, hd', ?_⟩)
      have := crash_add hokA hok (by omega)
      simpa only [h1] using this
    · rw [if_neg hfz] at hd' hj' ⊢
      refine .inl ⟨rfl, okAL, dec (dec fu), fun h => by rw [hfu h]; rfl, ?_, ?_⟩
      · rw [framesB_app]; exact hd'
      · rw [framesB_app, List.length_append]; simpa using hj'
  · refine cond_f h1 ?_
    (repeat (first | refine fA_Step5_1 ?_ | (refine ld_S5L_1 ?_ (by assumption) ?_ ?_; rotate_left; exact rfl)))
    refine compact_c (J := ⟨⟨(framesB A, []), [], false, fu⟩, (framesB A).length, false⟩) hD hJ hLw (by omega) (by omega) (by simp) hq ?_
    intro w' hd' hj' hk
    have hx' := hk.blk hx (.inr (by decide))
    have W' := hW.trans (hk.below hW.size)
    refine emptyK W.heap.size w'.heap.size (Nat.le_refl _) ?_
    intro a3 w3 k3 b3
    have hx3 := below_blk b3 hx' hx'.lt
    have W3 := W'.trans (b3.mono W'.size)
    (repeat (first | refine fA_Step5_1 ?_ | (refine ld_S5L_1 ?_ (by assumption) ?_ ?_; rotate_left; exact rfl)))
    refine appK k3 (hL.below W3 (Nat.le_refl _)).row hL.len (srs hL W3) (by omega) b3.size W'.size ?_
    intro a4 c4 w4 k4 kk
    rw [List.nil_append, List.nil_append, Nat.zero_add] at k4
    have b4 : Below w'.heap.size w' w4 := b3.trans (kk.below b3.size)
    refine keeps_P4 hB hi h40 hd rfl (below_blk b4 hx' hx'.lt) hpk rfl rfl hal ((hrow.keep hk (Nat.le_refl _) (by decide) (by decide)).below b4) hokA (by rw [Nat.zero_add]) (k4.mono W'.size) (by omega) (by omega) hS ?_ hq (W'.trans (b4.mono W'.size))
    have hd' := hd'.below b4
    have hj' := hj'.below b4
    by_cases hok : okR L
    rotate_left
    · rw [jcomp_many rfl hok] at hd' hj' ⊢
      exact .inr (.inl ⟨rfl, fu, hfu, hd', hj'⟩)
    rw [jcomp_go hok (by omega)] at hd' hj' ⊢
    by_cases hfz : fu = 0 ∨ fu = 1
    · rw [if_pos hfz] at hd' hj' ⊢
      exact .inr (.inr ⟨rfl, _, hd', crash_comp1 hokA (by omega) h1⟩)
    rw [if_neg hfz] at hd' hj' ⊢
    by_cases hf2 : fu = 2 ∨ fu = 3
    · rw [if_pos hf2] at hd' hj' ⊢
      exact .inr (.inr ⟨rfl, _, hd', crash_comp2 hokA hok (by omega) h1⟩)
    · rw [if_neg hf2] at hd' hj' ⊢
      exact .inl ⟨rfl, hok, dec (dec (dec (dec fu))), fun h => by rw [hfu h]; rfl, hd', hj'⟩

theorem keeps_P3 {l0 l1 t2 d3 j4 t5 e6 all7 i8 x9 more10 f11 k_12 m13 g14 t15 m16 f17 t18 t19 t20 t21 t22 t23 t24 t25 t26 t27 t28 t29 t30 t31 t32 t33 t34 t35 t36 t37 t38 t39 t40 t41 t42 t43 t44 t45 t46 t47 t48 t49 t50 t51 t52 t53 t54 t55 t56 t57 t58 t59 t60 t61 t62 t63 t64 t65 t66 t67 t68 t69 t70 t71 t72 t73 t74 t75 t76 t77 t78 t79 t80 t81 t82 t83 t84 t85 t86 t87 t88 t89 t90 t91 t92 t93 t94 t95 t96 t97 t98 t99 t100 t101 t102 t103 t104 t105 t106 t107 t108 t109 t110 t111 t112 t113 t114 t115 t116 t117 t118 t119 t120 t121 t122 t123 t124 t125 t126 t127 t128 t129 t130 t131 t132 t133 t134 t135 t136 t137 t138 t139 t140 t141 t142 t143 t144 t145 t146 t147 t148 t149 t150 t151 t152 t153 t154 t155 t156 t157 t158 t159 t160 t161 t162 t163 t164 t165 t166 t167 t168 t169 : Value} {w : World} (hB : ∀ (e : List Value) (w' : World), KI W p S (gd e 4) (gd e 7) w' → gd e 8 = .int .i64 ((i + 1 : Nat) : Int) → B1 e w')
    (hi : i8 = .int .i64 (i : Nat)) (h40 : i ≤ 40) (hd : d3 = ptr p) {bx : Nat} {v pv : Option Addr × Nat × Nat} {d N fu : Int} {picks : List Int} (hx9 : x9 = ptr bx) (hx : blk w bx 54 [.int .i64 d, slv v, .int .i64 N, slv pv]) (hpk : RI W pv.1 pv.2.1 pv.2.2 picks)
    {vsL : List (Option Addr × Nat × Nat)} {L : List (List UInt8)} (hL : RBB W v.1 v.2.1 v.2.2 vsL L)
    {q n c : Nat} {A : List (List UInt8)} {a : Option Addr} {vs : List (Option Addr × Nat × Nat)} (hj : j4 = ptr q) (hal : all7 = .slice a n c) (hrow : KRow W.heap.size W.heap.size w a n c vs A) (hokA : okR A)
    (hsz : sz A + sz L ≤ S) (hS : S ≤ 100000)
    (hfu : N < 0 → fu = -1) (hD : DK (fun _ => True) w W.heap.size p ⟨(framesB A, []), [], false, fu⟩) (hJ : JR w p q (framesB A).length false) (hq : W.heap.size ≤ q) (hW : Below W.heap.size W w) :
    leatlaw05_JournalKeeps_P3 K B1 ((l0 :: l1 :: t2 :: d3 :: j4 :: t5 :: e6 :: all7 :: i8 :: x9 :: more10 :: f11 :: k_12 :: m13 :: g14 :: t15 :: m16 :: f17 :: t18 :: t19 :: t20 :: t21 :: t22 :: t23 :: t24 :: t25 :: t26 :: t27 :: t28 :: t29 :: t30 :: t31 :: t32 :: t33 :: t34 :: t35 :: t36 :: t37 :: t38 :: t39 :: t40 :: t41 :: t42 :: t43 :: t44 :: t45 :: t46 :: t47 :: t48 :: t49 :: t50 :: t51 :: t52 :: t53 :: t54 :: t55 :: t56 :: t57 :: t58 :: t59 :: t60 :: t61 :: t62 :: t63 :: t64 :: t65 :: t66 :: t67 :: t68 :: t69 :: t70 :: t71 :: t72 :: t73 :: t74 :: t75 :: t76 :: t77 :: t78 :: t79 :: t80 :: t81 :: t82 :: t83 :: t84 :: t85 :: t86 :: t87 :: t88 :: t89 :: t90 :: t91 :: t92 :: t93 :: t94 :: t95 :: t96 :: t97 :: t98 :: t99 :: t100 :: t101 :: t102 :: t103 :: t104 :: t105 :: t106 :: t107 :: t108 :: t109 :: t110 :: t111 :: t112 :: t113 :: t114 :: t115 :: t116 :: t117 :: t118 :: t119 :: t120 :: t121 :: t122 :: t123 :: t124 :: t125 :: t126 :: t127 :: t128 :: t129 :: t130 :: t131 :: t132 :: t133 :: t134 :: t135 :: t136 :: t137 :: t138 :: t139 :: t140 :: t141 :: t142 :: t143 :: t144 :: t145 :: t146 :: t147 :: t148 :: t149 :: t150 :: t151 :: t152 :: t153 :: t154 :: t155 :: t156 :: t157 :: t158 :: t159 :: t160 :: t161 :: t162 :: t163 :: t164 :: t165 :: t166 :: t167 :: t168 :: t169 :: [])) w := by
  subst hx9 hal
  have hlL := hL.lenL
  have hlA := hrow.lenL
  have hcL : L.length + vast L = sz L := rfl
  have hcA : A.length + vast A = sz A := rfl
  have bd : Below w.heap.size w w.drew := (Below.refl _ w).drew
  refine leatlaw05_JournalKeeps_P3_r ?_
  refine hReg_of (fun x => blk x bx 54 [.int .i64 d, slv v, .int .i64 N, slv pv]) hx.drew ?_
  refine hld_of (fun x hx K hK => fA_Step5_1 hK) ?_
  refine hld_of (fun x hx K hK => ld1 (v := slv v) (fun _ => by kernel_rfl) hx rfl hK) ?_
  refine emptyK W.heap.size w.heap.size (Nat.le_refl _) ?_
  intro a3 w3 k3 b3
  have b3 : Below w.heap.size w w3 := bd.trans b3
  refine hSub_same (below_blk b3 hx hx.lt) ?_
  have rA3 := hrow.below b3
  refine appK k3 rA3.rbb.row rA3.len rA3.each (by omega) b3.size hW.size ?_
  intro a4 c4 w4 k4 kk4
  have b4 : Below w.heap.size w w4 := b3.trans (kk4.below b3.size)
  have W4 := hW.trans (b4.mono hW.size)
  refine hSub_same (below_blk b4 hx hx.lt) ?_
  refine appK k4 (hL.below W4 (Nat.le_refl _)).row hL.len (srs hL W4) (by omega) b4.size hW.size ?_
  intro a5 c5 w5 k5 kk5
  have b5 : Below w.heap.size w w5 := b4.trans (kk5.below b4.size)
  refine hReg_of (fun _ => True) trivial ?_
  have hx5 := below_blk b5 hx hx.lt
  (repeat (first | refine fA_Step5_0 ?_ | (refine ld_S5L_0 ?_ (by assumption) ?_ ?_; rotate_left; exact rfl)))
  refine bin_rem (by decide) ?_
  (repeat (first | refine bin_eql ?_))
  rw [List.nil_append] at k5
  exact keeps_A4 hB hi h40 hd rfl hx5 hpk hL rfl hj rfl (hrow.below b5) hokA rfl (k5.mono hW.size) hsz hS hfu (hD.below b5) (hJ.below b5) hq (hW.trans (b5.mono hW.size))

theorem keeps_A2 {l0 l1 t2 d3 j4 t5 e6 all7 i8 x9 more10 f11 k_12 m13 g14 t15 m16 f17 t18 t19 t20 t21 t22 t23 t24 t25 t26 t27 t28 t29 t30 t31 t32 t33 t34 t35 t36 t37 t38 t39 t40 t41 t42 t43 t44 t45 t46 t47 t48 t49 t50 t51 t52 t53 t54 t55 t56 t57 t58 t59 t60 t61 t62 t63 t64 t65 t66 t67 t68 t69 t70 t71 t72 t73 t74 t75 t76 t77 t78 t79 t80 t81 t82 t83 t84 t85 t86 t87 t88 t89 t90 t91 t92 t93 t94 t95 t96 t97 t98 t99 t100 t101 t102 t103 t104 t105 t106 t107 t108 t109 t110 t111 t112 t113 t114 t115 t116 t117 t118 t119 t120 t121 t122 t123 t124 t125 t126 t127 t128 t129 t130 t131 t132 t133 t134 t135 t136 t137 t138 t139 t140 t141 t142 t143 t144 t145 t146 t147 t148 t149 t150 t151 t152 t153 t154 t155 t156 t157 t158 t159 t160 t161 t162 t163 t164 t165 t166 t167 t168 t169 : Value} {w : World} (hB : ∀ (e : List Value) (w' : World), KI W p S (gd e 4) (gd e 7) w' → gd e 8 = .int .i64 ((i + 1 : Nat) : Int) → B1 e w')
    {a0 : Option Addr} {n0 c0 : Nat} {L : List Stp5} (hr : RST5 W a0 n0 c0 L) (hl : l0 = .slice a0 n0 c0) (hin : i < n0) (hSS : S = sz (flat5 L (i + 1))) (hS : S ≤ 100000)
    (hi : i8 = .int .i64 (i : Nat)) (h40 : i ≤ 40) (hd : d3 = ptr p) (hk : KI W p (sz (flat5 L i)) j4 all7 w) :
    leatlaw05_JournalKeeps_A2 K B1 ((l0 :: l1 :: t2 :: d3 :: j4 :: t5 :: e6 :: all7 :: i8 :: x9 :: more10 :: f11 :: k_12 :: m13 :: g14 :: t15 :: m16 :: f17 :: t18 :: t19 :: t20 :: t21 :: t22 :: t23 :: t24 :: t25 :: t26 :: t27 :: t28 :: t29 :: t30 :: t31 :: t32 :: t33 :: t34 :: t35 :: t36 :: t37 :: t38 :: t39 :: t40 :: t41 :: t42 :: t43 :: t44 :: t45 :: t46 :: t47 :: t48 :: t49 :: t50 :: t51 :: t52 :: t53 :: t54 :: t55 :: t56 :: t57 :: t58 :: t59 :: t60 :: t61 :: t62 :: t63 :: t64 :: t65 :: t66 :: t67 :: t68 :: t69 :: t70 :: t71 :: t72 :: t73 :: t74 :: t75 :: t76 :: t77 :: t78 :: t79 :: t80 :: t81 :: t82 :: t83 :: t84 :: t85 :: t86 :: t87 :: t88 :: t89 :: t90 :: t91 :: t92 :: t93 :: t94 :: t95 :: t96 :: t97 :: t98 :: t99 :: t100 :: t101 :: t102 :: t103 :: t104 :: t105 :: t106 :: t107 :: t108 :: t109 :: t110 :: t111 :: t112 :: t113 :: t114 :: t115 :: t116 :: t117 :: t118 :: t119 :: t120 :: t121 :: t122 :: t123 :: t124 :: t125 :: t126 :: t127 :: t128 :: t129 :: t130 :: t131 :: t132 :: t133 :: t134 :: t135 :: t136 :: t137 :: t138 :: t139 :: t140 :: t141 :: t142 :: t143 :: t144 :: t145 :: t146 :: t147 :: t148 :: t149 :: t150 :: t151 :: t152 :: t153 :: t154 :: t155 :: t156 :: t157 :: t158 :: t159 :: t160 :: t161 :: t162 :: t163 :: t164 :: t165 :: t166 :: t167 :: t168 :: t169 :: [])) w := by
  obtain ⟨q, A, a, n, c, vs, rfl, rfl, rA, okA, szA, hD, hJ, hq, hW⟩ := hk
  obtain ⟨b, o, v, pv, vs2, s, rfl, hs, r1, r2, d1, d2, d3', hcell⟩ := hr.get hin
  have hSz : sz A + sz s.L ≤ S := by rw [hSS, flat5_succ hs, sz_app]; omega
  subst hl hi hd
  refine leatlaw05_JournalKeeps_A2_r ?_
  refine idxRow (s := 4) Try.underlying47 (fun _ => by kernel_rfl) (by omega) (by omega) ?_
  rw [Int.toNat_natCast]
  refine ld_of (run_loadVar_mid w b (o + i * 4) _ [.int .i64 s.d, slv v, .int .i64 s.n, slv pv] _ (hcell w hW) Try.underlying54 rfl (by kernel_rfl)) ?_
  refine alc_of (z := .agg #[.int .i64 0, .slice none 0 0, .int .i64 0, .slice none 0 0]) (by kernel_rfl) ?_
  intro w1 hx1 b1 S1
  refine stoA (n := 4) (by kernel_rfl) rfl hx1 (by simp [Value.cells]) (by simp [Value.oneCell', slv]) ?_
  intro w2 hx2 o2
  have hx2 : blk w2 w.heap.size 54 [.int .i64 s.d, slv v, .int .i64 s.n, slv pv] := hx2
  have b2 : Below w.heap.size w w2 := b1.trans o2.below
  (repeat (first | refine fA_Step5_2 ?_ | (refine ld_S5L_0 ?_ (by assumption) ?_ ?_; rotate_left; exact rfl) | refine bin_geq ?_))
  refine leatlaw05_JournalKeeps_A3_r ?_
  have W2 := hW.trans (b2.mono hW.size)
  by_cases hN : 0 ≤ s.n
  · (repeat (first | refine fA_Step5_2 ?_ | (refine ld_S5L_0 ?_ (by assumption) ?_ ?_; rotate_left; exact rfl) | refine cond_t (by omega) ?_))
    refine rem_nn hN (by decide) ?_
    refine fuse_c (n := s.n % 6) (hD.below b2) (by omega) ?_
    intro w3 hD3 k3
    have k3' := k3.mono (T' := DT) (by decide) hD.base
    rw [if_pos (by omega)] at hD3
    exact keeps_P3 hB rfl h40 rfl rfl (k3.blk hx2 (.inr (by decide))) r2 r1 rfl rfl ((rA.below b2).keep k3' (Nat.le_refl _) (by decide) (by decide)) okA hSz hS (fu := s.n % 6) (fun h => by omega) hD3 ((hJ.below b2).keep k3 (by decide)) hq (W2.trans (k3'.below W2.size))
  · (repeat (first | refine cond_f (by omega) ?_))
    exact keeps_P3 hB rfl h40 rfl rfl hx2 r2 r1 rfl rfl (rA.below b2) okA hSz hS (fu := -1) (fun h => rfl) (hD.below b2) (hJ.below b2) hq W2

theorem flat5_le (L : List Stp5) (j n : Nat) (h : j ≤ n) : sz (flat5 L j) ≤ sz (flat5 L n) := by
  unfold flat5
  have e : L.take n = L.take j ++ (L.take n).drop j := by
    have := List.take_append_drop j (L.take n)
    rw [List.take_take, Nat.min_eq_left h] at this
    exact this.symm
  rw [e, List.map_append, List.flatten_append, sz_app]; omega

theorem keeps5_law {a0 : Option Addr} {n0 c0 : Nat} {L : List Stp5} {w : World} {K : KV} (r0 : RST5 w a0 n0 c0 L) (hn0 : n0 ≤ 9223372036854775807)
    (h : ∀ w', Below w.heap.size w w' → K (.bool true) w') : call Try.prog 4 #[.slice a0 n0 c0] K w := by
  refine call_of leatlaw05_JournalKeeps_go (leatlaw05_JournalKeeps_in ?_)
  refine few5_c r0 hn0 ?_ ?_
  · intro w1 b1
    refine un_not ?_
    (repeat (first | refine cond_T ?_))
    exact works5_c fun w2 b2 => h w2 (b1.trans (b2.mono b1.size))
  intro h40 hsz w1 b1
  refine un_not ?_
  (repeat (first | refine cond_F ?_))
  refine new_c ?_
  intro w2 p hd2 b2 hp
  have S1 := b1.size
  have S2 := b2.size
  have hd2 : DK (fun _ => True) w2 w.heap.size p ⟨([], []), [], false, -1⟩ := hd2.lower S1
  refine open_c hd2 (by simp) ?_ (fun hh => absurd (by rw [open_zero]) hh)
  intro _ w3 q3 a3 n3 c3 vs3 hd3 k3 L3 hj3 hq3
  rw [open_zero] at hd3 L3 hj3
  have b02 : Below w.heap.size w w2 := b1.trans (b2.mono S1)
  have b03 := b02.trans (k3.below b02.size)
  (repeat (first | refine eqJ_nil ?_ | refine bin_neq ?_ | refine ext3_a ?_ | refine ext3_b ?_ | refine ext3_c ?_ | refine pick_F ?_ | refine cond_F ?_ | refine gsel_Fn ?_))
  refine leatlaw05_JournalKeeps_A1_r ?_
  refine leatlaw05_JournalKeeps_L1_r (Inv := fun j al i _ _ _ _ _ _ _ _ _ _ _ _ _ _ _ _ _ _ _ _ _ _ _ _ _ _ wr => ∃ x : Nat, x ≤ n0 ∧ i = .int .i64 (x : Nat) ∧ KI w p (sz (flat5 L x)) j al wr)
    (μ := fun j al i _ _ _ _ _ _ _ _ _ _ _ _ _ _ _ _ _ _ _ _ _ _ _ _ _ _ _ => n0 - (intOf i).toNat) ⟨0, by omega, rfl, q3, [], none, 0, 0, [], rfl, rfl, KRow.nil _ _ _, (by intro s hs; cases hs), by simp [sz, vast], hd3, hj3, by omega, b03⟩ ?_
  rintro _ _ _ _ _ _ _ _ _ _ _ _ _ _ _ _ _ _ _ _ _ _ _ _ _ _ _ _ _ _ w4 m ⟨x, hx, rfl, hk⟩ hm
  by_cases hxn : x < n0
  · (repeat (first | refine lenSt5 ?_ | refine bin_lss ?_ | refine cond_t (by omega) ?_))
    exact keeps_A2 (fun e w' hk hi => ⟨⟨x + 1, by omega, hi, hk⟩, by rw [hm, hi]; simp only [intOf]; omega⟩) r0 rfl hxn rfl (by have := flat5_le L (x + 1) n0 (by omega); omega) rfl (by omega) rfl hk
  have : x = n0 := by omega
  subst this
  clear hm
  obtain ⟨q, A, a, n, c, vs, rfl, rfl, rA, okA, szA, hD, hJ, hq, hW⟩ := hk
  have hlA := rA.lenL
  have hcA : A.length + vast A = sz A := rfl
  (repeat (first | refine lenSt5 ?_ | refine bin_lss ?_ | refine cond_f (by omega) ?_))
  refine leatlaw05_JournalKeeps_P1_r ?_
  refine off_c hD ?_
  intro w5 hd5 k5
  have k5' := k5.mono (T' := DT) (by decide) hD.base
  refine bldI [9, 9] rfl rfl (by simp) (by simp) ?_
  intro a6 w6 i6 b6
  refine on_c (hd5.below b6) i6 (by simp) ?_
  rw [show onS { sure := (framesB A, []), loose := [], off := true, fuse := -1 } [9, 9] = _ from on_none]
  intro w7 hd7 k7
  have K7 := (k5'.trans (Keep.of b6)).trans k7
  have eo : jopenS ⟨(framesB A, []), [], false, -1⟩ = ⟨⟨(framesB A, []), [], false, -1⟩, 0, A, (framesB A).length⟩ := by
    rw [open_clean (by rw [allB_frames okA]), allB_frames okA]
  refine open_c hd7 (by simp) ?_ (fun hh => absurd (by rw [eo]) hh)
  intro _ w8 q8 a8 n8 c8 vs8 hd8 k8 L8 hj8 hq8
  rw [eo] at L8
  have L8 : OBB w8 w7.heap.size a8 n8 c8 vs8 A := L8
  have K8 := K7.trans k8
  have h8 := obb_len L8
  have rA8 := rA.keep K8 (Nat.le_refl _) (by decide) (by decide)
  have W8 := hW.trans (K8.below hW.size)
  (repeat (first | refine bin_eql ?_ | refine ext3_a ?_ | refine ext3_b ?_ | refine ext3_c ?_ | refine gsel_T ?_))
  refine same_c L8.rbb rA8.rbb (by have : A.length = n8 := h8; omega) ?_
  intro w9 b9
  (repeat (first | refine gsel_pt rfl ?_ | refine pick_t rfl ?_))
  have W9 := W8.trans (b9.mono W8.size)
  refine works5_c ?_
  intro w10 b10
  (repeat (first | refine pick_t rfl ?_))
  exact h w10 (W9.trans (b10.mono W9.size))
end

set_option maxRecDepth 100000 in
theorem journalKeeps_contract (H : Type) (enc : TypeId × Value → H) (W : World) (base : Nat) (args : Array Value) (ds gs : List (DataW H)) (before : List MemPlace)
    (hval0 : ∀ (j : Nat) t v, Try.f4.params[j]? = some t → args[j]? = some v → Value.okWide Try.prog W .any base t v)
    (hW : DataW.Whole enc Try.prog Try.f4.params.toList Rows.journalKeepsSpec.vars false W args.toList ds gs before) (hk : Rows.uptoSmall H (ds ++ gs) = true) :
    Calls Try.prog 4 args W fun e W' => ∃ v, e = .returned v ∧ Rows.journalKeepsSpec.post enc Try.prog Try.f4 false true false false W args v W' := by
  have hval := hval0
  have hW' := hW
  obtain ⟨p, q, hA0, hV, rfl, hfz, hnd⟩ := hW
  have hA : DataW.TrodAll enc Try.prog W 0 (fun _ => true) true Try.f4.params.toList args.toList ds p := hA0
  rw [Try.params4] at hA hval
  obtain ⟨v0, vs0, d0, ds0, p0, q0, hargs, rfl, rfl, h0, r0⟩ := trodAll_cons hA
  obtain ⟨rfl, rfl, rfl⟩ := trodAll_nil r0
  obtain rfl : args = #[v0] := by cases args; simp_all
  obtain ⟨rfl, rfl⟩ := trodVars_none hV
  obtain ⟨a0, n0, c0, rfl⟩ := okWide_slice Try.underlying47 (hval 0 47 v0 rfl rfl)
  have k0 := h0
  have lt0 : ∀ x ∈ p0, x.block < W.heap.size := by obtain ⟨m, hm⟩ := k0; exact DataW.trod_lt m _ _ _ hm
  obtain ⟨⟨L0, rb0⟩, hle0, hmx0⟩ : (∃ L, RST5 W a0 n0 c0 L) ∧ n0 ≤ c0 ∧ c0 ≤ 9223372036854775807 := by
    obtain ⟨fuel, hf⟩ := h0
    exact rst5_of_trodU (by rfl) hf (by have hq := (of_decide_eq_true hk : Rows.uptoBulkAll _ ≤ 1048576); simp only [List.append_nil, List.nil_append, List.cons_append, Rows.uptoBulkAll] at hq; omega)
  have hsm : Rows.uptoBulkAll ([d0] ++ []) ≤ 1048576 := of_decide_eq_true hk
  simp only [List.append_nil, List.nil_append, List.cons_append, Rows.uptoBulkAll] at hsm
  clear hA0 hval0 hval
  have hcalls : Calls Try.prog 4 #[.slice a0 n0 c0] W fun e w' => e = .returned (.bool true) ∧ Below W.heap.size W w' := by
    exact calls_of (keeps5_law rb0 (by omega) (fun w' hb' => ⟨rfl, hb'⟩))
  refine hcalls.mono fun e W' ⟨he, bel⟩ => ?_
  subst he
  exact ⟨_, rfl, _, _, _, [], _, [], hW', trodAll_mk1 (shut_bool Try.underlying4 _), (trodAll_cons_mk (Below.trod frame_laid (by kernel_rfl) (of_decide_eq_true (by kernel_rfl)) k0 bel lt0) trodAll_mk0), rfl, bel.frame _, fun h => by cases h⟩

set_option maxRecDepth 100000 in
theorem journalKeeps_lifted (os : Os) (started : os.Started) (H : Type) (enc : TypeId × Value → H) (F : Stop.Interp) :
    ReturnsInHanded {} Try.checked os 4 .any ((Rows.OpenSpec.upto Rows.journalKeepsSpec).pre6 enc Try.prog Try.f4 Rows.journalKeepsUptoRow.domain false) (((Rows.OpenSpec.upto Rows.journalKeepsSpec).at F).post enc Try.prog Try.f4 false true false false) := by
  refine returnsInHanded_of_cond (C := Try.checked) (s := Rows.OpenSpec.upto Rows.journalKeepsSpec) (k := Rows.uptoSmall) rfl frame_own started (by kernel_rfl) Try.func4
    (OpenSpec.witness (enc := enc) (C := Try.checked) (s := Rows.OpenSpec.upto Rows.journalKeepsSpec) (k := Rows.uptoSmall) rfl false ⟨#[], #[.slice none 0 0], []⟩ 8 (by kernel_rfl) (by kernel_rfl) (by kernel_rfl)
      (x := ([.nil], [], [])) (by kernel_rfl) rfl (by kernel_rfl)) ?_
  intro W base args ds gs before hval hW _ hk _
  exact journalKeeps_contract H enc W base args ds gs before hval hW hk

theorem journalKeeps_proved : Rows.JournalKeepsUptoSaid :=
  OpenClaim.holds_of_cond 4 Try.f4 rfl rfl rfl rfl rfl rfl rfl ⟨rfl, rfl, rfl, rfl, rfl⟩ rfl rfl rfl rfl rfl (by kernel_rfl) Try.func4 (by kernel_rfl)
    (of_decide_eq_true (by kernel_rfl)) (by unfold Func.isWrapper; first | (rw [if_pos (by decide +kernel)]; kernel_rfl) | (rw [if_neg (by decide +kernel)]; exact ⟨rfl, rfl⟩))
    (fun os started H enc _ F => journalKeeps_lifted os started H enc F)

end Go.Proofs.Ytjkmblbonambjaa
