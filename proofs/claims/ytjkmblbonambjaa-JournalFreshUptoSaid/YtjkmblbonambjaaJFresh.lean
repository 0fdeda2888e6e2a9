/- The statement of JournalFresh: behind a Compact the records are those that were handed to it, then those that are added; up to any length: whatever the input, true, and the input reads as it did. -/
import Derived.Test.YtjkmblbonambjaaSJFresh
import Derived.Test.YtjkmblbonambjaaJCh
import Derived.Test.YtjkmblbonambjaaRows2
import Derived.Test.YtjkmblbonambjaaFrame2
namespace Go.Proofs.Ytjkmblbonambjaa
set_option maxRecDepth 100000
open Go.ChangeShapes Go.WideShapes Go.ChangeAt Go.RowKit
theorem dis_step {F F' F2 : List Nat} {N : Nat} (h : ∀ k ∈ F, k ∉ F2) (h2 : ∀ k ∈ F2, k < N) (hF : ∀ k ∈ F', k ∈ F ∨ N ≤ k) : ∀ k ∈ F', k ∉ F2 := by
  intro k hk hk2
  rcases hF k hk with h3 | h3
  · exact h k h3 hk2
  · have := h2 k hk2; omega
theorem dis_symm {F F2 : List Nat} (h : ∀ k ∈ F, k ∉ F2) : ∀ k ∈ F2, k ∉ F := fun k hk hk2 => h k hk2 hk
/-- What Add does where all is well. -/
theorem jadd_all {f0 : List UInt8} {size : Int} {L : List (List UInt8)} (h : okR L) (ht : f0.length + (framesB L).length ≤ 4194304) : jaddS ⟨⟨(f0, []), [], false, -1⟩, size, false⟩ L = (⟨⟨(f0 ++ framesB L, []), [], false, -1⟩, size + (framesB L).length, false⟩, 0) := by
  by_cases hne : L = []
  · subst hne
    rw [jadd_nil rfl]; simp [framesB]
  · rw [jadd_go h hne (by simp [tot]; omega), if_neg (by decide)]
    simp [dec]
theorem open_all {X : List (List UInt8)} (h : okR X) : jopenS ⟨(framesB X, []), [], false, -1⟩ = ⟨⟨(framesB X, []), [], false, -1⟩, 0, X, (framesB X).length⟩ := by
  rw [open_clean (by rw [allB_frames h]), allB_frames h]
section
attribute [local irreducible] bin un conv call callV blt slc fldA fld idxA idx lkp mUpd mEnt eSt rng nxt ent ext alc box bld bldS ld sto nilC mkMap mkS ifc pick rdy wts gsel sti cond retM Gives cCode cGrp cSeq cOp
theorem slcBB {w : World} {K : KV} {av : Option Addr} {n c : Nat} {l m : Nat} {vs : List (Option Addr × Nat × Nat)} {L : List (List UInt8)} (hr : RBB w av n c vs L)
    {lo hi : Option Value} (hlo : (lo = none ∧ l = 0) ∨ ∃ k, lo = some (.int k (l : Int))) (hhi : (hi = none ∧ m = n) ∨ ∃ k, hi = some (.int k (m : Int))) (hlm : l ≤ m) (hmn : m ≤ n)
    (h : ∀ a', RBB w a' (m - l) (c - l) ((vs.take m).drop l) ((L.take m).drop l) → K (.slice a' (m - l) (c - l)) w) : slc Try.prog 50 (.slice av n c) lo hi none K w := by
  refine slc_of Try.underlying50 size_sl hr.row hlo hhi hlm hmn fun a' ha => h a' ⟨by simpa [List.map_drop, List.map_take] using ha, by simp [hr.len], fun i v' l' hv hl => ?_⟩
  rw [List.getElem?_drop] at hv hl
  have h1 : l + i < m := by
    have := (List.getElem?_eq_some_iff.1 hl).1
    rw [List.length_take] at this; omega
  rw [List.getElem?_take_of_lt h1] at hv hl
  exact hr.each _ _ _ hv hl

/-- Two journals, their blocks apart. -/
structure TJ (B0 : Nat) (w : World) (Bd Bc : Nat) (Fd Fc : List Nat) (pd pc qd qc : Nat) (Jd Jc : JD) : Prop where
  d : JK Bd w Fd pd qd Jd
  c : JK Bc w Fc pc qc Jc
  dis : ∀ k ∈ Fd, k ∉ Fc
  bd : B0 ≤ Bd
  bc : B0 ≤ Bc
variable {w w' : World} {K : KV} {B0 Bd Bc : Nat} {Fd Fc F' : List Nat} {pd pc qd qc : Nat} {Jd Jc J' : JD}
theorem TJ.stepD (h : TJ B0 w Bd Bc Fd Fc pd pc qd qc Jd Jc) (hj : JK Bd w' F' pd qd J') (hF : ∀ k ∈ F', k ∈ Fd ∨ w.heap.size ≤ k) (hk : @Kg (fgd Fd w.heap.size) JT Bd w w') : TJ B0 w' Bd Bc F' Fc pd pc qd qc J' Jc :=
  ⟨hj, h.c.other hk (dis_symm h.dis) (by decide) (by decide), dis_step h.dis h.c.kd.lt hF, h.bd, h.bc⟩
theorem TJ.stepC (h : TJ B0 w Bd Bc Fd Fc pd pc qd qc Jd Jc) (hj : JK Bc w' F' pc qc J') (hF : ∀ k ∈ F', k ∈ Fc ∨ w.heap.size ≤ k) (hk : @Kg (fgd Fc w.heap.size) JT Bc w w') : TJ B0 w' Bd Bc Fd F' pd pc qd qc Jd J' :=
  ⟨h.d.other hk h.dis (by decide) (by decide), hj, dis_symm (dis_step (dis_symm h.dis) h.d.kd.lt hF), h.bd, h.bc⟩
theorem TJ.below (h : TJ B0 w Bd Bc Fd Fc pd pc qd qc Jd Jc) (hb : Below w.heap.size w w') : TJ B0 w' Bd Bc Fd Fc pd pc qd qc Jd Jc := ⟨h.d.below hb, h.c.below hb, h.dis, h.bd, h.bc⟩
theorem kg_keep {F : List Nat} {N B : Nat} {T : List TypeId} (hk : @Kg (fgd F N) T B w w') : Keep T B w w' := Kg.toKeep (G := fgd F N) hk
theorem kg_below {F : List Nat} {N B : Nat} {T : List TypeId} {W : World} (hk : @Kg (fgd F N) T B w w') (hW : Below B0 W w) (h1 : B0 ≤ B) (h2 : B ≤ w.heap.size) : Below B0 W w' := hW.trans ((Kg.below (G := fgd F N) hk h2).mono h1)
theorem TJ.bdw (h : TJ B0 w Bd Bc Fd Fc pd pc qd qc Jd Jc) : Bd ≤ w.heap.size ∧ Bc ≤ w.heap.size := by
  have h1 := h.d.kd.base; have h2 := h.c.kd.base; omega

set_option maxHeartbeats 4000000 in
theorem fresh_P2 {old0 fresh1 more2 old3 fresh4 more5 t6 all7 i8 d9 c10 j11 t12 e13 k_14 t15 f16 i17 t18 x19 g20 t21 y22 h23 t24 t25 t26 t27 t28 t29 t30 t31 t32 t33 t34 t35 t36 t37 t38 t39 t40 t41 t42 t43 t44 t45 t46 t47 t48 t49 t50 t51 t52 t53 t54 t55 t56 t57 t58 t59 t60 t61 t62 t63 t64 t65 t66 t67 t68 t69 t70 t71 t72 t73 t74 t75 t76 t77 t78 t79 t80 t81 t82 t83 t84 t85 t86 t87 t88 t89 t90 t91 t92 t93 t94 t95 t96 t97 t98 t99 t100 t101 t102 t103 t104 t105 t106 t107 t108 t109 t110 t111 t112 t113 t114 t115 t116 t117 t118 t119 t120 t121 t122 t123 t124 t125 t126 t127 t128 t129 t130 t131 t132 t133 t134 t135 t136 t137 t138 t139 t140 t141 t142 t143 t144 t145 t146 t147 t148 t149 t150 t151 t152 t153 t154 t155 t156 t157 : Value} {W : World} {av : Option Addr} {cv : Nat} {vs : List (Option Addr × Nat × Nat)} {X : List (List UInt8)} {n0 co n : Nat} {ao : Option Addr}
    (ht : TJ W.heap.size w Bd Bc Fd Fc pd pc qd qc ⟨⟨(framesB (X.drop n0), []), [], false, -1⟩, ((framesB (X.drop n0)).length : Nat), false⟩ ⟨⟨(framesB (X.drop n0), []), [], false, -1⟩, ((framesB (X.drop n0)).length : Nat), false⟩)
    (hX : ∀ s ∈ X, s.length ≤ 200) (hr : KRow W.heap.size W.heap.size w av n cv vs X) (hn : n ≤ 60) (hn0 : n0 ≤ n) (hW : Below W.heap.size W w)
    (e0 : old0 = .slice ao n0 co) (e7 : all7 = .slice av n cv) (e9 : d9 = ptr pd) (e10 : c10 = ptr pc) (e11 : j11 = ptr qd) (e14 : k_14 = ptr qc) (h : ∀ w', Below W.heap.size W w' → K (.bool true) w') :
    leatlaw05_JournalFresh_P2 K ((old0 :: fresh1 :: more2 :: old3 :: fresh4 :: more5 :: t6 :: all7 :: i8 :: d9 :: c10 :: j11 :: t12 :: e13 :: k_14 :: t15 :: f16 :: i17 :: t18 :: x19 :: g20 :: t21 :: y22 :: h23 :: t24 :: t25 :: t26 :: t27 :: t28 :: t29 :: t30 :: t31 :: t32 :: t33 :: t34 :: t35 :: t36 :: t37 :: t38 :: t39 :: t40 :: t41 :: t42 :: t43 :: t44 :: t45 :: t46 :: t47 :: t48 :: t49 :: t50 :: t51 :: t52 :: t53 :: t54 :: t55 :: t56 :: t57 :: t58 :: t59 :: t60 :: t61 :: t62 :: t63 :: t64 :: t65 :: t66 :: t67 :: t68 :: t69 :: t70 :: t71 :: t72 :: t73 :: t74 :: t75 :: t76 :: t77 :: t78 :: t79 :: t80 :: t81 :: t82 :: t83 :: t84 :: t85 :: t86 :: t87 :: t88 :: t89 :: t90 :: t91 :: t92 :: t93 :: t94 :: t95 :: t96 :: t97 :: t98 :: t99 :: t100 :: t101 :: t102 :: t103 :: t104 :: t105 :: t106 :: t107 :: t108 :: t109 :: t110 :: t111 :: t112 :: t113 :: t114 :: t115 :: t116 :: t117 :: t118 :: t119 :: t120 :: t121 :: t122 :: t123 :: t124 :: t125 :: t126 :: t127 :: t128 :: t129 :: t130 :: t131 :: t132 :: t133 :: t134 :: t135 :: t136 :: t137 :: t138 :: t139 :: t140 :: t141 :: t142 :: t143 :: t144 :: t145 :: t146 :: t147 :: t148 :: t149 :: t150 :: t151 :: t152 :: t153 :: t154 :: t155 :: t156 :: t157 :: [])) w := by
  subst e0 e7 e9 e10 e11 e14
  have hXl := hr.lenL
  have hok : okR (X.drop n0) := fun s hs => by have := hX s (List.mem_of_mem_drop hs); omega
  have eo := open_all hok
  have hdl : (X.drop n0).length ≤ 60 := by simp; omega
  refine leatlaw05_JournalFresh_P2_r ?_
  refine open_jk ht.d.kd (by simp) (by rw [eo]) ?_
  intro w1 F1 q1 a1 n1 c1 vs1 hj1 hF1 k1 L1
  rw [eo] at L1
  have L1 : OBB w1 w.heap.size a1 n1 c1 vs1 (X.drop n0) := L1
  obtain ⟨hbd, hbc⟩ := ht.bdw
  have jd1 : JR w1 pd qd ((framesB (X.drop n0)).length : Nat) false := JR.keep (G := fgd Fd w.heap.size) ht.d.jr k1 (by decide)
  have jc1 : JR w1 pc qc ((framesB (X.drop n0)).length : Nat) false := JR.keep (G := fgd Fd w.heap.size) ht.c.jr k1 (by decide)
  have kc1 := ht.c.kd.other k1 (dis_symm ht.dis) (by decide) (by decide)
  have hr1 := hr.keep (kg_keep k1) ht.bd (by decide) (by decide)
  have W1 := kg_below k1 hW ht.bd hbd
  have S1 := Kg.size (G := fgd Fd w.heap.size) k1
  refine ext_of rfl ?_
  refine ext_of rfl ?_
  refine ext_of rfl ?_
  refine open_jk kc1 (by simp) (by rw [eo]) ?_
  intro w2 F2 q2 a2 n2 c2 vs2 hj2 hF2 k2 L2
  rw [eo] at L2
  have L2 : OBB w2 w1.heap.size a2 n2 c2 vs2 (X.drop n0) := L2
  have jd2 : JR w2 pd qd ((framesB (X.drop n0)).length : Nat) false := JR.keep (G := fgd Fc w1.heap.size) jd1 k2 (by decide)
  have jc2 : JR w2 pc qc ((framesB (X.drop n0)).length : Nat) false := JR.keep (G := fgd Fc w1.heap.size) jc1 k2 (by decide)
  have hr2 := hr1.keep (kg_keep k2) ht.bc (by decide) (by decide)
  have L1' := L1.keep (kg_keep k2) (by decide) (by decide)
  have W2 := kg_below k2 W1 ht.bc (by omega)
  have h1 := obb_len L1
  have h2 := obb_len L2
  refine ext_of rfl ?_
  refine ext_of rfl ?_
  refine ext_of rfl ?_
  refine bin_eql ?_
  refine gsel_pt rfl ?_
  refine bin_eql ?_
  refine pick_t rfl ?_
  refine gsel_pt rfl ?_
  refine len26 ?_
  refine slcBB hr2.rbb (.inr ⟨_, rfl⟩) (.inl ⟨rfl, rfl⟩) hn0 (Nat.le_refl _) ?_
  intro a3 rS3
  have eX : (X.take n).drop n0 = X.drop n0 := by rw [List.take_of_length_le (by omega)]
  rw [eX] at rS3
  refine same_c L1'.rbb rS3 (by omega) ?_
  rw [decide_eq_true rfl]
  intro w3 b3
  have W3 := W2.trans (b3.mono W2.size)
  first | refine pick_T ?_ | refine pick_t rfl ?_
  first | refine gsel_T ?_ | refine gsel_pt rfl ?_
  refine len26 ?_
  refine slcBB (hr2.below b3).rbb (.inr ⟨_, rfl⟩) (.inl ⟨rfl, rfl⟩) hn0 (Nat.le_refl _) ?_
  intro a4 rS4
  rw [eX] at rS4
  refine same_c (L2.below b3 (Nat.le_refl _)).rbb rS4 (by omega) ?_
  rw [decide_eq_true rfl]
  intro w4 b4
  have W4 := W3.trans (b4.mono W3.size)
  first | refine pick_T ?_ | refine pick_t rfl ?_
  first | refine gsel_T ?_ | refine gsel_pt rfl ?_
  refine jsize_c ((jd2.below b3).below b4) ?_
  refine jsize_c ((jc2.below b3).below b4) ?_
  refine bin_eql ?_
  first | refine pick_T ?_ | refine pick_t rfl ?_
  first | refine gsel_T ?_ | refine gsel_pt rfl ?_
  refine works5_c ?_
  intro w5 b5
  first | refine pick_T ?_ | refine pick_t rfl ?_
  exact h w5 (W4.trans (b5.mono W4.size))

set_option maxHeartbeats 4000000 in
theorem fresh_L2 {old0 fresh1 more2 old3 fresh4 more5 t6 all7 i8 d9 c10 j11 t12 e13 k_14 t15 f16 i17 t18 x19 g20 t21 y22 h23 t24 t25 t26 t27 t28 t29 t30 t31 t32 t33 t34 t35 t36 t37 t38 t39 t40 t41 t42 t43 t44 t45 t46 t47 t48 t49 t50 t51 t52 t53 t54 t55 t56 t57 t58 t59 t60 t61 t62 t63 t64 t65 t66 t67 t68 t69 t70 t71 t72 t73 t74 t75 t76 t77 t78 t79 t80 t81 t82 t83 t84 t85 t86 t87 t88 t89 t90 t91 t92 t93 t94 t95 t96 t97 t98 t99 t100 t101 t102 t103 t104 t105 t106 t107 t108 t109 t110 t111 t112 t113 t114 t115 t116 t117 t118 t119 t120 t121 t122 t123 t124 t125 t126 t127 t128 t129 t130 t131 t132 t133 t134 t135 t136 t137 t138 t139 t140 t141 t142 t143 t144 t145 t146 t147 t148 t149 t150 t151 t152 t153 t154 t155 t156 t157 : Value} {W : World} {av : Option Addr} {cv : Nat} {vs : List (Option Addr × Nat × Nat)} {X : List (List UInt8)} {n0 co n : Nat} {ao : Option Addr}
    (ht : TJ W.heap.size w Bd Bc Fd Fc pd pc qd qc ⟨⟨(framesB (X.drop n0), []), [], false, -1⟩, ((framesB (X.drop n0)).length : Nat), false⟩ ⟨⟨([], []), [], false, -1⟩, 0, false⟩)
    (hX : ∀ s ∈ X, s.length ≤ 200) (hr : KRow W.heap.size W.heap.size w av n cv vs X) (hn : n ≤ 60) (hn0 : n0 ≤ n) (hW : Below W.heap.size W w)
    (e0 : old0 = .slice ao n0 co) (e7 : all7 = .slice av n cv) (e9 : d9 = ptr pd) (e10 : c10 = ptr pc) (e11 : j11 = ptr qd) (e14 : k_14 = ptr qc) (e17 : i17 = .int .i64 (n0 : Nat)) (h : ∀ w', Below W.heap.size W w' → K (.bool true) w') :
    leatlaw05_JournalFresh_L2 K ((old0 :: fresh1 :: more2 :: old3 :: fresh4 :: more5 :: t6 :: all7 :: i8 :: d9 :: c10 :: j11 :: t12 :: e13 :: k_14 :: t15 :: f16 :: i17 :: t18 :: x19 :: g20 :: t21 :: y22 :: h23 :: t24 :: t25 :: t26 :: t27 :: t28 :: t29 :: t30 :: t31 :: t32 :: t33 :: t34 :: t35 :: t36 :: t37 :: t38 :: t39 :: t40 :: t41 :: t42 :: t43 :: t44 :: t45 :: t46 :: t47 :: t48 :: t49 :: t50 :: t51 :: t52 :: t53 :: t54 :: t55 :: t56 :: t57 :: t58 :: t59 :: t60 :: t61 :: t62 :: t63 :: t64 :: t65 :: t66 :: t67 :: t68 :: t69 :: t70 :: t71 :: t72 :: t73 :: t74 :: t75 :: t76 :: t77 :: t78 :: t79 :: t80 :: t81 :: t82 :: t83 :: t84 :: t85 :: t86 :: t87 :: t88 :: t89 :: t90 :: t91 :: t92 :: t93 :: t94 :: t95 :: t96 :: t97 :: t98 :: t99 :: t100 :: t101 :: t102 :: t103 :: t104 :: t105 :: t106 :: t107 :: t108 :: t109 :: t110 :: t111 :: t112 :: t113 :: t114 :: t115 :: t116 :: t117 :: t118 :: t119 :: t120 :: t121 :: t122 :: t123 :: t124 :: t125 :: t126 :: t127 :: t128 :: t129 :: t130 :: t131 :: t132 :: t133 :: t134 :: t135 :: t136 :: t137 :: t138 :: t139 :: t140 :: t141 :: t142 :: t143 :: t144 :: t145 :: t146 :: t147 :: t148 :: t149 :: t150 :: t151 :: t152 :: t153 :: t154 :: t155 :: t156 :: t157 :: [])) w := by
  subst e0 e7 e9 e10 e11 e14 e17
  have hXl := hr.lenL
  refine leatlaw05_JournalFresh_L2_r (Inv := fun i wr => ∃ (k : Nat) (F2 : List Nat), i = .int .i64 (k : Nat) ∧ n0 ≤ k ∧ k ≤ n ∧ TJ W.heap.size wr Bd Bc Fd F2 pd pc qd qc ⟨⟨(framesB (X.drop n0), []), [], false, -1⟩, ((framesB (X.drop n0)).length : Nat), false⟩
      ⟨⟨(framesB ((X.take k).drop n0), []), [], false, -1⟩, ((framesB ((X.take k).drop n0)).length : Nat), false⟩ ∧ KRow W.heap.size W.heap.size wr av n cv vs X ∧ Below W.heap.size W wr)
    (μ := fun i _ => n - (intOf i).toNat) ⟨n0, Fc, rfl, Nat.le_refl _, hn0, ?_, hr, hW⟩ ?_
  · rw [List.drop_of_length_le (l := X.take n0) (by simp; omega)]; exact ht
  rintro _ _ w1 m ⟨k, F2, rfl, hk0, hkn, t1, r1, W1⟩ hm
  refine len26 ?_
  refine bin_lss ?_
  by_cases hlt : k < n
  rotate_left
  · refine cond_f (by omega) ?_
    have ek : (X.take k).drop n0 = X.drop n0 := by rw [List.take_of_length_le (by omega)]
    rw [ek] at t1
    exact fresh_P2 t1 hX r1 hn hn0 W1 rfl rfl rfl rfl rfl rfl h
  refine cond_t (by omega) ?_
  refine idx36 r1.rbb (by omega) (by omega) ?_
  intro v l hv hl hc3 hr3
  rw [Int.toNat_natCast] at hv hl hc3 ⊢
  refine ldSl hc3 ?_
  refine bld36 (v := v) ?_
  intro w2 b2 rv2 s2
  have t2 := t1.below b2
  have r2 := r1.below b2
  have W2 := W1.trans (b2.mono W1.size)
  have hll : l.length ≤ 200 := hX l (List.mem_of_getElem? hl)
  have rbb : RBB w2 (some ⟨w1.heap.size, 0, none⟩) 1 1 [v] [l] := rbb1 rv2 (RB.below hr3 b2 (Nat.le_refl _))
  have okl : okR [l] := by intro s hs; simp at hs; subst hs; omega
  have hdl : ((X.take k).drop n0).length ≤ 60 := by simp; omega
  have hfl := framesB_len ((X.take k).drop n0)
  have hvl := vast_le (L := (X.take k).drop n0) (M := 200) (fun s hs => hX s (List.mem_of_mem_take (List.mem_of_mem_drop hs)))
  have hf1 := framesB_len [l]
  have hv1 := vast_le (L := [l]) (M := 200) (fun s hs => by simp at hs; subst hs; exact hll)
  have hl1 : ([l] : List (List UInt8)).length = 1 := rfl
  rw [hl1] at hf1 hv1
  have hm1 : 200 * ((X.take k).drop n0).length ≤ 200 * 60 := Nat.mul_le_mul_left _ hdl
  refine add_jk t2.c rbb (by omega) (by omega) (by simp) ⟨by dsimp only; omega, by dsimp only; omega⟩ ?_
  rw [jadd_all okl (by omega)]
  intro w3 F3 hj3 hF3 k3
  have e3 : framesB ((X.take k).drop n0) ++ framesB [l] = framesB ((X.take (k + 1)).drop n0) := by
    rw [← framesB_app, List.take_add_one, hl]
    simp only [Option.toList_some]
    rw [List.drop_append_of_le_length (by simp; omega)]
  have e3l : ((framesB ((X.take k).drop n0)).length : Int) + ((framesB [l]).length : Int) = ((framesB ((X.take (k + 1)).drop n0)).length : Nat) := by
    rw [← e3, List.length_append]; omega
  rw [e3, e3l] at hj3
  have t3 := t2.stepC hj3 hF3 k3
  have r3 := r2.keep (kg_keep k3) t1.bc (by decide) (by decide)
  have W3 := kg_below k3 W2 t1.bc (t2.bdw).2
  refine bin_neq ?_
  refine cond_f (fun hh => hh rfl) ?_
  refine add64 (by omega) (by omega) ?_
  exact ⟨⟨k + 1, F3, (show Value.int .i64 ((k : Int) + 1) = _ by simp), by omega, by omega, t3, r3, W3⟩, by rw [hm]; show n - (intOf (.int .i64 ((k : Int) + 1))).toNat < _; simp only [intOf]; omega⟩

set_option maxHeartbeats 4000000 in
theorem fresh_P1 {old0 fresh1 more2 old3 fresh4 more5 t6 all7 i8 d9 c10 j11 t12 e13 k_14 t15 f16 i17 t18 x19 g20 t21 y22 h23 t24 t25 t26 t27 t28 t29 t30 t31 t32 t33 t34 t35 t36 t37 t38 t39 t40 t41 t42 t43 t44 t45 t46 t47 t48 t49 t50 t51 t52 t53 t54 t55 t56 t57 t58 t59 t60 t61 t62 t63 t64 t65 t66 t67 t68 t69 t70 t71 t72 t73 t74 t75 t76 t77 t78 t79 t80 t81 t82 t83 t84 t85 t86 t87 t88 t89 t90 t91 t92 t93 t94 t95 t96 t97 t98 t99 t100 t101 t102 t103 t104 t105 t106 t107 t108 t109 t110 t111 t112 t113 t114 t115 t116 t117 t118 t119 t120 t121 t122 t123 t124 t125 t126 t127 t128 t129 t130 t131 t132 t133 t134 t135 t136 t137 t138 t139 t140 t141 t142 t143 t144 t145 t146 t147 t148 t149 t150 t151 t152 t153 t154 t155 t156 t157 : Value} {W : World} {av a0 a1 a2 : Option Addr} {cv n0 n1 n2 c0 c1 c2 : Nat} {vs vs0 vs1 vs2 : List (Option Addr × Nat × Nat)} {L0 L1 L2 : List (List UInt8)} (r0 : RBB W a0 n0 c0 vs0 L0) (r1 : RBB W a1 n1 c1 vs1 L1) (r2 : RBB W a2 n2 c2 vs2 L2)
    (hX : ∀ s ∈ L0 ++ L1 ++ L2, s.length ≤ 200) (hr : KRow W.heap.size W.heap.size w av (n0 + n1 + n2) cv vs (L0 ++ L1 ++ L2)) (hn : n0 + n1 + n2 ≤ 60) (hW : Below W.heap.size W w)
    (e0 : old0 = .slice a0 n0 c0) (e1 : fresh1 = .slice a1 n1 c1) (e2 : more2 = .slice a2 n2 c2) (e7 : all7 = .slice av (n0 + n1 + n2) cv) (h : ∀ w', Below W.heap.size W w' → K (.bool true) w') :
    leatlaw05_JournalFresh_P1 K ((old0 :: fresh1 :: more2 :: old3 :: fresh4 :: more5 :: t6 :: all7 :: i8 :: d9 :: c10 :: j11 :: t12 :: e13 :: k_14 :: t15 :: f16 :: i17 :: t18 :: x19 :: g20 :: t21 :: y22 :: h23 :: t24 :: t25 :: t26 :: t27 :: t28 :: t29 :: t30 :: t31 :: t32 :: t33 :: t34 :: t35 :: t36 :: t37 :: t38 :: t39 :: t40 :: t41 :: t42 :: t43 :: t44 :: t45 :: t46 :: t47 :: t48 :: t49 :: t50 :: t51 :: t52 :: t53 :: t54 :: t55 :: t56 :: t57 :: t58 :: t59 :: t60 :: t61 :: t62 :: t63 :: t64 :: t65 :: t66 :: t67 :: t68 :: t69 :: t70 :: t71 :: t72 :: t73 :: t74 :: t75 :: t76 :: t77 :: t78 :: t79 :: t80 :: t81 :: t82 :: t83 :: t84 :: t85 :: t86 :: t87 :: t88 :: t89 :: t90 :: t91 :: t92 :: t93 :: t94 :: t95 :: t96 :: t97 :: t98 :: t99 :: t100 :: t101 :: t102 :: t103 :: t104 :: t105 :: t106 :: t107 :: t108 :: t109 :: t110 :: t111 :: t112 :: t113 :: t114 :: t115 :: t116 :: t117 :: t118 :: t119 :: t120 :: t121 :: t122 :: t123 :: t124 :: t125 :: t126 :: t127 :: t128 :: t129 :: t130 :: t131 :: t132 :: t133 :: t134 :: t135 :: t136 :: t137 :: t138 :: t139 :: t140 :: t141 :: t142 :: t143 :: t144 :: t145 :: t146 :: t147 :: t148 :: t149 :: t150 :: t151 :: t152 :: t153 :: t154 :: t155 :: t156 :: t157 :: [])) w := by
  subst e0 e1 e2 e7
  have hl0 := r0.lenL
  have hl1 := r1.lenL
  have hl2 := r2.lenL
  have x0 : ∀ s ∈ L0, s.length ≤ 200 := fun s hs => hX s (by simp [hs])
  have x1 : ∀ s ∈ L1, s.length ≤ 200 := fun s hs => hX s (by simp [hs])
  have x2 : ∀ s ∈ L2, s.length ≤ 200 := fun s hs => hX s (by simp [hs])
  have f0 := framesB_len L0
  have f1 := framesB_len L1
  have f2 := framesB_len L2
  have v0 := vast_le x0
  have v1 := vast_le x1
  have v2 := vast_le x2
  have ok0 : okR L0 := fun s hs => by have := x0 s hs; omega
  have ok1' : okR L1 := fun s hs => by have := x1 s hs; omega
  have ok2 : okR L2 := fun s hs => by have := x2 s hs; omega
  refine leatlaw05_JournalFresh_P1_r ?_
  refine new_kd ?_
  intro w1 Fd pd kd1 b1 hFd
  have s1 := b1.size
  refine new_kd ?_
  intro w2 Fc pc kc2 b2 hFc
  have s2 := b2.size
  have kd2 := kd1.below b2
  have dis2 : ∀ k ∈ Fd, k ∉ Fc := fun k hk hk2 => by have := kd1.lt k hk; have := hFc k hk2; omega
  have W2 : Below W.heap.size W w2 := (hW.trans (b1.mono hW.size)).trans (b2.mono (Nat.le_trans hW.size s1))
  have hr2 := (hr.below b1).below b2
  have hBd : W.heap.size ≤ w.heap.size := hW.size
  have hBc : W.heap.size ≤ w1.heap.size := Nat.le_trans hW.size s1
  refine open_jk kd2 (by simp) (by rw [open_zero]) ?_
  intro w3 F3 qd a3 n3 c3 vs3 hj3 hF3 k3 _
  rw [open_zero] at hj3
  have kc3 := kc2.other k3 (dis_symm dis2) (by decide) (by decide)
  have dis3 := dis_step dis2 kc2.lt hF3
  have hr3 := hr2.keep (kg_keep k3) hBd (by decide) (by decide)
  have W3 := kg_below k3 W2 hBd (by have := kd2.base; omega)
  refine ext_of rfl ?_
  refine ext_of rfl ?_
  refine ext_of rfl ?_
  refine open_jk kc3 (by simp) (by rw [open_zero]) ?_
  intro w4 F4 qc a4 n4 c4 vs4 hj4 hF4 k4 _
  rw [open_zero] at hj4
  have hj34 := hj3.other k4 dis3 (by decide) (by decide)
  have dis4 := dis_symm (dis_step (dis_symm dis3) hj3.kd.lt hF4)
  have hr4 := hr3.keep (kg_keep k4) hBc (by decide) (by decide)
  have W4 := kg_below k4 W3 hBc (by have := kc3.base; omega)
  have t4 : TJ W.heap.size w4 w.heap.size w1.heap.size F3 F4 pd pc qd qc ⟨⟨([], []), [], false, -1⟩, 0, false⟩ ⟨⟨([], []), [], false, -1⟩, 0, false⟩ := ⟨hj34, hj4, dis4, hBd, hBc⟩
  refine ext_of rfl ?_
  refine ext_of rfl ?_
  refine ext_of rfl ?_
  (repeat (first | refine eqJ_nil ?_ | refine bin_neq ?_ | refine pick_F ?_ | refine cond_F ?_ | refine gsel_Fn ?_))
  refine add_jk t4.d (r0.below W4 (Nat.le_refl _)) (by omega) (by omega) (by simp) ⟨by simp, by simp⟩ ?_
  rw [jadd_all ok0 (by simp; omega)]
  intro w5 F5 hj5 hF5 k5
  have t5 := t4.stepD hj5 hF5 k5
  have hr5 := hr4.keep (kg_keep k5) hBd (by decide) (by decide)
  have W5 := kg_below k5 W4 hBd t4.bdw.1
  refine bin_neq ?_
  refine gsel_nf (fun hh => hh rfl) ?_
  refine compact_jk t5.d (r1.below W5 (Nat.le_refl _)) (by omega) (by omega) (by simp) ?_
  rw [jcomp_go ok1' (by simp; omega), if_neg (by decide), if_neg (by decide)]
  intro w6 F6 hj6 hF6 k6
  have t6 := t5.stepD hj6 hF6 k6
  have hr6 := hr5.keep (kg_keep k6) hBd (by decide) (by decide)
  have W6 := kg_below k6 W5 hBd t5.bdw.1
  have t6 : TJ W.heap.size w6 w.heap.size w1.heap.size F6 F4 pd pc qd qc ⟨⟨(framesB L1, []), [], false, -1⟩, ((framesB L1).length : Nat), false⟩ ⟨⟨([], []), [], false, -1⟩, 0, false⟩ := t6
  refine bin_neq ?_
  refine pick_f (fun hh => hh rfl) ?_
  refine gsel_nf (fun hh => hh rfl) ?_
  refine add_jk t6.d (r2.below W6 (Nat.le_refl _)) (by omega) (by omega) (by simp) ⟨by dsimp only; omega, by dsimp only; omega⟩ ?_
  rw [jadd_all ok2 (by omega)]
  intro w7 F7 hj7 hF7 k7
  have t7 := t6.stepD hj7 hF7 k7
  have hr7 := hr6.keep (kg_keep k7) hBd (by decide) (by decide)
  have W7 := kg_below k7 W6 hBd t6.bdw.1
  have eX : (L0 ++ L1 ++ L2).drop n0 = L1 ++ L2 := by rw [List.append_assoc, ← hl0, List.drop_left]
  have e7 : framesB L1 ++ framesB L2 = framesB ((L0 ++ L1 ++ L2).drop n0) := by rw [eX, framesB_app]
  have e7l : ((framesB L1).length : Int) + ((framesB L2).length : Int) = ((framesB ((L0 ++ L1 ++ L2).drop n0)).length : Nat) := by rw [← e7, List.length_append]; omega
  rw [e7, e7l] at t7
  refine bin_neq ?_
  refine pick_f (fun hh => hh rfl) ?_
  refine cond_f (fun hh => hh rfl) ?_
  refine len26 ?_
  exact fresh_L2 t7 hX hr7 hn (by omega) W7 rfl rfl rfl rfl rfl rfl rfl h

set_option maxHeartbeats 4000000 in
theorem fresh_law {W : World} {a0 a1 a2 : Option Addr} {n0 n1 n2 c0 c1 c2 : Nat} {vs0 vs1 vs2 : List (Option Addr × Nat × Nat)} {L0 L1 L2 : List (List UInt8)} (r0 : RBB W a0 n0 c0 vs0 L0) (r1 : RBB W a1 n1 c1 vs1 L1) (r2 : RBB W a2 n2 c2 vs2 L2)
    (h0 : n0 ≤ 1048576) (h1 : n1 ≤ 1048576) (h2 : n2 ≤ 1048576) (h : ∀ w', Below W.heap.size W w' → K (.bool true) w') : call Try.prog 7 #[.slice a0 n0 c0, .slice a1 n1 c1, .slice a2 n2 c2] K W := by
  refine call_of leatlaw05_JournalFresh_go (leatlaw05_JournalFresh_in ?_)
  refine len26 ?_
  refine len26 ?_
  refine add64 (by omega) (by omega) ?_
  refine len26 ?_
  refine add64 (by omega) (by omega) ?_
  refine bin_gtr ?_
  by_cases h60 : 60 < n0 + n1 + n2
  · refine cond_t (by omega) ?_
    exact works5_c h
  refine cond_f (by omega) ?_
  have arg : ∀ {w : World} {a : Option Addr} {n c : Nat} {vs : List (Option Addr × Nat × Nat)} {L : List (List UInt8)}, RBB W a n c vs L → Below W.heap.size W w → ∀ (i : Nat) (v : Option Addr × Nat × Nat) (l : List UInt8), vs[i]? = some v → L[i]? = some l → SR W.heap.size w v l :=
    fun hr hb i v l hv hl => SR.of_arg (hr.each i v l hv hl) hb
  refine emptyK W.heap.size W.heap.size (Nat.le_refl _) ?_
  intro a3 w3 k3 b3
  refine appK k3 (r0.below b3 (Nat.le_refl _)).row r0.len (arg r0 b3) (by omega) b3.size (Nat.le_refl _) ?_
  intro a4 c4 w4 k4 q4
  have W4 : Below W.heap.size W w4 := b3.trans (q4.below b3.size)
  refine appK k4 (r1.below W4 (Nat.le_refl _)).row r1.len (arg r1 W4) (by omega) W4.size (Nat.le_refl _) ?_
  intro a5 c5 w5 k5 q5
  have W5 : Below W.heap.size W w5 := W4.trans (q5.below W4.size)
  refine appK k5 (r2.below W5 (Nat.le_refl _)).row r2.len (arg r2 W5) (by omega) W5.size (Nat.le_refl _) ?_
  intro a6 c6 w6 k6 q6
  have W6 : Below W.heap.size W w6 := W5.trans (q6.below W5.size)
  rw [show 0 + n0 + n1 + n2 = n0 + n1 + n2 by omega] at k6 ⊢
  have k6 : KRow W.heap.size W.heap.size w6 a6 (n0 + n1 + n2) c6 (vs0 ++ vs1 ++ vs2) (L0 ++ L1 ++ L2) := by simpa using k6
  have hXl := k6.lenL
  refine leatlaw05_JournalFresh_L1_r (Inv := fun i wr => ∃ k : Nat, i = .int .i64 (k : Nat) ∧ k ≤ n0 + n1 + n2 ∧ wr = w6 ∧ ∀ j l, j < k → (L0 ++ L1 ++ L2)[j]? = some l → l.length ≤ 200) (μ := fun i _ => n0 + n1 + n2 - (intOf i).toNat) ⟨0, rfl, by omega, rfl, fun j l h => by omega⟩ ?_
  rintro _ _ w7 m ⟨k, rfl, hk, rfl, hj⟩ hm
  refine len26 ?_
  refine bin_lss ?_
  by_cases hlt : k < n0 + n1 + n2
  rotate_left
  · refine cond_f (by omega) ?_
    refine fresh_P1 r0 r1 r2 (fun s hs => ?_) k6 (by omega) W6 rfl rfl rfl rfl h
    obtain ⟨j, hjl, he⟩ := List.getElem_of_mem hs
    exact hj j s (by omega) (by rw [List.getElem?_eq_getElem hjl, he])
  refine cond_t (by omega) ?_
  refine idx36 k6.rbb (by omega) (by omega) ?_
  intro v l hv hl hc3 hr3
  rw [Int.toNat_natCast] at hv hl hc3 ⊢
  refine ldSl hc3 ?_
  have hvl := hr3.len
  refine len8 ?_
  refine bin_gtr ?_
  by_cases hbig : 200 < l.length
  · refine cond_t (by omega) ?_
    exact works5_c fun w8 b8 => h w8 (W6.trans (b8.mono W6.size))
  refine cond_f (by omega) ?_
  refine add64 (by omega) (by omega) ?_
  refine ⟨⟨k + 1, (show Value.int .i64 ((k : Int) + 1) = _ by simp), by omega, rfl, fun j l2 h3 h4 => ?_⟩, by rw [hm]; show n0 + n1 + n2 - (intOf (.int .i64 ((k : Int) + 1))).toNat < _; simp only [intOf]; omega⟩
  by_cases e : j = k
  · subst e; rw [hl] at h4; simp only [Option.some.injEq] at h4; rw [← h4]; omega
  · exact hj j l2 (by omega) h4
end
set_option maxRecDepth 100000 in
theorem journalFresh_contract (H : Type) (enc : TypeId × Value → H) (W : World) (base : Nat) (args : Array Value) (ds gs : List (DataW H)) (before : List MemPlace)
    (hval0 : ∀ (j : Nat) t v, Try.f7.params[j]? = some t → args[j]? = some v → Value.okWide Try.prog W .any base t v)
    (hW : DataW.Whole enc Try.prog Try.f7.params.toList Rows.journalFreshSpec.vars false W args.toList ds gs before) (hk : Rows.uptoSmall H (ds ++ gs) = true) :
    Calls Try.prog 7 args W fun e W' => ∃ v, e = .returned v ∧ Rows.journalFreshSpec.post enc Try.prog Try.f7 false true false false W args v W' := by
  have hval := hval0
  have hW' := hW
  obtain ⟨p, q, hA0, hV, rfl, hfz, hnd⟩ := hW
  have hA : DataW.TrodAll enc Try.prog W 0 (fun _ => true) true Try.f7.params.toList args.toList ds p := hA0
  rw [Try.params7] at hA hval
  obtain ⟨v0, vs0, d0, ds0, p0, q0, hargs, rfl, rfl, h0, r0⟩ := trodAll_cons hA
  obtain ⟨v1, vs1, d1, ds1, p1, q1, rfl, rfl, rfl, h1, r1⟩ := trodAll_cons r0
  obtain ⟨v2, vs2, d2, ds2, p2, q2, rfl, rfl, rfl, h2, r2⟩ := trodAll_cons r1
  obtain ⟨rfl, rfl, rfl⟩ := trodAll_nil r2
  obtain rfl : args = #[v0, v1, v2] := by cases args; simp_all
  obtain ⟨rfl, rfl⟩ := trodVars_none hV
  obtain ⟨a0, n0, c0, rfl⟩ := okWide_slice Try.underlying50 (hval 0 50 v0 rfl rfl)
  have k0 := h0
  have lt0 : ∀ x ∈ p0, x.block < W.heap.size := by obtain ⟨m, hm⟩ := k0; exact DataW.trod_lt m _ _ _ hm
  obtain ⟨⟨vs_0, L0, rb0, hbk0⟩, hle0, hmx0⟩ : (∃ vs L, RBB W a0 n0 c0 vs L ∧ n0 + vast L + 1 ≤ Rows.uptoBulk d0) ∧ n0 ≤ c0 ∧ c0 ≤ 9223372036854775807 := by
    obtain ⟨fuel, hf⟩ := h0
    exact rbb_of_trodU (by rfl) hf
  obtain ⟨a1, n1, c1, rfl⟩ := okWide_slice Try.underlying50 (hval 1 50 v1 rfl rfl)
  have k1 := h1
  have lt1 : ∀ x ∈ p1, x.block < W.heap.size := by obtain ⟨m, hm⟩ := k1; exact DataW.trod_lt m _ _ _ hm
  obtain ⟨⟨vs_1, L1, rb1, hbk1⟩, hle1, hmx1⟩ : (∃ vs L, RBB W a1 n1 c1 vs L ∧ n1 + vast L + 1 ≤ Rows.uptoBulk d1) ∧ n1 ≤ c1 ∧ c1 ≤ 9223372036854775807 := by
    obtain ⟨fuel, hf⟩ := h1
    exact rbb_of_trodU (by rfl) hf
  obtain ⟨a2, n2, c2, rfl⟩ := okWide_slice Try.underlying50 (hval 2 50 v2 rfl rfl)
  have k2 := h2
  have lt2 : ∀ x ∈ p2, x.block < W.heap.size := by obtain ⟨m, hm⟩ := k2; exact DataW.trod_lt m _ _ _ hm
  obtain ⟨⟨vs_2, L2, rb2, hbk2⟩, hle2, hmx2⟩ : (∃ vs L, RBB W a2 n2 c2 vs L ∧ n2 + vast L + 1 ≤ Rows.uptoBulk d2) ∧ n2 ≤ c2 ∧ c2 ≤ 9223372036854775807 := by
    obtain ⟨fuel, hf⟩ := h2
    exact rbb_of_trodU (by rfl) hf
  have hsm : Rows.uptoBulkAll ([d0, d1, d2] ++ []) ≤ 1048576 := of_decide_eq_true hk
  simp only [List.append_nil, List.nil_append, List.cons_append, Rows.uptoBulkAll] at hsm
  clear hA0 hval0 hval
  have hcalls : Calls Try.prog 7 #[.slice a0 n0 c0, .slice a1 n1 c1, .slice a2 n2 c2] W fun e w' => e = .returned (.bool true) ∧ Below W.heap.size W w' := by
    exact calls_of (fresh_law rb0 rb1 rb2 (by omega) (by omega) (by omega) (fun w' hb' => ⟨rfl, hb'⟩))
  refine hcalls.mono fun e W' ⟨he, bel⟩ => ?_
  subst he
  exact ⟨_, rfl, _, _, _, [], _, [], hW', trodAll_mk1 (shut_bool Try.underlying4 _), (trodAll_cons_mk (Below.trod frame_laid (by kernel_rfl) (of_decide_eq_true (by kernel_rfl)) k0 bel lt0) (trodAll_cons_mk (Below.trod frame_laid (by kernel_rfl) (of_decide_eq_true (by kernel_rfl)) k1 bel lt1) (trodAll_cons_mk (Below.trod frame_laid (by kernel_rfl) (of_decide_eq_true (by kernel_rfl)) k2 bel lt2) trodAll_mk0))), rfl, bel.frame _, fun h => by cases h⟩

set_option maxRecDepth 100000 in
theorem journalFresh_lifted (os : Os) (started : os.Started) (H : Type) (enc : TypeId × Value → H) (F : Stop.Interp) :
    ReturnsInHanded {} Try.checked os 7 .any ((Rows.OpenSpec.upto Rows.journalFreshSpec).pre6 enc Try.prog Try.f7 Rows.journalFreshUptoRow.domain false) (((Rows.OpenSpec.upto Rows.journalFreshSpec).at F).post enc Try.prog Try.f7 false true false false) := by
  refine returnsInHanded_of_cond (C := Try.checked) (s := Rows.OpenSpec.upto Rows.journalFreshSpec) (k := Rows.uptoSmall) rfl frame_own started (by kernel_rfl) Try.func7
    (OpenSpec.witness (enc := enc) (C := Try.checked) (s := Rows.OpenSpec.upto Rows.journalFreshSpec) (k := Rows.uptoSmall) rfl false ⟨#[], #[.slice none 0 0, .slice none 0 0, .slice none 0 0], []⟩ 8 (by kernel_rfl) (by kernel_rfl) (by kernel_rfl)
      (x := ([.nil, .nil, .nil], [], [])) (by kernel_rfl) rfl (by kernel_rfl)) ?_
  intro W base args ds gs before hval hW _ hk _
  exact journalFresh_contract H enc W base args ds gs before hval hW hk

theorem journalFresh_proved : Rows.JournalFreshUptoSaid :=
  OpenClaim.holds_of_cond 7 Try.f7 rfl rfl rfl rfl rfl rfl rfl ⟨rfl, rfl, rfl, rfl, rfl⟩ rfl rfl rfl rfl rfl (by kernel_rfl) Try.func7 (by kernel_rfl)
    (of_decide_eq_true (by kernel_rfl)) (by unfold Func.isWrapper; first | (rw [if_pos (by decide +kernel)]; kernel_rfl) | (rw [if_neg (by decide +kernel)]; exact ⟨rfl, rfl⟩))
    (fun os started H enc _ F => journalFresh_lifted os started H enc F)

end Go.Proofs.Ytjkmblbonambjaa
