/- The anchor of layer 5, and rules that its laws need. -/
import Derived.Test.YtjkmblbonambjaaSJWorks
import Derived.Test.YtjkmblbonambjaaJPlain
import Derived.Test.YtjkmblbonambjaaRef2
namespace Go.Proofs.Ytjkmblbonambjaa
set_option maxRecDepth 100000
open Go.RowKit
attribute [local irreducible] bin un conv call callV blt slc fldA fld idxA idx lkp mUpd mEnt eSt rng nxt ent ext alc box bld bldS ld sto nilC mkMap mkS ifc pick rdy wts gsel sti cond retM Gives cCode cGrp cSeq cOp

theorem eqJ_nil {w : World} {K : KV} {cx cy : Bool} {b : Nat} (h : K (.bool false) w) : bin Try.prog .eql 49 cx cy (ptr b) (.pointer none) K w :=
  bin_of (by unfold eqG eqGuard; rfl) (by kernel_rfl) h
theorem eqJ_none {w : World} {K : KV} {cx cy : Bool} (h : K (.bool true) w) : bin Try.prog .eql 49 cx cy (.pointer none) (.pointer none) K w :=
  bin_of (by unfold eqG eqGuard; rfl) (by kernel_rfl) h

theorem rbb1 {w : World} {b : Nat} {v : Option Addr × Nat × Nat} {l : List UInt8} (hr : RV w (some ⟨b, 0, none⟩) 1 1 [slv v]) (hl : RB w v.1 v.2.1 v.2.2 l) : RBB w (some ⟨b, 0, none⟩) 1 1 [v] [l] :=
  ⟨hr, rfl, fun i v' l' hv hl' => by
    cases i with
    | zero => simp at hv hl'; subst hv hl'; exact hl
    | succ i => simp at hv⟩
/-- A record from a constant. -/
theorem row1c {w : World} {K2 : Value → Value → KV} {u : Value} (c : UInt8) (hu : u = u8v c) (h : ∀ v t a vs w', RBB w' a 1 1 vs [[c]] → Below w.heap.size w w' → K2 v t (.slice a 1 1) w') :
    bldS Try.prog 29 1 #[(0, u)] (fun v w => conv Try.prog 29 29 v (fun t w => bldS Try.prog 50 1 #[(0, t)] (K2 v t) w) w) w := by
  subst hu
  refine const8 (K2 := fun v t w => bldS Try.prog 50 1 #[(0, t)] (K2 v t) w) [c] rfl rfl (by simp) (by simp) ?_
  intro a1 w1 r1 b1
  refine bld36 (v := (a1, 1, 1)) ?_
  intro w2 b2 r2 _
  exact h _ _ _ _ w2 (rbb1 r2 (r1.below b2 (Nat.le_refl _))) (b1.trans (b2.mono b1.size))
theorem row1 {w : World} {K2 : Value → KV} {u : Value} (c : UInt8) (hu : u = u8v c) (h : ∀ t a vs w', RBB w' a 1 1 vs [[c]] → Below w.heap.size w w' → K2 t (.slice a 1 1) w') :
    bldS Try.prog 29 1 #[(0, u)] (fun t w => bldS Try.prog 50 1 #[(0, t)] (K2 t) w) w := by
  refine bld8 (c := c) hu ?_
  intro w1 b1 r1 _
  refine bld36 (v := (some ⟨w.heap.size, 0, none⟩, 1, 1)) ?_
  intro w2 b2 r2 _
  exact h _ _ _ w2 (rbb1 r2 (r1.below b2 (Nat.le_refl _))) (b1.trans (b2.mono b1.size))
theorem rbb2 {w : World} {a : Option Addr} {v1 v2 : Option Addr × Nat × Nat} {l1 l2 : List UInt8} (hr : RV w a 2 2 [slv v1, slv v2]) (h1 : RB w v1.1 v1.2.1 v1.2.2 l1) (h2 : RB w v2.1 v2.2.1 v2.2.2 l2) : RBB w a 2 2 [v1, v2] [l1, l2] :=
  ⟨hr, rfl, fun i v' l' hv hl' => by
    match i with
    | 0 => simp at hv hl'; subst hv hl'; exact h1
    | 1 => simp at hv hl'; subst hv hl'; exact h2
    | i + 2 => simp at hv⟩
theorem row2c {w : World} {K2 : Value → Value → Value → Value → KV} {u u2 : Value} (c d : UInt8) (hu : u = u8v c) (hu2 : u2 = u8v d) (h : ∀ v t v2 t2 a vs w', RBB w' a 2 2 vs [[c], [d]] → Below w.heap.size w w' → K2 v t v2 t2 (.slice a 2 2) w') :
    bldS Try.prog 29 1 #[(0, u)] (fun v w => conv Try.prog 29 29 v (fun t w => bldS Try.prog 29 1 #[(0, u2)] (fun v2 w => conv Try.prog 29 29 v2 (fun t2 w => bldS Try.prog 50 2 #[(0, t), (1, t2)] (K2 v t v2 t2) w) w) w) w) w := by
  subst hu hu2
  refine const8 (K2 := fun v t w => bldS Try.prog 29 1 #[(0, u8v d)] (fun v2 w => conv Try.prog 29 29 v2 (fun t2 w => bldS Try.prog 50 2 #[(0, t), (1, t2)] (K2 v t v2 t2) w) w) w) [c] rfl rfl (by simp) (by simp) ?_
  intro a1 w1 r1 b1
  refine const8 (K2 := fun v2 t2 w => bldS Try.prog 50 2 #[(0, .slice a1 1 1), (1, t2)] (K2 _ _ v2 t2) w) [d] rfl rfl (by simp) (by simp) ?_
  intro a2 w2 r2 b2
  refine bld36n [(a1, 1, 1), (a2, 1, 1)] rfl rfl (by simp) (by simp) ?_
  intro a3 w3 o3 b3
  have S1 := b1.size
  have S2 := b2.size
  exact h _ _ _ _ _ _ w3 (rbb2 o3.rv ((r1.below b2 (Nat.le_refl _)).below b3 (Nat.le_refl _)) (r2.below b3 (Nat.le_refl _))) ((b1.trans (b2.mono S1)).trans (b3.mono (by omega)))
theorem row2 {w : World} {K2 : Value → Value → KV} {u u2 : Value} (c d : UInt8) (hu : u = u8v c) (hu2 : u2 = u8v d) (h : ∀ t t2 a vs w', RBB w' a 2 2 vs [[c], [d]] → Below w.heap.size w w' → K2 t t2 (.slice a 2 2) w') :
    bldS Try.prog 29 1 #[(0, u)] (fun t w => bldS Try.prog 29 1 #[(0, u2)] (fun t2 w => bldS Try.prog 50 2 #[(0, t), (1, t2)] (K2 t t2) w) w) w := by
  refine bld8 (c := c) hu ?_
  intro w1 b1 r1 _
  refine bld8 (c := d) hu2 ?_
  intro w2 b2 r2 _
  refine bld36n [(some ⟨w.heap.size, 0, none⟩, 1, 1), (some ⟨w1.heap.size, 0, none⟩, 1, 1)] rfl rfl (by simp) (by simp) ?_
  intro a3 w3 o3 b3
  have S1 := b1.size
  have S2 := b2.size
  exact h _ _ _ _ w3 (rbb2 o3.rv ((r1.below b2 (Nat.le_refl _)).below b3 (Nat.le_refl _)) (r2.below b3 (Nat.le_refl _))) ((b1.trans (b2.mono S1)).trans (b3.mono (by omega)))

theorem jadd_broken {J : JD} {L : List (List UInt8)} (hb : J.br = true) : jaddS J L = (J, 3) := by
  have e : jbytesS J.br L = ([], 3) := by unfold jbytesS; rw [hb]; rfl
  unfold jaddS
  rw [e, if_pos (.inl (by simp))]
theorem open_zero : jopenS ⟨([], []), [], false, -1⟩ = ⟨⟨([], []), [], false, -1⟩, 0, [], 0⟩ := by
  rw [open_clean (by kernel_rfl)]; kernel_rfl
theorem ok1 (c : UInt8) : okR [[c]] := by intro s hs; simp at hs; subst hs; simp

set_option maxHeartbeats 4000000 in
theorem works5_c {w : World} {K : KV} (h : ∀ w', Below w.heap.size w w' → K (.bool true) w') : call Try.prog 20 #[] K w := by
  refine call_of leatlaw05_works_go (leatlaw05_works_in ?_)
  refine new_c (fun _ _ hh => hh) ?_
  intro w1 p1 hd1 b1 hp1
  have K1 : Kg JT w.heap.size w w1 := Kg.of b1
  refine open_c hd1 (by simp) ?_ (fun hh => absurd (by rw [open_zero]) hh)
  intro _ w2 q1 a2 n2 c2 vs2 hd2 k2 L2 hj2 hq2
  rw [open_zero] at hd2 L2 hj2
  have h2 := obb_len L2
  have h2 : 0 = n2 := h2
  subst h2
  have K2 := K1.trans (k2.mono (by decide) (Nat.le_refl _))
  have S1 := b1.size
  (repeat (first | refine eqJ_nil ?_ | refine len26 ?_ | refine bin_neq ?_ | refine ext3_a ?_ | refine ext3_b ?_ | refine ext3_c ?_ | refine pick_F ?_ | refine cond_F ?_ | refine gsel_Fn ?_))
  refine row2c 97 98 rfl rfl ?_
  intro _ _ _ _ a3 vs3 w3 r3 b3
  have K3 := K2.trans (Kg.of b3)
  refine add_c (J := ⟨⟨([], []), [], false, -1⟩, 0, false⟩) (hd2.below b3) (hj2.below b3) r3 (by omega) (by decide) (by simp) ⟨by simp, by simp⟩ (by omega) (fun hh => hh) ?_
  rw [jadd_go (by intro s hs; simp at hs; rcases hs with rfl | rfl <;> simp) (by simp) (by decide +kernel), if_neg (by decide)]
  intro w4 hd4 hj4 k4
  have K4 := K3.trans k4
  refine leatlaw05_works_A1_r ?_
  refine open_c hd4 (by simp) ?_ (fun hh => absurd ?_ hh)
  rotate_left
  · rw [open_clean (by decide +kernel)]
  intro _ w5 q5 a5 n5 c5 vs5 hd5 k5 L5 hj5 hq5
  rw [open_clean (f0 := [] ++ framesB [[97], [98]]) (fu := dec (dec (-1))) (by decide +kernel)] at L5
  rw [show (allB ([] ++ framesB [[97], [98]])).1 = [[97], [98]] from by decide +kernel] at L5
  have K5 := K4.trans (k5.mono (by decide) (Nat.le_refl _))
  have S5 := K5.size
  (repeat (first | refine ext3_a ?_ | refine ext3_b ?_ | refine ext3_c ?_))
  refine new_c (fun _ _ hh => hh) ?_
  intro w6 p6 hd6 b6 hp6
  have S6 := b6.size
  have K6 := K5.trans (Kg.of b6)
  have N6 : Kg JT w5.heap.size w5 w6 := Kg.of b6
  refine open_c hd6 (by simp) ?_ (fun hh => absurd (by rw [open_zero]) hh)
  intro _ w7 q7 a7 n7 c7 vs7 hd7 k7 L7 hj7 hq7
  rw [open_zero] at hd7 L7 hj7
  have N7 := N6.trans (k7.mono (by decide) (Nat.le_refl _))
  (repeat (first | refine ext3_a ?_ | refine ext3_b ?_ | refine ext3_c ?_))
  refine row1c 97 rfl ?_
  intro _ _ a8 vs8 w8 r8 b8
  have N8 := N7.trans (Kg.of b8)
  refine add_c (J := ⟨⟨([], []), [], false, -1⟩, 0, false⟩) (hd7.below b8) (hj7.below b8) r8 (by omega) (by decide) (by simp) ⟨by simp, by simp⟩ (by omega) (fun hh => hh) ?_
  rw [jadd_go (ok1 97) (by simp) (by decide +kernel), if_neg (by decide)]
  intro w9 hd9 hj9 k9
  have N9 := N8.trans k9
  refine fuse_c hd9 (by decide) ?_
  intro w10 hd10 k10
  have hd10 : DK (fun _ => True) w10 w5.heap.size p6 ⟨(framesB [[97]], []), [], false, 1⟩ := hd10
  have hj10 : JR w10 p6 q7 (0 + (framesB [[97]]).length : Int) false := hj9.keep k10 (by decide)
  have N10 := N9.trans (k10.mono (T' := JT) (by decide) hd9.base)
  refine leatlaw05_works_A2_r ?_
  refine row1c 98 rfl ?_
  intro _ _ a11 vs11 w11 r11 b11
  have N11 := N10.trans (Kg.of b11)
  have S7 := N7.size
  have hB7 : w5.heap.size ≤ q7 := by have := N6.size; omega
  refine add_c (J := ⟨⟨(framesB [[97]], []), [], false, 1⟩, (0 + (framesB [[97]]).length : Int), false⟩) (hd10.below b11) (hj10.below b11) r11 (by omega) (by decide) (by simp) (by decide +kernel) hB7 (fun hh => hh) ?_
  rw [jadd_go (ok1 98) (by simp) (by decide +kernel), if_pos (by decide)]
  intro w12 hd12 hj12 k12
  have N12 := N11.trans k12
  refine jwhole_c hj12 ?_
  refine un_not ?_
  (repeat (first | refine gsel_T ?_))
  refine add_c (J := ⟨⟨(framesB [[97]], []), [.app false (framesB [[98]])], true, -1⟩, (0 + (framesB [[97]]).length : Int), true⟩) (L := []) hd12 hj12 (show RBB w12 none 0 0 [] [] from ⟨RV.nil _, rfl, fun i v l hv => by simp at hv⟩) (by omega) (by decide) (by simp) (by decide +kernel) hB7 (fun hh => hh) ?_
  rw [jadd_broken rfl]
  intro w13 hd13 hj13 k13
  have N13 := N12.trans k13
  (repeat (first | refine bin_eql ?_ | refine pick_T ?_))
  refine bldI [0, 8] rfl rfl (by simp) (by simp) ?_
  intro a14 w14 i14 b14
  have N14 := N13.trans (Kg.of b14)
  refine on_c (hd13.below b14) i14 (by simp) ?_
  rw [show onS ⟨(framesB [[97]], []), [.app false (framesB [[98]])], true, -1⟩ [0, 8] = (⟨(framesB [[97]] ++ (framesB [[98]]).take 8, []), [], false, -1⟩, 0) from by kernel_rfl]
  intro w15 hd15 k15
  have N15 := N14.trans (k15.mono (T' := JT) (by decide) (Nat.le_refl _))
  have e15 : jopenS ⟨(framesB [[97]] ++ (framesB [[98]]).take 8, []), [], false, -1⟩ = ⟨⟨(framesB [[97]], []), [], false, -1⟩, 0, [[97]], 9⟩ := by
    rw [open_on (by decide +kernel)]; kernel_rfl
  refine open_c hd15 (by simp) ?_ (fun hh => absurd (by rw [e15]) hh)
  intro _ w16 q16 a16 n16 c16 vs16 hd16 k16 L16 hj16 hq16
  rw [e15] at hd16 L16 hj16
  have N16 := N15.trans (k16.mono (T' := JT) (by decide) (Nat.le_refl _))
  have S15 := N15.size
  (repeat (first | refine eqJ_nil ?_ | refine leatlaw05_works_A3_r ?_ | refine bin_neq ?_ | refine ext3_a ?_ | refine ext3_b ?_ | refine ext3_c ?_ | refine pick_F ?_ | refine cond_F ?_ | refine gsel_Fn ?_))
  refine fuse_c hd16 (by decide) ?_
  intro w17 hd17 k17
  have hd17 : DK (fun _ => True) w17 w5.heap.size p6 ⟨(framesB [[97]], []), [], false, 3⟩ := hd17
  have hj17 : JR w17 p6 q16 9 false := hj16.keep k17 (by decide)
  have L17 := L16.keep k17.toKeep (by decide) (by decide)
  have N17 := N16.trans (k17.mono (T' := JT) (by decide) hd16.base)
  refine row1c 122 rfl ?_
  intro _ _ a18 vs18 w18 r18 b18
  have N18 := N17.trans (Kg.of b18)
  have L18 := L17.below b18 (Nat.le_refl _)
  refine compact_c (J := ⟨⟨(framesB [[97]], []), [], false, 3⟩, 9, false⟩) (hd17.below b18) (hj17.below b18) r18 (by omega) (by decide) (by simp) (by omega) (fun hh => hh) ?_
  rw [jcomp_go (ok1 122) (by decide +kernel), if_neg (by decide), if_pos (by decide)]
  intro w19 hd19 hj19 k19
  have N19 := N18.trans k19
  have L19 := L18.keep k19.toKeep (by decide) (by decide)
  refine bldI [1] rfl rfl (by simp) (by simp) ?_
  intro a20 w20 i20 b20
  have N20 := N19.trans (Kg.of b20)
  have L20 := L19.below b20 (Nat.le_refl _)
  refine on_c (hd19.below b20) i20 (by simp) ?_
  rw [show onS ⟨(framesB [[97]], framesB [[122]]), [.ren], true, -1⟩ [1] = (⟨(framesB [[122]], []), [], false, -1⟩, 0) from by kernel_rfl]
  intro w21 hd21 k21
  have N21 := N20.trans (k21.mono (T' := JT) (by decide) (Nat.le_refl _))
  have L21 := L20.keep k21.toKeep (by decide) (by decide)
  have e21 : jopenS ⟨(framesB [[122]], []), [], false, -1⟩ = ⟨⟨(framesB [[122]], []), [], false, -1⟩, 0, [[122]], 9⟩ := by
    rw [open_on (by decide +kernel)]; kernel_rfl
  refine open_c hd21 (by simp) ?_ (fun hh => absurd (by rw [e21]) hh)
  intro _ w22 q22 a22 n22 c22 vs22 hd22 k22 L22 hj22 hq22
  rw [e21] at L22
  have N22 := N21.trans (k22.mono (T' := JT) (by decide) (Nat.le_refl _))
  have M22 := L21.keep k22.toKeep (by decide) (by decide)
  have L5' := L5.keep N22.toKeep (by decide) (by decide)
  (repeat (first | refine leatlaw05_works_A4_r ?_ | refine bin_eql ?_ | refine ext3_a ?_ | refine ext3_b ?_ | refine ext3_c ?_ | refine gsel_T ?_))
  refine row2 97 98 rfl rfl ?_
  intro _ _ a23 vs23 w23 r23 b23
  refine same_c (L5'.below b23 (Nat.le_refl _)).rbb r23 (by have := obb_len L5; have : 2 = n5 := this; omega) ?_
  intro w24 b24
  have B24 : Below w22.heap.size w22 w24 := b23.trans (b24.mono b23.size)
  (repeat (first | refine gsel_pt rfl ?_ | refine pick_t rfl ?_ | refine bin_eql ?_))
  refine row1 97 rfl ?_
  intro _ a25 vs25 w25 r25 b25
  have B25 : Below w22.heap.size w22 w25 := B24.trans (b25.mono B24.size)
  refine same_c (M22.below B25 (Nat.le_refl _)).rbb r25 (by have := obb_len L16; have : 1 = n16 := this; omega) ?_
  intro w26 b26
  have B26 : Below w22.heap.size w22 w26 := B25.trans (b26.mono B25.size)
  (repeat (first | refine gsel_pt rfl ?_ | refine pick_t rfl ?_ | refine bin_eql ?_))
  refine row1 122 rfl ?_
  intro _ a27 vs27 w27 r27 b27
  have B27 : Below w22.heap.size w22 w27 := B26.trans (b27.mono B26.size)
  refine same_c (L22.below B27 (Nat.le_refl _)).rbb r27 (by have := obb_len L22; have : 1 = n22 := this; omega) ?_
  intro w28 b28
  (repeat (first | refine pick_t rfl ?_))
  have B28 : Below w22.heap.size w22 w28 := B27.trans (b28.mono B27.size)
  have F := K5.trans ((N22.trans (Kg.of B28)).mono (T' := JT) (fun _ h => h) S5)
  exact h w28 (F.below (Nat.le_refl _))
end Go.Proofs.Ytjkmblbonambjaa
