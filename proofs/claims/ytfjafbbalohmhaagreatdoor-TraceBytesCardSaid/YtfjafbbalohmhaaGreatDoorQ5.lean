/- Laid together: R29e SLTba LTba R29c R29d Store SLTby LTby. -/
import Derived.Test.YtfjafbbalohmhaaGreatDoorQ4
import Derived.Test.YtfjafbbalohmhaaGreatDoorSh
import Derived.Test.YtfjafbbalohmhaaGreatDoorChecked
import Derived.Test.YtfjafbbalohmhaaGreatDoorQ1
import Derived.Test.YtfjafbbalohmhaaGreatDoorQ3
import Derived.Test.YtfjafbbalohmhaaGreatDoorQ2
/- Are two steps the same (leatref29.Same)? -/
namespace Go.Proofs.YtfjafbbalohmhaaGreatDoor
set_option maxRecDepth 100000
open Go.RowKit
def askC (s : STP) : List Value := [.int .u8 s.kind, .int .u64 s.node, i6 s.to, i6 s.am, .int .u64 s.req, .int .u64 s.of_]
theorem stp_ext {s t : STP} (h1 : s.d = t.d) (h2 : s.who = t.who) (h3 : askC s = askC t) (h4 : s.k = t.k) (h5 : s.j = t.j) (h6 : s.n = t.n) (h7 : s.picks = t.picks) : s = t := by
  obtain ⟨a1, a2, a3, a4, a5, a6, a7, a8, a9, a10, a11, a12⟩ := s
  obtain ⟨b1, b2, b3, b4, b5, b6, b7, b8, b9, b10, b11, b12⟩ := t
  simp only [askC, i6, List.cons.injEq, Value.int.injEq, true_and, and_true] at h1 h2 h3 h4 h5 h6 h7
  obtain ⟨rfl, rfl, rfl, rfl, rfl, rfl⟩ := h3
  subst h1 h2 h4 h5 h6 h7
  rfl
attribute [local irreducible] bin un conv call callV blt slc fldA fld idxA idx lkp mUpd mEnt eSt rng nxt ent ext alc box bld bldS ld sto nilC mkMap mkS ifc pick rdy wts gsel sti cond retM Gives cCode cGrp cSeq cOp
section
variable {w : World} {K : KV}
set_option maxHeartbeats 4000000 in
theorem rsame29_c {s t : STP} {a a' : Option Addr} {c c' : Nat} (hr : RN w a s.picks.length c s.picks) (hr' : RN w a' t.picks.length c' t.picks) (hn : s.picks.length ≤ 4611686018427387904) (hn' : t.picks.length ≤ 4611686018427387904)
    (h : ∀ w' r, (r = true ↔ s = t) → Below w.heap.size w w' → K (.bool r) w') : call Tryz.prog 14 #[.agg (stC s (.slice a s.picks.length c)).toArray, .agg (stC t (.slice a' t.picks.length c')).toArray] K w := by
  refine call_of leatref29_Same_go (leatref29_Same_in ?_)
  refine box_of fun w1 hb b1 s1 => ?_
  have hb : blk w1 w.heap.size 27 (stC s (.slice a s.picks.length c)) := hb
  refine box_of fun w2 hb2 b2 s2 => ?_
  have hb2 : blk w2 w1.heap.size 27 (stC t (.slice a' t.picks.length c')) := hb2
  have hb1 := below_blk b2 hb hb.lt
  have b12 : Below w.heap.size w w2 := b1.trans (b2.mono (by omega))
  have hr2 := RV.below hr b12 (Nat.le_refl _)
  have hr2' := RV.below hr' b12 (Nat.le_refl _)
  generalize w1.heap.size = q2 at *
  generalize hq : w.heap.size = q1 at *
  clear b1 b2 s1 s2 hb hr hr'
  have no : ∀ w', Below q1 w w' → ¬ s = t → K (.bool false) w' := fun w' hb hs => h w' false (by simp [hs]) hb
  (repeat (first | refine fA_Stp_6 ?_ | (refine ld_TL_4 ?_ (by assumption) ?_ ?_; rotate_left; exact rfl) | refine lenN ?_ | refine bin_neq ?_))
  by_cases hl : s.picks.length = t.picks.length
  · refine cond_f (by omega) ?_
    refine leatref29_Same_L1_r (Inv := fun i wr => ∃ j : Nat, i = .int .i64 (j : Nat) ∧ j ≤ s.picks.length ∧ blk wr q1 27 (stC s (.slice a s.picks.length c)) ∧ blk wr q2 27 (stC t (.slice a' t.picks.length c')) ∧
        RN wr a s.picks.length c s.picks ∧ RN wr a' t.picks.length c' t.picks ∧ Below q1 w wr ∧ s.picks.take j = t.picks.take j)
      (μ := fun i _ => s.picks.length - (intOf i).toNat) ⟨0, rfl, by omega, hb1, hb2, hr2, hr2', b12, by simp⟩ ?_
    rintro _ dd wr m ⟨j, rfl, hj, g1, g2, r1, r2, bw, hall⟩ hm
    (repeat (first | refine fA_Stp_6 ?_ | (refine ld_TL_4 ?_ (by assumption) ?_ ?_; rotate_left; exact rfl) | refine lenN ?_ | refine bin_lss ?_))
    by_cases hjn : j < s.picks.length
    · refine cond_t (by omega) ?_
      refine sti_of (fun K hK => fA_Stp_6 hK) ?_
      refine sti_of (fun K hK => ld1 (v := .slice a s.picks.length c) (fun _ => by kernel_rfl) g1.drew rfl hK) ?_
      have hx : (s.picks.map i6)[j]? = some (i6 (s.picks.getD j 0)) := by simp [List.getD, List.getElem?_eq_getElem hjn]
      have hy : (t.picks.map i6)[j]? = some (i6 (t.picks.getD j 0)) := by simp [List.getD, List.getElem?_eq_getElem (show j < t.picks.length by omega)]
      refine sti_of (fun K hK => idx_slc Tryz.underlying25 (fun _ => by kernel_rfl) (by omega) (by omega) r1.some_ hK) ?_
      rw [Int.toNat_natCast]
      refine sti_of (fun K hK => ld_cell (fun _ => by kernel_rfl) (r1.cell _ _ hx) hK) ?_
      refine sti_of (fun K hK => fA_Stp_6 hK) ?_
      refine sti_of (fun K hK => ld1 (v := .slice a' t.picks.length c') (fun _ => by kernel_rfl) g2.drew rfl hK) ?_
      refine sti_of (fun K hK => idx_slc Tryz.underlying25 (fun _ => by kernel_rfl) (by omega) (by omega) r2.some_ hK) ?_
      rw [Int.toNat_natCast]
      refine sti_of (fun K hK => ld_cell (fun _ => by kernel_rfl) (r2.cell _ _ hy) hK) ?_
      unfold i6
      refine sti_of (fun K hK => bin_neq hK) ?_
      have e1 : s.picks.getD j 0 = s.picks[j] := by simp [List.getD, hjn]
      have e2 : t.picks.getD j 0 = t.picks[j] := by simp [List.getD, show j < t.picks.length by omega]
      by_cases he : s.picks.getD j 0 = t.picks.getD j 0
      · refine cond_f (fun hh => hh he) ?_
        refine add64 (by omega) (by omega) ?_
        refine ⟨⟨j + 1, by simp, by omega, g1.drew, g2.drew, RV.drew r1, RV.drew r2, bw.drew, ?_⟩, by rw [hm]; simp [intOf]; omega⟩
        rw [← List.take_append_getElem hjn, ← List.take_append_getElem (show j < t.picks.length by omega), hall, ← e1, ← e2, he]
      · refine cond_t he ?_
        exact no _ bw.drew (fun hh => he (by rw [hh]))
    · obtain rfl : j = s.picks.length := by omega
      refine cond_f (by omega) ?_
      have hpk : s.picks = t.picks := by rwa [List.take_length, hl, List.take_length] at hall
      refine leatref29_Same_P1_r ?_
      have no := no wr bw
      by_cases k1 : s.d = t.d
      · by_cases k2 : s.who = t.who
        · (repeat (first | refine fA_Stp_0 ?_ | refine fA_Stp_1 ?_ | refine fA_Stp_2 ?_ | (refine ld_TL_0 ?_ (by assumption) ?_ ?_; rotate_left; exact rfl) | (refine ld_TL_1 ?_ (by assumption) ?_ ?_; rotate_left; exact rfl) | refine bin_eql ?_ | refine gsel_pt (by omega) ?_ | refine pick_t (by omega) ?_))
          refine ldA (n := 6) (vs := askC s) Tryz.underlying24 rfl (by kernel_rfl) g1 rfl rfl ?_
          refine fA_Stp_2 ?_
          refine ldA (n := 6) (vs := askC t) Tryz.underlying24 rfl (by kernel_rfl) g2 rfl rfl ?_
          refine bin_eqA 3 (by omega) (by kernel_rfl) (by kernel_rfl) (by kernel_rfl) (by kernel_rfl) fun r hrr => ?_
          cases r with
          | true =>
            have k3 := hrr.1 rfl
            by_cases k4 : s.k = t.k
            · by_cases k5 : s.j = t.j
              · have hf := h wr (decide (s.n = t.n)) (by rw [decide_eq_true_eq]; exact ⟨fun hh => stp_ext k1 k2 k3 k4 k5 hh hpk, fun hh => by rw [hh]⟩) bw
                (repeat (first | refine fA_Stp_3 ?_ | refine fA_Stp_4 ?_ | refine fA_Stp_5 ?_ | (refine ld_TL_1 ?_ (by assumption) ?_ ?_; rotate_left; exact rfl) | refine bin_eql ?_ | refine pick_T ?_ | refine gsel_T ?_ | refine gsel_pt (by omega) ?_ | refine pick_t (by omega) ?_))
                exact hf
              · (repeat (first | refine fA_Stp_3 ?_ | refine fA_Stp_4 ?_ | (refine ld_TL_1 ?_ (by assumption) ?_ ?_; rotate_left; exact rfl) | refine bin_eql ?_ | refine pick_T ?_ | refine gsel_T ?_ | refine gsel_pt (by omega) ?_ | refine gsel_pf (by omega) ?_ | refine pick_t (by omega) ?_ | refine pick_f (by omega) ?_))
                exact no (fun hh => k5 (by rw [hh]))
            · (repeat (first | refine fA_Stp_3 ?_ | (refine ld_TL_1 ?_ (by assumption) ?_ ?_; rotate_left; exact rfl) | refine bin_eql ?_ | refine pick_T ?_ | refine pick_F ?_ | refine gsel_T ?_ | refine gsel_F ?_ | refine gsel_pf (by omega) ?_ | refine pick_t (by omega) ?_ | refine pick_f (by omega) ?_))
              exact no (fun hh => k4 (by rw [hh]))
          | false =>
            (repeat (first | refine pick_F ?_ | refine gsel_F ?_ | refine pick_t (by omega) ?_))
            exact no (fun hh => by have := hrr.2 (by rw [hh]); cases this)
        · (repeat (first | refine fA_Stp_0 ?_ | refine fA_Stp_1 ?_ | (refine ld_TL_0 ?_ (by assumption) ?_ ?_; rotate_left; exact rfl) | (refine ld_TL_1 ?_ (by assumption) ?_ ?_; rotate_left; exact rfl) | refine bin_eql ?_ | refine pick_F ?_ | refine gsel_F ?_ | refine gsel_pt (by omega) ?_ | refine gsel_pf (by omega) ?_ | refine pick_t (by omega) ?_ | refine pick_f (by omega) ?_))
          exact no (fun hh => k2 (by rw [hh]))
      · (repeat (first | refine fA_Stp_0 ?_ | (refine ld_TL_0 ?_ (by assumption) ?_ ?_; rotate_left; exact rfl) | refine bin_eql ?_ | refine pick_F ?_ | refine gsel_F ?_ | refine gsel_pf (by omega) ?_ | refine pick_f (by omega) ?_))
        exact no (fun hh => k1 (by rw [hh]))
  · refine cond_t (by omega) ?_
    exact no w2 b12 (fun hh => hl (by rw [hh]))
end
end Go.Proofs.YtfjafbbalohmhaaGreatDoor
/- Written by program (gen.py): what the code of some functions asks, part by part; each text is checked by the kernel against the translation. -/
namespace Go.Proofs.YtfjafbbalohmhaaGreatDoor
open Go.RowKit
set_option maxRecDepth 100000

def leatlaw29_TraceBack_A1 (K : KV) : KE := cCode Tryz.prog (cd Tryz.f4 [1, 1, 1, 1, 1, 1]) (retK Tryz.prog Tryz.f4.results.toList K) (fun _ _ _ => False) (retK Tryz.prog Tryz.f4.results.toList K)
def leatlaw29_TraceBack_A2 (K : KV) : KE := cCode Tryz.prog (cd Tryz.f4 [1, 1, 1, 1, 1, 1, 1, 1]) (retK Tryz.prog Tryz.f4.results.toList K) (fun _ _ _ => False) (retK Tryz.prog Tryz.f4.results.toList K)
theorem leatlaw29_TraceBack_k {K : KV} (xc0 : Code) {s0 cut1 : Value} {w : World}
    (h : box Tryz.prog 27 s0 (fun s2 w =>
    fldA Tryz.prog 27 s2 6 (fun A3 w =>
    ld Tryz.prog 25 A3 (fun A4 w =>
    blt Tryz.prog Builtin.len #[25] 3 #[false] #[A4] (fun A5 w =>
    bin Tryz.prog BinOp.gtr 3 false true A5 (Value.int IntKind.i64 300) (fun A6 w =>
    cond A6
      (call Tryz.prog 7 #[] (fun A7 w =>
      K A7 w) w)
      (ld Tryz.prog 27 s2 (fun A8 w =>
    call Tryz.prog 8 #[A8] (fun A9 w =>
    ld Tryz.prog 27 s2 (fun C0 w =>
    call Tryz.prog 9 #[C0] (fun C1 w =>
    un Tryz.prog UnOp.not C1 (fun C2 w =>
    cond C2
      (blt Tryz.prog Builtin.len #[28] 3 #[false] #[A9] (fun C4 w =>
      bin Tryz.prog BinOp.eql 3 false true C4 (Value.int IntKind.i64 0) (fun C5 w =>
      gsel C5 true (fun k26 =>
      call Tryz.prog 7 #[] (fun C7 w =>
      k26 [C7] w) w)
      (fun k => k [undef] w) (fun us26 w =>
      pick C5 (gd us26 0) (Value.bool false) (fun C8 w =>
      K C8 w) w)) w) w)
      (blt Tryz.prog Builtin.len #[28] 3 #[false] #[A9] (fun D0 w =>
    fldA Tryz.prog 27 s2 6 (fun D1 w =>
    ld Tryz.prog 25 D1 (fun D2 w =>
    blt Tryz.prog Builtin.len #[25] 3 #[false] #[D2] (fun D3 w =>
    bin Tryz.prog BinOp.add 3 true false (Value.int IntKind.i64 47) D3 (fun D4 w =>
    bin Tryz.prog BinOp.neq 3 false false D0 D4 (fun D5 w =>
    cond D5
      (K (Value.bool false) w)
      (call Tryz.prog 12 #[A9] (fun D8 w =>
    ext Tryz.prog D8 0 (fun D9 w =>
    ext Tryz.prog D8 1 (fun E0 w =>
    alc Tryz.prog 27 (fun x6 w =>
    sto Tryz.prog 27 x6 D9 (fun _t w =>
    (cCode Tryz.prog xc0 (retK Tryz.prog Tryz.f4.results.toList K) (fun _ _ _ => False) (retK Tryz.prog Tryz.f4.results.toList K)) (s0::cut1::s2::undef::(Value.bool false)::A9::x6::E0::undef::undef::undef::undef::A3::A4::A5::A6::undef::A8::A9::C0::C1::C2::undef::undef::undef::undef::undef::undef::A9::D0::D1::D2::D3::D4::D5::D8::A9::D8::D9::E0::undef::undef::undef::undef::undef::undef::undef::undef::undef::undef::undef::undef::undef::undef::undef::undef::undef::undef::undef::undef::undef::undef::undef::undef::undef::undef::undef::undef::undef::undef::undef::undef::undef::undef::undef::undef::undef::undef::[]) w) w) w) w) w) w)) w) w) w) w) w) w)) w) w) w) w) w)) w) w) w) w) w) :
    cCode Tryz.prog (rep [1, 1, 1, 1, 1, 1] xc0 (cd Tryz.f4 [])) (retK Tryz.prog Tryz.f4.results.toList K) (fun _ _ _ => False) (retK Tryz.prog Tryz.f4.results.toList K) (s0::cut1::undef::undef::undef::undef::undef::undef::undef::undef::undef::undef::undef::undef::undef::undef::undef::undef::undef::undef::undef::undef::undef::undef::undef::undef::undef::undef::undef::undef::undef::undef::undef::undef::undef::undef::undef::undef::undef::undef::undef::undef::undef::undef::undef::undef::undef::undef::undef::undef::undef::undef::undef::undef::undef::undef::undef::undef::undef::undef::undef::undef::undef::undef::undef::undef::undef::undef::undef::undef::undef::undef::undef::undef::undef::undef::undef::undef::[]) w := Eq.mp (by kernel_rfl) h

theorem leatlaw29_TraceBack_in {K : KV} {s0 cut1 : Value} {w : World}
    (h : box Tryz.prog 27 s0 (fun s2 w =>
    fldA Tryz.prog 27 s2 6 (fun A3 w =>
    ld Tryz.prog 25 A3 (fun A4 w =>
    blt Tryz.prog Builtin.len #[25] 3 #[false] #[A4] (fun A5 w =>
    bin Tryz.prog BinOp.gtr 3 false true A5 (Value.int IntKind.i64 300) (fun A6 w =>
    cond A6
      (call Tryz.prog 7 #[] (fun A7 w =>
      K A7 w) w)
      (ld Tryz.prog 27 s2 (fun A8 w =>
    call Tryz.prog 8 #[A8] (fun A9 w =>
    ld Tryz.prog 27 s2 (fun C0 w =>
    call Tryz.prog 9 #[C0] (fun C1 w =>
    un Tryz.prog UnOp.not C1 (fun C2 w =>
    cond C2
      (blt Tryz.prog Builtin.len #[28] 3 #[false] #[A9] (fun C4 w =>
      bin Tryz.prog BinOp.eql 3 false true C4 (Value.int IntKind.i64 0) (fun C5 w =>
      gsel C5 true (fun k26 =>
      call Tryz.prog 7 #[] (fun C7 w =>
      k26 [C7] w) w)
      (fun k => k [undef] w) (fun us26 w =>
      pick C5 (gd us26 0) (Value.bool false) (fun C8 w =>
      K C8 w) w)) w) w)
      (blt Tryz.prog Builtin.len #[28] 3 #[false] #[A9] (fun D0 w =>
    fldA Tryz.prog 27 s2 6 (fun D1 w =>
    ld Tryz.prog 25 D1 (fun D2 w =>
    blt Tryz.prog Builtin.len #[25] 3 #[false] #[D2] (fun D3 w =>
    bin Tryz.prog BinOp.add 3 true false (Value.int IntKind.i64 47) D3 (fun D4 w =>
    bin Tryz.prog BinOp.neq 3 false false D0 D4 (fun D5 w =>
    cond D5
      (K (Value.bool false) w)
      (call Tryz.prog 12 #[A9] (fun D8 w =>
    ext Tryz.prog D8 0 (fun D9 w =>
    ext Tryz.prog D8 1 (fun E0 w =>
    alc Tryz.prog 27 (fun x6 w =>
    sto Tryz.prog 27 x6 D9 (fun _t w =>
    (leatlaw29_TraceBack_A1 K) (s0::cut1::s2::undef::(Value.bool false)::A9::x6::E0::undef::undef::undef::undef::A3::A4::A5::A6::undef::A8::A9::C0::C1::C2::undef::undef::undef::undef::undef::undef::A9::D0::D1::D2::D3::D4::D5::D8::A9::D8::D9::E0::undef::undef::undef::undef::undef::undef::undef::undef::undef::undef::undef::undef::undef::undef::undef::undef::undef::undef::undef::undef::undef::undef::undef::undef::undef::undef::undef::undef::undef::undef::undef::undef::undef::undef::undef::undef::undef::undef::[]) w) w) w) w) w) w)) w) w) w) w) w) w)) w) w) w) w) w)) w) w) w) w) w) :
    Gives Tryz.prog 4 #[s0, cut1] w K := enter' Tryz.func4 (by kernel_rfl) (Eq.mp (congrArg (fun c => cCode Tryz.prog c (retK Tryz.prog Tryz.f4.results.toList K) (fun _ _ _ => False) (retK Tryz.prog Tryz.f4.results.toList K) (s0::cut1::undef::undef::undef::undef::undef::undef::undef::undef::undef::undef::undef::undef::undef::undef::undef::undef::undef::undef::undef::undef::undef::undef::undef::undef::undef::undef::undef::undef::undef::undef::undef::undef::undef::undef::undef::undef::undef::undef::undef::undef::undef::undef::undef::undef::undef::undef::undef::undef::undef::undef::undef::undef::undef::undef::undef::undef::undef::undef::undef::undef::undef::undef::undef::undef::undef::undef::undef::undef::undef::undef::undef::undef::undef::undef::undef::undef::[]) w) (by kernel_rfl : (rep [1, 1, 1, 1, 1, 1] (cd Tryz.f4 [1, 1, 1, 1, 1, 1]) (cd Tryz.f4 [])) = (cd Tryz.f4 []))) (leatlaw29_TraceBack_k (cd Tryz.f4 [1, 1, 1, 1, 1, 1]) h))
theorem leatlaw29_TraceBack_go : isGo Tryz.prog 4 := ⟨_, Tryz.func4, by kernel_rfl, by kernel_rfl⟩

section
variable {s0 cut1 s2 cut3 A0 b5 x6 e7 A1 f9 A2 g11 A3 A4 A5 A6 A7 A8 A9 C0 C1 C2 C3 C4 C5 C6 C7 C8 C9 D0 D1 D2 D3 D4 D5 D6 D7 D8 D9 E0 E1 E2 E3 E4 E5 E6 E7 E8 E9 F0 F1 F2 F3 F4 F5 F6 F7 F8 F9 G0 G1 G2 G3 G4 G5 G6 G7 G8 G9 H0 H1 H2 H3 H4 H5 H6 H7 H8 : Value}
theorem leatlaw29_TraceBack_A1_k {K : KV} (xc0 : Code) {w : World}
    (h : conv Tryz.prog 29 3 cut1 (fun E4 w =>
    blt Tryz.prog Builtin.len #[28] 3 #[false] #[b5] (fun E6 w =>
    bin Tryz.prog BinOp.rem 3 false false E4 E6 (fun E7 w =>
    slc Tryz.prog 28 b5 none (some E7) none (fun E8 w =>
    call Tryz.prog 12 #[E8] (fun E9 w =>
    ext Tryz.prog E9 0 (fun F0 w =>
    ext Tryz.prog E9 1 (fun F1 w =>
    alc Tryz.prog 27 (fun A1 w =>
    sto Tryz.prog 27 A1 F0 (fun _t w =>
    bldS Tryz.prog 28 0 #[] (fun F3 w =>
    blt Tryz.prog Builtin.append #[28, 28] 28 #[false, false] #[F3, b5] (fun F5 w =>
    bldS Tryz.prog 28 1 #[(0, (Value.int IntKind.u8 0))] (fun F6 w =>
    blt Tryz.prog Builtin.append #[28, 28] 28 #[false, false] #[F5, F6] (fun F7 w =>
    call Tryz.prog 12 #[F7] (fun F8 w =>
    ext Tryz.prog F8 0 (fun F9 w =>
    ext Tryz.prog F8 1 (fun G0 w =>
    alc Tryz.prog 27 (fun A2 w =>
    sto Tryz.prog 27 A2 F9 (fun _t w =>
    (cCode Tryz.prog xc0 (retK Tryz.prog Tryz.f4.results.toList K) (fun _ _ _ => False) (retK Tryz.prog Tryz.f4.results.toList K)) (s0::cut1::s2::cut3::A0::b5::x6::e7::A1::F1::A2::G0::A3::A4::A5::A6::A7::A8::A9::C0::C1::C2::C3::C4::C5::C6::C7::C8::C9::D0::D1::D2::D3::D4::D5::D6::D7::D8::D9::E0::E9::b5::cut1::E4::b5::E6::E7::E8::E9::F0::F1::F8::F3::b5::F5::F6::F7::F8::F9::G0::G1::G2::G3::G4::G5::G6::G7::G8::G9::H0::H1::H2::H3::H4::H5::H6::H7::H8::[]) w) w) w) w) w) w) w) w) w) w) w) w) w) w) w) w) w) w) w) :
    cCode Tryz.prog (rep [1, 1] xc0 (cd Tryz.f4 [1, 1, 1, 1, 1, 1])) (retK Tryz.prog Tryz.f4.results.toList K) (fun _ _ _ => False) (retK Tryz.prog Tryz.f4.results.toList K) (s0::cut1::s2::cut3::A0::b5::x6::e7::A1::f9::A2::g11::A3::A4::A5::A6::A7::A8::A9::C0::C1::C2::C3::C4::C5::C6::C7::C8::C9::D0::D1::D2::D3::D4::D5::D6::D7::D8::D9::E0::E1::E2::E3::E4::E5::E6::E7::E8::E9::F0::F1::F2::F3::F4::F5::F6::F7::F8::F9::G0::G1::G2::G3::G4::G5::G6::G7::G8::G9::H0::H1::H2::H3::H4::H5::H6::H7::H8::[]) w := Eq.mp (by kernel_rfl) h

theorem leatlaw29_TraceBack_A1_r {K : KV} {w : World}
    (h : conv Tryz.prog 29 3 cut1 (fun E4 w =>
    blt Tryz.prog Builtin.len #[28] 3 #[false] #[b5] (fun E6 w =>
    bin Tryz.prog BinOp.rem 3 false false E4 E6 (fun E7 w =>
    slc Tryz.prog 28 b5 none (some E7) none (fun E8 w =>
    call Tryz.prog 12 #[E8] (fun E9 w =>
    ext Tryz.prog E9 0 (fun F0 w =>
    ext Tryz.prog E9 1 (fun F1 w =>
    alc Tryz.prog 27 (fun A1 w =>
    sto Tryz.prog 27 A1 F0 (fun _t w =>
    bldS Tryz.prog 28 0 #[] (fun F3 w =>
    blt Tryz.prog Builtin.append #[28, 28] 28 #[false, false] #[F3, b5] (fun F5 w =>
    bldS Tryz.prog 28 1 #[(0, (Value.int IntKind.u8 0))] (fun F6 w =>
    blt Tryz.prog Builtin.append #[28, 28] 28 #[false, false] #[F5, F6] (fun F7 w =>
    call Tryz.prog 12 #[F7] (fun F8 w =>
    ext Tryz.prog F8 0 (fun F9 w =>
    ext Tryz.prog F8 1 (fun G0 w =>
    alc Tryz.prog 27 (fun A2 w =>
    sto Tryz.prog 27 A2 F9 (fun _t w =>
    (leatlaw29_TraceBack_A2 K) (s0::cut1::s2::cut3::A0::b5::x6::e7::A1::F1::A2::G0::A3::A4::A5::A6::A7::A8::A9::C0::C1::C2::C3::C4::C5::C6::C7::C8::C9::D0::D1::D2::D3::D4::D5::D6::D7::D8::D9::E0::E9::b5::cut1::E4::b5::E6::E7::E8::E9::F0::F1::F8::F3::b5::F5::F6::F7::F8::F9::G0::G1::G2::G3::G4::G5::G6::G7::G8::G9::H0::H1::H2::H3::H4::H5::H6::H7::H8::[]) w) w) w) w) w) w) w) w) w) w) w) w) w) w) w) w) w) w) w) :
    leatlaw29_TraceBack_A1 K (s0::cut1::s2::cut3::A0::b5::x6::e7::A1::f9::A2::g11::A3::A4::A5::A6::A7::A8::A9::C0::C1::C2::C3::C4::C5::C6::C7::C8::C9::D0::D1::D2::D3::D4::D5::D6::D7::D8::D9::E0::E1::E2::E3::E4::E5::E6::E7::E8::E9::F0::F1::F2::F3::F4::F5::F6::F7::F8::F9::G0::G1::G2::G3::G4::G5::G6::G7::G8::G9::H0::H1::H2::H3::H4::H5::H6::H7::H8::[]) w := by
  delta leatlaw29_TraceBack_A1
  exact Eq.mp (congrArg (fun c => cCode Tryz.prog c (retK Tryz.prog Tryz.f4.results.toList K) (fun _ _ _ => False) (retK Tryz.prog Tryz.f4.results.toList K) (s0::cut1::s2::cut3::A0::b5::x6::e7::A1::f9::A2::g11::A3::A4::A5::A6::A7::A8::A9::C0::C1::C2::C3::C4::C5::C6::C7::C8::C9::D0::D1::D2::D3::D4::D5::D6::D7::D8::D9::E0::E1::E2::E3::E4::E5::E6::E7::E8::E9::F0::F1::F2::F3::F4::F5::F6::F7::F8::F9::G0::G1::G2::G3::G4::G5::G6::G7::G8::G9::H0::H1::H2::H3::H4::H5::H6::H7::H8::[]) w) (by kernel_rfl : (rep [1, 1] (cd Tryz.f4 [1, 1, 1, 1, 1, 1, 1, 1]) (cd Tryz.f4 [1, 1, 1, 1, 1, 1])) = (cd Tryz.f4 [1, 1, 1, 1, 1, 1]))) (leatlaw29_TraceBack_A1_k (cd Tryz.f4 [1, 1, 1, 1, 1, 1, 1, 1]) h)

theorem leatlaw29_TraceBack_A2_k {K : KV} {w : World}
    (h : bin Tryz.prog BinOp.eql 34 false true e7 (Value.int IntKind.i64 0) (fun G2 w =>
    gsel G2 true (fun k63 =>
    ld Tryz.prog 27 x6 (fun G4 w =>
    ld Tryz.prog 27 s2 (fun G5 w =>
    call Tryz.prog 14 #[G4, G5] (fun G6 w =>
    k63 [G4, G5, G6] w) w) w) w)
    (fun k => k [undef, undef, undef] w) (fun us63 w =>
    pick G2 (gd us63 2) (Value.bool false) (fun G7 w =>
    gsel G7 true (fun k68 =>
    bin Tryz.prog BinOp.eql 34 false true f9 (Value.int IntKind.i64 5) (fun H0 w =>
    k68 [f9, H0] w) w)
    (fun k => k [undef, undef] w) (fun us68 w =>
    pick G7 (gd us68 1) (Value.bool false) (fun H1 w =>
    gsel H1 true (fun k72 =>
    bin Tryz.prog BinOp.eql 34 false true g11 (Value.int IntKind.i64 5) (fun H4 w =>
    k72 [g11, H4] w) w)
    (fun k => k [undef, undef] w) (fun us72 w =>
    pick H1 (gd us72 1) (Value.bool false) (fun H5 w =>
    gsel H5 true (fun k76 =>
    call Tryz.prog 7 #[] (fun H7 w =>
    k76 [H7] w) w)
    (fun k => k [undef] w) (fun us76 w =>
    pick H5 (gd us76 0) (Value.bool false) (fun H8 w =>
    K H8 w) w)) w)) w)) w)) w) :
    cCode Tryz.prog (cd Tryz.f4 [1, 1, 1, 1, 1, 1, 1, 1]) (retK Tryz.prog Tryz.f4.results.toList K) (fun _ _ _ => False) (retK Tryz.prog Tryz.f4.results.toList K) (s0::cut1::s2::cut3::A0::b5::x6::e7::A1::f9::A2::g11::A3::A4::A5::A6::A7::A8::A9::C0::C1::C2::C3::C4::C5::C6::C7::C8::C9::D0::D1::D2::D3::D4::D5::D6::D7::D8::D9::E0::E1::E2::E3::E4::E5::E6::E7::E8::E9::F0::F1::F2::F3::F4::F5::F6::F7::F8::F9::G0::G1::G2::G3::G4::G5::G6::G7::G8::G9::H0::H1::H2::H3::H4::H5::H6::H7::H8::[]) w := Eq.mp (by kernel_rfl) h

theorem leatlaw29_TraceBack_A2_r {K : KV} {w : World}
    (h : bin Tryz.prog BinOp.eql 34 false true e7 (Value.int IntKind.i64 0) (fun G2 w =>
    gsel G2 true (fun k63 =>
    ld Tryz.prog 27 x6 (fun G4 w =>
    ld Tryz.prog 27 s2 (fun G5 w =>
    call Tryz.prog 14 #[G4, G5] (fun G6 w =>
    k63 [G4, G5, G6] w) w) w) w)
    (fun k => k [undef, undef, undef] w) (fun us63 w =>
    pick G2 (gd us63 2) (Value.bool false) (fun G7 w =>
    gsel G7 true (fun k68 =>
    bin Tryz.prog BinOp.eql 34 false true f9 (Value.int IntKind.i64 5) (fun H0 w =>
    k68 [f9, H0] w) w)
    (fun k => k [undef, undef] w) (fun us68 w =>
    pick G7 (gd us68 1) (Value.bool false) (fun H1 w =>
    gsel H1 true (fun k72 =>
    bin Tryz.prog BinOp.eql 34 false true g11 (Value.int IntKind.i64 5) (fun H4 w =>
    k72 [g11, H4] w) w)
    (fun k => k [undef, undef] w) (fun us72 w =>
    pick H1 (gd us72 1) (Value.bool false) (fun H5 w =>
    gsel H5 true (fun k76 =>
    call Tryz.prog 7 #[] (fun H7 w =>
    k76 [H7] w) w)
    (fun k => k [undef] w) (fun us76 w =>
    pick H5 (gd us76 0) (Value.bool false) (fun H8 w =>
    K H8 w) w)) w)) w)) w)) w) :
    leatlaw29_TraceBack_A2 K (s0::cut1::s2::cut3::A0::b5::x6::e7::A1::f9::A2::g11::A3::A4::A5::A6::A7::A8::A9::C0::C1::C2::C3::C4::C5::C6::C7::C8::C9::D0::D1::D2::D3::D4::D5::D6::D7::D8::D9::E0::E1::E2::E3::E4::E5::E6::E7::E8::E9::F0::F1::F2::F3::F4::F5::F6::F7::F8::F9::G0::G1::G2::G3::G4::G5::G6::G7::G8::G9::H0::H1::H2::H3::H4::H5::H6::H7::H8::[]) w := by
  delta leatlaw29_TraceBack_A2
  exact Eq.mp (congrArg (fun c => cCode Tryz.prog c (retK Tryz.prog Tryz.f4.results.toList K) (fun _ _ _ => False) (retK Tryz.prog Tryz.f4.results.toList K) (s0::cut1::s2::cut3::A0::b5::x6::e7::A1::f9::A2::g11::A3::A4::A5::A6::A7::A8::A9::C0::C1::C2::C3::C4::C5::C6::C7::C8::C9::D0::D1::D2::D3::D4::D5::D6::D7::D8::D9::E0::E1::E2::E3::E4::E5::E6::E7::E8::E9::F0::F1::F2::F3::F4::F5::F6::F7::F8::F9::G0::G1::G2::G3::G4::G5::G6::G7::G8::G9::H0::H1::H2::H3::H4::H5::H6::H7::H8::[]) w) (by kernel_rfl : (cd Tryz.f4 [1, 1, 1, 1, 1, 1, 1, 1]) = (cd Tryz.f4 [1, 1, 1, 1, 1, 1, 1, 1]))) (leatlaw29_TraceBack_A2_k h)
attribute [irreducible] leatlaw29_TraceBack_A1 leatlaw29_TraceBack_A2

end
end Go.Proofs.YtfjafbbalohmhaaGreatDoor
/- What is put is got (the law TraceBack), walked. -/
namespace Go.Proofs.YtfjafbbalohmhaaGreatDoor
set_option maxRecDepth 100000
open Go.RowKit
attribute [local irreducible] bin un conv call callV blt slc fldA fld idxA idx lkp mUpd mEnt eSt rng nxt ent ext alc box bld bldS ld sto nilC mkMap mkS ifc pick rdy wts gsel sti cond retM Gives cCode cGrp cSeq cOp
section
variable {W : World} {K : KV}
/-- What Get yields, and what it is stored as. -/
theorem got_cells {B : Nat} {wz : World} {v : Value} {g : Option STP} (hv : match g with | none => v = .tuple #[.agg stp0.toArray, .int .i64 5] | some s => ∃ a' c', RH wz B a' s.picks.length c' s.picks ∧ v = .tuple #[.agg (stC s (.slice a' s.picks.length c')).toArray, .int .i64 0]) :
    ∃ (s : STP) (a' : Option Addr) (c' : Nat) (e : Int), v = .tuple #[.agg (stC s (.slice a' s.picks.length c')).toArray, .int .i64 e] ∧ RH wz B a' s.picks.length c' s.picks ∧ ((g = none ∧ e = 5 ∧ s = ⟨0, 0, 0, 0, 0, 0, 0, 0, 0, 0, 0, []⟩) ∨ (g = some s ∧ e = 0)) := by
  cases g with
  | none => exact ⟨⟨0, 0, 0, 0, 0, 0, 0, 0, 0, 0, 0, []⟩, none, 0, 5, hv, ⟨RV.nil _, fun q hq => by simp at hq⟩, .inl ⟨rfl, rfl, rfl⟩⟩
  | some s => obtain ⟨a', c', h1, h2⟩ := hv; exact ⟨s, a', c', 0, h2, h1, .inr ⟨rfl, rfl⟩⟩
theorem RH.below {w w' : World} {B : Nat} {a : Option Addr} {n c : Nat} {l : List Int} (h : RH w B a n c l) (hb : Below w.heap.size w w') : RH w' B a n c l := ⟨RV.below h.1 hb (Nat.le_refl _), h.2⟩
/-- A variable of a step. -/
theorem alc_stp {w : World} {s : STP} {v : Value} {t1 : Value} (ht : t1 = .agg (stC s v).toArray) (hv : v.oneCell' = true) {K2 : Value → KV} (h : ∀ w', blk w' w.heap.size 27 (stC s v) → Below w.heap.size w w' → K2 (ptr w.heap.size) undef w') :
    alc Tryz.prog 27 (fun x w => sto Tryz.prog 27 x t1 (K2 x) w) w := by
  subst ht
  refine alc_of (z := .agg stp0.toArray) (by kernel_rfl) fun w1 h1 b1 s1 => ?_
  have h1 : blk w1 w.heap.size 27 stp0 := h1
  refine stoA (n := 12) (vs := stC s v) (by kernel_rfl) rfl h1 (by simp [stp0]) (by intro u hu; simp only [stC, List.mem_cons, List.not_mem_nil, or_false] at hu; rcases hu with rfl | rfl | rfl | rfl | rfl | rfl | rfl | rfl | rfl | rfl | rfl | rfl <;> first | rfl | exact hv) fun w2 h2 o2 => ?_
  have h2 : blk w2 w.heap.size 27 (stC s v) := by
    rw [List.take_zero, List.nil_append, List.drop_of_length_le (by simp [stp0]), List.append_nil] at h2
    exact h2
  exact h w2 h2 (b1.trans o2.below)
set_option maxHeartbeats 4000000 in
theorem traceBack_lawW (hwk : WkOK Tryz.prog 7 W) (s : STP) (v : Option Addr) (c : Nat) (hw : STW s) (hr : RN W v s.picks.length c s.picks) (hle : s.picks.length ≤ c) (hmx : c ≤ 9223372036854775807) (cut : Int) (hcut : 0 ≤ cut ∧ cut ≤ 65535)
    (h : ∀ w', Below W.heap.size W w' → K (.bool true) w') : call Tryz.prog 4 #[.agg (stC s (.slice v s.picks.length c)).toArray, .int .u16 cut] K W := by
  refine call_of leatlaw29_TraceBack_go (leatlaw29_TraceBack_in ?_)
  refine box_of fun w1 hb b1 s1 => ?_
  have hb : blk w1 W.heap.size 27 (stC s (.slice v s.picks.length c)) := hb
  generalize hq0 : W.heap.size = q at *
  (repeat (first | refine fA_Stp_6 ?_ | (refine ld_TL_4 ?_ (by assumption) ?_ ?_; rotate_left; exact rfl) | refine lenN ?_ | refine bin_gtr ?_))
  by_cases hl : (s.picks.length : Int) > 300
  · refine cond_t hl ?_
    exact hwk.use (hq0 ▸ b1) (fun w' b => h w' (hq0 ▸ b))
  refine cond_f hl ?_
  refine ldA (n := 12) (vs := stC s (.slice v s.picks.length c)) Tryz.underlying27 rfl (by kernel_rfl) hb rfl rfl ?_
  have hr1 : RN w1 v s.picks.length c s.picks := hr.below b1 (by omega)
  refine tput_c hw hr1 (by omega) fun w2 a n c2 hb2 b2 => ?_
  have hblk2 : blk w2 q 27 (stC s (.slice v s.picks.length c)) := below_blk b2 hb (by omega)
  have bq2 : Below q W w2 := b1.trans (b2.mono (by omega))
  have hlen := hb2.len
  have hsz2 : q < w2.heap.size := hblk2.lt
  refine ldA (n := 12) (vs := stC s (.slice v s.picks.length c)) Tryz.underlying27 rfl (by kernel_rfl) hblk2 rfl rfl ?_
  refine tmay_c hw (hr.below bq2 (by omega)) (by omega) fun w3 b3 => ?_
  have hblk3 : blk w3 q 27 (stC s (.slice v s.picks.length c)) := below_blk b3 hblk2 hsz2
  have bq3 : Below q W w3 := bq2.trans (b3.mono (by omega))
  have hb3 : RB w3 a n c2 (putT s) := hb2.below b3 (Nat.le_refl _)
  clear hb2 b3 b2 hblk2 hr1
  refine un_not ?_
  cases hm : mayT s with
  | false =>
    rw [Bool.not_false]
    refine cond_T ?_
    have hp : putT s = [] := by unfold putT; rw [hm]
    have hn0 : n = 0 := by rw [hp] at hlen; simpa using hlen.symm
    refine lenB8 ?_
    refine bin_eql ?_
    refine gsel_pt (by omega) ?_
    refine hwk.use (hq0 ▸ bq3) fun w' b => ?_
    refine pick_t (by omega) ?_
    exact h w' (hq0 ▸ b)
  | true =>
    rw [Bool.not_true]
    refine cond_F ?_
    have hpl := putT_len hm
    refine lenB8 ?_
    (repeat (first | refine fA_Stp_6 ?_ | (refine ld_TL_4 ?_ (by assumption) ?_ ?_; rotate_left; exact rfl) | refine lenN ?_ | refine bin_neq ?_ | refine add64 (by omega) (by omega) ?_ | refine cond_f (by omega) ?_))
    refine tget_c hb3 (by omega) fun w4 vv b4 hv4 => ?_
    rw [getP_put hw hm] at hv4
    obtain ⟨a5, c5, hrh, rfl⟩ := hv4
    refine ext_a ?_
    refine ext_b ?_
    have hblk4 : blk w4 q 27 (stC s (.slice v s.picks.length c)) := below_blk b4 hblk3 hblk3.lt
    have bq4 : Below q W w4 := bq3.trans (b4.mono (by have := hblk3.lt; omega))
    refine alc_stp rfl rfl fun w5 h5 b5 => ?_
    have hblk5 : blk w5 q 27 (stC s (.slice v s.picks.length c)) := below_blk b5 hblk4 hblk4.lt
    have bq5 : Below q W w5 := bq4.trans (b5.mono (by have := hblk4.lt; omega))
    have hb5 : RB w5 a n c2 (putT s) := (hb3.below b4 (Nat.le_refl _)).below b5 (Nat.le_refl _)
    have hx5 := hrh.1.below b5 (Nat.le_refl _)
    clear hrh hb3 hblk4 b4 b5
    generalize hx0 : w4.heap.size = x at *
    refine leatlaw29_TraceBack_A1_r ?_
    refine conv_int Tryz.underlying29 Tryz.underlying3 ?_
    rw [wrap_i64 (by omega) (by omega)]
    refine lenB8 ?_
    refine rem_nn (by omega) (by omega) ?_
    have hk0 : 0 ≤ cut % (n : Int) := Int.emod_nonneg _ (by omega)
    have hk1 : cut % (n : Int) < n := Int.emod_lt_of_pos _ (by omega)
    obtain ⟨k, hk⟩ : ∃ k : Nat, cut % (n : Int) = k := ⟨(cut % (n : Int)).toNat, by omega⟩
    rw [hk] at hk0 hk1 ⊢
    have hcap := RV.cap hb5
    refine slcTo Tryz.underlying28 size_u8 (by omega) ?_
    have hpre : RB w5 a k c2 ((putT s).take k) := by
      have := RV.pre (m := k) (RB.rv hb5) (by omega)
      rw [← List.map_take] at this
      exact this
    refine tget_c hpre (by omega) fun w6 vv b6 hv6 => ?_
    rw [getP_cut hm (by omega)] at hv6
    obtain rfl := hv6
    refine ext_a ?_
    refine ext_b ?_
    refine alc_stp (s := ⟨0, 0, 0, 0, 0, 0, 0, 0, 0, 0, 0, []⟩) (v := .slice none 0 0) rfl rfl fun w7 _ b7 => ?_
    have b57 : Below w5.heap.size w5 w7 := b6.trans (b7.mono b6.size)
    refine empty8 w7.heap.size (Nat.le_refl _) fun a8 w8 o8 b8 => ?_
    have b58 : Below w5.heap.size w5 w8 := b57.trans (b8.mono b57.size)
    refine app8 w7.heap.size o8 (hb5.below b58 (Nat.le_refl _)) (by omega) b8.size fun a9 c9 w9 o9 g9 => ?_
    have b9 : Below w7.heap.size w8 w9 := below_of_grown g9 b8.size (fun k hk => (OV.block o8 k hk).1)
    refine bld8 (c := 0) rfl fun w10 b10 r10 _ => ?_
    have o10 : OB w10 w7.heap.size a9 (0 + n) c9 ([] ++ putT s) := OB.below o9 b10 (Nat.le_refl _)
    refine app8 w7.heap.size o10 r10 (by omega) (by have := b8.size; have := b9.size; have := b10.size; omega) fun a11 c11 w11 o11 g11 => ?_
    have b11 : Below w7.heap.size w10 w11 := below_of_grown g11 (by have := b8.size; have := b9.size; have := b10.size; omega) (fun k hk => (OV.block o10 k hk).1)
    have b7_11 : Below w7.heap.size w7 w11 := ((b8.trans b9).trans (b10.mono (by have := b8.size; have := b9.size; omega))).trans b11
    rw [List.nil_append] at o11
    refine tget_c (OB.rb o11) (by omega) fun w12 vv b12 hv12 => ?_
    rw [getP_more hm] at hv12
    obtain rfl := hv12
    refine ext_a ?_
    refine ext_b ?_
    refine alc_stp (s := ⟨0, 0, 0, 0, 0, 0, 0, 0, 0, 0, 0, []⟩) (v := .slice none 0 0) rfl rfl fun w13 _ b13 => ?_
    have hs711 := b7_11.size
    have hs57 := b57.size
    have b5_13 : Below w5.heap.size w5 w13 := ((b57.trans (b7_11.mono hs57)).trans (b12.mono (by omega))).trans (b13.mono (by have := b12.size; omega))
    have hblk13 : blk w13 q 27 (stC s (.slice v s.picks.length c)) := below_blk b5_13 hblk5 hblk5.lt
    have h13 : blk w13 x 27 (stC s (.slice a5 s.picks.length c5)) := below_blk b5_13 h5 h5.lt
    have bq13 : Below q W w13 := bq5.trans (b5_13.mono (by have := hblk5.lt; omega))
    have hx13 := RV.below hx5 b5_13 (Nat.le_refl _)
    refine leatlaw29_TraceBack_A2_r ?_
    refine bin_eql ?_
    refine gsel_pt rfl ?_
    refine ldA (n := 12) (vs := stC s (.slice a5 s.picks.length c5)) Tryz.underlying27 rfl (by kernel_rfl) h13 rfl rfl ?_
    refine ldA (n := 12) (vs := stC s (.slice v s.picks.length c)) Tryz.underlying27 rfl (by kernel_rfl) hblk13 rfl rfl ?_
    refine rsame29_c hx13 (hr.below bq13 (by omega)) (by omega) (by omega) fun w14 r hrr b14 => ?_
    have hrt : r = true := hrr.2 rfl
    subst hrt
    have bq14 : Below q W w14 := bq13.trans (b14.mono (by have := hblk13.lt; omega))
    refine pick_t rfl ?_
    refine gsel_T ?_
    refine bin_eql ?_
    refine pick_T ?_
    refine gsel_pt rfl ?_
    refine bin_eql ?_
    refine pick_t rfl ?_
    refine gsel_pt rfl ?_
    refine hwk.use (hq0 ▸ bq14) fun w' b => ?_
    refine pick_t rfl ?_
    exact h w' (hq0 ▸ b)
end
end Go.Proofs.YtfjafbbalohmhaaGreatDoor
/- The document's steps' bytes (leatref29.Get). -/
namespace Go.Proofs.YtfjafbbalohmhaaGreatDoor
set_option maxRecDepth 100000
open Go.RowKit
theorem hG_f {v : Value} {want : Bool} {S : World → Prop} {s : KV → World → Prop} {k : Value → Prop} (hv : asB v ≠ some want) (hk : k undef) : hG v want S s k := ⟨undef, fun h => absurd h hv, fun _ => rfl, hk⟩
theorem xG_f {v : Value} {want : Bool} {s : KV → World → Prop} {K : KV} {w : World} (hv : asB v ≠ some want) (h : K undef w) : xG v want s K w := ⟨fun hh => absurd hh hv, fun _ => h⟩
theorem fA_Rdr_0 {w : World} {K : KV} {b o : Nat} (h : K (.pointer (some ⟨b, o + 0, none⟩)) w) : fldA Tryz.prog 80 (.pointer (some ⟨b, o, none⟩)) 0 K w := fldA_of (by kernel_rfl) h
theorem fA_Rdr_1 {w : World} {K : KV} {b o : Nat} (h : K (.pointer (some ⟨b, o + 1, none⟩)) w) : fldA Tryz.prog 80 (.pointer (some ⟨b, o, none⟩)) 1 K w := fldA_of (by kernel_rfl) h
theorem fA_Rdr_2 {w : World} {K : KV} {b o : Nat} (h : K (.pointer (some ⟨b, o + 2, none⟩)) w) : fldA Tryz.prog 80 (.pointer (some ⟨b, o, none⟩)) 2 K w := fldA_of (by kernel_rfl) h
/-- Where Get stands: the reader, the step so far, the result. -/
structure GR (w0 w : World) (p q r : Nat) (a : Option Addr) (n c : Nat) (b : List UInt8) (st : EyS) (cs : List Value) : Prop where
  ey : blk w p 80 (eyC a n c st)
  sp : blk w q 27 cs
  rs : blk w r 27 stp0
  at_ : st.1 ≤ b.length
  bel : Below w0.heap.size w0 w
  rb : RB w0 a n c b
  pq : p ≠ q
  rp : r ≠ p
  rq : r ≠ q
  lp : w0.heap.size ≤ p
  lq : w0.heap.size ≤ q
attribute [local irreducible] bin un conv call callV blt slc fldA fld idxA idx lkp mUpd mEnt eSt rng nxt ent ext alc box bld bldS ld sto nilC mkMap mkS ifc pick rdy wts gsel sti cond retM Gives cCode cGrp cSeq cOp
section
variable {w : World} {K : KV}
theorem rnext_c {p : Nat} {a : Option Addr} {n c : Nat} {b : List UInt8} {st : EyS} {kk : Int} (k : Nat) (hp : blk w p 80 (eyC a n c st)) (hr : RB w a n c b) (hn : n ≤ 4611686018427387904) (hat : st.1 ≤ b.length) (hk : k = 1 ∨ k = 2 ∨ k = 4 ∨ k = 8) (hkk : kk = (k : Int))
    (h : ∀ w', blk w' p 80 (eyC a n c (gtE b st k).2) → Oth p w w' → K (.int .u64 ((gtE b st k).1 : Nat)) w') : call Tryz.prog 31 #[.pointer (some ⟨p, 0, none⟩), .int .i64 kk] K w := by
  subst hkk
  obtain ⟨i, sp⟩ := st
  have hlen := hr.len
  have hrd : RB w.drew a n c b := RV.drew hr
  refine call_of leatref29_reader_next_go (leatref29_reader_next_in ?_)
  refine hReg_of (fun x => blk x p 80 (eyC a n c (i, sp)) ∧ RB x a n c b) ⟨hp, hrd⟩ ?_
  refine hld_of (fun x hx K hK => nilC_p hK) ?_
  refine hld_of (fun x hx K hK => fA_Rdr_0 hK) ?_
  refine hld_of (v := .slice a n c) (fun x hx K hK => ld1 (fun _ => by kernel_rfl) hx.1 rfl hK) ?_
  refine hld_of (fun x hx K hK => nilC_p hK) ?_
  refine hld_of (fun x hx K hK => fA_Rdr_1 hK) ?_
  refine hld_of (v := i6 i) (fun x hx K hK => ld1 (fun _ => by kernel_rfl) hx.1 rfl hK) ?_
  unfold i6
  refine rtake_c hrd hn ?_
  have hpd : blk w.drew p 80 (eyC a n c (i, sp)) := hp
  refine hReg_of (fun _ => True) trivial ?_
  refine hld_of (fun x hx K hK => ext3_a hK) ?_
  refine hld_of (fun x hx K hK => ext3_b hK) ?_
  refine hld_of (fun x hx K hK => ext3_c hK) ?_
  refine nilC_p ?_
  refine fA_Rdr_2 ?_
  refine ld1 (v := .bool sp) (fun _ => by kernel_rfl) hpd rfl ?_
  have hat : i ≤ b.length := hat
  rw [takeS_get hk hat]
  have bad : (gtE b (i, sp) k) = (0, (i, true)) → (∀ w', blk w' p 80 (eyC a n c (i, true)) → Oth p w.drew w' → K (.int .u64 0) w') := by
    intro hq w' h1 h2
    rw [hq] at h
    exact h w' h1 ⟨h2.os, h2.tape, h2.output, h2.size, h2.other⟩
  have stop : (gtE b (i, sp) k) = (0, (i, true)) → nilC (.pointer (some ⟨p, 0, none⟩)) (fun t31 w => fldA Tryz.prog 80 t31 2 (fun t32 w => sto Tryz.prog 4 t32 (.bool true) (fun _t w => K (.int .u64 0) w) w) w) w.drew := by
    intro hq
    refine nilC_p ?_
    refine fA_Rdr_2 ?_
    refine sto1 (fun _ => by kernel_rfl) hpd (by simp [eyC]) rfl ?_
    intro w' h1 h2
    exact bad hq w' h1 h2
  cases sp with
  | true =>
    refine gsel_Tn ?_
    refine pick_T ?_
    refine cond_T ?_
    exact stop (by simp [gtE])
  | false =>
    refine gsel_Fn ?_
    by_cases hf : i + k ≤ b.length
    · rw [if_pos hf]
      refine bin_neq ?_
      refine pick_F ?_
      refine cond_f (by simp) ?_
      refine nilC_p ?_
      refine fA_Rdr_1 ?_
      refine sto1 (fun _ => by kernel_rfl) hpd (by simp [eyC]) rfl ?_
      intro w' h1 h2
      have hq : gtE b (i, false) k = (beNat ((b.drop i).take k), (i + k, false)) := by simp [gtE, hf]
      rw [hq] at h
      exact h w' h1 ⟨h2.os, h2.tape, h2.output, h2.size, h2.other⟩
    · rw [if_neg hf]
      refine bin_neq ?_
      refine pick_F ?_
      refine cond_t (by simp) ?_
      exact stop (by simp [gtE, hf])
variable {w0 : World} {p q r : Nat} {a : Option Addr} {n c : Nat} {b : List UInt8} {st : EyS} {cs : List Value}
theorem GR.now (h : GR w0 w p q r a n c b st cs) : RB w a n c b := RV.below h.rb h.bel (Nat.le_refl _)
theorem gr_get {kk : Int} (k : Nat) (hs : GR w0 w p q r a n c b st cs) (hn : n ≤ 4611686018427387904) (hk : k = 1 ∨ k = 2 ∨ k = 4 ∨ k = 8) (hkk : kk = (k : Int)) (h : ∀ w', GR w0 w' p q r a n c b (gtE b st k).2 cs → Oth p w w' → K (.int .u64 ((gtE b st k).1 : Nat)) w') :
    call Tryz.prog 31 #[.pointer (some ⟨p, 0, none⟩), .int .i64 kk] K w :=
  rnext_c k hs.ey hs.now hn hs.at_ hk hkk fun w' h1 h2 => h w' ⟨h1, oth_blk h2 hs.sp (Ne.symm hs.pq), oth_blk h2 hs.rs hs.rp, gtE_le hs.at_, oth_below hs.bel h2 hs.lp, hs.rb, hs.pq, hs.rp, hs.rq, hs.lp, hs.lq⟩ h2
theorem gr_sto {t : TypeId} {i : Nat} {v : Value} (hs : GR w0 w p q r a n c b st cs) (ht : ∀ w, (sizeOf t).run Tryz.prog w = .ok 1 w) (hi : i < cs.length) (hv : v.oneCell' = true) (h : ∀ w', GR w0 w' p q r a n c b st (cs.set i v) → Oth q w w' → K undef w') : sto Tryz.prog t (.pointer (some ⟨q, i, none⟩)) v K w :=
  sto1 ht hs.sp hi hv fun w' h1 h2 => h w' ⟨oth_blk h2 hs.ey hs.pq, h1, oth_blk h2 hs.rs hs.rq, hs.at_, oth_below hs.bel h2 hs.lq, hs.rb, hs.pq, hs.rp, hs.rq, hs.lp, hs.lq⟩ h2
theorem GR.fresh {w' : World} (hs : GR w0 w p q r a n c b st cs) (hb : Below w.heap.size w w') : GR w0 w' p q r a n c b st cs :=
  ⟨below_blk hb hs.ey hs.ey.lt, below_blk hb hs.sp hs.sp.lt, below_blk hb hs.rs hs.rs.lt, hs.at_, hs.bel.trans (hb.mono hs.bel.size), hs.rb, hs.pq, hs.rp, hs.rq, hs.lp, hs.lq⟩
theorem GR.drew (hs : GR w0 w p q r a n c b st cs) : GR w0 w.drew p q r a n c b st cs := ⟨hs.ey, hs.sp, hs.rs, hs.at_, hs.bel.drew, hs.rb, hs.pq, hs.rp, hs.rq, hs.lp, hs.lq⟩
/-- A number that stands one greater than it is. -/
theorem less_of {K2 : Value → KV} {x : Nat} (hx : x < 4294967296) (h : K2 (i6 x) (i6 ((x : Int) - 1)) w) : conv Tryz.prog 22 3 (.int .u64 (x : Nat)) (fun t w => bin Tryz.prog .sub 3 false true t (.int .i64 1) (K2 t) w) w := by
  refine cvUI (by omega) (by omega) ?_
  refine sub64 (by omega) (by omega) ?_
  exact h
set_option maxHeartbeats 4000000 in
/-- Behind all reads: is it a step's? -/
theorem rgetP1_c {B : Nat} {b0 b1 t2 t3 r4 s5 n6 i7 t8 t9 t10 t11 t12 t13 t14 t15 t16 t17 t18 t19 t20 t21 t22 t23 t24 t25 t26 t27 t28 t29 t30 t31 t32 t33 t34 t35 t36 t37 t38 t39 t40 t41 t42 t43 t44 t45 t46 t47 t48 t49 t50 t51 t52 t53 t54 t55 t56 t57 t58 t59 t60 t61 t62 t63 t64 t65 t66 t67 t68 t69 t70 t71 t72 t73 t74 t75 t76 t77 t78 t79 t80 t81 t82 t83 t84 t85 t86 t87 t88 t89 t90 t91 t92 t93 t94 t95 t96 t97 t98 t99 t100 t101 t102 t103 t104 t105 t106 : Value} {s : STP} {av : Option Addr} {cv : Nat} (hs : GR w0 w p q r a n c b st (stC s (.slice av s.picks.length cv))) (hw : STW s) (hlen : b.length = n) (hn : n ≤ 4611686018427387904) (hon : ON w B av s.picks.length cv s.picks) (hpl : s.picks.length ≤ 1000)
    (h0 : ∀ w', ¬ (st.2 = false ∧ b ≠ [] ∧ putT s = b) → Below w0.heap.size w0 w' → K (.tuple #[.agg stp0.toArray, .int .i64 5]) w')
    (h1 : ∀ w', (st.2 = false ∧ b ≠ [] ∧ putT s = b) → Below w0.heap.size w0 w' → ON w' w0.heap.size av s.picks.length cv s.picks → K (.tuple #[.agg (stC s (.slice av s.picks.length cv)).toArray, .int .i64 0]) w')
    (hr0 : r = w0.heap.size) (hrB : r < B) (hqB : q < B) (e1 : r4 = .pointer (some ⟨p, 0, none⟩)) (e2 : s5 = .pointer (some ⟨q, 0, none⟩)) (e3 : t2 = .pointer (some ⟨r, 0, none⟩)) (e4 : b0 = .slice a n c) : leatref29_Get_P1 K ((b0 :: b1 :: t2 :: t3 :: r4 :: s5 :: n6 :: i7 :: t8 :: t9 :: t10 :: t11 :: t12 :: t13 :: t14 :: t15 :: t16 :: t17 :: t18 :: t19 :: t20 :: t21 :: t22 :: t23 :: t24 :: t25 :: t26 :: t27 :: t28 :: t29 :: t30 :: t31 :: t32 :: t33 :: t34 :: t35 :: t36 :: t37 :: t38 :: t39 :: t40 :: t41 :: t42 :: t43 :: t44 :: t45 :: t46 :: t47 :: t48 :: t49 :: t50 :: t51 :: t52 :: t53 :: t54 :: t55 :: t56 :: t57 :: t58 :: t59 :: t60 :: t61 :: t62 :: t63 :: t64 :: t65 :: t66 :: t67 :: t68 :: t69 :: t70 :: t71 :: t72 :: t73 :: t74 :: t75 :: t76 :: t77 :: t78 :: t79 :: t80 :: t81 :: t82 :: t83 :: t84 :: t85 :: t86 :: t87 :: t88 :: t89 :: t90 :: t91 :: t92 :: t93 :: t94 :: t95 :: t96 :: t97 :: t98 :: t99 :: t100 :: t101 :: t102 :: t103 :: t104 :: t105 :: t106 :: [])) w := by
  subst e1 e2 e3 e4
  refine leatref29_Get_P1_r ?_
  obtain ⟨i, sp⟩ := st
  have no : ∀ {w1 : World}, GR w0 w1 p q r a n c b (i, sp) (stC s (.slice av s.picks.length cv)) → ¬ (sp = false ∧ b ≠ [] ∧ putT s = b) → bld Tryz.prog 27 #[] (fun t91 w => sto Tryz.prog 27 (.pointer (some ⟨r, 0, none⟩)) t91 (fun _t w => retM Tryz.prog [(some 27, .pointer (some ⟨r, 0, none⟩)), (none, (.int .i64 5))] K w) w) w1 := by
    intro w1 hs1 hbad
    refine bld_of (vs := stp0) (by kernel_rfl) ?_
    refine stoA (n := 12) (vs := stp0) (by kernel_rfl) rfl hs1.rs (by simp [stp0]) (by simp [stp0, i6, Value.oneCell']) ?_
    intro w2 h2 o2
    refine retM_ct (v := .agg stp0.toArray) (fun K' hK' => ldA (n := 12) (vs := stp0) Tryz.underlying27 rfl (by kernel_rfl) h2 rfl rfl hK') ?_
    exact h0 w2 hbad (oth_below hs1.bel o2 (by omega))
  have yes : ∀ {w1 : World}, GR w0 w1 p q r a n c b (i, sp) (stC s (.slice av s.picks.length cv)) → ON w1 B av s.picks.length cv s.picks → (sp = false ∧ b ≠ [] ∧ putT s = b) → ld Tryz.prog 27 (.pointer (some ⟨q, 0, none⟩)) (fun t92 w => sto Tryz.prog 27 (.pointer (some ⟨r, 0, none⟩)) t92 (fun _t w => retM Tryz.prog [(some 27, .pointer (some ⟨r, 0, none⟩)), (none, (.int .i64 0))] K w) w) w1 := by
    intro w1 hs1 hrn1 x1
    refine ldA (n := 12) (vs := stC s (.slice av s.picks.length cv)) Tryz.underlying27 rfl (by kernel_rfl) hs1.sp rfl rfl ?_
    refine stoA (n := 12) (vs := stC s (.slice av s.picks.length cv)) (by kernel_rfl) rfl hs1.rs (by simp [stp0]) (by simp [stC, i6, Value.oneCell']) ?_
    intro w2 h2 o2
    refine retM_ct (v := .agg (stC s (.slice av s.picks.length cv)).toArray) (fun K' hK' => ldA (n := 12) (vs := stC s (.slice av s.picks.length cv)) Tryz.underlying27 rfl (by kernel_rfl) h2 rfl rfl hK') ?_
    refine h1 w2 x1 (oth_below hs1.bel o2 (by omega)) (OV.mono (ownS hrn1 fun k hk => o2.other k ?_) (by omega))
    have := (OV.block hrn1 k hk).1
    omega
  have hs := hs.drew
  have hon : ON w.drew B av s.picks.length cv s.picks := hon
  refine hReg_of (fun x => blk x p 80 (eyC a n c (i, sp)) ∧ RB x a n c b ∧ blk x q 27 (stC s (.slice av s.picks.length cv))) ⟨hs.ey, hs.now, hs.sp⟩ ?_
  refine hld_of (fun x hx K hK => nilC_p hK) ?_
  refine hld_of (fun x hx K hK => fA_Rdr_2 hK) ?_
  refine hld_of (v := .bool sp) (fun x hx K hK => ld1 (fun _ => by kernel_rfl) hx.1 rfl hK) ?_
  cases sp with
  | true =>
    have hf : asB (.bool true) ≠ some false := by simp [asB]
    refine hG_f hf ?_
    refine hG_f hf ?_
    refine hG_f hf ?_
    refine hld_of (fun x hx K hK => pick_T hK) ?_
    refine hG_f hf ?_
    refine hG_f hf ?_
    refine hG_f hf ?_
    refine xG_f hf ?_
    refine hSub_same ⟨hs.ey, hs.now, hs.sp⟩ ?_
    refine hG_f hf ?_
    refine hG_f hf ?_
    refine hld_of (fun x hx K hK => pick_T hK) ?_
    refine cond_T ?_
    exact no hs (by simp)
  | false =>
    have hT : asB (.bool false) = some false := rfl
    refine hG_t (x := .slice a n c) hT (fun x hx K hK => hK) ?_
    refine hG_t (x := .int .i64 n) hT (fun x hx K hK => lenB8 hK) ?_
    refine hG_t (x := .bool (decide ((n : Int) = 0))) hT (fun x hx K hK => bin_eql hK) ?_
    refine hld_of (v := .bool (decide ((n : Int) = 0))) (fun x hx K hK => pick_F hK) ?_
    by_cases hz : n = 0
    · have hf : asB (.bool (decide ((n : Int) = 0))) ≠ some false := by simp [asB, hz]
      have hb0 : b = [] := by cases b with | nil => rfl | cons x l => simp at hlen; omega
      have hz' : (n : Int) = 0 := by omega
      refine hG_f hf ?_
      refine hG_f hf ?_
      refine hG_f hf ?_
      refine xG_f hf ?_
      refine hSub_same ⟨hs.ey, hs.now, hs.sp⟩ ?_
      refine hG_f hf ?_
      refine hG_f hf ?_
      refine hld_of (fun x hx K hK => pick_t hz' hK) ?_
      refine cond_T ?_
      exact no hs (by simp [hb0])
    · have hz' : ¬ (n : Int) = 0 := by omega
      have ht : asB (.bool (decide ((n : Int) = 0))) = some false := asB_f hz'
      have hb0 : b ≠ [] := by rintro rfl; simp at hlen; omega
      refine hG_t (x := .agg (stC s (.slice av s.picks.length cv)).toArray) ht (fun x hx K hK => ldA (n := 12) (vs := stC s (.slice av s.picks.length cv)) Tryz.underlying27 rfl (by kernel_rfl) hx.2.2 rfl rfl hK) ?_
      refine hG_t (x := .slice a n c) ht (fun x hx K hK => hK) ?_
      refine hG_t (x := .string (bstr b)) ht (fun x hx K hK => str8 hx.2.1 hK) ?_
      refine xG_t ht ?_
      refine rput29_c hw (OV.rv hon) (by omega) ?_
      intro w2 a' n' c' hr' b2
      have hs2 := hs.fresh b2
      have hon2 : ON w2 B av s.picks.length cv s.picks := ownS hon fun k hk => b2.block k (OV.block hon k hk).2
      refine hSub_of (fun x => RB x a' n' c' (putT s) ∧ blk x p 80 (eyC a n c (i, false)) ∧ RB x a n c b ∧ blk x q 27 (stC s (.slice av s.picks.length cv))) (fun x hx => hx.2) ⟨hr', hs2.ey, hs2.now, hs2.sp⟩ ?_
      refine hG_t (x := .string (bstr (putT s))) ht (fun x hx K hK => str8 hx.1 hK) ?_
      refine hG_t (x := .bool (decide (putT s ≠ b))) ht (fun x hx K hK => bin_neqS hK) ?_
      refine hld_of (v := .bool (decide (putT s ≠ b))) (fun x hx K hK => pick_f hz' hK) ?_
      by_cases he : putT s = b
      · refine cond_f (fun hh => hh he) ?_
        exact yes hs2 hon2 ⟨rfl, hb0, he⟩
      · refine cond_t he ?_
        exact no hs2 (fun hh => he hh.2.2)
end
end Go.Proofs.YtfjafbbalohmhaaGreatDoor
/- The document's steps' bytes (leatref29.Get, whole). -/
namespace Go.Proofs.YtfjafbbalohmhaaGreatDoor
set_option maxRecDepth 100000
open Go.RowKit
attribute [local irreducible] bin un conv call callV blt slc fldA fld idxA idx lkp mUpd mEnt eSt rng nxt ent ext alc box bld bldS ld sto nilC mkMap mkS ifc pick rdy wts gsel sti cond retM Gives cCode cGrp cSeq cOp
section
variable {w : World} {K : KV} {a : Option Addr} {n c : Nat} {b : List UInt8}
set_option maxHeartbeats 4000000 in
theorem rget29_c (hr : RB w a n c b) (hn : n ≤ 4611686018427387904)
    (h : ∀ w' v, Below w.heap.size w w' → (match getP b with | none => v = .tuple #[.agg stp0.toArray, .int .i64 5] | some s => ∃ a' c', ON w' w.heap.size a' s.picks.length c' s.picks ∧ v = .tuple #[.agg (stC s (.slice a' s.picks.length c')).toArray, .int .i64 0]) → K v w') :
    call Tryz.prog 13 #[.slice a n c] K w := by
  have hlen := hr.len
  refine call_of leatref29_Get_go (leatref29_Get_in ?_)
  refine alc_of (z := .agg stp0.toArray) (by kernel_rfl) fun w1 hr1 b1 s1 => ?_
  have hr1 : blk w1 w.heap.size 27 stp0 := hr1
  refine bld_of (vs := eyC a n c (0, false)) (by kernel_rfl) ?_
  refine box_of fun w2 hp2 b2 s2 => ?_
  have hp2 : blk w2 w1.heap.size 80 (eyC a n c (0, false)) := hp2
  have lt1 : ∀ st : EyS, (gtE b st 1).1 < 256 := fun st => gtE_lt
  have lt2 : ∀ st : EyS, (gtE b st 2).1 < 4294967296 := fun st => Nat.lt_of_lt_of_le gtE_lt (by decide)
  have lt4 : ∀ st : EyS, (gtE b st 4).1 < 4294967296 := fun st => Nat.lt_of_lt_of_le gtE_lt (by decide)
  have hb12 : Below w.heap.size w w2 := b1.trans (b2.mono (by omega))
  refine rnext_c 1 hp2 (hr.below hb12 (Nat.le_refl _)) hn (Nat.zero_le _) (by simp) rfl fun w2' hp2' o2 => ?_
  have hr2' : blk w2' w.heap.size 27 stp0 := oth_blk o2 (below_blk b2 hr1 (by omega)) (by omega)
  have b2' : Below w.heap.size w w2' := oth_below hb12 o2 (by omega)
  have hsz : w2'.heap.size = w2.heap.size := o2.size
  refine convU8 (lt1 _) ?_
  refine bld_of (vs := stC ⟨(gtE b (0, false) 1).1, 0, 0, 0, 0, 0, 0, 0, 0, 0, 0, []⟩ (.slice none 0 0)) (by kernel_rfl) ?_
  refine alc_of (z := .agg stp0.toArray) (by kernel_rfl) fun w3 hq3 b3 s3 => ?_
  have hq3 : blk w3 w2'.heap.size 27 stp0 := hq3
  have hs : GR w w3 w1.heap.size w2'.heap.size w.heap.size a n c b (gtE b (0, false) 1).2 stp0 :=
    ⟨below_blk b3 hp2' hp2'.lt, hq3, below_blk b3 hr2' hr2'.lt, gtE_le (Nat.zero_le _), b2'.trans (b3.mono (by omega)), hr, by omega, by omega, by omega, by omega, by omega⟩
  refine stoA (n := 12) (vs := stC ⟨(gtE b (0, false) 1).1, 0, 0, 0, 0, 0, 0, 0, 0, 0, 0, []⟩ (.slice none 0 0)) (by kernel_rfl) rfl hs.sp (by simp [stp0]) (by simp [stC, i6, Value.oneCell']) fun w4 hq4 o4 => ?_
  have h4 : GR w w4 w1.heap.size w2'.heap.size w.heap.size a n c b (gtE b (0, false) 1).2 (stC ⟨(gtE b (0, false) 1).1, 0, 0, 0, 0, 0, 0, 0, 0, 0, 0, []⟩ (.slice none 0 0)) :=
    ⟨oth_blk o4 hs.ey hs.pq, hq4, oth_blk o4 hs.rs hs.rq, hs.at_, oth_below hs.bel o4 hs.lq, hs.rb, hs.pq, hs.rp, hs.rq, hs.lp, hs.lq⟩
  generalize w1.heap.size = p at *
  generalize w2'.heap.size = q at *
  clear b1 b2 b3 hr1 hp2 hq3 s1 s2 hs hq4 o4 hr2' b2' hb12 hp2' o2
  -- Who, J, K
  refine gr_get 2 h4 hn (by simp) rfl fun w5 h5 _ => ?_
  refine less_of (lt2 _) ?_
  refine fA_Stp_1 ?_
  refine gr_sto h5 (fun _ => by kernel_rfl) (by simp [stC]) rfl fun w6 h6 _ => ?_
  refine gr_get 2 h6 hn (by simp) rfl fun w7 h7 _ => ?_
  refine less_of (lt2 _) ?_
  refine fA_Stp_4 ?_
  refine gr_sto h7 (fun _ => by kernel_rfl) (by simp [stC]) rfl fun w8 h8 _ => ?_
  refine gr_get 2 h8 hn (by simp) rfl fun w9 h9 _ => ?_
  refine less_of (lt2 _) ?_
  refine fA_Stp_3 ?_
  refine gr_sto h9 (fun _ => by kernel_rfl) (by simp [stC]) rfl fun w10 h10 _ => ?_
  refine leatref29_Get_A1_r ?_
  -- N, Kind, Node, To, Amount
  refine gr_get 4 h10 hn (by simp) rfl fun w11 h11 _ => ?_
  refine less_of (lt4 _) ?_
  refine fA_Stp_5 ?_
  refine gr_sto h11 (fun _ => by kernel_rfl) (by simp [stC]) rfl fun w12 h12 _ => ?_
  refine gr_get 1 h12 hn (by simp) rfl fun w13 h13 _ => ?_
  refine convU8 (lt1 _) ?_
  refine fA_Stp_2 ?_
  refine fA_Tas_0 ?_
  refine gr_sto h13 (fun _ => by kernel_rfl) (by simp [stC]) rfl fun w14 h14 _ => ?_
  refine gr_get 8 h14 hn (by simp) rfl fun w15 h15 _ => ?_
  refine fA_Stp_2 ?_
  refine fA_Tas_1 ?_
  refine gr_sto h15 (fun _ => by kernel_rfl) (by simp [stC]) rfl fun w16 h16 _ => ?_
  refine gr_get 2 h16 hn (by simp) rfl fun w17 h17 _ => ?_
  refine less_of (lt2 _) ?_
  refine fA_Stp_2 ?_
  refine fA_Tas_2 ?_
  refine gr_sto h17 (fun _ => by kernel_rfl) (by simp [stC]) rfl fun w18 h18 _ => ?_
  refine gr_get 8 h18 hn (by simp) rfl fun w19 h19 _ => ?_
  refine bin_sub ?_
  refine convAm ?_
  refine fA_Stp_2 ?_
  refine fA_Tas_3 ?_
  refine gr_sto h19 (fun _ => by kernel_rfl) (by simp [stC]) rfl fun w20 h20 _ => ?_
  refine leatref29_Get_A2_r ?_
  refine gr_get 8 h20 hn (by simp) rfl fun w21 h21 _ => ?_
  refine fA_Stp_2 ?_
  refine fA_Tas_4 ?_
  refine gr_sto h21 (fun _ => by kernel_rfl) (by simp [stC]) rfl fun w22 h22 _ => ?_
  refine gr_get 8 h22 hn (by simp) rfl fun w23 h23 _ => ?_
  refine fA_Stp_2 ?_
  refine fA_Tas_5 ?_
  refine gr_sto h23 (fun _ => by kernel_rfl) (by simp [stC]) rfl fun w24 h24 _ => ?_
  refine gr_get 1 h24 hn (by simp) rfl fun w26 h26 _ => ?_
  have hs0 : GR w w26 p q w.heap.size a n c b (rdsT b (0, false)).st (stC (stpT (rdsT b (0, false)) []) (.slice none 0 0)) := h26
  clear h4 h5 h6 h7 h8 h9 h10 h11 h12 h13 h14 h15 h16 h17 h18 h19 h20 h21 h22 h23 h24 h26
  have hgp := getR_eq b
  unfold getR at hgp
  simp only at hgp
  have hcnt : (rdsT b (0, false)).cnt < 256 := lt1 _
  have hSW : ∀ l, STW (stpT (rdsT b (0, false)) l) := fun l => ⟨by have : (rdsT b (0, false)).d < 256 := lt1 _; simp only [stpT]; omega, by have : (rdsT b (0, false)).kind < 256 := lt1 _; simp only [stpT]; omega,
    by have : (rdsT b (0, false)).node < 256 ^ 8 := gtE_lt; simp only [stpT]; omega, by have : (rdsT b (0, false)).req < 256 ^ 8 := gtE_lt; simp only [stpT]; omega, by have : (rdsT b (0, false)).of_ < 256 ^ 8 := gtE_lt; simp only [stpT]; omega⟩
  have hcn : (gtE b (gtE b (gtE b (gtE b (gtE b (gtE b (gtE b (gtE b (gtE b (gtE b (gtE b (gtE b (0, false) 1).2 2).2 2).2 2).2 4).2 1).2 8).2 2).2 8).2 8).2 8).2 1).1 = (rdsT b (0, false)).cnt := rfl
  rw [hcn]
  refine cvUI (by omega) (by omega) ?_
  have hpl := pksE_len b (rdsT b (0, false)).cnt (rdsT b (0, false)).st
  generalize hfull : pksE b (rdsT b (0, false)).cnt (rdsT b (0, false)).st = full at hgp hpl
  refine leatref29_Get_L1_r (Inv := fun i _ _ _ _ _ wr => ∃ (m : Nat) (acc : List Int) (st : EyS) (a' : Option Addr) (c' : Nat), i = .int .i64 (((rdsT b (0, false)).cnt : Int) - (m : Nat)) ∧ m ≤ (rdsT b (0, false)).cnt ∧ GR w wr p q w.heap.size a n c b st (stC (stpT (rdsT b (0, false)) acc) (.slice a' acc.length c')) ∧ ON wr w26.heap.size a' acc.length c' acc ∧
      (acc ++ (pksE b m st).1, (pksE b m st).2) = full ∧ acc.length + m ≤ 256 ∧ w26.heap.size ≤ wr.heap.size)
    (μ := fun i _ _ _ _ _ _ => ((rdsT b (0, false)).cnt - intOf i).toNat) ⟨(rdsT b (0, false)).cnt, [], (rdsT b (0, false)).st, none, 0, by rw [Int.sub_self], Nat.le_refl _, hs0, OV.nil _ _ _, by simpa using hfull, by simp; omega, Nat.le_refl _⟩ ?_
  rintro _ _ _ _ _ _ dd w27 m0 ⟨m, acc, st, a', c', rfl, hmc, hs1, hon, hf, ham, hsz2⟩ hm0
  have hpq := hs0.sp.lt
  have hpp := hs0.ey.lt
  have hrr := hs0.rs.lt
  have fin0 : pksE b m st = ([], st) → full = (acc, st) := fun he => by rw [he] at hf; simpa using hf.symm
  have hW1 := hSW acc
  have fin1 : pksE b m st = ([], st) → ∀ w', ¬ (st.2 = false ∧ b ≠ [] ∧ putT (stpT (rdsT b (0, false)) acc) = b) → Below w.heap.size w w' → K (.tuple #[.agg stp0.toArray, .int .i64 5]) w' := by
    intro he w' hbad hb
    refine h w' _ hb ?_
    rw [fin0 he, if_neg hbad] at hgp
    rw [← hgp]
  have fin2 : pksE b m st = ([], st) → ∀ w', (st.2 = false ∧ b ≠ [] ∧ putT (stpT (rdsT b (0, false)) acc) = b) → Below w.heap.size w w' → ON w' w.heap.size a' acc.length c' acc → K (.tuple #[.agg (stC (stpT (rdsT b (0, false)) acc) (.slice a' acc.length c')).toArray, .int .i64 0]) w' := by
    intro he w' x1 hb hrn
    refine h w' _ hb ?_
    rw [fin0 he, if_pos x1] at hgp
    rw [← hgp]
    exact ⟨a', c', hrn, rfl⟩
  have hal : acc.length ≤ 1000 := by omega
  have hey := hs1.ey
  refine bin_lss ?_
  by_cases hm : m = 0
  · subst hm
    refine gsel_pf (by simp) ?_
    refine pick_f (by simp) ?_
    refine cond_F ?_
    exact rgetP1_c (s := stpT (rdsT b (0, false)) acc) hs1 hW1 hlen hn hon hal (fin1 rfl) (fin2 rfl) rfl hrr hpq rfl rfl rfl rfl
  have hlt : ((rdsT b (0, false)).cnt : Int) - (m : Nat) < (rdsT b (0, false)).cnt := by omega
  refine gsel_pt hlt ?_
  refine nilC_p ?_
  refine fA_Rdr_2 ?_
  obtain ⟨i, sp⟩ := st
  refine ld1 (v := .bool sp) (fun _ => by kernel_rfl) hey rfl ?_
  refine un_not ?_
  refine pick_t hlt ?_
  cases sp with
  | true =>
    rw [Bool.not_true]
    refine cond_F ?_
    have he : pksE b m (i, true) = ([], (i, true)) := by cases m <;> rfl
    exact rgetP1_c (s := stpT (rdsT b (0, false)) acc) hs1 hW1 hlen hn hon hal (fin1 he) (fin2 he) rfl hrr hpq rfl rfl rfl rfl
  | false =>
    rw [Bool.not_false]
    refine cond_T ?_
    obtain ⟨m, rfl⟩ := Nat.exists_eq_succ_of_ne_zero hm
    have he : pksE b (m + 1) (i, false) = ((((gtE b (i, false) 1).1 : Int) - 1) :: (pksE b m (gtE b (i, false) 1).2).1, (pksE b m (gtE b (i, false) 1).2).2) := rfl
    rw [Nat.succ_eq_add_one, he] at hf
    have hgl := lt1 (i, false)
    refine hReg_of (fun z => blk z q 27 (stC (stpT (rdsT b (0, false)) acc) (.slice a' acc.length c'))) hs1.drew.sp ?_
    refine hld_of (fun z hz K hK => fA_Stp_6 hK) ?_
    refine hld_of (v := .slice a' acc.length c') (fun z hz K hK => ld1 (fun _ => by kernel_rfl) hz rfl hK) ?_
    refine gr_get 1 hs1.drew hn (by simp) rfl fun w28 h28 o28 => ?_
    refine hSub_same h28.sp ?_
    refine hld_of (v := i6 ((gtE b (i, false) 1).1 : Nat)) (fun z hz K hK => cvUI (by omega) (by omega) hK) ?_
    refine hld_of (v := i6 (((gtE b (i, false) 1).1 : Nat) - 1)) (fun z hz K hK => sub64 (by omega) (by omega) hK) ?_
    generalize ((gtE b (i, false) 1).1 : Int) - 1 = x at hf
    have hon28 : ON w28 w26.heap.size a' acc.length c' acc := ownS hon fun k hk => o28.other k (by have := (OV.block hon k hk).1; omega)
    refine bldSG (vs := [i6 x]) Tryz.underlying25 (s := 1) (by kernel_rfl) (by kernel_rfl) (by omega) rfl (by simp) (by simp) (by simp) (by simp [Value.cells, i6]) ?_
    intro w29 hb29 b29 s29
    have hb29 : blk w29 w28.heap.size 3 [i6 x] := by simpa [Value.cells, i6] using hb29
    have h29 := h28.fresh b29
    refine hSub_same h29.sp ?_
    have hon29 : ON w29 w26.heap.size a' acc.length c' acc := ownS hon28 fun k hk => b29.block k (OV.block hon28 k hk).2
    have hsz28 : w28.heap.size = w27.heap.size := o28.size
    refine apN hon29 hb29 (by omega) (by omega) ?_
    intro a2 c2 w30 hon30 g30
    have hne : ∀ {k : Nat} {E : TypeId} {cs : List Value}, blk w29 k E cs → k < w26.heap.size → blk w30 k E cs := by
      intro k E cs hb hk
      unfold blk
      rw [g30.block k hb.lt (fun e => by have := (OV.block hon29 k e.symm).1; omega)]
      exact hb
    have b30 : Below w26.heap.size w29 w30 := below_of_grown g30 (by omega) (fun k hk => (OV.block hon29 k hk).1)
    have h30 : GR w w30 p q w.heap.size a n c b (gtE b (i, false) 1).2 (stC (stpT (rdsT b (0, false)) acc) (.slice a' acc.length c')) :=
      ⟨hne h29.ey hpp, hne h29.sp hpq, hne h29.rs hrr, h29.at_, h29.bel.trans (b30.mono (by omega)), h29.rb, h29.pq, h29.rp, h29.rq, h29.lp, h29.lq⟩
    refine hReg_of (fun _ => True) trivial ?_
    refine hld_of (fun z hz K hK => fA_Stp_6 hK) ?_
    refine gr_sto h30 (fun _ => by kernel_rfl) (by simp [stC]) rfl fun w31 h31 o31 => ?_
    have hon31 : ON w31 w26.heap.size a2 (acc.length + 1) c2 (acc ++ [x]) := ownS hon30 fun k hk => o31.other k (by have := (OV.block hon30 k hk).1; omega)
    refine add64 (by omega) (by omega) ?_
    have hs30 : w29.heap.size ≤ w30.heap.size := b30.size
    refine ⟨⟨m, acc ++ [x], (gtE b (i, false) 1).2, a2, c2, by congr 1; omega, by omega, ?_, ?_, ?_, by simp; omega, by rw [o31.size]; omega⟩, by rw [hm0]; simp only [intOf]; omega⟩
    · rw [List.length_append, List.length_singleton]; exact h31
    · rw [List.length_append, List.length_singleton]; exact hon31
    · rw [← hf]; simp
theorem got_on {B : Nat} {wz : World} {v : Value} {g : Option STP} (hv : match g with | none => v = .tuple #[.agg stp0.toArray, .int .i64 5] | some s => ∃ a' c', ON wz B a' s.picks.length c' s.picks ∧ v = .tuple #[.agg (stC s (.slice a' s.picks.length c')).toArray, .int .i64 0]) :
    match (generalizing := false) g with | none => v = .tuple #[.agg stp0.toArray, .int .i64 5] | some s => ∃ a' c', RH wz B a' s.picks.length c' s.picks ∧ v = .tuple #[.agg (stC s (.slice a' s.picks.length c')).toArray, .int .i64 0] := by
  cases g with
  | none => exact hv
  | some s => obtain ⟨a', c', h1, h2⟩ := hv; exact ⟨a', c', ON.rh h1 (Nat.le_refl _), h2⟩
end
end Go.Proofs.YtfjafbbalohmhaaGreatDoor
/- Stores into bytes of the call's own: what is written stays a byte string of the same length; what lies below is untouched. -/
namespace Go.Proofs.YtfjafbbalohmhaaGreatDoor
set_option maxRecDepth 100000
open Go.RowKit

theorem setCell_block {w : World} {b o : Nat} {u : Value} {cur : Array Value} {e : TypeId} {fr : Nat × Nat} (h : w.heap[b]? = some (.cells cur e fr)) : (w.setCell ⟨b, o, none⟩ u).heap[b]? = some (.cells (cur.setIfInBounds o u) e fr) := by
  have hlt := (Array.getElem?_eq_some_iff.1 h).1
  have h' : w.heap[b] = .cells cur e fr := by simpa [Array.getElem?_eq_getElem hlt] using h
  show (w.heap.modify b _)[b]? = _
  rw [Array.getElem?_eq_getElem (by simpa using hlt), Array.getElem_modify_self, h']
  rfl

theorem OB.set {w : World} {B : Nat} {a : Option Addr} {n c : Nat} {l : List UInt8} (h : OB w B a n c l) (b o : Nat) (z : UInt8) : ∃ l', OB (w.setCell ⟨b, o, none⟩ (u8v z)) B a n c l' := by
  rcases h.2 with ⟨hv, hn⟩ | ⟨g, cap, cur, hv, hb, hh, h1, h2, h3, h4⟩
  · have hl : l = [] := List.eq_nil_of_length_eq_zero (by rw [h.len, hn])
    subst hl
    exact ⟨[], h.1, .inl ⟨hv, hn⟩⟩
  · by_cases hg : g = b
    · subst hg
      refine ⟨l.set o z, by simpa using h.1, .inr ⟨g, cap, cur.setIfInBounds o (u8v z), hv, hb, setCell_block hh, h1, h2, by simpa using h3, ?_⟩⟩
      rw [Array.toList_setIfInBounds, List.take_set, h4, List.map_set]
    · refine ⟨l, h.1, .inr ⟨g, cap, cur, hv, hb, ?_, h1, h2, h3, h4⟩⟩
      rw [Below.heap_setCell w _ _ g hg]; exact hh

theorem OB.max {w : World} {B : Nat} {a : Option Addr} {n c : Nat} {l : List UInt8} (h : OB w B a n c l) : n ≤ 9223372036854775807 := by
  rcases h.2 with ⟨hv, hn⟩ | ⟨g, cap, cur, hv, hb, hh, h1, h2, h3, h4⟩
  · omega
  · simp only [maxLen] at h2; omega

/-- A row of byte slices of the call's own, whatever they hold. -/
structure OBX (w : World) (B : Nat) (a : Option Addr) (n c : Nat) (vs : List (Option Addr × Nat × Nat)) : Prop where
  row : OV w B 28 a n c (vs.map slv)
  each : ∀ (i : Nat) (v : Option Addr × Nat × Nat), vs[i]? = some v → ∃ l, OB w B v.1 v.2.1 v.2.2 l

theorem OBB.obx {w : World} {B : Nat} {a : Option Addr} {n c : Nat} {vs : List (Option Addr × Nat × Nat)} {L : List (List UInt8)} (h : OBB w B a n c vs L) : OBX w B a n c vs :=
  ⟨h.row, fun i v hv => by
    have hi := (List.getElem?_eq_some_iff.1 hv).1
    exact ⟨L[i]'(by rw [← h.len]; exact hi), h.each i v _ hv (List.getElem?_eq_getElem _)⟩⟩
theorem OBX.below {w w' : World} {B D : Nat} {a : Option Addr} {n c : Nat} {vs : List (Option Addr × Nat × Nat)} (h : OBX w B a n c vs) (hb : Below D w w') (hD : w.heap.size ≤ D) : OBX w' B a n c vs :=
  ⟨h.row.below hb hD, fun i v hv => by obtain ⟨l, hl⟩ := h.each i v hv; exact ⟨l, hl.below hb hD⟩⟩
theorem OBX.mono {w : World} {B B' : Nat} {a : Option Addr} {n c : Nat} {vs : List (Option Addr × Nat × Nat)} (h : OBX w B a n c vs) (hB : B' ≤ B) : OBX w B' a n c vs :=
  ⟨h.row.mono hB, fun i v hv => by obtain ⟨l, hl⟩ := h.each i v hv; exact ⟨l, OV.mono hl hB⟩⟩
theorem OBX.set {w : World} {B : Nat} {a : Option Addr} {n c : Nat} {vs : List (Option Addr × Nat × Nat)} (h : OBX w B a n c vs) (b o : Nat) (z : UInt8) (hb : ∃ cur, w.heap[b]? = some (.cells cur 5 (0, 0))) :
    OBX (w.setCell ⟨b, o, none⟩ (u8v z)) B a n c vs := by
  refine ⟨ownsRow_setCell_other h.row ?_ _, fun i v hv => by obtain ⟨l, hl⟩ := h.each i v hv; exact hl.set b o z⟩
  obtain ⟨cur, hc⟩ := hb
  rcases h.row.2 with ⟨hv, _⟩ | ⟨g, cap, cur2, hv, _, hh, _⟩
  · rw [hv]; simp [Value.ownBlock]
  · rw [hv]
    simp only [Value.ownBlock, ne_eq, Option.some.injEq]
    intro he
    rw [he, hc] at hh
    simp at hh

section
variable {w : World} {K : KV}

theorem sto8 {B : Nat} {a : Option Addr} {n c i : Nat} {l : List UInt8} {v : Value} (ho : OB w B a n c l) (hi : i < n) (hv : ∃ z : UInt8, v = u8v z)
    (h : ∀ b o z, B ≤ b → (∃ cur, w.heap[b]? = some (.cells cur 5 (0, 0))) → K undef (w.setCell ⟨b, o, none⟩ (u8v z))) : sto Tryz.prog 5 (.pointer (some (slotA a i))) v K w := by
  obtain ⟨z, rfl⟩ := hv
  have hr := OB.rb ho
  rcases ho.2 with ⟨hv, hn⟩ | ⟨g, cap, cur, hv, hb, hh, h1, h2, h3, h4⟩
  · omega
  · simp only [Value.slice.injEq] at hv
    obtain ⟨rfl, _, rfl⟩ := hv
    have hl : i < l.length := by rw [hr.len]; exact hi
    have hc := hr.cell i hl
    rw [slotA_some] at hc ⊢
    refine sto_cell size_u8 rfl rfl hc ?_ rfl (h _ _ z hb ⟨cur, hh⟩)
    simp [World.frozen?, hh]

theorem xor8_val (x v : Int) : ∃ z : UInt8, Value.int .u8 (bitsOp .xor .u8 x v) = u8v z := by
  refine ⟨UInt8.ofNat (bitsOp .xor .u8 x v).toNat, ?_⟩
  unfold bitsOp
  simp only [u8v, UInt8.toNat_ofNat']
  rw [wrap_u8]
  congr 1
  omega
theorem xor8 {x : Int} {v : Int} {t : TypeId} {cx cy : Bool} (h : ∀ u, (∃ z : UInt8, u = u8v z) → K u w) : bin Tryz.prog .xor t cx cy (.int .u8 x) (.int .u8 v) K w := by
  refine bin_xor (h _ ?_)
  refine ⟨UInt8.ofNat (bitsOp .xor .u8 x v).toNat, ?_⟩
  unfold bitsOp
  simp only [u8v, UInt8.toNat_ofNat']
  rw [wrap_u8]
  congr 1
  omega

/-- l[i], read as a slice that holds bytes of the call's own. -/
theorem idxX {B : Nat} {a : Option Addr} {n c j : Nat} {vs : List (Option Addr × Nat × Nat)} {k : IntKind} {v : Option Addr × Nat × Nat} (hr : OBX w B a n c vs) (hv : vs[j]? = some v)
    (h : w.cell? (slotA a j) = some (.slice v.1 v.2.1 v.2.2) → K (.pointer (some (slotA a j))) w) : idxA Tryz.prog 33 (.slice a n c) (.int k (j : Nat)) K w := by
  have := idx_cell (K := K) (w := w) (k := k) (iv := (j : Nat)) Tryz.underlying33 size_sl (OV.rv hr.row) (by omega) (v := slv v) (by simp [List.getElem?_map, hv])
  rw [Int.toNat_natCast] at this
  exact this h
end

section
attribute [local irreducible] bin un conv call callV blt slc fldA fld idxA idx lkp mUpd mEnt eSt rng nxt ent ext alc box bld bldS ld sto nilC mkMap mkS ifc pick rdy wts gsel sti cond retM Gives cCode cGrp cSeq cOp
theorem idxB {w : World} {K : KV} {B : Nat} {a : Option Addr} {n c i : Nat} {l : List UInt8} {k : IntKind} (ho : OB w B a n c l) (hi : i < n) (h : w.cell? (slotA a i) = some (.int .u8 ((l.getD i 0).toNat : Int)) → K (.pointer (some (slotA a i))) w) :
    idxA Tryz.prog 28 (.slice a n c) (.int k (i : Nat)) K w := by
  refine idx8 ho.rb (by omega) (by omega) ?_
  rw [Int.toNat_natCast]; exact h
theorem OB.oth {w w' : World} {g B : Nat} {a : Option Addr} {n c : Nat} {l : List UInt8} (h : OB w B a n c l) (ho : Oth g w w') (hg : g < B) : OB w' B a n c l := by
  refine ⟨h.1, ?_⟩
  rcases h.2 with h2 | ⟨k, cap, cur, hv, hb, hh, r⟩
  · exact .inl h2
  · exact .inr ⟨k, cap, cur, hv, hb, (ho.other k (by omega)).trans hh, r⟩
theorem OBB.oth {w w' : World} {g B : Nat} {a : Option Addr} {n c : Nat} {vs : List (Option Addr × Nat × Nat)} {L : List (List UInt8)} (h : OBB w B a n c vs L) (ho : Oth g w w') (hg : g < B) : OBB w' B a n c vs L := by
  refine ⟨⟨h.row.1, ?_⟩, h.len, fun i v l hv hl => (h.each i v l hv hl).oth ho hg⟩
  rcases h.row.2 with h2 | ⟨k, cap, cur, hv, hb, hh, r⟩
  · exact .inl h2
  · exact .inr ⟨k, cap, cur, hv, hb, (ho.other k (by omega)).trans hh, r⟩
/-- b[i] = z, and the block that it lies in. -/
theorem stoO {w : World} {K : KV} {B : Nat} {a : Option Addr} {n c i : Nat} {l : List UInt8} {v : Value} (ho : OB w B a n c l) (hi : i < n) (hv : ∃ z : UInt8, v = u8v z)
    (h : ∀ w' g l', (∀ ad, a = some ad → ad.block = g) → B ≤ g → g < w.heap.size → OB w' B a n c l' → Oth g w w' → K undef w') : sto Tryz.prog 5 (.pointer (some (slotA a i))) v K w := by
  have hl := ho.len
  obtain ⟨z, rfl⟩ := hv
  rcases ho.2 with ⟨hv, hn⟩ | ⟨g, cap, cur, hv, hb, hh, h1, h2, h3, h4⟩
  · omega
  · cases hv
    have hb2 : blk w g 5 cur.toList := hh
    rw [slotA_some]
    refine sto1 size_u8 hb2 (by simp; omega) rfl ?_
    intro w' hb' ho'
    refine h w' g (l.set i z) (fun ad ha => by cases ha; rfl) hb hb2.lt ⟨by simpa using ho.1, .inr ⟨g, c, (cur.toList.set (0 + i) (u8v z)).toArray, rfl, hb, hb', h1, h2, by simpa using h3, ?_⟩⟩ ho'
    rw [Nat.zero_add, List.take_set, h4, List.map_set]

/-- The same, and what the block holds. -/
theorem stoZ {w : World} {K : KV} {B : Nat} {a : Option Addr} {n c i : Nat} {l : List UInt8} {v : Value} (ho : OB w B a n c l) (hi : i < n) (hv : ∃ z : UInt8, v = u8v z)
    (h : ∀ w' g l', (∀ ad, a = some ad → ad.block = g) → B ≤ g → g < w.heap.size → (∃ cs, blk w g 5 cs) → OB w' B a n c l' → Oth g w w' → K undef w') : sto Tryz.prog 5 (.pointer (some (slotA a i))) v K w := by
  have hl := ho.len
  obtain ⟨z, rfl⟩ := hv
  rcases ho.2 with ⟨hv, hn⟩ | ⟨g, cap, cur, hv, hb, hh, h1, h2, h3, h4⟩
  · omega
  · cases hv
    have hb2 : blk w g 5 cur.toList := hh
    rw [slotA_some]
    refine sto1 size_u8 hb2 (by simp; omega) rfl ?_
    intro w' hb' ho'
    refine h w' g (l.set i z) (fun ad ha => by cases ha; rfl) hb hb2.lt ⟨_, hb2⟩ ⟨by simpa using ho.1, .inr ⟨g, c, (cur.toList.set (0 + i) (u8v z)).toArray, rfl, hb, hb', h1, h2, by simpa using h3, ?_⟩⟩ ho'
    rw [Nat.zero_add, List.take_set, h4, List.map_set]

end
end Go.Proofs.YtfjafbbalohmhaaGreatDoor
/- Written by program (gen.py): what the code of some functions asks, part by part; each text is checked by the kernel against the translation. -/
namespace Go.Proofs.YtfjafbbalohmhaaGreatDoor
open Go.RowKit
set_option maxRecDepth 100000

def leatlaw29_TraceBytes_A1 (K : KV) : KE := cCode Tryz.prog (cd Tryz.f3 [1, 1, 1, 1, 1]) (retK Tryz.prog Tryz.f3.results.toList K) (fun _ _ _ => False) (retK Tryz.prog Tryz.f3.results.toList K)
def leatlaw29_TraceBytes_P1 (K : KV) : KE := cCode Tryz.prog (cd Tryz.f3 [1, 1, 1, 1, 1, 1]) (retK Tryz.prog Tryz.f3.results.toList K) (fun _ _ _ => False) (retK Tryz.prog Tryz.f3.results.toList K)
def leatlaw29_TraceBytes_A2 (K : KV) : KE := cCode Tryz.prog (cd Tryz.f3 [1, 1, 1, 1, 1, 0, 1]) (leatlaw29_TraceBytes_P1 K) (fun _ _ _ => False) (retK Tryz.prog Tryz.f3.results.toList K)
def leatlaw29_TraceBytes_P2 (K : KV) : KE := cCode Tryz.prog (cd Tryz.f3 [1, 1, 1, 1, 1, 1, 1, 1]) (retK Tryz.prog Tryz.f3.results.toList K) (fun _ _ _ => False) (retK Tryz.prog Tryz.f3.results.toList K)
def leatlaw29_TraceBytes_L1 (K : KV) : KE := cCode Tryz.prog (cd Tryz.f3 [1, 1, 1, 1, 1, 1, 1, 0, 1, 0]) (leatlaw29_TraceBytes_P2 K) (fun i => @Bool.rec (fun _ => KE) ((fun _ _ _ => False) i) (leatlaw29_TraceBytes_P2 K) (Nat.beq i 0)) (retK Tryz.prog Tryz.f3.results.toList K)
def leatlaw29_TraceBytes_P3 (K : KV) (B1 : KE) : KE := cCode Tryz.prog (cd Tryz.f3 [1, 1, 1, 1, 1, 1, 1, 0, 1, 0, 0, 1, 1]) B1 (fun i => @Bool.rec (fun _ => KE) ((fun _ _ _ => False) i) (leatlaw29_TraceBytes_P2 K) (Nat.beq i 0)) (retK Tryz.prog Tryz.f3.results.toList K)
def leatlaw29_TraceBytes_A3 (K : KV) (B1 : KE) : KE := cCode Tryz.prog (cd Tryz.f3 [1, 1, 1, 1, 1, 1, 1, 0, 1, 0, 0, 1, 0, 0, 1, 1, 1]) (leatlaw29_TraceBytes_P3 K B1) (fun i => @Bool.rec (fun _ => KE) ((fun i => @Bool.rec (fun _ => KE) ((fun _ _ _ => False) i) (leatlaw29_TraceBytes_P2 K) (Nat.beq i 0)) i) (leatlaw29_TraceBytes_P3 K B1) (Nat.beq i 1)) (retK Tryz.prog Tryz.f3.results.toList K)
theorem leatlaw29_TraceBytes_k {K : KV} (xc0 : Code) {s0 raw1 at2 by3 : Value} {w : World}
    (h : box Tryz.prog 27 s0 (fun s4 w =>
    fldA Tryz.prog 27 s4 6 (fun A1 w =>
    ld Tryz.prog 25 A1 (fun A2 w =>
    blt Tryz.prog Builtin.len #[25] 3 #[false] #[A2] (fun A3 w =>
    bin Tryz.prog BinOp.gtr 3 false true A3 (Value.int IntKind.i64 300) (fun A4 w =>
    gsel A4 false (fun k23 =>
    blt Tryz.prog Builtin.len #[28] 3 #[false] #[raw1] (fun A7 w =>
    bin Tryz.prog BinOp.gtr 3 false true A7 (Value.int IntKind.i64 4000) (fun A8 w =>
    k23 [raw1, A7, A8] w) w) w)
    (fun k => k [undef, undef, undef] w) (fun us23 w =>
    pick A4 (Value.bool true) (gd us23 2) (fun A9 w =>
    cond A9
      (call Tryz.prog 7 #[] (fun C0 w =>
      K C0 w) w)
      (ld Tryz.prog 27 s4 (fun C1 w =>
    call Tryz.prog 8 #[C1] (fun C2 w =>
    hReg (fun S w =>
    hld S (fun k w => ld Tryz.prog 27 s4 k w) (fun C3 =>
    hld S (fun k w => ld Tryz.prog 27 s4 k w) (fun C5 =>
    call Tryz.prog 9 #[C3] (fun C4 w =>
    hSub S (fun S w =>
    call Tryz.prog 10 #[C5] (fun C6 w =>
    hReg (fun S w =>
    hld S (fun k w => bin Tryz.prog BinOp.neq 4 false false C4 C6 k w) (fun C7 =>
    hG C7 false S (fun k w => k C2 w) (fun C9 =>
    hG C7 false S (fun k w => conv Tryz.prog 28 9 C9 k w) (fun D0 =>
    hG C7 false S (fun k w => ld Tryz.prog 27 s4 k w) (fun D1 =>
    xG C7 false (fun k w => call Tryz.prog 11 #[D1] k w) (fun D2 w =>
    hSub S (fun S w =>
    hG C7 false S (fun k w => conv Tryz.prog 28 9 D2 k w) (fun D3 =>
    hG C7 false S (fun k w => bin Tryz.prog BinOp.neq 9 false false D0 D3 k w) (fun D4 =>
    hld S (fun k w => pick C7 (Value.bool true) D4 k w) (fun D5 =>
    cond D5
      (K (Value.bool false) w)
      (bldS Tryz.prog 28 0 #[] (fun D6 w =>
    blt Tryz.prog Builtin.append #[28, 28] 28 #[false, false] #[D6, C2] (fun D8 w =>
    (cCode Tryz.prog xc0 (retK Tryz.prog Tryz.f3.results.toList K) (fun _ _ _ => False) (retK Tryz.prog Tryz.f3.results.toList K)) (s0::raw1::at2::by3::s4::undef::undef::undef::(Value.bool false)::C2::D8::undef::undef::undef::undef::undef::undef::undef::A1::A2::A3::A4::A4::(gd us23 0)::(gd us23 1)::(gd us23 2)::A9::undef::C1::C2::C3::C4::C5::C6::C7::C7::C9::D0::D1::D2::D3::D4::D5::D6::C2::D8::undef::undef::undef::undef::undef::undef::undef::undef::undef::undef::undef::undef::undef::undef::undef::undef::undef::undef::undef::undef::undef::undef::undef::undef::undef::undef::undef::undef::undef::undef::undef::undef::undef::undef::undef::undef::undef::undef::undef::undef::undef::undef::undef::undef::undef::undef::undef::undef::undef::undef::undef::undef::undef::undef::undef::undef::undef::undef::undef::undef::[]) w) w) w))))) w) w))))) w) w) w) w))) w.drew) w) w)) w)) w) w) w) w) w) :
    cCode Tryz.prog (rep [1, 1, 1, 1, 1] xc0 (cd Tryz.f3 [])) (retK Tryz.prog Tryz.f3.results.toList K) (fun _ _ _ => False) (retK Tryz.prog Tryz.f3.results.toList K) (s0::raw1::at2::by3::undef::undef::undef::undef::undef::undef::undef::undef::undef::undef::undef::undef::undef::undef::undef::undef::undef::undef::undef::undef::undef::undef::undef::undef::undef::undef::undef::undef::undef::undef::undef::undef::undef::undef::undef::undef::undef::undef::undef::undef::undef::undef::undef::undef::undef::undef::undef::undef::undef::undef::undef::undef::undef::undef::undef::undef::undef::undef::undef::undef::undef::undef::undef::undef::undef::undef::undef::undef::undef::undef::undef::undef::undef::undef::undef::undef::undef::undef::undef::undef::undef::undef::undef::undef::undef::undef::undef::undef::undef::undef::undef::undef::undef::undef::undef::undef::undef::undef::undef::undef::undef::undef::[]) w := Eq.mp (by kernel_rfl) h

theorem leatlaw29_TraceBytes_in {K : KV} {s0 raw1 at2 by3 : Value} {w : World}
    (h : box Tryz.prog 27 s0 (fun s4 w =>
    fldA Tryz.prog 27 s4 6 (fun A1 w =>
    ld Tryz.prog 25 A1 (fun A2 w =>
    blt Tryz.prog Builtin.len #[25] 3 #[false] #[A2] (fun A3 w =>
    bin Tryz.prog BinOp.gtr 3 false true A3 (Value.int IntKind.i64 300) (fun A4 w =>
    gsel A4 false (fun k23 =>
    blt Tryz.prog Builtin.len #[28] 3 #[false] #[raw1] (fun A7 w =>
    bin Tryz.prog BinOp.gtr 3 false true A7 (Value.int IntKind.i64 4000) (fun A8 w =>
    k23 [raw1, A7, A8] w) w) w)
    (fun k => k [undef, undef, undef] w) (fun us23 w =>
    pick A4 (Value.bool true) (gd us23 2) (fun A9 w =>
    cond A9
      (call Tryz.prog 7 #[] (fun C0 w =>
      K C0 w) w)
      (ld Tryz.prog 27 s4 (fun C1 w =>
    call Tryz.prog 8 #[C1] (fun C2 w =>
    hReg (fun S w =>
    hld S (fun k w => ld Tryz.prog 27 s4 k w) (fun C3 =>
    hld S (fun k w => ld Tryz.prog 27 s4 k w) (fun C5 =>
    call Tryz.prog 9 #[C3] (fun C4 w =>
    hSub S (fun S w =>
    call Tryz.prog 10 #[C5] (fun C6 w =>
    hReg (fun S w =>
    hld S (fun k w => bin Tryz.prog BinOp.neq 4 false false C4 C6 k w) (fun C7 =>
    hG C7 false S (fun k w => k C2 w) (fun C9 =>
    hG C7 false S (fun k w => conv Tryz.prog 28 9 C9 k w) (fun D0 =>
    hG C7 false S (fun k w => ld Tryz.prog 27 s4 k w) (fun D1 =>
    xG C7 false (fun k w => call Tryz.prog 11 #[D1] k w) (fun D2 w =>
    hSub S (fun S w =>
    hG C7 false S (fun k w => conv Tryz.prog 28 9 D2 k w) (fun D3 =>
    hG C7 false S (fun k w => bin Tryz.prog BinOp.neq 9 false false D0 D3 k w) (fun D4 =>
    hld S (fun k w => pick C7 (Value.bool true) D4 k w) (fun D5 =>
    cond D5
      (K (Value.bool false) w)
      (bldS Tryz.prog 28 0 #[] (fun D6 w =>
    blt Tryz.prog Builtin.append #[28, 28] 28 #[false, false] #[D6, C2] (fun D8 w =>
    (leatlaw29_TraceBytes_A1 K) (s0::raw1::at2::by3::s4::undef::undef::undef::(Value.bool false)::C2::D8::undef::undef::undef::undef::undef::undef::undef::A1::A2::A3::A4::A4::(gd us23 0)::(gd us23 1)::(gd us23 2)::A9::undef::C1::C2::C3::C4::C5::C6::C7::C7::C9::D0::D1::D2::D3::D4::D5::D6::C2::D8::undef::undef::undef::undef::undef::undef::undef::undef::undef::undef::undef::undef::undef::undef::undef::undef::undef::undef::undef::undef::undef::undef::undef::undef::undef::undef::undef::undef::undef::undef::undef::undef::undef::undef::undef::undef::undef::undef::undef::undef::undef::undef::undef::undef::undef::undef::undef::undef::undef::undef::undef::undef::undef::undef::undef::undef::undef::undef::undef::undef::[]) w) w) w))))) w) w))))) w) w) w) w))) w.drew) w) w)) w)) w) w) w) w) w) :
    Gives Tryz.prog 3 #[s0, raw1, at2, by3] w K := enter' Tryz.func3 (by kernel_rfl) (Eq.mp (congrArg (fun c => cCode Tryz.prog c (retK Tryz.prog Tryz.f3.results.toList K) (fun _ _ _ => False) (retK Tryz.prog Tryz.f3.results.toList K) (s0::raw1::at2::by3::undef::undef::undef::undef::undef::undef::undef::undef::undef::undef::undef::undef::undef::undef::undef::undef::undef::undef::undef::undef::undef::undef::undef::undef::undef::undef::undef::undef::undef::undef::undef::undef::undef::undef::undef::undef::undef::undef::undef::undef::undef::undef::undef::undef::undef::undef::undef::undef::undef::undef::undef::undef::undef::undef::undef::undef::undef::undef::undef::undef::undef::undef::undef::undef::undef::undef::undef::undef::undef::undef::undef::undef::undef::undef::undef::undef::undef::undef::undef::undef::undef::undef::undef::undef::undef::undef::undef::undef::undef::undef::undef::undef::undef::undef::undef::undef::undef::undef::undef::undef::undef::undef::[]) w) (by kernel_rfl : (rep [1, 1, 1, 1, 1] (cd Tryz.f3 [1, 1, 1, 1, 1]) (cd Tryz.f3 [])) = (cd Tryz.f3 []))) (leatlaw29_TraceBytes_k (cd Tryz.f3 [1, 1, 1, 1, 1]) h))
theorem leatlaw29_TraceBytes_go : isGo Tryz.prog 3 := ⟨_, Tryz.func3, by kernel_rfl, by kernel_rfl⟩

section
variable {s0 raw1 at2 by3 s4 raw5 at6 by7 A0 b9 turned10 all11 i12 own13 x14 e15 y16 f17 A1 A2 A3 A4 A5 A6 A7 A8 A9 C0 C1 C2 C3 C4 C5 C6 C7 C8 C9 D0 D1 D2 D3 D4 D5 D6 D7 D8 D9 E0 E1 E2 E3 E4 E5 E6 E7 E8 E9 F0 F1 F2 F3 F4 F5 F6 F7 F8 F9 G0 G1 G2 G3 G4 G5 G6 G7 G8 G9 H0 H1 H2 H3 H4 H5 H6 H7 H8 H9 I0 I1 I2 I3 I4 I5 I6 I7 I8 I9 J0 J1 J2 J3 J4 J5 J6 J7 J8 : Value}
theorem leatlaw29_TraceBytes_A1_k {K : KV} (xc0 : Code) {w : World}
    (h : blt Tryz.prog Builtin.len #[28] 3 #[false] #[turned10] (fun E0 w =>
    bin Tryz.prog BinOp.gtr 3 false true E0 (Value.int IntKind.i64 0) (fun E1 w =>
    (cCode Tryz.prog xc0 (cCode Tryz.prog (cd Tryz.f3 [1, 1, 1, 1, 1, 1]) (retK Tryz.prog Tryz.f3.results.toList K) (fun _ _ _ => False) (retK Tryz.prog Tryz.f3.results.toList K)) (fun _ _ _ => False) (retK Tryz.prog Tryz.f3.results.toList K)) (s0::raw1::at2::by3::s4::raw5::at6::by7::A0::b9::turned10::all11::i12::own13::x14::e15::y16::f17::A1::A2::A3::A4::A5::A6::A7::A8::A9::C0::C1::C2::C3::C4::C5::C6::C7::C8::C9::D0::D1::D2::D3::D4::D5::D6::D7::D8::turned10::E0::E1::E2::E3::E4::E5::E6::E7::E8::E9::F0::F1::F2::F3::F4::F5::F6::F7::F8::F9::G0::G1::G2::G3::G4::G5::G6::G7::G8::G9::H0::H1::H2::H3::H4::H5::H6::H7::H8::H9::I0::I1::I2::I3::I4::I5::I6::I7::I8::I9::J0::J1::J2::J3::J4::J5::J6::J7::J8::[]) w) w) w) :
    cCode Tryz.prog (rep [0, 1] xc0 (cd Tryz.f3 [1, 1, 1, 1, 1])) (retK Tryz.prog Tryz.f3.results.toList K) (fun _ _ _ => False) (retK Tryz.prog Tryz.f3.results.toList K) (s0::raw1::at2::by3::s4::raw5::at6::by7::A0::b9::turned10::all11::i12::own13::x14::e15::y16::f17::A1::A2::A3::A4::A5::A6::A7::A8::A9::C0::C1::C2::C3::C4::C5::C6::C7::C8::C9::D0::D1::D2::D3::D4::D5::D6::D7::D8::D9::E0::E1::E2::E3::E4::E5::E6::E7::E8::E9::F0::F1::F2::F3::F4::F5::F6::F7::F8::F9::G0::G1::G2::G3::G4::G5::G6::G7::G8::G9::H0::H1::H2::H3::H4::H5::H6::H7::H8::H9::I0::I1::I2::I3::I4::I5::I6::I7::I8::I9::J0::J1::J2::J3::J4::J5::J6::J7::J8::[]) w := Eq.mp (by kernel_rfl) h

theorem leatlaw29_TraceBytes_A1_r {K : KV} {w : World}
    (h : blt Tryz.prog Builtin.len #[28] 3 #[false] #[turned10] (fun E0 w =>
    bin Tryz.prog BinOp.gtr 3 false true E0 (Value.int IntKind.i64 0) (fun E1 w =>
    (leatlaw29_TraceBytes_A2 K) (s0::raw1::at2::by3::s4::raw5::at6::by7::A0::b9::turned10::all11::i12::own13::x14::e15::y16::f17::A1::A2::A3::A4::A5::A6::A7::A8::A9::C0::C1::C2::C3::C4::C5::C6::C7::C8::C9::D0::D1::D2::D3::D4::D5::D6::D7::D8::turned10::E0::E1::E2::E3::E4::E5::E6::E7::E8::E9::F0::F1::F2::F3::F4::F5::F6::F7::F8::F9::G0::G1::G2::G3::G4::G5::G6::G7::G8::G9::H0::H1::H2::H3::H4::H5::H6::H7::H8::H9::I0::I1::I2::I3::I4::I5::I6::I7::I8::I9::J0::J1::J2::J3::J4::J5::J6::J7::J8::[]) w) w) w) :
    leatlaw29_TraceBytes_A1 K (s0::raw1::at2::by3::s4::raw5::at6::by7::A0::b9::turned10::all11::i12::own13::x14::e15::y16::f17::A1::A2::A3::A4::A5::A6::A7::A8::A9::C0::C1::C2::C3::C4::C5::C6::C7::C8::C9::D0::D1::D2::D3::D4::D5::D6::D7::D8::D9::E0::E1::E2::E3::E4::E5::E6::E7::E8::E9::F0::F1::F2::F3::F4::F5::F6::F7::F8::F9::G0::G1::G2::G3::G4::G5::G6::G7::G8::G9::H0::H1::H2::H3::H4::H5::H6::H7::H8::H9::I0::I1::I2::I3::I4::I5::I6::I7::I8::I9::J0::J1::J2::J3::J4::J5::J6::J7::J8::[]) w := by
  delta leatlaw29_TraceBytes_A1
  exact Eq.mp (congrArg (fun c => cCode Tryz.prog c (retK Tryz.prog Tryz.f3.results.toList K) (fun _ _ _ => False) (retK Tryz.prog Tryz.f3.results.toList K) (s0::raw1::at2::by3::s4::raw5::at6::by7::A0::b9::turned10::all11::i12::own13::x14::e15::y16::f17::A1::A2::A3::A4::A5::A6::A7::A8::A9::C0::C1::C2::C3::C4::C5::C6::C7::C8::C9::D0::D1::D2::D3::D4::D5::D6::D7::D8::D9::E0::E1::E2::E3::E4::E5::E6::E7::E8::E9::F0::F1::F2::F3::F4::F5::F6::F7::F8::F9::G0::G1::G2::G3::G4::G5::G6::G7::G8::G9::H0::H1::H2::H3::H4::H5::H6::H7::H8::H9::I0::I1::I2::I3::I4::I5::I6::I7::I8::I9::J0::J1::J2::J3::J4::J5::J6::J7::J8::[]) w) (by kernel_rfl : (rep [0, 1] (cd Tryz.f3 [1, 1, 1, 1, 1, 0, 1]) (cd Tryz.f3 [1, 1, 1, 1, 1])) = (cd Tryz.f3 [1, 1, 1, 1, 1]))) (leatlaw29_TraceBytes_A1_k (cd Tryz.f3 [1, 1, 1, 1, 1, 0, 1]) h)

theorem leatlaw29_TraceBytes_A2_k {K : KV} (qc0 : KE) {w : World}
    (h : cond E1
      (conv Tryz.prog 29 3 at2 (fun E4 w =>
      blt Tryz.prog Builtin.len #[28] 3 #[false] #[turned10] (fun E6 w =>
      bin Tryz.prog BinOp.rem 3 false false E4 E6 (fun E7 w =>
      idxA Tryz.prog 28 turned10 E7 (fun E8 w =>
      ld Tryz.prog 5 E8 (fun E9 w =>
      bin Tryz.prog BinOp.xor 5 false false E9 by3 (fun F1 w =>
      idxA Tryz.prog 28 turned10 E7 (fun F2 w =>
      sto Tryz.prog 5 F2 F1 (fun _t w =>
      qc0 (s0::raw1::at2::by3::s4::raw5::at6::by7::A0::b9::turned10::all11::i12::own13::x14::e15::y16::f17::A1::A2::A3::A4::A5::A6::A7::A8::A9::C0::C1::C2::C3::C4::C5::C6::C7::C8::C9::D0::D1::D2::D3::D4::D5::D6::D7::D8::D9::E0::E1::turned10::at2::E4::turned10::E6::E7::E8::E9::by3::F1::F2::F3::F4::F5::F6::F7::F8::F9::G0::G1::G2::G3::G4::G5::G6::G7::G8::G9::H0::H1::H2::H3::H4::H5::H6::H7::H8::H9::I0::I1::I2::I3::I4::I5::I6::I7::I8::I9::J0::J1::J2::J3::J4::J5::J6::J7::J8::[]) w) w) w) w) w) w) w) w) w)
      (qc0 (s0::raw1::at2::by3::s4::raw5::at6::by7::A0::b9::turned10::all11::i12::own13::x14::e15::y16::f17::A1::A2::A3::A4::A5::A6::A7::A8::A9::C0::C1::C2::C3::C4::C5::C6::C7::C8::C9::D0::D1::D2::D3::D4::D5::D6::D7::D8::D9::E0::E1::E2::E3::E4::E5::E6::E7::E8::E9::F0::F1::F2::F3::F4::F5::F6::F7::F8::F9::G0::G1::G2::G3::G4::G5::G6::G7::G8::G9::H0::H1::H2::H3::H4::H5::H6::H7::H8::H9::I0::I1::I2::I3::I4::I5::I6::I7::I8::I9::J0::J1::J2::J3::J4::J5::J6::J7::J8::[]) w)) :
    cCode Tryz.prog (cd Tryz.f3 [1, 1, 1, 1, 1, 0, 1]) qc0 (fun _ _ _ => False) (retK Tryz.prog Tryz.f3.results.toList K) (s0::raw1::at2::by3::s4::raw5::at6::by7::A0::b9::turned10::all11::i12::own13::x14::e15::y16::f17::A1::A2::A3::A4::A5::A6::A7::A8::A9::C0::C1::C2::C3::C4::C5::C6::C7::C8::C9::D0::D1::D2::D3::D4::D5::D6::D7::D8::D9::E0::E1::E2::E3::E4::E5::E6::E7::E8::E9::F0::F1::F2::F3::F4::F5::F6::F7::F8::F9::G0::G1::G2::G3::G4::G5::G6::G7::G8::G9::H0::H1::H2::H3::H4::H5::H6::H7::H8::H9::I0::I1::I2::I3::I4::I5::I6::I7::I8::I9::J0::J1::J2::J3::J4::J5::J6::J7::J8::[]) w := Eq.mp (by kernel_rfl) h

theorem leatlaw29_TraceBytes_A2_r {K : KV} {w : World}
    (h : cond E1
      (conv Tryz.prog 29 3 at2 (fun E4 w =>
      blt Tryz.prog Builtin.len #[28] 3 #[false] #[turned10] (fun E6 w =>
      bin Tryz.prog BinOp.rem 3 false false E4 E6 (fun E7 w =>
      idxA Tryz.prog 28 turned10 E7 (fun E8 w =>
      ld Tryz.prog 5 E8 (fun E9 w =>
      bin Tryz.prog BinOp.xor 5 false false E9 by3 (fun F1 w =>
      idxA Tryz.prog 28 turned10 E7 (fun F2 w =>
      sto Tryz.prog 5 F2 F1 (fun _t w =>
      (leatlaw29_TraceBytes_P1 K) (s0::raw1::at2::by3::s4::raw5::at6::by7::A0::b9::turned10::all11::i12::own13::x14::e15::y16::f17::A1::A2::A3::A4::A5::A6::A7::A8::A9::C0::C1::C2::C3::C4::C5::C6::C7::C8::C9::D0::D1::D2::D3::D4::D5::D6::D7::D8::D9::E0::E1::turned10::at2::E4::turned10::E6::E7::E8::E9::by3::F1::F2::F3::F4::F5::F6::F7::F8::F9::G0::G1::G2::G3::G4::G5::G6::G7::G8::G9::H0::H1::H2::H3::H4::H5::H6::H7::H8::H9::I0::I1::I2::I3::I4::I5::I6::I7::I8::I9::J0::J1::J2::J3::J4::J5::J6::J7::J8::[]) w) w) w) w) w) w) w) w) w)
      ((leatlaw29_TraceBytes_P1 K) (s0::raw1::at2::by3::s4::raw5::at6::by7::A0::b9::turned10::all11::i12::own13::x14::e15::y16::f17::A1::A2::A3::A4::A5::A6::A7::A8::A9::C0::C1::C2::C3::C4::C5::C6::C7::C8::C9::D0::D1::D2::D3::D4::D5::D6::D7::D8::D9::E0::E1::E2::E3::E4::E5::E6::E7::E8::E9::F0::F1::F2::F3::F4::F5::F6::F7::F8::F9::G0::G1::G2::G3::G4::G5::G6::G7::G8::G9::H0::H1::H2::H3::H4::H5::H6::H7::H8::H9::I0::I1::I2::I3::I4::I5::I6::I7::I8::I9::J0::J1::J2::J3::J4::J5::J6::J7::J8::[]) w)) :
    leatlaw29_TraceBytes_A2 K (s0::raw1::at2::by3::s4::raw5::at6::by7::A0::b9::turned10::all11::i12::own13::x14::e15::y16::f17::A1::A2::A3::A4::A5::A6::A7::A8::A9::C0::C1::C2::C3::C4::C5::C6::C7::C8::C9::D0::D1::D2::D3::D4::D5::D6::D7::D8::D9::E0::E1::E2::E3::E4::E5::E6::E7::E8::E9::F0::F1::F2::F3::F4::F5::F6::F7::F8::F9::G0::G1::G2::G3::G4::G5::G6::G7::G8::G9::H0::H1::H2::H3::H4::H5::H6::H7::H8::H9::I0::I1::I2::I3::I4::I5::I6::I7::I8::I9::J0::J1::J2::J3::J4::J5::J6::J7::J8::[]) w := by
  delta leatlaw29_TraceBytes_A2
  exact Eq.mp (congrArg (fun c => cCode Tryz.prog c (leatlaw29_TraceBytes_P1 K) (fun _ _ _ => False) (retK Tryz.prog Tryz.f3.results.toList K) (s0::raw1::at2::by3::s4::raw5::at6::by7::A0::b9::turned10::all11::i12::own13::x14::e15::y16::f17::A1::A2::A3::A4::A5::A6::A7::A8::A9::C0::C1::C2::C3::C4::C5::C6::C7::C8::C9::D0::D1::D2::D3::D4::D5::D6::D7::D8::D9::E0::E1::E2::E3::E4::E5::E6::E7::E8::E9::F0::F1::F2::F3::F4::F5::F6::F7::F8::F9::G0::G1::G2::G3::G4::G5::G6::G7::G8::G9::H0::H1::H2::H3::H4::H5::H6::H7::H8::H9::I0::I1::I2::I3::I4::I5::I6::I7::I8::I9::J0::J1::J2::J3::J4::J5::J6::J7::J8::[]) w) (by kernel_rfl : (cd Tryz.f3 [1, 1, 1, 1, 1, 0, 1]) = (cd Tryz.f3 [1, 1, 1, 1, 1, 0, 1]))) (leatlaw29_TraceBytes_A2_k (leatlaw29_TraceBytes_P1 K) h)

theorem leatlaw29_TraceBytes_P1_k {K : KV} {w : World}
    (h : bldS Tryz.prog 33 2 #[(0, raw1), (1, turned10)] (fun F5 w =>
    (cCode Tryz.prog (cd Tryz.f3 [1, 1, 1, 1, 1, 1, 1, 0, 1, 0]) (cCode Tryz.prog (cd Tryz.f3 [1, 1, 1, 1, 1, 1, 1, 1]) (retK Tryz.prog Tryz.f3.results.toList K) (fun _ _ _ => False) (retK Tryz.prog Tryz.f3.results.toList K)) (fun i => @Bool.rec (fun _ => KE) ((fun _ _ _ => False) i) (cCode Tryz.prog (cd Tryz.f3 [1, 1, 1, 1, 1, 1, 1, 1]) (retK Tryz.prog Tryz.f3.results.toList K) (fun _ _ _ => False) (retK Tryz.prog Tryz.f3.results.toList K)) (Nat.beq i 0)) (retK Tryz.prog Tryz.f3.results.toList K)) (s0::raw1::at2::by3::s4::raw5::at6::by7::A0::b9::turned10::F5::(Value.int IntKind.i64 0)::own13::x14::e15::y16::f17::A1::A2::A3::A4::A5::A6::A7::A8::A9::C0::C1::C2::C3::C4::C5::C6::C7::C8::C9::D0::D1::D2::D3::D4::D5::D6::D7::D8::D9::E0::E1::E2::E3::E4::E5::E6::E7::E8::E9::F0::F1::F2::raw1::turned10::F5::F6::F7::F8::F9::G0::G1::G2::G3::G4::G5::G6::G7::G8::G9::H0::H1::H2::H3::H4::H5::H6::H7::H8::H9::I0::I1::I2::I3::I4::I5::I6::I7::I8::I9::J0::J1::J2::J3::J4::J5::J6::J7::J8::[]) w) w) :
    cCode Tryz.prog (cd Tryz.f3 [1, 1, 1, 1, 1, 1]) (retK Tryz.prog Tryz.f3.results.toList K) (fun _ _ _ => False) (retK Tryz.prog Tryz.f3.results.toList K) (s0::raw1::at2::by3::s4::raw5::at6::by7::A0::b9::turned10::all11::i12::own13::x14::e15::y16::f17::A1::A2::A3::A4::A5::A6::A7::A8::A9::C0::C1::C2::C3::C4::C5::C6::C7::C8::C9::D0::D1::D2::D3::D4::D5::D6::D7::D8::D9::E0::E1::E2::E3::E4::E5::E6::E7::E8::E9::F0::F1::F2::F3::F4::F5::F6::F7::F8::F9::G0::G1::G2::G3::G4::G5::G6::G7::G8::G9::H0::H1::H2::H3::H4::H5::H6::H7::H8::H9::I0::I1::I2::I3::I4::I5::I6::I7::I8::I9::J0::J1::J2::J3::J4::J5::J6::J7::J8::[]) w := Eq.mp (by kernel_rfl) h

theorem leatlaw29_TraceBytes_P1_r {K : KV} {w : World}
    (h : bldS Tryz.prog 33 2 #[(0, raw1), (1, turned10)] (fun F5 w =>
    (leatlaw29_TraceBytes_L1 K) (s0::raw1::at2::by3::s4::raw5::at6::by7::A0::b9::turned10::F5::(Value.int IntKind.i64 0)::own13::x14::e15::y16::f17::A1::A2::A3::A4::A5::A6::A7::A8::A9::C0::C1::C2::C3::C4::C5::C6::C7::C8::C9::D0::D1::D2::D3::D4::D5::D6::D7::D8::D9::E0::E1::E2::E3::E4::E5::E6::E7::E8::E9::F0::F1::F2::raw1::turned10::F5::F6::F7::F8::F9::G0::G1::G2::G3::G4::G5::G6::G7::G8::G9::H0::H1::H2::H3::H4::H5::H6::H7::H8::H9::I0::I1::I2::I3::I4::I5::I6::I7::I8::I9::J0::J1::J2::J3::J4::J5::J6::J7::J8::[]) w) w) :
    leatlaw29_TraceBytes_P1 K (s0::raw1::at2::by3::s4::raw5::at6::by7::A0::b9::turned10::all11::i12::own13::x14::e15::y16::f17::A1::A2::A3::A4::A5::A6::A7::A8::A9::C0::C1::C2::C3::C4::C5::C6::C7::C8::C9::D0::D1::D2::D3::D4::D5::D6::D7::D8::D9::E0::E1::E2::E3::E4::E5::E6::E7::E8::E9::F0::F1::F2::F3::F4::F5::F6::F7::F8::F9::G0::G1::G2::G3::G4::G5::G6::G7::G8::G9::H0::H1::H2::H3::H4::H5::H6::H7::H8::H9::I0::I1::I2::I3::I4::I5::I6::I7::I8::I9::J0::J1::J2::J3::J4::J5::J6::J7::J8::[]) w := by
  delta leatlaw29_TraceBytes_P1
  exact Eq.mp (congrArg (fun c => cCode Tryz.prog c (retK Tryz.prog Tryz.f3.results.toList K) (fun _ _ _ => False) (retK Tryz.prog Tryz.f3.results.toList K) (s0::raw1::at2::by3::s4::raw5::at6::by7::A0::b9::turned10::all11::i12::own13::x14::e15::y16::f17::A1::A2::A3::A4::A5::A6::A7::A8::A9::C0::C1::C2::C3::C4::C5::C6::C7::C8::C9::D0::D1::D2::D3::D4::D5::D6::D7::D8::D9::E0::E1::E2::E3::E4::E5::E6::E7::E8::E9::F0::F1::F2::F3::F4::F5::F6::F7::F8::F9::G0::G1::G2::G3::G4::G5::G6::G7::G8::G9::H0::H1::H2::H3::H4::H5::H6::H7::H8::H9::I0::I1::I2::I3::I4::I5::I6::I7::I8::I9::J0::J1::J2::J3::J4::J5::J6::J7::J8::[]) w) (by kernel_rfl : (cd Tryz.f3 [1, 1, 1, 1, 1, 1]) = (cd Tryz.f3 [1, 1, 1, 1, 1, 1]))) (leatlaw29_TraceBytes_P1_k h)

end
theorem leatlaw29_TraceBytes_L1_k {K : KV} (B1 : KE) (qc0 : KE) (xc0 : Code) {s0 raw1 at2 by3 s4 raw5 at6 by7 b9 turned10 all11 i12' A1 A2 A3 A4 A5 A6 A7 A8 A9 C0 C1 C2 C3 C4 C5 C6 C7 C8 C9 D0 D1 D2 D3 D4 D5 D6 D7 D8 D9 E0 E1 E2 E3 E4 E5 E6 E7 E8 E9 F0 F1 F2 F3 F4 F5 I3' I4' I5' I6' I9' J0' J1' J2' J3' J4' J5' J6' J8 : Value} {dd : Nat → Value} {w : World}
    (h : bin Tryz.prog BinOp.lss 3 false true i12' (Value.int IntKind.i64 2) (fun F7 w =>
    cond F7
      (bldS Tryz.prog 28 0 #[] (fun G0 w =>
    idxA Tryz.prog 33 all11 i12' (fun G3 w =>
    ld Tryz.prog 28 G3 (fun G4 w =>
    blt Tryz.prog Builtin.append #[28, 28] 28 #[false, false] #[G0, G4] (fun G5 w =>
    call Tryz.prog 12 #[G5] (fun G8 w =>
    ext Tryz.prog G8 0 (fun G9 w =>
    ext Tryz.prog G8 1 (fun H0 w =>
    alc Tryz.prog 27 (fun x14 w =>
    sto Tryz.prog 27 x14 G9 (fun _t w =>
    idxA Tryz.prog 33 all11 i12' (fun H4 w =>
    ld Tryz.prog 28 H4 (fun H5 w =>
    call Tryz.prog 13 #[H5] (fun H6 w =>
    ext Tryz.prog H6 0 (fun H7 w =>
    ext Tryz.prog H6 1 (fun H8 w =>
    alc Tryz.prog 27 (fun y16 w =>
    sto Tryz.prog 27 y16 H7 (fun _t w =>
    (cCode Tryz.prog xc0 (cCode Tryz.prog (cd Tryz.f3 [1, 1, 1, 1, 1, 1, 1, 0, 1, 0, 0, 1, 1]) B1 (fun i => @Bool.rec (fun _ => KE) ((fun _ _ _ => False) i) qc0 (Nat.beq i 0)) (retK Tryz.prog Tryz.f3.results.toList K)) (fun i => @Bool.rec (fun _ => KE) ((fun i => @Bool.rec (fun _ => KE) ((fun _ _ _ => False) i) qc0 (Nat.beq i 0)) i) (cCode Tryz.prog (cd Tryz.f3 [1, 1, 1, 1, 1, 1, 1, 0, 1, 0, 0, 1, 1]) B1 (fun i => @Bool.rec (fun _ => KE) ((fun _ _ _ => False) i) qc0 (Nat.beq i 0)) (retK Tryz.prog Tryz.f3.results.toList K)) (Nat.beq i 1)) (retK Tryz.prog Tryz.f3.results.toList K)) (s0::raw1::at2::by3::s4::raw5::at6::by7::(dd 8)::b9::turned10::all11::i12'::G5::x14::H0::y16::H8::A1::A2::A3::A4::A5::A6::A7::A8::A9::C0::C1::C2::C3::C4::C5::C6::C7::C8::C9::D0::D1::D2::D3::D4::D5::D6::D7::D8::D9::E0::E1::E2::E3::E4::E5::E6::E7::E8::E9::F0::F1::F2::F3::F4::F5::i12'::F7::(dd 65)::(dd 66)::G0::all11::i12'::G3::G4::G5::G8::G5::G8::G9::H0::H6::all11::i12'::H4::H5::H6::H7::H8::(dd 86)::(dd 87)::(dd 88)::(dd 89)::I3'::I4'::I5'::I6'::(dd 94)::(dd 95)::I9'::J0'::J1'::J2'::J3'::J4'::J5'::J6'::(dd 104)::J8::[]) w) w) w) w) w) w) w) w) w) w) w) w) w) w) w) w) w)
      (qc0 (s0::raw1::at2::by3::s4::raw5::at6::by7::(dd 8)::b9::turned10::all11::i12'::(dd 13)::(dd 14)::(dd 15)::(dd 16)::(dd 17)::A1::A2::A3::A4::A5::A6::A7::A8::A9::C0::C1::C2::C3::C4::C5::C6::C7::C8::C9::D0::D1::D2::D3::D4::D5::D6::D7::D8::D9::E0::E1::E2::E3::E4::E5::E6::E7::E8::E9::F0::F1::F2::F3::F4::F5::i12'::F7::(dd 65)::(dd 66)::(dd 67)::(dd 68)::(dd 69)::(dd 70)::(dd 71)::(dd 72)::(dd 73)::(dd 74)::(dd 75)::(dd 76)::(dd 77)::(dd 78)::(dd 79)::(dd 80)::(dd 81)::(dd 82)::(dd 83)::(dd 84)::(dd 85)::(dd 86)::(dd 87)::(dd 88)::(dd 89)::I3'::I4'::I5'::I6'::(dd 94)::(dd 95)::I9'::J0'::J1'::J2'::J3'::J4'::J5'::J6'::(dd 104)::J8::[]) w)) w) :
    cCode Tryz.prog (rep [1, 0, 0, 1, 1, 1] xc0 (cd Tryz.f3 [1, 1, 1, 1, 1, 1, 1, 0, 1, 0, 0])) B1 (fun i => @Bool.rec (fun _ => KE) ((fun _ _ _ => False) i) qc0 (Nat.beq i 0)) (retK Tryz.prog Tryz.f3.results.toList K) (s0::raw1::at2::by3::s4::raw5::at6::by7::(dd 8)::b9::turned10::all11::i12'::(dd 13)::(dd 14)::(dd 15)::(dd 16)::(dd 17)::A1::A2::A3::A4::A5::A6::A7::A8::A9::C0::C1::C2::C3::C4::C5::C6::C7::C8::C9::D0::D1::D2::D3::D4::D5::D6::D7::D8::D9::E0::E1::E2::E3::E4::E5::E6::E7::E8::E9::F0::F1::F2::F3::F4::F5::(dd 63)::(dd 64)::(dd 65)::(dd 66)::(dd 67)::(dd 68)::(dd 69)::(dd 70)::(dd 71)::(dd 72)::(dd 73)::(dd 74)::(dd 75)::(dd 76)::(dd 77)::(dd 78)::(dd 79)::(dd 80)::(dd 81)::(dd 82)::(dd 83)::(dd 84)::(dd 85)::(dd 86)::(dd 87)::(dd 88)::(dd 89)::I3'::I4'::I5'::I6'::(dd 94)::(dd 95)::I9'::J0'::J1'::J2'::J3'::J4'::J5'::J6'::(dd 104)::J8::[]) w := Eq.mp (by kernel_rfl) h

section
variable {s0 raw1 at2 by3 s4 raw5 at6 by7 A0 b9 turned10 all11 i12 own13 x14 e15 y16 f17 A1 A2 A3 A4 A5 A6 A7 A8 A9 C0 C1 C2 C3 C4 C5 C6 C7 C8 C9 D0 D1 D2 D3 D4 D5 D6 D7 D8 D9 E0 E1 E2 E3 E4 E5 E6 E7 E8 E9 F0 F1 F2 F3 F4 F5 F6 F7 F8 F9 G0 G1 G2 G3 G4 G5 G6 G7 G8 G9 H0 H1 H2 H3 H4 H5 H6 H7 H8 H9 I0 I1 I2 I3 I4 I5 I6 I7 I8 I9 J0 J1 J2 J3 J4 J5 J6 J7 J8 : Value}
theorem leatlaw29_TraceBytes_L1_r {K : KV} {w : World} (Inv : Value → Value → Value → Value → Value → Value → Value → Value → Value → Value → Value → Value → Value → World → Prop) (μ : Value → Value → Value → Value → Value → Value → Value → Value → Value → Value → Value → Value → Value → World → Nat) (h0 : Inv i12 I3 I4 I5 I6 I9 J0 J1 J2 J3 J4 J5 J6 w)
    (hs : ∀ (i12' I3' I4' I5' I6' I9' J0' J1' J2' J3' J4' J5' J6' : Value) (dd : Nat → Value) (w : World) (m : Nat), Inv i12' I3' I4' I5' I6' I9' J0' J1' J2' J3' J4' J5' J6' w → m = μ i12' I3' I4' I5' I6' I9' J0' J1' J2' J3' J4' J5' J6' w →
    bin Tryz.prog BinOp.lss 3 false true i12' (Value.int IntKind.i64 2) (fun F7 w =>
    cond F7
      (bldS Tryz.prog 28 0 #[] (fun G0 w =>
    idxA Tryz.prog 33 all11 i12' (fun G3 w =>
    ld Tryz.prog 28 G3 (fun G4 w =>
    blt Tryz.prog Builtin.append #[28, 28] 28 #[false, false] #[G0, G4] (fun G5 w =>
    call Tryz.prog 12 #[G5] (fun G8 w =>
    ext Tryz.prog G8 0 (fun G9 w =>
    ext Tryz.prog G8 1 (fun H0 w =>
    alc Tryz.prog 27 (fun x14 w =>
    sto Tryz.prog 27 x14 G9 (fun _t w =>
    idxA Tryz.prog 33 all11 i12' (fun H4 w =>
    ld Tryz.prog 28 H4 (fun H5 w =>
    call Tryz.prog 13 #[H5] (fun H6 w =>
    ext Tryz.prog H6 0 (fun H7 w =>
    ext Tryz.prog H6 1 (fun H8 w =>
    alc Tryz.prog 27 (fun y16 w =>
    sto Tryz.prog 27 y16 H7 (fun _t w =>
    (leatlaw29_TraceBytes_A3 K (fun e2 w2 => Inv (gd e2 12) (gd e2 90) (gd e2 91) (gd e2 92) (gd e2 93) (gd e2 96) (gd e2 97) (gd e2 98) (gd e2 99) (gd e2 100) (gd e2 101) (gd e2 102) (gd e2 103) w2 ∧ μ (gd e2 12) (gd e2 90) (gd e2 91) (gd e2 92) (gd e2 93) (gd e2 96) (gd e2 97) (gd e2 98) (gd e2 99) (gd e2 100) (gd e2 101) (gd e2 102) (gd e2 103) w2 < m)) (s0::raw1::at2::by3::s4::raw5::at6::by7::(dd 8)::b9::turned10::all11::i12'::G5::x14::H0::y16::H8::A1::A2::A3::A4::A5::A6::A7::A8::A9::C0::C1::C2::C3::C4::C5::C6::C7::C8::C9::D0::D1::D2::D3::D4::D5::D6::D7::D8::D9::E0::E1::E2::E3::E4::E5::E6::E7::E8::E9::F0::F1::F2::F3::F4::F5::i12'::F7::(dd 65)::(dd 66)::G0::all11::i12'::G3::G4::G5::G8::G5::G8::G9::H0::H6::all11::i12'::H4::H5::H6::H7::H8::(dd 86)::(dd 87)::(dd 88)::(dd 89)::I3'::I4'::I5'::I6'::(dd 94)::(dd 95)::I9'::J0'::J1'::J2'::J3'::J4'::J5'::J6'::(dd 104)::J8::[]) w) w) w) w) w) w) w) w) w) w) w) w) w) w) w) w) w)
      ((leatlaw29_TraceBytes_P2 K) (s0::raw1::at2::by3::s4::raw5::at6::by7::(dd 8)::b9::turned10::all11::i12'::(dd 13)::(dd 14)::(dd 15)::(dd 16)::(dd 17)::A1::A2::A3::A4::A5::A6::A7::A8::A9::C0::C1::C2::C3::C4::C5::C6::C7::C8::C9::D0::D1::D2::D3::D4::D5::D6::D7::D8::D9::E0::E1::E2::E3::E4::E5::E6::E7::E8::E9::F0::F1::F2::F3::F4::F5::i12'::F7::(dd 65)::(dd 66)::(dd 67)::(dd 68)::(dd 69)::(dd 70)::(dd 71)::(dd 72)::(dd 73)::(dd 74)::(dd 75)::(dd 76)::(dd 77)::(dd 78)::(dd 79)::(dd 80)::(dd 81)::(dd 82)::(dd 83)::(dd 84)::(dd 85)::(dd 86)::(dd 87)::(dd 88)::(dd 89)::I3'::I4'::I5'::I6'::(dd 94)::(dd 95)::I9'::J0'::J1'::J2'::J3'::J4'::J5'::J6'::(dd 104)::J8::[]) w)) w) :
    leatlaw29_TraceBytes_L1 K (s0::raw1::at2::by3::s4::raw5::at6::by7::A0::b9::turned10::all11::i12::own13::x14::e15::y16::f17::A1::A2::A3::A4::A5::A6::A7::A8::A9::C0::C1::C2::C3::C4::C5::C6::C7::C8::C9::D0::D1::D2::D3::D4::D5::D6::D7::D8::D9::E0::E1::E2::E3::E4::E5::E6::E7::E8::E9::F0::F1::F2::F3::F4::F5::F6::F7::F8::F9::G0::G1::G2::G3::G4::G5::G6::G7::G8::G9::H0::H1::H2::H3::H4::H5::H6::H7::H8::H9::I0::I1::I2::I3::I4::I5::I6::I7::I8::I9::J0::J1::J2::J3::J4::J5::J6::J7::J8::[]) w := by
  refine loop_rule (cd Tryz.f3 [1, 1, 1, 1, 1, 1, 1, 0, 1, 0, 0]) [8, 12, 13, 14, 15, 16, 17, 63, 64, 65, 66, 67, 68, 69, 70, 71, 72, 73, 74, 75, 76, 77, 78, 79, 80, 81, 82, 83, 84, 85, 86, 87, 88, 89, 90, 91, 92, 93, 94, 95, 96, 97, 98, 99, 100, 101, 102, 103, 104] (by kernel_rfl) (fun e2 w2 => Inv (gd e2 12) (gd e2 90) (gd e2 91) (gd e2 92) (gd e2 93) (gd e2 96) (gd e2 97) (gd e2 98) (gd e2 99) (gd e2 100) (gd e2 101) (gd e2 102) (gd e2 103) w2) (fun e2 w2 => μ (gd e2 12) (gd e2 90) (gd e2 91) (gd e2 92) (gd e2 93) (gd e2 96) (gd e2 97) (gd e2 98) (gd e2 99) (gd e2 100) (gd e2 101) (gd e2 102) (gd e2 103) w2) h0 ?_
  intro e' w' hI
  have h := hs (gd e' 12) (gd e' 90) (gd e' 91) (gd e' 92) (gd e' 93) (gd e' 96) (gd e' 97) (gd e' 98) (gd e' 99) (gd e' 100) (gd e' 101) (gd e' 102) (gd e' 103) (fun i => gd e' i) w' _ hI rfl
  have h2 : cCode Tryz.prog (rep [1, 0, 0, 1, 1, 1] (cd Tryz.f3 [1, 1, 1, 1, 1, 1, 1, 0, 1, 0, 0, 1, 0, 0, 1, 1, 1]) (cd Tryz.f3 [1, 1, 1, 1, 1, 1, 1, 0, 1, 0, 0])) (fun e2 w2 => Inv (gd e2 12) (gd e2 90) (gd e2 91) (gd e2 92) (gd e2 93) (gd e2 96) (gd e2 97) (gd e2 98) (gd e2 99) (gd e2 100) (gd e2 101) (gd e2 102) (gd e2 103) w2 ∧ μ (gd e2 12) (gd e2 90) (gd e2 91) (gd e2 92) (gd e2 93) (gd e2 96) (gd e2 97) (gd e2 98) (gd e2 99) (gd e2 100) (gd e2 101) (gd e2 102) (gd e2 103) w2 < μ (gd e' 12) (gd e' 90) (gd e' 91) (gd e' 92) (gd e' 93) (gd e' 96) (gd e' 97) (gd e' 98) (gd e' 99) (gd e' 100) (gd e' 101) (gd e' 102) (gd e' 103) w') (fun i => @Bool.rec (fun _ => KE) ((fun _ _ _ => False) i) (leatlaw29_TraceBytes_P2 K) (Nat.beq i 0)) (retK Tryz.prog Tryz.f3.results.toList K) (s0::raw1::at2::by3::s4::raw5::at6::by7::(gd e' 8)::b9::turned10::all11::(gd e' 12)::(gd e' 13)::(gd e' 14)::(gd e' 15)::(gd e' 16)::(gd e' 17)::A1::A2::A3::A4::A5::A6::A7::A8::A9::C0::C1::C2::C3::C4::C5::C6::C7::C8::C9::D0::D1::D2::D3::D4::D5::D6::D7::D8::D9::E0::E1::E2::E3::E4::E5::E6::E7::E8::E9::F0::F1::F2::F3::F4::F5::(gd e' 63)::(gd e' 64)::(gd e' 65)::(gd e' 66)::(gd e' 67)::(gd e' 68)::(gd e' 69)::(gd e' 70)::(gd e' 71)::(gd e' 72)::(gd e' 73)::(gd e' 74)::(gd e' 75)::(gd e' 76)::(gd e' 77)::(gd e' 78)::(gd e' 79)::(gd e' 80)::(gd e' 81)::(gd e' 82)::(gd e' 83)::(gd e' 84)::(gd e' 85)::(gd e' 86)::(gd e' 87)::(gd e' 88)::(gd e' 89)::(gd e' 90)::(gd e' 91)::(gd e' 92)::(gd e' 93)::(gd e' 94)::(gd e' 95)::(gd e' 96)::(gd e' 97)::(gd e' 98)::(gd e' 99)::(gd e' 100)::(gd e' 101)::(gd e' 102)::(gd e' 103)::(gd e' 104)::J8::[]) w' := leatlaw29_TraceBytes_L1_k (fun e2 w2 => Inv (gd e2 12) (gd e2 90) (gd e2 91) (gd e2 92) (gd e2 93) (gd e2 96) (gd e2 97) (gd e2 98) (gd e2 99) (gd e2 100) (gd e2 101) (gd e2 102) (gd e2 103) w2 ∧ μ (gd e2 12) (gd e2 90) (gd e2 91) (gd e2 92) (gd e2 93) (gd e2 96) (gd e2 97) (gd e2 98) (gd e2 99) (gd e2 100) (gd e2 101) (gd e2 102) (gd e2 103) w2 < μ (gd e' 12) (gd e' 90) (gd e' 91) (gd e' 92) (gd e' 93) (gd e' 96) (gd e' 97) (gd e' 98) (gd e' 99) (gd e' 100) (gd e' 101) (gd e' 102) (gd e' 103) w') (leatlaw29_TraceBytes_P2 K) (cd Tryz.f3 [1, 1, 1, 1, 1, 1, 1, 0, 1, 0, 0, 1, 0, 0, 1, 1, 1]) (Eq.mp (by kernel_rfl) h)
  exact Eq.mp (by kernel_rfl) h2

theorem leatlaw29_TraceBytes_A3_k {K : KV} (B1 : KE) (qc0 : KE) (qc1 : KE) {w : World}
    (h : hReg (fun S w =>
    hld S (fun k w => bin Tryz.prog BinOp.neq 34 false false e15 f17 k w) (fun I1 =>
    hG I1 false S (fun k w => ld Tryz.prog 27 x14 k w) (fun I3 =>
    hG I1 false S (fun k w => ld Tryz.prog 27 y16 k w) (fun I4 =>
    xG I1 false (fun k w => call Tryz.prog 14 #[I3, I4] k w) (fun I5 w =>
    hReg (fun S w =>
    hG I1 false S (fun k w => un Tryz.prog UnOp.not I5 k w) (fun I6 =>
    hld S (fun k w => pick I1 (Value.bool true) I6 k w) (fun I7 =>
    hG I7 false S (fun k w => k own13 w) (fun I9 =>
    hG I7 false S (fun k w => conv Tryz.prog 28 9 I9 k w) (fun J0 =>
    hG I7 false S (fun k w => k all11 w) (fun J1 =>
    hG I7 false S (fun k w => k i12 w) (fun J2 =>
    hG I7 false S (fun k w => idxA Tryz.prog 33 J1 J2 k w) (fun J3 =>
    hG I7 false S (fun k w => ld Tryz.prog 28 J3 k w) (fun J4 =>
    hG I7 false S (fun k w => conv Tryz.prog 28 9 J4 k w) (fun J5 =>
    hG I7 false S (fun k w => bin Tryz.prog BinOp.neq 9 false false J0 J5 k w) (fun J6 =>
    hld S (fun k w => pick I7 (Value.bool true) J6 k w) (fun J7 =>
    cond J7
      (K (Value.bool false) w)
      (qc0 (s0::raw1::at2::by3::s4::raw5::at6::by7::A0::b9::turned10::all11::i12::own13::x14::e15::y16::f17::A1::A2::A3::A4::A5::A6::A7::A8::A9::C0::C1::C2::C3::C4::C5::C6::C7::C8::C9::D0::D1::D2::D3::D4::D5::D6::D7::D8::D9::E0::E1::E2::E3::E4::E5::E6::E7::E8::E9::F0::F1::F2::F3::F4::F5::F6::F7::F8::F9::G0::G1::G2::G3::G4::G5::G6::G7::G8::G9::H0::H1::H2::H3::H4::H5::H6::H7::H8::e15::f17::I1::I1::I3::I4::I5::I6::I7::I7::I9::J0::J1::J2::J3::J4::J5::J6::J7::J8::[]) w))))))))))))) w) w)))) w.drew) :
    cCode Tryz.prog (cd Tryz.f3 [1, 1, 1, 1, 1, 1, 1, 0, 1, 0, 0, 1, 0, 0, 1, 1, 1]) qc0 (fun i => @Bool.rec (fun _ => KE) ((fun i => @Bool.rec (fun _ => KE) ((fun _ _ _ => False) i) qc1 (Nat.beq i 0)) i) qc0 (Nat.beq i 1)) (retK Tryz.prog Tryz.f3.results.toList K) (s0::raw1::at2::by3::s4::raw5::at6::by7::A0::b9::turned10::all11::i12::own13::x14::e15::y16::f17::A1::A2::A3::A4::A5::A6::A7::A8::A9::C0::C1::C2::C3::C4::C5::C6::C7::C8::C9::D0::D1::D2::D3::D4::D5::D6::D7::D8::D9::E0::E1::E2::E3::E4::E5::E6::E7::E8::E9::F0::F1::F2::F3::F4::F5::F6::F7::F8::F9::G0::G1::G2::G3::G4::G5::G6::G7::G8::G9::H0::H1::H2::H3::H4::H5::H6::H7::H8::H9::I0::I1::I2::I3::I4::I5::I6::I7::I8::I9::J0::J1::J2::J3::J4::J5::J6::J7::J8::[]) w := Eq.mp (by kernel_rfl) h

theorem leatlaw29_TraceBytes_A3_r {K : KV} {B1 : KE} {w : World}
    (h : hReg (fun S w =>
    hld S (fun k w => bin Tryz.prog BinOp.neq 34 false false e15 f17 k w) (fun I1 =>
    hG I1 false S (fun k w => ld Tryz.prog 27 x14 k w) (fun I3 =>
    hG I1 false S (fun k w => ld Tryz.prog 27 y16 k w) (fun I4 =>
    xG I1 false (fun k w => call Tryz.prog 14 #[I3, I4] k w) (fun I5 w =>
    hReg (fun S w =>
    hG I1 false S (fun k w => un Tryz.prog UnOp.not I5 k w) (fun I6 =>
    hld S (fun k w => pick I1 (Value.bool true) I6 k w) (fun I7 =>
    hG I7 false S (fun k w => k own13 w) (fun I9 =>
    hG I7 false S (fun k w => conv Tryz.prog 28 9 I9 k w) (fun J0 =>
    hG I7 false S (fun k w => k all11 w) (fun J1 =>
    hG I7 false S (fun k w => k i12 w) (fun J2 =>
    hG I7 false S (fun k w => idxA Tryz.prog 33 J1 J2 k w) (fun J3 =>
    hG I7 false S (fun k w => ld Tryz.prog 28 J3 k w) (fun J4 =>
    hG I7 false S (fun k w => conv Tryz.prog 28 9 J4 k w) (fun J5 =>
    hG I7 false S (fun k w => bin Tryz.prog BinOp.neq 9 false false J0 J5 k w) (fun J6 =>
    hld S (fun k w => pick I7 (Value.bool true) J6 k w) (fun J7 =>
    cond J7
      (K (Value.bool false) w)
      ((leatlaw29_TraceBytes_P3 K B1) (s0::raw1::at2::by3::s4::raw5::at6::by7::A0::b9::turned10::all11::i12::own13::x14::e15::y16::f17::A1::A2::A3::A4::A5::A6::A7::A8::A9::C0::C1::C2::C3::C4::C5::C6::C7::C8::C9::D0::D1::D2::D3::D4::D5::D6::D7::D8::D9::E0::E1::E2::E3::E4::E5::E6::E7::E8::E9::F0::F1::F2::F3::F4::F5::F6::F7::F8::F9::G0::G1::G2::G3::G4::G5::G6::G7::G8::G9::H0::H1::H2::H3::H4::H5::H6::H7::H8::e15::f17::I1::I1::I3::I4::I5::I6::I7::I7::I9::J0::J1::J2::J3::J4::J5::J6::J7::J8::[]) w))))))))))))) w) w)))) w.drew) :
    leatlaw29_TraceBytes_A3 K B1 (s0::raw1::at2::by3::s4::raw5::at6::by7::A0::b9::turned10::all11::i12::own13::x14::e15::y16::f17::A1::A2::A3::A4::A5::A6::A7::A8::A9::C0::C1::C2::C3::C4::C5::C6::C7::C8::C9::D0::D1::D2::D3::D4::D5::D6::D7::D8::D9::E0::E1::E2::E3::E4::E5::E6::E7::E8::E9::F0::F1::F2::F3::F4::F5::F6::F7::F8::F9::G0::G1::G2::G3::G4::G5::G6::G7::G8::G9::H0::H1::H2::H3::H4::H5::H6::H7::H8::H9::I0::I1::I2::I3::I4::I5::I6::I7::I8::I9::J0::J1::J2::J3::J4::J5::J6::J7::J8::[]) w := by
  delta leatlaw29_TraceBytes_A3
  exact Eq.mp (congrArg (fun c => cCode Tryz.prog c (leatlaw29_TraceBytes_P3 K B1) (fun i => @Bool.rec (fun _ => KE) ((fun i => @Bool.rec (fun _ => KE) ((fun _ _ _ => False) i) (leatlaw29_TraceBytes_P2 K) (Nat.beq i 0)) i) (leatlaw29_TraceBytes_P3 K B1) (Nat.beq i 1)) (retK Tryz.prog Tryz.f3.results.toList K) (s0::raw1::at2::by3::s4::raw5::at6::by7::A0::b9::turned10::all11::i12::own13::x14::e15::y16::f17::A1::A2::A3::A4::A5::A6::A7::A8::A9::C0::C1::C2::C3::C4::C5::C6::C7::C8::C9::D0::D1::D2::D3::D4::D5::D6::D7::D8::D9::E0::E1::E2::E3::E4::E5::E6::E7::E8::E9::F0::F1::F2::F3::F4::F5::F6::F7::F8::F9::G0::G1::G2::G3::G4::G5::G6::G7::G8::G9::H0::H1::H2::H3::H4::H5::H6::H7::H8::H9::I0::I1::I2::I3::I4::I5::I6::I7::I8::I9::J0::J1::J2::J3::J4::J5::J6::J7::J8::[]) w) (by kernel_rfl : (cd Tryz.f3 [1, 1, 1, 1, 1, 1, 1, 0, 1, 0, 0, 1, 0, 0, 1, 1, 1]) = (cd Tryz.f3 [1, 1, 1, 1, 1, 1, 1, 0, 1, 0, 0, 1, 0, 0, 1, 1, 1]))) (leatlaw29_TraceBytes_A3_k B1 (leatlaw29_TraceBytes_P3 K B1) (leatlaw29_TraceBytes_P2 K) h)

theorem leatlaw29_TraceBytes_P2_k {K : KV} {w : World}
    (h : call Tryz.prog 7 #[] (fun J8 w =>
    K J8 w) w) :
    cCode Tryz.prog (cd Tryz.f3 [1, 1, 1, 1, 1, 1, 1, 1]) (retK Tryz.prog Tryz.f3.results.toList K) (fun _ _ _ => False) (retK Tryz.prog Tryz.f3.results.toList K) (s0::raw1::at2::by3::s4::raw5::at6::by7::A0::b9::turned10::all11::i12::own13::x14::e15::y16::f17::A1::A2::A3::A4::A5::A6::A7::A8::A9::C0::C1::C2::C3::C4::C5::C6::C7::C8::C9::D0::D1::D2::D3::D4::D5::D6::D7::D8::D9::E0::E1::E2::E3::E4::E5::E6::E7::E8::E9::F0::F1::F2::F3::F4::F5::F6::F7::F8::F9::G0::G1::G2::G3::G4::G5::G6::G7::G8::G9::H0::H1::H2::H3::H4::H5::H6::H7::H8::H9::I0::I1::I2::I3::I4::I5::I6::I7::I8::I9::J0::J1::J2::J3::J4::J5::J6::J7::J8::[]) w := Eq.mp (by kernel_rfl) h

theorem leatlaw29_TraceBytes_P2_r {K : KV} {w : World}
    (h : call Tryz.prog 7 #[] (fun J8 w =>
    K J8 w) w) :
    leatlaw29_TraceBytes_P2 K (s0::raw1::at2::by3::s4::raw5::at6::by7::A0::b9::turned10::all11::i12::own13::x14::e15::y16::f17::A1::A2::A3::A4::A5::A6::A7::A8::A9::C0::C1::C2::C3::C4::C5::C6::C7::C8::C9::D0::D1::D2::D3::D4::D5::D6::D7::D8::D9::E0::E1::E2::E3::E4::E5::E6::E7::E8::E9::F0::F1::F2::F3::F4::F5::F6::F7::F8::F9::G0::G1::G2::G3::G4::G5::G6::G7::G8::G9::H0::H1::H2::H3::H4::H5::H6::H7::H8::H9::I0::I1::I2::I3::I4::I5::I6::I7::I8::I9::J0::J1::J2::J3::J4::J5::J6::J7::J8::[]) w := by
  delta leatlaw29_TraceBytes_P2
  exact Eq.mp (congrArg (fun c => cCode Tryz.prog c (retK Tryz.prog Tryz.f3.results.toList K) (fun _ _ _ => False) (retK Tryz.prog Tryz.f3.results.toList K) (s0::raw1::at2::by3::s4::raw5::at6::by7::A0::b9::turned10::all11::i12::own13::x14::e15::y16::f17::A1::A2::A3::A4::A5::A6::A7::A8::A9::C0::C1::C2::C3::C4::C5::C6::C7::C8::C9::D0::D1::D2::D3::D4::D5::D6::D7::D8::D9::E0::E1::E2::E3::E4::E5::E6::E7::E8::E9::F0::F1::F2::F3::F4::F5::F6::F7::F8::F9::G0::G1::G2::G3::G4::G5::G6::G7::G8::G9::H0::H1::H2::H3::H4::H5::H6::H7::H8::H9::I0::I1::I2::I3::I4::I5::I6::I7::I8::I9::J0::J1::J2::J3::J4::J5::J6::J7::J8::[]) w) (by kernel_rfl : (cd Tryz.f3 [1, 1, 1, 1, 1, 1, 1, 1]) = (cd Tryz.f3 [1, 1, 1, 1, 1, 1, 1, 1]))) (leatlaw29_TraceBytes_P2_k h)

theorem leatlaw29_TraceBytes_P3_k {K : KV} (B1 : KE) (qc0 : KE) {w : World}
    (h : bin Tryz.prog BinOp.add 3 false true i12 (Value.int IntKind.i64 1) (fun F9 w =>
    B1 (s0::raw1::at2::by3::s4::raw5::at6::by7::A0::b9::turned10::all11::F9::own13::x14::e15::y16::f17::A1::A2::A3::A4::A5::A6::A7::A8::A9::C0::C1::C2::C3::C4::C5::C6::C7::C8::C9::D0::D1::D2::D3::D4::D5::D6::D7::D8::D9::E0::E1::E2::E3::E4::E5::E6::E7::E8::E9::F0::F1::F2::F3::F4::F5::F6::F7::i12::F9::G0::G1::G2::G3::G4::G5::G6::G7::G8::G9::H0::H1::H2::H3::H4::H5::H6::H7::H8::H9::I0::I1::I2::I3::I4::I5::I6::I7::I8::I9::J0::J1::J2::J3::J4::J5::J6::J7::J8::[]) w) w) :
    cCode Tryz.prog (cd Tryz.f3 [1, 1, 1, 1, 1, 1, 1, 0, 1, 0, 0, 1, 1]) B1 (fun i => @Bool.rec (fun _ => KE) ((fun _ _ _ => False) i) qc0 (Nat.beq i 0)) (retK Tryz.prog Tryz.f3.results.toList K) (s0::raw1::at2::by3::s4::raw5::at6::by7::A0::b9::turned10::all11::i12::own13::x14::e15::y16::f17::A1::A2::A3::A4::A5::A6::A7::A8::A9::C0::C1::C2::C3::C4::C5::C6::C7::C8::C9::D0::D1::D2::D3::D4::D5::D6::D7::D8::D9::E0::E1::E2::E3::E4::E5::E6::E7::E8::E9::F0::F1::F2::F3::F4::F5::F6::F7::F8::F9::G0::G1::G2::G3::G4::G5::G6::G7::G8::G9::H0::H1::H2::H3::H4::H5::H6::H7::H8::H9::I0::I1::I2::I3::I4::I5::I6::I7::I8::I9::J0::J1::J2::J3::J4::J5::J6::J7::J8::[]) w := Eq.mp (by kernel_rfl) h

theorem leatlaw29_TraceBytes_P3_r {K : KV} {B1 : KE} {w : World}
    (h : bin Tryz.prog BinOp.add 3 false true i12 (Value.int IntKind.i64 1) (fun F9 w =>
    B1 (s0::raw1::at2::by3::s4::raw5::at6::by7::A0::b9::turned10::all11::F9::own13::x14::e15::y16::f17::A1::A2::A3::A4::A5::A6::A7::A8::A9::C0::C1::C2::C3::C4::C5::C6::C7::C8::C9::D0::D1::D2::D3::D4::D5::D6::D7::D8::D9::E0::E1::E2::E3::E4::E5::E6::E7::E8::E9::F0::F1::F2::F3::F4::F5::F6::F7::i12::F9::G0::G1::G2::G3::G4::G5::G6::G7::G8::G9::H0::H1::H2::H3::H4::H5::H6::H7::H8::H9::I0::I1::I2::I3::I4::I5::I6::I7::I8::I9::J0::J1::J2::J3::J4::J5::J6::J7::J8::[]) w) w) :
    leatlaw29_TraceBytes_P3 K B1 (s0::raw1::at2::by3::s4::raw5::at6::by7::A0::b9::turned10::all11::i12::own13::x14::e15::y16::f17::A1::A2::A3::A4::A5::A6::A7::A8::A9::C0::C1::C2::C3::C4::C5::C6::C7::C8::C9::D0::D1::D2::D3::D4::D5::D6::D7::D8::D9::E0::E1::E2::E3::E4::E5::E6::E7::E8::E9::F0::F1::F2::F3::F4::F5::F6::F7::F8::F9::G0::G1::G2::G3::G4::G5::G6::G7::G8::G9::H0::H1::H2::H3::H4::H5::H6::H7::H8::H9::I0::I1::I2::I3::I4::I5::I6::I7::I8::I9::J0::J1::J2::J3::J4::J5::J6::J7::J8::[]) w := by
  delta leatlaw29_TraceBytes_P3
  exact Eq.mp (congrArg (fun c => cCode Tryz.prog c B1 (fun i => @Bool.rec (fun _ => KE) ((fun _ _ _ => False) i) (leatlaw29_TraceBytes_P2 K) (Nat.beq i 0)) (retK Tryz.prog Tryz.f3.results.toList K) (s0::raw1::at2::by3::s4::raw5::at6::by7::A0::b9::turned10::all11::i12::own13::x14::e15::y16::f17::A1::A2::A3::A4::A5::A6::A7::A8::A9::C0::C1::C2::C3::C4::C5::C6::C7::C8::C9::D0::D1::D2::D3::D4::D5::D6::D7::D8::D9::E0::E1::E2::E3::E4::E5::E6::E7::E8::E9::F0::F1::F2::F3::F4::F5::F6::F7::F8::F9::G0::G1::G2::G3::G4::G5::G6::G7::G8::G9::H0::H1::H2::H3::H4::H5::H6::H7::H8::H9::I0::I1::I2::I3::I4::I5::I6::I7::I8::I9::J0::J1::J2::J3::J4::J5::J6::J7::J8::[]) w) (by kernel_rfl : (cd Tryz.f3 [1, 1, 1, 1, 1, 1, 1, 0, 1, 0, 0, 1, 1]) = (cd Tryz.f3 [1, 1, 1, 1, 1, 1, 1, 0, 1, 0, 0, 1, 1]))) (leatlaw29_TraceBytes_P3_k B1 (leatlaw29_TraceBytes_P2 K) h)
attribute [irreducible] leatlaw29_TraceBytes_A1 leatlaw29_TraceBytes_P1 leatlaw29_TraceBytes_A2 leatlaw29_TraceBytes_P2 leatlaw29_TraceBytes_L1 leatlaw29_TraceBytes_P3 leatlaw29_TraceBytes_A3

end
end Go.Proofs.YtfjafbbalohmhaaGreatDoor
/- Which steps may be, and their bytes (the law TraceBytes), walked. -/
namespace Go.Proofs.YtfjafbbalohmhaaGreatDoor
set_option maxRecDepth 100000
open Go.RowKit
attribute [local irreducible] bin un conv call callV blt slc fldA fld idxA idx lkp mUpd mEnt eSt rng nxt ent ext alc box bld bldS ld sto nilC mkMap mkS ifc pick rdy wts gsel sti cond retM Gives cCode cGrp cSeq cOp
section
variable {W : World} {K : KV}
theorem hld_k {S : World → Prop} {v : Value} {k : Value → Prop} (hk : k v) : hld S (fun K w => K v w) k := hld_of (fun _ _ _ h => h) hk
set_option maxHeartbeats 8000000 in
/-- Both readings, and what stands there. -/
theorem traceBytes_P1 {s0 raw1 at2 by3 s4 raw5 at6 by7 t8 b9 turned10 all11 i12 own13 x14 e15 y16 f17 t18 t19 t20 t21 t22 t23 t24 t25 t26 t27 t28 t29 t30 t31 t32 t33 t34 t35 t36 t37 t38 t39 t40 t41 t42 t43 t44 t45 t46 t47 t48 t49 t50 t51 t52 t53 t54 t55 t56 t57 t58 t59 t60 t61 t62 t63 t64 t65 t66 t67 t68 t69 t70 t71 t72 t73 t74 t75 t76 t77 t78 t79 t80 t81 t82 t83 t84 t85 t86 t87 t88 t89 t90 t91 t92 t93 t94 t95 t96 t97 t98 t99 t100 t101 t102 t103 t104 t105 : Value} {w8 : World} {q : Nat} {ra a7 : Option Addr} {rn rc n c7 : Nat} {rl T : List UInt8} (hwk : WkOK Tryz.prog 7 W) (hq0 : W.heap.size = q)
    (hr : RB w8 ra rn rc rl) (hrn : rn ≤ 4000) (hT : RB w8 a7 n c7 T) (hn : n ≤ 4000) (b8 : Below q W w8) (e1 : raw1 = .slice ra rn rc) (e2 : turned10 = .slice a7 n c7) (h : ∀ w', Below q W w' → K (.bool true) w') :
    leatlaw29_TraceBytes_P1 K ((s0 :: raw1 :: at2 :: by3 :: s4 :: raw5 :: at6 :: by7 :: t8 :: b9 :: turned10 :: all11 :: i12 :: own13 :: x14 :: e15 :: y16 :: f17 :: t18 :: t19 :: t20 :: t21 :: t22 :: t23 :: t24 :: t25 :: t26 :: t27 :: t28 :: t29 :: t30 :: t31 :: t32 :: t33 :: t34 :: t35 :: t36 :: t37 :: t38 :: t39 :: t40 :: t41 :: t42 :: t43 :: t44 :: t45 :: t46 :: t47 :: t48 :: t49 :: t50 :: t51 :: t52 :: t53 :: t54 :: t55 :: t56 :: t57 :: t58 :: t59 :: t60 :: t61 :: t62 :: t63 :: t64 :: t65 :: t66 :: t67 :: t68 :: t69 :: t70 :: t71 :: t72 :: t73 :: t74 :: t75 :: t76 :: t77 :: t78 :: t79 :: t80 :: t81 :: t82 :: t83 :: t84 :: t85 :: t86 :: t87 :: t88 :: t89 :: t90 :: t91 :: t92 :: t93 :: t94 :: t95 :: t96 :: t97 :: t98 :: t99 :: t100 :: t101 :: t102 :: t103 :: t104 :: t105 :: [])) w8 := by
  subst e1 e2
  refine leatlaw29_TraceBytes_P1_r ?_
  refine bldSG (vs := [.slice ra rn rc, .slice a7 n c7]) Tryz.underlying33 (s := 1) (by kernel_rfl) (by kernel_rfl) (by omega) rfl (by simp) (by simp) (by simp) (by simp [Value.cells]) ?_
  intro w9 hb9 b9 s9
  have hb9 : blk w9 w8.heap.size 28 [.slice ra rn rc, .slice a7 n c7] := by simpa [Value.cells] using hb9
  have hs8 : q ≤ w8.heap.size := by have := b8.size; omega
  refine leatlaw29_TraceBytes_L1_r (Inv := fun i _ _ _ _ _ _ _ _ _ _ _ _ wr => ∃ j : Nat, i = .int .i64 (j : Nat) ∧ j ≤ 2 ∧ Below w9.heap.size w9 wr) (μ := fun i _ _ _ _ _ _ _ _ _ _ _ _ _ => 2 - (intOf i).toNat) ⟨0, rfl, by omega, Below.refl _ _⟩ ?_
  rintro _ _ _ _ _ _ _ _ _ _ _ _ _ dd w10 m ⟨j, rfl, hj, b10⟩ hm
  have hs9 := b9.size
  have b810 : Below w8.heap.size w8 w10 := b9.trans (b10.mono hs9)
  refine bin_lss ?_
  by_cases hj2 : j < 2
  · refine cond_t (by omega) ?_
    have hb10 : blk w10 w8.heap.size 28 [.slice ra rn rc, .slice a7 n c7] := below_blk b10 hb9 hb9.lt
    obtain ⟨av, nv, cv, l, hvs, hlv, hnv⟩ : ∃ (av : Option Addr) (nv cv : Nat) (l : List UInt8), ([Value.slice ra rn rc, .slice a7 n c7])[j]? = some (.slice av nv cv) ∧ RB w10 av nv cv l ∧ nv ≤ 4000 := by
      rcases (show j = 0 ∨ j = 1 by omega) with rfl | rfl
      · exact ⟨_, _, _, _, rfl, hr.below b810 (Nat.le_refl _), hrn⟩
      · exact ⟨_, _, _, _, rfl, hT.below b810 (Nat.le_refl _), hn⟩
    have hidx : ∀ {w : World} {K2 : Value → KV}, Below w10.heap.size w10 w → (∀ t, K2 t (.slice av nv cv) w) → idxA Tryz.prog 33 (.slice (some ⟨w8.heap.size, 0, none⟩) 2 2) (.int .i64 (j : Nat)) (fun t w => ld Tryz.prog 28 t (K2 t) w) w := by
      intro w K2 hbw hk
      refine idxRow (s := 1) Tryz.underlying33 (fun _ => by kernel_rfl) (by omega) (by omega) ?_
      refine ld1 (fun _ => by kernel_rfl) (below_blk hbw hb10 hb10.lt) ?_ (hk _)
      rw [Int.toNat_natCast, Nat.zero_add, Nat.mul_one]
      exact hvs
    refine empty8 w10.heap.size (Nat.le_refl _) fun a11 w11 o11 b11 => ?_
    refine hidx b11 fun _ => ?_
    refine app8 w10.heap.size o11 (hlv.below b11 (Nat.le_refl _)) (by omega) b11.size fun a12 c12 w12 o12 g12 => ?_
    have b12 : Below w10.heap.size w10 w12 := b11.trans (below_of_grown g12 b11.size (fun k hk => (OV.block o11 k hk).1))
    rw [List.nil_append, Nat.zero_add] at o12
    rw [Nat.zero_add]
    refine tget_c (OB.rb o12) (by omega) fun w13 vv b13 hv13 => ?_
    obtain ⟨sx, ax, cx, ex, rfl, hrx, hxg⟩ := got_cells hv13
    refine ext_a ?_
    refine ext_b ?_
    have hs12 := b12.size
    have hs13 := b13.size
    refine alc_stp rfl rfl fun w14 h14 b14 => ?_
    have hs14 := b14.size
    have b10_14 : Below w10.heap.size w10 w14 := (b12.trans (b13.mono hs12)).trans (b14.mono (by omega))
    have hx14 : RN w14 ax sx.picks.length cx sx.picks := hrx.1.below b14 (Nat.le_refl _)
    have o14 : OB w14 w10.heap.size a12 nv c12 l := OB.below (OB.below o12 b13 (Nat.le_refl _)) b14 (Nat.le_refl _)
    refine hidx b10_14 fun _ => ?_
    refine rget29_c (hlv.below b10_14 (Nat.le_refl _)) (by omega) fun w15 vv b15 hv15 => ?_
    obtain ⟨sy, ay, cy, ey, rfl, hry, hyg⟩ := got_cells (got_on hv15)
    refine ext_a ?_
    refine ext_b ?_
    have hs15 := b15.size
    refine alc_stp rfl rfl fun w16 h16 b16 => ?_
    have hs16 := b16.size
    have b14_16 : Below w14.heap.size w14 w16 := b15.trans (b16.mono hs15)
    have h14' : blk w16 w13.heap.size 27 (stC sx (.slice ax sx.picks.length cx)) := below_blk b14_16 h14 h14.lt
    have hx16 := RV.below hx14 b14_16 (Nat.le_refl _)
    have hy16 := RV.below hry.1 b16 (Nat.le_refl _)
    have o16 : OB w16 w10.heap.size a12 nv c12 l := OB.below o14 b14_16 (Nat.le_refl _)
    have b10_16 : Below w10.heap.size w10 w16 := b10_14.trans (b14_16.mono (by omega))
    have hlv16 : RB w16 av nv cv l := hlv.below b10_16 (Nat.le_refl _)
    have hsame : sx = sy ∧ ex = ey ∧ sx.picks.length ≤ 1000 := by
      have hlen : ∀ s, getP l = some s → s.picks.length ≤ 1000 := fun s hs => by have := (getP_some hs).1; have := (mayT_iff.1 this).2.2.2.2.2.2.2.2.1; omega
      rcases hxg with ⟨g1, rfl, rfl⟩ | ⟨g1, rfl⟩
      · rcases hyg with ⟨g2, rfl, rfl⟩ | ⟨g2, rfl⟩
        · exact ⟨rfl, rfl, by simp⟩
        · rw [g1] at g2; cases g2
      · rcases hyg with ⟨g2, rfl, rfl⟩ | ⟨g2, rfl⟩
        · rw [g1] at g2; cases g2
        · rw [g1] at g2; cases g2; exact ⟨rfl, rfl, hlen _ g1⟩
    obtain ⟨rfl, rfl, hpl⟩ := hsame
    refine leatlaw29_TraceBytes_A3_r ?_
    have hF : asB (.bool false) = some false := rfl
    refine hReg_of (fun x => blk x w13.heap.size 27 (stC sx (.slice ax sx.picks.length cx)) ∧ blk x w15.heap.size 27 (stC sx (.slice ay sx.picks.length cy))) ⟨h14'.drew, h16.drew⟩ ?_
    refine hld_of (v := .bool false) (fun x hx K hK => bin_neq (by rw [show decide (ex ≠ ex) = false from decide_eq_false (fun hh => hh rfl)]; exact hK)) ?_
    refine hG_t (x := .agg (stC sx (.slice ax sx.picks.length cx)).toArray) hF (fun x hx K hK => ldA (n := 12) (vs := stC sx (.slice ax sx.picks.length cx)) Tryz.underlying27 rfl (by kernel_rfl) hx.1 rfl rfl hK) ?_
    refine hG_t (x := .agg (stC sx (.slice ay sx.picks.length cy)).toArray) hF (fun x hx K hK => ldA (n := 12) (vs := stC sx (.slice ay sx.picks.length cy)) Tryz.underlying27 rfl (by kernel_rfl) hx.2 rfl rfl hK) ?_
    refine xG_t hF ?_
    refine rsame29_c (RV.drew hx16) (RV.drew hy16) (by omega) (by omega) fun w17 r hrr b17 => ?_
    have hrt : r = true := hrr.2 rfl
    subst hrt
    have b17 : Below w16.heap.size w16 w17 := (Below.refl _ w16).drew.trans b17
    have hs17 := b17.size
    have b10_17 : Below w10.heap.size w10 w17 := b10_16.trans (b17.mono (by omega))
    have o17 : OB w17 w10.heap.size a12 nv c12 l := OB.below o16 b17 (Nat.le_refl _)
    refine hReg_of (fun x => RB x a12 nv c12 l ∧ RB x av nv cv l ∧ blk x w8.heap.size 28 [.slice ra rn rc, .slice a7 n c7]) ⟨OB.rb o17, hlv16.below b17 (Nat.le_refl _), below_blk b10_17 hb10 hb10.lt⟩ ?_
    refine hG_t (x := .bool false) hF (fun x hx K hK => un_not hK) ?_
    refine hld_of (v := .bool false) (fun x hx K hK => pick_F hK) ?_
    refine hG_t (x := .slice a12 nv c12) hF (fun x hx K hK => hK) ?_
    refine hG_t (x := .string (bstr l)) hF (fun x hx K hK => str8 hx.1 hK) ?_
    refine hG_t (x := .slice (some ⟨w8.heap.size, 0, none⟩) 2 2) hF (fun x hx K hK => hK) ?_
    refine hG_t (x := .int .i64 (j : Nat)) hF (fun x hx K hK => hK) ?_
    refine hG_t (x := .pointer (some ⟨w8.heap.size, 0 + ((j : Nat) : Int).toNat * 1, none⟩)) hF (fun x hx K hK => idxRow Tryz.underlying33 (fun _ => by kernel_rfl) (by omega) (by omega) hK) ?_
    refine hG_t (x := .slice av nv cv) hF (fun x hx K hK => ld1 (fun _ => by kernel_rfl) hx.2.2 (by rw [Int.toNat_natCast, Nat.zero_add, Nat.mul_one]; exact hvs) hK) ?_
    refine hG_t (x := .string (bstr l)) hF (fun x hx K hK => str8 hx.2.1 hK) ?_
    refine hG_t (x := .bool false) hF (fun x hx K hK => bin_neqS (by rw [show decide (l ≠ l) = false from decide_eq_false (fun hh => hh rfl)]; exact hK)) ?_
    refine hld_of (v := .bool false) (fun x hx K hK => pick_F hK) ?_
    refine cond_F ?_
    refine leatlaw29_TraceBytes_P3_r ?_
    refine add64 (by omega) (by omega) ?_
    exact ⟨⟨j + 1, congrArg (Value.int .i64) (by push_cast; rfl), by omega, b10.trans (b10_17.mono b10.size)⟩, by rw [hm]; show 2 - ((j : Int) + 1).toNat < 2 - (j : Int).toNat; omega⟩
  · refine cond_f (by omega) ?_
    refine leatlaw29_TraceBytes_P2_r ?_
    subst hq0
    exact hwk.use (b8.trans (b810.mono hs8)) h
set_option maxHeartbeats 8000000 in
theorem traceBytes_lawW (hwk : WkOK Tryz.prog 7 W) (s : STP) (v : Option Addr) (c : Nat) (hw : STW s) (hr : RN W v s.picks.length c s.picks) (hle : s.picks.length ≤ c) (hmx : c ≤ 9223372036854775807)
    (ra : Option Addr) (rn rc : Nat) (rl : List UInt8) (rb : RB W ra rn rc rl) (hrle : rn ≤ rc) (hrmx : rc ≤ 9223372036854775807) (at_ : Int) (hat : 0 ≤ at_ ∧ at_ ≤ 65535) (by_ : Int)
    (h : ∀ w', Below W.heap.size W w' → K (.bool true) w') : call Tryz.prog 3 #[.agg (stC s (.slice v s.picks.length c)).toArray, .slice ra rn rc, .int .u16 at_, .int .u8 by_] K W := by
  refine call_of leatlaw29_TraceBytes_go (leatlaw29_TraceBytes_in ?_)
  refine box_of fun w1 hb b1 s1 => ?_
  have hb : blk w1 W.heap.size 27 (stC s (.slice v s.picks.length c)) := hb
  generalize hq0 : W.heap.size = q at *
  have hrl := rb.len
  by_cases hl : (s.picks.length : Int) > 300
  · (repeat (first | refine fA_Stp_6 ?_ | (refine ld_TL_4 ?_ (by assumption) ?_ ?_; rotate_left; exact rfl) | refine lenN ?_ | refine bin_gtr ?_ | refine cond_T ?_ | refine gsel_nt (by omega) ?_ | refine pick_t (by omega) ?_))
    exact hwk.use (hq0 ▸ b1) (fun w' b => h w' (hq0 ▸ b))
  by_cases hrl4 : (rn : Int) > 4000
  · (repeat (first | refine fA_Stp_6 ?_ | (refine ld_TL_4 ?_ (by assumption) ?_ ?_; rotate_left; exact rfl) | refine lenN ?_ | refine lenB8 ?_ | refine bin_gtr ?_ | refine cond_t (by omega) ?_ | refine gsel_nf (by omega) ?_ | refine pick_f (by omega) ?_))
    exact hwk.use (hq0 ▸ b1) (fun w' b => h w' (hq0 ▸ b))
  (repeat (first | refine fA_Stp_6 ?_ | (refine ld_TL_4 ?_ (by assumption) ?_ ?_; rotate_left; exact rfl) | refine lenN ?_ | refine lenB8 ?_ | refine bin_gtr ?_ | refine cond_f (by omega) ?_ | refine gsel_nf (by omega) ?_ | refine pick_f (by omega) ?_))
  refine ldA (n := 12) (vs := stC s (.slice v s.picks.length c)) Tryz.underlying27 rfl (by kernel_rfl) hb rfl rfl ?_
  have hr1 : RN w1 v s.picks.length c s.picks := hr.below b1 (by omega)
  refine tput_c hw hr1 (by omega) fun w2 a n c2 hb2 b2 => ?_
  have hblk2 : blk w2 q 27 (stC s (.slice v s.picks.length c)) := below_blk b2 hb (by omega)
  have bq2 : Below q W w2 := b1.trans (b2.mono (by omega))
  have hlen := hb2.len
  have hput : (putT s).length ≤ 400 := by
    cases hm : mayT s with
    | true => rw [putT_len hm]; omega
    | false => have hp : putT s = [] := by unfold putT; rw [hm]
               rw [hp]; simp
  have hsz2 : q < w2.heap.size := hblk2.lt
  -- May, twice
  have hd2 : Below w2.heap.size w2 w2.drew := (Below.refl _ w2).drew
  refine hReg_of (fun x => blk x q 27 (stC s (.slice v s.picks.length c))) hblk2.drew ?_
  refine hld_of (v := .agg (stC s (.slice v s.picks.length c)).toArray) (fun x hx K hK => ldA (n := 12) (vs := stC s (.slice v s.picks.length c)) Tryz.underlying27 rfl (by kernel_rfl) hx rfl rfl hK) ?_
  refine hld_of (v := .agg (stC s (.slice v s.picks.length c)).toArray) (fun x hx K hK => ldA (n := 12) (vs := stC s (.slice v s.picks.length c)) Tryz.underlying27 rfl (by kernel_rfl) hx rfl rfl hK) ?_
  refine tmay_c hw (RV.drew (hr.below bq2 (by omega))) (by omega) fun w3 b3 => ?_
  have b3 : Below w2.heap.size w2 w3 := hd2.trans b3
  have hblk3 : blk w3 q 27 (stC s (.slice v s.picks.length c)) := below_blk b3 hblk2 hsz2
  have bq3 : Below q W w3 := bq2.trans (b3.mono (by omega))
  refine hSub_same hblk3 ?_
  refine rmay29_c (hr.below bq3 (by omega)) (by omega) fun w4 b4 => ?_
  have hblk4 : blk w4 q 27 (stC s (.slice v s.picks.length c)) := below_blk b4 hblk3 hblk3.lt
  have bq4 : Below q W w4 := bq3.trans (b4.mono (by have := hblk3.lt; omega))
  have hb4 : RB w4 a n c2 (putT s) := (hb2.below b3 (Nat.le_refl _)).below b4 (Nat.le_refl _)
  have hlt4 := hblk4.lt
  clear hb2 b2 b3 b4 hblk2 hblk3 hr1 hd2
  refine hReg_of (fun x => RB x a n c2 (putT s) ∧ blk x q 27 (stC s (.slice v s.picks.length c))) ⟨hb4, hblk4⟩ ?_
  refine hld_of (v := .bool false) (fun x hx K hK => bin_neqBS Tryz.underlying4 rfl hK) ?_
  have hF : asB (.bool false) = some false := rfl
  refine hG_t (x := .slice a n c2) hF (fun x hx K hK => hK) ?_
  refine hG_t (x := .string (bstr (putT s))) hF (fun x hx K hK => str8 hx.1 hK) ?_
  refine hG_t (x := .agg (stC s (.slice v s.picks.length c)).toArray) hF (fun x hx K hK => ldA (n := 12) (vs := stC s (.slice v s.picks.length c)) Tryz.underlying27 rfl (by kernel_rfl) hx.2 rfl rfl hK) ?_
  refine xG_t hF ?_
  refine rput29_c hw (hr.below bq4 (by omega)) (by omega) fun w5 a5 n5 c5 hb5 b5 => ?_
  have bq5 : Below q W w5 := bq4.trans (b5.mono (by omega))
  have hb45 : RB w5 a n c2 (putT s) := hb4.below b5 (Nat.le_refl _)
  refine hSub_of (fun x => RB x a5 n5 c5 (putT s) ∧ RB x a n c2 (putT s) ∧ blk x q 27 (stC s (.slice v s.picks.length c))) (fun x hx => hx.2) ⟨hb5, hb45, below_blk b5 hblk4 hlt4⟩ ?_
  refine hG_t (x := .string (bstr (putT s))) hF (fun x hx K hK => str8 hx.1 hK) ?_
  refine hG_t (x := .bool false) hF (fun x hx K hK => bin_neqS (by rw [show decide (putT s ≠ putT s) = false from decide_eq_false (fun hh => hh rfl)]; exact hK)) ?_
  refine hld_of (v := .bool false) (fun x hx K hK => pick_F hK) ?_
  refine cond_F ?_
  -- turned
  have hlt5 : q < w5.heap.size := by have := b5.size; omega
  refine empty8 w5.heap.size (Nat.le_refl _) fun a6 w6 o6 b6 => ?_
  refine app8 w5.heap.size o6 (hb45.below b6 (Nat.le_refl _)) (by omega) b6.size fun a7 c7 w7 o7 g7 => ?_
  have b7 : Below w5.heap.size w5 w7 := b6.trans (below_of_grown g7 b6.size (fun k hk => (OV.block o6 k hk).1))
  rw [List.nil_append, Nat.zero_add] at o7
  rw [Nat.zero_add]
  refine leatlaw29_TraceBytes_A1_r ?_
  refine lenB8 ?_
  refine bin_gtr ?_
  refine leatlaw29_TraceBytes_A2_r ?_
  -- what stands behind: all, and the loop
  have rest : ∀ {s0 raw1 at2 by3 s4 raw5 at6 by7 t8 b9 turned10 all11 i12 own13 x14 e15 y16 f17 t18 t19 t20 t21 t22 t23 t24 t25 t26 t27 t28 t29 t30 t31 t32 t33 t34 t35 t36 t37 t38 t39 t40 t41 t42 t43 t44 t45 t46 t47 t48 t49 t50 t51 t52 t53 t54 t55 t56 t57 t58 t59 t60 t61 t62 t63 t64 t65 t66 t67 t68 t69 t70 t71 t72 t73 t74 t75 t76 t77 t78 t79 t80 t81 t82 t83 t84 t85 t86 t87 t88 t89 t90 t91 t92 t93 t94 t95 t96 t97 t98 t99 t100 t101 t102 t103 t104 t105 : Value} {w8 : World} {T : List UInt8}, OB w8 w5.heap.size a7 n c7 T → Below w5.heap.size w5 w8 → raw1 = .slice ra rn rc → turned10 = .slice a7 n c7 → leatlaw29_TraceBytes_P1 K ((s0 :: raw1 :: at2 :: by3 :: s4 :: raw5 :: at6 :: by7 :: t8 :: b9 :: turned10 :: all11 :: i12 :: own13 :: x14 :: e15 :: y16 :: f17 :: t18 :: t19 :: t20 :: t21 :: t22 :: t23 :: t24 :: t25 :: t26 :: t27 :: t28 :: t29 :: t30 :: t31 :: t32 :: t33 :: t34 :: t35 :: t36 :: t37 :: t38 :: t39 :: t40 :: t41 :: t42 :: t43 :: t44 :: t45 :: t46 :: t47 :: t48 :: t49 :: t50 :: t51 :: t52 :: t53 :: t54 :: t55 :: t56 :: t57 :: t58 :: t59 :: t60 :: t61 :: t62 :: t63 :: t64 :: t65 :: t66 :: t67 :: t68 :: t69 :: t70 :: t71 :: t72 :: t73 :: t74 :: t75 :: t76 :: t77 :: t78 :: t79 :: t80 :: t81 :: t82 :: t83 :: t84 :: t85 :: t86 :: t87 :: t88 :: t89 :: t90 :: t91 :: t92 :: t93 :: t94 :: t95 :: t96 :: t97 :: t98 :: t99 :: t100 :: t101 :: t102 :: t103 :: t104 :: t105 :: [])) w8 := by
    intro s0 raw1 at2 by3 s4 raw5 at6 by7 t8 b9 turned10 all11 i12 own13 x14 e15 y16 f17 t18 t19 t20 t21 t22 t23 t24 t25 t26 t27 t28 t29 t30 t31 t32 t33 t34 t35 t36 t37 t38 t39 t40 t41 t42 t43 t44 t45 t46 t47 t48 t49 t50 t51 t52 t53 t54 t55 t56 t57 t58 t59 t60 t61 t62 t63 t64 t65 t66 t67 t68 t69 t70 t71 t72 t73 t74 t75 t76 t77 t78 t79 t80 t81 t82 t83 t84 t85 t86 t87 t88 t89 t90 t91 t92 t93 t94 t95 t96 t97 t98 t99 t100 t101 t102 t103 t104 t105 w8 T o8 b8 e1 e2
    have bq8 : Below q W w8 := bq5.trans (b8.mono (by omega))
    exact traceBytes_P1 hwk hq0 (rb.below bq8 (by omega)) (by omega) (OB.rb o8) (by omega) bq8 e1 e2 h
  by_cases hn0 : (n : Int) > 0
  · refine cond_t hn0 ?_
    refine conv_int Tryz.underlying29 Tryz.underlying3 ?_
    rw [wrap_i64 (by omega) (by omega)]
    refine lenB8 ?_
    refine rem_nn (by omega) (by omega) ?_
    have hk0 : 0 ≤ at_ % (n : Int) := Int.emod_nonneg _ (by omega)
    have hk1 : at_ % (n : Int) < n := Int.emod_lt_of_pos _ (by omega)
    obtain ⟨k, hk⟩ : ∃ k : Nat, at_ % (n : Int) = k := ⟨(at_ % (n : Int)).toNat, by omega⟩
    rw [hk] at hk0 hk1 ⊢
    refine idxB o7 (by omega) fun hc => ?_
    refine ld8 hc ?_
    refine xor8 fun u hu => ?_
    refine idxB o7 (by omega) fun hc2 => ?_
    refine stoO o7 (by omega) hu fun w8 g l8 hg1 hg2 hg3 o8 oth8 => ?_
    have hl8 := o8.len
    exact rest o8 (oth_below b7 oth8 hg2) rfl rfl
  · refine cond_f hn0 ?_
    exact rest o7 b7 rfl rfl
end
end Go.Proofs.YtfjafbbalohmhaaGreatDoor
