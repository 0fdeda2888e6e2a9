/- The statement of FrameBack: what stands in any bytes up to where they end is what is made of all records: whatever the input, true, and the input reads as it did. -/
import Derived.Test.YtccllogpakmjcaaSFrameBack
import Derived.Test.YtccllogpakmjcaaFrm5
import Derived.Test.YtccllogpakmjcaaFrame
namespace Go.Proofs.Ytccllogpakmjcaa
open Go.ChangeShapes Go.WideShapes Go.ChangeAt Go.RowKit

theorem allF_spec (b : List UInt8) : ∀ (f q : Nat), q ≤ b.length → b.length < q + f →
    q ≤ (allF b f q).2 ∧ (allF b f q).2 ≤ b.length ∧ framesB (allF b f q).1 = (b.drop q).take ((allF b f q).2 - q) ∧ (∀ s ∈ (allF b f q).1, s.length ≤ 4096) ∧ recF b (allF b f q).2 = none := by
  intro f
  induction f with
  | zero => intro q h1 h2; omega
  | succ f ih =>
    intro q h1 h2
    simp only [allF]
    cases hrec : recF b q with
    | none => exact ⟨Nat.le_refl _, h1, by simp [framesB], by simp, hrec⟩
    | some sq =>
      obtain ⟨s, q2⟩ := sq
      obtain ⟨e1, e2, e3, e4, e5, e6⟩ := recF_some hrec
      obtain ⟨i1, i2, i3, i4, i5⟩ := ih q2 e2 (by omega)
      dsimp only
      refine ⟨by omega, i2, ?_, ?_, i5⟩
      · show frameB s ++ framesB (allF b f q2).1 = _
        have hfr := (frame_eq (b := b) (q := q) (N := s.length) (by omega) e5.symm).2 (by rw [← e4]; exact e6)
        rw [← e4] at hfr
        have eM : q2 = q + (8 + s.length) := by omega
        rw [i3, hfr]
        generalize 8 + s.length = M at eM
        rw [show (allF b f q2).2 - q = M + ((allF b f q2).2 - q2) by omega, List.take_add, List.drop_drop, ← eM]
      · intro t ht
        rcases List.mem_cons.1 ht with rfl | ht
        · exact e3
        · exact i4 t ht
theorem allB_spec (b : List UInt8) : (allB b).2 ≤ b.length ∧ framesB (allB b).1 = b.take (allB b).2 ∧ (∀ s ∈ (allB b).1, s.length ≤ 4096) ∧ recF b (allB b).2 = none := by
  obtain ⟨_, h2, h3, h4, h5⟩ := allF_spec b (b.length + 1) 0 (by omega) (by omega)
  exact ⟨h2, by unfold allB; simpa using h3, h4, h5⟩
theorem vast_frames (L : List (List UInt8)) : vast L ≤ (framesB L).length := by rw [framesB_len]; omega

section
attribute [local irreducible] bin un conv call callV blt slc fldA fld idxA idx lkp mUpd mEnt eSt rng nxt ent ext alc box bld bldS ld sto nilC mkMap mkS ifc pick rdy wts gsel sti cond retM Gives cCode cGrp cSeq cOp
theorem hG_t {v : Value} {want : Bool} {S : World → Prop} {s : KV → World → Prop} {k : Value → Prop} {x : Value} (hv : asB v = some want) (h : ∀ w, S w → ∀ K : KV, K x w → s K w) (hk : k x) : hG v want S s k :=
  ⟨x, fun _ w hw => h w hw _ ⟨rfl, rfl⟩, fun hh => absurd hv hh, hk⟩
theorem xG_t {v : Value} {want : Bool} {s : KV → World → Prop} {K : KV} {w : World} (hv : asB v = some want) (h : s K w) : xG v want s K w := ⟨fun _ => h, fun hh => absurd hv hh⟩
theorem asB_t {p : Prop} [Decidable p] (hp : p) : asB (.bool (decide p)) = some true := by show some (decide p) = some true; rw [decide_eq_true hp]
theorem asB_f {p : Prop} [Decidable p] (hp : ¬ p) : asB (.bool (decide p)) = some false := by show some (decide p) = some false; rw [decide_eq_false hp]

theorem back_law {a0 : Option Addr} {n0 c0 : Nat} {b : List UInt8} {w : World} {K : KV} (r0 : RB w a0 n0 c0 b) (hn : n0 ≤ 9223372036854775807)
    (h : ∀ w', Below w.heap.size w w' → K (.bool true) w') : call Try.prog 5 #[.slice a0 n0 c0] K w := by
  have hl := r0.len
  refine call_of leatlaw03_FrameBack_go (leatlaw03_FrameBack_in ?_)
  by_cases hbig : 8192 < n0
  · (repeat (first | refine bin_eql ?_ | refine bin_neq ?_ | refine bin_lss ?_ | refine bin_leq ?_ | refine bin_gtr ?_ | refine bin_geq ?_ | refine add64 (by omega) (by omega) ?_ | refine sub64 (by omega) (by omega) ?_ | refine ext_a ?_ | refine ext_b ?_ | refine ext3_a ?_ | refine ext3_b ?_ | refine ext3_c ?_ | refine un_notD ?_ | refine mul64 (by omega) (by omega) ?_ | refine cvIU (by omega) (by omega) ?_ | refine cvIUint (by omega) (by omega) ?_ | refine cvUI (by omega) (by omega) ?_ | refine cvBU (by omega) (by omega) ?_ | refine len8 ?_ | refine len36 ?_ | refine pick_T ?_ | refine pick_F ?_ | refine cond_T ?_ | refine cond_F ?_ | refine cond_t (by omega) ?_ | refine cond_f (by omega) ?_ | refine gsel_T ?_ | refine gsel_F ?_ | refine gsel_Tn ?_ | refine gsel_Fn ?_ | refine gsel_U ?_ | refine gsel_pt (by omega) ?_ | refine gsel_pf (by omega) ?_ | refine gsel_nt (by omega) ?_ | refine gsel_nf (by omega) ?_ | refine pick_t (by omega) ?_ | refine pick_f (by omega) ?_ | refine sti_of (fun _ hK => bin_eql hK) ?_ | refine sti_of (fun _ hK => bin_neq hK) ?_ | refine sti_of (fun _ hK => bin_lss hK) ?_ | refine sti_of (fun _ hK => bin_leq hK) ?_ | refine sti_of (fun _ hK => bin_gtr hK) ?_ | refine sti_of (fun _ hK => bin_geq hK) ?_ | refine sti_of (fun _ hK => add64 (by omega) (by omega) hK) ?_ | refine sti_of (fun _ hK => sub64 (by omega) (by omega) hK) ?_ | refine sti_of (fun _ hK => un_notD hK) ?_ | refine sti_of (fun _ hK => len8 hK) ?_ | refine sti_of (fun _ hK => pick_T hK) ?_ | refine sti_of (fun _ hK => pick_F hK) ?_))
    exact works_c h
  (repeat (first | refine bin_eql ?_ | refine bin_neq ?_ | refine bin_lss ?_ | refine bin_leq ?_ | refine bin_gtr ?_ | refine bin_geq ?_ | refine add64 (by omega) (by omega) ?_ | refine sub64 (by omega) (by omega) ?_ | refine ext_a ?_ | refine ext_b ?_ | refine ext3_a ?_ | refine ext3_b ?_ | refine ext3_c ?_ | refine un_notD ?_ | refine mul64 (by omega) (by omega) ?_ | refine cvIU (by omega) (by omega) ?_ | refine cvIUint (by omega) (by omega) ?_ | refine cvUI (by omega) (by omega) ?_ | refine cvBU (by omega) (by omega) ?_ | refine len8 ?_ | refine len36 ?_ | refine pick_T ?_ | refine pick_F ?_ | refine cond_T ?_ | refine cond_F ?_ | refine cond_t (by omega) ?_ | refine cond_f (by omega) ?_ | refine gsel_T ?_ | refine gsel_F ?_ | refine gsel_Tn ?_ | refine gsel_Fn ?_ | refine gsel_U ?_ | refine gsel_pt (by omega) ?_ | refine gsel_pf (by omega) ?_ | refine gsel_nt (by omega) ?_ | refine gsel_nf (by omega) ?_ | refine pick_t (by omega) ?_ | refine pick_f (by omega) ?_ | refine sti_of (fun _ hK => bin_eql hK) ?_ | refine sti_of (fun _ hK => bin_neq hK) ?_ | refine sti_of (fun _ hK => bin_lss hK) ?_ | refine sti_of (fun _ hK => bin_leq hK) ?_ | refine sti_of (fun _ hK => bin_gtr hK) ?_ | refine sti_of (fun _ hK => bin_geq hK) ?_ | refine sti_of (fun _ hK => add64 (by omega) (by omega) hK) ?_ | refine sti_of (fun _ hK => sub64 (by omega) (by omega) hK) ?_ | refine sti_of (fun _ hK => un_notD hK) ?_ | refine sti_of (fun _ hK => len8 hK) ?_ | refine sti_of (fun _ hK => pick_T hK) ?_ | refine sti_of (fun _ hK => pick_F hK) ?_))
  obtain ⟨s1, s2, s3, s4⟩ := allB_spec b
  refine fall_c r0 (by omega) ?_
  intro a1 n1 c1 vs1 w1 L1 b1
  have h1 := obb_len L1
  have hfl := congrArg List.length s2
  rw [framesB_len, List.length_take] at hfl
  (repeat (first | refine bin_eql ?_ | refine bin_neq ?_ | refine bin_lss ?_ | refine bin_leq ?_ | refine bin_gtr ?_ | refine bin_geq ?_ | refine add64 (by omega) (by omega) ?_ | refine sub64 (by omega) (by omega) ?_ | refine ext_a ?_ | refine ext_b ?_ | refine ext3_a ?_ | refine ext3_b ?_ | refine ext3_c ?_ | refine un_notD ?_ | refine mul64 (by omega) (by omega) ?_ | refine cvIU (by omega) (by omega) ?_ | refine cvIUint (by omega) (by omega) ?_ | refine cvUI (by omega) (by omega) ?_ | refine cvBU (by omega) (by omega) ?_ | refine len8 ?_ | refine len36 ?_ | refine pick_T ?_ | refine pick_F ?_ | refine cond_T ?_ | refine cond_F ?_ | refine cond_t (by omega) ?_ | refine cond_f (by omega) ?_ | refine gsel_T ?_ | refine gsel_F ?_ | refine gsel_Tn ?_ | refine gsel_Fn ?_ | refine gsel_U ?_ | refine gsel_pt (by omega) ?_ | refine gsel_pf (by omega) ?_ | refine gsel_nt (by omega) ?_ | refine gsel_nf (by omega) ?_ | refine pick_t (by omega) ?_ | refine pick_f (by omega) ?_ | refine sti_of (fun _ hK => bin_eql hK) ?_ | refine sti_of (fun _ hK => bin_neq hK) ?_ | refine sti_of (fun _ hK => bin_lss hK) ?_ | refine sti_of (fun _ hK => bin_leq hK) ?_ | refine sti_of (fun _ hK => bin_gtr hK) ?_ | refine sti_of (fun _ hK => bin_geq hK) ?_ | refine sti_of (fun _ hK => add64 (by omega) (by omega) hK) ?_ | refine sti_of (fun _ hK => sub64 (by omega) (by omega) hK) ?_ | refine sti_of (fun _ hK => un_notD hK) ?_ | refine sti_of (fun _ hK => len8 hK) ?_ | refine sti_of (fun _ hK => pick_T hK) ?_ | refine sti_of (fun _ hK => pick_F hK) ?_))
  refine fput_c (l := []) (RV.nil w1) L1.rbb (by omega) (by omega) (by have := vast_frames (allB b).1; rw [framesB_len] at this; omega) ?_
  rw [show putF [] (allB b).1 = (framesB (allB b).1, 0) by
    unfold putF; rw [if_pos (List.all_eq_true.2 fun s hs => by simpa using s3 s hs)]; simp]
  rw [s2]
  generalize hA : (allB b).2 = A at *
  intro a2 n2 c2 w2 o2 b2
  have B2 : Below w.heap.size w w2 := b1.trans (b2.mono b1.size)
  have bd : Below w2.heap.size w2 w2.drew := (Below.refl _ w2).drew
  have q0 := (r0.below B2 (Nat.le_refl _)).below bd (Nat.le_refl _)
  have q2 := (OB.below o2 bd (Nat.le_refl _)).rb
  (repeat (first | refine bin_eql ?_ | refine bin_neq ?_ | refine bin_lss ?_ | refine bin_leq ?_ | refine bin_gtr ?_ | refine bin_geq ?_ | refine add64 (by omega) (by omega) ?_ | refine sub64 (by omega) (by omega) ?_ | refine ext_a ?_ | refine ext_b ?_ | refine ext3_a ?_ | refine ext3_b ?_ | refine ext3_c ?_ | refine un_notD ?_ | refine mul64 (by omega) (by omega) ?_ | refine cvIU (by omega) (by omega) ?_ | refine cvIUint (by omega) (by omega) ?_ | refine cvUI (by omega) (by omega) ?_ | refine cvBU (by omega) (by omega) ?_ | refine len8 ?_ | refine len36 ?_ | refine pick_T ?_ | refine pick_F ?_ | refine cond_T ?_ | refine cond_F ?_ | refine cond_t (by omega) ?_ | refine cond_f (by omega) ?_ | refine gsel_T ?_ | refine gsel_F ?_ | refine gsel_Tn ?_ | refine gsel_Fn ?_ | refine gsel_U ?_ | refine gsel_pt (by omega) ?_ | refine gsel_pf (by omega) ?_ | refine gsel_nt (by omega) ?_ | refine gsel_nf (by omega) ?_ | refine pick_t (by omega) ?_ | refine pick_f (by omega) ?_ | refine sti_of (fun _ hK => bin_eql hK) ?_ | refine sti_of (fun _ hK => bin_neq hK) ?_ | refine sti_of (fun _ hK => bin_lss hK) ?_ | refine sti_of (fun _ hK => bin_leq hK) ?_ | refine sti_of (fun _ hK => bin_gtr hK) ?_ | refine sti_of (fun _ hK => bin_geq hK) ?_ | refine sti_of (fun _ hK => add64 (by omega) (by omega) hK) ?_ | refine sti_of (fun _ hK => sub64 (by omega) (by omega) hK) ?_ | refine sti_of (fun _ hK => un_notD hK) ?_ | refine sti_of (fun _ hK => len8 hK) ?_ | refine sti_of (fun _ hK => pick_T hK) ?_ | refine sti_of (fun _ hK => pick_F hK) ?_))
  refine hReg_of (fun w' => RB w' a0 n0 c0 b ∧ RB w' a2 n2 c2 (b.take A)) ⟨q0, q2⟩ ?_
  refine hld_of (fun w hw K hK => bin_eql hK) ?_
  refine hG_t (asB_t (by omega)) (fun w hw K hK => hK) ?_
  refine hG_t (asB_t (by omega)) (fun w hw K hK => bin_geq hK) ?_
  refine hld_of (fun w hw K hK => pick_t (by omega) hK) ?_
  refine hG_t (asB_t (by omega)) (fun w hw K hK => hK) ?_
  refine hG_t (asB_t (by omega)) (fun w hw K hK => hK) ?_
  refine hG_t (asB_t (by omega)) (fun w hw K hK => len8 hK) ?_
  refine hG_t (asB_t (by omega)) (fun w hw K hK => bin_leq hK) ?_
  refine hld_of (fun w hw K hK => pick_t (by omega) hK) ?_
  refine hG_t (asB_t (by omega)) (fun w hw K hK => hK) ?_
  refine hG_t (asB_t (by omega)) (fun w hw K hK => str8 hw.2 hK) ?_
  refine hG_t (asB_t (by omega)) (fun w hw K hK => hK) ?_
  refine hG_t (asB_t (by omega)) (fun w hw K hK => hK) ?_
  refine hG_t (asB_t (by omega)) (fun w hw K hK => hK) ?_
  refine hG_t (asB_t (by omega)) (fun w hw K hK => len8 hK) ?_
  refine xG_t (asB_t (by omega)) (max2i ?_)
  rw [if_neg (by omega)]
  refine hSub_same ⟨q0, q2⟩ ?_
  refine xG_t (asB_t (by omega)) (min2i ?_)
  rw [if_neg (by omega)]
  refine hSub_same ⟨q0, q2⟩ ?_
  refine hG_t (asB_t (by omega)) (fun w hw K hK => slcTo (s := 1) (m := A) Try.underlying22 size_u8 (by have := RV.cap q0; omega) hK) ?_
  refine hG_t (asB_t (by omega)) (fun w hw K hK => str8 (hw.1.upTo (by omega)) hK) ?_
  refine hG_t (asB_t (by omega)) (fun w hw K hK => bin_eqlS hK) ?_
  refine hld_of (fun w hw K hK => pick_t (by omega) hK) ?_
  refine xG_t (asB_t rfl) ?_
  refine works_c ?_
  intro w3 b3
  refine hReg_of (fun _ => True) trivial ?_
  refine hld_of (fun w hw K hK => pick_t rfl hK) ?_
  exact h _ (B2.drew.trans (b3.mono (by have := B2.drew.size; exact this)))
end

set_option maxRecDepth 100000 in
theorem frameBack_contract (H : Type) (enc : TypeId × Value → H) (W : World) (base : Nat) (args : Array Value) (ds gs : List (DataW H)) (before : List MemPlace)
    (hval0 : ∀ (j : Nat) t v, Try.f5.params[j]? = some t → args[j]? = some v → Value.okWide Try.prog W .any base t v)
    (hW : DataW.Whole enc Try.prog Try.f5.params.toList Rows.frameBackSpec.vars false W args.toList ds gs before) :
    Calls Try.prog 5 args W fun e W' => ∃ v, e = .returned v ∧ Rows.frameBackSpec.post enc Try.prog Try.f5 false true false false W args v W' := by
  have hval := hval0
  have hW' := hW
  obtain ⟨p, q, hA0, hV, rfl, hfz, hnd⟩ := hW
  have hA : DataW.TrodAll enc Try.prog W 0 (fun _ => true) true Try.f5.params.toList args.toList ds p := hA0
  rw [Try.params5] at hA hval
  obtain ⟨v0, vs0, d0, ds0, p0, q0, hargs, rfl, rfl, h0, r0⟩ := trodAll_cons hA
  obtain ⟨rfl, rfl, rfl⟩ := trodAll_nil r0
  obtain rfl : args = #[v0] := by cases args; simp_all
  obtain ⟨rfl, rfl⟩ := trodVars_none hV
  obtain ⟨a0, n0, c0, rfl⟩ := okWide_slice Try.underlying22 (hval 0 22 v0 rfl rfl)
  have k0 := h0
  have lt0 : ∀ x ∈ p0, x.block < W.heap.size := by obtain ⟨m, hm⟩ := k0; exact DataW.trod_lt m _ _ _ hm
  obtain ⟨⟨l0, rb0⟩, hle0, hmx0⟩ : (∃ l, RB W a0 n0 c0 l) ∧ n0 ≤ c0 ∧ c0 ≤ 9223372036854775807 := by
    obtain ⟨fuel, hf⟩ := h0
    exact rb_of_trod (by rfl) hf
  clear hA0 hval0 hval
  have hcalls : Calls Try.prog 5 #[.slice a0 n0 c0] W fun e w' => e = .returned (.bool true) ∧ Below W.heap.size W w' := by
    exact calls_of (back_law rb0 (by omega) (fun w' hb' => ⟨rfl, hb'⟩))
  refine hcalls.mono fun e W' ⟨he, bel⟩ => ?_
  subst he
  exact ⟨_, rfl, _, _, _, [], _, [], hW', trodAll_mk1 (shut_bool Try.underlying4 _), (trodAll_cons_mk (Below.trod frame_laid (by kernel_rfl) (of_decide_eq_true (by kernel_rfl)) k0 bel lt0) trodAll_mk0), rfl, bel.frame _, fun h => by cases h⟩

set_option maxRecDepth 100000 in
theorem frameBack_lifted (os : Os) (started : os.Started) (H : Type) (enc : TypeId × Value → H) :
    ReturnsInHanded {} Try.checked os 5 .any (Rows.frameBackSpec.pre6 enc Try.prog Try.f5 Rows.frameBackRow.domain false) (Rows.frameBackSpec.post enc Try.prog Try.f5 false true false false) := by
  refine returnsInHanded_of_change (C := Try.checked) frame_own started (by kernel_rfl) Try.func5
    (ChangeSpec.witness6 (enc := enc) (C := Try.checked) false ⟨#[], #[.slice none 0 0], []⟩ 8 (by kernel_rfl) (by kernel_rfl) (by kernel_rfl) (by kernel_rfl)) ?_
  intro W base args ds gs before hval hW _ _
  exact frameBack_contract H enc W base args ds gs before hval hW

theorem frameBack_proved : Rows.FrameBackSaid :=
  OpenClaim.holds_of_wide 5 Try.f5 rfl rfl rfl rfl rfl rfl rfl ⟨rfl, rfl, rfl, rfl, rfl⟩ rfl rfl rfl rfl rfl (by kernel_rfl) Try.func5 (by kernel_rfl)
    (of_decide_eq_true (by kernel_rfl)) (by unfold Func.isWrapper; first | (rw [if_pos (by decide +kernel)]; kernel_rfl) | (rw [if_neg (by decide +kernel)]; exact ⟨rfl, rfl⟩))
    (fun os started H enc _ => frameBack_lifted os started H enc)

end Go.Proofs.Ytccllogpakmjcaa
