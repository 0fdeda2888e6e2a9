import Derived.Test.YtfjafbbalohmhaaGreatDoorTra
import Derived.Test.YtfjafbbalohmhaaGreatDoorCardL
import Derived.Test.YtfjafbbalohmhaaGreatDoorTRaF
import Derived.Test.YtfjafbbalohmhaaGreatDoorTie
import Derived.Test.YtfjafbbalohmhaaGreatDoorCards
import Derived.SevenTiedAt
import Derived.WalkKit
import Derived.ProofKit
import Derived.OpenShut
import Derived.ShutString
import Derived.ChangeOld
import Derived.Below
import Derived.JoinedCond
import Derived.Deep.Matrix
import Derived.LaidMore
import Derived.Stop.Joined
namespace Go.Proofs.YtfjafbbalohmhaaGreatDoor
set_option maxRecDepth 100000
open Go.ChangeShapes Go.WideShapes Go.ChangeAt Go.RowKit
def traceRawLaid : List (String × DataW Unit) := [("leat/ledger.kinds", Rows.laid_leat_ledger_kinds), ("leat/cluster.doings", Rows.laid_leat_cluster_doings)]
set_option maxRecDepth 100000 in
theorem traceRaw_contract (H : Type) (enc : TypeId × Value → H) (W : World) (base : Nat) (args : Array Value) (ds gs : List (DataW H)) (before : List MemPlace)
    (hval0 : ∀ (j : Nat) t v, Tryz.f5.params[j]? = some t → args[j]? = some v → Value.okWide Tryz.prog W .any base t v)
    (hW : DataW.Whole enc Tryz.prog Tryz.f5.params.toList Rows.traceRawSpec.vars false W args.toList ds gs before) (hL : laidMetH Tryz.prog traceRawLaid W) :
    Calls Tryz.prog 5 args W fun e W' => ∃ v, e = .returned v ∧ Rows.traceRawSpec.post enc Tryz.prog Tryz.f5 false true false false W args v W' := by
  have hval := hval0
  have hW' := hW
  obtain ⟨p, q, hA0, hV, rfl, hfz, hnd⟩ := hW
  have hA : DataW.TrodAll enc Tryz.prog W 0 (fun _ => true) true Tryz.f5.params.toList args.toList ds p := hA0
  rw [Tryz.params5] at hA hval
  obtain ⟨v0, vs0, d0, ds0, p0, q0, hargs, rfl, rfl, h0, r0⟩ := trodAll_cons hA
  obtain ⟨v1, vs1, d1, ds1, p1, q1, rfl, rfl, rfl, h1, r1⟩ := trodAll_cons r0
  obtain ⟨v2, vs2, d2, ds2, p2, q2, rfl, rfl, rfl, h2, r2⟩ := trodAll_cons r1
  obtain ⟨v3, vs3, d3, ds3, p3, q3, rfl, rfl, rfl, h3, r3⟩ := trodAll_cons r2
  obtain ⟨v4, vs4, d4, ds4, p4, q4, rfl, rfl, rfl, h4, r4⟩ := trodAll_cons r3
  obtain ⟨v5, vs5, d5, ds5, p5, q5, rfl, rfl, rfl, h5, r5⟩ := trodAll_cons r4
  obtain ⟨rfl, rfl, rfl⟩ := trodAll_nil r5
  obtain rfl : args = #[v0, v1, v2, v3, v4, v5] := by cases args; simp_all
  obtain ⟨rfl, rfl⟩ := trodVars_none hV
  have k0 := h0
  have lt0 : ∀ x ∈ p0, x.block < W.heap.size := by obtain ⟨m, hm⟩ := k0; exact DataW.trod_lt m _ _ _ hm
  obtain ⟨a0, n0, c0, rfl⟩ := okWide_slice Tryz.underlying28 (hval 0 28 v0 rfl rfl)
  obtain ⟨⟨l0, rb0⟩, hle0, hmx0⟩ : (∃ l, RB W a0 n0 c0 l) ∧ n0 ≤ c0 ∧ c0 ≤ 9223372036854775807 := by
    obtain ⟨fuel, hf⟩ := h0
    exact rb_of_trod rfl hf
  obtain ⟨a1, rfl, rfl, rfl, w1⟩ := open_int Tryz.underlying5 (hval 1 5 v1 rfl rfl) h1
  have hx1 : 0 ≤ a1 ∧ a1 ≤ 255 := by simpa [Lit.wf, IntKind.min, IntKind.max, IntKind.signed, IntKind.bits] using w1
  have k2 := h2
  have lt2 : ∀ x ∈ p2, x.block < W.heap.size := by obtain ⟨m, hm⟩ := k2; exact DataW.trod_lt m _ _ _ hm
  obtain ⟨a2, n2, c2, rfl⟩ := okWide_slice Tryz.underlying40 (hval 2 40 v2 rfl rfl)
  obtain ⟨⟨l2, rs2⟩, hle2, hmx2⟩ : (∃ l, RSP W a2 n2 c2 l) ∧ n2 ≤ c2 ∧ c2 ≤ 9223372036854775807 := by
    obtain ⟨fuel, hf⟩ := h2
    exact rsp_of_trod rfl hf
  obtain ⟨a3, rfl, rfl, rfl, w3⟩ := open_int Tryz.underlying29 (hval 3 29 v3 rfl rfl) h3
  have hx3 : 0 ≤ a3 ∧ a3 ≤ 65535 := by simpa [Lit.wf, IntKind.min, IntKind.max, IntKind.signed, IntKind.bits] using w3
  obtain ⟨a4, rfl, rfl, rfl, w4⟩ := open_int Tryz.underlying5 (hval 4 5 v4 rfl rfl) h4
  have hx4 : 0 ≤ a4 ∧ a4 ≤ 255 := by simpa [Lit.wf, IntKind.min, IntKind.max, IntKind.signed, IntKind.bits] using w4
  obtain ⟨a5, rfl, rfl, rfl, w5⟩ := open_int Tryz.underlying3 (hval 5 3 v5 rfl rfl) h5
  have hx5 : -9223372036854775808 ≤ a5 ∧ a5 ≤ 9223372036854775807 := by simpa [Lit.wf, IntKind.min, IntKind.max, IntKind.signed, IntKind.bits] using w5
  clear hA0 hval0 hval
  have hg : ∀ g e cs, w29G g = some (e, cs) → gbk W g cs := by
    intro g e cs h
    unfold w29G at h
    split at h
    · rename_i hb; rw [Nat.eq_of_beq_eq_true hb]; cases h; exact kinds_gbk hL (by simp [traceRawLaid])
    split at h
    · rename_i hb; rw [Nat.eq_of_beq_eq_true hb]; cases h; exact doings_gbk hL (by simp [traceRawLaid])
    · cases h
  have hcalls : Calls Tryz.prog 5 #[.slice a0 n0 c0, .int .u8 a1, .slice a2 n2 c2, .int .u16 a3, .int .u8 a4, .int .i64 a5] W fun e w' => e = .returned (.bool true) ∧ Below W.heap.size W w' := by
    have h := traceRaw_law a0 n0 c0 l0 rb0 hle0 hmx0 a1 hx1 a2 n2 c2 l2 rs2 hle2 hmx2 a3 hx3 a4 hx4 a5 hx5 (W := W) (K := fun v w' => v = .bool true ∧ Below W.heap.size W w') hg (fun w' hb => ⟨rfl, hb⟩)
    refine Calls.mono h.2 ?_
    rintro e w' ⟨v, rfl, rfl, hr⟩
    exact ⟨rfl, hr⟩
  refine hcalls.mono fun e W' ⟨he, bel⟩ => ?_
  subst he
  exact ⟨_, rfl, _, _, _, [], _, [], hW', trodAll_mk1 (shut_bool Tryz.underlying4 _), (trodAll_cons_mk (Below.trod frame_laid' (by kernel_rfl) (of_decide_eq_true (by kernel_rfl)) k0 bel lt0) (trodAll_cons_mk (shut_int Tryz.underlying5 w1) (trodAll_cons_mk (Below.trod frame_laid' (by kernel_rfl) (of_decide_eq_true (by kernel_rfl)) k2 bel lt2) (trodAll_cons_mk (shut_int Tryz.underlying29 w3) (trodAll_cons_mk (shut_int Tryz.underlying5 w4) (trodAll_cons_mk (shut_int Tryz.underlying3 w5) trodAll_mk0)))))), rfl, bel.frame _, fun h => by cases h⟩
theorem traceRaw_door (os : Os) (args : Array Value) : laidMetH Tryz.prog traceRawLaid ((World.doorLaid Tryz.prog 600 os).forCall (fun _ _ => 0) ⟨#[], args, []⟩).memory :=
  laidMetH_of_parts3 (fuel := 8) (laidMet_of_run' 8 (by kernel_rfl) (by kernel_rfl)) (by kernel_rfl) (by kernel_rfl)
set_option maxRecDepth 100000 in
theorem traceRaw_lifted (os : Os) (started : os.Started) (H : Type) (enc : TypeId × Value → H) :
    ReturnsInHanded {} Tryz.checked os 5 .any (fun w args => (Rows.traceRawSpec.pre enc Tryz.prog Tryz.f5 [] false w args ∧ laidMetH Tryz.prog traceRawLaid w) ∧ sizedMet enc Tryz.prog Tryz.f5 (OpenSpec.ofChange Rows.traceRawSpec) false w args)
      (Rows.traceRawSpec.post enc Tryz.prog Tryz.f5 false true false false) := by
  refine returnsInHanded_of_change_and (C := Tryz.checked) (X := fun w _ => laidMetH Tryz.prog traceRawLaid w) (fun _ _ _ hh h => h.of_heap hh) frame_own' started (by kernel_rfl) Tryz.func5
    (ChangeSpec.witness_shaped (enc := enc) (C := Tryz.checked) (os := os) (X := fun w _ => laidMetH Tryz.prog traceRawLaid w) false (World.doorLaid Tryz.prog 600 os) #[.slice none 0 0, .int .u8 0, .slice none 0 0, .int .u16 0, .int .u8 0, .int .i64 0] 8 rfl (World.shaped_of_RefB (by kernel_rfl) (by kernel_rfl)) (by kernel_rfl) (by kernel_rfl) (by kernel_rfl) (traceRaw_door os _)) ?_
  intro W base args ds gs before hval hW _ _ hL _
  exact traceRaw_contract H enc W base args ds gs before hval hW hL
theorem traceRaw_row : Rows.TraceRawSaid :=
  OpenClaim.holds_of_wide 5 Tryz.f5 rfl rfl rfl rfl rfl rfl rfl ⟨rfl, rfl, rfl, rfl, rfl⟩ rfl rfl rfl rfl rfl (by kernel_rfl) Tryz.func5 traceRaw_closed
    (of_decide_eq_true (by kernel_rfl)) (by unfold Func.isWrapper; first | (rw [if_pos (by decide +kernel)]; kernel_rfl) | (rw [if_neg (by decide +kernel)]; exact ⟨rfl, rfl⟩))
    (fun os started H enc _ => traceRaw_lifted os started H enc)
theorem traceRaw_proved : Rows.TraceRawCardSaid :=
  Claim7.holds_tied_plain_at .later [] [.funcs, .funcs] true (true, "8d5b8a57d041ebf6e04c9d2ebbe40b59f33ac12c04eb01c03e2fe4d1086ee7df") false
    traceRaw_row (fun _ h => by cases h) (by kernel_rfl) (fun _ h => by cases h) traceRaw_row_tie rfl ⟨rfl, rfl⟩ (by kernel_rfl) rfl
    (fun f fn hf hfn => by
      obtain rfl : f = 5 := Option.some.inj ((show Tryz.prog.funcNamed "leat/leatlaw29.TraceRaw" = some 5 by kernel_rfl).symm.trans hf) |>.symm
      obtain rfl : fn = Tryz.f5 := (Option.some.inj (Tryz.func5.symm.trans hfn)).symm
      exact ⟨by kernel_rfl, fun j t ht => by
        rw [Tryz.params5] at ht
        have hm : t ∈ [28, 5, 40, 29, 5, 3] := by simpa using Array.mem_of_getElem? ht
        have hall : ([28, 5, 40, 29, 5, 3].all fun u => !Tryz.prog.wantsStandIn u) = true := by kernel_rfl
        exact (show Tryz.prog.wantsStandIn t = false by simpa using List.all_eq_true.1 hall t hm)⟩)
    traceRaw_goes
end Go.Proofs.YtfjafbbalohmhaaGreatDoor
