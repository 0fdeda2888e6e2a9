/- TraceBack, as a card: the frame around its walk. -/
import Derived.Test.YtfjafbbalohmhaaGreatDoorTba
import Derived.Test.YtfjafbbalohmhaaGreatDoorCardL
import Derived.Test.YtfjafbbalohmhaaGreatDoorTBaF
import Derived.Test.YtfjafbbalohmhaaGreatDoorTie
import Derived.Test.YtfjafbbalohmhaaGreatDoorCards
import Derived.SevenTiedAt
import Derived.WalkKit
import Derived.ProofKit
import Derived.OpenShut
import Derived.ShutString
import Derived.ChangeOld
import Derived.Below
import Derived.JoinedCond
import Derived.Deep.Matrix
import Derived.LaidMore
import Derived.Stop.Joined
namespace Go.Proofs.YtfjafbbalohmhaaGreatDoor
set_option maxRecDepth 100000
open Go.ChangeShapes Go.WideShapes Go.ChangeAt Go.RowKit
def traceBackLaid : List (String × DataW Unit) := [("leat/ledger.kinds", Rows.laid_leat_ledger_kinds), ("leat/cluster.doings", Rows.laid_leat_cluster_doings)]
set_option maxRecDepth 100000 in
theorem traceBack_contract (H : Type) (enc : TypeId × Value → H) (W : World) (base : Nat) (args : Array Value) (ds gs : List (DataW H)) (before : List MemPlace)
    (hval0 : ∀ (j : Nat) t v, Tryz.f4.params[j]? = some t → args[j]? = some v → Value.okWide Tryz.prog W .any base t v)
    (hW : DataW.Whole enc Tryz.prog Tryz.f4.params.toList Rows.traceBackSpec.vars false W args.toList ds gs before) (hL : laidMetH Tryz.prog traceBackLaid W) :
    Calls Tryz.prog 4 args W fun e W' => ∃ v, e = .returned v ∧ Rows.traceBackSpec.post enc Tryz.prog Tryz.f4 false true false false W args v W' := by
  have hval := hval0
  have hW' := hW
  obtain ⟨p, q, hA0, hV, rfl, hfz, hnd⟩ := hW
  have hA : DataW.TrodAll enc Tryz.prog W 0 (fun _ => true) true Tryz.f4.params.toList args.toList ds p := hA0
  rw [Tryz.params4] at hA hval
  obtain ⟨v0, vs0, d0, ds0, p0, q0, hargs, rfl, rfl, h0, r0⟩ := trodAll_cons hA
  obtain ⟨v1, vs1, d1, ds1, p1, q1, rfl, rfl, rfl, h1, r1⟩ := trodAll_cons r0
  obtain ⟨rfl, rfl, rfl⟩ := trodAll_nil r1
  obtain rfl : args = #[v0, v1] := by cases args; simp_all
  obtain ⟨rfl, rfl⟩ := trodVars_none hV
  have k0 := h0
  have lt0 : ∀ x ∈ p0, x.block < W.heap.size := by obtain ⟨m, hm⟩ := k0; exact DataW.trod_lt m _ _ _ hm
  obtain ⟨sv0, rfl, hz0⟩ := okWide_struct Tryz.underlying27 (hval 0 27 v0 rfl rfl)
  obtain ⟨s0, a0, c0, hc0, sw0, si0, hr0, hle0, hmx0⟩ : ∃ s a c, sv0.toList = stC s (.slice a s.picks.length c) ∧ STW s ∧ STI s ∧ RN W a s.picks.length c s.picks ∧ s.picks.length ≤ c ∧ c ≤ 9223372036854775807 := by
    obtain ⟨m, hm⟩ := h0
    exact open_step hm
  obtain rfl : sv0 = (stC s0 (.slice a0 s0.picks.length c0)).toArray := by rw [← hc0]
  obtain ⟨a1, rfl, rfl, rfl, w1⟩ := open_int Tryz.underlying29 (hval 1 29 v1 rfl rfl) h1
  have hx1 : 0 ≤ a1 ∧ a1 ≤ 65535 := by simpa [Lit.wf, IntKind.min, IntKind.max, IntKind.signed, IntKind.bits] using w1
  clear hA0 hval0 hval
  have hg : ∀ g e cs, w29G g = some (e, cs) → gbk W g cs := by
    intro g e cs h
    unfold w29G at h
    split at h
    · rename_i hb; rw [Nat.eq_of_beq_eq_true hb]; cases h; exact kinds_gbk hL (by simp [traceBackLaid])
    split at h
    · rename_i hb; rw [Nat.eq_of_beq_eq_true hb]; cases h; exact doings_gbk hL (by simp [traceBackLaid])
    · cases h
  have hcalls : Calls Tryz.prog 4 #[.agg (stC s0 (.slice a0 s0.picks.length c0)).toArray, .int .u16 a1] W fun e w' => e = .returned (.bool true) ∧ Below W.heap.size W w' := by
    have h := traceBack_law s0 a0 c0 sw0 si0 hr0 hle0 hmx0 a1 hx1 (W := W) (K := fun v w' => v = .bool true ∧ Below W.heap.size W w') hg (fun w' hb => ⟨rfl, hb⟩)
    refine Calls.mono h.2 ?_
    rintro e w' ⟨v, rfl, rfl, hr⟩
    exact ⟨rfl, hr⟩
  refine hcalls.mono fun e W' ⟨he, bel⟩ => ?_
  subst he
  exact ⟨_, rfl, _, _, _, [], _, [], hW', trodAll_mk1 (shut_bool Tryz.underlying4 _), (trodAll_cons_mk (Below.trod frame_laid' (by kernel_rfl) (of_decide_eq_true (by kernel_rfl)) k0 bel lt0) (trodAll_cons_mk (shut_int Tryz.underlying29 w1) trodAll_mk0)), rfl, bel.frame _, fun h => by cases h⟩
/-- The door's own heap meets the condition. -/
theorem traceBack_door (os : Os) (args : Array Value) : laidMetH Tryz.prog traceBackLaid ((World.doorLaid Tryz.prog 600 os).forCall (fun _ _ => 0) ⟨#[], args, []⟩).memory :=
  laidMetH_of_parts3 (fuel := 8) (laidMet_of_run' 8 (by kernel_rfl) (by kernel_rfl)) (by kernel_rfl) (by kernel_rfl)
set_option maxRecDepth 100000 in
theorem traceBack_lifted (os : Os) (started : os.Started) (H : Type) (enc : TypeId × Value → H) :
    ReturnsInHanded {} Tryz.checked os 4 .any (fun w args => (Rows.traceBackSpec.pre enc Tryz.prog Tryz.f4 [] false w args ∧ laidMetH Tryz.prog traceBackLaid w) ∧ sizedMet enc Tryz.prog Tryz.f4 (OpenSpec.ofChange Rows.traceBackSpec) false w args)
      (Rows.traceBackSpec.post enc Tryz.prog Tryz.f4 false true false false) := by
  refine returnsInHanded_of_change_and (C := Tryz.checked) (X := fun w _ => laidMetH Tryz.prog traceBackLaid w) (fun _ _ _ hh h => h.of_heap hh) frame_own' started (by kernel_rfl) Tryz.func4
    (ChangeSpec.witness_shaped (enc := enc) (C := Tryz.checked) (os := os) (X := fun w _ => laidMetH Tryz.prog traceBackLaid w) false (World.doorLaid Tryz.prog 600 os) #[.agg #[.int .u8 0, .int .i64 0, .int .u8 0, .int .u64 0, .int .i64 0, .int .i64 0, .int .u64 0, .int .u64 0, .int .i64 0, .int .i64 0, .int .i64 0, .slice none 0 0], .int .u16 0] 8 rfl (World.shaped_of_RefB (by kernel_rfl) (by kernel_rfl)) (by kernel_rfl) (by kernel_rfl) (by kernel_rfl) (traceBack_door os _)) ?_
  intro W base args ds gs before hval hW _ _ hL _
  exact traceBack_contract H enc W base args ds gs before hval hW hL
theorem traceBack_row : Rows.TraceBackSaid :=
  OpenClaim.holds_of_wide 4 Tryz.f4 rfl rfl rfl rfl rfl rfl rfl ⟨rfl, rfl, rfl, rfl, rfl⟩ rfl rfl rfl rfl rfl (by kernel_rfl) Tryz.func4 traceBack_closed
    (of_decide_eq_true (by kernel_rfl)) (by unfold Func.isWrapper; first | (rw [if_pos (by decide +kernel)]; kernel_rfl) | (rw [if_neg (by decide +kernel)]; exact ⟨rfl, rfl⟩))
    (fun os started H enc _ => traceBack_lifted os started H enc)
theorem traceBack_proved : Rows.TraceBackCardSaid :=
  Claim7.holds_tied_plain_at .later [] [.funcs, .funcs] true (true, "8d5b8a57d041ebf6e04c9d2ebbe40b59f33ac12c04eb01c03e2fe4d1086ee7df") false
    traceBack_row (fun _ h => by cases h) (by kernel_rfl) (fun _ h => by cases h) traceBack_row_tie rfl ⟨rfl, rfl⟩ (by kernel_rfl) rfl
    (fun f fn hf hfn => by
      obtain rfl : f = 4 := Option.some.inj ((show Tryz.prog.funcNamed "leat/leatlaw29.TraceBack" = some 4 by kernel_rfl).symm.trans hf) |>.symm
      obtain rfl : fn = Tryz.f4 := (Option.some.inj (Tryz.func4.symm.trans hfn)).symm
      exact ⟨by kernel_rfl, fun j t ht => by
        rw [Tryz.params4] at ht
        have hm : t ∈ [27, 29] := by simpa using Array.mem_of_getElem? ht
        have hall : ([27, 29].all fun u => !Tryz.prog.wantsStandIn u) = true := by kernel_rfl
        exact (show Tryz.prog.wantsStandIn t = false by simpa using List.all_eq_true.1 hall t hm)⟩)
    traceBack_goes
end Go.Proofs.YtfjafbbalohmhaaGreatDoor
