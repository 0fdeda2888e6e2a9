/- TraceBytes, as a card: the frame around its walk. -/
import Derived.Test.YtfjafbbalohmhaaGreatDoorTby
import Derived.Test.YtfjafbbalohmhaaGreatDoorCardL
import Derived.Test.YtfjafbbalohmhaaGreatDoorTByF
import Derived.Test.YtfjafbbalohmhaaGreatDoorTie
import Derived.Test.YtfjafbbalohmhaaGreatDoorCards
import Derived.SevenTiedAt
import Derived.WalkKit
import Derived.ProofKit
import Derived.OpenShut
import Derived.ShutString
import Derived.ChangeOld
import Derived.Below
import Derived.JoinedCond
import Derived.Deep.Matrix
import Derived.LaidMore
import Derived.Stop.Joined
namespace Go.Proofs.YtfjafbbalohmhaaGreatDoor
set_option maxRecDepth 100000
open Go.ChangeShapes Go.WideShapes Go.ChangeAt Go.RowKit
def traceBytesLaid : List (String × DataW Unit) := [("leat/ledger.kinds", Rows.laid_leat_ledger_kinds), ("leat/cluster.doings", Rows.laid_leat_cluster_doings)]
set_option maxRecDepth 100000 in
theorem traceBytes_contract (H : Type) (enc : TypeId × Value → H) (W : World) (base : Nat) (args : Array Value) (ds gs : List (DataW H)) (before : List MemPlace)
    (hval0 : ∀ (j : Nat) t v, Tryz.f3.params[j]? = some t → args[j]? = some v → Value.okWide Tryz.prog W .any base t v)
    (hW : DataW.Whole enc Tryz.prog Tryz.f3.params.toList Rows.traceBytesSpec.vars false W args.toList ds gs before) (hL : laidMetH Tryz.prog traceBytesLaid W) :
    Calls Tryz.prog 3 args W fun e W' => ∃ v, e = .returned v ∧ Rows.traceBytesSpec.post enc Tryz.prog Tryz.f3 false true false false W args v W' := by
  have hval := hval0
  have hW' := hW
  obtain ⟨p, q, hA0, hV, rfl, hfz, hnd⟩ := hW
  have hA : DataW.TrodAll enc Tryz.prog W 0 (fun _ => true) true Tryz.f3.params.toList args.toList ds p := hA0
  rw [Tryz.params3] at hA hval
  obtain ⟨v0, vs0, d0, ds0, p0, q0, hargs, rfl, rfl, h0, r0⟩ := trodAll_cons hA
  obtain ⟨v1, vs1, d1, ds1, p1, q1, rfl, rfl, rfl, h1, r1⟩ := trodAll_cons r0
  obtain ⟨v2, vs2, d2, ds2, p2, q2, rfl, rfl, rfl, h2, r2⟩ := trodAll_cons r1
  obtain ⟨v3, vs3, d3, ds3, p3, q3, rfl, rfl, rfl, h3, r3⟩ := trodAll_cons r2
  obtain ⟨rfl, rfl, rfl⟩ := trodAll_nil r3
  obtain rfl : args = #[v0, v1, v2, v3] := by cases args; simp_all
  obtain ⟨rfl, rfl⟩ := trodVars_none hV
  have k0 := h0
  have lt0 : ∀ x ∈ p0, x.block < W.heap.size := by obtain ⟨m, hm⟩ := k0; exact DataW.trod_lt m _ _ _ hm
  obtain ⟨sv0, rfl, hz0⟩ := okWide_struct Tryz.underlying27 (hval 0 27 v0 rfl rfl)
  obtain ⟨s0, a0, c0, hc0, sw0, si0, hr0, hle0, hmx0⟩ : ∃ s a c, sv0.toList = stC s (.slice a s.picks.length c) ∧ STW s ∧ STI s ∧ RN W a s.picks.length c s.picks ∧ s.picks.length ≤ c ∧ c ≤ 9223372036854775807 := by
    obtain ⟨m, hm⟩ := h0
    exact open_step hm
  obtain rfl : sv0 = (stC s0 (.slice a0 s0.picks.length c0)).toArray := by rw [← hc0]
  have k1 := h1
  have lt1 : ∀ x ∈ p1, x.block < W.heap.size := by obtain ⟨m, hm⟩ := k1; exact DataW.trod_lt m _ _ _ hm
  obtain ⟨a1, n1, c1, rfl⟩ := okWide_slice Tryz.underlying28 (hval 1 28 v1 rfl rfl)
  obtain ⟨⟨l1, rb1⟩, hle1, hmx1⟩ : (∃ l, RB W a1 n1 c1 l) ∧ n1 ≤ c1 ∧ c1 ≤ 9223372036854775807 := by
    obtain ⟨fuel, hf⟩ := h1
    exact rb_of_trod rfl hf
  obtain ⟨a2, rfl, rfl, rfl, w2⟩ := open_int Tryz.underlying29 (hval 2 29 v2 rfl rfl) h2
  have hx2 : 0 ≤ a2 ∧ a2 ≤ 65535 := by simpa [Lit.wf, IntKind.min, IntKind.max, IntKind.signed, IntKind.bits] using w2
  obtain ⟨a3, rfl, rfl, rfl, w3⟩ := open_int Tryz.underlying5 (hval 3 5 v3 rfl rfl) h3
  have hx3 : 0 ≤ a3 ∧ a3 ≤ 255 := by simpa [Lit.wf, IntKind.min, IntKind.max, IntKind.signed, IntKind.bits] using w3
  clear hA0 hval0 hval
  have hg : ∀ g e cs, w29G g = some (e, cs) → gbk W g cs := by
    intro g e cs h
    unfold w29G at h
    split at h
    · rename_i hb; rw [Nat.eq_of_beq_eq_true hb]; cases h; exact kinds_gbk hL (by simp [traceBytesLaid])
    split at h
    · rename_i hb; rw [Nat.eq_of_beq_eq_true hb]; cases h; exact doings_gbk hL (by simp [traceBytesLaid])
    · cases h
  have hcalls : Calls Tryz.prog 3 #[.agg (stC s0 (.slice a0 s0.picks.length c0)).toArray, .slice a1 n1 c1, .int .u16 a2, .int .u8 a3] W fun e w' => e = .returned (.bool true) ∧ Below W.heap.size W w' := by
    have h := traceBytes_law s0 a0 c0 sw0 si0 hr0 hle0 hmx0 a1 n1 c1 l1 rb1 hle1 hmx1 a2 hx2 a3 hx3 (W := W) (K := fun v w' => v = .bool true ∧ Below W.heap.size W w') hg (fun w' hb => ⟨rfl, hb⟩)
    refine Calls.mono h.2 ?_
    rintro e w' ⟨v, rfl, rfl, hr⟩
    exact ⟨rfl, hr⟩
  refine hcalls.mono fun e W' ⟨he, bel⟩ => ?_
  subst he
  exact ⟨_, rfl, _, _, _, [], _, [], hW', trodAll_mk1 (shut_bool Tryz.underlying4 _), (trodAll_cons_mk (Below.trod frame_laid' (by kernel_rfl) (of_decide_eq_true (by kernel_rfl)) k0 bel lt0) (trodAll_cons_mk (Below.trod frame_laid' (by kernel_rfl) (of_decide_eq_true (by kernel_rfl)) k1 bel lt1) (trodAll_cons_mk (shut_int Tryz.underlying29 w2) (trodAll_cons_mk (shut_int Tryz.underlying5 w3) trodAll_mk0)))), rfl, bel.frame _, fun h => by cases h⟩
/-- The door's own heap meets the condition. -/
theorem traceBytes_door (os : Os) (args : Array Value) : laidMetH Tryz.prog traceBytesLaid ((World.doorLaid Tryz.prog 600 os).forCall (fun _ _ => 0) ⟨#[], args, []⟩).memory :=
  laidMetH_of_parts3 (fuel := 8) (laidMet_of_run' 8 (by kernel_rfl) (by kernel_rfl)) (by kernel_rfl) (by kernel_rfl)
set_option maxRecDepth 100000 in
theorem traceBytes_lifted (os : Os) (started : os.Started) (H : Type) (enc : TypeId × Value → H) :
    ReturnsInHanded {} Tryz.checked os 3 .any (fun w args => (Rows.traceBytesSpec.pre enc Tryz.prog Tryz.f3 [] false w args ∧ laidMetH Tryz.prog traceBytesLaid w) ∧ sizedMet enc Tryz.prog Tryz.f3 (OpenSpec.ofChange Rows.traceBytesSpec) false w args)
      (Rows.traceBytesSpec.post enc Tryz.prog Tryz.f3 false true false false) := by
  refine returnsInHanded_of_change_and (C := Tryz.checked) (X := fun w _ => laidMetH Tryz.prog traceBytesLaid w) (fun _ _ _ hh h => h.of_heap hh) frame_own' started (by kernel_rfl) Tryz.func3
    (ChangeSpec.witness_shaped (enc := enc) (C := Tryz.checked) (os := os) (X := fun w _ => laidMetH Tryz.prog traceBytesLaid w) false (World.doorLaid Tryz.prog 600 os) #[.agg #[.int .u8 0, .int .i64 0, .int .u8 0, .int .u64 0, .int .i64 0, .int .i64 0, .int .u64 0, .int .u64 0, .int .i64 0, .int .i64 0, .int .i64 0, .slice none 0 0], .slice none 0 0, .int .u16 0, .int .u8 0] 8 rfl (World.shaped_of_RefB (by kernel_rfl) (by kernel_rfl)) (by kernel_rfl) (by kernel_rfl) (by kernel_rfl) (traceBytes_door os _)) ?_
  intro W base args ds gs before hval hW _ _ hL _
  exact traceBytes_contract H enc W base args ds gs before hval hW hL
theorem traceBytes_row : Rows.TraceBytesSaid :=
  OpenClaim.holds_of_wide 3 Tryz.f3 rfl rfl rfl rfl rfl rfl rfl ⟨rfl, rfl, rfl, rfl, rfl⟩ rfl rfl rfl rfl rfl (by kernel_rfl) Tryz.func3 traceBytes_closed
    (of_decide_eq_true (by kernel_rfl)) (by unfold Func.isWrapper; first | (rw [if_pos (by decide +kernel)]; kernel_rfl) | (rw [if_neg (by decide +kernel)]; exact ⟨rfl, rfl⟩))
    (fun os started H enc _ => traceBytes_lifted os started H enc)
theorem traceBytes_proved : Rows.TraceBytesCardSaid :=
  Claim7.holds_tied_plain_at .later [] [.funcs, .funcs] true (true, "8d5b8a57d041ebf6e04c9d2ebbe40b59f33ac12c04eb01c03e2fe4d1086ee7df") false
    traceBytes_row (fun _ h => by cases h) (by kernel_rfl) (fun _ h => by cases h) traceBytes_row_tie rfl ⟨rfl, rfl⟩ (by kernel_rfl) rfl
    (fun f fn hf hfn => by
      obtain rfl : f = 3 := Option.some.inj ((show Tryz.prog.funcNamed "leat/leatlaw29.TraceBytes" = some 3 by kernel_rfl).symm.trans hf) |>.symm
      obtain rfl : fn = Tryz.f3 := (Option.some.inj (Tryz.func3.symm.trans hfn)).symm
      exact ⟨by kernel_rfl, fun j t ht => by
        rw [Tryz.params3] at ht
        have hm : t ∈ [27, 28, 29, 5] := by simpa using Array.mem_of_getElem? ht
        have hall : ([27, 28, 29, 5].all fun u => !Tryz.prog.wantsStandIn u) = true := by kernel_rfl
        exact (show Tryz.prog.wantsStandIn t = false by simpa using List.all_eq_true.1 hall t hm)⟩)
    traceBytes_goes
end Go.Proofs.YtfjafbbalohmhaaGreatDoor
