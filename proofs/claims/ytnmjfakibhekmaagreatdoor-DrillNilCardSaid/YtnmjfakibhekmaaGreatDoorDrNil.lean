/- DrillNil: where there is nothing, all is as the document says; for every input. The law's own example is reckoned. -/
import Derived.Test.YtnmjfakibhekmaaGreatDoorW30
import Derived.Test.YtnmjfakibhekmaaGreatDoorCardL
import Derived.Test.YtnmjfakibhekmaaGreatDoorDrNilF
import Derived.Test.YtnmjfakibhekmaaGreatDoorTie
import Derived.Test.YtnmjfakibhekmaaGreatDoorCards
import Derived.SevenTiedAt
import Derived.WalkKit
import Derived.ProofKit
import Derived.OpenShut
import Derived.ShutString
import Derived.ChangeOld
import Derived.Below
import Derived.JoinedCond
import Derived.Deep.Matrix
import Derived.LaidMore
import Derived.Stop.Joined
namespace Go.Proofs.YtnmjfakibhekmaaGreatDoor
set_option maxRecDepth 100000
open Go.ChangeShapes Go.WideShapes Go.ChangeAt Go.RowKit
def drillNilLaid : List (String × DataW Unit) := [("leat/ledger.kinds", Rows.laid_leat_ledger_kinds), ("leat/cluster.doings", Rows.laid_leat_cluster_doings), ("leat/drill.makers", Rows.laid_leat_drill_makers)]
def drillNilCl (P : Program) : Cl := iFn hts (icW 37) jc0 P w30G 2000 60
def drillNilCp (P : Program) : Cp := iPf jc0 P w30G 2000 60
set_option maxRecDepth 100000 in
theorem drillNil_law (p0 : Option Addr) (n0 c0 : Nat) {W : World} {K : KV} (hg : ∀ g e cs, w30G g = some (e, cs) → gbk W g cs) (hK : ∀ w', Below W.heap.size W w' → K (.bool true) w') : call Tryz.prog 7 (List.toArray [.slice p0 n0 c0]) K W := by
  have hcl : ClOK Tryz.prog w30G W.heap.size (drillNilCl Tryz.prog) := iFn_ok names hts_ok w30_ok jc0_ok 60
  have hcp : CpOK Tryz.prog w30G W.heap.size (drillNilCp Tryz.prog) := iPf_ok names jc0_ok 60
  refine law_ok (b := decide ((20 : Int) < (n0 : Int))) (args := [.val (.one (.k (.slice p0 n0 c0)))]) (H := ⟨.e, 0⟩) (R := fun _ => none) (F := 2000) (c := .tmp 7) names hts_ok hcl hcp Tryz.func7 (r0 := cd Tryz.f7 [0]) (r1 := cd Tryz.f7 [1, 0, 0]) (x := cd Tryz.f7 [1, 0, 1, 0]) (y := cd Tryz.f7 [1, 0, 1, 1]) (rest := cd Tryz.f7 [1, 1]) (by kernel_rfl) (.cons (rfl) .nil) (sim0 hg) (by kernel_rfl) (by kernel_rfl) (by kernel_rfl) (fun _ => by kernel_rfl) (fun _ => by kernel_rfl) hK
set_option maxRecDepth 100000 in
theorem drillNil_contract (H : Type) (enc : TypeId × Value → H) (W : World) (base : Nat) (args : Array Value) (ds gs : List (DataW H)) (before : List MemPlace)
    (hval0 : ∀ (j : Nat) t v, Tryz.f7.params[j]? = some t → args[j]? = some v → Value.okWide Tryz.prog W .any base t v)
    (hW : DataW.Whole enc Tryz.prog Tryz.f7.params.toList Rows.drillNilSpec.vars false W args.toList ds gs before) (hL : laidMetH Tryz.prog drillNilLaid W) :
    Calls Tryz.prog 7 args W fun e W' => ∃ v, e = .returned v ∧ Rows.drillNilSpec.post enc Tryz.prog Tryz.f7 false true false false W args v W' := by
  have hval := hval0
  have hW' := hW
  obtain ⟨p, q, hA0, hV, rfl, hfz, hnd⟩ := hW
  have hA : DataW.TrodAll enc Tryz.prog W 0 (fun _ => true) true Tryz.f7.params.toList args.toList ds p := hA0
  rw [Tryz.params7] at hA hval
  obtain ⟨v0, vs0, d0, ds0, p0, q0, hargs, rfl, rfl, h0, r0⟩ := trodAll_cons hA
  obtain ⟨rfl, rfl, rfl⟩ := trodAll_nil r0
  obtain rfl : args = #[v0] := by cases args; simp_all
  obtain ⟨rfl, rfl⟩ := trodVars_none hV
  obtain ⟨p0', n0, c0, rfl⟩ := okWide_slice Tryz.underlying77 (hval 0 77 v0 rfl rfl)
  have k0 := h0
  have lt0 : ∀ x ∈ p0, x.block < W.heap.size := by obtain ⟨m, hm⟩ := k0; exact DataW.trod_lt m _ _ _ hm
  clear hA0 hval0 hval
  have hg : ∀ g e cs, w30G g = some (e, cs) → gbk W g cs := by
    intro g e cs h
    unfold w30G at h
    split at h
    · rename_i hb; rw [Nat.eq_of_beq_eq_true hb]; cases h; exact kinds_gbk hL (by simp [drillNilLaid])
    split at h
    · rename_i hb; rw [Nat.eq_of_beq_eq_true hb]; cases h; exact doings_gbk hL (by simp [drillNilLaid])
    split at h
    · rename_i hb; rw [Nat.eq_of_beq_eq_true hb]; cases h; exact makers_gbk hL (by simp [drillNilLaid])
    · cases h
  have hcalls : Calls Tryz.prog 7 #[.slice p0' n0 c0] W fun e w' => e = .returned (.bool true) ∧ Below W.heap.size W w' := by
    have h := drillNil_law p0' n0 c0 (W := W) (K := fun v w' => v = .bool true ∧ Below W.heap.size W w') hg (fun w' hb => ⟨rfl, hb⟩)
    refine Calls.mono h.2 ?_
    rintro e w' ⟨v, rfl, rfl, hr⟩
    exact ⟨rfl, hr⟩
  refine hcalls.mono fun e W' ⟨he, bel⟩ => ?_
  subst he
  exact ⟨_, rfl, _, _, _, [], _, [], hW', trodAll_mk1 (shut_bool Tryz.underlying4 _), (trodAll_cons_mk (Below.trod frame_laid' (by kernel_rfl) (of_decide_eq_true (by kernel_rfl)) k0 bel lt0) trodAll_mk0), rfl, bel.frame _, fun h => by cases h⟩
/-- The door's own heap meets the condition. -/
theorem drillNil_door (os : Os) (args : Array Value) : laidMetH Tryz.prog drillNilLaid ((World.doorLaid Tryz.prog 600 os).forCall (fun _ _ => 0) ⟨#[], args, []⟩).memory :=
  laidMetH_of_parts3 (fuel := 8) (laidMet_of_run' 8 (by kernel_rfl) (by kernel_rfl)) (by kernel_rfl) (by kernel_rfl)
set_option maxRecDepth 100000 in
theorem drillNil_lifted (os : Os) (started : os.Started) (H : Type) (enc : TypeId × Value → H) :
    ReturnsInHanded {} Tryz.checked os 7 .any (fun w args => (Rows.drillNilSpec.pre enc Tryz.prog Tryz.f7 [] false w args ∧ laidMetH Tryz.prog drillNilLaid w) ∧ sizedMet enc Tryz.prog Tryz.f7 (OpenSpec.ofChange Rows.drillNilSpec) false w args)
      (Rows.drillNilSpec.post enc Tryz.prog Tryz.f7 false true false false) := by
  refine returnsInHanded_of_change_and (C := Tryz.checked) (X := fun w _ => laidMetH Tryz.prog drillNilLaid w) (fun _ _ _ hh h => h.of_heap hh) frame_own' started (by kernel_rfl) Tryz.func7
    (ChangeSpec.witness_shaped (enc := enc) (C := Tryz.checked) (os := os) (X := fun w _ => laidMetH Tryz.prog drillNilLaid w) false (World.doorLaid Tryz.prog 600 os) #[.slice none 0 0] 8 rfl (World.shaped_of_RefB (by kernel_rfl) (by kernel_rfl)) (by kernel_rfl) (by kernel_rfl) (by kernel_rfl) (drillNil_door os _)) ?_
  intro W base args ds gs before hval hW _ _ hL _
  exact drillNil_contract H enc W base args ds gs before hval hW hL
theorem drillNil_row : Rows.DrillNilSaid :=
  OpenClaim.holds_of_wide 7 Tryz.f7 rfl rfl rfl rfl rfl rfl rfl ⟨rfl, rfl, rfl, rfl, rfl⟩ rfl rfl rfl rfl rfl (by kernel_rfl) Tryz.func7 drillNil_closed
    (of_decide_eq_true (by kernel_rfl)) (by unfold Func.isWrapper; first | (rw [if_pos (by decide +kernel)]; kernel_rfl) | (rw [if_neg (by decide +kernel)]; exact ⟨rfl, rfl⟩))
    (fun os started H enc _ => drillNil_lifted os started H enc)
theorem drillNil_proved : Rows.DrillNilCardSaid :=
  Claim7.holds_tied_plain_at .later [] [.funcs, .funcs, .funcs] true (true, "6cd60dae0501f940047049f5c9e83b411b295a293d45c2852e0bc823ea56bbed") false
    drillNil_row (fun _ h => by cases h) (by kernel_rfl) (fun _ h => by cases h) drillNil_row_tie rfl ⟨rfl, rfl⟩ (by kernel_rfl) rfl
    (fun f fn hf hfn => by
      obtain rfl : f = 7 := Option.some.inj ((show Tryz.prog.funcNamed "leat/leatlaw30.DrillNil" = some 7 by kernel_rfl).symm.trans hf) |>.symm
      obtain rfl : fn = Tryz.f7 := (Option.some.inj (Tryz.func7.symm.trans hfn)).symm
      exact ⟨by kernel_rfl, fun j t ht => by
        rw [Tryz.params7] at ht
        have hm : t ∈ [77] := by simpa using Array.mem_of_getElem? ht
        have hall : ([77].all fun u => !Tryz.prog.wantsStandIn u) = true := by kernel_rfl
        exact (show Tryz.prog.wantsStandIn t = false by simpa using List.all_eq_true.1 hall t hm)⟩)
    drillNil_goes
end Go.Proofs.YtnmjfakibhekmaaGreatDoor
