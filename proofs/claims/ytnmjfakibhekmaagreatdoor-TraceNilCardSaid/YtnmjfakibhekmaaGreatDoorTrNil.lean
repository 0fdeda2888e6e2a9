/- TraceNil: where there is nothing, all is as the document says; for every input. The law's own example is reckoned. -/
import Derived.Test.YtnmjfakibhekmaaGreatDoorW29
import Derived.Test.YtnmjfakibhekmaaGreatDoorCardL
import Derived.Test.YtnmjfakibhekmaaGreatDoorTrNilF
import Derived.Test.YtnmjfakibhekmaaGreatDoorTie
import Derived.Test.YtnmjfakibhekmaaGreatDoorCards
import Derived.SevenTiedAt
import Derived.WalkKit
import Derived.ProofKit
import Derived.OpenShut
import Derived.ShutString
import Derived.ChangeOld
import Derived.Below
import Derived.JoinedCond
import Derived.Deep.Matrix
import Derived.LaidMore
import Derived.Stop.Joined
namespace Go.Proofs.YtnmjfakibhekmaaGreatDoor
set_option maxRecDepth 100000
open Go.ChangeShapes Go.WideShapes Go.ChangeAt Go.RowKit
def traceNilLaid : List (String × DataW Unit) := [("leat/ledger.kinds", Rows.laid_leat_ledger_kinds), ("leat/cluster.doings", Rows.laid_leat_cluster_doings)]
def traceNilCl (P : Program) : Cl := iFn hts (icW 31) jc0 P w29G 2000 60
def traceNilCp (P : Program) : Cp := iPf jc0 P w29G 2000 60
set_option maxRecDepth 100000 in
theorem traceNil_law (a0_0 : Int) (a0_1 : Int) (a0_2 : Int) (a0_3 : Int) (a0_4 : Int) (a0_5 : Int) (a0_6 : Int) (a0_7 : Int) (a0_8 : Int) (a0_9 : Int) (a0_10 : Int) (p0_11 : Option Addr) (n0_11 c0_11 : Nat) {W : World} {K : KV} (hg : ∀ g e cs, w29G g = some (e, cs) → gbk W g cs) (hK : ∀ w', Below W.heap.size W w' → K (.bool true) w') : call Tryz.prog 6 (List.toArray [.agg (List.toArray [.int .u8 a0_0, .int .i64 a0_1, .int .u8 a0_2, .int .u64 a0_3, .int .i64 a0_4, .int .i64 a0_5, .int .u64 a0_6, .int .u64 a0_7, .int .i64 a0_8, .int .i64 a0_9, .int .i64 a0_10, .slice p0_11 n0_11 c0_11])]) K W := by
  have hcl : ClOK Tryz.prog w29G W.heap.size (traceNilCl Tryz.prog) := iFn_ok names hts_ok w29_ok jc0_ok 60
  have hcp : CpOK Tryz.prog w29G W.heap.size (traceNilCp Tryz.prog) := iPf_ok names jc0_ok 60
  refine law_ok (b := decide ((300 : Int) < (n0_11 : Int))) (args := [.val (.agg [.k (.int .u8 a0_0), .k (.int .i64 a0_1), .k (.int .u8 a0_2), .k (.int .u64 a0_3), .k (.int .i64 a0_4), .k (.int .i64 a0_5), .k (.int .u64 a0_6), .k (.int .u64 a0_7), .k (.int .i64 a0_8), .k (.int .i64 a0_9), .k (.int .i64 a0_10), .k (.slice p0_11 n0_11 c0_11)])]) (H := ⟨.e, 0⟩) (R := fun _ => none) (F := 2000) (c := .tmp 11) names hts_ok hcl hcp Tryz.func6 (r0 := cd Tryz.f6 [0]) (r1 := cd Tryz.f6 [1, 0, 0]) (x := cd Tryz.f6 [1, 0, 1, 0]) (y := cd Tryz.f6 [1, 0, 1, 1]) (rest := cd Tryz.f6 [1, 1]) (by kernel_rfl) (.cons (⟨_, .cons ⟨rfl, rfl⟩ (.cons ⟨rfl, rfl⟩ (.cons ⟨rfl, rfl⟩ (.cons ⟨rfl, rfl⟩ (.cons ⟨rfl, rfl⟩ (.cons ⟨rfl, rfl⟩ (.cons ⟨rfl, rfl⟩ (.cons ⟨rfl, rfl⟩ (.cons ⟨rfl, rfl⟩ (.cons ⟨rfl, rfl⟩ (.cons ⟨rfl, rfl⟩ (.cons ⟨rfl, rfl⟩ .nil))))))))))), rfl⟩) .nil) (sim0 hg) (by kernel_rfl) (by kernel_rfl) (by kernel_rfl) (fun _ => by kernel_rfl) (fun _ => by kernel_rfl) hK
set_option maxRecDepth 100000 in
theorem traceNil_contract (H : Type) (enc : TypeId × Value → H) (W : World) (base : Nat) (args : Array Value) (ds gs : List (DataW H)) (before : List MemPlace)
    (hval0 : ∀ (j : Nat) t v, Tryz.f6.params[j]? = some t → args[j]? = some v → Value.okWide Tryz.prog W .any base t v)
    (hW : DataW.Whole enc Tryz.prog Tryz.f6.params.toList Rows.traceNilSpec.vars false W args.toList ds gs before) (hL : laidMetH Tryz.prog traceNilLaid W) :
    Calls Tryz.prog 6 args W fun e W' => ∃ v, e = .returned v ∧ Rows.traceNilSpec.post enc Tryz.prog Tryz.f6 false true false false W args v W' := by
  have hval := hval0
  have hW' := hW
  obtain ⟨p, q, hA0, hV, rfl, hfz, hnd⟩ := hW
  have hA : DataW.TrodAll enc Tryz.prog W 0 (fun _ => true) true Tryz.f6.params.toList args.toList ds p := hA0
  rw [Tryz.params6] at hA hval
  obtain ⟨v0, vs0, d0, ds0, p0, q0, hargs, rfl, rfl, h0, r0⟩ := trodAll_cons hA
  obtain ⟨rfl, rfl, rfl⟩ := trodAll_nil r0
  obtain rfl : args = #[v0] := by cases args; simp_all
  obtain ⟨rfl, rfl⟩ := trodVars_none hV
  have k0 := h0
  have lt0 : ∀ x ∈ p0, x.block < W.heap.size := by obtain ⟨m, hm⟩ := k0; exact DataW.trod_lt m _ _ _ hm
  obtain ⟨l0, rfl, hl0⟩ := okWide_cells (ts := [5, 3, 5, 22, 3, 2, 22, 22, 3, 3, 3, 57]) Tryz.underlying59 (by kernel_rfl) (by kernel_rfl) (hval 0 59 v0 rfl rfl)
  obtain ⟨x0_0, m0_0, rfl, g0_0, hl0_0⟩ := hl0.inv
  obtain ⟨a0_0, rfl⟩ := cell_int Tryz.underlying5 g0_0
  obtain ⟨x0_1, m0_1, rfl, g0_1, hl0_1⟩ := hl0_0.inv
  obtain ⟨a0_1, rfl⟩ := cell_int Tryz.underlying3 g0_1
  obtain ⟨x0_2, m0_2, rfl, g0_2, hl0_2⟩ := hl0_1.inv
  obtain ⟨a0_2, rfl⟩ := cell_int Tryz.underlying5 g0_2
  obtain ⟨x0_3, m0_3, rfl, g0_3, hl0_3⟩ := hl0_2.inv
  obtain ⟨a0_3, rfl⟩ := cell_int Tryz.underlying22 g0_3
  obtain ⟨x0_4, m0_4, rfl, g0_4, hl0_4⟩ := hl0_3.inv
  obtain ⟨a0_4, rfl⟩ := cell_int Tryz.underlying3 g0_4
  obtain ⟨x0_5, m0_5, rfl, g0_5, hl0_5⟩ := hl0_4.inv
  obtain ⟨a0_5, rfl⟩ := cell_int Tryz.underlying2 g0_5
  obtain ⟨x0_6, m0_6, rfl, g0_6, hl0_6⟩ := hl0_5.inv
  obtain ⟨a0_6, rfl⟩ := cell_int Tryz.underlying22 g0_6
  obtain ⟨x0_7, m0_7, rfl, g0_7, hl0_7⟩ := hl0_6.inv
  obtain ⟨a0_7, rfl⟩ := cell_int Tryz.underlying22 g0_7
  obtain ⟨x0_8, m0_8, rfl, g0_8, hl0_8⟩ := hl0_7.inv
  obtain ⟨a0_8, rfl⟩ := cell_int Tryz.underlying3 g0_8
  obtain ⟨x0_9, m0_9, rfl, g0_9, hl0_9⟩ := hl0_8.inv
  obtain ⟨a0_9, rfl⟩ := cell_int Tryz.underlying3 g0_9
  obtain ⟨x0_10, m0_10, rfl, g0_10, hl0_10⟩ := hl0_9.inv
  obtain ⟨a0_10, rfl⟩ := cell_int Tryz.underlying3 g0_10
  obtain ⟨x0_11, m0_11, rfl, g0_11, hl0_11⟩ := hl0_10.inv
  obtain ⟨p0_11, n0_11, c0_11, rfl⟩ := cell_slc Tryz.underlying57 g0_11
  obtain rfl := hl0_11.inv0
  clear hA0 hval0 hval
  have hg : ∀ g e cs, w29G g = some (e, cs) → gbk W g cs := by
    intro g e cs h
    unfold w29G at h
    split at h
    · rename_i hb; rw [Nat.eq_of_beq_eq_true hb]; cases h; exact kinds_gbk hL (by simp [traceNilLaid])
    split at h
    · rename_i hb; rw [Nat.eq_of_beq_eq_true hb]; cases h; exact doings_gbk hL (by simp [traceNilLaid])
    · cases h
  have hcalls : Calls Tryz.prog 6 #[.agg (List.toArray [.int .u8 a0_0, .int .i64 a0_1, .int .u8 a0_2, .int .u64 a0_3, .int .i64 a0_4, .int .i64 a0_5, .int .u64 a0_6, .int .u64 a0_7, .int .i64 a0_8, .int .i64 a0_9, .int .i64 a0_10, .slice p0_11 n0_11 c0_11])] W fun e w' => e = .returned (.bool true) ∧ Below W.heap.size W w' := by
    have h := traceNil_law a0_0 a0_1 a0_2 a0_3 a0_4 a0_5 a0_6 a0_7 a0_8 a0_9 a0_10 p0_11 n0_11 c0_11 (W := W) (K := fun v w' => v = .bool true ∧ Below W.heap.size W w') hg (fun w' hb => ⟨rfl, hb⟩)
    refine Calls.mono h.2 ?_
    rintro e w' ⟨v, rfl, rfl, hr⟩
    exact ⟨rfl, hr⟩
  refine hcalls.mono fun e W' ⟨he, bel⟩ => ?_
  subst he
  exact ⟨_, rfl, _, _, _, [], _, [], hW', trodAll_mk1 (shut_bool Tryz.underlying4 _), (trodAll_cons_mk (Below.trod frame_laid' (by kernel_rfl) (of_decide_eq_true (by kernel_rfl)) k0 bel lt0) trodAll_mk0), rfl, bel.frame _, fun h => by cases h⟩
/-- The door's own heap meets the condition. -/
theorem traceNil_door (os : Os) (args : Array Value) : laidMetH Tryz.prog traceNilLaid ((World.doorLaid Tryz.prog 600 os).forCall (fun _ _ => 0) ⟨#[], args, []⟩).memory :=
  laidMetH_of_parts3 (fuel := 8) (laidMet_of_run' 8 (by kernel_rfl) (by kernel_rfl)) (by kernel_rfl) (by kernel_rfl)
set_option maxRecDepth 100000 in
theorem traceNil_lifted (os : Os) (started : os.Started) (H : Type) (enc : TypeId × Value → H) :
    ReturnsInHanded {} Tryz.checked os 6 .any (fun w args => (Rows.traceNilSpec.pre enc Tryz.prog Tryz.f6 [] false w args ∧ laidMetH Tryz.prog traceNilLaid w) ∧ sizedMet enc Tryz.prog Tryz.f6 (OpenSpec.ofChange Rows.traceNilSpec) false w args)
      (Rows.traceNilSpec.post enc Tryz.prog Tryz.f6 false true false false) := by
  refine returnsInHanded_of_change_and (C := Tryz.checked) (X := fun w _ => laidMetH Tryz.prog traceNilLaid w) (fun _ _ _ hh h => h.of_heap hh) frame_own' started (by kernel_rfl) Tryz.func6
    (ChangeSpec.witness_shaped (enc := enc) (C := Tryz.checked) (os := os) (X := fun w _ => laidMetH Tryz.prog traceNilLaid w) false (World.doorLaid Tryz.prog 600 os) #[.agg #[.int .u8 0, .int .i64 0, .int .u8 0, .int .u64 0, .int .i64 0, .int .i64 0, .int .u64 0, .int .u64 0, .int .i64 0, .int .i64 0, .int .i64 0, .slice none 0 0]] 8 rfl (World.shaped_of_RefB (by kernel_rfl) (by kernel_rfl)) (by kernel_rfl) (by kernel_rfl) (by kernel_rfl) (traceNil_door os _)) ?_
  intro W base args ds gs before hval hW _ _ hL _
  exact traceNil_contract H enc W base args ds gs before hval hW hL
theorem traceNil_row : Rows.TraceNilSaid :=
  OpenClaim.holds_of_wide 6 Tryz.f6 rfl rfl rfl rfl rfl rfl rfl ⟨rfl, rfl, rfl, rfl, rfl⟩ rfl rfl rfl rfl rfl (by kernel_rfl) Tryz.func6 traceNil_closed
    (of_decide_eq_true (by kernel_rfl)) (by unfold Func.isWrapper; first | (rw [if_pos (by decide +kernel)]; kernel_rfl) | (rw [if_neg (by decide +kernel)]; exact ⟨rfl, rfl⟩))
    (fun os started H enc _ => traceNil_lifted os started H enc)
theorem traceNil_proved : Rows.TraceNilCardSaid :=
  Claim7.holds_tied_plain_at .later [] [.funcs, .funcs] true (true, "6cd60dae0501f940047049f5c9e83b411b295a293d45c2852e0bc823ea56bbed") false
    traceNil_row (fun _ h => by cases h) (by kernel_rfl) (fun _ h => by cases h) traceNil_row_tie rfl ⟨rfl, rfl⟩ (by kernel_rfl) rfl
    (fun f fn hf hfn => by
      obtain rfl : f = 6 := Option.some.inj ((show Tryz.prog.funcNamed "leat/leatlaw29.TraceNil" = some 6 by kernel_rfl).symm.trans hf) |>.symm
      obtain rfl : fn = Tryz.f6 := (Option.some.inj (Tryz.func6.symm.trans hfn)).symm
      exact ⟨by kernel_rfl, fun j t ht => by
        rw [Tryz.params6] at ht
        have hm : t ∈ [59] := by simpa using Array.mem_of_getElem? ht
        have hall : ([59].all fun u => !Tryz.prog.wantsStandIn u) = true := by kernel_rfl
        exact (show Tryz.prog.wantsStandIn t = false by simpa using List.all_eq_true.1 hall t hm)⟩)
    traceNil_goes
end Go.Proofs.YtnmjfakibhekmaaGreatDoor
