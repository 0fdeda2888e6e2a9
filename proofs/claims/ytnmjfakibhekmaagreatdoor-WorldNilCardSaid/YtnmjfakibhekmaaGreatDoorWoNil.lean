/- WorldNil: where there is nothing, all is as the document says; for every input. The law's own example is reckoned. -/
import Derived.Test.YtnmjfakibhekmaaGreatDoorW27
import Derived.Test.YtnmjfakibhekmaaGreatDoorCardL
import Derived.Test.YtnmjfakibhekmaaGreatDoorWoNilF
import Derived.Test.YtnmjfakibhekmaaGreatDoorTie
import Derived.Test.YtnmjfakibhekmaaGreatDoorCards
import Derived.SevenTiedAt
import Derived.WalkKit
import Derived.ProofKit
import Derived.OpenShut
import Derived.ShutString
import Derived.ChangeOld
import Derived.Below
import Derived.JoinedCond
import Derived.Deep.Matrix
import Derived.LaidMore
import Derived.Stop.Joined
namespace Go.Proofs.YtnmjfakibhekmaaGreatDoor
set_option maxRecDepth 100000
open Go.ChangeShapes Go.WideShapes Go.ChangeAt Go.RowKit
def worldNilLaid : List (String × DataW Unit) := [("leat/ledger.kinds", Rows.laid_leat_ledger_kinds), ("leat/cluster.doings", Rows.laid_leat_cluster_doings)]
def worldNilCl (P : Program) : Cl := iFn hts (icW 40) jc0 P w27G 2000 60
def worldNilCp (P : Program) : Cp := iPf jc0 P w27G 2000 60
set_option maxRecDepth 100000 in
theorem worldNil_law (a0_0 : Int) (a0_1 : Int) (a0_2 : Int) (a0_3 : Int) (a0_4 : Int) (a0_5 : Int) (a0_6 : Int) (a0_7 : Int) (a0_8 : Int) (a0_9 : Int) (a0_10 : Int) (p0_11 : Option Addr) (n0_11 c0_11 : Nat) (a1 : Int) {W : World} {K : KV} (hg : ∀ g e cs, w27G g = some (e, cs) → gbk W g cs) (hK : ∀ w', Below W.heap.size W w' → K (.bool true) w') : call Tryz.prog 8 (List.toArray [.agg (List.toArray [.int .u8 a0_0, .int .i64 a0_1, .int .u8 a0_2, .int .u64 a0_3, .int .i64 a0_4, .int .i64 a0_5, .int .u64 a0_6, .int .u64 a0_7, .int .i64 a0_8, .int .i64 a0_9, .int .i64 a0_10, .slice p0_11 n0_11 c0_11]), .int .u64 a1]) K W := by
  have hcl : ClOK Tryz.prog w27G W.heap.size (worldNilCl Tryz.prog) := iFn_ok names hts_ok w27_ok jc0_ok 60
  have hcp : CpOK Tryz.prog w27G W.heap.size (worldNilCp Tryz.prog) := iPf_ok names jc0_ok 60
  refine law_ok (b := decide ((20 : Int) < (n0_11 : Int))) (args := [.val (.agg [.k (.int .u8 a0_0), .k (.int .i64 a0_1), .k (.int .u8 a0_2), .k (.int .u64 a0_3), .k (.int .i64 a0_4), .k (.int .i64 a0_5), .k (.int .u64 a0_6), .k (.int .u64 a0_7), .k (.int .i64 a0_8), .k (.int .i64 a0_9), .k (.int .i64 a0_10), .k (.slice p0_11 n0_11 c0_11)]), .val (.one (.k (.int .u64 a1)))]) (H := ⟨.e, 0⟩) (R := fun _ => none) (F := 2000) (c := .tmp 18) names hts_ok hcl hcp Tryz.func8 (r0 := cd Tryz.f8 [0]) (r1 := cd Tryz.f8 [1, 0, 0]) (x := cd Tryz.f8 [1, 0, 1, 0]) (y := cd Tryz.f8 [1, 0, 1, 1]) (rest := cd Tryz.f8 [1, 1]) (by kernel_rfl) (.cons (⟨_, .cons ⟨rfl, rfl⟩ (.cons ⟨rfl, rfl⟩ (.cons ⟨rfl, rfl⟩ (.cons ⟨rfl, rfl⟩ (.cons ⟨rfl, rfl⟩ (.cons ⟨rfl, rfl⟩ (.cons ⟨rfl, rfl⟩ (.cons ⟨rfl, rfl⟩ (.cons ⟨rfl, rfl⟩ (.cons ⟨rfl, rfl⟩ (.cons ⟨rfl, rfl⟩ (.cons ⟨rfl, rfl⟩ .nil))))))))))), rfl⟩) (.cons (rfl) .nil)) (sim0 hg) (by kernel_rfl) (by kernel_rfl) (by kernel_rfl) (fun _ => by kernel_rfl) (fun _ => by kernel_rfl) hK
set_option maxRecDepth 100000 in
theorem worldNil_contract (H : Type) (enc : TypeId × Value → H) (W : World) (base : Nat) (args : Array Value) (ds gs : List (DataW H)) (before : List MemPlace)
    (hval0 : ∀ (j : Nat) t v, Tryz.f8.params[j]? = some t → args[j]? = some v → Value.okWide Tryz.prog W .any base t v)
    (hW : DataW.Whole enc Tryz.prog Tryz.f8.params.toList Rows.worldNilSpec.vars false W args.toList ds gs before) (hL : laidMetH Tryz.prog worldNilLaid W) :
    Calls Tryz.prog 8 args W fun e W' => ∃ v, e = .returned v ∧ Rows.worldNilSpec.post enc Tryz.prog Tryz.f8 false true false false W args v W' := by
  have hval := hval0
  have hW' := hW
  obtain ⟨p, q, hA0, hV, rfl, hfz, hnd⟩ := hW
  have hA : DataW.TrodAll enc Tryz.prog W 0 (fun _ => true) true Tryz.f8.params.toList args.toList ds p := hA0
  rw [Tryz.params8] at hA hval
  obtain ⟨v0, vs0, d0, ds0, p0, q0, hargs, rfl, rfl, h0, r0⟩ := trodAll_cons hA
  obtain ⟨v1, vs1, d1, ds1, p1, q1, rfl, rfl, rfl, h1, r1⟩ := trodAll_cons r0
  obtain ⟨rfl, rfl, rfl⟩ := trodAll_nil r1
  obtain rfl : args = #[v0, v1] := by cases args; simp_all
  obtain ⟨rfl, rfl⟩ := trodVars_none hV
  have k0 := h0
  have lt0 : ∀ x ∈ p0, x.block < W.heap.size := by obtain ⟨m, hm⟩ := k0; exact DataW.trod_lt m _ _ _ hm
  obtain ⟨l0, rfl, hl0⟩ := okWide_cells (ts := [5, 3, 5, 22, 3, 2, 22, 22, 3, 3, 3, 57]) Tryz.underlying59 (by kernel_rfl) (by kernel_rfl) (hval 0 59 v0 rfl rfl)
  obtain ⟨x0_0, m0_0, rfl, g0_0, hl0_0⟩ := hl0.inv
  obtain ⟨a0_0, rfl⟩ := cell_int Tryz.underlying5 g0_0
  obtain ⟨x0_1, m0_1, rfl, g0_1, hl0_1⟩ := hl0_0.inv
  obtain ⟨a0_1, rfl⟩ := cell_int Tryz.underlying3 g0_1
  obtain ⟨x0_2, m0_2, rfl, g0_2, hl0_2⟩ := hl0_1.inv
  obtain ⟨a0_2, rfl⟩ := cell_int Tryz.underlying5 g0_2
  obtain ⟨x0_3, m0_3, rfl, g0_3, hl0_3⟩ := hl0_2.inv
  obtain ⟨a0_3, rfl⟩ := cell_int Tryz.underlying22 g0_3
  obtain ⟨x0_4, m0_4, rfl, g0_4, hl0_4⟩ := hl0_3.inv
  obtain ⟨a0_4, rfl⟩ := cell_int Tryz.underlying3 g0_4
  obtain ⟨x0_5, m0_5, rfl, g0_5, hl0_5⟩ := hl0_4.inv
  obtain ⟨a0_5, rfl⟩ := cell_int Tryz.underlying2 g0_5
  obtain ⟨x0_6, m0_6, rfl, g0_6, hl0_6⟩ := hl0_5.inv
  obtain ⟨a0_6, rfl⟩ := cell_int Tryz.underlying22 g0_6
  obtain ⟨x0_7, m0_7, rfl, g0_7, hl0_7⟩ := hl0_6.inv
  obtain ⟨a0_7, rfl⟩ := cell_int Tryz.underlying22 g0_7
  obtain ⟨x0_8, m0_8, rfl, g0_8, hl0_8⟩ := hl0_7.inv
  obtain ⟨a0_8, rfl⟩ := cell_int Tryz.underlying3 g0_8
  obtain ⟨x0_9, m0_9, rfl, g0_9, hl0_9⟩ := hl0_8.inv
  obtain ⟨a0_9, rfl⟩ := cell_int Tryz.underlying3 g0_9
  obtain ⟨x0_10, m0_10, rfl, g0_10, hl0_10⟩ := hl0_9.inv
  obtain ⟨a0_10, rfl⟩ := cell_int Tryz.underlying3 g0_10
  obtain ⟨x0_11, m0_11, rfl, g0_11, hl0_11⟩ := hl0_10.inv
  obtain ⟨p0_11, n0_11, c0_11, rfl⟩ := cell_slc Tryz.underlying57 g0_11
  obtain rfl := hl0_11.inv0
  obtain ⟨a1, rfl, rfl, rfl, w1⟩ := open_int Tryz.underlying22 (hval 1 22 v1 rfl rfl) h1
  clear hA0 hval0 hval
  have hg : ∀ g e cs, w27G g = some (e, cs) → gbk W g cs := by
    intro g e cs h
    unfold w27G at h
    split at h
    · rename_i hb; rw [Nat.eq_of_beq_eq_true hb]; cases h; exact kinds_gbk hL (by simp [worldNilLaid])
    split at h
    · rename_i hb; rw [Nat.eq_of_beq_eq_true hb]; cases h; exact doings_gbk hL (by simp [worldNilLaid])
    · cases h
  have hcalls : Calls Tryz.prog 8 #[.agg (List.toArray [.int .u8 a0_0, .int .i64 a0_1, .int .u8 a0_2, .int .u64 a0_3, .int .i64 a0_4, .int .i64 a0_5, .int .u64 a0_6, .int .u64 a0_7, .int .i64 a0_8, .int .i64 a0_9, .int .i64 a0_10, .slice p0_11 n0_11 c0_11]), .int .u64 a1] W fun e w' => e = .returned (.bool true) ∧ Below W.heap.size W w' := by
    have h := worldNil_law a0_0 a0_1 a0_2 a0_3 a0_4 a0_5 a0_6 a0_7 a0_8 a0_9 a0_10 p0_11 n0_11 c0_11 a1 (W := W) (K := fun v w' => v = .bool true ∧ Below W.heap.size W w') hg (fun w' hb => ⟨rfl, hb⟩)
    refine Calls.mono h.2 ?_
    rintro e w' ⟨v, rfl, rfl, hr⟩
    exact ⟨rfl, hr⟩
  refine hcalls.mono fun e W' ⟨he, bel⟩ => ?_
  subst he
  exact ⟨_, rfl, _, _, _, [], _, [], hW', trodAll_mk1 (shut_bool Tryz.underlying4 _), (trodAll_cons_mk (Below.trod frame_laid' (by kernel_rfl) (of_decide_eq_true (by kernel_rfl)) k0 bel lt0) (trodAll_cons_mk (shut_int Tryz.underlying22 w1) trodAll_mk0)), rfl, bel.frame _, fun h => by cases h⟩
/-- The door's own heap meets the condition. -/
theorem worldNil_door (os : Os) (args : Array Value) : laidMetH Tryz.prog worldNilLaid ((World.doorLaid Tryz.prog 600 os).forCall (fun _ _ => 0) ⟨#[], args, []⟩).memory :=
  laidMetH_of_parts3 (fuel := 8) (laidMet_of_run' 8 (by kernel_rfl) (by kernel_rfl)) (by kernel_rfl) (by kernel_rfl)
set_option maxRecDepth 100000 in
theorem worldNil_lifted (os : Os) (started : os.Started) (H : Type) (enc : TypeId × Value → H) :
    ReturnsInHanded {} Tryz.checked os 8 .any (fun w args => (Rows.worldNilSpec.pre enc Tryz.prog Tryz.f8 [] false w args ∧ laidMetH Tryz.prog worldNilLaid w) ∧ sizedMet enc Tryz.prog Tryz.f8 (OpenSpec.ofChange Rows.worldNilSpec) false w args)
      (Rows.worldNilSpec.post enc Tryz.prog Tryz.f8 false true false false) := by
  refine returnsInHanded_of_change_and (C := Tryz.checked) (X := fun w _ => laidMetH Tryz.prog worldNilLaid w) (fun _ _ _ hh h => h.of_heap hh) frame_own' started (by kernel_rfl) Tryz.func8
    (ChangeSpec.witness_shaped (enc := enc) (C := Tryz.checked) (os := os) (X := fun w _ => laidMetH Tryz.prog worldNilLaid w) false (World.doorLaid Tryz.prog 600 os) #[.agg #[.int .u8 0, .int .i64 0, .int .u8 0, .int .u64 0, .int .i64 0, .int .i64 0, .int .u64 0, .int .u64 0, .int .i64 0, .int .i64 0, .int .i64 0, .slice none 0 0], .int .u64 0] 8 rfl (World.shaped_of_RefB (by kernel_rfl) (by kernel_rfl)) (by kernel_rfl) (by kernel_rfl) (by kernel_rfl) (worldNil_door os _)) ?_
  intro W base args ds gs before hval hW _ _ hL _
  exact worldNil_contract H enc W base args ds gs before hval hW hL
theorem worldNil_row : Rows.WorldNilSaid :=
  OpenClaim.holds_of_wide 8 Tryz.f8 rfl rfl rfl rfl rfl rfl rfl ⟨rfl, rfl, rfl, rfl, rfl⟩ rfl rfl rfl rfl rfl (by kernel_rfl) Tryz.func8 worldNil_closed
    (of_decide_eq_true (by kernel_rfl)) (by unfold Func.isWrapper; first | (rw [if_pos (by decide +kernel)]; kernel_rfl) | (rw [if_neg (by decide +kernel)]; exact ⟨rfl, rfl⟩))
    (fun os started H enc _ => worldNil_lifted os started H enc)
theorem worldNil_proved : Rows.WorldNilCardSaid :=
  Claim7.holds_tied_plain_at .later [] [.funcs, .funcs] true (true, "6cd60dae0501f940047049f5c9e83b411b295a293d45c2852e0bc823ea56bbed") false
    worldNil_row (fun _ h => by cases h) (by kernel_rfl) (fun _ h => by cases h) worldNil_row_tie rfl ⟨rfl, rfl⟩ (by kernel_rfl) rfl
    (fun f fn hf hfn => by
      obtain rfl : f = 8 := Option.some.inj ((show Tryz.prog.funcNamed "leat/leatlaw27.WorldNil" = some 8 by kernel_rfl).symm.trans hf) |>.symm
      obtain rfl : fn = Tryz.f8 := (Option.some.inj (Tryz.func8.symm.trans hfn)).symm
      exact ⟨by kernel_rfl, fun j t ht => by
        rw [Tryz.params8] at ht
        have hm : t ∈ [59, 22] := by simpa using Array.mem_of_getElem? ht
        have hall : ([59, 22].all fun u => !Tryz.prog.wantsStandIn u) = true := by kernel_rfl
        exact (show Tryz.prog.wantsStandIn t = false by simpa using List.all_eq_true.1 hall t hm)⟩)
    worldNil_goes
end Go.Proofs.YtnmjfakibhekmaaGreatDoor
