/- DurableNil: where there is nothing, all is as the document says; for every input. The law's own example is reckoned. -/
import Derived.Test.YtnmjfakibhekmaaGreatDoorW22
import Derived.Test.YtnmjfakibhekmaaGreatDoorCardL
import Derived.Test.YtnmjfakibhekmaaGreatDoorDuNilF
import Derived.Test.YtnmjfakibhekmaaGreatDoorTie
import Derived.Test.YtnmjfakibhekmaaGreatDoorCards
import Derived.SevenTiedAt
import Derived.WalkKit
import Derived.ProofKit
import Derived.OpenShut
import Derived.ShutString
import Derived.ChangeOld
import Derived.Below
import Derived.JoinedCond
import Derived.Deep.Matrix
import Derived.LaidMore
import Derived.Stop.Joined
namespace Go.Proofs.YtnmjfakibhekmaaGreatDoor
set_option maxRecDepth 100000
open Go.ChangeShapes Go.WideShapes Go.ChangeAt Go.RowKit
def durableNilLaid : List (String × DataW Unit) := [("leat/ledger.kinds", Rows.laid_leat_ledger_kinds)]
def durableNilCl (P : Program) : Cl := iFn hts (icW 18) jc0 P w22G 2000 60
def durableNilCp (P : Program) : Cp := iPf jc0 P w22G 2000 60
set_option maxRecDepth 100000 in
theorem durableNil_law (a0_0 : Int) (a0_1 : Int) (a0_2 : Int) (a0_3 : Int) (a0_4 : Int) (a0_5 : Int) (a1_0 : Int) (a1_1 : Int) (a1_2 : Int) (a1_3 : Int) (a1_4 : Int) (a1_5 : Int) (a1_6 : Int) (a1_7 : Int) (a1_8 : Int) (p1_9 : Option Addr) (n1_9 c1_9 : Nat) (a1_10 : Int) (a1_11 : Int) (a2 : Int) {W : World} {K : KV} (hg : ∀ g e cs, w22G g = some (e, cs) → gbk W g cs) (hK : ∀ w', Below W.heap.size W w' → K (.bool true) w') : call Tryz.prog 4 (List.toArray [.agg (List.toArray [.int .u8 a0_0, .int .u64 a0_1, .int .i64 a0_2, .int .i64 a0_3, .int .u64 a0_4, .int .u64 a0_5]), .agg (List.toArray [.int .u8 a1_0, .int .i64 a1_1, .int .i64 a1_2, .int .u64 a1_3, .int .u64 a1_4, .int .u64 a1_5, .int .u64 a1_6, .int .u64 a1_7, .int .u64 a1_8, .slice p1_9 n1_9 c1_9, .int .u64 a1_10, .int .i64 a1_11]), .int .u64 a2]) K W := by
  have hcl : ClOK Tryz.prog w22G W.heap.size (durableNilCl Tryz.prog) := iFn_ok names hts_ok w22_ok jc0_ok 60
  have hcp : CpOK Tryz.prog w22G W.heap.size (durableNilCp Tryz.prog) := iPf_ok names jc0_ok 60
  refine law_ok (b := decide ((20 : Int) < (n1_9 : Int))) (args := [.val (.agg [.k (.int .u8 a0_0), .k (.int .u64 a0_1), .k (.int .i64 a0_2), .k (.int .i64 a0_3), .k (.int .u64 a0_4), .k (.int .u64 a0_5)]), .val (.agg [.k (.int .u8 a1_0), .k (.int .i64 a1_1), .k (.int .i64 a1_2), .k (.int .u64 a1_3), .k (.int .u64 a1_4), .k (.int .u64 a1_5), .k (.int .u64 a1_6), .k (.int .u64 a1_7), .k (.int .u64 a1_8), .k (.slice p1_9 n1_9 c1_9), .k (.int .u64 a1_10), .k (.int .i64 a1_11)]), .val (.one (.k (.int .u64 a2)))]) (H := ⟨.e, 0⟩) (R := fun _ => none) (F := 2000) (c := .tmp 17) names hts_ok hcl hcp Tryz.func4 (r0 := cd Tryz.f4 [0]) (r1 := cd Tryz.f4 [1, 0, 0]) (x := cd Tryz.f4 [1, 0, 1, 0]) (y := cd Tryz.f4 [1, 0, 1, 1]) (rest := cd Tryz.f4 [1, 1]) (by kernel_rfl) (.cons (⟨_, .cons ⟨rfl, rfl⟩ (.cons ⟨rfl, rfl⟩ (.cons ⟨rfl, rfl⟩ (.cons ⟨rfl, rfl⟩ (.cons ⟨rfl, rfl⟩ (.cons ⟨rfl, rfl⟩ .nil))))), rfl⟩) (.cons (⟨_, .cons ⟨rfl, rfl⟩ (.cons ⟨rfl, rfl⟩ (.cons ⟨rfl, rfl⟩ (.cons ⟨rfl, rfl⟩ (.cons ⟨rfl, rfl⟩ (.cons ⟨rfl, rfl⟩ (.cons ⟨rfl, rfl⟩ (.cons ⟨rfl, rfl⟩ (.cons ⟨rfl, rfl⟩ (.cons ⟨rfl, rfl⟩ (.cons ⟨rfl, rfl⟩ (.cons ⟨rfl, rfl⟩ .nil))))))))))), rfl⟩) (.cons (rfl) .nil))) (sim0 hg) (by kernel_rfl) (by kernel_rfl) (by kernel_rfl) (fun _ => by kernel_rfl) (fun _ => by kernel_rfl) hK
set_option maxRecDepth 100000 in
theorem durableNil_contract (H : Type) (enc : TypeId × Value → H) (W : World) (base : Nat) (args : Array Value) (ds gs : List (DataW H)) (before : List MemPlace)
    (hval0 : ∀ (j : Nat) t v, Tryz.f4.params[j]? = some t → args[j]? = some v → Value.okWide Tryz.prog W .any base t v)
    (hW : DataW.Whole enc Tryz.prog Tryz.f4.params.toList Rows.durableNilSpec.vars false W args.toList ds gs before) (hL : laidMetH Tryz.prog durableNilLaid W) :
    Calls Tryz.prog 4 args W fun e W' => ∃ v, e = .returned v ∧ Rows.durableNilSpec.post enc Tryz.prog Tryz.f4 false true false false W args v W' := by
  have hval := hval0
  have hW' := hW
  obtain ⟨p, q, hA0, hV, rfl, hfz, hnd⟩ := hW
  have hA : DataW.TrodAll enc Tryz.prog W 0 (fun _ => true) true Tryz.f4.params.toList args.toList ds p := hA0
  rw [Tryz.params4] at hA hval
  obtain ⟨v0, vs0, d0, ds0, p0, q0, hargs, rfl, rfl, h0, r0⟩ := trodAll_cons hA
  obtain ⟨v1, vs1, d1, ds1, p1, q1, rfl, rfl, rfl, h1, r1⟩ := trodAll_cons r0
  obtain ⟨v2, vs2, d2, ds2, p2, q2, rfl, rfl, rfl, h2, r2⟩ := trodAll_cons r1
  obtain ⟨rfl, rfl, rfl⟩ := trodAll_nil r2
  obtain rfl : args = #[v0, v1, v2] := by cases args; simp_all
  obtain ⟨rfl, rfl⟩ := trodVars_none hV
  have k0 := h0
  have lt0 : ∀ x ∈ p0, x.block < W.heap.size := by obtain ⟨m, hm⟩ := k0; exact DataW.trod_lt m _ _ _ hm
  obtain ⟨l0, rfl, hl0⟩ := okWide_cells (ts := [5, 22, 3, 2, 22, 22]) Tryz.underlying24 (by kernel_rfl) (by kernel_rfl) (hval 0 24 v0 rfl rfl)
  obtain ⟨x0_0, m0_0, rfl, g0_0, hl0_0⟩ := hl0.inv
  obtain ⟨a0_0, rfl⟩ := cell_int Tryz.underlying5 g0_0
  obtain ⟨x0_1, m0_1, rfl, g0_1, hl0_1⟩ := hl0_0.inv
  obtain ⟨a0_1, rfl⟩ := cell_int Tryz.underlying22 g0_1
  obtain ⟨x0_2, m0_2, rfl, g0_2, hl0_2⟩ := hl0_1.inv
  obtain ⟨a0_2, rfl⟩ := cell_int Tryz.underlying3 g0_2
  obtain ⟨x0_3, m0_3, rfl, g0_3, hl0_3⟩ := hl0_2.inv
  obtain ⟨a0_3, rfl⟩ := cell_int Tryz.underlying2 g0_3
  obtain ⟨x0_4, m0_4, rfl, g0_4, hl0_4⟩ := hl0_3.inv
  obtain ⟨a0_4, rfl⟩ := cell_int Tryz.underlying22 g0_4
  obtain ⟨x0_5, m0_5, rfl, g0_5, hl0_5⟩ := hl0_4.inv
  obtain ⟨a0_5, rfl⟩ := cell_int Tryz.underlying22 g0_5
  obtain rfl := hl0_5.inv0
  have k1 := h1
  have lt1 : ∀ x ∈ p1, x.block < W.heap.size := by obtain ⟨m, hm⟩ := k1; exact DataW.trod_lt m _ _ _ hm
  obtain ⟨l1, rfl, hl1⟩ := okWide_cells (ts := [5, 3, 3, 22, 22, 22, 22, 22, 22, 27, 22, 2]) Tryz.underlying29 (by kernel_rfl) (by kernel_rfl) (hval 1 29 v1 rfl rfl)
  obtain ⟨x1_0, m1_0, rfl, g1_0, hl1_0⟩ := hl1.inv
  obtain ⟨a1_0, rfl⟩ := cell_int Tryz.underlying5 g1_0
  obtain ⟨x1_1, m1_1, rfl, g1_1, hl1_1⟩ := hl1_0.inv
  obtain ⟨a1_1, rfl⟩ := cell_int Tryz.underlying3 g1_1
  obtain ⟨x1_2, m1_2, rfl, g1_2, hl1_2⟩ := hl1_1.inv
  obtain ⟨a1_2, rfl⟩ := cell_int Tryz.underlying3 g1_2
  obtain ⟨x1_3, m1_3, rfl, g1_3, hl1_3⟩ := hl1_2.inv
  obtain ⟨a1_3, rfl⟩ := cell_int Tryz.underlying22 g1_3
  obtain ⟨x1_4, m1_4, rfl, g1_4, hl1_4⟩ := hl1_3.inv
  obtain ⟨a1_4, rfl⟩ := cell_int Tryz.underlying22 g1_4
  obtain ⟨x1_5, m1_5, rfl, g1_5, hl1_5⟩ := hl1_4.inv
  obtain ⟨a1_5, rfl⟩ := cell_int Tryz.underlying22 g1_5
  obtain ⟨x1_6, m1_6, rfl, g1_6, hl1_6⟩ := hl1_5.inv
  obtain ⟨a1_6, rfl⟩ := cell_int Tryz.underlying22 g1_6
  obtain ⟨x1_7, m1_7, rfl, g1_7, hl1_7⟩ := hl1_6.inv
  obtain ⟨a1_7, rfl⟩ := cell_int Tryz.underlying22 g1_7
  obtain ⟨x1_8, m1_8, rfl, g1_8, hl1_8⟩ := hl1_7.inv
  obtain ⟨a1_8, rfl⟩ := cell_int Tryz.underlying22 g1_8
  obtain ⟨x1_9, m1_9, rfl, g1_9, hl1_9⟩ := hl1_8.inv
  obtain ⟨p1_9, n1_9, c1_9, rfl⟩ := cell_slc Tryz.underlying27 g1_9
  obtain ⟨x1_10, m1_10, rfl, g1_10, hl1_10⟩ := hl1_9.inv
  obtain ⟨a1_10, rfl⟩ := cell_int Tryz.underlying22 g1_10
  obtain ⟨x1_11, m1_11, rfl, g1_11, hl1_11⟩ := hl1_10.inv
  obtain ⟨a1_11, rfl⟩ := cell_int Tryz.underlying2 g1_11
  obtain rfl := hl1_11.inv0
  obtain ⟨a2, rfl, rfl, rfl, w2⟩ := open_int Tryz.underlying22 (hval 2 22 v2 rfl rfl) h2
  clear hA0 hval0 hval
  have hg : ∀ g e cs, w22G g = some (e, cs) → gbk W g cs := by
    intro g e cs h
    unfold w22G at h
    split at h
    · rename_i hb; rw [Nat.eq_of_beq_eq_true hb]; cases h; exact kinds_gbk hL (by simp [durableNilLaid])
    · cases h
  have hcalls : Calls Tryz.prog 4 #[.agg (List.toArray [.int .u8 a0_0, .int .u64 a0_1, .int .i64 a0_2, .int .i64 a0_3, .int .u64 a0_4, .int .u64 a0_5]), .agg (List.toArray [.int .u8 a1_0, .int .i64 a1_1, .int .i64 a1_2, .int .u64 a1_3, .int .u64 a1_4, .int .u64 a1_5, .int .u64 a1_6, .int .u64 a1_7, .int .u64 a1_8, .slice p1_9 n1_9 c1_9, .int .u64 a1_10, .int .i64 a1_11]), .int .u64 a2] W fun e w' => e = .returned (.bool true) ∧ Below W.heap.size W w' := by
    have h := durableNil_law a0_0 a0_1 a0_2 a0_3 a0_4 a0_5 a1_0 a1_1 a1_2 a1_3 a1_4 a1_5 a1_6 a1_7 a1_8 p1_9 n1_9 c1_9 a1_10 a1_11 a2 (W := W) (K := fun v w' => v = .bool true ∧ Below W.heap.size W w') hg (fun w' hb => ⟨rfl, hb⟩)
    refine Calls.mono h.2 ?_
    rintro e w' ⟨v, rfl, rfl, hr⟩
    exact ⟨rfl, hr⟩
  refine hcalls.mono fun e W' ⟨he, bel⟩ => ?_
  subst he
  exact ⟨_, rfl, _, _, _, [], _, [], hW', trodAll_mk1 (shut_bool Tryz.underlying4 _), (trodAll_cons_mk (Below.trod frame_laid' (by kernel_rfl) (of_decide_eq_true (by kernel_rfl)) k0 bel lt0) (trodAll_cons_mk (Below.trod frame_laid' (by kernel_rfl) (of_decide_eq_true (by kernel_rfl)) k1 bel lt1) (trodAll_cons_mk (shut_int Tryz.underlying22 w2) trodAll_mk0))), rfl, bel.frame _, fun h => by cases h⟩
/-- The door's own heap meets the condition. -/
theorem durableNil_door (os : Os) (args : Array Value) : laidMetH Tryz.prog durableNilLaid ((World.doorLaid Tryz.prog 600 os).forCall (fun _ _ => 0) ⟨#[], args, []⟩).memory :=
  laidMetH_of_parts3 (fuel := 8) (laidMet_of_run' 8 (by kernel_rfl) (by kernel_rfl)) (by kernel_rfl) (by kernel_rfl)
set_option maxRecDepth 100000 in
theorem durableNil_lifted (os : Os) (started : os.Started) (H : Type) (enc : TypeId × Value → H) :
    ReturnsInHanded {} Tryz.checked os 4 .any (fun w args => (Rows.durableNilSpec.pre enc Tryz.prog Tryz.f4 [] false w args ∧ laidMetH Tryz.prog durableNilLaid w) ∧ sizedMet enc Tryz.prog Tryz.f4 (OpenSpec.ofChange Rows.durableNilSpec) false w args)
      (Rows.durableNilSpec.post enc Tryz.prog Tryz.f4 false true false false) := by
  refine returnsInHanded_of_change_and (C := Tryz.checked) (X := fun w _ => laidMetH Tryz.prog durableNilLaid w) (fun _ _ _ hh h => h.of_heap hh) frame_own' started (by kernel_rfl) Tryz.func4
    (ChangeSpec.witness_shaped (enc := enc) (C := Tryz.checked) (os := os) (X := fun w _ => laidMetH Tryz.prog durableNilLaid w) false (World.doorLaid Tryz.prog 600 os) #[.agg #[.int .u8 0, .int .u64 0, .int .i64 0, .int .i64 0, .int .u64 0, .int .u64 0], .agg #[.int .u8 0, .int .i64 0, .int .i64 0, .int .u64 0, .int .u64 0, .int .u64 0, .int .u64 0, .int .u64 0, .int .u64 0, .slice none 0 0, .int .u64 0, .int .i64 0], .int .u64 0] 8 rfl (World.shaped_of_RefB (by kernel_rfl) (by kernel_rfl)) (by kernel_rfl) (by kernel_rfl) (by kernel_rfl) (durableNil_door os _)) ?_
  intro W base args ds gs before hval hW _ _ hL _
  exact durableNil_contract H enc W base args ds gs before hval hW hL
theorem durableNil_row : Rows.DurableNilSaid :=
  OpenClaim.holds_of_wide 4 Tryz.f4 rfl rfl rfl rfl rfl rfl rfl ⟨rfl, rfl, rfl, rfl, rfl⟩ rfl rfl rfl rfl rfl (by kernel_rfl) Tryz.func4 durableNil_closed
    (of_decide_eq_true (by kernel_rfl)) (by unfold Func.isWrapper; first | (rw [if_pos (by decide +kernel)]; kernel_rfl) | (rw [if_neg (by decide +kernel)]; exact ⟨rfl, rfl⟩))
    (fun os started H enc _ => durableNil_lifted os started H enc)
theorem durableNil_proved : Rows.DurableNilCardSaid :=
  Claim7.holds_tied_plain_at .later [] [.funcs] true (true, "6cd60dae0501f940047049f5c9e83b411b295a293d45c2852e0bc823ea56bbed") false
    durableNil_row (fun _ h => by cases h) (by kernel_rfl) (fun _ h => by cases h) durableNil_row_tie rfl ⟨rfl, rfl⟩ (by kernel_rfl) rfl
    (fun f fn hf hfn => by
      obtain rfl : f = 4 := Option.some.inj ((show Tryz.prog.funcNamed "leat/leatlaw22.DurableNil" = some 4 by kernel_rfl).symm.trans hf) |>.symm
      obtain rfl : fn = Tryz.f4 := (Option.some.inj (Tryz.func4.symm.trans hfn)).symm
      exact ⟨by kernel_rfl, fun j t ht => by
        rw [Tryz.params4] at ht
        have hm : t ∈ [24, 29, 22] := by simpa using Array.mem_of_getElem? ht
        have hall : ([24, 29, 22].all fun u => !Tryz.prog.wantsStandIn u) = true := by kernel_rfl
        exact (show Tryz.prog.wantsStandIn t = false by simpa using List.all_eq_true.1 hall t hm)⟩)
    durableNil_goes
end Go.Proofs.YtnmjfakibhekmaaGreatDoor
