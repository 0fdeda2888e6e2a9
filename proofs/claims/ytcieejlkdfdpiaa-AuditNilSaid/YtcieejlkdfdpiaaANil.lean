/- The statement of AuditNil: of no audit: whatever the input, true, and the input reads as it did. -/
import Derived.Test.YtcieejlkdfdpiaaSANil
import Derived.Test.YtcieejlkdfdpiaaAWorks
import Derived.Test.YtcieejlkdfdpiaaFrame
namespace Go.Proofs.Ytcieejlkdfdpiaa
set_option maxRecDepth 100000
open Go.ChangeShapes Go.WideShapes Go.ChangeAt Go.RowKit
theorem fA_Sai_0 {w : World} {K : KV} {b o : Nat} (h : K (.pointer (some ⟨b, o + 0, none⟩)) w) : fldA Try.prog 44 (.pointer (some ⟨b, o, none⟩)) 0 K w := fldA_of (by kernel_rfl) h
theorem fA_Sai_1 {w : World} {K : KV} {b o : Nat} (h : K (.pointer (some ⟨b, o + 1, none⟩)) w) : fldA Try.prog 44 (.pointer (some ⟨b, o, none⟩)) 1 K w := fldA_of (by kernel_rfl) h
theorem fA_Sai_2 {w : World} {K : KV} {b o : Nat} (h : K (.pointer (some ⟨b, o + 7, none⟩)) w) : fldA Try.prog 44 (.pointer (some ⟨b, o, none⟩)) 2 K w := fldA_of (by kernel_rfl) h
section
attribute [local irreducible] bin un conv call callV blt slc fldA fld idxA idx lkp mUpd mEnt eSt rng nxt ent ext alc box bld bldS ld sto nilC mkMap mkS ifc pick rdy wts gsel sti cond retM Gives cCode cGrp cSeq cOp
theorem anil_law {cs : Array Value} {w : World} {K : KV} (hz : cs.size = 22) (h : ∀ w', Below w.heap.size w w' → K (.bool true) w') : call Try.prog 4 #[.agg cs] K w := by
  refine call_of leatlaw26_AuditNil_go (leatlaw26_AuditNil_in ?_)
  refine box_of ?_
  intro w1 hb b1 s1
  obtain ⟨ls, hls⟩ : ∃ ls, cs.toList = ls := ⟨_, rfl⟩
  have hll : ls.length = 22 := by rw [← hls]; simpa using hz
  have hb : blk w1 w.heap.size 44 ls := by rw [← hls]; exact hb
  match ls, hll with
  | [x0, x1, x2, x3, x4, x5, x6, x7, x8, x9, x10, x11, x12, x13, x14, x15, x16, x17, x18, x19, x20, x21], _ =>
    refine fA_Sai_0 ?_
    refine ld1 (v := x0) (fun _ => by kernel_rfl) hb rfl ?_
    refine fA_Sai_1 ?_
    refine ldA (n := 6) (vs := [x1, x2, x3, x4, x5, x6]) Try.underlying35 rfl (by kernel_rfl) hb rfl rfl ?_
    refine fA_Sai_2 ?_
    refine ldA (n := 15) (vs := [x7, x8, x9, x10, x11, x12, x13, x14, x15, x16, x17, x18, x19, x20, x21]) Try.underlying42 rfl (by kernel_rfl) hb rfl rfl ?_
    refine say_nil ?_
    intro w2 b2
    have hb2 := below_blk b2 hb hb.lt
    refine fA_Sai_1 ?_
    refine fA_Ask_1 ?_
    refine ld1 (v := x2) (fun _ => by kernel_rfl) hb2 rfl ?_
    refine sums_nil ?_
    (repeat (first | refine bin_eql ?_ | refine ext3_a ?_ | refine ext3_b ?_ | refine ext3_c ?_ | refine gsel_T ?_))
    refine nodes_nil ?_
    refine lenS ?_
    (repeat (first | refine bin_eql ?_ | refine pick_T ?_ | refine gsel_T ?_))
    refine bound_nil ?_
    (repeat (first | refine pick_T ?_ | refine gsel_T ?_))
    refine works26_c ?_
    intro w3 b3
    (repeat (first | refine pick_T ?_))
    have s2 := b2.size
    exact h w3 (b1.trans ((b2.mono (by omega)).trans (b3.mono (by omega))))
end

set_option maxRecDepth 100000 in
theorem auditNil_contract (H : Type) (enc : TypeId × Value → H) (W : World) (base : Nat) (args : Array Value) (ds gs : List (DataW H)) (before : List MemPlace)
    (hval0 : ∀ (j : Nat) t v, Try.f4.params[j]? = some t → args[j]? = some v → Value.okWide Try.prog W .any base t v)
    (hW : DataW.Whole enc Try.prog Try.f4.params.toList Rows.auditNilSpec.vars false W args.toList ds gs before) :
    Calls Try.prog 4 args W fun e W' => ∃ v, e = .returned v ∧ Rows.auditNilSpec.post enc Try.prog Try.f4 false true false false W args v W' := by
  have hval := hval0
  have hW' := hW
  obtain ⟨p, q, hA0, hV, rfl, hfz, hnd⟩ := hW
  have hA : DataW.TrodAll enc Try.prog W 0 (fun _ => true) true Try.f4.params.toList args.toList ds p := hA0
  rw [Try.params4] at hA hval
  obtain ⟨v0, vs0, d0, ds0, p0, q0, hargs, rfl, rfl, h0, r0⟩ := trodAll_cons hA
  obtain ⟨rfl, rfl, rfl⟩ := trodAll_nil r0
  obtain rfl : args = #[v0] := by cases args; simp_all
  obtain ⟨rfl, rfl⟩ := trodVars_none hV
  obtain ⟨s0, rfl, hz0⟩ := okWide_struct Try.underlying44 (hval 0 44 v0 rfl rfl)
  have hz0 : s0.size = 22 := hz0.trans (by kernel_rfl)
  have k0 := h0
  have lt0 : ∀ x ∈ p0, x.block < W.heap.size := by obtain ⟨m, hm⟩ := k0; exact DataW.trod_lt m _ _ _ hm
  clear hA0 hval0 hval
  have hcalls : Calls Try.prog 4 #[.agg s0] W fun e w' => e = .returned (.bool true) ∧ Below W.heap.size W w' := by
    exact calls_of (anil_law hz0 (fun w' hb' => ⟨rfl, hb'⟩))
  refine hcalls.mono fun e W' ⟨he, bel⟩ => ?_
  subst he
  exact ⟨_, rfl, _, _, _, [], _, [], hW', trodAll_mk1 (shut_bool Try.underlying4 _), (trodAll_cons_mk (Below.trod frame_laid (by kernel_rfl) (of_decide_eq_true (by kernel_rfl)) k0 bel lt0) trodAll_mk0), rfl, bel.frame _, fun h => by cases h⟩

set_option maxRecDepth 100000 in
theorem auditNil_lifted (os : Os) (started : os.Started) (H : Type) (enc : TypeId × Value → H) :
    ReturnsInHanded {} Try.checked os 4 .any (Rows.auditNilSpec.pre6 enc Try.prog Try.f4 Rows.auditNilRow.domain false) (Rows.auditNilSpec.post enc Try.prog Try.f4 false true false false) := by
  refine returnsInHanded_of_change (C := Try.checked) frame_own started (by kernel_rfl) Try.func4
    (ChangeSpec.witness6 (enc := enc) (C := Try.checked) false ⟨#[], #[.agg #[.int .i64 0, .int .u8 0, .int .u64 0, .int .i64 0, .int .i64 0, .int .u64 0, .int .u64 0, .int .i64 0, .int .u64 0, .int .u64 0, .int .u64 0, .int .u64 0, .int .u64 0, .int .u64 0, .int .u64 0, .int .u8 0, .int .u64 0, .int .i64 0, .int .i64 0, .int .u64 0, .int .u64 0, .int .i64 0]], []⟩ 8 (by kernel_rfl) (by kernel_rfl) (by kernel_rfl) (by kernel_rfl)) ?_
  intro W base args ds gs before hval hW _ _
  exact auditNil_contract H enc W base args ds gs before hval hW

theorem auditNil_proved : Rows.AuditNilSaid :=
  OpenClaim.holds_of_wide 4 Try.f4 rfl rfl rfl rfl rfl rfl rfl ⟨rfl, rfl, rfl, rfl, rfl⟩ rfl rfl rfl rfl rfl (by kernel_rfl) Try.func4 (by kernel_rfl)
    (of_decide_eq_true (by kernel_rfl)) (by unfold Func.isWrapper; first | (rw [if_pos (by decide +kernel)]; kernel_rfl) | (rw [if_neg (by decide +kernel)]; exact ⟨rfl, rfl⟩))
    (fun os started H enc _ => auditNil_lifted os started H enc)

end Go.Proofs.Ytcieejlkdfdpiaa
