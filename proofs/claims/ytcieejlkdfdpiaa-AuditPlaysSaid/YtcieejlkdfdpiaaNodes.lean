/- The audit of the program, on: nodes and bound, where there is at most one node. -/
import Derived.Test.YtcieejlkdfdpiaaSSort
import Derived.Test.YtcieejlkdfdpiaaAud3
namespace Go.Proofs.Ytcieejlkdfdpiaa
set_option maxRecDepth 100000
open Go.RowKit Go.ChangeMaps
section
variable {P : Program} {w w' : World} {K : KV} {v x i : Value} {s d t : TypeId}
theorem conv_of (h : (convert s d x).run P w = .ok v w') (hK : K v w') : conv P s d x K w := okV_of h hK
theorem rv_blk {g : Nat} {E : TypeId} {ys : List Value} (h : blk w g E ys) : RV w (some ⟨g, 0, none⟩) ys.length ys.length ys :=
  ⟨rfl, Nat.le_refl _, fun _ => ⟨g, 0, rfl⟩, (fun hh => by cases hh), fun i v hv => by
    have : slotA (some ⟨g, 0, none⟩) i = ⟨g, i, none⟩ := by simp [slotA]
    rw [this, h.cell]; exact hv⟩
theorem idx_of (h : (Instr.index t x i).run P w = .ok v w') (hK : K v w') : idx P t x i K w := okV_of h hK
end
attribute [local irreducible] bin un conv call callV blt slc fldA fld idxA idx lkp mUpd mEnt eSt rng nxt ent ext alc box bld bldS ld sto nilC mkMap mkS ifc pick rdy wts gsel sti cond retM Gives cCode cGrp cSeq cOp
section
variable {w : World} {K : KV}
theorem len64_c (h : K (.int .i64 1) w) : call Try.prog 36 #[.int .u64 1] K w := by
  refine call_of math_bits_Len64_go (math_bits_Len64_in ?_)
  (repeat (first | refine math_bits_Len64_P1_r ?_ | refine math_bits_Len64_A1_r ?_ | refine math_bits_Len64_P2_r ?_ | refine math_bits_Len64_A2_r ?_ | refine math_bits_Len64_P3_r ?_ | refine math_bits_Len64_A3_r ?_ | refine bin_geq ?_ | refine cond_F ?_))
  refine conv_of (w' := w) (v := .int .u8 1) (by kernel_rfl) ?_
  refine idx_of (w' := w) (v := .int .u8 1) (by kernel_rfl) ?_
  refine conv_of (w' := w) (v := .int .i64 1) (by kernel_rfl) ?_
  (repeat (first | refine add64 (by omega) (by omega) ?_))
  exact h
theorem len_c (h : K (.int .i64 1) w) : call Try.prog 25 #[.int .u64 1] K w := by
  refine call_of math_bits_Len_go (math_bits_Len_in ?_)
  (repeat (first | refine cond_F ?_))
  refine len64_c ?_
  exact h
theorem isort1_c {d : Value} (h : K (.tuple #[]) w) : call Try.prog 26 #[d, .int .i64 0, .int .i64 1] K w := by
  refine call_of slices_insertionSortOrdered_uint64_go (slices_insertionSortOrdered_uint64_in ?_)
  (repeat (first | refine add64 (by omega) (by omega) ?_))
  refine slices_insertionSortOrdered_uint64_L1_r (Inv := fun i _ _ _ _ _ _ _ _ _ _ wr => i = .int .i64 1 ∧ wr = w) (μ := fun i _ _ _ _ _ _ _ _ _ _ _ => 0) ⟨rfl, rfl⟩ ?_
  rintro _ _ _ _ _ _ _ _ _ _ _ _ w1 m ⟨rfl, rfl⟩ hm1
  (repeat (first | refine bin_lss ?_ | refine cond_F ?_))
  exact h
theorem pdq1_c {d l : Value} (h : K (.tuple #[]) w) : call Try.prog 24 #[d, .int .i64 0, .int .i64 1, l] K w := by
  refine call_of slices_pdqsortOrdered_uint64_go (slices_pdqsortOrdered_uint64_in ?_)
  refine slices_pdqsortOrdered_uint64_L1_r (Inv := fun a b _ _ _ _ _ _ _ _ _ _ _ _ _ _ _ _ _ wr => a = .int .i64 0 ∧ b = .int .i64 1 ∧ wr = w) (μ := fun a b _ _ _ _ _ _ _ _ _ _ _ _ _ _ _ _ _ _ => 0) ⟨rfl, rfl, rfl⟩ ?_
  rintro _ _ _ _ _ _ _ _ _ _ _ _ _ _ _ _ _ _ _ _ w1 m ⟨rfl, rfl, rfl⟩ hm1
  (repeat (first | refine bin_leq ?_ | refine sub64 (by omega) (by omega) ?_ | refine cond_T ?_))
  refine isort1_c ?_
  exact h
theorem lenS {a : Option Addr} {n c : Nat} {ty : TypeId} {cs : Array Bool} (h : K (.int .i64 (n : Int)) w) : blt Try.prog .len #[47] ty cs #[.slice a n c] K w := by
  refine blt_of (v := .int .i64 (n : Int)) (w' := w) ?_ h
  rw [BigFrame.builtin_len]
  simp [Builtin.len_, run_underlying Try.underlying47, Result.andThen, goInt]
theorem sort1_c {a : Option Addr} {c : Nat} (h : K (.tuple #[]) w) : call Try.prog 23 #[.slice a 1 c] K w := by
  refine call_of slices_Sort_uint64_uint64_go (slices_Sort_uint64_uint64_in ?_)
  refine lenS ?_
  refine conv_of (w' := w) (v := .int .u64 1) (by kernel_rfl) ?_
  refine len_c ?_
  refine pdq1_c ?_
  exact h

theorem nodes1_c {f : AF} {S : AS} {id : Int} {nd : Int × Int} (ha : AK w f S) (hS : S.nodes = [(id, nd)])
    (h : ∀ w' g c zs, blk w' g 33 (.int .u64 id :: zs) → 1 ≤ c → w.heap.size ≤ g → Below w.heap.size w w' → K (.slice (some ⟨g, 0, none⟩) 1 c) w') : call Try.prog 15 #[ptr f.p] K w := by
  have hd := ha.head
  refine call_of audit_Audit_Nodes_go (audit_Audit_Nodes_in ?_)
  (repeat (first | refine eqA_nil ?_ | refine nilC_p ?_ | refine fA_Aud_0 ?_ | (refine ld_AL_5 ?_ (by assumption) ?_ ?_; rotate_left; exact rfl) | refine cond_F ?_))
  refine rng_of Try.underlying60 ha.m1 ?_
  intro w4 it4 b4 s4
  have hne : w.heap.size ≠ f.b1 := by have := ha.m1.lt; omega
  refine audit_Audit_Nodes_L1_r (Inv := fun l wr => ∃ done : List Int, IT u64v ndV wr w.heap.size f.b1 S.nodes done ∧ Ch [w.heap.size] w4 wr ∧
      ((done = [] ∧ l = .slice none 0 0) ∨ (done = [id] ∧ ∃ g c zs, l = .slice (some ⟨g, 0, none⟩) 1 c ∧ 1 ≤ c ∧ blk wr g 33 (.int .u64 id :: zs) ∧ w.heap.size < g)))
    (μ := fun l wr => rleft wr f.b1 w.heap.size) ⟨[], it4, Ch.refl _ _, .inl ⟨rfl, rfl⟩⟩ ?_
  rintro l _ w5 m ⟨done, it5, c5, hl⟩ hm
  obtain ⟨n1, n2, n3⟩ := it5.nodup
  have b05 : Below w.heap.size w w5 := b4.trans (c5.below (by simp) (by omega))
  refine nxt_of it5 hne ?_ ?_
  · intro hall
    have hid : id ∈ done := hall id (by rw [hS]; simp)
    rcases hl with ⟨rfl, _⟩ | ⟨rfl, g, c, zs, rfl, hc, hg, hgl⟩
    · cases hid
    refine ext_of rfl ?_
    (repeat (first | refine audit_Audit_Nodes_P1_r ?_ | refine cond_F ?_))
    refine sort1_c ?_
    exact h w5 g c zs hg hc (by omega) b05
  · intro x v w6 hxm hxd it6 en6 o6 hlt
    rw [hS] at hxm
    simp only [List.mem_singleton, Prod.mk.injEq] at hxm
    obtain ⟨rfl, rfl⟩ := hxm
    rcases hl with ⟨rfl, rfl⟩ | ⟨rfl, _⟩
    rotate_left
    · simp at hxd
    have c6 : Ch [w.heap.size] w4 w6 := c5.trans (Ch.of_oth (F := [w.heap.size]) o6 (by simp)) (fun x hx => .inl hx)
    (repeat (first | refine ext3_a ?_ | refine cond_T ?_))
    refine ent_of en6 ?_
    (repeat (first | refine ext_a ?_))
    refine bldSG (vs := [.int .u64 x]) Try.underlying47 (s := 1) (by kernel_rfl) (by kernel_rfl) (by omega) rfl (by simp) (by simp) (by simp) (by simp [Value.cells]) ?_
    intro w7 hb7 b7 s7
    have hb7 : blk w7 w6.heap.size 33 [.int .u64 x] := hb7
    refine app_full (i := (Try.prog.info? 33).get!) (z := .int .u64 0) Try.underlying47 (by kernel_rfl) (by kernel_rfl) (by kernel_rfl) (bytes := 8) (by kernel_rfl) rfl (RV.nil w7) (ys := [.int .u64 x]) (rv_blk hb7) (by simp) (by simp) ?_
    intro a' c' w8 hres b8
    have hg : ∃ g zs, a' = some ⟨g, 0, none⟩ ∧ blk w8 g 33 (.int .u64 x :: zs) ∧ 1 ≤ c' ∧ w.heap.size < g := by
      rcases hres with ⟨_, _, h0⟩ | ⟨zs, hz, hzl, rfl⟩
      · cases h0
      · refine ⟨_, zs, rfl, hz, by omega, ?_⟩
        have := b7.size
        have := o6.size
        have := c5.size
        omega
    obtain ⟨g, zs, rfl, hg, hc, hgl⟩ := hg
    have b68 : Below w6.heap.size w6 w8 := b7.trans (b8.mono b7.size)
    exact ⟨⟨[x], it6.below b68, c6.trans (Ch.of_below (F := []) b68) (by simp), .inr ⟨rfl, g, c', zs, rfl, hc, hg, hgl⟩⟩, by rw [rleft_below it6 b68, hm]; exact hlt⟩

theorem bound1_c {f : AF} {S : AS} {id : Int} {nd : Int × Int} (ha : AK w f S) (hb : AB S) (hS : S.nodes = [(id, nd)])
    (h : ∀ w', Below w.heap.size w w' → K (.bool (decide ((sumsS S id).2.1 ≤ (sumsS S id).1))) w') : call Try.prog 12 #[ptr f.p] K w := by
  refine call_of audit_Audit_Bound_go (audit_Audit_Bound_in ?_)
  refine nodes1_c ha hS ?_
  intro w1 g c zs hg hc hgl b1
  refine lenS ?_
  refine audit_Audit_Bound_L1_r (Inv := fun i wr => Below w.heap.size w wr ∧ blk wr g 33 (.int .u64 id :: zs) ∧ (i = .int .i64 0 ∨ i = .int .i64 1 ∧ (sumsS S id).2.1 ≤ (sumsS S id).1))
    (μ := fun i _ => 1 - (intOf i).toNat) ⟨b1, hg, .inl rfl⟩ ?_
  rintro _ _ w2 m ⟨b2, hg2, hi⟩ hm
  rcases hi with rfl | ⟨rfl, hle⟩
  rotate_left
  · (repeat (first | refine audit_Audit_Bound_P1_r ?_ | refine bin_lss ?_ | refine cond_F ?_))
    have := h w2 b2
    rw [decide_eq_true hle] at this
    exact this
  refine bin_lss ?_
  refine cond_t (by simp) ?_
  refine idxRow (s := 1) Try.underlying47 (fun _ => by kernel_rfl) (by omega) (by omega) ?_
  refine ld1 (v := .int .u64 id) (fun _ => by kernel_rfl) hg2 rfl ?_
  have ha2 := ha.below b2
  refine sums_c ha2 hb ?_
  intro w3 b3
  have b03 := b2.trans (b3.mono b2.size)
  refine ext_of rfl ?_
  refine ext_of rfl ?_
  refine ext_of rfl ?_
  refine bin_gtr ?_
  by_cases hle : (sumsS S id).2.1 ≤ (sumsS S id).1
  · refine cond_f (by omega) ?_
    (repeat (first | refine add64 (by omega) (by omega) ?_))
    exact ⟨⟨b03, below_blk b3 hg2 hg2.lt, .inr ⟨rfl, hle⟩⟩, by rw [hm]; simp [intOf]⟩
  · refine cond_t (by omega) ?_
    have := h w3 b03
    rw [decide_eq_false hle] at this
    exact this

theorem nodes_nil (h : K (.slice none 0 0) w) : call Try.prog 15 #[.pointer none] K w := by
  refine call_of audit_Audit_Nodes_go (audit_Audit_Nodes_in ?_)
  (repeat (first | refine eqA_none ?_ | refine cond_T ?_))
  exact h
theorem bound_nil (h : K (.bool true) w) : call Try.prog 12 #[.pointer none] K w := by
  refine call_of audit_Audit_Bound_go (audit_Audit_Bound_in ?_)
  refine nodes_nil ?_
  refine lenS ?_
  refine audit_Audit_Bound_L1_r (Inv := fun i wr => i = .int .i64 0 ∧ wr = w) (μ := fun i _ => 0) ⟨rfl, rfl⟩ ?_
  rintro _ _ w2 m ⟨rfl, rfl⟩ hm
  (repeat (first | refine audit_Audit_Bound_P1_r ?_ | refine bin_lss ?_ | refine cond_F ?_))
  exact h
end
end Go.Proofs.Ytcieejlkdfdpiaa
