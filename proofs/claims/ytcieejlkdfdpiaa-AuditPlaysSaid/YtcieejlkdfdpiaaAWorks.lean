/- The audit's law: what its own example comes to. -/
import Derived.Test.YtcieejlkdfdpiaaSAWorks
import Derived.Test.YtcieejlkdfdpiaaNodes
namespace Go.Proofs.Ytcieejlkdfdpiaa
set_option maxRecDepth 100000
open Go.RowKit Go.ChangeMaps
def wk1 : Ak := ⟨1, 0, 0, 10, 0, 0⟩
def wk2 : Ak := ⟨3, 1099511627777, 0, 4, 1, 0⟩
def wk3 : Ak := ⟨3, 1099511627777, 0, 7, 1, 0⟩
def ws1 : AS := ⟨[(1099511627777, (0, 10))], [], [], []⟩
def ws2 : AS := ⟨[(1099511627777, (0, 10))], [], [((1, 1), (1099511627777, 4))], []⟩
def ws3 : AS := ⟨[(1099511627777, (0, 10))], [], [((1, 1), (1099511627777, 4)), ((2, 1), (1099511627777, 7))], []⟩
theorem ws1_is : sayS ⟨[], [], [], []⟩ 1 wk1 1 1 0 = ws1 := by simp [sayS, wk1, ws1, treeIdS, mget, mput, withinS]
theorem ws2_is : sayS ws1 1 wk2 0 0 0 = ws2 := by simp [sayS, wk2, ws1, ws2, mget, mput, withinS]
theorem ws3_is : sayS ws2 2 wk3 0 0 0 = ws3 := by simp [sayS, wk3, ws2, ws3, mget, mput, withinS]
theorem ws2_ab : AB ws2 := ⟨by simp [ws2], by simp [ws2], by simp [ws2], by simp [ws2]⟩
theorem ws3_ab : AB ws3 := ⟨by simp [ws3], by simp [ws3], by simp [ws3], by simp [ws3]⟩
theorem bel_same (m : List (Int × (Int × Int))) (of : Int) : belS m of 32 of = true := by simp [belS]
theorem ws2_sums : sumsS ws2 1099511627777 = (10, 4, 0) := by simp [sumsS, ws2, mget, usedL, usedX, bel_same]
theorem ws2_sums1 : sumsS ws2 1 = (0, 0, 9) := by simp [sumsS, ws2, mget]
theorem ws3_sums : sumsS ws3 1099511627777 = (10, 11, 0) := by simp [sumsS, ws3, mget, usedL, usedX, bel_same]
attribute [local irreducible] bin un conv call callV blt slc fldA fld idxA idx lkp mUpd mEnt eSt rng nxt ent ext alc box bld bldS ld sto nilC mkMap mkS ifc pick rdy wts gsel sti cond retM Gives cCode cGrp cSeq cOp
theorem works26_c {w : World} {K : KV} (h : ∀ w', Below w.heap.size w w' → K (.bool true) w') : call Try.prog 6 #[] K w := by
  refine call_of leatlaw26_works_go (leatlaw26_works_in ?_)
  refine anew_c ?_
  intro w1 f ha1 b1 hf
  refine bld_of (vs := askC wk1) (by kernel_rfl) ?_
  refine bld_of (vs := [.int .i64 1, .int .u64 1, .int .u64 0, .int .u64 0, .int .u64 0, .int .u64 0, .int .u64 0, .int .u64 0, .int .u8 1, .int .u64 0, .int .i64 0, .int .i64 10, .int .u64 0, .int .u64 0]) (by kernel_rfl) ?_
  refine bld_of (vs := [.int .i64 1, .int .u64 1, .int .u64 0, .int .u64 0, .int .u64 0, .int .u64 0, .int .u64 0, .int .u64 0, .int .u8 1, .int .u64 0, .int .i64 0, .int .i64 10, .int .u64 0, .int .u64 0, .int .i64 0]) (by kernel_rfl) ?_
  refine say_c (e := 0) ha1 (⟨rfl, rfl, rfl, rfl⟩ : ansOk _ 1 1 0) (by omega) ?_
  intro w2 ha2 c2
  rw [ws1_is] at ha2
  refine bld_of (vs := askC wk2) (by kernel_rfl) ?_
  refine bld_of (vs := [.int .i64 0, .int .u64 0, .int .u64 0, .int .u64 0, .int .u64 0, .int .u64 0, .int .u64 0, .int .u64 0, .int .u8 0, .int .u64 0, .int .i64 0, .int .i64 0, .int .u64 0, .int .u64 0, .int .i64 0]) (by kernel_rfl) ?_
  refine say_c (e := 0) ha2 (⟨rfl, rfl, rfl, rfl⟩ : ansOk _ 0 0 0) (by omega) ?_
  intro w3 ha3 c3
  rw [ws2_is] at ha3
  refine sums_c ha3 ws2_ab ?_
  intro w4 b4
  rw [ws2_sums]
  have ha4 := ha3.below b4
  (repeat (first | refine ext3_a ?_ | refine ext3_b ?_ | refine ext3_c ?_))
  refine sums_c ha4 ws2_ab ?_
  intro w5 b5
  rw [ws2_sums1]
  have ha5 := ha4.below b5
  (repeat (first | refine ext3_a ?_ | refine ext3_b ?_ | refine ext3_c ?_))
  refine leatlaw26_works_A1_r ?_
  refine bound1_c (id := 1099511627777) (nd := (0, 10)) ha5 ws2_ab rfl ?_
  intro w6 b6
  rw [ws2_sums]
  have ha6 := ha5.below b6
  refine bld_of (vs := askC wk3) (by kernel_rfl) ?_
  refine bld_of (vs := [.int .i64 0, .int .u64 0, .int .u64 0, .int .u64 0, .int .u64 0, .int .u64 0, .int .u64 0, .int .u64 0, .int .u8 0, .int .u64 0, .int .i64 0, .int .i64 0, .int .u64 0, .int .u64 0, .int .i64 0]) (by kernel_rfl) ?_
  refine say_c (e := 0) ha6 (⟨rfl, rfl, rfl, rfl⟩ : ansOk _ 0 0 0) (by omega) ?_
  intro w7 ha7 c7
  rw [ws3_is] at ha7
  (repeat (first | refine bin_eql ?_ | refine pick_T ?_ | refine gsel_T ?_))
  refine bound1_c (id := 1099511627777) (nd := (0, 10)) ha7 ws3_ab rfl ?_
  intro w8 b8
  rw [ws3_sums]
  have ha8 := ha7.below b8
  (repeat (first | refine un_notD ?_ | refine pick_T ?_ | refine gsel_T ?_))
  refine nodes1_c (id := 1099511627777) (nd := (0, 10)) ha8 rfl ?_
  intro w9 g c zs hg hc hgl b9
  refine lenS ?_
  (repeat (first | refine bin_eql ?_ | refine pick_T ?_))
  have hff : ∀ x ∈ f.foot, w.heap.size ≤ x := fun x hx => hf x (by simp [hx])
  have s1 := b1.size
  have t2 := b1.trans (c2.below hff s1)
  have t3 := t2.trans (c3.below hff t2.size)
  have t4 := t3.trans (b4.mono t3.size)
  have t5 := t4.trans (b5.mono t4.size)
  have t6 := t5.trans (b6.mono t5.size)
  have t7 := t6.trans (c7.below hff t6.size)
  have t8 := t7.trans (b8.mono t7.size)
  have t9 := t8.trans (b9.mono t8.size)
  exact h w9 t9
end Go.Proofs.Ytcieejlkdfdpiaa
