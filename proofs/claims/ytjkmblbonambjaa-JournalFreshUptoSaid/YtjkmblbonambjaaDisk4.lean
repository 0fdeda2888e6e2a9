/- The contracts of the disk's calls, on. -/
import Derived.Test.YtjkmblbonambjaaDisk3
namespace Go.Proofs.Ytjkmblbonambjaa
set_option maxRecDepth 100000
open Go.RowKit
attribute [local irreducible] bin un conv call callV blt slc fldA fld idxA idx lkp mUpd mEnt eSt rng nxt ent ext alc box bld bldS ld sto nilC mkMap mkS ifc pick rdy wts gsel sti cond retM Gives cCode cGrp cSeq cOp
variable {Z : Nat → Prop}


def doS (D : DS) (c : Chg) : DS × Int := ((burn { D with loose := D.loose ++ [c] }).2, if (burn { D with loose := D.loose ++ [c] }).1 then 8 else 0)
def appendS (D : DS) (f : Int) (b : List UInt8) : DS × Int :=
  if D.off then (D, 8) else if ¬ (f = 0 ∨ f = 1) then (D, 1) else if 4194304 < tot D.now + b.length then (D, 7) else doS D (.app (decide (f = 1)) b)
def cutS (D : DS) (f n : Int) : DS × Int :=
  if D.off then (D, 8) else if ¬ (f = 0 ∨ f = 1) ∨ n < 0 ∨ ((fget D.now (decide (f = 1))).length : Int) < n then (D, 1) else doS D (.cut (decide (f = 1)) n.toNat)
def renS (D : DS) : DS × Int := if D.off then (D, 8) else doS D .ren
def syncS (D : DS) : DS × Int := if D.off then (D, 8) else if (burn D).1 then ((burn D).2, 8) else (⟨D.now, [], (burn D).2.off, (burn D).2.fuse⟩, 0)
def readS (D : DS) (f : Int) : List UInt8 × Int := if D.off then ([], 8) else if ¬ (f = 0 ∨ f = 1) then ([], 1) else (fget D.now (decide (f = 1)), 0)

theorem burn_same (D : DS) : (burn D).2.sure = D.sure ∧ (burn D).2.loose = D.loose := by
  unfold burn
  split
  · exact ⟨rfl, rfl⟩
  · split <;> exact ⟨rfl, rfl⟩
theorem DK.len0 [G : Guard] {w : World} {B : Nat} {sure : Fls} {loose : List Chg} {s0 s1 n0 n1 : Option Addr × Nat × Nat} {la : Option Addr} {ln lc : Nat} (h : DH Z w B sure loose s0 s1 n0 n1 la ln lc) :
    n0.2.1 = (runs loose sure).1.length ∧ n1.2.1 = (runs loose sure).2.length ∧ (runs loose sure).1.length + (runs loose sure).2.length ≤ 4194304 :=
  ⟨h.now0.len.symm, h.now1.len.symm, okAll_now h.ok⟩

theorem new_c [G : Guard] {w : World} {K : KV} (hG : ∀ b, w.heap.size ≤ b → ¬ G.prot b) (h : ∀ w' p, DK (fun _ => True) w' w.heap.size p ⟨([], []), [], false, -1⟩ → Below w.heap.size w w' → p = w.heap.size → K (ptr p) w') : call Try.prog 11 #[] K w := by
  refine call_of disk_New_go (disk_New_in ?_)
  refine bld_of (vs := [slv (none, 0, 0), slv (none, 0, 0), slv (none, 0, 0), slv (none, 0, 0), .slice none 0 0, .bool false, .bool false, .int .i64 0]) (by kernel_rfl) ?_
  refine box_of ?_
  intro w1 hb hbel _
  refine h w1 _ ⟨(none, 0, 0), (none, 0, 0), (none, 0, 0), (none, 0, 0), none, 0, 0, 0, hb, (fun h => by simp at h), by simp, by simp, ⟨Nat.le_refl _, hG _ (Nat.le_refl _)⟩, ?_⟩ hbel rfl
  exact ⟨TB.nil _, TB.nil _, TB.nil _, TB.nil _, LR.nil _ _, by simp [okAll, tot], fun _ _ => trivial, fun b hb => hG b (Nat.le_trans hbel.size hb)⟩

set_option maxHeartbeats 1000000 in
theorem append_c [G : Guard] {B p : Nat} {D : DS} {w : World} {K : KV} {f : Int} {a : Option Addr} {n c : Nat} {l : List UInt8} (hd : DK Z w B p D) (hb : RB w a n c l) (hn : n ≤ 9223372036850000000) (hlen : D.loose.length < 4294967296)
    (h : ∀ w', DK Z w' B p (appendS D f l).1 → Kg DT B w w' → K (.int .i64 (appendS D f l).2) w') : call Try.prog 32 #[ptr p, .int .i64 f, .slice a n c] K w := by
  have hl := hb.len
  refine call_of disk_Disk_Append_go (disk_Disk_Append_in ?_)
  refine box_of ?_
  intro w1 hq1 hb1 _
  have hq1 : blk w1 w.heap.size 3 [.int .i64 f] := hq1
  have hd1 := hd.below hb1
  have hk1 : Kg DT B w w1 := Kg.of hb1
  refine ready_c hd1 ?_
  by_cases hoff : D.off = true
  · rw [show appendS D f l = (D, 8) by simp [appendS, hoff]] at h
    simp only [hoff, if_true]
    (repeat (first | refine bin_neq ?_ | refine cond_T ?_))
    exact h w1 hd1 hk1
  simp only [hoff]
  (repeat (first | (refine ld_DL_0 ?_ (by assumption) ?_ ?_; rotate_left; exact rfl) | refine bin_neq ?_ | refine cond_F ?_))
  refine known_c ?_
  by_cases hf : f = 0 ∨ f = 1
  case neg =>
    rw [show appendS D f l = (D, 1) by unfold appendS; rw [if_neg hoff, if_pos hf]] at h
    (repeat (first | refine un_notD ?_ | refine cond_t (by omega) ?_))
    exact h w1 hd1 hk1
  obtain ⟨s0, s1, n0, n1, la, ln, lc, fz, hbp, e1, e2, e3, e4, hh⟩ := id hd1
  obtain ⟨hl0, hl1, hl2⟩ := DK.len0 hh
  have hbd := hbp.drew
  have hqd := hq1.drew
  have htot : tot D.now = (runs D.loose D.sure).1.length + (runs D.loose D.sure).2.length := rfl
  (repeat (first | refine sti_of (fun K hK => nilC_p hK) ?_ | refine sti_of (fun K hK => fA_Disk_1 hK) ?_ | refine sti_of (fun K hK => idxF0 hK) ?_ | refine sti_of (fun K hK => idxF1 hK) ?_ | refine sti_of (fun K hK => ld1 (fun _ => by kernel_rfl) hbd rfl hK) ?_ | refine un_notD ?_ | refine cond_f (by omega) ?_ | refine sti_of (fun _ hK => bin_gtr hK) ?_ | refine sti_of (fun _ hK => add64 (by omega) (by omega) hK) ?_ | refine sti_of (fun _ hK => len8 hK) ?_))
  by_cases hfull : 4194304 < tot D.now + l.length
  · rw [show appendS D f l = (D, 7) by unfold appendS; rw [if_neg hoff, if_neg (not_not_intro hf), if_pos hfull]] at h
    (repeat (first | refine cond_t (by omega) ?_))
    exact h _ hd1.drew hk1.drew
  rw [show appendS D f l = doS D (.app (decide (f = 1)) l) by unfold appendS; rw [if_neg hoff, if_neg (not_not_intro hf), if_neg hfull]] at h
  (repeat (first | refine cond_f (by omega) ?_))
  refine clone_c (RB.drew (RB.below hb hb1 (Nat.le_refl _))) (by omega) ?_
  intro a2 c2 w2 ho2 hb2
  have hk2 : Kg [] B w1 w2 := (Kg.of (w := w1.drew) hb2).undrew
  have hd2 : DK Z w2 B p D := hd1.keep hk2 (by simp) (by simp) (by simp) (by simp)
  have hq2 := hk2.blk hq1 (.inr (by simp))
  refine bld_of (vs := [.func (.func 57) #[] #[ptr w.heap.size], slv (a2, n, c2), .bool true]) (by kernel_rfl) ?_
  have hzz : ∀ b, w1.drew.heap.size ≤ b → Z b := fun b hb => hh.fresh b hb
  refine make_c (c := .app (decide (f = 1)) l) (b := l) hd2 ⟨w.heap.size, (a2, n, c2), rfl, ?_, TB.of_ob ho2 hzz⟩ (TB.of_ob ho2 hzz) ?_ hlen ?_
  · rw [show fi (decide (f = 1)) = f by rcases hf with rfl | rfl <;> rfl]; exact hq2
  · show tot D.now + l.length ≤ 4194304; omega
  · intro w3 hd3 hk3
    exact h w3 hd3 ((hk1.trans (hk2.mono (by simp) (Nat.le_refl _))).trans hk3)

set_option maxHeartbeats 1000000 in
theorem cut_c [G : Guard] {B p : Nat} {D : DS} {w : World} {K : KV} {f n : Int} (hd : DK Z w B p D) (hlen : D.loose.length < 4294967296)
    (h : ∀ w', DK Z w' B p (cutS D f n).1 → Kg DT B w w' → K (.int .i64 (cutS D f n).2) w') : call Try.prog 35 #[ptr p, .int .i64 f, .int .i64 n] K w := by
  refine call_of disk_Disk_Cut_go (disk_Disk_Cut_in ?_)
  refine box_of ?_
  intro w1 hq1 hb1 hs1
  have hq1 : blk w1 w.heap.size 3 [.int .i64 f] := hq1
  have hd1 := hd.below hb1
  refine box_of ?_
  intro w2 hr2 hb2 hs2
  have hr2 : blk w2 w1.heap.size 3 [.int .i64 n] := hr2
  have hq2 := below_blk hb2 hq1 hq1.lt
  have hd2 := hd1.below hb2
  have hk2 : Kg DT B w w2 := (Kg.of hb1).trans (Kg.of hb2)
  refine ready_c hd2 ?_
  by_cases hoff : D.off = true
  · rw [show cutS D f n = (D, 8) by simp [cutS, hoff]] at h
    simp only [hoff, if_true]
    (repeat (first | refine bin_neq ?_ | refine cond_T ?_))
    exact h w2 hd2 hk2
  simp only [hoff]
  (repeat (first | refine bin_neq ?_ | refine cond_F ?_))
  obtain ⟨s0, s1, n0, n1, la, ln, lc, fz, hbp, e1, e2, e3, e4, hh⟩ := id hd2
  obtain ⟨hl0, hl1, hl2⟩ := DK.len0 hh
  have hbd := hbp.drew
  have hqd := hq2.drew
  have hrd := hr2.drew
  by_cases hf : f = 0 ∨ f = 1
  case neg =>
    rw [show cutS D f n = (D, 1) by unfold cutS; rw [if_neg hoff, if_pos (.inl hf)]] at h
    (repeat (first | refine sti_of (fun K hK => known_c hK) ?_ | refine sti_of (fun K hK => ld1 (fun _ => by kernel_rfl) hqd rfl hK) ?_ | refine sti_of (fun K hK => pick_t (by omega) hK) ?_ | refine cond_T ?_ | refine gsel_Tn ?_ | refine gsel_nt (by omega) ?_ | refine sti_of (fun _ hK => un_notD hK) ?_ | refine sti_of (fun _ hK => pick_T hK) ?_))
    exact h _ hd2.drew hk2.drew
  by_cases hn0 : n < 0
  · rw [show cutS D f n = (D, 1) by unfold cutS; rw [if_neg hoff, if_pos (.inr (.inl hn0))]] at h
    (repeat (first | refine sti_of (fun K hK => known_c hK) ?_ | refine sti_of (fun K hK => ld1 (fun _ => by kernel_rfl) hqd rfl hK) ?_ | refine sti_of (fun K hK => ld1 (fun _ => by kernel_rfl) hrd rfl hK) ?_ | refine sti_of (fun K hK => pick_t (by omega) hK) ?_ | refine sti_of (fun K hK => pick_f (by omega) hK) ?_ | refine cond_T ?_ | refine gsel_nt (by omega) ?_ | refine gsel_nf (by omega) ?_ | refine sti_of (fun _ hK => bin_lss hK) ?_ | refine sti_of (fun _ hK => un_notD hK) ?_))
    exact h _ hd2.drew hk2.drew
  rcases hf with rfl | rfl
  · by_cases hbig : (n0.2.1 : Int) < n
    · rw [show cutS D 0 n = (D, 1) by unfold cutS; rw [if_neg hoff, if_pos (.inr (.inr (show ((runs D.loose D.sure).1.length : Int) < n by omega)))]] at h
      (repeat (first | refine sti_of (fun K hK => nilC_p hK) ?_ | refine sti_of (fun K hK => fA_Disk_1 hK) ?_ | refine sti_of (fun K hK => idxF0 hK) ?_ | refine sti_of (fun K hK => ld1 (fun _ => by kernel_rfl) hbd rfl hK) ?_ | refine sti_of (fun K hK => known_c hK) ?_ | refine sti_of (fun K hK => ld1 (fun _ => by kernel_rfl) hqd rfl hK) ?_ | refine sti_of (fun K hK => ld1 (fun _ => by kernel_rfl) hrd rfl hK) ?_ | refine sti_of (fun K hK => pick_f (by omega) hK) ?_ | refine cond_t (by omega) ?_ | refine gsel_Fn ?_ | refine gsel_nf (by omega) ?_ | refine sti_of (fun _ hK => bin_lss hK) ?_ | refine sti_of (fun _ hK => bin_gtr hK) ?_ | refine sti_of (fun _ hK => un_notD hK) ?_ | refine sti_of (fun _ hK => len8 hK) ?_))
      exact h _ hd2.drew hk2.drew
    · obtain ⟨m, rfl⟩ := Int.eq_ofNat_of_zero_le (show 0 ≤ n by omega)
      rw [show cutS D 0 (m : Nat) = doS D (.cut false m) by
        unfold cutS
        rw [if_neg hoff, if_neg (fun hh => by
          rcases hh with h1 | h1 | h1
          · exact h1 (.inl rfl)
          · omega
          · have h1 : ((runs D.loose D.sure).1.length : Int) < m := h1
            omega)]
        rfl] at h
      (repeat (first | refine sti_of (fun K hK => nilC_p hK) ?_ | refine sti_of (fun K hK => fA_Disk_1 hK) ?_ | refine sti_of (fun K hK => idxF0 hK) ?_ | refine sti_of (fun K hK => ld1 (fun _ => by kernel_rfl) hbd rfl hK) ?_ | refine sti_of (fun K hK => known_c hK) ?_ | refine sti_of (fun K hK => ld1 (fun _ => by kernel_rfl) hqd rfl hK) ?_ | refine sti_of (fun K hK => ld1 (fun _ => by kernel_rfl) hrd rfl hK) ?_ | refine sti_of (fun K hK => pick_f (by omega) hK) ?_ | refine cond_f (by omega) ?_ | refine gsel_Fn ?_ | refine sti_of (fun _ hK => bin_lss hK) ?_ | refine sti_of (fun _ hK => bin_gtr hK) ?_ | refine sti_of (fun _ hK => un_notD hK) ?_ | refine sti_of (fun _ hK => len8 hK) ?_))
      refine bld_of (vs := [.func (.func 60) #[] #[ptr w.heap.size, ptr w1.heap.size], slv (none, 0, 0), .bool false]) (by kernel_rfl) ?_
      refine make_c (c := .cut false m) (b := []) hd2.drew ⟨w.heap.size, w1.heap.size, rfl, hqd, hrd⟩ (TB.nil _) (show m ≤ (runs D.loose D.sure).1.length by omega) hlen ?_
      intro w3 hd3 hk3
      exact h w3 hd3 (hk2.trans hk3.undrew)
  · by_cases hbig : (n1.2.1 : Int) < n
    · rw [show cutS D 1 n = (D, 1) by unfold cutS; rw [if_neg hoff, if_pos (.inr (.inr (show ((runs D.loose D.sure).2.length : Int) < n by omega)))]] at h
      (repeat (first | refine sti_of (fun K hK => nilC_p hK) ?_ | refine sti_of (fun K hK => fA_Disk_1 hK) ?_ | refine sti_of (fun K hK => idxF1 hK) ?_ | refine sti_of (fun K hK => ld1 (fun _ => by kernel_rfl) hbd rfl hK) ?_ | refine sti_of (fun K hK => known_c hK) ?_ | refine sti_of (fun K hK => ld1 (fun _ => by kernel_rfl) hqd rfl hK) ?_ | refine sti_of (fun K hK => ld1 (fun _ => by kernel_rfl) hrd rfl hK) ?_ | refine sti_of (fun K hK => pick_f (by omega) hK) ?_ | refine cond_t (by omega) ?_ | refine gsel_Fn ?_ | refine gsel_nf (by omega) ?_ | refine sti_of (fun _ hK => bin_lss hK) ?_ | refine sti_of (fun _ hK => bin_gtr hK) ?_ | refine sti_of (fun _ hK => un_notD hK) ?_ | refine sti_of (fun _ hK => len8 hK) ?_))
      exact h _ hd2.drew hk2.drew
    · obtain ⟨m, rfl⟩ := Int.eq_ofNat_of_zero_le (show 0 ≤ n by omega)
      rw [show cutS D 1 (m : Nat) = doS D (.cut true m) by
        unfold cutS
        rw [if_neg hoff, if_neg (fun hh => by
          rcases hh with h1 | h1 | h1
          · exact h1 (.inr rfl)
          · omega
          · have h1 : ((runs D.loose D.sure).2.length : Int) < m := h1
            omega)]
        rfl] at h
      (repeat (first | refine sti_of (fun K hK => nilC_p hK) ?_ | refine sti_of (fun K hK => fA_Disk_1 hK) ?_ | refine sti_of (fun K hK => idxF1 hK) ?_ | refine sti_of (fun K hK => ld1 (fun _ => by kernel_rfl) hbd rfl hK) ?_ | refine sti_of (fun K hK => known_c hK) ?_ | refine sti_of (fun K hK => ld1 (fun _ => by kernel_rfl) hqd rfl hK) ?_ | refine sti_of (fun K hK => ld1 (fun _ => by kernel_rfl) hrd rfl hK) ?_ | refine sti_of (fun K hK => pick_f (by omega) hK) ?_ | refine cond_f (by omega) ?_ | refine gsel_Fn ?_ | refine sti_of (fun _ hK => bin_lss hK) ?_ | refine sti_of (fun _ hK => bin_gtr hK) ?_ | refine sti_of (fun _ hK => un_notD hK) ?_ | refine sti_of (fun _ hK => len8 hK) ?_))
      refine bld_of (vs := [.func (.func 60) #[] #[ptr w.heap.size, ptr w1.heap.size], slv (none, 0, 0), .bool false]) (by kernel_rfl) ?_
      refine make_c (c := .cut true m) (b := []) hd2.drew ⟨w.heap.size, w1.heap.size, rfl, hqd, hrd⟩ (TB.nil _) (show m ≤ (runs D.loose D.sure).2.length by omega) hlen ?_
      intro w3 hd3 hk3
      exact h w3 hd3 (hk2.trans hk3.undrew)

theorem rename_c [G : Guard] {B p : Nat} {D : DS} {w : World} {K : KV} (hd : DK Z w B p D) (hlen : D.loose.length < 4294967296)
    (h : ∀ w', DK Z w' B p (renS D).1 → Kg DT B w w' → K (.int .i64 (renS D).2) w') : call Try.prog 34 #[ptr p] K w := by
  refine call_of disk_Disk_Rename_go (disk_Disk_Rename_in ?_)
  refine ready_c hd ?_
  by_cases hoff : D.off = true
  · rw [show renS D = (D, 8) by simp [renS, hoff]] at h
    simp only [hoff, if_true]
    (repeat (first | refine bin_neq ?_ | refine cond_T ?_))
    exact h w hd (Kg.refl _ _ _)
  rw [show renS D = doS D .ren by unfold renS; rw [if_neg hoff]] at h
  simp only [hoff]
  (repeat (first | refine bin_neq ?_ | refine cond_F ?_))
  refine bld_of (vs := [.func (.func 59) #[] #[], slv (none, 0, 0), .bool false]) (by kernel_rfl) ?_
  refine make_c (c := .ren) (b := []) hd rfl (TB.nil _) trivial hlen ?_
  intro w3 hd3 hk3
  exact h w3 hd3 hk3

theorem sync_c [G : Guard] {B p : Nat} {D : DS} {w : World} {K : KV} (hd : DK Z w B p D)
    (h : ∀ w', DK Z w' B p (syncS D).1 → Kg DT B w w' → K (.int .i64 (syncS D).2) w') : call Try.prog 33 #[ptr p] K w := by
  refine call_of disk_Disk_Sync_go (disk_Disk_Sync_in ?_)
  refine ready_c hd ?_
  by_cases hoff : D.off = true
  · rw [show syncS D = (D, 8) by simp [syncS, hoff]] at h
    simp only [hoff, if_true]
    (repeat (first | refine bin_neq ?_ | refine cond_T ?_))
    exact h w hd (Kg.refl _ _ _)
  simp only [hoff]
  (repeat (first | refine bin_neq ?_ | refine cond_F ?_))
  refine burns_c hd ?_
  intro w1 hd1 hk1
  have hBp : B ≤ p := by obtain ⟨s0, s1, n0, n1, la, ln, lc, fz, hbp, e1, e2, e3, e4, hh⟩ := hd; exact e4.1
  cases hbn : (burn D).1 with
  | true =>
    rw [show syncS D = ((burn D).2, 8) by unfold syncS; rw [if_neg hoff, if_pos hbn]] at h
    (repeat (first | refine cond_T ?_))
    exact h w1 hd1 (hk1.mono (by simp) hBp)
  | false =>
    rw [show syncS D = (⟨D.now, [], (burn D).2.off, (burn D).2.fuse⟩, 0) by unfold syncS; rw [if_neg hoff, if_neg (by rw [hbn]; simp)]] at h
    have hs := burn_same D
    obtain ⟨s0, s1, n0, n1, la, ln, lc, fz, hb, e1, e2, e3, e4, hh⟩ := hd1
    rw [hs.1, hs.2] at hh
    (repeat (first | refine nilC_p ?_ | refine fA_Disk_1 ?_ | refine cond_F ?_))
    refine ldA (n := 2) Try.underlying67 rfl (by kernel_rfl) hb rfl rfl ?_
    (repeat (first | refine nilC_p ?_ | refine fA_Disk_0 ?_))
    refine stoA (n := 2) (by kernel_rfl) rfl hb (by simp) (by simp only [List.take, List.drop, List.mem_cons, List.not_mem_nil, or_false]; rintro u (rfl | rfl) <;> rfl) ?_
    intro w2 hb2 ho2
    have hb2 : blk w2 p 70 [slv n0, slv n1, slv n0, slv n1, .slice la ln lc, .bool (burn D).2.off, .bool (decide (0 ≤ (burn D).2.fuse)), .int .i64 fz] := hb2
    (repeat (first | refine nilC_p ?_ | refine fA_Disk_2 ?_))
    refine sto1 (by intro w; kernel_rfl) hb2 (by simp) rfl ?_
    intro w3 hb3 ho3
    have hk2 : Kg [70] p w1 w2 := ho2.kg hb (by simp) (Nat.le_refl _) e4.2
    have hk3 : Kg [70] p w2 w3 := ho3.kg hb2 (by simp) (Nat.le_refl _) e4.2
    have hh3 := (hh.keep hk2 (by decide) (by decide) (by decide)).keep hk3 (by decide) (by decide) (by decide)
    refine h w3 ⟨n0, n1, n0, n1, none, 0, 0, fz, hb3, e1, e2, e3, e4, ⟨hh3.now0, hh3.now1, hh3.now0, hh3.now1, LR.nil _ _, okAll_now hh.ok, hh3.fresh, hh3.freshG⟩⟩ (((hk1.trans hk2).trans hk3).mono (by simp) e4.1)

theorem read_c [G : Guard] {B p : Nat} {D : DS} {w : World} {K : KV} {f : Int} (hd : DK Z w B p D)
    (h : ∀ a n c w', OB w' w.heap.size a n c (readS D f).1 → Below w.heap.size w w' → K (.tuple #[.slice a n c, .int .i64 (readS D f).2]) w') : call Try.prog 17 #[ptr p, .int .i64 f] K w := by
  refine call_of disk_Disk_Read_go (disk_Disk_Read_in ?_)
  refine ready_c hd ?_
  by_cases hoff : D.off = true
  · rw [show readS D f = ([], 8) by simp [readS, hoff]] at h
    simp only [hoff, if_true]
    (repeat (first | refine bin_neq ?_ | refine cond_T ?_))
    exact h _ _ _ _ (OB.nil _ _) (Below.refl _ _)
  simp only [hoff]
  (repeat (first | refine bin_neq ?_ | refine cond_F ?_))
  refine known_c ?_
  by_cases hf : f = 0 ∨ f = 1
  case neg =>
    rw [show readS D f = ([], 1) by unfold readS; rw [if_neg hoff, if_pos hf]] at h
    (repeat (first | refine un_notD ?_ | refine cond_t (by omega) ?_))
    exact h _ _ _ _ (OB.nil _ _) (Below.refl _ _)
  obtain ⟨s0, s1, n0, n1, la, ln, lc, fz, hb, e1, e2, e3, e4, hh⟩ := id hd
  obtain ⟨hl0, hl1, hl2⟩ := DK.len0 hh
  rcases hf with rfl | rfl
  · rw [show readS D 0 = ((runs D.loose D.sure).1, 0) by unfold readS; rw [if_neg hoff, if_neg (by simp)]; rfl] at h
    (repeat (first | refine nilC_p ?_ | refine fA_Disk_1 ?_ | (refine ld_DL_2 ?_ (by assumption) ?_ ?_; rotate_left; exact rfl) | refine idxF0 ?_ | refine un_notD ?_ | refine cond_F ?_))
    refine clone_c hh.now0.rb (by omega) ?_
    intro a c w1 ho1 hb1
    exact h _ _ _ _ ho1 hb1
  · rw [show readS D 1 = ((runs D.loose D.sure).2, 0) by unfold readS; rw [if_neg hoff, if_neg (by simp)]; rfl] at h
    (repeat (first | refine nilC_p ?_ | refine fA_Disk_1 ?_ | (refine ld_DL_2 ?_ (by assumption) ?_ ?_; rotate_left; exact rfl) | refine idxF1 ?_ | refine un_notD ?_ | refine cond_F ?_))
    refine clone_c hh.now1.rb (by omega) ?_
    intro a c w1 ho1 hb1
    exact h _ _ _ _ ho1 hb1
end Go.Proofs.Ytjkmblbonambjaa
