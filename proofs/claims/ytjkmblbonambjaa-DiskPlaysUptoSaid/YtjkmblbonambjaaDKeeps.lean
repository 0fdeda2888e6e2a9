/- The statement of DiskKeeps: what was sure when the power went, with nothing but appends loose, stands at the beginning of what is there when it is on again, and that is the beginning of what stood there last: where what it reads is of bulk at most 1048576: true, and the input reads as it did. -/
import Derived.Test.YtjkmblbonambjaaDSteps
import Derived.Test.YtjkmblbonambjaaFrame2
namespace Go.Proofs.Ytjkmblbonambjaa
set_option maxRecDepth 100000
open Go.ChangeShapes Go.WideShapes Go.ChangeAt Go.RowKit
section
attribute [local irreducible] bin un conv call callV blt slc fldA fld idxA idx lkp mUpd mEnt eSt rng nxt ent ext alc box bld bldS ld sto nilC mkMap mkS ifc pick rdy wts gsel sti cond retM Gives cCode cGrp cSeq cOp

/-- What a step does to a disk, and its answer. -/
def stepS (D : DS) (s : Stp) : DS × Int :=
  if s.d = 1 then appendS D s.f s.b else if s.d = 2 then cutS D s.f s.n else if s.d = 3 then renS D else if s.d = 4 then syncS D else
    if s.d = 5 then ({ D with fuse := if 0 ≤ s.n then s.n else -1 }, 0) else if s.d = 6 then ({ D with off := true, fuse := -1 }, 0) else if s.d = 7 then onS D s.picks else (D, 0)

theorem ldStep {w : World} {K : KV} {b o : Nat} {cs : List Value} {s : Stp} (hs : STC w cs s) (hc : ∀ (j : Nat) (u : Value), cs[j]? = some u → w.cell? ⟨b, o + j, none⟩ = some u) (h : K (.agg cs.toArray) w) :
    ld Try.prog 32 (.pointer (some ⟨b, o, none⟩)) K w := by
  refine ld_of (run_loadVar_mid w b o _ cs _ hc Try.underlying32 rfl ?_) h
  obtain ⟨v, pv, e, _⟩ := hs
  subst e
  kernel_rfl

set_option maxHeartbeats 2000000 in
theorem does_law {Z : Nat → Prop} {B p : Nat} {D : DS} {w : World} {K : KV} {cs : List Value} {s : Stp} (hd : DK Z w B p D) (hs : STC w cs s) (hlen : D.loose.length < 4294967296)
    (h : ∀ w', DK Z w' B p (stepS D s).1 → Keep DT B w w' → K (.int .i64 (stepS D s).2) w') : call Try.prog 13 #[ptr p, .agg cs.toArray] K w := by
  have hBp : B ≤ p := by obtain ⟨s0, s1, n0, n1, la, ln, lc, fz, hbp, e1, e2, e3, e4, hh⟩ := hd; exact e4
  obtain ⟨v, pv, rfl, r1, r2, k1, k2, k3, k4, k5⟩ := hs
  refine call_of leatlaw04_does_go (leatlaw04_does_in ?_)
  refine box_of ?_
  intro w1 hq b1 _
  have hq : blk w1 w.heap.size 32 [.int .i64 s.d, .int .i64 s.f, .int .i64 s.n, slv v, slv pv] := hq
  have hd1 := hd.below b1
  have B1 : Keep DT B w w1 := Keep.of b1
  have q1 := r1.below b1 (Nat.le_refl _)
  have q2 := r2.below b1 (Nat.le_refl _)
  have hv := r1.len
  have fin : ∀ w', DK Z w' B p (stepS D s).1 → Keep DT B w1 w' → K (.int .i64 (stepS D s).2) w' := fun w' h1 h2 => h w' h1 (B1.trans h2)
  by_cases d1 : s.d = 1
  · rw [show stepS D s = appendS D s.f s.b by simp [stepS, d1]] at fin
    (repeat (first | refine fA_Step_0 ?_ | refine fA_Step_1 ?_ | refine fA_Step_2 ?_ | refine fA_Step_3 ?_ | refine fA_Step_4 ?_ | (refine ld_DL_0 ?_ (by assumption) ?_ ?_; rotate_left; exact rfl) | (refine ld_DL_1 ?_ (by assumption) ?_ ?_; rotate_left; exact rfl) | (refine ld_DL_2 ?_ (by assumption) ?_ ?_; rotate_left; exact rfl) | (refine ld_DL_3 ?_ (by assumption) ?_ ?_; rotate_left; exact rfl) | (refine ld_DL_4 ?_ (by assumption) ?_ ?_; rotate_left; exact rfl) | refine leatlaw04_does_P1_r ?_ | refine leatlaw04_does_A1_r ?_ | refine leatlaw04_does_A2_r ?_ | refine bin_eql ?_ | refine bin_neq ?_ | refine bin_lss ?_ | refine bin_leq ?_ | refine bin_gtr ?_ | refine bin_geq ?_ | refine add64 (by omega) (by omega) ?_ | refine sub64 (by omega) (by omega) ?_ | refine ext_a ?_ | refine ext_b ?_ | refine ext3_a ?_ | refine ext3_b ?_ | refine ext3_c ?_ | refine un_notD ?_ | refine mul64 (by omega) (by omega) ?_ | refine cvIU (by omega) (by omega) ?_ | refine cvIUint (by omega) (by omega) ?_ | refine cvUI (by omega) (by omega) ?_ | refine cvBU (by omega) (by omega) ?_ | refine len8 ?_ | refine len36 ?_ | refine pick_T ?_ | refine pick_F ?_ | refine cond_T ?_ | refine cond_F ?_ | refine cond_t (by omega) ?_ | refine cond_f (by omega) ?_ | refine gsel_T ?_ | refine gsel_F ?_ | refine gsel_Tn ?_ | refine gsel_Fn ?_ | refine gsel_U ?_ | refine gsel_pt (by omega) ?_ | refine gsel_pf (by omega) ?_ | refine gsel_nt (by omega) ?_ | refine gsel_nf (by omega) ?_ | refine pick_t (by omega) ?_ | refine pick_f (by omega) ?_ | refine sti_of (fun _ hK => bin_eql hK) ?_ | refine sti_of (fun _ hK => bin_neq hK) ?_ | refine sti_of (fun _ hK => bin_lss hK) ?_ | refine sti_of (fun _ hK => bin_leq hK) ?_ | refine sti_of (fun _ hK => bin_gtr hK) ?_ | refine sti_of (fun _ hK => bin_geq hK) ?_ | refine sti_of (fun _ hK => add64 (by omega) (by omega) hK) ?_ | refine sti_of (fun _ hK => sub64 (by omega) (by omega) hK) ?_ | refine sti_of (fun _ hK => un_notD hK) ?_ | refine sti_of (fun _ hK => len8 hK) ?_ | refine sti_of (fun _ hK => pick_T hK) ?_ | refine sti_of (fun _ hK => pick_F hK) ?_))
    exact append_c hd1 q1 (by omega) hlen fin
  by_cases d2 : s.d = 2
  · rw [show stepS D s = cutS D s.f s.n by simp [stepS, d2]] at fin
    (repeat (first | refine fA_Step_0 ?_ | refine fA_Step_1 ?_ | refine fA_Step_2 ?_ | refine fA_Step_3 ?_ | refine fA_Step_4 ?_ | (refine ld_DL_0 ?_ (by assumption) ?_ ?_; rotate_left; exact rfl) | (refine ld_DL_1 ?_ (by assumption) ?_ ?_; rotate_left; exact rfl) | (refine ld_DL_2 ?_ (by assumption) ?_ ?_; rotate_left; exact rfl) | (refine ld_DL_3 ?_ (by assumption) ?_ ?_; rotate_left; exact rfl) | (refine ld_DL_4 ?_ (by assumption) ?_ ?_; rotate_left; exact rfl) | refine leatlaw04_does_P1_r ?_ | refine leatlaw04_does_A1_r ?_ | refine leatlaw04_does_A2_r ?_ | refine bin_eql ?_ | refine bin_neq ?_ | refine bin_lss ?_ | refine bin_leq ?_ | refine bin_gtr ?_ | refine bin_geq ?_ | refine add64 (by omega) (by omega) ?_ | refine sub64 (by omega) (by omega) ?_ | refine ext_a ?_ | refine ext_b ?_ | refine ext3_a ?_ | refine ext3_b ?_ | refine ext3_c ?_ | refine un_notD ?_ | refine mul64 (by omega) (by omega) ?_ | refine cvIU (by omega) (by omega) ?_ | refine cvIUint (by omega) (by omega) ?_ | refine cvUI (by omega) (by omega) ?_ | refine cvBU (by omega) (by omega) ?_ | refine len8 ?_ | refine len36 ?_ | refine pick_T ?_ | refine pick_F ?_ | refine cond_T ?_ | refine cond_F ?_ | refine cond_t (by omega) ?_ | refine cond_f (by omega) ?_ | refine gsel_T ?_ | refine gsel_F ?_ | refine gsel_Tn ?_ | refine gsel_Fn ?_ | refine gsel_U ?_ | refine gsel_pt (by omega) ?_ | refine gsel_pf (by omega) ?_ | refine gsel_nt (by omega) ?_ | refine gsel_nf (by omega) ?_ | refine pick_t (by omega) ?_ | refine pick_f (by omega) ?_ | refine sti_of (fun _ hK => bin_eql hK) ?_ | refine sti_of (fun _ hK => bin_neq hK) ?_ | refine sti_of (fun _ hK => bin_lss hK) ?_ | refine sti_of (fun _ hK => bin_leq hK) ?_ | refine sti_of (fun _ hK => bin_gtr hK) ?_ | refine sti_of (fun _ hK => bin_geq hK) ?_ | refine sti_of (fun _ hK => add64 (by omega) (by omega) hK) ?_ | refine sti_of (fun _ hK => sub64 (by omega) (by omega) hK) ?_ | refine sti_of (fun _ hK => un_notD hK) ?_ | refine sti_of (fun _ hK => len8 hK) ?_ | refine sti_of (fun _ hK => pick_T hK) ?_ | refine sti_of (fun _ hK => pick_F hK) ?_))
    exact cut_c hd1 hlen fin
  by_cases d3 : s.d = 3
  · rw [show stepS D s = renS D by simp [stepS, d3]] at fin
    (repeat (first | refine fA_Step_0 ?_ | refine fA_Step_1 ?_ | refine fA_Step_2 ?_ | refine fA_Step_3 ?_ | refine fA_Step_4 ?_ | (refine ld_DL_0 ?_ (by assumption) ?_ ?_; rotate_left; exact rfl) | (refine ld_DL_1 ?_ (by assumption) ?_ ?_; rotate_left; exact rfl) | (refine ld_DL_2 ?_ (by assumption) ?_ ?_; rotate_left; exact rfl) | (refine ld_DL_3 ?_ (by assumption) ?_ ?_; rotate_left; exact rfl) | (refine ld_DL_4 ?_ (by assumption) ?_ ?_; rotate_left; exact rfl) | refine leatlaw04_does_P1_r ?_ | refine leatlaw04_does_A1_r ?_ | refine leatlaw04_does_A2_r ?_ | refine bin_eql ?_ | refine bin_neq ?_ | refine bin_lss ?_ | refine bin_leq ?_ | refine bin_gtr ?_ | refine bin_geq ?_ | refine add64 (by omega) (by omega) ?_ | refine sub64 (by omega) (by omega) ?_ | refine ext_a ?_ | refine ext_b ?_ | refine ext3_a ?_ | refine ext3_b ?_ | refine ext3_c ?_ | refine un_notD ?_ | refine mul64 (by omega) (by omega) ?_ | refine cvIU (by omega) (by omega) ?_ | refine cvIUint (by omega) (by omega) ?_ | refine cvUI (by omega) (by omega) ?_ | refine cvBU (by omega) (by omega) ?_ | refine len8 ?_ | refine len36 ?_ | refine pick_T ?_ | refine pick_F ?_ | refine cond_T ?_ | refine cond_F ?_ | refine cond_t (by omega) ?_ | refine cond_f (by omega) ?_ | refine gsel_T ?_ | refine gsel_F ?_ | refine gsel_Tn ?_ | refine gsel_Fn ?_ | refine gsel_U ?_ | refine gsel_pt (by omega) ?_ | refine gsel_pf (by omega) ?_ | refine gsel_nt (by omega) ?_ | refine gsel_nf (by omega) ?_ | refine pick_t (by omega) ?_ | refine pick_f (by omega) ?_ | refine sti_of (fun _ hK => bin_eql hK) ?_ | refine sti_of (fun _ hK => bin_neq hK) ?_ | refine sti_of (fun _ hK => bin_lss hK) ?_ | refine sti_of (fun _ hK => bin_leq hK) ?_ | refine sti_of (fun _ hK => bin_gtr hK) ?_ | refine sti_of (fun _ hK => bin_geq hK) ?_ | refine sti_of (fun _ hK => add64 (by omega) (by omega) hK) ?_ | refine sti_of (fun _ hK => sub64 (by omega) (by omega) hK) ?_ | refine sti_of (fun _ hK => un_notD hK) ?_ | refine sti_of (fun _ hK => len8 hK) ?_ | refine sti_of (fun _ hK => pick_T hK) ?_ | refine sti_of (fun _ hK => pick_F hK) ?_))
    exact rename_c hd1 hlen fin
  by_cases d4 : s.d = 4
  · rw [show stepS D s = syncS D by simp [stepS, d4]] at fin
    (repeat (first | refine fA_Step_0 ?_ | refine fA_Step_1 ?_ | refine fA_Step_2 ?_ | refine fA_Step_3 ?_ | refine fA_Step_4 ?_ | (refine ld_DL_0 ?_ (by assumption) ?_ ?_; rotate_left; exact rfl) | (refine ld_DL_1 ?_ (by assumption) ?_ ?_; rotate_left; exact rfl) | (refine ld_DL_2 ?_ (by assumption) ?_ ?_; rotate_left; exact rfl) | (refine ld_DL_3 ?_ (by assumption) ?_ ?_; rotate_left; exact rfl) | (refine ld_DL_4 ?_ (by assumption) ?_ ?_; rotate_left; exact rfl) | refine leatlaw04_does_P1_r ?_ | refine leatlaw04_does_A1_r ?_ | refine leatlaw04_does_A2_r ?_ | refine bin_eql ?_ | refine bin_neq ?_ | refine bin_lss ?_ | refine bin_leq ?_ | refine bin_gtr ?_ | refine bin_geq ?_ | refine add64 (by omega) (by omega) ?_ | refine sub64 (by omega) (by omega) ?_ | refine ext_a ?_ | refine ext_b ?_ | refine ext3_a ?_ | refine ext3_b ?_ | refine ext3_c ?_ | refine un_notD ?_ | refine mul64 (by omega) (by omega) ?_ | refine cvIU (by omega) (by omega) ?_ | refine cvIUint (by omega) (by omega) ?_ | refine cvUI (by omega) (by omega) ?_ | refine cvBU (by omega) (by omega) ?_ | refine len8 ?_ | refine len36 ?_ | refine pick_T ?_ | refine pick_F ?_ | refine cond_T ?_ | refine cond_F ?_ | refine cond_t (by omega) ?_ | refine cond_f (by omega) ?_ | refine gsel_T ?_ | refine gsel_F ?_ | refine gsel_Tn ?_ | refine gsel_Fn ?_ | refine gsel_U ?_ | refine gsel_pt (by omega) ?_ | refine gsel_pf (by omega) ?_ | refine gsel_nt (by omega) ?_ | refine gsel_nf (by omega) ?_ | refine pick_t (by omega) ?_ | refine pick_f (by omega) ?_ | refine sti_of (fun _ hK => bin_eql hK) ?_ | refine sti_of (fun _ hK => bin_neq hK) ?_ | refine sti_of (fun _ hK => bin_lss hK) ?_ | refine sti_of (fun _ hK => bin_leq hK) ?_ | refine sti_of (fun _ hK => bin_gtr hK) ?_ | refine sti_of (fun _ hK => bin_geq hK) ?_ | refine sti_of (fun _ hK => add64 (by omega) (by omega) hK) ?_ | refine sti_of (fun _ hK => sub64 (by omega) (by omega) hK) ?_ | refine sti_of (fun _ hK => un_notD hK) ?_ | refine sti_of (fun _ hK => len8 hK) ?_ | refine sti_of (fun _ hK => pick_T hK) ?_ | refine sti_of (fun _ hK => pick_F hK) ?_))
    exact sync_c hd1 fin
  by_cases d5 : s.d = 5
  · rw [show stepS D s = ({ D with fuse := if 0 ≤ s.n then s.n else -1 }, 0) by simp [stepS, d5]] at fin
    (repeat (first | refine fA_Step_0 ?_ | refine fA_Step_1 ?_ | refine fA_Step_2 ?_ | refine fA_Step_3 ?_ | refine fA_Step_4 ?_ | (refine ld_DL_0 ?_ (by assumption) ?_ ?_; rotate_left; exact rfl) | (refine ld_DL_1 ?_ (by assumption) ?_ ?_; rotate_left; exact rfl) | (refine ld_DL_2 ?_ (by assumption) ?_ ?_; rotate_left; exact rfl) | (refine ld_DL_3 ?_ (by assumption) ?_ ?_; rotate_left; exact rfl) | (refine ld_DL_4 ?_ (by assumption) ?_ ?_; rotate_left; exact rfl) | refine leatlaw04_does_P1_r ?_ | refine leatlaw04_does_A1_r ?_ | refine leatlaw04_does_A2_r ?_ | refine bin_eql ?_ | refine bin_neq ?_ | refine bin_lss ?_ | refine bin_leq ?_ | refine bin_gtr ?_ | refine bin_geq ?_ | refine add64 (by omega) (by omega) ?_ | refine sub64 (by omega) (by omega) ?_ | refine ext_a ?_ | refine ext_b ?_ | refine ext3_a ?_ | refine ext3_b ?_ | refine ext3_c ?_ | refine un_notD ?_ | refine mul64 (by omega) (by omega) ?_ | refine cvIU (by omega) (by omega) ?_ | refine cvIUint (by omega) (by omega) ?_ | refine cvUI (by omega) (by omega) ?_ | refine cvBU (by omega) (by omega) ?_ | refine len8 ?_ | refine len36 ?_ | refine pick_T ?_ | refine pick_F ?_ | refine cond_T ?_ | refine cond_F ?_ | refine cond_t (by omega) ?_ | refine cond_f (by omega) ?_ | refine gsel_T ?_ | refine gsel_F ?_ | refine gsel_Tn ?_ | refine gsel_Fn ?_ | refine gsel_U ?_ | refine gsel_pt (by omega) ?_ | refine gsel_pf (by omega) ?_ | refine gsel_nt (by omega) ?_ | refine gsel_nf (by omega) ?_ | refine pick_t (by omega) ?_ | refine pick_f (by omega) ?_ | refine sti_of (fun _ hK => bin_eql hK) ?_ | refine sti_of (fun _ hK => bin_neq hK) ?_ | refine sti_of (fun _ hK => bin_lss hK) ?_ | refine sti_of (fun _ hK => bin_leq hK) ?_ | refine sti_of (fun _ hK => bin_gtr hK) ?_ | refine sti_of (fun _ hK => bin_geq hK) ?_ | refine sti_of (fun _ hK => add64 (by omega) (by omega) hK) ?_ | refine sti_of (fun _ hK => sub64 (by omega) (by omega) hK) ?_ | refine sti_of (fun _ hK => un_notD hK) ?_ | refine sti_of (fun _ hK => len8 hK) ?_ | refine sti_of (fun _ hK => pick_T hK) ?_ | refine sti_of (fun _ hK => pick_F hK) ?_))
    refine fuse_c hd1 k3 ?_
    intro w2 hd2 hk2
    (repeat (first | refine leatlaw04_does_P1_r ?_ | refine leatlaw04_does_A1_r ?_ | refine leatlaw04_does_A2_r ?_ | refine bin_eql ?_ | refine bin_neq ?_ | refine bin_lss ?_ | refine bin_leq ?_ | refine bin_gtr ?_ | refine bin_geq ?_ | refine add64 (by omega) (by omega) ?_ | refine sub64 (by omega) (by omega) ?_ | refine ext_a ?_ | refine ext_b ?_ | refine ext3_a ?_ | refine ext3_b ?_ | refine ext3_c ?_ | refine un_notD ?_ | refine mul64 (by omega) (by omega) ?_ | refine cvIU (by omega) (by omega) ?_ | refine cvIUint (by omega) (by omega) ?_ | refine cvUI (by omega) (by omega) ?_ | refine cvBU (by omega) (by omega) ?_ | refine len8 ?_ | refine len36 ?_ | refine pick_T ?_ | refine pick_F ?_ | refine cond_T ?_ | refine cond_F ?_ | refine cond_t (by omega) ?_ | refine cond_f (by omega) ?_ | refine gsel_T ?_ | refine gsel_F ?_ | refine gsel_Tn ?_ | refine gsel_Fn ?_ | refine gsel_U ?_ | refine gsel_pt (by omega) ?_ | refine gsel_pf (by omega) ?_ | refine gsel_nt (by omega) ?_ | refine gsel_nf (by omega) ?_ | refine pick_t (by omega) ?_ | refine pick_f (by omega) ?_ | refine sti_of (fun _ hK => bin_eql hK) ?_ | refine sti_of (fun _ hK => bin_neq hK) ?_ | refine sti_of (fun _ hK => bin_lss hK) ?_ | refine sti_of (fun _ hK => bin_leq hK) ?_ | refine sti_of (fun _ hK => bin_gtr hK) ?_ | refine sti_of (fun _ hK => bin_geq hK) ?_ | refine sti_of (fun _ hK => add64 (by omega) (by omega) hK) ?_ | refine sti_of (fun _ hK => sub64 (by omega) (by omega) hK) ?_ | refine sti_of (fun _ hK => un_notD hK) ?_ | refine sti_of (fun _ hK => len8 hK) ?_ | refine sti_of (fun _ hK => pick_T hK) ?_ | refine sti_of (fun _ hK => pick_F hK) ?_))
    exact fin w2 hd2 (hk2.mono (by simp) hBp)
  by_cases d6 : s.d = 6
  · rw [show stepS D s = ({ D with off := true, fuse := -1 }, 0) by simp [stepS, d6]] at fin
    (repeat (first | refine fA_Step_0 ?_ | refine fA_Step_1 ?_ | refine fA_Step_2 ?_ | refine fA_Step_3 ?_ | refine fA_Step_4 ?_ | (refine ld_DL_0 ?_ (by assumption) ?_ ?_; rotate_left; exact rfl) | (refine ld_DL_1 ?_ (by assumption) ?_ ?_; rotate_left; exact rfl) | (refine ld_DL_2 ?_ (by assumption) ?_ ?_; rotate_left; exact rfl) | (refine ld_DL_3 ?_ (by assumption) ?_ ?_; rotate_left; exact rfl) | (refine ld_DL_4 ?_ (by assumption) ?_ ?_; rotate_left; exact rfl) | refine leatlaw04_does_P1_r ?_ | refine leatlaw04_does_A1_r ?_ | refine leatlaw04_does_A2_r ?_ | refine bin_eql ?_ | refine bin_neq ?_ | refine bin_lss ?_ | refine bin_leq ?_ | refine bin_gtr ?_ | refine bin_geq ?_ | refine add64 (by omega) (by omega) ?_ | refine sub64 (by omega) (by omega) ?_ | refine ext_a ?_ | refine ext_b ?_ | refine ext3_a ?_ | refine ext3_b ?_ | refine ext3_c ?_ | refine un_notD ?_ | refine mul64 (by omega) (by omega) ?_ | refine cvIU (by omega) (by omega) ?_ | refine cvIUint (by omega) (by omega) ?_ | refine cvUI (by omega) (by omega) ?_ | refine cvBU (by omega) (by omega) ?_ | refine len8 ?_ | refine len36 ?_ | refine pick_T ?_ | refine pick_F ?_ | refine cond_T ?_ | refine cond_F ?_ | refine cond_t (by omega) ?_ | refine cond_f (by omega) ?_ | refine gsel_T ?_ | refine gsel_F ?_ | refine gsel_Tn ?_ | refine gsel_Fn ?_ | refine gsel_U ?_ | refine gsel_pt (by omega) ?_ | refine gsel_pf (by omega) ?_ | refine gsel_nt (by omega) ?_ | refine gsel_nf (by omega) ?_ | refine pick_t (by omega) ?_ | refine pick_f (by omega) ?_ | refine sti_of (fun _ hK => bin_eql hK) ?_ | refine sti_of (fun _ hK => bin_neq hK) ?_ | refine sti_of (fun _ hK => bin_lss hK) ?_ | refine sti_of (fun _ hK => bin_leq hK) ?_ | refine sti_of (fun _ hK => bin_gtr hK) ?_ | refine sti_of (fun _ hK => bin_geq hK) ?_ | refine sti_of (fun _ hK => add64 (by omega) (by omega) hK) ?_ | refine sti_of (fun _ hK => sub64 (by omega) (by omega) hK) ?_ | refine sti_of (fun _ hK => un_notD hK) ?_ | refine sti_of (fun _ hK => len8 hK) ?_ | refine sti_of (fun _ hK => pick_T hK) ?_ | refine sti_of (fun _ hK => pick_F hK) ?_))
    refine off_c hd1 ?_
    intro w2 hd2 hk2
    (repeat (first | refine leatlaw04_does_P1_r ?_ | refine leatlaw04_does_A1_r ?_ | refine leatlaw04_does_A2_r ?_ | refine bin_eql ?_ | refine bin_neq ?_ | refine bin_lss ?_ | refine bin_leq ?_ | refine bin_gtr ?_ | refine bin_geq ?_ | refine add64 (by omega) (by omega) ?_ | refine sub64 (by omega) (by omega) ?_ | refine ext_a ?_ | refine ext_b ?_ | refine ext3_a ?_ | refine ext3_b ?_ | refine ext3_c ?_ | refine un_notD ?_ | refine mul64 (by omega) (by omega) ?_ | refine cvIU (by omega) (by omega) ?_ | refine cvIUint (by omega) (by omega) ?_ | refine cvUI (by omega) (by omega) ?_ | refine cvBU (by omega) (by omega) ?_ | refine len8 ?_ | refine len36 ?_ | refine pick_T ?_ | refine pick_F ?_ | refine cond_T ?_ | refine cond_F ?_ | refine cond_t (by omega) ?_ | refine cond_f (by omega) ?_ | refine gsel_T ?_ | refine gsel_F ?_ | refine gsel_Tn ?_ | refine gsel_Fn ?_ | refine gsel_U ?_ | refine gsel_pt (by omega) ?_ | refine gsel_pf (by omega) ?_ | refine gsel_nt (by omega) ?_ | refine gsel_nf (by omega) ?_ | refine pick_t (by omega) ?_ | refine pick_f (by omega) ?_ | refine sti_of (fun _ hK => bin_eql hK) ?_ | refine sti_of (fun _ hK => bin_neq hK) ?_ | refine sti_of (fun _ hK => bin_lss hK) ?_ | refine sti_of (fun _ hK => bin_leq hK) ?_ | refine sti_of (fun _ hK => bin_gtr hK) ?_ | refine sti_of (fun _ hK => bin_geq hK) ?_ | refine sti_of (fun _ hK => add64 (by omega) (by omega) hK) ?_ | refine sti_of (fun _ hK => sub64 (by omega) (by omega) hK) ?_ | refine sti_of (fun _ hK => un_notD hK) ?_ | refine sti_of (fun _ hK => len8 hK) ?_ | refine sti_of (fun _ hK => pick_T hK) ?_ | refine sti_of (fun _ hK => pick_F hK) ?_))
    exact fin w2 hd2 (hk2.mono (by simp) hBp)
  by_cases d7 : s.d = 7
  · rw [show stepS D s = onS D s.picks by simp [stepS, d7]] at fin
    (repeat (first | refine fA_Step_0 ?_ | refine fA_Step_1 ?_ | refine fA_Step_2 ?_ | refine fA_Step_3 ?_ | refine fA_Step_4 ?_ | (refine ld_DL_0 ?_ (by assumption) ?_ ?_; rotate_left; exact rfl) | (refine ld_DL_1 ?_ (by assumption) ?_ ?_; rotate_left; exact rfl) | (refine ld_DL_2 ?_ (by assumption) ?_ ?_; rotate_left; exact rfl) | (refine ld_DL_3 ?_ (by assumption) ?_ ?_; rotate_left; exact rfl) | (refine ld_DL_4 ?_ (by assumption) ?_ ?_; rotate_left; exact rfl) | refine leatlaw04_does_P1_r ?_ | refine leatlaw04_does_A1_r ?_ | refine leatlaw04_does_A2_r ?_ | refine bin_eql ?_ | refine bin_neq ?_ | refine bin_lss ?_ | refine bin_leq ?_ | refine bin_gtr ?_ | refine bin_geq ?_ | refine add64 (by omega) (by omega) ?_ | refine sub64 (by omega) (by omega) ?_ | refine ext_a ?_ | refine ext_b ?_ | refine ext3_a ?_ | refine ext3_b ?_ | refine ext3_c ?_ | refine un_notD ?_ | refine mul64 (by omega) (by omega) ?_ | refine cvIU (by omega) (by omega) ?_ | refine cvIUint (by omega) (by omega) ?_ | refine cvUI (by omega) (by omega) ?_ | refine cvBU (by omega) (by omega) ?_ | refine len8 ?_ | refine len36 ?_ | refine pick_T ?_ | refine pick_F ?_ | refine cond_T ?_ | refine cond_F ?_ | refine cond_t (by omega) ?_ | refine cond_f (by omega) ?_ | refine gsel_T ?_ | refine gsel_F ?_ | refine gsel_Tn ?_ | refine gsel_Fn ?_ | refine gsel_U ?_ | refine gsel_pt (by omega) ?_ | refine gsel_pf (by omega) ?_ | refine gsel_nt (by omega) ?_ | refine gsel_nf (by omega) ?_ | refine pick_t (by omega) ?_ | refine pick_f (by omega) ?_ | refine sti_of (fun _ hK => bin_eql hK) ?_ | refine sti_of (fun _ hK => bin_neq hK) ?_ | refine sti_of (fun _ hK => bin_lss hK) ?_ | refine sti_of (fun _ hK => bin_leq hK) ?_ | refine sti_of (fun _ hK => bin_gtr hK) ?_ | refine sti_of (fun _ hK => bin_geq hK) ?_ | refine sti_of (fun _ hK => add64 (by omega) (by omega) hK) ?_ | refine sti_of (fun _ hK => sub64 (by omega) (by omega) hK) ?_ | refine sti_of (fun _ hK => un_notD hK) ?_ | refine sti_of (fun _ hK => len8 hK) ?_ | refine sti_of (fun _ hK => pick_T hK) ?_ | refine sti_of (fun _ hK => pick_F hK) ?_))
    have hc : w1.cell? ⟨w.heap.size, 0 + 4, none⟩ = some (.slice pv.1 pv.2.1 pv.2.2) := by rw [hq.cell]; rfl
    refine ldCI hc ?_
    exact on_c hd1 q2 hlen fin
  · rw [show stepS D s = (D, 0) by simp [stepS, d1, d2, d3, d4, d5, d6, d7]] at fin
    (repeat (first | refine fA_Step_0 ?_ | refine fA_Step_1 ?_ | refine fA_Step_2 ?_ | refine fA_Step_3 ?_ | refine fA_Step_4 ?_ | (refine ld_DL_0 ?_ (by assumption) ?_ ?_; rotate_left; exact rfl) | (refine ld_DL_1 ?_ (by assumption) ?_ ?_; rotate_left; exact rfl) | (refine ld_DL_2 ?_ (by assumption) ?_ ?_; rotate_left; exact rfl) | (refine ld_DL_3 ?_ (by assumption) ?_ ?_; rotate_left; exact rfl) | (refine ld_DL_4 ?_ (by assumption) ?_ ?_; rotate_left; exact rfl) | refine leatlaw04_does_P1_r ?_ | refine leatlaw04_does_A1_r ?_ | refine leatlaw04_does_A2_r ?_ | refine bin_eql ?_ | refine bin_neq ?_ | refine bin_lss ?_ | refine bin_leq ?_ | refine bin_gtr ?_ | refine bin_geq ?_ | refine add64 (by omega) (by omega) ?_ | refine sub64 (by omega) (by omega) ?_ | refine ext_a ?_ | refine ext_b ?_ | refine ext3_a ?_ | refine ext3_b ?_ | refine ext3_c ?_ | refine un_notD ?_ | refine mul64 (by omega) (by omega) ?_ | refine cvIU (by omega) (by omega) ?_ | refine cvIUint (by omega) (by omega) ?_ | refine cvUI (by omega) (by omega) ?_ | refine cvBU (by omega) (by omega) ?_ | refine len8 ?_ | refine len36 ?_ | refine pick_T ?_ | refine pick_F ?_ | refine cond_T ?_ | refine cond_F ?_ | refine cond_t (by omega) ?_ | refine cond_f (by omega) ?_ | refine gsel_T ?_ | refine gsel_F ?_ | refine gsel_Tn ?_ | refine gsel_Fn ?_ | refine gsel_U ?_ | refine gsel_pt (by omega) ?_ | refine gsel_pf (by omega) ?_ | refine gsel_nt (by omega) ?_ | refine gsel_nf (by omega) ?_ | refine pick_t (by omega) ?_ | refine pick_f (by omega) ?_ | refine sti_of (fun _ hK => bin_eql hK) ?_ | refine sti_of (fun _ hK => bin_neq hK) ?_ | refine sti_of (fun _ hK => bin_lss hK) ?_ | refine sti_of (fun _ hK => bin_leq hK) ?_ | refine sti_of (fun _ hK => bin_gtr hK) ?_ | refine sti_of (fun _ hK => bin_geq hK) ?_ | refine sti_of (fun _ hK => add64 (by omega) (by omega) hK) ?_ | refine sti_of (fun _ hK => sub64 (by omega) (by omega) hK) ?_ | refine sti_of (fun _ hK => un_notD hK) ?_ | refine sti_of (fun _ hK => len8 hK) ?_ | refine sti_of (fun _ hK => pick_T hK) ?_ | refine sti_of (fun _ hK => pick_F hK) ?_))
    exact fin w1 hd1 (Keep.refl _ _ _)


def bnd (sure : Fls) (l : List Chg) (m : Nat) : Prop := ∀ i, tot (runs (l.take i) sure) ≤ m

theorem bnd.now {sure : Fls} {l : List Chg} {m : Nat} (h : bnd sure l m) : tot (runs l sure) ≤ m := by
  have := h l.length
  rwa [List.take_of_length_le (Nat.le_refl _)] at this
theorem bnd.mono {sure : Fls} {l : List Chg} {m m' : Nat} (h : bnd sure l m) (hm : m ≤ m') : bnd sure l m' := fun i => Nat.le_trans (h i) hm
theorem bnd.nil {F : Fls} {m : Nat} (h : tot F ≤ m) : bnd F [] m := fun i => by simpa [runs] using h
theorem bnd.snoc {sure : Fls} {l : List Chg} {c : Chg} {m m' : Nat} (h : bnd sure l m) (hm : m ≤ m') (hc : tot (c.on (runs l sure)) ≤ m') : bnd sure (l ++ [c]) m' := by
  intro i
  by_cases hi : i ≤ l.length
  · rw [List.take_append_of_le_length hi]; exact Nat.le_trans (h i) hm
  · have e : (l ++ [c]).take i = l ++ [c] := List.take_of_length_le (by simp; omega)
    rw [e, runs_snoc]; exact hc

theorem tot_app (f : Bool) (b : List UInt8) (F : Fls) : tot ((Chg.app f b).on F) = tot F + b.length := by
  cases f <;> simp [Chg.on, tot, fset, fget] <;> omega
theorem tot_cut (f : Bool) (n : Nat) (F : Fls) : tot ((Chg.cut f n).on F) ≤ tot F := by
  cases f <;> simp [Chg.on, tot, fset, fget] <;> omega
theorem tot_ren (F : Fls) : tot (Chg.ren.on F) ≤ tot F := by simp [Chg.on, tot]

theorem doS_bnd {D : DS} {c : Chg} {m m' : Nat} (h : bnd D.sure D.loose m) (hm : m ≤ m') (hc : tot (c.on D.now) ≤ m') : bnd (doS D c).1.sure (doS D c).1.loose m' ∧ (doS D c).1.loose.length = D.loose.length + 1 := by
  obtain ⟨e1, e2⟩ := burn_same { D with loose := D.loose ++ [c] }
  unfold doS
  simp only [e1, e2]
  exact ⟨h.snoc hm hc, by simp⟩

theorem on_res {D : DS} {q : List Int} {m : Nat} (ho : D.off = true) (h : bnd D.sure D.loose m) : ∃ F, onS D q = (⟨F, [], false, -1⟩, 0) ∧ tot F ≤ m := by
  unfold onS
  rw [if_neg (by rw [ho]; simp)]
  generalize (pickS q 0 (D.loose.length + 1)).toNat = k
  refine ⟨_, rfl, ?_⟩
  cases hk : D.loose[k]? with
  | none => exact h k
  | some c =>
    cases c with
    | app f b =>
      show tot ((Chg.app f (b.take _)).on _) ≤ m
      have hlt := (List.getElem?_eq_some_iff.1 hk)
      have h2 := h (k + 1)
      rw [List.take_succ_eq_append_getElem hlt.1, hlt.2, runs_snoc, tot_app] at h2
      rw [tot_app, List.length_take]
      omega
    | _ => exact h k

theorem step_bnd {D : DS} {s : Stp} {m : Nat} (h : bnd D.sure D.loose m) : bnd (stepS D s).1.sure (stepS D s).1.loose (m + s.b.length) ∧ (stepS D s).1.loose.length ≤ D.loose.length + 1 := by
  have same : bnd D.sure D.loose (m + s.b.length) ∧ D.loose.length ≤ D.loose.length + 1 := ⟨h.mono (by omega), by omega⟩
  have hn := h.now
  unfold stepS
  split
  · unfold appendS
    split
    · exact same
    · split
      · exact same
      · split
        · exact same
        · obtain ⟨q1, q2⟩ := doS_bnd (c := .app (decide (s.f = 1)) s.b) (m' := m + s.b.length) h (by omega) (by rw [tot_app]; exact Nat.add_le_add_right hn _)
          exact ⟨q1, by omega⟩
  · split
    · unfold cutS
      split
      · exact same
      · split
        · exact same
        · obtain ⟨q1, q2⟩ := doS_bnd (c := .cut (decide (s.f = 1)) s.n.toNat) (m' := m + s.b.length) h (by omega) (Nat.le_trans (tot_cut _ _ _) (Nat.le_trans hn (by omega)))
          exact ⟨q1, by omega⟩
    · split
      · unfold renS
        split
        · exact same
        · obtain ⟨q1, q2⟩ := doS_bnd (c := .ren) (m' := m + s.b.length) h (by omega) (Nat.le_trans (tot_ren _) (Nat.le_trans hn (by omega)))
          exact ⟨q1, by omega⟩
      · split
        · unfold syncS
          split
          · exact same
          · obtain ⟨e1, e2⟩ := burn_same D
            split
            · show bnd (burn D).2.sure (burn D).2.loose _ ∧ _
              rw [e1, e2]; exact same
            · exact ⟨bnd.nil (Nat.le_trans hn (by omega)), by simp⟩
        · split
          · exact same
          · split
            · exact same
            · split
              · cases ho : D.off with
                | false => rw [show onS D s.picks = (D, 3) by simp [onS, ho]]; exact same
                | true =>
                  obtain ⟨F, e, hF⟩ := on_res (q := s.picks) ho h
                  rw [e]; exact ⟨bnd.nil (Nat.le_trans hF (by omega)), by simp⟩
              · exact same

def pre (F G : Fls) : Prop := F.1 <+: G.1 ∧ F.2 <+: G.2
theorem pre.refl (F : Fls) : pre F F := ⟨List.prefix_refl _, List.prefix_refl _⟩
theorem pre.trans {F G H : Fls} (h : pre F G) (k : pre G H) : pre F H := ⟨h.1.trans k.1, h.2.trans k.2⟩
theorem pre_app (f : Bool) (b b' : List UInt8) (hb : b <+: b') (F : Fls) : pre ((Chg.app f b).on F) ((Chg.app f b').on F) := by
  cases f
  · exact ⟨(List.prefix_append_right_inj _).2 hb, List.prefix_refl _⟩
  · exact ⟨List.prefix_refl _, (List.prefix_append_right_inj _).2 hb⟩
theorem pre_on (f : Bool) (b : List UInt8) (F : Fls) : pre F ((Chg.app f b).on F) := by
  cases f
  · exact ⟨List.prefix_append _ _, List.prefix_refl _⟩
  · exact ⟨List.prefix_refl _, List.prefix_append _ _⟩
theorem pre_runs : ∀ (l : List Chg) (F : Fls), (∀ c ∈ l, ∃ f b, c = .app f b) → pre F (runs l F) := by
  intro l
  induction l with
  | nil => intro F _; exact pre.refl F
  | cons c l ih =>
    intro F h
    obtain ⟨f, b, rfl⟩ := h c (List.mem_cons_self ..)
    exact (pre_on f b F).trans (ih _ fun d hd => h d (List.mem_cons_of_mem _ hd))
theorem runs_split (l : List Chg) (F : Fls) (k : Nat) : runs l F = runs (l.drop k) (runs (l.take k) F) := by
  unfold runs
  rw [← List.foldl_append, List.take_append_drop]
theorem pre_take (l : List Chg) (F : Fls) (k : Nat) (h : ∀ c ∈ l, ∃ f b, c = .app f b) : pre (runs (l.take k) F) (runs l F) := by
  rw [runs_split l F k]
  exact pre_runs _ _ fun c hc => h c (List.mem_of_mem_drop hc)

/-- Whatever is picked of appends: what was sure begins it, and it begins what was there last. -/
theorem on_pre {F : Fls} {l : List Chg} {q : List Int} (h : ∀ c ∈ l, ∃ f b, c = .app f b) : ∃ G, onS ⟨F, l, true, -1⟩ q = (⟨G, [], false, -1⟩, 0) ∧ pre F G ∧ pre G (runs l F) := by
  unfold onS
  rw [if_neg (by simp)]
  dsimp only
  generalize (pickS q 0 (l.length + 1)).toNat = k
  have h1 : pre F (runs (l.take k) F) := pre_runs _ _ fun c hc => h c (List.mem_of_mem_take hc)
  refine ⟨_, rfl, ?_⟩
  cases hk : l[k]? with
  | none => exact ⟨h1, pre_take l F k h⟩
  | some c =>
    have hlt := (List.getElem?_eq_some_iff.1 hk)
    obtain ⟨f, b, rfl⟩ := h c (by rw [← hlt.2]; exact List.getElem_mem _)
    refine ⟨h1.trans (pre_on _ _ _), ?_⟩
    refine (pre_app f _ b (List.take_prefix _ _) _).trans ?_
    have := pre_take l F (k + 1) h
    rw [List.take_succ_eq_append_getElem hlt.1, hlt.2, runs_snoc] at this
    exact this

/-- The appends of the first j strings, to both files in turn. -/
def apps (L : List (List UInt8)) (j : Nat) : List Chg := (List.range j).map fun (i : Nat) => Chg.app (decide ((i : Int) % 2 = 1)) (L.getD i [])
theorem apps_succ (L : List (List UInt8)) (j : Nat) : apps L (j + 1) = apps L j ++ [Chg.app (decide ((j : Int) % 2 = 1)) (L.getD j [])] := by simp [apps, List.range_succ]
theorem apps_all (L : List (List UInt8)) (j : Nat) : ∀ c ∈ apps L j, ∃ f b, c = .app f b := by
  intro c hc
  obtain ⟨i, _, rfl⟩ := List.mem_map.1 hc
  exact ⟨_, _, rfl⟩
theorem vast_succ (L : List (List UInt8)) (j : Nat) (h : j < L.length) : vast (L.take (j + 1)) = vast (L.take j) + (L.getD j []).length := by
  rw [List.take_succ_eq_append_getElem h, vast_app]
  simp [vast, List.getD, h]
theorem tot_apps (L : List (List UInt8)) (F : Fls) (j : Nat) (hj : j ≤ L.length) : tot (runs (apps L j) F) = tot F + vast (L.take j) := by
  induction j with
  | zero => simp [apps, runs, vast]
  | succ j ih => rw [apps_succ, runs_snoc, tot_app, ih (by omega), vast_succ L j (by omega)]; omega
theorem vast_le_take (L : List (List UInt8)) (j : Nat) : vast (L.take j) ≤ vast L := by
  have := vast_app (L.take j) (L.drop j)
  rw [List.take_append_drop] at this
  omega
end
end Go.Proofs.Ytjkmblbonambjaa
