/- The document's disk, on: Do. -/
import Derived.Test.YtjkmblbonambjaaDRef4
namespace Go.Proofs.Ytjkmblbonambjaa
set_option maxRecDepth 100000
open Go.RowKit

theorem RR.mono {w : World} {B B' : Nat} {a : Option Addr} {n c : Nat} {l : List Chg} (h : RR w B a n c l) (hB : B' ≤ B) : RR w B' a n c l := by
  obtain ⟨css, ho, c1, c2, hc⟩ := h
  refine ⟨css, ⟨ho.1, ?_⟩, c1, c2, hc⟩
  rcases ho.2 with h2 | ⟨g, cap, cur, hv, hb, r⟩
  · exact .inl h2
  · exact .inr ⟨g, cap, cur, hv, Nat.le_trans hB hb, r⟩
theorem RR.block {w : World} {B : Nat} {a : Option Addr} {n c : Nat} {l : List Chg} (h : RR w B a n c l) : ∀ k, (Value.slice a n c).ownBlock = some k → B ≤ k := by
  obtain ⟨css, ho, _⟩ := h
  rcases ho.2 with ⟨hv, _⟩ | ⟨g, cap, cur, hv, hb, _⟩
  · cases hv; intro k hk; cases hk
  · cases hv
    intro k hk
    cases hk
    exact hb
theorem own0_block {w : World} {B : Nat} {a : Option Addr} (h : w.ownsRow B 74 4 (.slice a 0 0) 0 []) : ∀ k, (Value.slice a 0 0).ownBlock = some k → B ≤ k := by
  rcases h.2 with ⟨hv, _⟩ | ⟨g, cap, cur, hv, hb, _⟩
  · cases hv; intro k hk; cases hk
  · cases hv
    intro k hk
    cases hk
    exact hb
theorem own0_below {w w' : World} {B : Nat} {a : Option Addr} (h : w.ownsRow B 74 4 (.slice a 0 0) 0 []) (hb : Below w.heap.size w w') : w'.ownsRow B 74 4 (.slice a 0 0) 0 [] :=
  ownsRow_keep h (Keep.of hb : Keep [] 0 w w') (by simp)

theorem own0_lt {w : World} {B : Nat} {a : Option Addr} (h : w.ownsRow B 74 4 (.slice a 0 0) 0 []) : ∀ k, (Value.slice a 0 0).ownBlock = some k → k < w.heap.size := by
  rcases h.2 with ⟨hv, _⟩ | ⟨g, cap, cur, hv, hb, hh, _⟩
  · cases hv; intro k hk; cases hk
  · cases hv
    intro k hk
    cases hk
    exact (Array.getElem?_eq_some_iff.1 hh).1
theorem grown_blk {w w' : World} {row : Option Nat} {p : Nat} {E : TypeId} {cs : List Value} (hg : w.grownBy w' row) (hb : blk w p E cs) (hne : row ≠ some p) : blk w' p E cs := by
  unfold blk at *
  rw [hg.block p (Array.getElem?_eq_some_iff.1 hb).1 (by first | exact hne | exact Ne.symm hne)]
  exact hb

def doR (D : DS) (k f n : Int) (b : List UInt8) : DS × Int := if k = 1 then appendS D f b else if k = 2 then cutS D f n else renS D
section
attribute [local irreducible] bin un conv call callV blt slc fldA fld idxA idx lkp mUpd mEnt eSt rng nxt ent ext alc box bld bldS ld sto nilC mkMap mkS ifc pick rdy wts gsel sti cond retM Gives cCode cGrp cSeq cOp
set_option maxHeartbeats 2000000 in
theorem rdo_c {B p : Nat} {D : DS} {w : World} {K : KV} {k f n : Int} {b : List UInt8} (hd : RK w B p D) (hk : k = 1 ∨ k = 2 ∨ k = 3) (hlen : D.loose.length < 4294967296) (hbl : b.length ≤ 9223372036850000000)
    (h : ∀ w', RK w' B p (doR D k f n b).1 → Keep DR p w w' → K (.int .i64 (doR D k f n b).2) w') :
    call Try.prog 36 #[ptr p, .agg #[.int .i64 k, .int .i64 f, .int .i64 n, sv b]] K w := by
  have hd0 := hd
  obtain ⟨la, ln, lc, hb, e1, e2, e3, hr, ho⟩ := hd
  have hln : D.loose.length = ln := by obtain ⟨_, _, _, e, _⟩ := hr; exact e
  refine call_of leatref04_Disk_Do_go (leatref04_Disk_Do_in ?_)
  refine box_of ?_
  intro w1 hc1 b1 s1
  have hc1 : blk w1 w.heap.size TRC [.int .i64 k, .int .i64 f, .int .i64 n, sv b] := hc1
  have hp1 := below_blk b1 hb hb.lt
  (repeat (first | refine nilC_p ?_ | refine fA_RDisk_2 ?_ | refine ld_RL_1 _ hp1 rfl ?_ | refine bin_eql ?_ | refine bin_neq ?_ | refine bin_lss ?_ | refine bin_leq ?_ | refine bin_gtr ?_ | refine bin_geq ?_ | refine add64 (by omega) (by omega) ?_ | refine sub64 (by omega) (by omega) ?_ | refine ext_a ?_ | refine ext_b ?_ | refine ext3_a ?_ | refine ext3_b ?_ | refine ext3_c ?_ | refine un_notD ?_ | refine mul64 (by omega) (by omega) ?_ | refine cvIU (by omega) (by omega) ?_ | refine cvIUint (by omega) (by omega) ?_ | refine cvUI (by omega) (by omega) ?_ | refine cvBU (by omega) (by omega) ?_ | refine len8 ?_ | refine len36 ?_ | refine pick_T ?_ | refine pick_F ?_ | refine cond_T ?_ | refine cond_F ?_ | refine cond_t (by omega) ?_ | refine cond_f (by omega) ?_ | refine gsel_T ?_ | refine gsel_F ?_ | refine gsel_Tn ?_ | refine gsel_Fn ?_ | refine gsel_U ?_ | refine gsel_pt (by omega) ?_ | refine gsel_pf (by omega) ?_ | refine gsel_nt (by omega) ?_ | refine gsel_nf (by omega) ?_ | refine pick_t (by omega) ?_ | refine pick_f (by omega) ?_ | refine sti_of (fun _ hK => bin_eql hK) ?_ | refine sti_of (fun _ hK => bin_neq hK) ?_ | refine sti_of (fun _ hK => bin_lss hK) ?_ | refine sti_of (fun _ hK => bin_leq hK) ?_ | refine sti_of (fun _ hK => bin_gtr hK) ?_ | refine sti_of (fun _ hK => bin_geq hK) ?_ | refine sti_of (fun _ hK => add64 (by omega) (by omega) hK) ?_ | refine sti_of (fun _ hK => sub64 (by omega) (by omega) hK) ?_ | refine sti_of (fun _ hK => un_notD hK) ?_ | refine sti_of (fun _ hK => len8 hK) ?_ | refine sti_of (fun _ hK => pick_T hK) ?_ | refine sti_of (fun _ hK => pick_F hK) ?_))
  cases hoff : D.off
  case true =>
    rw [show doR D k f n b = (D, 8) by unfold doR appendS cutS renS; simp [hoff]] at h
    (repeat (first | refine bin_eql ?_ | refine bin_neq ?_ | refine bin_lss ?_ | refine bin_leq ?_ | refine bin_gtr ?_ | refine bin_geq ?_ | refine add64 (by omega) (by omega) ?_ | refine sub64 (by omega) (by omega) ?_ | refine ext_a ?_ | refine ext_b ?_ | refine ext3_a ?_ | refine ext3_b ?_ | refine ext3_c ?_ | refine un_notD ?_ | refine mul64 (by omega) (by omega) ?_ | refine cvIU (by omega) (by omega) ?_ | refine cvIUint (by omega) (by omega) ?_ | refine cvUI (by omega) (by omega) ?_ | refine cvBU (by omega) (by omega) ?_ | refine len8 ?_ | refine len36 ?_ | refine pick_T ?_ | refine pick_F ?_ | refine cond_T ?_ | refine cond_F ?_ | refine cond_t (by omega) ?_ | refine cond_f (by omega) ?_ | refine gsel_T ?_ | refine gsel_F ?_ | refine gsel_Tn ?_ | refine gsel_Fn ?_ | refine gsel_U ?_ | refine gsel_pt (by omega) ?_ | refine gsel_pf (by omega) ?_ | refine gsel_nt (by omega) ?_ | refine gsel_nf (by omega) ?_ | refine pick_t (by omega) ?_ | refine pick_f (by omega) ?_ | refine sti_of (fun _ hK => bin_eql hK) ?_ | refine sti_of (fun _ hK => bin_neq hK) ?_ | refine sti_of (fun _ hK => bin_lss hK) ?_ | refine sti_of (fun _ hK => bin_leq hK) ?_ | refine sti_of (fun _ hK => bin_gtr hK) ?_ | refine sti_of (fun _ hK => bin_geq hK) ?_ | refine sti_of (fun _ hK => add64 (by omega) (by omega) hK) ?_ | refine sti_of (fun _ hK => sub64 (by omega) (by omega) hK) ?_ | refine sti_of (fun _ hK => un_notD hK) ?_ | refine sti_of (fun _ hK => len8 hK) ?_ | refine sti_of (fun _ hK => pick_T hK) ?_ | refine sti_of (fun _ hK => pick_F hK) ?_))
    exact h w1 (hd0.below b1) (Keep.of b1)
  (repeat (first | refine bin_eql ?_ | refine bin_neq ?_ | refine bin_lss ?_ | refine bin_leq ?_ | refine bin_gtr ?_ | refine bin_geq ?_ | refine add64 (by omega) (by omega) ?_ | refine sub64 (by omega) (by omega) ?_ | refine ext_a ?_ | refine ext_b ?_ | refine ext3_a ?_ | refine ext3_b ?_ | refine ext3_c ?_ | refine un_notD ?_ | refine mul64 (by omega) (by omega) ?_ | refine cvIU (by omega) (by omega) ?_ | refine cvIUint (by omega) (by omega) ?_ | refine cvUI (by omega) (by omega) ?_ | refine cvBU (by omega) (by omega) ?_ | refine len8 ?_ | refine len36 ?_ | refine pick_T ?_ | refine pick_F ?_ | refine cond_T ?_ | refine cond_F ?_ | refine cond_t (by omega) ?_ | refine cond_f (by omega) ?_ | refine gsel_T ?_ | refine gsel_F ?_ | refine gsel_Tn ?_ | refine gsel_Fn ?_ | refine gsel_U ?_ | refine gsel_pt (by omega) ?_ | refine gsel_pf (by omega) ?_ | refine gsel_nt (by omega) ?_ | refine gsel_nf (by omega) ?_ | refine pick_t (by omega) ?_ | refine pick_f (by omega) ?_ | refine sti_of (fun _ hK => bin_eql hK) ?_ | refine sti_of (fun _ hK => bin_neq hK) ?_ | refine sti_of (fun _ hK => bin_lss hK) ?_ | refine sti_of (fun _ hK => bin_leq hK) ?_ | refine sti_of (fun _ hK => bin_gtr hK) ?_ | refine sti_of (fun _ hK => bin_geq hK) ?_ | refine sti_of (fun _ hK => add64 (by omega) (by omega) hK) ?_ | refine sti_of (fun _ hK => sub64 (by omega) (by omega) hK) ?_ | refine sti_of (fun _ hK => un_notD hK) ?_ | refine sti_of (fun _ hK => len8 hK) ?_ | refine sti_of (fun _ hK => pick_T hK) ?_ | refine sti_of (fun _ hK => pick_F hK) ?_))
  refine now_c (hd0.below b1) ?_
  intro w2 b2
  refine alc_of (z := .agg #[.string (bstr []), .string (bstr [])]) (by kernel_rfl) ?_
  intro w3 hn3 b3 s3
  refine stoA (n := 2) (by kernel_rfl) rfl hn3 (by show 0 + 2 ≤ 2; omega) (by simp only [List.take, List.drop, List.mem_cons, List.not_mem_nil, or_false]; rintro u (rfl | rfl) <;> rfl) ?_
  intro w4 hn4 o4
  have hn4 : blk w4 w2.heap.size TRF [sv D.now.1, sv D.now.2] := hn4
  have B2 : Below w.heap.size w w2 := b1.trans (b2.mono (by omega))
  have B4 : Below w.heap.size w w4 := B2.trans ((b3.trans (o4.below.mono (Nat.le_refl _))).mono B2.size)
  have hc4 : blk w4 w.heap.size TRC [.int .i64 k, .int .i64 f, .int .i64 n, sv b] := below_blk (b2.trans ((b3.trans (o4.below.mono (Nat.le_refl _))).mono b2.size)) hc1 hc1.lt
  have hp4 := below_blk B4 hb hb.lt
  have hnd : blk w4.drew w2.heap.size TRF [sv D.now.1, sv D.now.2] := hn4
  have hcd : blk w4.drew w.heap.size TRC [.int .i64 k, .int .i64 f, .int .i64 n, sv b] := hc4
  have B4d := B4.drew
  have hd4 := hd0.below B4d
  have ht := okAll_now ho
  have ht2 : (runs D.loose D.sure).1.length + (runs D.loose D.sure).2.length ≤ 4194304 := ht
  have ht3 : D.now.1.length + D.now.2.length ≤ 4194304 := ht
  obtain ⟨cs0, hcs0⟩ : ∃ cs0, cs0 = [Value.int .i64 k, .int .i64 f, .int .i64 n, sv b] := ⟨_, rfl⟩
  rcases hk with rfl | rfl | rfl
  case' inl =>
    by_cases hf : f = 0 ∨ f = 1
    case neg =>
      rw [show doR D 1 f n b = (D, 1) by unfold doR; rw [if_pos rfl]; unfold appendS; rw [if_neg (by simp [hoff]), if_pos hf]] at h
      (repeat (first | refine sti_of (fun _ hK => fA_RChange_0 hK) ?_ | refine sti_of (fun _ hK => fA_RChange_1 hK) ?_ | refine sti_of (fun _ hK => fA_RChange_2 hK) ?_ | refine sti_of (fun _ hK => ld_RL_0 _ hcd rfl hK) ?_ | refine sti_of (fun _ hK => pick_t (by omega) hK) ?_ | refine sti_of (fun _ hK => pick_f (by omega) hK) ?_ | refine fA_RChange_0 ?_ | refine fA_RChange_3 ?_ | refine ld_RL_0 _ hcd rfl ?_ | refine ridx (f := false) ?_ | refine ridx (f := true) ?_ | refine len_str Try.underlying9 ?_ | refine bin_eql ?_ | refine bin_neq ?_ | refine bin_lss ?_ | refine bin_leq ?_ | refine bin_gtr ?_ | refine bin_geq ?_ | refine add64 (by omega) (by omega) ?_ | refine sub64 (by omega) (by omega) ?_ | refine ext_a ?_ | refine ext_b ?_ | refine ext3_a ?_ | refine ext3_b ?_ | refine ext3_c ?_ | refine un_notD ?_ | refine mul64 (by omega) (by omega) ?_ | refine cvIU (by omega) (by omega) ?_ | refine cvIUint (by omega) (by omega) ?_ | refine cvUI (by omega) (by omega) ?_ | refine cvBU (by omega) (by omega) ?_ | refine len8 ?_ | refine len36 ?_ | refine pick_T ?_ | refine pick_F ?_ | refine cond_T ?_ | refine cond_F ?_ | refine cond_t (by omega) ?_ | refine cond_f (by omega) ?_ | refine gsel_T ?_ | refine gsel_F ?_ | refine gsel_Tn ?_ | refine gsel_Fn ?_ | refine gsel_U ?_ | refine gsel_pt (by omega) ?_ | refine gsel_pf (by omega) ?_ | refine gsel_nt (by omega) ?_ | refine gsel_nf (by omega) ?_ | refine pick_t (by omega) ?_ | refine pick_f (by omega) ?_ | refine sti_of (fun _ hK => bin_eql hK) ?_ | refine sti_of (fun _ hK => bin_neq hK) ?_ | refine sti_of (fun _ hK => bin_lss hK) ?_ | refine sti_of (fun _ hK => bin_leq hK) ?_ | refine sti_of (fun _ hK => bin_gtr hK) ?_ | refine sti_of (fun _ hK => bin_geq hK) ?_ | refine sti_of (fun _ hK => add64 (by omega) (by omega) hK) ?_ | refine sti_of (fun _ hK => sub64 (by omega) (by omega) hK) ?_ | refine sti_of (fun _ hK => un_notD hK) ?_ | refine sti_of (fun _ hK => len8 hK) ?_ | refine sti_of (fun _ hK => pick_T hK) ?_ | refine sti_of (fun _ hK => pick_F hK) ?_))
      exact h w4.drew hd4 (Keep.of B4d)
    by_cases hfull : 4194304 < tot D.now + b.length
    case pos =>
      rw [show doR D 1 f n b = (D, 7) by unfold doR; rw [if_pos rfl]; unfold appendS; rw [if_neg (by simp [hoff]), if_neg (by simp [hf]), if_pos hfull]] at h
      simp only [tot] at hfull
      rcases hf with rfl | rfl
      all_goals
        (repeat (first | refine sti_of (fun _ hK => fA_RChange_0 hK) ?_ | refine sti_of (fun _ hK => fA_RChange_1 hK) ?_ | refine sti_of (fun _ hK => fA_RChange_2 hK) ?_ | refine sti_of (fun _ hK => ld_RL_0 _ hcd rfl hK) ?_ | refine sti_of (fun _ hK => pick_t (by omega) hK) ?_ | refine sti_of (fun _ hK => pick_f (by omega) hK) ?_ | refine fA_RChange_0 ?_ | refine fA_RChange_3 ?_ | refine ld_RL_0 _ hcd rfl ?_ | refine ridx (f := false) ?_ | refine ridx (f := true) ?_ | refine len_str Try.underlying9 ?_ | refine ld_RL_2 (sv D.now.1) hnd rfl ?_ | refine ld_RL_2 (sv D.now.2) hnd rfl ?_ | refine ld_RL_2 (sv b) hcd rfl ?_ | refine bin_eql ?_ | refine bin_neq ?_ | refine bin_lss ?_ | refine bin_leq ?_ | refine bin_gtr ?_ | refine bin_geq ?_ | refine add64 (by omega) (by omega) ?_ | refine sub64 (by omega) (by omega) ?_ | refine ext_a ?_ | refine ext_b ?_ | refine ext3_a ?_ | refine ext3_b ?_ | refine ext3_c ?_ | refine un_notD ?_ | refine mul64 (by omega) (by omega) ?_ | refine cvIU (by omega) (by omega) ?_ | refine cvIUint (by omega) (by omega) ?_ | refine cvUI (by omega) (by omega) ?_ | refine cvBU (by omega) (by omega) ?_ | refine len8 ?_ | refine len36 ?_ | refine pick_T ?_ | refine pick_F ?_ | refine cond_T ?_ | refine cond_F ?_ | refine cond_t (by omega) ?_ | refine cond_f (by omega) ?_ | refine gsel_T ?_ | refine gsel_F ?_ | refine gsel_Tn ?_ | refine gsel_Fn ?_ | refine gsel_U ?_ | refine gsel_pt (by omega) ?_ | refine gsel_pf (by omega) ?_ | refine gsel_nt (by omega) ?_ | refine gsel_nf (by omega) ?_ | refine pick_t (by omega) ?_ | refine pick_f (by omega) ?_ | refine sti_of (fun _ hK => bin_eql hK) ?_ | refine sti_of (fun _ hK => bin_neq hK) ?_ | refine sti_of (fun _ hK => bin_lss hK) ?_ | refine sti_of (fun _ hK => bin_leq hK) ?_ | refine sti_of (fun _ hK => bin_gtr hK) ?_ | refine sti_of (fun _ hK => bin_geq hK) ?_ | refine sti_of (fun _ hK => add64 (by omega) (by omega) hK) ?_ | refine sti_of (fun _ hK => sub64 (by omega) (by omega) hK) ?_ | refine sti_of (fun _ hK => un_notD hK) ?_ | refine sti_of (fun _ hK => len8 hK) ?_ | refine sti_of (fun _ hK => pick_T hK) ?_ | refine sti_of (fun _ hK => pick_F hK) ?_))
        exact h w4.drew hd4 (Keep.of B4d)
    obtain ⟨ch, hC, hok, hdo⟩ : ∃ ch, RC ch [.int .i64 1, .int .i64 f, .int .i64 n, sv b] ∧ ch.ok D.now ∧ doR D 1 f n b = doS D ch :=
      ⟨.app (decide (f = 1)) b, ⟨n, by rcases hf with rfl | rfl <;> rfl⟩, (show tot D.now + b.length ≤ 4194304 by omega), by
        unfold doR; rw [if_pos rfl]; unfold appendS; rw [if_neg (by simp [hoff]), if_neg (by simp [hf]), if_neg hfull]⟩
    simp only [tot] at hfull
    rcases hf with rfl | rfl
    all_goals
      (repeat (first | refine sti_of (fun _ hK => fA_RChange_0 hK) ?_ | refine sti_of (fun _ hK => fA_RChange_1 hK) ?_ | refine sti_of (fun _ hK => fA_RChange_2 hK) ?_ | refine sti_of (fun _ hK => ld_RL_0 _ hcd rfl hK) ?_ | refine sti_of (fun _ hK => pick_t (by omega) hK) ?_ | refine sti_of (fun _ hK => pick_f (by omega) hK) ?_ | refine fA_RChange_0 ?_ | refine fA_RChange_3 ?_ | refine ld_RL_0 _ hcd rfl ?_ | refine ridx (f := false) ?_ | refine ridx (f := true) ?_ | refine len_str Try.underlying9 ?_ | refine ld_RL_2 (sv D.now.1) hnd rfl ?_ | refine ld_RL_2 (sv D.now.2) hnd rfl ?_ | refine ld_RL_2 (sv b) hcd rfl ?_ | refine bin_eql ?_ | refine bin_neq ?_ | refine bin_lss ?_ | refine bin_leq ?_ | refine bin_gtr ?_ | refine bin_geq ?_ | refine add64 (by omega) (by omega) ?_ | refine sub64 (by omega) (by omega) ?_ | refine ext_a ?_ | refine ext_b ?_ | refine ext3_a ?_ | refine ext3_b ?_ | refine ext3_c ?_ | refine un_notD ?_ | refine mul64 (by omega) (by omega) ?_ | refine cvIU (by omega) (by omega) ?_ | refine cvIUint (by omega) (by omega) ?_ | refine cvUI (by omega) (by omega) ?_ | refine cvBU (by omega) (by omega) ?_ | refine len8 ?_ | refine len36 ?_ | refine pick_T ?_ | refine pick_F ?_ | refine cond_T ?_ | refine cond_F ?_ | refine cond_t (by omega) ?_ | refine cond_f (by omega) ?_ | refine gsel_T ?_ | refine gsel_F ?_ | refine gsel_Tn ?_ | refine gsel_Fn ?_ | refine gsel_U ?_ | refine gsel_pt (by omega) ?_ | refine gsel_pf (by omega) ?_ | refine gsel_nt (by omega) ?_ | refine gsel_nf (by omega) ?_ | refine pick_t (by omega) ?_ | refine pick_f (by omega) ?_ | refine sti_of (fun _ hK => bin_eql hK) ?_ | refine sti_of (fun _ hK => bin_neq hK) ?_ | refine sti_of (fun _ hK => bin_lss hK) ?_ | refine sti_of (fun _ hK => bin_leq hK) ?_ | refine sti_of (fun _ hK => bin_gtr hK) ?_ | refine sti_of (fun _ hK => bin_geq hK) ?_ | refine sti_of (fun _ hK => add64 (by omega) (by omega) hK) ?_ | refine sti_of (fun _ hK => sub64 (by omega) (by omega) hK) ?_ | refine sti_of (fun _ hK => un_notD hK) ?_ | refine sti_of (fun _ hK => len8 hK) ?_ | refine sti_of (fun _ hK => pick_T hK) ?_ | refine sti_of (fun _ hK => pick_F hK) ?_))
  case' inr.inl =>
    by_cases hf : f = 0 ∨ f = 1
    case neg =>
      rw [show doR D 2 f n b = (D, 1) by unfold doR; rw [if_neg (by decide), if_pos rfl]; unfold cutS; rw [if_neg (by simp [hoff]), if_pos (.inl hf)]] at h
      (repeat (first | refine sti_of (fun _ hK => fA_RChange_0 hK) ?_ | refine sti_of (fun _ hK => fA_RChange_1 hK) ?_ | refine sti_of (fun _ hK => fA_RChange_2 hK) ?_ | refine sti_of (fun _ hK => ld_RL_0 _ hcd rfl hK) ?_ | refine sti_of (fun _ hK => pick_t (by omega) hK) ?_ | refine sti_of (fun _ hK => pick_f (by omega) hK) ?_ | refine fA_RChange_0 ?_ | refine fA_RChange_3 ?_ | refine ld_RL_0 _ hcd rfl ?_ | refine ridx (f := false) ?_ | refine ridx (f := true) ?_ | refine len_str Try.underlying9 ?_ | refine ld_RL_2 (sv D.now.1) hnd rfl ?_ | refine ld_RL_2 (sv D.now.2) hnd rfl ?_ | refine ld_RL_2 (sv b) hcd rfl ?_ | refine bin_eql ?_ | refine bin_neq ?_ | refine bin_lss ?_ | refine bin_leq ?_ | refine bin_gtr ?_ | refine bin_geq ?_ | refine add64 (by omega) (by omega) ?_ | refine sub64 (by omega) (by omega) ?_ | refine ext_a ?_ | refine ext_b ?_ | refine ext3_a ?_ | refine ext3_b ?_ | refine ext3_c ?_ | refine un_notD ?_ | refine mul64 (by omega) (by omega) ?_ | refine cvIU (by omega) (by omega) ?_ | refine cvIUint (by omega) (by omega) ?_ | refine cvUI (by omega) (by omega) ?_ | refine cvBU (by omega) (by omega) ?_ | refine len8 ?_ | refine len36 ?_ | refine pick_T ?_ | refine pick_F ?_ | refine cond_T ?_ | refine cond_F ?_ | refine cond_t (by omega) ?_ | refine cond_f (by omega) ?_ | refine gsel_T ?_ | refine gsel_F ?_ | refine gsel_Tn ?_ | refine gsel_Fn ?_ | refine gsel_U ?_ | refine gsel_pt (by omega) ?_ | refine gsel_pf (by omega) ?_ | refine gsel_nt (by omega) ?_ | refine gsel_nf (by omega) ?_ | refine pick_t (by omega) ?_ | refine pick_f (by omega) ?_ | refine sti_of (fun _ hK => bin_eql hK) ?_ | refine sti_of (fun _ hK => bin_neq hK) ?_ | refine sti_of (fun _ hK => bin_lss hK) ?_ | refine sti_of (fun _ hK => bin_leq hK) ?_ | refine sti_of (fun _ hK => bin_gtr hK) ?_ | refine sti_of (fun _ hK => bin_geq hK) ?_ | refine sti_of (fun _ hK => add64 (by omega) (by omega) hK) ?_ | refine sti_of (fun _ hK => sub64 (by omega) (by omega) hK) ?_ | refine sti_of (fun _ hK => un_notD hK) ?_ | refine sti_of (fun _ hK => len8 hK) ?_ | refine sti_of (fun _ hK => pick_T hK) ?_ | refine sti_of (fun _ hK => pick_F hK) ?_))
      exact h w4.drew hd4 (Keep.of B4d)
    by_cases hn : n < 0 ∨ ((fget D.now (decide (f = 1))).length : Int) < n
    case pos =>
      rw [show doR D 2 f n b = (D, 1) by unfold doR; rw [if_neg (by decide), if_pos rfl]; unfold cutS; rw [if_neg (by simp [hoff]), if_pos (.inr hn)]] at h
      rcases hf with rfl | rfl
      all_goals
        simp only [fget, Int.reduceEq, decide_false, decide_true, Bool.false_eq_true, if_false, if_true] at hn
        by_cases hn0 : n < 0
        case pos =>
          (repeat (first | refine sti_of (fun _ hK => fA_RChange_0 hK) ?_ | refine sti_of (fun _ hK => fA_RChange_1 hK) ?_ | refine sti_of (fun _ hK => fA_RChange_2 hK) ?_ | refine sti_of (fun _ hK => ld_RL_0 _ hcd rfl hK) ?_ | refine sti_of (fun _ hK => pick_t (by omega) hK) ?_ | refine sti_of (fun _ hK => pick_f (by omega) hK) ?_ | refine fA_RChange_0 ?_ | refine fA_RChange_3 ?_ | refine ld_RL_0 _ hcd rfl ?_ | refine ridx (f := false) ?_ | refine ridx (f := true) ?_ | refine sti_of (fun _ hK => ridx (f := false) hK) ?_ | refine sti_of (fun _ hK => ridx (f := true) hK) ?_ | refine sti_of (fun _ hK => ld_RL_2 (sv D.now.1) hnd rfl hK) ?_ | refine sti_of (fun _ hK => ld_RL_2 (sv D.now.2) hnd rfl hK) ?_ | refine sti_of (fun _ hK => len_str Try.underlying9 hK) ?_ | refine len_str Try.underlying9 ?_ | refine ld_RL_2 (sv D.now.1) hnd rfl ?_ | refine ld_RL_2 (sv D.now.2) hnd rfl ?_ | refine ld_RL_2 (sv b) hcd rfl ?_ | refine bin_eql ?_ | refine bin_neq ?_ | refine bin_lss ?_ | refine bin_leq ?_ | refine bin_gtr ?_ | refine bin_geq ?_ | refine add64 (by omega) (by omega) ?_ | refine sub64 (by omega) (by omega) ?_ | refine ext_a ?_ | refine ext_b ?_ | refine ext3_a ?_ | refine ext3_b ?_ | refine ext3_c ?_ | refine un_notD ?_ | refine mul64 (by omega) (by omega) ?_ | refine cvIU (by omega) (by omega) ?_ | refine cvIUint (by omega) (by omega) ?_ | refine cvUI (by omega) (by omega) ?_ | refine cvBU (by omega) (by omega) ?_ | refine len8 ?_ | refine len36 ?_ | refine pick_T ?_ | refine pick_F ?_ | refine cond_T ?_ | refine cond_F ?_ | refine cond_t (by omega) ?_ | refine cond_f (by omega) ?_ | refine gsel_T ?_ | refine gsel_F ?_ | refine gsel_Tn ?_ | refine gsel_Fn ?_ | refine gsel_U ?_ | refine gsel_pt (by omega) ?_ | refine gsel_pf (by omega) ?_ | refine gsel_nt (by omega) ?_ | refine gsel_nf (by omega) ?_ | refine pick_t (by omega) ?_ | refine pick_f (by omega) ?_ | refine sti_of (fun _ hK => bin_eql hK) ?_ | refine sti_of (fun _ hK => bin_neq hK) ?_ | refine sti_of (fun _ hK => bin_lss hK) ?_ | refine sti_of (fun _ hK => bin_leq hK) ?_ | refine sti_of (fun _ hK => bin_gtr hK) ?_ | refine sti_of (fun _ hK => bin_geq hK) ?_ | refine sti_of (fun _ hK => add64 (by omega) (by omega) hK) ?_ | refine sti_of (fun _ hK => sub64 (by omega) (by omega) hK) ?_ | refine sti_of (fun _ hK => un_notD hK) ?_ | refine sti_of (fun _ hK => len8 hK) ?_ | refine sti_of (fun _ hK => pick_T hK) ?_ | refine sti_of (fun _ hK => pick_F hK) ?_))
          exact h w4.drew hd4 (Keep.of B4d)
        have hn := hn.resolve_left hn0
        (repeat (first | refine sti_of (fun _ hK => fA_RChange_0 hK) ?_ | refine sti_of (fun _ hK => fA_RChange_1 hK) ?_ | refine sti_of (fun _ hK => fA_RChange_2 hK) ?_ | refine sti_of (fun _ hK => ld_RL_0 _ hcd rfl hK) ?_ | refine sti_of (fun _ hK => pick_t (by omega) hK) ?_ | refine sti_of (fun _ hK => pick_f (by omega) hK) ?_ | refine fA_RChange_0 ?_ | refine fA_RChange_3 ?_ | refine ld_RL_0 _ hcd rfl ?_ | refine ridx (f := false) ?_ | refine ridx (f := true) ?_ | refine sti_of (fun _ hK => ridx (f := false) hK) ?_ | refine sti_of (fun _ hK => ridx (f := true) hK) ?_ | refine sti_of (fun _ hK => ld_RL_2 (sv D.now.1) hnd rfl hK) ?_ | refine sti_of (fun _ hK => ld_RL_2 (sv D.now.2) hnd rfl hK) ?_ | refine sti_of (fun _ hK => len_str Try.underlying9 hK) ?_ | refine len_str Try.underlying9 ?_ | refine ld_RL_2 (sv D.now.1) hnd rfl ?_ | refine ld_RL_2 (sv D.now.2) hnd rfl ?_ | refine ld_RL_2 (sv b) hcd rfl ?_ | refine bin_eql ?_ | refine bin_neq ?_ | refine bin_lss ?_ | refine bin_leq ?_ | refine bin_gtr ?_ | refine bin_geq ?_ | refine add64 (by omega) (by omega) ?_ | refine sub64 (by omega) (by omega) ?_ | refine ext_a ?_ | refine ext_b ?_ | refine ext3_a ?_ | refine ext3_b ?_ | refine ext3_c ?_ | refine un_notD ?_ | refine mul64 (by omega) (by omega) ?_ | refine cvIU (by omega) (by omega) ?_ | refine cvIUint (by omega) (by omega) ?_ | refine cvUI (by omega) (by omega) ?_ | refine cvBU (by omega) (by omega) ?_ | refine len8 ?_ | refine len36 ?_ | refine pick_T ?_ | refine pick_F ?_ | refine cond_T ?_ | refine cond_F ?_ | refine cond_t (by omega) ?_ | refine cond_f (by omega) ?_ | refine gsel_T ?_ | refine gsel_F ?_ | refine gsel_Tn ?_ | refine gsel_Fn ?_ | refine gsel_U ?_ | refine gsel_pt (by omega) ?_ | refine gsel_pf (by omega) ?_ | refine gsel_nt (by omega) ?_ | refine gsel_nf (by omega) ?_ | refine pick_t (by omega) ?_ | refine pick_f (by omega) ?_ | refine sti_of (fun _ hK => bin_eql hK) ?_ | refine sti_of (fun _ hK => bin_neq hK) ?_ | refine sti_of (fun _ hK => bin_lss hK) ?_ | refine sti_of (fun _ hK => bin_leq hK) ?_ | refine sti_of (fun _ hK => bin_gtr hK) ?_ | refine sti_of (fun _ hK => bin_geq hK) ?_ | refine sti_of (fun _ hK => add64 (by omega) (by omega) hK) ?_ | refine sti_of (fun _ hK => sub64 (by omega) (by omega) hK) ?_ | refine sti_of (fun _ hK => un_notD hK) ?_ | refine sti_of (fun _ hK => len8 hK) ?_ | refine sti_of (fun _ hK => pick_T hK) ?_ | refine sti_of (fun _ hK => pick_F hK) ?_))
        exact h w4.drew hd4 (Keep.of B4d)
    obtain ⟨ch, hC, hok, hdo⟩ : ∃ ch, RC ch [.int .i64 2, .int .i64 f, .int .i64 n, sv b] ∧ ch.ok D.now ∧ doR D 2 f n b = doS D ch :=
      ⟨.cut (decide (f = 1)) n.toNat, ⟨b, by rw [Int.toNat_of_nonneg (by omega)]; rcases hf with rfl | rfl <;> rfl⟩, (show n.toNat ≤ (fget D.now (decide (f = 1))).length by omega), by
        unfold doR; rw [if_neg (by decide), if_pos rfl]; unfold cutS; rw [if_neg (by simp [hoff]), if_neg (by rintro (h1 | h1); exact h1 hf; exact hn h1)]⟩
    rcases hf with rfl | rfl
    all_goals
      simp only [fget, Int.reduceEq, decide_false, decide_true, Bool.false_eq_true, if_false, if_true] at hn
      (repeat (first | refine sti_of (fun _ hK => fA_RChange_0 hK) ?_ | refine sti_of (fun _ hK => fA_RChange_1 hK) ?_ | refine sti_of (fun _ hK => fA_RChange_2 hK) ?_ | refine sti_of (fun _ hK => ld_RL_0 _ hcd rfl hK) ?_ | refine sti_of (fun _ hK => pick_t (by omega) hK) ?_ | refine sti_of (fun _ hK => pick_f (by omega) hK) ?_ | refine fA_RChange_0 ?_ | refine fA_RChange_3 ?_ | refine ld_RL_0 _ hcd rfl ?_ | refine ridx (f := false) ?_ | refine ridx (f := true) ?_ | refine sti_of (fun _ hK => ridx (f := false) hK) ?_ | refine sti_of (fun _ hK => ridx (f := true) hK) ?_ | refine sti_of (fun _ hK => ld_RL_2 (sv D.now.1) hnd rfl hK) ?_ | refine sti_of (fun _ hK => ld_RL_2 (sv D.now.2) hnd rfl hK) ?_ | refine sti_of (fun _ hK => len_str Try.underlying9 hK) ?_ | refine len_str Try.underlying9 ?_ | refine ld_RL_2 (sv D.now.1) hnd rfl ?_ | refine ld_RL_2 (sv D.now.2) hnd rfl ?_ | refine ld_RL_2 (sv b) hcd rfl ?_ | refine bin_eql ?_ | refine bin_neq ?_ | refine bin_lss ?_ | refine bin_leq ?_ | refine bin_gtr ?_ | refine bin_geq ?_ | refine add64 (by omega) (by omega) ?_ | refine sub64 (by omega) (by omega) ?_ | refine ext_a ?_ | refine ext_b ?_ | refine ext3_a ?_ | refine ext3_b ?_ | refine ext3_c ?_ | refine un_notD ?_ | refine mul64 (by omega) (by omega) ?_ | refine cvIU (by omega) (by omega) ?_ | refine cvIUint (by omega) (by omega) ?_ | refine cvUI (by omega) (by omega) ?_ | refine cvBU (by omega) (by omega) ?_ | refine len8 ?_ | refine len36 ?_ | refine pick_T ?_ | refine pick_F ?_ | refine cond_T ?_ | refine cond_F ?_ | refine cond_t (by omega) ?_ | refine cond_f (by omega) ?_ | refine gsel_T ?_ | refine gsel_F ?_ | refine gsel_Tn ?_ | refine gsel_Fn ?_ | refine gsel_U ?_ | refine gsel_pt (by omega) ?_ | refine gsel_pf (by omega) ?_ | refine gsel_nt (by omega) ?_ | refine gsel_nf (by omega) ?_ | refine pick_t (by omega) ?_ | refine pick_f (by omega) ?_ | refine sti_of (fun _ hK => bin_eql hK) ?_ | refine sti_of (fun _ hK => bin_neq hK) ?_ | refine sti_of (fun _ hK => bin_lss hK) ?_ | refine sti_of (fun _ hK => bin_leq hK) ?_ | refine sti_of (fun _ hK => bin_gtr hK) ?_ | refine sti_of (fun _ hK => bin_geq hK) ?_ | refine sti_of (fun _ hK => add64 (by omega) (by omega) hK) ?_ | refine sti_of (fun _ hK => sub64 (by omega) (by omega) hK) ?_ | refine sti_of (fun _ hK => un_notD hK) ?_ | refine sti_of (fun _ hK => len8 hK) ?_ | refine sti_of (fun _ hK => pick_T hK) ?_ | refine sti_of (fun _ hK => pick_F hK) ?_))
  case' inr.inr =>
    obtain ⟨ch, hC, hok, hdo⟩ : ∃ ch, RC ch [.int .i64 3, .int .i64 f, .int .i64 n, sv b] ∧ ch.ok D.now ∧ doR D 3 f n b = doS D ch :=
      ⟨.ren, ⟨f, n, b, rfl⟩, trivial, by unfold doR; rw [if_neg (by decide), if_neg (by decide)]; unfold renS; rw [if_neg (by simp [hoff])]⟩
    (repeat (first | refine sti_of (fun _ hK => fA_RChange_0 hK) ?_ | refine sti_of (fun _ hK => fA_RChange_1 hK) ?_ | refine sti_of (fun _ hK => fA_RChange_2 hK) ?_ | refine sti_of (fun _ hK => ld_RL_0 _ hcd rfl hK) ?_ | refine sti_of (fun _ hK => pick_t (by omega) hK) ?_ | refine sti_of (fun _ hK => pick_f (by omega) hK) ?_ | refine fA_RChange_0 ?_ | refine fA_RChange_3 ?_ | refine ld_RL_0 _ hcd rfl ?_ | refine ridx (f := false) ?_ | refine ridx (f := true) ?_ | refine len_str Try.underlying9 ?_ | refine ld_RL_2 (sv D.now.1) hnd rfl ?_ | refine ld_RL_2 (sv D.now.2) hnd rfl ?_ | refine ld_RL_2 (sv b) hcd rfl ?_ | refine bin_eql ?_ | refine bin_neq ?_ | refine bin_lss ?_ | refine bin_leq ?_ | refine bin_gtr ?_ | refine bin_geq ?_ | refine add64 (by omega) (by omega) ?_ | refine sub64 (by omega) (by omega) ?_ | refine ext_a ?_ | refine ext_b ?_ | refine ext3_a ?_ | refine ext3_b ?_ | refine ext3_c ?_ | refine un_notD ?_ | refine mul64 (by omega) (by omega) ?_ | refine cvIU (by omega) (by omega) ?_ | refine cvIUint (by omega) (by omega) ?_ | refine cvUI (by omega) (by omega) ?_ | refine cvBU (by omega) (by omega) ?_ | refine len8 ?_ | refine len36 ?_ | refine pick_T ?_ | refine pick_F ?_ | refine cond_T ?_ | refine cond_F ?_ | refine cond_t (by omega) ?_ | refine cond_f (by omega) ?_ | refine gsel_T ?_ | refine gsel_F ?_ | refine gsel_Tn ?_ | refine gsel_Fn ?_ | refine gsel_U ?_ | refine gsel_pt (by omega) ?_ | refine gsel_pf (by omega) ?_ | refine gsel_nt (by omega) ?_ | refine gsel_nf (by omega) ?_ | refine pick_t (by omega) ?_ | refine pick_f (by omega) ?_ | refine sti_of (fun _ hK => bin_eql hK) ?_ | refine sti_of (fun _ hK => bin_neq hK) ?_ | refine sti_of (fun _ hK => bin_lss hK) ?_ | refine sti_of (fun _ hK => bin_leq hK) ?_ | refine sti_of (fun _ hK => bin_gtr hK) ?_ | refine sti_of (fun _ hK => bin_geq hK) ?_ | refine sti_of (fun _ hK => add64 (by omega) (by omega) hK) ?_ | refine sti_of (fun _ hK => sub64 (by omega) (by omega) hK) ?_ | refine sti_of (fun _ hK => un_notD hK) ?_ | refine sti_of (fun _ hK => len8 hK) ?_ | refine sti_of (fun _ hK => pick_T hK) ?_ | refine sti_of (fun _ hK => pick_F hK) ?_))
  all_goals
    rw [hdo] at h
    have hp5 : blk w4.drew.drew p TRD [sv D.sure.1, sv D.sure.2, .slice la ln lc, .bool D.off, .int .i64 D.fuse] := hp4
    have hc5 : blk w4.drew.drew w.heap.size TRC cs0 := by rw [hcs0]; exact hc4
    have hC : RC ch cs0 := by rw [hcs0]; exact hC
    have B5 := B4d.drew
    have hr5 : RR w4.drew.drew B la ln lc D.loose := hr.keep (Keep.of B5 : Keep [] 0 w _) (by simp)
    have hpw := hb.lt
    have hpN : B ≤ w4.drew.drew.heap.size := by have := B5.size; omega
    have fin : ∀ (w5 : World) (a5 : Option Addr) (c5 : Nat), Below w4.drew.drew.heap.size w4.drew.drew w5 → RR w5 w4.drew.drew.heap.size a5 (ln + 1) c5 (D.loose ++ [ch]) →
        sto Try.prog TRS (.pointer (some ⟨p, 0 + 2, none⟩)) (.slice a5 (ln + 1) c5) (fun _t w => call Try.prog 61 #[ptr p] (fun t75 w => cond t75 (K (.int .i64 8) w) (K (.int .i64 0) w)) w) w5 := by
      intro w5 a5 c5 bb rr
      have hp6 := below_blk bb hp5 hp5.lt
      refine sto1 (fun _ => by kernel_rfl) hp6 (by show 0 + 2 < 5; omega) rfl ?_
      intro w6 hp7 o6
      have hd6 : RK w6 B p { D with loose := D.loose ++ [ch] } := ⟨a5, ln + 1, c5, hp7, e1, e2, e3, (rr.mono hpN).oth o6 hp6, okAll_snoc ho hok⟩
      refine rburns_c hd6 ?_
      intro w7 hd7 k7
      have kk : Keep DR p w w7 := (Keep.of (B5.trans (bb.mono B5.size)) : Keep DR p w w5).trans ((o6.keep hp6 (by simp [DR]) (Nat.le_refl _)).trans k7)
      have h := h w7 hd7 kk
      unfold doS at h
      cases hbn : (burn { D with loose := D.loose ++ [ch] }).1
      · rw [hbn] at h
        exact cond_F h
      · rw [hbn] at h
        exact cond_T h
    generalize w4.drew.drew = w0 at *
    refine hReg_of (fun x => blk x p TRD [sv D.sure.1, sv D.sure.2, .slice la ln lc, .bool D.off, .int .i64 D.fuse] ∧ blk x w.heap.size TRC cs0) ⟨hp5, hc5⟩ ?_
    have hS : ∀ x, Below w0.heap.size w0 x → blk x p TRD [sv D.sure.1, sv D.sure.2, .slice la ln lc, .bool D.off, .int .i64 D.fuse] ∧ blk x w.heap.size TRC cs0 := fun x hx => ⟨below_blk hx hp5 hp5.lt, below_blk hx hc5 hc5.lt⟩
    refine hld_of (fun w hw K hK => nilC_p hK) ?_
    refine hld_of (fun w hw K hK => fA_RDisk_1 hK) ?_
    refine hld_of (fun w hw K hK => ld_RL_3 _ hw.1 rfl hK) ?_
    refine hld_of (fun w hw K hK => ldA (n := 4) (vs := cs0) Try.underlying74 rfl (by kernel_rfl) hw.2 (by rw [hcs0]; rfl) (by rw [hcs0]; rfl) hK) ?_
    refine ⟨?_, ?_⟩
    · refine rbld0 w0.heap.size (Nat.le_refl _) ?_
      intro a6 w6 o6 b6
      refine hSub_same (hS w6 b6) ?_
      refine ⟨?_, ?_⟩
      · refine rcopy o6 (hr5.keep (Keep.of b6 : Keep [] 0 w0 w6) (by simp)) (by omega) b6.size ?_
        intro a7 c7 w7 r7 g7
        have b7 := b6.trans (below_of_grown g7 b6.size (own0_block o6))
        refine hSub_same (hS w7 b7) ?_
        refine rbld1 hC ?_
        intro w8 h8 b8 s8
        have b8' := b7.trans (b8.mono b7.size)
        refine hSub_same (hS w8 b8') ?_
        refine rmore (r7.keep (Keep.of b8 : Keep [] 0 w7 w8) (by simp)) h8 hC (by omega) b8'.size ?_
        intro a9 c9 w9 r9 g9
        have b9 := b8'.trans (below_of_grown g9 b8'.size (RR.block r7))
        refine hSub_same (hS _ b9) ?_
        refine hld_of (fun w hw K hK => nilC_p hK) ?_
        refine hld_of (fun w hw K hK => fA_RDisk_1 hK) ?_
        exact fin _ _ _ b9 r9
      · refine rbld1 hC ?_
        intro w7 h7 b7 s7
        have b7' := b6.trans (b7.mono b6.size)
        refine hSub_same (hS w7 b7') ?_
        refine rcopy (own0_below o6 b7) (hr5.keep (Keep.of b7' : Keep [] 0 w0 w7) (by simp)) (by omega) b7'.size ?_
        intro a8 c8 w8 r8 g8
        have b8 := b7'.trans (below_of_grown g8 b7'.size (own0_block o6))
        refine hSub_same (hS w8 b8) ?_
        have h8 : blk w8 w6.heap.size TRC cs0 := grown_blk g8 h7 (fun hh => Nat.lt_irrefl _ (own0_lt o6 _ hh))
        refine rmore r8 h8 hC (by omega) b8.size ?_
        intro a9 c9 w9 r9 g9
        have b9 := b8.trans (below_of_grown g9 b8.size (RR.block r8))
        refine hSub_same (hS _ b9) ?_
        refine hld_of (fun w hw K hK => nilC_p hK) ?_
        refine hld_of (fun w hw K hK => fA_RDisk_1 hK) ?_
        exact fin _ _ _ b9 r9
    · refine rbld1 hC ?_
      intro w6 h6 b6 s6
      refine hSub_same (hS w6 b6) ?_
      refine rbld0 w6.heap.size (Nat.le_refl _) ?_
      intro a7 w7 o7 b7
      have b7' := b6.trans (b7.mono b6.size)
      have h7 := below_blk b7 h6 h6.lt
      refine hSub_same (hS w7 b7') ?_
      refine rcopy o7 (hr5.keep (Keep.of b7' : Keep [] 0 w0 w7) (by simp)) (by omega) b7.size ?_
      intro a8 c8 w8 r8 g8
      have b8l := b7.trans (below_of_grown g8 b7.size (own0_block o7))
      have b8 := b6.trans (b8l.mono b6.size)
      have h8 := below_blk b8l h6 h6.lt
      refine hSub_same (hS w8 b8) ?_
      refine rmore r8 h8 hC (by omega) b8l.size ?_
      intro a9 c9 w9 r9 g9
      have b9l := b8l.trans (below_of_grown g9 b8l.size (RR.block r8))
      have b9 := b6.trans (b9l.mono b6.size)
      have r9 := r9.mono b6.size
      refine hSub_same (hS _ b9) ?_
      refine hld_of (fun w hw K hK => nilC_p hK) ?_
      refine hld_of (fun w hw K hK => fA_RDisk_1 hK) ?_
      exact fin _ _ _ b9 r9
end
end Go.Proofs.Ytjkmblbonambjaa
