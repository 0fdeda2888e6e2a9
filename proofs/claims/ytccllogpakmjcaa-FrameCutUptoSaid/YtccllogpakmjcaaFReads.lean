/- The statement of FrameReads: all records of any bytes, one by one and together, and where they end: whatever the input, true, and the input reads as it did. -/
import Derived.Test.YtccllogpakmjcaaSFrameReads
import Derived.Test.YtccllogpakmjcaaFBack
namespace Go.Proofs.Ytccllogpakmjcaa
open Go.ChangeShapes Go.WideShapes Go.ChangeAt Go.RowKit
section
attribute [local irreducible] bin un conv call callV blt slc fldA fld idxA idx lkp mUpd mEnt eSt rng nxt ent ext alc box bld bldS ld sto nilC mkMap mkS ifc pick rdy wts gsel sti cond retM Gives cCode cGrp cSeq cOp

theorem OB.oth {w w' : World} {g B : Nat} {a : Option Addr} {n c : Nat} {l : List UInt8} (h : OB w B a n c l) (ho : Oth g w w') (hg : g < B) : OB w' B a n c l := by
  refine ⟨h.1, ?_⟩
  rcases h.2 with h2 | ⟨k, cap, cur, hv, hb, hh, r⟩
  · exact .inl h2
  · exact .inr ⟨k, cap, cur, hv, hb, (ho.other k (by omega)).trans hh, r⟩
theorem OBB.oth {w w' : World} {g B : Nat} {a : Option Addr} {n c : Nat} {vs : List (Option Addr × Nat × Nat)} {L : List (List UInt8)} (h : OBB w B a n c vs L) (ho : Oth g w w') (hg : g < B) : OBB w' B a n c vs L := by
  refine ⟨⟨h.row.1, ?_⟩, h.len, fun i v l hv hl => (h.each i v l hv hl).oth ho hg⟩
  rcases h.row.2 with h2 | ⟨k, cap, cur, hv, hb, hh, r⟩
  · exact .inl h2
  · exact .inr ⟨k, cap, cur, hv, hb, (ho.other k (by omega)).trans hh, r⟩
theorem FR.oth {w w' : World} {g B p q : Nat} {b : List UInt8} (h : FR w B p b q) (ho : Oth g w w') (hg : g < B) : FR w' B p b q := by
  obtain ⟨v, hb, hv, hB, r⟩ := h
  exact ⟨v, ho.blk hb (by omega), hv.oth ho hg, hB, r⟩

/-- b[i] = z, and the block that it lies in. -/
theorem stoO {w : World} {K : KV} {B : Nat} {a : Option Addr} {n c i : Nat} {l : List UInt8} {v : Value} (ho : OB w B a n c l) (hi : i < n) (hv : ∃ z : UInt8, v = u8v z)
    (h : ∀ w' g l', (∀ ad, a = some ad → ad.block = g) → B ≤ g → g < w.heap.size → OB w' B a n c l' → Oth g w w' → K undef w') : sto Try.prog 5 (.pointer (some (slotA a i))) v K w := by
  have hl := ho.len
  obtain ⟨z, rfl⟩ := hv
  rcases ho.2 with ⟨hv, hn⟩ | ⟨g, cap, cur, hv, hb, hh, h1, h2, h3, h4⟩
  · omega
  · cases hv
    have hb2 : blk w g 5 cur.toList := hh
    rw [slotA_some]
    refine sto1 size_u8 hb2 (by simp; omega) rfl ?_
    intro w' hb' ho'
    refine h w' g (l.set i z) (fun ad ha => by cases ha; rfl) hb hb2.lt ⟨by simpa using ho.1, .inr ⟨g, c, (cur.toList.set (0 + i) (u8v z)).toArray, rfl, hb, hb', h1, h2, by simpa using h3, ?_⟩⟩ ho'
    rw [Nat.zero_add, List.take_set, h4, List.map_set]

/-- Where the records from number i on begin. -/
def Rest (b : List UInt8) (i q : Nat) : Prop := ∃ f, b.length < q + f ∧ q ≤ b.length ∧ allF b f q = ((allB b).1.drop i, (allB b).2)
theorem Rest.zero (b : List UInt8) : Rest b 0 0 := ⟨b.length + 1, by omega, by omega, rfl⟩
theorem Rest.step {b : List UInt8} {i q : Nat} (h : Rest b i q) (hi : i < (allB b).1.length) : ∃ q2, recF b q = some ((allB b).1[i], q2) ∧ Rest b (i + 1) q2 := by
  obtain ⟨f, h1, h2, h3⟩ := h
  obtain ⟨f', rfl⟩ : ∃ f', f = f' + 1 := ⟨f - 1, by omega⟩
  rw [List.drop_eq_getElem_cons hi] at h3
  simp only [allF] at h3
  cases hrec : recF b q with
  | none => rw [hrec] at h3; cases h3
  | some sq =>
    obtain ⟨s, q2⟩ := sq
    rw [hrec] at h3
    simp only [Prod.mk.injEq, List.cons.injEq] at h3
    have e := recF_some hrec
    refine ⟨q2, by rw [h3.1.1], f', by omega, e.2.1, ?_⟩
    rw [← h3.1.2, ← h3.2]
theorem Rest.done {b : List UInt8} {q : Nat} (h : Rest b (allB b).1.length q) : recF b q = none ∧ q = (allB b).2 := by
  obtain ⟨f, h1, h2, h3⟩ := h
  obtain ⟨f', rfl⟩ : ∃ f', f = f' + 1 := ⟨f - 1, by omega⟩
  rw [List.drop_of_length_le (Nat.le_refl _)] at h3
  simp only [allF] at h3
  cases hrec : recF b q with
  | none => rw [hrec] at h3; simp only [Prod.mk.injEq, true_and] at h3; exact ⟨rfl, h3⟩
  | some sq =>
    obtain ⟨s, q2⟩ := sq
    rw [hrec] at h3
    cases h3

set_option maxHeartbeats 4000000 in
theorem reads_law {a0 : Option Addr} {n0 c0 : Nat} {b : List UInt8} {w : World} {K : KV} (r0 : RB w a0 n0 c0 b) (hn : n0 ≤ 9223372036854775807)
    (h : ∀ w', Below w.heap.size w w' → K (.bool true) w') : call Try.prog 3 #[.slice a0 n0 c0] K w := by
  have hl := r0.len
  refine call_of leatlaw03_FrameReads_go (leatlaw03_FrameReads_in ?_)
  by_cases hbig : 8192 < n0
  · (repeat (first | refine bin_eql ?_ | refine bin_neq ?_ | refine bin_lss ?_ | refine bin_leq ?_ | refine bin_gtr ?_ | refine bin_geq ?_ | refine add64 (by omega) (by omega) ?_ | refine sub64 (by omega) (by omega) ?_ | refine ext_a ?_ | refine ext_b ?_ | refine ext3_a ?_ | refine ext3_b ?_ | refine ext3_c ?_ | refine un_notD ?_ | refine mul64 (by omega) (by omega) ?_ | refine cvIU (by omega) (by omega) ?_ | refine cvIUint (by omega) (by omega) ?_ | refine cvUI (by omega) (by omega) ?_ | refine cvBU (by omega) (by omega) ?_ | refine len8 ?_ | refine len36 ?_ | refine pick_T ?_ | refine pick_F ?_ | refine cond_T ?_ | refine cond_F ?_ | refine cond_t (by omega) ?_ | refine cond_f (by omega) ?_ | refine gsel_T ?_ | refine gsel_F ?_ | refine gsel_Tn ?_ | refine gsel_Fn ?_ | refine gsel_U ?_ | refine gsel_pt (by omega) ?_ | refine gsel_pf (by omega) ?_ | refine gsel_nt (by omega) ?_ | refine gsel_nf (by omega) ?_ | refine pick_t (by omega) ?_ | refine pick_f (by omega) ?_ | refine sti_of (fun _ hK => bin_eql hK) ?_ | refine sti_of (fun _ hK => bin_neq hK) ?_ | refine sti_of (fun _ hK => bin_lss hK) ?_ | refine sti_of (fun _ hK => bin_leq hK) ?_ | refine sti_of (fun _ hK => bin_gtr hK) ?_ | refine sti_of (fun _ hK => bin_geq hK) ?_ | refine sti_of (fun _ hK => add64 (by omega) (by omega) hK) ?_ | refine sti_of (fun _ hK => sub64 (by omega) (by omega) hK) ?_ | refine sti_of (fun _ hK => un_notD hK) ?_ | refine sti_of (fun _ hK => len8 hK) ?_ | refine sti_of (fun _ hK => pick_T hK) ?_ | refine sti_of (fun _ hK => pick_F hK) ?_))
    exact works_c h
  (repeat (first | refine bin_eql ?_ | refine bin_neq ?_ | refine bin_lss ?_ | refine bin_leq ?_ | refine bin_gtr ?_ | refine bin_geq ?_ | refine add64 (by omega) (by omega) ?_ | refine sub64 (by omega) (by omega) ?_ | refine ext_a ?_ | refine ext_b ?_ | refine ext3_a ?_ | refine ext3_b ?_ | refine ext3_c ?_ | refine un_notD ?_ | refine mul64 (by omega) (by omega) ?_ | refine cvIU (by omega) (by omega) ?_ | refine cvIUint (by omega) (by omega) ?_ | refine cvUI (by omega) (by omega) ?_ | refine cvBU (by omega) (by omega) ?_ | refine len8 ?_ | refine len36 ?_ | refine pick_T ?_ | refine pick_F ?_ | refine cond_T ?_ | refine cond_F ?_ | refine cond_t (by omega) ?_ | refine cond_f (by omega) ?_ | refine gsel_T ?_ | refine gsel_F ?_ | refine gsel_Tn ?_ | refine gsel_Fn ?_ | refine gsel_U ?_ | refine gsel_pt (by omega) ?_ | refine gsel_pf (by omega) ?_ | refine gsel_nt (by omega) ?_ | refine gsel_nf (by omega) ?_ | refine pick_t (by omega) ?_ | refine pick_f (by omega) ?_ | refine sti_of (fun _ hK => bin_eql hK) ?_ | refine sti_of (fun _ hK => bin_neq hK) ?_ | refine sti_of (fun _ hK => bin_lss hK) ?_ | refine sti_of (fun _ hK => bin_leq hK) ?_ | refine sti_of (fun _ hK => bin_gtr hK) ?_ | refine sti_of (fun _ hK => bin_geq hK) ?_ | refine sti_of (fun _ hK => add64 (by omega) (by omega) hK) ?_ | refine sti_of (fun _ hK => sub64 (by omega) (by omega) hK) ?_ | refine sti_of (fun _ hK => un_notD hK) ?_ | refine sti_of (fun _ hK => len8 hK) ?_ | refine sti_of (fun _ hK => pick_T hK) ?_ | refine sti_of (fun _ hK => pick_F hK) ?_))
  refine empty8 w.heap.size (Nat.le_refl _) ?_
  intro a1 w1 o1 b1
  refine app8 w.heap.size o1 (r0.below b1 (Nat.le_refl _)) (by omega) b1.size ?_
  intro a2 c2 w2 o2 g2
  have B2 : Below w.heap.size w w2 := b1.trans (below_of_grown g2 b1.size (fun k hk => (OV.block o1 k hk).1))
  have S2 := B2.size
  rw [List.nil_append, Nat.zero_add] at *
  have hlt2 : ∀ ad, a2 = some ad → ad.block < w2.heap.size := fun ad ha => (OV.block o2 ad.block (by rw [ha]; rfl)).2
  refine fnew_c o2.rb (by omega) ?_
  intro p w3 f3 b3
  have S3 := b3.size
  have o3 := OB.below o2 b3 (Nat.le_refl _)
  refine bin_of (v := .bool false) (by unfold eqG eqGuard; rfl) (by kernel_rfl) ?_
  (repeat (first | refine bin_eql ?_ | refine bin_neq ?_ | refine bin_lss ?_ | refine bin_leq ?_ | refine bin_gtr ?_ | refine bin_geq ?_ | refine add64 (by omega) (by omega) ?_ | refine sub64 (by omega) (by omega) ?_ | refine ext_a ?_ | refine ext_b ?_ | refine ext3_a ?_ | refine ext3_b ?_ | refine ext3_c ?_ | refine un_notD ?_ | refine mul64 (by omega) (by omega) ?_ | refine cvIU (by omega) (by omega) ?_ | refine cvIUint (by omega) (by omega) ?_ | refine cvUI (by omega) (by omega) ?_ | refine cvBU (by omega) (by omega) ?_ | refine len8 ?_ | refine len36 ?_ | refine pick_T ?_ | refine pick_F ?_ | refine cond_T ?_ | refine cond_F ?_ | refine cond_t (by omega) ?_ | refine cond_f (by omega) ?_ | refine gsel_T ?_ | refine gsel_F ?_ | refine gsel_Tn ?_ | refine gsel_Fn ?_ | refine gsel_U ?_ | refine gsel_pt (by omega) ?_ | refine gsel_pf (by omega) ?_ | refine gsel_nt (by omega) ?_ | refine gsel_nf (by omega) ?_ | refine pick_t (by omega) ?_ | refine pick_f (by omega) ?_ | refine sti_of (fun _ hK => bin_eql hK) ?_ | refine sti_of (fun _ hK => bin_neq hK) ?_ | refine sti_of (fun _ hK => bin_lss hK) ?_ | refine sti_of (fun _ hK => bin_leq hK) ?_ | refine sti_of (fun _ hK => bin_gtr hK) ?_ | refine sti_of (fun _ hK => bin_geq hK) ?_ | refine sti_of (fun _ hK => add64 (by omega) (by omega) hK) ?_ | refine sti_of (fun _ hK => sub64 (by omega) (by omega) hK) ?_ | refine sti_of (fun _ hK => un_notD hK) ?_ | refine sti_of (fun _ hK => len8 hK) ?_ | refine sti_of (fun _ hK => pick_T hK) ?_ | refine sti_of (fun _ hK => pick_F hK) ?_))
  obtain ⟨s1, s2, s3, s4⟩ := allB_spec b
  have hcnt := congrArg List.length s2
  rw [framesB_len, List.length_take] at hcnt
  refine fall_c o3.rb (by omega) ?_
  intro a4 n4 c4 vs4 w4 L4 b4
  have S4 := b4.size
  (repeat (first | refine bin_eql ?_ | refine bin_neq ?_ | refine bin_lss ?_ | refine bin_leq ?_ | refine bin_gtr ?_ | refine bin_geq ?_ | refine add64 (by omega) (by omega) ?_ | refine sub64 (by omega) (by omega) ?_ | refine ext_a ?_ | refine ext_b ?_ | refine ext3_a ?_ | refine ext3_b ?_ | refine ext3_c ?_ | refine un_notD ?_ | refine mul64 (by omega) (by omega) ?_ | refine cvIU (by omega) (by omega) ?_ | refine cvIUint (by omega) (by omega) ?_ | refine cvUI (by omega) (by omega) ?_ | refine cvBU (by omega) (by omega) ?_ | refine len8 ?_ | refine len36 ?_ | refine pick_T ?_ | refine pick_F ?_ | refine cond_T ?_ | refine cond_F ?_ | refine cond_t (by omega) ?_ | refine cond_f (by omega) ?_ | refine gsel_T ?_ | refine gsel_F ?_ | refine gsel_Tn ?_ | refine gsel_Fn ?_ | refine gsel_U ?_ | refine gsel_pt (by omega) ?_ | refine gsel_pf (by omega) ?_ | refine gsel_nt (by omega) ?_ | refine gsel_nf (by omega) ?_ | refine pick_t (by omega) ?_ | refine pick_f (by omega) ?_ | refine sti_of (fun _ hK => bin_eql hK) ?_ | refine sti_of (fun _ hK => bin_neq hK) ?_ | refine sti_of (fun _ hK => bin_lss hK) ?_ | refine sti_of (fun _ hK => bin_leq hK) ?_ | refine sti_of (fun _ hK => bin_gtr hK) ?_ | refine sti_of (fun _ hK => bin_geq hK) ?_ | refine sti_of (fun _ hK => add64 (by omega) (by omega) hK) ?_ | refine sti_of (fun _ hK => sub64 (by omega) (by omega) hK) ?_ | refine sti_of (fun _ hK => un_notD hK) ?_ | refine sti_of (fun _ hK => len8 hK) ?_ | refine sti_of (fun _ hK => pick_T hK) ?_ | refine sti_of (fun _ hK => pick_F hK) ?_))
  have B4 : Below w.heap.size w w4 := B2.trans ((b3.mono S2).trans (b4.mono (by omega)))
  refine rall_c (r0.below B4 (Nat.le_refl _)) (by omega) ?_
  intro a5 n5 c5 vs5 w5 L5 b5
  have S5 := b5.size
  have h5 := obb_len L5
  (repeat (first | refine leatlaw03_FrameReads_A1_r ?_ | refine leatlaw03_FrameReads_P1_r ?_ | refine leatlaw03_FrameReads_P2_r ?_ | refine leatlaw03_FrameReads_A2_r ?_ | refine bin_eql ?_ | refine bin_neq ?_ | refine bin_lss ?_ | refine bin_leq ?_ | refine bin_gtr ?_ | refine bin_geq ?_ | refine add64 (by omega) (by omega) ?_ | refine sub64 (by omega) (by omega) ?_ | refine ext_a ?_ | refine ext_b ?_ | refine ext3_a ?_ | refine ext3_b ?_ | refine ext3_c ?_ | refine un_notD ?_ | refine mul64 (by omega) (by omega) ?_ | refine cvIU (by omega) (by omega) ?_ | refine cvIUint (by omega) (by omega) ?_ | refine cvUI (by omega) (by omega) ?_ | refine cvBU (by omega) (by omega) ?_ | refine len8 ?_ | refine len36 ?_ | refine pick_T ?_ | refine pick_F ?_ | refine cond_T ?_ | refine cond_F ?_ | refine cond_t (by omega) ?_ | refine cond_f (by omega) ?_ | refine gsel_T ?_ | refine gsel_F ?_ | refine gsel_Tn ?_ | refine gsel_Fn ?_ | refine gsel_U ?_ | refine gsel_pt (by omega) ?_ | refine gsel_pf (by omega) ?_ | refine gsel_nt (by omega) ?_ | refine gsel_nf (by omega) ?_ | refine pick_t (by omega) ?_ | refine pick_f (by omega) ?_ | refine sti_of (fun _ hK => bin_eql hK) ?_ | refine sti_of (fun _ hK => bin_neq hK) ?_ | refine sti_of (fun _ hK => bin_lss hK) ?_ | refine sti_of (fun _ hK => bin_leq hK) ?_ | refine sti_of (fun _ hK => bin_gtr hK) ?_ | refine sti_of (fun _ hK => bin_geq hK) ?_ | refine sti_of (fun _ hK => add64 (by omega) (by omega) hK) ?_ | refine sti_of (fun _ hK => sub64 (by omega) (by omega) hK) ?_ | refine sti_of (fun _ hK => un_notD hK) ?_ | refine sti_of (fun _ hK => len8 hK) ?_ | refine sti_of (fun _ hK => pick_T hK) ?_ | refine sti_of (fun _ hK => pick_F hK) ?_))
  refine same_c (L4.below b5 (Nat.le_refl _)).rbb L5.rbb (by have := obb_len L4; omega) ?_
  intro w6 b6
  have S6 := b6.size
  refine un_notD ?_
  (repeat (first | refine gsel_nf (fun hh => hh rfl) ?_ | refine pick_f (fun hh => hh rfl) ?_ | refine bin_eql ?_ | refine bin_neq ?_ | refine bin_lss ?_ | refine bin_leq ?_ | refine bin_gtr ?_ | refine bin_geq ?_ | refine add64 (by omega) (by omega) ?_ | refine sub64 (by omega) (by omega) ?_ | refine ext_a ?_ | refine ext_b ?_ | refine ext3_a ?_ | refine ext3_b ?_ | refine ext3_c ?_ | refine un_notD ?_ | refine mul64 (by omega) (by omega) ?_ | refine cvIU (by omega) (by omega) ?_ | refine cvIUint (by omega) (by omega) ?_ | refine cvUI (by omega) (by omega) ?_ | refine cvBU (by omega) (by omega) ?_ | refine len8 ?_ | refine len36 ?_ | refine pick_T ?_ | refine pick_F ?_ | refine cond_T ?_ | refine cond_F ?_ | refine cond_t (by omega) ?_ | refine cond_f (by omega) ?_ | refine gsel_T ?_ | refine gsel_F ?_ | refine gsel_Tn ?_ | refine gsel_Fn ?_ | refine gsel_U ?_ | refine gsel_pt (by omega) ?_ | refine gsel_pf (by omega) ?_ | refine gsel_nt (by omega) ?_ | refine gsel_nf (by omega) ?_ | refine pick_t (by omega) ?_ | refine pick_f (by omega) ?_ | refine sti_of (fun _ hK => bin_eql hK) ?_ | refine sti_of (fun _ hK => bin_neq hK) ?_ | refine sti_of (fun _ hK => bin_lss hK) ?_ | refine sti_of (fun _ hK => bin_leq hK) ?_ | refine sti_of (fun _ hK => bin_gtr hK) ?_ | refine sti_of (fun _ hK => bin_geq hK) ?_ | refine sti_of (fun _ hK => add64 (by omega) (by omega) hK) ?_ | refine sti_of (fun _ hK => sub64 (by omega) (by omega) hK) ?_ | refine sti_of (fun _ hK => un_notD hK) ?_ | refine sti_of (fun _ hK => len8 hK) ?_ | refine sti_of (fun _ hK => pick_T hK) ?_ | refine sti_of (fun _ hK => pick_F hK) ?_))
  have B6 : Below w.heap.size w w6 := (B4.trans (b5.mono (by omega))).trans (b6.mono (by omega))
  have o6 : OB w6 w.heap.size a2 n0 c2 b := ((OB.below o3 b4 (Nat.le_refl _)).below b5 (Nat.le_refl _)).below b6 (Nat.le_refl _)
  have f6 := ((f3.below b4).below b5).below b6
  have L6 := L5.below b6 (Nat.le_refl _)
  refine leatlaw03_FrameReads_L1_r (Inv := fun i wr => ∃ (j : Nat) (l' : List UInt8), i = .int .i64 (j : Nat) ∧ j ≤ n0 ∧ OB wr w.heap.size a2 n0 c2 l' ∧ FR wr w2.heap.size p b 0 ∧ OBB wr w4.heap.size a5 n5 c5 vs5 (allB b).1 ∧ Below w.heap.size w wr)
    (μ := fun i _ => n0 - (intOf i).toNat) ⟨0, b, rfl, by omega, o6, f6, L6, B6⟩ ?_
  rintro _ _ w7 m ⟨j, l', rfl, hj, o7, f7, L7, B7⟩ hm
  by_cases hjn : j < n0
  · (repeat (first | refine bin_eql ?_ | refine bin_neq ?_ | refine bin_lss ?_ | refine bin_leq ?_ | refine bin_gtr ?_ | refine bin_geq ?_ | refine add64 (by omega) (by omega) ?_ | refine sub64 (by omega) (by omega) ?_ | refine ext_a ?_ | refine ext_b ?_ | refine ext3_a ?_ | refine ext3_b ?_ | refine ext3_c ?_ | refine un_notD ?_ | refine mul64 (by omega) (by omega) ?_ | refine cvIU (by omega) (by omega) ?_ | refine cvIUint (by omega) (by omega) ?_ | refine cvUI (by omega) (by omega) ?_ | refine cvBU (by omega) (by omega) ?_ | refine len8 ?_ | refine len36 ?_ | refine pick_T ?_ | refine pick_F ?_ | refine cond_T ?_ | refine cond_F ?_ | refine cond_t (by omega) ?_ | refine cond_f (by omega) ?_ | refine gsel_T ?_ | refine gsel_F ?_ | refine gsel_Tn ?_ | refine gsel_Fn ?_ | refine gsel_U ?_ | refine gsel_pt (by omega) ?_ | refine gsel_pf (by omega) ?_ | refine gsel_nt (by omega) ?_ | refine gsel_nf (by omega) ?_ | refine pick_t (by omega) ?_ | refine pick_f (by omega) ?_ | refine sti_of (fun _ hK => bin_eql hK) ?_ | refine sti_of (fun _ hK => bin_neq hK) ?_ | refine sti_of (fun _ hK => bin_lss hK) ?_ | refine sti_of (fun _ hK => bin_leq hK) ?_ | refine sti_of (fun _ hK => bin_gtr hK) ?_ | refine sti_of (fun _ hK => bin_geq hK) ?_ | refine sti_of (fun _ hK => add64 (by omega) (by omega) hK) ?_ | refine sti_of (fun _ hK => sub64 (by omega) (by omega) hK) ?_ | refine sti_of (fun _ hK => un_notD hK) ?_ | refine sti_of (fun _ hK => len8 hK) ?_ | refine sti_of (fun _ hK => pick_T hK) ?_ | refine sti_of (fun _ hK => pick_F hK) ?_))
    refine idxB o7 (by omega) ?_
    intro hc
    refine ld8 hc ?_
    refine xor8 ?_
    intro u hu
    refine idxB o7 (by omega) ?_
    intro _
    refine stoO o7 (by omega) hu ?_
    intro w8 g l2 hga hgB hgl o8 oth
    have hg2 : g < w2.heap.size := by
      cases ha : a2 with
      | none =>
        exfalso
        have := RV.nil_ o7.rb ha
        omega
      | some ad => rw [← hga ad ha]; exact hlt2 ad ha
    (repeat (first | refine bin_eql ?_ | refine bin_neq ?_ | refine bin_lss ?_ | refine bin_leq ?_ | refine bin_gtr ?_ | refine bin_geq ?_ | refine add64 (by omega) (by omega) ?_ | refine sub64 (by omega) (by omega) ?_ | refine ext_a ?_ | refine ext_b ?_ | refine ext3_a ?_ | refine ext3_b ?_ | refine ext3_c ?_ | refine un_notD ?_ | refine mul64 (by omega) (by omega) ?_ | refine cvIU (by omega) (by omega) ?_ | refine cvIUint (by omega) (by omega) ?_ | refine cvUI (by omega) (by omega) ?_ | refine cvBU (by omega) (by omega) ?_ | refine len8 ?_ | refine len36 ?_ | refine pick_T ?_ | refine pick_F ?_ | refine cond_T ?_ | refine cond_F ?_ | refine cond_t (by omega) ?_ | refine cond_f (by omega) ?_ | refine gsel_T ?_ | refine gsel_F ?_ | refine gsel_Tn ?_ | refine gsel_Fn ?_ | refine gsel_U ?_ | refine gsel_pt (by omega) ?_ | refine gsel_pf (by omega) ?_ | refine gsel_nt (by omega) ?_ | refine gsel_nf (by omega) ?_ | refine pick_t (by omega) ?_ | refine pick_f (by omega) ?_ | refine sti_of (fun _ hK => bin_eql hK) ?_ | refine sti_of (fun _ hK => bin_neq hK) ?_ | refine sti_of (fun _ hK => bin_lss hK) ?_ | refine sti_of (fun _ hK => bin_leq hK) ?_ | refine sti_of (fun _ hK => bin_gtr hK) ?_ | refine sti_of (fun _ hK => bin_geq hK) ?_ | refine sti_of (fun _ hK => add64 (by omega) (by omega) hK) ?_ | refine sti_of (fun _ hK => sub64 (by omega) (by omega) hK) ?_ | refine sti_of (fun _ hK => un_notD hK) ?_ | refine sti_of (fun _ hK => len8 hK) ?_ | refine sti_of (fun _ hK => pick_T hK) ?_ | refine sti_of (fun _ hK => pick_F hK) ?_))
    exact ⟨⟨j + 1, l2, by simp, by omega, o8, f7.oth oth hg2, L7.oth oth (by omega), B7.trans (oth.below.mono hgB)⟩, by rw [hm]; simp only [intOf]; omega⟩
  (repeat (first | refine leatlaw03_FrameReads_A1_r ?_ | refine leatlaw03_FrameReads_P1_r ?_ | refine leatlaw03_FrameReads_P2_r ?_ | refine leatlaw03_FrameReads_A2_r ?_ | refine bin_eql ?_ | refine bin_neq ?_ | refine bin_lss ?_ | refine bin_leq ?_ | refine bin_gtr ?_ | refine bin_geq ?_ | refine add64 (by omega) (by omega) ?_ | refine sub64 (by omega) (by omega) ?_ | refine ext_a ?_ | refine ext_b ?_ | refine ext3_a ?_ | refine ext3_b ?_ | refine ext3_c ?_ | refine un_notD ?_ | refine mul64 (by omega) (by omega) ?_ | refine cvIU (by omega) (by omega) ?_ | refine cvIUint (by omega) (by omega) ?_ | refine cvUI (by omega) (by omega) ?_ | refine cvBU (by omega) (by omega) ?_ | refine len8 ?_ | refine len36 ?_ | refine pick_T ?_ | refine pick_F ?_ | refine cond_T ?_ | refine cond_F ?_ | refine cond_t (by omega) ?_ | refine cond_f (by omega) ?_ | refine gsel_T ?_ | refine gsel_F ?_ | refine gsel_Tn ?_ | refine gsel_Fn ?_ | refine gsel_U ?_ | refine gsel_pt (by omega) ?_ | refine gsel_pf (by omega) ?_ | refine gsel_nt (by omega) ?_ | refine gsel_nf (by omega) ?_ | refine pick_t (by omega) ?_ | refine pick_f (by omega) ?_ | refine sti_of (fun _ hK => bin_eql hK) ?_ | refine sti_of (fun _ hK => bin_neq hK) ?_ | refine sti_of (fun _ hK => bin_lss hK) ?_ | refine sti_of (fun _ hK => bin_leq hK) ?_ | refine sti_of (fun _ hK => bin_gtr hK) ?_ | refine sti_of (fun _ hK => bin_geq hK) ?_ | refine sti_of (fun _ hK => add64 (by omega) (by omega) hK) ?_ | refine sti_of (fun _ hK => sub64 (by omega) (by omega) hK) ?_ | refine sti_of (fun _ hK => un_notD hK) ?_ | refine sti_of (fun _ hK => len8 hK) ?_ | refine sti_of (fun _ hK => pick_T hK) ?_ | refine sti_of (fun _ hK => pick_F hK) ?_))
  clear hm
  refine leatlaw03_FrameReads_L2_r (Inv := fun i _ _ _ _ _ _ _ _ wr => ∃ (j q : Nat), i = .int .i64 (j : Nat) ∧ j ≤ n5 ∧ FR wr w2.heap.size p b q ∧ Rest b j q ∧ OBB wr w4.heap.size a5 n5 c5 vs5 (allB b).1 ∧ Below w.heap.size w wr)
    (μ := fun i _ _ _ _ _ _ _ _ _ => n5 - (intOf i).toNat) ⟨0, 0, rfl, by omega, f7, Rest.zero b, L7, B7⟩ ?_
  rintro _ _ _ _ _ _ _ _ _ _ w8 m ⟨j, q, rfl, hj, f8, hre, L8, B8⟩ hm
  have nx : ∀ {w8 : World} {q : Nat} {K' : KV}, FR w8 w2.heap.size p b q → OBB w8 w4.heap.size a5 n5 c5 vs5 (allB b).1 → Below w.heap.size w w8 →
      (recF b q = none → ∀ w', FR w' w2.heap.size p b q → OBB w' w4.heap.size a5 n5 c5 vs5 (allB b).1 → Below w.heap.size w w' → K' (.tuple #[.slice none 0 0, .bool false]) w') →
      (∀ s q2, recF b q = some (s, q2) → ∀ a n c w', OB w' w8.heap.size a n c s → FR w' w2.heap.size p b q2 → OBB w' w4.heap.size a5 n5 c5 vs5 (allB b).1 → Below w.heap.size w w' → K' (.tuple #[.slice a n c, .bool true]) w') →
      call Try.prog 13 #[ptr p] K' w8 := by
    intro w8 q K' f8 L8 B8 h0 h1
    have hpB : w2.heap.size ≤ p := by obtain ⟨v, _, _, hB, _⟩ := f8; exact hB
    refine fnext_c f8 ?_ ?_
    · intro hrec w9 b9 f9
      exact h0 hrec w9 f9 (L8.below b9 (Nat.le_refl _)) (B8.trans (b9.mono B8.size))
    · intro s q2 hrec a n c w9 o9 f9 k9
      exact h1 s q2 hrec a n c w9 o9 f9 (L8.keep k9 (by decide) (by decide)) (B8.trans ((k9.below (by obtain ⟨v, hb, _⟩ := f8; exact Nat.le_of_lt hb.lt)).mono (by omega)))
  by_cases hjn : j < n5
  · obtain ⟨q2, hrec, hre2⟩ := hre.step (by omega)
    (repeat (first | refine len26 ?_ | refine bin_eql ?_ | refine bin_neq ?_ | refine bin_lss ?_ | refine bin_leq ?_ | refine bin_gtr ?_ | refine bin_geq ?_ | refine add64 (by omega) (by omega) ?_ | refine sub64 (by omega) (by omega) ?_ | refine ext_a ?_ | refine ext_b ?_ | refine ext3_a ?_ | refine ext3_b ?_ | refine ext3_c ?_ | refine un_notD ?_ | refine mul64 (by omega) (by omega) ?_ | refine cvIU (by omega) (by omega) ?_ | refine cvIUint (by omega) (by omega) ?_ | refine cvUI (by omega) (by omega) ?_ | refine cvBU (by omega) (by omega) ?_ | refine len8 ?_ | refine len36 ?_ | refine pick_T ?_ | refine pick_F ?_ | refine cond_T ?_ | refine cond_F ?_ | refine cond_t (by omega) ?_ | refine cond_f (by omega) ?_ | refine gsel_T ?_ | refine gsel_F ?_ | refine gsel_Tn ?_ | refine gsel_Fn ?_ | refine gsel_U ?_ | refine gsel_pt (by omega) ?_ | refine gsel_pf (by omega) ?_ | refine gsel_nt (by omega) ?_ | refine gsel_nf (by omega) ?_ | refine pick_t (by omega) ?_ | refine pick_f (by omega) ?_ | refine sti_of (fun _ hK => bin_eql hK) ?_ | refine sti_of (fun _ hK => bin_neq hK) ?_ | refine sti_of (fun _ hK => bin_lss hK) ?_ | refine sti_of (fun _ hK => bin_leq hK) ?_ | refine sti_of (fun _ hK => bin_gtr hK) ?_ | refine sti_of (fun _ hK => bin_geq hK) ?_ | refine sti_of (fun _ hK => add64 (by omega) (by omega) hK) ?_ | refine sti_of (fun _ hK => sub64 (by omega) (by omega) hK) ?_ | refine sti_of (fun _ hK => un_notD hK) ?_ | refine sti_of (fun _ hK => len8 hK) ?_ | refine sti_of (fun _ hK => pick_T hK) ?_ | refine sti_of (fun _ hK => pick_F hK) ?_))
    refine nx f8 L8 B8 (fun hno => by rw [hno] at hrec; cases hrec) ?_
    intro s q3 hrec2 a9 n9 c9 w9 o9 f9 L9 B9
    rw [hrec] at hrec2
    simp only [Option.some.injEq, Prod.mk.injEq] at hrec2
    obtain ⟨rfl, rfl⟩ := hrec2
    have bd : Below w9.heap.size w9 w9.drew := (Below.refl _ w9).drew
    have L9d := L9.below bd (Nat.le_refl _)
    have q9 := (OB.below o9 bd (Nat.le_refl _)).rb
    (repeat (first | refine bin_eql ?_ | refine bin_neq ?_ | refine bin_lss ?_ | refine bin_leq ?_ | refine bin_gtr ?_ | refine bin_geq ?_ | refine add64 (by omega) (by omega) ?_ | refine sub64 (by omega) (by omega) ?_ | refine ext_a ?_ | refine ext_b ?_ | refine ext3_a ?_ | refine ext3_b ?_ | refine ext3_c ?_ | refine un_notD ?_ | refine mul64 (by omega) (by omega) ?_ | refine cvIU (by omega) (by omega) ?_ | refine cvIUint (by omega) (by omega) ?_ | refine cvUI (by omega) (by omega) ?_ | refine cvBU (by omega) (by omega) ?_ | refine len8 ?_ | refine len36 ?_ | refine pick_T ?_ | refine pick_F ?_ | refine cond_T ?_ | refine cond_F ?_ | refine cond_t (by omega) ?_ | refine cond_f (by omega) ?_ | refine gsel_T ?_ | refine gsel_F ?_ | refine gsel_Tn ?_ | refine gsel_Fn ?_ | refine gsel_U ?_ | refine gsel_pt (by omega) ?_ | refine gsel_pf (by omega) ?_ | refine gsel_nt (by omega) ?_ | refine gsel_nf (by omega) ?_ | refine pick_t (by omega) ?_ | refine pick_f (by omega) ?_ | refine sti_of (fun _ hK => bin_eql hK) ?_ | refine sti_of (fun _ hK => bin_neq hK) ?_ | refine sti_of (fun _ hK => bin_lss hK) ?_ | refine sti_of (fun _ hK => bin_leq hK) ?_ | refine sti_of (fun _ hK => bin_gtr hK) ?_ | refine sti_of (fun _ hK => bin_geq hK) ?_ | refine sti_of (fun _ hK => add64 (by omega) (by omega) hK) ?_ | refine sti_of (fun _ hK => sub64 (by omega) (by omega) hK) ?_ | refine sti_of (fun _ hK => un_notD hK) ?_ | refine sti_of (fun _ hK => len8 hK) ?_ | refine sti_of (fun _ hK => pick_T hK) ?_ | refine sti_of (fun _ hK => pick_F hK) ?_))
    refine sti_of (fun K hK => un_not hK) ?_
    refine gsel_t rfl ?_
    refine sti_of (fun K hK => str8 q9 hK) ?_
    have hvj : vs5[j]? = some (vs5[j]'(by have := L9.len; omega)) := List.getElem?_eq_getElem _
    have hlj : (allB b).1[j]? = some (allB b).1[j] := List.getElem?_eq_getElem (by omega)
    have rj := L9d.rbb.each j _ _ hvj hlj
    refine sti_of (fun K hK => idx_cell Try.underlying26 size_sl L9d.row.rv (by omega) (v := slv (vs5[j]'(by have := L9.len; omega))) (by rw [Int.toNat_natCast, List.getElem?_map, hvj]; rfl) (fun _ => hK)) ?_
    refine sti_of (fun K hK => ldSl (L9d.row.rv.cell _ _ (by rw [Int.toNat_natCast, List.getElem?_map, hvj]; rfl)) hK) ?_
    refine sti_of (fun K hK => str8 rj hK) ?_
    refine sti_of (fun K hK => bin_neqS hK) ?_
    refine sti_of (fun K hK => pick_F hK) ?_
    refine cond_f (fun hh => hh rfl) ?_
    (repeat (first | refine bin_eql ?_ | refine bin_neq ?_ | refine bin_lss ?_ | refine bin_leq ?_ | refine bin_gtr ?_ | refine bin_geq ?_ | refine add64 (by omega) (by omega) ?_ | refine sub64 (by omega) (by omega) ?_ | refine ext_a ?_ | refine ext_b ?_ | refine ext3_a ?_ | refine ext3_b ?_ | refine ext3_c ?_ | refine un_notD ?_ | refine mul64 (by omega) (by omega) ?_ | refine cvIU (by omega) (by omega) ?_ | refine cvIUint (by omega) (by omega) ?_ | refine cvUI (by omega) (by omega) ?_ | refine cvBU (by omega) (by omega) ?_ | refine len8 ?_ | refine len36 ?_ | refine pick_T ?_ | refine pick_F ?_ | refine cond_T ?_ | refine cond_F ?_ | refine cond_t (by omega) ?_ | refine cond_f (by omega) ?_ | refine gsel_T ?_ | refine gsel_F ?_ | refine gsel_Tn ?_ | refine gsel_Fn ?_ | refine gsel_U ?_ | refine gsel_pt (by omega) ?_ | refine gsel_pf (by omega) ?_ | refine gsel_nt (by omega) ?_ | refine gsel_nf (by omega) ?_ | refine pick_t (by omega) ?_ | refine pick_f (by omega) ?_ | refine sti_of (fun _ hK => bin_eql hK) ?_ | refine sti_of (fun _ hK => bin_neq hK) ?_ | refine sti_of (fun _ hK => bin_lss hK) ?_ | refine sti_of (fun _ hK => bin_leq hK) ?_ | refine sti_of (fun _ hK => bin_gtr hK) ?_ | refine sti_of (fun _ hK => bin_geq hK) ?_ | refine sti_of (fun _ hK => add64 (by omega) (by omega) hK) ?_ | refine sti_of (fun _ hK => sub64 (by omega) (by omega) hK) ?_ | refine sti_of (fun _ hK => un_notD hK) ?_ | refine sti_of (fun _ hK => len8 hK) ?_ | refine sti_of (fun _ hK => pick_T hK) ?_ | refine sti_of (fun _ hK => pick_F hK) ?_))
    exact ⟨⟨j + 1, q2, (show Value.int .i64 ((j : Int) + 1) = _ by simp), by omega, f9.below bd, hre2, L9d, B9.drew⟩, by rw [hm]; simp only [intOf]; omega⟩
  have hjn : j = n5 := by omega
  subst hjn
  rw [← h5] at hre
  obtain ⟨hno, hqe⟩ := hre.done
  clear hm
  (repeat (first | refine len26 ?_ | refine leatlaw03_FrameReads_A1_r ?_ | refine leatlaw03_FrameReads_P1_r ?_ | refine leatlaw03_FrameReads_P2_r ?_ | refine leatlaw03_FrameReads_A2_r ?_ | refine bin_eql ?_ | refine bin_neq ?_ | refine bin_lss ?_ | refine bin_leq ?_ | refine bin_gtr ?_ | refine bin_geq ?_ | refine add64 (by omega) (by omega) ?_ | refine sub64 (by omega) (by omega) ?_ | refine ext_a ?_ | refine ext_b ?_ | refine ext3_a ?_ | refine ext3_b ?_ | refine ext3_c ?_ | refine un_notD ?_ | refine mul64 (by omega) (by omega) ?_ | refine cvIU (by omega) (by omega) ?_ | refine cvIUint (by omega) (by omega) ?_ | refine cvUI (by omega) (by omega) ?_ | refine cvBU (by omega) (by omega) ?_ | refine len8 ?_ | refine len36 ?_ | refine pick_T ?_ | refine pick_F ?_ | refine cond_T ?_ | refine cond_F ?_ | refine cond_t (by omega) ?_ | refine cond_f (by omega) ?_ | refine gsel_T ?_ | refine gsel_F ?_ | refine gsel_Tn ?_ | refine gsel_Fn ?_ | refine gsel_U ?_ | refine gsel_pt (by omega) ?_ | refine gsel_pf (by omega) ?_ | refine gsel_nt (by omega) ?_ | refine gsel_nf (by omega) ?_ | refine pick_t (by omega) ?_ | refine pick_f (by omega) ?_ | refine sti_of (fun _ hK => bin_eql hK) ?_ | refine sti_of (fun _ hK => bin_neq hK) ?_ | refine sti_of (fun _ hK => bin_lss hK) ?_ | refine sti_of (fun _ hK => bin_leq hK) ?_ | refine sti_of (fun _ hK => bin_gtr hK) ?_ | refine sti_of (fun _ hK => bin_geq hK) ?_ | refine sti_of (fun _ hK => add64 (by omega) (by omega) hK) ?_ | refine sti_of (fun _ hK => sub64 (by omega) (by omega) hK) ?_ | refine sti_of (fun _ hK => un_notD hK) ?_ | refine sti_of (fun _ hK => len8 hK) ?_ | refine sti_of (fun _ hK => pick_T hK) ?_ | refine sti_of (fun _ hK => pick_F hK) ?_))
  refine nx f8 L8 B8 ?_ (fun s q2 hrec => by rw [hno] at hrec; cases hrec)
  intro _ w9 f9 L9 B9
  (repeat (first | refine bin_eql ?_ | refine bin_neq ?_ | refine bin_lss ?_ | refine bin_leq ?_ | refine bin_gtr ?_ | refine bin_geq ?_ | refine add64 (by omega) (by omega) ?_ | refine sub64 (by omega) (by omega) ?_ | refine ext_a ?_ | refine ext_b ?_ | refine ext3_a ?_ | refine ext3_b ?_ | refine ext3_c ?_ | refine un_notD ?_ | refine mul64 (by omega) (by omega) ?_ | refine cvIU (by omega) (by omega) ?_ | refine cvIUint (by omega) (by omega) ?_ | refine cvUI (by omega) (by omega) ?_ | refine cvBU (by omega) (by omega) ?_ | refine len8 ?_ | refine len36 ?_ | refine pick_T ?_ | refine pick_F ?_ | refine cond_T ?_ | refine cond_F ?_ | refine cond_t (by omega) ?_ | refine cond_f (by omega) ?_ | refine gsel_T ?_ | refine gsel_F ?_ | refine gsel_Tn ?_ | refine gsel_Fn ?_ | refine gsel_U ?_ | refine gsel_pt (by omega) ?_ | refine gsel_pf (by omega) ?_ | refine gsel_nt (by omega) ?_ | refine gsel_nf (by omega) ?_ | refine pick_t (by omega) ?_ | refine pick_f (by omega) ?_ | refine sti_of (fun _ hK => bin_eql hK) ?_ | refine sti_of (fun _ hK => bin_neq hK) ?_ | refine sti_of (fun _ hK => bin_lss hK) ?_ | refine sti_of (fun _ hK => bin_leq hK) ?_ | refine sti_of (fun _ hK => bin_gtr hK) ?_ | refine sti_of (fun _ hK => bin_geq hK) ?_ | refine sti_of (fun _ hK => add64 (by omega) (by omega) hK) ?_ | refine sti_of (fun _ hK => sub64 (by omega) (by omega) hK) ?_ | refine sti_of (fun _ hK => un_notD hK) ?_ | refine sti_of (fun _ hK => len8 hK) ?_ | refine sti_of (fun _ hK => pick_T hK) ?_ | refine sti_of (fun _ hK => pick_F hK) ?_))
  refine fat_c f9 ?_
  rw [hqe]
  (repeat (first | refine bin_eql ?_ | refine bin_neq ?_ | refine bin_lss ?_ | refine bin_leq ?_ | refine bin_gtr ?_ | refine bin_geq ?_ | refine add64 (by omega) (by omega) ?_ | refine sub64 (by omega) (by omega) ?_ | refine ext_a ?_ | refine ext_b ?_ | refine ext3_a ?_ | refine ext3_b ?_ | refine ext3_c ?_ | refine un_notD ?_ | refine mul64 (by omega) (by omega) ?_ | refine cvIU (by omega) (by omega) ?_ | refine cvIUint (by omega) (by omega) ?_ | refine cvUI (by omega) (by omega) ?_ | refine cvBU (by omega) (by omega) ?_ | refine len8 ?_ | refine len36 ?_ | refine pick_T ?_ | refine pick_F ?_ | refine cond_T ?_ | refine cond_F ?_ | refine cond_t (by omega) ?_ | refine cond_f (by omega) ?_ | refine gsel_T ?_ | refine gsel_F ?_ | refine gsel_Tn ?_ | refine gsel_Fn ?_ | refine gsel_U ?_ | refine gsel_pt (by omega) ?_ | refine gsel_pf (by omega) ?_ | refine gsel_nt (by omega) ?_ | refine gsel_nf (by omega) ?_ | refine pick_t (by omega) ?_ | refine pick_f (by omega) ?_ | refine sti_of (fun _ hK => bin_eql hK) ?_ | refine sti_of (fun _ hK => bin_neq hK) ?_ | refine sti_of (fun _ hK => bin_lss hK) ?_ | refine sti_of (fun _ hK => bin_leq hK) ?_ | refine sti_of (fun _ hK => bin_gtr hK) ?_ | refine sti_of (fun _ hK => bin_geq hK) ?_ | refine sti_of (fun _ hK => add64 (by omega) (by omega) hK) ?_ | refine sti_of (fun _ hK => sub64 (by omega) (by omega) hK) ?_ | refine sti_of (fun _ hK => un_notD hK) ?_ | refine sti_of (fun _ hK => len8 hK) ?_ | refine sti_of (fun _ hK => pick_T hK) ?_ | refine sti_of (fun _ hK => pick_F hK) ?_))
  refine fnext_nil ?_
  (repeat (first | refine leatlaw03_FrameReads_A1_r ?_ | refine leatlaw03_FrameReads_P1_r ?_ | refine leatlaw03_FrameReads_P2_r ?_ | refine leatlaw03_FrameReads_A2_r ?_ | refine bin_eql ?_ | refine bin_neq ?_ | refine bin_lss ?_ | refine bin_leq ?_ | refine bin_gtr ?_ | refine bin_geq ?_ | refine add64 (by omega) (by omega) ?_ | refine sub64 (by omega) (by omega) ?_ | refine ext_a ?_ | refine ext_b ?_ | refine ext3_a ?_ | refine ext3_b ?_ | refine ext3_c ?_ | refine un_notD ?_ | refine mul64 (by omega) (by omega) ?_ | refine cvIU (by omega) (by omega) ?_ | refine cvIUint (by omega) (by omega) ?_ | refine cvUI (by omega) (by omega) ?_ | refine cvBU (by omega) (by omega) ?_ | refine len8 ?_ | refine len36 ?_ | refine pick_T ?_ | refine pick_F ?_ | refine cond_T ?_ | refine cond_F ?_ | refine cond_t (by omega) ?_ | refine cond_f (by omega) ?_ | refine gsel_T ?_ | refine gsel_F ?_ | refine gsel_Tn ?_ | refine gsel_Fn ?_ | refine gsel_U ?_ | refine gsel_pt (by omega) ?_ | refine gsel_pf (by omega) ?_ | refine gsel_nt (by omega) ?_ | refine gsel_nf (by omega) ?_ | refine pick_t (by omega) ?_ | refine pick_f (by omega) ?_ | refine sti_of (fun _ hK => bin_eql hK) ?_ | refine sti_of (fun _ hK => bin_neq hK) ?_ | refine sti_of (fun _ hK => bin_lss hK) ?_ | refine sti_of (fun _ hK => bin_leq hK) ?_ | refine sti_of (fun _ hK => bin_gtr hK) ?_ | refine sti_of (fun _ hK => bin_geq hK) ?_ | refine sti_of (fun _ hK => add64 (by omega) (by omega) hK) ?_ | refine sti_of (fun _ hK => sub64 (by omega) (by omega) hK) ?_ | refine sti_of (fun _ hK => un_notD hK) ?_ | refine sti_of (fun _ hK => len8 hK) ?_ | refine sti_of (fun _ hK => pick_T hK) ?_ | refine sti_of (fun _ hK => pick_F hK) ?_))
  refine un_not ?_
  (repeat (first | refine bin_eql ?_ | refine bin_neq ?_ | refine bin_lss ?_ | refine bin_leq ?_ | refine bin_gtr ?_ | refine bin_geq ?_ | refine add64 (by omega) (by omega) ?_ | refine sub64 (by omega) (by omega) ?_ | refine ext_a ?_ | refine ext_b ?_ | refine ext3_a ?_ | refine ext3_b ?_ | refine ext3_c ?_ | refine un_notD ?_ | refine mul64 (by omega) (by omega) ?_ | refine cvIU (by omega) (by omega) ?_ | refine cvIUint (by omega) (by omega) ?_ | refine cvUI (by omega) (by omega) ?_ | refine cvBU (by omega) (by omega) ?_ | refine len8 ?_ | refine len36 ?_ | refine pick_T ?_ | refine pick_F ?_ | refine cond_T ?_ | refine cond_F ?_ | refine cond_t (by omega) ?_ | refine cond_f (by omega) ?_ | refine gsel_T ?_ | refine gsel_F ?_ | refine gsel_Tn ?_ | refine gsel_Fn ?_ | refine gsel_U ?_ | refine gsel_pt (by omega) ?_ | refine gsel_pf (by omega) ?_ | refine gsel_nt (by omega) ?_ | refine gsel_nf (by omega) ?_ | refine pick_t (by omega) ?_ | refine pick_f (by omega) ?_ | refine sti_of (fun _ hK => bin_eql hK) ?_ | refine sti_of (fun _ hK => bin_neq hK) ?_ | refine sti_of (fun _ hK => bin_lss hK) ?_ | refine sti_of (fun _ hK => bin_leq hK) ?_ | refine sti_of (fun _ hK => bin_gtr hK) ?_ | refine sti_of (fun _ hK => bin_geq hK) ?_ | refine sti_of (fun _ hK => add64 (by omega) (by omega) hK) ?_ | refine sti_of (fun _ hK => sub64 (by omega) (by omega) hK) ?_ | refine sti_of (fun _ hK => un_notD hK) ?_ | refine sti_of (fun _ hK => len8 hK) ?_ | refine sti_of (fun _ hK => pick_T hK) ?_ | refine sti_of (fun _ hK => pick_F hK) ?_))
  refine fat_nil ?_
  (repeat (first | refine bin_eql ?_ | refine bin_neq ?_ | refine bin_lss ?_ | refine bin_leq ?_ | refine bin_gtr ?_ | refine bin_geq ?_ | refine add64 (by omega) (by omega) ?_ | refine sub64 (by omega) (by omega) ?_ | refine ext_a ?_ | refine ext_b ?_ | refine ext3_a ?_ | refine ext3_b ?_ | refine ext3_c ?_ | refine un_notD ?_ | refine mul64 (by omega) (by omega) ?_ | refine cvIU (by omega) (by omega) ?_ | refine cvIUint (by omega) (by omega) ?_ | refine cvUI (by omega) (by omega) ?_ | refine cvBU (by omega) (by omega) ?_ | refine len8 ?_ | refine len36 ?_ | refine pick_T ?_ | refine pick_F ?_ | refine cond_T ?_ | refine cond_F ?_ | refine cond_t (by omega) ?_ | refine cond_f (by omega) ?_ | refine gsel_T ?_ | refine gsel_F ?_ | refine gsel_Tn ?_ | refine gsel_Fn ?_ | refine gsel_U ?_ | refine gsel_pt (by omega) ?_ | refine gsel_pf (by omega) ?_ | refine gsel_nt (by omega) ?_ | refine gsel_nf (by omega) ?_ | refine pick_t (by omega) ?_ | refine pick_f (by omega) ?_ | refine sti_of (fun _ hK => bin_eql hK) ?_ | refine sti_of (fun _ hK => bin_neq hK) ?_ | refine sti_of (fun _ hK => bin_lss hK) ?_ | refine sti_of (fun _ hK => bin_leq hK) ?_ | refine sti_of (fun _ hK => bin_gtr hK) ?_ | refine sti_of (fun _ hK => bin_geq hK) ?_ | refine sti_of (fun _ hK => add64 (by omega) (by omega) hK) ?_ | refine sti_of (fun _ hK => sub64 (by omega) (by omega) hK) ?_ | refine sti_of (fun _ hK => un_notD hK) ?_ | refine sti_of (fun _ hK => len8 hK) ?_ | refine sti_of (fun _ hK => pick_T hK) ?_ | refine sti_of (fun _ hK => pick_F hK) ?_))
  refine works_c ?_
  intro w10 b10
  (repeat (first | refine bin_eql ?_ | refine bin_neq ?_ | refine bin_lss ?_ | refine bin_leq ?_ | refine bin_gtr ?_ | refine bin_geq ?_ | refine add64 (by omega) (by omega) ?_ | refine sub64 (by omega) (by omega) ?_ | refine ext_a ?_ | refine ext_b ?_ | refine ext3_a ?_ | refine ext3_b ?_ | refine ext3_c ?_ | refine un_notD ?_ | refine mul64 (by omega) (by omega) ?_ | refine cvIU (by omega) (by omega) ?_ | refine cvIUint (by omega) (by omega) ?_ | refine cvUI (by omega) (by omega) ?_ | refine cvBU (by omega) (by omega) ?_ | refine len8 ?_ | refine len36 ?_ | refine pick_T ?_ | refine pick_F ?_ | refine cond_T ?_ | refine cond_F ?_ | refine cond_t (by omega) ?_ | refine cond_f (by omega) ?_ | refine gsel_T ?_ | refine gsel_F ?_ | refine gsel_Tn ?_ | refine gsel_Fn ?_ | refine gsel_U ?_ | refine gsel_pt (by omega) ?_ | refine gsel_pf (by omega) ?_ | refine gsel_nt (by omega) ?_ | refine gsel_nf (by omega) ?_ | refine pick_t (by omega) ?_ | refine pick_f (by omega) ?_ | refine sti_of (fun _ hK => bin_eql hK) ?_ | refine sti_of (fun _ hK => bin_neq hK) ?_ | refine sti_of (fun _ hK => bin_lss hK) ?_ | refine sti_of (fun _ hK => bin_leq hK) ?_ | refine sti_of (fun _ hK => bin_gtr hK) ?_ | refine sti_of (fun _ hK => bin_geq hK) ?_ | refine sti_of (fun _ hK => add64 (by omega) (by omega) hK) ?_ | refine sti_of (fun _ hK => sub64 (by omega) (by omega) hK) ?_ | refine sti_of (fun _ hK => un_notD hK) ?_ | refine sti_of (fun _ hK => len8 hK) ?_ | refine sti_of (fun _ hK => pick_T hK) ?_ | refine sti_of (fun _ hK => pick_F hK) ?_))
  exact h _ (B9.trans (b10.mono B9.size))
end

set_option maxRecDepth 100000 in
theorem frameReads_contract (H : Type) (enc : TypeId × Value → H) (W : World) (base : Nat) (args : Array Value) (ds gs : List (DataW H)) (before : List MemPlace)
    (hval0 : ∀ (j : Nat) t v, Try.f3.params[j]? = some t → args[j]? = some v → Value.okWide Try.prog W .any base t v)
    (hW : DataW.Whole enc Try.prog Try.f3.params.toList Rows.frameReadsSpec.vars false W args.toList ds gs before) :
    Calls Try.prog 3 args W fun e W' => ∃ v, e = .returned v ∧ Rows.frameReadsSpec.post enc Try.prog Try.f3 false true false false W args v W' := by
  have hval := hval0
  have hW' := hW
  obtain ⟨p, q, hA0, hV, rfl, hfz, hnd⟩ := hW
  have hA : DataW.TrodAll enc Try.prog W 0 (fun _ => true) true Try.f3.params.toList args.toList ds p := hA0
  rw [Try.params3] at hA hval
  obtain ⟨v0, vs0, d0, ds0, p0, q0, hargs, rfl, rfl, h0, r0⟩ := trodAll_cons hA
  obtain ⟨rfl, rfl, rfl⟩ := trodAll_nil r0
  obtain rfl : args = #[v0] := by cases args; simp_all
  obtain ⟨rfl, rfl⟩ := trodVars_none hV
  obtain ⟨a0, n0, c0, rfl⟩ := okWide_slice Try.underlying22 (hval 0 22 v0 rfl rfl)
  have k0 := h0
  have lt0 : ∀ x ∈ p0, x.block < W.heap.size := by obtain ⟨m, hm⟩ := k0; exact DataW.trod_lt m _ _ _ hm
  obtain ⟨⟨l0, rb0⟩, hle0, hmx0⟩ : (∃ l, RB W a0 n0 c0 l) ∧ n0 ≤ c0 ∧ c0 ≤ 9223372036854775807 := by
    obtain ⟨fuel, hf⟩ := h0
    exact rb_of_trod (by rfl) hf
  clear hA0 hval0 hval
  have hcalls : Calls Try.prog 3 #[.slice a0 n0 c0] W fun e w' => e = .returned (.bool true) ∧ Below W.heap.size W w' := by
    exact calls_of (reads_law rb0 (by omega) (fun w' hb' => ⟨rfl, hb'⟩))
  refine hcalls.mono fun e W' ⟨he, bel⟩ => ?_
  subst he
  exact ⟨_, rfl, _, _, _, [], _, [], hW', trodAll_mk1 (shut_bool Try.underlying4 _), (trodAll_cons_mk (Below.trod frame_laid (by kernel_rfl) (of_decide_eq_true (by kernel_rfl)) k0 bel lt0) trodAll_mk0), rfl, bel.frame _, fun h => by cases h⟩

set_option maxRecDepth 100000 in
theorem frameReads_lifted (os : Os) (started : os.Started) (H : Type) (enc : TypeId × Value → H) :
    ReturnsInHanded {} Try.checked os 3 .any (Rows.frameReadsSpec.pre6 enc Try.prog Try.f3 Rows.frameReadsRow.domain false) (Rows.frameReadsSpec.post enc Try.prog Try.f3 false true false false) := by
  refine returnsInHanded_of_change (C := Try.checked) frame_own started (by kernel_rfl) Try.func3
    (ChangeSpec.witness6 (enc := enc) (C := Try.checked) false ⟨#[], #[.slice none 0 0], []⟩ 8 (by kernel_rfl) (by kernel_rfl) (by kernel_rfl) (by kernel_rfl)) ?_
  intro W base args ds gs before hval hW _ _
  exact frameReads_contract H enc W base args ds gs before hval hW

theorem frameReads_proved : Rows.FrameReadsSaid :=
  OpenClaim.holds_of_wide 3 Try.f3 rfl rfl rfl rfl rfl rfl rfl ⟨rfl, rfl, rfl, rfl, rfl⟩ rfl rfl rfl rfl rfl (by kernel_rfl) Try.func3 (by kernel_rfl)
    (of_decide_eq_true (by kernel_rfl)) (by unfold Func.isWrapper; first | (rw [if_pos (by decide +kernel)]; kernel_rfl) | (rw [if_neg (by decide +kernel)]; exact ⟨rfl, rfl⟩))
    (fun os started H enc _ => frameReads_lifted os started H enc)

end Go.Proofs.Ytccllogpakmjcaa
