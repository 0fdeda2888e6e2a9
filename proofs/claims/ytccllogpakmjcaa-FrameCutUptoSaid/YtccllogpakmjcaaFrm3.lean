/- Frames, on: Take and All of the program; the reference's functions. -/
import Derived.Test.YtccllogpakmjcaaFrm2
namespace Go.Proofs.Ytccllogpakmjcaa
open Go.RowKit

/-- P3.2: all records, and where they end. -/
def allB (b : List UInt8) : List (List UInt8) × Nat := allF b (b.length + 1) 0

theorem recF_some {b : List UInt8} {q : Nat} {s : List UInt8} {q2 : Nat} (h : recF b q = some (s, q2)) : q2 = q + 8 + s.length ∧ q2 ≤ b.length ∧ s.length ≤ 4096 ∧ s = (b.drop (q + 8)).take s.length ∧ s.length = beNat ((b.drop q).take 4) ∧ (crcS 0 (beBytes s.length 4 ++ s)).toNat = beNat ((b.drop (q + 4)).take 4) := by
  unfold recF at h
  split at h
  · rename_i hc
    obtain ⟨c1, c2, c3, c4⟩ := hc
    simp only [Option.some.injEq, Prod.mk.injEq] at h
    obtain ⟨rfl, rfl⟩ := h
    have hl : ((b.drop (q + 8)).take (beNat ((b.drop q).take 4))).length = beNat ((b.drop q).take 4) := by rw [List.length_take, List.length_drop]; omega
    rw [hl]
    exact ⟨rfl, by omega, c2, rfl, rfl, c4⟩
  · cases h

section
attribute [local irreducible] bin un conv call callV blt slc fldA fld idxA idx lkp mUpd mEnt eSt rng nxt ent ext alc box bld bldS ld sto nilC mkMap mkS ifc pick rdy wts gsel sti cond retM Gives cCode cGrp cSeq cOp

theorem OBB.keep {T : List TypeId} {B B2 : Nat} {w w' : World} {a : Option Addr} {n c : Nat} {vs : List (Option Addr × Nat × Nat)} {L : List (List UInt8)} (h : OBB w B2 a n c vs L) (hk : Keep T B w w') (h1 : 5 ∉ T) (h2 : 22 ∉ T) : OBB w' B2 a n c vs L := by
  refine ⟨⟨h.row.1, ?_⟩, h.len, fun i v l hv hl => (h.each i v l hv hl).keep hk h1⟩
  rcases h.row.2 with h3 | ⟨g, cap, cur, hv, hb, hh, r⟩
  · exact .inl h3
  · exact .inr ⟨g, cap, cur, hv, hb, hk.block _ _ hh (.inr fun cs E' z e => by cases e; exact h2), r⟩
theorem FR.keep {T : List TypeId} {B B2 p q : Nat} {w w' : World} {b : List UInt8} (h : FR w B2 p b q) (hk : Keep T B w w') (h1 : 5 ∉ T) (h2 : 50 ∉ T) : FR w' B2 p b q := by
  obtain ⟨v, hb, ho, r⟩ := h
  exact ⟨v, hk.blk hb (.inr h2), ho.keep hk h1, r⟩
theorem FR.below {B p q : Nat} {w w' : World} {b : List UInt8} (h : FR w B p b q) (hb : Below w.heap.size w w') : FR w' B p b q := h.keep (Keep.of hb : Keep [] 0 w w') (by simp) (by simp)

theorem ftake_c {a : Option Addr} {n c : Nat} {b : List UInt8} {at_ : Int} {w : World} {K : KV} (hr : RB w a n c b) (hn : n ≤ 4294967296)
    (h : ∀ a' n' c' w', OB w' w.heap.size a' n' c' (takeF b at_).1 → Below w.heap.size w w' → K (.tuple #[.slice a' n' c', .int .i64 (takeF b at_).2.1, .int .i64 (takeF b at_).2.2]) w') :
    call Try.prog 19 #[.slice a n c, .int .i64 at_] K w := by
  have hl := hr.len
  refine call_of frame_Take_go (frame_Take_in ?_)
  by_cases h0 : at_ < 0
  · rw [show takeF b at_ = ([], 0, 1) by simp [takeF, h0]] at h
    (repeat (first | refine bin_eql ?_ | refine bin_neq ?_ | refine bin_lss ?_ | refine bin_leq ?_ | refine bin_gtr ?_ | refine bin_geq ?_ | refine add64 (by omega) (by omega) ?_ | refine sub64 (by omega) (by omega) ?_ | refine ext_a ?_ | refine ext_b ?_ | refine ext3_a ?_ | refine ext3_b ?_ | refine ext3_c ?_ | refine un_notD ?_ | refine mul64 (by omega) (by omega) ?_ | refine cvIU (by omega) (by omega) ?_ | refine cvIUint (by omega) (by omega) ?_ | refine cvUI (by omega) (by omega) ?_ | refine cvBU (by omega) (by omega) ?_ | refine len8 ?_ | refine len36 ?_ | refine pick_T ?_ | refine pick_F ?_ | refine cond_T ?_ | refine cond_F ?_ | refine cond_t (by omega) ?_ | refine cond_f (by omega) ?_ | refine gsel_T ?_ | refine gsel_F ?_ | refine gsel_Tn ?_ | refine gsel_Fn ?_ | refine gsel_U ?_ | refine gsel_pt (by omega) ?_ | refine gsel_pf (by omega) ?_ | refine gsel_nt (by omega) ?_ | refine gsel_nf (by omega) ?_ | refine pick_t (by omega) ?_ | refine pick_f (by omega) ?_ | refine sti_of (fun _ hK => bin_eql hK) ?_ | refine sti_of (fun _ hK => bin_neq hK) ?_ | refine sti_of (fun _ hK => bin_lss hK) ?_ | refine sti_of (fun _ hK => bin_leq hK) ?_ | refine sti_of (fun _ hK => bin_gtr hK) ?_ | refine sti_of (fun _ hK => bin_geq hK) ?_ | refine sti_of (fun _ hK => add64 (by omega) (by omega) hK) ?_ | refine sti_of (fun _ hK => sub64 (by omega) (by omega) hK) ?_ | refine sti_of (fun _ hK => un_notD hK) ?_ | refine sti_of (fun _ hK => len8 hK) ?_ | refine sti_of (fun _ hK => pick_T hK) ?_ | refine sti_of (fun _ hK => pick_F hK) ?_))
    exact h _ _ _ _ (OB.nil _ _) (Below.refl _ _)
  by_cases h1 : (n : Int) < at_
  · rw [show takeF b at_ = ([], 0, 1) by unfold takeF; rw [if_pos (by omega)]] at h
    (repeat (first | refine bin_eql ?_ | refine bin_neq ?_ | refine bin_lss ?_ | refine bin_leq ?_ | refine bin_gtr ?_ | refine bin_geq ?_ | refine add64 (by omega) (by omega) ?_ | refine sub64 (by omega) (by omega) ?_ | refine ext_a ?_ | refine ext_b ?_ | refine ext3_a ?_ | refine ext3_b ?_ | refine ext3_c ?_ | refine un_notD ?_ | refine mul64 (by omega) (by omega) ?_ | refine cvIU (by omega) (by omega) ?_ | refine cvIUint (by omega) (by omega) ?_ | refine cvUI (by omega) (by omega) ?_ | refine cvBU (by omega) (by omega) ?_ | refine len8 ?_ | refine len36 ?_ | refine pick_T ?_ | refine pick_F ?_ | refine cond_T ?_ | refine cond_F ?_ | refine cond_t (by omega) ?_ | refine cond_f (by omega) ?_ | refine gsel_T ?_ | refine gsel_F ?_ | refine gsel_Tn ?_ | refine gsel_Fn ?_ | refine gsel_U ?_ | refine gsel_pt (by omega) ?_ | refine gsel_pf (by omega) ?_ | refine gsel_nt (by omega) ?_ | refine gsel_nf (by omega) ?_ | refine pick_t (by omega) ?_ | refine pick_f (by omega) ?_ | refine sti_of (fun _ hK => bin_eql hK) ?_ | refine sti_of (fun _ hK => bin_neq hK) ?_ | refine sti_of (fun _ hK => bin_lss hK) ?_ | refine sti_of (fun _ hK => bin_leq hK) ?_ | refine sti_of (fun _ hK => bin_gtr hK) ?_ | refine sti_of (fun _ hK => bin_geq hK) ?_ | refine sti_of (fun _ hK => add64 (by omega) (by omega) hK) ?_ | refine sti_of (fun _ hK => sub64 (by omega) (by omega) hK) ?_ | refine sti_of (fun _ hK => un_notD hK) ?_ | refine sti_of (fun _ hK => len8 hK) ?_ | refine sti_of (fun _ hK => pick_T hK) ?_ | refine sti_of (fun _ hK => pick_F hK) ?_))
    exact h _ _ _ _ (OB.nil _ _) (Below.refl _ _)
  obtain ⟨q, rfl⟩ := Int.eq_ofNat_of_zero_le (show 0 ≤ at_ by omega)
  have ht : takeF b (q : Nat) = match recF b q with | none => ([], 0, 5) | some (s, q) => (s, q, 0) := by
    unfold takeF; rw [if_neg (by omega)]; rfl
  (repeat (first | refine bin_eql ?_ | refine bin_neq ?_ | refine bin_lss ?_ | refine bin_leq ?_ | refine bin_gtr ?_ | refine bin_geq ?_ | refine add64 (by omega) (by omega) ?_ | refine sub64 (by omega) (by omega) ?_ | refine ext_a ?_ | refine ext_b ?_ | refine ext3_a ?_ | refine ext3_b ?_ | refine ext3_c ?_ | refine un_notD ?_ | refine mul64 (by omega) (by omega) ?_ | refine cvIU (by omega) (by omega) ?_ | refine cvIUint (by omega) (by omega) ?_ | refine cvUI (by omega) (by omega) ?_ | refine cvBU (by omega) (by omega) ?_ | refine len8 ?_ | refine len36 ?_ | refine pick_T ?_ | refine pick_F ?_ | refine cond_T ?_ | refine cond_F ?_ | refine cond_t (by omega) ?_ | refine cond_f (by omega) ?_ | refine gsel_T ?_ | refine gsel_F ?_ | refine gsel_Tn ?_ | refine gsel_Fn ?_ | refine gsel_U ?_ | refine gsel_pt (by omega) ?_ | refine gsel_pf (by omega) ?_ | refine gsel_nt (by omega) ?_ | refine gsel_nf (by omega) ?_ | refine pick_t (by omega) ?_ | refine pick_f (by omega) ?_ | refine sti_of (fun _ hK => bin_eql hK) ?_ | refine sti_of (fun _ hK => bin_neq hK) ?_ | refine sti_of (fun _ hK => bin_lss hK) ?_ | refine sti_of (fun _ hK => bin_leq hK) ?_ | refine sti_of (fun _ hK => bin_gtr hK) ?_ | refine sti_of (fun _ hK => bin_geq hK) ?_ | refine sti_of (fun _ hK => add64 (by omega) (by omega) hK) ?_ | refine sti_of (fun _ hK => sub64 (by omega) (by omega) hK) ?_ | refine sti_of (fun _ hK => un_notD hK) ?_ | refine sti_of (fun _ hK => len8 hK) ?_ | refine sti_of (fun _ hK => pick_T hK) ?_ | refine sti_of (fun _ hK => pick_F hK) ?_))
  refine bld_of (vs := [slv (a, n, c), .int .i64 (q : Nat)]) (by kernel_rfl) ?_
  refine box_of ?_
  intro w1 hb1 b1 s1
  have hb1 : blk w1 w.heap.size 48 [slv (a, n, c), .int .i64 (q : Nat)] := hb1
  have r1 := hr.below b1 (Nat.le_refl _)
  refine precord_c (v := (a, n, c)) (b := b) (q := q) hb1 r1 (by show n ≤ _; omega) (by omega) ?_ ?_ ?_
  · intro h0 ad ha
    have := hr.rv.blk 0 h0
    rw [show a = some ad from ha] at this
    have : ad.block < w.heap.size := this
    omega
  · intro hrec w2 b2 hb2
    have ht : takeF b (q : Nat) = ([], 0, 5) := by rw [ht, hrec]
    rw [ht] at h
    (repeat (first | refine frame_Take_A1_r ?_ | refine bin_eql ?_ | refine bin_neq ?_ | refine bin_lss ?_ | refine bin_leq ?_ | refine bin_gtr ?_ | refine bin_geq ?_ | refine add64 (by omega) (by omega) ?_ | refine sub64 (by omega) (by omega) ?_ | refine ext_a ?_ | refine ext_b ?_ | refine ext3_a ?_ | refine ext3_b ?_ | refine ext3_c ?_ | refine un_notD ?_ | refine mul64 (by omega) (by omega) ?_ | refine cvIU (by omega) (by omega) ?_ | refine cvIUint (by omega) (by omega) ?_ | refine cvUI (by omega) (by omega) ?_ | refine cvBU (by omega) (by omega) ?_ | refine len8 ?_ | refine len36 ?_ | refine pick_T ?_ | refine pick_F ?_ | refine cond_T ?_ | refine cond_F ?_ | refine cond_t (by omega) ?_ | refine cond_f (by omega) ?_ | refine gsel_T ?_ | refine gsel_F ?_ | refine gsel_Tn ?_ | refine gsel_Fn ?_ | refine gsel_U ?_ | refine gsel_pt (by omega) ?_ | refine gsel_pf (by omega) ?_ | refine gsel_nt (by omega) ?_ | refine gsel_nf (by omega) ?_ | refine pick_t (by omega) ?_ | refine pick_f (by omega) ?_ | refine sti_of (fun _ hK => bin_eql hK) ?_ | refine sti_of (fun _ hK => bin_neq hK) ?_ | refine sti_of (fun _ hK => bin_lss hK) ?_ | refine sti_of (fun _ hK => bin_leq hK) ?_ | refine sti_of (fun _ hK => bin_gtr hK) ?_ | refine sti_of (fun _ hK => bin_geq hK) ?_ | refine sti_of (fun _ hK => add64 (by omega) (by omega) hK) ?_ | refine sti_of (fun _ hK => sub64 (by omega) (by omega) hK) ?_ | refine sti_of (fun _ hK => un_notD hK) ?_ | refine sti_of (fun _ hK => len8 hK) ?_ | refine sti_of (fun _ hK => pick_T hK) ?_ | refine sti_of (fun _ hK => pick_F hK) ?_))
    refine un_not ?_
    (repeat (first | refine bin_eql ?_ | refine bin_neq ?_ | refine bin_lss ?_ | refine bin_leq ?_ | refine bin_gtr ?_ | refine bin_geq ?_ | refine add64 (by omega) (by omega) ?_ | refine sub64 (by omega) (by omega) ?_ | refine ext_a ?_ | refine ext_b ?_ | refine ext3_a ?_ | refine ext3_b ?_ | refine ext3_c ?_ | refine un_notD ?_ | refine mul64 (by omega) (by omega) ?_ | refine cvIU (by omega) (by omega) ?_ | refine cvIUint (by omega) (by omega) ?_ | refine cvUI (by omega) (by omega) ?_ | refine cvBU (by omega) (by omega) ?_ | refine len8 ?_ | refine len36 ?_ | refine pick_T ?_ | refine pick_F ?_ | refine cond_T ?_ | refine cond_F ?_ | refine cond_t (by omega) ?_ | refine cond_f (by omega) ?_ | refine gsel_T ?_ | refine gsel_F ?_ | refine gsel_Tn ?_ | refine gsel_Fn ?_ | refine gsel_U ?_ | refine gsel_pt (by omega) ?_ | refine gsel_pf (by omega) ?_ | refine gsel_nt (by omega) ?_ | refine gsel_nf (by omega) ?_ | refine pick_t (by omega) ?_ | refine pick_f (by omega) ?_ | refine sti_of (fun _ hK => bin_eql hK) ?_ | refine sti_of (fun _ hK => bin_neq hK) ?_ | refine sti_of (fun _ hK => bin_lss hK) ?_ | refine sti_of (fun _ hK => bin_leq hK) ?_ | refine sti_of (fun _ hK => bin_gtr hK) ?_ | refine sti_of (fun _ hK => bin_geq hK) ?_ | refine sti_of (fun _ hK => add64 (by omega) (by omega) hK) ?_ | refine sti_of (fun _ hK => sub64 (by omega) (by omega) hK) ?_ | refine sti_of (fun _ hK => un_notD hK) ?_ | refine sti_of (fun _ hK => len8 hK) ?_ | refine sti_of (fun _ hK => pick_T hK) ?_ | refine sti_of (fun _ hK => pick_F hK) ?_))
    exact h _ _ _ _ (OB.nil _ _) (b1.trans (b2.mono b1.size))
  · intro s q2 hrec a2 n2 c2 w2 o2 hb2 k2
    have ht : takeF b (q : Nat) = (s, (q2 : Int), 0) := by rw [ht, hrec]
    rw [ht] at h
    (repeat (first | refine frame_Take_A1_r ?_ | refine bin_eql ?_ | refine bin_neq ?_ | refine bin_lss ?_ | refine bin_leq ?_ | refine bin_gtr ?_ | refine bin_geq ?_ | refine add64 (by omega) (by omega) ?_ | refine sub64 (by omega) (by omega) ?_ | refine ext_a ?_ | refine ext_b ?_ | refine ext3_a ?_ | refine ext3_b ?_ | refine ext3_c ?_ | refine un_notD ?_ | refine mul64 (by omega) (by omega) ?_ | refine cvIU (by omega) (by omega) ?_ | refine cvIUint (by omega) (by omega) ?_ | refine cvUI (by omega) (by omega) ?_ | refine cvBU (by omega) (by omega) ?_ | refine len8 ?_ | refine len36 ?_ | refine pick_T ?_ | refine pick_F ?_ | refine cond_T ?_ | refine cond_F ?_ | refine cond_t (by omega) ?_ | refine cond_f (by omega) ?_ | refine gsel_T ?_ | refine gsel_F ?_ | refine gsel_Tn ?_ | refine gsel_Fn ?_ | refine gsel_U ?_ | refine gsel_pt (by omega) ?_ | refine gsel_pf (by omega) ?_ | refine gsel_nt (by omega) ?_ | refine gsel_nf (by omega) ?_ | refine pick_t (by omega) ?_ | refine pick_f (by omega) ?_ | refine sti_of (fun _ hK => bin_eql hK) ?_ | refine sti_of (fun _ hK => bin_neq hK) ?_ | refine sti_of (fun _ hK => bin_lss hK) ?_ | refine sti_of (fun _ hK => bin_leq hK) ?_ | refine sti_of (fun _ hK => bin_gtr hK) ?_ | refine sti_of (fun _ hK => bin_geq hK) ?_ | refine sti_of (fun _ hK => add64 (by omega) (by omega) hK) ?_ | refine sti_of (fun _ hK => sub64 (by omega) (by omega) hK) ?_ | refine sti_of (fun _ hK => un_notD hK) ?_ | refine sti_of (fun _ hK => len8 hK) ?_ | refine sti_of (fun _ hK => pick_T hK) ?_ | refine sti_of (fun _ hK => pick_F hK) ?_))
    refine un_not ?_
    (repeat (first | refine bin_eql ?_ | refine bin_neq ?_ | refine bin_lss ?_ | refine bin_leq ?_ | refine bin_gtr ?_ | refine bin_geq ?_ | refine add64 (by omega) (by omega) ?_ | refine sub64 (by omega) (by omega) ?_ | refine ext_a ?_ | refine ext_b ?_ | refine ext3_a ?_ | refine ext3_b ?_ | refine ext3_c ?_ | refine un_notD ?_ | refine mul64 (by omega) (by omega) ?_ | refine cvIU (by omega) (by omega) ?_ | refine cvIUint (by omega) (by omega) ?_ | refine cvUI (by omega) (by omega) ?_ | refine cvBU (by omega) (by omega) ?_ | refine len8 ?_ | refine len36 ?_ | refine pick_T ?_ | refine pick_F ?_ | refine cond_T ?_ | refine cond_F ?_ | refine cond_t (by omega) ?_ | refine cond_f (by omega) ?_ | refine gsel_T ?_ | refine gsel_F ?_ | refine gsel_Tn ?_ | refine gsel_Fn ?_ | refine gsel_U ?_ | refine gsel_pt (by omega) ?_ | refine gsel_pf (by omega) ?_ | refine gsel_nt (by omega) ?_ | refine gsel_nf (by omega) ?_ | refine pick_t (by omega) ?_ | refine pick_f (by omega) ?_ | refine sti_of (fun _ hK => bin_eql hK) ?_ | refine sti_of (fun _ hK => bin_neq hK) ?_ | refine sti_of (fun _ hK => bin_lss hK) ?_ | refine sti_of (fun _ hK => bin_leq hK) ?_ | refine sti_of (fun _ hK => bin_gtr hK) ?_ | refine sti_of (fun _ hK => bin_geq hK) ?_ | refine sti_of (fun _ hK => add64 (by omega) (by omega) hK) ?_ | refine sti_of (fun _ hK => sub64 (by omega) (by omega) hK) ?_ | refine sti_of (fun _ hK => un_notD hK) ?_ | refine sti_of (fun _ hK => len8 hK) ?_ | refine sti_of (fun _ hK => pick_T hK) ?_ | refine sti_of (fun _ hK => pick_F hK) ?_))
    refine sti_of (fun K hK => nilC_p hK) ?_
    refine sti_of (fun K hK => fA_place_1 hK) ?_
    refine sti_of (fun K hK => ldPA hb2.drew hK) ?_
    have bd : Below w2.heap.size w2 w2.drew := (Below.refl _ w2).drew
    exact h _ _ _ _ (OB.below (OV.mono o2 b1.size) bd (Nat.le_refl _)) ((b1.trans (k2.below (by omega))).drew)

theorem obb_len {w : World} {B : Nat} {a : Option Addr} {n c : Nat} {vs : List (Option Addr × Nat × Nat)} {L : List (List UInt8)} (h : OBB w B a n c vs L) : L.length = n := h.rbb.lenL

set_option maxHeartbeats 1000000 in
theorem fall_c {a : Option Addr} {n c : Nat} {b : List UInt8} {w : World} {K : KV} (hr : RB w a n c b) (hn : n ≤ 4294967296)
    (h : ∀ a' n' c' vs w', OBB w' w.heap.size a' n' c' vs (allB b).1 → Below w.heap.size w w' → K (.tuple #[.slice a' n' c', .int .i64 (allB b).2]) w') :
    call Try.prog 10 #[.slice a n c] K w := by
  have hl := hr.len
  refine call_of frame_All_go (frame_All_in ?_)
  refine fnew_c hr hn ?_
  intro p w1 f1 b1
  refine frame_All_L1_r (Inv := fun x wr => ∃ (a' : Option Addr) (n' c' : Nat) (vs : List (Option Addr × Nat × Nat)) (L : List (List UInt8)) (f q : Nat), x = .slice a' n' c' ∧ OBB wr w.heap.size a' n' c' vs L ∧ FR wr w.heap.size p b q ∧ Below w.heap.size w wr ∧
      q ≤ b.length ∧ b.length < q + f ∧ 8 * L.length ≤ q ∧ allB b = (L ++ (allF b f q).1, (allF b f q).2)) (μ := fun x _ => match x with | .slice _ n' _ => 4294967297 - n' | _ => 0) ⟨none, 0, 0, [], [], b.length + 1, 0, rfl, OBB.nil _ _, f1, b1, by omega, by omega, by simp, by simp [allB]⟩ ?_
  rintro _ _ w2 m ⟨a2, n2, c2, vs, L, f, q, rfl, hL, hf, b2, hq, hfu, h8, hall⟩ hm
  obtain ⟨f', rfl⟩ : ∃ f', f = f' + 1 := ⟨f - 1, by omega⟩
  have hLl := obb_len hL
  refine fnext_c hf ?_ ?_
  · intro hrec w3 b3 f3
    have hall' : allB b = (L, q) := by rw [hall]; simp [allF, hrec]
    rw [hall'] at h
    (repeat (first | refine bin_eql ?_ | refine bin_neq ?_ | refine bin_lss ?_ | refine bin_leq ?_ | refine bin_gtr ?_ | refine bin_geq ?_ | refine add64 (by omega) (by omega) ?_ | refine sub64 (by omega) (by omega) ?_ | refine ext_a ?_ | refine ext_b ?_ | refine ext3_a ?_ | refine ext3_b ?_ | refine ext3_c ?_ | refine un_notD ?_ | refine mul64 (by omega) (by omega) ?_ | refine cvIU (by omega) (by omega) ?_ | refine cvIUint (by omega) (by omega) ?_ | refine cvUI (by omega) (by omega) ?_ | refine cvBU (by omega) (by omega) ?_ | refine len8 ?_ | refine len36 ?_ | refine pick_T ?_ | refine pick_F ?_ | refine cond_T ?_ | refine cond_F ?_ | refine cond_t (by omega) ?_ | refine cond_f (by omega) ?_ | refine gsel_T ?_ | refine gsel_F ?_ | refine gsel_Tn ?_ | refine gsel_Fn ?_ | refine gsel_U ?_ | refine gsel_pt (by omega) ?_ | refine gsel_pf (by omega) ?_ | refine gsel_nt (by omega) ?_ | refine gsel_nf (by omega) ?_ | refine pick_t (by omega) ?_ | refine pick_f (by omega) ?_ | refine sti_of (fun _ hK => bin_eql hK) ?_ | refine sti_of (fun _ hK => bin_neq hK) ?_ | refine sti_of (fun _ hK => bin_lss hK) ?_ | refine sti_of (fun _ hK => bin_leq hK) ?_ | refine sti_of (fun _ hK => bin_gtr hK) ?_ | refine sti_of (fun _ hK => bin_geq hK) ?_ | refine sti_of (fun _ hK => add64 (by omega) (by omega) hK) ?_ | refine sti_of (fun _ hK => sub64 (by omega) (by omega) hK) ?_ | refine sti_of (fun _ hK => un_notD hK) ?_ | refine sti_of (fun _ hK => len8 hK) ?_ | refine sti_of (fun _ hK => pick_T hK) ?_ | refine sti_of (fun _ hK => pick_F hK) ?_))
    refine un_not ?_
    (repeat (first | refine bin_eql ?_ | refine bin_neq ?_ | refine bin_lss ?_ | refine bin_leq ?_ | refine bin_gtr ?_ | refine bin_geq ?_ | refine add64 (by omega) (by omega) ?_ | refine sub64 (by omega) (by omega) ?_ | refine ext_a ?_ | refine ext_b ?_ | refine ext3_a ?_ | refine ext3_b ?_ | refine ext3_c ?_ | refine un_notD ?_ | refine mul64 (by omega) (by omega) ?_ | refine cvIU (by omega) (by omega) ?_ | refine cvIUint (by omega) (by omega) ?_ | refine cvUI (by omega) (by omega) ?_ | refine cvBU (by omega) (by omega) ?_ | refine len8 ?_ | refine len36 ?_ | refine pick_T ?_ | refine pick_F ?_ | refine cond_T ?_ | refine cond_F ?_ | refine cond_t (by omega) ?_ | refine cond_f (by omega) ?_ | refine gsel_T ?_ | refine gsel_F ?_ | refine gsel_Tn ?_ | refine gsel_Fn ?_ | refine gsel_U ?_ | refine gsel_pt (by omega) ?_ | refine gsel_pf (by omega) ?_ | refine gsel_nt (by omega) ?_ | refine gsel_nf (by omega) ?_ | refine pick_t (by omega) ?_ | refine pick_f (by omega) ?_ | refine sti_of (fun _ hK => bin_eql hK) ?_ | refine sti_of (fun _ hK => bin_neq hK) ?_ | refine sti_of (fun _ hK => bin_lss hK) ?_ | refine sti_of (fun _ hK => bin_leq hK) ?_ | refine sti_of (fun _ hK => bin_gtr hK) ?_ | refine sti_of (fun _ hK => bin_geq hK) ?_ | refine sti_of (fun _ hK => add64 (by omega) (by omega) hK) ?_ | refine sti_of (fun _ hK => sub64 (by omega) (by omega) hK) ?_ | refine sti_of (fun _ hK => un_notD hK) ?_ | refine sti_of (fun _ hK => len8 hK) ?_ | refine sti_of (fun _ hK => pick_T hK) ?_ | refine sti_of (fun _ hK => pick_F hK) ?_))
    refine fat_c f3 ?_
    (repeat (first | refine bin_eql ?_ | refine bin_neq ?_ | refine bin_lss ?_ | refine bin_leq ?_ | refine bin_gtr ?_ | refine bin_geq ?_ | refine add64 (by omega) (by omega) ?_ | refine sub64 (by omega) (by omega) ?_ | refine ext_a ?_ | refine ext_b ?_ | refine ext3_a ?_ | refine ext3_b ?_ | refine ext3_c ?_ | refine un_notD ?_ | refine mul64 (by omega) (by omega) ?_ | refine cvIU (by omega) (by omega) ?_ | refine cvIUint (by omega) (by omega) ?_ | refine cvUI (by omega) (by omega) ?_ | refine cvBU (by omega) (by omega) ?_ | refine len8 ?_ | refine len36 ?_ | refine pick_T ?_ | refine pick_F ?_ | refine cond_T ?_ | refine cond_F ?_ | refine cond_t (by omega) ?_ | refine cond_f (by omega) ?_ | refine gsel_T ?_ | refine gsel_F ?_ | refine gsel_Tn ?_ | refine gsel_Fn ?_ | refine gsel_U ?_ | refine gsel_pt (by omega) ?_ | refine gsel_pf (by omega) ?_ | refine gsel_nt (by omega) ?_ | refine gsel_nf (by omega) ?_ | refine pick_t (by omega) ?_ | refine pick_f (by omega) ?_ | refine sti_of (fun _ hK => bin_eql hK) ?_ | refine sti_of (fun _ hK => bin_neq hK) ?_ | refine sti_of (fun _ hK => bin_lss hK) ?_ | refine sti_of (fun _ hK => bin_leq hK) ?_ | refine sti_of (fun _ hK => bin_gtr hK) ?_ | refine sti_of (fun _ hK => bin_geq hK) ?_ | refine sti_of (fun _ hK => add64 (by omega) (by omega) hK) ?_ | refine sti_of (fun _ hK => sub64 (by omega) (by omega) hK) ?_ | refine sti_of (fun _ hK => un_notD hK) ?_ | refine sti_of (fun _ hK => len8 hK) ?_ | refine sti_of (fun _ hK => pick_T hK) ?_ | refine sti_of (fun _ hK => pick_F hK) ?_))
    exact h _ _ _ _ _ (hL.below b3 (Nat.le_refl _)) (b2.trans (b3.mono b2.size))
  · intro s q2 hrec a3 n3 c3 w3 o3 f3 k3
    have hs := recF_some hrec
    have hpB : w.heap.size ≤ p := by obtain ⟨v, _, _, hB, _⟩ := hf; exact hB
    have L3 := hL.keep k3 (by decide) (by decide)
    have B3 : Below w.heap.size w w3 := b2.trans ((k3.mono (T' := [50]) (by simp) hpB).below b2.size)
    (repeat (first | refine bin_eql ?_ | refine bin_neq ?_ | refine bin_lss ?_ | refine bin_leq ?_ | refine bin_gtr ?_ | refine bin_geq ?_ | refine add64 (by omega) (by omega) ?_ | refine sub64 (by omega) (by omega) ?_ | refine ext_a ?_ | refine ext_b ?_ | refine ext3_a ?_ | refine ext3_b ?_ | refine ext3_c ?_ | refine un_notD ?_ | refine mul64 (by omega) (by omega) ?_ | refine cvIU (by omega) (by omega) ?_ | refine cvIUint (by omega) (by omega) ?_ | refine cvUI (by omega) (by omega) ?_ | refine cvBU (by omega) (by omega) ?_ | refine len8 ?_ | refine len36 ?_ | refine pick_T ?_ | refine pick_F ?_ | refine cond_T ?_ | refine cond_F ?_ | refine cond_t (by omega) ?_ | refine cond_f (by omega) ?_ | refine gsel_T ?_ | refine gsel_F ?_ | refine gsel_Tn ?_ | refine gsel_Fn ?_ | refine gsel_U ?_ | refine gsel_pt (by omega) ?_ | refine gsel_pf (by omega) ?_ | refine gsel_nt (by omega) ?_ | refine gsel_nf (by omega) ?_ | refine pick_t (by omega) ?_ | refine pick_f (by omega) ?_ | refine sti_of (fun _ hK => bin_eql hK) ?_ | refine sti_of (fun _ hK => bin_neq hK) ?_ | refine sti_of (fun _ hK => bin_lss hK) ?_ | refine sti_of (fun _ hK => bin_leq hK) ?_ | refine sti_of (fun _ hK => bin_gtr hK) ?_ | refine sti_of (fun _ hK => bin_geq hK) ?_ | refine sti_of (fun _ hK => add64 (by omega) (by omega) hK) ?_ | refine sti_of (fun _ hK => sub64 (by omega) (by omega) hK) ?_ | refine sti_of (fun _ hK => un_notD hK) ?_ | refine sti_of (fun _ hK => len8 hK) ?_ | refine sti_of (fun _ hK => pick_T hK) ?_ | refine sti_of (fun _ hK => pick_F hK) ?_))
    refine un_not ?_
    (repeat (first | refine bin_eql ?_ | refine bin_neq ?_ | refine bin_lss ?_ | refine bin_leq ?_ | refine bin_gtr ?_ | refine bin_geq ?_ | refine add64 (by omega) (by omega) ?_ | refine sub64 (by omega) (by omega) ?_ | refine ext_a ?_ | refine ext_b ?_ | refine ext3_a ?_ | refine ext3_b ?_ | refine ext3_c ?_ | refine un_notD ?_ | refine mul64 (by omega) (by omega) ?_ | refine cvIU (by omega) (by omega) ?_ | refine cvIUint (by omega) (by omega) ?_ | refine cvUI (by omega) (by omega) ?_ | refine cvBU (by omega) (by omega) ?_ | refine len8 ?_ | refine len36 ?_ | refine pick_T ?_ | refine pick_F ?_ | refine cond_T ?_ | refine cond_F ?_ | refine cond_t (by omega) ?_ | refine cond_f (by omega) ?_ | refine gsel_T ?_ | refine gsel_F ?_ | refine gsel_Tn ?_ | refine gsel_Fn ?_ | refine gsel_U ?_ | refine gsel_pt (by omega) ?_ | refine gsel_pf (by omega) ?_ | refine gsel_nt (by omega) ?_ | refine gsel_nf (by omega) ?_ | refine pick_t (by omega) ?_ | refine pick_f (by omega) ?_ | refine sti_of (fun _ hK => bin_eql hK) ?_ | refine sti_of (fun _ hK => bin_neq hK) ?_ | refine sti_of (fun _ hK => bin_lss hK) ?_ | refine sti_of (fun _ hK => bin_leq hK) ?_ | refine sti_of (fun _ hK => bin_gtr hK) ?_ | refine sti_of (fun _ hK => bin_geq hK) ?_ | refine sti_of (fun _ hK => add64 (by omega) (by omega) hK) ?_ | refine sti_of (fun _ hK => sub64 (by omega) (by omega) hK) ?_ | refine sti_of (fun _ hK => un_notD hK) ?_ | refine sti_of (fun _ hK => len8 hK) ?_ | refine sti_of (fun _ hK => pick_T hK) ?_ | refine sti_of (fun _ hK => pick_F hK) ?_))
    refine bld36 (v := (a3, n3, c3)) ?_
    intro w4 b4 r4 s4
    have o4 : OB w4 w.heap.size a3 n3 c3 s := OB.below (OV.mono o3 b2.size) b4 (Nat.le_refl _)
    refine push36 (v := (a3, n3, c3)) w.heap.size (L3.below b4 (Nat.le_refl _)) r4 o4 (by omega) (by have := B3.size; omega) ?_
    intro a5 c5 w5 L5 g5
    have k5 : Keep [22] w.heap.size w4 w5 := Keep.grown g5 (L3.below b4 (Nat.le_refl _)).row (by simp) (Nat.le_refl _)
    refine ⟨⟨a5, n2 + 1, c5, _, L ++ [s], f', q2, rfl, L5, (f3.below b4).keep k5 (by decide) (by decide), (B3.trans (b4.mono B3.size)).trans (k5.below (by have := B3.size; omega)), by omega, by omega, by simp; omega, ?_⟩, ?_⟩
    · rw [hall]; simp [allF, hrec]
    · rw [hm]; show 4294967297 - (n2 + 1) < 4294967297 - n2; omega

/-! ## The reference -/
theorem cvUU {x : Nat} {w : World} {K : KV} (h : K (.int .u64 (x : Int)) w) (hx : x < 4294967296) : conv Try.prog 52 56 (.int .u32 (x : Int)) K w := by
  refine conv_int Try.underlying52 Try.underlying56 ?_
  rw [wrap_u64, show (x : Int) % 18446744073709551616 = ((x : Nat) : Int) by omega]; exact h

theorem putS4 (l : List UInt8) {x : Nat} (hx : x < 4294967296) : putS l x 4 = (l ++ beBytes x 4, 0) := by
  unfold putS; rw [if_neg (by decide), if_neg (by show ¬ 256 ^ 4 ≤ x; omega)]; rfl

set_option maxHeartbeats 1000000 in
theorem rframe_c {a : Option Addr} {n c : Nat} {s : List UInt8} {w : World} {K : KV} (hr : RB w a n c s) (hn : n ≤ 2147483648) (h : ∀ a' n' c' w', OB w' w.heap.size a' n' c' (frameB s) → Below w.heap.size w w' → K (.slice a' n' c') w') :
    call Try.prog 26 #[.slice a n c] K w := by
  have hl := hr.len
  refine call_of leatref03_Frame_go (leatref03_Frame_in ?_)
  (repeat (first | refine bin_eql ?_ | refine bin_neq ?_ | refine bin_lss ?_ | refine bin_leq ?_ | refine bin_gtr ?_ | refine bin_geq ?_ | refine add64 (by omega) (by omega) ?_ | refine sub64 (by omega) (by omega) ?_ | refine ext_a ?_ | refine ext_b ?_ | refine ext3_a ?_ | refine ext3_b ?_ | refine ext3_c ?_ | refine un_notD ?_ | refine mul64 (by omega) (by omega) ?_ | refine cvIU (by omega) (by omega) ?_ | refine cvIUint (by omega) (by omega) ?_ | refine cvUI (by omega) (by omega) ?_ | refine cvBU (by omega) (by omega) ?_ | refine len8 ?_ | refine len36 ?_ | refine pick_T ?_ | refine pick_F ?_ | refine cond_T ?_ | refine cond_F ?_ | refine cond_t (by omega) ?_ | refine cond_f (by omega) ?_ | refine gsel_T ?_ | refine gsel_F ?_ | refine gsel_Tn ?_ | refine gsel_Fn ?_ | refine gsel_U ?_ | refine gsel_pt (by omega) ?_ | refine gsel_pf (by omega) ?_ | refine gsel_nt (by omega) ?_ | refine gsel_nf (by omega) ?_ | refine pick_t (by omega) ?_ | refine pick_f (by omega) ?_ | refine sti_of (fun _ hK => bin_eql hK) ?_ | refine sti_of (fun _ hK => bin_neq hK) ?_ | refine sti_of (fun _ hK => bin_lss hK) ?_ | refine sti_of (fun _ hK => bin_leq hK) ?_ | refine sti_of (fun _ hK => bin_gtr hK) ?_ | refine sti_of (fun _ hK => bin_geq hK) ?_ | refine sti_of (fun _ hK => add64 (by omega) (by omega) hK) ?_ | refine sti_of (fun _ hK => sub64 (by omega) (by omega) hK) ?_ | refine sti_of (fun _ hK => un_notD hK) ?_ | refine sti_of (fun _ hK => len8 hK) ?_ | refine sti_of (fun _ hK => pick_T hK) ?_ | refine sti_of (fun _ hK => pick_F hK) ?_))
  refine rput_c (l := []) (k := 4) (x := n) (RV.nil w) (by omega) (by omega) ?_
  rw [putS4 _ (show n < 4294967296 by omega)]
  intro a1 n1 c1 w1 o1 b1
  have h1 := o1.len
  rw [List.nil_append, beBytes_len] at h1
  have S1 := b1.size
  (repeat (first | refine bin_eql ?_ | refine bin_neq ?_ | refine bin_lss ?_ | refine bin_leq ?_ | refine bin_gtr ?_ | refine bin_geq ?_ | refine add64 (by omega) (by omega) ?_ | refine sub64 (by omega) (by omega) ?_ | refine ext_a ?_ | refine ext_b ?_ | refine ext3_a ?_ | refine ext3_b ?_ | refine ext3_c ?_ | refine un_notD ?_ | refine mul64 (by omega) (by omega) ?_ | refine cvIU (by omega) (by omega) ?_ | refine cvIUint (by omega) (by omega) ?_ | refine cvUI (by omega) (by omega) ?_ | refine cvBU (by omega) (by omega) ?_ | refine len8 ?_ | refine len36 ?_ | refine pick_T ?_ | refine pick_F ?_ | refine cond_T ?_ | refine cond_F ?_ | refine cond_t (by omega) ?_ | refine cond_f (by omega) ?_ | refine gsel_T ?_ | refine gsel_F ?_ | refine gsel_Tn ?_ | refine gsel_Fn ?_ | refine gsel_U ?_ | refine gsel_pt (by omega) ?_ | refine gsel_pf (by omega) ?_ | refine gsel_nt (by omega) ?_ | refine gsel_nf (by omega) ?_ | refine pick_t (by omega) ?_ | refine pick_f (by omega) ?_ | refine sti_of (fun _ hK => bin_eql hK) ?_ | refine sti_of (fun _ hK => bin_neq hK) ?_ | refine sti_of (fun _ hK => bin_lss hK) ?_ | refine sti_of (fun _ hK => bin_leq hK) ?_ | refine sti_of (fun _ hK => bin_gtr hK) ?_ | refine sti_of (fun _ hK => bin_geq hK) ?_ | refine sti_of (fun _ hK => add64 (by omega) (by omega) hK) ?_ | refine sti_of (fun _ hK => sub64 (by omega) (by omega) hK) ?_ | refine sti_of (fun _ hK => un_notD hK) ?_ | refine sti_of (fun _ hK => len8 hK) ?_ | refine sti_of (fun _ hK => pick_T hK) ?_ | refine sti_of (fun _ hK => pick_F hK) ?_))
  refine empty8 w1.heap.size (Nat.le_refl _) ?_
  intro a2 w2 o2 b2
  have S2 := b2.size
  refine app8 w1.heap.size o2 (OB.below o1 b2 (Nat.le_refl _)).rb (by omega) S2 ?_
  intro a3 c3 w3 o3 g3
  have B3 : Below w1.heap.size w1 w3 := b2.trans (below_of_grown g3 S2 (fun k hk => (OV.block o2 k hk).1))
  have S3 := B3.size
  refine app8 w1.heap.size o3 (hr.below (b1.trans (B3.mono S1)) (Nat.le_refl _)) (by omega) S3 ?_
  intro a4 c4 w4 o4 g4
  have B4 : Below w1.heap.size w1 w4 := B3.trans (below_of_grown g4 S3 (fun k hk => (OV.block o3 k hk).1))
  have S4 := B4.size
  refine rsum_c o4.rb (by omega) ?_
  refine cvUU ?_ (BitVec.isLt _)
  refine rput_c (k := 4) (OB.below o1 B4 (Nat.le_refl _)).rb (by omega) (by have := (crcS 0 ([] ++ ([] ++ beBytes n 4) ++ s)).isLt; omega) ?_
  rw [putS4 _ (BitVec.isLt _)]
  intro a5 n5 c5 w5 o5 b5
  have h5 := o5.len
  simp only [List.length_append, List.length_nil, beBytes_len] at h5
  have B5 : Below w1.heap.size w1 w5 := B4.trans (b5.mono S4)
  (repeat (first | refine bin_eql ?_ | refine bin_neq ?_ | refine bin_lss ?_ | refine bin_leq ?_ | refine bin_gtr ?_ | refine bin_geq ?_ | refine add64 (by omega) (by omega) ?_ | refine sub64 (by omega) (by omega) ?_ | refine ext_a ?_ | refine ext_b ?_ | refine ext3_a ?_ | refine ext3_b ?_ | refine ext3_c ?_ | refine un_notD ?_ | refine mul64 (by omega) (by omega) ?_ | refine cvIU (by omega) (by omega) ?_ | refine cvIUint (by omega) (by omega) ?_ | refine cvUI (by omega) (by omega) ?_ | refine cvBU (by omega) (by omega) ?_ | refine len8 ?_ | refine len36 ?_ | refine pick_T ?_ | refine pick_F ?_ | refine cond_T ?_ | refine cond_F ?_ | refine cond_t (by omega) ?_ | refine cond_f (by omega) ?_ | refine gsel_T ?_ | refine gsel_F ?_ | refine gsel_Tn ?_ | refine gsel_Fn ?_ | refine gsel_U ?_ | refine gsel_pt (by omega) ?_ | refine gsel_pf (by omega) ?_ | refine gsel_nt (by omega) ?_ | refine gsel_nf (by omega) ?_ | refine pick_t (by omega) ?_ | refine pick_f (by omega) ?_ | refine sti_of (fun _ hK => bin_eql hK) ?_ | refine sti_of (fun _ hK => bin_neq hK) ?_ | refine sti_of (fun _ hK => bin_lss hK) ?_ | refine sti_of (fun _ hK => bin_leq hK) ?_ | refine sti_of (fun _ hK => bin_gtr hK) ?_ | refine sti_of (fun _ hK => bin_geq hK) ?_ | refine sti_of (fun _ hK => add64 (by omega) (by omega) hK) ?_ | refine sti_of (fun _ hK => sub64 (by omega) (by omega) hK) ?_ | refine sti_of (fun _ hK => un_notD hK) ?_ | refine sti_of (fun _ hK => len8 hK) ?_ | refine sti_of (fun _ hK => pick_T hK) ?_ | refine sti_of (fun _ hK => pick_F hK) ?_))
  refine app8 w4.heap.size o5 (hr.below (b1.trans (B5.mono S1)) (Nat.le_refl _)) (by omega) b5.size ?_
  intro a6 c6 w6 o6 g6
  have B6 : Below w.heap.size w w6 := (b1.trans (B5.mono S1)).trans ((below_of_grown g6 b5.size (fun k hk => (OV.block o5 k hk).1) : Below w4.heap.size w5 w6).mono (by omega))
  refine h _ _ _ _ (OV.mono ?_ (show w.heap.size ≤ w4.heap.size by omega)) B6
  have e : frameB s = [] ++ beBytes n 4 ++ beBytes (crcS 0 ([] ++ ([] ++ beBytes n 4) ++ s)).toNat 4 ++ s := by simp [frameB, sumB, hl]
  rw [show (frameB s).map u8v = _ from congrArg (List.map u8v) e]
  exact o6

set_option maxHeartbeats 1000000 in
theorem rput3_c {a : Option Addr} {n c : Nat} {l : List UInt8} {a2 : Option Addr} {n2 c2 : Nat} {vs : List (Option Addr × Nat × Nat)} {L : List (List UInt8)} {w : World} {K : KV} (hb : RB w a n c l) (hL : RBB w a2 n2 c2 vs L) (hn : n ≤ 4294967296) (hn2 : n2 ≤ 4294967296) (hv : vast L ≤ 1000000000000)
    (h : ∀ a' n' c' w', OB w' w.heap.size a' n' c' (putF l L).1 → Below w.heap.size w w' → K (.tuple #[.slice a' n' c', .int .i64 (putF l L).2]) w') :
    call Try.prog 18 #[.slice a n c, .slice a2 n2 c2] K w := by
  have hl := hb.len
  have hlL := hL.lenL
  refine call_of leatref03_Put_go (leatref03_Put_in ?_)
  refine empty8 w.heap.size (Nat.le_refl _) ?_
  intro a0 w0 o0 b0
  refine app8 w.heap.size o0 (hb.below b0 (Nat.le_refl _)) (by omega) b0.size ?_
  intro a1 c1 w1 o1 g1
  have b1 : Below w.heap.size w w1 := b0.trans (below_of_grown g1 b0.size (fun k hk => (OV.block o0 k hk).1))
  rw [List.nil_append, Nat.zero_add] at *
  refine leatref03_Put_L1_r (Inv := fun out i wr => ∃ (j : Nat) (a' : Option Addr) (n' c' : Nat), j ≤ n2 ∧ i = .int .i64 (j : Nat) ∧ out = .slice a' n' c' ∧ OB wr w.heap.size a' n' c' (l ++ framesB (L.take j)) ∧ Below w.heap.size w wr ∧ ∀ s ∈ L.take j, s.length ≤ 4096)
    (μ := fun _ i _ => n2 - (intOf i).toNat) ⟨0, _, _, _, by omega, rfl, rfl, by simpa [framesB] using o1, b1, by simp⟩ ?_
  rintro _ _ _ w2 m ⟨j, a3, n3, c3, hj, rfl, rfl, o3, b3, hs3⟩ hm
  by_cases hjn : j < n2
  · have rd : ∀ (w' : World) (K' : Value → KV), Below w.heap.size w w' → (∀ t v s, vs[j]? = some v → L[j]? = some s → RB w' v.1 v.2.1 v.2.2 s → K' t (.slice v.1 v.2.1 v.2.2) w') → idxA Try.prog 26 (.slice a2 n2 c2) (.int .i64 (j : Nat)) (fun t w => ld Try.prog 22 t (K' t) w) w' := by
      intro w' K' hb' hK
      refine idx36 (hL.below hb' (Nat.le_refl _)) (by omega) (by omega) ?_
      intro v s hvj hsj hc hr
      rw [Int.toNat_natCast] at hvj hsj
      exact ldSl hc (hK _ v s hvj hsj hr)
    (repeat (first | refine bin_eql ?_ | refine bin_neq ?_ | refine bin_lss ?_ | refine bin_leq ?_ | refine bin_gtr ?_ | refine bin_geq ?_ | refine add64 (by omega) (by omega) ?_ | refine sub64 (by omega) (by omega) ?_ | refine ext_a ?_ | refine ext_b ?_ | refine ext3_a ?_ | refine ext3_b ?_ | refine ext3_c ?_ | refine un_notD ?_ | refine mul64 (by omega) (by omega) ?_ | refine cvIU (by omega) (by omega) ?_ | refine cvIUint (by omega) (by omega) ?_ | refine cvUI (by omega) (by omega) ?_ | refine cvBU (by omega) (by omega) ?_ | refine len8 ?_ | refine len36 ?_ | refine pick_T ?_ | refine pick_F ?_ | refine cond_T ?_ | refine cond_F ?_ | refine cond_t (by omega) ?_ | refine cond_f (by omega) ?_ | refine gsel_T ?_ | refine gsel_F ?_ | refine gsel_Tn ?_ | refine gsel_Fn ?_ | refine gsel_U ?_ | refine gsel_pt (by omega) ?_ | refine gsel_pf (by omega) ?_ | refine gsel_nt (by omega) ?_ | refine gsel_nf (by omega) ?_ | refine pick_t (by omega) ?_ | refine pick_f (by omega) ?_ | refine sti_of (fun _ hK => bin_eql hK) ?_ | refine sti_of (fun _ hK => bin_neq hK) ?_ | refine sti_of (fun _ hK => bin_lss hK) ?_ | refine sti_of (fun _ hK => bin_leq hK) ?_ | refine sti_of (fun _ hK => bin_gtr hK) ?_ | refine sti_of (fun _ hK => bin_geq hK) ?_ | refine sti_of (fun _ hK => add64 (by omega) (by omega) hK) ?_ | refine sti_of (fun _ hK => sub64 (by omega) (by omega) hK) ?_ | refine sti_of (fun _ hK => un_notD hK) ?_ | refine sti_of (fun _ hK => len8 hK) ?_ | refine sti_of (fun _ hK => pick_T hK) ?_ | refine sti_of (fun _ hK => pick_F hK) ?_))
    refine rd _ _ b3 fun t v s hvj hsj hr => ?_
    have hsl := hr.len
    have hl3 := o3.len
    rw [List.length_append, framesB_len, List.length_take] at hl3
    have hvj2 := vast_take L j s hsj
    by_cases hbig : 4096 < v.2.1
    · rw [show putF l L = ([], 6) by
        unfold putF
        rw [if_neg]
        intro hall
        have := List.all_eq_true.1 hall s (List.mem_of_getElem? hsj)
        simp at this; omega] at h
      (repeat (first | refine bin_eql ?_ | refine bin_neq ?_ | refine bin_lss ?_ | refine bin_leq ?_ | refine bin_gtr ?_ | refine bin_geq ?_ | refine add64 (by omega) (by omega) ?_ | refine sub64 (by omega) (by omega) ?_ | refine ext_a ?_ | refine ext_b ?_ | refine ext3_a ?_ | refine ext3_b ?_ | refine ext3_c ?_ | refine un_notD ?_ | refine mul64 (by omega) (by omega) ?_ | refine cvIU (by omega) (by omega) ?_ | refine cvIUint (by omega) (by omega) ?_ | refine cvUI (by omega) (by omega) ?_ | refine cvBU (by omega) (by omega) ?_ | refine len8 ?_ | refine len36 ?_ | refine pick_T ?_ | refine pick_F ?_ | refine cond_T ?_ | refine cond_F ?_ | refine cond_t (by omega) ?_ | refine cond_f (by omega) ?_ | refine gsel_T ?_ | refine gsel_F ?_ | refine gsel_Tn ?_ | refine gsel_Fn ?_ | refine gsel_U ?_ | refine gsel_pt (by omega) ?_ | refine gsel_pf (by omega) ?_ | refine gsel_nt (by omega) ?_ | refine gsel_nf (by omega) ?_ | refine pick_t (by omega) ?_ | refine pick_f (by omega) ?_ | refine sti_of (fun _ hK => bin_eql hK) ?_ | refine sti_of (fun _ hK => bin_neq hK) ?_ | refine sti_of (fun _ hK => bin_lss hK) ?_ | refine sti_of (fun _ hK => bin_leq hK) ?_ | refine sti_of (fun _ hK => bin_gtr hK) ?_ | refine sti_of (fun _ hK => bin_geq hK) ?_ | refine sti_of (fun _ hK => add64 (by omega) (by omega) hK) ?_ | refine sti_of (fun _ hK => sub64 (by omega) (by omega) hK) ?_ | refine sti_of (fun _ hK => un_notD hK) ?_ | refine sti_of (fun _ hK => len8 hK) ?_ | refine sti_of (fun _ hK => pick_T hK) ?_ | refine sti_of (fun _ hK => pick_F hK) ?_))
      exact h _ _ _ _ (OB.nil _ _) b3
    · (repeat (first | refine bin_eql ?_ | refine bin_neq ?_ | refine bin_lss ?_ | refine bin_leq ?_ | refine bin_gtr ?_ | refine bin_geq ?_ | refine add64 (by omega) (by omega) ?_ | refine sub64 (by omega) (by omega) ?_ | refine ext_a ?_ | refine ext_b ?_ | refine ext3_a ?_ | refine ext3_b ?_ | refine ext3_c ?_ | refine un_notD ?_ | refine mul64 (by omega) (by omega) ?_ | refine cvIU (by omega) (by omega) ?_ | refine cvIUint (by omega) (by omega) ?_ | refine cvUI (by omega) (by omega) ?_ | refine cvBU (by omega) (by omega) ?_ | refine len8 ?_ | refine len36 ?_ | refine pick_T ?_ | refine pick_F ?_ | refine cond_T ?_ | refine cond_F ?_ | refine cond_t (by omega) ?_ | refine cond_f (by omega) ?_ | refine gsel_T ?_ | refine gsel_F ?_ | refine gsel_Tn ?_ | refine gsel_Fn ?_ | refine gsel_U ?_ | refine gsel_pt (by omega) ?_ | refine gsel_pf (by omega) ?_ | refine gsel_nt (by omega) ?_ | refine gsel_nf (by omega) ?_ | refine pick_t (by omega) ?_ | refine pick_f (by omega) ?_ | refine sti_of (fun _ hK => bin_eql hK) ?_ | refine sti_of (fun _ hK => bin_neq hK) ?_ | refine sti_of (fun _ hK => bin_lss hK) ?_ | refine sti_of (fun _ hK => bin_leq hK) ?_ | refine sti_of (fun _ hK => bin_gtr hK) ?_ | refine sti_of (fun _ hK => bin_geq hK) ?_ | refine sti_of (fun _ hK => add64 (by omega) (by omega) hK) ?_ | refine sti_of (fun _ hK => sub64 (by omega) (by omega) hK) ?_ | refine sti_of (fun _ hK => un_notD hK) ?_ | refine sti_of (fun _ hK => len8 hK) ?_ | refine sti_of (fun _ hK => pick_T hK) ?_ | refine sti_of (fun _ hK => pick_F hK) ?_))
      refine rd _ _ b3 fun t2 v2 s2 hvj2' hsj2 hr2 => ?_
      obtain rfl : v2 = v := by rw [hvj] at hvj2'; cases hvj2'; rfl
      obtain rfl : s2 = s := by rw [hsj] at hsj2; cases hsj2; rfl
      refine rframe_c hr2 (by omega) ?_
      intro a4 n4 c4 w4 o4 b4
      have h4 := o4.len
      rw [frameB_len] at h4
      have S3 := b3.size
      refine app8 w.heap.size (OB.below o3 b4 (Nat.le_refl _)) o4.rb (by omega) (by have := b4.size; omega) ?_
      intro a5 c5 w5 o5 g5
      have k5 : Below w.heap.size w4 w5 := below_of_grown g5 (by have := b4.size; omega) (fun k hk => (OV.block (OB.below o3 b4 (Nat.le_refl _)) k hk).1)
      (repeat (first | refine bin_eql ?_ | refine bin_neq ?_ | refine bin_lss ?_ | refine bin_leq ?_ | refine bin_gtr ?_ | refine bin_geq ?_ | refine add64 (by omega) (by omega) ?_ | refine sub64 (by omega) (by omega) ?_ | refine ext_a ?_ | refine ext_b ?_ | refine ext3_a ?_ | refine ext3_b ?_ | refine ext3_c ?_ | refine un_notD ?_ | refine mul64 (by omega) (by omega) ?_ | refine cvIU (by omega) (by omega) ?_ | refine cvIUint (by omega) (by omega) ?_ | refine cvUI (by omega) (by omega) ?_ | refine cvBU (by omega) (by omega) ?_ | refine len8 ?_ | refine len36 ?_ | refine pick_T ?_ | refine pick_F ?_ | refine cond_T ?_ | refine cond_F ?_ | refine cond_t (by omega) ?_ | refine cond_f (by omega) ?_ | refine gsel_T ?_ | refine gsel_F ?_ | refine gsel_Tn ?_ | refine gsel_Fn ?_ | refine gsel_U ?_ | refine gsel_pt (by omega) ?_ | refine gsel_pf (by omega) ?_ | refine gsel_nt (by omega) ?_ | refine gsel_nf (by omega) ?_ | refine pick_t (by omega) ?_ | refine pick_f (by omega) ?_ | refine sti_of (fun _ hK => bin_eql hK) ?_ | refine sti_of (fun _ hK => bin_neq hK) ?_ | refine sti_of (fun _ hK => bin_lss hK) ?_ | refine sti_of (fun _ hK => bin_leq hK) ?_ | refine sti_of (fun _ hK => bin_gtr hK) ?_ | refine sti_of (fun _ hK => bin_geq hK) ?_ | refine sti_of (fun _ hK => add64 (by omega) (by omega) hK) ?_ | refine sti_of (fun _ hK => sub64 (by omega) (by omega) hK) ?_ | refine sti_of (fun _ hK => un_notD hK) ?_ | refine sti_of (fun _ hK => len8 hK) ?_ | refine sti_of (fun _ hK => pick_T hK) ?_ | refine sti_of (fun _ hK => pick_F hK) ?_))
      refine ⟨⟨j + 1, _, _, _, by omega, by simp, rfl, ?_, (b3.trans (b4.mono S3)).trans k5, ?_⟩, by rw [hm]; simp only [intOf]; omega⟩
      · rw [framesB_snoc L j s2 hsj, ← List.append_assoc]; exact o5
      · intro t ht
        rw [List.take_succ_eq_append_getElem (by omega)] at ht
        rcases List.mem_append.1 ht with ht | ht
        · exact hs3 t ht
        · rw [List.mem_singleton] at ht
          have := List.getElem?_eq_some_iff.1 hsj
          rw [ht, this.2]; omega
  · have : j = n2 := by omega
    subst this
    have ht : L.take j = L := List.take_of_length_le (by omega)
    rw [ht] at o3 hs3
    rw [show putF l L = (l ++ framesB L, 0) by
      unfold putF
      rw [if_pos]
      exact List.all_eq_true.2 fun s hs => by simpa using hs3 s hs] at h
    (repeat (first | refine leatref03_Put_P1_r ?_ | refine bin_eql ?_ | refine bin_neq ?_ | refine bin_lss ?_ | refine bin_leq ?_ | refine bin_gtr ?_ | refine bin_geq ?_ | refine add64 (by omega) (by omega) ?_ | refine sub64 (by omega) (by omega) ?_ | refine ext_a ?_ | refine ext_b ?_ | refine ext3_a ?_ | refine ext3_b ?_ | refine ext3_c ?_ | refine un_notD ?_ | refine mul64 (by omega) (by omega) ?_ | refine cvIU (by omega) (by omega) ?_ | refine cvIUint (by omega) (by omega) ?_ | refine cvUI (by omega) (by omega) ?_ | refine cvBU (by omega) (by omega) ?_ | refine len8 ?_ | refine len36 ?_ | refine pick_T ?_ | refine pick_F ?_ | refine cond_T ?_ | refine cond_F ?_ | refine cond_t (by omega) ?_ | refine cond_f (by omega) ?_ | refine gsel_T ?_ | refine gsel_F ?_ | refine gsel_Tn ?_ | refine gsel_Fn ?_ | refine gsel_U ?_ | refine gsel_pt (by omega) ?_ | refine gsel_pf (by omega) ?_ | refine gsel_nt (by omega) ?_ | refine gsel_nf (by omega) ?_ | refine pick_t (by omega) ?_ | refine pick_f (by omega) ?_ | refine sti_of (fun _ hK => bin_eql hK) ?_ | refine sti_of (fun _ hK => bin_neq hK) ?_ | refine sti_of (fun _ hK => bin_lss hK) ?_ | refine sti_of (fun _ hK => bin_leq hK) ?_ | refine sti_of (fun _ hK => bin_gtr hK) ?_ | refine sti_of (fun _ hK => bin_geq hK) ?_ | refine sti_of (fun _ hK => add64 (by omega) (by omega) hK) ?_ | refine sti_of (fun _ hK => sub64 (by omega) (by omega) hK) ?_ | refine sti_of (fun _ hK => un_notD hK) ?_ | refine sti_of (fun _ hK => len8 hK) ?_ | refine sti_of (fun _ hK => pick_T hK) ?_ | refine sti_of (fun _ hK => pick_F hK) ?_))
    exact h _ _ _ _ o3 b3
end
end Go.Proofs.Ytccllogpakmjcaa
