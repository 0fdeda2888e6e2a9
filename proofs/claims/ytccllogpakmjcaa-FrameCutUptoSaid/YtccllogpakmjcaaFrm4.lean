/- Frames, on: the reference's Take and All, and the anchor. -/
import Derived.Test.YtccllogpakmjcaaFrm3
import Derived.Test.YtccllogpakmjcaaSWk3
namespace Go.Proofs.Ytccllogpakmjcaa
open Go.RowKit

theorem drop_split (b : List UInt8) (q N : Nat) : (b.drop q).take (8 + N) = (b.drop q).take 4 ++ (b.drop (q + 4)).take 4 ++ (b.drop (q + 8)).take N := by
  rw [show 8 + N = 4 + (4 + N) by omega, List.take_add, List.take_add, List.drop_drop, List.drop_drop, List.append_assoc]

theorem frame_eq {b : List UInt8} {q N : Nat} (hq : q + 8 + N ≤ b.length) (hN : beNat ((b.drop q).take 4) = N) :
    frameB ((b.drop (q + 8)).take N) = (b.drop q).take (8 + N) ↔ (crcS 0 (beBytes N 4 ++ (b.drop (q + 8)).take N)).toNat = beNat ((b.drop (q + 4)).take 4) := by
  have hl : ((b.drop (q + 8)).take N).length = N := by rw [List.length_take, List.length_drop]; omega
  have h4 : ((b.drop q).take 4).length = 4 := by rw [List.length_take, List.length_drop]; omega
  have h4' : ((b.drop (q + 4)).take 4).length = 4 := by rw [List.length_take, List.length_drop]; omega
  have hA : beBytes N 4 = (b.drop q).take 4 := by
    have := be_beNat ((b.drop q).take 4)
    rw [h4, hN] at this; exact this
  have hM := be_beNat ((b.drop (q + 4)).take 4)
  rw [h4'] at hM
  rw [drop_split]
  unfold frameB sumB
  rw [hl, ← hA, List.append_left_inj, List.append_right_inj]
  constructor
  · intro h
    have h2 := congrArg beNat h
    rw [beNat_be] at h2
    have := (crcS 0 (beBytes N 4 ++ (b.drop (q + 8)).take N)).isLt
    rw [Nat.mod_eq_of_lt (by omega)] at h2
    exact h2
  · intro h
    rw [h, hM]

section
attribute [local irreducible] bin un conv call callV blt slc fldA fld idxA idx lkp mUpd mEnt eSt rng nxt ent ext alc box bld bldS ld sto nilC mkMap mkS ifc pick rdy wts gsel sti cond retM Gives cCode cGrp cSeq cOp
theorem slcLM {w : World} {K : KV} {av : Option Addr} {n c l m : Nat} (hcap : n ≤ c) (hlm : l ≤ m) (hmn : m ≤ n) (h : K (.slice (if c = l then av else av.map (·.add (l * 1))) (m - l) (c - l)) w) :
    slc Try.prog 22 (.slice av n c) (some (.int .i64 (l : Nat))) (some (.int .i64 (m : Nat))) none K w := by
  have hb : (Instr.sliceBounds true n c (some (.int .i64 (l : Nat))) (some (.int .i64 (m : Nat))) none).run Try.prog w = .ok (l, m, c) w := by
    have h1 := run_sliceBound (P := Try.prog) w .i64 (m : Int) c .sliceAcap (by omega) (by omega)
    have h2 := run_sliceBound (P := Try.prog) w .i64 (l : Int) m .sliceB (by omega) (by omega)
    simp [Instr.sliceBounds] at h1 h2 ⊢
    rw [h1]; simp [h2]
  unfold slc
  refine okV_of (w' := w) ?_ h
  simp only [Instr.sliceAt, Instr.slice, Sem.run_bind, Sem.run_pure, Result.andThen_ok, run_underlying Try.underlying22, size_u8, hb]

set_option maxHeartbeats 1000000 in
theorem rtake3_c {a : Option Addr} {n c : Nat} {b : List UInt8} {at_ : Int} {w : World} {K : KV} (hr : RB w a n c b) (hn : n ≤ 4294967296)
    (h : ∀ a' n' c' w', OB w' w.heap.size a' n' c' (takeF b at_).1 → Below w.heap.size w w' → K (.tuple #[.slice a' n' c', .int .i64 (takeF b at_).2.1, .int .i64 (takeF b at_).2.2]) w') :
    call Try.prog 20 #[.slice a n c, .int .i64 at_] K w := by
  have hl := hr.len
  have hcap := RV.cap hr
  refine call_of leatref03_Take_go (leatref03_Take_in ?_)
  by_cases h0 : at_ < 0
  · rw [show takeF b at_ = ([], 0, 1) by simp [takeF, h0]] at h
    (repeat (first | refine bin_eql ?_ | refine bin_neq ?_ | refine bin_lss ?_ | refine bin_leq ?_ | refine bin_gtr ?_ | refine bin_geq ?_ | refine add64 (by omega) (by omega) ?_ | refine sub64 (by omega) (by omega) ?_ | refine ext_a ?_ | refine ext_b ?_ | refine ext3_a ?_ | refine ext3_b ?_ | refine ext3_c ?_ | refine un_notD ?_ | refine mul64 (by omega) (by omega) ?_ | refine cvIU (by omega) (by omega) ?_ | refine cvIUint (by omega) (by omega) ?_ | refine cvUI (by omega) (by omega) ?_ | refine cvBU (by omega) (by omega) ?_ | refine len8 ?_ | refine len36 ?_ | refine pick_T ?_ | refine pick_F ?_ | refine cond_T ?_ | refine cond_F ?_ | refine cond_t (by omega) ?_ | refine cond_f (by omega) ?_ | refine gsel_T ?_ | refine gsel_F ?_ | refine gsel_Tn ?_ | refine gsel_Fn ?_ | refine gsel_U ?_ | refine gsel_pt (by omega) ?_ | refine gsel_pf (by omega) ?_ | refine gsel_nt (by omega) ?_ | refine gsel_nf (by omega) ?_ | refine pick_t (by omega) ?_ | refine pick_f (by omega) ?_ | refine sti_of (fun _ hK => bin_eql hK) ?_ | refine sti_of (fun _ hK => bin_neq hK) ?_ | refine sti_of (fun _ hK => bin_lss hK) ?_ | refine sti_of (fun _ hK => bin_leq hK) ?_ | refine sti_of (fun _ hK => bin_gtr hK) ?_ | refine sti_of (fun _ hK => bin_geq hK) ?_ | refine sti_of (fun _ hK => add64 (by omega) (by omega) hK) ?_ | refine sti_of (fun _ hK => sub64 (by omega) (by omega) hK) ?_ | refine sti_of (fun _ hK => un_notD hK) ?_ | refine sti_of (fun _ hK => len8 hK) ?_ | refine sti_of (fun _ hK => pick_T hK) ?_ | refine sti_of (fun _ hK => pick_F hK) ?_))
    exact h _ _ _ _ (OB.nil _ _) (Below.refl _ _)
  by_cases h1 : (n : Int) < at_
  · rw [show takeF b at_ = ([], 0, 1) by unfold takeF; rw [if_pos (by omega)]] at h
    (repeat (first | refine bin_eql ?_ | refine bin_neq ?_ | refine bin_lss ?_ | refine bin_leq ?_ | refine bin_gtr ?_ | refine bin_geq ?_ | refine add64 (by omega) (by omega) ?_ | refine sub64 (by omega) (by omega) ?_ | refine ext_a ?_ | refine ext_b ?_ | refine ext3_a ?_ | refine ext3_b ?_ | refine ext3_c ?_ | refine un_notD ?_ | refine mul64 (by omega) (by omega) ?_ | refine cvIU (by omega) (by omega) ?_ | refine cvIUint (by omega) (by omega) ?_ | refine cvUI (by omega) (by omega) ?_ | refine cvBU (by omega) (by omega) ?_ | refine len8 ?_ | refine len36 ?_ | refine pick_T ?_ | refine pick_F ?_ | refine cond_T ?_ | refine cond_F ?_ | refine cond_t (by omega) ?_ | refine cond_f (by omega) ?_ | refine gsel_T ?_ | refine gsel_F ?_ | refine gsel_Tn ?_ | refine gsel_Fn ?_ | refine gsel_U ?_ | refine gsel_pt (by omega) ?_ | refine gsel_pf (by omega) ?_ | refine gsel_nt (by omega) ?_ | refine gsel_nf (by omega) ?_ | refine pick_t (by omega) ?_ | refine pick_f (by omega) ?_ | refine sti_of (fun _ hK => bin_eql hK) ?_ | refine sti_of (fun _ hK => bin_neq hK) ?_ | refine sti_of (fun _ hK => bin_lss hK) ?_ | refine sti_of (fun _ hK => bin_leq hK) ?_ | refine sti_of (fun _ hK => bin_gtr hK) ?_ | refine sti_of (fun _ hK => bin_geq hK) ?_ | refine sti_of (fun _ hK => add64 (by omega) (by omega) hK) ?_ | refine sti_of (fun _ hK => sub64 (by omega) (by omega) hK) ?_ | refine sti_of (fun _ hK => un_notD hK) ?_ | refine sti_of (fun _ hK => len8 hK) ?_ | refine sti_of (fun _ hK => pick_T hK) ?_ | refine sti_of (fun _ hK => pick_F hK) ?_))
    exact h _ _ _ _ (OB.nil _ _) (Below.refl _ _)
  obtain ⟨q, rfl⟩ := Int.eq_ofNat_of_zero_le (show 0 ≤ at_ by omega)
  have ht : takeF b (q : Nat) = match recF b q with | none => ([], 0, 5) | some (s, q) => (s, (q : Int), 0) := by
    unfold takeF; rw [if_neg (by omega)]; rfl
  have none5 : recF b q = none → takeF b (q : Nat) = ([], 0, 5) := fun hrec => by rw [ht, hrec]
  by_cases h8 : (n : Int) - q < 8
  · rw [none5 (recF_none (by omega))] at h
    (repeat (first | refine bin_eql ?_ | refine bin_neq ?_ | refine bin_lss ?_ | refine bin_leq ?_ | refine bin_gtr ?_ | refine bin_geq ?_ | refine add64 (by omega) (by omega) ?_ | refine sub64 (by omega) (by omega) ?_ | refine ext_a ?_ | refine ext_b ?_ | refine ext3_a ?_ | refine ext3_b ?_ | refine ext3_c ?_ | refine un_notD ?_ | refine mul64 (by omega) (by omega) ?_ | refine cvIU (by omega) (by omega) ?_ | refine cvIUint (by omega) (by omega) ?_ | refine cvUI (by omega) (by omega) ?_ | refine cvBU (by omega) (by omega) ?_ | refine len8 ?_ | refine len36 ?_ | refine pick_T ?_ | refine pick_F ?_ | refine cond_T ?_ | refine cond_F ?_ | refine cond_t (by omega) ?_ | refine cond_f (by omega) ?_ | refine gsel_T ?_ | refine gsel_F ?_ | refine gsel_Tn ?_ | refine gsel_Fn ?_ | refine gsel_U ?_ | refine gsel_pt (by omega) ?_ | refine gsel_pf (by omega) ?_ | refine gsel_nt (by omega) ?_ | refine gsel_nf (by omega) ?_ | refine pick_t (by omega) ?_ | refine pick_f (by omega) ?_ | refine sti_of (fun _ hK => bin_eql hK) ?_ | refine sti_of (fun _ hK => bin_neq hK) ?_ | refine sti_of (fun _ hK => bin_lss hK) ?_ | refine sti_of (fun _ hK => bin_leq hK) ?_ | refine sti_of (fun _ hK => bin_gtr hK) ?_ | refine sti_of (fun _ hK => bin_geq hK) ?_ | refine sti_of (fun _ hK => add64 (by omega) (by omega) hK) ?_ | refine sti_of (fun _ hK => sub64 (by omega) (by omega) hK) ?_ | refine sti_of (fun _ hK => un_notD hK) ?_ | refine sti_of (fun _ hK => len8 hK) ?_ | refine sti_of (fun _ hK => pick_T hK) ?_ | refine sti_of (fun _ hK => pick_F hK) ?_))
    exact h _ _ _ _ (OB.nil _ _) (Below.refl _ _)
  (repeat (first | refine bin_eql ?_ | refine bin_neq ?_ | refine bin_lss ?_ | refine bin_leq ?_ | refine bin_gtr ?_ | refine bin_geq ?_ | refine add64 (by omega) (by omega) ?_ | refine sub64 (by omega) (by omega) ?_ | refine ext_a ?_ | refine ext_b ?_ | refine ext3_a ?_ | refine ext3_b ?_ | refine ext3_c ?_ | refine un_notD ?_ | refine mul64 (by omega) (by omega) ?_ | refine cvIU (by omega) (by omega) ?_ | refine cvIUint (by omega) (by omega) ?_ | refine cvUI (by omega) (by omega) ?_ | refine cvBU (by omega) (by omega) ?_ | refine len8 ?_ | refine len36 ?_ | refine pick_T ?_ | refine pick_F ?_ | refine cond_T ?_ | refine cond_F ?_ | refine cond_t (by omega) ?_ | refine cond_f (by omega) ?_ | refine gsel_T ?_ | refine gsel_F ?_ | refine gsel_Tn ?_ | refine gsel_Fn ?_ | refine gsel_U ?_ | refine gsel_pt (by omega) ?_ | refine gsel_pf (by omega) ?_ | refine gsel_nt (by omega) ?_ | refine gsel_nf (by omega) ?_ | refine pick_t (by omega) ?_ | refine pick_f (by omega) ?_ | refine sti_of (fun _ hK => bin_eql hK) ?_ | refine sti_of (fun _ hK => bin_neq hK) ?_ | refine sti_of (fun _ hK => bin_lss hK) ?_ | refine sti_of (fun _ hK => bin_leq hK) ?_ | refine sti_of (fun _ hK => bin_gtr hK) ?_ | refine sti_of (fun _ hK => bin_geq hK) ?_ | refine sti_of (fun _ hK => add64 (by omega) (by omega) hK) ?_ | refine sti_of (fun _ hK => sub64 (by omega) (by omega) hK) ?_ | refine sti_of (fun _ hK => un_notD hK) ?_ | refine sti_of (fun _ hK => len8 hK) ?_ | refine sti_of (fun _ hK => pick_T hK) ?_ | refine sti_of (fun _ hK => pick_F hK) ?_))
  refine rtake_c hr (by omega) ?_
  rw [takeS4_ok (show q + 4 ≤ b.length by omega)]
  have hlt := beNat4 b q
  generalize hN : beNat ((b.drop q).take 4) = N at *
  (repeat (first | refine leatref03_Take_A1_r ?_ | refine leatref03_Take_A2_r ?_ | refine bin_eql ?_ | refine bin_neq ?_ | refine bin_lss ?_ | refine bin_leq ?_ | refine bin_gtr ?_ | refine bin_geq ?_ | refine add64 (by omega) (by omega) ?_ | refine sub64 (by omega) (by omega) ?_ | refine ext_a ?_ | refine ext_b ?_ | refine ext3_a ?_ | refine ext3_b ?_ | refine ext3_c ?_ | refine un_notD ?_ | refine mul64 (by omega) (by omega) ?_ | refine cvIU (by omega) (by omega) ?_ | refine cvIUint (by omega) (by omega) ?_ | refine cvUI (by omega) (by omega) ?_ | refine cvBU (by omega) (by omega) ?_ | refine len8 ?_ | refine len36 ?_ | refine pick_T ?_ | refine pick_F ?_ | refine cond_T ?_ | refine cond_F ?_ | refine cond_t (by omega) ?_ | refine cond_f (by omega) ?_ | refine gsel_T ?_ | refine gsel_F ?_ | refine gsel_Tn ?_ | refine gsel_Fn ?_ | refine gsel_U ?_ | refine gsel_pt (by omega) ?_ | refine gsel_pf (by omega) ?_ | refine gsel_nt (by omega) ?_ | refine gsel_nf (by omega) ?_ | refine pick_t (by omega) ?_ | refine pick_f (by omega) ?_ | refine sti_of (fun _ hK => bin_eql hK) ?_ | refine sti_of (fun _ hK => bin_neq hK) ?_ | refine sti_of (fun _ hK => bin_lss hK) ?_ | refine sti_of (fun _ hK => bin_leq hK) ?_ | refine sti_of (fun _ hK => bin_gtr hK) ?_ | refine sti_of (fun _ hK => bin_geq hK) ?_ | refine sti_of (fun _ hK => add64 (by omega) (by omega) hK) ?_ | refine sti_of (fun _ hK => sub64 (by omega) (by omega) hK) ?_ | refine sti_of (fun _ hK => un_notD hK) ?_ | refine sti_of (fun _ hK => len8 hK) ?_ | refine sti_of (fun _ hK => pick_T hK) ?_ | refine sti_of (fun _ hK => pick_F hK) ?_))
  by_cases hbig : 4096 < N
  · rw [none5 (recF_none (by rw [hN]; omega))] at h
    (repeat (first | refine bin_eql ?_ | refine bin_neq ?_ | refine bin_lss ?_ | refine bin_leq ?_ | refine bin_gtr ?_ | refine bin_geq ?_ | refine add64 (by omega) (by omega) ?_ | refine sub64 (by omega) (by omega) ?_ | refine ext_a ?_ | refine ext_b ?_ | refine ext3_a ?_ | refine ext3_b ?_ | refine ext3_c ?_ | refine un_notD ?_ | refine mul64 (by omega) (by omega) ?_ | refine cvIU (by omega) (by omega) ?_ | refine cvIUint (by omega) (by omega) ?_ | refine cvUI (by omega) (by omega) ?_ | refine cvBU (by omega) (by omega) ?_ | refine len8 ?_ | refine len36 ?_ | refine pick_T ?_ | refine pick_F ?_ | refine cond_T ?_ | refine cond_F ?_ | refine cond_t (by omega) ?_ | refine cond_f (by omega) ?_ | refine gsel_T ?_ | refine gsel_F ?_ | refine gsel_Tn ?_ | refine gsel_Fn ?_ | refine gsel_U ?_ | refine gsel_pt (by omega) ?_ | refine gsel_pf (by omega) ?_ | refine gsel_nt (by omega) ?_ | refine gsel_nf (by omega) ?_ | refine pick_t (by omega) ?_ | refine pick_f (by omega) ?_ | refine sti_of (fun _ hK => bin_eql hK) ?_ | refine sti_of (fun _ hK => bin_neq hK) ?_ | refine sti_of (fun _ hK => bin_lss hK) ?_ | refine sti_of (fun _ hK => bin_leq hK) ?_ | refine sti_of (fun _ hK => bin_gtr hK) ?_ | refine sti_of (fun _ hK => bin_geq hK) ?_ | refine sti_of (fun _ hK => add64 (by omega) (by omega) hK) ?_ | refine sti_of (fun _ hK => sub64 (by omega) (by omega) hK) ?_ | refine sti_of (fun _ hK => un_notD hK) ?_ | refine sti_of (fun _ hK => len8 hK) ?_ | refine sti_of (fun _ hK => pick_T hK) ?_ | refine sti_of (fun _ hK => pick_F hK) ?_))
    exact h _ _ _ _ (OB.nil _ _) (Below.refl _ _)
  by_cases hfit : n < q + 8 + N
  · rw [none5 (recF_none (by rw [hN]; omega))] at h
    (repeat (first | refine bin_eql ?_ | refine bin_neq ?_ | refine bin_lss ?_ | refine bin_leq ?_ | refine bin_gtr ?_ | refine bin_geq ?_ | refine add64 (by omega) (by omega) ?_ | refine sub64 (by omega) (by omega) ?_ | refine ext_a ?_ | refine ext_b ?_ | refine ext3_a ?_ | refine ext3_b ?_ | refine ext3_c ?_ | refine un_notD ?_ | refine mul64 (by omega) (by omega) ?_ | refine cvIU (by omega) (by omega) ?_ | refine cvIUint (by omega) (by omega) ?_ | refine cvUI (by omega) (by omega) ?_ | refine cvBU (by omega) (by omega) ?_ | refine len8 ?_ | refine len36 ?_ | refine pick_T ?_ | refine pick_F ?_ | refine cond_T ?_ | refine cond_F ?_ | refine cond_t (by omega) ?_ | refine cond_f (by omega) ?_ | refine gsel_T ?_ | refine gsel_F ?_ | refine gsel_Tn ?_ | refine gsel_Fn ?_ | refine gsel_U ?_ | refine gsel_pt (by omega) ?_ | refine gsel_pf (by omega) ?_ | refine gsel_nt (by omega) ?_ | refine gsel_nf (by omega) ?_ | refine pick_t (by omega) ?_ | refine pick_f (by omega) ?_ | refine sti_of (fun _ hK => bin_eql hK) ?_ | refine sti_of (fun _ hK => bin_neq hK) ?_ | refine sti_of (fun _ hK => bin_lss hK) ?_ | refine sti_of (fun _ hK => bin_leq hK) ?_ | refine sti_of (fun _ hK => bin_gtr hK) ?_ | refine sti_of (fun _ hK => bin_geq hK) ?_ | refine sti_of (fun _ hK => add64 (by omega) (by omega) hK) ?_ | refine sti_of (fun _ hK => sub64 (by omega) (by omega) hK) ?_ | refine sti_of (fun _ hK => un_notD hK) ?_ | refine sti_of (fun _ hK => len8 hK) ?_ | refine sti_of (fun _ hK => pick_T hK) ?_ | refine sti_of (fun _ hK => pick_F hK) ?_))
    exact h _ _ _ _ (OB.nil _ _) (Below.refl _ _)
  (repeat (first | refine bin_eql ?_ | refine bin_neq ?_ | refine bin_lss ?_ | refine bin_leq ?_ | refine bin_gtr ?_ | refine bin_geq ?_ | refine add64 (by omega) (by omega) ?_ | refine sub64 (by omega) (by omega) ?_ | refine ext_a ?_ | refine ext_b ?_ | refine ext3_a ?_ | refine ext3_b ?_ | refine ext3_c ?_ | refine un_notD ?_ | refine mul64 (by omega) (by omega) ?_ | refine cvIU (by omega) (by omega) ?_ | refine cvIUint (by omega) (by omega) ?_ | refine cvUI (by omega) (by omega) ?_ | refine cvBU (by omega) (by omega) ?_ | refine len8 ?_ | refine len36 ?_ | refine pick_T ?_ | refine pick_F ?_ | refine cond_T ?_ | refine cond_F ?_ | refine cond_t (by omega) ?_ | refine cond_f (by omega) ?_ | refine gsel_T ?_ | refine gsel_F ?_ | refine gsel_Tn ?_ | refine gsel_Fn ?_ | refine gsel_U ?_ | refine gsel_pt (by omega) ?_ | refine gsel_pf (by omega) ?_ | refine gsel_nt (by omega) ?_ | refine gsel_nf (by omega) ?_ | refine pick_t (by omega) ?_ | refine pick_f (by omega) ?_ | refine sti_of (fun _ hK => bin_eql hK) ?_ | refine sti_of (fun _ hK => bin_neq hK) ?_ | refine sti_of (fun _ hK => bin_lss hK) ?_ | refine sti_of (fun _ hK => bin_leq hK) ?_ | refine sti_of (fun _ hK => bin_gtr hK) ?_ | refine sti_of (fun _ hK => bin_geq hK) ?_ | refine sti_of (fun _ hK => add64 (by omega) (by omega) hK) ?_ | refine sti_of (fun _ hK => sub64 (by omega) (by omega) hK) ?_ | refine sti_of (fun _ hK => un_notD hK) ?_ | refine sti_of (fun _ hK => len8 hK) ?_ | refine sti_of (fun _ hK => pick_T hK) ?_ | refine sti_of (fun _ hK => pick_F hK) ?_))
  refine empty8 w.heap.size (Nat.le_refl _) ?_
  intro a1 w1 o1 b1
  (repeat (first | refine bin_eql ?_ | refine bin_neq ?_ | refine bin_lss ?_ | refine bin_leq ?_ | refine bin_gtr ?_ | refine bin_geq ?_ | refine add64 (by omega) (by omega) ?_ | refine sub64 (by omega) (by omega) ?_ | refine ext_a ?_ | refine ext_b ?_ | refine ext3_a ?_ | refine ext3_b ?_ | refine ext3_c ?_ | refine un_notD ?_ | refine mul64 (by omega) (by omega) ?_ | refine cvIU (by omega) (by omega) ?_ | refine cvIUint (by omega) (by omega) ?_ | refine cvUI (by omega) (by omega) ?_ | refine cvBU (by omega) (by omega) ?_ | refine len8 ?_ | refine len36 ?_ | refine pick_T ?_ | refine pick_F ?_ | refine cond_T ?_ | refine cond_F ?_ | refine cond_t (by omega) ?_ | refine cond_f (by omega) ?_ | refine gsel_T ?_ | refine gsel_F ?_ | refine gsel_Tn ?_ | refine gsel_Fn ?_ | refine gsel_U ?_ | refine gsel_pt (by omega) ?_ | refine gsel_pf (by omega) ?_ | refine gsel_nt (by omega) ?_ | refine gsel_nf (by omega) ?_ | refine pick_t (by omega) ?_ | refine pick_f (by omega) ?_ | refine sti_of (fun _ hK => bin_eql hK) ?_ | refine sti_of (fun _ hK => bin_neq hK) ?_ | refine sti_of (fun _ hK => bin_lss hK) ?_ | refine sti_of (fun _ hK => bin_leq hK) ?_ | refine sti_of (fun _ hK => bin_gtr hK) ?_ | refine sti_of (fun _ hK => bin_geq hK) ?_ | refine sti_of (fun _ hK => add64 (by omega) (by omega) hK) ?_ | refine sti_of (fun _ hK => sub64 (by omega) (by omega) hK) ?_ | refine sti_of (fun _ hK => un_notD hK) ?_ | refine sti_of (fun _ hK => len8 hK) ?_ | refine sti_of (fun _ hK => pick_T hK) ?_ | refine sti_of (fun _ hK => pick_F hK) ?_))
  rw [show ((q : Int) + 8) = ((q + 8 : Nat) : Int) by omega, show (((q + 8 : Nat) : Int) + (N : Int)) = ((q + 8 + N : Nat) : Int) by omega]
  refine cut8 (l := q + 8) (m := q + 8 + N) (hr.below b1 (Nat.le_refl _)) (.inr ⟨_, rfl⟩) (.inr ⟨_, rfl⟩) (by omega) (by omega) ?_
  intro a2 r2
  rw [show (b.take (q + 8 + N)).drop (q + 8) = (b.drop (q + 8)).take N by rw [List.drop_take]; congr 1; omega, show q + 8 + N - (q + 8) = N by omega] at *
  refine app8 w.heap.size o1 r2 (by omega) b1.size ?_
  intro a3 c3 w3 o3 g3
  rw [List.nil_append, Nat.zero_add] at *
  have B3 : Below w.heap.size w w3 := b1.trans (below_of_grown g3 b1.size (fun k hk => (OV.block o1 k hk).1))
  have r3 := hr.below B3 (Nat.le_refl _)
  generalize hs : (b.drop (q + 8)).take N = s at *
  (repeat (first | refine leatref03_Take_A1_r ?_ | refine leatref03_Take_A2_r ?_ | refine bin_eql ?_ | refine bin_neq ?_ | refine bin_lss ?_ | refine bin_leq ?_ | refine bin_gtr ?_ | refine bin_geq ?_ | refine add64 (by omega) (by omega) ?_ | refine sub64 (by omega) (by omega) ?_ | refine ext_a ?_ | refine ext_b ?_ | refine ext3_a ?_ | refine ext3_b ?_ | refine ext3_c ?_ | refine un_notD ?_ | refine mul64 (by omega) (by omega) ?_ | refine cvIU (by omega) (by omega) ?_ | refine cvIUint (by omega) (by omega) ?_ | refine cvUI (by omega) (by omega) ?_ | refine cvBU (by omega) (by omega) ?_ | refine len8 ?_ | refine len36 ?_ | refine pick_T ?_ | refine pick_F ?_ | refine cond_T ?_ | refine cond_F ?_ | refine cond_t (by omega) ?_ | refine cond_f (by omega) ?_ | refine gsel_T ?_ | refine gsel_F ?_ | refine gsel_Tn ?_ | refine gsel_Fn ?_ | refine gsel_U ?_ | refine gsel_pt (by omega) ?_ | refine gsel_pf (by omega) ?_ | refine gsel_nt (by omega) ?_ | refine gsel_nf (by omega) ?_ | refine pick_t (by omega) ?_ | refine pick_f (by omega) ?_ | refine sti_of (fun _ hK => bin_eql hK) ?_ | refine sti_of (fun _ hK => bin_neq hK) ?_ | refine sti_of (fun _ hK => bin_lss hK) ?_ | refine sti_of (fun _ hK => bin_leq hK) ?_ | refine sti_of (fun _ hK => bin_gtr hK) ?_ | refine sti_of (fun _ hK => bin_geq hK) ?_ | refine sti_of (fun _ hK => add64 (by omega) (by omega) hK) ?_ | refine sti_of (fun _ hK => sub64 (by omega) (by omega) hK) ?_ | refine sti_of (fun _ hK => un_notD hK) ?_ | refine sti_of (fun _ hK => len8 hK) ?_ | refine sti_of (fun _ hK => pick_T hK) ?_ | refine sti_of (fun _ hK => pick_F hK) ?_))
  have bd : Below w3.heap.size w3 w3.drew := (Below.refl _ w3).drew
  have o3d := OB.below o3 bd (Nat.le_refl _)
  refine hReg_of (fun w' => RB w' a n c b) (r3.below bd (Nat.le_refl _)) ?_
  refine hld_of (fun w hw K hK => slcLM hcap (by omega) (by omega) hK) ?_
  refine hld_of (fun w hw K hK => str8 (hw.cut q (q + 8 + N) c (by omega) (by omega) (by omega) (Nat.le_refl _)) hK) ?_
  refine rframe_c (w := w3.drew) o3d.rb (by omega) ?_
  intro a4 n4 c4 w4 o4 b4
  have o3' := OB.below o3d b4 (Nat.le_refl _)
  refine hSub_of (fun w' => RB w' a n c b ∧ RB w' a4 n4 c4 (frameB s)) (fun x hx => hx.1) ⟨(r3.below bd (Nat.le_refl _)).below b4 (Nat.le_refl _), o4.rb⟩ ?_
  refine hld_of (fun w hw K hK => str8 hw.2 hK) ?_
  refine hld_of (fun w hw K hK => bin_neqS hK) ?_
  have he := frame_eq (b := b) (q := q) (N := N) (by omega) hN
  rw [hs] at he
  have hbt : (b.take (q + 8 + N)).drop q = (b.drop q).take (8 + N) := by rw [List.drop_take]; congr 1; omega
  rw [hbt]
  have B4 : Below w.heap.size w w4 := B3.drew.trans (b4.mono B3.size)
  by_cases hfr : frameB s = (b.drop q).take (8 + N)
  · have hrec : recF b q = some (s, q + 8 + N) := by
      unfold recF
      rw [hN, hs, if_pos ⟨by omega, by omega, by omega, he.1 hfr⟩]
    have ht' : takeF b (q : Nat) = (s, ((q + 8 + N : Nat) : Int), 0) := by rw [ht, hrec]
    rw [ht'] at h
    refine cond_f (fun hh => hh hfr) ?_
    exact h _ _ _ _ o3' B4
  · rw [none5 (recF_none (by rw [hN, hs]; intro hc; exact hfr (he.2 hc.2.2.2)))] at h
    refine cond_t hfr ?_
    exact h _ _ _ _ (OB.nil _ _) B4

set_option maxHeartbeats 1000000 in
theorem rall_c {a : Option Addr} {n c : Nat} {b : List UInt8} {w : World} {K : KV} (hr : RB w a n c b) (hn : n ≤ 4294967296)
    (h : ∀ a' n' c' vs w', OBB w' w.heap.size a' n' c' vs (allB b).1 → Below w.heap.size w w' → K (.tuple #[.slice a' n' c', .int .i64 (allB b).2]) w') :
    call Try.prog 11 #[.slice a n c] K w := by
  have hl := hr.len
  refine call_of leatref03_All_go (leatref03_All_in ?_)
  refine leatref03_All_L1_r (Inv := fun x i wr => ∃ (a' : Option Addr) (n' c' : Nat) (vs : List (Option Addr × Nat × Nat)) (L : List (List UInt8)) (f q : Nat), x = .slice a' n' c' ∧ i = .int .i64 (q : Nat) ∧ OBB wr w.heap.size a' n' c' vs L ∧ Below w.heap.size w wr ∧
      q ≤ b.length ∧ b.length < q + f ∧ 8 * L.length ≤ q ∧ allB b = (L ++ (allF b f q).1, (allF b f q).2)) (μ := fun x _ _ => match x with | .slice _ n' _ => 4294967297 - n' | _ => 0) ⟨none, 0, 0, [], [], b.length + 1, 0, rfl, rfl, OBB.nil _ _, Below.refl _ _, by omega, by omega, by simp, by simp [allB]⟩ ?_
  rintro _ _ _ w2 m ⟨a2, n2, c2, vs, L, f, q, rfl, rfl, hL, b2, hq, hfu, h8, hall⟩ hm
  obtain ⟨f', rfl⟩ : ∃ f', f = f' + 1 := ⟨f - 1, by omega⟩
  have hLl := obb_len hL
  have ht : takeF b (q : Nat) = match recF b q with | none => ([], 0, 5) | some (s, q) => (s, (q : Int), 0) := by
    unfold takeF; rw [if_neg (by omega)]; rfl
  refine rtake3_c (hr.below b2 (Nat.le_refl _)) hn ?_
  cases hrec : recF b q with
  | none =>
    rw [show takeF b (q : Nat) = ([], 0, 5) by rw [ht, hrec]]
    intro a3 n3 c3 w3 o3 b3
    have hall' : allB b = (L, q) := by rw [hall]; simp [allF, hrec]
    rw [hall'] at h
    (repeat (first | refine bin_eql ?_ | refine bin_neq ?_ | refine bin_lss ?_ | refine bin_leq ?_ | refine bin_gtr ?_ | refine bin_geq ?_ | refine add64 (by omega) (by omega) ?_ | refine sub64 (by omega) (by omega) ?_ | refine ext_a ?_ | refine ext_b ?_ | refine ext3_a ?_ | refine ext3_b ?_ | refine ext3_c ?_ | refine un_notD ?_ | refine mul64 (by omega) (by omega) ?_ | refine cvIU (by omega) (by omega) ?_ | refine cvIUint (by omega) (by omega) ?_ | refine cvUI (by omega) (by omega) ?_ | refine cvBU (by omega) (by omega) ?_ | refine len8 ?_ | refine len36 ?_ | refine pick_T ?_ | refine pick_F ?_ | refine cond_T ?_ | refine cond_F ?_ | refine cond_t (by omega) ?_ | refine cond_f (by omega) ?_ | refine gsel_T ?_ | refine gsel_F ?_ | refine gsel_Tn ?_ | refine gsel_Fn ?_ | refine gsel_U ?_ | refine gsel_pt (by omega) ?_ | refine gsel_pf (by omega) ?_ | refine gsel_nt (by omega) ?_ | refine gsel_nf (by omega) ?_ | refine pick_t (by omega) ?_ | refine pick_f (by omega) ?_ | refine sti_of (fun _ hK => bin_eql hK) ?_ | refine sti_of (fun _ hK => bin_neq hK) ?_ | refine sti_of (fun _ hK => bin_lss hK) ?_ | refine sti_of (fun _ hK => bin_leq hK) ?_ | refine sti_of (fun _ hK => bin_gtr hK) ?_ | refine sti_of (fun _ hK => bin_geq hK) ?_ | refine sti_of (fun _ hK => add64 (by omega) (by omega) hK) ?_ | refine sti_of (fun _ hK => sub64 (by omega) (by omega) hK) ?_ | refine sti_of (fun _ hK => un_notD hK) ?_ | refine sti_of (fun _ hK => len8 hK) ?_ | refine sti_of (fun _ hK => pick_T hK) ?_ | refine sti_of (fun _ hK => pick_F hK) ?_))
    exact h _ _ _ _ _ (hL.below b3 (Nat.le_refl _)) (b2.trans (b3.mono b2.size))
  | some sq =>
    obtain ⟨s, q2⟩ := sq
    rw [show takeF b (q : Nat) = (s, (q2 : Int), 0) by rw [ht, hrec]]
    intro a3 n3 c3 w3 o3 b3
    have hs := recF_some hrec
    have B3 := b2.trans (b3.mono b2.size)
    (repeat (first | refine bin_eql ?_ | refine bin_neq ?_ | refine bin_lss ?_ | refine bin_leq ?_ | refine bin_gtr ?_ | refine bin_geq ?_ | refine add64 (by omega) (by omega) ?_ | refine sub64 (by omega) (by omega) ?_ | refine ext_a ?_ | refine ext_b ?_ | refine ext3_a ?_ | refine ext3_b ?_ | refine ext3_c ?_ | refine un_notD ?_ | refine mul64 (by omega) (by omega) ?_ | refine cvIU (by omega) (by omega) ?_ | refine cvIUint (by omega) (by omega) ?_ | refine cvUI (by omega) (by omega) ?_ | refine cvBU (by omega) (by omega) ?_ | refine len8 ?_ | refine len36 ?_ | refine pick_T ?_ | refine pick_F ?_ | refine cond_T ?_ | refine cond_F ?_ | refine cond_t (by omega) ?_ | refine cond_f (by omega) ?_ | refine gsel_T ?_ | refine gsel_F ?_ | refine gsel_Tn ?_ | refine gsel_Fn ?_ | refine gsel_U ?_ | refine gsel_pt (by omega) ?_ | refine gsel_pf (by omega) ?_ | refine gsel_nt (by omega) ?_ | refine gsel_nf (by omega) ?_ | refine pick_t (by omega) ?_ | refine pick_f (by omega) ?_ | refine sti_of (fun _ hK => bin_eql hK) ?_ | refine sti_of (fun _ hK => bin_neq hK) ?_ | refine sti_of (fun _ hK => bin_lss hK) ?_ | refine sti_of (fun _ hK => bin_leq hK) ?_ | refine sti_of (fun _ hK => bin_gtr hK) ?_ | refine sti_of (fun _ hK => bin_geq hK) ?_ | refine sti_of (fun _ hK => add64 (by omega) (by omega) hK) ?_ | refine sti_of (fun _ hK => sub64 (by omega) (by omega) hK) ?_ | refine sti_of (fun _ hK => un_notD hK) ?_ | refine sti_of (fun _ hK => len8 hK) ?_ | refine sti_of (fun _ hK => pick_T hK) ?_ | refine sti_of (fun _ hK => pick_F hK) ?_))
    refine bld36 (v := (a3, n3, c3)) ?_
    intro w4 b4 r4 s4
    have o4 : OB w4 w.heap.size a3 n3 c3 s := OB.below (OV.mono o3 b2.size) b4 (Nat.le_refl _)
    have L4 := (hL.below b3 (Nat.le_refl _)).below b4 (Nat.le_refl _)
    refine push36 (v := (a3, n3, c3)) w.heap.size L4 r4 o4 (by omega) (by have := B3.size; omega) ?_
    intro a5 c5 w5 L5 g5
    have k5 : Keep [22] w.heap.size w4 w5 := Keep.grown g5 L4.row (by simp) (Nat.le_refl _)
    refine ⟨⟨a5, n2 + 1, c5, _, L ++ [s], f', q2, rfl, rfl, L5, (B3.trans (b4.mono B3.size)).trans (k5.below (by have := B3.size; omega)), by omega, by omega, by simp; omega, ?_⟩, ?_⟩
    · rw [hall]; simp [allF, hrec]
    · rw [hm]; show 4294967297 - (n2 + 1) < 4294967297 - n2; omega
end
end Go.Proofs.Ytccllogpakmjcaa
