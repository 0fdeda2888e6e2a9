/- The statement of OctetStrings, of arguments of bulk at most 1048576: true, and the input reads as it did. -/
import Derived.Test.YtfgllkdmifhelaaSOctetStrings
import Derived.Test.YtfgllkdmifhelaaStore
import Derived.Test.YtfgllkdmifhelaaFrame2
namespace Go.Proofs.Ytfgllkdmifhelaa
open Go.ChangeShapes Go.WideShapes Go.ChangeAt Go.RowKit
theorem splitFrom_len (l : List UInt8) (most : Int) : ∀ (k : Nat) (p : Int) (acc : List (List UInt8)), (splitFrom l most k p acc).1.length ≤ acc.length + k := by
  intro k
  induction k with
  | zero => intro p acc; simp [splitFrom]
  | succ k ih =>
    intro p acc
    unfold splitFrom
    split
    · split
      · simp
      · have := ih (takeStrS l p most).2.1 (acc ++ [(takeStrS l p most).1])
        simp only [List.length_append, List.length_cons, List.length_nil] at this
        omega
    · simp

section
attribute [local irreducible] bin un conv call callV blt slc fldA fld idxA idx lkp mUpd mEnt eSt rng nxt ent ext alc box bld bldS ld sto nilC mkMap mkS ifc pick rdy wts gsel sti cond retM Gives cCode cGrp cSeq cOp

set_option maxHeartbeats 2000000 in
theorem strings_law {a a1 a2 : Option Addr} {n c n1 c1 n2 c2 : Nat} {lb ls : List UInt8} {vs : List (Option Addr × Nat × Nat)} {L : List (List UInt8)} {p most : Int} {w : World} {K : KV} (hb : RB w a n c lb) (hs : RB w a1 n1 c1 ls) (hl : RBB w a2 n2 c2 vs L)
    (hn : n ≤ 4000000) (hn1 : n1 ≤ 4000000) (hn2 : n2 ≤ 4000000) (hv : vast L ≤ 4000000)
    (h : ∀ w', Below w.heap.size w w' → K (.bool true) w') : call Try.prog 5 #[.slice a n c, .slice a1 n1 c1, .slice a2 n2 c2, .int .i64 p, .int .i64 most] K w := by
  have hlb := hb.len
  have hls := hs.len
  refine call_of leatlaw01_OctetStrings_go (leatlaw01_OctetStrings_in ?_)
  by_cases hbig : 4096 < n + n1
  · (repeat (first | refine bin_eql ?_ | refine bin_neq ?_ | refine bin_lss ?_ | refine bin_leq ?_ | refine bin_gtr ?_ | refine bin_geq ?_ | refine add64 (by omega) (by omega) ?_ | refine sub64 (by omega) (by omega) ?_ | refine ext_a ?_ | refine ext_b ?_ | refine ext3_a ?_ | refine ext3_b ?_ | refine ext3_c ?_ | refine un_notD ?_ | refine mul64 (by omega) (by omega) ?_ | refine cvIU (by omega) (by omega) ?_ | refine cvIUint (by omega) (by omega) ?_ | refine cvUI (by omega) (by omega) ?_ | refine cvBU (by omega) (by omega) ?_ | refine len8 ?_ | refine len36 ?_ | refine pick_T ?_ | refine pick_F ?_ | refine cond_T ?_ | refine cond_F ?_ | refine cond_t (by omega) ?_ | refine cond_f (by omega) ?_ | refine gsel_T ?_ | refine gsel_F ?_ | refine gsel_Tn ?_ | refine gsel_Fn ?_ | refine gsel_pt (by omega) ?_ | refine gsel_pf (by omega) ?_ | refine gsel_nt (by omega) ?_ | refine gsel_nf (by omega) ?_ | refine pick_t (by omega) ?_ | refine pick_f (by omega) ?_ | refine sti_of (fun _ hK => bin_eql hK) ?_ | refine sti_of (fun _ hK => bin_neq hK) ?_ | refine sti_of (fun _ hK => bin_lss hK) ?_ | refine sti_of (fun _ hK => bin_leq hK) ?_ | refine sti_of (fun _ hK => bin_gtr hK) ?_ | refine sti_of (fun _ hK => bin_geq hK) ?_ | refine sti_of (fun _ hK => add64 (by omega) (by omega) hK) ?_ | refine sti_of (fun _ hK => sub64 (by omega) (by omega) hK) ?_ | refine sti_of (fun _ hK => un_notD hK) ?_ | refine sti_of (fun _ hK => len8 hK) ?_ | refine sti_of (fun _ hK => pick_T hK) ?_ | refine sti_of (fun _ hK => pick_F hK) ?_))
    exact works_c h
  (repeat (first | refine bin_eql ?_ | refine bin_neq ?_ | refine bin_lss ?_ | refine bin_leq ?_ | refine bin_gtr ?_ | refine bin_geq ?_ | refine add64 (by omega) (by omega) ?_ | refine sub64 (by omega) (by omega) ?_ | refine ext_a ?_ | refine ext_b ?_ | refine ext3_a ?_ | refine ext3_b ?_ | refine ext3_c ?_ | refine un_notD ?_ | refine mul64 (by omega) (by omega) ?_ | refine cvIU (by omega) (by omega) ?_ | refine cvIUint (by omega) (by omega) ?_ | refine cvUI (by omega) (by omega) ?_ | refine cvBU (by omega) (by omega) ?_ | refine len8 ?_ | refine len36 ?_ | refine pick_T ?_ | refine pick_F ?_ | refine cond_T ?_ | refine cond_F ?_ | refine cond_t (by omega) ?_ | refine cond_f (by omega) ?_ | refine gsel_T ?_ | refine gsel_F ?_ | refine gsel_Tn ?_ | refine gsel_Fn ?_ | refine gsel_pt (by omega) ?_ | refine gsel_pf (by omega) ?_ | refine gsel_nt (by omega) ?_ | refine gsel_nf (by omega) ?_ | refine pick_t (by omega) ?_ | refine pick_f (by omega) ?_ | refine sti_of (fun _ hK => bin_eql hK) ?_ | refine sti_of (fun _ hK => bin_neq hK) ?_ | refine sti_of (fun _ hK => bin_lss hK) ?_ | refine sti_of (fun _ hK => bin_leq hK) ?_ | refine sti_of (fun _ hK => bin_gtr hK) ?_ | refine sti_of (fun _ hK => bin_geq hK) ?_ | refine sti_of (fun _ hK => add64 (by omega) (by omega) hK) ?_ | refine sti_of (fun _ hK => sub64 (by omega) (by omega) hK) ?_ | refine sti_of (fun _ hK => un_notD hK) ?_ | refine sti_of (fun _ hK => len8 hK) ?_ | refine sti_of (fun _ hK => pick_T hK) ?_ | refine sti_of (fun _ hK => pick_F hK) ?_))
  refine vast_c hl (by omega) (by omega) ?_
  by_cases hvb : 4096 < n2 + vast L
  · (repeat (first | refine bin_eql ?_ | refine bin_neq ?_ | refine bin_lss ?_ | refine bin_leq ?_ | refine bin_gtr ?_ | refine bin_geq ?_ | refine add64 (by omega) (by omega) ?_ | refine sub64 (by omega) (by omega) ?_ | refine ext_a ?_ | refine ext_b ?_ | refine ext3_a ?_ | refine ext3_b ?_ | refine ext3_c ?_ | refine un_notD ?_ | refine mul64 (by omega) (by omega) ?_ | refine cvIU (by omega) (by omega) ?_ | refine cvIUint (by omega) (by omega) ?_ | refine cvUI (by omega) (by omega) ?_ | refine cvBU (by omega) (by omega) ?_ | refine len8 ?_ | refine len36 ?_ | refine pick_T ?_ | refine pick_F ?_ | refine cond_T ?_ | refine cond_F ?_ | refine cond_t (by omega) ?_ | refine cond_f (by omega) ?_ | refine gsel_T ?_ | refine gsel_F ?_ | refine gsel_Tn ?_ | refine gsel_Fn ?_ | refine gsel_pt (by omega) ?_ | refine gsel_pf (by omega) ?_ | refine gsel_nt (by omega) ?_ | refine gsel_nf (by omega) ?_ | refine pick_t (by omega) ?_ | refine pick_f (by omega) ?_ | refine sti_of (fun _ hK => bin_eql hK) ?_ | refine sti_of (fun _ hK => bin_neq hK) ?_ | refine sti_of (fun _ hK => bin_lss hK) ?_ | refine sti_of (fun _ hK => bin_leq hK) ?_ | refine sti_of (fun _ hK => bin_gtr hK) ?_ | refine sti_of (fun _ hK => bin_geq hK) ?_ | refine sti_of (fun _ hK => add64 (by omega) (by omega) hK) ?_ | refine sti_of (fun _ hK => sub64 (by omega) (by omega) hK) ?_ | refine sti_of (fun _ hK => un_notD hK) ?_ | refine sti_of (fun _ hK => len8 hK) ?_ | refine sti_of (fun _ hK => pick_T hK) ?_ | refine sti_of (fun _ hK => pick_F hK) ?_))
    exact works_c h
  (repeat (first | refine bin_eql ?_ | refine bin_neq ?_ | refine bin_lss ?_ | refine bin_leq ?_ | refine bin_gtr ?_ | refine bin_geq ?_ | refine add64 (by omega) (by omega) ?_ | refine sub64 (by omega) (by omega) ?_ | refine ext_a ?_ | refine ext_b ?_ | refine ext3_a ?_ | refine ext3_b ?_ | refine ext3_c ?_ | refine un_notD ?_ | refine mul64 (by omega) (by omega) ?_ | refine cvIU (by omega) (by omega) ?_ | refine cvIUint (by omega) (by omega) ?_ | refine cvUI (by omega) (by omega) ?_ | refine cvBU (by omega) (by omega) ?_ | refine len8 ?_ | refine len36 ?_ | refine pick_T ?_ | refine pick_F ?_ | refine cond_T ?_ | refine cond_F ?_ | refine cond_t (by omega) ?_ | refine cond_f (by omega) ?_ | refine gsel_T ?_ | refine gsel_F ?_ | refine gsel_Tn ?_ | refine gsel_Fn ?_ | refine gsel_pt (by omega) ?_ | refine gsel_pf (by omega) ?_ | refine gsel_nt (by omega) ?_ | refine gsel_nf (by omega) ?_ | refine pick_t (by omega) ?_ | refine pick_f (by omega) ?_ | refine sti_of (fun _ hK => bin_eql hK) ?_ | refine sti_of (fun _ hK => bin_neq hK) ?_ | refine sti_of (fun _ hK => bin_lss hK) ?_ | refine sti_of (fun _ hK => bin_leq hK) ?_ | refine sti_of (fun _ hK => bin_gtr hK) ?_ | refine sti_of (fun _ hK => bin_geq hK) ?_ | refine sti_of (fun _ hK => add64 (by omega) (by omega) hK) ?_ | refine sti_of (fun _ hK => sub64 (by omega) (by omega) hK) ?_ | refine sti_of (fun _ hK => un_notD hK) ?_ | refine sti_of (fun _ hK => len8 hK) ?_ | refine sti_of (fun _ hK => pick_T hK) ?_ | refine sti_of (fun _ hK => pick_F hK) ?_))
  refine roomy_c hb (by omega) ?_
  intro g w1 hg1 hgs b1 ro1 rm1
  have s1 := b1.size
  refine copy_c (hl.below b1 (Nat.le_refl _)) (by omega) (by omega) ?_
  intro a3 n3 c3 vs3 w2 o2 b2
  have s2 := b2.size
  have B2 : Below w.heap.size w w2 := b1.trans (b2.mono s1)
  refine putStr_c (ro1.below b2 (Nat.le_refl _)) (hs.below B2 (Nat.le_refl _)) (by omega) (by omega) ?_
  intro a4 n4 c4 w3 o3 b3
  have s3 := b3.size
  have B3 : Below w.heap.size w w3 := B2.trans (b3.mono (by omega))
  (repeat (first | refine leatlaw01_OctetStrings_A1_r ?_ | refine leatlaw01_OctetStrings_A2_r ?_ | refine leatlaw01_OctetStrings_A3_r ?_ | refine leatlaw01_OctetStrings_P1_r ?_ | refine leatlaw01_OctetStrings_P2_r ?_ | refine leatlaw01_OctetStrings_P3_r ?_ | refine bin_eql ?_ | refine bin_neq ?_ | refine bin_lss ?_ | refine bin_leq ?_ | refine bin_gtr ?_ | refine bin_geq ?_ | refine add64 (by omega) (by omega) ?_ | refine sub64 (by omega) (by omega) ?_ | refine ext_a ?_ | refine ext_b ?_ | refine ext3_a ?_ | refine ext3_b ?_ | refine ext3_c ?_ | refine un_notD ?_ | refine mul64 (by omega) (by omega) ?_ | refine cvIU (by omega) (by omega) ?_ | refine cvIUint (by omega) (by omega) ?_ | refine cvUI (by omega) (by omega) ?_ | refine cvBU (by omega) (by omega) ?_ | refine len8 ?_ | refine len36 ?_ | refine pick_T ?_ | refine pick_F ?_ | refine cond_T ?_ | refine cond_F ?_ | refine cond_t (by omega) ?_ | refine cond_f (by omega) ?_ | refine gsel_T ?_ | refine gsel_F ?_ | refine gsel_Tn ?_ | refine gsel_Fn ?_ | refine gsel_pt (by omega) ?_ | refine gsel_pf (by omega) ?_ | refine gsel_nt (by omega) ?_ | refine gsel_nf (by omega) ?_ | refine pick_t (by omega) ?_ | refine pick_f (by omega) ?_ | refine sti_of (fun _ hK => bin_eql hK) ?_ | refine sti_of (fun _ hK => bin_neq hK) ?_ | refine sti_of (fun _ hK => bin_lss hK) ?_ | refine sti_of (fun _ hK => bin_leq hK) ?_ | refine sti_of (fun _ hK => bin_gtr hK) ?_ | refine sti_of (fun _ hK => bin_geq hK) ?_ | refine sti_of (fun _ hK => add64 (by omega) (by omega) hK) ?_ | refine sti_of (fun _ hK => sub64 (by omega) (by omega) hK) ?_ | refine sti_of (fun _ hK => un_notD hK) ?_ | refine sti_of (fun _ hK => len8 hK) ?_ | refine sti_of (fun _ hK => pick_T hK) ?_ | refine sti_of (fun _ hK => pick_F hK) ?_))
  refine rputStr_c (hb.below B3 (Nat.le_refl _)) (hs.below B3 (Nat.le_refl _)) (by omega) (by omega) ?_
  intro a5 n5 c5 w4 o4 b4
  have s4 := b4.size
  have B4 : Below w.heap.size w w4 := B3.trans (b4.mono (by omega))
  (repeat (first | refine bin_eql ?_ | refine bin_neq ?_ | refine bin_lss ?_ | refine bin_leq ?_ | refine bin_gtr ?_ | refine bin_geq ?_ | refine add64 (by omega) (by omega) ?_ | refine sub64 (by omega) (by omega) ?_ | refine ext_a ?_ | refine ext_b ?_ | refine ext3_a ?_ | refine ext3_b ?_ | refine ext3_c ?_ | refine un_notD ?_ | refine mul64 (by omega) (by omega) ?_ | refine cvIU (by omega) (by omega) ?_ | refine cvIUint (by omega) (by omega) ?_ | refine cvUI (by omega) (by omega) ?_ | refine cvBU (by omega) (by omega) ?_ | refine len8 ?_ | refine len36 ?_ | refine pick_T ?_ | refine pick_F ?_ | refine cond_T ?_ | refine cond_F ?_ | refine cond_t (by omega) ?_ | refine cond_f (by omega) ?_ | refine gsel_T ?_ | refine gsel_F ?_ | refine gsel_Tn ?_ | refine gsel_Fn ?_ | refine gsel_pt (by omega) ?_ | refine gsel_pf (by omega) ?_ | refine gsel_nt (by omega) ?_ | refine gsel_nf (by omega) ?_ | refine pick_t (by omega) ?_ | refine pick_f (by omega) ?_ | refine sti_of (fun _ hK => bin_eql hK) ?_ | refine sti_of (fun _ hK => bin_neq hK) ?_ | refine sti_of (fun _ hK => bin_lss hK) ?_ | refine sti_of (fun _ hK => bin_leq hK) ?_ | refine sti_of (fun _ hK => bin_gtr hK) ?_ | refine sti_of (fun _ hK => bin_geq hK) ?_ | refine sti_of (fun _ hK => add64 (by omega) (by omega) hK) ?_ | refine sti_of (fun _ hK => sub64 (by omega) (by omega) hK) ?_ | refine sti_of (fun _ hK => un_notD hK) ?_ | refine sti_of (fun _ hK => len8 hK) ?_ | refine sti_of (fun _ hK => pick_T hK) ?_ | refine sti_of (fun _ hK => pick_F hK) ?_))
  have hn3 : n3 = n2 := by have h1 := o2.rbb.lenL; have h2 := hl.lenL; omega
  refine strings_c (o2.rbb.below (b3.trans (b4.mono s3)) (Nat.le_refl _)) (by omega) (by omega) ?_
  intro a6 n6 c6 w5 o5 b5
  have s5 := b5.size
  have B5 : Below w.heap.size w w5 := B4.trans (b5.mono (by omega))
  (repeat (first | refine bin_eql ?_ | refine bin_neq ?_ | refine bin_lss ?_ | refine bin_leq ?_ | refine bin_gtr ?_ | refine bin_geq ?_ | refine add64 (by omega) (by omega) ?_ | refine sub64 (by omega) (by omega) ?_ | refine ext_a ?_ | refine ext_b ?_ | refine ext3_a ?_ | refine ext3_b ?_ | refine ext3_c ?_ | refine un_notD ?_ | refine mul64 (by omega) (by omega) ?_ | refine cvIU (by omega) (by omega) ?_ | refine cvIUint (by omega) (by omega) ?_ | refine cvUI (by omega) (by omega) ?_ | refine cvBU (by omega) (by omega) ?_ | refine len8 ?_ | refine len36 ?_ | refine pick_T ?_ | refine pick_F ?_ | refine cond_T ?_ | refine cond_F ?_ | refine cond_t (by omega) ?_ | refine cond_f (by omega) ?_ | refine gsel_T ?_ | refine gsel_F ?_ | refine gsel_Tn ?_ | refine gsel_Fn ?_ | refine gsel_pt (by omega) ?_ | refine gsel_pf (by omega) ?_ | refine gsel_nt (by omega) ?_ | refine gsel_nf (by omega) ?_ | refine pick_t (by omega) ?_ | refine pick_f (by omega) ?_ | refine sti_of (fun _ hK => bin_eql hK) ?_ | refine sti_of (fun _ hK => bin_neq hK) ?_ | refine sti_of (fun _ hK => bin_lss hK) ?_ | refine sti_of (fun _ hK => bin_leq hK) ?_ | refine sti_of (fun _ hK => bin_gtr hK) ?_ | refine sti_of (fun _ hK => bin_geq hK) ?_ | refine sti_of (fun _ hK => add64 (by omega) (by omega) hK) ?_ | refine sti_of (fun _ hK => sub64 (by omega) (by omega) hK) ?_ | refine sti_of (fun _ hK => un_notD hK) ?_ | refine sti_of (fun _ hK => len8 hK) ?_ | refine sti_of (fun _ hK => pick_T hK) ?_ | refine sti_of (fun _ hK => pick_F hK) ?_))
  refine rstrings_c (hl.below B5 (Nat.le_refl _)) (by omega) (by omega) ?_
  intro a7 n7 c7 w6 o6 b6
  have s6 := b6.size
  have B6 : Below w.heap.size w w6 := B5.trans (b6.mono (by omega))
  have b26 : Below w2.heap.size w2 w6 := b3.trans ((b4.mono s3).trans ((b5.mono (by omega)).trans (b6.mono (by omega))))
  have b16 : Below w1.heap.size w1 w6 := b2.trans (b26.mono s2)
  have ro6 := ro1.below b16 (Nat.le_refl _)
  have rm6 := rm1.below b16 (Nat.le_refl _)
  have rb6 := hb.below B6 (Nat.le_refl _)
  have rl6 := hl.below B6 (Nat.le_refl _)
  have om6 := o2.rbb.below b26 (Nat.le_refl _)
  (repeat (first | refine bin_eql ?_ | refine bin_neq ?_ | refine bin_lss ?_ | refine bin_leq ?_ | refine bin_gtr ?_ | refine bin_geq ?_ | refine add64 (by omega) (by omega) ?_ | refine sub64 (by omega) (by omega) ?_ | refine ext_a ?_ | refine ext_b ?_ | refine ext3_a ?_ | refine ext3_b ?_ | refine ext3_c ?_ | refine un_notD ?_ | refine mul64 (by omega) (by omega) ?_ | refine cvIU (by omega) (by omega) ?_ | refine cvIUint (by omega) (by omega) ?_ | refine cvUI (by omega) (by omega) ?_ | refine cvBU (by omega) (by omega) ?_ | refine len8 ?_ | refine len36 ?_ | refine pick_T ?_ | refine pick_F ?_ | refine cond_T ?_ | refine cond_F ?_ | refine cond_t (by omega) ?_ | refine cond_f (by omega) ?_ | refine gsel_T ?_ | refine gsel_F ?_ | refine gsel_Tn ?_ | refine gsel_Fn ?_ | refine gsel_pt (by omega) ?_ | refine gsel_pf (by omega) ?_ | refine gsel_nt (by omega) ?_ | refine gsel_nf (by omega) ?_ | refine pick_t (by omega) ?_ | refine pick_f (by omega) ?_ | refine sti_of (fun _ hK => bin_eql hK) ?_ | refine sti_of (fun _ hK => bin_neq hK) ?_ | refine sti_of (fun _ hK => bin_lss hK) ?_ | refine sti_of (fun _ hK => bin_leq hK) ?_ | refine sti_of (fun _ hK => bin_gtr hK) ?_ | refine sti_of (fun _ hK => bin_geq hK) ?_ | refine sti_of (fun _ hK => add64 (by omega) (by omega) hK) ?_ | refine sti_of (fun _ hK => sub64 (by omega) (by omega) hK) ?_ | refine sti_of (fun _ hK => un_notD hK) ?_ | refine sti_of (fun _ hK => len8 hK) ?_ | refine sti_of (fun _ hK => pick_T hK) ?_ | refine sti_of (fun _ hK => pick_F hK) ?_))
  refine takeStr_c ro6 (by omega) ?_
  intro a8 n8 c8 w7 o7 b7
  have s7 := b7.size
  have B7 : Below w.heap.size w w7 := B6.trans (b7.mono (by omega))
  (repeat (first | refine leatlaw01_OctetStrings_A1_r ?_ | refine leatlaw01_OctetStrings_A2_r ?_ | refine leatlaw01_OctetStrings_A3_r ?_ | refine leatlaw01_OctetStrings_P1_r ?_ | refine leatlaw01_OctetStrings_P2_r ?_ | refine leatlaw01_OctetStrings_P3_r ?_ | refine bin_eql ?_ | refine bin_neq ?_ | refine bin_lss ?_ | refine bin_leq ?_ | refine bin_gtr ?_ | refine bin_geq ?_ | refine add64 (by omega) (by omega) ?_ | refine sub64 (by omega) (by omega) ?_ | refine ext_a ?_ | refine ext_b ?_ | refine ext3_a ?_ | refine ext3_b ?_ | refine ext3_c ?_ | refine un_notD ?_ | refine mul64 (by omega) (by omega) ?_ | refine cvIU (by omega) (by omega) ?_ | refine cvIUint (by omega) (by omega) ?_ | refine cvUI (by omega) (by omega) ?_ | refine cvBU (by omega) (by omega) ?_ | refine len8 ?_ | refine len36 ?_ | refine pick_T ?_ | refine pick_F ?_ | refine cond_T ?_ | refine cond_F ?_ | refine cond_t (by omega) ?_ | refine cond_f (by omega) ?_ | refine gsel_T ?_ | refine gsel_F ?_ | refine gsel_Tn ?_ | refine gsel_Fn ?_ | refine gsel_pt (by omega) ?_ | refine gsel_pf (by omega) ?_ | refine gsel_nt (by omega) ?_ | refine gsel_nf (by omega) ?_ | refine pick_t (by omega) ?_ | refine pick_f (by omega) ?_ | refine sti_of (fun _ hK => bin_eql hK) ?_ | refine sti_of (fun _ hK => bin_neq hK) ?_ | refine sti_of (fun _ hK => bin_lss hK) ?_ | refine sti_of (fun _ hK => bin_leq hK) ?_ | refine sti_of (fun _ hK => bin_gtr hK) ?_ | refine sti_of (fun _ hK => bin_geq hK) ?_ | refine sti_of (fun _ hK => add64 (by omega) (by omega) hK) ?_ | refine sti_of (fun _ hK => sub64 (by omega) (by omega) hK) ?_ | refine sti_of (fun _ hK => un_notD hK) ?_ | refine sti_of (fun _ hK => len8 hK) ?_ | refine sti_of (fun _ hK => pick_T hK) ?_ | refine sti_of (fun _ hK => pick_F hK) ?_))
  refine rtakeStr_c (hb.below B7 (Nat.le_refl _)) (by omega) ?_
  intro a9 n9 c9 w8 o8 b8
  have s8 := b8.size
  have b68 : Below w6.heap.size w6 w8 := b7.trans (b8.mono s7)
  have B8 : Below w.heap.size w w8 := B6.trans (b68.mono (by omega))
  (repeat (first | refine bin_eql ?_ | refine bin_neq ?_ | refine bin_lss ?_ | refine bin_leq ?_ | refine bin_gtr ?_ | refine bin_geq ?_ | refine add64 (by omega) (by omega) ?_ | refine sub64 (by omega) (by omega) ?_ | refine ext_a ?_ | refine ext_b ?_ | refine ext3_a ?_ | refine ext3_b ?_ | refine ext3_c ?_ | refine un_notD ?_ | refine mul64 (by omega) (by omega) ?_ | refine cvIU (by omega) (by omega) ?_ | refine cvIUint (by omega) (by omega) ?_ | refine cvUI (by omega) (by omega) ?_ | refine cvBU (by omega) (by omega) ?_ | refine len8 ?_ | refine len36 ?_ | refine pick_T ?_ | refine pick_F ?_ | refine cond_T ?_ | refine cond_F ?_ | refine cond_t (by omega) ?_ | refine cond_f (by omega) ?_ | refine gsel_T ?_ | refine gsel_F ?_ | refine gsel_Tn ?_ | refine gsel_Fn ?_ | refine gsel_pt (by omega) ?_ | refine gsel_pf (by omega) ?_ | refine gsel_nt (by omega) ?_ | refine gsel_nf (by omega) ?_ | refine pick_t (by omega) ?_ | refine pick_f (by omega) ?_ | refine sti_of (fun _ hK => bin_eql hK) ?_ | refine sti_of (fun _ hK => bin_neq hK) ?_ | refine sti_of (fun _ hK => bin_lss hK) ?_ | refine sti_of (fun _ hK => bin_leq hK) ?_ | refine sti_of (fun _ hK => bin_gtr hK) ?_ | refine sti_of (fun _ hK => bin_geq hK) ?_ | refine sti_of (fun _ hK => add64 (by omega) (by omega) hK) ?_ | refine sti_of (fun _ hK => sub64 (by omega) (by omega) hK) ?_ | refine sti_of (fun _ hK => un_notD hK) ?_ | refine sti_of (fun _ hK => len8 hK) ?_ | refine sti_of (fun _ hK => pick_T hK) ?_ | refine sti_of (fun _ hK => pick_F hK) ?_))
  refine split_c (ro6.below b68 (Nat.le_refl _)) (by omega) ?_
  intro a10 n10 c10 vs10 w9 o9 b9
  have s9 := b9.size
  have b69 : Below w6.heap.size w6 w9 := b68.trans (b9.mono (by omega))
  have B9 : Below w.heap.size w w9 := B6.trans (b69.mono (by omega))
  (repeat (first | refine bin_eql ?_ | refine bin_neq ?_ | refine bin_lss ?_ | refine bin_leq ?_ | refine bin_gtr ?_ | refine bin_geq ?_ | refine add64 (by omega) (by omega) ?_ | refine sub64 (by omega) (by omega) ?_ | refine ext_a ?_ | refine ext_b ?_ | refine ext3_a ?_ | refine ext3_b ?_ | refine ext3_c ?_ | refine un_notD ?_ | refine mul64 (by omega) (by omega) ?_ | refine cvIU (by omega) (by omega) ?_ | refine cvIUint (by omega) (by omega) ?_ | refine cvUI (by omega) (by omega) ?_ | refine cvBU (by omega) (by omega) ?_ | refine len8 ?_ | refine len36 ?_ | refine pick_T ?_ | refine pick_F ?_ | refine cond_T ?_ | refine cond_F ?_ | refine cond_t (by omega) ?_ | refine cond_f (by omega) ?_ | refine gsel_T ?_ | refine gsel_F ?_ | refine gsel_Tn ?_ | refine gsel_Fn ?_ | refine gsel_pt (by omega) ?_ | refine gsel_pf (by omega) ?_ | refine gsel_nt (by omega) ?_ | refine gsel_nf (by omega) ?_ | refine pick_t (by omega) ?_ | refine pick_f (by omega) ?_ | refine sti_of (fun _ hK => bin_eql hK) ?_ | refine sti_of (fun _ hK => bin_neq hK) ?_ | refine sti_of (fun _ hK => bin_lss hK) ?_ | refine sti_of (fun _ hK => bin_leq hK) ?_ | refine sti_of (fun _ hK => bin_gtr hK) ?_ | refine sti_of (fun _ hK => bin_geq hK) ?_ | refine sti_of (fun _ hK => add64 (by omega) (by omega) hK) ?_ | refine sti_of (fun _ hK => sub64 (by omega) (by omega) hK) ?_ | refine sti_of (fun _ hK => un_notD hK) ?_ | refine sti_of (fun _ hK => len8 hK) ?_ | refine sti_of (fun _ hK => pick_T hK) ?_ | refine sti_of (fun _ hK => pick_F hK) ?_))
  refine rsplit_c (hb.below B9 (Nat.le_refl _)) (by omega) ?_
  intro a11 n11 c11 vs11 w10 o10 b10
  have s10 := b10.size
  have b6A : Below w6.heap.size w6 w10 := b69.trans (b10.mono (by omega))
  have r3 := (o3.below (b4.trans ((b5.mono (by omega)).trans ((b6.mono (by omega)).trans (b6A.mono (by omega))))) (Nat.le_refl _)).rb
  have r4 := (o4.below (b5.trans ((b6.mono (by omega)).trans (b6A.mono (by omega)))) (Nat.le_refl _)).rb
  have r5 := (o5.below (b6.trans (b6A.mono (by omega))) (Nat.le_refl _)).rb
  have r6 := (o6.below b6A (Nat.le_refl _)).rb
  have b7A : Below w7.heap.size w7 w10 := b8.trans ((b9.mono (by omega)).trans (b10.mono (by omega)))
  have r7 := (o7.below b7A (Nat.le_refl _)).rb
  have r8 := (o8.below (b9.trans (b10.mono s9)) (Nat.le_refl _)).rb
  (repeat (first | refine str8 r3 (str8 r4 ?_) | refine str8 r5 (str8 r6 ?_) | refine str8 r7 (str8 r8 ?_) | refine bin_neqS ?_ | refine gsel_nf (fun hh => hh rfl) ?_ | refine pick_f (fun hh => hh rfl) ?_ | refine leatlaw01_OctetStrings_A1_r ?_ | refine leatlaw01_OctetStrings_A2_r ?_ | refine leatlaw01_OctetStrings_A3_r ?_ | refine leatlaw01_OctetStrings_P1_r ?_ | refine leatlaw01_OctetStrings_P2_r ?_ | refine leatlaw01_OctetStrings_P3_r ?_ | refine bin_eql ?_ | refine bin_neq ?_ | refine bin_lss ?_ | refine bin_leq ?_ | refine bin_gtr ?_ | refine bin_geq ?_ | refine add64 (by omega) (by omega) ?_ | refine sub64 (by omega) (by omega) ?_ | refine ext_a ?_ | refine ext_b ?_ | refine ext3_a ?_ | refine ext3_b ?_ | refine ext3_c ?_ | refine un_notD ?_ | refine mul64 (by omega) (by omega) ?_ | refine cvIU (by omega) (by omega) ?_ | refine cvIUint (by omega) (by omega) ?_ | refine cvUI (by omega) (by omega) ?_ | refine cvBU (by omega) (by omega) ?_ | refine len8 ?_ | refine len36 ?_ | refine pick_T ?_ | refine pick_F ?_ | refine cond_T ?_ | refine cond_F ?_ | refine cond_t (by omega) ?_ | refine cond_f (by omega) ?_ | refine gsel_T ?_ | refine gsel_F ?_ | refine gsel_Tn ?_ | refine gsel_Fn ?_ | refine gsel_pt (by omega) ?_ | refine gsel_pf (by omega) ?_ | refine gsel_nt (by omega) ?_ | refine gsel_nf (by omega) ?_ | refine pick_t (by omega) ?_ | refine pick_f (by omega) ?_ | refine sti_of (fun _ hK => bin_eql hK) ?_ | refine sti_of (fun _ hK => bin_neq hK) ?_ | refine sti_of (fun _ hK => bin_lss hK) ?_ | refine sti_of (fun _ hK => bin_leq hK) ?_ | refine sti_of (fun _ hK => bin_gtr hK) ?_ | refine sti_of (fun _ hK => bin_geq hK) ?_ | refine sti_of (fun _ hK => add64 (by omega) (by omega) hK) ?_ | refine sti_of (fun _ hK => sub64 (by omega) (by omega) hK) ?_ | refine sti_of (fun _ hK => un_notD hK) ?_ | refine sti_of (fun _ hK => len8 hK) ?_ | refine sti_of (fun _ hK => pick_T hK) ?_ | refine sti_of (fun _ hK => pick_F hK) ?_))
  have hn10 : n10 ≤ 5000 := by
    have h1 := o9.rbb.lenL
    have h2 := splitFrom_len lb most (lb.length + 1) 0 []
    simp only [List.length_nil] at h2
    unfold splitS at h1
    omega
  refine same_c (o9.rbb.below b10 (Nat.le_refl _)) o10.rbb (by omega) ?_
  intro w11 b11
  have s11 := b11.size
  (repeat (first | refine gsel_nf (fun hh => hh rfl) ?_ | refine pick_f (fun hh => hh rfl) ?_ | refine leatlaw01_OctetStrings_A1_r ?_ | refine leatlaw01_OctetStrings_A2_r ?_ | refine leatlaw01_OctetStrings_A3_r ?_ | refine leatlaw01_OctetStrings_P1_r ?_ | refine leatlaw01_OctetStrings_P2_r ?_ | refine leatlaw01_OctetStrings_P3_r ?_ | refine bin_eql ?_ | refine bin_neq ?_ | refine bin_lss ?_ | refine bin_leq ?_ | refine bin_gtr ?_ | refine bin_geq ?_ | refine add64 (by omega) (by omega) ?_ | refine sub64 (by omega) (by omega) ?_ | refine ext_a ?_ | refine ext_b ?_ | refine ext3_a ?_ | refine ext3_b ?_ | refine ext3_c ?_ | refine un_notD ?_ | refine mul64 (by omega) (by omega) ?_ | refine cvIU (by omega) (by omega) ?_ | refine cvIUint (by omega) (by omega) ?_ | refine cvUI (by omega) (by omega) ?_ | refine cvBU (by omega) (by omega) ?_ | refine len8 ?_ | refine len36 ?_ | refine pick_T ?_ | refine pick_F ?_ | refine cond_T ?_ | refine cond_F ?_ | refine cond_t (by omega) ?_ | refine cond_f (by omega) ?_ | refine gsel_T ?_ | refine gsel_F ?_ | refine gsel_Tn ?_ | refine gsel_Fn ?_ | refine gsel_pt (by omega) ?_ | refine gsel_pf (by omega) ?_ | refine gsel_nt (by omega) ?_ | refine gsel_nf (by omega) ?_ | refine pick_t (by omega) ?_ | refine pick_f (by omega) ?_ | refine sti_of (fun _ hK => bin_eql hK) ?_ | refine sti_of (fun _ hK => bin_neq hK) ?_ | refine sti_of (fun _ hK => bin_lss hK) ?_ | refine sti_of (fun _ hK => bin_leq hK) ?_ | refine sti_of (fun _ hK => bin_gtr hK) ?_ | refine sti_of (fun _ hK => bin_geq hK) ?_ | refine sti_of (fun _ hK => add64 (by omega) (by omega) hK) ?_ | refine sti_of (fun _ hK => sub64 (by omega) (by omega) hK) ?_ | refine sti_of (fun _ hK => un_notD hK) ?_ | refine sti_of (fun _ hK => len8 hK) ?_ | refine sti_of (fun _ hK => pick_T hK) ?_ | refine sti_of (fun _ hK => pick_F hK) ?_))
  have b6B : Below w6.heap.size w6 w11 := b6A.trans (b11.mono (by omega))
  have x11 : ∃ lx, OB w11 w6.heap.size a8 n8 c8 lx := ⟨_, o7.below (b7A.trans (b11.mono (by omega))) (Nat.le_refl _)⟩
  have p11 : OBX w11 w6.heap.size a10 n10 c10 vs10 := (o9.obx.below (b10.trans (b11.mono s10)) (Nat.le_refl _)).mono (by omega)
  have hvs : vs10.length = n10 := by have := (OV.rv p11.row).len; simpa using this
  have hn8 : n8 ≤ 1000000000000 := by
    have := OB.len o7
    have h2 : (takeStrS lb p most).1.length ≤ lb.length := by
      unfold takeStrS
      split
      · simp
      · split
        · simp
        · split
          · simp
          · simp only [List.length_take, List.length_drop]; omega
    omega
  have hend : ∀ wr, Below w6.heap.size w6 wr → OBX wr w6.heap.size a10 n10 c10 vs10 → True := fun _ _ _ => trivial
  refine leatlaw01_OctetStrings_L1_r (Inv := fun i wr => ∃ j : Nat, i = .int .i64 (j : Nat) ∧ j ≤ n8 ∧ Below w6.heap.size w6 wr ∧ (∃ lx, OB wr w6.heap.size a8 n8 c8 lx) ∧ OBX wr w6.heap.size a10 n10 c10 vs10) (μ := fun i _ => n8 - (intOf i).toNat) ⟨0, rfl, by omega, b6B, x11, p11⟩ ?_
  rintro _ dd wr m ⟨j, rfl, hj, br, ⟨lx, ox⟩, px⟩ hm
  by_cases hjn : j < n8
  · (repeat (first | refine bin_eql ?_ | refine bin_neq ?_ | refine bin_lss ?_ | refine bin_leq ?_ | refine bin_gtr ?_ | refine bin_geq ?_ | refine add64 (by omega) (by omega) ?_ | refine sub64 (by omega) (by omega) ?_ | refine ext_a ?_ | refine ext_b ?_ | refine ext3_a ?_ | refine ext3_b ?_ | refine ext3_c ?_ | refine un_notD ?_ | refine mul64 (by omega) (by omega) ?_ | refine cvIU (by omega) (by omega) ?_ | refine cvIUint (by omega) (by omega) ?_ | refine cvUI (by omega) (by omega) ?_ | refine cvBU (by omega) (by omega) ?_ | refine len8 ?_ | refine len36 ?_ | refine pick_T ?_ | refine pick_F ?_ | refine cond_T ?_ | refine cond_F ?_ | refine cond_t (by omega) ?_ | refine cond_f (by omega) ?_ | refine gsel_T ?_ | refine gsel_F ?_ | refine gsel_Tn ?_ | refine gsel_Fn ?_ | refine gsel_pt (by omega) ?_ | refine gsel_pf (by omega) ?_ | refine gsel_nt (by omega) ?_ | refine gsel_nf (by omega) ?_ | refine pick_t (by omega) ?_ | refine pick_f (by omega) ?_ | refine sti_of (fun _ hK => bin_eql hK) ?_ | refine sti_of (fun _ hK => bin_neq hK) ?_ | refine sti_of (fun _ hK => bin_lss hK) ?_ | refine sti_of (fun _ hK => bin_leq hK) ?_ | refine sti_of (fun _ hK => bin_gtr hK) ?_ | refine sti_of (fun _ hK => bin_geq hK) ?_ | refine sti_of (fun _ hK => add64 (by omega) (by omega) hK) ?_ | refine sti_of (fun _ hK => sub64 (by omega) (by omega) hK) ?_ | refine sti_of (fun _ hK => un_notD hK) ?_ | refine sti_of (fun _ hK => len8 hK) ?_ | refine sti_of (fun _ hK => pick_T hK) ?_ | refine sti_of (fun _ hK => pick_F hK) ?_))
    refine idx8 ox.rb (by omega) (by omega) ?_
    intro hc
    refine ld8 hc ?_
    refine xor8 ?_
    intro u hu
    refine idx8 ox.rb (by omega) (by omega) ?_
    intro _
    refine sto8 ox (by omega) hu ?_
    intro b o z hB hblk
    (repeat (first | refine bin_eql ?_ | refine bin_neq ?_ | refine bin_lss ?_ | refine bin_leq ?_ | refine bin_gtr ?_ | refine bin_geq ?_ | refine add64 (by omega) (by omega) ?_ | refine sub64 (by omega) (by omega) ?_ | refine ext_a ?_ | refine ext_b ?_ | refine ext3_a ?_ | refine ext3_b ?_ | refine ext3_c ?_ | refine un_notD ?_ | refine mul64 (by omega) (by omega) ?_ | refine cvIU (by omega) (by omega) ?_ | refine cvIUint (by omega) (by omega) ?_ | refine cvUI (by omega) (by omega) ?_ | refine cvBU (by omega) (by omega) ?_ | refine len8 ?_ | refine len36 ?_ | refine pick_T ?_ | refine pick_F ?_ | refine cond_T ?_ | refine cond_F ?_ | refine cond_t (by omega) ?_ | refine cond_f (by omega) ?_ | refine gsel_T ?_ | refine gsel_F ?_ | refine gsel_Tn ?_ | refine gsel_Fn ?_ | refine gsel_pt (by omega) ?_ | refine gsel_pf (by omega) ?_ | refine gsel_nt (by omega) ?_ | refine gsel_nf (by omega) ?_ | refine pick_t (by omega) ?_ | refine pick_f (by omega) ?_ | refine sti_of (fun _ hK => bin_eql hK) ?_ | refine sti_of (fun _ hK => bin_neq hK) ?_ | refine sti_of (fun _ hK => bin_lss hK) ?_ | refine sti_of (fun _ hK => bin_leq hK) ?_ | refine sti_of (fun _ hK => bin_gtr hK) ?_ | refine sti_of (fun _ hK => bin_geq hK) ?_ | refine sti_of (fun _ hK => add64 (by omega) (by omega) hK) ?_ | refine sti_of (fun _ hK => sub64 (by omega) (by omega) hK) ?_ | refine sti_of (fun _ hK => un_notD hK) ?_ | refine sti_of (fun _ hK => len8 hK) ?_ | refine sti_of (fun _ hK => pick_T hK) ?_ | refine sti_of (fun _ hK => pick_F hK) ?_))
    refine ⟨⟨j + 1, by simp, by omega, br.setCell hB _, ox.set b o z, px.set b o z hblk⟩, ?_⟩
    rw [hm]; simp only [intOf]; omega
  (repeat (first | refine leatlaw01_OctetStrings_A1_r ?_ | refine leatlaw01_OctetStrings_A2_r ?_ | refine leatlaw01_OctetStrings_A3_r ?_ | refine leatlaw01_OctetStrings_P1_r ?_ | refine leatlaw01_OctetStrings_P2_r ?_ | refine leatlaw01_OctetStrings_P3_r ?_ | refine bin_eql ?_ | refine bin_neq ?_ | refine bin_lss ?_ | refine bin_leq ?_ | refine bin_gtr ?_ | refine bin_geq ?_ | refine add64 (by omega) (by omega) ?_ | refine sub64 (by omega) (by omega) ?_ | refine ext_a ?_ | refine ext_b ?_ | refine ext3_a ?_ | refine ext3_b ?_ | refine ext3_c ?_ | refine un_notD ?_ | refine mul64 (by omega) (by omega) ?_ | refine cvIU (by omega) (by omega) ?_ | refine cvIUint (by omega) (by omega) ?_ | refine cvUI (by omega) (by omega) ?_ | refine cvBU (by omega) (by omega) ?_ | refine len8 ?_ | refine len36 ?_ | refine pick_T ?_ | refine pick_F ?_ | refine cond_T ?_ | refine cond_F ?_ | refine cond_t (by omega) ?_ | refine cond_f (by omega) ?_ | refine gsel_T ?_ | refine gsel_F ?_ | refine gsel_Tn ?_ | refine gsel_Fn ?_ | refine gsel_pt (by omega) ?_ | refine gsel_pf (by omega) ?_ | refine gsel_nt (by omega) ?_ | refine gsel_nf (by omega) ?_ | refine pick_t (by omega) ?_ | refine pick_f (by omega) ?_ | refine sti_of (fun _ hK => bin_eql hK) ?_ | refine sti_of (fun _ hK => bin_neq hK) ?_ | refine sti_of (fun _ hK => bin_lss hK) ?_ | refine sti_of (fun _ hK => bin_leq hK) ?_ | refine sti_of (fun _ hK => bin_gtr hK) ?_ | refine sti_of (fun _ hK => bin_geq hK) ?_ | refine sti_of (fun _ hK => add64 (by omega) (by omega) hK) ?_ | refine sti_of (fun _ hK => sub64 (by omega) (by omega) hK) ?_ | refine sti_of (fun _ hK => un_notD hK) ?_ | refine sti_of (fun _ hK => len8 hK) ?_ | refine sti_of (fun _ hK => pick_T hK) ?_ | refine sti_of (fun _ hK => pick_F hK) ?_))
  clear x11 p11 b6B hm
  refine leatlaw01_OctetStrings_L2_r (Inv := fun i wr => ∃ j : Nat, i = .int .i64 (j : Nat) ∧ j ≤ n10 ∧ Below w6.heap.size w6 wr ∧ OBX wr w6.heap.size a10 n10 c10 vs10) (μ := fun i _ => n10 - (intOf i).toNat) ⟨0, rfl, by omega, br, px⟩ ?_
  rintro _ dd2 wr2 m2 ⟨k, rfl, hk, br2, px2⟩ hm2
  by_cases hkn : k < n10
  · (repeat (first | refine bin_eql ?_ | refine bin_neq ?_ | refine bin_lss ?_ | refine bin_leq ?_ | refine bin_gtr ?_ | refine bin_geq ?_ | refine add64 (by omega) (by omega) ?_ | refine sub64 (by omega) (by omega) ?_ | refine ext_a ?_ | refine ext_b ?_ | refine ext3_a ?_ | refine ext3_b ?_ | refine ext3_c ?_ | refine un_notD ?_ | refine mul64 (by omega) (by omega) ?_ | refine cvIU (by omega) (by omega) ?_ | refine cvIUint (by omega) (by omega) ?_ | refine cvUI (by omega) (by omega) ?_ | refine cvBU (by omega) (by omega) ?_ | refine len8 ?_ | refine len36 ?_ | refine pick_T ?_ | refine pick_F ?_ | refine cond_T ?_ | refine cond_F ?_ | refine cond_t (by omega) ?_ | refine cond_f (by omega) ?_ | refine gsel_T ?_ | refine gsel_F ?_ | refine gsel_Tn ?_ | refine gsel_Fn ?_ | refine gsel_pt (by omega) ?_ | refine gsel_pf (by omega) ?_ | refine gsel_nt (by omega) ?_ | refine gsel_nf (by omega) ?_ | refine pick_t (by omega) ?_ | refine pick_f (by omega) ?_ | refine sti_of (fun _ hK => bin_eql hK) ?_ | refine sti_of (fun _ hK => bin_neq hK) ?_ | refine sti_of (fun _ hK => bin_lss hK) ?_ | refine sti_of (fun _ hK => bin_leq hK) ?_ | refine sti_of (fun _ hK => bin_gtr hK) ?_ | refine sti_of (fun _ hK => bin_geq hK) ?_ | refine sti_of (fun _ hK => add64 (by omega) (by omega) hK) ?_ | refine sti_of (fun _ hK => sub64 (by omega) (by omega) hK) ?_ | refine sti_of (fun _ hK => un_notD hK) ?_ | refine sti_of (fun _ hK => len8 hK) ?_ | refine sti_of (fun _ hK => pick_T hK) ?_ | refine sti_of (fun _ hK => pick_F hK) ?_))
    have hvk : vs10[k]? = some vs10[k] := List.getElem?_eq_getElem (by omega)
    refine leatlaw01_OctetStrings_L3_r (Inv := fun i wr => ∃ j : Nat, i = .int .i64 (j : Nat) ∧ j ≤ vs10[k].2.1 ∧ Below w6.heap.size w6 wr ∧ OBX wr w6.heap.size a10 n10 c10 vs10) (μ := fun i _ => vs10[k].2.1 - (intOf i).toNat) ⟨0, rfl, by omega, br2, px2⟩ ?_
    rintro _ dd3 wr3 m3 ⟨j3, rfl, hj3, br3, px3⟩ hm3
    refine idxX px3 hvk ?_
    intro hc
    refine ldSl hc ?_
    by_cases hj3n : j3 < vs10[k].2.1
    · (repeat (first | refine bin_eql ?_ | refine bin_neq ?_ | refine bin_lss ?_ | refine bin_leq ?_ | refine bin_gtr ?_ | refine bin_geq ?_ | refine add64 (by omega) (by omega) ?_ | refine sub64 (by omega) (by omega) ?_ | refine ext_a ?_ | refine ext_b ?_ | refine ext3_a ?_ | refine ext3_b ?_ | refine ext3_c ?_ | refine un_notD ?_ | refine mul64 (by omega) (by omega) ?_ | refine cvIU (by omega) (by omega) ?_ | refine cvIUint (by omega) (by omega) ?_ | refine cvUI (by omega) (by omega) ?_ | refine cvBU (by omega) (by omega) ?_ | refine len8 ?_ | refine len36 ?_ | refine pick_T ?_ | refine pick_F ?_ | refine cond_T ?_ | refine cond_F ?_ | refine cond_t (by omega) ?_ | refine cond_f (by omega) ?_ | refine gsel_T ?_ | refine gsel_F ?_ | refine gsel_Tn ?_ | refine gsel_Fn ?_ | refine gsel_pt (by omega) ?_ | refine gsel_pf (by omega) ?_ | refine gsel_nt (by omega) ?_ | refine gsel_nf (by omega) ?_ | refine pick_t (by omega) ?_ | refine pick_f (by omega) ?_ | refine sti_of (fun _ hK => bin_eql hK) ?_ | refine sti_of (fun _ hK => bin_neq hK) ?_ | refine sti_of (fun _ hK => bin_lss hK) ?_ | refine sti_of (fun _ hK => bin_leq hK) ?_ | refine sti_of (fun _ hK => bin_gtr hK) ?_ | refine sti_of (fun _ hK => bin_geq hK) ?_ | refine sti_of (fun _ hK => add64 (by omega) (by omega) hK) ?_ | refine sti_of (fun _ hK => sub64 (by omega) (by omega) hK) ?_ | refine sti_of (fun _ hK => un_notD hK) ?_ | refine sti_of (fun _ hK => len8 hK) ?_ | refine sti_of (fun _ hK => pick_T hK) ?_ | refine sti_of (fun _ hK => pick_F hK) ?_))
      have bd := below_drew wr3
      have px4 := px3.below bd (Nat.le_refl _)
      obtain ⟨l4, ol4⟩ := px4.each k _ hvk
      have hmx4 := OB.max ol4
      have hc4 : wr3.drew.cell? (slotA a10 k) = some (.slice vs10[k].1 vs10[k].2.1 vs10[k].2.2) := hc
      obtain ⟨x5, hc5⟩ : ∃ x5 : Int, wr3.drew.cell? (slotA vs10[k].1 j3) = some (.int .u8 x5) := by
        have hlen := OB.len ol4
        have := (OB.rb ol4).cell j3 (by omega)
        exact ⟨_, this⟩
      have hidx : ∀ K : KV, K (.pointer (some (slotA vs10[k].1 j3))) wr3.drew → idxA Try.prog 22 (.slice vs10[k].1 vs10[k].2.1 vs10[k].2.2) (.int .i64 (j3 : Nat)) K wr3.drew := by
        intro K hK
        refine idx8 ol4.rb (by omega) (by omega) ?_
        intro _
        rw [Int.toNat_natCast]; exact hK
      refine sti_of (fun K hK => idxX px4 hvk fun _ => hK) ?_
      refine sti_of (fun K hK => ldSl hc4 hK) ?_
      refine sti_of (fun K hK => idxX px4 hvk fun _ => hK) ?_
      refine sti_of (fun K hK => ldSl hc4 hK) ?_
      refine sti_of (fun K hK => hidx K hK) ?_
      refine sti_of (fun K hK => ld8 hc5 hK) ?_
      obtain ⟨u, hu, hx⟩ : ∃ u : Value, (∃ z : UInt8, u = u8v z) ∧ ∀ K : KV, K u wr3.drew → bin Try.prog .xor 5 false true (.int .u8 x5) (.int .u8 1) K wr3.drew := by
        obtain ⟨z, hz⟩ : ∃ z : UInt8, Value.int .u8 (bitsOp .xor .u8 x5 1) = u8v z := xor8_val x5 1
        exact ⟨_, ⟨z, hz⟩, fun K hK => bin_xor hK⟩
      refine sti_of (fun K hK => hx K hK) ?_
      refine sti_of (fun K hK => hidx K hK) ?_
      refine sto8 ol4 (by omega) hu ?_
      intro b o z hB hblk
      (repeat (first | refine bin_eql ?_ | refine bin_neq ?_ | refine bin_lss ?_ | refine bin_leq ?_ | refine bin_gtr ?_ | refine bin_geq ?_ | refine add64 (by omega) (by omega) ?_ | refine sub64 (by omega) (by omega) ?_ | refine ext_a ?_ | refine ext_b ?_ | refine ext3_a ?_ | refine ext3_b ?_ | refine ext3_c ?_ | refine un_notD ?_ | refine mul64 (by omega) (by omega) ?_ | refine cvIU (by omega) (by omega) ?_ | refine cvIUint (by omega) (by omega) ?_ | refine cvUI (by omega) (by omega) ?_ | refine cvBU (by omega) (by omega) ?_ | refine len8 ?_ | refine len36 ?_ | refine pick_T ?_ | refine pick_F ?_ | refine cond_T ?_ | refine cond_F ?_ | refine cond_t (by omega) ?_ | refine cond_f (by omega) ?_ | refine gsel_T ?_ | refine gsel_F ?_ | refine gsel_Tn ?_ | refine gsel_Fn ?_ | refine gsel_pt (by omega) ?_ | refine gsel_pf (by omega) ?_ | refine gsel_nt (by omega) ?_ | refine gsel_nf (by omega) ?_ | refine pick_t (by omega) ?_ | refine pick_f (by omega) ?_ | refine sti_of (fun _ hK => bin_eql hK) ?_ | refine sti_of (fun _ hK => bin_neq hK) ?_ | refine sti_of (fun _ hK => bin_lss hK) ?_ | refine sti_of (fun _ hK => bin_leq hK) ?_ | refine sti_of (fun _ hK => bin_gtr hK) ?_ | refine sti_of (fun _ hK => bin_geq hK) ?_ | refine sti_of (fun _ hK => add64 (by omega) (by omega) hK) ?_ | refine sti_of (fun _ hK => sub64 (by omega) (by omega) hK) ?_ | refine sti_of (fun _ hK => un_notD hK) ?_ | refine sti_of (fun _ hK => len8 hK) ?_ | refine sti_of (fun _ hK => pick_T hK) ?_ | refine sti_of (fun _ hK => pick_F hK) ?_))
      refine ⟨⟨j3 + 1, by simp, by omega, (br3.drew).setCell hB _, px4.set b o z hblk⟩, ?_⟩
      rw [hm3]; simp only [intOf]; omega
    · (repeat (first | refine leatlaw01_OctetStrings_A1_r ?_ | refine leatlaw01_OctetStrings_A2_r ?_ | refine leatlaw01_OctetStrings_A3_r ?_ | refine leatlaw01_OctetStrings_P1_r ?_ | refine leatlaw01_OctetStrings_P2_r ?_ | refine leatlaw01_OctetStrings_P3_r ?_ | refine bin_eql ?_ | refine bin_neq ?_ | refine bin_lss ?_ | refine bin_leq ?_ | refine bin_gtr ?_ | refine bin_geq ?_ | refine add64 (by omega) (by omega) ?_ | refine sub64 (by omega) (by omega) ?_ | refine ext_a ?_ | refine ext_b ?_ | refine ext3_a ?_ | refine ext3_b ?_ | refine ext3_c ?_ | refine un_notD ?_ | refine mul64 (by omega) (by omega) ?_ | refine cvIU (by omega) (by omega) ?_ | refine cvIUint (by omega) (by omega) ?_ | refine cvUI (by omega) (by omega) ?_ | refine cvBU (by omega) (by omega) ?_ | refine len8 ?_ | refine len36 ?_ | refine pick_T ?_ | refine pick_F ?_ | refine cond_T ?_ | refine cond_F ?_ | refine cond_t (by omega) ?_ | refine cond_f (by omega) ?_ | refine gsel_T ?_ | refine gsel_F ?_ | refine gsel_Tn ?_ | refine gsel_Fn ?_ | refine gsel_pt (by omega) ?_ | refine gsel_pf (by omega) ?_ | refine gsel_nt (by omega) ?_ | refine gsel_nf (by omega) ?_ | refine pick_t (by omega) ?_ | refine pick_f (by omega) ?_ | refine sti_of (fun _ hK => bin_eql hK) ?_ | refine sti_of (fun _ hK => bin_neq hK) ?_ | refine sti_of (fun _ hK => bin_lss hK) ?_ | refine sti_of (fun _ hK => bin_leq hK) ?_ | refine sti_of (fun _ hK => bin_gtr hK) ?_ | refine sti_of (fun _ hK => bin_geq hK) ?_ | refine sti_of (fun _ hK => add64 (by omega) (by omega) hK) ?_ | refine sti_of (fun _ hK => sub64 (by omega) (by omega) hK) ?_ | refine sti_of (fun _ hK => un_notD hK) ?_ | refine sti_of (fun _ hK => len8 hK) ?_ | refine sti_of (fun _ hK => pick_T hK) ?_ | refine sti_of (fun _ hK => pick_F hK) ?_))
      refine ⟨⟨k + 1, (show Value.int .i64 ((k : Int) + 1) = _ by simp), by omega, br3, px3⟩, ?_⟩
      show n10 - (intOf (Value.int .i64 ((k : Int) + 1))).toNat < m2
      rw [hm2]; simp only [intOf]; omega
  (repeat (first | refine leatlaw01_OctetStrings_A1_r ?_ | refine leatlaw01_OctetStrings_A2_r ?_ | refine leatlaw01_OctetStrings_A3_r ?_ | refine leatlaw01_OctetStrings_P1_r ?_ | refine leatlaw01_OctetStrings_P2_r ?_ | refine leatlaw01_OctetStrings_P3_r ?_ | refine bin_eql ?_ | refine bin_neq ?_ | refine bin_lss ?_ | refine bin_leq ?_ | refine bin_gtr ?_ | refine bin_geq ?_ | refine add64 (by omega) (by omega) ?_ | refine sub64 (by omega) (by omega) ?_ | refine ext_a ?_ | refine ext_b ?_ | refine ext3_a ?_ | refine ext3_b ?_ | refine ext3_c ?_ | refine un_notD ?_ | refine mul64 (by omega) (by omega) ?_ | refine cvIU (by omega) (by omega) ?_ | refine cvIUint (by omega) (by omega) ?_ | refine cvUI (by omega) (by omega) ?_ | refine cvBU (by omega) (by omega) ?_ | refine len8 ?_ | refine len36 ?_ | refine pick_T ?_ | refine pick_F ?_ | refine cond_T ?_ | refine cond_F ?_ | refine cond_t (by omega) ?_ | refine cond_f (by omega) ?_ | refine gsel_T ?_ | refine gsel_F ?_ | refine gsel_Tn ?_ | refine gsel_Fn ?_ | refine gsel_pt (by omega) ?_ | refine gsel_pf (by omega) ?_ | refine gsel_nt (by omega) ?_ | refine gsel_nf (by omega) ?_ | refine pick_t (by omega) ?_ | refine pick_f (by omega) ?_ | refine sti_of (fun _ hK => bin_eql hK) ?_ | refine sti_of (fun _ hK => bin_neq hK) ?_ | refine sti_of (fun _ hK => bin_lss hK) ?_ | refine sti_of (fun _ hK => bin_leq hK) ?_ | refine sti_of (fun _ hK => bin_gtr hK) ?_ | refine sti_of (fun _ hK => bin_geq hK) ?_ | refine sti_of (fun _ hK => add64 (by omega) (by omega) hK) ?_ | refine sti_of (fun _ hK => sub64 (by omega) (by omega) hK) ?_ | refine sti_of (fun _ hK => un_notD hK) ?_ | refine sti_of (fun _ hK => len8 hK) ?_ | refine sti_of (fun _ hK => pick_T hK) ?_ | refine sti_of (fun _ hK => pick_F hK) ?_))
  have B6' : Below w.heap.size w wr2 := B6.trans (br2.mono (by omega))
  have hn' : n ≤ 4294967296 := by omega
  refine kept_c (ro6.below br2 (Nat.le_refl _)) (rm6.below br2 (Nat.le_refl _)) (rb6.below br2 (Nat.le_refl _)) (by omega) ?_
  (repeat (first | refine bin_eql ?_ | refine bin_neq ?_ | refine bin_lss ?_ | refine bin_leq ?_ | refine bin_gtr ?_ | refine bin_geq ?_ | refine add64 (by omega) (by omega) ?_ | refine sub64 (by omega) (by omega) ?_ | refine ext_a ?_ | refine ext_b ?_ | refine ext3_a ?_ | refine ext3_b ?_ | refine ext3_c ?_ | refine un_notD ?_ | refine mul64 (by omega) (by omega) ?_ | refine cvIU (by omega) (by omega) ?_ | refine cvIUint (by omega) (by omega) ?_ | refine cvUI (by omega) (by omega) ?_ | refine cvBU (by omega) (by omega) ?_ | refine len8 ?_ | refine len36 ?_ | refine pick_T ?_ | refine pick_F ?_ | refine cond_T ?_ | refine cond_F ?_ | refine cond_t (by omega) ?_ | refine cond_f (by omega) ?_ | refine gsel_T ?_ | refine gsel_F ?_ | refine gsel_Tn ?_ | refine gsel_Fn ?_ | refine gsel_pt (by omega) ?_ | refine gsel_pf (by omega) ?_ | refine gsel_nt (by omega) ?_ | refine gsel_nf (by omega) ?_ | refine pick_t (by omega) ?_ | refine pick_f (by omega) ?_ | refine sti_of (fun _ hK => bin_eql hK) ?_ | refine sti_of (fun _ hK => bin_neq hK) ?_ | refine sti_of (fun _ hK => bin_lss hK) ?_ | refine sti_of (fun _ hK => bin_leq hK) ?_ | refine sti_of (fun _ hK => bin_gtr hK) ?_ | refine sti_of (fun _ hK => bin_geq hK) ?_ | refine sti_of (fun _ hK => add64 (by omega) (by omega) hK) ?_ | refine sti_of (fun _ hK => sub64 (by omega) (by omega) hK) ?_ | refine sti_of (fun _ hK => un_notD hK) ?_ | refine sti_of (fun _ hK => len8 hK) ?_ | refine sti_of (fun _ hK => pick_T hK) ?_ | refine sti_of (fun _ hK => pick_F hK) ?_))
  refine same_c (om6.below br2 (Nat.le_refl _)) (rl6.below br2 (Nat.le_refl _)) (by omega) ?_
  intro w12 b12
  (repeat (first | refine gsel_pt rfl ?_ | refine pick_t rfl ?_ | refine bin_eql ?_ | refine bin_neq ?_ | refine bin_lss ?_ | refine bin_leq ?_ | refine bin_gtr ?_ | refine bin_geq ?_ | refine add64 (by omega) (by omega) ?_ | refine sub64 (by omega) (by omega) ?_ | refine ext_a ?_ | refine ext_b ?_ | refine ext3_a ?_ | refine ext3_b ?_ | refine ext3_c ?_ | refine un_notD ?_ | refine mul64 (by omega) (by omega) ?_ | refine cvIU (by omega) (by omega) ?_ | refine cvIUint (by omega) (by omega) ?_ | refine cvUI (by omega) (by omega) ?_ | refine cvBU (by omega) (by omega) ?_ | refine len8 ?_ | refine len36 ?_ | refine pick_T ?_ | refine pick_F ?_ | refine cond_T ?_ | refine cond_F ?_ | refine cond_t (by omega) ?_ | refine cond_f (by omega) ?_ | refine gsel_T ?_ | refine gsel_F ?_ | refine gsel_Tn ?_ | refine gsel_Fn ?_ | refine gsel_pt (by omega) ?_ | refine gsel_pf (by omega) ?_ | refine gsel_nt (by omega) ?_ | refine gsel_nf (by omega) ?_ | refine pick_t (by omega) ?_ | refine pick_f (by omega) ?_ | refine sti_of (fun _ hK => bin_eql hK) ?_ | refine sti_of (fun _ hK => bin_neq hK) ?_ | refine sti_of (fun _ hK => bin_lss hK) ?_ | refine sti_of (fun _ hK => bin_leq hK) ?_ | refine sti_of (fun _ hK => bin_gtr hK) ?_ | refine sti_of (fun _ hK => bin_geq hK) ?_ | refine sti_of (fun _ hK => add64 (by omega) (by omega) hK) ?_ | refine sti_of (fun _ hK => sub64 (by omega) (by omega) hK) ?_ | refine sti_of (fun _ hK => un_notD hK) ?_ | refine sti_of (fun _ hK => len8 hK) ?_ | refine sti_of (fun _ hK => pick_T hK) ?_ | refine sti_of (fun _ hK => pick_F hK) ?_))
  refine works_c ?_
  intro w13 b13
  (repeat (first | refine gsel_pt rfl ?_ | refine pick_t rfl ?_ | refine bin_eql ?_ | refine bin_neq ?_ | refine bin_lss ?_ | refine bin_leq ?_ | refine bin_gtr ?_ | refine bin_geq ?_ | refine add64 (by omega) (by omega) ?_ | refine sub64 (by omega) (by omega) ?_ | refine ext_a ?_ | refine ext_b ?_ | refine ext3_a ?_ | refine ext3_b ?_ | refine ext3_c ?_ | refine un_notD ?_ | refine mul64 (by omega) (by omega) ?_ | refine cvIU (by omega) (by omega) ?_ | refine cvIUint (by omega) (by omega) ?_ | refine cvUI (by omega) (by omega) ?_ | refine cvBU (by omega) (by omega) ?_ | refine len8 ?_ | refine len36 ?_ | refine pick_T ?_ | refine pick_F ?_ | refine cond_T ?_ | refine cond_F ?_ | refine cond_t (by omega) ?_ | refine cond_f (by omega) ?_ | refine gsel_T ?_ | refine gsel_F ?_ | refine gsel_Tn ?_ | refine gsel_Fn ?_ | refine gsel_pt (by omega) ?_ | refine gsel_pf (by omega) ?_ | refine gsel_nt (by omega) ?_ | refine gsel_nf (by omega) ?_ | refine pick_t (by omega) ?_ | refine pick_f (by omega) ?_ | refine sti_of (fun _ hK => bin_eql hK) ?_ | refine sti_of (fun _ hK => bin_neq hK) ?_ | refine sti_of (fun _ hK => bin_lss hK) ?_ | refine sti_of (fun _ hK => bin_leq hK) ?_ | refine sti_of (fun _ hK => bin_gtr hK) ?_ | refine sti_of (fun _ hK => bin_geq hK) ?_ | refine sti_of (fun _ hK => add64 (by omega) (by omega) hK) ?_ | refine sti_of (fun _ hK => sub64 (by omega) (by omega) hK) ?_ | refine sti_of (fun _ hK => un_notD hK) ?_ | refine sti_of (fun _ hK => len8 hK) ?_ | refine sti_of (fun _ hK => pick_T hK) ?_ | refine sti_of (fun _ hK => pick_F hK) ?_))
  have s12 := b12.size
  have s62 := br2.size
  exact h _ (B6'.trans ((b12.mono (by omega)).trans (b13.mono (by omega))))
end

set_option maxRecDepth 100000 in
theorem octetStrings_contract (H : Type) (enc : TypeId × Value → H) (W : World) (base : Nat) (args : Array Value) (ds gs : List (DataW H)) (before : List MemPlace)
    (hval0 : ∀ (j : Nat) t v, Try.f5.params[j]? = some t → args[j]? = some v → Value.okWide Try.prog W .any base t v)
    (hW : DataW.Whole enc Try.prog Try.f5.params.toList Rows.octetStringsSpec.vars false W args.toList ds gs before) (hk : Rows.uptoSmall H (ds ++ gs) = true) :
    Calls Try.prog 5 args W fun e W' => ∃ v, e = .returned v ∧ Rows.octetStringsSpec.post enc Try.prog Try.f5 false true false false W args v W' := by
  have hval := hval0
  have hW' := hW
  obtain ⟨p, q, hA0, hV, rfl, hfz, hnd⟩ := hW
  have hA : DataW.TrodAll enc Try.prog W 0 (fun _ => true) true Try.f5.params.toList args.toList ds p := hA0
  rw [Try.params5] at hA hval
  obtain ⟨v0, vs0, d0, ds0, p0, q0, hargs, rfl, rfl, h0, r0⟩ := trodAll_cons hA
  obtain ⟨v1, vs1, d1, ds1, p1, q1, rfl, rfl, rfl, h1, r1⟩ := trodAll_cons r0
  obtain ⟨v2, vs2, d2, ds2, p2, q2, rfl, rfl, rfl, h2, r2⟩ := trodAll_cons r1
  obtain ⟨v3, vs3, d3, ds3, p3, q3, rfl, rfl, rfl, h3, r3⟩ := trodAll_cons r2
  obtain ⟨v4, vs4, d4, ds4, p4, q4, rfl, rfl, rfl, h4, r4⟩ := trodAll_cons r3
  obtain ⟨rfl, rfl, rfl⟩ := trodAll_nil r4
  obtain rfl : args = #[v0, v1, v2, v3, v4] := by cases args; simp_all
  obtain ⟨rfl, rfl⟩ := trodVars_none hV
  obtain ⟨a0, n0, c0, rfl⟩ := okWide_slice Try.underlying22 (hval 0 22 v0 rfl rfl)
  have k0 := h0
  have lt0 : ∀ x ∈ p0, x.block < W.heap.size := by obtain ⟨m, hm⟩ := k0; exact DataW.trod_lt m _ _ _ hm
  obtain ⟨⟨l0, rb0⟩, hle0, hmx0, hbk0⟩ : (∃ l, RB W a0 n0 c0 l) ∧ n0 ≤ c0 ∧ c0 ≤ 9223372036854775807 ∧ c0 ≤ Rows.uptoBulk d0 := by
    obtain ⟨fuel, hf⟩ := h0
    exact rb_of_trodU (by rfl) hf
  obtain ⟨a1, n1, c1, rfl⟩ := okWide_slice Try.underlying22 (hval 1 22 v1 rfl rfl)
  have k1 := h1
  have lt1 : ∀ x ∈ p1, x.block < W.heap.size := by obtain ⟨m, hm⟩ := k1; exact DataW.trod_lt m _ _ _ hm
  obtain ⟨⟨l1, rb1⟩, hle1, hmx1, hbk1⟩ : (∃ l, RB W a1 n1 c1 l) ∧ n1 ≤ c1 ∧ c1 ≤ 9223372036854775807 ∧ c1 ≤ Rows.uptoBulk d1 := by
    obtain ⟨fuel, hf⟩ := h1
    exact rb_of_trodU (by rfl) hf
  obtain ⟨a2, n2, c2, rfl⟩ := okWide_slice Try.underlying36 (hval 2 36 v2 rfl rfl)
  have k2 := h2
  have lt2 : ∀ x ∈ p2, x.block < W.heap.size := by obtain ⟨m, hm⟩ := k2; exact DataW.trod_lt m _ _ _ hm
  obtain ⟨⟨vs_2, L2, rb2, hbk2⟩, hle2, hmx2⟩ : (∃ vs L, RBB W a2 n2 c2 vs L ∧ n2 + vast L + 1 ≤ Rows.uptoBulk d2) ∧ n2 ≤ c2 ∧ c2 ≤ 9223372036854775807 := by
    obtain ⟨fuel, hf⟩ := h2
    exact rbb_of_trodU (by rfl) hf
  obtain ⟨a3, rfl, rfl, rfl, w3⟩ := open_int Try.underlying3 (hval 3 3 v3 rfl rfl) h3
  have hx3 : -9223372036854775808 ≤ a3 ∧ a3 ≤ 9223372036854775807 := by simpa [Lit.wf, IntKind.min, IntKind.max, IntKind.signed, IntKind.bits] using w3
  obtain ⟨a4, rfl, rfl, rfl, w4⟩ := open_int Try.underlying3 (hval 4 3 v4 rfl rfl) h4
  have hx4 : -9223372036854775808 ≤ a4 ∧ a4 ≤ 9223372036854775807 := by simpa [Lit.wf, IntKind.min, IntKind.max, IntKind.signed, IntKind.bits] using w4
  have hsm : Rows.uptoBulkAll ([d0, d1, d2, (.lit (.int .i64 a3)), (.lit (.int .i64 a4))] ++ []) ≤ 1048576 := of_decide_eq_true hk
  simp only [List.append_nil, List.nil_append, List.cons_append, Rows.uptoBulkAll] at hsm
  clear hA0 hval0 hval
  have hcalls : Calls Try.prog 5 #[.slice a0 n0 c0, .slice a1 n1 c1, .slice a2 n2 c2, .int .i64 a3, .int .i64 a4] W fun e w' => e = .returned (.bool true) ∧ Below W.heap.size W w' := by
    exact calls_of (strings_law rb0 rb1 rb2 (by omega) (by omega) (by omega) (by omega) (fun w' hb' => ⟨rfl, hb'⟩))
  refine hcalls.mono fun e W' ⟨he, bel⟩ => ?_
  subst he
  exact ⟨_, rfl, _, _, _, [], _, [], hW', trodAll_mk1 (shut_bool Try.underlying4 _), (trodAll_cons_mk (Below.trod frame_laid (by kernel_rfl) (of_decide_eq_true (by kernel_rfl)) k0 bel lt0) (trodAll_cons_mk (Below.trod frame_laid (by kernel_rfl) (of_decide_eq_true (by kernel_rfl)) k1 bel lt1) (trodAll_cons_mk (Below.trod frame_laid (by kernel_rfl) (of_decide_eq_true (by kernel_rfl)) k2 bel lt2) (trodAll_cons_mk (shut_int Try.underlying3 w3) (trodAll_cons_mk (shut_int Try.underlying3 w4) trodAll_mk0))))), rfl, bel.frame _, fun h => by cases h⟩

set_option maxRecDepth 100000 in
theorem octetStrings_lifted (os : Os) (started : os.Started) (H : Type) (enc : TypeId × Value → H) (F : Stop.Interp) :
    ReturnsInHanded {} Try.checked os 5 .any ((Rows.OpenSpec.upto Rows.octetStringsSpec).pre6 enc Try.prog Try.f5 Rows.octetStringsUptoRow.domain false) (((Rows.OpenSpec.upto Rows.octetStringsSpec).at F).post enc Try.prog Try.f5 false true false false) := by
  refine returnsInHanded_of_cond (C := Try.checked) (s := Rows.OpenSpec.upto Rows.octetStringsSpec) (k := Rows.uptoSmall) rfl frame_own started (by kernel_rfl) Try.func5
    (OpenSpec.witness (enc := enc) (C := Try.checked) (s := Rows.OpenSpec.upto Rows.octetStringsSpec) (k := Rows.uptoSmall) rfl false ⟨#[], #[.slice none 0 0, .slice none 0 0, .slice none 0 0, .int .i64 0, .int .i64 0], []⟩ 8 (by kernel_rfl) (by kernel_rfl) (by kernel_rfl)
      (x := ([.nil, .nil, .nil, (.lit (.int .i64 0)), (.lit (.int .i64 0))], [], [])) (by kernel_rfl) rfl (by kernel_rfl)) ?_
  intro W base args ds gs before hval hW _ hk _
  exact octetStrings_contract H enc W base args ds gs before hval hW hk

theorem octetStrings_proved : Rows.OctetStringsUptoSaid :=
  OpenClaim.holds_of_cond 5 Try.f5 rfl rfl rfl rfl rfl rfl rfl ⟨rfl, rfl, rfl, rfl, rfl⟩ rfl rfl rfl rfl rfl (by kernel_rfl) Try.func5 (by kernel_rfl)
    (of_decide_eq_true (by kernel_rfl)) (by unfold Func.isWrapper; first | (rw [if_pos (by decide +kernel)]; kernel_rfl) | (rw [if_neg (by decide +kernel)]; exact ⟨rfl, rfl⟩))
    (fun os started H enc _ F => octetStrings_lifted os started H enc F)

end Go.Proofs.Ytfgllkdmifhelaa
