/- The journal: Open, Add, Compact, and what it tells. -/
import Derived.Test.YtjkmblbonambjaaJrn
namespace Go.Proofs.Ytjkmblbonambjaa
set_option maxRecDepth 100000
open Go.RowKit

variable {Z : Nat → Prop}
abbrev JT : List TypeId := [70, 90, 84]

theorem OBB.mono {w : World} {B B' : Nat} {a : Option Addr} {n c : Nat} {vs : List (Option Addr × Nat × Nat)} {L : List (List UInt8)} (h : OBB w B a n c vs L) (hB : B' ≤ B) : OBB w B' a n c vs L :=
  ⟨OV.mono h.row hB, h.len, fun i v l hv hl => OV.mono (h.each i v l hv hl) hB⟩
theorem JR.keep [G : Guard] {T : List TypeId} {B p q : Nat} {w w' : World} {size : Int} {br : Bool} (h : JR w p q size br) (hk : Kg T B w w') (hT : 84 ∉ T) : JR w' p q size br := hk.blk h (.inr hT)
theorem JR.below {p q : Nat} {w w' : World} {size : Int} {br : Bool} (h : JR w p q size br) (hk : Below w.heap.size w w') : JR w' p q size br := below_blk hk h (blk.lt h)
theorem DK.rlen [G : Guard] {w : World} {B p : Nat} {D : DS} (h : DK Z w B p D) (f : Int) : (readS D f).1.length ≤ 4194304 := by
  obtain ⟨s0, s1, n0, n1, la, ln, lc, fz, hb, e1, e2, e3, e4, hh⟩ := h
  have hb := okAll_now hh.ok
  unfold readS
  split
  · simp
  split
  · simp
  unfold fget
  unfold tot at hb
  show (if decide (f = 1) = true then D.now.2 else D.now.1).length ≤ _
  split
  · show (runs D.loose D.sure).2.length ≤ _; omega
  · show (runs D.loose D.sure).1.length ≤ _; omega
theorem DK.base [G : Guard] {w : World} {B p : Nat} {D : DS} (h : DK Z w B p D) : B ≤ p := by
  obtain ⟨s0, s1, n0, n1, la, ln, lc, fz, hb, e1, e2, e3, e4, hh⟩ := h; exact e4.1
theorem ownsRow_mono {w : World} {B B' : Nat} {E : TypeId} {s : Nat} {v : Value} {n : Nat} {xs : List Value} (h : w.ownsRow B E s v n xs) (hB : B' ≤ B) : w.ownsRow B' E s v n xs := by
  refine ⟨h.1, ?_⟩
  rcases h.2 with h2 | ⟨g, cap, cur, hv, hb, r⟩
  · exact .inl h2
  · exact .inr ⟨g, cap, cur, hv, Nat.le_trans hB hb, r⟩
theorem DK.lower [G : Guard] {w : World} {B B' p : Nat} {D : DS} (h : DK Z w B p D) (hB : B' ≤ B) : DK Z w B' p D := by
  obtain ⟨s0, s1, n0, n1, la, ln, lc, fz, hb, e1, e2, e3, e4, hh⟩ := h
  obtain ⟨css, ho, hgd, c1, c2, hc⟩ := hh.row
  exact ⟨s0, s1, n0, n1, la, ln, lc, fz, hb, e1, e2, e3, ⟨Nat.le_trans hB e4.1, e4.2⟩, hh.sure0, hh.sure1, hh.now0, hh.now1, ⟨css, ownsRow_mono ho hB, hgd, c1, c2, hc⟩, hh.ok, hh.fresh, hh.freshG⟩
theorem allB_le (b : List UInt8) : (allB b).2 ≤ b.length := by
  have : ∀ f q, q ≤ b.length → (allF b f q).2 ≤ b.length := by
    intro f
    induction f with
    | zero => intro q hq; exact hq
    | succ f ih =>
      intro q hq
      simp only [allF]
      cases hr : recF b q with
      | none => exact hq
      | some sq => obtain ⟨s, q2⟩ := sq; exact ih q2 (recF_some hr).2.1
  exact this _ 0 (by omega)

section
attribute [local irreducible] bin un conv call callV blt slc fldA fld idxA idx lkp mUpd mEnt eSt rng nxt ent ext alc box bld bldS ld sto nilC mkMap mkS ifc pick rdy wts gsel sti cond retM Gives cCode cGrp cSeq cOp
/-- The variables that Open's closures read. -/
def OC (p k1 k2 k3 : Nat) (at_ : Nat) (v : Option Addr × Nat × Nat) (w : World) : Prop :=
  blk w k1 3 [.int .i64 (at_ : Nat)] ∧ blk w k2 29 [slv v] ∧ blk w k3 25 [ptr p]
theorem OC.keep [G : Guard] {p k1 k2 k3 at_ B : Nat} {v : Option Addr × Nat × Nat} {w w' : World} (h : OC p k1 k2 k3 at_ v w) (hk : Kg DT B w w') : OC p k1 k2 k3 at_ v w' :=
  ⟨hk.blk h.1 (.inr (by decide)), hk.blk h.2.1 (.inr (by decide)), hk.blk h.2.2 (.inr (by decide))⟩

theorem open_c [G : Guard] {B p : Nat} {D : DS} {w : World} {K : KV} (hd : DK Z w B p D) (hlen : D.loose.length < 1000000)
    (h0 : (jopenS D).e = 0 → ∀ w' q a n c vs, DK Z w' B p (jopenS D).disk → Kg DT B w w' → OBB w' w.heap.size a n c vs (jopenS D).l → JR w' p q (jopenS D).at_ false → w.heap.size ≤ q → K (.tuple #[ptr q, .slice a n c, .int .i64 0]) w')
    (h1 : (jopenS D).e ≠ 0 → ∀ w', DK Z w' B p (jopenS D).disk → Kg DT B w w' → K (.tuple #[.pointer none, .slice none 0 0, .int .i64 (jopenS D).e]) w') :
    call Try.prog 21 #[ptr p] K w := by
  have hBw : B ≤ w.heap.size := Nat.le_of_lt (Nat.lt_of_le_of_lt hd.base hd.lt)
  refine call_of journal_Open_go (journal_Open_in ?_)
  refine box_of ?_
  intro w1 hx1 b1 _
  have hx1 : blk w1 w.heap.size 25 [ptr p] := hx1
  have hd1 := hd.below b1
  (repeat (first | (refine ld_JL_2 ?_ (by assumption) ?_ ?_; rotate_left; exact rfl)))
  refine read_c hd1 ?_
  intro a n c w2 o2 b2
  have hn := o2.len
  have hd2 := hd1.below b2
  have hnl := hd1.rlen 0
  have hp : ((a, n, c) : Option Addr × Nat × Nat).2.1 = n := rfl
  have hx2 := below_blk b2 hx1 hx1.lt
  (repeat (first | refine ext_a ?_ | refine ext_b ?_))
  refine alc_of (z := .slice none 0 0) (by kernel_rfl) ?_
  intro w3 hb3 b3 S3
  have hb3 : blk w3 w2.heap.size 29 [.slice none 0 0] := hb3
  refine sto1 (fun _ => by kernel_rfl) hb3 (by simp) rfl ?_
  intro w4 hb4 o4
  have hb4 : blk w4 w2.heap.size 29 [slv (a, n, c)] := hb4
  have b24 : Below w2.heap.size w2 w4 := b3.trans o4.below
  have hd4 := hd2.below b24
  have S1 := b1.size
  have S2 := b2.size
  have S4 := o4.size
  have hx4 := below_blk b24 hx2 hx2.lt
  have b04 : Below w.heap.size w w4 := (b1.trans (b2.mono S1)).trans (b24.mono (by omega))
  have r4 := (OB.below o2 b24 (Nat.le_refl _)).rb
  by_cases he : (readS D 0).2 = 0
  rotate_left
  · have e : jopenS D = ⟨D, (readS D 0).2, [], 0⟩ := by unfold jopenS; rw [if_pos he]
    rw [e] at h1
    (repeat (first | refine bin_neq ?_ | refine cond_t (by omega) ?_))
    exact h1 he w4 hd4 (Kg.of b04)
  (repeat (first | (refine ld_JL_4 ?_ (by assumption) ?_ ?_; rotate_left; exact rfl) | refine bin_neq ?_ | refine cond_f (by omega) ?_))
  refine fall_c r4 (by omega) ?_
  intro a5 n5 c5 vs5 w5 L5 b5
  have S5 := b5.size
  (repeat (first | refine ext_a ?_ | refine ext_b ?_))
  refine alc_of (z := .int .i64 0) (by kernel_rfl) ?_
  intro w6 hk6 b6 S6
  have hk6 : blk w6 w5.heap.size 3 [.int .i64 0] := hk6
  refine sto1 (fun _ => by kernel_rfl) hk6 (by simp) rfl ?_
  intro w7 hk7 o7
  have hk7 : blk w7 w5.heap.size 3 [.int .i64 ((allB (readS D 0).1).2 : Nat)] := hk7
  have S7 := o7.size
  have b57 : Below w5.heap.size w5 w7 := b6.trans o7.below
  have b47 : Below w4.heap.size w4 w7 := b5.trans (b57.mono S5)
  have hd7 := hd4.below b47
  have hx7 := below_blk b47 hx4 hx4.lt
  have hb7 := below_blk b47 hb4 hb4.lt
  have L7 := L5.below b57 (Nat.le_refl _)
  have b07 : Below w.heap.size w w7 := b04.trans (b47.mono (by omega))
  (repeat (first | refine journal_Open_A1_r ?_))
  obtain ⟨i, hi, hz, hsz, hby⟩ := info_parts info_fn
  refine bldS_of (vs := [.func (.func 46) #[] #[ptr w5.heap.size, ptr w2.heap.size, ptr w.heap.size], .func (.func 47) #[] #[ptr w.heap.size], .func (.func 49) #[] #[ptr w.heap.size]]) rfl rfl Try.underlying99 hi hz hsz rfl (by simp) (by simp) (by simp [Value.cells]) ?_
  intro row8 b8
  generalize (w7.alloc _) = w8 at row8 b8 ⊢
  have hd8 := hd7.below b8
  have S8 := b8.size
  have oc8 : OC p w5.heap.size w2.heap.size w.heap.size (allB (readS D 0).1).2 (a, n, c) w8 := ⟨below_blk b8 hk7 hk7.lt, below_blk b8 hb7 hb7.lt, below_blk b8 hx7 hx7.lt⟩
  have K08 : Kg DT B w w8 := Kg.of (b07.trans (b8.mono (by omega)))
  refine each_c (Ctx := OC p w5.heap.size w2.heap.size w.heap.size (allB (readS D 0).1).2 (a, n, c)) (gs := jopenL (readS D 0).1) (fun _ _ hc hk => hc.keep hk) rfl ?_ ?_ row8 hd8 oc8 hlen (by simp) ?_
  · intro i f g hf hg w K D' hc hd' hl' hK
    match i with
    | 0 =>
      simp only [List.getElem?_cons_zero, Option.some.injEq, jopenL] at hf hg
      subst hf hg
      refine callV_of rfl (call_of journal_Open_1_go (journal_Open_1_in ?_))
      obtain ⟨c1, c2, c3⟩ := hc
      (repeat (first | (refine ld_JL_0 ?_ (by assumption) ?_ ?_; rotate_left; exact rfl) | (refine ld_JL_4 ?_ (by assumption) ?_ ?_; rotate_left; exact rfl) | refine bin_eql ?_ | refine len8 ?_))
      by_cases heq : (allB (readS D 0).1).2 = n
      · rw [show jcutS (allB (readS D 0).1).2 (readS D 0).1.length D' = (D', 0) by unfold jcutS; rw [if_pos (by rw [hn]; exact heq)]] at hK
        (repeat (first | refine cond_t (by omega) ?_))
        exact hK w hd' (Kg.refl _ _ _)
      · rw [show jcutS (allB (readS D 0).1).2 (readS D 0).1.length D' = cutS D' 0 (allB (readS D 0).1).2 by unfold jcutS; rw [if_neg (by rw [hn]; exact heq)]] at hK
        (repeat (first | (refine ld_JL_0 ?_ (by assumption) ?_ ?_; rotate_left; exact rfl) | (refine ld_JL_2 ?_ (by assumption) ?_ ?_; rotate_left; exact rfl) | refine cond_f (by omega) ?_))
        exact cut_c hd' hl' hK
    | 1 =>
      simp only [List.getElem?_cons_succ, List.getElem?_cons_zero, Option.some.injEq, jopenL] at hf hg
      subst hf hg
      refine callV_of rfl (call_of journal_Open_2_go (journal_Open_2_in ?_))
      obtain ⟨c1, c2, c3⟩ := hc
      (repeat (first | (refine ld_JL_2 ?_ (by assumption) ?_ ?_; rotate_left; exact rfl)))
      exact jempty_c hd' hl' hK
    | 2 =>
      simp only [List.getElem?_cons_succ, List.getElem?_cons_zero, Option.some.injEq, jopenL] at hf hg
      subst hf hg
      refine callV_of rfl (call_of journal_Open_3_go (journal_Open_3_in ?_))
      obtain ⟨c1, c2, c3⟩ := hc
      (repeat (first | (refine ld_JL_2 ?_ (by assumption) ?_ ?_; rotate_left; exact rfl)))
      refine loose_c hd' ?_
      by_cases hl0 : D'.loose.length = 0
      · rw [show jsyncS D' = (D', 0) by unfold jsyncS; rw [if_pos hl0]] at hK
        (repeat (first | refine bin_eql ?_ | refine cond_t (by omega) ?_))
        exact hK w hd' (Kg.refl _ _ _)
      · rw [show jsyncS D' = syncS D' by unfold jsyncS; rw [if_neg hl0]] at hK
        (repeat (first | (refine ld_JL_2 ?_ (by assumption) ?_ ?_; rotate_left; exact rfl) | refine bin_eql ?_ | refine cond_f (by omega) ?_))
        exact sync_c hd' hK
    | i + 3 => simp at hf
  · intro g hg D'
    simp only [jopenL, List.mem_cons, List.not_mem_nil, or_false] at hg
    rcases hg with rfl | rfl | rfl
    · exact jcutS_len _ _ _
    · exact jemptyS_len _
    · exact jsyncS_len _
  intro w9 hd9 K9
  have K09 := K08.trans K9
  by_cases hs : (seqS (jopenL (readS D 0).1) D).2 = 0
  rotate_left
  · have e : jopenS D = ⟨(seqS (jopenL (readS D 0).1) D).1, (seqS (jopenL (readS D 0).1) D).2, [], 0⟩ := by unfold jopenS; rw [if_neg (fun hh => hh he), if_pos hs]
    rw [e] at h1
    (repeat (first | refine bin_neq ?_ | refine cond_t (by omega) ?_))
    exact h1 hs w9 hd9 K09
  have e : jopenS D = ⟨(seqS (jopenL (readS D 0).1) D).1, 0, (allB (readS D 0).1).1, (allB (readS D 0).1).2⟩ := by unfold jopenS; rw [if_neg (fun hh => hh he), if_neg (fun hh => hh hs)]
  rw [e] at h0
  obtain ⟨c1, c2, c3⟩ := oc8.keep K9
  (repeat (first | (refine ld_JL_0 ?_ (by assumption) ?_ ?_; rotate_left; exact rfl) | (refine ld_JL_2 ?_ (by assumption) ?_ ?_; rotate_left; exact rfl) | refine bin_neq ?_ | refine cond_f (by omega) ?_))
  refine bld_of (vs := [ptr p, .int .i64 ((allB (readS D 0).1).2 : Nat), .bool false]) (by kernel_rfl) ?_
  refine box_of ?_
  intro w10 hj10 b10 _
  have S9 := K9.size
  refine h0 rfl w10 _ _ _ _ vs5 (hd9.below b10) (K09.trans (Kg.of b10)) (((L7.below b8 (Nat.le_refl _)).keep K9.toKeep (by decide) (by decide)).below b10 (Nat.le_refl _) |>.mono (by omega)) hj10 (by omega)

theorem jbytes_c [G : Guard] {p q : Nat} {size : Int} {br : Bool} {w : World} {K : KV} {a : Option Addr} {n c : Nat} {vs : List (Option Addr × Nat × Nat)} {L : List (List UInt8)} (hj : JR w p q size br) (hL : RBB w a n c vs L) (hn : n ≤ 4294967296) (hv : vast L ≤ 1000000000000)
    (h : ∀ a' n' c' w', OB w' w.heap.size a' n' c' (jbytesS br L).1 → Below w.heap.size w w' → K (.tuple #[.slice a' n' c', .int .i64 (jbytesS br L).2]) w') : call Try.prog 50 #[ptr q, .slice a n c] K w := by
  refine call_of journal_Journal_bytes_go (journal_Journal_bytes_in ?_)
  have hj : blk w q 84 [ptr p, .int .i64 size, .bool br] := hj
  refine bin_of (v := .bool false) (by unfold eqG eqGuard; rfl) (by kernel_rfl) ?_
  (repeat (first | refine nilC_p ?_ | refine fA_Journal_2 ?_ | (refine ld_JL_1 ?_ (by assumption) ?_ ?_; rotate_left; exact rfl) | refine cond_F ?_))
  cases br with
  | true =>
    (repeat (first | refine cond_T ?_))
    exact h none 0 0 w (OB.nil _ _) (Below.refl _ _)
  | false =>
    (repeat (first | refine cond_F ?_))
    refine fput_c (l := []) (RV.nil w) hL (by omega) hn hv ?_
    intro a' n' c' w' o' b'
    (repeat (first | refine ext_a ?_ | refine ext_b ?_))
    exact h a' n' c' w' o' b'

theorem jdone_c [G : Guard] {p q : Nat} {size new e : Int} {br : Bool} {w : World} {K : KV} (hj : JR w p q size br) (h : ∀ w', JR w' p q (if e = 0 then new else size) (decide (e = 8)) → Oth q w w' → K (.int .i64 e) w') :
    call Try.prog 52 #[ptr q, .int .i64 new, .int .i64 e] K w := by
  have hj : blk w q 84 [ptr p, .int .i64 size, .bool br] := hj
  refine call_of journal_Journal_done_go (journal_Journal_done_in ?_)
  (repeat (first | refine nilC_p ?_ | refine fA_Journal_2 ?_ | refine bin_eql ?_))
  refine sto1 (fun _ => by kernel_rfl) hj (by simp) rfl ?_
  intro w1 h1 o1
  have h1 : blk w1 q 84 [ptr p, .int .i64 size, .bool (decide (e = 8))] := h1
  by_cases he : e = 0
  · rw [if_pos he] at h
    (repeat (first | refine nilC_p ?_ | refine fA_Journal_1 ?_ | refine journal_Journal_done_A1_r ?_ | refine bin_eql ?_ | refine cond_t (by omega) ?_))
    refine sto1 (fun _ => by kernel_rfl) h1 (by simp) rfl ?_
    intro w2 h2 o2
    have h2 : blk w2 q 84 [ptr p, .int .i64 new, .bool (decide (e = 8))] := h2
    (repeat (first | refine journal_Journal_done_P1_r ?_))
    exact h w2 h2 ⟨o2.os.trans o1.os, o2.tape.trans o1.tape, o2.output.trans o1.output, o2.size.trans o1.size, fun k hk => (o2.other k hk).trans (o1.other k hk)⟩
  · rw [if_neg he] at h
    (repeat (first | refine journal_Journal_done_P1_r ?_ | refine journal_Journal_done_A1_r ?_ | refine bin_eql ?_ | refine cond_f (by omega) ?_))
    exact h w1 h1 o1

theorem jsize_c [G : Guard] {p q : Nat} {size : Int} {br : Bool} {w : World} {K : KV} (hj : JR w p q size br) (h : K (.int .i64 size) w) : call Try.prog 30 #[ptr q] K w := by
  have hj : blk w q 84 [ptr p, .int .i64 size, .bool br] := hj
  refine call_of journal_Journal_Size_go (journal_Journal_Size_in ?_)
  refine bin_of (v := .bool false) (by unfold eqG eqGuard; rfl) (by kernel_rfl) ?_
  (repeat (first | refine nilC_p ?_ | refine fA_Journal_1 ?_ | (refine ld_JL_0 ?_ (by assumption) ?_ ?_; rotate_left; exact rfl) | refine cond_F ?_))
  exact h
theorem jsize_nil {w : World} {K : KV} (h : K (.int .i64 0) w) : call Try.prog 30 #[.pointer none] K w := by
  refine call_of journal_Journal_Size_go (journal_Journal_Size_in ?_)
  refine bin_of (v := .bool true) (by unfold eqG eqGuard; rfl) (by kernel_rfl) ?_
  (repeat (first | refine cond_T ?_))
  exact h
theorem jwhole_c [G : Guard] {p q : Nat} {size : Int} {br : Bool} {w : World} {K : KV} (hj : JR w p q size br) (h : K (.bool (!br)) w) : call Try.prog 31 #[ptr q] K w := by
  have hj : blk w q 84 [ptr p, .int .i64 size, .bool br] := hj
  refine call_of journal_Journal_Whole_go (journal_Journal_Whole_in ?_)
  refine bin_of (v := .bool true) (by unfold eqG eqGuard; rfl) (by kernel_rfl) ?_
  (repeat (first | refine nilC_p ?_ | refine fA_Journal_2 ?_ | (refine ld_JL_1 ?_ (by assumption) ?_ ?_; rotate_left; exact rfl) | refine gsel_T ?_))
  refine un_not ?_
  (repeat (first | refine pick_T ?_))
  exact h
theorem jwhole_nil {w : World} {K : KV} (h : K (.bool false) w) : call Try.prog 31 #[.pointer none] K w := by
  refine call_of journal_Journal_Whole_go (journal_Journal_Whole_in ?_)
  refine bin_of (v := .bool false) (by unfold eqG eqGuard; rfl) (by kernel_rfl) ?_
  (repeat (first | refine pick_F ?_ | refine gsel_F ?_))
  exact h
theorem jbytes_nil {w : World} {K : KV} {x : Value} (h : K (.tuple #[.slice none 0 0, .int .i64 2]) w) : call Try.prog 50 #[.pointer none, x] K w := by
  refine call_of journal_Journal_bytes_go (journal_Journal_bytes_in ?_)
  refine bin_of (v := .bool true) (by unfold eqG eqGuard; rfl) (by kernel_rfl) ?_
  (repeat (first | refine cond_T ?_))
  exact h
end
end Go.Proofs.Ytjkmblbonambjaa
