/- The journal: Add and Compact. -/
import Derived.Test.YtjkmblbonambjaaJrn2
namespace Go.Proofs.Ytjkmblbonambjaa
set_option maxRecDepth 100000
open Go.RowKit

variable {Z : Nat → Prop}
section
attribute [local irreducible] bin un conv call callV blt slc fldA fld idxA idx lkp mUpd mEnt eSt rng nxt ent ext alc box bld bldS ld sto nilC mkMap mkS ifc pick rdy wts gsel sti cond retM Gives cCode cGrp cSeq cOp
/-- The variables that the closures of Add and Compact read. -/
def AC (p q k1 k2 : Nat) (size : Int) (br : Bool) (v : Option Addr × Nat × Nat) (b : List UInt8) (B2 : Nat) (w : World) : Prop :=
  blk w k1 49 [ptr q] ∧ blk w k2 29 [slv v] ∧ JR w p q size br ∧ OB w B2 v.1 v.2.1 v.2.2 b
theorem AC.keep [G : Guard] {p q k1 k2 B B2 : Nat} {size : Int} {br : Bool} {v : Option Addr × Nat × Nat} {b : List UInt8} {w w' : World} (h : AC p q k1 k2 size br v b B2 w) (hk : Kg DT B w w') : AC p q k1 k2 size br v b B2 w' :=
  ⟨hk.blk h.1 (.inr (by decide)), hk.blk h.2.1 (.inr (by decide)), h.2.2.1.keep hk (by decide), h.2.2.2.keep hk.toKeep (by decide)⟩

theorem vast_bytes {br : Bool} {L : List (List UInt8)} : (jbytesS br L).1.length ≤ 8 * L.length + vast L := by
  unfold jbytesS
  split
  · simp
  unfold putF
  split
  · simp [framesB_len]
  · simp

theorem add_c [G : Guard] {B p q : Nat} {J : JD} {w : World} {K : KV} {a : Option Addr} {n c : Nat} {vs : List (Option Addr × Nat × Nat)} {L : List (List UInt8)} (hd : DK Z w B p J.disk) (hj : JR w p q J.size J.br) (hL : RBB w a n c vs L) (hn : n ≤ 4294967296) (hv : vast L ≤ 1000000000000)
    (hlen : J.disk.loose.length < 1000000) (hsz : 0 ≤ J.size ∧ J.size ≤ 9000000000000000000) (hBq : B ≤ q) (hGq : ¬ G.prot q)
    (h : ∀ w', DK Z w' B p (jaddS J L).1.disk → JR w' p q (jaddS J L).1.size (jaddS J L).1.br → Kg JT B w w' → K (.int .i64 (jaddS J L).2) w') : call Try.prog 23 #[ptr q, .slice a n c] K w := by
  have hlL := hL.lenL
  have hvb := vast_bytes (br := J.br) (L := L)
  have hBw : B ≤ w.heap.size := Nat.le_of_lt (Nat.lt_of_le_of_lt hd.base hd.lt)
  refine call_of journal_Journal_Add_go (journal_Journal_Add_in ?_)
  refine box_of ?_
  intro w1 hx1 b1 _
  have hx1 : blk w1 w.heap.size 49 [ptr q] := hx1
  (repeat (first | (refine ld_JL_3 ?_ (by assumption) ?_ ?_; rotate_left; exact rfl)))
  refine jbytes_c (hj.below b1) (hL.below b1 (Nat.le_refl _)) hn hv ?_
  intro a2 n2 c2 w2 o2 b2
  have hn2 := o2.len
  have hx2 := below_blk b2 hx1 hx1.lt
  have b02 : Below w.heap.size w w2 := b1.trans (b2.mono b1.size)
  have hd2 := hd.below b02
  have hj2 := hj.below b02
  have S1 := b1.size
  have S2 := b2.size
  (repeat (first | refine ext_a ?_ | refine ext_b ?_))
  refine alc_of (z := .slice none 0 0) (by kernel_rfl) ?_
  intro w3 hb3 b3 S3
  have hb3 : blk w3 w2.heap.size 29 [.slice none 0 0] := hb3
  refine sto1 (fun _ => by kernel_rfl) hb3 (by simp) rfl ?_
  intro w4 hb4 o4
  have hb4 : blk w4 w2.heap.size 29 [slv (a2, n2, c2)] := hb4
  have b24 : Below w2.heap.size w2 w4 := b3.trans o4.below
  have S4 := o4.size
  have hd4 := hd2.below b24
  have hj4 := hj2.below b24
  have hx4 := below_blk b24 hx2 hx2.lt
  have o4' := OB.below o2 b24 (Nat.le_refl _)
  have b04 : Below w.heap.size w w4 := b02.trans (b24.mono (by omega))
  have same : (jbytesS J.br L).2 ≠ 0 ∨ L = [] → K (.int .i64 (jbytesS J.br L).2) w4 := by
    intro hc
    have e : jaddS J L = (J, (jbytesS J.br L).2) := by unfold jaddS; rw [if_pos hc]
    rw [e] at h
    exact h w4 hd4 hj4 (Kg.of b04)
  by_cases he : (jbytesS J.br L).2 = 0
  rotate_left
  · (repeat (first | refine bin_neq ?_ | refine cond_T ?_ | refine gsel_nt (by omega) ?_ | refine pick_t (by omega) ?_))
    exact same (.inl he)
  by_cases hLn : L = []
  · have : n = 0 := by rw [← hlL, hLn]; rfl
    subst this
    (repeat (first | refine len26 ?_ | refine bin_eql ?_ | refine bin_neq ?_ | refine cond_T ?_ | refine gsel_nf (by omega) ?_ | refine pick_f (by omega) ?_))
    exact same (.inr hLn)
  have hn0 : n ≠ 0 := by rw [← hlL]; exact fun h0 => hLn (List.eq_nil_of_length_eq_zero h0)
  have e : jaddS J L = jdoneS (seqS (jaddL (jbytesS J.br L).1) J.disk) J.size (J.size + (jbytesS J.br L).1.length) := by unfold jaddS; rw [if_neg (by simp [he, hLn])]
  rw [e] at h
  have hj4b : blk w4 q 84 [ptr p, .int .i64 J.size, .bool J.br] := hj4
  (repeat (first | refine len26 ?_ | refine nilC_p ?_ | refine fA_Journal_0 ?_ | (refine ld_JL_2 ?_ (by assumption) ?_ ?_; rotate_left; exact rfl) | (refine ld_JL_3 ?_ (by assumption) ?_ ?_; rotate_left; exact rfl) | refine bin_eql ?_ | refine bin_neq ?_ | refine cond_f (by omega) ?_ | refine gsel_nf (by omega) ?_ | refine pick_f (by omega) ?_))
  obtain ⟨i, hi, hz, hsz', hby⟩ := info_parts info_fn
  refine bldS_of (vs := [.func (.func 51) #[] #[ptr w.heap.size, ptr w2.heap.size], .func (.func 33) #[ptr p] #[]]) rfl rfl Try.underlying99 hi hz hsz' rfl (by simp) (by simp) (by simp [Value.cells]) ?_
  intro row5 b5
  generalize (w4.alloc _) = w5 at row5 b5 ⊢
  have S5 := b5.size
  have ac5 : AC p q w.heap.size w2.heap.size J.size J.br (a2, n2, c2) (jbytesS J.br L).1 w1.heap.size w5 := ⟨below_blk b5 hx4 hx4.lt, below_blk b5 hb4 hb4.lt, hj4.below b5, OB.below o4' b5 (Nat.le_refl _)⟩
  have K05 : Kg DT B w w5 := Kg.of (b04.trans (b5.mono (by omega)))
  refine each_c (Ctx := AC p q w.heap.size w2.heap.size J.size J.br (a2, n2, c2) (jbytesS J.br L).1 w1.heap.size) (gs := jaddL (jbytesS J.br L).1) (fun _ _ hc hk => hc.keep hk) rfl ?_ ?_ row5 (hd4.below b5) ac5 hlen (by simp) ?_
  · intro i f g hf hg w K D' hc hd' hl' hK
    match i with
    | 0 =>
      simp only [List.getElem?_cons_zero, Option.some.injEq, jaddL] at hf hg
      subst hf hg
      refine callV_of rfl (call_of journal_Journal_Add_1_go (journal_Journal_Add_1_in ?_))
      have hcd : AC p q _ w2.heap.size J.size J.br (a2, n2, c2) (jbytesS J.br L).1 w1.heap.size w.drew := ⟨hc.1.drew, hc.2.1.drew, hc.2.2.1.below ((Below.refl _ w).drew), hc.2.2.2.below ((Below.refl _ w).drew) (Nat.le_refl _)⟩
      refine hReg_of (AC p q _ w2.heap.size J.size J.br (a2, n2, c2) (jbytesS J.br L).1 w1.heap.size) hcd ?_
      refine hld_of (fun x hx K hK => ld1 (v := ptr q) (fun _ => by kernel_rfl) hx.1 rfl hK) ?_
      refine hld_of (fun x hx K hK => nilC_p hK) ?_
      refine hld_of (fun x hx K hK => fA_Journal_0 hK) ?_
      refine hld_of (fun x hx K hK => ld1 (v := ptr p) (fun _ => by kernel_rfl) (show blk x q 84 [ptr p, .int .i64 J.size, .bool J.br] from hx.2.2.1) rfl hK) ?_
      refine hld_of (fun x hx K hK => ld1 (v := slv (a2, n2, c2)) (fun _ => by kernel_rfl) hx.2.1 rfl hK) ?_
      refine append_c hd'.drew hcd.2.2.2.rb (by show n2 ≤ _; omega) hl' ?_
      intro w' hd2' hk'
      exact hReg_of (fun _ => True) trivial (hK w' hd2' ⟨hk'.os, hk'.tape, hk'.output, hk'.size, hk'.block⟩)
    | 1 =>
      simp only [List.getElem?_cons_succ, List.getElem?_cons_zero, Option.some.injEq, jaddL] at hf hg
      subst hf hg
      exact callV_of rfl (sync_c hd' hK)
    | i + 2 => simp at hf
  · intro g hg D'
    simp only [jaddL, List.mem_cons, List.not_mem_nil, or_false] at hg
    rcases hg with rfl | rfl
    · exact appendS_len _ _ _
    · exact syncS_len _
  intro w6 hd6 K6
  have ac6 := ac5.keep K6
  have ac6d : AC p q w.heap.size w2.heap.size J.size J.br (a2, n2, c2) (jbytesS J.br L).1 w1.heap.size w6.drew := ⟨ac6.1.drew, ac6.2.1.drew, ac6.2.2.1.below ((Below.refl _ w6).drew), ac6.2.2.2.below ((Below.refl _ w6).drew) (Nat.le_refl _)⟩
  refine journal_Journal_Add_A1_r ?_
  refine hReg_of (AC p q w.heap.size w2.heap.size J.size J.br (a2, n2, c2) (jbytesS J.br L).1 w1.heap.size) ac6d ?_
  refine hld_of (fun x hx K hK => ld1 (v := ptr q) (fun _ => by kernel_rfl) hx.1 rfl hK) ?_
  refine hld_of (fun x hx K hK => ld1 (v := ptr q) (fun _ => by kernel_rfl) hx.1 rfl hK) ?_
  refine hld_of (fun x hx K hK => nilC_p hK) ?_
  refine hld_of (fun x hx K hK => fA_Journal_1 hK) ?_
  refine hld_of (fun x hx K hK => ld1 (v := .int .i64 J.size) (fun _ => by kernel_rfl) (show blk x q 84 [ptr p, .int .i64 J.size, .bool J.br] from hx.2.2.1) rfl hK) ?_
  refine hld_of (fun x hx K hK => ld1 (v := slv (a2, n2, c2)) (fun _ => by kernel_rfl) hx.2.1 rfl hK) ?_
  refine hld_of (fun x hx K hK => len8 hK) ?_
  refine hld_of (fun x hx K hK => add64 (by show _ ≤ J.size + (n2 : Int); omega) (by show J.size + (n2 : Int) ≤ _; omega) hK) ?_
  refine jdone_c ac6d.2.2.1 ?_
  intro w7 hj7 o7
  refine hReg_of (fun _ => True) trivial ?_
  have K67 : Kg [84] B w6.drew w7 := o7.kg ac6d.2.2.1 (by decide) hBq hGq
  have hnn : (((a2, n2, c2) : Option Addr × Nat × Nat).2.1 : Int) = ((jbytesS J.br L).1.length : Int) := by show (n2 : Int) = _; omega
  rw [hnn] at hj7
  refine h w7 (hd6.drew.keep K67 (by decide) (by decide) (by decide) (by decide)) hj7 ?_
  exact ((K05.trans K6).drew.mono (by decide) (Nat.le_refl _)).trans (K67.mono (by decide) (Nat.le_refl _))

theorem compact_c [G : Guard] {B p q : Nat} {J : JD} {w : World} {K : KV} {a : Option Addr} {n c : Nat} {vs : List (Option Addr × Nat × Nat)} {L : List (List UInt8)} (hd : DK Z w B p J.disk) (hj : JR w p q J.size J.br) (hL : RBB w a n c vs L) (hn : n ≤ 4294967296) (hv : vast L ≤ 1000000000000)
    (hlen : J.disk.loose.length < 1000000) (hBq : B ≤ q) (hGq : ¬ G.prot q)
    (h : ∀ w', DK Z w' B p (jcompS J L).1.disk → JR w' p q (jcompS J L).1.size (jcompS J L).1.br → Kg JT B w w' → K (.int .i64 (jcompS J L).2) w') : call Try.prog 24 #[ptr q, .slice a n c] K w := by
  have hlL := hL.lenL
  have hvb := vast_bytes (br := J.br) (L := L)
  have hBw : B ≤ w.heap.size := Nat.le_of_lt (Nat.lt_of_le_of_lt hd.base hd.lt)
  refine call_of journal_Journal_Compact_go (journal_Journal_Compact_in ?_)
  refine box_of ?_
  intro w1 hx1 b1 _
  have hx1 : blk w1 w.heap.size 49 [ptr q] := hx1
  (repeat (first | (refine ld_JL_3 ?_ (by assumption) ?_ ?_; rotate_left; exact rfl)))
  refine jbytes_c (hj.below b1) (hL.below b1 (Nat.le_refl _)) hn hv ?_
  intro a2 n2 c2 w2 o2 b2
  have hn2 := o2.len
  have hx2 := below_blk b2 hx1 hx1.lt
  have b02 : Below w.heap.size w w2 := b1.trans (b2.mono b1.size)
  have hd2 := hd.below b02
  have hj2 := hj.below b02
  have S1 := b1.size
  have S2 := b2.size
  (repeat (first | refine ext_a ?_ | refine ext_b ?_))
  refine alc_of (z := .slice none 0 0) (by kernel_rfl) ?_
  intro w3 hb3 b3 S3
  have hb3 : blk w3 w2.heap.size 29 [.slice none 0 0] := hb3
  refine sto1 (fun _ => by kernel_rfl) hb3 (by simp) rfl ?_
  intro w4 hb4 o4
  have hb4 : blk w4 w2.heap.size 29 [slv (a2, n2, c2)] := hb4
  have b24 : Below w2.heap.size w2 w4 := b3.trans o4.below
  have S4 := o4.size
  have hd4 := hd2.below b24
  have hj4 := hj2.below b24
  have hx4 := below_blk b24 hx2 hx2.lt
  have o4' := OB.below o2 b24 (Nat.le_refl _)
  have b04 : Below w.heap.size w w4 := b02.trans (b24.mono (by omega))
  by_cases he : (jbytesS J.br L).2 = 0
  rotate_left
  · have e : jcompS J L = (J, (jbytesS J.br L).2) := by unfold jcompS; rw [if_pos he]
    rw [e] at h
    (repeat (first | refine bin_neq ?_ | refine cond_t (by omega) ?_))
    exact h w4 hd4 hj4 (Kg.of b04)
  have e : jcompS J L = jdoneS (seqS (jcompL (jbytesS J.br L).1) J.disk) J.size (jbytesS J.br L).1.length := by unfold jcompS; rw [if_neg (by simp [he])]
  rw [e] at h
  (repeat (first | refine bin_neq ?_ | refine cond_f (by omega) ?_))
  have bd : Below w4.heap.size w4 w4.drew := (Below.refl _ w4).drew
  refine hReg_of (fun x => blk x w.heap.size 49 [ptr q] ∧ blk x q 84 [ptr p, .int .i64 J.size, .bool J.br]) ⟨hx4.drew, hj4.below bd⟩ ?_
  refine hld_of (fun x hx K hK => ld1 (v := ptr q) (fun _ => by kernel_rfl) hx.1 rfl hK) ?_
  refine hld_of (fun x hx K hK => nilC_p hK) ?_
  refine hld_of (fun x hx K hK => fA_Journal_0 hK) ?_
  refine hld_of (fun x hx K hK => ld1 (v := ptr p) (fun _ => by kernel_rfl) hx.2 rfl hK) ?_
  refine hld_of (fun x hx K hK => ld1 (v := ptr q) (fun _ => by kernel_rfl) hx.1 rfl hK) ?_
  refine hld_of (fun x hx K hK => nilC_p hK) ?_
  refine hld_of (fun x hx K hK => fA_Journal_0 hK) ?_
  refine hld_of (fun x hx K hK => ld1 (v := ptr p) (fun _ => by kernel_rfl) hx.2 rfl hK) ?_
  refine hld_of (fun x hx K hK => ld1 (v := ptr q) (fun _ => by kernel_rfl) hx.1 rfl hK) ?_
  refine hld_of (fun x hx K hK => nilC_p hK) ?_
  refine hld_of (fun x hx K hK => fA_Journal_0 hK) ?_
  refine hld_of (fun x hx K hK => ld1 (v := ptr p) (fun _ => by kernel_rfl) hx.2 rfl hK) ?_
  obtain ⟨i, hi, hz, hsz', hby⟩ := info_parts info_fn
  refine bldS_of (vs := [.func (.func 53) #[] #[ptr w.heap.size], .func (.func 54) #[] #[ptr w.heap.size, ptr w2.heap.size], .func (.func 33) #[ptr p] #[], .func (.func 34) #[ptr p] #[], .func (.func 33) #[ptr p] #[]]) rfl rfl Try.underlying99 hi hz hsz' rfl (by simp) (by simp) (by simp [Value.cells]) ?_
  intro row5 b5
  generalize (w4.drew.alloc _) = w5 at row5 b5 ⊢
  have b5 : Below w4.heap.size w4 w5 := bd.trans b5
  have S5 := b5.size
  have ac5 : AC p q w.heap.size w2.heap.size J.size J.br (a2, n2, c2) (jbytesS J.br L).1 w1.heap.size w5 := ⟨below_blk b5 hx4 hx4.lt, below_blk b5 hb4 hb4.lt, hj4.below b5, OB.below o4' b5 (Nat.le_refl _)⟩
  have K05 : Kg DT B w w5 := Kg.of (b04.trans (b5.mono (by omega)))
  refine hReg_of (fun _ => True) trivial ?_
  refine each_c (Ctx := AC p q w.heap.size w2.heap.size J.size J.br (a2, n2, c2) (jbytesS J.br L).1 w1.heap.size) (gs := jcompL (jbytesS J.br L).1) (fun _ _ hc hk => hc.keep hk) rfl ?_ ?_ row5 (hd4.below b5) ac5 hlen (by simp) ?_
  · intro i f g hf hg w K D' hc hd' hl' hK
    match i with
    | 0 =>
      simp only [List.getElem?_cons_zero, Option.some.injEq, jcompL] at hf hg
      subst hf hg
      refine callV_of rfl (call_of journal_Journal_Compact_1_go (journal_Journal_Compact_1_in ?_))
      have hc1 := hc.1
      have hc3 : blk w q 84 [ptr p, .int .i64 J.size, .bool J.br] := hc.2.2.1
      (repeat (first | refine nilC_p ?_ | refine fA_Journal_0 ?_ | (refine ld_JL_2 ?_ (by assumption) ?_ ?_; rotate_left; exact rfl) | (refine ld_JL_3 ?_ (by assumption) ?_ ?_; rotate_left; exact rfl)))
      exact jempty_c hd' hl' hK
    | 1 =>
      simp only [List.getElem?_cons_succ, List.getElem?_cons_zero, Option.some.injEq, jcompL] at hf hg
      subst hf hg
      refine callV_of rfl (call_of journal_Journal_Compact_2_go (journal_Journal_Compact_2_in ?_))
      have hcd : AC p q _ w2.heap.size J.size J.br (a2, n2, c2) (jbytesS J.br L).1 w1.heap.size w.drew := ⟨hc.1.drew, hc.2.1.drew, hc.2.2.1.below ((Below.refl _ w).drew), hc.2.2.2.below ((Below.refl _ w).drew) (Nat.le_refl _)⟩
      refine hReg_of (AC p q _ w2.heap.size J.size J.br (a2, n2, c2) (jbytesS J.br L).1 w1.heap.size) hcd ?_
      refine hld_of (fun x hx K hK => ld1 (v := ptr q) (fun _ => by kernel_rfl) hx.1 rfl hK) ?_
      refine hld_of (fun x hx K hK => nilC_p hK) ?_
      refine hld_of (fun x hx K hK => fA_Journal_0 hK) ?_
      refine hld_of (fun x hx K hK => ld1 (v := ptr p) (fun _ => by kernel_rfl) (show blk x q 84 [ptr p, .int .i64 J.size, .bool J.br] from hx.2.2.1) rfl hK) ?_
      refine hld_of (fun x hx K hK => ld1 (v := slv (a2, n2, c2)) (fun _ => by kernel_rfl) hx.2.1 rfl hK) ?_
      refine append_c hd'.drew hcd.2.2.2.rb (by show n2 ≤ _; omega) hl' ?_
      intro w' hd2' hk'
      exact hReg_of (fun _ => True) trivial (hK w' hd2' ⟨hk'.os, hk'.tape, hk'.output, hk'.size, hk'.block⟩)
    | 2 =>
      simp only [List.getElem?_cons_succ, List.getElem?_cons_zero, Option.some.injEq, jcompL] at hf hg
      subst hf hg
      exact callV_of rfl (sync_c hd' hK)
    | 3 =>
      simp only [List.getElem?_cons_succ, List.getElem?_cons_zero, Option.some.injEq, jcompL] at hf hg
      subst hf hg
      exact callV_of rfl (rename_c hd' hl' hK)
    | 4 =>
      simp only [List.getElem?_cons_succ, List.getElem?_cons_zero, Option.some.injEq, jcompL] at hf hg
      subst hf hg
      exact callV_of rfl (sync_c hd' hK)
    | i + 5 => simp at hf
  · intro g hg D'
    simp only [jcompL, List.mem_cons, List.not_mem_nil, or_false] at hg
    rcases hg with rfl | rfl | rfl | rfl | rfl
    · exact jemptyS_len _
    · exact appendS_len _ _ _
    · exact syncS_len _
    · exact renS_len _
    · exact syncS_len _
  intro w6 hd6 K6
  have ac6 := ac5.keep K6
  refine hReg_of (fun _ => True) trivial ?_
  have hc1 := ac6.1
  have hc2 := ac6.2.1
  (repeat (first | (refine ld_JL_3 ?_ (by assumption) ?_ ?_; rotate_left; exact rfl) | (refine ld_JL_4 ?_ (by assumption) ?_ ?_; rotate_left; exact rfl) | refine len8 ?_))
  refine jdone_c ac6.2.2.1 ?_
  intro w7 hj7 o7
  have K67 : Kg [84] B w6 w7 := o7.kg ac6.2.2.1 (by decide) hBq hGq
  have hnn : (((a2, n2, c2) : Option Addr × Nat × Nat).2.1 : Int) = ((jbytesS J.br L).1.length : Int) := by show (n2 : Int) = _; omega
  rw [hnn] at hj7
  refine h w7 (hd6.keep K67 (by decide) (by decide) (by decide) (by decide)) hj7 ?_
  exact ((K05.trans K6).mono (by decide) (Nat.le_refl _)).trans (K67.mono (by decide) (Nat.le_refl _))
end
end Go.Proofs.Ytjkmblbonambjaa
