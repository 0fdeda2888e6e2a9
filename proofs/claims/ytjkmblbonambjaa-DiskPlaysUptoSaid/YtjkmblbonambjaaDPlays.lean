/- The statement of DiskPlays: whatever is called, in whatever order: each answer, both files, the power, how many changes are loose: where what it reads is of bulk at most 1048576: true, and the input reads as it did. -/
import Derived.Test.YtjkmblbonambjaaSDPlays
import Derived.Test.YtjkmblbonambjaaDRef6
import Derived.Test.YtjkmblbonambjaaSep
import Derived.Test.YtjkmblbonambjaaStore
namespace Go.Proofs.Ytjkmblbonambjaa
set_option maxRecDepth 100000
open Go.ChangeShapes Go.WideShapes Go.ChangeAt Go.RowKit
section
attribute [local irreducible] bin un conv call callV blt slc fldA fld idxA idx lkp mUpd mEnt eSt rng nxt ent ext alc box bld bldS ld sto nilC mkMap mkS ifc pick rdy wts gsel sti cond retM Gives cCode cGrp cSeq cOp

theorem RK.lt {w : World} {B p : Nat} {D : DS} (h : RK w B p D) : p < w.heap.size := by
  obtain ⟨la, ln, lc, hb, _⟩ := h; exact hb.lt
theorem KeepZ.oth {Z : Nat → Prop} {w w' : World} {g : Nat} {cs : List Value} (ho : Oth g w w') (hz : ¬ Z g) (hb : Go.Proofs.Ytjkmblbonambjaa.blk w g 5 cs) : KeepZ Z w w' :=
  ⟨by rw [ho.size]; exact Nat.le_refl _, fun k o hk h => by
    have : k ≠ g := by
      rintro rfl
      rcases h with h | h
      · exact hz h
      · unfold Go.Proofs.Ytjkmblbonambjaa.blk at hb; rw [hb] at hk; cases hk; exact h _ _ _ rfl rfl
    rw [ho.other k this]; exact hk⟩
theorem RK.oth {w w' : World} {B p g : Nat} {D : DS} {cs : List Value} (h : RK w B p D) (ho : Oth g w w') (hb : blk w g 5 cs) : RK w' B p D :=
  h.keep (ho.keep (T := [5]) (B := 0) hb (by simp) (by omega)) (by decide) (by decide)

theorem okAll_bnd {l : List Chg} {F : Fls} (h : okAll l F) : bnd F l 4194304 := by
  intro i
  cases hi : l[i]? with
  | none => rw [List.take_of_length_le (List.getElem?_eq_none_iff.1 hi)]; exact okAll_now h
  | some c => exact (okAll_get h hi).2
theorem DK.bnd {Z : Nat → Prop} {w : World} {B p : Nat} {D : DS} (h : DK Z w B p D) : bnd D.sure D.loose 4194304 := by
  obtain ⟨s0, s1, n0, n1, la, ln, lc, fz, hb, e1, e2, e3, e4, hh⟩ := h
  exact okAll_bnd hh.ok
theorem DK.readLen {Z : Nat → Prop} {w : World} {B p : Nat} {D : DS} (h : DK Z w B p D) (f : Int) : (readS D f).1.length ≤ 4194304 := by
  have hb := h.bnd.now
  unfold readS
  split
  · simp
  split
  · simp
  exact Nat.le_trans (fget_le _ _) hb
theorem RB.cellB {w : World} {a : Option Addr} {n c i : Nat} {l : List UInt8} (h : RB w a n c l) (hi : i < n) : w.cell? (slotA a i) = some (.int .u8 ((l.getD i 0).toNat : Int)) := by
  have hl := h.len
  refine RV.cell h i _ ?_
  rw [List.getElem?_map, List.getElem?_eq_getElem (by omega)]
  simp [u8v, List.getD, show i < l.length by omega]
theorem lenI' {w : World} {K : KV} {ty : TypeId} {cs : Array Bool} {av : Option Addr} {n c : Nat} (h : K (.int .i64 (n : Int)) w) : blt Try.prog .len #[30] ty cs #[.slice av n c] K w := len_slc Try.underlying30 h

set_option maxHeartbeats 8000000 in
theorem plays_law {a0 : Option Addr} {n0 c0 : Nat} {L : List Stp} {fl : Int} {w : World} {K : KV} (r0 : RST w a0 n0 c0 L) (hn0 : n0 ≤ 9223372036854775807)
    (h : ∀ w', Below w.heap.size w w' → K (.bool true) w') : call Try.prog 3 #[.slice a0 n0 c0, .int .i64 fl] K w := by
  have l0 := r0.1
  refine call_of leatlaw04_DiskPlays_go (leatlaw04_DiskPlays_in ?_)
  refine few_c r0 hn0 ?_
  intro w1 b1
  have wk : ∀ {K' : KV} {w' : World}, Below w.heap.size w w' → (∀ w'', Below w.heap.size w w'' → K' (.bool true) w'') → call Try.prog 10 #[] K' w' := by
    intro K' w' hb hK
    refine works_c fun w'' hb2 => hK _ (hb.trans (hb2.mono hb.size))
  refine un_not ?_
  cases hfew : fewS L with
  | false =>
    (repeat (first | refine leatlaw04_DiskPlays_P1_r ?_ | refine leatlaw04_DiskPlays_P2_r ?_ | refine leatlaw04_DiskPlays_P3_r ?_ | refine leatlaw04_DiskPlays_P4_r ?_ | refine leatlaw04_DiskPlays_A1_r ?_ | refine bin_eql ?_ | refine bin_neq ?_ | refine bin_lss ?_ | refine bin_leq ?_ | refine bin_gtr ?_ | refine bin_geq ?_ | refine add64 (by omega) (by omega) ?_ | refine sub64 (by omega) (by omega) ?_ | refine ext_a ?_ | refine ext_b ?_ | refine ext3_a ?_ | refine ext3_b ?_ | refine ext3_c ?_ | refine un_notD ?_ | refine mul64 (by omega) (by omega) ?_ | refine cvIU (by omega) (by omega) ?_ | refine cvIUint (by omega) (by omega) ?_ | refine cvUI (by omega) (by omega) ?_ | refine cvBU (by omega) (by omega) ?_ | refine len8 ?_ | refine len36 ?_ | refine pick_T ?_ | refine pick_F ?_ | refine cond_T ?_ | refine cond_F ?_ | refine cond_t (by omega) ?_ | refine cond_f (by omega) ?_ | refine gsel_T ?_ | refine gsel_F ?_ | refine gsel_Tn ?_ | refine gsel_Fn ?_ | refine gsel_U ?_ | refine gsel_pt (by omega) ?_ | refine gsel_pf (by omega) ?_ | refine gsel_nt (by omega) ?_ | refine gsel_nf (by omega) ?_ | refine pick_t (by omega) ?_ | refine pick_f (by omega) ?_ | refine sti_of (fun _ hK => bin_eql hK) ?_ | refine sti_of (fun _ hK => bin_neq hK) ?_ | refine sti_of (fun _ hK => bin_lss hK) ?_ | refine sti_of (fun _ hK => bin_leq hK) ?_ | refine sti_of (fun _ hK => bin_gtr hK) ?_ | refine sti_of (fun _ hK => bin_geq hK) ?_ | refine sti_of (fun _ hK => add64 (by omega) (by omega) hK) ?_ | refine sti_of (fun _ hK => sub64 (by omega) (by omega) hK) ?_ | refine sti_of (fun _ hK => un_notD hK) ?_ | refine sti_of (fun _ hK => len8 hK) ?_ | refine sti_of (fun _ hK => pick_T hK) ?_ | refine sti_of (fun _ hK => pick_F hK) ?_))
    exact wk b1 h
  | true =>
  have hfew2 : L.length ≤ 60 ∧ cum L L.length ≤ 8192 := by
    simp only [fewS, Bool.and_eq_true, decide_eq_true_eq] at hfew; exact hfew
  (repeat (first | refine leatlaw04_DiskPlays_P1_r ?_ | refine leatlaw04_DiskPlays_P2_r ?_ | refine leatlaw04_DiskPlays_P3_r ?_ | refine leatlaw04_DiskPlays_P4_r ?_ | refine leatlaw04_DiskPlays_A1_r ?_ | refine bin_eql ?_ | refine bin_neq ?_ | refine bin_lss ?_ | refine bin_leq ?_ | refine bin_gtr ?_ | refine bin_geq ?_ | refine add64 (by omega) (by omega) ?_ | refine sub64 (by omega) (by omega) ?_ | refine ext_a ?_ | refine ext_b ?_ | refine ext3_a ?_ | refine ext3_b ?_ | refine ext3_c ?_ | refine un_notD ?_ | refine mul64 (by omega) (by omega) ?_ | refine cvIU (by omega) (by omega) ?_ | refine cvIUint (by omega) (by omega) ?_ | refine cvUI (by omega) (by omega) ?_ | refine cvBU (by omega) (by omega) ?_ | refine len8 ?_ | refine len36 ?_ | refine pick_T ?_ | refine pick_F ?_ | refine cond_T ?_ | refine cond_F ?_ | refine cond_t (by omega) ?_ | refine cond_f (by omega) ?_ | refine gsel_T ?_ | refine gsel_F ?_ | refine gsel_Tn ?_ | refine gsel_Fn ?_ | refine gsel_U ?_ | refine gsel_pt (by omega) ?_ | refine gsel_pf (by omega) ?_ | refine gsel_nt (by omega) ?_ | refine gsel_nf (by omega) ?_ | refine pick_t (by omega) ?_ | refine pick_f (by omega) ?_ | refine sti_of (fun _ hK => bin_eql hK) ?_ | refine sti_of (fun _ hK => bin_neq hK) ?_ | refine sti_of (fun _ hK => bin_lss hK) ?_ | refine sti_of (fun _ hK => bin_leq hK) ?_ | refine sti_of (fun _ hK => bin_gtr hK) ?_ | refine sti_of (fun _ hK => bin_geq hK) ?_ | refine sti_of (fun _ hK => add64 (by omega) (by omega) hK) ?_ | refine sti_of (fun _ hK => sub64 (by omega) (by omega) hK) ?_ | refine sti_of (fun _ hK => un_notD hK) ?_ | refine sti_of (fun _ hK => len8 hK) ?_ | refine sti_of (fun _ hK => pick_T hK) ?_ | refine sti_of (fun _ hK => pick_F hK) ?_))
  refine new_c ?_
  intro w2 p hd2 b2 hp
  refine rnew_c ?_
  intro w3 q hr3 b3 hq
  have s1 := b1.size
  have s2 := b2.size
  have s3 := b3.size
  have hd3 := hd2.below b3
  have hB3 : Below w1.heap.size w1 w3 := b2.trans (b3.mono s2)
  refine leatlaw04_DiskPlays_L1_r (Inv := fun i _ _ _ _ _ _ _ _ _ _ _ _ _ _ _ _ _ _ wr => ∃ (j : Nat) (D : DS), j ≤ n0 ∧ i = .int .i64 (j : Nat) ∧ DK (fun _ => True) wr w1.heap.size p D ∧ RK wr w2.heap.size q D ∧ D.loose.length ≤ j ∧ Below w1.heap.size w1 wr)
    (μ := fun i _ _ _ _ _ _ _ _ _ _ _ _ _ _ _ _ _ _ _ => n0 - (intOf i).toNat) ⟨0, _, by omega, rfl, hd3, hr3, by simp, hB3⟩ ?_
  rintro _ _ _ _ _ _ _ _ _ _ _ _ _ _ _ _ _ _ _ _ w4 m ⟨j, D, hj, rfl, hd4, hr4, hl4, hb4⟩ hm
  by_cases hjn : j < n0
  rotate_left
  · have : j = n0 := by omega
    subst this
    (repeat (first | refine lenSt ?_ | refine leatlaw04_DiskPlays_P1_r ?_ | refine leatlaw04_DiskPlays_P2_r ?_ | refine leatlaw04_DiskPlays_P3_r ?_ | refine leatlaw04_DiskPlays_P4_r ?_ | refine leatlaw04_DiskPlays_A1_r ?_ | refine bin_eql ?_ | refine bin_neq ?_ | refine bin_lss ?_ | refine bin_leq ?_ | refine bin_gtr ?_ | refine bin_geq ?_ | refine add64 (by omega) (by omega) ?_ | refine sub64 (by omega) (by omega) ?_ | refine ext_a ?_ | refine ext_b ?_ | refine ext3_a ?_ | refine ext3_b ?_ | refine ext3_c ?_ | refine un_notD ?_ | refine mul64 (by omega) (by omega) ?_ | refine cvIU (by omega) (by omega) ?_ | refine cvIUint (by omega) (by omega) ?_ | refine cvUI (by omega) (by omega) ?_ | refine cvBU (by omega) (by omega) ?_ | refine len8 ?_ | refine len36 ?_ | refine pick_T ?_ | refine pick_F ?_ | refine cond_T ?_ | refine cond_F ?_ | refine cond_t (by omega) ?_ | refine cond_f (by omega) ?_ | refine gsel_T ?_ | refine gsel_F ?_ | refine gsel_Tn ?_ | refine gsel_Fn ?_ | refine gsel_U ?_ | refine gsel_pt (by omega) ?_ | refine gsel_pf (by omega) ?_ | refine gsel_nt (by omega) ?_ | refine gsel_nf (by omega) ?_ | refine pick_t (by omega) ?_ | refine pick_f (by omega) ?_ | refine sti_of (fun _ hK => bin_eql hK) ?_ | refine sti_of (fun _ hK => bin_neq hK) ?_ | refine sti_of (fun _ hK => bin_lss hK) ?_ | refine sti_of (fun _ hK => bin_leq hK) ?_ | refine sti_of (fun _ hK => bin_gtr hK) ?_ | refine sti_of (fun _ hK => bin_geq hK) ?_ | refine sti_of (fun _ hK => add64 (by omega) (by omega) hK) ?_ | refine sti_of (fun _ hK => sub64 (by omega) (by omega) hK) ?_ | refine sti_of (fun _ hK => un_notD hK) ?_ | refine sti_of (fun _ hK => len8 hK) ?_ | refine sti_of (fun _ hK => pick_T hK) ?_ | refine sti_of (fun _ hK => pick_F hK) ?_))
    exact wk (b1.trans (hb4.mono s1)) h
  have S4 := hb4.size
  have hW : ∀ {w' : World}, Below w1.heap.size w1 w' → Below w.heap.size w w' := fun hb => b1.trans (hb.mono s1)
  (repeat (first | refine lenSt ?_ | refine bin_eql ?_ | refine bin_neq ?_ | refine bin_lss ?_ | refine bin_leq ?_ | refine bin_gtr ?_ | refine bin_geq ?_ | refine add64 (by omega) (by omega) ?_ | refine sub64 (by omega) (by omega) ?_ | refine ext_a ?_ | refine ext_b ?_ | refine ext3_a ?_ | refine ext3_b ?_ | refine ext3_c ?_ | refine un_notD ?_ | refine mul64 (by omega) (by omega) ?_ | refine cvIU (by omega) (by omega) ?_ | refine cvIUint (by omega) (by omega) ?_ | refine cvUI (by omega) (by omega) ?_ | refine cvBU (by omega) (by omega) ?_ | refine len8 ?_ | refine len36 ?_ | refine pick_T ?_ | refine pick_F ?_ | refine cond_T ?_ | refine cond_F ?_ | refine cond_t (by omega) ?_ | refine cond_f (by omega) ?_ | refine gsel_T ?_ | refine gsel_F ?_ | refine gsel_Tn ?_ | refine gsel_Fn ?_ | refine gsel_U ?_ | refine gsel_pt (by omega) ?_ | refine gsel_pf (by omega) ?_ | refine gsel_nt (by omega) ?_ | refine gsel_nf (by omega) ?_ | refine pick_t (by omega) ?_ | refine pick_f (by omega) ?_ | refine sti_of (fun _ hK => bin_eql hK) ?_ | refine sti_of (fun _ hK => bin_neq hK) ?_ | refine sti_of (fun _ hK => bin_lss hK) ?_ | refine sti_of (fun _ hK => bin_leq hK) ?_ | refine sti_of (fun _ hK => bin_gtr hK) ?_ | refine sti_of (fun _ hK => bin_geq hK) ?_ | refine sti_of (fun _ hK => add64 (by omega) (by omega) hK) ?_ | refine sti_of (fun _ hK => sub64 (by omega) (by omega) hK) ?_ | refine sti_of (fun _ hK => un_notD hK) ?_ | refine sti_of (fun _ hK => len8 hK) ?_ | refine sti_of (fun _ hK => pick_T hK) ?_ | refine sti_of (fun _ hK => pick_F hK) ?_))
  obtain ⟨b, o, cs, e, stc, hcell⟩ := r0.2.2 j _ (List.getElem?_eq_getElem (by omega))
  subst e
  obtain ⟨v, pv, rfl, rv, rp, k1, k2, k3, k4, k5⟩ := id stc
  have up : ∀ {x : World}, Below w1.heap.size w1 x → STC x [.int .i64 L[j].d, .int .i64 L[j].f, .int .i64 L[j].n, slv v, slv pv] L[j] ∧
      ∀ (jj : Nat) (u : Value), [Value.int .i64 L[j].d, .int .i64 L[j].f, .int .i64 L[j].n, slv v, slv pv][jj]? = some u → x.cell? ⟨b, o + j * 5 + jj, none⟩ = some u := by
    intro x hx
    refine ⟨stc.below (hW hx) (Nat.le_refl _), fun jj u hu => ?_⟩
    have := hcell jj u hu
    rw [(hW hx).cell (p := ⟨b, o + j * 5 + jj, none⟩) (World.block_lt_of_cell? w _ this)]; exact this
  refine idxRow (s := 5) Try.underlying22 (fun _ => by kernel_rfl) (by omega) (by omega) ?_
  rw [Int.toNat_natCast]
  refine ldStep (up hb4).1 (up hb4).2 ?_
  refine alc_of (z := .agg #[.int .i64 0, .int .i64 0, .int .i64 0, .slice none 0 0, .slice none 0 0]) (by kernel_rfl) ?_
  intro w5 hx5 b5 S5
  refine stoA (n := 5) (by kernel_rfl) rfl hx5 (by simp [Value.cells]) (by simp [Value.oneCell', slv]) ?_
  intro w6 hx6 o6
  have hx6 : blk w6 w4.heap.size 32 [.int .i64 L[j].d, .int .i64 L[j].f, .int .i64 L[j].n, slv v, slv pv] := hx6
  have S6 := o6.size
  have b6 : Below w4.heap.size w4 w6 := b5.trans (o6.below)
  refine empty8 w6.heap.size (Nat.le_refl _) ?_
  intro a7 w7 o7 b7
  have S7 := b7.size
  refine fA_Step_3 ?_
  refine ldC8 (v := slv v) (by rw [(below_blk b7 hx6 hx6.lt).cell]; rfl) ?_
  have rv7 := ((rv.below (hW hb4) (Nat.le_refl _)).below b6 (Nat.le_refl _)).below b7 (Nat.le_refl _)
  have hvl := rv.len
  refine app8s w6.heap.size o7 rv7 (by omega) b7.size ?_
  intro a8 c8 w8 o8 g8 _
  rw [List.nil_append, Nat.zero_add] at *
  have b8 : Below w6.heap.size w6 w8 := b7.trans (below_of_grown g8 b7.size (fun k hk => (OV.block o7 k hk).1))
  have S8 := b8.size
  have hx8 := below_blk b8 hx6 hx6.lt
  refine fA_Step_3 ?_
  refine sto1 (fun _ => by kernel_rfl) hx8 (by simp) rfl ?_
  intro w9 hx9 o9
  have hx9 : blk w9 w4.heap.size 32 [.int .i64 L[j].d, .int .i64 L[j].f, .int .i64 L[j].n, .slice a8 v.2.1 c8, slv pv] := hx9
  have S9 := o9.size
  have K9 : Keep [32] w4.heap.size w8 w9 := o9.keep hx8 (by simp) (Nat.le_refl _)
  have b49 : Below w4.heap.size w4 w9 := (b6.trans (b8.mono (by omega))).trans o9.below
  have o9' : OB w9 w6.heap.size a8 v.2.1 c8 L[j].b := o8.keep K9 (by decide)
  -- the disk, whose bytes lie elsewhere
  have hd9 : DK (fun b => b < w6.heap.size ∨ w8.heap.size ≤ b) w9 w1.heap.size p D := by
    have h6 : DK (fun _ => True) w6 w1.heap.size p D := hd4.keep (T := []) (B := 0) (Keep.of b6) (by simp) (by simp) (by simp) (by simp)
    have h8 : DK (fun b => b < w6.heap.size ∨ w8.heap.size ≤ b) w8 w1.heap.size p D := h6.step ⟨b8.size, fun k o hk _ => by rw [b8.block k (Array.getElem?_eq_some_iff.1 hk).1]; exact hk⟩ (fun b hb _ => .inl hb) (fun b hb => .inr hb)
    exact h8.keep K9 (by decide) (by decide) (by decide) (by decide)
  have hr9 : RK w9 w2.heap.size q D := hr4.keep (T := []) (B := 0) (Keep.of b49) (by simp) (by simp)
  refine ldA (n := 5) Try.underlying32 rfl (by kernel_rfl) hx9 rfl rfl ?_
  have rp9 := (rp.below (hW hb4) (Nat.le_refl _)).below b49 (Nat.le_refl _)
  have stc9 : STC w9 [.int .i64 L[j].d, .int .i64 L[j].f, .int .i64 L[j].n, .slice a8 v.2.1 c8, slv pv] L[j] := ⟨(a8, v.2.1, c8), pv, rfl, o9'.rb, rp9, k1, k2, k3, k4, k5⟩
  refine does_law hd9 stc9 (by omega) ?_
  intro w10 hd10 K10
  have hx10 := K10.blk hx9 (.inr (by decide))
  have o10 := o9'.keep K10 (by decide)
  have hr10 := hr9.keep K10 (by decide) (by decide)
  have S10 := K10.size
  have hdl : (stepS D L[j]).1.loose.length ≤ D.loose.length + 1 := (step_bnd (s := L[j]) hd9.bnd).2
  -- the bytes that were handed to it are turned
  have hb410 : ∀ {w' : World}, Keep DT w1.heap.size w9 w' → Below w1.heap.size w4 w' := fun hk => (b49.mono (by omega)).trans (hk.below (by omega))
  refine leatlaw04_DiskPlays_L2_r (Inv := fun i wr => ∃ (x : Nat) (l' : List UInt8), i = .int .i64 (x : Nat) ∧ x ≤ v.2.1 ∧ blk wr w4.heap.size 32 [.int .i64 L[j].d, .int .i64 L[j].f, .int .i64 L[j].n, .slice a8 v.2.1 c8, slv pv] ∧
      OB wr w6.heap.size a8 v.2.1 c8 l' ∧ DK (fun b => b < w6.heap.size ∨ w8.heap.size ≤ b) wr w1.heap.size p (stepS D L[j]).1 ∧ RK wr w2.heap.size q D ∧ Below w1.heap.size w1 wr)
    (μ := fun i _ => v.2.1 - (intOf i).toNat) ⟨0, _, rfl, by omega, hx10, o10, hd10, hr10, ?_⟩ ?_
  · exact hb4.trans (hb410 K10)
  rintro _ _ w11 m2 ⟨x, l', rfl, hx, hx11, o11, hd11, hr11, hb11⟩ hm2
  refine fA_Step_3 ?_
  refine ldC8 (v := .slice a8 v.2.1 c8) (by rw [hx11.cell]; rfl) ?_
  by_cases hxn : x < v.2.1
  · (repeat (first | refine bin_eql ?_ | refine bin_neq ?_ | refine bin_lss ?_ | refine bin_leq ?_ | refine bin_gtr ?_ | refine bin_geq ?_ | refine add64 (by omega) (by omega) ?_ | refine sub64 (by omega) (by omega) ?_ | refine ext_a ?_ | refine ext_b ?_ | refine ext3_a ?_ | refine ext3_b ?_ | refine ext3_c ?_ | refine un_notD ?_ | refine mul64 (by omega) (by omega) ?_ | refine cvIU (by omega) (by omega) ?_ | refine cvIUint (by omega) (by omega) ?_ | refine cvUI (by omega) (by omega) ?_ | refine cvBU (by omega) (by omega) ?_ | refine len8 ?_ | refine len36 ?_ | refine pick_T ?_ | refine pick_F ?_ | refine cond_T ?_ | refine cond_F ?_ | refine cond_t (by omega) ?_ | refine cond_f (by omega) ?_ | refine gsel_T ?_ | refine gsel_F ?_ | refine gsel_Tn ?_ | refine gsel_Fn ?_ | refine gsel_U ?_ | refine gsel_pt (by omega) ?_ | refine gsel_pf (by omega) ?_ | refine gsel_nt (by omega) ?_ | refine gsel_nf (by omega) ?_ | refine pick_t (by omega) ?_ | refine pick_f (by omega) ?_ | refine sti_of (fun _ hK => bin_eql hK) ?_ | refine sti_of (fun _ hK => bin_neq hK) ?_ | refine sti_of (fun _ hK => bin_lss hK) ?_ | refine sti_of (fun _ hK => bin_leq hK) ?_ | refine sti_of (fun _ hK => bin_gtr hK) ?_ | refine sti_of (fun _ hK => bin_geq hK) ?_ | refine sti_of (fun _ hK => add64 (by omega) (by omega) hK) ?_ | refine sti_of (fun _ hK => sub64 (by omega) (by omega) hK) ?_ | refine sti_of (fun _ hK => un_notD hK) ?_ | refine sti_of (fun _ hK => len8 hK) ?_ | refine sti_of (fun _ hK => pick_T hK) ?_ | refine sti_of (fun _ hK => pick_F hK) ?_))
    have bd : Below w11.heap.size w11 w11.drew := (Below.refl _ w11).drew
    have o11d := OB.below o11 bd (Nat.le_refl _)
    refine sti_of (fun K hK => fA_Step_3 hK) ?_
    refine sti_of (fun K hK => ldC8 (v := .slice a8 v.2.1 c8) (by rw [hx11.drew.cell]; rfl) hK) ?_
    refine sti_of (fun K hK => fA_Step_3 hK) ?_
    refine sti_of (fun K hK => ldC8 (v := .slice a8 v.2.1 c8) (by rw [hx11.drew.cell]; rfl) hK) ?_
    refine sti_of (fun K hK => idxB o11d (by omega) fun _ => hK) ?_
    refine sti_of (fun K hK => ld8 (o11d.rb.cellB hxn) hK) ?_
    refine sti_of (fun K hK => bin_xor hK) ?_
    refine sti_of (fun K hK => idxB o11d (by omega) fun _ => hK) ?_
    refine stoZ o11d hxn (xor8_val _ _) ?_
    intro w12 g l2 hga hgB hgl hgb o12 oth
    obtain ⟨gcs, hgb⟩ := hgb
    have hg8 : g < w8.heap.size := by
      cases ha : a8 with
      | none => exfalso; have := RV.nil_ o11.rb ha; omega
      | some ad => rw [← hga ad ha]; exact (OV.block o8 ad.block (by rw [ha]; rfl)).2
    (repeat (first | refine bin_eql ?_ | refine bin_neq ?_ | refine bin_lss ?_ | refine bin_leq ?_ | refine bin_gtr ?_ | refine bin_geq ?_ | refine add64 (by omega) (by omega) ?_ | refine sub64 (by omega) (by omega) ?_ | refine ext_a ?_ | refine ext_b ?_ | refine ext3_a ?_ | refine ext3_b ?_ | refine ext3_c ?_ | refine un_notD ?_ | refine mul64 (by omega) (by omega) ?_ | refine cvIU (by omega) (by omega) ?_ | refine cvIUint (by omega) (by omega) ?_ | refine cvUI (by omega) (by omega) ?_ | refine cvBU (by omega) (by omega) ?_ | refine len8 ?_ | refine len36 ?_ | refine pick_T ?_ | refine pick_F ?_ | refine cond_T ?_ | refine cond_F ?_ | refine cond_t (by omega) ?_ | refine cond_f (by omega) ?_ | refine gsel_T ?_ | refine gsel_F ?_ | refine gsel_Tn ?_ | refine gsel_Fn ?_ | refine gsel_U ?_ | refine gsel_pt (by omega) ?_ | refine gsel_pf (by omega) ?_ | refine gsel_nt (by omega) ?_ | refine gsel_nf (by omega) ?_ | refine pick_t (by omega) ?_ | refine pick_f (by omega) ?_ | refine sti_of (fun _ hK => bin_eql hK) ?_ | refine sti_of (fun _ hK => bin_neq hK) ?_ | refine sti_of (fun _ hK => bin_lss hK) ?_ | refine sti_of (fun _ hK => bin_leq hK) ?_ | refine sti_of (fun _ hK => bin_gtr hK) ?_ | refine sti_of (fun _ hK => bin_geq hK) ?_ | refine sti_of (fun _ hK => add64 (by omega) (by omega) hK) ?_ | refine sti_of (fun _ hK => sub64 (by omega) (by omega) hK) ?_ | refine sti_of (fun _ hK => un_notD hK) ?_ | refine sti_of (fun _ hK => len8 hK) ?_ | refine sti_of (fun _ hK => pick_T hK) ?_ | refine sti_of (fun _ hK => pick_F hK) ?_))
    refine ⟨⟨x + 1, l2, by simp, by omega, oth.blk hx11.drew (by omega), o12, (hd11.below bd).keepZ (KeepZ.oth oth (by omega) hgb), (hr11.below bd).oth oth hgb, (hb11.drew).trans (oth.below.mono (by omega))⟩, by rw [hm2]; simp only [intOf]; omega⟩
  have : x = v.2.1 := by omega
  subst this
  (repeat (first | refine bin_eql ?_ | refine bin_neq ?_ | refine bin_lss ?_ | refine bin_leq ?_ | refine bin_gtr ?_ | refine bin_geq ?_ | refine add64 (by omega) (by omega) ?_ | refine sub64 (by omega) (by omega) ?_ | refine ext_a ?_ | refine ext_b ?_ | refine ext3_a ?_ | refine ext3_b ?_ | refine ext3_c ?_ | refine un_notD ?_ | refine mul64 (by omega) (by omega) ?_ | refine cvIU (by omega) (by omega) ?_ | refine cvIUint (by omega) (by omega) ?_ | refine cvUI (by omega) (by omega) ?_ | refine cvBU (by omega) (by omega) ?_ | refine len8 ?_ | refine len36 ?_ | refine pick_T ?_ | refine pick_F ?_ | refine cond_T ?_ | refine cond_F ?_ | refine cond_t (by omega) ?_ | refine cond_f (by omega) ?_ | refine gsel_T ?_ | refine gsel_F ?_ | refine gsel_Tn ?_ | refine gsel_Fn ?_ | refine gsel_U ?_ | refine gsel_pt (by omega) ?_ | refine gsel_pf (by omega) ?_ | refine gsel_nt (by omega) ?_ | refine gsel_nf (by omega) ?_ | refine pick_t (by omega) ?_ | refine pick_f (by omega) ?_ | refine sti_of (fun _ hK => bin_eql hK) ?_ | refine sti_of (fun _ hK => bin_neq hK) ?_ | refine sti_of (fun _ hK => bin_lss hK) ?_ | refine sti_of (fun _ hK => bin_leq hK) ?_ | refine sti_of (fun _ hK => bin_gtr hK) ?_ | refine sti_of (fun _ hK => bin_geq hK) ?_ | refine sti_of (fun _ hK => add64 (by omega) (by omega) hK) ?_ | refine sti_of (fun _ hK => sub64 (by omega) (by omega) hK) ?_ | refine sti_of (fun _ hK => un_notD hK) ?_ | refine sti_of (fun _ hK => len8 hK) ?_ | refine sti_of (fun _ hK => pick_T hK) ?_ | refine sti_of (fun _ hK => pick_F hK) ?_))
  clear hm2
  refine leatlaw04_DiskPlays_P3_r ?_
  refine hReg_of (fun x => STC x [.int .i64 L[j].d, .int .i64 L[j].f, .int .i64 L[j].n, slv v, slv pv] L[j] ∧ ∀ (jj : Nat) (u : Value), [Value.int .i64 L[j].d, .int .i64 L[j].f, .int .i64 L[j].n, slv v, slv pv][jj]? = some u → x.cell? ⟨b, o + j * 5 + jj, none⟩ = some u) (up hb11.drew) ?_
  refine hld_of (fun x hx K hK => idxRow (s := 5) Try.underlying22 (fun _ => by kernel_rfl) (by omega) (by omega) hK) ?_
  rw [Int.toNat_natCast]
  refine hld_of (fun x hx K hK => ldStep hx.1 hx.2 hK) ?_
  refine refers_c (hr11.below ((Below.refl _ w11).drew)) (up hb11.drew).1 (by omega) ?_
  intro w12 hr12 K12
  have hd12 : DK (fun _ => True) w12 w1.heap.size p (stepS D L[j]).1 := (((hd11.below ((Below.refl _ w11).drew)).keep K12 (by decide) (by decide) (by decide) (by decide))).mono (fun _ _ _ => trivial) (fun _ _ => trivial)
  have hb12 : Below w1.heap.size w1 w12 := hb11.drew.trans ((K12.below (by have := RK.lt hr11; exact Nat.le_of_lt this)).mono (by omega))
  obtain ⟨la, ln, lc, hq12, hf1, hf2, hB12, hrow, hok12⟩ := id hr12
  have hln : (stepS D L[j]).1.loose.length = ln := by obtain ⟨css, _, _, hh, _⟩ := hrow; exact hh
  generalize hD' : (stepS D L[j]).1 = D' at *
  generalize hE' : (stepS D L[j]).2 = E' at *
  refine hSub_of (fun x => (STC x [.int .i64 L[j].d, .int .i64 L[j].f, .int .i64 L[j].n, slv v, slv pv] L[j] ∧ ∀ (jj : Nat) (u : Value), [Value.int .i64 L[j].d, .int .i64 L[j].f, .int .i64 L[j].n, slv v, slv pv][jj]? = some u → x.cell? ⟨b, o + j * 5 + jj, none⟩ = some u) ∧
    blk x q 40 [sv D'.sure.1, sv D'.sure.2, .slice la ln lc, .bool D'.off, .int .i64 D'.fuse]) (fun x hx => hx.1) ⟨up hb12, hq12⟩ ?_
  refine hld_of (fun x hx K hK => bin_neq hK) ?_
  have hne : asB (.bool (decide (E' ≠ E'))) = some false := by simp [asB]
  refine hG_t hne (fun x hx K hK => hK) ?_
  refine hG_t hne (fun x hx K hK => hK) ?_
  refine hG_t hne (fun x hx K hK => nilC_p hK) ?_
  refine hG_t hne (fun x hx K hK => fA_RDisk_2 hK) ?_
  refine hG_t hne (fun x hx K hK => ld1x (.bool D'.off) (fun _ => by kernel_rfl) hx.2 rfl hK) ?_
  refine xG_t hne ?_
  refine power_c hd12 ?_
  refine hSub_same ⟨up hb12, hq12⟩ ?_
  refine hG_t (x := .bool false) hne (fun x hx K hK => bin_eqlB (by rw [show ((!D'.off) == D'.off) = false by cases D'.off <;> rfl]; exact hK) Try.underlying4) ?_
  refine hld_of (fun x hx K hK => pick_f (by simp) hK) ?_
  refine hG_t rfl (fun x hx K hK => hK) ?_
  refine hG_t rfl (fun x hx K hK => hK) ?_
  refine hG_t rfl (fun x hx K hK => nilC_p hK) ?_
  refine hG_t rfl (fun x hx K hK => fA_RDisk_1 hK) ?_
  refine hG_t rfl (fun x hx K hK => ld1x (.slice la ln lc) (fun _ => by kernel_rfl) hx.2 rfl hK) ?_
  refine hG_t rfl (fun x hx K hK => len_slc Try.underlying38 hK) ?_
  refine xG_t rfl ?_
  refine loose_c hd12 ?_
  refine hSub_same ⟨up hb12, hq12⟩ ?_
  rw [hln]
  refine hG_t (x := .bool false) rfl (fun x hx K hK => bin_neq (by simpa using hK)) ?_
  refine hld_of (fun x hx K hK => pick_F hK) ?_
  refine cond_F ?_
  refine bldI [0, 1, fl] rfl rfl (by simp) (by simp) ?_
  intro a13 w13 hi13 b13
  have S12 := hb12.size
  have hd13 := hd12.below b13
  have hr13 := hr12.below b13
  have hb13 : Below w1.heap.size w1 w13 := hb12.trans (b13.mono (by omega))
  refine leatlaw04_DiskPlays_L3_r (Inv := fun k _ _ _ wr => ∃ x : Nat, x ≤ 3 ∧ k = .int .i64 (x : Nat) ∧ DK (fun _ => True) wr w1.heap.size p D' ∧ RK wr w2.heap.size q D' ∧ RI wr a13 3 3 [0, 1, fl] ∧ Below w1.heap.size w1 wr)
    (μ := fun k _ _ _ _ => 3 - (intOf k).toNat) ⟨0, by omega, rfl, hd13, hr13, hi13, hb13⟩ ?_
  rintro _ _ _ _ _ w14 m3 ⟨x, hx, rfl, hd14, hr14, hi14, hb14⟩ hm3
  have S14 := hb14.size
  by_cases hx3 : x < 3
  · (repeat (first | refine lenI' ?_ | refine bin_eql ?_ | refine bin_neq ?_ | refine bin_lss ?_ | refine bin_leq ?_ | refine bin_gtr ?_ | refine bin_geq ?_ | refine add64 (by omega) (by omega) ?_ | refine sub64 (by omega) (by omega) ?_ | refine ext_a ?_ | refine ext_b ?_ | refine ext3_a ?_ | refine ext3_b ?_ | refine ext3_c ?_ | refine un_notD ?_ | refine mul64 (by omega) (by omega) ?_ | refine cvIU (by omega) (by omega) ?_ | refine cvIUint (by omega) (by omega) ?_ | refine cvUI (by omega) (by omega) ?_ | refine cvBU (by omega) (by omega) ?_ | refine len8 ?_ | refine len36 ?_ | refine pick_T ?_ | refine pick_F ?_ | refine cond_T ?_ | refine cond_F ?_ | refine cond_t (by omega) ?_ | refine cond_f (by omega) ?_ | refine gsel_T ?_ | refine gsel_F ?_ | refine gsel_Tn ?_ | refine gsel_Fn ?_ | refine gsel_U ?_ | refine gsel_pt (by omega) ?_ | refine gsel_pf (by omega) ?_ | refine gsel_nt (by omega) ?_ | refine gsel_nf (by omega) ?_ | refine pick_t (by omega) ?_ | refine pick_f (by omega) ?_ | refine sti_of (fun _ hK => bin_eql hK) ?_ | refine sti_of (fun _ hK => bin_neq hK) ?_ | refine sti_of (fun _ hK => bin_lss hK) ?_ | refine sti_of (fun _ hK => bin_leq hK) ?_ | refine sti_of (fun _ hK => bin_gtr hK) ?_ | refine sti_of (fun _ hK => bin_geq hK) ?_ | refine sti_of (fun _ hK => add64 (by omega) (by omega) hK) ?_ | refine sti_of (fun _ hK => sub64 (by omega) (by omega) hK) ?_ | refine sti_of (fun _ hK => un_notD hK) ?_ | refine sti_of (fun _ hK => len8 hK) ?_ | refine sti_of (fun _ hK => pick_T hK) ?_ | refine sti_of (fun _ hK => pick_F hK) ?_))
    refine idxI hi14 (by omega) (by omega) ?_
    intro hc
    rw [Int.toNat_natCast] at *
    obtain ⟨fx, hfx⟩ : ∃ fx, ([0, 1, fl] : List Int).getD x 0 = fx := ⟨_, rfl⟩
    rw [hfx] at hc
    refine ldI hc ?_
    refine read_c hd14 ?_
    intro a15 n15 c15 w15 o15 b15
    (repeat (first | refine bin_eql ?_ | refine bin_neq ?_ | refine bin_lss ?_ | refine bin_leq ?_ | refine bin_gtr ?_ | refine bin_geq ?_ | refine add64 (by omega) (by omega) ?_ | refine sub64 (by omega) (by omega) ?_ | refine ext_a ?_ | refine ext_b ?_ | refine ext3_a ?_ | refine ext3_b ?_ | refine ext3_c ?_ | refine un_notD ?_ | refine mul64 (by omega) (by omega) ?_ | refine cvIU (by omega) (by omega) ?_ | refine cvIUint (by omega) (by omega) ?_ | refine cvUI (by omega) (by omega) ?_ | refine cvBU (by omega) (by omega) ?_ | refine len8 ?_ | refine len36 ?_ | refine pick_T ?_ | refine pick_F ?_ | refine cond_T ?_ | refine cond_F ?_ | refine cond_t (by omega) ?_ | refine cond_f (by omega) ?_ | refine gsel_T ?_ | refine gsel_F ?_ | refine gsel_Tn ?_ | refine gsel_Fn ?_ | refine gsel_U ?_ | refine gsel_pt (by omega) ?_ | refine gsel_pf (by omega) ?_ | refine gsel_nt (by omega) ?_ | refine gsel_nf (by omega) ?_ | refine pick_t (by omega) ?_ | refine pick_f (by omega) ?_ | refine sti_of (fun _ hK => bin_eql hK) ?_ | refine sti_of (fun _ hK => bin_neq hK) ?_ | refine sti_of (fun _ hK => bin_lss hK) ?_ | refine sti_of (fun _ hK => bin_leq hK) ?_ | refine sti_of (fun _ hK => bin_gtr hK) ?_ | refine sti_of (fun _ hK => bin_geq hK) ?_ | refine sti_of (fun _ hK => add64 (by omega) (by omega) hK) ?_ | refine sti_of (fun _ hK => sub64 (by omega) (by omega) hK) ?_ | refine sti_of (fun _ hK => un_notD hK) ?_ | refine sti_of (fun _ hK => len8 hK) ?_ | refine sti_of (fun _ hK => pick_T hK) ?_ | refine sti_of (fun _ hK => pick_F hK) ?_))
    have hi15 := hi14.below b15 (Nat.le_refl _)
    refine idxI hi15 (by omega) (by omega) ?_
    intro hc2
    rw [Int.toNat_natCast] at *
    rw [hfx] at hc2
    refine ldI hc2 ?_
    refine rread_c (hr14.below b15) ?_
    intro w16 b16
    have o16 := OB.below o15 b16 (Nat.le_refl _)
    have hn15 := hd14.readLen fx
    rw [o16.len] at hn15
    have S15 := b15.size
    have S16 := b16.size
    (repeat (first | refine leatlaw04_DiskPlays_P1_r ?_ | refine leatlaw04_DiskPlays_P2_r ?_ | refine leatlaw04_DiskPlays_P3_r ?_ | refine leatlaw04_DiskPlays_P4_r ?_ | refine leatlaw04_DiskPlays_A1_r ?_ | refine bin_eql ?_ | refine bin_neq ?_ | refine bin_lss ?_ | refine bin_leq ?_ | refine bin_gtr ?_ | refine bin_geq ?_ | refine add64 (by omega) (by omega) ?_ | refine sub64 (by omega) (by omega) ?_ | refine ext_a ?_ | refine ext_b ?_ | refine ext3_a ?_ | refine ext3_b ?_ | refine ext3_c ?_ | refine un_notD ?_ | refine mul64 (by omega) (by omega) ?_ | refine cvIU (by omega) (by omega) ?_ | refine cvIUint (by omega) (by omega) ?_ | refine cvUI (by omega) (by omega) ?_ | refine cvBU (by omega) (by omega) ?_ | refine len8 ?_ | refine len36 ?_ | refine pick_T ?_ | refine pick_F ?_ | refine cond_T ?_ | refine cond_F ?_ | refine cond_t (by omega) ?_ | refine cond_f (by omega) ?_ | refine gsel_T ?_ | refine gsel_F ?_ | refine gsel_Tn ?_ | refine gsel_Fn ?_ | refine gsel_U ?_ | refine gsel_pt (by omega) ?_ | refine gsel_pf (by omega) ?_ | refine gsel_nt (by omega) ?_ | refine gsel_nf (by omega) ?_ | refine pick_t (by omega) ?_ | refine pick_f (by omega) ?_ | refine sti_of (fun _ hK => bin_eql hK) ?_ | refine sti_of (fun _ hK => bin_neq hK) ?_ | refine sti_of (fun _ hK => bin_lss hK) ?_ | refine sti_of (fun _ hK => bin_leq hK) ?_ | refine sti_of (fun _ hK => bin_gtr hK) ?_ | refine sti_of (fun _ hK => bin_geq hK) ?_ | refine sti_of (fun _ hK => add64 (by omega) (by omega) hK) ?_ | refine sti_of (fun _ hK => sub64 (by omega) (by omega) hK) ?_ | refine sti_of (fun _ hK => un_notD hK) ?_ | refine sti_of (fun _ hK => len8 hK) ?_ | refine sti_of (fun _ hK => pick_T hK) ?_ | refine sti_of (fun _ hK => pick_F hK) ?_))
    refine str8 o16.rb ?_
    refine bin_neqS ?_
    refine gsel_nf (fun hh => hh rfl) ?_
    refine bin_neq ?_
    refine pick_f (fun hh => hh rfl) ?_
    refine cond_f (fun hh => hh rfl) ?_
    (repeat (first | refine leatlaw04_DiskPlays_P1_r ?_ | refine leatlaw04_DiskPlays_P2_r ?_ | refine leatlaw04_DiskPlays_P3_r ?_ | refine leatlaw04_DiskPlays_P4_r ?_ | refine leatlaw04_DiskPlays_A1_r ?_ | refine bin_eql ?_ | refine bin_neq ?_ | refine bin_lss ?_ | refine bin_leq ?_ | refine bin_gtr ?_ | refine bin_geq ?_ | refine add64 (by omega) (by omega) ?_ | refine sub64 (by omega) (by omega) ?_ | refine ext_a ?_ | refine ext_b ?_ | refine ext3_a ?_ | refine ext3_b ?_ | refine ext3_c ?_ | refine un_notD ?_ | refine mul64 (by omega) (by omega) ?_ | refine cvIU (by omega) (by omega) ?_ | refine cvIUint (by omega) (by omega) ?_ | refine cvUI (by omega) (by omega) ?_ | refine cvBU (by omega) (by omega) ?_ | refine len8 ?_ | refine len36 ?_ | refine pick_T ?_ | refine pick_F ?_ | refine cond_T ?_ | refine cond_F ?_ | refine cond_t (by omega) ?_ | refine cond_f (by omega) ?_ | refine gsel_T ?_ | refine gsel_F ?_ | refine gsel_Tn ?_ | refine gsel_Fn ?_ | refine gsel_U ?_ | refine gsel_pt (by omega) ?_ | refine gsel_pf (by omega) ?_ | refine gsel_nt (by omega) ?_ | refine gsel_nf (by omega) ?_ | refine pick_t (by omega) ?_ | refine pick_f (by omega) ?_ | refine sti_of (fun _ hK => bin_eql hK) ?_ | refine sti_of (fun _ hK => bin_neq hK) ?_ | refine sti_of (fun _ hK => bin_lss hK) ?_ | refine sti_of (fun _ hK => bin_leq hK) ?_ | refine sti_of (fun _ hK => bin_gtr hK) ?_ | refine sti_of (fun _ hK => bin_geq hK) ?_ | refine sti_of (fun _ hK => add64 (by omega) (by omega) hK) ?_ | refine sti_of (fun _ hK => sub64 (by omega) (by omega) hK) ?_ | refine sti_of (fun _ hK => un_notD hK) ?_ | refine sti_of (fun _ hK => len8 hK) ?_ | refine sti_of (fun _ hK => pick_T hK) ?_ | refine sti_of (fun _ hK => pick_F hK) ?_))
    have hd16 := (hd14.below b15).below b16
    refine leatlaw04_DiskPlays_L4_r (Inv := fun k wr => ∃ (y : Nat) (l' : List UInt8), k = .int .i64 (y : Nat) ∧ y ≤ n15 ∧ OB wr w14.heap.size a15 n15 c15 l' ∧ Below w14.heap.size w14 wr)
      (μ := fun k _ => n15 - (intOf k).toNat) ⟨0, _, rfl, by omega, o16, b15.trans (b16.mono S15)⟩ ?_
    rintro _ _ w17 m4 ⟨y, l', rfl, hy, o17, b17⟩ hm4
    by_cases hyn : y < n15
    · (repeat (first | refine bin_eql ?_ | refine bin_neq ?_ | refine bin_lss ?_ | refine bin_leq ?_ | refine bin_gtr ?_ | refine bin_geq ?_ | refine add64 (by omega) (by omega) ?_ | refine sub64 (by omega) (by omega) ?_ | refine ext_a ?_ | refine ext_b ?_ | refine ext3_a ?_ | refine ext3_b ?_ | refine ext3_c ?_ | refine un_notD ?_ | refine mul64 (by omega) (by omega) ?_ | refine cvIU (by omega) (by omega) ?_ | refine cvIUint (by omega) (by omega) ?_ | refine cvUI (by omega) (by omega) ?_ | refine cvBU (by omega) (by omega) ?_ | refine len8 ?_ | refine len36 ?_ | refine pick_T ?_ | refine pick_F ?_ | refine cond_T ?_ | refine cond_F ?_ | refine cond_t (by omega) ?_ | refine cond_f (by omega) ?_ | refine gsel_T ?_ | refine gsel_F ?_ | refine gsel_Tn ?_ | refine gsel_Fn ?_ | refine gsel_U ?_ | refine gsel_pt (by omega) ?_ | refine gsel_pf (by omega) ?_ | refine gsel_nt (by omega) ?_ | refine gsel_nf (by omega) ?_ | refine pick_t (by omega) ?_ | refine pick_f (by omega) ?_ | refine sti_of (fun _ hK => bin_eql hK) ?_ | refine sti_of (fun _ hK => bin_neq hK) ?_ | refine sti_of (fun _ hK => bin_lss hK) ?_ | refine sti_of (fun _ hK => bin_leq hK) ?_ | refine sti_of (fun _ hK => bin_gtr hK) ?_ | refine sti_of (fun _ hK => bin_geq hK) ?_ | refine sti_of (fun _ hK => add64 (by omega) (by omega) hK) ?_ | refine sti_of (fun _ hK => sub64 (by omega) (by omega) hK) ?_ | refine sti_of (fun _ hK => un_notD hK) ?_ | refine sti_of (fun _ hK => len8 hK) ?_ | refine sti_of (fun _ hK => pick_T hK) ?_ | refine sti_of (fun _ hK => pick_F hK) ?_))
      refine idxB o17 hyn ?_
      intro hc3
      refine ld8 hc3 ?_
      refine bin_xor ?_
      refine idxB o17 hyn ?_
      intro _
      refine stoZ o17 hyn (xor8_val _ _) ?_
      intro w18 g l2 hga hgB hgl hgb o18 oth
      (repeat (first | refine bin_eql ?_ | refine bin_neq ?_ | refine bin_lss ?_ | refine bin_leq ?_ | refine bin_gtr ?_ | refine bin_geq ?_ | refine add64 (by omega) (by omega) ?_ | refine sub64 (by omega) (by omega) ?_ | refine ext_a ?_ | refine ext_b ?_ | refine ext3_a ?_ | refine ext3_b ?_ | refine ext3_c ?_ | refine un_notD ?_ | refine mul64 (by omega) (by omega) ?_ | refine cvIU (by omega) (by omega) ?_ | refine cvIUint (by omega) (by omega) ?_ | refine cvUI (by omega) (by omega) ?_ | refine cvBU (by omega) (by omega) ?_ | refine len8 ?_ | refine len36 ?_ | refine pick_T ?_ | refine pick_F ?_ | refine cond_T ?_ | refine cond_F ?_ | refine cond_t (by omega) ?_ | refine cond_f (by omega) ?_ | refine gsel_T ?_ | refine gsel_F ?_ | refine gsel_Tn ?_ | refine gsel_Fn ?_ | refine gsel_U ?_ | refine gsel_pt (by omega) ?_ | refine gsel_pf (by omega) ?_ | refine gsel_nt (by omega) ?_ | refine gsel_nf (by omega) ?_ | refine pick_t (by omega) ?_ | refine pick_f (by omega) ?_ | refine sti_of (fun _ hK => bin_eql hK) ?_ | refine sti_of (fun _ hK => bin_neq hK) ?_ | refine sti_of (fun _ hK => bin_lss hK) ?_ | refine sti_of (fun _ hK => bin_leq hK) ?_ | refine sti_of (fun _ hK => bin_gtr hK) ?_ | refine sti_of (fun _ hK => bin_geq hK) ?_ | refine sti_of (fun _ hK => add64 (by omega) (by omega) hK) ?_ | refine sti_of (fun _ hK => sub64 (by omega) (by omega) hK) ?_ | refine sti_of (fun _ hK => un_notD hK) ?_ | refine sti_of (fun _ hK => len8 hK) ?_ | refine sti_of (fun _ hK => pick_T hK) ?_ | refine sti_of (fun _ hK => pick_F hK) ?_))
      exact ⟨⟨y + 1, l2, by simp, by omega, o18, b17.trans (oth.below.mono hgB)⟩, by rw [hm4]; simp only [intOf]; omega⟩
    (repeat (first | refine leatlaw04_DiskPlays_P1_r ?_ | refine leatlaw04_DiskPlays_P2_r ?_ | refine leatlaw04_DiskPlays_P3_r ?_ | refine leatlaw04_DiskPlays_P4_r ?_ | refine leatlaw04_DiskPlays_A1_r ?_ | refine bin_eql ?_ | refine bin_neq ?_ | refine bin_lss ?_ | refine bin_leq ?_ | refine bin_gtr ?_ | refine bin_geq ?_ | refine add64 (by omega) (by omega) ?_ | refine sub64 (by omega) (by omega) ?_ | refine ext_a ?_ | refine ext_b ?_ | refine ext3_a ?_ | refine ext3_b ?_ | refine ext3_c ?_ | refine un_notD ?_ | refine mul64 (by omega) (by omega) ?_ | refine cvIU (by omega) (by omega) ?_ | refine cvIUint (by omega) (by omega) ?_ | refine cvUI (by omega) (by omega) ?_ | refine cvBU (by omega) (by omega) ?_ | refine len8 ?_ | refine len36 ?_ | refine pick_T ?_ | refine pick_F ?_ | refine cond_T ?_ | refine cond_F ?_ | refine cond_t (by omega) ?_ | refine cond_f (by omega) ?_ | refine gsel_T ?_ | refine gsel_F ?_ | refine gsel_Tn ?_ | refine gsel_Fn ?_ | refine gsel_U ?_ | refine gsel_pt (by omega) ?_ | refine gsel_pf (by omega) ?_ | refine gsel_nt (by omega) ?_ | refine gsel_nf (by omega) ?_ | refine pick_t (by omega) ?_ | refine pick_f (by omega) ?_ | refine sti_of (fun _ hK => bin_eql hK) ?_ | refine sti_of (fun _ hK => bin_neq hK) ?_ | refine sti_of (fun _ hK => bin_lss hK) ?_ | refine sti_of (fun _ hK => bin_leq hK) ?_ | refine sti_of (fun _ hK => bin_gtr hK) ?_ | refine sti_of (fun _ hK => bin_geq hK) ?_ | refine sti_of (fun _ hK => add64 (by omega) (by omega) hK) ?_ | refine sti_of (fun _ hK => sub64 (by omega) (by omega) hK) ?_ | refine sti_of (fun _ hK => un_notD hK) ?_ | refine sti_of (fun _ hK => len8 hK) ?_ | refine sti_of (fun _ hK => pick_T hK) ?_ | refine sti_of (fun _ hK => pick_F hK) ?_))
    clear hm4
    refine ⟨⟨x + 1, by omega, (show Value.int .i64 ((x : Int) + 1) = _ by simp), hd14.below b17, hr14.below b17, hi14.below b17 (Nat.le_refl _), hb14.trans (b17.mono S14)⟩, by rw [hm3]; show 3 - (intOf (.int .i64 ((x : Int) + 1))).toNat < _; simp only [intOf]; omega⟩
  have : x = 3 := by omega
  subst this
  clear hm3
  (repeat (first | refine lenI' ?_ | refine leatlaw04_DiskPlays_P1_r ?_ | refine leatlaw04_DiskPlays_P2_r ?_ | refine leatlaw04_DiskPlays_P3_r ?_ | refine leatlaw04_DiskPlays_P4_r ?_ | refine leatlaw04_DiskPlays_A1_r ?_ | refine bin_eql ?_ | refine bin_neq ?_ | refine bin_lss ?_ | refine bin_leq ?_ | refine bin_gtr ?_ | refine bin_geq ?_ | refine add64 (by omega) (by omega) ?_ | refine sub64 (by omega) (by omega) ?_ | refine ext_a ?_ | refine ext_b ?_ | refine ext3_a ?_ | refine ext3_b ?_ | refine ext3_c ?_ | refine un_notD ?_ | refine mul64 (by omega) (by omega) ?_ | refine cvIU (by omega) (by omega) ?_ | refine cvIUint (by omega) (by omega) ?_ | refine cvUI (by omega) (by omega) ?_ | refine cvBU (by omega) (by omega) ?_ | refine len8 ?_ | refine len36 ?_ | refine pick_T ?_ | refine pick_F ?_ | refine cond_T ?_ | refine cond_F ?_ | refine cond_t (by omega) ?_ | refine cond_f (by omega) ?_ | refine gsel_T ?_ | refine gsel_F ?_ | refine gsel_Tn ?_ | refine gsel_Fn ?_ | refine gsel_U ?_ | refine gsel_pt (by omega) ?_ | refine gsel_pf (by omega) ?_ | refine gsel_nt (by omega) ?_ | refine gsel_nf (by omega) ?_ | refine pick_t (by omega) ?_ | refine pick_f (by omega) ?_ | refine sti_of (fun _ hK => bin_eql hK) ?_ | refine sti_of (fun _ hK => bin_neq hK) ?_ | refine sti_of (fun _ hK => bin_lss hK) ?_ | refine sti_of (fun _ hK => bin_leq hK) ?_ | refine sti_of (fun _ hK => bin_gtr hK) ?_ | refine sti_of (fun _ hK => bin_geq hK) ?_ | refine sti_of (fun _ hK => add64 (by omega) (by omega) hK) ?_ | refine sti_of (fun _ hK => sub64 (by omega) (by omega) hK) ?_ | refine sti_of (fun _ hK => un_notD hK) ?_ | refine sti_of (fun _ hK => len8 hK) ?_ | refine sti_of (fun _ hK => pick_T hK) ?_ | refine sti_of (fun _ hK => pick_F hK) ?_))
  exact ⟨⟨j + 1, D', by omega, (show Value.int .i64 ((j : Int) + 1) = _ by simp), hd14, hr14, by omega, hb14⟩, by rw [hm]; show n0 - (intOf (.int .i64 ((j : Int) + 1))).toNat < _; simp only [intOf]; omega⟩
end

set_option maxRecDepth 100000 in
theorem diskPlays_contract (H : Type) (enc : TypeId × Value → H) (W : World) (base : Nat) (args : Array Value) (ds gs : List (DataW H)) (before : List MemPlace)
    (hval0 : ∀ (j : Nat) t v, Try.f3.params[j]? = some t → args[j]? = some v → Value.okWide Try.prog W .any base t v)
    (hW : DataW.Whole enc Try.prog Try.f3.params.toList Rows.diskPlaysSpec.vars false W args.toList ds gs before) (hk : Rows.uptoSmall H (ds ++ gs) = true) :
    Calls Try.prog 3 args W fun e W' => ∃ v, e = .returned v ∧ Rows.diskPlaysSpec.post enc Try.prog Try.f3 false true false false W args v W' := by
  have hval := hval0
  have hW' := hW
  obtain ⟨p, q, hA0, hV, rfl, hfz, hnd⟩ := hW
  have hA : DataW.TrodAll enc Try.prog W 0 (fun _ => true) true Try.f3.params.toList args.toList ds p := hA0
  rw [Try.params3] at hA hval
  obtain ⟨v0, vs0, d0, ds0, p0, q0, hargs, rfl, rfl, h0, r0⟩ := trodAll_cons hA
  obtain ⟨v1, vs1, d1, ds1, p1, q1, rfl, rfl, rfl, h1, r1⟩ := trodAll_cons r0
  obtain ⟨rfl, rfl, rfl⟩ := trodAll_nil r1
  obtain rfl : args = #[v0, v1] := by cases args; simp_all
  obtain ⟨rfl, rfl⟩ := trodVars_none hV
  obtain ⟨a0, n0, c0, rfl⟩ := okWide_slice Try.underlying22 (hval 0 22 v0 rfl rfl)
  have k0 := h0
  have lt0 : ∀ x ∈ p0, x.block < W.heap.size := by obtain ⟨m, hm⟩ := k0; exact DataW.trod_lt m _ _ _ hm
  obtain ⟨⟨L0, rb0⟩, hle0, hmx0⟩ : (∃ L, RST W a0 n0 c0 L) ∧ n0 ≤ c0 ∧ c0 ≤ 9223372036854775807 := by
    obtain ⟨fuel, hf⟩ := h0
    exact rst_of_trodU (by rfl) hf (by have hq := (of_decide_eq_true hk : Rows.uptoBulkAll _ ≤ 1048576); simp only [List.append_nil, List.nil_append, List.cons_append, Rows.uptoBulkAll] at hq; omega)
  obtain ⟨a1, rfl, rfl, rfl, w1⟩ := open_int Try.underlying3 (hval 1 3 v1 rfl rfl) h1
  have hx1 : -9223372036854775808 ≤ a1 ∧ a1 ≤ 9223372036854775807 := by simpa [Lit.wf, IntKind.min, IntKind.max, IntKind.signed, IntKind.bits] using w1
  have hsm : Rows.uptoBulkAll ([d0, (.lit (.int .i64 a1))] ++ []) ≤ 1048576 := of_decide_eq_true hk
  simp only [List.append_nil, List.nil_append, List.cons_append, Rows.uptoBulkAll] at hsm
  clear hA0 hval0 hval
  have hcalls : Calls Try.prog 3 #[.slice a0 n0 c0, .int .i64 a1] W fun e w' => e = .returned (.bool true) ∧ Below W.heap.size W w' := by
    exact calls_of (plays_law rb0 (by omega) (fun w' hb' => ⟨rfl, hb'⟩))
  refine hcalls.mono fun e W' ⟨he, bel⟩ => ?_
  subst he
  exact ⟨_, rfl, _, _, _, [], _, [], hW', trodAll_mk1 (shut_bool Try.underlying4 _), (trodAll_cons_mk (Below.trod frame_laid (by kernel_rfl) (of_decide_eq_true (by kernel_rfl)) k0 bel lt0) (trodAll_cons_mk (shut_int Try.underlying3 w1) trodAll_mk0)), rfl, bel.frame _, fun h => by cases h⟩

set_option maxRecDepth 100000 in
theorem diskPlays_lifted (os : Os) (started : os.Started) (H : Type) (enc : TypeId × Value → H) (F : Stop.Interp) :
    ReturnsInHanded {} Try.checked os 3 .any ((Rows.OpenSpec.upto Rows.diskPlaysSpec).pre6 enc Try.prog Try.f3 Rows.diskPlaysUptoRow.domain false) (((Rows.OpenSpec.upto Rows.diskPlaysSpec).at F).post enc Try.prog Try.f3 false true false false) := by
  refine returnsInHanded_of_cond (C := Try.checked) (s := Rows.OpenSpec.upto Rows.diskPlaysSpec) (k := Rows.uptoSmall) rfl frame_own started (by kernel_rfl) Try.func3
    (OpenSpec.witness (enc := enc) (C := Try.checked) (s := Rows.OpenSpec.upto Rows.diskPlaysSpec) (k := Rows.uptoSmall) rfl false ⟨#[], #[.slice none 0 0, .int .i64 0], []⟩ 8 (by kernel_rfl) (by kernel_rfl) (by kernel_rfl)
      (x := ([.nil, (.lit (.int .i64 0))], [], [])) (by kernel_rfl) rfl (by kernel_rfl)) ?_
  intro W base args ds gs before hval hW _ hk _
  exact diskPlays_contract H enc W base args ds gs before hval hW hk

theorem diskPlays_proved : Rows.DiskPlaysUptoSaid :=
  OpenClaim.holds_of_cond 3 Try.f3 rfl rfl rfl rfl rfl rfl rfl ⟨rfl, rfl, rfl, rfl, rfl⟩ rfl rfl rfl rfl rfl (by kernel_rfl) Try.func3 (by kernel_rfl)
    (of_decide_eq_true (by kernel_rfl)) (by unfold Func.isWrapper; first | (rw [if_pos (by decide +kernel)]; kernel_rfl) | (rw [if_neg (by decide +kernel)]; exact ⟨rfl, rfl⟩))
    (fun os started H enc _ F => diskPlays_lifted os started H enc F)

end Go.Proofs.Ytjkmblbonambjaa
