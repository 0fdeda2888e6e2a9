/- The contract of On: what is sure, and the first of what is loose. -/
import Derived.Test.YtjkmblbonambjaaDisk4
namespace Go.Proofs.Ytjkmblbonambjaa
set_option maxRecDepth 100000
open Go.RowKit
attribute [local irreducible] bin un conv call callV blt slc fldA fld idxA idx lkp mUpd mEnt eSt rng nxt ent ext alc box bld bldS ld sto nilC mkMap mkS ifc pick rdy wts gsel sti cond retM Gives cCode cGrp cSeq cOp
variable {Z : Nat → Prop}

/-- A slice of numbers. -/
def RI (w : World) (a : Option Addr) (n c : Nat) (l : List Int) : Prop := RV w a n c (l.map (Value.int .i64))
theorem RI.len {w : World} {a : Option Addr} {n c : Nat} {l : List Int} (h : RI w a n c l) : l.length = n := by simpa using RV.len h
theorem RI.below {w w' : World} {B : Nat} {a : Option Addr} {n c : Nat} {l : List Int} (h : RI w a n c l) (hb : Below B w w') (hB : w.heap.size ≤ B) : RI w' a n c l := RV.below h hb hB

theorem idxI [G : Guard] {w : World} {K : KV} {av : Option Addr} {n c : Nat} {k : IntKind} {iv : Int} {l : List Int} (hr : RI w av n c l) (h0 : 0 ≤ iv) (h1 : iv < n)
    (h : w.cell? (slotA av iv.toNat) = some (.int .i64 (l.getD iv.toNat 0)) → K (.pointer (some (slotA av iv.toNat))) w) :
    idxA Try.prog 30 (.slice av n c) (.int k iv) K w := by
  refine idx_slc Try.underlying30 size_int h0 h1 (RV.some_ hr) (h ?_)
  have hl : iv.toNat < l.length := by rw [hr.len]; omega
  rw [RV.cell hr iv.toNat (.int .i64 (l[iv.toNat])) (by simp [List.getElem?_map, List.getElem?_eq_getElem hl])]
  simp [List.getD, hl]
theorem ldI {w : World} {K : KV} {ad : Addr} {v : Value} (hc : w.cell? ad = some v) (h : K v w) : ld Try.prog 3 (.pointer (some ad)) K w :=
  ld_cell (fun _ => by kernel_rfl) hc h

def pickS (l : List Int) (i : Nat) (among : Int) : Int := if l.length ≤ i then 0 else if l.getD i 0 < 0 then 0 else l.getD i 0 % among

theorem pick_c [G : Guard] {w : World} {K : KV} {a : Option Addr} {n c : Nat} {l : List Int} {i : Nat} {among : Int} (hr : RI w a n c l) (ha : 0 < among) (h : K (.int .i64 (pickS l i among)) w) :
    call Try.prog 55 #[.slice a n c, .int .i64 (i : Nat), .int .i64 among] K w := by
  have hl := hr.len
  refine call_of disk_pick_go (disk_pick_in ?_)
  refine len_slc Try.underlying30 ?_
  by_cases h1 : l.length ≤ i
  · rw [show pickS l i among = 0 by simp [pickS, h1]] at h
    (repeat (first | refine bin_geq ?_ | refine cond_T ?_ | refine gsel_nt (by omega) ?_ | refine pick_t (by omega) ?_))
    exact h
  (repeat (first | refine bin_geq ?_ | refine gsel_nf (by omega) ?_))
  refine idxI hr (by omega) (by omega) ?_
  intro hc
  refine ldI hc ?_
  by_cases h2 : l.getD i 0 < 0
  · rw [show pickS l i among = 0 by unfold pickS; rw [if_neg h1, if_pos h2]] at h
    (repeat (first | refine bin_lss ?_ | refine pick_f (by omega) ?_))
    refine cond_t h2 ?_
    exact h
  rw [show pickS l i among = l.getD i 0 % among by unfold pickS; rw [if_neg h1, if_neg h2]] at h
  (repeat (first | refine bin_lss ?_ | refine pick_f (by omega) ?_))
  refine cond_f h2 ?_
  refine idxI hr (by omega) (by omega) ?_
  intro hc
  refine ldI hc ?_
  refine rem_nn (show 0 ≤ l.getD i 0 by omega) ha ?_
  exact h

theorem pickS_lt (l : List Int) (i : Nat) {among : Int} (h : 0 < among) : 0 ≤ pickS l i among ∧ pickS l i among < among := by
  unfold pickS
  split
  · omega
  · split
    · omega
    · exact ⟨Int.emod_nonneg _ (by omega), Int.emod_lt_of_pos _ h⟩

def onS (D : DS) (picks : List Int) : DS × Int :=
  if D.off = false then (D, 3) else
    let k := (pickS picks 0 (D.loose.length + 1)).toNat
    let F := runs (D.loose.take k) D.sure
    (⟨match D.loose[k]? with | some (.app f b) => (Chg.app f (b.take (pickS picks 1 (b.length + 1)).toNat)).on F | _ => F, [], false, -1⟩, 0)

theorem flat3 : ∀ (css : List (List Value)) (i : Nat) (cs : List Value), (∀ x ∈ css, x.length = 3) → css[i]? = some cs → (css.flatten.drop (i * 3)).take 3 = cs := by
  intro css
  induction css with
  | nil => intro i cs _ h; simp at h
  | cons x css ih =>
    intro i cs hx h
    have h3 := hx x (List.mem_cons_self ..)
    cases i with
    | zero => simp at h; subst h; simp [List.take_append, h3, List.take_of_length_le (show x.length ≤ 3 by omega)]
    | succ i =>
      have := ih i cs (fun y hy => hx y (List.mem_cons_of_mem _ hy)) (by simpa using h)
      rw [← this, List.flatten_cons, List.drop_append, show (i + 1) * 3 = x.length + i * 3 by omega, List.drop_of_length_le (by omega), List.nil_append, Nat.add_sub_cancel_left]

theorem okAll_get : ∀ {l : List Chg} {F : Fls} {i : Nat} {c : Chg}, okAll l F → l[i]? = some c → c.ok (runs (l.take i) F) ∧ tot (runs (l.take i) F) ≤ 4194304 := by
  intro l
  induction l with
  | nil => intro F i c _ h; simp at h
  | cons d l ih =>
    intro F i c h hc
    cases i with
    | zero => simp at hc; subst hc; exact ⟨h.2.1, h.1⟩
    | succ i => exact ih h.2.2 (by simpa using hc)

theorem CH.parts [G : Guard] {w : World} {c : Chg} {cs : List Value} (h : CH Z w c cs) : ∃ fv v l tb, cs = [fv, slv v, .bool tb] ∧ TB Z w v l ∧ fv.oneCell' = true ∧ (tb = true → ∃ f, c = .app f l) ∧ (tb = false → ∀ f b, c ≠ .app f b) := by
  cases c with
  | app f b => obtain ⟨q, v, e, _, hv⟩ := h; exact ⟨_, v, b, true, e, hv, rfl, fun _ => ⟨f, rfl⟩, fun h => by cases h⟩
  | cut f n => obtain ⟨q, r, e, _⟩ := h; exact ⟨_, (none, 0, 0), [], false, e, TB.nil w, rfl, (fun h => by cases h), fun _ f b h => by cases h⟩
  | ren => exact ⟨_, (none, 0, 0), [], false, h, TB.nil w, rfl, (fun h => by cases h), fun _ f b h => by cases h⟩

/-- The element i of the row of loose changes. -/
theorem LR.get [G : Guard] {w : World} {B : Nat} {a : Option Addr} {n c : Nat} {l : List Chg} (h : LR Z w B a n c l) (i : Nat) (hi : i < n) :
    ∃ g cur ch cs, a = some ⟨g, 0, none⟩ ∧ blk w g 90 cur ∧ (cur.drop (i * 3)).take 3 = cs ∧ l[i]? = some ch ∧ CH Z w ch cs ∧ i < l.length := by
  obtain ⟨css, ho, _, c1, c2, hc⟩ := h
  rcases ho.2 with ⟨hv, hn⟩ | ⟨g, cap, cur, hv, _, hh, hnc, hm, hs, ht⟩
  · omega
  · cases hv
    have hil : i < l.length := by omega
    have hic : i < css.length := by omega
    have hch := hc i l[i] css[i] (List.getElem?_eq_getElem hil) (List.getElem?_eq_getElem hic)
    refine ⟨g, cur.toList, l[i], css[i], rfl, hh, ?_, List.getElem?_eq_getElem hil, hch, hil⟩
    have h3 : ∀ x ∈ css, x.length = 3 := by
      intro x hx
      obtain ⟨j, hj, rfl⟩ := List.getElem_of_mem hx
      have := hc j l[j] css[j] (List.getElem?_eq_getElem (by omega)) (List.getElem?_eq_getElem hj)
      obtain ⟨fv, v, tb, e, _⟩ := this.shape
      rw [e]; rfl
    have hf := flat3 css i css[i] h3 (List.getElem?_eq_getElem hic)
    rw [← ht] at hf
    rw [List.drop_take, List.take_take] at hf
    rw [show min 3 (n * 3 - i * 3) = 3 by omega] at hf
    exact hf

abbrev TF : TypeId := 67

theorem on_end [G : Guard] {B p q : Nat} {w : World} {K : KV} {y0 y1 : Option Addr × Nat × Nat} {F : Fls} {cs : List Value} (hq : blk w q TF [slv y0, slv y1]) (hb : blk w p 70 cs) (hc : cs.length = 8) (hB : B ≤ p ∧ ¬ G.prot p) (t0 : TB Z w y0 F.1) (t1 : TB Z w y1 F.2) (hF : tot F ≤ 4194304) (hZ : ∀ b, w.heap.size ≤ b → Z b) (hG : ∀ b, w.heap.size ≤ b → ¬ G.prot b)
    (h : ∀ w', DK Z w' B p ⟨F, [], false, -1⟩ → Kg [70] p w w' → K (.int .i64 0) w') :
    ld Try.prog TF (ptr q) (fun t77 w => ld Try.prog TF (ptr q) (fun t78 w => bld Try.prog 70 #[(0, t77), (1, t78)] (fun t79 w => nilC (ptr p) (fun t80 w => sto Try.prog 70 t80 t79 (fun _t w => K (.int .i64 0) w) w) w) w) w) w := by
  refine ldA (n := 2) Try.underlying67 rfl (by kernel_rfl) hq rfl rfl ?_
  refine ldA (n := 2) Try.underlying67 rfl (by kernel_rfl) hq rfl rfl ?_
  refine bld_of (vs := [slv y0, slv y1, slv y0, slv y1, .slice none 0 0, .bool false, .bool false, .int .i64 0]) (by kernel_rfl) ?_
  refine nilC_p ?_
  refine stoA (n := 8) (by kernel_rfl) rfl hb (by omega) (by simp only [List.mem_cons, List.not_mem_nil, or_false]; rintro u (rfl | rfl | rfl | rfl | rfl | rfl | rfl | rfl) <;> rfl) ?_
  intro w2 hb2 ho2
  have hb2 : blk w2 p 70 [slv y0, slv y1, slv y0, slv y1, .slice none 0 0, .bool false, .bool false, .int .i64 0] := by
    rw [List.drop_of_length_le (by omega)] at hb2
    exact hb2
  have hk2 : Kg [70] p w w2 := ho2.kg hb (by simp) (Nat.le_refl _) hB.2
  refine h w2 ⟨y0, y1, y0, y1, none, 0, 0, 0, hb2, (fun h => by simp at h), by simp, by simp, hB, ?_⟩ hk2
  exact ⟨t0.keep hk2 (by decide), t1.keep hk2 (by decide), t0.keep hk2 (by decide), t1.keep hk2 (by decide), LR.nil _ _, hF, fun b hb => hZ b (Nat.le_trans hk2.size hb), fun b hb => hG b (Nat.le_trans hk2.size hb)⟩

set_option maxHeartbeats 2000000 in
theorem on_c [G : Guard] {B p : Nat} {D : DS} {w : World} {K : KV} {a : Option Addr} {n c : Nat} {picks : List Int} (hd : DK Z w B p D) (hr : RI w a n c picks) (hlen : D.loose.length < 4294967296)
    (h : ∀ w', DK Z w' B p (onS D picks).1 → Kg DT B w w' → K (.int .i64 (onS D picks).2) w') : call Try.prog 25 #[ptr p, .slice a n c] K w := by
  obtain ⟨s0, s1, n0, n1, la, ln, lc, fz, hb, e1, e2, e3, e4, hh⟩ := id hd
  refine call_of disk_Disk_On_go (disk_Disk_On_in ?_)
  (repeat (first | refine eqP_nil ?_ | refine nilC_p ?_ | refine fA_Disk_3 ?_ | (refine ld_DL_1 ?_ (by assumption) ?_ ?_; rotate_left; exact rfl) | refine cond_F ?_))
  refine un_not ?_
  by_cases hoff : D.off = false
  · rw [show onS D picks = (D, 3) by simp [onS, hoff]] at h
    simp only [hoff, Bool.not_false]
    (repeat (first | refine cond_T ?_))
    exact h w hd (Kg.refl _ _ _)
  have hoff : D.off = true := by simpa using hoff
  simp only [hoff, Bool.not_true]
  (repeat (first | refine nilC_p ?_ | refine fA_Disk_2 ?_ | (refine ld_DL_3 ?_ (by assumption) ?_ ?_; rotate_left; exact rfl) | refine cond_F ?_))
  have hln : D.loose.length = ln := by obtain ⟨css, ho, _, c1, c2, hc⟩ := hh.row; exact c2
  have hlc : ln ≤ lc := by
    obtain ⟨css, ho, _, c1, c2, hc⟩ := hh.row
    rcases ho.2 with ⟨hv, hn⟩ | ⟨g, cap, cur, hv, _, _, hnc, _⟩
    · cases hv; exact Nat.le_refl _
    · cases hv; exact hnc
  refine len_slc Try.underlying68 ?_
  (repeat (first | refine add64 (by omega) (by omega) ?_))
  refine pick_c (i := 0) hr (by omega) ?_
  generalize hkk : pickS picks 0 ((ln : Int) + 1) = kk
  have hkb := pickS_lt picks 0 (among := (ln : Int) + 1) (by omega)
  rw [hkk] at hkb
  obtain ⟨k, rfl⟩ := Int.eq_ofNat_of_zero_le hkb.1
  have hkn : k ≤ ln := by omega
  (repeat (first | refine nilC_p ?_ | refine fA_Disk_0 ?_))
  refine ldA (n := 2) Try.underlying67 rfl (by kernel_rfl) hb rfl rfl ?_
  refine alc_of (z := .agg #[.slice none 0 0, .slice none 0 0]) (by kernel_rfl) ?_
  intro w1 hf1 hb1 hs1
  have hf1 : blk w1 w.heap.size TF [.slice none 0 0, .slice none 0 0] := hf1
  refine stoA (n := 2) (by kernel_rfl) rfl hf1 (by simp) (by simp only [List.take, List.drop, List.mem_cons, List.not_mem_nil, or_false]; rintro u (rfl | rfl) <;> rfl) ?_
  intro w2 hf2 ho2
  have hf2 : blk w2 w.heap.size TF [slv s0, slv s1] := hf2
  have hb2 : Below w.heap.size w w2 := hb1.trans ho2.below
  have hd2 := hd.below hb2
  (repeat (first | refine disk_Disk_On_A1_r ?_))
  have hp2 := below_blk hb2 hb hb.lt
  (repeat (first | refine nilC_p ?_ | refine fA_Disk_2 ?_ | (refine ld_DL_3 ?_ (by assumption) ?_ ?_; rotate_left; exact rfl)))
  refine slcTo (s := 3) (m := k) Try.underlying68 (fun _ => by kernel_rfl) (by omega) ?_
  refine len_slc Try.underlying68 ?_
  have hdk : ∀ {w3 w4 : World}, Below w.heap.size w w3 → Kg [70] p w3 w4 → Kg DT B w w4 := fun h1 h2 => (Kg.of h1).trans (h2.mono (by simp) e4.1)
  refine disk_Disk_On_L1_r (Inv := fun i wr => ∃ (j : Nat) (y0 y1 : Option Addr × Nat × Nat), i = .int .i64 j ∧ j ≤ k ∧ Below w.heap.size w wr ∧ blk wr w.heap.size TF [slv y0, slv y1] ∧ TB Z wr y0 (runs (D.loose.take j) D.sure).1 ∧ TB Z wr y1 (runs (D.loose.take j) D.sure).2)
    (μ := fun i _ => k - (intOf i).toNat) ⟨0, s0, s1, rfl, by omega, hb2, hf2, (hh.sure0.keep (Kg.of hb2 : Kg [] 0 w w2) (by simp)), (hh.sure1.keep (Kg.of hb2 : Kg [] 0 w w2) (by simp))⟩ ?_
  rintro _ _ w3 m ⟨j, y0, y1, rfl, hj, hb3, hf3, ty0, ty1⟩ hm
  have hd3 := hd.below hb3
  have hp3 := below_blk hb3 hb hb.lt
  have hrow3 := hh.row.keep (Kg.of hb3 : Kg [] 0 w w3) (by simp) (by simp) (by simp)
  by_cases hjk : j < k
  · (repeat (first | refine bin_lss ?_ | refine cond_t (by omega) ?_))
    obtain ⟨g, cur, ch, cs, rfl, hg, hcs, hch, hC, hjl⟩ := hrow3.get j (by omega)
    obtain ⟨fv, v, l, tb, rfl, tv, hfv, hta, htb⟩ := hC.parts
    refine idxRow (s := 3) Try.underlying68 (fun _ => by kernel_rfl) (by omega) (by omega) ?_
    refine ldA (n := 3) (vs := [fv, slv v, .bool tb]) Try.underlying90 rfl (by kernel_rfl) hg (by rw [Nat.zero_add]; exact hcs) rfl ?_
    refine alc_of (z := .agg #[.nilFunc, .slice none 0 0, .bool false]) (by kernel_rfl) ?_
    intro w4 hc4 hb4 hs4
    refine stoA (n := 3) (by kernel_rfl) rfl hc4 (by simp [Value.cells]) (by simp only [List.mem_cons, List.not_mem_nil, or_false]; rintro u (rfl | rfl | rfl) <;> first | exact hfv | rfl) ?_
    intro w5 hc5 ho5
    have hc5 : blk w5 w3.heap.size 90 [fv, slv v, .bool tb] := hc5
    have hb5 : Below w3.heap.size w3 w5 := hb4.trans ho5.below
    have hf5 := below_blk hb5 hf3 hf3.lt
    have hk5 : Kg [] 0 w3 w5 := Kg.of hb5
    (repeat (first | refine fA_change_0 ?_ | refine fA_change_1 ?_ | (refine ld_DL_2 ?_ (by assumption) ?_ ?_; rotate_left; exact rfl) | (refine ld_DL_4 ?_ (by assumption) ?_ ?_; rotate_left; exact rfl)))
    obtain ⟨hcok, htot⟩ := okAll_get hh.ok hch
    obtain ⟨q1, q2⟩ := hC.ok_with tv hcok
    refine does_c (o := 0) (x0 := y0) (x1 := y1) (hC.keep hk5 (by simp) (by simp)) hf5 rfl rfl (ty0.keep hk5 (by simp)) (ty1.keep hk5 (by simp)) (tv.keep hk5 (by simp)) q1 ?_ (by decide) (fun b hb => hh.fresh b (by have e1 := hb3.size; have e2 := hb5.size; omega)) (hh.freshG _ (Nat.le_refl _))
    intro w6 z0 z1 hf6 tz0 tz1 hk6
    rw [q2] at tz0 tz1
    have hb6 : Below w.heap.size w w6 := (hb3.trans (hb5.mono hb3.size)).trans (hk6.below (by have := hf5.lt; omega))
    have htk : runs (D.loose.take (j + 1)) D.sure = ch.on (runs (D.loose.take j) D.sure) := by
      rw [List.take_succ_eq_append_getElem hjl, runs_snoc]
      rw [List.getElem?_eq_getElem hjl] at hch
      cases hch; rfl
    (repeat (first | refine add64 (by omega) (by omega) ?_))
    refine ⟨⟨j + 1, z0, z1, by simp, by omega, hb6, hf6, ?_, ?_⟩, by rw [hm]; simp only [intOf]; omega⟩
    · rw [htk]; exact tz0
    · rw [htk]; exact tz1
  have hjk : j = k := by omega
  subst hjk
  (repeat (first | refine nilC_p ?_ | refine fA_Disk_2 ?_ | (refine ld_DL_3 ?_ (by assumption) ?_ ?_; rotate_left; exact rfl) | refine disk_Disk_On_P1_r ?_ | refine bin_lss ?_ | refine cond_f (by omega) ?_))
  refine len_slc Try.underlying68 ?_
  (repeat (first | refine bin_lss ?_))
  by_cases hjn : j < ln
  · (repeat (first | refine nilC_p ?_ | refine fA_Disk_2 ?_ | (refine ld_DL_3 ?_ (by assumption) ?_ ?_; rotate_left; exact rfl) | refine disk_Disk_On_A2_r ?_ | refine cond_t (by omega) ?_))
    obtain ⟨g, cur, ch, cs, rfl, hg, hcs, hch, hC, hjl⟩ := hrow3.get j (by omega)
    obtain ⟨fv, v, l, tb, rfl, tv, hfv, hta, htb⟩ := hC.parts
    refine idxRow (s := 3) Try.underlying68 (fun _ => by kernel_rfl) (by omega) (by omega) ?_
    refine ldA (n := 3) (vs := [fv, slv v, .bool tb]) Try.underlying90 rfl (by kernel_rfl) hg (by rw [Nat.zero_add]; exact hcs) rfl ?_
    refine alc_of (z := .agg #[.nilFunc, .slice none 0 0, .bool false]) (by kernel_rfl) ?_
    intro w4 hc4 hb4 hs4
    refine stoA (n := 3) (by kernel_rfl) rfl hc4 (by simp [Value.cells]) (by simp only [List.mem_cons, List.not_mem_nil, or_false]; rintro u (rfl | rfl | rfl) <;> first | exact hfv | rfl) ?_
    intro w5 hc5 ho5
    have hc5 : blk w5 w3.heap.size 90 [fv, slv v, .bool tb] := hc5
    have hb5 : Below w3.heap.size w3 w5 := hb4.trans ho5.below
    have hf5 := below_blk hb5 hf3 hf3.lt
    have hk5 : Kg [] 0 w3 w5 := Kg.of hb5
    have hp5 := below_blk hb5 hp3 hp3.lt
    have hb5' : Below w.heap.size w w5 := hb3.trans (hb5.mono hb3.size)
    (repeat (first | refine fA_change_2 ?_ | (refine ld_DL_1 ?_ (by assumption) ?_ ?_; rotate_left; exact rfl)))
    obtain ⟨hcok, htot⟩ := okAll_get hh.ok hch
    cases tb with
    | true =>
      obtain ⟨f, rfl⟩ := hta rfl
      have hcok : tot (runs (D.loose.take j) D.sure) + l.length ≤ 4194304 := hcok
      have hvl := tv.len
      rw [show onS D picks = (⟨(Chg.app f (l.take (pickS picks 1 (l.length + 1)).toNat)).on (runs (D.loose.take j) D.sure), [], false, -1⟩, 0) by
        unfold onS; rw [if_neg (by rw [hoff]; simp)]; simp only [hln, hkk, Int.toNat_natCast, hch]] at h
      (repeat (first | refine cond_T ?_))
      refine hReg_of (fun w' => blk w' w3.heap.size 90 [fv, slv v, .bool true]) hc5 ?_
      refine hld_of (fun w hw K hK => fA_change_0 hK) ?_
      refine hld_of (fun w hw K hK => ld1 (fun _ => by kernel_rfl) hw rfl hK) ?_
      refine hld_of (fun w hw K hK => fA_change_1 hK) ?_
      refine hld_of (fun w hw K hK => ld1 (fun _ => by kernel_rfl) hw rfl hK) ?_
      refine hld_of (fun w hw K hK => fA_change_1 hK) ?_
      refine hld_of (fun w hw K hK => ld1 (fun _ => by kernel_rfl) hw rfl hK) ?_
      refine hld_of (fun w hw K hK => len8 hK) ?_
      refine hld_of (fun w hw K hK => add64 (by omega) (by omega) hK) ?_
      refine pick_c (w := w5.drew) (i := 1) ((RI.below hr hb5' (Nat.le_refl _)).drew) (by omega) ?_
      rw [← hvl]
      have hpb := pickS_lt picks 1 (among := (l.length : Int) + 1) (by omega)
      generalize hpp : pickS picks 1 ((l.length : Int) + 1) = pp at *
      obtain ⟨q, rfl⟩ := Int.eq_ofNat_of_zero_le hpb.1
      have hcap := tv.rb.cap
      refine hSub_same hc5 ?_
      refine hld_of (fun w hw K hK => slcTo (s := 1) (m := q) Try.underlying29 size_u8 (by omega) hK) ?_
      have tvq : TB Z w5 (v.1, q, v.2.2) (l.take q) := (tv.cut (by omega) (by omega) (Nat.le_refl _)).keep hk5 (by simp)
      refine does_c (w := w5.drew) (c := .app f l) (o := 0) (x0 := y0) (x1 := y1) (l := l.take q) (v := (v.1, q, v.2.2)) (hC.keep ((Kg.of hb5 : Kg [] 0 w3 w5).drew) (by simp) (by simp)) hf5.drew rfl rfl (ty0.keep hk5 (by simp)).drew (ty1.keep hk5 (by simp)).drew tvq.drew ?_ ?_ (by decide) (fun b hb => hh.fresh b (by have e1 := hb5'.size; have e2 : w5.drew.heap.size = w5.heap.size := rfl; omega)) (hh.freshG _ (Nat.le_refl _))
      · show tot (runs (D.loose.take j) D.sure) + (l.take q).length ≤ 4194304
        rw [List.length_take]; omega
      intro w6 z0 z1 hf6 tz0 tz1 hk6
      have hk6 : Kg [TF] w.heap.size w5 w6 := hk6.undrew
      have hb6 : Below w.heap.size w w6 := hb5'.trans (hk6.below (by have := hf5.lt; omega))
      have hp6 := below_blk hb6 hb hb.lt
      (repeat (first | refine disk_Disk_On_P2_r ?_))
      refine on_end hf6 hp6 rfl e4 tz0 tz1 (tot_on htot (by show tot (runs (D.loose.take j) D.sure) + (l.take q).length ≤ 4194304; rw [List.length_take]; omega)) (fun b hb => hh.fresh b (by have e1 := hb6.size; omega)) (fun b hb => hh.freshG b (by have e1 := hb6.size; omega)) ?_
      intro w7 hd7 hk7
      exact h w7 hd7 (hdk hb6 hk7)
    | false =>
      have hna := htb rfl
      rw [show onS D picks = (⟨runs (D.loose.take j) D.sure, [], false, -1⟩, 0) by
        unfold onS; rw [if_neg (by rw [hoff]; simp)]; simp only [hln, hkk, Int.toNat_natCast, hch]
        cases ch with
        | app f b => exact absurd rfl (hna f b)
        | _ => rfl] at h
      (repeat (first | refine disk_Disk_On_P2_r ?_ | refine cond_F ?_))
      refine on_end hf5 hp5 rfl e4 (ty0.keep hk5 (by simp)) (ty1.keep hk5 (by simp)) htot (fun b hb => hh.fresh b (by have e1 := hb5'.size; omega)) (fun b hb => hh.freshG b (by have e1 := hb5'.size; omega)) ?_
      intro w7 hd7 hk7
      exact h w7 hd7 (hdk hb5' hk7)
  · have hjl : D.loose.length ≤ j := by omega
    rw [show onS D picks = (⟨runs (D.loose.take j) D.sure, [], false, -1⟩, 0) by
        unfold onS; rw [if_neg (by rw [hoff]; simp)]; simp only [hln, hkk, Int.toNat_natCast, List.getElem?_eq_none hjl]] at h
    (repeat (first | refine disk_Disk_On_P2_r ?_ | refine disk_Disk_On_A2_r ?_ | refine cond_f (by omega) ?_))
    refine on_end hf3 hp3 rfl e4 ty0 ty1 ?_ (fun b hb => hh.fresh b (by have e1 := hb3.size; omega)) (fun b hb => hh.freshG b (by have e1 := hb3.size; omega)) ?_
    · rw [List.take_of_length_le hjl]; exact okAll_now hh.ok
    intro w7 hd7 hk7
    exact h w7 hd7 (hdk hb3 hk7)
end Go.Proofs.Ytjkmblbonambjaa
