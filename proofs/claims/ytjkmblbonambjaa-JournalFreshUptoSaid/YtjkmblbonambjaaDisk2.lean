/- The contracts of the disk's small functions, and of what a change does. -/
import Derived.Test.YtjkmblbonambjaaDisk
namespace Go.Proofs.Ytjkmblbonambjaa
set_option maxRecDepth 100000
open Go.RowKit
attribute [local irreducible] bin un conv call callV blt slc fldA fld idxA idx lkp mUpd mEnt eSt rng nxt ent ext alc box bld bldS ld sto nilC mkMap mkS ifc pick rdy wts gsel sti cond retM Gives cCode cGrp cSeq cOp
variable {Z : Nat → Prop}

def burn (D : DS) : Bool × DS := if D.fuse = 0 then (true, { D with off := true, fuse := -1 }) else if D.fuse < 0 then (false, D) else (false, { D with fuse := D.fuse - 1 })

theorem DH.oth [G : Guard] {w w' : World} {B p : Nat} {E : TypeId} {cs : List Value} {sure : Fls} {loose : List Chg} {s0 s1 n0 n1 : Option Addr × Nat × Nat} {la : Option Addr} {ln lc : Nat} (h : DH Z w B sure loose s0 s1 n0 n1 la ln lc)
    (ho : Oth p w w') (hb : blk w p E cs) (h1 : E ≠ 5) (h2 : E ≠ 3) (h3 : E ≠ 90) (hp : ¬ G.prot p) : DH Z w' B sure loose s0 s1 n0 n1 la ln lc :=
  h.keep (ho.kg (T := [E]) (B := p) hb (by simp) (Nat.le_refl _) hp) (by simpa using Ne.symm h1) (by simpa using Ne.symm h2) (by simpa using Ne.symm h3)

theorem off_c [G : Guard] {B p : Nat} {D : DS} {w : World} {K : KV} (hd : DK Z w B p D) (h : ∀ w', DK Z w' B p { D with off := true, fuse := -1 } → Kg [70] p w w' → K (.tuple #[]) w') :
    call Try.prog 28 #[ptr p] K w := by
  obtain ⟨s0, s1, n0, n1, la, ln, lc, fz, hb, e1, e2, e3, e4, hh⟩ := hd
  refine call_of disk_Disk_Off_go (disk_Disk_Off_in ?_)
  (repeat (first | refine neP_nil ?_ | refine nilC_p ?_ | refine fA_Disk_3 ?_ | refine cond_T ?_))
  refine sto1 size_bool hb (by simp) rfl ?_
  intro w1 hb1 ho1
  have hb1 : blk w1 p _ [slv s0, slv s1, slv n0, slv n1, .slice la ln lc, .bool true, .bool (decide (0 ≤ D.fuse)), .int .i64 fz] := hb1
  (repeat (first | refine nilC_p ?_ | refine fA_Disk_4 ?_))
  refine sto1 size_bool hb1 (by simp) rfl ?_
  intro w2 hb2 ho2
  refine h w2 ⟨s0, s1, n0, n1, la, ln, lc, fz, hb2, (fun h => by simp at h), by simp, by simp, e4, ?_⟩ ((ho1.kg hb (by simp) (Nat.le_refl _) e4.2).trans (ho2.kg hb1 (by simp) (Nat.le_refl _) e4.2))
  exact (hh.oth ho1 hb (by decide) (by decide) (by decide) e4.2).oth ho2 hb1 (by decide) (by decide) (by decide) e4.2

theorem off_nil [G : Guard] {w : World} {K : KV} (h : K (.tuple #[]) w) : call Try.prog 28 #[.pointer none] K w := by
  refine call_of disk_Disk_Off_go (disk_Disk_Off_in ?_)
  (repeat (first | refine neP_none ?_ | refine cond_F ?_))
  exact h

theorem burns_c [G : Guard] {B p : Nat} {D : DS} {w : World} {K : KV} (hd : DK Z w B p D) (h : ∀ w', DK Z w' B p (burn D).2 → Kg [70] p w w' → K (.bool (burn D).1) w') :
    call Try.prog 58 #[ptr p] K w := by
  have hd0 := hd
  obtain ⟨s0, s1, n0, n1, la, ln, lc, fz, hb, e1, e2, e3, e4, hh⟩ := hd
  refine call_of disk_Disk_burns_go (disk_Disk_burns_in ?_)
  by_cases hf : 0 ≤ D.fuse
  · have e1 := e1 hf
    subst e1
    (repeat (first | refine nilC_p ?_ | refine fA_Disk_4 ?_ | refine fA_Disk_5 ?_ | (refine ld_DL_0 ?_ (by assumption) ?_ ?_; rotate_left; exact rfl) | (refine ld_DL_1 ?_ (by assumption) ?_ ?_; rotate_left; exact rfl) | refine bin_eql ?_ | refine un_notD ?_ | refine cond_f (by omega) ?_))
    by_cases h0 : D.fuse = 0
    · have hbn : burn D = (true, { D with off := true, fuse := -1 }) := by simp [burn, h0]
      rw [hbn] at h
      (repeat (first | refine cond_t (by omega) ?_))
      refine off_c hd0 fun w' hd' hk => ?_
      exact h w' hd' hk
    · have hbn : burn D = (false, { D with fuse := D.fuse - 1 }) := by unfold burn; rw [if_neg h0, if_neg (by omega)]
      rw [hbn] at h
      (repeat (first | refine nilC_p ?_ | refine fA_Disk_5 ?_ | (refine ld_DL_0 ?_ (by assumption) ?_ ?_; rotate_left; exact rfl) | refine sub64 (by omega) (by omega) ?_ | refine cond_f (by omega) ?_))
      refine sto1 size_int hb (by simp) rfl ?_
      intro w1 hb1 ho1
      refine h w1 ⟨s0, s1, n0, n1, la, ln, lc, D.fuse - 1, ?_, fun _ => rfl, ?_, ?_, e4, hh.oth ho1 hb (by decide) (by decide) (by decide) e4.2⟩ (ho1.kg hb (by simp) (Nat.le_refl _) e4.2)
      · have hb1 : blk w1 p _ [slv s0, slv s1, slv n0, slv n1, .slice la ln lc, .bool D.off, .bool (decide (0 ≤ D.fuse)), .int .i64 (D.fuse - 1)] := hb1
        rw [show decide (0 ≤ D.fuse) = decide (0 ≤ D.fuse - 1) from decide_eq_decide.2 (by omega)] at hb1
        exact hb1
      · show -1 ≤ D.fuse - 1; omega
      · show D.fuse - 1 ≤ 9223372036854775807; omega
  · have hbn : burn D = (false, D) := by unfold burn; rw [if_neg (by omega), if_pos (by omega)]
    rw [hbn] at h
    (repeat (first | refine nilC_p ?_ | refine fA_Disk_4 ?_ | (refine ld_DL_1 ?_ (by assumption) ?_ ?_; rotate_left; exact rfl) | refine un_notD ?_ | refine cond_t (by omega) ?_))
    exact h w hd0 (Kg.refl _ _ _)

theorem fuse_c [G : Guard] {B p : Nat} {D : DS} {w : World} {K : KV} {n : Int} (hd : DK Z w B p D) (h1 : -9223372036854775808 ≤ n ∧ n ≤ 9223372036854775807) (h : ∀ w', DK Z w' B p { D with fuse := if 0 ≤ n then n else -1 } → Kg [70] p w w' → K (.tuple #[]) w') :
    call Try.prog 22 #[ptr p, .int .i64 n] K w := by
  obtain ⟨s0, s1, n0, n1, la, ln, lc, fz, hb, e1, e2, e3, e4, hh⟩ := hd
  refine call_of disk_Disk_Fuse_go (disk_Disk_Fuse_in ?_)
  (repeat (first | refine neP_nil ?_ | refine nilC_p ?_ | refine fA_Disk_4 ?_ | refine bin_geq ?_ | refine cond_T ?_))
  refine sto1 size_bool hb (by simp) rfl ?_
  intro w1 hb1 ho1
  have hb1 : blk w1 p _ [slv s0, slv s1, slv n0, slv n1, .slice la ln lc, .bool D.off, .bool (decide (0 ≤ n)), .int .i64 fz] := hb1
  (repeat (first | refine nilC_p ?_ | refine fA_Disk_5 ?_))
  refine sto1 size_int hb1 (by simp) rfl ?_
  intro w2 hb2 ho2
  have hb2 : blk w2 p _ [slv s0, slv s1, slv n0, slv n1, .slice la ln lc, .bool D.off, .bool (decide (0 ≤ n)), .int .i64 n] := hb2
  refine h w2 ⟨s0, s1, n0, n1, la, ln, lc, n, ?_, ?_, ?_, ?_, e4, ?_⟩ ((ho1.kg hb (by simp) (Nat.le_refl _) e4.2).trans (ho2.kg hb1 (by simp) (Nat.le_refl _) e4.2))
  · by_cases hn : 0 ≤ n
    · simp only [hn, if_true]; simp only [hn] at hb2; exact hb2
    · simp only [hn, if_false]; simp only [hn] at hb2; exact hb2
  · by_cases hn : 0 ≤ n <;> simp [hn]
  · show -1 ≤ (if 0 ≤ n then n else -1); split <;> omega
  · show (if 0 ≤ n then n else -1) ≤ 9223372036854775807; split <;> omega
  exact (hh.oth ho1 hb (by decide) (by decide) (by decide) e4.2).oth ho2 hb1 (by decide) (by decide) (by decide) e4.2

theorem fuse_nil [G : Guard] {w : World} {K : KV} {n : Int} (h : K (.tuple #[]) w) : call Try.prog 22 #[.pointer none, .int .i64 n] K w := by
  refine call_of disk_Disk_Fuse_go (disk_Disk_Fuse_in ?_)
  (repeat (first | refine neP_none ?_ | refine cond_F ?_))
  exact h

theorem power_c [G : Guard] {B p : Nat} {D : DS} {w : World} {K : KV} (hd : DK Z w B p D) (h : K (.bool (!D.off)) w) : call Try.prog 15 #[ptr p] K w := by
  obtain ⟨s0, s1, n0, n1, la, ln, lc, fz, hb, e1, e2, e3, e4, hh⟩ := hd
  refine call_of disk_Disk_Power_go (disk_Disk_Power_in ?_)
  (repeat (first | refine neP_nil ?_ | refine nilC_p ?_ | refine fA_Disk_3 ?_ | (refine ld_DL_1 ?_ (by assumption) ?_ ?_; rotate_left; exact rfl) | refine gsel_T ?_))
  refine un_not ?_
  (repeat (first | refine pick_T ?_))
  exact h
theorem power_nil [G : Guard] {w : World} {K : KV} (h : K (.bool false) w) : call Try.prog 15 #[.pointer none] K w := by
  refine call_of disk_Disk_Power_go (disk_Disk_Power_in ?_)
  (repeat (first | refine neP_none ?_ | refine pick_F ?_ | refine gsel_F ?_))
  exact h

theorem loose_c [G : Guard] {B p : Nat} {D : DS} {w : World} {K : KV} (hd : DK Z w B p D) (h : K (.int .i64 (D.loose.length : Nat)) w) : call Try.prog 16 #[ptr p] K w := by
  obtain ⟨s0, s1, n0, n1, la, ln, lc, fz, hb, e1, e2, e3, e4, hh⟩ := hd
  obtain ⟨css, ho, _, c1, c2, hc⟩ := hh.row
  rw [c2] at h
  refine call_of disk_Disk_Loose_go (disk_Disk_Loose_in ?_)
  (repeat (first | refine eqP_nil ?_ | refine nilC_p ?_ | refine fA_Disk_2 ?_ | (refine ld_DL_3 ?_ (by assumption) ?_ ?_; rotate_left; exact rfl) | refine cond_F ?_))
  refine len_slc Try.underlying68 ?_
  exact h
theorem loose_nil [G : Guard] {w : World} {K : KV} (h : K (.int .i64 0) w) : call Try.prog 16 #[.pointer none] K w := by
  refine call_of disk_Disk_Loose_go (disk_Disk_Loose_in ?_)
  (repeat (first | refine eqP_none ?_ | refine cond_T ?_))
  exact h

theorem known_c {f : Int} {w : World} {K : KV} (h : K (.bool (decide (f = 0 ∨ f = 1))) w) : call Try.prog 41 #[.int .i64 f] K w := by
  refine call_of disk_known_go (disk_known_in ?_)
  by_cases h0 : f = 0
  · subst h0
    (repeat (first | refine bin_eql ?_ | refine pick_T ?_ | refine gsel_Tn ?_))
    exact h
  · by_cases h1 : f = 1
    · subst h1; (repeat (first | refine bin_eql ?_ | refine pick_F ?_ | refine gsel_Fn ?_)); exact h
    · (repeat (first | refine bin_eql ?_ | refine gsel_nf (by omega) ?_ | refine pick_f (by omega) ?_))
      rw [show decide (f = 0 ∨ f = 1) = false by simp [h0, h1]] at h
      rw [show ((gd [Value.int IntKind.i64 f, Value.bool (decide (f = 1))] 1)) = Value.bool false by simp [gd, h1]]
      exact h

theorem idxF {w : World} {K : KV} {b o : Nat} {f : Bool} (h : K (.pointer (some ⟨b, o + (fi f).toNat * 1, none⟩)) w) : idxA Try.prog 67 (.pointer (some ⟨b, o, none⟩)) (.int .i64 (fi f)) K w :=
  idxArr Try.underlying67 size_sl (by cases f <;> decide) (by cases f <;> decide) h
theorem idxF0 [G : Guard] {w : World} {K : KV} {b o : Nat} (h : K (.pointer (some ⟨b, o, none⟩)) w) : idxA Try.prog 67 (.pointer (some ⟨b, o, none⟩)) (.int .i64 0) K w := idxF (f := false) h
theorem idxF1 [G : Guard] {w : World} {K : KV} {b o : Nat} (h : K (.pointer (some ⟨b, o + 1, none⟩)) w) : idxA Try.prog 67 (.pointer (some ⟨b, o, none⟩)) (.int .i64 1) K w := idxF (f := true) h

theorem RV.full {w : World} {a : Option Addr} {n c : Nat} {xs : List Value} (h : RV w a n c xs) : RV w a n n xs := ⟨h.len, Nat.le_refl _, h.some_, fun ha => ⟨(h.nil_ ha).1, (h.nil_ ha).1⟩, h.cell⟩

theorem set_same {l : List Value} {i : Nat} {v : Value} (h : l[i]? = some v) : l.set i v = l := by
  apply List.ext_getElem?
  intro j
  rw [List.getElem?_set]
  split
  · rename_i e; subst e; rw [h]; split
    · rfl
    · have := (List.getElem?_eq_some_iff.1 h).1; omega
  · rfl

/-- Bytes are put behind a file's. -/
theorem append1_c [G : Guard] {f : Bool} {w : World} {K : KV} {g o q : Nat} {E : TypeId} {gs : List Value} {v x : Option Addr × Nat × Nat} {m l : List UInt8} (hq : blk w q 3 [.int .i64 (fi f)]) (hg : blk w g E gs)
    (h0 : gs[o + (fi f).toNat * 1]? = some (slv x)) (t0 : TB Z w x m) (hv : TB Z w v l) (hsz : m.length + l.length ≤ 140737488355328)
    (h : ∀ w' y, blk w' g E (gs.set (o + (fi f).toNat * 1) (slv y)) → TB Z w' y (m ++ l) → Kg [E] g w w' → K (.tuple #[]) w') (hE : E ≠ 5) (hZ : ∀ b, w.heap.size ≤ b → Z b) (hG : ¬ G.prot g) :
    call Try.prog 57 #[.pointer (some ⟨g, o, none⟩), slv v, ptr q] K w := by
  have hx := t0.len
  have hvl := hv.len
  obtain ⟨i, hi, hz, hs, hby⟩ := info_parts info_u8
  refine call_of disk_Disk_Append_1_go (disk_Disk_Append_1_in ?_)
  refine hReg_of (fun w => blk w g E gs ∧ blk w q 3 [.int .i64 (fi f)]) ⟨hg, hq⟩ ?_
  repeat (first | refine hld_of (fun w hw K hK => ld1 (fun _ => by kernel_rfl) hw.2 rfl hK) ?_ | refine hld_of (fun w hw K hK => nilC_p hK) ?_ | refine hld_of (fun w hw K hK => idxF hK) ?_ | refine hld_of (fun w hw K hK => ld1 (fun _ => by kernel_rfl) hw.1 h0 hK) ?_ | refine hld_of (fun w hw K hK => len8 hK) ?_ | refine hld_of (fun w hw K hK => slc3 Try.underlying29 size_u8 (Nat.le_refl _) t0.rb.cap hK) ?_)
  refine app_full (w := w.drew) Try.underlying29 hi hz hs hby rfl (RV.full t0.drew.rb.rv) hv.drew.rb.rv (by omega) (by omega) ?_
  intro a' c' w1 hcase hbel
  have hk1 : Kg [E] g w w1 := (Kg.of (w := w.drew) hbel).undrew
  have hg1 : blk w1 g E gs := below_blk hbel hg.drew hg.lt
  have hq1 : blk w1 q 3 [.int .i64 (fi f)] := below_blk hbel hq.drew hq.lt
  refine hSub_same ⟨hg1, hq1⟩ ?_
  refine hld_of (fun w hw K hK => idxF hK) ?_
  refine sto1 size_sl hg1 (List.getElem?_eq_some_iff.1 h0).1 rfl ?_
  intro w2 hg2 ho2
  have hk2 : Kg [E] g w1 w2 := ho2.kg hg1 (by simp) (Nat.le_refl _) hG
  refine h w2 (a', x.2.1 + v.2.1, c') hg2 ?_ (hk1.trans hk2)
  refine TB.keep (T := [E]) (B := g) ?_ hk2 (by simpa using Ne.symm hE)
  rcases hcase with ⟨rfl, rfl, hm⟩ | ⟨zs, hb, hc, rfl⟩
  · have hl : l = [] := List.eq_nil_of_length_eq_zero (by rw [hvl]; exact hm)
    subst hl
    rw [hm, Nat.add_zero, List.append_nil]
    have := (t0.cut (m := x.2.1) (q := x.2.1) (Nat.le_refl _) (Nat.le_refl _) t0.rb.cap).keep hk1 (by simpa using Ne.symm hE)
    rw [List.take_of_length_le (by omega)] at this
    exact this
  · refine TB.of_blk hb ?_ (by simp; omega) (by omega) (hZ _ (Nat.le_refl _))
    rw [← List.map_append, List.take_append_of_le_length (by simp; omega), List.take_of_length_le (by simp; omega)]

/-- A file's first bytes are left alone. -/
theorem cut1_c [G : Guard] {f : Bool} {w : World} {K : KV} {g o q r n : Nat} {E : TypeId} {gs : List Value} {v x : Option Addr × Nat × Nat} {m : List UInt8} (hq : blk w q 3 [.int .i64 (fi f)]) (hr : blk w r 3 [.int .i64 (n : Nat)]) (hg : blk w g E gs)
    (h0 : gs[o + (fi f).toNat * 1]? = some (slv x)) (t0 : TB Z w x m) (hn : n ≤ m.length)
    (h : ∀ w' y, blk w' g E (gs.set (o + (fi f).toNat * 1) (slv y)) → TB Z w' y (m.take n) → Kg [E] g w w' → K (.tuple #[]) w') (hE : E ≠ 5) (hG : ¬ G.prot g) :
    call Try.prog 60 #[.pointer (some ⟨g, o, none⟩), slv v, ptr q, ptr r] K w := by
  have hx := t0.len
  have hcap := t0.rb.cap
  refine call_of disk_Disk_Cut_1_go (disk_Disk_Cut_1_in ?_)
  have hq' : blk w.drew q 3 [.int .i64 (fi f)] := hq
  have hr' : blk w.drew r 3 [.int .i64 (n : Nat)] := hr
  have hg' : blk w.drew g E gs := hg
  repeat (first | refine sti_of (fun K hK => ld1 (fun _ => by kernel_rfl) hq' rfl hK) ?_ | refine sti_of (fun K hK => ld1 (fun _ => by kernel_rfl) hr' rfl hK) ?_ | refine sti_of (fun K hK => nilC_p hK) ?_ | refine sti_of (fun K hK => idxF hK) ?_ | refine sti_of (fun K hK => ld1 (fun _ => by kernel_rfl) hg' h0 hK) ?_ | refine sti_of (fun K hK => slc3 Try.underlying29 size_u8 (Nat.le_refl _) (by omega) hK) ?_)
  refine sto1 size_sl hg' (List.getElem?_eq_some_iff.1 h0).1 rfl ?_
  intro w2 hg2 ho2
  have hk2 : Kg [E] g w w2 := (ho2.kg (w := w.drew) hg' (by simp) (Nat.le_refl _) hG).undrew
  refine h w2 (x.1, n, n) hg2 ?_ hk2
  exact (t0.cut (by omega) (Nat.le_refl _) (by omega)).keep hk2 (by simpa using Ne.symm hE)

/-- The file 1 takes the place of the file 0. -/
theorem rename1_c [G : Guard] {w : World} {K : KV} {g o : Nat} {E : TypeId} {gs : List Value} {v x0 x1 : Option Addr × Nat × Nat} (hg : blk w g E gs)
    (h0 : gs[o]? = some (slv x0)) (h1 : gs[o + 1]? = some (slv x1))
    (h : ∀ w', blk w' g E ((gs.set o (slv x1)).set (o + 1) (slv (none, 0, 0))) → Kg [E] g w w' → K (.tuple #[]) w') (hG : ¬ G.prot g) :
    call Try.prog 59 #[.pointer (some ⟨g, o, none⟩), slv v] K w := by
  refine call_of disk_Disk_Rename_1_go (disk_Disk_Rename_1_in ?_)
  refine hReg_of (fun w => ∃ gs : List Value, blk w g E gs ∧ gs[o + 1]? = some (slv x1)) ⟨gs, hg, h1⟩ ?_
  repeat (first | refine hld_of (fun w hw K hK => nilC_p hK) ?_ | refine hld_of (fun w hw K hK => idxF1 hK) ?_ | refine hld_of (fun w hw K hK => idxF0 hK) ?_ | refine hld_of (fun w hw K hK => let ⟨gs, hg, h1⟩ := hw; ld1 (fun _ => by kernel_rfl) hg h1 hK) ?_)
  have hg' : blk w.drew g E gs := hg
  refine sto1 size_sl hg' (List.getElem?_eq_some_iff.1 h0).1 rfl ?_
  intro w1 hg1 ho1
  refine hSub_same ⟨_, hg1, by rw [List.getElem?_set_ne (by omega)]; exact h1⟩ ?_
  refine hld_of (fun w hw K hK => idxF1 hK) ?_
  refine sto1 size_sl hg1 (by have := (List.getElem?_eq_some_iff.1 h1).1; simpa using this) rfl ?_
  intro w2 hg2 ho2
  exact h w2 hg2 ((ho1.kg (w := w.drew) hg' (by simp) (Nat.le_refl _) hG).undrew.trans (ho2.kg hg1 (by simp) (Nat.le_refl _) hG))

/-- A change with these bytes. -/
def Chg.with (c : Chg) (b : List UInt8) : Chg := match c with | .app f _ => .app f b | c => c

theorem does_c [G : Guard] {c : Chg} {w : World} {K : KV} {g o : Nat} {E : TypeId} {gs : List Value} {fv bv tv : Value} {v x0 x1 : Option Addr × Nat × Nat} {F : Fls} {l : List UInt8} (hc : CH Z w c [fv, bv, tv]) (hg : blk w g E gs)
    (h0 : gs[o]? = some (slv x0)) (h1 : gs[o + 1]? = some (slv x1)) (t0 : TB Z w x0 F.1) (t1 : TB Z w x1 F.2) (hv : TB Z w v l) (hok : (c.with l).ok F)
    (h : ∀ w' y0 y1, blk w' g E ((gs.set o (slv y0)).set (o + 1) (slv y1)) → TB Z w' y0 ((c.with l).on F).1 → TB Z w' y1 ((c.with l).on F).2 → Kg [E] g w w' → K (.tuple #[]) w') (hE : E ≠ 5) (hZ : ∀ b, w.heap.size ≤ b → Z b) (hG : ¬ G.prot g) :
    callV Try.prog fv #[.pointer (some ⟨g, o, none⟩), slv v] K w := by
  have hE' : 5 ∉ [E] := by simpa using Ne.symm hE
  cases c with
  | app f b =>
    obtain ⟨q, v', e, hq, hv'⟩ := hc
    cases e
    have hok : tot F + l.length ≤ 4194304 := hok
    simp only [tot] at hok
    refine callV_of (all := #[.pointer (some ⟨g, o, none⟩), slv v, ptr q]) rfl ?_
    cases f with
    | false =>
      refine append1_c (f := false) hq hg h0 t0 hv (by omega) ?_ hE hZ hG
      intro w' y hb ty hk
      have hb : blk w' g E (gs.set o (slv y)) := hb
      refine h w' y x1 ?_ ty (t1.keep hk hE') hk
      rw [set_same (l := gs.set o (slv y)) (by rw [List.getElem?_set_ne (by omega)]; exact h1)]; exact hb
    | true =>
      refine append1_c (f := true) hq hg h1 t1 hv (by omega) ?_ hE hZ hG
      intro w' y hb ty hk
      have hb : blk w' g E (gs.set (o + 1) (slv y)) := hb
      refine h w' x0 y ?_ (t0.keep hk hE') ty hk
      rw [set_same h0]; exact hb
  | cut f n =>
    obtain ⟨q, r, e, hq, hr⟩ := hc
    cases e
    have hok : n ≤ (fget F f).length := hok
    refine callV_of (all := #[.pointer (some ⟨g, o, none⟩), slv v, ptr q, ptr r]) rfl ?_
    cases f with
    | false =>
      refine cut1_c (f := false) hq hr hg h0 t0 hok ?_ hE hG
      intro w' y hb ty hk
      have hb : blk w' g E (gs.set o (slv y)) := hb
      refine h w' y x1 ?_ ty (t1.keep hk hE') hk
      rw [set_same (l := gs.set o (slv y)) (by rw [List.getElem?_set_ne (by omega)]; exact h1)]; exact hb
    | true =>
      refine cut1_c (f := true) hq hr hg h1 t1 hok ?_ hE hG
      intro w' y hb ty hk
      have hb : blk w' g E (gs.set (o + 1) (slv y)) := hb
      refine h w' x0 y ?_ (t0.keep hk hE') ty hk
      rw [set_same h0]; exact hb
  | ren =>
    cases hc
    refine callV_of (all := #[.pointer (some ⟨g, o, none⟩), slv v]) rfl ?_
    refine rename1_c hg h0 h1 (fun w' hb hk => ?_) hG
    exact h w' x1 (none, 0, 0) hb (t1.keep hk hE') (TB.nil w') hk
end Go.Proofs.Ytjkmblbonambjaa
