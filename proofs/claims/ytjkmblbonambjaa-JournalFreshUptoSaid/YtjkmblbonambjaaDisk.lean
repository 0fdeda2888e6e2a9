/- The disk of the program: what it stands for (what is sure, and a list of changes), and the contracts of its functions. -/
import Derived.Test.YtjkmblbonambjaaSDisk
import Derived.Test.YtjkmblbonambjaaKg
namespace Go.Proofs.Ytjkmblbonambjaa
set_option maxRecDepth 100000
open Go.RowKit

theorem size_bool : ∀ w, (sizeOf 4).run Try.prog w = .ok 1 w := fun _ => by kernel_rfl

variable {Z : Nat → Prop}

/-- A slice of bytes whose block holds bytes, and is one of Z. -/
def TB (Z : Nat → Prop) (w : World) (v : Option Addr × Nat × Nat) (l : List UInt8) : Prop := RB w v.1 v.2.1 v.2.2 l ∧ ∀ ad, v.1 = some ad → Z ad.block ∧ ∃ cs, blk w ad.block 5 cs

theorem TB.rb {w : World} {v : Option Addr × Nat × Nat} {l : List UInt8} (h : TB Z w v l) : RB w v.1 v.2.1 v.2.2 l := h.1
theorem TB.len {w : World} {v : Option Addr × Nat × Nat} {l : List UInt8} (h : TB Z w v l) : l.length = v.2.1 := RB.len h.1
theorem TB.keep [G : Guard] {T : List TypeId} {B : Nat} {w w' : World} {v : Option Addr × Nat × Nat} {l : List UInt8} (h : TB Z w v l) (hk : Kg T B w w') (hT : 5 ∉ T) : TB Z w' v l := by
  refine ⟨⟨RV.len h.1, RV.cap h.1, RV.some_ h.1, RV.nil_ h.1, fun i u hu => ?_⟩, fun ad ha => ?_⟩
  · have hi : i < v.2.1 := by have := (List.getElem?_eq_some_iff.1 hu).1; rw [RV.len h.1] at this; exact this
    obtain ⟨b, o, hbo⟩ := RV.some_ h.1 (by omega)
    obtain ⟨_, cs, hb⟩ := h.2 _ hbo
    have hc := RV.cell h.1 i u hu
    rw [hbo, slotA_some] at hc ⊢
    rw [hb.cell] at hc
    rw [(hk.blk hb (.inr hT)).cell]; exact hc
  · obtain ⟨hz, cs, hb⟩ := h.2 ad ha
    exact ⟨hz, cs, hk.blk hb (.inr hT)⟩
theorem TB.nil (w : World) : TB Z w (none, 0, 0) [] := ⟨RV.nil w, fun ad h => by cases h⟩
theorem TB.of_blk {w : World} {g : Nat} {cs : List Value} {l : List UInt8} {n c : Nat} (h : blk w g 5 cs) (hl : cs.take n = l.map u8v) (hn : l.length = n) (hc : n ≤ c) (hz : Z g) : TB Z w (some ⟨g, 0, none⟩, n, c) l := by
  refine ⟨⟨by simpa using hn, hc, fun _ => ⟨g, 0, rfl⟩, (fun h => by cases h), fun i u hu => ?_⟩, fun ad ha => by cases ha; exact ⟨hz, cs, h⟩⟩
  rw [slotA_some, h.cell, Nat.zero_add]
  have hi : i < n := by have := (List.getElem?_eq_some_iff.1 hu).1; simp at this; omega
  rw [← hl, List.getElem?_take, if_pos hi] at hu
  exact hu
theorem TB.of_ob {w : World} {B : Nat} {a : Option Addr} {n c : Nat} {l : List UInt8} (h : OB w B a n c l) (hZ : ∀ b, B ≤ b → Z b) : TB Z w (a, n, c) l := by
  refine ⟨h.rb, fun ad ha => ?_⟩
  rcases h.2 with ⟨hv, _⟩ | ⟨g, cap, cur, hv, hB, hh, _⟩
  · cases hv; cases ha
  · cases hv; cases ha; exact ⟨hZ _ hB, cur.toList, hh⟩
theorem TB.cut [G : Guard] {w : World} {v : Option Addr × Nat × Nat} {m q : Nat} {l : List UInt8} (h : TB Z w v l) (hm : m ≤ v.2.1) (hmq : m ≤ q) (hq : q ≤ v.2.2) : TB Z w (v.1, m, q) (l.take m) := by
  have hl := h.len
  refine ⟨⟨by simp; omega, hmq, fun h0 => RV.some_ h.1 (Nat.lt_of_lt_of_le h0 hm), fun ha => ?_, fun i u hu => ?_⟩, h.2⟩
  · have := RV.nil_ h.1 ha
    show m = 0 ∧ q = 0
    omega
  · refine RV.cell h.1 i u ?_
    rw [List.map_take, List.getElem?_take] at hu
    split at hu
    · exact hu
    · cases hu
theorem TB.drew {w : World} {v : Option Addr × Nat × Nat} {l : List UInt8} (h : TB Z w v l) : TB Z w.drew v l := ⟨RB.drew h.1, h.2⟩

/-! ## What a disk stands for -/
abbrev Fls := List UInt8 × List UInt8
/-- A change: of the file 0 (false) or 1 (true). -/
inductive Chg where
  | app (f : Bool) (b : List UInt8)
  | cut (f : Bool) (n : Nat)
  | ren
def fget (F : Fls) (f : Bool) : List UInt8 := if f then F.2 else F.1
def fset (F : Fls) (f : Bool) (l : List UInt8) : Fls := if f then (F.1, l) else (l, F.2)
def Chg.on : Chg → Fls → Fls
  | .app f b, F => fset F f (fget F f ++ b)
  | .cut f n, F => fset F f ((fget F f).take n)
  | .ren, F => (F.2, [])
def tot (F : Fls) : Nat := F.1.length + F.2.length
/-- Whether a change may be. -/
def Chg.ok : Chg → Fls → Prop
  | .app _ b, F => tot F + b.length ≤ 4194304
  | .cut f n, F => n ≤ (fget F f).length
  | .ren, _ => True
def runs (l : List Chg) (F : Fls) : Fls := l.foldl (fun F c => c.on F) F
def okAll : List Chg → Fls → Prop
  | [], F => tot F ≤ 4194304
  | c :: l, F => tot F ≤ 4194304 ∧ c.ok F ∧ okAll l (c.on F)
structure DS where
  sure : Fls
  loose : List Chg
  off : Bool
  fuse : Int
def DS.now (D : DS) : Fls := runs D.loose D.sure

theorem tot_on {c : Chg} {F : Fls} (h : tot F ≤ 4194304) (hc : c.ok F) : tot (c.on F) ≤ 4194304 := by
  cases c with
  | app f b => cases f <;> simp_all [Chg.ok, Chg.on, tot, fset, fget] <;> omega
  | cut f n => cases f <;> simp_all [Chg.ok, Chg.on, tot, fset, fget] <;> omega
  | ren => simp_all [Chg.on, tot]; omega
theorem okAll_tot {l : List Chg} {F : Fls} (h : okAll l F) : tot F ≤ 4194304 := by cases l <;> simp_all [okAll]
theorem okAll_snoc [G : Guard] : ∀ {l : List Chg} {F : Fls} {c : Chg}, okAll l F → c.ok (runs l F) → okAll (l ++ [c]) F := by
  intro l
  induction l with
  | nil => intro F c h hc; exact ⟨h, hc, tot_on h hc⟩
  | cons d l ih => intro F c h hc; exact ⟨h.1, h.2.1, ih h.2.2 hc⟩
theorem runs_snoc (l : List Chg) (F : Fls) (c : Chg) : runs (l ++ [c]) F = c.on (runs l F) := by simp [runs, List.foldl_append]
theorem okAll_now : ∀ {l : List Chg} {F : Fls}, okAll l F → tot (runs l F) ≤ 4194304 := by
  intro l
  induction l with
  | nil => intro F h; exact h
  | cons d l ih => intro F h; exact ih h.2.2

/-! ## A change in memory -/
def fi (f : Bool) : Int := if f then 1 else 0

/-- The cells of a change. -/
def CH (Z : Nat → Prop) (w : World) : Chg → List Value → Prop
  | .app f b, cs => ∃ q v, cs = [.func (.func 57) #[] #[.pointer (some ⟨q, 0, none⟩)], slv v, .bool true] ∧ blk w q 3 [.int .i64 (fi f)] ∧ TB Z w v b
  | .cut f n, cs => ∃ q r, cs = [.func (.func 60) #[] #[.pointer (some ⟨q, 0, none⟩), .pointer (some ⟨r, 0, none⟩)], .slice none 0 0, .bool false] ∧ blk w q 3 [.int .i64 (fi f)] ∧ blk w r 3 [.int .i64 (n : Nat)]
  | .ren, cs => cs = [.func (.func 59) #[] #[], .slice none 0 0, .bool false]

theorem CH.keep [G : Guard] {T : List TypeId} {B : Nat} {w w' : World} {c : Chg} {cs : List Value} (h : CH Z w c cs) (hk : Kg T B w w') (h1 : 5 ∉ T) (h2 : 3 ∉ T) : CH Z w' c cs := by
  cases c with
  | app f b => obtain ⟨q, v, e, hq, hv⟩ := h; exact ⟨q, v, e, hk.blk hq (.inr h2), hv.keep hk h1⟩
  | cut f n => obtain ⟨q, r, e, hq, hr⟩ := h; exact ⟨q, r, e, hk.blk hq (.inr h2), hk.blk hr (.inr h2)⟩
  | ren => exact h
theorem CH.shape {w : World} {c : Chg} {cs : List Value} (h : CH Z w c cs) : ∃ fv v tb, cs = [fv, slv v, .bool tb] ∧ fv.oneCell' = true := by
  cases c with
  | app f b => obtain ⟨q, v, e, _⟩ := h; exact ⟨_, v, _, e, rfl⟩
  | cut f n => obtain ⟨q, r, e, _⟩ := h; exact ⟨_, (none, 0, 0), _, e, rfl⟩
  | ren => exact ⟨_, (none, 0, 0), _, h, rfl⟩

/-- The row of loose changes. -/
def LR [G : Guard] (Z : Nat → Prop) (w : World) (B : Nat) (a : Option Addr) (n c : Nat) (l : List Chg) : Prop :=
  ∃ css : List (List Value), w.ownsRow B 90 3 (.slice a n c) n css.flatten ∧ (∀ ad, a = some ad → ¬ G.prot ad.block) ∧ css.length = l.length ∧ l.length = n ∧ ∀ (i : Nat) (ch : Chg) (cs : List Value), l[i]? = some ch → css[i]? = some cs → CH Z w ch cs

theorem LR.keep [G : Guard] {T : List TypeId} {B B2 : Nat} {w w' : World} {a : Option Addr} {n c : Nat} {l : List Chg} (h : LR Z w B2 a n c l) (hk : Kg T B w w') (h1 : 5 ∉ T) (h2 : 3 ∉ T) (h3 : 90 ∉ T) : LR Z w' B2 a n c l := by
  obtain ⟨css, ho, hgd, e1, e2, hc⟩ := h
  exact ⟨css, ownsRow_kg ho hk h3, hgd, e1, e2, fun i ch cs hi hcs => (hc i ch cs hi hcs).keep hk h1 h2⟩
theorem LR.nil [G : Guard] (w : World) (B : Nat) : LR Z w B none 0 0 [] := ⟨[], ⟨rfl, .inl ⟨rfl, rfl⟩⟩, (fun ad h => by cases h), rfl, rfl, fun i ch cs h => by simp at h⟩

/-- What a disk refers to. -/
structure DH [G : Guard] (Z : Nat → Prop) (w : World) (B : Nat) (sure : Fls) (loose : List Chg) (s0 s1 n0 n1 : Option Addr × Nat × Nat) (la : Option Addr) (ln lc : Nat) : Prop where
  sure0 : TB Z w s0 sure.1
  sure1 : TB Z w s1 sure.2
  now0 : TB Z w n0 (runs loose sure).1
  now1 : TB Z w n1 (runs loose sure).2
  row : LR Z w B la ln lc loose
  ok : okAll loose sure
  fresh : ∀ b, w.heap.size ≤ b → Z b
  freshG : ∀ b, w.heap.size ≤ b → ¬ G.prot b
theorem DH.keep [G : Guard] {T : List TypeId} {B B2 : Nat} {w w' : World} {sure : Fls} {loose : List Chg} {s0 s1 n0 n1 : Option Addr × Nat × Nat} {la : Option Addr} {ln lc : Nat} (h : DH Z w B2 sure loose s0 s1 n0 n1 la ln lc)
    (hk : Kg T B w w') (h1 : 5 ∉ T) (h2 : 3 ∉ T) (h3 : 90 ∉ T) : DH Z w' B2 sure loose s0 s1 n0 n1 la ln lc :=
  ⟨h.sure0.keep hk h1, h.sure1.keep hk h1, h.now0.keep hk h1, h.now1.keep hk h1, h.row.keep hk h1 h2 h3, h.ok, fun b hb => h.fresh b (Nat.le_trans hk.size hb), fun b hb => h.freshG b (Nat.le_trans hk.size hb)⟩

/-- Block p is the disk D. -/
def DK [G : Guard] (Z : Nat → Prop) (w : World) (B p : Nat) (D : DS) : Prop :=
  ∃ s0 s1 n0 n1 la ln lc fz, blk w p 70 [slv s0, slv s1, slv n0, slv n1, .slice la ln lc, .bool D.off, .bool (decide (0 ≤ D.fuse)), .int .i64 fz] ∧
    (0 ≤ D.fuse → fz = D.fuse) ∧ -1 ≤ D.fuse ∧ D.fuse ≤ 9223372036854775807 ∧ (B ≤ p ∧ ¬ G.prot p) ∧ DH Z w B D.sure D.loose s0 s1 n0 n1 la ln lc

theorem DK.keep [G : Guard] {T : List TypeId} {B B2 p : Nat} {w w' : World} {D : DS} (h : DK Z w B2 p D) (hk : Kg T B w w') (h1 : 5 ∉ T) (h2 : 3 ∉ T) (h3 : 90 ∉ T) (h4 : 70 ∉ T) : DK Z w' B2 p D := by
  obtain ⟨s0, s1, n0, n1, la, ln, lc, fz, hb, e1, e2, e3, e4, hh⟩ := h
  exact ⟨s0, s1, n0, n1, la, ln, lc, fz, hk.blk hb (.inr h4), e1, e2, e3, e4, hh.keep hk h1 h2 h3⟩
theorem DK.below [G : Guard] {B p : Nat} {w w' : World} {D : DS} (h : DK Z w B p D) (hk : Below w.heap.size w w') : DK Z w' B p D :=
  h.keep (T := []) (B := 0) (Kg.of hk) (by simp) (by simp) (by simp) (by simp)
theorem DK.lt [G : Guard] {B p : Nat} {w : World} {D : DS} (h : DK Z w B p D) : p < w.heap.size := by
  obtain ⟨s0, s1, n0, n1, la, ln, lc, fz, hb, _⟩ := h; exact hb.lt
theorem DK.drew [G : Guard] {B p : Nat} {w : World} {D : DS} (h : DK Z w B p D) : DK Z w.drew B p D := h.below ((Below.refl _ w).drew)

theorem TB.mono {Z' : Nat → Prop} {w : World} {v : Option Addr × Nat × Nat} {l : List UInt8} (h : TB Z w v l) (hz : ∀ b, b < w.heap.size → Z b → Z' b) : TB Z' w v l :=
  ⟨h.1, fun ad ha => by obtain ⟨h1, cs, h2⟩ := h.2 ad ha; exact ⟨hz _ h2.lt h1, cs, h2⟩⟩
theorem CH.mono [G : Guard] {Z' : Nat → Prop} {w : World} {c : Chg} {cs : List Value} (h : CH Z w c cs) (hz : ∀ b, b < w.heap.size → Z b → Z' b) : CH Z' w c cs := by
  cases c with
  | app f b => obtain ⟨q, v, e, hq, hv⟩ := h; exact ⟨q, v, e, hq, hv.mono hz⟩
  | cut f n => exact h
  | ren => exact h
/-- Of other blocks. -/
theorem DK.mono [G : Guard] {Z' : Nat → Prop} {w : World} {B p : Nat} {D : DS} (h : DK Z w B p D) (hz : ∀ b, b < w.heap.size → Z b → Z' b) (hf : ∀ b, w.heap.size ≤ b → Z' b) : DK Z' w B p D := by
  obtain ⟨s0, s1, n0, n1, la, ln, lc, fz, hb, e1, e2, e3, e4, hh⟩ := h
  obtain ⟨css, ho, hgd, c1, c2, hc⟩ := hh.row
  exact ⟨s0, s1, n0, n1, la, ln, lc, fz, hb, e1, e2, e3, e4, hh.sure0.mono hz, hh.sure1.mono hz, hh.now0.mono hz, hh.now1.mono hz, ⟨css, ho, hgd, c1, c2, fun i ch cs h1 h2 => (hc i ch cs h1 h2).mono hz⟩, hh.ok, hf, hh.freshG⟩

theorem fA_Disk_0 {w : World} {K : KV} {b o : Nat} (h : K (.pointer (some ⟨b, o + 0, none⟩)) w) : fldA Try.prog 70 (.pointer (some ⟨b, o, none⟩)) 0 K w := fldA_of (by kernel_rfl) h
theorem fA_Disk_1 {w : World} {K : KV} {b o : Nat} (h : K (.pointer (some ⟨b, o + 2, none⟩)) w) : fldA Try.prog 70 (.pointer (some ⟨b, o, none⟩)) 1 K w := fldA_of (by kernel_rfl) h
theorem fA_Disk_2 {w : World} {K : KV} {b o : Nat} (h : K (.pointer (some ⟨b, o + 4, none⟩)) w) : fldA Try.prog 70 (.pointer (some ⟨b, o, none⟩)) 2 K w := fldA_of (by kernel_rfl) h
theorem fA_Disk_3 {w : World} {K : KV} {b o : Nat} (h : K (.pointer (some ⟨b, o + 5, none⟩)) w) : fldA Try.prog 70 (.pointer (some ⟨b, o, none⟩)) 3 K w := fldA_of (by kernel_rfl) h
theorem fA_Disk_4 {w : World} {K : KV} {b o : Nat} (h : K (.pointer (some ⟨b, o + 6, none⟩)) w) : fldA Try.prog 70 (.pointer (some ⟨b, o, none⟩)) 4 K w := fldA_of (by kernel_rfl) h
theorem fA_Disk_5 {w : World} {K : KV} {b o : Nat} (h : K (.pointer (some ⟨b, o + 7, none⟩)) w) : fldA Try.prog 70 (.pointer (some ⟨b, o, none⟩)) 5 K w := fldA_of (by kernel_rfl) h
theorem fA_change_0 {w : World} {K : KV} {b o : Nat} (h : K (.pointer (some ⟨b, o + 0, none⟩)) w) : fldA Try.prog 90 (.pointer (some ⟨b, o, none⟩)) 0 K w := fldA_of (by kernel_rfl) h
theorem fA_change_1 {w : World} {K : KV} {b o : Nat} (h : K (.pointer (some ⟨b, o + 1, none⟩)) w) : fldA Try.prog 90 (.pointer (some ⟨b, o, none⟩)) 1 K w := fldA_of (by kernel_rfl) h
theorem fA_change_2 {w : World} {K : KV} {b o : Nat} (h : K (.pointer (some ⟨b, o + 2, none⟩)) w) : fldA Try.prog 90 (.pointer (some ⟨b, o, none⟩)) 2 K w := fldA_of (by kernel_rfl) h
theorem ld_DL_0 {w : World} {K : KV} {b o : Nat} {E : TypeId} {cs : List Value} (v : Value) (hb : blk w b E cs) (ho : cs[o]? = some v) (h : K v w) : ld Try.prog 3 (.pointer (some ⟨b, o, none⟩)) K w := ld1 (fun _ => by kernel_rfl) hb ho h
theorem ld_DL_1 {w : World} {K : KV} {b o : Nat} {E : TypeId} {cs : List Value} (v : Value) (hb : blk w b E cs) (ho : cs[o]? = some v) (h : K v w) : ld Try.prog 4 (.pointer (some ⟨b, o, none⟩)) K w := ld1 (fun _ => by kernel_rfl) hb ho h
theorem ld_DL_2 {w : World} {K : KV} {b o : Nat} {E : TypeId} {cs : List Value} (v : Value) (hb : blk w b E cs) (ho : cs[o]? = some v) (h : K v w) : ld Try.prog 29 (.pointer (some ⟨b, o, none⟩)) K w := ld1 (fun _ => by kernel_rfl) hb ho h
theorem ld_DL_3 {w : World} {K : KV} {b o : Nat} {E : TypeId} {cs : List Value} (v : Value) (hb : blk w b E cs) (ho : cs[o]? = some v) (h : K v w) : ld Try.prog 68 (.pointer (some ⟨b, o, none⟩)) K w := ld1 (fun _ => by kernel_rfl) hb ho h
theorem ld_DL_4 {w : World} {K : KV} {b o : Nat} {E : TypeId} {cs : List Value} (v : Value) (hb : blk w b E cs) (ho : cs[o]? = some v) (h : K v w) : ld Try.prog 88 (.pointer (some ⟨b, o, none⟩)) K w := ld1 (fun _ => by kernel_rfl) hb ho h
attribute [local irreducible] bin un conv call callV blt slc fldA fld idxA idx lkp mUpd mEnt eSt rng nxt ent ext alc box bld bldS ld sto nilC mkMap mkS ifc pick rdy wts gsel sti cond retM Gives cCode cGrp cSeq cOp


theorem eqP_nil {w : World} {K : KV} {cx cy : Bool} {b : Nat} (h : K (.bool false) w) : bin Try.prog .eql 25 cx cy (ptr b) (.pointer none) K w :=
  bin_of (by unfold eqG eqGuard; rfl) (by kernel_rfl) h
theorem neP_nil {w : World} {K : KV} {cx cy : Bool} {b : Nat} (h : K (.bool true) w) : bin Try.prog .neq 25 cx cy (ptr b) (.pointer none) K w :=
  bin_of (by unfold eqG eqGuard; rfl) (by kernel_rfl) h
theorem eqP_none {w : World} {K : KV} {cx cy : Bool} (h : K (.bool true) w) : bin Try.prog .eql 25 cx cy (.pointer none) (.pointer none) K w :=
  bin_of (by unfold eqG eqGuard; rfl) (by kernel_rfl) h
theorem neP_none {w : World} {K : KV} {cx cy : Bool} (h : K (.bool false) w) : bin Try.prog .neq 25 cx cy (.pointer none) (.pointer none) K w :=
  bin_of (by unfold eqG eqGuard; rfl) (by kernel_rfl) h


theorem ready_c [G : Guard] {B p : Nat} {D : DS} {w : World} {K : KV} (hd : DK Z w B p D) (h : K (.int .i64 (if D.off then 8 else 0)) w) : call Try.prog 40 #[ptr p] K w := by
  obtain ⟨s0, s1, n0, n1, la, ln, lc, fz, hb, e1, e2, e3, e4, hh⟩ := hd
  refine call_of disk_Disk_ready_go (disk_Disk_ready_in ?_)
  (repeat (first | refine eqP_nil ?_ | refine nilC_p ?_ | refine fA_Disk_3 ?_ | (refine ld_DL_1 ?_ (by assumption) ?_ ?_; rotate_left; exact rfl) | refine cond_F ?_))
  refine cond_b ?_ ?_
  · intro ho; rw [ho] at h; exact h
  · intro ho; rw [ho] at h; exact h

end Go.Proofs.Ytjkmblbonambjaa
