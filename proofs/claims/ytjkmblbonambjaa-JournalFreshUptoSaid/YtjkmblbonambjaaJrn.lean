/- The journal: what its calls do to a disk and to it, and the contracts of its functions. -/
import Derived.Test.YtjkmblbonambjaaSJrn
import Derived.Test.YtjkmblbonambjaaFrm3
import Derived.Test.YtjkmblbonambjaaDisk5
import Derived.Test.YtjkmblbonambjaaDLaw
namespace Go.Proofs.Ytjkmblbonambjaa
set_option maxRecDepth 100000
open Go.RowKit

variable {Z : Nat → Prop}

/-- One after the other, as long as there is no error. -/
def seqS : List (DS → DS × Int) → DS → DS × Int
  | [], D => (D, 0)
  | f :: r, D => if (f D).2 = 0 then seqS r (f D).1 else f D
def jemptyS (D : DS) : DS × Int := if (readS D 1).2 ≠ 0 ∨ (readS D 1).1 = [] then (D, (readS D 1).2) else cutS D 1 0
def jcutS (k n : Nat) (D : DS) : DS × Int := if k = n then (D, 0) else cutS D 0 k
def jsyncS (D : DS) : DS × Int := if D.loose.length = 0 then (D, 0) else syncS D
def jopenL (b : List UInt8) : List (DS → DS × Int) := [jcutS (allB b).2 b.length, jemptyS, jsyncS]
structure JO where
  disk : DS
  e : Int
  l : List (List UInt8)
  at_ : Nat
def jopenS (D : DS) : JO :=
  if (readS D 0).2 ≠ 0 then ⟨D, (readS D 0).2, [], 0⟩
  else if (seqS (jopenL (readS D 0).1) D).2 ≠ 0 then ⟨(seqS (jopenL (readS D 0).1) D).1, (seqS (jopenL (readS D 0).1) D).2, [], 0⟩
  else ⟨(seqS (jopenL (readS D 0).1) D).1, 0, (allB (readS D 0).1).1, (allB (readS D 0).1).2⟩
def jbytesS (br : Bool) (L : List (List UInt8)) : List UInt8 × Int := if br then ([], 3) else putF [] L
structure JD where
  disk : DS
  size : Int
  br : Bool
def jaddL (b : List UInt8) : List (DS → DS × Int) := [fun D => appendS D 0 b, syncS]
def jcompL (b : List UInt8) : List (DS → DS × Int) := [jemptyS, fun D => appendS D 1 b, syncS, renS, syncS]
def jdoneS (r : DS × Int) (size new : Int) : JD × Int := (⟨r.1, if r.2 = 0 then new else size, decide (r.2 = 8)⟩, r.2)
def jaddS (J : JD) (L : List (List UInt8)) : JD × Int :=
  if (jbytesS J.br L).2 ≠ 0 ∨ L = [] then (J, (jbytesS J.br L).2) else jdoneS (seqS (jaddL (jbytesS J.br L).1) J.disk) J.size (J.size + (jbytesS J.br L).1.length)
def jcompS (J : JD) (L : List (List UInt8)) : JD × Int :=
  if (jbytesS J.br L).2 ≠ 0 then (J, (jbytesS J.br L).2) else jdoneS (seqS (jcompL (jbytesS J.br L).1) J.disk) J.size (jbytesS J.br L).1.length

/-- Block q is a journal on the disk p. -/
def JR (w : World) (p q : Nat) (size : Int) (br : Bool) : Prop := blk w q 84 [ptr p, .int .i64 size, .bool br]

theorem doS_len [G : Guard] (D : DS) (c : Chg) : (doS D c).1.loose.length ≤ D.loose.length + 1 := by
  unfold doS
  rw [(burn_same _).2]; simp
theorem cutS_len [G : Guard] (D : DS) (f n : Int) : (cutS D f n).1.loose.length ≤ D.loose.length + 1 := by
  unfold cutS; split
  · simp
  split
  · simp
  exact doS_len _ _
theorem appendS_len [G : Guard] (D : DS) (f : Int) (b : List UInt8) : (appendS D f b).1.loose.length ≤ D.loose.length + 1 := by
  unfold appendS; split
  · simp
  split
  · simp
  split
  · simp
  exact doS_len _ _
theorem renS_len [G : Guard] (D : DS) : (renS D).1.loose.length ≤ D.loose.length + 1 := by
  unfold renS; split
  · simp
  exact doS_len _ _
theorem syncS_len [G : Guard] (D : DS) : (syncS D).1.loose.length ≤ D.loose.length + 1 := by
  unfold syncS; split
  · simp
  split
  · rw [(burn_same _).2]; simp
  simp
theorem jemptyS_len [G : Guard] (D : DS) : (jemptyS D).1.loose.length ≤ D.loose.length + 1 := by
  unfold jemptyS; split
  · simp
  exact cutS_len _ _ _
theorem jcutS_len [G : Guard] (k n : Nat) (D : DS) : (jcutS k n D).1.loose.length ≤ D.loose.length + 1 := by
  unfold jcutS; split
  · simp
  exact cutS_len _ _ _
theorem jsyncS_len [G : Guard] (D : DS) : (jsyncS D).1.loose.length ≤ D.loose.length + 1 := by
  unfold jsyncS; split
  · simp
  exact syncS_len _

section
attribute [local irreducible] bin un conv call callV blt slc fldA fld idxA idx lkp mUpd mEnt eSt rng nxt ent ext alc box bld bldS ld sto nilC mkMap mkS ifc pick rdy wts gsel sti cond retM Gives cCode cGrp cSeq cOp
theorem fA_Journal_0 {w : World} {K : KV} {b o : Nat} (h : K (.pointer (some ⟨b, o + 0, none⟩)) w) : fldA Try.prog 84 (.pointer (some ⟨b, o, none⟩)) 0 K w := fldA_of (by kernel_rfl) h
theorem fA_Journal_1 {w : World} {K : KV} {b o : Nat} (h : K (.pointer (some ⟨b, o + 1, none⟩)) w) : fldA Try.prog 84 (.pointer (some ⟨b, o, none⟩)) 1 K w := fldA_of (by kernel_rfl) h
theorem fA_Journal_2 {w : World} {K : KV} {b o : Nat} (h : K (.pointer (some ⟨b, o + 2, none⟩)) w) : fldA Try.prog 84 (.pointer (some ⟨b, o, none⟩)) 2 K w := fldA_of (by kernel_rfl) h
theorem ld_JL_0 {w : World} {K : KV} {b o : Nat} {E : TypeId} {cs : List Value} (v : Value) (hb : blk w b E cs) (ho : cs[o]? = some v) (h : K v w) : ld Try.prog 3 (.pointer (some ⟨b, o, none⟩)) K w := ld1 (fun _ => by kernel_rfl) hb ho h
theorem ld_JL_1 {w : World} {K : KV} {b o : Nat} {E : TypeId} {cs : List Value} (v : Value) (hb : blk w b E cs) (ho : cs[o]? = some v) (h : K v w) : ld Try.prog 4 (.pointer (some ⟨b, o, none⟩)) K w := ld1 (fun _ => by kernel_rfl) hb ho h
theorem ld_JL_2 {w : World} {K : KV} {b o : Nat} {E : TypeId} {cs : List Value} (v : Value) (hb : blk w b E cs) (ho : cs[o]? = some v) (h : K v w) : ld Try.prog 25 (.pointer (some ⟨b, o, none⟩)) K w := ld1 (fun _ => by kernel_rfl) hb ho h
theorem ld_JL_3 {w : World} {K : KV} {b o : Nat} {E : TypeId} {cs : List Value} (v : Value) (hb : blk w b E cs) (ho : cs[o]? = some v) (h : K v w) : ld Try.prog 49 (.pointer (some ⟨b, o, none⟩)) K w := ld1 (fun _ => by kernel_rfl) hb ho h
theorem ld_JL_4 {w : World} {K : KV} {b o : Nat} {E : TypeId} {cs : List Value} (v : Value) (hb : blk w b E cs) (ho : cs[o]? = some v) (h : K v w) : ld Try.prog 29 (.pointer (some ⟨b, o, none⟩)) K w := ld1 (fun _ => by kernel_rfl) hb ho h

abbrev TFN : TypeId := 65
theorem info_fn : (Try.prog.info? TFN).map (fun i => (i.zero, i.size, i.bytes)) = some (some .nilFunc, 1, 8) := by kernel_rfl

theorem each_c [G : Guard] {B p B' : Nat} {Ctx : World → Prop} (hctx : ∀ w w', Ctx w → Kg DT B w w' → Ctx w') {fs : List Value} {gs : List (DS → DS × Int)} (hl : fs.length = gs.length)
    (hdo : ∀ (i : Nat) f g, fs[i]? = some f → gs[i]? = some g → ∀ (w : World) (K : KV) (D : DS), Ctx w → DK Z w B p D → D.loose.length < 4294967296 → (∀ w', DK Z w' B p (g D).1 → Kg DT B w w' → K (.int .i64 (g D).2) w') → callV Try.prog f #[] K w)
    (hgl : ∀ g ∈ gs, ∀ D, (g D).1.loose.length ≤ D.loose.length + 1)
    {w : World} {K : KV} {D : DS} {a : Option Addr} {n c : Nat} (hr : OV w B' TFN a n c fs) (hd : DK Z w B p D) (hc : Ctx w) (hlen : D.loose.length < 1000000) (hN : n ≤ 1000)
    (h : ∀ w', DK Z w' B p (seqS gs D).1 → Kg DT B w w' → K (.int .i64 (seqS gs D).2) w') : call Try.prog 45 #[.slice a n c] K w := by
  have hn : fs.length = n := RV.len hr.rv
  refine call_of journal_each_go (journal_each_in ?_)
  refine len_slc Try.underlying99 ?_
  refine journal_each_L1_r (Inv := fun i wr => ∃ (j : Nat) (D' : DS), j ≤ n ∧ i = .int .i64 (j : Nat) ∧ seqS (gs.drop j) D' = seqS gs D ∧ DK Z wr B p D' ∧ Kg DT B w wr ∧ D'.loose.length ≤ D.loose.length + j)
    (μ := fun i _ => n - (intOf i).toNat) ⟨0, D, by omega, rfl, rfl, hd, Kg.refl _ _ _, by omega⟩ ?_
  rintro _ _ w1 m ⟨j, D', hj, rfl, hs, hd1, K1, hl1⟩ hm
  by_cases hjn : j < n
  · (repeat (first | refine bin_lss ?_ | refine cond_t (by omega) ?_))
    have hr1 : OV w1 B' TFN a n c fs := ownsRow_kg hr K1 (by decide)
    have hf : fs[j]? = some fs[j] := List.getElem?_eq_getElem (by omega)
    have hg : gs[j]? = some gs[j] := List.getElem?_eq_getElem (by omega)
    refine idx_cell Try.underlying99 (fun _ => by kernel_rfl) hr1.rv (by omega) (v := fs[j]) (by rw [Int.toNat_natCast]; exact hf) ?_
    intro hcell
    refine ld_cell (fun _ => by kernel_rfl) hcell ?_
    refine hdo j _ _ hf hg w1 _ D' (hctx _ _ hc K1) hd1 (by omega) ?_
    intro w2 hd2 K2
    have hdrop : gs.drop j = gs[j] :: gs.drop (j + 1) := List.drop_eq_getElem_cons (by omega)
    have h1 := hgl gs[j] (List.getElem_mem _) D'
    rw [hdrop] at hs
    simp only [seqS] at hs
    refine bin_neq ?_
    by_cases he : (gs[j] D').2 = 0
    · rw [if_pos he] at hs
      refine cond_f (fun hh => hh he) ?_
      (repeat (first | refine add64 (by omega) (by omega) ?_))
      exact ⟨⟨j + 1, _, by omega, by simp, hs, hd2, K1.trans K2, by omega⟩, by rw [hm]; simp only [intOf]; omega⟩
    · rw [if_neg he] at hs
      refine cond_t he ?_
      rw [← hs] at h
      exact h w2 hd2 (K1.trans K2)
  have : j = n := by omega
  subst this
  have hd0 : gs.drop j = [] := List.drop_of_length_le (by omega)
  rw [hd0] at hs
  simp only [seqS] at hs
  (repeat (first | refine journal_each_P1_r ?_ | refine bin_lss ?_ | refine cond_f (by omega) ?_))
  rw [← hs] at h
  exact h w1 hd1 K1

theorem jempty_c [G : Guard] {B p : Nat} {D : DS} {w : World} {K : KV} (hd : DK Z w B p D) (hlen : D.loose.length < 4294967296)
    (h : ∀ w', DK Z w' B p (jemptyS D).1 → Kg DT B w w' → K (.int .i64 (jemptyS D).2) w') : call Try.prog 48 #[ptr p] K w := by
  refine call_of journal_empty_go (journal_empty_in ?_)
  refine read_c hd ?_
  intro a n c w1 o1 b1
  have hn := o1.len
  have hd1 := hd.below b1
  have K1 : Kg DT B w w1 := Kg.of b1
  (repeat (first | refine bin_neq ?_ | refine ext_a ?_ | refine ext_b ?_))
  by_cases he : (readS D 1).2 = 0
  · by_cases hb : (readS D 1).1 = []
    · rw [show jemptyS D = (D, (readS D 1).2) by unfold jemptyS; rw [if_pos (.inr hb)]] at h
      have : n = 0 := by rw [← hn, hb]; rfl
      subst this
      (repeat (first | refine bin_eql ?_ | refine len8 ?_ | refine cond_T ?_ | refine gsel_nf (by omega) ?_ | refine pick_f (by omega) ?_))
      exact h w1 hd1 K1
    · rw [show jemptyS D = cutS D 1 0 by unfold jemptyS; rw [if_neg (by simp [he, hb])]] at h
      have : n ≠ 0 := by rw [← hn]; exact fun h0 => hb (List.eq_nil_of_length_eq_zero h0)
      (repeat (first | refine bin_eql ?_ | refine len8 ?_ | refine cond_f (by omega) ?_ | refine gsel_nf (by omega) ?_ | refine pick_f (by omega) ?_))
      refine cut_c hd1 hlen ?_
      intro w2 hd2 K2
      exact h w2 hd2 (K1.trans K2)
  · rw [show jemptyS D = (D, (readS D 1).2) by unfold jemptyS; rw [if_pos (.inl he)]] at h
    (repeat (first | refine cond_T ?_ | refine gsel_nt (by omega) ?_ | refine pick_t (by omega) ?_))
    exact h w1 hd1 K1
end
end Go.Proofs.Ytjkmblbonambjaa
