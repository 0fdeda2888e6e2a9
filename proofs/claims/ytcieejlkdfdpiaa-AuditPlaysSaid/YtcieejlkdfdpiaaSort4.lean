/- slices.Sort of numbers, on: turning a range about. -/
import Derived.Test.YtcieejlkdfdpiaaSSort2
import Derived.Test.YtcieejlkdfdpiaaSort3
namespace Go.Proofs.Ytcieejlkdfdpiaa
set_option maxRecDepth 100000
open Go.RowKit
attribute [local irreducible] bin un conv call callV blt slc fldA fld idxA idx lkp mUpd mEnt eSt rng nxt ent ext alc box bld bldS ld sto nilC mkMap mkS ifc pick rdy wts gsel sti cond retM Gives cCode cGrp cSeq cOp
section
variable {w w' : World} {K : KV} {g n c : Nat} {xs : List Int}
theorem rev_c {a b : Nat} (hd : SD w g n c xs) (hb : b ≤ n) (h : ∀ w' ys, SD w' g n c ys → Oth g w w' → Rng a b xs ys → K (.tuple #[]) w') :
    call Try.prog 30 #[.slice (some ⟨g, 0, none⟩) n c, .int .i64 (a : Nat), .int .i64 (b : Nat)] K w := by
  have hm : n ≤ 4611686018427387904 := by obtain ⟨_, _, _, _, hm⟩ := hd; exact hm
  refine call_of slices_reverseRangeOrdered_uint64_go (slices_reverseRangeOrdered_uint64_in ?_)
  refine sub64 (by omega) (by omega) ?_
  refine slices_reverseRangeOrdered_uint64_L1_r (Inv := fun i j wr => ∃ (p : Nat) (q : Int) (ys : List Int), i = .int .i64 (p : Nat) ∧ j = .int .i64 q ∧ a ≤ p ∧ (p : Int) ≤ q + 2 + a ∧ -1 ≤ q ∧ q < b ∧ SD wr g n c ys ∧ Oth g w wr ∧ Rng a b xs ys)
    (μ := fun i j _ => (intOf j + 1).toNat) ⟨a, (b : Int) - 1, xs, rfl, rfl, Nat.le_refl _, by omega, by omega, by omega, hd, oth_refl _ _, Rng.refl _ _ _⟩ ?_
  rintro _ _ _ w1 m ⟨p, q, ys, rfl, rfl, hp, hpq, hq1, hq2, hd1, o1, r1⟩ hm1
  refine bin_lss ?_
  by_cases hlt : (p : Int) < q
  rotate_left
  · refine cond_f hlt ?_
    exact h w1 ys hd1 o1 r1
  refine cond_t hlt ?_
  obtain ⟨k, rfl⟩ := Int.eq_ofNat_of_zero_le (show 0 ≤ q by omega)
  have hl := hd1.len
  refine hReg_of (fun x => SD x g n c ys) hd1.drew ?_
  refine hld_of (fun x hx K hK => idxS (by omega) hK) ?_
  refine hld_of (fun x hx K hK => ldS hx (by omega) hK) ?_
  refine hld_of (fun x hx K hK => idxS (by omega) hK) ?_
  refine hld_of (fun x hx K hK => ldS hx (by omega) hK) ?_
  refine hld_of (fun x hx K hK => idxS (by omega) hK) ?_
  refine stoS hd1.drew (by omega) ?_
  intro w3 hd3 o3
  refine hReg_of (fun _ => True) trivial ?_
  refine hld_of (fun x hx K hK => idxS (by omega) hK) ?_
  refine stoS hd3 (by omega) ?_
  intro w4 hd4 o4
  refine add64 (by omega) (by omega) ?_
  refine sub64 (by omega) (by omega) ?_
  refine ⟨⟨p + 1, (k : Int) - 1, swp ys p k, by simp, rfl, by omega, by omega, by omega, by omega, hd4, oth_trans (oth_trans (oth_drew o1) o3) o4, r1.trans (Rng.swp (by omega) (by omega) (by omega) (by omega))⟩, ?_⟩
  rw [hm1]; simp only [intOf]; omega
end
end Go.Proofs.Ytcieejlkdfdpiaa
