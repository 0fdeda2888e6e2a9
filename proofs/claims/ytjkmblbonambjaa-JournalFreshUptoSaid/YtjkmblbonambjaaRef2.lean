/- The contracts of the reference that writes, splits, compares, sums and copies lists of strings. -/
import Derived.Test.YtjkmblbonambjaaRef
import Derived.Test.YtjkmblbonambjaaVast
namespace Go.Proofs.Ytjkmblbonambjaa
set_option maxRecDepth 100000
open Go.RowKit
attribute [local irreducible] bin un conv call callV blt slc fldA fld idxA idx lkp mUpd mEnt eSt rng nxt ent ext alc box bld bldS ld sto nilC mkMap mkS ifc pick rdy wts gsel sti cond retM Gives cCode cGrp cSeq cOp

theorem vast_snoc (L : List (List UInt8)) (j : Nat) (s : List UInt8) (h : L[j]? = some s) : vast (L.take (j + 1)) = vast (L.take j) + s.length := by
  have e : L.take (j + 1) = L.take j ++ [s] := by rw [List.take_add_one, h]; rfl
  rw [e]
  have va : ∀ x y : List (List UInt8), vast (x ++ y) = vast x + vast y := by
    intro x y
    induction x with
    | nil => simp [vast]
    | cons z x ih => simp [vast, ih]; omega
  rw [va]; simp [vast]

theorem drop_cons {α : Type} (L : List α) (j : Nat) (s : α) (h : L[j]? = some s) : L.drop j = s :: L.drop (j + 1) := by
  have hjl : j < L.length := (List.getElem?_eq_some_iff.1 h).1
  rw [List.drop_eq_getElem_cons hjl]
  rw [List.getElem?_eq_getElem hjl] at h
  simp at h
  rw [h]

theorem below_drew (w : World) : Below w.heap.size w w.drew := (Below.refl _ _).drew

theorem same_c {a a2 : Option Addr} {n c n2 c2 : Nat} {vs vs2 : List (Option Addr × Nat × Nat)} {L M : List (List UInt8)} {w : World} {K : KV} (hb : RBB w a n c vs L) (hb2 : RBB w a2 n2 c2 vs2 M) (hn : n ≤ 9000000000000000000)
    (h : ∀ w', Below w.heap.size w w' → K (.bool (decide (L = M))) w') :
    call Try.prog 27 #[.slice a n c, .slice a2 n2 c2] K w := by
  have hl := hb.lenL
  have hl2 := hb2.lenL
  refine call_of leatref01_Same_go (leatref01_Same_in ?_)
  (repeat (first | refine bin_neq ?_ | refine len36 ?_))
  by_cases hne : n = n2
  case neg =>
    have : L ≠ M := fun e => hne (by rw [← hl, ← hl2, e])
    rw [show decide (L = M) = false by simp [this]] at h
    (repeat (first | refine cond_t (by omega) ?_))
    exact h _ (Below.refl _ _)
  subst hne
  (repeat (first | refine cond_f (by omega) ?_))
  refine leatref01_Same_L1_r (Inv := fun i wr => ∃ j : Nat, j ≤ n ∧ i = .int .i64 (j : Nat) ∧ Below w.heap.size w wr ∧ L.take j = M.take j)
    (μ := fun i _ => n - (intOf i).toNat) ⟨0, by omega, rfl, Below.refl _ _, by simp⟩ ?_
  rintro _ _ w3 m ⟨j, hj, rfl, hb3, hjs⟩ hm
  by_cases hjn : j < n
  · (repeat (first | refine bin_lss ?_ | refine len36 ?_ | refine cond_t (by omega) ?_))
    have hbd : Below w.heap.size w w3.drew := hb3.drew
    refine sti_of (fun K hK => idx36 (hb.below hbd (Nat.le_refl _)) (by omega) (by omega) fun _ _ _ _ _ _ => hK) ?_
    obtain ⟨v1, s1, hv1, hs1, hc1, hr1⟩ : ∃ v s, vs[j]? = some v ∧ L[j]? = some s ∧ w3.drew.cell? (slotA a j) = some (.slice v.1 v.2.1 v.2.2) ∧ RB w3.drew v.1 v.2.1 v.2.2 s := by
      have h1 : j < vs.length := by rw [hb.len]; omega
      have h2 : j < L.length := by omega
      refine ⟨vs[j], L[j], List.getElem?_eq_getElem h1, List.getElem?_eq_getElem h2, ?_, (hb.each _ _ _ (List.getElem?_eq_getElem h1) (List.getElem?_eq_getElem h2)).below hbd (Nat.le_refl _)⟩
      exact (hb.below hbd (Nat.le_refl _)).row.cell _ _ (by simp [List.getElem?_map, List.getElem?_eq_getElem h1, slv])
    obtain ⟨v2, s2, hv2, hs2, hc2, hr2⟩ : ∃ v s, vs2[j]? = some v ∧ M[j]? = some s ∧ w3.drew.cell? (slotA a2 j) = some (.slice v.1 v.2.1 v.2.2) ∧ RB w3.drew v.1 v.2.1 v.2.2 s := by
      have h1 : j < vs2.length := by rw [hb2.len]; omega
      have h2 : j < M.length := by omega
      refine ⟨vs2[j], M[j], List.getElem?_eq_getElem h1, List.getElem?_eq_getElem h2, ?_, (hb2.each _ _ _ (List.getElem?_eq_getElem h1) (List.getElem?_eq_getElem h2)).below hbd (Nat.le_refl _)⟩
      exact (hb2.below hbd (Nat.le_refl _)).row.cell _ _ (by simp [List.getElem?_map, List.getElem?_eq_getElem h1, slv])
    rw [show (((j : Nat) : Int)).toNat = j by omega]
    refine sti_of (fun K hK => ldSl hc1 hK) ?_
    refine sti_of (fun K hK => str8 hr1 hK) ?_
    refine sti_of (fun K hK => idx36 (hb2.below hbd (Nat.le_refl _)) (by omega) (by omega) fun _ _ _ _ _ _ => hK) ?_
    rw [show (((j : Nat) : Int)).toNat = j by omega]
    refine sti_of (fun K hK => ldSl hc2 hK) ?_
    refine sti_of (fun K hK => str8 hr2 hK) ?_
    refine sti_of (fun K hK => bin_neqS hK) ?_
    refine cond_p (fun hne => ?_) (fun heq => ?_)
    · have : L ≠ M := fun e => hne (by rw [e, hs2] at hs1; simpa using hs1.symm)
      rw [show decide (L = M) = false by simp [this]] at h
      exact h _ hbd
    · have heq : s1 = s2 := Classical.not_not.1 heq
      (repeat (first | refine add64 (by omega) (by omega) ?_))
      refine ⟨⟨j + 1, by omega, by simp, hbd, ?_⟩, by rw [hm]; simp only [intOf]; omega⟩
      rw [List.take_add_one, List.take_add_one, hs1, hs2, hjs, heq]
  · have : j = n := by omega
    subst this
    rw [List.take_of_length_le (by omega), List.take_of_length_le (by omega)] at hjs
    rw [show decide (L = M) = true by simp [hjs]] at h
    (repeat (first | refine leatref01_Same_P1_r ?_ | refine bin_lss ?_ | refine len36 ?_ | refine cond_f (by omega) ?_))
    exact h _ hb3

theorem vast_c {a : Option Addr} {n c : Nat} {vs : List (Option Addr × Nat × Nat)} {L : List (List UInt8)} {most : Int} {w : World} {K : KV} (hb : RBB w a n c vs L) (hn : n ≤ 1000000000000) (hv : vast L ≤ 1000000000000)
    (h : K (.bool (decide (most < n + vast L))) w) :
    call Try.prog 29 #[.slice a n c, .int .i64 most] K w := by
  have hl := hb.lenL
  refine call_of leatref01_Vast_go (leatref01_Vast_in ?_)
  (repeat (first | refine len36 ?_))
  refine leatref01_Vast_L1_r (Inv := fun x i wr => ∃ j : Nat, j ≤ n ∧ i = .int .i64 (j : Nat) ∧ x = .int .i64 ((n + vast (L.take j) : Nat) : Int) ∧ wr = w)
    (μ := fun _ i _ => n - (intOf i).toNat) ⟨0, by omega, rfl, by simp [vast], rfl⟩ ?_
  rintro _ _ _ w3 m ⟨j, hj, rfl, rfl, rfl⟩ hm
  by_cases hjn : j < n
  · (repeat (first | refine bin_lss ?_ | refine len36 ?_ | refine cond_t (by omega) ?_))
    refine idx36 hb (by omega) (by omega) ?_
    intro v s hv' hs' hc hr
    simp only [Int.toNat_natCast] at hv' hs'
    have hvt := vast_take L j s hs'
    have hsl := hr.len
    refine ldSl hc ?_
    (repeat (first | refine add64 (by omega) (by omega) ?_ | refine len8 ?_))
    refine ⟨⟨j + 1, by omega, by simp, ?_, rfl⟩, by rw [hm]; simp only [intOf]; omega⟩
    rw [vast_snoc L j s hs']
    congr 1
    omega
  · have : j = n := by omega
    subst this
    rw [List.take_of_length_le (by omega)]
    (repeat (first | refine leatref01_Vast_P1_r ?_ | refine bin_lss ?_ | refine bin_gtr ?_ | refine len36 ?_ | refine cond_f (by omega) ?_))
    rw [show ((j + vast L : Nat) : Int) = (j : Int) + (vast L : Int) by omega]
    exact h


end Go.Proofs.Ytjkmblbonambjaa
