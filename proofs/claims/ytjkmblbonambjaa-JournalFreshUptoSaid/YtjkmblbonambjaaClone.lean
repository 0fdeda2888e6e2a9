/- bytes.Clone. -/
import Derived.Test.YtjkmblbonambjaaSClone
import Derived.Test.YtjkmblbonambjaaTypes
namespace Go.Proofs.Ytjkmblbonambjaa
set_option maxRecDepth 100000
open Go.RowKit
attribute [local irreducible] bin un conv call callV blt slc fldA fld idxA idx lkp mUpd mEnt eSt rng nxt ent ext alc box bld bldS ld sto nilC mkMap mkS ifc pick rdy wts gsel sti cond retM Gives cCode cGrp cSeq cOp

theorem clone_c {a : Option Addr} {n c : Nat} {l : List UInt8} {w : World} {K : KV} (hb : RB w a n c l) (hn : n ≤ 140737488351232)
    (h : ∀ a' c' w', OB w' w.heap.size a' n c' l → Below w.heap.size w w' → K (.slice a' n c') w') : call Try.prog 42 #[.slice a n c] K w := by
  refine call_of bytes_Clone_go (bytes_Clone_in ?_)
  refine eql_nilS Try.underlying29 ?_
  cases a with
  | none =>
    obtain ⟨rfl, rfl⟩ := RV.nil_ hb rfl
    have : l = [] := List.eq_nil_of_length_eq_zero hb.len
    subst this
    refine cond_T ?_
    exact h _ _ _ (OB.nil _ _) (Below.refl _ _)
  | some ad =>
    refine cond_F ?_
    refine empty8 w.heap.size (Nat.le_refl _) ?_
    intro a1 w1 ho1 hb1
    refine app8 w.heap.size ho1 (hb.below hb1 (Nat.le_refl _)) (by omega) hb1.size ?_
    intro a2 c2 w2 ho2 hg2
    rw [Nat.zero_add, List.nil_append] at *
    exact h _ _ _ ho2 (hb1.grown hg2 hb1.size (fun k hk => (OV.block ho1 k hk).1))
end Go.Proofs.Ytjkmblbonambjaa
