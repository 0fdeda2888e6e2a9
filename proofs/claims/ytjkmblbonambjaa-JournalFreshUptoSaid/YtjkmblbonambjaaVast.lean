/- How long lists of byte strings are, together. Nothing of the program is named here. -/
import Derived.Test.YtjkmblbonambjaaSh
namespace Go.Proofs.Ytjkmblbonambjaa
set_option maxRecDepth 100000
def vast : List (List UInt8) → Nat
  | [] => 0
  | s :: r => s.length + vast r

theorem vast_take (L : List (List UInt8)) (j : Nat) (s : List UInt8) (h : L[j]? = some s) : vast (L.take j) + s.length + vast (L.drop (j + 1)) = vast L := by
  induction L generalizing j with
  | nil => simp at h
  | cons x L ih =>
    cases j with
    | zero => simp at h; subst h; simp [vast]
    | succ j =>
      simp at h
      have := ih j h
      simp only [List.take_succ_cons, List.drop_succ_cons, vast]
      omega

theorem vast_app (x y : List (List UInt8)) : vast (x ++ y) = vast x + vast y := by
  induction x with
  | nil => simp [vast]
  | cons s r ih => simp only [List.cons_append, vast, ih]; omega
end Go.Proofs.Ytjkmblbonambjaa
