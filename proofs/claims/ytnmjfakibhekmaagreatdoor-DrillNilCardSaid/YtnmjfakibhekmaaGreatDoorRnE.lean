/- Memories held against each other. Nothing of the program is named here. -/
import Derived.Test.YtnmjfakibhekmaaGreatDoorRn11
namespace Go.Proofs.YtnmjfakibhekmaaGreatDoor
set_option maxRecDepth 100000
open Go.RowKit

abbrev Ci (n : Nat) : CV := .k (.int .i64 (.ofNat n))
abbrev Cu (n : Nat) : CV := .k (.int .u64 (.ofNat n))
abbrev Cy (n : Nat) : CV := .k (.int .u8 (.ofNat n))
abbrev Ct : CV := .k (.bool true)
abbrev Cf : CV := .k (.bool false)
def veq2 : Value → Value → Bool
  | .int k (.ofNat a), .int l (.ofNat b) => match Nat.beq a b with | true => decide (k = l) | false => false
  | a, b => veq a b
theorem veq2_ok {a b : Value} (h : veq2 a b = true) : a = b := by
  unfold veq2 at h
  split at h
  · split at h
    · rename_i hb; rw [Nat.eq_of_beq_eq_true hb, of_decide_eq_true h]
    · cases h
  · exact veq_ok h
def ceq2 : CV → CV → Bool
  | .k a, .k b => veq2 a b
  | .yd a, .yd b => Nat.beq a b
  | a, b => ceq a b
theorem ceq2_ok {a b : CV} (h : ceq2 a b = true) : a = b := by
  unfold ceq2 at h
  split at h
  · rw [veq2_ok h]
  · rw [Nat.eq_of_beq_eq_true h]
  · exact ceq_ok h
def lceq2 : List CV → List CV → Bool
  | [], [] => true
  | a :: l, b :: m => match ceq2 a b with | true => lceq2 l m | false => false
  | _, _ => false
theorem lceq2_ok : ∀ {l m : List CV}, lceq2 l m = true → l = m
  | [], [], _ => rfl
  | a :: l, b :: m, h => by
    unfold lceq2 at h
    split at h
    · rename_i hab; rw [ceq2_ok hab, lceq2_ok h]
    · cases h
  | [], _ :: _, h => by cases h
  | _ :: _, [], h => by cases h
def aeq2 : AV → AV → Bool
  | .one a, .one b => ceq2 a b
  | .agg a, .agg b => lceq2 a b
  | _, _ => false
theorem aeq2_ok {a b : AV} (h : aeq2 a b = true) : a = b := by
  unfold aeq2 at h
  split at h
  · rw [ceq2_ok h]
  · rw [lceq2_ok h]
  · cases h
def laeq2 : List AV → List AV → Bool
  | [], [] => true
  | a :: l, b :: m => match aeq2 a b with | true => laeq2 l m | false => false
  | _, _ => false
theorem laeq2_ok : ∀ {l m : List AV}, laeq2 l m = true → l = m
  | [], [], _ => rfl
  | a :: l, b :: m, h => by
    unfold laeq2 at h
    split at h
    · rename_i hab; rw [aeq2_ok hab, laeq2_ok h]
    · cases h
  | [], _ :: _, h => by cases h
  | _ :: _, [], h => by cases h
def geq2 : GV → GV → Bool
  | .val a, .val b => aeq2 a b
  | .tup a, .tup b => laeq2 a b
  | _, _ => false
theorem geq2_ok {a b : GV} (h : geq2 a b = true) : a = b := by
  unfold geq2 at h
  split at h
  · rw [aeq2_ok h]
  · rw [laeq2_ok h]
  · cases h
def lgeq2 : List GV → List GV → Bool
  | [], [] => true
  | a :: l, b :: m => match geq2 a b with | true => lgeq2 l m | false => false
  | _, _ => false
theorem lgeq2_ok : ∀ {l m : List GV}, lgeq2 l m = true → l = m
  | [], [], _ => rfl
  | a :: l, b :: m, h => by
    unfold lgeq2 at h
    split at h
    · rename_i hab; rw [geq2_ok hab, lgeq2_ok h]
    · cases h
  | [], _ :: _, h => by cases h
  | _ :: _, [], h => by cases h
def lveq : List Value → List Value → Bool
  | [], [] => true
  | a :: l, b :: m => match veq2 a b with | true => lveq l m | false => false
  | _, _ => false
theorem lveq_ok : ∀ {l m : List Value}, lveq l m = true → l = m
  | [], [], _ => rfl
  | a :: l, b :: m, h => by
    unfold lveq at h
    split at h
    · rename_i hab; rw [veq2_ok hab, lveq_ok h]
    · cases h
  | [], _ :: _, h => by cases h
  | _ :: _, [], h => by cases h
def kveq : Value → Value → Bool
  | .agg a, .agg b => lveq a.toList b.toList
  | a, b => veq2 a b
theorem kveq_ok {a b : Value} (h : kveq a b = true) : a = b := by
  unfold kveq at h
  split at h
  · rename_i x y
    have := lveq_ok h
    rw [show x = y from by rw [← Array.toArray_toList (xs := x), this]]
  · exact veq2_ok h
def leneq : List AEnt → List AEnt → Bool
  | [], [] => true
  | ⟨k, v, b⟩ :: l, ⟨k', v', b'⟩ :: m => match kveq k k', aeq2 v v', Nat.beq b b' with | true, true, true => leneq l m | _, _, _ => false
  | _, _ => false
theorem leneq_ok : ∀ {l m : List AEnt}, leneq l m = true → l = m
  | [], [], _ => rfl
  | ⟨k, v, b⟩ :: l, ⟨k', v', b'⟩ :: m, h => by
    unfold leneq at h
    split at h
    · rename_i h1 h2 h3; rw [kveq_ok h1, aeq2_ok h2, Nat.eq_of_beq_eq_true h3, leneq_ok h]
    · cases h
  | [], _ :: _, h => by cases h
  | _ :: _, [], h => by cases h
def lneq : List Nat → List Nat → Bool
  | [], [] => true
  | a :: l, b :: m => match Nat.beq a b with | true => lneq l m | false => false
  | _, _ => false
theorem lneq_ok : ∀ {l m : List Nat}, lneq l m = true → l = m
  | [], [], _ => rfl
  | a :: l, b :: m, h => by
    unfold lneq at h
    split at h
    · rename_i hab; rw [Nat.eq_of_beq_eq_true hab, lneq_ok h]
    · cases h
  | [], _ :: _, h => by cases h
  | _ :: _, [], h => by cases h
def beqB : Bool → Bool → Bool
  | true, true => true
  | false, false => true
  | _, _ => false
theorem beqB_ok {a b : Bool} (h : beqB a b = true) : a = b := by cases a <;> cases b <;> first | rfl | cases h
def aoeq : AO → AO → Bool
  | .cells e z g cs, .cells e' z' g' cs' => match Nat.beq e e', Nat.beq z z', beqB g g' with | true, true, true => lceq2 cs cs' | _, _, _ => false
  | .map es c, .map es' c' => match Nat.beq c c' with | true => leneq es es' | false => false
  | .mit m a l b, .mit m' a' l' b' => match onE m m', Nat.beq a a', Nat.beq b b' with | true, true, true => lneq l l' | _, _, _ => false
  | .dead, .dead => true
  | _, _ => false
theorem aoeq_ok {a b : AO} (h : aoeq a b = true) : a = b := by
  unfold aoeq at h
  split at h
  · split at h
    · rename_i h1 h2 h3; rw [Nat.eq_of_beq_eq_true h1, Nat.eq_of_beq_eq_true h2, beqB_ok h3, lceq2_ok h]
    · cases h
  · split at h
    · rename_i h1; rw [Nat.eq_of_beq_eq_true h1, leneq_ok h]
    · cases h
  · split at h
    · rename_i h1 h2 h3; rw [onE_ok h1, Nat.eq_of_beq_eq_true h2, Nat.eq_of_beq_eq_true h3, lneq_ok h]
    · cases h
  · rfl
  · cases h
end Go.Proofs.YtnmjfakibhekmaaGreatDoor
