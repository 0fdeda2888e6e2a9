/- Runs in which all is known but where blocks stand: a call that was reckoned by itself, as an intercept. Nothing of the program is named here. -/
import Derived.Test.YtnmjfakibhekmaaGreatDoorRn18
namespace Go.Proofs.YtnmjfakibhekmaaGreatDoor
set_option maxRecDepth 100000
open Go.RowKit

abbrev Ci (n : Nat) : CV := .k (.int .i64 (.ofNat n))
abbrev Cu (n : Nat) : CV := .k (.int .u64 (.ofNat n))
abbrev Cy (n : Nat) : CV := .k (.int .u8 (.ofNat n))
abbrev Ct : CV := .k (.bool true)
abbrev Cf : CV := .k (.bool false)
def veq2 : Value → Value → Bool
  | .int k (.ofNat a), .int l (.ofNat b) => match Nat.beq a b with | true => decide (k = l) | false => false
  | a, b => veq a b
theorem veq2_ok {a b : Value} (h : veq2 a b = true) : a = b := by
  unfold veq2 at h
  split at h
  · split at h
    · rename_i hb; rw [Nat.eq_of_beq_eq_true hb, of_decide_eq_true h]
    · cases h
  · exact veq_ok h
def ceq2 : CV → CV → Bool
  | .k a, .k b => veq2 a b
  | .yd a, .yd b => Nat.beq a b
  | a, b => ceq a b
theorem ceq2_ok {a b : CV} (h : ceq2 a b = true) : a = b := by
  unfold ceq2 at h
  split at h
  · rw [veq2_ok h]
  · rw [Nat.eq_of_beq_eq_true h]
  · exact ceq_ok h
def lceq2 : List CV → List CV → Bool
  | [], [] => true
  | a :: l, b :: m => match ceq2 a b with | true => lceq2 l m | false => false
  | _, _ => false
theorem lceq2_ok : ∀ {l m : List CV}, lceq2 l m = true → l = m
  | [], [], _ => rfl
  | a :: l, b :: m, h => by
    unfold lceq2 at h
    split at h
    · rename_i hab; rw [ceq2_ok hab, lceq2_ok h]
    · cases h
  | [], _ :: _, h => by cases h
  | _ :: _, [], h => by cases h
def aeq2 : AV → AV → Bool
  | .one a, .one b => ceq2 a b
  | .agg a, .agg b => lceq2 a b
  | _, _ => false
theorem aeq2_ok {a b : AV} (h : aeq2 a b = true) : a = b := by
  unfold aeq2 at h
  split at h
  · rw [ceq2_ok h]
  · rw [lceq2_ok h]
  · cases h
def laeq2 : List AV → List AV → Bool
  | [], [] => true
  | a :: l, b :: m => match aeq2 a b with | true => laeq2 l m | false => false
  | _, _ => false
theorem laeq2_ok : ∀ {l m : List AV}, laeq2 l m = true → l = m
  | [], [], _ => rfl
  | a :: l, b :: m, h => by
    unfold laeq2 at h
    split at h
    · rename_i hab; rw [aeq2_ok hab, laeq2_ok h]
    · cases h
  | [], _ :: _, h => by cases h
  | _ :: _, [], h => by cases h
def geq2 : GV → GV → Bool
  | .val a, .val b => aeq2 a b
  | .tup a, .tup b => laeq2 a b
  | _, _ => false
theorem geq2_ok {a b : GV} (h : geq2 a b = true) : a = b := by
  unfold geq2 at h
  split at h
  · rw [aeq2_ok h]
  · rw [laeq2_ok h]
  · cases h
def lgeq2 : List GV → List GV → Bool
  | [], [] => true
  | a :: l, b :: m => match geq2 a b with | true => lgeq2 l m | false => false
  | _, _ => false
theorem lgeq2_ok : ∀ {l m : List GV}, lgeq2 l m = true → l = m
  | [], [], _ => rfl
  | a :: l, b :: m, h => by
    unfold lgeq2 at h
    split at h
    · rename_i hab; rw [geq2_ok hab, lgeq2_ok h]
    · cases h
  | [], _ :: _, h => by cases h
  | _ :: _, [], h => by cases h
def lveq : List Value → List Value → Bool
  | [], [] => true
  | a :: l, b :: m => match veq2 a b with | true => lveq l m | false => false
  | _, _ => false
theorem lveq_ok : ∀ {l m : List Value}, lveq l m = true → l = m
  | [], [], _ => rfl
  | a :: l, b :: m, h => by
    unfold lveq at h
    split at h
    · rename_i hab; rw [veq2_ok hab, lveq_ok h]
    · cases h
  | [], _ :: _, h => by cases h
  | _ :: _, [], h => by cases h
def kveq : Value → Value → Bool
  | .agg a, .agg b => lveq a.toList b.toList
  | a, b => veq2 a b
theorem kveq_ok {a b : Value} (h : kveq a b = true) : a = b := by
  unfold kveq at h
  split at h
  · rename_i x y
    have := lveq_ok h
    rw [show x = y from by rw [← Array.toArray_toList (xs := x), this]]
  · exact veq2_ok h
def leneq : List AEnt → List AEnt → Bool
  | [], [] => true
  | ⟨k, v, b⟩ :: l, ⟨k', v', b'⟩ :: m => match kveq k k', aeq2 v v', Nat.beq b b' with | true, true, true => leneq l m | _, _, _ => false
  | _, _ => false
theorem leneq_ok : ∀ {l m : List AEnt}, leneq l m = true → l = m
  | [], [], _ => rfl
  | ⟨k, v, b⟩ :: l, ⟨k', v', b'⟩ :: m, h => by
    unfold leneq at h
    split at h
    · rename_i h1 h2 h3; rw [kveq_ok h1, aeq2_ok h2, Nat.eq_of_beq_eq_true h3, leneq_ok h]
    · cases h
  | [], _ :: _, h => by cases h
  | _ :: _, [], h => by cases h
def lneq : List Nat → List Nat → Bool
  | [], [] => true
  | a :: l, b :: m => match Nat.beq a b with | true => lneq l m | false => false
  | _, _ => false
theorem lneq_ok : ∀ {l m : List Nat}, lneq l m = true → l = m
  | [], [], _ => rfl
  | a :: l, b :: m, h => by
    unfold lneq at h
    split at h
    · rename_i hab; rw [Nat.eq_of_beq_eq_true hab, lneq_ok h]
    · cases h
  | [], _ :: _, h => by cases h
  | _ :: _, [], h => by cases h
def beqB : Bool → Bool → Bool
  | true, true => true
  | false, false => true
  | _, _ => false
theorem beqB_ok {a b : Bool} (h : beqB a b = true) : a = b := by cases a <;> cases b <;> first | rfl | cases h
def aoeq : AO → AO → Bool
  | .cells e z g cs, .cells e' z' g' cs' => match Nat.beq e e', Nat.beq z z', beqB g g' with | true, true, true => lceq2 cs cs' | _, _, _ => false
  | .map es c, .map es' c' => match Nat.beq c c' with | true => leneq es es' | false => false
  | .mit m a l b, .mit m' a' l' b' => match onE m m', Nat.beq a a', Nat.beq b b' with | true, true, true => lneq l l' | _, _, _ => false
  | .dead, .dead => true
  | _, _ => false
theorem aoeq_ok {a b : AO} (h : aoeq a b = true) : a = b := by
  unfold aoeq at h
  split at h
  · split at h
    · rename_i h1 h2 h3; rw [Nat.eq_of_beq_eq_true h1, Nat.eq_of_beq_eq_true h2, beqB_ok h3, lceq2_ok h]
    · cases h
  · split at h
    · rename_i h1; rw [Nat.eq_of_beq_eq_true h1, leneq_ok h]
    · cases h
  · split at h
    · rename_i h1 h2 h3; rw [onE_ok h1, Nat.eq_of_beq_eq_true h2, Nat.eq_of_beq_eq_true h3, lneq_ok h]
    · cases h
  · rfl
  · cases h
/-- All of a stands in b. -/
def subT : Tr AO → Tr AO → Bool
  | .e, _ => true
  | .l a, .l b => aoeq a b
  | .n x y, .n p q => match subT x p with | true => subT y q | false => false
  | _, _ => false
theorem subT_get : ∀ (d : Nat) {a b : Tr AO} {i : Nat} {o : AO}, subT a b = true → Tr.get d a i = some o → Tr.get d b i = some o := by
  intro d
  induction d with
  | zero =>
    intro a b i o h hg
    cases a with
    | l x =>
      cases b with
      | l y => have := aoeq_ok h; subst this; exact hg
      | _ => cases h
    | _ => cases hg
  | succ d ih =>
    intro a b i o h hg
    cases a with
    | n x y =>
      cases b with
      | n p q =>
        unfold subT at h
        split at h
        · rename_i h1
          unfold Tr.get at hg ⊢
          split at hg
          · exact ih h1 hg
          · exact ih h hg
        · cases h
      | _ => cases h
    | _ => cases hg
def eqT : Tr AO → Tr AO → Bool
  | .e, .e => true
  | .l a, .l b => aoeq a b
  | .n x y, .n p q => match eqT x p with | true => eqT y q | false => false
  | _, _ => false
theorem eqT_ok : ∀ {a b : Tr AO}, eqT a b = true → a = b
  | .e, .e, _ => rfl
  | .l a, .l b, h => by rw [aoeq_ok h]
  | .n x y, .n p q, h => by
    unfold eqT at h
    split at h
    · rename_i h1; rw [eqT_ok h1, eqT_ok h]
    · cases h
  | .e, .l _, h => by cases h
  | .e, .n _ _, h => by cases h
  | .l _, .e, h => by cases h
  | .l _, .n _ _, h => by cases h
  | .n _ _, .e, h => by cases h
  | .n _ _, .l _, h => by cases h
/-- What a call comes to, but for what is not asked for any more. -/
def chkM (r : GV) (H1 : AH) : Option (GV × AH) → Bool
  | some (q, H2) => match Nat.beq H1.n H2.n, geq2 r q with | true, true => subT H1.t H2.t | _, _ => false
  | none => false
/-- A call that was reckoned. -/
def mm (f0 : FuncId) (as0 : List GV) (H0 : AH) (r0 : GV) (H1 : AH) : Cl := fun f args H =>
  match Nat.beq f f0 with
  | true => match Nat.beq H0.n H.n, lgeq2 as0 args with
    | true, true => match eqT H0.t H.t with | true => some (r0, H1) | false => none
    | _, _ => none
  | false => none
section
variable {P : Program} {G : Glo} {B0 : Nat} {R : Lay} {H H' H1 : AH} {w w' : World}
theorem get_sub (hn : H1.n = H.n) (h : subT H1.t H.t = true) {i : Nat} {o : AO} (hi : H1.get i = some o) : H.get i = some o := by
  unfold AH.get at *
  rw [← hn]
  split at hi
  · rw [Tr.get13_eq] at hi ⊢; exact subT_get 13 h hi
  · cases hi
theorem Sim.sub (hs : Sim G B0 R H w) (hn : H1.n = H.n) (h : subT H1.t H.t = true) : Sim G B0 R H1 w where
  obj i o hi hl := hs.obj i o (get_sub hn h hi) hl
  inj i j oi oj Li Lj hi hj := hs.inj i j oi oj Li Lj (get_sub hn h hi) (get_sub hn h hj)
  dom i L hi := by rw [hn]; exact hs.dom i L hi
  big := by rw [hn]; exact hs.big
  size := hs.size
  glob := hs.glob
theorem Fr.sub {R0 : Lay} {H0 : AH} {w0 : World} (hf : Fr B0 R0 H0 w0 R H w) (hn : H1.n = H.n) (h : subT H1.t H.t = true) : Fr B0 R0 H0 w0 R H1 w where
  below := hf.below
  keep := hf.keep
  fresh i o L hi hl hL := hf.fresh i o L (get_sub hn h hi) hl hL
theorem mm_ok {cl : Cl} {f0 : FuncId} {as0 : List GV} {H0 : AH} {r0 : GV} (hcl : ClOK P G B0 cl) (h : chkM r0 H1 (cl f0 as0 H0) = true) : ClOK P G B0 (mm f0 as0 H0 r0 H1) := by
  intro f args Ha r Hb R w vs hm hs ha
  unfold mm at hm
  split at hm
  · rename_i hf
    split at hm
    · rename_i hn hl
      split at hm
      · rename_i ht
        cases hm
        have hf := Nat.eq_of_beq_eq_true hf
        have hn := Nat.eq_of_beq_eq_true hn
        have hl := lgeq2_ok hl
        have ht := eqT_ok ht
        have hH : H0 = Ha := by
          cases H0; cases Ha
          simp only at hn ht
          rw [hn, ht]
        subst hf hl hH
        unfold chkM at h
        split at h
        · rename_i q H2 hc
          split at h
          · rename_i h1 h2
            have h1 := Nat.eq_of_beq_eq_true h1
            have h2 := geq2_ok h2
            subst h2
            intro K hK
            exact hcl hc hs ha K fun R' v w' hle hv hs' hf' => hK R' v w' hle hv (hs'.sub h1 h) (hf'.sub h1 h)
          · cases h
        · cases h
      · cases hm
    · cases hm
  · cases hm
end
end Go.Proofs.YtnmjfakibhekmaaGreatDoor
