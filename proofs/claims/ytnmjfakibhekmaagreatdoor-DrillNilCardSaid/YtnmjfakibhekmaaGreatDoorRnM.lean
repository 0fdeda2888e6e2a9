/- Runs in which all is known but where blocks stand: a call that was reckoned by itself, as an intercept. Nothing of the program is named here. -/
import Derived.Test.YtnmjfakibhekmaaGreatDoorRn18
import Derived.Test.YtnmjfakibhekmaaGreatDoorRnE
namespace Go.Proofs.YtnmjfakibhekmaaGreatDoor
set_option maxRecDepth 100000
open Go.RowKit

/-- All of a stands in b. -/
def subT : Tr AO → Tr AO → Bool
  | .e, _ => true
  | .l a, .l b => aoeq a b
  | .n x y, .n p q => match subT x p with | true => subT y q | false => false
  | _, _ => false
theorem subT_get : ∀ (d : Nat) {a b : Tr AO} {i : Nat} {o : AO}, subT a b = true → Tr.get d a i = some o → Tr.get d b i = some o := by
  intro d
  induction d with
  | zero =>
    intro a b i o h hg
    cases a with
    | l x =>
      cases b with
      | l y => have := aoeq_ok h; subst this; exact hg
      | _ => cases h
    | _ => cases hg
  | succ d ih =>
    intro a b i o h hg
    cases a with
    | n x y =>
      cases b with
      | n p q =>
        unfold subT at h
        split at h
        · rename_i h1
          unfold Tr.get at hg ⊢
          split at hg
          · exact ih h1 hg
          · exact ih h hg
        · cases h
      | _ => cases h
    | _ => cases hg
def eqT : Tr AO → Tr AO → Bool
  | .e, .e => true
  | .l a, .l b => aoeq a b
  | .n x y, .n p q => match eqT x p with | true => eqT y q | false => false
  | _, _ => false
theorem eqT_ok : ∀ {a b : Tr AO}, eqT a b = true → a = b
  | .e, .e, _ => rfl
  | .l a, .l b, h => by rw [aoeq_ok h]
  | .n x y, .n p q, h => by
    unfold eqT at h
    split at h
    · rename_i h1; rw [eqT_ok h1, eqT_ok h]
    · cases h
  | .e, .l _, h => by cases h
  | .e, .n _ _, h => by cases h
  | .l _, .e, h => by cases h
  | .l _, .n _ _, h => by cases h
  | .n _ _, .e, h => by cases h
  | .n _ _, .l _, h => by cases h
/-- What a call comes to, but for what is not asked for any more. -/
def chkM (r : GV) (H1 : AH) : Option (GV × AH) → Bool
  | some (q, H2) => match Nat.beq H1.n H2.n, geq2 r q with | true, true => subT H1.t H2.t | _, _ => false
  | none => false
/-- A call that was reckoned. -/
def mm (f0 : FuncId) (as0 : List GV) (H0 : AH) (r0 : GV) (H1 : AH) : Cl := fun f args H =>
  match Nat.beq f f0 with
  | true => match Nat.beq H0.n H.n, lgeq2 as0 args with
    | true, true => match eqT H0.t H.t with | true => some (r0, H1) | false => none
    | _, _ => none
  | false => none
section
variable {P : Program} {G : Glo} {B0 : Nat} {R : Lay} {H H' H1 : AH} {w w' : World}
theorem get_sub (hn : H1.n = H.n) (h : subT H1.t H.t = true) {i : Nat} {o : AO} (hi : H1.get i = some o) : H.get i = some o := by
  unfold AH.get at *
  rw [← hn]
  split at hi
  · rw [Tr.get13_eq] at hi ⊢; exact subT_get 13 h hi
  · cases hi
theorem Sim.sub (hs : Sim G B0 R H w) (hn : H1.n = H.n) (h : subT H1.t H.t = true) : Sim G B0 R H1 w where
  obj i o hi hl := hs.obj i o (get_sub hn h hi) hl
  inj i j oi oj Li Lj hi hj := hs.inj i j oi oj Li Lj (get_sub hn h hi) (get_sub hn h hj)
  dom i L hi := by rw [hn]; exact hs.dom i L hi
  big := by rw [hn]; exact hs.big
  size := hs.size
  glob := hs.glob
theorem Fr.sub {R0 : Lay} {H0 : AH} {w0 : World} (hf : Fr B0 R0 H0 w0 R H w) (hn : H1.n = H.n) (h : subT H1.t H.t = true) : Fr B0 R0 H0 w0 R H1 w where
  below := hf.below
  keep := hf.keep
  fresh i o L hi hl hL := hf.fresh i o L (get_sub hn h hi) hl hL
theorem mm_ok {cl : Cl} {f0 : FuncId} {as0 : List GV} {H0 : AH} {r0 : GV} (hcl : ClOK P G B0 cl) (h : chkM r0 H1 (cl f0 as0 H0) = true) : ClOK P G B0 (mm f0 as0 H0 r0 H1) := by
  intro f args Ha r Hb R w vs hm hs ha
  unfold mm at hm
  split at hm
  · rename_i hf
    split at hm
    · rename_i hn hl
      split at hm
      · rename_i ht
        cases hm
        have hf := Nat.eq_of_beq_eq_true hf
        have hn := Nat.eq_of_beq_eq_true hn
        have hl := lgeq2_ok hl
        have ht := eqT_ok ht
        have hH : H0 = Ha := by
          cases H0; cases Ha
          simp only at hn ht
          rw [hn, ht]
        subst hf hl hH
        unfold chkM at h
        split at h
        · rename_i q H2 hc
          split at h
          · rename_i h1 h2
            have h1 := Nat.eq_of_beq_eq_true h1
            have h2 := geq2_ok h2
            subst h2
            intro K hK
            exact hcl hc hs ha K fun R' v w' hle hv hs' hf' => hK R' v w' hle hv (hs'.sub h1 h) (hf'.sub h1 h)
          · cases h
        · cases h
      · cases hm
    · cases hm
  · cases hm
end
end Go.Proofs.YtnmjfakibhekmaaGreatDoor
