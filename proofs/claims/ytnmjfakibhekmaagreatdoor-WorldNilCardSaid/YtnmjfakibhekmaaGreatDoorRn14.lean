/- Runs in which all is known but where blocks stand: code. Nothing of the program is named here. -/
import Derived.Test.YtnmjfakibhekmaaGreatDoorRn13
import Derived.Test.YtnmjfakibhekmaaGreatDoorShIn
namespace Go.Proofs.YtnmjfakibhekmaaGreatDoor
set_option maxRecDepth 100000
open Go.RowKit

/-- How a piece of code ends. -/
inductive Out where
  | nrm (E : Tr GV) (H : AH)
  | ext (i : Nat) (E : Tr GV) (H : AH)
  | ret (E : Tr GV) (H : AH)
def Out.E : Out → Tr GV
  | .nrm E _ => E
  | .ext _ E _ => E
  | .ret E _ => E
def Out.H : Out → AH
  | .nrm _ H => H
  | .ext _ _ H => H
  | .ret _ H => H
def Out.k : Out → KE → (Nat → KE) → KE → KE
  | .nrm _ _, N, _, _ => N
  | .ext i _ _, _, X, _ => X i
  | .ret _ _, _, _, R => R

/-- A loop, opened. -/
def unr (P : Program) (c : Code) (X : Nat → KE) (Rt : KE) : Nat → KE
  | 0 => fun _ _ => False
  | k + 1 => fun e w => cCode P c (unr P c X Rt k) X Rt e w
theorem leastN {p : Nat → Prop} : ∀ k, p k → ∃ m, p m ∧ ∀ j, j < m → ¬ p j := by
  intro k
  induction k using Nat.strongRecOn with
  | ind k ih =>
    intro hk
    by_cases h : ∃ j, j < k ∧ p j
    · obtain ⟨j, h1, h2⟩ := h; exact ih j h1 h2
    · exact ⟨k, hk, fun j h1 h2 => h ⟨j, h1, h2⟩⟩
open Classical in
theorem loop_unr {P : Program} {c : Code} {N : KE} {X : Nat → KE} {Rt : KE} {k : Nat} {e : Env} {w : World} (h : unr P c X Rt k e w) : cCode P (.loop c) N X Rt e w := by
  have hm : ∀ e w, (∃ k, unr P c X Rt k e w) → ∃ m, unr P c X Rt m e w ∧ ∀ j, j < m → ¬ unr P c X Rt j e w := fun e w ⟨k, hk⟩ => leastN (p := fun k => unr P c X Rt k e w) k hk
  refine ⟨fun e w => ∃ k, unr P c X Rt k e w, fun e w => if hh : ∃ k, unr P c X Rt k e w then Classical.choose (hm e w hh) else 0, ⟨k, h⟩, ?_⟩
  intro e' w' hI
  have hsp := Classical.choose_spec (hm e' w' hI)
  simp only [dif_pos hI]
  generalize Classical.choose (hm e' w' hI) = m at hsp
  cases m with
  | zero => exact hsp.1.elim
  | succ m =>
    refine cCode_frame c hsp.1 (fun e2 w2 _ h2 => ?_) (fun _ _ _ _ h => h) (fun _ _ _ h => h)
    have hI2 : ∃ k, unr P c X Rt k e2 w2 := ⟨m, h2⟩
    refine ⟨hI2, ?_⟩
    simp only [dif_pos hI2]
    have hs2 := Classical.choose_spec (hm e2 w2 hI2)
    by_cases hlt : Classical.choose (hm e2 w2 hI2) < m + 1
    · exact hlt
    · exact absurd h2 (hs2.2 m (by omega))
def Gd (P : Program) (f : Nat) (c : Code) (N : KE) (X : Nat → KE) (Rt : KE) : KE := match c with | .loop b => unr P b X Rt f | c => cCode P c N X Rt
theorem Gd.code {P : Program} {f : Nat} {c : Code} {N : KE} {X : Nat → KE} {Rt : KE} {e : Env} {w : World} (h : Gd P f c N X Rt e w) : cCode P c N X Rt e w := by
  cases c with
  | loop b => exact loop_unr h
  | _ => exact h

def isT (E : Tr GV) (n : Nat) (c : Operand) : Option Bool := match evG E n c with | some (.val (.one (.k (.bool b)))) => some b | _ => none
/-- What was reckoned ahead of a region that draws: whether it is held; how many of its operations come in the text's order. -/
abbrev Ht := Nat → Option (Bool × Nat)
def hintB (P : Program) (ht : Ht) : Code → Bool
  | .region id ops draw => match draw with
    | false => true
    | true => match ht id with
      | none => true
      | some (h, d) => match heldB P ops, h with
        | true, true => true
        | false, false => Nat.beq (drawN ops) d
        | _, _ => false
  | .seq a b => match hintB P ht a with | true => hintB P ht b | false => false
  | .cond _ a b => match hintB P ht a with | true => hintB P ht b | false => false
  | .block _ c => hintB P ht c
  | .loop c => hintB P ht c
  | .rangeFunc _ _ a b => match hintB P ht a with | true => (match hintB P ht b with | true => (match ndC a with | true => ndC b | false => false) | false => false) | false => false
  | _ => true
/-- A region, in one of its readings. -/
def iReg (hd : Option (Bool × Nat)) (cl : Cl) (cp : Cp) (P : Program) (G : Glo) (n : Nat) (ops : Array Oper) (E : Tr GV) (H : AH) : Option (Tr GV × AH) :=
  match P.follows .mixedOrders with
  | true => match hd with
    | some (true, _) => iHR cl cp P G n ops (ops.size + ops.size + 2) ops.size (Array.replicate ops.size false) [] E H [] []
    | some (false, d) => match Nat.ble d ops.size with
      | true => match iGrpS cp P G H n ops.toList (grp (ops.toList.take d)) E with
        | some E1 => iGrp cl P G n ops.toList (grp (ops.toList.drop d)) E1 H
        | none => none
      | false => none
    | none => none
  | false => none
def nrmO : Option (Tr GV × AH) → Option Out
  | some (E, H) => some (.nrm E H)
  | none => none
def iCode (ht : Ht) (cl : Cl) (cp : Cp) (P : Program) (G : Glo) (n : Nat) : Nat → Code → Tr GV → AH → Option Out
  | 0, _, _, _ => none
  | f + 1, c, E, H =>
    match c with
    | .skip => some (.nrm E H)
    | .region id ops draw => match draw with
      | false => nrmO (iGrp cl P G n ops.toList (grp ops.toList) E H)
      | true => nrmO (iReg (ht id) cl cp P G n ops E H)
    | .seq a b => match iCode ht cl cp P G n f a E H with
      | some (.nrm E1 H1) => iCode ht cl cp P G n f b E1 H1
      | r => r
    | .cond c x y => match isT E n c with
      | some true => iCode ht cl cp P G n f x E H
      | some false => iCode ht cl cp P G n f y E H
      | none => none
    | .block id c => match iCode ht cl cp P G n f c E H with
      | some (.ext i E1 H1) => match Nat.beq i id with | true => some (.nrm E1 H1) | false => some (.ext i E1 H1)
      | r => r
    | .loop c => match iCode ht cl cp P G n f c E H with
      | some (.nrm E1 H1) => iCode ht cl cp P G n f (.loop c) E1 H1
      | r => r
    | .exit i => some (.ext i E H)
    | .ret => some (.ret E H)
    | _ => none
section
variable {P : Program} {G : Glo} {B0 : Nat} {R : Lay} {H H' : AH} {w w' : World} {n : Nat} {E E' : Tr GV} {e : Env} {cl : Cl} {cp : Cp} {K : KE} {ht : Ht}
theorem isT_ok {c : Operand} {b : Bool} (h : isT E n c = some b) (he : EnvR R n E e) : ev e c = .bool b := by
  unfold isT at h
  split at h
  · rename_i b' hb
    cases h
    have := evG_rel he hb
    exact this
  · cases h
theorem Fr.drew (hs : Sim G B0 R H w) : Fr B0 R H w R H w.drew := below_fr hs (Below.refl _ w).drew
theorem nrmO_some {x : Option (Tr GV × AH)} {o : Out} (h : nrmO x = some o) : ∃ E H, x = some (E, H) ∧ o = .nrm E H := by
  unfold nrmO at h
  split at h
  · cases h; exact ⟨_, _, rfl, rfl⟩
  · cases h
theorem iReg_ok (hcl : ClOK P G B0 cl) (hcp : CpOK P G B0 cp) {id : Nat} {ops : Array Oper} {X : Nat → KE} {Rt : KE} (hh : hintB P ht (.region id ops true) = true) (h : iReg (ht id) cl cp P G n ops E H = some (E', H')) (he : EnvR R n E e) (hs : Sim G B0 R H w)
    (hK : ∀ R' e' w', Lay.le R R' → EnvR R' n E' e' → Sim G B0 R' H' w' → Fr B0 R H w R' H' w' → K e' w') : cCode P (.region id ops true) K X Rt e w := by
  have hs' : Sim G B0 R H w.drew := hs.below (Below.refl _ w).drew
  have hf' : Fr B0 R H w R H w.drew := Fr.drew hs
  unfold iReg at h
  unfold cCode
  unfold hintB at hh
  simp only at hh
  split at h
  · rename_i hm
    split at h
    · rename_i d hd
      rw [hd] at hh
      have hd2 : heldB P ops = true := by
        simp only at hh
        split at hh <;> first | assumption | cases hh | (rename_i h1 h2; cases h2)
      have : (P.follows .mixedOrders && heldB P ops) = true := by rw [hm, hd2]; rfl
      rw [this]
      show hReg (fun S w => hRun P ops K ops.size (Array.replicate ops.size false) [] S e w) w.drew
      have := iHR_ok (K := K) (R0 := R) (H0 := H) (w0 := w) (ops := ops) hcl hcp hK _ h (m := fun _ => false) (al := fun _ => 0) (fc := ops.size) (pc := []) he hs' rfl (fun _ hh => by cases hh) Erl.nil (fun x hx => by cases hx) (fun q hq => by cases hq) (Lay.le.refl R) hf'
      obtain ⟨S', _, b, c⟩ := this [] (fun Q hQ => by cases hQ)
      exact ⟨S', b, c⟩
    · rename_i d hd
      rw [hd] at hh
      have hd2 : heldB P ops = false ∧ drawN ops = d := by
        simp only at hh
        split at hh
        · rename_i h1 h2; cases h2
        · rename_i h1 _; exact ⟨h1, Nat.eq_of_beq_eq_true hh⟩
        · cases hh
      obtain ⟨hd2, rfl⟩ := hd2
      have : (P.follows .mixedOrders && heldB P ops) = false := by rw [hm, hd2]; rfl
      rw [this]
      split at h
      · rename_i hb
        have : (P.follows .mixedOrders && Nat.ble (drawN ops) ops.size) = true := by rw [hm, hb]; rfl
        show @Bool.rec (fun _ => Prop) False (sGrp P ops.toList (grp (ops.toList.take (drawN ops))) (cGrp P ops.toList (grp (ops.toList.drop (drawN ops))) K) e w.drew) (P.follows .mixedOrders && Nat.ble (drawN ops) ops.size)
        rw [this]
        show sGrp P ops.toList (grp (ops.toList.take (drawN ops))) (cGrp P ops.toList (grp (ops.toList.drop (drawN ops))) K) e w.drew
        split at h
        · rename_i E1 h1
          refine iGrpS_ok hcp hs' h1 he fun e1 he1 => ?_
          exact iGrp_ok hcl h he1 hs' fun R' e' w' hle he' hs2 hf2 => hK R' e' w' hle he' hs2 (hf'.trans hf2)
        · cases h
      · cases h
    · cases h
  · cases h
theorem hint2 {a b : Code} (h : (match hintB P ht a with | true => hintB P ht b | false => false) = true) : hintB P ht a = true ∧ hintB P ht b = true := by
  split at h
  · rename_i h1; exact ⟨h1, h⟩
  · cases h
theorem iCode_ok (hcl : ClOK P G B0 cl) (hcp : CpOK P G B0 cp) : ∀ (f : Nat) {c : Code} {E : Tr GV} {H : AH} {o : Out}, hintB P ht c = true → iCode ht cl cp P G n f c E H = some o → ∀ {R : Lay} {e : Env} {w : World} {N : KE} {X : Nat → KE} {Rt : KE}, EnvR R n E e → Sim G B0 R H w →
    (∀ R' e' w', Lay.le R R' → EnvR R' n o.E e' → Sim G B0 R' o.H w' → Fr B0 R H w R' o.H w' → o.k N X Rt e' w') → Gd P f c N X Rt e w := by
  intro f
  induction f with
  | zero => intro c E H o _ h; cases h
  | succ f ih =>
    intro c E H o hh h R e w N X Rt he hs hK
    unfold iCode at h
    cases c with
    | skip => cases h; exact hK R e w (Lay.le.refl R) he hs (Fr.refl ..)
    | region id ops draw =>
      cases draw with
      | false =>
        obtain ⟨E1, H1, h1, rfl⟩ := nrmO_some h
        exact iGrp_ok hcl h1 he hs hK
      | true =>
        obtain ⟨E1, H1, h1, rfl⟩ := nrmO_some h
        exact iReg_ok (id := id) (X := X) (Rt := Rt) hcl hcp hh h1 he hs hK
    | seq a b =>
      have hh := hint2 hh
      simp only at h
      split at h
      · rename_i E1 H1 h1
        exact (ih hh.1 h1 he hs fun R1 e1 w1 hle he1 hs1 hf1 => (ih hh.2 h he1 hs1 fun R2 e2 w2 hle2 he2 hs2 hf2 => hK R2 e2 w2 (hle.trans hle2) he2 hs2 (hf1.trans hf2)).code).code
      · rename_i hno
        refine (ih (c := a) (N := cCode P b N X Rt) (X := X) (Rt := Rt) hh.1 h he hs fun R1 e1 w1 hle he1 hs1 hf1 => ?_).code
        have := hK R1 e1 w1 hle he1 hs1 hf1
        cases o with
        | nrm E1 H1 => exact absurd h (hno E1 H1)
        | ext i E1 H1 => exact this
        | ret E1 H1 => exact this
    | cond c x y =>
      have hh := hint2 hh
      simp only at h
      split at h
      · rename_i hc
        exact ⟨true, isT_ok hc he, fun _ => (ih hh.1 h he hs hK).code, fun hh => by cases hh⟩
      · rename_i hc
        exact ⟨false, isT_ok hc he, fun hh => (by cases hh), fun _ => (ih hh.2 h he hs hK).code⟩
      · cases h
    | block id c =>
      have hh : hintB P ht c = true := hh
      simp only at h
      split at h
      · rename_i i E1 H1 h1
        split at h
        · rename_i hb
          cases h
          refine (ih hh h1 he hs fun R1 e1 w1 hle he1 hs1 hf1 => ?_).code
          show (@Bool.rec (fun _ => KE) (X i) N (Nat.beq i id)) e1 w1
          rw [hb]
          exact hK R1 e1 w1 hle he1 hs1 hf1
        · rename_i hb
          cases h
          refine (ih hh h1 he hs fun R1 e1 w1 hle he1 hs1 hf1 => ?_).code
          show (@Bool.rec (fun _ => KE) (X i) N (Nat.beq i id)) e1 w1
          rw [hb]
          exact hK R1 e1 w1 hle he1 hs1 hf1
      · rename_i hno
        refine (ih (c := c) (N := N) (Rt := Rt) hh h he hs fun R1 e1 w1 hle he1 hs1 hf1 => ?_).code
        have := hK R1 e1 w1 hle he1 hs1 hf1
        cases o with
        | nrm E1 H1 => exact this
        | ext i E1 H1 => exact absurd h (hno i E1 H1)
        | ret E1 H1 => exact this
    | loop c =>
      have hh : hintB P ht c = true := hh
      simp only at h
      show unr P c X Rt (f + 1) e w
      unfold unr
      split at h
      · rename_i E1 H1 h1
        refine (ih hh h1 he hs fun R1 e1 w1 hle he1 hs1 hf1 => ?_).code
        have := ih (c := .loop c) (N := N) (X := X) (Rt := Rt) hh h he1 hs1 fun R2 e2 w2 hle2 he2 hs2 hf2 => hK R2 e2 w2 (hle.trans hle2) he2 hs2 (hf1.trans hf2)
        exact this
      · rename_i hno
        refine (ih (c := c) (N := unr P c X Rt f) (X := X) (Rt := Rt) hh h he hs fun R1 e1 w1 hle he1 hs1 hf1 => ?_).code
        have := hK R1 e1 w1 hle he1 hs1 hf1
        cases o with
        | nrm E1 H1 => exact absurd h (hno E1 H1)
        | ext i E1 H1 => exact this
        | ret E1 H1 => exact this
    | exit i => cases h; exact hK R e w (Lay.le.refl R) he hs (Fr.refl ..)
    | ret => cases h; exact hK R e w (Lay.le.refl R) he hs (Fr.refl ..)
    | _ => cases h
end
end Go.Proofs.YtnmjfakibhekmaaGreatDoor
