/- Runs in which all is known but where blocks stand: literals, append. Nothing of the program is named here. -/
import Derived.Test.YtnmjfakibhekmaaGreatDoorRn6
import Derived.Maps.AppendAt
namespace Go.Proofs.YtnmjfakibhekmaaGreatDoor
set_option maxRecDepth 100000
open Go.RowKit

section
variable {P : Program} {G : Glo} {B0 : Nat} {R : Lay} {H H' : AH} {w w' : World} {t : TypeId} {x y r : GV} {u v : Value}
/-! ## Struct and array values. -/
def setAll {α : Type} : List α → Nat → List α → List α
  | cs, _, [] => cs
  | cs, o, x :: r => setAll (cs.set o x) (o + 1) r
theorem setAll_len {α : Type} : ∀ (xs : List α) (cs : List α) (o : Nat), (setAll cs o xs).length = cs.length
  | [], _, _ => rfl
  | x :: r, cs, o => by unfold setAll; rw [setAll_len r]; simp
theorem All2.setAll {α β : Type} {r : α → β → Prop} : ∀ {xs : List α} {ys : List β}, All2 r xs ys → ∀ {cs : List α} {ds : List β}, All2 r cs ds → ∀ o, All2 r (Go.Proofs.YtnmjfakibhekmaaGreatDoor.setAll cs o xs) (Go.Proofs.YtnmjfakibhekmaaGreatDoor.setAll ds o ys) := by
  intro xs ys h
  induction h with
  | nil => intro cs ds hc o; exact hc
  | cons h1 _ ih => intro cs ds hc o; exact ih (hc.set h1 o) (o + 1)
theorem fold_setAll : ∀ (vs : List Value) (k off : Nat) (cs : List Value), ((vs.zipIdx k).foldl (fun (a : Array Value) (p : Value × Nat) => a.setIfInBounds (off + p.2) p.1) cs.toArray) = (setAll cs (off + k) vs).toArray
  | [], _, _, _ => rfl
  | v :: r, k, off, cs => by
    simp only [List.zipIdx_cons, List.foldl_cons]
    rw [List.setIfInBounds_toArray, fold_setAll r (k + 1) off]
    rfl
def fillA (pl : Nat → Option (Nat × Nat)) : List CV → List (Nat × GV) → Option (List CV)
  | cs, [] => some cs
  | cs, (i, x) :: r => match pl i, cellsG x with
    | some (off, sz), some xs => match Nat.beq xs.length sz, Nat.ble (off + sz) cs.length with
      | true, true => fillA pl (setAll cs off xs) r
      | _, _ => none
    | _, _ => none
def PartR (R : Lay) (a : Nat × GV) (b : Nat × Value) : Prop := b.1 = a.1 ∧ a.2.rel R b.2
theorem fillA_ok {pl : Nat → Option (Nat × Nat)} : ∀ {ps : List (Nat × GV)} {qs : List (Nat × Value)}, All2 (PartR R) ps qs → ∀ {cs cs' : List CV} {ds : List Value}, All2 (CR R) cs ds → fillA pl cs ps = some cs' →
    ∃ ds', Instr.fill pl ds.toArray qs = some (List.toArray ds') ∧ All2 (CR R) cs' ds' := by
  intro ps qs h
  induction h with
  | nil => intro cs cs' ds hc hf; cases hf; exact ⟨ds, rfl, hc⟩
  | @cons a b l m hab _ ih =>
    intro cs cs' ds hc hf
    obtain ⟨i, x⟩ := a
    obtain ⟨j, q⟩ := b
    obtain ⟨h1, h2⟩ := hab
    simp only at h1 h2
    subst h1
    unfold fillA at hf
    split at hf
    · rename_i off sz xs hp hx
      split at hf
      · rename_i e1 e2
        have e1 := Nat.eq_of_beq_eq_true e1
        have e2 := Nat.le_of_ble_eq_true e2
        have hcl := cellsG_ok hx h2
        obtain ⟨ds', h3, h4⟩ := ih (hcl.setAll hc off) hf
        refine ⟨ds', ?_, h4⟩
        have hsz : q.cells.size = sz := by have := hcl.len; simp at this; omega
        have hdl := hc.len
        unfold Instr.fill
        simp only [hp]
        rw [if_neg (by simp [hsz]; omega)]
        rw [← h3]
        congr 1
        have hq : q.cells = q.cells.toList.toArray := by simp
        have := fold_setAll q.cells.toList 0 off ds
        rw [Nat.add_zero] at this
        rw [← this]
        generalize q.cells.toList = ql at hq
        rw [hq]
        simp
      · cases hf
    · cases hf
def placesA (P : Program) : List Field → Option (List (Nat × Nat))
  | [] => some []
  | f :: r => match P.info? f.type, placesA P r with | some i, some l => some ((f.offset, i.size) :: l) | _, _ => none
theorem placesA_ok : ∀ {fs : List Field} {l : List (Nat × Nat)}, placesA P fs = some l → fs.mapM (fun f => (P.info? f.type).map fun i => (f.offset, i.size)) = some l
  | [], _, h => by cases h; rfl
  | f :: r, l, h => by
    unfold placesA at h
    split at h
    · rename_i i l' hi hl
      cases h
      simp [hi, placesA_ok hl]
    · cases h
def bldG (P : Program) (t : TypeId) (ps : List (Nat × GV)) : Option GV :=
  match P.info? t, P.underlying t, zeroCs P t with
  | some _, some (.struct fs), some cs => match placesA P fs.toList with
    | some l => match fillA (fun i => l[i]?) cs ps with | some cs' => some (.val (.agg cs')) | none => none
    | none => none
  | some _, some (.array _ e), some cs => match P.info? e with
    | some ie => match fillA (fun i => some (i * ie.size, ie.size)) cs ps with | some cs' => some (.val (.agg cs')) | none => none
    | none => none
  | _, _, _ => none
theorem bld_yld {ps : List (Nat × GV)} {qs : List (Nat × Value)} (h : bldG P t ps = some r) (hp : All2 (PartR R) ps qs) : Yld (bld P t qs.toArray) R r w := by
  unfold bldG at h
  split at h
  · rename_i it fs cs hi hu hz
    obtain ⟨z, hz1, hz2⟩ := zeroCs_ok (R := R) hz
    split at h
    · rename_i l hl
      split at h
      · rename_i cs' hf
        cases h
        obtain ⟨ds', h1, h2⟩ := fillA_ok hp hz2 hf
        have hzz : it.zero = some z := by rw [hi] at hz1; exact hz1
        refine ⟨_, ⟨ds', h2, rfl⟩, fun K hk => bld_of ?_ hk⟩
        unfold Program.built
        simp only [hi, hu, hzz, placesA_ok hl]
        have : (fun (x : Nat) => l.toArray[x]?) = fun (i : Nat) => l[i]? := by funext i; simp
        rw [this]
        simpa using h1
      · cases h
    · cases h
  · rename_i it n e cs hi hu hz
    obtain ⟨z, hz1, hz2⟩ := zeroCs_ok (R := R) hz
    split at h
    · rename_i ie hie
      split at h
      · rename_i cs' hf
        cases h
        obtain ⟨ds', h1, h2⟩ := fillA_ok hp hz2 hf
        have hzz : it.zero = some z := by rw [hi] at hz1; exact hz1
        refine ⟨_, ⟨ds', h2, rfl⟩, fun K hk => bld_of ?_ hk⟩
        unfold Program.built
        simp only [hi, hu, hzz, hie]
        simpa using h1
      · cases h
    · cases h
  · cases h
end
end Go.Proofs.YtnmjfakibhekmaaGreatDoor
