/- Runs in which all is known but where blocks stand: more operations that read. Nothing of the program is named here. -/
import Derived.Test.YtnmjfakibhekmaaGreatDoorRn3
namespace Go.Proofs.YtnmjfakibhekmaaGreatDoor
set_option maxRecDepth 100000
open Go.RowKit

section
variable {P : Program} {G : Glo} {B0 : Nat} {R : Lay} {H : AH} {w : World} {t : TypeId} {x y r : GV} {u v : Value}
/-! ## An element of an array value. -/
def idxV (P : Program) (t : TypeId) (x i : GV) : Option GV :=
  match toV x, toV i with
  | some u, some v => (prun P (Instr.index t u v)).map ofV
  | _, _ => match x, natG i, P.underlying t with
    | .val (.agg cs), some (_, j), some (.array n e) => match Nat.blt j n, P.info? e, P.underlying e with
      | true, some ie, some d => match d.isRow with
        | true => match Nat.beq ((cs.drop (j * ie.size)).take ie.size).length ie.size with | true => some (.val (.agg ((cs.drop (j * ie.size)).take ie.size))) | false => none
        | false => match cs[j * ie.size]? with | some c => some (oneG c) | none => none
      | _, _, _ => none
    | _, _, _ => none
theorem idx_yld {i : GV} (h : idxV P t x i = some r) (hx : x.rel R u) (hi : i.rel R v) : Yld (idx P t u v) R r w := by
  unfold idxV at h
  split at h
  · rename_i a b ha hb
    cases hq : prun P (Instr.index t a b) with
    | none => rw [hq] at h; cases h
    | some q =>
      rw [hq] at h; cases h
      rw [toV_rel ha hx, toV_rel hb hi]
      exact ⟨q, ofV_rel, fun K hk => okV_of (prun_run hq w) hk⟩
  · split at h
    · rename_i cs k j n e hn ht hno
      have hv := natG_rel hn hi
      subst hv
      obtain ⟨vs, hvs, rfl⟩ := hx
      split at h
      · rename_i ie d hb hie hd
        have hlt := blt_iff.1 hb
        have h1 : (0 : Int) ≤ (j : Int) := by omega
        have h2 : ((j : Nat) : Int) < (n : Int) := by omega
        split at h
        · rename_i hr
          split at h
          · rename_i hbq
            cases h
            have ha : ∀ w, (isAgg e).run P w = .ok true w := fun w => by
              unfold isAgg
              rw [Sem.run_bind, run_underlying hd w]
              cases d <;> simp_all [TypeDesc.isRow]
            refine ⟨_, ⟨_, (hvs.drop _).take _, rfl⟩, fun K hk => ?_⟩
            unfold idx
            refine okV_of (w' := w) ?_ hk
            simp only [Instr.index, asIntOf, Sem.run_bind, Sem.run_pure, Result.andThen_ok, run_underlying ht, h1, h2, and_self, if_true, size_run hie, part, ha, Int.toNat_natCast]
            congr 3
            rw [List.extract_toArray]
            simp [List.extract_eq_take_drop]
          · cases h
        · rename_i hr
          split at h
          · rename_i a ha
            cases h
            obtain ⟨v, hv, hav⟩ := hvs.get ha
            refine ⟨v, hav.1, fun K hk => ?_⟩
            unfold idx
            refine okV_of (w' := w) ?_ hk
            simp only [Instr.index, asIntOf, Sem.run_bind, Sem.run_pure, Result.andThen_ok, run_underlying ht, h1, h2, and_self, if_true, size_run hie, part, isAgg_run hd hr, Int.toNat_natCast]
            simp [hv]
          · cases h
      · cases h
    · cases h

/-! ## Parts of slices. -/
def optN : Option GV → Option (Option (IntKind × Nat))
  | none => some none
  | some x => match natG x with | some q => some (some q) | none => none
def optV : Option GV → Option (Option Value)
  | none => some none
  | some x => match toV x with | some q => some (some q) | none => none
def cutG (b o lo n l h z : Nat) : Option Nat → Option GV
  | some m => match Nat.beq m l with
    | true => some (oneG (.s b o 0 (h - l) (some 0)))
    | false => some (oneG (.s b (o + l * z) 0 (h - l) (some (m - l))))
  | none => match Nat.blt l h, Nat.beq l 0 with
    | true, _ => some (oneG (.s b (o + l * z) (lo + l) (h - l) none))
    | false, true => some (oneG (.s b o lo 0 none))
    | false, false => some (oneG (.se b o (o + l * z) lo l))
def slcG (P : Program) (t : TypeId) (x : GV) (lo hi mx : Option GV) : Option GV :=
  match toV x, optV lo, optV hi, optV mx with
  | some u, some l, some h, some m => (prun P (Instr.sliceAt t u l h m)).map kG
  | _, _, _, _ => match P.underlying t, optN lo, optN hi, optN mx, x with
    | some (.slice e), some l, some h, some m, .val (.one (.s b o q n c)) => match P.info? e with
      | some ie =>
        let l' := (l.map (·.2)).getD 0
        let h' := (h.map (·.2)).getD n
        match Nat.ble l' h', m, h, c with
        | true, none, none, none => cutG b o q n l' h' ie.size none
        | true, none, some _, none => match Nat.ble h' n with | true => cutG b o q n l' h' ie.size none | false => none
        | true, none, none, some C => cutG b o q n l' h' ie.size (some C)
        | true, none, some _, some C => match Nat.ble h' C with | true => cutG b o q n l' h' ie.size (some C) | false => none
        | true, some (_, m'), some _, none => match Nat.ble h' m', Nat.ble m' n with | true, true => cutG b o q n l' h' ie.size (some m') | _, _ => none
        | true, some (_, m'), some _, some C => match Nat.ble h' m', Nat.ble m' C with | true, true => cutG b o q n l' h' ie.size (some m') | _, _ => none
        | _, _, _, _ => none
      | none => none
    | some (.slice e), some l, some h, some none, .val (.one (.se b o o' q k)) => match P.info? e, Nat.beq ((l.map (·.2)).getD 0) 0, Nat.beq ((h.map (·.2)).getD 0) 0 with
      | some _, true, true => some x
      | _, _, _ => none
    | some (.array n e), some l, some h, some m, .val (.one (.p b o)) => match P.info? e with
      | some ie =>
        let l' := (l.map (·.2)).getD 0
        let h' := (h.map (·.2)).getD n
        match Nat.ble l' h', Nat.ble h' n, m with
        | true, true, none => cutG b o 0 n l' h' ie.size (some n)
        | _, _, _ => none
      | none => none
    | _, _, _, _, _ => none
def optRel (R : Lay) : Option GV → Option Value → Prop
  | none, none => True
  | some a, some v => a.rel R v
  | _, _ => False
def tv (q : IntKind × Nat) : Value := .int q.1 (q.2 : Int)
theorem optN_rel {lo : Option GV} {l : Option (IntKind × Nat)} {lv : Option Value} (h : optN lo = some l) (hr : optRel R lo lv) : lv = l.map tv := by
  cases lo with
  | none => cases h; cases lv with | none => rfl | some _ => exact hr.elim
  | some a =>
    cases lv with
    | none => exact hr.elim
    | some v =>
      unfold optN at h
      simp only at h
      split at h
      · rename_i q hq; cases h; rw [natG_rel hq hr]; rfl
      · cases h
theorem optV_rel {lo : Option GV} {l lv : Option Value} (h : optV lo = some l) (hr : optRel R lo lv) : lv = l := by
  cases lo with
  | none => cases h; cases lv with | none => rfl | some _ => exact hr.elim
  | some a =>
    cases lv with
    | none => exact hr.elim
    | some v =>
      unfold optV at h
      simp only at h
      split at h
      · rename_i q hq; cases h; rw [toV_rel hq hr]
      · cases h
theorem bnds {isS : Bool} {n C : Nat} {l h m : Option (IntKind × Nat)} (hm : (m.map (·.2)).getD C ≤ C) (hh : ((h.map (·.2)).getD n ≤ (m.map (·.2)).getD C) ∨ h = none) (hl : (l.map (·.2)).getD 0 ≤ (h.map (·.2)).getD n) (hmh : m ≠ none → h ≠ none) :
    ∀ w, (Instr.sliceBounds isS n C (l.map tv) (h.map tv) (m.map tv)).run P w = .ok ((l.map (·.2)).getD 0, (h.map (·.2)).getD n, (m.map (·.2)).getD C) w := by
  intro w
  have sb : ∀ (k : IntKind) (i y : Nat) code, i ≤ y → (Instr.sliceBound (.int k (i : Int)) y code).run P w = .ok i w := fun k i y code hi => by
    have := run_sliceBound (P := P) w k (i : Int) y code (by omega) (by omega)
    simpa using this
  cases m with
  | none =>
    cases h with
    | none =>
      cases l with
      | none => simp [Instr.sliceBounds]
      | some q => simp at hl; simp [Instr.sliceBounds, tv, sb _ _ _ _ hl]
    | some p =>
      have hh : p.2 ≤ C := by simpa using hh
      cases l with
      | none => simp [Instr.sliceBounds, tv, sb _ _ _ _ hh]
      | some q => simp at hl; simp [Instr.sliceBounds, tv, sb _ _ _ _ hh, sb _ _ _ _ hl]
  | some a =>
    cases h with
    | none => exact absurd rfl (hmh (by simp))
    | some p =>
      have hh : p.2 ≤ a.2 := by simpa using hh
      have hm : a.2 ≤ C := by simpa using hm
      cases l with
      | none => simp [Instr.sliceBounds, tv, sb _ _ _ _ hh, sb _ _ _ _ hm]
      | some q => simp at hl; simp [Instr.sliceBounds, tv, sb _ _ _ _ hh, sb _ _ _ _ hm, sb _ _ _ _ hl]
theorem slc_run {e : TypeId} {ie : TypeInfo} {B o n C l h m : Nat} {lo hi mx : Option Value} {K : KV} (ht : P.underlying t = some (.slice e)) (hie : P.info? e = some ie) (hb : ∀ w, (Instr.sliceBounds true n C lo hi mx).run P w = .ok (l, h, m) w)
    (hk : K (.slice (some ⟨B, (if m = l then o else o + l * ie.size), none⟩) (h - l) (m - l)) w) : slc P t (.slice (some ⟨B, o, none⟩) n C) lo hi mx K w := by
  unfold slc
  refine okV_of (w' := w) ?_ hk
  simp only [Instr.sliceAt, Instr.slice, Sem.run_bind, run_underlying ht, Result.andThen_ok, hb, size_run hie, Sem.run_pure]
  split <;> simp [add_p]
theorem slc_runA {e : TypeId} {ie : TypeInfo} {B o n l h m : Nat} {lo hi mx : Option Value} {K : KV} (ht : P.underlying t = some (.array n e)) (hie : P.info? e = some ie) (hb : ∀ w, (Instr.sliceBounds false n n lo hi mx).run P w = .ok (l, h, m) w)
    (hk : K (.slice (some ⟨B, (if m = l then o else o + l * ie.size), none⟩) (h - l) (m - l)) w) : slc P t (.pointer (some ⟨B, o, none⟩)) lo hi mx K w := by
  unfold slc
  refine okV_of (w' := w) ?_ hk
  simp only [Instr.sliceAt, Instr.sureAddr, Sem.run_bind, run_underlying ht, Result.andThen_ok, hb, size_run hie, Sem.run_pure]
  split <;> simp [add_p]
theorem cutG_rel {b o lo n l h z : Nat} {mo : Option Nat} {L : Loc} (hc : cutG b o lo n l h z mo = some r) (hL : R b = some L) (hlh : l ≤ h) (hm : h ≤ mo.getD (L.cap - lo)) :
    r.rel R (.slice (some ⟨L.B, (if mo.getD (L.cap - lo) = l then o else o + l * z), none⟩) (h - l) (mo.getD (L.cap - lo) - l)) := by
  unfold cutG at hc
  cases mo with
  | some m =>
    simp only [Option.getD_some] at *
    split at hc
    · rename_i hb
      cases hc
      have := Nat.eq_of_beq_eq_true hb
      subst this
      refine ⟨L, hL, ?_, ?_⟩
      · simp [capOf]; omega
      · simp [capOf]
    · rename_i hb
      cases hc
      have := eb hb
      simp only [Bool.false_eq_true, if_false] at this
      refine ⟨L, hL, ?_, ?_⟩
      · simp [capOf]; omega
      · rw [if_neg this]; simp [capOf]
  | none =>
    simp only [Option.getD_none] at *
    split at hc
    · rename_i hb
      cases hc
      have := blt_iff.1 hb
      refine ⟨L, hL, ?_, ?_⟩
      · simp [capOf]; omega
      · rw [if_neg (by omega)]; simp [capOf]; omega
    · rename_i hb h0
      cases hc
      have : ¬ l < h := fun hh => by rw [blt_iff.2 hh] at hb; cases hb
      have h0 := Nat.eq_of_beq_eq_true h0
      subst h0
      have : h = 0 := by omega
      subst this
      refine ⟨L, hL, ?_, ?_⟩
      · simp
      · simp [capOf]
    · rename_i hb h0
      cases hc
      have : ¬ l < h := fun hh => by rw [blt_iff.2 hh] at hb; cases hb
      refine ⟨L, hL, ?_⟩
      have : h - l = 0 := by omega
      rw [this]
theorem slc_yld {lo hi mx : Option GV} {lv hv mv : Option Value} (h : slcG P t x lo hi mx = some r) (hx : x.rel R u)
    (hl : optRel R lo lv) (hh : optRel R hi hv) (hm : optRel R mx mv) : Yld (slc P t u lv hv mv) R r w := by
  unfold slcG at h
  split at h
  · rename_i a l h' m ha el eh em
    cases hq : prun P (Instr.sliceAt t a l h' m) with
    | none => rw [hq] at h; cases h
    | some q =>
      rw [hq] at h; cases h
      rw [toV_rel ha hx, optV_rel el hl, optV_rel eh hh, optV_rel em hm]
      exact ⟨q, rfl, fun K hk => okV_of (prun_run hq w) hk⟩
  · split at h
    · rename_i e l h' m b o q n c ht el eh em hno
      rw [optN_rel el hl, optN_rel eh hh, optN_rel em hm]
      obtain ⟨L, hL, hnc, rfl⟩ := hx
      split at h
      · rename_i ie hie
        simp only at h
        have fin : ∀ (mo : Option Nat), cutG b o q n ((l.map (·.2)).getD 0) ((h'.map (·.2)).getD n) ie.size mo = some r → mo.getD (L.cap - q) = (m.map (·.2)).getD (capOf L q c) → (m.map (·.2)).getD (capOf L q c) ≤ capOf L q c →
            ((h'.map (·.2)).getD n ≤ (m.map (·.2)).getD (capOf L q c)) → (l.map (·.2)).getD 0 ≤ (h'.map (·.2)).getD n → (m ≠ none → h' ≠ none) → Yld (slc P t (.slice (some ⟨L.B, o, none⟩) n (capOf L q c)) (l.map tv) (h'.map tv) (m.map tv)) R r w := by
          intro mo hc h1 h2 h3 h4 h5
          refine ⟨_, cutG_rel hc hL h4 (by rw [h1]; exact h3), fun K hk => slc_run ht hie (bnds h2 (.inl h3) h4 h5) ?_⟩
          rw [h1] at hk; exact hk
        split at h
        · rename_i hle; exact fin _ h (by simp [capOf]) (by simp) (by simpa using hnc) (Nat.le_of_ble_eq_true hle) (fun h => absurd rfl h)
        · rename_i hle
          split at h
          · rename_i hhn; exact fin _ h (by simp [capOf]) (by simp) (Nat.le_trans (Nat.le_of_ble_eq_true hhn) (by simpa using hnc)) (Nat.le_of_ble_eq_true hle) (fun h => absurd rfl h)
          · cases h
        · rename_i hle; exact fin _ h (by simp [capOf]) (by simp) (by simpa using hnc) (Nat.le_of_ble_eq_true hle) (fun h => absurd rfl h)
        · rename_i hle
          split at h
          · rename_i hhn; exact fin _ h (by simp [capOf]) (by simp) (Nat.le_trans (Nat.le_of_ble_eq_true hhn) (by simp [capOf])) (Nat.le_of_ble_eq_true hle) (fun h => absurd rfl h)
          · cases h
        · rename_i hle
          split at h
          · rename_i h1 h2; exact fin _ h (by simp) (Nat.le_trans (Nat.le_of_ble_eq_true h2) (by simpa using hnc)) (by simpa using Nat.le_of_ble_eq_true h1) (Nat.le_of_ble_eq_true hle) (fun _ h => by cases h)
          · cases h
        · rename_i hle
          split at h
          · rename_i h1 h2; exact fin _ h (by simp) (Nat.le_trans (Nat.le_of_ble_eq_true h2) (by simp [capOf])) (by simpa using Nat.le_of_ble_eq_true h1) (Nat.le_of_ble_eq_true hle) (fun _ h => by cases h)
          · cases h
        · cases h
      · cases h
    · rename_i e l h' b o o' q k ht el eh em hno
      rw [optN_rel el hl, optN_rel eh hh, optN_rel em hm]
      obtain ⟨L, hL, rfl⟩ := hx
      split at h
      · rename_i ie hie h1 h2
        cases h
        have h1 := Nat.eq_of_beq_eq_true h1
        have h2 := Nat.eq_of_beq_eq_true h2
        refine ⟨_, ⟨L, hL, rfl⟩, fun K hk => slc_run ht hie (bnds (m := none) (by simp) (.inl (by rw [h2]; simp)) (by rw [h1]; exact Nat.zero_le _) (fun h => absurd rfl h)) ?_⟩
        rw [h1, h2]
        simpa using hk
      · cases h
    · rename_i n e l h' m b o ht el eh em hno
      rw [optN_rel el hl, optN_rel eh hh, optN_rel em hm]
      obtain ⟨L, hL, rfl⟩ := hx
      split at h
      · rename_i ie hie
        simp only at h
        split at h
        · rename_i h1 h2
          have h1 := Nat.le_of_ble_eq_true h1
          have h2 := Nat.le_of_ble_eq_true h2
          have := cutG_rel (R := R) h hL h1 (by simpa using h2)
          refine ⟨_, this, fun K hk => slc_runA ht hie (bnds (by simp) (.inl (by simpa using h2)) h1 (fun h => absurd rfl h)) (by simpa using hk)⟩
        · cases h
      · cases h
    · cases h
end
end Go.Proofs.YtnmjfakibhekmaaGreatDoor
