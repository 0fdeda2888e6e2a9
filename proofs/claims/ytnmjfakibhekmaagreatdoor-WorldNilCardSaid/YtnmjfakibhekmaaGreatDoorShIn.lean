/- The second reading implies the model's own within a round of a range over a function, too; a round, and the whole statement, by rules. Nothing of the program is named here. -/
import Derived.Test.YtnmjfakibhekmaaGreatDoorSh
import Derived.OrdersIn
import Derived.TacticsIn
import Derived.RangeFuncIn
import Derived.RangeFuncRecord
import Derived.RangeFuncCalls
namespace Go.Proofs.YtnmjfakibhekmaaGreatDoor
set_option maxRecDepth 100000
open Go.RowKit

/-- No deferred call stands in it. -/
def ndO (o : Oper) : Bool := match o.op with | .defer _ => false | _ => true
def ndC : Code → Bool
  | .region _ ops _ => ops.toList.all ndO
  | .seq a b => match ndC a with | true => ndC b | false => false
  | .cond _ a b => match ndC a with | true => ndC b | false => false
  | .block _ c => ndC c
  | .loop c => ndC c
  | _ => true
section
variable {P : Program} {Q : Exit → Act → World → Prop} {l n : Nat} {ops : Array Oper} {ds : List Deferred}
theorem ndO_ne {o : Oper} (h : ndO o = true) : ∀ c, o.op ≠ .defer c := by
  intro c hc
  unfold ndO at h
  rw [hc] at h
  cases h
theorem op_in {o : Oper} {a : Act} {w : World} {K : Act → World → Prop} (ho : ndO o = true) (h : o.wp P a w K Q) : o.wpIn (Fence.wide.inRound l) n P a w K Q := by
  unfold Oper.wp at h
  unfold Oper.wpIn
  refine ⟨fun _ _ => trivial, ?_⟩
  rw [Oper.semAt_eq _ _ _ (ndO_ne ho)]
  generalize (execOp a.eval o).run P w = r at *
  cases r with
  | ok x w' =>
    cases x <;> simp only [Oper.upon] at h <;> simp only [Oper.uponIn]
    case value => exact h
    case skip => exact h
    case enter f args => exact ⟨fun hh => (by cases hh), CallsIn.inRound l (callsIn_wide.2 h)⟩
    case defer => exact h
    case row row args =>
      refine ⟨fun hh => (by cases hh), ?_⟩
      intro c cs _
      obtain ⟨v, w2, h1, h2⟩ := h c cs
      exact ⟨v, w2, h1, stepsIn_wide.2 h2⟩
  | halt x w' => cases x <;> simp only [Oper.upon] at h <;> simp only [Oper.uponIn] <;> exact h
theorem opI_in (hQ : ¬ LetsOut Q) (hnd : ops.toList.all ndO = true) {i : Nat} {a : Act} {w : World} {K : Act → World → Prop} (h : wpOp P ops Q i K a w) : wpOpIn (Fence.wide.inRound l) n P ops Q i K a w := by
  unfold wpOp at h
  unfold wpOpIn
  split at h
  · rename_i ho; rw [ho]; exact h
  · rename_i o ho
    rw [ho]
    have hm : o ∈ ops.toList := by have := Array.mem_of_getElem? ho; simpa using this
    have hno := List.all_eq_true.1 hnd o hm
    dsimp only
    split at h
    · rename_i hw
      rw [if_pos hw]
      rcases h with h | h
      · exact op_in hno h
      · exact absurd h.2 hQ
    · rename_i hw
      rw [if_neg hw]
      exact ⟨fun _ _ => trivial, h⟩
theorem any_in (hQ : ¬ LetsOut Q) (hnd : ops.toList.all ndO = true) {md : Region.Mode} : ∀ (fuel : Nat) (listed : Array Bool) (a : Act) (w : World), wpAny P md ops Q fuel listed a w → wpAnyIn (Fence.wide.inRound l) n P md ops Q fuel listed a w := by
  intro fuel
  induction fuel with
  | zero => intro listed a w h; exact h
  | succ fuel ih =>
    intro listed a w h
    exact ⟨h.1, fun i hi => wpOpIn_mono (fun a w h => ih _ _ _ h) (opI_in hQ hnd (h.2 i hi))⟩
theorem list_in (hQ : ¬ LetsOut Q) : ∀ (L : List Oper) (a : Act) (w : World), L.all ndO = true → wpList P ops Q L a w → wpListIn (Fence.wide.inRound l) n P ops Q L a w := by
  intro L
  induction L with
  | nil => intro a w _ h; exact h
  | cons o L ih =>
    intro a w hnd h
    rw [List.all_cons, Bool.and_eq_true] at hnd
    unfold wpList at h
    unfold wpListIn
    split at h
    · rename_i hw
      rw [if_pos hw]
      rcases h with h | h
      · exact Oper.wpIn_mono (fun a w h => ih a w hnd.2 h) (op_in hnd.1 h)
      · exact absurd h.2 hQ
    · rename_i hw
      rw [if_neg hw]
      exact ⟨fun _ _ => trivial, ih _ _ hnd.2 h⟩
theorem QQ_out {N : KE} {X : Nat → KE} {R : KE} : ¬ LetsOut (QQ ds N X R) := fun ⟨_, _, h⟩ => h

/-- A region that draws, whatever reads it. -/
theorem region_any {id : Nat} {N : KE} {X : Nat → KE} {R : KE} {e : Env} {w : World} (h : cCode P (.region id ops true) N X R e w) :
    P.follows .mixedOrders = true ∧ wpAny P .any ops (QQ ds N X R) ops.size (Array.replicate ops.size false) ⟨e.toArray, ds⟩ w.drew := by
  simp only [cCode] at h
  cases hd : (P.follows .mixedOrders && heldB P ops)
  case true =>
    rw [hd] at h
    obtain ⟨S, hS, h⟩ := h
    simp only [Bool.and_eq_true] at hd
    exact ⟨hd.1, wpAny_of_P _ _ _ _ _ (hRun_sound (fun e w hN => ⟨e, rfl, hN⟩) (fun c a w hh => hh) (heldB_spec hd.2) _ _ _ _ _ _ hS (closed_none ops _) h)⟩
  case false =>
  rw [hd] at h
  dsimp only at h
  cases hf : (P.follows .mixedOrders && Nat.ble (drawN ops) ops.size)
  case false => rw [hf] at h; exact h.elim
  case true =>
    rw [hf] at h
    have h : sGrp _ _ _ _ _ _ := h
    simp only [Bool.and_eq_true] at hf
    refine ⟨hf.1, ?_⟩
    obtain ⟨h1, h2⟩ := grp_spec (ops.toList.take (drawN ops))
    obtain ⟨h3, h4⟩ := grp_spec (ops.toList.drop (drawN ops))
    have tail : ∀ e, cGrp P ops.toList (grp (ops.toList.drop (drawN ops))) N e w.drew → wpList P ops.toList.toArray (QQ ds N X R) (ops.toList.drop (drawN ops)) ⟨e.toArray, ds⟩ w.drew := by
      intro e he
      have := cGrp_sound (P := P) (ops := ops.toList) (Q := QQ ds N X R) (K := N) (fun e w h => ⟨e, rfl, h⟩) (grp (ops.toList.drop (drawN ops))) e w.drew h4 he
      rwa [h3] at this
    rcases drawN_spec ops hf.2 with ⟨hB, hn⟩ | ⟨hB, hn⟩
    · have hs := sGrp_sound (P := P) (ops := ops.toList) (Q := fun a => QQ ds N X R .normal a w.drew) (w := w.drew) (fun e he => by
        have := tail e he
        rw [hn, List.drop_of_length_le (by simp)] at this
        exact this) _ e h2 h
      rw [h1, hn, List.take_of_length_le (by simp)] at hs
      simp only [Region.lexB, Bool.and_eq_true] at hB
      have hs : wpStill P ops w.drew (fun a => QQ ds N X R .normal a w.drew) ops.toList ⟨e.toArray, ds⟩ := by simpa using hs
      refine wpAny_of_still (Q := fun a => QQ ds N X R .normal a w.drew) (fun _ h => h) _ _ _ ?_
      have := wpAnyS_lex (md := .any) hB.1 ops.toList 0 (Array.replicate ops.size false) ⟨e.toArray, ds⟩ (by simp) (by simpa using hB.2) hs
      simpa using this
    · have hs := sGrp_sound (P := P) (ops := ops.toList) (Q := fun a => wpList P ops.toList.toArray (QQ ds N X R) (ops.toList.drop (drawN ops)) a w.drew) (w := w.drew) (fun e he => tail e he) _ e h2 h
      rw [h1] at hs
      simp only [Region.lexTailB, Bool.and_eq_true, decide_eq_true_eq] at hB
      obtain ⟨⟨⟨⟨hsel, hn'⟩, hst⟩, hc⟩, hlex⟩ := hB
      generalize hk : drawN ops = k at *
      have hlt : k < ops.toList.length := by simpa using hn'
      have htl : (ops.toList.take k).length = k := by simp only [List.length_take]; omega
      have hdl : (ops.toList.drop k).length = ops.size - k := by simp
      have hw : ops.toList.toArray = ops := by simp
      rw [hw] at hs
      have inv0 : HeadInv .any ops k (Array.replicate ops.size false) :=
        ⟨by simp, fun j oj _ hl => (by rw [getD_replicate_false] at hl; cases hl), fun t _ ht => getD_in (by simpa using ht) (getD_replicate_false _ _)⟩
      have H := wpAnyL_lex (md := .any) (g := ops.size - k) hsel hst hc hn' (ops.toList.take k) 0 _ ⟨e.toArray, ds⟩ (fun j hj => by
        have hj' : j < k := by rw [htl] at hj; exact hj
        simp [hj']) (by simpa using htl) inv0 (by rw [htl]; exact hlex) hs
      have := wpAny_of_head (Q' := QQ ds N X R) (g := ops.size - k) (fun listed a' hL => by
        have := wpAny_of_seq (md := .any) (Q' := QQ ds N X R) (ops.toList.drop k) k listed a' w.drew (fun j => by simp [List.getElem?_drop]) (by rw [hdl]; exact hL.1) hL.2
        rwa [hdl] at this) _ _ _ H
      rw [htl, show k + (ops.size - k) = ops.size by simp at hlt; omega] at this
      exact this

theorem cCode_soundIn : ∀ (c : Code) (N : KE) (X : Nat → KE) (R : KE) (e : Env) (w : World), ndC c = true → cCode P c N X R e w → c.wpIn (Fence.wide.inRound l) n P (QQ ds N X R) ⟨e.toArray, ds⟩ w := by
  intro c
  induction c with
  | skip => intro N X R e w _ h; exact wpIn_skip ⟨e, rfl, h⟩
  | region id ops draw =>
    intro N X R e w hnd h
    cases draw with
    | true =>
      obtain ⟨h1, h2⟩ := region_any (ds := ds) h
      exact wpIn_region_any h1 (any_in QQ_out hnd _ _ _ _ h2)
    | false =>
      refine wpIn_region_list (list_in QQ_out _ _ _ hnd ?_)
      obtain ⟨h1, h2⟩ := grp_spec ops.toList
      have := cGrp_sound (P := P) (ops := ops.toList) (Q := QQ ds N X R) (K := N) (fun e w h => ⟨e, rfl, h⟩) (grp ops.toList) e w h2 h
      rw [h1] at this
      simpa using this
  | seq a b iha ihb =>
    intro N X R e w hnd h
    obtain ⟨na, nb⟩ : ndC a = true ∧ ndC b = true := by
      unfold ndC at hnd
      split at hnd
      · rename_i ha; exact ⟨ha, hnd⟩
      · cases hnd
    refine wpIn_seq (wpIn_mono (iha _ _ _ _ _ na h) ?_)
    intro x a w hq
    cases x with
    | normal => obtain ⟨e, rfl, h⟩ := hq; exact ihb _ _ _ _ _ nb h
    | _ => exact hq
  | cond c x y ihx ihy =>
    intro N X R e w hnd h
    obtain ⟨na, nb⟩ : ndC x = true ∧ ndC y = true := by
      unfold ndC at hnd
      split at hnd
      · rename_i ha; exact ⟨ha, hnd⟩
      · cases hnd
    obtain ⟨b, hb, h1, h2⟩ := h
    cases b with
    | true => exact wpIn_cond (t := true) (by rw [eval_env]; exact hb) (ihx _ _ _ _ _ na (h1 rfl))
    | false => exact wpIn_cond (t := false) (by rw [eval_env]; exact hb) (ihy _ _ _ _ _ nb (h2 rfl))
  | block id c ih =>
    intro N X R e w hnd h
    refine wpIn_block (wpIn_mono (ih _ _ _ _ _ hnd h) ?_)
    intro x a w hq
    cases x with
    | exit i =>
      obtain ⟨e, rfl, h⟩ := hq
      simp only [Exit.inBlock]
      by_cases hi : i = id
      · rw [if_pos hi]
        have : Nat.beq i id = true := by rw [hi]; exact Nat.beq_refl id
        rw [this] at h
        exact ⟨e, rfl, h⟩
      · rw [if_neg hi]
        have : Nat.beq i id = false := by
          cases hb : Nat.beq i id with
          | false => rfl
          | true => exact absurd (Nat.eq_of_beq_eq_true hb) hi
        rw [this] at h
        exact ⟨e, rfl, h⟩
    | _ => exact hq
  | loop c ih =>
    intro N X R e w hnd h
    obtain ⟨I, μ, h0, hs⟩ := h
    refine wpIn_loop (fun a w => ∃ e : Env, a = ⟨e.toArray, ds⟩ ∧ I e w) (fun a w => μ a.tmps.toList w) ⟨e, rfl, h0⟩ ?_
    rintro _ w' ⟨e', rfl, hI⟩
    refine wpIn_mono (ih _ _ _ _ _ hnd (hs e' w' hI)) ?_
    intro x a w hq
    cases x with
    | normal => obtain ⟨e2, rfl, h1, h2⟩ := hq; exact ⟨⟨e2, rfl, h1⟩, by simpa using h2⟩
    | _ => exact hq
  | exit i => intro N X R e w _ h; exact wpIn_exit ⟨e, rfl, h⟩
  | ret => intro N X R e w _ h; exact wpIn_ret ⟨e, rfl, h⟩
  | _ => intro N X R e w _ h; exact h.elim
end
end Go.Proofs.YtnmjfakibhekmaaGreatDoor
