/- Arguments by their cells; names; the numbers of a law that asks one thing first. -/
import Derived.Test.YtfjafbbalohmhaaGreatDoorLaid
import Derived.ProofKit
import Derived.LaidMore
import Derived.Stop.Joined
namespace Go.Proofs.YtfjafbbalohmhaaGreatDoor
set_option maxRecDepth 100000
open Go.RowKit
section
variable {P : Program} {W : World} {b : Nat} {t u : TypeId} {v : Value}
theorem All2.inv {α β : Type} {r : α → β → Prop} {a : α} {l : List α} {m : List β} (h : All2 r (a :: l) m) : ∃ b m', m = b :: m' ∧ r a b ∧ All2 r l m' := by
  cases h with
  | cons h1 h2 => exact ⟨_, _, rfl, h1, h2⟩
theorem All2.inv0 {α β : Type} {r : α → β → Prop} {m : List β} (h : All2 r [] m) : m = [] := by cases h; rfl
theorem All2.of_get {α β : Type} {r : α → β → Prop} : ∀ {l : List α} {m : List β}, m.length = l.length → (∀ (i : Nat) (b : β), m[i]? = some b → ∃ a, l[i]? = some a ∧ r a b) → All2 r l m
  | [], [], _, _ => .nil
  | [], _ :: _, h, _ => by simp at h
  | _ :: _, [], h, _ => by simp at h
  | a :: l, b :: m, h, hr => by
    refine .cons ?_ (All2.of_get (by simpa using h) fun i b' hb => ?_)
    · obtain ⟨a', h1, h2⟩ := hr 0 b rfl
      simp at h1; subst h1; exact h2
    · obtain ⟨a', h1, h2⟩ := hr (i + 1) b' (by simpa using hb)
      exact ⟨a', by simpa using h1, h2⟩
theorem okWide_cells {ts : List TypeId} {fs : Array Field} (hu : P.underlying t = some (.struct fs)) (ht : P.cellTypes P.depth t = some ts) (hc : P.cellsOf t = ts.length) (h : Value.okWide P W .any b t v) :
    ∃ l : List Value, v = .agg l.toArray ∧ All2 (fun u v => Cell.okWide P W .any b u v) ts l := by
  unfold Value.okWide at h
  rw [hu] at h
  obtain ⟨cs, rfl, hs, ts', ht', _, hr⟩ := h
  rw [ht] at ht'; cases ht'
  refine ⟨cs.toList, by simp, All2.of_get (by simp [hs, hc]) fun i v hv => ?_⟩
  have hlt : i < ts.length := by
    have := (List.getElem?_eq_some_iff.1 hv).1
    simp [hs, hc] at this; exact this
  obtain ⟨u, h1, h2⟩ := hr i v (by simpa using hv)
  rw [Nat.mod_eq_of_lt hlt] at h1
  exact ⟨u, h1, h2⟩
theorem cell_int {k : IntKind} (hu : P.underlying u = some (.int k)) (h : Cell.okWide P W .any b u v) : ∃ a, v = .int k a := by
  unfold Cell.okWide at h
  rw [hu] at h
  cases v <;> simp_all [Cell.ok]
theorem cell_slc {e : TypeId} (hu : P.underlying u = some (.slice e)) (h : Cell.okWide P W .any b u v) : ∃ a n c, v = .slice a n c := by
  unfold Cell.okWide at h
  rw [hu] at h
  cases v <;> simp_all [Cell.ok]
end
theorem names : GoNames Tryz.prog := by
  have h : (Tryz.prog.funcs.toList.all fun fn => match fn.name == "runtime.NumGoroutine" with | true => false | false => true) = true := by kernel_rfl
  intro f fn hf
  have hm : fn ∈ Tryz.prog.funcs.toList := by
    have := Array.mem_of_getElem? hf
    simpa using this
  have := List.all_eq_true.1 h fn hm
  split at this
  · cases this
  · rename_i h; exact h
theorem frame_own' : ownKnob Tryz.prog.godebug = none := by kernel_rfl
theorem frame_laid' : laidOutB Tryz.prog = true := by kernel_rfl
end Go.Proofs.YtfjafbbalohmhaaGreatDoor
