/- From the statement's reading of an argument to the predicates of this seat's contracts; and from a contract to the kit's 'Calls'. -/
import Derived.Test.YtjkmblbonambjaaRows
import Derived.WalkKit
import Derived.ProofKit
import Derived.OpenShut
import Derived.ShutString
import Derived.ChangeOld
import Derived.Below
import Derived.JoinedCond
import Derived.Deep.Matrix
import Derived.Test.YtjkmblbonambjaaTypes
namespace Go.Proofs.Ytjkmblbonambjaa
set_option maxRecDepth 100000
open Go.ChangeShapes Go.WideShapes Go.ChangeAt Go.RowKit

theorem frame_own : ownKnob Try.prog.godebug = none := by kernel_rfl
theorem frame_laid : laidOutB Try.prog = true := by kernel_rfl

theorem calls_of {f : FuncId} {args : Array Value} {w : World} {R : World → Prop} (h : call Try.prog f args (fun v w' => v = .bool true ∧ R w') w) :
    Calls Try.prog f args w fun e w' => e = .returned (.bool true) ∧ R w' := by
  have h2 := h.2
  unfold Gives at h2
  refine Calls.mono h2 ?_
  rintro e w' ⟨v, rfl, rfl, hr⟩
  exact ⟨rfl, hr⟩

theorem add_slot {x : Addr} (hx : x.spot = none) (i : Nat) : x.add i = slotA (some x) i := by
  obtain ⟨b, o, s⟩ := x
  cases hx
  simp [Addr.add, slotA]

theorem rb_of_nums {w : World} {x : Addr} {len cap : Nat} {zs : List Int} (hl : len ≤ cap) (hz : zs.length = cap) (hcell : ∀ i, i < zs.length → w.cell? (x.add i) = some (.int .u8 (zs.getD i 0))) (hwz : ∀ n ∈ zs, (Lit.int .u8 n).wf = true) :
    RB w (some x) len cap ((zs.take len).map fun z => UInt8.ofNat z.toNat) := by
  have hsp : 0 < len → x.spot = none := by
    intro h0
    have := World.cell?_spot (hcell 0 (by omega))
    simpa [Addr.add] using this
  refine ⟨by simp; omega, hl, fun h0 => ⟨x.block, x.off, by have := hsp h0; obtain ⟨b, o, s⟩ := x; cases this; rfl⟩, (fun hh => by cases hh), fun i v hv => ?_⟩
  have hi : i < len := by
    have := (List.getElem?_eq_some_iff.1 hv).1
    simp at this; omega
  rw [← add_slot (hsp (by omega)), hcell i (by omega)]
  rw [List.getElem?_map, List.getElem?_map, List.getElem?_take_of_lt hi] at hv
  have hiz : i < zs.length := by omega
  rw [List.getElem?_eq_getElem hiz] at hv
  have hm := hwz zs[i] (List.getElem_mem hiz)
  have hx : 0 ≤ zs[i] ∧ zs[i] ≤ 255 := by simpa [Lit.wf, IntKind.min, IntKind.max, IntKind.signed, IntKind.bits] using hm
  simp only [Option.map_some, Option.some.injEq] at hv
  rw [← hv]
  simp only [List.getD, List.getElem?_eq_getElem hiz, Option.getD_some, u8v, UInt8.toNat_ofNat', Option.some.injEq, Value.int.injEq, true_and]
  omega

section
variable {H : Type} {enc : TypeId × Value → H} {W : World} {base : Nat} {held : Bool}

theorem rb_of_trod {fuel : Nat} {cs : List Value} {a : Option Addr} {n c : Nat} {x : DataW H × List MemPlace} (hc : cs = [.slice a n c])
    (hf : DataW.trod enc Try.prog W base (fun _ => true) held fuel 29 cs = some x) : (∃ l, RB W a n c l) ∧ n ≤ c ∧ c ≤ 9223372036854775807 := by
  rcases open_ints Try.underlying29 Try.underlying5 (by kernel_rfl) hf with ⟨hcs, _⟩ | ⟨x, l, c, zs, hcs, _, hl, hm, hz, _, hcell, hwz⟩
  · rw [hc] at hcs
    simp only [List.cons.injEq, Value.slice.injEq, and_true] at hcs
    obtain ⟨rfl, rfl, rfl⟩ := hcs
    exact ⟨⟨[], RV.nil W⟩, by omega, by omega⟩
  · rw [hc] at hcs
    simp only [List.cons.injEq, Value.slice.injEq, and_true] at hcs
    obtain ⟨rfl, rfl, rfl⟩ := hcs
    exact ⟨⟨_, rb_of_nums hl (by simpa using hz) hcell hwz⟩, hl, by simpa [maxLen] using hm⟩
end
end Go.Proofs.Ytjkmblbonambjaa
