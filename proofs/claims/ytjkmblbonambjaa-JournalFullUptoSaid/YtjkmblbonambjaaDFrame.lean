/- From the statement's reading of an argument to the predicates of this layer: slices of numbers. -/
import Derived.Test.YtjkmblbonambjaaFrame
import Derived.Test.YtjkmblbonambjaaDisk5
namespace Go.Proofs.Ytjkmblbonambjaa
set_option maxRecDepth 100000
open Go.ChangeShapes Go.WideShapes Go.ChangeAt Go.RowKit

section
variable {H : Type} {enc : TypeId × Value → H} {W : World} {base : Nat} {held : Bool}

theorem ri_of_nums {w : World} {x : Addr} {len cap : Nat} {zs : List Int} (hl : len ≤ cap) (hz : zs.length = cap) (hcell : ∀ i, i < zs.length → w.cell? (x.add i) = some (.int .i64 (zs.getD i 0))) :
    RI w (some x) len cap (zs.take len) := by
  have hsp : 0 < len → x.spot = none := by
    intro h0
    have := World.cell?_spot (hcell 0 (by omega))
    simpa [Addr.add] using this
  refine ⟨by simp; omega, hl, fun h0 => ⟨x.block, x.off, by have := hsp h0; obtain ⟨b, o, s⟩ := x; cases this; rfl⟩, (fun hh => by cases hh), fun i v hv => ?_⟩
  have hi : i < len := by
    have := (List.getElem?_eq_some_iff.1 hv).1
    simp at this; omega
  rw [← add_slot (hsp (by omega)), hcell i (by omega)]
  have hiz : i < zs.length := by omega
  rw [List.getElem?_map, List.getElem?_take_of_lt hi, List.getElem?_eq_getElem hiz] at hv
  simp only [Option.map_some, Option.some.injEq] at hv
  rw [← hv]
  simp [List.getD, hiz]

theorem ri_of_trod {fuel : Nat} {cs : List Value} {a : Option Addr} {n c : Nat} {x : DataW H × List MemPlace} (hc : cs = [.slice a n c])
    (hf : DataW.trod enc Try.prog W base (fun _ => true) held fuel 30 cs = some x) : (∃ l, RI W a n c l) ∧ n ≤ c ∧ c ≤ 9223372036854775807 := by
  rcases open_ints Try.underlying30 Try.underlying3 (by kernel_rfl) hf with ⟨hcs, _⟩ | ⟨x, l, c, zs, hcs, _, hl, hm, hz, _, hcell, hwz⟩
  · rw [hc] at hcs
    simp only [List.cons.injEq, Value.slice.injEq, and_true] at hcs
    obtain ⟨rfl, rfl, rfl⟩ := hcs
    exact ⟨⟨[], RV.nil W⟩, by omega, by omega⟩
  · rw [hc] at hcs
    simp only [List.cons.injEq, Value.slice.injEq, and_true] at hcs
    obtain ⟨rfl, rfl, rfl⟩ := hcs
    exact ⟨⟨_, ri_of_nums hl (by simpa using hz) hcell⟩, hl, by simpa [maxLen] using hm⟩
end
end Go.Proofs.Ytjkmblbonambjaa
