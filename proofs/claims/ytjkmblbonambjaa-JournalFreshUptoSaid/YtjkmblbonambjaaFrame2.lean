/- From the statement's reading of an argument to the predicates of this seat's contracts: lists of byte strings, and the bound on the bulk of what is read. -/
import Derived.Test.YtjkmblbonambjaaFrame
import Derived.Test.YtjkmblbonambjaaVast
import Derived.Test.YtjkmblbonambjaaBulk
namespace Go.Proofs.Ytjkmblbonambjaa
set_option maxRecDepth 100000
open Go.ChangeShapes Go.WideShapes Go.ChangeAt Go.RowKit Go.Deep

section
variable {H : Type} {enc : TypeId × Value → H} {W : World} {base : Nat} {held : Bool}

theorem rv_of_cells {w : World} {x : Addr} {len cap : Nat} {vs : List Value} (hn : vs.length = len) (hl : len ≤ cap) (hcell : ∀ i v, vs[i]? = some v → w.cell? (x.add i) = some v) : RV w (some x) len cap vs := by
  have hsp : 0 < len → x.spot = none := by
    intro h0
    have := World.cell?_spot (hcell 0 vs[0] (List.getElem?_eq_getElem (by omega)))
    simpa [Addr.add] using this
  refine ⟨hn, hl, fun h0 => ⟨x.block, x.off, by have := hsp h0; obtain ⟨b, o, s⟩ := x; cases this; rfl⟩, (fun hh => by cases hh), fun i v hv => ?_⟩
  have hi := (List.getElem?_eq_some_iff.1 hv).1
  rw [← add_slot (hsp (by omega))]
  exact hcell i v hv

theorem rbb_of_trod_cap {fuel : Nat} {cs : List Value} {a : Option Addr} {n c : Nat} {x : DataW H × List MemPlace} (hc : cs = [.slice a n c])
    (hf : DataW.trod enc Try.prog W base (fun _ => true) held fuel 50 cs = some x) : (∃ vs L, RBB W a n c vs L ∧ n + vast L + 1 ≤ Rows.uptoBulk x.1) ∧ n ≤ c ∧ c ≤ 9223372036854775807 := by
  rcases open_int_rows Try.underlying50 Try.underlying29 Try.underlying5 (by kernel_rfl) (by kernel_rfl) hf with ⟨hcs, hx⟩ | ⟨ad, len, cap, A, L, C, Z, hcs, _, hl, hm, hx, hall⟩
  · rw [hc] at hcs
    simp only [List.cons.injEq, Value.slice.injEq, and_true] at hcs
    obtain ⟨rfl, rfl, rfl⟩ := hcs
    refine ⟨⟨[], [], ⟨RV.nil W, rfl, fun i v l h => by simp at h⟩, ?_⟩, by omega, by omega⟩
    rw [hx]; simp [vast, Rows.uptoBulk]
  · rw [hc] at hcs
    simp only [List.cons.injEq, Value.slice.injEq, and_true] at hcs
    obtain ⟨rfl, rfl, rfl⟩ := hcs
    refine ⟨⟨(List.range n).map fun r => (A r, L r, C r), (List.range n).map fun r => ((Z r).take (L r)).map fun z => UInt8.ofNat z.toNat, ⟨rv_of_cells (by simp) hl ?_, by simp, ?_⟩, ?_⟩, hl, by simpa [maxLen] using hm⟩
    · intro i v hv
      have hi : i < n := by have := (List.getElem?_eq_some_iff.1 hv).1; simpa using this
      simp only [List.map_map, List.getElem?_map, List.getElem?_range hi, Option.map_some, Function.comp, Option.some.injEq] at hv
      rw [← hv]
      exact (hall i (by omega)).1
    · intro i v l hv hl'
      have hi : i < n := by have := (List.getElem?_eq_some_iff.1 hv).1; simpa using this
      simp only [List.getElem?_map, List.getElem?_range hi, Option.map_some, Option.some.injEq] at hv hl'
      subst hv hl'
      obtain ⟨_, q1, q2, q3, q4, q5, q6⟩ := hall i (by omega)
      cases hA : A i with
      | none =>
        have h0 := q5 hA
        have h1 : L i = 0 := by omega
        simp only [h0, h1, List.take_zero, List.map_nil]
        exact RV.nil W
      | some a' =>
        obtain ⟨_, h2⟩ := q6 a' hA
        exact rb_of_nums q1 q3 (fun i hi => h2 i (by omega)) q4
    · rw [hx]
      have key : ∀ m, m ≤ n → m + vast ((List.range m).map fun r => ((Z r).take (L r)).map fun z => UInt8.ofNat z.toNat) ≤ Rows.uptoBulkAll ((List.range m).map fun r => intRow (H := H) .u8 (A r) (L r) (Z r)) := by
        intro m
        induction m with
        | zero => intro _; simp [vast, Rows.uptoBulkAll]
        | succ m ih =>
          intro hm
          have ih' := ih (by omega)
          obtain ⟨_, q1, q2, q3, q4, q5, q6⟩ := hall m (by omega)
          rw [List.range_succ, List.map_append, List.map_append, bulks.append]
          simp only [List.map_cons, List.map_nil, Rows.uptoBulkAll]
          rw [vast_app]
          simp only [vast, Nat.add_zero]
          have hb : L m + 1 ≤ Rows.uptoBulk (intRow (H := H) .u8 (A m) (L m) (Z m)) := by
            cases hA : A m with
            | none =>
              have h0 := q5 hA
              have := bulks.one_le (intRow (H := H) .u8 none (L m) (Z m))
              omega
            | some a' =>
              simp only [intRow]
              have := bulks.slice_le (H := H) (lits .u8 ((Z m).take (L m))) (lits .u8 ((Z m).drop (L m)))
              simp only [lits, List.length_map, List.length_take] at this
              simp only [lits]
              omega
          simp only [List.length_map, List.length_take]
          omega
      have h1 := bulks.slice_elems ((List.range n).map fun r => intRow (H := H) .u8 (A r) (L r) (Z r)) ((List.range (c - n)).map fun j => intRow (H := H) .u8 (A (n + j)) (L (n + j)) (Z (n + j)))
      have h2 := key n (Nat.le_refl _)
      simp only []
      omega

theorem rbb_of_trod {fuel : Nat} {cs : List Value} {a : Option Addr} {n c : Nat} {x : DataW H × List MemPlace} (hc : cs = [.slice a n c])
    (hf : DataW.trod enc Try.prog W base (fun _ => true) held fuel 50 cs = some x) : (∃ vs L, RBB W a n c vs L) ∧ n ≤ c ∧ c ≤ 9223372036854775807 := by
  obtain ⟨⟨vs, L, h1, _⟩, h2⟩ := rbb_of_trod_cap hc hf
  exact ⟨⟨vs, L, h1⟩, h2⟩
theorem rbb_of_trodU {fuel : Nat} {cs : List Value} {a : Option Addr} {n c : Nat} {d : DataW H} {p : List MemPlace} (hc : cs = [.slice a n c])
    (hf : DataW.trod enc Try.prog W base (fun _ => true) held fuel 50 cs = some (d, p)) : (∃ vs L, RBB W a n c vs L ∧ n + vast L + 1 ≤ Rows.uptoBulk d) ∧ n ≤ c ∧ c ≤ 9223372036854775807 := rbb_of_trod_cap hc hf
theorem rb_of_trodU {fuel : Nat} {cs : List Value} {a : Option Addr} {n c : Nat} {d : DataW H} {p : List MemPlace} (hc : cs = [.slice a n c])
    (hf : DataW.trod enc Try.prog W base (fun _ => true) held fuel 29 cs = some (d, p)) : (∃ l, RB W a n c l) ∧ n ≤ c ∧ c ≤ 9223372036854775807 ∧ c ≤ Rows.uptoBulk d := by
  obtain ⟨h1, h2, h3⟩ := rb_of_trod hc hf
  refine ⟨h1, h2, h3, ?_⟩
  rcases open_ints Try.underlying29 Try.underlying5 (by kernel_rfl) hf with ⟨hcs, _⟩ | ⟨x, l, c, zs, hcs, _, hl, hm, hz, hx, hcell, hwz⟩
  · rw [hc] at hcs
    simp only [List.cons.injEq, Value.slice.injEq, and_true] at hcs
    omega
  · rw [hc] at hcs
    simp only [List.cons.injEq, Value.slice.injEq, and_true] at hcs
    obtain ⟨rfl, rfl, rfl⟩ := hcs
    simp only [Prod.mk.injEq] at hx
    rw [hx.1]
    have := bulks.slice_le (H := H) (lits .u8 (zs.take n)) (lits .u8 (zs.drop n))
    simp only [lits, List.length_map, List.length_take, List.length_drop] at this
    simp only [if_true] at hz
    simp only [lits]
    omega
end
end Go.Proofs.Ytjkmblbonambjaa
