/- Further rules: slices of integers, a place of a slice read whole, booleans compared. -/
import Derived.Test.YtfgllkdmifhelaaLaw
namespace Go.Proofs.Ytfgllkdmifhelaa
open Go.RowKit
section
variable {P : Program} {t : TypeId} {w : World} {K : KV} {cx cy : Bool}

theorem idx_cell {e : TypeId} (ht : P.underlying t = some (.slice e)) (hs : ∀ w, (sizeOf e).run P w = .ok 1 w) {av : Option Addr} {n c : Nat} {iv : Int} {k : IntKind} {vs : List Value} {v : Value} (hr : RV w av n c vs)
    (h0 : 0 ≤ iv) (hv : vs[iv.toNat]? = some v) (h : w.cell? (slotA av iv.toNat) = some v → K (.pointer (some (slotA av iv.toNat))) w) : idxA P t (.slice av n c) (.int k iv) K w := by
  have hl := (List.getElem?_eq_some_iff.1 hv).1
  exact idx_slc ht hs h0 (by rw [← hr.len]; omega) hr.some_ (h (hr.cell _ _ hv))

theorem bin_neqBF {p q : Prop} [Decidable p] [Decidable q] (hg : P.underlying t = some .bool) (hpq : p ↔ q) (h : K (.bool false) w) : bin P .neq t cx cy (.bool (decide p)) (.bool (decide q)) K w := by
  refine bin_neqB ?_ hg
  have : decide p = decide q := decide_eq_decide.2 hpq
  rw [this]; simpa using h
theorem bin_neqBS {x y : Bool} (hg : P.underlying t = some .bool) (hxy : x = y) (h : K (.bool false) w) : bin P .neq t cx cy (.bool x) (.bool y) K w := by
  refine bin_neqB ?_ hg
  rw [hxy]; simpa using h
theorem gsel_U {want : Bool} {A B : (List Value → World → Prop) → Prop} {KL : List Value → World → Prop} (h : B KL) : gsel undef want A B KL := gsel_f (by simp [asB, undef]) h
end

section
variable {w : World} {K : KV}
def i64v (z : Int) : Value := .int .i64 z
theorem size_int : ∀ w, (sizeOf 3).run Try.prog w = .ok 1 w := fun _ => by kernel_rfl
theorem info_int : (Try.prog.info? 3).map (fun i => (i.zero, i.size, i.bytes)) = some (some (.int .i64 0), 1, 8) := by kernel_rfl
theorem bldInts {n : Nat} {ps : Array (Nat × Value)} (l : List Int) (hn : n = l.length) (hps : ps = (partsOf 0 (l.map i64v)).toArray) (h0 : l.length ≠ 0) (h24 : l.length ≤ 1000000)
    (h : ∀ a' w', OV w' w.heap.size 3 a' n n (l.map i64v) → Below w.heap.size w w' → K (.slice a' n n) w') : bldS Try.prog 33 n ps K w := by
  obtain ⟨i, hi, hz, hsz, hby⟩ := info_parts info_int
  have hl : (l.map i64v).length = l.length := by simp
  subst hn
  refine bldS_of (vs := l.map i64v) (by rw [hl]) hps Try.underlying33 hi hz hsz rfl (by rw [hl]; exact h0) (by rw [hl]; exact h24) (fun v hv => by obtain ⟨c, _, rfl⟩ := List.mem_map.1 hv; rfl) ?_
  intro ho hb
  rw [hl] at *
  exact h _ _ ho hb
theorem idxInt {av : Option Addr} {n c : Nat} {iv : Int} {k : IntKind} {vs : List Value} {v : Value} (hr : RV w av n c vs)
    (h0 : 0 ≤ iv) (hv : vs[iv.toNat]? = some v) (h : w.cell? (slotA av iv.toNat) = some v → K (.pointer (some (slotA av iv.toNat))) w) : idxA Try.prog 33 (.slice av n c) (.int k iv) K w :=
  idx_cell Try.underlying33 size_int hr h0 hv h
theorem ldInt {ad : Addr} {v : Value} (hc : w.cell? ad = some v) (h : K v w) : ld Try.prog 3 (.pointer (some ad)) K w := ld_cell (fun _ => by kernel_rfl) hc h
end

theorem beBytes_less (x y : Nat) : ∀ s, Op.bytesLess (beBytes x s) (beBytes y s) = decide (x % 256 ^ s < y % 256 ^ s) ∧ (beBytes x s = beBytes y s ↔ x % 256 ^ s = y % 256 ^ s) := by
  intro s
  induction s with
  | zero => simp [beBytes, Op.bytesLess, Nat.mod_one]
  | succ k ih =>
    obtain ⟨i1, i2⟩ := ih
    have hx := Nat.mod_pow_succ (b := 256) (k := k) (x := x)
    have hy := Nat.mod_pow_succ (b := 256) (k := k) (x := y)
    have lx : x % 256 ^ k < 256 ^ k := Nat.mod_lt _ (Nat.pow_pos (by omega))
    have ly : y % 256 ^ k < 256 ^ k := Nat.mod_lt _ (Nat.pow_pos (by omega))
    have bx : (UInt8.ofNat (x / 256 ^ k)).toNat = x / 256 ^ k % 256 := by simp
    have bY : (UInt8.ofNat (y / 256 ^ k)).toNat = y / 256 ^ k % 256 := by simp
    have e1 : UInt8.ofNat (x / 256 ^ k) < UInt8.ofNat (y / 256 ^ k) ↔ x / 256 ^ k % 256 < y / 256 ^ k % 256 := by rw [UInt8.lt_iff_toNat_lt, bx, bY]
    have e2 : UInt8.ofNat (x / 256 ^ k) = UInt8.ofNat (y / 256 ^ k) ↔ x / 256 ^ k % 256 = y / 256 ^ k % 256 := by rw [← UInt8.toNat_inj, bx, bY]
    simp only [beBytes, Op.bytesLess, List.cons.injEq]
    rw [i1, i2, e2, hx, hy]
    have e3 : (UInt8.ofNat (x / 256 ^ k) == UInt8.ofNat (y / 256 ^ k)) = decide (x / 256 ^ k % 256 = y / 256 ^ k % 256) := by
      by_cases hh : x / 256 ^ k % 256 = y / 256 ^ k % 256
      · rw [decide_eq_true hh, beq_iff_eq]; exact e2.2 hh
      · rw [decide_eq_false hh, beq_eq_false_iff_ne]; exact fun h => hh (e2.1 h)
    rw [e3]
    generalize x / 256 ^ k % 256 = dx at *
    generalize y / 256 ^ k % 256 = dy at *
    generalize x % 256 ^ k = rx at *
    generalize y % 256 ^ k = ry at *
    generalize 256 ^ k = B at *
    rcases Nat.lt_trichotomy dx dy with hd | hd | hd
    · have h1 := Nat.mul_le_mul_left B (show dx + 1 ≤ dy from hd)
      rw [Nat.mul_add, Nat.mul_one] at h1
      rw [decide_eq_true (e1.2 hd), decide_eq_true (show rx + B * dx < ry + B * dy by omega)]
      exact ⟨rfl, fun h => absurd h.1 (by omega), fun h => by omega⟩
    · subst hd
      have hn : ¬ UInt8.ofNat (x / B) < UInt8.ofNat (y / B) := fun h => by have := e1.1 h; omega
      rw [decide_eq_false hn]
      refine ⟨?_, ?_, ?_⟩
      · simp only [Bool.false_or, decide_true, Bool.true_and]
        exact decide_eq_decide.2 (by omega)
      · intro h; rw [h.2]
      · intro h; exact ⟨rfl, by omega⟩
    · have h1 := Nat.mul_le_mul_left B (show dy + 1 ≤ dx from hd)
      rw [Nat.mul_add, Nat.mul_one] at h1
      have hn : ¬ UInt8.ofNat (x / B) < UInt8.ofNat (y / B) := fun h => by have := e1.1 h; omega
      rw [decide_eq_false hn, decide_eq_false (show ¬ dx = dy by omega), decide_eq_false (show ¬ rx + B * dx < ry + B * dy by omega)]
      exact ⟨rfl, fun h => absurd h.1 (by omega), fun h => by omega⟩
end Go.Proofs.Ytfgllkdmifhelaa
