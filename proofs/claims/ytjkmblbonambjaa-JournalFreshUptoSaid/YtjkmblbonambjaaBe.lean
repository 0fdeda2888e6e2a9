/- Plain laws of numbers as bytes. -/
import Derived.Test.YtjkmblbonambjaaOct
namespace Go.Proofs.Ytjkmblbonambjaa
set_option maxRecDepth 100000

theorem beBytes_less (x y : Nat) : ∀ s, Op.bytesLess (beBytes x s) (beBytes y s) = decide (x % 256 ^ s < y % 256 ^ s) ∧ (beBytes x s = beBytes y s ↔ x % 256 ^ s = y % 256 ^ s) := by
  intro s
  induction s with
  | zero => simp [beBytes, Op.bytesLess, Nat.mod_one]
  | succ k ih =>
    obtain ⟨i1, i2⟩ := ih
    have hx := Nat.mod_pow_succ (b := 256) (k := k) (x := x)
    have hy := Nat.mod_pow_succ (b := 256) (k := k) (x := y)
    have lx : x % 256 ^ k < 256 ^ k := Nat.mod_lt _ (Nat.pow_pos (by omega))
    have ly : y % 256 ^ k < 256 ^ k := Nat.mod_lt _ (Nat.pow_pos (by omega))
    have bx : (UInt8.ofNat (x / 256 ^ k)).toNat = x / 256 ^ k % 256 := by simp
    have bY : (UInt8.ofNat (y / 256 ^ k)).toNat = y / 256 ^ k % 256 := by simp
    have e1 : UInt8.ofNat (x / 256 ^ k) < UInt8.ofNat (y / 256 ^ k) ↔ x / 256 ^ k % 256 < y / 256 ^ k % 256 := by rw [UInt8.lt_iff_toNat_lt, bx, bY]
    have e2 : UInt8.ofNat (x / 256 ^ k) = UInt8.ofNat (y / 256 ^ k) ↔ x / 256 ^ k % 256 = y / 256 ^ k % 256 := by rw [← UInt8.toNat_inj, bx, bY]
    simp only [beBytes, Op.bytesLess, List.cons.injEq]
    rw [i1, i2, e2, hx, hy]
    have e3 : (UInt8.ofNat (x / 256 ^ k) == UInt8.ofNat (y / 256 ^ k)) = decide (x / 256 ^ k % 256 = y / 256 ^ k % 256) := by
      by_cases hh : x / 256 ^ k % 256 = y / 256 ^ k % 256
      · rw [decide_eq_true hh, beq_iff_eq]; exact e2.2 hh
      · rw [decide_eq_false hh, beq_eq_false_iff_ne]; exact fun h => hh (e2.1 h)
    rw [e3]
    generalize x / 256 ^ k % 256 = dx at *
    generalize y / 256 ^ k % 256 = dy at *
    generalize x % 256 ^ k = rx at *
    generalize y % 256 ^ k = ry at *
    generalize 256 ^ k = B at *
    rcases Nat.lt_trichotomy dx dy with hd | hd | hd
    · have h1 := Nat.mul_le_mul_left B (show dx + 1 ≤ dy from hd)
      rw [Nat.mul_add, Nat.mul_one] at h1
      rw [decide_eq_true (e1.2 hd), decide_eq_true (show rx + B * dx < ry + B * dy by omega)]
      exact ⟨rfl, fun h => absurd h.1 (by omega), fun h => by omega⟩
    · subst hd
      have hn : ¬ UInt8.ofNat (x / B) < UInt8.ofNat (y / B) := fun h => by have := e1.1 h; omega
      rw [decide_eq_false hn]
      refine ⟨?_, ?_, ?_⟩
      · simp only [Bool.false_or, decide_true, Bool.true_and]
        exact decide_eq_decide.2 (by omega)
      · intro h; rw [h.2]
      · intro h; exact ⟨rfl, by omega⟩
    · have h1 := Nat.mul_le_mul_left B (show dy + 1 ≤ dx from hd)
      rw [Nat.mul_add, Nat.mul_one] at h1
      have hn : ¬ UInt8.ofNat (x / B) < UInt8.ofNat (y / B) := fun h => by have := e1.1 h; omega
      rw [decide_eq_false hn, decide_eq_false (show ¬ dx = dy by omega), decide_eq_false (show ¬ rx + B * dx < ry + B * dy by omega)]
      exact ⟨rfl, fun h => absurd h.1 (by omega), fun h => by omega⟩

theorem foldl_be (l : List UInt8) : ∀ n : Nat, l.foldl (fun n c => n * 256 + c.toNat) n = n * 256 ^ l.length + l.foldl (fun n c => n * 256 + c.toNat) 0 := by
  induction l with
  | nil => intro n; simp
  | cons c r ih =>
    intro n
    simp only [List.foldl_cons, List.length_cons]
    rw [ih (n * 256 + c.toNat), ih (0 * 256 + c.toNat)]
    rw [Nat.pow_succ, Nat.add_mul, Nat.add_mul, Nat.mul_assoc, Nat.mul_comm (256 ^ r.length) 256]
    omega
theorem beNat_cons (c : UInt8) (l : List UInt8) : beNat (c :: l) = c.toNat * 256 ^ l.length + beNat l := by
  unfold beNat
  rw [List.foldl_cons, foldl_be]
  simp
theorem beNat_be (x : Nat) : ∀ k, beNat (beBytes x k) = x % 256 ^ k := by
  intro k
  induction k with
  | zero => simp [beBytes, beNat, Nat.mod_one]
  | succ k ih =>
    rw [beBytes, beNat_cons, ih, beBytes_len, Nat.mod_pow_succ]
    have : (UInt8.ofNat (x / 256 ^ k)).toNat = x / 256 ^ k % 256 := by simp
    rw [this, Nat.mul_comm]
    omega
theorem be_beNat (l : List UInt8) : beBytes (beNat l) l.length = l := by
  induction l with
  | nil => rfl
  | cons c r ih =>
    have hlt := beNat_lt r
    have hB : 0 < 256 ^ r.length := Nat.pow_pos (by omega)
    rw [List.length_cons, beBytes, beNat_cons]
    have h1 : (c.toNat * 256 ^ r.length + beNat r) / 256 ^ r.length = c.toNat := by
      rw [Nat.mul_comm, Nat.mul_add_div hB, Nat.div_eq_of_lt hlt]; rfl
    have h2 : beBytes (c.toNat * 256 ^ r.length + beNat r) r.length = beBytes (beNat r) r.length := by
      refine (beBytes_less _ _ _).2.2 ?_
      rw [Nat.mul_comm, Nat.mul_add_mod]
    rw [h1, h2, ih]
    simp

theorem take_mid {α : Type} (pre x suf : List α) : ((pre ++ x ++ suf).drop pre.length).take x.length = x := by
  rw [List.append_assoc, List.drop_left, List.take_left]

theorem takeS_at {pre suf : List UInt8} {x k : Nat} (hk : k = 1 ∨ k = 2 ∨ k = 4 ∨ k = 8) : takeS (pre ++ beBytes x k ++ suf) pre.length k = (x % 256 ^ k, (pre.length : Int) + k, 0) := by
  have hw : widthOf (k : Int) ≠ 0 := by rcases hk with rfl | rfl | rfl | rfl <;> decide
  have hl : (pre ++ beBytes x k ++ suf).length = pre.length + k + suf.length := by simp [beBytes_len, Nat.add_assoc]
  have h3 : ((pre ++ beBytes x k ++ suf).drop (pre.length : Int).toNat).take (k : Int).toNat = beBytes x k := by
    have := take_mid pre (beBytes x k) suf
    rw [beBytes_len] at this
    simpa using this
  unfold takeS
  rw [if_neg (by rw [hl]; omega), if_neg (by rw [hl]; omega), h3, beNat_be]
end Go.Proofs.Ytjkmblbonambjaa
