/- Plain laws of the octet layer: what is put is taken; strings are split again; what is split is put as it stood. -/
import Derived.Test.YtfgllkdmifhelaaMore
namespace Go.Proofs.Ytfgllkdmifhelaa

theorem foldl_be (l : List UInt8) : ∀ n : Nat, l.foldl (fun n c => n * 256 + c.toNat) n = n * 256 ^ l.length + l.foldl (fun n c => n * 256 + c.toNat) 0 := by
  induction l with
  | nil => intro n; simp
  | cons c r ih =>
    intro n
    simp only [List.foldl_cons, List.length_cons]
    rw [ih (n * 256 + c.toNat), ih (0 * 256 + c.toNat)]
    rw [Nat.pow_succ, Nat.add_mul, Nat.add_mul, Nat.mul_assoc, Nat.mul_comm (256 ^ r.length) 256]
    omega
theorem beNat_cons (c : UInt8) (l : List UInt8) : beNat (c :: l) = c.toNat * 256 ^ l.length + beNat l := by
  unfold beNat
  rw [List.foldl_cons, foldl_be]
  simp
theorem beNat_be (x : Nat) : ∀ k, beNat (beBytes x k) = x % 256 ^ k := by
  intro k
  induction k with
  | zero => simp [beBytes, beNat, Nat.mod_one]
  | succ k ih =>
    rw [beBytes, beNat_cons, ih, beBytes_len, Nat.mod_pow_succ]
    have : (UInt8.ofNat (x / 256 ^ k)).toNat = x / 256 ^ k % 256 := by simp
    rw [this, Nat.mul_comm]
    omega
theorem be_beNat (l : List UInt8) : beBytes (beNat l) l.length = l := by
  induction l with
  | nil => rfl
  | cons c r ih =>
    have hlt := beNat_lt r
    have hB : 0 < 256 ^ r.length := Nat.pow_pos (by omega)
    rw [List.length_cons, beBytes, beNat_cons]
    have h1 : (c.toNat * 256 ^ r.length + beNat r) / 256 ^ r.length = c.toNat := by
      rw [Nat.mul_comm, Nat.mul_add_div hB, Nat.div_eq_of_lt hlt]; rfl
    have h2 : beBytes (c.toNat * 256 ^ r.length + beNat r) r.length = beBytes (beNat r) r.length := by
      refine (beBytes_less _ _ _).2.2 ?_
      rw [Nat.mul_comm, Nat.mul_add_mod]
    rw [h1, h2, ih]
    simp

theorem take_mid {α : Type} (pre x suf : List α) : ((pre ++ x ++ suf).drop pre.length).take x.length = x := by
  rw [List.append_assoc, List.drop_left, List.take_left]

theorem takeS_at {pre suf : List UInt8} {x k : Nat} (hk : k = 1 ∨ k = 2 ∨ k = 4 ∨ k = 8) : takeS (pre ++ beBytes x k ++ suf) pre.length k = (x % 256 ^ k, (pre.length : Int) + k, 0) := by
  have hw : widthOf (k : Int) ≠ 0 := by rcases hk with rfl | rfl | rfl | rfl <;> decide
  have hl : (pre ++ beBytes x k ++ suf).length = pre.length + k + suf.length := by simp [beBytes_len, Nat.add_assoc]
  have h3 : ((pre ++ beBytes x k ++ suf).drop (pre.length : Int).toNat).take (k : Int).toNat = beBytes x k := by
    have := take_mid pre (beBytes x k) suf
    rw [beBytes_len] at this
    simpa using this
  unfold takeS
  rw [if_neg (by rw [hl]; omega), if_neg (by rw [hl]; omega), h3, beNat_be]

theorem takeStrS_at {pre s suf : List UInt8} {most : Int} (hs : s.length < 4294967296) (hm : (s.length : Int) ≤ most) : takeStrS (pre ++ (beBytes s.length 4 ++ s) ++ suf) pre.length most = (s, ((pre.length + (4 + s.length) : Nat) : Int), 0) := by
  have e : pre ++ (beBytes s.length 4 ++ s) ++ suf = pre ++ beBytes s.length 4 ++ (s ++ suf) := by simp [List.append_assoc]
  have ht := takeS_at (pre := pre) (suf := s ++ suf) (x := s.length) (k := 4) (by omega)
  rw [← e, Nat.mod_eq_of_lt (by omega)] at ht
  have ht' : takeS (pre ++ (beBytes s.length 4 ++ s) ++ suf) pre.length 4 = (s.length, (pre.length : Int) + 4, 0) := ht
  have hl : (pre ++ (beBytes s.length 4 ++ s) ++ suf).length = pre.length + 4 + s.length + suf.length := by simp [beBytes_len]; omega
  have h3 : ((pre ++ (beBytes s.length 4 ++ s) ++ suf).drop (pre.length + 4)).take s.length = s := by
    have := take_mid (pre ++ beBytes s.length 4) s suf
    rw [List.length_append, beBytes_len] at this
    rw [e, ← List.append_assoc]; exact this
  unfold takeStrS
  rw [ht']
  simp only [ne_eq, not_true_eq_false, if_false, Int.toNat_natCast]
  rw [if_neg (by omega), if_neg (by rw [hl]; omega), h3]
  simp only [Prod.mk.injEq, true_and, and_true]
  omega

/-- The bytes of a list of strings. -/
def enc : List (List UInt8) → List UInt8
  | [] => []
  | s :: r => (beBytes s.length 4 ++ s) ++ enc r
theorem enc_len (L : List (List UInt8)) : (enc L).length = 4 * L.length + vast L := by
  induction L with
  | nil => rfl
  | cons s r ih => simp [enc, vast, beBytes_len, ih]; omega
theorem enc_app (L M : List (List UInt8)) : enc (L ++ M) = enc L ++ enc M := by
  induction L with
  | nil => rfl
  | cons s r ih => simp [enc, ih]
theorem stringsFrom_enc (L : List (List UInt8)) (hL : ∀ s ∈ L, s.length ≤ 4194304) : ∀ acc, stringsFrom acc L = (acc ++ enc L, 0) := by
  induction L with
  | nil => intro acc; simp [stringsFrom, enc]
  | cons s r ih =>
    intro acc
    have h1 := hL s (by simp)
    rw [stringsFrom, if_neg (by omega), ih (fun s hs => hL s (by simp [hs]))]
    simp [enc]
theorem stringsS_enc (L : List (List UInt8)) (hL : ∀ s ∈ L, s.length ≤ 4194304) : stringsS L = (enc L, 0) := by
  unfold stringsS; rw [stringsFrom_enc L hL]; rfl
theorem mem_vast {L : List (List UInt8)} {s : List UInt8} (h : s ∈ L) : s.length ≤ vast L := by
  induction L with
  | nil => cases h
  | cons x r ih =>
    simp only [vast]
    rcases List.mem_cons.1 h with rfl | h
    · omega
    · have := ih h; omega
theorem splitFrom_enc (most : Int) (L : List (List UInt8)) : ∀ (suf : List UInt8) (pre : List UInt8) (fuel : Nat) (acc : List (List UInt8)), (∀ s ∈ L, s.length < 4294967296 ∧ (s.length : Int) ≤ most) → L.length ≤ fuel →
    splitFrom (pre ++ enc L) most fuel (pre.length : Nat) acc = (acc ++ L, 0) := by
  induction L with
  | nil =>
    intro suf pre fuel acc _ _
    cases fuel with
    | zero => simp [splitFrom]
    | succ k => simp [splitFrom, enc]
  | cons s r ih =>
    intro suf pre fuel acc hL hf
    cases fuel with
    | zero => simp at hf
    | succ k =>
      have hs := hL s (by simp)
      have ht := takeStrS_at (pre := pre) (s := s) (suf := enc r) (most := most) hs.1 hs.2
      have e : pre ++ enc (s :: r) = pre ++ (beBytes s.length 4 ++ s) ++ enc r := by simp [enc]
      rw [e]
      unfold splitFrom
      rw [if_pos (by simp [beBytes_len]; omega), ht]
      simp only [ne_eq, not_true_eq_false, if_false]
      have h2 := ih [] (pre ++ (beBytes s.length 4 ++ s)) k (acc ++ [s]) (fun x hx => hL x (by simp [hx])) (by simpa using hf)
      have hl : (pre ++ (beBytes s.length 4 ++ s)).length = pre.length + (4 + s.length) := by simp [beBytes_len]
      rw [hl] at h2
      rw [h2]
      simp
theorem splitS_enc {most : Int} {L : List (List UInt8)} (hL : ∀ s ∈ L, s.length < 4294967296 ∧ (s.length : Int) ≤ most) : splitS (enc L) most = (L, 0) := by
  have := splitFrom_enc most L [] [] ((enc L).length + 1) [] hL (by rw [enc_len]; omega)
  simpa [splitS] using this

theorem takeS_err {l : List UInt8} {q : Nat} (hq : q ≤ l.length) (h : (takeS l q 4).2.2 ≠ 0) : (takeS l q 4).2.2 = 5 := by
  unfold takeS at *
  have hw : widthOf 4 ≠ 0 := by decide
  split at h
  · rename_i hh; rcases hh with hh | hh | hh
    · exact absurd hh hw
    · omega
    · omega
  · rename_i hh
    rw [if_neg hh]
    split at h
    · rename_i h2; rw [if_pos h2]
    · simp at h
theorem takeStrS_err {l : List UInt8} {q : Nat} {most : Int} (hq : q ≤ l.length) (h : (takeStrS l q most).2.2 ≠ 0) : (takeStrS l q most).2.2 = 5 ∨ (takeStrS l q most).2.2 = 6 := by
  unfold takeStrS at *
  by_cases h1 : (takeS l q 4).2.2 ≠ 0
  · rw [if_pos h1] at h ⊢; exact .inl (takeS_err hq h1)
  · rw [if_neg h1] at h ⊢
    by_cases h2 : most < (takeS l q 4).1
    · rw [if_pos h2]; exact .inr rfl
    · rw [if_neg h2] at h ⊢
      by_cases h3 : (l.length : Int) - ((q : Int) + 4) < (takeS l q 4).1
      · rw [if_pos h3]; exact .inl rfl
      · rw [if_neg h3] at h; simp at h

theorem splitFrom_spec (l : List UInt8) (most : Int) : ∀ (fuel q : Nat) (acc : List (List UInt8)), q ≤ l.length → l.length - q < fuel → l.take q = enc acc → (∀ s ∈ acc, (s.length : Int) ≤ most) →
    ((splitFrom l most fuel q acc).2 ≠ 0 ∧ (splitFrom l most fuel q acc).1 = [] ∧ ((splitFrom l most fuel q acc).2 = 5 ∨ (splitFrom l most fuel q acc).2 = 6)) ∨
    ((splitFrom l most fuel q acc).2 = 0 ∧ enc (splitFrom l most fuel q acc).1 = l ∧ ∀ s ∈ (splitFrom l most fuel q acc).1, (s.length : Int) ≤ most) := by
  intro fuel
  induction fuel with
  | zero => intro q acc h1 h2; omega
  | succ k ih =>
    intro q acc h1 h2 h3 h4
    unfold splitFrom
    by_cases hq : (q : Int) < (l.length : Int)
    · rw [if_pos hq]
      by_cases he : (takeStrS l q most).2.2 ≠ 0
      · rw [if_pos he]; exact .inl ⟨he, rfl, takeStrS_err h1 he⟩
      · rw [if_neg he]
        obtain ⟨q', m, hqq, hlen, hn, hx, hm, hmm⟩ := takeStrS_ok (l := l) (p := q) (most := most) (by omega)
        have hqe : q' = q := by omega
        subst hqe
        rw [hn, hx]
        refine ih (q' + 4 + m) _ hlen (by omega) ?_ ?_
        · have h4l : ((l.drop q').take 4).length = 4 := by rw [List.length_take, List.length_drop]; omega
          have hml : ((l.drop (q' + 4)).take m).length = m := by rw [List.length_take, List.length_drop]; omega
          have hb := be_beNat ((l.drop q').take 4)
          rw [h4l, ← hm] at hb
          rw [enc_app, ← h3]
          simp only [enc, List.append_nil]
          rw [hml, hb, Nat.add_assoc, List.take_add, List.take_add, List.drop_drop]
        · intro s hs
          rcases List.mem_append.1 hs with hs | hs
          · exact h4 s hs
          · have : s = (l.drop (q' + 4)).take m := by simpa using hs
            rw [this, List.length_take, List.length_drop]; omega
    · rw [if_neg hq]
      refine .inr ⟨rfl, ?_, h4⟩
      rw [← h3, List.take_of_length_le (by omega)]
theorem splitS_spec (l : List UInt8) (most : Int) : ((splitS l most).2 ≠ 0 ∧ (splitS l most).1 = [] ∧ ((splitS l most).2 = 5 ∨ (splitS l most).2 = 6)) ∨ ((splitS l most).2 = 0 ∧ enc (splitS l most).1 = l ∧ ∀ s ∈ (splitS l most).1, (s.length : Int) ≤ most) :=
  splitFrom_spec l most (l.length + 1) 0 [] (by omega) (by omega) rfl (by simp)
end Go.Proofs.Ytfgllkdmifhelaa
