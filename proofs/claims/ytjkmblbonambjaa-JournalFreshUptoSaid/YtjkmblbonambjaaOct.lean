/- The contracts of the functions of the program's octet package that write and read numbers, and the plain meaning they are told in. -/
import Derived.Test.YtjkmblbonambjaaSOct
import Derived.Test.YtjkmblbonambjaaClone
namespace Go.Proofs.Ytjkmblbonambjaa
set_option maxRecDepth 100000
open Go.RowKit
attribute [local irreducible] bin un conv call callV blt slc fldA fld idxA idx lkp mUpd mEnt eSt rng nxt ent ext alc box bld bldS ld sto nilC mkMap mkS ifc pick rdy wts gsel sti cond retM Gives cCode cGrp cSeq cOp

def widthOf (k : Int) : Int := if k = 8 then 64 else if k = 4 then 32 else if k = 2 then 16 else if k = 1 then 8 else 0

theorem width_c {k : Int} {w : World} {K : KV} (h : K (.int .i64 (widthOf k)) w) : call Try.prog 76 #[.int .i64 k] K w := by
  refine call_of octet_width_go (octet_width_in ?_)
  by_cases h8 : k = 8
  · subst h8; (repeat (first | refine octet_width_P1_r ?_ | refine octet_width_A1_r ?_ | refine octet_width_P2_r ?_ | refine octet_width_A2_r ?_ | refine octet_width_P3_r ?_ | refine octet_width_A3_r ?_ | refine octet_width_P4_r ?_ | refine octet_width_A4_r ?_ | refine bin_eql ?_ | refine add64 (by omega) (by omega) ?_ | refine cond_T ?_)); exact h
  by_cases h4 : k = 4
  · subst h4; (repeat (first | refine octet_width_P1_r ?_ | refine octet_width_A1_r ?_ | refine octet_width_P2_r ?_ | refine octet_width_A2_r ?_ | refine octet_width_P3_r ?_ | refine octet_width_A3_r ?_ | refine octet_width_P4_r ?_ | refine octet_width_A4_r ?_ | refine bin_eql ?_ | refine add64 (by omega) (by omega) ?_ | refine cond_T ?_ | refine cond_F ?_)); exact h
  by_cases h2 : k = 2
  · subst h2; (repeat (first | refine octet_width_P1_r ?_ | refine octet_width_A1_r ?_ | refine octet_width_P2_r ?_ | refine octet_width_A2_r ?_ | refine octet_width_P3_r ?_ | refine octet_width_A3_r ?_ | refine octet_width_A4_r ?_ | refine bin_eql ?_ | refine add64 (by omega) (by omega) ?_ | refine cond_T ?_ | refine cond_F ?_)); exact h
  by_cases h1 : k = 1
  · subst h1; (repeat (first | refine octet_width_P1_r ?_ | refine octet_width_A1_r ?_ | refine octet_width_P2_r ?_ | refine octet_width_A2_r ?_ | refine octet_width_A3_r ?_ | refine octet_width_A4_r ?_ | refine bin_eql ?_ | refine add64 (by omega) (by omega) ?_ | refine cond_T ?_ | refine cond_F ?_)); exact h
  have hw : widthOf k = 0 := by simp [widthOf, *]
  rw [hw] at h
  (repeat (first | refine octet_width_P1_r ?_ | refine octet_width_A1_r ?_ | refine octet_width_A2_r ?_ | refine octet_width_A3_r ?_ | refine octet_width_A4_r ?_ | refine bin_eql ?_ | refine cond_f (by omega) ?_))
  exact h

theorem width_K (K : Nat) (hK : K = 1 ∨ K = 2 ∨ K = 4 ∨ K = 8) : widthOf K = 8 * K := by
  rcases hK with rfl | rfl | rfl | rfl <;> rfl

theorem width_ne {k : Int} (h : widthOf k ≠ 0) : ∃ K : Nat, (K = 1 ∨ K = 2 ∨ K = 4 ∨ K = 8) ∧ k = K := by
  unfold widthOf at h
  by_cases h8 : k = 8
  · exact ⟨8, by simp, h8⟩
  by_cases h4 : k = 4
  · exact ⟨4, by simp, h4⟩
  by_cases h2 : k = 2
  · exact ⟨2, by simp, h2⟩
  by_cases h1 : k = 1
  · exact ⟨1, by simp, h1⟩
  simp [*] at h

def beBytes (n : Nat) : Nat → List UInt8
  | 0 => []
  | k + 1 => UInt8.ofNat (n / 256 ^ k) :: beBytes n k

theorem beBytes_len (x K : Nat) : (beBytes x K).length = K := by
  induction K with
  | zero => rfl
  | succ k ih => simp [beBytes, ih]

theorem beBytes_get (x : Nat) : ∀ (K j : Nat) (h : j < (beBytes x K).length), (beBytes x K)[j] = UInt8.ofNat (x / 256 ^ (K - 1 - j)) := by
  intro K
  induction K with
  | zero => intro j h; simp [beBytes] at h
  | succ k ih =>
    intro j h
    cases j with
    | zero => simp [beBytes]
    | succ j =>
      simp only [beBytes, List.getElem_cons_succ]
      rw [ih]
      congr 2
      congr 1
      omega

theorem beBytes_snoc (x K j : Nat) (h : j < K) : (beBytes x K).take (j + 1) = (beBytes x K).take j ++ [UInt8.ofNat (x / 256 ^ (K - 1 - j))] := by
  have hl : j < (beBytes x K).length := by rw [beBytes_len]; exact h
  rw [List.take_succ_eq_append_getElem hl, beBytes_get]

/-- A shift by whole bytes. -/
theorem shr_bytes (x e : Nat) (he : 8 * e ≤ 64) : ((x : Int).fdiv (2 ^ min ((8 * (e : Int))).toNat IntKind.u64.bits)) = ((x / 256 ^ e : Nat) : Int) := by
  have h : (2 : Int) ^ (8 * e) = ((256 ^ e : Nat) : Int) := by rw [Int.pow_mul]; simp
  have hm : min ((8 * (e : Int))).toNat IntKind.u64.bits = 8 * e := by
    have : IntKind.u64.bits = 64 := rfl
    omega
  rw [hm, h, Int.fdiv_eq_ediv_of_nonneg _ (Int.natCast_nonneg _)]
  rfl
theorem byte_val (y : Nat) : Value.int .u8 (IntKind.u8.wrap (y : Int)) = u8v (UInt8.ofNat y) := by
  rw [wrap_u8]
  simp only [u8v, UInt8.toNat_ofNat']
  congr 1

/-- P1.1: a number behind bytes. -/
def putS (l : List UInt8) (n : Nat) (k : Int) : List UInt8 × Int :=
  if widthOf k = 0 then ([], 1) else if 256 ^ k.toNat ≤ n then ([], 6) else (l ++ beBytes n k.toNat, 0)

theorem put_c {a : Option Addr} {n c : Nat} {l : List UInt8} {x : Nat} {k : Int} {w : World} {K : KV} (hb : RB w a n c l) (hn : n ≤ 140737488351232) (hx : x < 18446744073709551616)
    (h : ∀ a' n' c' w', OB w' w.heap.size a' n' c' (putS l x k).1 → Below w.heap.size w w' → K (.tuple #[.slice a' n' c', .int .i64 (putS l x k).2]) w') :
    call Try.prog 73 #[.slice a n c, .int .u64 x, .int .i64 k] K w := by
  refine call_of octet_Put_go (octet_Put_in ?_)
  refine width_c ?_
  by_cases hw0 : widthOf k = 0
  · have hp : putS l x k = ([], 1) := by simp [putS, hw0]
    rw [hp] at h
    (repeat (first | refine bin_eql ?_ | refine cond_t (by omega) ?_))
    exact h _ _ _ _ (OB.nil _ _) (Below.refl _ _)
  obtain ⟨N, hN, rfl⟩ := width_ne hw0
  have hwN := width_K N hN
  rw [hwN]
  have hN8 : 1 ≤ N ∧ N ≤ 8 := by omega
  (repeat (first | refine bin_eql ?_ | refine cond_f (by omega) ?_))
  refine bin_shr (by omega) ?_
  (repeat (first | refine bin_gtr ?_))
  rw [shr_bytes x N (by omega)]
  by_cases hbig : 256 ^ N ≤ x
  · have hp : putS l x N = ([], 6) := by simp [putS, hw0, hbig]
    rw [hp] at h
    have hq : (0 : Int) < ((x / 256 ^ N : Nat) : Int) := by
      have : 0 < x / 256 ^ N := Nat.div_pos hbig (Nat.pow_pos (by omega))
      omega
    (repeat (first | refine cond_t (by omega) ?_))
    exact h _ _ _ _ (OB.nil _ _) (Below.refl _ _)
  have hp : putS l x N = (l ++ beBytes x N, 0) := by simp [putS, hw0, hbig]
  rw [hp] at h
  have hq : ((x / 256 ^ N : Nat) : Int) = 0 := by
    have : x / 256 ^ N = 0 := Nat.div_eq_of_lt (by omega)
    omega
  rw [hq]
  (repeat (first | refine add64 (by omega) (by omega) ?_ | refine len8 ?_ | refine cond_F ?_))
  refine mk8 w.heap.size (n + N) (by omega) (by omega) (by omega) ?_
  intro a1 w1 ho1 hb1
  refine app8 w.heap.size ho1 (hb.below hb1 (by omega)) (by omega) hb1.size ?_
  intro a2 c2 w2 ho2 hg2
  have hb2 : Below w.heap.size w w2 := hb1.grown hg2 hb1.size (fun k hk => (OV.block ho1 k hk).1)
  rw [List.nil_append, Nat.zero_add] at ho2
  (repeat (first | refine octet_Put_A1_r ?_ | refine sub64 (by omega) (by omega) ?_))
  refine octet_Put_L1_r (Inv := fun bits out wr => ∃ j a' n' c', j ≤ N ∧ bits = .int .i64 (8 * (N : Int) - 8 - 8 * (j : Int)) ∧ out = .slice a' n' c' ∧ OB wr w.heap.size a' n' c' (l ++ (beBytes x N).take j) ∧ Below w.heap.size w wr)
    (μ := fun bits _ _ => (intOf bits + 8).toNat) ⟨0, _, _, _, by omega, by simp, rfl, by simpa using ho2, hb2⟩ ?_
  rintro _ _ _ w3 m ⟨j, a3, n3, c3, hj, rfl, rfl, ho3, hb3⟩ hm
  have hl3 := ho3.len
  have hll := hb.len
  simp only [List.length_append, List.length_take, beBytes_len] at hl3
  by_cases hjN : j < N
  · (repeat (first | refine bin_geq ?_ | refine cond_t (by omega) ?_))
    refine bin_shr (by omega) ?_
    rw [show (8 * (N : Int) - 8 - 8 * (j : Int)) = 8 * ((N - 1 - j : Nat) : Int) by omega, shr_bytes x (N - 1 - j) (by omega)]
    refine conv_int Try.underlying113 Try.underlying5 ?_
    rw [byte_val]
    refine bld8 rfl ?_
    intro w4 hb4 hr4 hs4
    refine app8 w.heap.size (ho3.below hb4 (by omega)) hr4 (by omega) (by have := hb3.size; omega) ?_
    intro a5 c5 w5 ho5 hg5
    (repeat (first | refine sub64 (by omega) (by omega) ?_))
    have hs3 := hb3.size
    refine ⟨⟨j + 1, _, _, _, by omega, by congr 1; omega, rfl, ?_, ?_⟩, ?_⟩
    · rw [beBytes_snoc x N j hjN, ← List.append_assoc]; exact ho5
    · exact (hb3.trans (hb4.mono hs3)).grown hg5 (by omega) (fun k hk => (OV.block (ho3.below hb4 (by omega)) k hk).1)
    · rw [hm]; simp only [intOf]; omega
  · have hjN' : j = N := by omega
    subst hjN'
    (repeat (first | refine octet_Put_P1_r ?_ | refine bin_geq ?_ | refine cond_f (by omega) ?_))
    have : (beBytes x j).take j = beBytes x j := List.take_of_length_le (by rw [beBytes_len]; omega)
    rw [this] at ho3
    exact h _ _ _ _ ho3 hb3

def beNat (l : List UInt8) : Nat := l.foldl (fun n c => n * 256 + c.toNat) 0

theorem beNat_snoc (l : List UInt8) (c : UInt8) : beNat (l ++ [c]) = beNat l * 256 + c.toNat := by simp [beNat, List.foldl_append]

theorem beNat_lt (l : List UInt8) : beNat l < 256 ^ l.length := by
  have key : ∀ l : List UInt8, ∀ n k, n < 256 ^ k → l.foldl (fun n c => n * 256 + c.toNat) n < 256 ^ (k + l.length) := by
    intro l
    induction l with
    | nil => intro n k h; simpa using h
    | cons c l ih =>
      intro n k h
      simp only [List.foldl_cons, List.length_cons]
      have hc := c.toNat_lt
      have := ih (n * 256 + c.toNat) (k + 1) (by rw [Nat.pow_succ]; omega)
      rw [show k + (l.length + 1) = k + 1 + l.length by omega]
      exact this
  have := key l 0 0 (by simp)
  simpa [beNat] using this

theorem take_snoc (l : List UInt8) (j : Nat) (h : j < l.length) : l.take (j + 1) = l.take j ++ [l.getD j 0] := by
  rw [List.take_succ_eq_append_getElem h]
  simp [List.getD, h]

/-- P1.1: the number at a place: the number, the next place, an error. -/
def takeS (l : List UInt8) (p k : Int) : Nat × Int × Int :=
  if widthOf k = 0 ∨ p < 0 ∨ (l.length : Int) < p then (0, 0, 1) else if (l.length : Int) - p < k then (0, 0, 5) else (beNat ((l.drop p.toNat).take k.toNat), p + k, 0)

theorem take_c {a : Option Addr} {n c : Nat} {l : List UInt8} {p k : Int} {w : World} {K : KV} (hb : RB w a n c l) (hn : n ≤ 9223372036854775807)
    (h : K (.tuple #[.int .u64 (takeS l p k).1, .int .i64 (takeS l p k).2.1, .int .i64 (takeS l p k).2.2]) w) :
    call Try.prog 75 #[.slice a n c, .int .i64 p, .int .i64 k] K w := by
  have hl := hb.len
  refine call_of octet_Take_go (octet_Take_in ?_)
  refine width_c ?_
  refine bin_eql ?_
  by_cases h0 : widthOf k = 0
  · rw [show takeS l p k = (0, 0, 1) by simp [takeS, h0]] at h
    (repeat (first | refine octet_Take_P2_r ?_ | refine octet_Take_A1_r ?_ | refine cond_t (by omega) ?_))
    exact h
  (repeat (first | refine octet_Take_A1_r ?_ | refine bin_lss ?_ | refine cond_f (by omega) ?_))
  by_cases h1 : p < 0
  · rw [show takeS l p k = (0, 0, 1) by simp [takeS, h1]] at h
    (repeat (first | refine octet_Take_P2_r ?_ | refine cond_t (by omega) ?_))
    exact h
  (repeat (first | refine octet_Take_P2_r ?_ | refine bin_gtr ?_ | refine len8 ?_ | refine cond_f (by omega) ?_))
  by_cases h2 : (n : Int) < p
  · rw [show takeS l p k = (0, 0, 1) by simp [takeS, hl, h2]] at h
    (repeat (first | refine cond_t (by omega) ?_))
    exact h
  obtain ⟨N, hN, rfl⟩ := width_ne h0
  obtain ⟨q, rfl⟩ := Int.eq_ofNat_of_zero_le (show 0 ≤ p by omega)
  have hN8 : 1 ≤ N ∧ N ≤ 8 := by omega
  (repeat (first | refine bin_lss ?_ | refine sub64 (by omega) (by omega) ?_ | refine len8 ?_ | refine cond_f (by omega) ?_))
  by_cases h3 : (n : Int) - q < N
  · rw [show takeS l q N = (0, 0, 5) by unfold takeS; rw [if_neg (by simp [hl, h0]; omega), if_pos (by rw [hl]; exact h3)]] at h
    (repeat (first | refine cond_t (by omega) ?_))
    exact h
  have hs : takeS l q N = (beNat ((l.drop q).take N), (q : Int) + N, 0) := by
    unfold takeS
    rw [if_neg (by simp [hl, h0]; omega), if_neg (by rw [hl]; exact h3)]
    simp
  rw [hs] at h
  (repeat (first | refine octet_Take_P1_r ?_ | refine add64 (by omega) (by omega) ?_ | refine cond_f (by omega) ?_))
  rw [show ((q : Int) + (N : Int)) = ((q + N : Nat) : Int) by omega]
  refine cut8 (l := q) (m := q + N) hb (.inr ⟨_, rfl⟩) (.inr ⟨_, rfl⟩) (by omega) (by omega) ?_
  intro a' hr'
  have hx : (l.take (q + N)).drop q = (l.drop q).take N := by rw [List.drop_take]; congr 1; omega
  rw [hx] at hr'
  have hlen := hr'.len
  rw [show q + N - q = N by omega] at *
  (repeat (first | refine len8 ?_))
  refine octet_Take_L1_r (Inv := fun x i wr => ∃ j, j ≤ N ∧ i = .int .i64 (j : Nat) ∧ x = .int .u64 (beNat (((l.drop q).take N).take j) : Nat) ∧ wr = w)
    (μ := fun _ i _ => N - (intOf i).toNat) ⟨0, by omega, by simp, by simp [beNat], rfl⟩ ?_
  rintro _ _ _ w2 m ⟨j, hj, rfl, rfl, rfl⟩ hm
  by_cases hjN : j < N
  · (repeat (first | refine bin_lss ?_ | refine cond_t (by omega) ?_))
    refine idx8 hr' (by omega) (by omega) ?_
    intro hc
    refine ld8 hc ?_
    refine bin_shl (by omega) ?_
    refine conv_int Try.underlying5 Try.underlying113 ?_
    have hlt := beNat_lt (((l.drop q).take N).take j)
    have hjl : (((l.drop q).take N).take j).length = j := by rw [List.length_take]; omega
    rw [hjl] at hlt
    have hlt2 : beNat (((l.drop q).take N).take j) < 72057594037927936 := by
      have : 256 ^ j ≤ 256 ^ 7 := Nat.pow_le_pow_right (by omega) (by omega)
      omega
    generalize hcc : ((l.drop q).take N).getD (((j : Nat) : Int)).toNat 0 = cc
    have hc256 := cc.toNat_lt
    refine bin_or ?_
    rw [wrap_u64 (cc.toNat : Int), show (cc.toNat : Int) % 18446744073709551616 = ((cc.toNat : Nat) : Int) by omega, or_byte hlt2 (by omega)]
    (repeat (first | refine add64 (by omega) (by omega) ?_))
    have hcc' : ((l.drop q).take N).getD j 0 = cc := by simpa using hcc
    refine ⟨⟨j + 1, by omega, by simp, ?_, rfl⟩, by rw [hm]; simp only [intOf]; omega⟩
    rw [take_snoc _ _ (by omega), beNat_snoc, hcc']
  · have : j = N := by omega
    subst this
    (repeat (first | refine octet_Take_P3_r ?_ | refine bin_lss ?_ | refine cond_f (by omega) ?_))
    rw [List.take_of_length_le (by omega)]
    exact h

end Go.Proofs.Ytjkmblbonambjaa
