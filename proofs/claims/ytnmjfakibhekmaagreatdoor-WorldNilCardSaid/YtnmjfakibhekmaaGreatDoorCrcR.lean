/- The sum by which bytes that were turned are known: plain, and what the program's and the reference's functions give. -/
import Derived.Test.YtnmjfakibhekmaaGreatDoorSCrc
import Derived.Test.YtnmjfakibhekmaaGreatDoorTypes
namespace Go.Proofs.YtnmjfakibhekmaaGreatDoor
set_option maxRecDepth 100000
open Go.RowKit

def crcP : BitVec 32 := 0xedb88320#32
def cst (s : BitVec 32) : BitVec 32 := (s >>> 1) ^^^ (if s.getLsbD 0 then crcP else 0#32)
def cstN : Nat → BitVec 32 → BitVec 32
  | 0, s => s
  | n + 1, s => cst (cstN n s)
def byteV (c : UInt8) : BitVec 32 := BitVec.ofNat 32 c.toNat
def crcB (s : BitVec 32) (l : List UInt8) : BitVec 32 := l.foldl (fun s c => cstN 8 (s ^^^ byteV c)) s
/-- The sum of bytes behind others. -/
def crcS (sum : BitVec 32) (l : List UInt8) : BitVec 32 := ~~~ (crcB (~~~ sum) l)

theorem crcB_app (s : BitVec 32) (x y : List UInt8) : crcB s (x ++ y) = crcB (crcB s x) y := by simp [crcB, List.foldl_append]
theorem crcS_app (s : BitVec 32) (x y : List UInt8) : crcS (crcS s x) y = crcS s (x ++ y) := by simp [crcS, crcB_app]
theorem crcB_snoc (s : BitVec 32) (x : List UInt8) (c : UInt8) : crcB s (x ++ [c]) = cstN 8 (crcB s x ^^^ byteV c) := by rw [crcB_app]; rfl

/-- One step by a bit that comes in. -/
def refst (s : BitVec 32) (x : Bool) : BitVec 32 := (s >>> 1) ^^^ (if (s.getLsbD 0 ^^ x) then crcP else 0#32)
def refI (s c : BitVec 32) : Nat → BitVec 32
  | 0 => s
  | k + 1 => refst (refI s c k) (c.getLsbD k)

theorem cst_xor (s c : BitVec 32) (k : Nat) : cst (s ^^^ (c >>> k)) = refst s (c.getLsbD k) ^^^ (c >>> (k + 1)) := by
  unfold cst refst
  have h0 : (s ^^^ (c >>> k)).getLsbD 0 = (s.getLsbD 0 ^^ c.getLsbD k) := by simp [BitVec.getLsbD_xor, BitVec.getLsbD_ushiftRight]
  rw [h0, BitVec.ushiftRight_xor_distrib, ← BitVec.shiftRight_add]
  rw [BitVec.xor_assoc, BitVec.xor_assoc, BitVec.xor_comm (c >>> (k + 1))]
theorem refI_eq (s c : BitVec 32) : ∀ k, refI s c k ^^^ (c >>> k) = cstN k (s ^^^ c) := by
  intro k
  induction k with
  | zero => simp [refI, cstN]
  | succ k ih =>
    show refst (refI s c k) (c.getLsbD k) ^^^ (c >>> (k + 1)) = cst (cstN k (s ^^^ c))
    rw [← ih, cst_xor]
theorem byte_shift (c : UInt8) : byteV c >>> 8 = 0#32 := by
  apply BitVec.eq_of_toNat_eq
  have := c.toNat_lt
  simp [byteV, BitVec.toNat_ushiftRight, Nat.shiftRight_eq_div_pow]
  omega
theorem refI_8 (s : BitVec 32) (c : UInt8) : refI s (byteV c) 8 = cstN 8 (s ^^^ byteV c) := by
  rw [← refI_eq, byte_shift, BitVec.xor_zero]

/-! ## It goes back: no two numbers are stepped to the same. -/
theorem cst_inj {s t : BitVec 32} (h : cst s = cst t) : s = t := by
  have h31 : s.getLsbD 0 = t.getLsbD 0 := by
    have := congrArg (fun x => x.getLsbD 31) h
    unfold cst at this
    simp only [BitVec.getLsbD_xor, BitVec.getLsbD_ushiftRight] at this
    rw [BitVec.getLsbD_of_ge s (1 + 31) (by omega), BitVec.getLsbD_of_ge t (1 + 31) (by omega)] at this
    cases hs : s.getLsbD 0 <;> cases ht : t.getLsbD 0 <;> simp_all [crcP]
  have hsh : s >>> 1 = t >>> 1 := by
    unfold cst at h
    rw [h31] at h
    exact (BitVec.xor_left_inj _).1 h
  apply BitVec.eq_of_getLsbD_eq
  intro i hi
  cases i with
  | zero => exact h31
  | succ i =>
    have := congrArg (fun x => x.getLsbD i) hsh
    simp only [BitVec.getLsbD_ushiftRight] at this
    rw [Nat.add_comm]; exact this
theorem cstN_inj (n : Nat) {s t : BitVec 32} (h : cstN n s = cstN n t) : s = t := by
  induction n with
  | zero => exact h
  | succ n ih => exact ih (cst_inj h)
theorem byteV_inj {c d : UInt8} (h : byteV c = byteV d) : c = d := by
  have := congrArg BitVec.toNat h
  have h1 := c.toNat_lt
  have h2 := d.toNat_lt
  simp only [byteV, BitVec.toNat_ofNat] at this
  exact UInt8.toNat_inj.1 (by omega)
theorem crcB_inj (l : List UInt8) {s t : BitVec 32} (h : crcB s l = crcB t l) : s = t := by
  induction l generalizing s t with
  | nil => exact h
  | cons c l ih =>
    have := cstN_inj 8 (ih (s := cstN 8 (s ^^^ byteV c)) (t := cstN 8 (t ^^^ byteV c)) h)
    exact (BitVec.xor_left_inj _).1 this
/-- A byte that is turned turns the sum. -/
theorem crc_turned (s : BitVec 32) (x y : List UInt8) (c d : UInt8) (h : crcS s (x ++ c :: y) = crcS s (x ++ d :: y)) : c = d := by
  unfold crcS at h
  have h := congrArg (fun z => ~~~ z) h
  simp only [BitVec.not_not] at h
  rw [show x ++ c :: y = x ++ ([c] ++ y) by simp, show x ++ d :: y = x ++ ([d] ++ y) by simp, crcB_app, crcB_app, crcB_app, crcB_app] at h
  have h := crcB_inj y h
  have h := cstN_inj 8 (show cstN 8 (crcB (~~~ s) x ^^^ byteV c) = cstN 8 (crcB (~~~ s) x ^^^ byteV d) from h)
  exact byteV_inj ((BitVec.xor_right_inj _).1 h)

/-! ## The walks -/
def bv32 (s : BitVec 32) : Value := .int .u32 (s.toNat : Int)

section
variable {P : Program} {K : KV} {w : World} {t : TypeId} {cx cy : Bool}
theorem ofInt_nat (s : BitVec 32) : BitVec.ofInt 32 (s.toNat : Int) = s := by rw [BitVec.ofInt_natCast]; simp
theorem wrap_bv (s : BitVec 32) : IntKind.u32.wrap (s.toNat : Int) = (s.toNat : Int) := by
  rw [wrap_u32]; have := s.isLt; omega
theorem xor32 {x y : BitVec 32} (h : K (bv32 (x ^^^ y)) w) : bin P .xor t cx cy (bv32 x) (bv32 y) K w := by
  refine bin_xor ?_
  have e : bitsOp .xor .u32 (x.toNat : Int) (y.toNat : Int) = ((x ^^^ y).toNat : Int) := by
    show IntKind.u32.wrap ((BitVec.ofInt 32 (x.toNat : Int) ^^^ BitVec.ofInt 32 (y.toNat : Int)).toNat : Int) = _
    rw [ofInt_nat, ofInt_nat]
    exact wrap_bv _
  rw [e]; exact h
theorem and32 {x y : BitVec 32} (h : K (bv32 (x &&& y)) w) : bin P .and t cx cy (bv32 x) (bv32 y) K w := by
  refine bin_and ?_
  have e : bitsOp .and .u32 (x.toNat : Int) (y.toNat : Int) = ((x &&& y).toNat : Int) := by
    show IntKind.u32.wrap ((BitVec.ofInt 32 (x.toNat : Int) &&& BitVec.ofInt 32 (y.toNat : Int)).toNat : Int) = _
    rw [ofInt_nat, ofInt_nat]
    exact wrap_bv _
  rw [e]; exact h
theorem com32 {x : BitVec 32} (h : K (bv32 (~~~ x)) w) : un P .xor (bv32 x) K w := by
  refine un_com ?_
  have e : bitsOp .xor .u32 (if IntKind.u32.signed = true then -1 else IntKind.u32.max) (x.toNat : Int) = ((~~~ x).toNat : Int) := by
    rw [show (if IntKind.u32.signed = true then -1 else IntKind.u32.max) = (((BitVec.allOnes 32).toNat : Nat) : Int) from rfl]
    show IntKind.u32.wrap ((BitVec.ofInt 32 ((BitVec.allOnes 32).toNat : Int) ^^^ BitVec.ofInt 32 (x.toNat : Int)).toNat : Int) = _
    rw [ofInt_nat, ofInt_nat, BitVec.allOnes_xor]
    exact wrap_bv _
  rw [e]; exact h
theorem shr32 {x : BitVec 32} {k : IntKind} (h : K (bv32 (x >>> 1)) w) : bin P .shr t cx cy (bv32 x) (.int k 1) K w := by
  refine bin_shr (by omega) ?_
  have e : ((x.toNat : Int)).fdiv (2 ^ min (1 : Int).toNat IntKind.u32.bits) = ((x >>> 1).toNat : Int) := by
    rw [show (2 : Int) ^ min (1 : Int).toNat IntKind.u32.bits = 2 from rfl, BitVec.toNat_ushiftRight, Nat.shiftRight_eq_div_pow, Int.fdiv_eq_ediv_of_nonneg _ (by omega)]
    omega
  rw [e]; exact h
theorem mul32 {x y : BitVec 32} (h : K (bv32 (x * y)) w) : bin P .mul t cx cy (bv32 x) (bv32 y) K w := by
  refine bin_mul ?_
  have e : IntKind.u32.wrap ((x.toNat : Int) * (y.toNat : Int)) = ((x * y).toNat : Int) := by
    rw [wrap_u32, BitVec.toNat_mul]; omega
  rw [e]; exact h
theorem and_one (s : BitVec 32) : s &&& 1#32 = if s.getLsbD 0 then 1#32 else 0#32 := by
  apply BitVec.eq_of_toNat_eq
  rw [BitVec.toNat_and]
  have h1 : (1#32).toNat = 1 := rfl
  rw [h1, Nat.and_one_is_mod]
  have h2 : s.getLsbD 0 = decide (s.toNat % 2 = 1) := by simp [BitVec.getLsbD, Nat.testBit_zero]
  rw [h2]
  by_cases h : s.toNat % 2 = 1
  · simp [h]
  · simp [h]; omega
end

section
attribute [local irreducible] bin un conv call callV blt slc fldA fld idxA idx lkp mUpd mEnt eSt rng nxt ent ext alc box bld bldS ld sto nilC mkMap mkS ifc pick rdy wts gsel sti cond retM Gives cCode cGrp cSeq cOp
theorem stepped_c {s : BitVec 32} {w : World} {K : KV} (h : K (bv32 (cstN 8 s)) w) : call Tryz.prog 302 #[bv32 s] K w := by
  refine call_of crc_stepped_go (crc_stepped_in ?_)
  refine crc_stepped_L1_r (Inv := fun x i wr => ∃ j : Nat, j ≤ 8 ∧ i = .int .i64 (j : Nat) ∧ x = bv32 (cstN j s) ∧ wr = w) (μ := fun _ i _ => 8 - (intOf i).toNat) ⟨0, by omega, rfl, rfl, rfl⟩ ?_
  rintro _ _ _ w2 m ⟨j, hj, rfl, rfl, rfl⟩ hm
  by_cases hj8 : j < 8
  · (repeat (first | refine bin_lss ?_ | refine cond_t (by omega) ?_))
    refine shr32 ?_
    refine and32 (y := 1#32) ?_
    refine mul32 (x := crcP) ?_
    refine xor32 ?_
    (repeat (first | refine add64 (by omega) (by omega) ?_))
    refine ⟨⟨j + 1, by omega, by simp, ?_, rfl⟩, by rw [hm]; simp only [intOf]; omega⟩
    show bv32 _ = bv32 (cst (cstN j s))
    rw [and_one]
    unfold cst
    cases (cstN j s).getLsbD 0 <;> simp
  · have : j = 8 := by omega
    subst this
    (repeat (first | refine crc_stepped_P1_r ?_ | refine bin_lss ?_ | refine cond_F ?_))
    exact h

theorem byte32 {c : UInt8} {w : World} {K : KV} (h : K (bv32 (byteV c)) w) : conv Tryz.prog 5 387 (.int .u8 (c.toNat : Int)) K w := by
  refine conv_int Tryz.underlying5 Tryz.underlying387 ?_
  have e : IntKind.u32.wrap (c.toNat : Int) = ((byteV c).toNat : Int) := by
    have := c.toNat_lt
    rw [wrap_u32]; simp only [byteV, BitVec.toNat_ofNat]; omega
  rw [e]; exact h

theorem take_snoc' (l : List UInt8) (j : Nat) (h : j < l.length) : l.take (j + 1) = l.take j ++ [l.getD j 0] := by
  rw [List.take_succ_eq_append_getElem h]
  simp [List.getD, h]

theorem more_c {s : BitVec 32} {a : Option Addr} {n c : Nat} {l : List UInt8} {w : World} {K : KV} (hb : RB w a n c l) (hn : n ≤ 9223372036854775807) (h : K (bv32 (crcS s l)) w) : call Tryz.prog 283 #[bv32 s, .slice a n c] K w := by
  have hl := hb.len
  refine call_of crc_More_go (crc_More_in ?_)
  refine com32 ?_
  (repeat (first | refine len8 ?_))
  refine crc_More_L1_r (Inv := fun x i wr => ∃ j : Nat, j ≤ n ∧ i = .int .i64 (j : Nat) ∧ x = bv32 (crcB (~~~ s) (l.take j)) ∧ wr = w) (μ := fun _ i _ => n - (intOf i).toNat) ⟨0, by omega, rfl, by simp [crcB], rfl⟩ ?_
  rintro _ _ _ w2 m ⟨j, hj, rfl, rfl, rfl⟩ hm
  by_cases hjn : j < n
  · (repeat (first | refine bin_lss ?_ | refine cond_t (by omega) ?_))
    refine idx8 hb (by omega) (by omega) ?_
    intro hc
    refine ld8 hc ?_
    refine byte32 ?_
    refine xor32 ?_
    refine stepped_c ?_
    (repeat (first | refine add64 (by omega) (by omega) ?_))
    refine ⟨⟨j + 1, by omega, by simp, ?_, rfl⟩, by rw [hm]; simp only [intOf]; omega⟩
    rw [take_snoc' _ _ (by omega), crcB_snoc]; simp
  · have : j = n := by omega
    subst this
    (repeat (first | refine crc_More_P1_r ?_ | refine bin_lss ?_ | refine cond_f (by omega) ?_))
    refine com32 ?_
    rw [List.take_of_length_le (by omega)]
    exact h
theorem sum_c {a : Option Addr} {n c : Nat} {l : List UInt8} {w : World} {K : KV} (hb : RB w a n c l) (hn : n ≤ 9223372036854775807) (h : K (bv32 (crcS 0 l)) w) : call Tryz.prog 284 #[.slice a n c] K w := by
  refine call_of crc_Sum_go (crc_Sum_in ?_)
  exact more_c (s := 0) hb hn h
end
end Go.Proofs.YtnmjfakibhekmaaGreatDoor
