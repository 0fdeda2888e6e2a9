/- Laid together: SCrc CrcR RnC PD SRts Rts RnR RnM. -/
import Derived.Test.YtfjafbbalohmhaaGreatDoorSh
import Derived.Test.YtfjafbbalohmhaaGreatDoorChecked
import Derived.Test.YtfjafbbalohmhaaGreatDoorQ1
import Derived.Test.YtfjafbbalohmhaaGreatDoorQ5
namespace Go.Proofs.YtfjafbbalohmhaaGreatDoor
open Go.RowKit
set_option maxRecDepth 100000

def crc_stepped_P1 (K : KV) : KE := cCode Tryz.prog (cd Tryz.f173 [1, 1]) (retK Tryz.prog Tryz.f173.results.toList K) (fun _ _ _ => False) (retK Tryz.prog Tryz.f173.results.toList K)
def crc_stepped_L1 (K : KV) : KE := cCode Tryz.prog (cd Tryz.f173 [1, 0, 1, 0]) (crc_stepped_P1 K) (fun i => @Bool.rec (fun _ => KE) ((fun _ _ _ => False) i) (crc_stepped_P1 K) (Nat.beq i 0)) (retK Tryz.prog Tryz.f173.results.toList K)
theorem crc_stepped_k {K : KV} {s0 : Value} {w : World}
    (h : (cCode Tryz.prog (cd Tryz.f173 [1, 0, 1, 0]) (cCode Tryz.prog (cd Tryz.f173 [1, 1]) (retK Tryz.prog Tryz.f173.results.toList K) (fun _ _ _ => False) (retK Tryz.prog Tryz.f173.results.toList K)) (fun i => @Bool.rec (fun _ => KE) ((fun _ _ _ => False) i) (cCode Tryz.prog (cd Tryz.f173 [1, 1]) (retK Tryz.prog Tryz.f173.results.toList K) (fun _ _ _ => False) (retK Tryz.prog Tryz.f173.results.toList K)) (Nat.beq i 0)) (retK Tryz.prog Tryz.f173.results.toList K)) [s0, undef, (Value.int IntKind.u32 0), (Value.int IntKind.i64 0), undef, undef, undef, undef, undef, undef, undef, undef, undef] w) :
    cCode Tryz.prog (cd Tryz.f173 []) (retK Tryz.prog Tryz.f173.results.toList K) (fun _ _ _ => False) (retK Tryz.prog Tryz.f173.results.toList K) [s0, undef, undef, undef, undef, undef, undef, undef, undef, undef, undef, undef, undef] w := Eq.mp (by kernel_rfl) h

theorem crc_stepped_in {K : KV} {s0 : Value} {w : World}
    (h : (crc_stepped_L1 K) [s0, undef, (Value.int IntKind.u32 0), (Value.int IntKind.i64 0), undef, undef, undef, undef, undef, undef, undef, undef, undef] w) :
    Gives Tryz.prog 173 #[s0] w K := enter' Tryz.func173 (by kernel_rfl) (Eq.mp (congrArg (fun c => cCode Tryz.prog c (retK Tryz.prog Tryz.f173.results.toList K) (fun _ _ _ => False) (retK Tryz.prog Tryz.f173.results.toList K) [s0, undef, undef, undef, undef, undef, undef, undef, undef, undef, undef, undef, undef] w) (by kernel_rfl : (cd Tryz.f173 []) = (cd Tryz.f173 []))) (crc_stepped_k h))
theorem crc_stepped_go : isGo Tryz.prog 173 := ⟨_, Tryz.func173, by kernel_rfl, by kernel_rfl⟩

theorem crc_stepped_L1_k {K : KV} (B1 : KE) (qc0 : KE) {s0' s1 A0 A1' C0 : Value} {dd : Nat → Value} {w : World}
    (h : bin Tryz.prog BinOp.lss 3 false true A1' (Value.int IntKind.i64 8) (fun A2 w =>
    cond A2
      (bin Tryz.prog BinOp.shr 274 false true s0' (Value.int IntKind.u64 1) (fun A4 w =>
    bin Tryz.prog BinOp.and 274 false true s0' (Value.int IntKind.u32 1) (fun A6 w =>
    bin Tryz.prog BinOp.mul 274 true false (Value.int IntKind.u32 3988292384) A6 (fun A7 w =>
    bin Tryz.prog BinOp.xor 274 false false A4 A7 (fun A8 w =>
    bin Tryz.prog BinOp.add 3 false true A1' (Value.int IntKind.i64 1) (fun A9 w =>
    B1 [A8, s1, A0, A9, A2, s0', A4, s0', A6, A7, A8, A9, C0] w) w) w) w) w) w)
      (qc0 [s0', s1, A0, A1', A2, (dd 5), (dd 6), (dd 7), (dd 8), (dd 9), (dd 10), (dd 11), C0] w)) w) :
    cCode Tryz.prog (cd Tryz.f173 [1, 0, 1, 0, 0]) B1 (fun i => @Bool.rec (fun _ => KE) ((fun _ _ _ => False) i) qc0 (Nat.beq i 0)) (retK Tryz.prog Tryz.f173.results.toList K) [s0', s1, A0, A1', (dd 4), (dd 5), (dd 6), (dd 7), (dd 8), (dd 9), (dd 10), (dd 11), C0] w := Eq.mp (by kernel_rfl) h

theorem crc_stepped_L1_r {K : KV} {s0 s1 A0 A1 A2 A3 A4 A5 A6 A7 A8 A9 C0 : Value} {w : World} (Inv : Value → Value → World → Prop) (μ : Value → Value → World → Nat) (h0 : Inv s0 A1 w)
    (hs : ∀ (s0' A1' : Value) (dd : Nat → Value) (w : World) (m : Nat), Inv s0' A1' w → m = μ s0' A1' w →
    bin Tryz.prog BinOp.lss 3 false true A1' (Value.int IntKind.i64 8) (fun A2 w =>
    cond A2
      (bin Tryz.prog BinOp.shr 274 false true s0' (Value.int IntKind.u64 1) (fun A4 w =>
    bin Tryz.prog BinOp.and 274 false true s0' (Value.int IntKind.u32 1) (fun A6 w =>
    bin Tryz.prog BinOp.mul 274 true false (Value.int IntKind.u32 3988292384) A6 (fun A7 w =>
    bin Tryz.prog BinOp.xor 274 false false A4 A7 (fun A8 w =>
    bin Tryz.prog BinOp.add 3 false true A1' (Value.int IntKind.i64 1) (fun A9 w =>
    (Inv A8 A9 w ∧ μ A8 A9 w < m)) w) w) w) w) w)
      ((crc_stepped_P1 K) [s0', s1, A0, A1', A2, (dd 5), (dd 6), (dd 7), (dd 8), (dd 9), (dd 10), (dd 11), C0] w)) w) :
    crc_stepped_L1 K [s0, s1, A0, A1, A2, A3, A4, A5, A6, A7, A8, A9, C0] w := by
  refine loop_rule (cd Tryz.f173 [1, 0, 1, 0, 0]) [0, 3, 4, 5, 6, 7, 8, 9, 10, 11] (by kernel_rfl) (fun e2 w2 => Inv (gd e2 0) (gd e2 3) w2) (fun e2 w2 => μ (gd e2 0) (gd e2 3) w2) h0 ?_
  intro e' w' hI
  have h := hs (gd e' 0) (gd e' 3) (fun i => gd e' i) w' _ hI rfl
  have h2 : cCode Tryz.prog (cd Tryz.f173 [1, 0, 1, 0, 0]) (fun e2 w2 => Inv (gd e2 0) (gd e2 3) w2 ∧ μ (gd e2 0) (gd e2 3) w2 < μ (gd e' 0) (gd e' 3) w') (fun i => @Bool.rec (fun _ => KE) ((fun _ _ _ => False) i) (crc_stepped_P1 K) (Nat.beq i 0)) (retK Tryz.prog Tryz.f173.results.toList K) [(gd e' 0), s1, A0, (gd e' 3), (gd e' 4), (gd e' 5), (gd e' 6), (gd e' 7), (gd e' 8), (gd e' 9), (gd e' 10), (gd e' 11), C0] w' := crc_stepped_L1_k (fun e2 w2 => Inv (gd e2 0) (gd e2 3) w2 ∧ μ (gd e2 0) (gd e2 3) w2 < μ (gd e' 0) (gd e' 3) w') (crc_stepped_P1 K) (Eq.mp (by kernel_rfl) h)
  exact Eq.mp (by kernel_rfl) h2

theorem crc_stepped_P1_k {K : KV} {s0 s1 A0 A1 A2 A3 A4 A5 A6 A7 A8 A9 C0 : Value} {w : World}
    (h : K s0 w) :
    cCode Tryz.prog (cd Tryz.f173 [1, 1]) (retK Tryz.prog Tryz.f173.results.toList K) (fun _ _ _ => False) (retK Tryz.prog Tryz.f173.results.toList K) [s0, s1, A0, A1, A2, A3, A4, A5, A6, A7, A8, A9, C0] w := Eq.mp (by kernel_rfl) h

theorem crc_stepped_P1_r {K : KV} {s0 s1 A0 A1 A2 A3 A4 A5 A6 A7 A8 A9 C0 : Value} {w : World}
    (h : K s0 w) :
    crc_stepped_P1 K [s0, s1, A0, A1, A2, A3, A4, A5, A6, A7, A8, A9, C0] w := by
  delta crc_stepped_P1
  exact Eq.mp (congrArg (fun c => cCode Tryz.prog c (retK Tryz.prog Tryz.f173.results.toList K) (fun _ _ _ => False) (retK Tryz.prog Tryz.f173.results.toList K) [s0, s1, A0, A1, A2, A3, A4, A5, A6, A7, A8, A9, C0] w) (by kernel_rfl : (cd Tryz.f173 [1, 1]) = (cd Tryz.f173 [1, 1]))) (crc_stepped_P1_k h)
attribute [irreducible] crc_stepped_P1 crc_stepped_L1

def crc_More_P1 (K : KV) : KE := cCode Tryz.prog (cd Tryz.f158 [1, 1, 1]) (retK Tryz.prog Tryz.f158.results.toList K) (fun _ _ _ => False) (retK Tryz.prog Tryz.f158.results.toList K)
def crc_More_L1 (K : KV) : KE := cCode Tryz.prog (cd Tryz.f158 [1, 1, 0, 1, 0]) (crc_More_P1 K) (fun i => @Bool.rec (fun _ => KE) ((fun _ _ _ => False) i) (crc_More_P1 K) (Nat.beq i 0)) (retK Tryz.prog Tryz.f158.results.toList K)
theorem crc_More_k {K : KV} {sum0 b1 : Value} {w : World}
    (h : un Tryz.prog UnOp.xor sum0 (fun A7 w =>
    blt Tryz.prog Builtin.len #[28] 3 #[false] #[b1] (fun A9 w =>
    (cCode Tryz.prog (cd Tryz.f158 [1, 1, 0, 1, 0]) (cCode Tryz.prog (cd Tryz.f158 [1, 1, 1]) (retK Tryz.prog Tryz.f158.results.toList K) (fun _ _ _ => False) (retK Tryz.prog Tryz.f158.results.toList K)) (fun i => @Bool.rec (fun _ => KE) ((fun _ _ _ => False) i) (cCode Tryz.prog (cd Tryz.f158 [1, 1, 1]) (retK Tryz.prog Tryz.f158.results.toList K) (fun _ _ _ => False) (retK Tryz.prog Tryz.f158.results.toList K)) (Nat.beq i 0)) (retK Tryz.prog Tryz.f158.results.toList K)) [sum0, b1, undef, undef, (Value.int IntKind.u32 0), A7, undef, undef, sum0, A7, b1, A9, (Value.int IntKind.i64 0), undef, undef, undef, undef, undef, undef, undef, undef, undef, undef, undef] w) w) w) :
    cCode Tryz.prog (cd Tryz.f158 []) (retK Tryz.prog Tryz.f158.results.toList K) (fun _ _ _ => False) (retK Tryz.prog Tryz.f158.results.toList K) [sum0, b1, undef, undef, undef, undef, undef, undef, undef, undef, undef, undef, undef, undef, undef, undef, undef, undef, undef, undef, undef, undef, undef, undef] w := Eq.mp (by kernel_rfl) h

theorem crc_More_in {K : KV} {sum0 b1 : Value} {w : World}
    (h : un Tryz.prog UnOp.xor sum0 (fun A7 w =>
    blt Tryz.prog Builtin.len #[28] 3 #[false] #[b1] (fun A9 w =>
    (crc_More_L1 K) [sum0, b1, undef, undef, (Value.int IntKind.u32 0), A7, undef, undef, sum0, A7, b1, A9, (Value.int IntKind.i64 0), undef, undef, undef, undef, undef, undef, undef, undef, undef, undef, undef] w) w) w) :
    Gives Tryz.prog 158 #[sum0, b1] w K := enter' Tryz.func158 (by kernel_rfl) (Eq.mp (congrArg (fun c => cCode Tryz.prog c (retK Tryz.prog Tryz.f158.results.toList K) (fun _ _ _ => False) (retK Tryz.prog Tryz.f158.results.toList K) [sum0, b1, undef, undef, undef, undef, undef, undef, undef, undef, undef, undef, undef, undef, undef, undef, undef, undef, undef, undef, undef, undef, undef, undef] w) (by kernel_rfl : (cd Tryz.f158 []) = (cd Tryz.f158 []))) (crc_More_k h))
theorem crc_More_go : isGo Tryz.prog 158 := ⟨_, Tryz.func158, by kernel_rfl, by kernel_rfl⟩

theorem crc_More_L1_k {K : KV} (B1 : KE) (qc0 : KE) {sum0 b1 sum2 b3 A2 s5' A4 A6 A7 A8 A9 C0' D0 D1 : Value} {dd : Nat → Value} {w : World}
    (h : bin Tryz.prog BinOp.lss 3 false false C0' A9 (fun C1 w =>
    cond C1
      (idxA Tryz.prog 28 A8 C0' (fun C2 w =>
    ld Tryz.prog 5 C2 (fun C3 w =>
    conv Tryz.prog 5 274 C3 (fun C6 w =>
    bin Tryz.prog BinOp.xor 274 false false s5' C6 (fun C7 w =>
    call Tryz.prog 173 #[C7] (fun C8 w =>
    bin Tryz.prog BinOp.add 3 false true C0' (Value.int IntKind.i64 1) (fun C9 w =>
    B1 [sum0, b1, sum2, b3, A2, C8, A4, C3, A6, A7, A8, A9, C9, C1, C2, C3, s5', C3, C6, C7, C8, C9, D0, D1] w) w) w) w) w) w) w)
      (qc0 [sum0, b1, sum2, b3, A2, s5', A4, (dd 7), A6, A7, A8, A9, C0', C1, (dd 14), (dd 15), (dd 16), (dd 17), (dd 18), (dd 19), (dd 20), (dd 21), D0, D1] w)) w) :
    cCode Tryz.prog (cd Tryz.f158 [1, 1, 0, 1, 0, 0]) B1 (fun i => @Bool.rec (fun _ => KE) ((fun _ _ _ => False) i) qc0 (Nat.beq i 0)) (retK Tryz.prog Tryz.f158.results.toList K) [sum0, b1, sum2, b3, A2, s5', A4, (dd 7), A6, A7, A8, A9, C0', (dd 13), (dd 14), (dd 15), (dd 16), (dd 17), (dd 18), (dd 19), (dd 20), (dd 21), D0, D1] w := Eq.mp (by kernel_rfl) h

theorem crc_More_L1_r {K : KV} {sum0 b1 sum2 b3 A2 s5 A4 c7 A6 A7 A8 A9 C0 C1 C2 C3 C4 C5 C6 C7 C8 C9 D0 D1 : Value} {w : World} (Inv : Value → Value → World → Prop) (μ : Value → Value → World → Nat) (h0 : Inv s5 C0 w)
    (hs : ∀ (s5' C0' : Value) (dd : Nat → Value) (w : World) (m : Nat), Inv s5' C0' w → m = μ s5' C0' w →
    bin Tryz.prog BinOp.lss 3 false false C0' A9 (fun C1 w =>
    cond C1
      (idxA Tryz.prog 28 A8 C0' (fun C2 w =>
    ld Tryz.prog 5 C2 (fun C3 w =>
    conv Tryz.prog 5 274 C3 (fun C6 w =>
    bin Tryz.prog BinOp.xor 274 false false s5' C6 (fun C7 w =>
    call Tryz.prog 173 #[C7] (fun C8 w =>
    bin Tryz.prog BinOp.add 3 false true C0' (Value.int IntKind.i64 1) (fun C9 w =>
    (Inv C8 C9 w ∧ μ C8 C9 w < m)) w) w) w) w) w) w)
      ((crc_More_P1 K) [sum0, b1, sum2, b3, A2, s5', A4, (dd 7), A6, A7, A8, A9, C0', C1, (dd 14), (dd 15), (dd 16), (dd 17), (dd 18), (dd 19), (dd 20), (dd 21), D0, D1] w)) w) :
    crc_More_L1 K [sum0, b1, sum2, b3, A2, s5, A4, c7, A6, A7, A8, A9, C0, C1, C2, C3, C4, C5, C6, C7, C8, C9, D0, D1] w := by
  refine loop_rule (cd Tryz.f158 [1, 1, 0, 1, 0, 0]) [5, 7, 12, 13, 14, 15, 16, 17, 18, 19, 20, 21] (by kernel_rfl) (fun e2 w2 => Inv (gd e2 5) (gd e2 12) w2) (fun e2 w2 => μ (gd e2 5) (gd e2 12) w2) h0 ?_
  intro e' w' hI
  have h := hs (gd e' 5) (gd e' 12) (fun i => gd e' i) w' _ hI rfl
  have h2 : cCode Tryz.prog (cd Tryz.f158 [1, 1, 0, 1, 0, 0]) (fun e2 w2 => Inv (gd e2 5) (gd e2 12) w2 ∧ μ (gd e2 5) (gd e2 12) w2 < μ (gd e' 5) (gd e' 12) w') (fun i => @Bool.rec (fun _ => KE) ((fun _ _ _ => False) i) (crc_More_P1 K) (Nat.beq i 0)) (retK Tryz.prog Tryz.f158.results.toList K) [sum0, b1, sum2, b3, A2, (gd e' 5), A4, (gd e' 7), A6, A7, A8, A9, (gd e' 12), (gd e' 13), (gd e' 14), (gd e' 15), (gd e' 16), (gd e' 17), (gd e' 18), (gd e' 19), (gd e' 20), (gd e' 21), D0, D1] w' := crc_More_L1_k (fun e2 w2 => Inv (gd e2 5) (gd e2 12) w2 ∧ μ (gd e2 5) (gd e2 12) w2 < μ (gd e' 5) (gd e' 12) w') (crc_More_P1 K) (Eq.mp (by kernel_rfl) h)
  exact Eq.mp (by kernel_rfl) h2

theorem crc_More_P1_k {K : KV} {sum0 b1 sum2 b3 A2 s5 A4 c7 A6 A7 A8 A9 C0 C1 C2 C3 C4 C5 C6 C7 C8 C9 D0 D1 : Value} {w : World}
    (h : un Tryz.prog UnOp.xor s5 (fun D1 w =>
    K D1 w) w) :
    cCode Tryz.prog (cd Tryz.f158 [1, 1, 1]) (retK Tryz.prog Tryz.f158.results.toList K) (fun _ _ _ => False) (retK Tryz.prog Tryz.f158.results.toList K) [sum0, b1, sum2, b3, A2, s5, A4, c7, A6, A7, A8, A9, C0, C1, C2, C3, C4, C5, C6, C7, C8, C9, D0, D1] w := Eq.mp (by kernel_rfl) h

theorem crc_More_P1_r {K : KV} {sum0 b1 sum2 b3 A2 s5 A4 c7 A6 A7 A8 A9 C0 C1 C2 C3 C4 C5 C6 C7 C8 C9 D0 D1 : Value} {w : World}
    (h : un Tryz.prog UnOp.xor s5 (fun D1 w =>
    K D1 w) w) :
    crc_More_P1 K [sum0, b1, sum2, b3, A2, s5, A4, c7, A6, A7, A8, A9, C0, C1, C2, C3, C4, C5, C6, C7, C8, C9, D0, D1] w := by
  delta crc_More_P1
  exact Eq.mp (congrArg (fun c => cCode Tryz.prog c (retK Tryz.prog Tryz.f158.results.toList K) (fun _ _ _ => False) (retK Tryz.prog Tryz.f158.results.toList K) [sum0, b1, sum2, b3, A2, s5, A4, c7, A6, A7, A8, A9, C0, C1, C2, C3, C4, C5, C6, C7, C8, C9, D0, D1] w) (by kernel_rfl : (cd Tryz.f158 [1, 1, 1]) = (cd Tryz.f158 [1, 1, 1]))) (crc_More_P1_k h)
attribute [irreducible] crc_More_P1 crc_More_L1


end Go.Proofs.YtfjafbbalohmhaaGreatDoor
namespace Go.Proofs.YtfjafbbalohmhaaGreatDoor
set_option maxRecDepth 100000
open Go.RowKit

def crcP : BitVec 32 := 0xedb88320#32
def cst (s : BitVec 32) : BitVec 32 := (s >>> 1) ^^^ (if s.getLsbD 0 then crcP else 0#32)
def cstN : Nat → BitVec 32 → BitVec 32
  | 0, s => s
  | n + 1, s => cst (cstN n s)
def byteV (c : UInt8) : BitVec 32 := BitVec.ofNat 32 c.toNat
def crcB (s : BitVec 32) (l : List UInt8) : BitVec 32 := l.foldl (fun s c => cstN 8 (s ^^^ byteV c)) s
def crcS (sum : BitVec 32) (l : List UInt8) : BitVec 32 := ~~~ (crcB (~~~ sum) l)

theorem crcB_app (s : BitVec 32) (x y : List UInt8) : crcB s (x ++ y) = crcB (crcB s x) y := by simp [crcB, List.foldl_append]
theorem crcB_snoc (s : BitVec 32) (x : List UInt8) (c : UInt8) : crcB s (x ++ [c]) = cstN 8 (crcB s x ^^^ byteV c) := by rw [crcB_app]; rfl

/-! ## It goes back: no two numbers are stepped to the same. -/
/-! ## The walks -/
def bv32 (s : BitVec 32) : Value := .int .u32 (s.toNat : Int)

section
variable {P : Program} {K : KV} {w : World} {t : TypeId} {cx cy : Bool}
theorem ofInt_nat (s : BitVec 32) : BitVec.ofInt 32 (s.toNat : Int) = s := by rw [BitVec.ofInt_natCast]; simp
theorem wrap_bv (s : BitVec 32) : IntKind.u32.wrap (s.toNat : Int) = (s.toNat : Int) := by
  rw [wrap_u32]; have := s.isLt; omega
theorem xor32 {x y : BitVec 32} (h : K (bv32 (x ^^^ y)) w) : bin P .xor t cx cy (bv32 x) (bv32 y) K w := by
  refine bin_xor ?_
  have e : bitsOp .xor .u32 (x.toNat : Int) (y.toNat : Int) = ((x ^^^ y).toNat : Int) := by
    show IntKind.u32.wrap ((BitVec.ofInt 32 (x.toNat : Int) ^^^ BitVec.ofInt 32 (y.toNat : Int)).toNat : Int) = _
    rw [ofInt_nat, ofInt_nat]
    exact wrap_bv _
  rw [e]; exact h
theorem and32 {x y : BitVec 32} (h : K (bv32 (x &&& y)) w) : bin P .and t cx cy (bv32 x) (bv32 y) K w := by
  refine bin_and ?_
  have e : bitsOp .and .u32 (x.toNat : Int) (y.toNat : Int) = ((x &&& y).toNat : Int) := by
    show IntKind.u32.wrap ((BitVec.ofInt 32 (x.toNat : Int) &&& BitVec.ofInt 32 (y.toNat : Int)).toNat : Int) = _
    rw [ofInt_nat, ofInt_nat]
    exact wrap_bv _
  rw [e]; exact h
theorem com32 {x : BitVec 32} (h : K (bv32 (~~~ x)) w) : un P .xor (bv32 x) K w := by
  refine un_com ?_
  have e : bitsOp .xor .u32 (if IntKind.u32.signed = true then -1 else IntKind.u32.max) (x.toNat : Int) = ((~~~ x).toNat : Int) := by
    rw [show (if IntKind.u32.signed = true then -1 else IntKind.u32.max) = (((BitVec.allOnes 32).toNat : Nat) : Int) from rfl]
    show IntKind.u32.wrap ((BitVec.ofInt 32 ((BitVec.allOnes 32).toNat : Int) ^^^ BitVec.ofInt 32 (x.toNat : Int)).toNat : Int) = _
    rw [ofInt_nat, ofInt_nat, BitVec.allOnes_xor]
    exact wrap_bv _
  rw [e]; exact h
theorem shr32 {x : BitVec 32} {k : IntKind} (h : K (bv32 (x >>> 1)) w) : bin P .shr t cx cy (bv32 x) (.int k 1) K w := by
  refine bin_shr (by omega) ?_
  have e : ((x.toNat : Int)).fdiv (2 ^ min (1 : Int).toNat IntKind.u32.bits) = ((x >>> 1).toNat : Int) := by
    rw [show (2 : Int) ^ min (1 : Int).toNat IntKind.u32.bits = 2 from rfl, BitVec.toNat_ushiftRight, Nat.shiftRight_eq_div_pow, Int.fdiv_eq_ediv_of_nonneg _ (by omega)]
    omega
  rw [e]; exact h
theorem mul32 {x y : BitVec 32} (h : K (bv32 (x * y)) w) : bin P .mul t cx cy (bv32 x) (bv32 y) K w := by
  refine bin_mul ?_
  have e : IntKind.u32.wrap ((x.toNat : Int) * (y.toNat : Int)) = ((x * y).toNat : Int) := by
    rw [wrap_u32, BitVec.toNat_mul]; omega
  rw [e]; exact h
theorem and_one (s : BitVec 32) : s &&& 1#32 = if s.getLsbD 0 then 1#32 else 0#32 := by
  apply BitVec.eq_of_toNat_eq
  rw [BitVec.toNat_and]
  have h1 : (1#32).toNat = 1 := rfl
  rw [h1, Nat.and_one_is_mod]
  have h2 : s.getLsbD 0 = decide (s.toNat % 2 = 1) := by simp [BitVec.getLsbD, Nat.testBit_zero]
  rw [h2]
  by_cases h : s.toNat % 2 = 1
  · simp [h]
  · simp [h]; omega
end

section
attribute [local irreducible] bin un conv call callV blt slc fldA fld idxA idx lkp mUpd mEnt eSt rng nxt ent ext alc box bld bldS ld sto nilC mkMap mkS ifc pick rdy wts gsel sti cond retM Gives cCode cGrp cSeq cOp
theorem stepped_c {s : BitVec 32} {w : World} {K : KV} (h : K (bv32 (cstN 8 s)) w) : call Tryz.prog 173 #[bv32 s] K w := by
  refine call_of crc_stepped_go (crc_stepped_in ?_)
  refine crc_stepped_L1_r (Inv := fun x i wr => ∃ j : Nat, j ≤ 8 ∧ i = .int .i64 (j : Nat) ∧ x = bv32 (cstN j s) ∧ wr = w) (μ := fun _ i _ => 8 - (intOf i).toNat) ⟨0, by omega, rfl, rfl, rfl⟩ ?_
  rintro _ _ _ w2 m ⟨j, hj, rfl, rfl, rfl⟩ hm
  by_cases hj8 : j < 8
  · (repeat (first | refine bin_lss ?_ | refine cond_t (by omega) ?_))
    refine shr32 ?_
    refine and32 (y := 1#32) ?_
    refine mul32 (x := crcP) ?_
    refine xor32 ?_
    (repeat (first | refine add64 (by omega) (by omega) ?_))
    refine ⟨⟨j + 1, by omega, by simp, ?_, rfl⟩, by rw [hm]; simp only [intOf]; omega⟩
    show bv32 _ = bv32 (cst (cstN j s))
    rw [and_one]
    unfold cst
    cases (cstN j s).getLsbD 0 <;> simp
  · have : j = 8 := by omega
    subst this
    (repeat (first | refine crc_stepped_P1_r ?_ | refine bin_lss ?_ | refine cond_F ?_))
    exact h

theorem byte32 {c : UInt8} {w : World} {K : KV} (h : K (bv32 (byteV c)) w) : conv Tryz.prog 5 274 (.int .u8 (c.toNat : Int)) K w := by
  refine conv_int Tryz.underlying5 Tryz.underlying274 ?_
  have e : IntKind.u32.wrap (c.toNat : Int) = ((byteV c).toNat : Int) := by
    have := c.toNat_lt
    rw [wrap_u32]; simp only [byteV, BitVec.toNat_ofNat]; omega
  rw [e]; exact h

theorem take_snoc' (l : List UInt8) (j : Nat) (h : j < l.length) : l.take (j + 1) = l.take j ++ [l.getD j 0] := by
  rw [List.take_succ_eq_append_getElem h]
  simp [List.getD, h]

theorem more_c {s : BitVec 32} {a : Option Addr} {n c : Nat} {l : List UInt8} {w : World} {K : KV} (hb : RB w a n c l) (hn : n ≤ 9223372036854775807) (h : K (bv32 (crcS s l)) w) : call Tryz.prog 158 #[bv32 s, .slice a n c] K w := by
  have hl := hb.len
  refine call_of crc_More_go (crc_More_in ?_)
  refine com32 ?_
  (repeat (first | refine len8 ?_))
  refine crc_More_L1_r (Inv := fun x i wr => ∃ j : Nat, j ≤ n ∧ i = .int .i64 (j : Nat) ∧ x = bv32 (crcB (~~~ s) (l.take j)) ∧ wr = w) (μ := fun _ i _ => n - (intOf i).toNat) ⟨0, by omega, rfl, by simp [crcB], rfl⟩ ?_
  rintro _ _ _ w2 m ⟨j, hj, rfl, rfl, rfl⟩ hm
  by_cases hjn : j < n
  · (repeat (first | refine bin_lss ?_ | refine cond_t (by omega) ?_))
    refine idx8 hb (by omega) (by omega) ?_
    intro hc
    refine ld8 hc ?_
    refine byte32 ?_
    refine xor32 ?_
    refine stepped_c ?_
    (repeat (first | refine add64 (by omega) (by omega) ?_))
    refine ⟨⟨j + 1, by omega, by simp, ?_, rfl⟩, by rw [hm]; simp only [intOf]; omega⟩
    rw [take_snoc' _ _ (by omega), crcB_snoc]; simp
  · have : j = n := by omega
    subst this
    (repeat (first | refine crc_More_P1_r ?_ | refine bin_lss ?_ | refine cond_f (by omega) ?_))
    refine com32 ?_
    rw [List.take_of_length_le (by omega)]
    exact h
end
end Go.Proofs.YtfjafbbalohmhaaGreatDoor
namespace Go.Proofs.YtfjafbbalohmhaaGreatDoor
set_option maxRecDepth 100000
open Go.RowKit

def byteC : CV → Option UInt8
  | .k (.int .u8 a) => match decide ((((UInt8.ofNat a.toNat).toNat : Nat) : Int) = a) with | true => some (UInt8.ofNat a.toNat) | false => none
  | _ => none
def bytesC : List CV → Option (List UInt8)
  | [] => some []
  | c :: r => match byteC c, bytesC r with | some b, some l => some (b :: l) | _, _ => none
def rowB (H : AH) : GV → Option (List UInt8)
  | .val (.one (.k (.slice none 0 0))) => some []
  | .val (.one (.s b o _ n _)) => match H.get b with
    | some (.cells _ _ _ cs) => match Nat.beq ((cs.drop o).take n).length n with | true => bytesC ((cs.drop o).take n) | false => none
    | _ => none
  | _ => none
def crcJ : Cp := fun f args H =>
  match Nat.beq f 158, args with
  | true, [.val (.one (.k (.int .u32 s))), y] => match rowB H y, decide ((((BitVec.ofNat 32 s.toNat).toNat : Nat) : Int) = s) with
    | some l, true => match Nat.ble l.length 9223372036854775807 with | true => some (kG (bv32 (crcS (BitVec.ofNat 32 s.toNat) l))) | false => none
    | _, _ => none
  | _, _ => none
section
variable {G : Glo} {B0 : Nat} {R : Lay} {H : AH} {w : World}
theorem byteC_ok {c : CV} {b : UInt8} {v : Value} (h : byteC c = some b) (hr : CR R c v) : v = u8v b := by
  unfold byteC at h
  split at h
  · rename_i a
    split at h
    · rename_i hd
      cases h
      have hd := of_decide_eq_true hd
      have : v = .int .u8 a := hr.1
      rw [this]
      unfold u8v
      rw [hd]
    · cases h
  · cases h
theorem bytesC_ok : ∀ {cs : List CV} {l : List UInt8} {vs : List Value}, bytesC cs = some l → All2 (CR R) cs vs → vs = l.map u8v
  | [], l, vs, h, hr => by cases h; cases hr; rfl
  | c :: r, l, vs, h, hr => by
    unfold bytesC at h
    split at h
    · rename_i b l' hb hl
      cases h
      cases hr with
      | cons h1 h2 => rw [byteC_ok hb h1, bytesC_ok hl h2]; rfl
    · cases h
theorem rowB_ok {y : GV} {l : List UInt8} {v : Value} (h : rowB H y = some l) (hs : Sim G B0 R H w) (hr : y.rel R v) : ∃ a n c, v = .slice a n c ∧ RB w a n c l := by
  unfold rowB at h
  split at h
  · cases h; cases hr
    exact ⟨none, 0, 0, rfl, rfl, Nat.le_refl _, fun h => absurd h (by omega), fun _ => ⟨rfl, rfl⟩, fun i v hv => by simp at hv⟩
  · rename_i b o lo n c
    split at h
    · rename_i e z g cs hg
      split at h
      · rename_i hb
        have hlen := Nat.eq_of_beq_eq_true hb
        obtain ⟨L, hL, hn, rfl⟩ := hr
        obtain ⟨c0, hbk, hc, _⟩ := hs.cells hg hL
        have ha := take_cells hc.rel hlen
        have hv := bytesC_ok h ha
        refine ⟨_, _, _, rfl, ?_⟩
        refine ⟨by rw [← hv, ha.len, hlen], hn, fun _ => ⟨L.B, o, rfl⟩, (fun hh => by cases hh), fun i v hi => ?_⟩
        rw [← hv] at hi
        show w.cell? _ = some v
        have hlt : i < n := by
          have := (List.getElem?_eq_some_iff.1 hi).1
          rw [ha.len, hlen] at this; exact this
        rw [List.getElem?_take_of_lt hlt, List.getElem?_drop] at hi
        have : slotA (some ⟨L.B, o, none⟩) i = ⟨L.B, o + i, none⟩ := rfl
        rw [this, hbk.cell]; exact hi
      · cases h
    · cases h
  · cases h
theorem crcJ_ok : CpOK Tryz.prog G B0 crcJ := by
  intro f args H r R w vs h hs ha
  unfold crcJ at h
  split at h
  · rename_i s y hb
    have hb := Nat.eq_of_beq_eq_true hb
    subst hb
    split at h
    · rename_i l hl hd
      split at h
      · rename_i hn
        cases h
        have hd := of_decide_eq_true hd
        have hn := Nat.le_of_ble_eq_true hn
        obtain ⟨v0, m, rfl, h0, ha⟩ : ∃ v0 m, vs = v0 :: m ∧ GV.rel R (.val (.one (.k (.int .u32 s)))) v0 ∧ All2 (GV.rel R) [y] m := by
          cases ha with
          | cons h1 h2 => exact ⟨_, _, rfl, h1, h2⟩
        cases ha with
        | cons h1 h2 =>
          cases h2
          obtain ⟨a, n, c, rfl, hrb⟩ := rowB_ok hl hs h1
          have h0 : v0 = .int .u32 s := h0
          refine ⟨_, rfl, fun K hK => ?_⟩
          have e0 : v0 = bv32 (BitVec.ofNat 32 s.toNat) := by rw [h0]; unfold bv32; rw [hd]
          rw [e0]
          exact more_c (s := BitVec.ofNat 32 s.toNat) hrb (by rw [← hrb.len]; exact hn) hK
      · cases h
    · cases h
  · cases h
def crcI : Cl := fun f args H => match crcJ f args H with | some r => some (r, H) | none => none
theorem crcI_ok : ClOK Tryz.prog G B0 crcI := by
  intro f args H r H' R w vs h hs ha
  unfold crcI at h
  split at h
  · rename_i r' hr
    cases h
    exact (crcJ_ok hr hs ha).yls hs
  · cases h
end
end Go.Proofs.YtfjafbbalohmhaaGreatDoor
namespace Go.Proofs.YtfjafbbalohmhaaGreatDoor
set_option maxRecDepth 100000
abbrev MXA : Int := 1125899906842624
def okA (x : Int) : Bool := decide (0 ≤ x) && decide (x ≤ MXA)
def sumS (l : List Int) : Int × Bool := match l.all okA with | true => (l.sum, true) | false => (0, false)
def nA (A : List Int) (i : Nat) : Int := A.getD i 0
def outL (A : List Int) (k j : Nat) : List Int := nA A (6 + k) :: (List.range j).map fun j => nA A (18 + 6 * k + j)
def inL (A : List Int) (k j : Nat) : List Int := nA A k :: nA A (12 + k) :: (List.range j).map fun j => nA A (18 + 6 * j + k)
def locS (A : List Int) (k : Nat) : Int × Bool := ((sumS (inL A k 6)).1 - (sumS (outL A k 6)).1, (sumS (outL A k 6)).2 && (sumS (inL A k 6)).2)
theorem okA_iff {x : Int} : okA x = true ↔ 0 ≤ x ∧ x ≤ MXA := by simp [okA]
theorem sum_bounds : ∀ {l : List Int}, l.all okA = true → 0 ≤ l.sum ∧ l.sum ≤ MXA * l.length
  | [], _ => by simp
  | x :: l, h => by
    rw [List.all_cons, Bool.and_eq_true] at h
    have h1 := okA_iff.1 h.1
    have h2 := sum_bounds h.2
    simp only [List.sum_cons, List.length_cons]
    simp only [MXA] at *
    omega
structure ND where
  id : Int
  par : Int
  A : List Int
  deriving DecidableEq
structure EV where
  o : Int
  s : Int
  d0 : Int
  d1 : Int
  d2 : Int
  d3 : Int
  d4 : Int
  d5 : Int
  k : Int
  n : Int
  t : Int
  a : Int
  r : Int
  f : Int
  deriving DecidableEq
structure GR where
  o : Int
  q : Int
  n : Int
  a : Int
  b : Int
  deriving DecidableEq
/-! ## A new one is put among others -/
section
variable {α : Type}
def insA (L : List α) (i : Nat) (z : α) : List α := L.take i ++ z :: L.drop i
theorem insA_len {L : List α} {i : Nat} {z : α} : (insA L i z).length = L.length + 1 := by
  unfold insA
  rw [List.length_append, List.length_cons, List.length_take, List.length_drop]
  omega
theorem insA_mem {L : List α} {i : Nat} {z x : α} : x ∈ insA L i z ↔ x = z ∨ x ∈ L := by
  unfold insA
  rw [List.mem_append, List.mem_cons]
  constructor
  · rintro (h | h | h)
    · exact .inr (List.mem_of_mem_take h)
    · exact .inl h
    · exact .inr (List.mem_of_mem_drop h)
  · rintro (h | h)
    · exact .inr (.inl h)
    · have : x ∈ L.take i ++ L.drop i := by rw [List.take_append_drop]; exact h
      rcases List.mem_append.1 this with h | h
      · exact .inl h
      · exact .inr (.inr h)
end

/-! ## A tree: nodes (what it is, what it is below) -/
structure TK (L : List (Int × Int)) (rk : Int → Nat) : Prop where
  low : ∀ x ∈ L, rk x.1 < L.length
  nz : ∀ x ∈ L, x.1 ≠ 0
  up : ∀ x ∈ L, x.2 = 0 ∨ ∃ y ∈ L, y.1 = x.2 ∧ rk y.1 < rk x.1
def hasT (L : List (Int × Int)) (id : Int) : Bool := L.any fun x => x.1 == id
theorem hasT_iff {L : List (Int × Int)} {id : Int} : hasT L id = true ↔ ∃ x ∈ L, x.1 = id := by simp [hasT]
theorem TK.nil : TK [] fun _ => 0 := ⟨by simp, by simp, by simp⟩
theorem TK.add {L : List (Int × Int)} {rk : Int → Nat} (h : TK L rk) {id par : Int} (h0 : id ≠ 0) (hn : hasT L id = false) (hp : par = 0 ∨ hasT L par = true) (i : Nat) :
    TK (insA L i (id, par)) (fun k => if k = id then L.length else rk k) := by
  have hne : ∀ x ∈ L, x.1 ≠ id := fun x hx e => by
    have := hasT_iff.2 ⟨x, hx, e⟩
    rw [hn] at this; cases this
  refine ⟨fun x hx => ?_, fun x hx => ?_, fun x hx => ?_⟩
  · rw [insA_len]
    rcases insA_mem.1 hx with e | e
    · subst e; simp
    · rw [if_neg (hne x e)]; have := h.low x e; omega
  · rcases insA_mem.1 hx with e | e
    · subst e; exact h0
    · exact h.nz x e
  · rcases insA_mem.1 hx with e | e
    · subst e
      rcases hp with hp | hp
      · exact .inl hp
      · obtain ⟨y, hy, e2⟩ := hasT_iff.1 hp
        refine .inr ⟨y, insA_mem.2 (.inr hy), e2, ?_⟩
        rw [if_neg (hne y hy)]
        simp only [if_true]
        exact h.low y hy
    · rcases h.up x e with h1 | ⟨y, hy, h1, h2⟩
      · exact .inl h1
      · refine .inr ⟨y, insA_mem.2 (.inr hy), h1, ?_⟩
        rw [if_neg (hne y hy), if_neg (hne x e)]
        exact h2
end Go.Proofs.YtfjafbbalohmhaaGreatDoor
namespace Go.Proofs.YtfjafbbalohmhaaGreatDoor
open Go.RowKit
set_option maxRecDepth 100000

def rights_sum_P1 (K : KV) : KE := cCode Tryz.prog (cd Tryz.f310 [1, 1]) (retK Tryz.prog Tryz.f310.results.toList K) (fun _ _ _ => False) (retK Tryz.prog Tryz.f310.results.toList K)
def rights_sum_L1 (K : KV) : KE := cCode Tryz.prog (cd Tryz.f310 [1, 0, 1, 0]) (rights_sum_P1 K) (fun i => @Bool.rec (fun _ => KE) ((fun _ _ _ => False) i) (rights_sum_P1 K) (Nat.beq i 0)) (retK Tryz.prog Tryz.f310.results.toList K)
theorem rights_sum_k {K : KV} {l0 : Value} {w : World}
    (h : blt Tryz.prog Builtin.len #[428] 3 #[false] #[l0] (fun A3 w =>
    (cCode Tryz.prog (cd Tryz.f310 [1, 0, 1, 0]) (cCode Tryz.prog (cd Tryz.f310 [1, 1]) (retK Tryz.prog Tryz.f310.results.toList K) (fun _ _ _ => False) (retK Tryz.prog Tryz.f310.results.toList K)) (fun i => @Bool.rec (fun _ => KE) ((fun _ _ _ => False) i) (cCode Tryz.prog (cd Tryz.f310 [1, 1]) (retK Tryz.prog Tryz.f310.results.toList K) (fun _ _ _ => False) (retK Tryz.prog Tryz.f310.results.toList K)) (Nat.beq i 0)) (retK Tryz.prog Tryz.f310.results.toList K)) [l0, undef, (Value.int IntKind.i64 0), (Value.bool false), undef, undef, l0, A3, (Value.int IntKind.i64 0), undef, undef, undef, undef, undef, undef, undef, undef, undef, undef, undef, undef, undef, undef] w) w) :
    cCode Tryz.prog (cd Tryz.f310 []) (retK Tryz.prog Tryz.f310.results.toList K) (fun _ _ _ => False) (retK Tryz.prog Tryz.f310.results.toList K) [l0, undef, undef, undef, undef, undef, undef, undef, undef, undef, undef, undef, undef, undef, undef, undef, undef, undef, undef, undef, undef, undef, undef] w := Eq.mp (by kernel_rfl) h

theorem rights_sum_in {K : KV} {l0 : Value} {w : World}
    (h : blt Tryz.prog Builtin.len #[428] 3 #[false] #[l0] (fun A3 w =>
    (rights_sum_L1 K) [l0, undef, (Value.int IntKind.i64 0), (Value.bool false), undef, undef, l0, A3, (Value.int IntKind.i64 0), undef, undef, undef, undef, undef, undef, undef, undef, undef, undef, undef, undef, undef, undef] w) w) :
    Gives Tryz.prog 310 #[l0] w K := enter' Tryz.func310 (by kernel_rfl) (Eq.mp (congrArg (fun c => cCode Tryz.prog c (retK Tryz.prog Tryz.f310.results.toList K) (fun _ _ _ => False) (retK Tryz.prog Tryz.f310.results.toList K) [l0, undef, undef, undef, undef, undef, undef, undef, undef, undef, undef, undef, undef, undef, undef, undef, undef, undef, undef, undef, undef, undef, undef] w) (by kernel_rfl : (cd Tryz.f310 []) = (cd Tryz.f310 []))) (rights_sum_k h))
theorem rights_sum_go : isGo Tryz.prog 310 := ⟨_, Tryz.func310, by kernel_rfl, by kernel_rfl⟩

theorem rights_sum_L1_k {K : KV} (B1 : KE) (qc0 : KE) {l0 l1 all2' A0 A2 A3 A4' C1' C2' C8 : Value} {dd : Nat → Value} {w : World}
    (h : bin Tryz.prog BinOp.lss 3 false false A4' A3 (fun A5 w =>
    cond A5
      (idxA Tryz.prog 428 A2 A4' (fun A6 w =>
    ld Tryz.prog 2 A6 (fun A7 w =>
    bin Tryz.prog BinOp.lss 2 false true A7 (Value.int IntKind.i64 0) (fun A9 w =>
    gsel A9 false (fun k15 =>
    bin Tryz.prog BinOp.gtr 2 false true A7 (Value.int IntKind.i64 1125899906842624) (fun C2 w =>
    k15 [A7, C2] w) w)
    (fun k => k [undef, undef] w) (fun us15 w =>
    pick A9 (Value.bool true) (gd us15 1) (fun C3 w =>
    cond C3
      (K (Value.tuple #[(Value.int IntKind.i64 0), (Value.bool false)]) w)
      (bin Tryz.prog BinOp.add 2 false false all2' A7 (fun C6 w =>
    bin Tryz.prog BinOp.add 3 false true A4' (Value.int IntKind.i64 1) (fun C7 w =>
    B1 [l0, l1, C6, (dd 3), A0, A7, A2, A3, C7, A5, A6, A7, A7, A9, A9, (gd us15 0), (gd us15 1), C3, all2', A7, C6, C7, C8] w) w) w)) w)) w) w) w)
      (qc0 [l0, l1, all2', (dd 3), A0, (dd 5), A2, A3, A4', A5, (dd 10), (dd 11), (dd 12), (dd 13), (dd 14), C1', C2', (dd 17), (dd 18), (dd 19), (dd 20), (dd 21), C8] w)) w) :
    cCode Tryz.prog (cd Tryz.f310 [1, 0, 1, 0, 0]) B1 (fun i => @Bool.rec (fun _ => KE) ((fun _ _ _ => False) i) qc0 (Nat.beq i 0)) (retK Tryz.prog Tryz.f310.results.toList K) [l0, l1, all2', (dd 3), A0, (dd 5), A2, A3, A4', (dd 9), (dd 10), (dd 11), (dd 12), (dd 13), (dd 14), C1', C2', (dd 17), (dd 18), (dd 19), (dd 20), (dd 21), C8] w := Eq.mp (by kernel_rfl) h

theorem rights_sum_L1_r {K : KV} {l0 l1 all2 is3 A0 x5 A2 A3 A4 A5 A6 A7 A8 A9 C0 C1 C2 C3 C4 C5 C6 C7 C8 : Value} {w : World} (Inv : Value → Value → Value → Value → World → Prop) (μ : Value → Value → Value → Value → World → Nat) (h0 : Inv all2 A4 C1 C2 w)
    (hs : ∀ (all2' A4' C1' C2' : Value) (dd : Nat → Value) (w : World) (m : Nat), Inv all2' A4' C1' C2' w → m = μ all2' A4' C1' C2' w →
    bin Tryz.prog BinOp.lss 3 false false A4' A3 (fun A5 w =>
    cond A5
      (idxA Tryz.prog 428 A2 A4' (fun A6 w =>
    ld Tryz.prog 2 A6 (fun A7 w =>
    bin Tryz.prog BinOp.lss 2 false true A7 (Value.int IntKind.i64 0) (fun A9 w =>
    gsel A9 false (fun k15 =>
    bin Tryz.prog BinOp.gtr 2 false true A7 (Value.int IntKind.i64 1125899906842624) (fun C2 w =>
    k15 [A7, C2] w) w)
    (fun k => k [undef, undef] w) (fun us15 w =>
    pick A9 (Value.bool true) (gd us15 1) (fun C3 w =>
    cond C3
      (K (Value.tuple #[(Value.int IntKind.i64 0), (Value.bool false)]) w)
      (bin Tryz.prog BinOp.add 2 false false all2' A7 (fun C6 w =>
    bin Tryz.prog BinOp.add 3 false true A4' (Value.int IntKind.i64 1) (fun C7 w =>
    (Inv C6 C7 (gd us15 0) (gd us15 1) w ∧ μ C6 C7 (gd us15 0) (gd us15 1) w < m)) w) w)) w)) w) w) w)
      ((rights_sum_P1 K) [l0, l1, all2', (dd 3), A0, (dd 5), A2, A3, A4', A5, (dd 10), (dd 11), (dd 12), (dd 13), (dd 14), C1', C2', (dd 17), (dd 18), (dd 19), (dd 20), (dd 21), C8] w)) w) :
    rights_sum_L1 K [l0, l1, all2, is3, A0, x5, A2, A3, A4, A5, A6, A7, A8, A9, C0, C1, C2, C3, C4, C5, C6, C7, C8] w := by
  refine loop_rule (cd Tryz.f310 [1, 0, 1, 0, 0]) [2, 3, 5, 8, 9, 10, 11, 12, 13, 14, 15, 16, 17, 18, 19, 20, 21] (by kernel_rfl) (fun e2 w2 => Inv (gd e2 2) (gd e2 8) (gd e2 15) (gd e2 16) w2) (fun e2 w2 => μ (gd e2 2) (gd e2 8) (gd e2 15) (gd e2 16) w2) h0 ?_
  intro e' w' hI
  have h := hs (gd e' 2) (gd e' 8) (gd e' 15) (gd e' 16) (fun i => gd e' i) w' _ hI rfl
  have h2 : cCode Tryz.prog (cd Tryz.f310 [1, 0, 1, 0, 0]) (fun e2 w2 => Inv (gd e2 2) (gd e2 8) (gd e2 15) (gd e2 16) w2 ∧ μ (gd e2 2) (gd e2 8) (gd e2 15) (gd e2 16) w2 < μ (gd e' 2) (gd e' 8) (gd e' 15) (gd e' 16) w') (fun i => @Bool.rec (fun _ => KE) ((fun _ _ _ => False) i) (rights_sum_P1 K) (Nat.beq i 0)) (retK Tryz.prog Tryz.f310.results.toList K) [l0, l1, (gd e' 2), (gd e' 3), A0, (gd e' 5), A2, A3, (gd e' 8), (gd e' 9), (gd e' 10), (gd e' 11), (gd e' 12), (gd e' 13), (gd e' 14), (gd e' 15), (gd e' 16), (gd e' 17), (gd e' 18), (gd e' 19), (gd e' 20), (gd e' 21), C8] w' := rights_sum_L1_k (fun e2 w2 => Inv (gd e2 2) (gd e2 8) (gd e2 15) (gd e2 16) w2 ∧ μ (gd e2 2) (gd e2 8) (gd e2 15) (gd e2 16) w2 < μ (gd e' 2) (gd e' 8) (gd e' 15) (gd e' 16) w') (rights_sum_P1 K) (Eq.mp (by kernel_rfl) h)
  exact Eq.mp (by kernel_rfl) h2

theorem rights_sum_P1_k {K : KV} {l0 l1 all2 is3 A0 x5 A2 A3 A4 A5 A6 A7 A8 A9 C0 C1 C2 C3 C4 C5 C6 C7 C8 : Value} {w : World}
    (h : K (Value.tuple #[all2, (Value.bool true)]) w) :
    cCode Tryz.prog (cd Tryz.f310 [1, 1]) (retK Tryz.prog Tryz.f310.results.toList K) (fun _ _ _ => False) (retK Tryz.prog Tryz.f310.results.toList K) [l0, l1, all2, is3, A0, x5, A2, A3, A4, A5, A6, A7, A8, A9, C0, C1, C2, C3, C4, C5, C6, C7, C8] w := Eq.mp (by kernel_rfl) h

theorem rights_sum_P1_r {K : KV} {l0 l1 all2 is3 A0 x5 A2 A3 A4 A5 A6 A7 A8 A9 C0 C1 C2 C3 C4 C5 C6 C7 C8 : Value} {w : World}
    (h : K (Value.tuple #[all2, (Value.bool true)]) w) :
    rights_sum_P1 K [l0, l1, all2, is3, A0, x5, A2, A3, A4, A5, A6, A7, A8, A9, C0, C1, C2, C3, C4, C5, C6, C7, C8] w := by
  delta rights_sum_P1
  exact Eq.mp (congrArg (fun c => cCode Tryz.prog c (retK Tryz.prog Tryz.f310.results.toList K) (fun _ _ _ => False) (retK Tryz.prog Tryz.f310.results.toList K) [l0, l1, all2, is3, A0, x5, A2, A3, A4, A5, A6, A7, A8, A9, C0, C1, C2, C3, C4, C5, C6, C7, C8] w) (by kernel_rfl : (cd Tryz.f310 [1, 1]) = (cd Tryz.f310 [1, 1]))) (rights_sum_P1_k h)
attribute [irreducible] rights_sum_P1 rights_sum_L1

def rights_local_P1 (K : KV) : KE := cCode Tryz.prog (cd Tryz.f289 [1, 1, 1]) (retK Tryz.prog Tryz.f289.results.toList K) (fun _ _ _ => False) (retK Tryz.prog Tryz.f289.results.toList K)
def rights_local_L1 (K : KV) : KE := cCode Tryz.prog (cd Tryz.f289 [1, 1, 0, 1, 0]) (rights_local_P1 K) (fun i => @Bool.rec (fun _ => KE) ((fun _ _ _ => False) i) (rights_local_P1 K) (Nat.beq i 0)) (retK Tryz.prog Tryz.f289.results.toList K)
theorem rights_local_k {K : KV} {r0 k_1 : Value} {w : World}
    (h : hReg (fun S w =>
    hld S (fun k w => nilC r0 k w) (fun C1 =>
    hld S (fun k w => fldA Tryz.prog 172 C1 1 k w) (fun C2 =>
    hld S (fun k w => idxA Tryz.prog 169 C2 k_1 k w) (fun C3 =>
    hld S (fun k w => ld Tryz.prog 2 C3 k w) (fun C4 =>
    hld S (fun k w => nilC r0 k w) (fun C8 =>
    hld S (fun k w => fldA Tryz.prog 172 C8 0 k w) (fun C9 =>
    hld S (fun k w => idxA Tryz.prog 169 C9 k_1 k w) (fun D0 =>
    hld S (fun k w => ld Tryz.prog 2 D0 k w) (fun D1 =>
    hld S (fun k w => nilC r0 k w) (fun D4 =>
    hld S (fun k w => fldA Tryz.prog 172 D4 2 k w) (fun D5 =>
    hld S (fun k w => idxA Tryz.prog 169 D5 k_1 k w) (fun D6 =>
    hld S (fun k w => ld Tryz.prog 2 D6 k w) (fun D7 =>
    (bldS Tryz.prog 428 1 #[(0, C4)] (fun C5 w =>
    hSub S (fun S w =>
    bldS Tryz.prog 428 2 #[(0, D1), (1, D7)] (fun D8 w =>
    hSub S (fun S w =>
    (cCode Tryz.prog (cd Tryz.f289 [1, 1, 0, 1, 0]) (cCode Tryz.prog (cd Tryz.f289 [1, 1, 1]) (retK Tryz.prog Tryz.f289.results.toList K) (fun _ _ _ => False) (retK Tryz.prog Tryz.f289.results.toList K)) (fun i => @Bool.rec (fun _ => KE) ((fun _ _ _ => False) i) (cCode Tryz.prog (cd Tryz.f289 [1, 1, 1]) (retK Tryz.prog Tryz.f289.results.toList K) (fun _ _ _ => False) (retK Tryz.prog Tryz.f289.results.toList K)) (Nat.beq i 0)) (retK Tryz.prog Tryz.f289.results.toList K)) (r0::k_1::undef::undef::(Value.int IntKind.i64 0)::(Value.bool false)::C5::D8::undef::undef::undef::undef::undef::r0::k_1::C1::C2::C3::C4::C5::r0::k_1::C8::C9::D0::D1::r0::k_1::D4::D5::D6::D7::D8::(Value.int IntKind.i64 0)::undef::undef::undef::undef::undef::undef::undef::undef::undef::undef::undef::undef::undef::undef::undef::undef::undef::undef::undef::undef::undef::undef::undef::undef::undef::undef::undef::undef::undef::undef::undef::undef::undef::undef::undef::undef::undef::undef::undef::undef::undef::undef::[]) w) w) w) w) w) ∧ (bldS Tryz.prog 428 2 #[(0, D1), (1, D7)] (fun D8 w =>
    hSub S (fun S w =>
    bldS Tryz.prog 428 1 #[(0, C4)] (fun C5 w =>
    hReg (fun S w =>
    (cCode Tryz.prog (cd Tryz.f289 [1, 1, 0, 1, 0]) (cCode Tryz.prog (cd Tryz.f289 [1, 1, 1]) (retK Tryz.prog Tryz.f289.results.toList K) (fun _ _ _ => False) (retK Tryz.prog Tryz.f289.results.toList K)) (fun i => @Bool.rec (fun _ => KE) ((fun _ _ _ => False) i) (cCode Tryz.prog (cd Tryz.f289 [1, 1, 1]) (retK Tryz.prog Tryz.f289.results.toList K) (fun _ _ _ => False) (retK Tryz.prog Tryz.f289.results.toList K)) (Nat.beq i 0)) (retK Tryz.prog Tryz.f289.results.toList K)) (r0::k_1::undef::undef::(Value.int IntKind.i64 0)::(Value.bool false)::C5::D8::undef::undef::undef::undef::undef::r0::k_1::C1::C2::C3::C4::C5::r0::k_1::C8::C9::D0::D1::r0::k_1::D4::D5::D6::D7::D8::(Value.int IntKind.i64 0)::undef::undef::undef::undef::undef::undef::undef::undef::undef::undef::undef::undef::undef::undef::undef::undef::undef::undef::undef::undef::undef::undef::undef::undef::undef::undef::undef::undef::undef::undef::undef::undef::undef::undef::undef::undef::undef::undef::undef::undef::undef::undef::[]) w) w) w) w) w)))))))))))))) w.drew) :
    cCode Tryz.prog (cd Tryz.f289 []) (retK Tryz.prog Tryz.f289.results.toList K) (fun _ _ _ => False) (retK Tryz.prog Tryz.f289.results.toList K) (r0::k_1::undef::undef::undef::undef::undef::undef::undef::undef::undef::undef::undef::undef::undef::undef::undef::undef::undef::undef::undef::undef::undef::undef::undef::undef::undef::undef::undef::undef::undef::undef::undef::undef::undef::undef::undef::undef::undef::undef::undef::undef::undef::undef::undef::undef::undef::undef::undef::undef::undef::undef::undef::undef::undef::undef::undef::undef::undef::undef::undef::undef::undef::undef::undef::undef::undef::undef::undef::undef::undef::undef::undef::undef::undef::undef::[]) w := Eq.mp (by kernel_rfl) h

theorem rights_local_in {K : KV} {r0 k_1 : Value} {w : World}
    (h : hReg (fun S w =>
    hld S (fun k w => nilC r0 k w) (fun C1 =>
    hld S (fun k w => fldA Tryz.prog 172 C1 1 k w) (fun C2 =>
    hld S (fun k w => idxA Tryz.prog 169 C2 k_1 k w) (fun C3 =>
    hld S (fun k w => ld Tryz.prog 2 C3 k w) (fun C4 =>
    hld S (fun k w => nilC r0 k w) (fun C8 =>
    hld S (fun k w => fldA Tryz.prog 172 C8 0 k w) (fun C9 =>
    hld S (fun k w => idxA Tryz.prog 169 C9 k_1 k w) (fun D0 =>
    hld S (fun k w => ld Tryz.prog 2 D0 k w) (fun D1 =>
    hld S (fun k w => nilC r0 k w) (fun D4 =>
    hld S (fun k w => fldA Tryz.prog 172 D4 2 k w) (fun D5 =>
    hld S (fun k w => idxA Tryz.prog 169 D5 k_1 k w) (fun D6 =>
    hld S (fun k w => ld Tryz.prog 2 D6 k w) (fun D7 =>
    (bldS Tryz.prog 428 1 #[(0, C4)] (fun C5 w =>
    hSub S (fun S w =>
    bldS Tryz.prog 428 2 #[(0, D1), (1, D7)] (fun D8 w =>
    hSub S (fun S w =>
    (rights_local_L1 K) (r0::k_1::undef::undef::(Value.int IntKind.i64 0)::(Value.bool false)::C5::D8::undef::undef::undef::undef::undef::r0::k_1::C1::C2::C3::C4::C5::r0::k_1::C8::C9::D0::D1::r0::k_1::D4::D5::D6::D7::D8::(Value.int IntKind.i64 0)::undef::undef::undef::undef::undef::undef::undef::undef::undef::undef::undef::undef::undef::undef::undef::undef::undef::undef::undef::undef::undef::undef::undef::undef::undef::undef::undef::undef::undef::undef::undef::undef::undef::undef::undef::undef::undef::undef::undef::undef::undef::undef::[]) w) w) w) w) w) ∧ (bldS Tryz.prog 428 2 #[(0, D1), (1, D7)] (fun D8 w =>
    hSub S (fun S w =>
    bldS Tryz.prog 428 1 #[(0, C4)] (fun C5 w =>
    hReg (fun S w =>
    (rights_local_L1 K) (r0::k_1::undef::undef::(Value.int IntKind.i64 0)::(Value.bool false)::C5::D8::undef::undef::undef::undef::undef::r0::k_1::C1::C2::C3::C4::C5::r0::k_1::C8::C9::D0::D1::r0::k_1::D4::D5::D6::D7::D8::(Value.int IntKind.i64 0)::undef::undef::undef::undef::undef::undef::undef::undef::undef::undef::undef::undef::undef::undef::undef::undef::undef::undef::undef::undef::undef::undef::undef::undef::undef::undef::undef::undef::undef::undef::undef::undef::undef::undef::undef::undef::undef::undef::undef::undef::undef::undef::[]) w) w) w) w) w)))))))))))))) w.drew) :
    Gives Tryz.prog 289 #[r0, k_1] w K := enter' Tryz.func289 (by kernel_rfl) (Eq.mp (congrArg (fun c => cCode Tryz.prog c (retK Tryz.prog Tryz.f289.results.toList K) (fun _ _ _ => False) (retK Tryz.prog Tryz.f289.results.toList K) (r0::k_1::undef::undef::undef::undef::undef::undef::undef::undef::undef::undef::undef::undef::undef::undef::undef::undef::undef::undef::undef::undef::undef::undef::undef::undef::undef::undef::undef::undef::undef::undef::undef::undef::undef::undef::undef::undef::undef::undef::undef::undef::undef::undef::undef::undef::undef::undef::undef::undef::undef::undef::undef::undef::undef::undef::undef::undef::undef::undef::undef::undef::undef::undef::undef::undef::undef::undef::undef::undef::undef::undef::undef::undef::undef::undef::[]) w) (by kernel_rfl : (cd Tryz.f289 []) = (cd Tryz.f289 []))) (rights_local_k h))
theorem rights_local_go : isGo Tryz.prog 289 := ⟨_, Tryz.func289, by kernel_rfl, by kernel_rfl⟩

theorem rights_local_L1_k {K : KV} (B1 : KE) (qc0 : KE) {r0 k_1 r2 k_3 A0 A1 out6' in7' less9 one10 more11 two12 A9 C0 C1 C2 C3 C4 C5 C6 C7 C8 C9 D0 D1 D2 D3 D4 D5 D6 D7 D8 D9' G5 G6 G7 G8 G9 H0 H1 H2 H3 H4 H5 H6 H7 H8 H9 I0 I1 : Value} {dd : Nat → Value} {w : World}
    (h : bin Tryz.prog BinOp.lss 3 false true D9' (Value.int IntKind.i64 6) (fun E0 w =>
    cond E0
      (hReg (fun S w =>
    hld S (fun k w => nilC r0 k w) (fun E6 =>
    hld S (fun k w => fldA Tryz.prog 172 E6 3 k w) (fun E7 =>
    hld S (fun k w => idxA Tryz.prog 170 E7 k_1 k w) (fun E8 =>
    hld S (fun k w => idxA Tryz.prog 169 E8 D9' k w) (fun E9 =>
    hld S (fun k w => ld Tryz.prog 2 E9 k w) (fun F0 =>
    hld S (fun k w => nilC r0 k w) (fun F7 =>
    hld S (fun k w => fldA Tryz.prog 172 F7 3 k w) (fun F8 =>
    hld S (fun k w => idxA Tryz.prog 170 F8 D9' k w) (fun F9 =>
    hld S (fun k w => idxA Tryz.prog 169 F9 k_1 k w) (fun G0 =>
    hld S (fun k w => ld Tryz.prog 2 G0 k w) (fun G1 =>
    (bldS Tryz.prog 428 1 #[(0, F0)] (fun F1 w =>
    hSub S (fun S w =>
    (blt Tryz.prog Builtin.append #[428, 428] 428 #[false, false] #[out6', F1] (fun F2 w =>
    hSub S (fun S w =>
    bldS Tryz.prog 428 1 #[(0, G1)] (fun G2 w =>
    hReg (fun S w =>
    blt Tryz.prog Builtin.append #[428, 428] 428 #[false, false] #[in7', G2] (fun G3 w =>
    hReg (fun S w =>
    bin Tryz.prog BinOp.add 3 false true D9' (Value.int IntKind.i64 1) (fun G4 w =>
    B1 (r0::k_1::r2::k_3::A0::A1::F2::G3::D9'::less9::one10::more11::two12::A9::C0::C1::C2::C3::C4::C5::C6::C7::C8::C9::D0::D1::D2::D3::D4::D5::D6::D7::D8::G4::E0::D9'::out6'::r0::k_1::D9'::E6::E7::E8::E9::F0::F1::F2::in7'::r0::D9'::k_1::F7::F8::F9::G0::G1::G2::G3::G4::G5::G6::G7::G8::G9::H0::H1::H2::H3::H4::H5::H6::H7::H8::H9::I0::I1::[]) w) w) w) w) w) w) w) w) ∧ (bldS Tryz.prog 428 1 #[(0, G1)] (fun G2 w =>
    hReg (fun S w =>
    blt Tryz.prog Builtin.append #[428, 428] 428 #[false, false] #[out6', F1] (fun F2 w =>
    hReg (fun S w =>
    blt Tryz.prog Builtin.append #[428, 428] 428 #[false, false] #[in7', G2] (fun G3 w =>
    hReg (fun S w =>
    bin Tryz.prog BinOp.add 3 false true D9' (Value.int IntKind.i64 1) (fun G4 w =>
    B1 (r0::k_1::r2::k_3::A0::A1::F2::G3::D9'::less9::one10::more11::two12::A9::C0::C1::C2::C3::C4::C5::C6::C7::C8::C9::D0::D1::D2::D3::D4::D5::D6::D7::D8::G4::E0::D9'::out6'::r0::k_1::D9'::E6::E7::E8::E9::F0::F1::F2::in7'::r0::D9'::k_1::F7::F8::F9::G0::G1::G2::G3::G4::G5::G6::G7::G8::G9::H0::H1::H2::H3::H4::H5::H6::H7::H8::H9::I0::I1::[]) w) w) w) w) w) w) w) w)) w) w) ∧ (bldS Tryz.prog 428 1 #[(0, G1)] (fun G2 w =>
    hSub S (fun S w =>
    bldS Tryz.prog 428 1 #[(0, F0)] (fun F1 w =>
    hReg (fun S w =>
    blt Tryz.prog Builtin.append #[428, 428] 428 #[false, false] #[out6', F1] (fun F2 w =>
    hReg (fun S w =>
    blt Tryz.prog Builtin.append #[428, 428] 428 #[false, false] #[in7', G2] (fun G3 w =>
    hReg (fun S w =>
    bin Tryz.prog BinOp.add 3 false true D9' (Value.int IntKind.i64 1) (fun G4 w =>
    B1 (r0::k_1::r2::k_3::A0::A1::F2::G3::D9'::less9::one10::more11::two12::A9::C0::C1::C2::C3::C4::C5::C6::C7::C8::C9::D0::D1::D2::D3::D4::D5::D6::D7::D8::G4::E0::D9'::out6'::r0::k_1::D9'::E6::E7::E8::E9::F0::F1::F2::in7'::r0::D9'::k_1::F7::F8::F9::G0::G1::G2::G3::G4::G5::G6::G7::G8::G9::H0::H1::H2::H3::H4::H5::H6::H7::H8::H9::I0::I1::[]) w) w) w) w) w) w) w) w) w) w)))))))))))) w.drew)
      (qc0 (r0::k_1::r2::k_3::A0::A1::out6'::in7'::(dd 8)::less9::one10::more11::two12::A9::C0::C1::C2::C3::C4::C5::C6::C7::C8::C9::D0::D1::D2::D3::D4::D5::D6::D7::D8::D9'::E0::(dd 35)::(dd 36)::(dd 37)::(dd 38)::(dd 39)::(dd 40)::(dd 41)::(dd 42)::(dd 43)::(dd 44)::(dd 45)::(dd 46)::(dd 47)::(dd 48)::(dd 49)::(dd 50)::(dd 51)::(dd 52)::(dd 53)::(dd 54)::(dd 55)::(dd 56)::(dd 57)::(dd 58)::G5::G6::G7::G8::G9::H0::H1::H2::H3::H4::H5::H6::H7::H8::H9::I0::I1::[]) w)) w) :
    cCode Tryz.prog (cd Tryz.f289 [1, 1, 0, 1, 0, 0]) B1 (fun i => @Bool.rec (fun _ => KE) ((fun _ _ _ => False) i) qc0 (Nat.beq i 0)) (retK Tryz.prog Tryz.f289.results.toList K) (r0::k_1::r2::k_3::A0::A1::out6'::in7'::(dd 8)::less9::one10::more11::two12::A9::C0::C1::C2::C3::C4::C5::C6::C7::C8::C9::D0::D1::D2::D3::D4::D5::D6::D7::D8::D9'::(dd 34)::(dd 35)::(dd 36)::(dd 37)::(dd 38)::(dd 39)::(dd 40)::(dd 41)::(dd 42)::(dd 43)::(dd 44)::(dd 45)::(dd 46)::(dd 47)::(dd 48)::(dd 49)::(dd 50)::(dd 51)::(dd 52)::(dd 53)::(dd 54)::(dd 55)::(dd 56)::(dd 57)::(dd 58)::G5::G6::G7::G8::G9::H0::H1::H2::H3::H4::H5::H6::H7::H8::H9::I0::I1::[]) w := Eq.mp (by kernel_rfl) h

section
variable {r0 k_1 r2 k_3 A0 A1 out6 in7 j8 less9 one10 more11 two12 A9 C0 C1 C2 C3 C4 C5 C6 C7 C8 C9 D0 D1 D2 D3 D4 D5 D6 D7 D8 D9 E0 E1 E2 E3 E4 E5 E6 E7 E8 E9 F0 F1 F2 F3 F4 F5 F6 F7 F8 F9 G0 G1 G2 G3 G4 G5 G6 G7 G8 G9 H0 H1 H2 H3 H4 H5 H6 H7 H8 H9 I0 I1 : Value}
theorem rights_local_L1_r {K : KV} {w : World} (Inv : Value → Value → Value → World → Prop) (μ : Value → Value → Value → World → Nat) (h0 : Inv out6 in7 D9 w)
    (hs : ∀ (out6' in7' D9' : Value) (dd : Nat → Value) (w : World) (m : Nat), Inv out6' in7' D9' w → m = μ out6' in7' D9' w →
    bin Tryz.prog BinOp.lss 3 false true D9' (Value.int IntKind.i64 6) (fun E0 w =>
    cond E0
      (hReg (fun S w =>
    hld S (fun k w => nilC r0 k w) (fun E6 =>
    hld S (fun k w => fldA Tryz.prog 172 E6 3 k w) (fun E7 =>
    hld S (fun k w => idxA Tryz.prog 170 E7 k_1 k w) (fun E8 =>
    hld S (fun k w => idxA Tryz.prog 169 E8 D9' k w) (fun E9 =>
    hld S (fun k w => ld Tryz.prog 2 E9 k w) (fun F0 =>
    hld S (fun k w => nilC r0 k w) (fun F7 =>
    hld S (fun k w => fldA Tryz.prog 172 F7 3 k w) (fun F8 =>
    hld S (fun k w => idxA Tryz.prog 170 F8 D9' k w) (fun F9 =>
    hld S (fun k w => idxA Tryz.prog 169 F9 k_1 k w) (fun G0 =>
    hld S (fun k w => ld Tryz.prog 2 G0 k w) (fun G1 =>
    (bldS Tryz.prog 428 1 #[(0, F0)] (fun F1 w =>
    hSub S (fun S w =>
    (blt Tryz.prog Builtin.append #[428, 428] 428 #[false, false] #[out6', F1] (fun F2 w =>
    hSub S (fun S w =>
    bldS Tryz.prog 428 1 #[(0, G1)] (fun G2 w =>
    hReg (fun S w =>
    blt Tryz.prog Builtin.append #[428, 428] 428 #[false, false] #[in7', G2] (fun G3 w =>
    hReg (fun S w =>
    bin Tryz.prog BinOp.add 3 false true D9' (Value.int IntKind.i64 1) (fun G4 w =>
    (Inv F2 G3 G4 w ∧ μ F2 G3 G4 w < m)) w) w) w) w) w) w) w) ∧ (bldS Tryz.prog 428 1 #[(0, G1)] (fun G2 w =>
    hReg (fun S w =>
    blt Tryz.prog Builtin.append #[428, 428] 428 #[false, false] #[out6', F1] (fun F2 w =>
    hReg (fun S w =>
    blt Tryz.prog Builtin.append #[428, 428] 428 #[false, false] #[in7', G2] (fun G3 w =>
    hReg (fun S w =>
    bin Tryz.prog BinOp.add 3 false true D9' (Value.int IntKind.i64 1) (fun G4 w =>
    (Inv F2 G3 G4 w ∧ μ F2 G3 G4 w < m)) w) w) w) w) w) w) w)) w) w) ∧ (bldS Tryz.prog 428 1 #[(0, G1)] (fun G2 w =>
    hSub S (fun S w =>
    bldS Tryz.prog 428 1 #[(0, F0)] (fun F1 w =>
    hReg (fun S w =>
    blt Tryz.prog Builtin.append #[428, 428] 428 #[false, false] #[out6', F1] (fun F2 w =>
    hReg (fun S w =>
    blt Tryz.prog Builtin.append #[428, 428] 428 #[false, false] #[in7', G2] (fun G3 w =>
    hReg (fun S w =>
    bin Tryz.prog BinOp.add 3 false true D9' (Value.int IntKind.i64 1) (fun G4 w =>
    (Inv F2 G3 G4 w ∧ μ F2 G3 G4 w < m)) w) w) w) w) w) w) w) w) w)))))))))))) w.drew)
      ((rights_local_P1 K) (r0::k_1::r2::k_3::A0::A1::out6'::in7'::(dd 8)::less9::one10::more11::two12::A9::C0::C1::C2::C3::C4::C5::C6::C7::C8::C9::D0::D1::D2::D3::D4::D5::D6::D7::D8::D9'::E0::(dd 35)::(dd 36)::(dd 37)::(dd 38)::(dd 39)::(dd 40)::(dd 41)::(dd 42)::(dd 43)::(dd 44)::(dd 45)::(dd 46)::(dd 47)::(dd 48)::(dd 49)::(dd 50)::(dd 51)::(dd 52)::(dd 53)::(dd 54)::(dd 55)::(dd 56)::(dd 57)::(dd 58)::G5::G6::G7::G8::G9::H0::H1::H2::H3::H4::H5::H6::H7::H8::H9::I0::I1::[]) w)) w) :
    rights_local_L1 K (r0::k_1::r2::k_3::A0::A1::out6::in7::j8::less9::one10::more11::two12::A9::C0::C1::C2::C3::C4::C5::C6::C7::C8::C9::D0::D1::D2::D3::D4::D5::D6::D7::D8::D9::E0::E1::E2::E3::E4::E5::E6::E7::E8::E9::F0::F1::F2::F3::F4::F5::F6::F7::F8::F9::G0::G1::G2::G3::G4::G5::G6::G7::G8::G9::H0::H1::H2::H3::H4::H5::H6::H7::H8::H9::I0::I1::[]) w := by
  refine loop_rule (cd Tryz.f289 [1, 1, 0, 1, 0, 0]) [6, 7, 8, 33, 34, 35, 36, 37, 38, 39, 40, 41, 42, 43, 44, 45, 46, 47, 48, 49, 50, 51, 52, 53, 54, 55, 56, 57, 58] (by kernel_rfl) (fun e2 w2 => Inv (gd e2 6) (gd e2 7) (gd e2 33) w2) (fun e2 w2 => μ (gd e2 6) (gd e2 7) (gd e2 33) w2) h0 ?_
  intro e' w' hI
  have h := hs (gd e' 6) (gd e' 7) (gd e' 33) (fun i => gd e' i) w' _ hI rfl
  have h2 : cCode Tryz.prog (cd Tryz.f289 [1, 1, 0, 1, 0, 0]) (fun e2 w2 => Inv (gd e2 6) (gd e2 7) (gd e2 33) w2 ∧ μ (gd e2 6) (gd e2 7) (gd e2 33) w2 < μ (gd e' 6) (gd e' 7) (gd e' 33) w') (fun i => @Bool.rec (fun _ => KE) ((fun _ _ _ => False) i) (rights_local_P1 K) (Nat.beq i 0)) (retK Tryz.prog Tryz.f289.results.toList K) (r0::k_1::r2::k_3::A0::A1::(gd e' 6)::(gd e' 7)::(gd e' 8)::less9::one10::more11::two12::A9::C0::C1::C2::C3::C4::C5::C6::C7::C8::C9::D0::D1::D2::D3::D4::D5::D6::D7::D8::(gd e' 33)::(gd e' 34)::(gd e' 35)::(gd e' 36)::(gd e' 37)::(gd e' 38)::(gd e' 39)::(gd e' 40)::(gd e' 41)::(gd e' 42)::(gd e' 43)::(gd e' 44)::(gd e' 45)::(gd e' 46)::(gd e' 47)::(gd e' 48)::(gd e' 49)::(gd e' 50)::(gd e' 51)::(gd e' 52)::(gd e' 53)::(gd e' 54)::(gd e' 55)::(gd e' 56)::(gd e' 57)::(gd e' 58)::G5::G6::G7::G8::G9::H0::H1::H2::H3::H4::H5::H6::H7::H8::H9::I0::I1::[]) w' := rights_local_L1_k (fun e2 w2 => Inv (gd e2 6) (gd e2 7) (gd e2 33) w2 ∧ μ (gd e2 6) (gd e2 7) (gd e2 33) w2 < μ (gd e' 6) (gd e' 7) (gd e' 33) w') (rights_local_P1 K) (Eq.mp (by kernel_rfl) h)
  exact Eq.mp (by kernel_rfl) h2

theorem rights_local_P1_k {K : KV} {w : World}
    (h : call Tryz.prog 310 #[out6] (fun G7 w =>
    ext Tryz.prog G7 0 (fun G8 w =>
    ext Tryz.prog G7 1 (fun G9 w =>
    call Tryz.prog 310 #[in7] (fun H2 w =>
    ext Tryz.prog H2 0 (fun H3 w =>
    ext Tryz.prog H2 1 (fun H4 w =>
    bin Tryz.prog BinOp.sub 2 false false H3 G8 (fun H7 w =>
    gsel G9 true (fun k74 =>
    k74 [H4] w)
    (fun k => k [undef] w) (fun us74 w =>
    pick G9 (gd us74 0) (Value.bool false) (fun I1 w =>
    K (Value.tuple #[H7, I1]) w) w)) w) w) w) w) w) w) w) :
    cCode Tryz.prog (cd Tryz.f289 [1, 1, 1]) (retK Tryz.prog Tryz.f289.results.toList K) (fun _ _ _ => False) (retK Tryz.prog Tryz.f289.results.toList K) (r0::k_1::r2::k_3::A0::A1::out6::in7::j8::less9::one10::more11::two12::A9::C0::C1::C2::C3::C4::C5::C6::C7::C8::C9::D0::D1::D2::D3::D4::D5::D6::D7::D8::D9::E0::E1::E2::E3::E4::E5::E6::E7::E8::E9::F0::F1::F2::F3::F4::F5::F6::F7::F8::F9::G0::G1::G2::G3::G4::G5::G6::G7::G8::G9::H0::H1::H2::H3::H4::H5::H6::H7::H8::H9::I0::I1::[]) w := Eq.mp (by kernel_rfl) h

theorem rights_local_P1_r {K : KV} {w : World}
    (h : call Tryz.prog 310 #[out6] (fun G7 w =>
    ext Tryz.prog G7 0 (fun G8 w =>
    ext Tryz.prog G7 1 (fun G9 w =>
    call Tryz.prog 310 #[in7] (fun H2 w =>
    ext Tryz.prog H2 0 (fun H3 w =>
    ext Tryz.prog H2 1 (fun H4 w =>
    bin Tryz.prog BinOp.sub 2 false false H3 G8 (fun H7 w =>
    gsel G9 true (fun k74 =>
    k74 [H4] w)
    (fun k => k [undef] w) (fun us74 w =>
    pick G9 (gd us74 0) (Value.bool false) (fun I1 w =>
    K (Value.tuple #[H7, I1]) w) w)) w) w) w) w) w) w) w) :
    rights_local_P1 K (r0::k_1::r2::k_3::A0::A1::out6::in7::j8::less9::one10::more11::two12::A9::C0::C1::C2::C3::C4::C5::C6::C7::C8::C9::D0::D1::D2::D3::D4::D5::D6::D7::D8::D9::E0::E1::E2::E3::E4::E5::E6::E7::E8::E9::F0::F1::F2::F3::F4::F5::F6::F7::F8::F9::G0::G1::G2::G3::G4::G5::G6::G7::G8::G9::H0::H1::H2::H3::H4::H5::H6::H7::H8::H9::I0::I1::[]) w := by
  delta rights_local_P1
  exact Eq.mp (congrArg (fun c => cCode Tryz.prog c (retK Tryz.prog Tryz.f289.results.toList K) (fun _ _ _ => False) (retK Tryz.prog Tryz.f289.results.toList K) (r0::k_1::r2::k_3::A0::A1::out6::in7::j8::less9::one10::more11::two12::A9::C0::C1::C2::C3::C4::C5::C6::C7::C8::C9::D0::D1::D2::D3::D4::D5::D6::D7::D8::D9::E0::E1::E2::E3::E4::E5::E6::E7::E8::E9::F0::F1::F2::F3::F4::F5::F6::F7::F8::F9::G0::G1::G2::G3::G4::G5::G6::G7::G8::G9::H0::H1::H2::H3::H4::H5::H6::H7::H8::H9::I0::I1::[]) w) (by kernel_rfl : (cd Tryz.f289 [1, 1, 1]) = (cd Tryz.f289 [1, 1, 1]))) (rights_local_P1_k h)
attribute [irreducible] rights_local_P1 rights_local_L1

end
end Go.Proofs.YtfjafbbalohmhaaGreatDoor
namespace Go.Proofs.YtfjafbbalohmhaaGreatDoor
set_option maxRecDepth 100000
open Go.RowKit

def iv (x : Int) : Value := .int .i64 x
attribute [local irreducible] bin un conv call callV blt slc fldA fld idxA idx lkp mUpd mEnt eSt rng nxt ent ext alc box bld bldS ld sto nilC mkMap mkS ifc pick rdy wts gsel sti cond retM Gives cCode cGrp cSeq cOp
section
variable {w : World} {K : KV}
theorem rsum_c {a : Option Addr} {n c : Nat} {l : List Int} (hr : RV w a n c (l.map iv)) (hn : n ≤ 1000) (h : K (.tuple #[iv (sumS l).1, .bool (sumS l).2]) w) : call Tryz.prog 310 #[.slice a n c] K w := by
  have hl : l.length = n := by simpa using hr.len
  refine call_of rights_sum_go (rights_sum_in ?_)
  refine len_slc Tryz.underlying428 ?_
  refine rights_sum_L1_r (Inv := fun s i _ _ wr => ∃ j : Nat, s = iv (l.take j).sum ∧ i = .int .i64 (j : Nat) ∧ j ≤ n ∧ wr = w ∧ (l.take j).all okA = true) (μ := fun _ i _ _ _ => n - (intOf i).toNat) ⟨0, by simp [iv], rfl, by omega, rfl, by simp⟩ ?_
  rintro _ _ _ _ dd _ m ⟨j, rfl, rfl, hj, rfl, hall⟩ hm
  by_cases hjn : j < n
  · (repeat (first | refine bin_lss ?_ | refine cond_t (by omega) ?_))
    have hv : (l.map iv)[j]? = some (iv (nA l j)) := by
      simp [nA, List.getD, List.getElem?_eq_getElem (show j < l.length by omega)]
    refine idx_slc Tryz.underlying428 (fun _ => by kernel_rfl) (by omega) (by omega) hr.some_ ?_
    rw [Int.toNat_natCast]
    refine ld_cell (fun _ => by kernel_rfl) (hr.cell _ _ hv) ?_
    have hx : nA l j = l[j] := by simp [nA, List.getD, show j < l.length by omega]
    have hall' : l.all okA = true → okA (nA l j) = true := fun h => by rw [hx]; exact List.all_eq_true.1 h _ (List.getElem_mem _)
    have bad : okA (nA l j) = false → sumS l = (0, false) := fun hb => by
      unfold sumS
      cases hq : l.all okA with
      | false => rfl
      | true => rw [hall' hq] at hb; cases hb
    have ht : l.take (j + 1) = l.take j ++ [nA l j] := by rw [hx, List.take_append_getElem (by omega)]
    unfold iv
    refine bin_lss ?_
    by_cases h0 : nA l j < 0
    · refine gsel_nt h0 ?_
      refine pick_t h0 ?_
      refine cond_T ?_
      have : okA (nA l j) = false := by
        cases hq : okA (nA l j) with
        | false => rfl
        | true => have := okA_iff.1 hq; omega
      rw [bad this] at h
      exact h
    · refine gsel_nf h0 ?_
      refine bin_gtr ?_
      refine pick_f h0 ?_
      by_cases h1 : nA l j > 1125899906842624
      · refine cond_t h1 ?_
        have : okA (nA l j) = false := by
          cases hq : okA (nA l j) with
          | false => rfl
          | true => have := okA_iff.1 hq; simp only [MXA] at this; omega
        rw [bad this] at h
        exact h
      · refine cond_f h1 ?_
        have hok : okA (nA l j) = true := okA_iff.2 ⟨by omega, by simp only [MXA]; omega⟩
        have hsb := sum_bounds hall
        have hlen : (l.take j).length = j := by rw [List.length_take]; omega
        rw [hlen] at hsb
        simp only [MXA] at hsb
        refine add64 (by omega) (by omega) ?_
        refine add64 (by omega) (by omega) ?_
        refine ⟨⟨j + 1, ?_, by simp, by omega, rfl, ?_⟩, ?_⟩
        · rw [ht]; simp [iv]
        · rw [ht, List.all_append, hall]; simp [hok]
        · rw [hm]; simp [intOf]; omega
  · obtain rfl : j = n := by omega
    (repeat (first | refine rights_sum_P1_r ?_ | refine bin_lss ?_ | refine cond_f (by omega) ?_))
    rw [List.take_of_length_le (by omega)] at hall ⊢
    unfold sumS at h
    rw [hall] at h
    exact h
/-! ## Rows of numbers of the call's own. -/
abbrev OI (w : World) (B p n c : Nat) (l : List Int) : Prop := OV w B 2 (some ⟨p, 0, none⟩) n c (l.map iv)
theorem OI.lt {B p n c : Nat} {l : List Int} (h : OI w B p n c l) : B ≤ p ∧ p < w.heap.size := OV.block h p rfl
theorem OI.keep {w' : World} {B p n c : Nat} {l : List Int} (h : OI w B p n c l) (hk : w'.heap[p]? = w.heap[p]?) : OI w' B p n c l := ownS h fun k e => by cases e; exact hk
theorem bl1 {x : Int} (h : ∀ w', blk w' w.heap.size 2 [iv x] → Below w.heap.size w w' → w'.heap.size = w.heap.size + 1 → K (.slice (some ⟨w.heap.size, 0, none⟩) 1 1) w') : bldS Tryz.prog 428 1 #[(0, iv x)] K w :=
  bldSG (vs := [iv x]) Tryz.underlying428 (s := 1) (by kernel_rfl) (by kernel_rfl) (by omega) rfl (by simp) (by simp) (by simp) (by simp [Value.cells, iv]) fun w' hb b s => h w' (by simpa [iv, Value.cells] using hb) b s
theorem bl2 {x y : Int} (h : ∀ w', blk w' w.heap.size 2 [iv x, iv y] → Below w.heap.size w w' → w'.heap.size = w.heap.size + 1 → K (.slice (some ⟨w.heap.size, 0, none⟩) 2 2) w') : bldS Tryz.prog 428 2 #[(0, iv x), (1, iv y)] K w :=
  bldSG (vs := [iv x, iv y]) Tryz.underlying428 (s := 1) (by kernel_rfl) (by kernel_rfl) (by omega) rfl (by simp) (by simp) (by simp) (by simp [Value.cells, iv]) fun w' hb b s => h w' (by simpa [iv, Value.cells] using hb) b s
theorem info_i64 : (Tryz.prog.info? 2).map (fun i => (i.zero, i.size, i.bytes)) = some (some (.int .i64 0), 1, 8) := by kernel_rfl
theorem ap1 {cs : Array Bool} {ty : TypeId} {B p n c g : Nat} {l : List Int} {x : Int} (ho : OI w B p n c l) (hg : blk w g 2 [iv x]) (hB : B ≤ w.heap.size) (hn : n ≤ 1000)
    (h : ∀ p' c' w', OI w' B p' (n + 1) c' (l ++ [x]) → (p' = p ∨ p' = w.heap.size) → (∀ k, k < w.heap.size → k ≠ p → w'.heap[k]? = w.heap[k]?) → Below B w w' → K (.slice (some ⟨p', 0, none⟩) (n + 1) c') w') :
    blt Tryz.prog .append #[428, 428] ty cs #[.slice (some ⟨p, 0, none⟩) n c, .slice (some ⟨g, 0, none⟩) 1 1] K w := by
  obtain ⟨i, hi, hz, hsz, hby⟩ := info_parts info_i64
  refine appA (base := B) (s := 1) (m := 1) (ys := [iv x]) Tryz.underlying428 hi hz hsz hby rfl (by omega) ho hg rfl (by simp [iv, Value.oneCell']) (by omega) (by omega) hB ?_
  intro a' c' w' ho' hgr hat
  have hb : Below B w w' := below_of_grown hgr hB (fun k hk => by cases hk; exact ho.lt.1)
  have hne : ∀ k, k < w.heap.size → k ≠ p → w'.heap[k]? = w.heap[k]? := fun k hk hkp => hgr.block k hk fun e => hkp (by cases e; rfl)
  have hq : ∀ p', a' = some ⟨p', 0, none⟩ → K (.slice a' (n + 1) c') w' := by
    rintro p' rfl
    refine h p' c' w' (by simpa [OV] using ho') ?_ hne hb
    rcases hat with e | e
    · cases e; exact .inl rfl
    · cases e; exact .inr rfl
  rcases ho'.2 with ⟨hv, hz'⟩ | ⟨g', cap, cur, hv, _⟩
  · omega
  · simp only [Value.slice.injEq] at hv
    exact hq g' hv.1
end
structure RtA (w : World) (b o : Nat) (E : TypeId) (cs : List Value) (A : List Int) : Prop where
  bk : blk w b E cs
  cut : (cs.drop o).take 54 = A.map iv
  len : A.length = 54
theorem RtA.get {w : World} {b o i : Nat} {E : TypeId} {cs : List Value} {A : List Int} (h : RtA w b o E cs A) (hi : i < 54) : cs[o + i]? = some (iv (nA A i)) := by
  have h1 : ((cs.drop o).take 54)[i]? = (A.map iv)[i]? := by rw [h.cut]
  rw [List.getElem?_take_of_lt hi, List.getElem?_drop] at h1
  rw [h1]
  have := h.len
  simp [nA, List.getD, show i < A.length by omega]
theorem RtA.below {w w' : World} {B b o : Nat} {E : TypeId} {cs : List Value} {A : List Int} (h : RtA w b o E cs A) (hb : Below B w w') (hB : b < B) : RtA w' b o E cs A := ⟨below_blk hb h.bk hB, h.cut, h.len⟩
section
variable {w : World} {K : KV}
theorem outL_succ (A : List Int) (k j : Nat) : outL A k (j + 1) = outL A k j ++ [nA A (18 + 6 * k + j)] := by simp [outL, List.range_succ]
theorem inL_succ (A : List Int) (k j : Nat) : inL A k (j + 1) = inL A k j ++ [nA A (18 + 6 * j + k)] := by simp [inL, List.range_succ]
theorem outL_len (A : List Int) (k j : Nat) : (outL A k j).length = 1 + j := by simp [outL]; omega
theorem inL_len (A : List Int) (k j : Nat) : (inL A k j).length = 2 + j := by simp [inL]; omega
def Two (w : World) (B p n c q m d : Nat) (l r : List Int) : Prop := p ≠ q ∧ OI w B p n c l ∧ OI w B q m d r
theorem Two.bel {w' : World} {B p n c q m d : Nat} {l r : List Int} (h : Two w B p n c q m d l r) (hb : Below w.heap.size w w') : Two w' B p n c q m d l r :=
  ⟨h.1, h.2.1.keep (hb.block _ h.2.1.lt.2), h.2.2.keep (hb.block _ h.2.2.lt.2)⟩
theorem apL {cs : Array Bool} {ty : TypeId} {B p n c q m d g : Nat} {l r : List Int} {x : Int} (h2 : Two w B p n c q m d l r) (hg : blk w g 2 [iv x]) (hB : B ≤ w.heap.size) (hn : n ≤ 1000)
    (h : ∀ p' c' w', Two w' B p' (n + 1) c' q m d (l ++ [x]) r → (∀ k, k < w.heap.size → k ≠ p → w'.heap[k]? = w.heap[k]?) → Below B w w' → K (.slice (some ⟨p', 0, none⟩) (n + 1) c') w') :
    blt Tryz.prog .append #[428, 428] ty cs #[.slice (some ⟨p, 0, none⟩) n c, .slice (some ⟨g, 0, none⟩) 1 1] K w := by
  obtain ⟨hne, hl, hr⟩ := h2
  refine ap1 hl hg hB hn fun p' c' w' ho hp hk hb => h p' c' w' ⟨?_, ho, hr.keep (hk q hr.lt.2 (Ne.symm hne))⟩ hk hb
  have := hr.lt
  rcases hp with rfl | rfl <;> omega
theorem apR {cs : Array Bool} {ty : TypeId} {B p n c q m d g : Nat} {l r : List Int} {x : Int} (h2 : Two w B p n c q m d l r) (hg : blk w g 2 [iv x]) (hB : B ≤ w.heap.size) (hn : m ≤ 1000)
    (h : ∀ q' d' w', Two w' B p n c q' (m + 1) d' l (r ++ [x]) → (∀ k, k < w.heap.size → k ≠ q → w'.heap[k]? = w.heap[k]?) → Below B w w' → K (.slice (some ⟨q', 0, none⟩) (m + 1) d') w') :
    blt Tryz.prog .append #[428, 428] ty cs #[.slice (some ⟨q, 0, none⟩) m d, .slice (some ⟨g, 0, none⟩) 1 1] K w := by
  obtain ⟨hne, hl, hr⟩ := h2
  refine ap1 hr hg hB hn fun q' d' w' ho hp hk hb => h q' d' w' ⟨?_, hl.keep (hk p hl.lt.2 hne), ho⟩ hk hb
  have := hl.lt
  rcases hp with rfl | rfl <;> omega
set_option maxHeartbeats 4000000 in
theorem local_L1_c {b o k B p q : Nat} {E : TypeId} {cs : List Value} {A : List Int} {r0 k_1 r2 k_3 t4 t5 out6 in7 j8 less9 one10 more11 two12 t13 t14 t15 t16 t17 t18 t19 t20 t21 t22 t23 t24 t25 t26 t27 t28 t29 t30 t31 t32 t33 t34 t35 t36 t37 t38 t39 t40 t41 t42 t43 t44 t45 t46 t47 t48 t49 t50 t51 t52 t53 t54 t55 t56 t57 t58 t59 t60 t61 t62 t63 t64 t65 t66 t67 t68 t69 t70 t71 t72 t73 t74 t75 : Value} (hA : RtA w b o E cs A) (hbB : b < B) (hB : B ≤ w.heap.size) (hk : k < 6) (h2 : Two w B p 1 1 q 2 2 (outL A k 0) (inL A k 0))
    (h : ∀ w', Below B w w' → K (.tuple #[iv (locS A k).1, .bool (locS A k).2]) w')
    (e0 : r0 = .pointer (some ⟨b, o, none⟩)) (e1 : k_1 = .int .i64 (k : Nat)) (e2 : out6 = .slice (some ⟨p, 0, none⟩) 1 1) (e3 : in7 = .slice (some ⟨q, 0, none⟩) 2 2) (e4 : t33 = .int .i64 0) : rights_local_L1 K ((r0 :: k_1 :: r2 :: k_3 :: t4 :: t5 :: out6 :: in7 :: j8 :: less9 :: one10 :: more11 :: two12 :: t13 :: t14 :: t15 :: t16 :: t17 :: t18 :: t19 :: t20 :: t21 :: t22 :: t23 :: t24 :: t25 :: t26 :: t27 :: t28 :: t29 :: t30 :: t31 :: t32 :: t33 :: t34 :: t35 :: t36 :: t37 :: t38 :: t39 :: t40 :: t41 :: t42 :: t43 :: t44 :: t45 :: t46 :: t47 :: t48 :: t49 :: t50 :: t51 :: t52 :: t53 :: t54 :: t55 :: t56 :: t57 :: t58 :: t59 :: t60 :: t61 :: t62 :: t63 :: t64 :: t65 :: t66 :: t67 :: t68 :: t69 :: t70 :: t71 :: t72 :: t73 :: t74 :: t75 :: [])) w := by
  subst e0 e1 e2 e3 e4
  refine rights_local_L1_r (Inv := fun a c i wr => ∃ (j p q c1 d1 : Nat), j ≤ 6 ∧ a = .slice (some ⟨p, 0, none⟩) (1 + j) c1 ∧ c = .slice (some ⟨q, 0, none⟩) (2 + j) d1 ∧ i = .int .i64 (j : Nat) ∧ Two wr B p (1 + j) c1 q (2 + j) d1 (outL A k j) (inL A k j) ∧ Below B w wr)
    (μ := fun _ _ i _ => 6 - (intOf i).toNat) ⟨0, p, q, 1, 2, by omega, rfl, rfl, rfl, h2, Below.refl _ _⟩ ?_
  rintro _ _ _ dd w1 m ⟨j, p1, q1, c1, d1, hj, rfl, rfl, rfl, ht, hb1⟩ hm
  have hA1 : RtA w1 b o E cs A := hA.below hb1 hbB
  have hB1 : B ≤ w1.heap.size := Nat.le_trans hB hb1.size
  refine bin_lss ?_
  by_cases hj6 : j < 6
  · refine cond_t (by omega) ?_
    have fin : ∀ {p2 q2 c2 d2 : Nat} {w2 : World}, Two w2 B p2 (1 + j + 1) c2 q2 (2 + j + 1) d2 (outL A k j ++ [nA A (18 + 6 * k + j)]) (inL A k j ++ [nA A (18 + 6 * j + k)]) → Below B w1 w2 →
        (∃ (j' p q c1 d1 : Nat), j' ≤ 6 ∧ Value.slice (some ⟨p2, 0, none⟩) (1 + j + 1) c2 = .slice (some ⟨p, 0, none⟩) (1 + j') c1 ∧ Value.slice (some ⟨q2, 0, none⟩) (2 + j + 1) d2 = .slice (some ⟨q, 0, none⟩) (2 + j') d1 ∧ Value.int .i64 ((j : Int) + 1) = .int .i64 (j' : Nat) ∧ Two w2 B p (1 + j') c1 q (2 + j') d1 (outL A k j') (inL A k j') ∧ Below B w w2) ∧
          6 - (intOf (.int .i64 ((j : Int) + 1))).toNat < m := by
      intro p2 q2 c2 d2 w2 ht2 hb2
      refine ⟨⟨j + 1, p2, q2, c2, d2, by omega, rfl, rfl, by simp, ?_, hb1.trans hb2⟩, by rw [hm]; simp [intOf]; omega⟩
      rw [outL_succ, inL_succ]
      exact ht2
    have sB : ∀ {wa wb : World}, B ≤ wa.heap.size → Below wa.heap.size wa wb → Below B wa wb := fun h hb => hb.mono h
    refine hReg_of (fun x => RtA x b o E cs A) ⟨hA1.bk.drew, hA1.cut, hA1.len⟩ ?_
    refine hld_of (fun x hx K hK => nilC_p hK) ?_
    refine hld_of (fun x hx K hK => fldA_of (off := 18) (by kernel_rfl) hK) ?_
    refine hld_of (fun x hx K hK => idxArr Tryz.underlying170 (s := 6) (fun _ => by kernel_rfl) (by omega) (by omega) hK) ?_
    refine hld_of (fun x hx K hK => idxArr Tryz.underlying169 (s := 1) (fun _ => by kernel_rfl) (by omega) (by omega) hK) ?_
    refine hld_of (v := iv (nA A (18 + 6 * k + j))) (fun x hx K hK => ld1 (fun _ => by kernel_rfl) hx.bk (by rw [← hx.get (i := 18 + 6 * k + j) (by omega)]; congr 1; simp; omega) hK) ?_
    refine hld_of (fun x hx K hK => nilC_p hK) ?_
    refine hld_of (fun x hx K hK => fldA_of (off := 18) (by kernel_rfl) hK) ?_
    refine hld_of (fun x hx K hK => idxArr Tryz.underlying170 (s := 6) (fun _ => by kernel_rfl) (by omega) (by omega) hK) ?_
    refine hld_of (fun x hx K hK => idxArr Tryz.underlying169 (s := 1) (fun _ => by kernel_rfl) (by omega) (by omega) hK) ?_
    refine hld_of (v := iv (nA A (18 + 6 * j + k))) (fun x hx K hK => ld1 (fun _ => by kernel_rfl) hx.bk (by rw [← hx.get (i := 18 + 6 * j + k) (by omega)]; congr 1; simp; omega) hK) ?_
    have htd : Two w1.drew B p1 (1 + j) c1 q1 (2 + j) d1 (outL A k j) (inL A k j) := ht
    have hBd : B ≤ w1.drew.heap.size := hB1
    have hAd : RtA w1.drew b o E cs A := ⟨hA1.bk.drew, hA1.cut, hA1.len⟩
    have b0 : Below B w1 w1.drew := (Below.refl B w1).drew
    generalize w1.drew = w2 at *
    refine ⟨?_, ?_⟩
    · refine bl1 fun w3 g3 b3 s3 => ?_
      have t3 := htd.bel b3
      have B3 : B ≤ w3.heap.size := by omega
      have bb3 := b0.trans (sB hBd b3)
      refine hSub_same (hAd.below (sB hBd b3) hbB) ?_
      refine ⟨?_, ?_⟩
      · refine apL t3 g3 B3 (by omega) fun p4 c4 w4 t4 k4 b4 => ?_
        refine hSub_same ((hAd.below (sB hBd b3) hbB).below b4 hbB) ?_
        refine bl1 fun w5 g5 b5 s5 => ?_
        have B4 := Nat.le_trans B3 b4.size
        refine hReg_of (fun _ => True) trivial ?_
        refine apR (t4.bel b5) g5 (by omega) (by omega) fun q6 d6 w6 t6 k6 b6 => ?_
        refine hReg_of (fun _ => True) trivial ?_
        refine add64 (by omega) (by omega) ?_
        exact fin t6 (((bb3.trans b4).trans (sB B4 b5)).trans b6)
      · refine bl1 fun w4 g4 b4 s4 => ?_
        refine hReg_of (fun _ => True) trivial ?_
        have g3' : blk w4 w2.heap.size 2 [iv (nA A (18 + 6 * k + j))] := below_blk b4 g3 (by omega)
        refine apL (t3.bel b4) g3' (by omega) (by omega) fun p5 c5 w5 t5 k5 b5 => ?_
        refine hReg_of (fun _ => True) trivial ?_
        have g4' : blk w5 w3.heap.size 2 [iv (nA A (18 + 6 * j + k))] := by
          unfold blk; rw [k5 _ (by omega) (by have := t3.2.1.lt; omega)]; exact g4
        refine apR t5 g4' (by have := b5.size; omega) (by omega) fun q6 d6 w6 t6 k6 b6 => ?_
        refine hReg_of (fun _ => True) trivial ?_
        refine add64 (by omega) (by omega) ?_
        exact fin t6 (((bb3.trans (sB B3 b4)).trans b5).trans b6)
    · refine bl1 fun w3 g3 b3 s3 => ?_
      have t3 := htd.bel b3
      have B3 : B ≤ w3.heap.size := by omega
      have bb3 := b0.trans (sB hBd b3)
      refine hSub_same (hAd.below (sB hBd b3) hbB) ?_
      refine bl1 fun w4 g4 b4 s4 => ?_
      refine hReg_of (fun _ => True) trivial ?_
      refine apL (t3.bel b4) g4 (by omega) (by omega) fun p5 c5 w5 t5 k5 b5 => ?_
      refine hReg_of (fun _ => True) trivial ?_
      have g3' : blk w5 w2.heap.size 2 [iv (nA A (18 + 6 * j + k))] := by
        unfold blk; rw [k5 _ (by omega) (by have := htd.2.1.lt; omega)]; exact below_blk b4 g3 (by omega)
      refine apR t5 g3' (by have := b5.size; omega) (by omega) fun q6 d6 w6 t6 k6 b6 => ?_
      refine hReg_of (fun _ => True) trivial ?_
      refine add64 (by omega) (by omega) ?_
      exact fin t6 (((bb3.trans (sB B3 b4)).trans b5).trans b6)
  · obtain rfl : j = 6 := by omega
    refine cond_f (by omega) ?_
    refine rights_local_P1_r ?_
    refine rsum_c ht.2.1.rv (by omega) ?_
    refine ext_a ?_
    refine ext_b ?_
    refine rsum_c ht.2.2.rv (by omega) ?_
    refine ext_a ?_
    refine ext_b ?_
    have bd : ∀ l : List Int, l.length ≤ 8 → 0 ≤ (sumS l).1 ∧ (sumS l).1 ≤ 9007199254740992 := by
      intro l hl
      unfold sumS
      cases hq : l.all okA with
      | false => simp
      | true =>
        have := sum_bounds hq
        simp only [MXA] at this
        simp only
        omega
    have h1 := bd (outL A k 6) (by rw [outL_len]; omega)
    have h3 := bd (inL A k 6) (by rw [inL_len]; omega)
    unfold iv at *
    refine sub64 (by omega) (by omega) ?_
    have hl : locS A k = ((sumS (inL A k 6)).1 - (sumS (outL A k 6)).1, (sumS (outL A k 6)).2 && (sumS (inL A k 6)).2) := rfl
    cases hq : (sumS (outL A k 6)).2 with
    | true =>
      refine gsel_T ?_
      refine pick_T ?_
      rw [hl, hq] at h
      exact h w1 hb1
    | false =>
      refine gsel_F ?_
      refine pick_F ?_
      rw [hl, hq] at h
      exact h w1 hb1
set_option maxHeartbeats 2000000 in
theorem local_c {b o k : Nat} {E : TypeId} {cs : List Value} {A : List Int} (hA : RtA w b o E cs A) (hk : k < 6) (h : ∀ w', Below w.heap.size w w' → K (.tuple #[iv (locS A k).1, .bool (locS A k).2]) w') :
    call Tryz.prog 289 #[.pointer (some ⟨b, o, none⟩), .int .i64 (k : Nat)] K w := by
  have hlt := hA.bk.lt
  refine call_of rights_local_go (rights_local_in ?_)
  refine hReg_of (fun x => RtA x b o E cs A) ⟨hA.bk.drew, hA.cut, hA.len⟩ ?_
  refine hld_of (fun x hx K hK => nilC_p hK) ?_
  refine hld_of (fun x hx K hK => fldA_of (off := 6) (by kernel_rfl) hK) ?_
  refine hld_of (fun x hx K hK => idxArr Tryz.underlying169 (s := 1) (fun _ => by kernel_rfl) (by omega) (by omega) hK) ?_
  refine hld_of (v := iv (nA A (6 + k))) (fun x hx K hK => ld1 (fun _ => by kernel_rfl) hx.bk (by rw [← hx.get (i := 6 + k) (by omega)]; congr 1; simp; omega) hK) ?_
  refine hld_of (fun x hx K hK => nilC_p hK) ?_
  refine hld_of (fun x hx K hK => fldA_of (off := 0) (by kernel_rfl) hK) ?_
  refine hld_of (fun x hx K hK => idxArr Tryz.underlying169 (s := 1) (fun _ => by kernel_rfl) (by omega) (by omega) hK) ?_
  refine hld_of (v := iv (nA A k)) (fun x hx K hK => ld1 (fun _ => by kernel_rfl) hx.bk (by rw [← hx.get (i := k) (by omega)]; congr 1; simp) hK) ?_
  refine hld_of (fun x hx K hK => nilC_p hK) ?_
  refine hld_of (fun x hx K hK => fldA_of (off := 12) (by kernel_rfl) hK) ?_
  refine hld_of (fun x hx K hK => idxArr Tryz.underlying169 (s := 1) (fun _ => by kernel_rfl) (by omega) (by omega) hK) ?_
  refine hld_of (v := iv (nA A (12 + k))) (fun x hx K hK => ld1 (fun _ => by kernel_rfl) hx.bk (by rw [← hx.get (i := 12 + k) (by omega)]; congr 1; simp; omega) hK) ?_
  have hAd : RtA w.drew b o E cs A := ⟨hA.bk.drew, hA.cut, hA.len⟩
  have b0 : Below w.heap.size w w.drew := (Below.refl _ w).drew
  have s0 : w.drew.heap.size = w.heap.size := rfl
  generalize w.drew = w2 at *
  have two : ∀ {p q : Nat} {wz : World}, p ≠ q → blk wz p 2 [iv (nA A (6 + k))] → blk wz q 2 [iv (nA A k), iv (nA A (12 + k))] → w.heap.size ≤ p → w.heap.size ≤ q → Two wz w.heap.size p 1 1 q 2 2 (outL A k 0) (inL A k 0) :=
    fun hne hp hq h1 h2 => ⟨hne, ownLit hp rfl h1 (by simp [maxLen]), ownLit hq rfl h2 (by simp [maxLen])⟩
  refine ⟨?_, ?_⟩
  · refine bl1 fun w3 g3 b3 s3 => ?_
    refine hSub_same (hAd.below b3 (by omega)) ?_
    refine bl2 fun w4 g4 b4 s4 => ?_
    refine hSub_same ((hAd.below b3 (by omega)).below b4 (by omega)) ?_
    refine local_L1_c ((hA.below b0 hlt).below (b3.trans (b4.mono (by omega))) (by omega)) hlt (by omega) hk (two (by omega) (below_blk b4 g3 (by omega)) g4 (by omega) (by omega)) (fun w' hb => h w' ?_) rfl rfl rfl rfl rfl
    exact ((b0.trans (b3.mono (by omega))).trans (b4.mono (by omega))).trans hb
  · refine bl2 fun w3 g3 b3 s3 => ?_
    refine hSub_same (hAd.below b3 (by omega)) ?_
    refine bl1 fun w4 g4 b4 s4 => ?_
    refine hReg_of (fun _ => True) trivial ?_
    refine local_L1_c ((hA.below b0 hlt).below (b3.trans (b4.mono (by omega))) (by omega)) hlt (by omega) hk (two (by omega) g4 (below_blk b4 g3 (by omega)) (by omega) (by omega)) (fun w' hb => h w' ?_) rfl rfl rfl rfl rfl
    exact ((b0.trans (b3.mono (by omega))).trans (b4.mono (by omega))).trans hb
end
end Go.Proofs.YtfjafbbalohmhaaGreatDoor
namespace Go.Proofs.YtfjafbbalohmhaaGreatDoor
set_option maxRecDepth 100000
open Go.RowKit

def icOr (a b : Cl) : Cl := fun f args H => match a f args H with | some r => some r | none => b f args H
theorem icOr_ok {P : Program} {G : Glo} {B0 : Nat} {a b : Cl} (ha : ClOK P G B0 a) (hb : ClOK P G B0 b) : ClOK P G B0 (icOr a b) := by
  intro f args H r H' R w vs h
  unfold icOr at h
  split at h
  · rename_i r' hr; cases h; exact ha hr
  · exact hb h
def numC : CV → Option Int
  | .k (.int .i64 a) => some a
  | _ => none
def numsC : List CV → Option (List Int)
  | [] => some []
  | c :: r => match numC c with
    | some b => match numsC r with | some l => some (b :: l) | none => none
    | none => none
def localI : Cl := fun f args H =>
  match Nat.beq f 289 with
  | true => match args with
    | [.val (.one (.p b o)), .val (.one (.k (.int .i64 k)))] => match H.get b with
      | some (.cells _ _ _ cs) => match numsC ((cs.drop o).take 54), k with
        | some A, .ofNat k => match Nat.beq A.length 54, Nat.blt k 6 with
          | true, true => some (.tup [.one (.k (iv (locS A k).1)), .one (.k (.bool (locS A k).2))], H)
          | _, _ => none
        | _, _ => none
      | _ => none
    | _ => none
  | false => none
section
variable {G : Glo} {B0 : Nat} {R : Lay} {H : AH} {w : World}
theorem numsC_ok : ∀ {cs : List CV} {l : List Int} {vs : List Value}, numsC cs = some l → All2 (CR R) cs vs → vs = l.map iv
  | [], l, vs, h, hr => by cases h; cases hr; rfl
  | c :: r, l, vs, h, hr => by
    unfold numsC at h
    split at h
    · rename_i b hb
      split at h
      · rename_i l' hl
        cases h
        cases hr with
        | cons h1 h2 =>
          unfold numC at hb
          split at hb
          · cases hb
            have h1 := h1.1
            have h1 : _ = Value.int .i64 _ := h1
            rw [h1, numsC_ok hl h2]; rfl
          · cases hb
      · cases h
    · cases h
theorem numsC_len : ∀ {cs : List CV} {l : List Int}, numsC cs = some l → l.length = cs.length
  | [], l, h => by cases h; rfl
  | c :: r, l, h => by
    unfold numsC at h
    split at h
    · split at h
      · rename_i l' hl; cases h; simp [numsC_len hl]
      · cases h
    · cases h
theorem localI_ok : ClOK Tryz.prog G B0 localI := by
  intro f args H r H' R w vs h hs ha
  unfold localI at h
  split at h
  · rename_i hb
    have hb := Nat.eq_of_beq_eq_true hb
    subst hb
    split at h
    · rename_i b o k
      split at h
      · rename_i e z g cs hg
        split at h
        · rename_i A k' hA
          split at h
          · rename_i hlen hk
            have hlen := Nat.eq_of_beq_eq_true hlen
            have hk := blt_iff.1 hk
            cases h
            cases ha with
            | cons h0 ha =>
            cases ha with
            | cons h1 ha =>
            cases ha
            obtain ⟨L, hL, rfl⟩ := h0
            cases h1
            obtain ⟨c0, hbk, hc, _⟩ := hs.cells hg hL
            have hl := numsC_len hA
            have hcut := numsC_ok hA (take_cells hc.rel (by rw [← hl, hlen]))
            intro K hK
            refine local_c (A := A) ⟨hbk, hcut, hlen⟩ hk fun w' hb => ?_
            exact hK R _ w' (Lay.le.refl R) ⟨_, .cons rfl (.cons rfl .nil), rfl⟩ (hs.below hb) (below_fr hs hb)
          · cases h
        · cases h
      · cases h
    · cases h
  · cases h
end
end Go.Proofs.YtfjafbbalohmhaaGreatDoor
namespace Go.Proofs.YtfjafbbalohmhaaGreatDoor
set_option maxRecDepth 100000
open Go.RowKit

def subT : Tr AO → Tr AO → Bool
  | .e, _ => true
  | .l a, .l b => aoeq a b
  | .n x y, .n p q => match subT x p with | true => subT y q | false => false
  | _, _ => false
theorem subT_get : ∀ (d : Nat) {a b : Tr AO} {i : Nat} {o : AO}, subT a b = true → Tr.get d a i = some o → Tr.get d b i = some o := by
  intro d
  induction d with
  | zero =>
    intro a b i o h hg
    cases a with
    | l x =>
      cases b with
      | l y => have := aoeq_ok h; subst this; exact hg
      | _ => cases h
    | _ => cases hg
  | succ d ih =>
    intro a b i o h hg
    cases a with
    | n x y =>
      cases b with
      | n p q =>
        unfold subT at h
        split at h
        · rename_i h1
          unfold Tr.get at hg ⊢
          split at hg
          · exact ih h1 hg
          · exact ih h hg
        · cases h
      | _ => cases h
    | _ => cases hg
def eqT : Tr AO → Tr AO → Bool
  | .e, .e => true
  | .l a, .l b => aoeq a b
  | .n x y, .n p q => match eqT x p with | true => eqT y q | false => false
  | _, _ => false
theorem eqT_ok : ∀ {a b : Tr AO}, eqT a b = true → a = b
  | .e, .e, _ => rfl
  | .l a, .l b, h => by rw [aoeq_ok h]
  | .n x y, .n p q, h => by
    unfold eqT at h
    split at h
    · rename_i h1; rw [eqT_ok h1, eqT_ok h]
    · cases h
  | .e, .l _, h => by cases h
  | .e, .n _ _, h => by cases h
  | .l _, .e, h => by cases h
  | .l _, .n _ _, h => by cases h
  | .n _ _, .e, h => by cases h
  | .n _ _, .l _, h => by cases h
def chkM (r : GV) (H1 : AH) : Option (GV × AH) → Bool
  | some (q, H2) => match Nat.beq H1.n H2.n, geq2 r q with | true, true => subT H1.t H2.t | _, _ => false
  | none => false
def mm (f0 : FuncId) (as0 : List GV) (H0 : AH) (r0 : GV) (H1 : AH) : Cl := fun f args H =>
  match Nat.beq f f0 with
  | true => match Nat.beq H0.n H.n, lgeq2 as0 args with
    | true, true => match eqT H0.t H.t with | true => some (r0, H1) | false => none
    | _, _ => none
  | false => none
section
variable {P : Program} {G : Glo} {B0 : Nat} {R : Lay} {H H' H1 : AH} {w w' : World}
theorem get_sub (hn : H1.n = H.n) (h : subT H1.t H.t = true) {i : Nat} {o : AO} (hi : H1.get i = some o) : H.get i = some o := by
  unfold AH.get at *
  rw [← hn]
  split at hi
  · rw [Tr.get13_eq] at hi ⊢; exact subT_get 13 h hi
  · cases hi
theorem Sim.sub (hs : Sim G B0 R H w) (hn : H1.n = H.n) (h : subT H1.t H.t = true) : Sim G B0 R H1 w where
  obj i o hi hl := hs.obj i o (get_sub hn h hi) hl
  inj i j oi oj Li Lj hi hj := hs.inj i j oi oj Li Lj (get_sub hn h hi) (get_sub hn h hj)
  dom i L hi := by rw [hn]; exact hs.dom i L hi
  big := by rw [hn]; exact hs.big
  size := hs.size
  glob := hs.glob
theorem Fr.sub {R0 : Lay} {H0 : AH} {w0 : World} (hf : Fr B0 R0 H0 w0 R H w) (hn : H1.n = H.n) (h : subT H1.t H.t = true) : Fr B0 R0 H0 w0 R H1 w where
  below := hf.below
  keep := hf.keep
  fresh i o L hi hl hL := hf.fresh i o L (get_sub hn h hi) hl hL
theorem mm_ok {cl : Cl} {f0 : FuncId} {as0 : List GV} {H0 : AH} {r0 : GV} (hcl : ClOK P G B0 cl) (h : chkM r0 H1 (cl f0 as0 H0) = true) : ClOK P G B0 (mm f0 as0 H0 r0 H1) := by
  intro f args Ha r Hb R w vs hm hs ha
  unfold mm at hm
  split at hm
  · rename_i hf
    split at hm
    · rename_i hn hl
      split at hm
      · rename_i ht
        cases hm
        have hf := Nat.eq_of_beq_eq_true hf
        have hn := Nat.eq_of_beq_eq_true hn
        have hl := lgeq2_ok hl
        have ht := eqT_ok ht
        have hH : H0 = Ha := by
          cases H0; cases Ha
          simp only at hn ht
          rw [hn, ht]
        subst hf hl hH
        unfold chkM at h
        split at h
        · rename_i q H2 hc
          split at h
          · rename_i h1 h2
            have h1 := Nat.eq_of_beq_eq_true h1
            have h2 := geq2_ok h2
            subst h2
            intro K hK
            exact hcl hc hs ha K fun R' v w' hle hv hs' hf' => hK R' v w' hle hv (hs'.sub h1 h) (hf'.sub h1 h)
          · cases h
        · cases h
      · cases hm
    · cases hm
  · cases hm
end
end Go.Proofs.YtfjafbbalohmhaaGreatDoor
