/- Written by program (gen.py): what the code of some functions asks, part by part; each text is checked by the kernel against the translation. -/
import Derived.Test.YtnmjfakibhekmaaGreatDoorSh
import Derived.Test.YtnmjfakibhekmaaGreatDoorChecked
namespace Go.Proofs.YtnmjfakibhekmaaGreatDoor
open Go.RowKit
set_option maxRecDepth 100000

def crc_stepped_P1 (K : KV) : KE := cCode Tryz.prog (cd Tryz.f302 [1, 1]) (retK Tryz.prog Tryz.f302.results.toList K) (fun _ _ _ => False) (retK Tryz.prog Tryz.f302.results.toList K)
def crc_stepped_L1 (K : KV) : KE := cCode Tryz.prog (cd Tryz.f302 [1, 0, 1, 0]) (crc_stepped_P1 K) (fun i => @Bool.rec (fun _ => KE) ((fun _ _ _ => False) i) (crc_stepped_P1 K) (Nat.beq i 0)) (retK Tryz.prog Tryz.f302.results.toList K)
theorem crc_stepped_k {K : KV} {s0 : Value} {w : World}
    (h : (cCode Tryz.prog (cd Tryz.f302 [1, 0, 1, 0]) (cCode Tryz.prog (cd Tryz.f302 [1, 1]) (retK Tryz.prog Tryz.f302.results.toList K) (fun _ _ _ => False) (retK Tryz.prog Tryz.f302.results.toList K)) (fun i => @Bool.rec (fun _ => KE) ((fun _ _ _ => False) i) (cCode Tryz.prog (cd Tryz.f302 [1, 1]) (retK Tryz.prog Tryz.f302.results.toList K) (fun _ _ _ => False) (retK Tryz.prog Tryz.f302.results.toList K)) (Nat.beq i 0)) (retK Tryz.prog Tryz.f302.results.toList K)) [s0, undef, (Value.int IntKind.u32 0), (Value.int IntKind.i64 0), undef, undef, undef, undef, undef, undef, undef, undef, undef] w) :
    cCode Tryz.prog (cd Tryz.f302 []) (retK Tryz.prog Tryz.f302.results.toList K) (fun _ _ _ => False) (retK Tryz.prog Tryz.f302.results.toList K) [s0, undef, undef, undef, undef, undef, undef, undef, undef, undef, undef, undef, undef] w := Eq.mp (by kernel_rfl) h

theorem crc_stepped_in {K : KV} {s0 : Value} {w : World}
    (h : (crc_stepped_L1 K) [s0, undef, (Value.int IntKind.u32 0), (Value.int IntKind.i64 0), undef, undef, undef, undef, undef, undef, undef, undef, undef] w) :
    Gives Tryz.prog 302 #[s0] w K := enter' Tryz.func302 (by kernel_rfl) (Eq.mp (congrArg (fun c => cCode Tryz.prog c (retK Tryz.prog Tryz.f302.results.toList K) (fun _ _ _ => False) (retK Tryz.prog Tryz.f302.results.toList K) [s0, undef, undef, undef, undef, undef, undef, undef, undef, undef, undef, undef, undef] w) (by kernel_rfl : (cd Tryz.f302 []) = (cd Tryz.f302 []))) (crc_stepped_k h))
theorem crc_stepped_go : isGo Tryz.prog 302 := ⟨_, Tryz.func302, by kernel_rfl, by kernel_rfl⟩

theorem crc_stepped_L1_k {K : KV} (B1 : KE) (qc0 : KE) {s0' s1 A0 A1' C0 : Value} {dd : Nat → Value} {w : World}
    (h : bin Tryz.prog BinOp.lss 3 false true A1' (Value.int IntKind.i64 8) (fun A2 w =>
    cond A2
      (bin Tryz.prog BinOp.shr 387 false true s0' (Value.int IntKind.u64 1) (fun A4 w =>
    bin Tryz.prog BinOp.and 387 false true s0' (Value.int IntKind.u32 1) (fun A6 w =>
    bin Tryz.prog BinOp.mul 387 true false (Value.int IntKind.u32 3988292384) A6 (fun A7 w =>
    bin Tryz.prog BinOp.xor 387 false false A4 A7 (fun A8 w =>
    bin Tryz.prog BinOp.add 3 false true A1' (Value.int IntKind.i64 1) (fun A9 w =>
    B1 [A8, s1, A0, A9, A2, s0', A4, s0', A6, A7, A8, A9, C0] w) w) w) w) w) w)
      (qc0 [s0', s1, A0, A1', A2, (dd 5), (dd 6), (dd 7), (dd 8), (dd 9), (dd 10), (dd 11), C0] w)) w) :
    cCode Tryz.prog (cd Tryz.f302 [1, 0, 1, 0, 0]) B1 (fun i => @Bool.rec (fun _ => KE) ((fun _ _ _ => False) i) qc0 (Nat.beq i 0)) (retK Tryz.prog Tryz.f302.results.toList K) [s0', s1, A0, A1', (dd 4), (dd 5), (dd 6), (dd 7), (dd 8), (dd 9), (dd 10), (dd 11), C0] w := Eq.mp (by kernel_rfl) h

theorem crc_stepped_L1_r {K : KV} {s0 s1 A0 A1 A2 A3 A4 A5 A6 A7 A8 A9 C0 : Value} {w : World} (Inv : Value → Value → World → Prop) (μ : Value → Value → World → Nat) (h0 : Inv s0 A1 w)
    (hs : ∀ (s0' A1' : Value) (dd : Nat → Value) (w : World) (m : Nat), Inv s0' A1' w → m = μ s0' A1' w →
    bin Tryz.prog BinOp.lss 3 false true A1' (Value.int IntKind.i64 8) (fun A2 w =>
    cond A2
      (bin Tryz.prog BinOp.shr 387 false true s0' (Value.int IntKind.u64 1) (fun A4 w =>
    bin Tryz.prog BinOp.and 387 false true s0' (Value.int IntKind.u32 1) (fun A6 w =>
    bin Tryz.prog BinOp.mul 387 true false (Value.int IntKind.u32 3988292384) A6 (fun A7 w =>
    bin Tryz.prog BinOp.xor 387 false false A4 A7 (fun A8 w =>
    bin Tryz.prog BinOp.add 3 false true A1' (Value.int IntKind.i64 1) (fun A9 w =>
    (Inv A8 A9 w ∧ μ A8 A9 w < m)) w) w) w) w) w)
      ((crc_stepped_P1 K) [s0', s1, A0, A1', A2, (dd 5), (dd 6), (dd 7), (dd 8), (dd 9), (dd 10), (dd 11), C0] w)) w) :
    crc_stepped_L1 K [s0, s1, A0, A1, A2, A3, A4, A5, A6, A7, A8, A9, C0] w := by
  refine loop_rule (cd Tryz.f302 [1, 0, 1, 0, 0]) [0, 3, 4, 5, 6, 7, 8, 9, 10, 11] (by kernel_rfl) (fun e2 w2 => Inv (gd e2 0) (gd e2 3) w2) (fun e2 w2 => μ (gd e2 0) (gd e2 3) w2) h0 ?_
  intro e' w' hI
  have h := hs (gd e' 0) (gd e' 3) (fun i => gd e' i) w' _ hI rfl
  have h2 : cCode Tryz.prog (cd Tryz.f302 [1, 0, 1, 0, 0]) (fun e2 w2 => Inv (gd e2 0) (gd e2 3) w2 ∧ μ (gd e2 0) (gd e2 3) w2 < μ (gd e' 0) (gd e' 3) w') (fun i => @Bool.rec (fun _ => KE) ((fun _ _ _ => False) i) (crc_stepped_P1 K) (Nat.beq i 0)) (retK Tryz.prog Tryz.f302.results.toList K) [(gd e' 0), s1, A0, (gd e' 3), (gd e' 4), (gd e' 5), (gd e' 6), (gd e' 7), (gd e' 8), (gd e' 9), (gd e' 10), (gd e' 11), C0] w' := crc_stepped_L1_k (fun e2 w2 => Inv (gd e2 0) (gd e2 3) w2 ∧ μ (gd e2 0) (gd e2 3) w2 < μ (gd e' 0) (gd e' 3) w') (crc_stepped_P1 K) (Eq.mp (by kernel_rfl) h)
  exact Eq.mp (by kernel_rfl) h2

theorem crc_stepped_P1_k {K : KV} {s0 s1 A0 A1 A2 A3 A4 A5 A6 A7 A8 A9 C0 : Value} {w : World}
    (h : K s0 w) :
    cCode Tryz.prog (cd Tryz.f302 [1, 1]) (retK Tryz.prog Tryz.f302.results.toList K) (fun _ _ _ => False) (retK Tryz.prog Tryz.f302.results.toList K) [s0, s1, A0, A1, A2, A3, A4, A5, A6, A7, A8, A9, C0] w := Eq.mp (by kernel_rfl) h

theorem crc_stepped_P1_r {K : KV} {s0 s1 A0 A1 A2 A3 A4 A5 A6 A7 A8 A9 C0 : Value} {w : World}
    (h : K s0 w) :
    crc_stepped_P1 K [s0, s1, A0, A1, A2, A3, A4, A5, A6, A7, A8, A9, C0] w := by
  delta crc_stepped_P1
  exact Eq.mp (congrArg (fun c => cCode Tryz.prog c (retK Tryz.prog Tryz.f302.results.toList K) (fun _ _ _ => False) (retK Tryz.prog Tryz.f302.results.toList K) [s0, s1, A0, A1, A2, A3, A4, A5, A6, A7, A8, A9, C0] w) (by kernel_rfl : (cd Tryz.f302 [1, 1]) = (cd Tryz.f302 [1, 1]))) (crc_stepped_P1_k h)
attribute [irreducible] crc_stepped_P1 crc_stepped_L1

def crc_More_P1 (K : KV) : KE := cCode Tryz.prog (cd Tryz.f283 [1, 1, 1]) (retK Tryz.prog Tryz.f283.results.toList K) (fun _ _ _ => False) (retK Tryz.prog Tryz.f283.results.toList K)
def crc_More_L1 (K : KV) : KE := cCode Tryz.prog (cd Tryz.f283 [1, 1, 0, 1, 0]) (crc_More_P1 K) (fun i => @Bool.rec (fun _ => KE) ((fun _ _ _ => False) i) (crc_More_P1 K) (Nat.beq i 0)) (retK Tryz.prog Tryz.f283.results.toList K)
theorem crc_More_k {K : KV} {sum0 b1 : Value} {w : World}
    (h : un Tryz.prog UnOp.xor sum0 (fun A7 w =>
    blt Tryz.prog Builtin.len #[75] 3 #[false] #[b1] (fun A9 w =>
    (cCode Tryz.prog (cd Tryz.f283 [1, 1, 0, 1, 0]) (cCode Tryz.prog (cd Tryz.f283 [1, 1, 1]) (retK Tryz.prog Tryz.f283.results.toList K) (fun _ _ _ => False) (retK Tryz.prog Tryz.f283.results.toList K)) (fun i => @Bool.rec (fun _ => KE) ((fun _ _ _ => False) i) (cCode Tryz.prog (cd Tryz.f283 [1, 1, 1]) (retK Tryz.prog Tryz.f283.results.toList K) (fun _ _ _ => False) (retK Tryz.prog Tryz.f283.results.toList K)) (Nat.beq i 0)) (retK Tryz.prog Tryz.f283.results.toList K)) [sum0, b1, undef, undef, (Value.int IntKind.u32 0), A7, undef, undef, sum0, A7, b1, A9, (Value.int IntKind.i64 0), undef, undef, undef, undef, undef, undef, undef, undef, undef, undef, undef] w) w) w) :
    cCode Tryz.prog (cd Tryz.f283 []) (retK Tryz.prog Tryz.f283.results.toList K) (fun _ _ _ => False) (retK Tryz.prog Tryz.f283.results.toList K) [sum0, b1, undef, undef, undef, undef, undef, undef, undef, undef, undef, undef, undef, undef, undef, undef, undef, undef, undef, undef, undef, undef, undef, undef] w := Eq.mp (by kernel_rfl) h

theorem crc_More_in {K : KV} {sum0 b1 : Value} {w : World}
    (h : un Tryz.prog UnOp.xor sum0 (fun A7 w =>
    blt Tryz.prog Builtin.len #[75] 3 #[false] #[b1] (fun A9 w =>
    (crc_More_L1 K) [sum0, b1, undef, undef, (Value.int IntKind.u32 0), A7, undef, undef, sum0, A7, b1, A9, (Value.int IntKind.i64 0), undef, undef, undef, undef, undef, undef, undef, undef, undef, undef, undef] w) w) w) :
    Gives Tryz.prog 283 #[sum0, b1] w K := enter' Tryz.func283 (by kernel_rfl) (Eq.mp (congrArg (fun c => cCode Tryz.prog c (retK Tryz.prog Tryz.f283.results.toList K) (fun _ _ _ => False) (retK Tryz.prog Tryz.f283.results.toList K) [sum0, b1, undef, undef, undef, undef, undef, undef, undef, undef, undef, undef, undef, undef, undef, undef, undef, undef, undef, undef, undef, undef, undef, undef] w) (by kernel_rfl : (cd Tryz.f283 []) = (cd Tryz.f283 []))) (crc_More_k h))
theorem crc_More_go : isGo Tryz.prog 283 := ⟨_, Tryz.func283, by kernel_rfl, by kernel_rfl⟩

theorem crc_More_L1_k {K : KV} (B1 : KE) (qc0 : KE) {sum0 b1 sum2 b3 A2 s5' A4 A6 A7 A8 A9 C0' D0 D1 : Value} {dd : Nat → Value} {w : World}
    (h : bin Tryz.prog BinOp.lss 3 false false C0' A9 (fun C1 w =>
    cond C1
      (idxA Tryz.prog 75 A8 C0' (fun C2 w =>
    ld Tryz.prog 5 C2 (fun C3 w =>
    conv Tryz.prog 5 387 C3 (fun C6 w =>
    bin Tryz.prog BinOp.xor 387 false false s5' C6 (fun C7 w =>
    call Tryz.prog 302 #[C7] (fun C8 w =>
    bin Tryz.prog BinOp.add 3 false true C0' (Value.int IntKind.i64 1) (fun C9 w =>
    B1 [sum0, b1, sum2, b3, A2, C8, A4, C3, A6, A7, A8, A9, C9, C1, C2, C3, s5', C3, C6, C7, C8, C9, D0, D1] w) w) w) w) w) w) w)
      (qc0 [sum0, b1, sum2, b3, A2, s5', A4, (dd 7), A6, A7, A8, A9, C0', C1, (dd 14), (dd 15), (dd 16), (dd 17), (dd 18), (dd 19), (dd 20), (dd 21), D0, D1] w)) w) :
    cCode Tryz.prog (cd Tryz.f283 [1, 1, 0, 1, 0, 0]) B1 (fun i => @Bool.rec (fun _ => KE) ((fun _ _ _ => False) i) qc0 (Nat.beq i 0)) (retK Tryz.prog Tryz.f283.results.toList K) [sum0, b1, sum2, b3, A2, s5', A4, (dd 7), A6, A7, A8, A9, C0', (dd 13), (dd 14), (dd 15), (dd 16), (dd 17), (dd 18), (dd 19), (dd 20), (dd 21), D0, D1] w := Eq.mp (by kernel_rfl) h

theorem crc_More_L1_r {K : KV} {sum0 b1 sum2 b3 A2 s5 A4 c7 A6 A7 A8 A9 C0 C1 C2 C3 C4 C5 C6 C7 C8 C9 D0 D1 : Value} {w : World} (Inv : Value → Value → World → Prop) (μ : Value → Value → World → Nat) (h0 : Inv s5 C0 w)
    (hs : ∀ (s5' C0' : Value) (dd : Nat → Value) (w : World) (m : Nat), Inv s5' C0' w → m = μ s5' C0' w →
    bin Tryz.prog BinOp.lss 3 false false C0' A9 (fun C1 w =>
    cond C1
      (idxA Tryz.prog 75 A8 C0' (fun C2 w =>
    ld Tryz.prog 5 C2 (fun C3 w =>
    conv Tryz.prog 5 387 C3 (fun C6 w =>
    bin Tryz.prog BinOp.xor 387 false false s5' C6 (fun C7 w =>
    call Tryz.prog 302 #[C7] (fun C8 w =>
    bin Tryz.prog BinOp.add 3 false true C0' (Value.int IntKind.i64 1) (fun C9 w =>
    (Inv C8 C9 w ∧ μ C8 C9 w < m)) w) w) w) w) w) w)
      ((crc_More_P1 K) [sum0, b1, sum2, b3, A2, s5', A4, (dd 7), A6, A7, A8, A9, C0', C1, (dd 14), (dd 15), (dd 16), (dd 17), (dd 18), (dd 19), (dd 20), (dd 21), D0, D1] w)) w) :
    crc_More_L1 K [sum0, b1, sum2, b3, A2, s5, A4, c7, A6, A7, A8, A9, C0, C1, C2, C3, C4, C5, C6, C7, C8, C9, D0, D1] w := by
  refine loop_rule (cd Tryz.f283 [1, 1, 0, 1, 0, 0]) [5, 7, 12, 13, 14, 15, 16, 17, 18, 19, 20, 21] (by kernel_rfl) (fun e2 w2 => Inv (gd e2 5) (gd e2 12) w2) (fun e2 w2 => μ (gd e2 5) (gd e2 12) w2) h0 ?_
  intro e' w' hI
  have h := hs (gd e' 5) (gd e' 12) (fun i => gd e' i) w' _ hI rfl
  have h2 : cCode Tryz.prog (cd Tryz.f283 [1, 1, 0, 1, 0, 0]) (fun e2 w2 => Inv (gd e2 5) (gd e2 12) w2 ∧ μ (gd e2 5) (gd e2 12) w2 < μ (gd e' 5) (gd e' 12) w') (fun i => @Bool.rec (fun _ => KE) ((fun _ _ _ => False) i) (crc_More_P1 K) (Nat.beq i 0)) (retK Tryz.prog Tryz.f283.results.toList K) [sum0, b1, sum2, b3, A2, (gd e' 5), A4, (gd e' 7), A6, A7, A8, A9, (gd e' 12), (gd e' 13), (gd e' 14), (gd e' 15), (gd e' 16), (gd e' 17), (gd e' 18), (gd e' 19), (gd e' 20), (gd e' 21), D0, D1] w' := crc_More_L1_k (fun e2 w2 => Inv (gd e2 5) (gd e2 12) w2 ∧ μ (gd e2 5) (gd e2 12) w2 < μ (gd e' 5) (gd e' 12) w') (crc_More_P1 K) (Eq.mp (by kernel_rfl) h)
  exact Eq.mp (by kernel_rfl) h2

theorem crc_More_P1_k {K : KV} {sum0 b1 sum2 b3 A2 s5 A4 c7 A6 A7 A8 A9 C0 C1 C2 C3 C4 C5 C6 C7 C8 C9 D0 D1 : Value} {w : World}
    (h : un Tryz.prog UnOp.xor s5 (fun D1 w =>
    K D1 w) w) :
    cCode Tryz.prog (cd Tryz.f283 [1, 1, 1]) (retK Tryz.prog Tryz.f283.results.toList K) (fun _ _ _ => False) (retK Tryz.prog Tryz.f283.results.toList K) [sum0, b1, sum2, b3, A2, s5, A4, c7, A6, A7, A8, A9, C0, C1, C2, C3, C4, C5, C6, C7, C8, C9, D0, D1] w := Eq.mp (by kernel_rfl) h

theorem crc_More_P1_r {K : KV} {sum0 b1 sum2 b3 A2 s5 A4 c7 A6 A7 A8 A9 C0 C1 C2 C3 C4 C5 C6 C7 C8 C9 D0 D1 : Value} {w : World}
    (h : un Tryz.prog UnOp.xor s5 (fun D1 w =>
    K D1 w) w) :
    crc_More_P1 K [sum0, b1, sum2, b3, A2, s5, A4, c7, A6, A7, A8, A9, C0, C1, C2, C3, C4, C5, C6, C7, C8, C9, D0, D1] w := by
  delta crc_More_P1
  exact Eq.mp (congrArg (fun c => cCode Tryz.prog c (retK Tryz.prog Tryz.f283.results.toList K) (fun _ _ _ => False) (retK Tryz.prog Tryz.f283.results.toList K) [sum0, b1, sum2, b3, A2, s5, A4, c7, A6, A7, A8, A9, C0, C1, C2, C3, C4, C5, C6, C7, C8, C9, D0, D1] w) (by kernel_rfl : (cd Tryz.f283 [1, 1, 1]) = (cd Tryz.f283 [1, 1, 1]))) (crc_More_P1_k h)
attribute [irreducible] crc_More_P1 crc_More_L1


theorem crc_Sum_k {K : KV} {b0 : Value} {w : World}
    (h : call Tryz.prog 283 #[(Value.int IntKind.u32 0), b0] (fun A2 w =>
    K A2 w) w) :
    cCode Tryz.prog (cd Tryz.f284 []) (retK Tryz.prog Tryz.f284.results.toList K) (fun _ _ _ => False) (retK Tryz.prog Tryz.f284.results.toList K) [b0, undef, undef, undef, undef] w := Eq.mp (by kernel_rfl) h

theorem crc_Sum_in {K : KV} {b0 : Value} {w : World}
    (h : call Tryz.prog 283 #[(Value.int IntKind.u32 0), b0] (fun A2 w =>
    K A2 w) w) :
    Gives Tryz.prog 284 #[b0] w K := enter' Tryz.func284 (by kernel_rfl) (Eq.mp (congrArg (fun c => cCode Tryz.prog c (retK Tryz.prog Tryz.f284.results.toList K) (fun _ _ _ => False) (retK Tryz.prog Tryz.f284.results.toList K) [b0, undef, undef, undef, undef] w) (by kernel_rfl : (cd Tryz.f284 []) = (cd Tryz.f284 []))) (crc_Sum_k h))
theorem crc_Sum_go : isGo Tryz.prog 284 := ⟨_, Tryz.func284, by kernel_rfl, by kernel_rfl⟩

end Go.Proofs.YtnmjfakibhekmaaGreatDoor
