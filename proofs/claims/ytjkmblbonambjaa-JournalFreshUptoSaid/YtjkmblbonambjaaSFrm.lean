/- Written by program (gen.py): what the code of some functions asks, part by part; each text is checked by the kernel against the translation. -/
import Derived.Test.YtjkmblbonambjaaSh
import Derived.Test.YtjkmblbonambjaaChecked
namespace Go.Proofs.Ytjkmblbonambjaa
open Go.RowKit
set_option maxRecDepth 100000

def crc_stepped_P1 (K : KV) : KE := cCode Try.prog (cd Try.f74 [1, 1]) (retK Try.prog Try.f74.results.toList K) (fun _ _ _ => False) (retK Try.prog Try.f74.results.toList K)
def crc_stepped_L1 (K : KV) : KE := cCode Try.prog (cd Try.f74 [1, 0, 1, 0]) (crc_stepped_P1 K) (fun i => @Bool.rec (fun _ => KE) ((fun _ _ _ => False) i) (crc_stepped_P1 K) (Nat.beq i 0)) (retK Try.prog Try.f74.results.toList K)
theorem crc_stepped_k {K : KV} {s0 : Value} {w : World}
    (h : (cCode Try.prog (cd Try.f74 [1, 0, 1, 0]) (cCode Try.prog (cd Try.f74 [1, 1]) (retK Try.prog Try.f74.results.toList K) (fun _ _ _ => False) (retK Try.prog Try.f74.results.toList K)) (fun i => @Bool.rec (fun _ => KE) ((fun _ _ _ => False) i) (cCode Try.prog (cd Try.f74 [1, 1]) (retK Try.prog Try.f74.results.toList K) (fun _ _ _ => False) (retK Try.prog Try.f74.results.toList K)) (Nat.beq i 0)) (retK Try.prog Try.f74.results.toList K)) [s0, undef, (Value.int IntKind.u32 0), (Value.int IntKind.i64 0), undef, undef, undef, undef, undef, undef, undef, undef, undef] w) :
    cCode Try.prog (cd Try.f74 []) (retK Try.prog Try.f74.results.toList K) (fun _ _ _ => False) (retK Try.prog Try.f74.results.toList K) [s0, undef, undef, undef, undef, undef, undef, undef, undef, undef, undef, undef, undef] w := Eq.mp (by kernel_rfl) h

theorem crc_stepped_in {K : KV} {s0 : Value} {w : World}
    (h : (crc_stepped_L1 K) [s0, undef, (Value.int IntKind.u32 0), (Value.int IntKind.i64 0), undef, undef, undef, undef, undef, undef, undef, undef, undef] w) :
    Gives Try.prog 74 #[s0] w K := enter' Try.func74 (by kernel_rfl) (Eq.mp (congrArg (fun c => cCode Try.prog c (retK Try.prog Try.f74.results.toList K) (fun _ _ _ => False) (retK Try.prog Try.f74.results.toList K) [s0, undef, undef, undef, undef, undef, undef, undef, undef, undef, undef, undef, undef] w) (by kernel_rfl : (cd Try.f74 []) = (cd Try.f74 []))) (crc_stepped_k h))
theorem crc_stepped_go : isGo Try.prog 74 := ⟨_, Try.func74, by kernel_rfl, by kernel_rfl⟩

theorem crc_stepped_L1_k {K : KV} (B1 : KE) (qc0 : KE) {s0' s1 A0 A1' C0 : Value} {dd : Nat → Value} {w : World}
    (h : bin Try.prog BinOp.lss 3 false true A1' (Value.int IntKind.i64 8) (fun A2 w =>
    cond A2
      (bin Try.prog BinOp.shr 106 false true s0' (Value.int IntKind.u64 1) (fun A4 w =>
    bin Try.prog BinOp.and 106 false true s0' (Value.int IntKind.u32 1) (fun A6 w =>
    bin Try.prog BinOp.mul 106 true false (Value.int IntKind.u32 3988292384) A6 (fun A7 w =>
    bin Try.prog BinOp.xor 106 false false A4 A7 (fun A8 w =>
    bin Try.prog BinOp.add 3 false true A1' (Value.int IntKind.i64 1) (fun A9 w =>
    B1 [A8, s1, A0, A9, A2, s0', A4, s0', A6, A7, A8, A9, C0] w) w) w) w) w) w)
      (qc0 [s0', s1, A0, A1', A2, (dd 5), (dd 6), (dd 7), (dd 8), (dd 9), (dd 10), (dd 11), C0] w)) w) :
    cCode Try.prog (cd Try.f74 [1, 0, 1, 0, 0]) B1 (fun i => @Bool.rec (fun _ => KE) ((fun _ _ _ => False) i) qc0 (Nat.beq i 0)) (retK Try.prog Try.f74.results.toList K) [s0', s1, A0, A1', (dd 4), (dd 5), (dd 6), (dd 7), (dd 8), (dd 9), (dd 10), (dd 11), C0] w := Eq.mp (by kernel_rfl) h

theorem crc_stepped_L1_r {K : KV} {s0 s1 A0 A1 A2 A3 A4 A5 A6 A7 A8 A9 C0 : Value} {w : World} (Inv : Value → Value → World → Prop) (μ : Value → Value → World → Nat) (h0 : Inv s0 A1 w)
    (hs : ∀ (s0' A1' : Value) (dd : Nat → Value) (w : World) (m : Nat), Inv s0' A1' w → m = μ s0' A1' w →
    bin Try.prog BinOp.lss 3 false true A1' (Value.int IntKind.i64 8) (fun A2 w =>
    cond A2
      (bin Try.prog BinOp.shr 106 false true s0' (Value.int IntKind.u64 1) (fun A4 w =>
    bin Try.prog BinOp.and 106 false true s0' (Value.int IntKind.u32 1) (fun A6 w =>
    bin Try.prog BinOp.mul 106 true false (Value.int IntKind.u32 3988292384) A6 (fun A7 w =>
    bin Try.prog BinOp.xor 106 false false A4 A7 (fun A8 w =>
    bin Try.prog BinOp.add 3 false true A1' (Value.int IntKind.i64 1) (fun A9 w =>
    (Inv A8 A9 w ∧ μ A8 A9 w < m)) w) w) w) w) w)
      ((crc_stepped_P1 K) [s0', s1, A0, A1', A2, (dd 5), (dd 6), (dd 7), (dd 8), (dd 9), (dd 10), (dd 11), C0] w)) w) :
    crc_stepped_L1 K [s0, s1, A0, A1, A2, A3, A4, A5, A6, A7, A8, A9, C0] w := by
  refine loop_rule (cd Try.f74 [1, 0, 1, 0, 0]) [0, 3, 4, 5, 6, 7, 8, 9, 10, 11] (by kernel_rfl) (fun e2 w2 => Inv (gd e2 0) (gd e2 3) w2) (fun e2 w2 => μ (gd e2 0) (gd e2 3) w2) h0 ?_
  intro e' w' hI
  have h := hs (gd e' 0) (gd e' 3) (fun i => gd e' i) w' _ hI rfl
  have h2 : cCode Try.prog (cd Try.f74 [1, 0, 1, 0, 0]) (fun e2 w2 => Inv (gd e2 0) (gd e2 3) w2 ∧ μ (gd e2 0) (gd e2 3) w2 < μ (gd e' 0) (gd e' 3) w') (fun i => @Bool.rec (fun _ => KE) ((fun _ _ _ => False) i) (crc_stepped_P1 K) (Nat.beq i 0)) (retK Try.prog Try.f74.results.toList K) [(gd e' 0), s1, A0, (gd e' 3), (gd e' 4), (gd e' 5), (gd e' 6), (gd e' 7), (gd e' 8), (gd e' 9), (gd e' 10), (gd e' 11), C0] w' := crc_stepped_L1_k (fun e2 w2 => Inv (gd e2 0) (gd e2 3) w2 ∧ μ (gd e2 0) (gd e2 3) w2 < μ (gd e' 0) (gd e' 3) w') (crc_stepped_P1 K) (Eq.mp (by kernel_rfl) h)
  exact Eq.mp (by kernel_rfl) h2

theorem crc_stepped_P1_k {K : KV} {s0 s1 A0 A1 A2 A3 A4 A5 A6 A7 A8 A9 C0 : Value} {w : World}
    (h : K s0 w) :
    cCode Try.prog (cd Try.f74 [1, 1]) (retK Try.prog Try.f74.results.toList K) (fun _ _ _ => False) (retK Try.prog Try.f74.results.toList K) [s0, s1, A0, A1, A2, A3, A4, A5, A6, A7, A8, A9, C0] w := Eq.mp (by kernel_rfl) h

theorem crc_stepped_P1_r {K : KV} {s0 s1 A0 A1 A2 A3 A4 A5 A6 A7 A8 A9 C0 : Value} {w : World}
    (h : K s0 w) :
    crc_stepped_P1 K [s0, s1, A0, A1, A2, A3, A4, A5, A6, A7, A8, A9, C0] w := by
  delta crc_stepped_P1
  exact Eq.mp (congrArg (fun c => cCode Try.prog c (retK Try.prog Try.f74.results.toList K) (fun _ _ _ => False) (retK Try.prog Try.f74.results.toList K) [s0, s1, A0, A1, A2, A3, A4, A5, A6, A7, A8, A9, C0] w) (by kernel_rfl : (cd Try.f74 [1, 1]) = (cd Try.f74 [1, 1]))) (crc_stepped_P1_k h)
attribute [irreducible] crc_stepped_P1 crc_stepped_L1

def crc_More_P1 (K : KV) : KE := cCode Try.prog (cd Try.f70 [1, 1, 1]) (retK Try.prog Try.f70.results.toList K) (fun _ _ _ => False) (retK Try.prog Try.f70.results.toList K)
def crc_More_L1 (K : KV) : KE := cCode Try.prog (cd Try.f70 [1, 1, 0, 1, 0]) (crc_More_P1 K) (fun i => @Bool.rec (fun _ => KE) ((fun _ _ _ => False) i) (crc_More_P1 K) (Nat.beq i 0)) (retK Try.prog Try.f70.results.toList K)
theorem crc_More_k {K : KV} {sum0 b1 : Value} {w : World}
    (h : un Try.prog UnOp.xor sum0 (fun A7 w =>
    blt Try.prog Builtin.len #[29] 3 #[false] #[b1] (fun A9 w =>
    (cCode Try.prog (cd Try.f70 [1, 1, 0, 1, 0]) (cCode Try.prog (cd Try.f70 [1, 1, 1]) (retK Try.prog Try.f70.results.toList K) (fun _ _ _ => False) (retK Try.prog Try.f70.results.toList K)) (fun i => @Bool.rec (fun _ => KE) ((fun _ _ _ => False) i) (cCode Try.prog (cd Try.f70 [1, 1, 1]) (retK Try.prog Try.f70.results.toList K) (fun _ _ _ => False) (retK Try.prog Try.f70.results.toList K)) (Nat.beq i 0)) (retK Try.prog Try.f70.results.toList K)) [sum0, b1, undef, undef, (Value.int IntKind.u32 0), A7, undef, undef, sum0, A7, b1, A9, (Value.int IntKind.i64 0), undef, undef, undef, undef, undef, undef, undef, undef, undef, undef, undef] w) w) w) :
    cCode Try.prog (cd Try.f70 []) (retK Try.prog Try.f70.results.toList K) (fun _ _ _ => False) (retK Try.prog Try.f70.results.toList K) [sum0, b1, undef, undef, undef, undef, undef, undef, undef, undef, undef, undef, undef, undef, undef, undef, undef, undef, undef, undef, undef, undef, undef, undef] w := Eq.mp (by kernel_rfl) h

theorem crc_More_in {K : KV} {sum0 b1 : Value} {w : World}
    (h : un Try.prog UnOp.xor sum0 (fun A7 w =>
    blt Try.prog Builtin.len #[29] 3 #[false] #[b1] (fun A9 w =>
    (crc_More_L1 K) [sum0, b1, undef, undef, (Value.int IntKind.u32 0), A7, undef, undef, sum0, A7, b1, A9, (Value.int IntKind.i64 0), undef, undef, undef, undef, undef, undef, undef, undef, undef, undef, undef] w) w) w) :
    Gives Try.prog 70 #[sum0, b1] w K := enter' Try.func70 (by kernel_rfl) (Eq.mp (congrArg (fun c => cCode Try.prog c (retK Try.prog Try.f70.results.toList K) (fun _ _ _ => False) (retK Try.prog Try.f70.results.toList K) [sum0, b1, undef, undef, undef, undef, undef, undef, undef, undef, undef, undef, undef, undef, undef, undef, undef, undef, undef, undef, undef, undef, undef, undef] w) (by kernel_rfl : (cd Try.f70 []) = (cd Try.f70 []))) (crc_More_k h))
theorem crc_More_go : isGo Try.prog 70 := ⟨_, Try.func70, by kernel_rfl, by kernel_rfl⟩

theorem crc_More_L1_k {K : KV} (B1 : KE) (qc0 : KE) {sum0 b1 sum2 b3 A2 s5' A4 A6 A7 A8 A9 C0' D0 D1 : Value} {dd : Nat → Value} {w : World}
    (h : bin Try.prog BinOp.lss 3 false false C0' A9 (fun C1 w =>
    cond C1
      (idxA Try.prog 29 A8 C0' (fun C2 w =>
    ld Try.prog 5 C2 (fun C3 w =>
    conv Try.prog 5 106 C3 (fun C6 w =>
    bin Try.prog BinOp.xor 106 false false s5' C6 (fun C7 w =>
    call Try.prog 74 #[C7] (fun C8 w =>
    bin Try.prog BinOp.add 3 false true C0' (Value.int IntKind.i64 1) (fun C9 w =>
    B1 [sum0, b1, sum2, b3, A2, C8, A4, C3, A6, A7, A8, A9, C9, C1, C2, C3, s5', C3, C6, C7, C8, C9, D0, D1] w) w) w) w) w) w) w)
      (qc0 [sum0, b1, sum2, b3, A2, s5', A4, (dd 7), A6, A7, A8, A9, C0', C1, (dd 14), (dd 15), (dd 16), (dd 17), (dd 18), (dd 19), (dd 20), (dd 21), D0, D1] w)) w) :
    cCode Try.prog (cd Try.f70 [1, 1, 0, 1, 0, 0]) B1 (fun i => @Bool.rec (fun _ => KE) ((fun _ _ _ => False) i) qc0 (Nat.beq i 0)) (retK Try.prog Try.f70.results.toList K) [sum0, b1, sum2, b3, A2, s5', A4, (dd 7), A6, A7, A8, A9, C0', (dd 13), (dd 14), (dd 15), (dd 16), (dd 17), (dd 18), (dd 19), (dd 20), (dd 21), D0, D1] w := Eq.mp (by kernel_rfl) h

theorem crc_More_L1_r {K : KV} {sum0 b1 sum2 b3 A2 s5 A4 c7 A6 A7 A8 A9 C0 C1 C2 C3 C4 C5 C6 C7 C8 C9 D0 D1 : Value} {w : World} (Inv : Value → Value → World → Prop) (μ : Value → Value → World → Nat) (h0 : Inv s5 C0 w)
    (hs : ∀ (s5' C0' : Value) (dd : Nat → Value) (w : World) (m : Nat), Inv s5' C0' w → m = μ s5' C0' w →
    bin Try.prog BinOp.lss 3 false false C0' A9 (fun C1 w =>
    cond C1
      (idxA Try.prog 29 A8 C0' (fun C2 w =>
    ld Try.prog 5 C2 (fun C3 w =>
    conv Try.prog 5 106 C3 (fun C6 w =>
    bin Try.prog BinOp.xor 106 false false s5' C6 (fun C7 w =>
    call Try.prog 74 #[C7] (fun C8 w =>
    bin Try.prog BinOp.add 3 false true C0' (Value.int IntKind.i64 1) (fun C9 w =>
    (Inv C8 C9 w ∧ μ C8 C9 w < m)) w) w) w) w) w) w)
      ((crc_More_P1 K) [sum0, b1, sum2, b3, A2, s5', A4, (dd 7), A6, A7, A8, A9, C0', C1, (dd 14), (dd 15), (dd 16), (dd 17), (dd 18), (dd 19), (dd 20), (dd 21), D0, D1] w)) w) :
    crc_More_L1 K [sum0, b1, sum2, b3, A2, s5, A4, c7, A6, A7, A8, A9, C0, C1, C2, C3, C4, C5, C6, C7, C8, C9, D0, D1] w := by
  refine loop_rule (cd Try.f70 [1, 1, 0, 1, 0, 0]) [5, 7, 12, 13, 14, 15, 16, 17, 18, 19, 20, 21] (by kernel_rfl) (fun e2 w2 => Inv (gd e2 5) (gd e2 12) w2) (fun e2 w2 => μ (gd e2 5) (gd e2 12) w2) h0 ?_
  intro e' w' hI
  have h := hs (gd e' 5) (gd e' 12) (fun i => gd e' i) w' _ hI rfl
  have h2 : cCode Try.prog (cd Try.f70 [1, 1, 0, 1, 0, 0]) (fun e2 w2 => Inv (gd e2 5) (gd e2 12) w2 ∧ μ (gd e2 5) (gd e2 12) w2 < μ (gd e' 5) (gd e' 12) w') (fun i => @Bool.rec (fun _ => KE) ((fun _ _ _ => False) i) (crc_More_P1 K) (Nat.beq i 0)) (retK Try.prog Try.f70.results.toList K) [sum0, b1, sum2, b3, A2, (gd e' 5), A4, (gd e' 7), A6, A7, A8, A9, (gd e' 12), (gd e' 13), (gd e' 14), (gd e' 15), (gd e' 16), (gd e' 17), (gd e' 18), (gd e' 19), (gd e' 20), (gd e' 21), D0, D1] w' := crc_More_L1_k (fun e2 w2 => Inv (gd e2 5) (gd e2 12) w2 ∧ μ (gd e2 5) (gd e2 12) w2 < μ (gd e' 5) (gd e' 12) w') (crc_More_P1 K) (Eq.mp (by kernel_rfl) h)
  exact Eq.mp (by kernel_rfl) h2

theorem crc_More_P1_k {K : KV} {sum0 b1 sum2 b3 A2 s5 A4 c7 A6 A7 A8 A9 C0 C1 C2 C3 C4 C5 C6 C7 C8 C9 D0 D1 : Value} {w : World}
    (h : un Try.prog UnOp.xor s5 (fun D1 w =>
    K D1 w) w) :
    cCode Try.prog (cd Try.f70 [1, 1, 1]) (retK Try.prog Try.f70.results.toList K) (fun _ _ _ => False) (retK Try.prog Try.f70.results.toList K) [sum0, b1, sum2, b3, A2, s5, A4, c7, A6, A7, A8, A9, C0, C1, C2, C3, C4, C5, C6, C7, C8, C9, D0, D1] w := Eq.mp (by kernel_rfl) h

theorem crc_More_P1_r {K : KV} {sum0 b1 sum2 b3 A2 s5 A4 c7 A6 A7 A8 A9 C0 C1 C2 C3 C4 C5 C6 C7 C8 C9 D0 D1 : Value} {w : World}
    (h : un Try.prog UnOp.xor s5 (fun D1 w =>
    K D1 w) w) :
    crc_More_P1 K [sum0, b1, sum2, b3, A2, s5, A4, c7, A6, A7, A8, A9, C0, C1, C2, C3, C4, C5, C6, C7, C8, C9, D0, D1] w := by
  delta crc_More_P1
  exact Eq.mp (congrArg (fun c => cCode Try.prog c (retK Try.prog Try.f70.results.toList K) (fun _ _ _ => False) (retK Try.prog Try.f70.results.toList K) [sum0, b1, sum2, b3, A2, s5, A4, c7, A6, A7, A8, A9, C0, C1, C2, C3, C4, C5, C6, C7, C8, C9, D0, D1] w) (by kernel_rfl : (cd Try.f70 [1, 1, 1]) = (cd Try.f70 [1, 1, 1]))) (crc_More_P1_k h)
attribute [irreducible] crc_More_P1 crc_More_L1


theorem crc_Sum_k {K : KV} {b0 : Value} {w : World}
    (h : call Try.prog 70 #[(Value.int IntKind.u32 0), b0] (fun A2 w =>
    K A2 w) w) :
    cCode Try.prog (cd Try.f71 []) (retK Try.prog Try.f71.results.toList K) (fun _ _ _ => False) (retK Try.prog Try.f71.results.toList K) [b0, undef, undef, undef, undef] w := Eq.mp (by kernel_rfl) h

theorem crc_Sum_in {K : KV} {b0 : Value} {w : World}
    (h : call Try.prog 70 #[(Value.int IntKind.u32 0), b0] (fun A2 w =>
    K A2 w) w) :
    Gives Try.prog 71 #[b0] w K := enter' Try.func71 (by kernel_rfl) (Eq.mp (congrArg (fun c => cCode Try.prog c (retK Try.prog Try.f71.results.toList K) (fun _ _ _ => False) (retK Try.prog Try.f71.results.toList K) [b0, undef, undef, undef, undef] w) (by kernel_rfl : (cd Try.f71 []) = (cd Try.f71 []))) (crc_Sum_k h))
theorem crc_Sum_go : isGo Try.prog 71 := ⟨_, Try.func71, by kernel_rfl, by kernel_rfl⟩


theorem frame_number_k {K : KV} {n0 : Value} {w : World}
    (h : conv Try.prog 106 113 n0 (fun A5 w =>
    call Try.prog 73 #[(Value.slice none 0 0), A5, (Value.int IntKind.i64 4)] (fun A6 w =>
    ext Try.prog A6 0 (fun A7 w =>
    ext Try.prog A6 1 (fun A8 w =>
    K A7 w) w) w) w) w) :
    cCode Try.prog (cd Try.f69 []) (retK Try.prog Try.f69.results.toList K) (fun _ _ _ => False) (retK Try.prog Try.f69.results.toList K) [n0, undef, undef, undef, undef, undef, undef, undef, undef, undef, undef, undef] w := Eq.mp (by kernel_rfl) h

theorem frame_number_in {K : KV} {n0 : Value} {w : World}
    (h : conv Try.prog 106 113 n0 (fun A5 w =>
    call Try.prog 73 #[(Value.slice none 0 0), A5, (Value.int IntKind.i64 4)] (fun A6 w =>
    ext Try.prog A6 0 (fun A7 w =>
    ext Try.prog A6 1 (fun A8 w =>
    K A7 w) w) w) w) w) :
    Gives Try.prog 69 #[n0] w K := enter' Try.func69 (by kernel_rfl) (Eq.mp (congrArg (fun c => cCode Try.prog c (retK Try.prog Try.f69.results.toList K) (fun _ _ _ => False) (retK Try.prog Try.f69.results.toList K) [n0, undef, undef, undef, undef, undef, undef, undef, undef, undef, undef, undef] w) (by kernel_rfl : (cd Try.f69 []) = (cd Try.f69 []))) (frame_number_k h))
theorem frame_number_go : isGo Try.prog 69 := ⟨_, Try.func69, by kernel_rfl, by kernel_rfl⟩

def frame_Put_P1 (K : KV) : KE := cCode Try.prog (cd Try.f67 [1, 1, 1]) (retK Try.prog Try.f67.results.toList K) (fun _ _ _ => False) (retK Try.prog Try.f67.results.toList K)
def frame_Put_L1 (K : KV) : KE := cCode Try.prog (cd Try.f67 [1, 1, 0, 1, 0]) (frame_Put_P1 K) (fun i => @Bool.rec (fun _ => KE) ((fun _ _ _ => False) i) (frame_Put_P1 K) (Nat.beq i 0)) (retK Try.prog Try.f67.results.toList K)
theorem frame_Put_k {K : KV} {b0 records1 : Value} {w : World}
    (h : call Try.prog 42 #[b0] (fun C0 w =>
    blt Try.prog Builtin.len #[50] 3 #[false] #[records1] (fun C2 w =>
    (cCode Try.prog (cd Try.f67 [1, 1, 0, 1, 0]) (cCode Try.prog (cd Try.f67 [1, 1, 1]) (retK Try.prog Try.f67.results.toList K) (fun _ _ _ => False) (retK Try.prog Try.f67.results.toList K)) (fun i => @Bool.rec (fun _ => KE) ((fun _ _ _ => False) i) (cCode Try.prog (cd Try.f67 [1, 1, 1]) (retK Try.prog Try.f67.results.toList K) (fun _ _ _ => False) (retK Try.prog Try.f67.results.toList K)) (Nat.beq i 0)) (retK Try.prog Try.f67.results.toList K)) [b0, records1, undef, undef, (Value.slice none 0 0), (Value.int IntKind.i64 0), C0, undef, undef, undef, undef, b0, C0, records1, C2, (Value.int IntKind.i64 0), undef, undef, undef, undef, undef, undef, undef, undef, undef, undef, undef, undef, undef, undef, undef, undef, undef, undef, undef, undef, undef, undef, undef, undef] w) w) w) :
    cCode Try.prog (cd Try.f67 []) (retK Try.prog Try.f67.results.toList K) (fun _ _ _ => False) (retK Try.prog Try.f67.results.toList K) [b0, records1, undef, undef, undef, undef, undef, undef, undef, undef, undef, undef, undef, undef, undef, undef, undef, undef, undef, undef, undef, undef, undef, undef, undef, undef, undef, undef, undef, undef, undef, undef, undef, undef, undef, undef, undef, undef, undef, undef] w := Eq.mp (by kernel_rfl) h

theorem frame_Put_in {K : KV} {b0 records1 : Value} {w : World}
    (h : call Try.prog 42 #[b0] (fun C0 w =>
    blt Try.prog Builtin.len #[50] 3 #[false] #[records1] (fun C2 w =>
    (frame_Put_L1 K) [b0, records1, undef, undef, (Value.slice none 0 0), (Value.int IntKind.i64 0), C0, undef, undef, undef, undef, b0, C0, records1, C2, (Value.int IntKind.i64 0), undef, undef, undef, undef, undef, undef, undef, undef, undef, undef, undef, undef, undef, undef, undef, undef, undef, undef, undef, undef, undef, undef, undef, undef] w) w) w) :
    Gives Try.prog 67 #[b0, records1] w K := enter' Try.func67 (by kernel_rfl) (Eq.mp (congrArg (fun c => cCode Try.prog c (retK Try.prog Try.f67.results.toList K) (fun _ _ _ => False) (retK Try.prog Try.f67.results.toList K) [b0, records1, undef, undef, undef, undef, undef, undef, undef, undef, undef, undef, undef, undef, undef, undef, undef, undef, undef, undef, undef, undef, undef, undef, undef, undef, undef, undef, undef, undef, undef, undef, undef, undef, undef, undef, undef, undef, undef, undef] w) (by kernel_rfl : (cd Try.f67 []) = (cd Try.f67 []))) (frame_Put_k h))
theorem frame_Put_go : isGo Try.prog 67 := ⟨_, Try.func67, by kernel_rfl, by kernel_rfl⟩

theorem frame_Put_L1_k {K : KV} (B1 : KE) (qc0 : KE) {b0 records1 b2 records3 out6' A5 A9 C0 C1 C2 C3' E7 : Value} {dd : Nat → Value} {w : World}
    (h : bin Try.prog BinOp.lss 3 false false C3' C2 (fun C4 w =>
    cond C4
      (idxA Try.prog 50 C1 C3' (fun C5 w =>
    ld Try.prog 29 C5 (fun C6 w =>
    blt Try.prog Builtin.len #[29] 3 #[false] #[C6] (fun C8 w =>
    bin Try.prog BinOp.gtr 3 false true C8 (Value.int IntKind.i64 4096) (fun C9 w =>
    cond C9
      (K (Value.tuple #[(Value.slice none 0 0), (Value.int IntKind.i64 6)]) w)
      (blt Try.prog Builtin.len #[29] 3 #[false] #[C6] (fun D1 w =>
    conv Try.prog 3 106 D1 (fun D2 w =>
    call Try.prog 69 #[D2] (fun D3 w =>
    call Try.prog 71 #[D3] (fun D5 w =>
    call Try.prog 70 #[D5, C6] (fun D7 w =>
    blt Try.prog Builtin.append #[29, 29] 29 #[false, false] #[out6', D3] (fun E0 w =>
    call Try.prog 69 #[D7] (fun E2 w =>
    blt Try.prog Builtin.append #[29, 29] 29 #[false, false] #[E0, E2] (fun E3 w =>
    blt Try.prog Builtin.append #[29, 29] 29 #[false, false] #[E3, C6] (fun E5 w =>
    bin Try.prog BinOp.add 3 false true C3' (Value.int IntKind.i64 1) (fun E6 w =>
    B1 [b0, records1, b2, records3, (dd 4), (dd 5), E5, A5, C6, D3, D7, A9, C0, C1, C2, E6, C4, C5, C6, C6, C8, C9, C6, D1, D2, D3, D3, D5, C6, D7, out6', D3, E0, D7, E2, E3, C6, E5, E6, E7] w) w) w) w) w) w) w) w) w) w) w)) w) w) w) w)
      (qc0 [b0, records1, b2, records3, (dd 4), (dd 5), out6', A5, (dd 8), (dd 9), (dd 10), A9, C0, C1, C2, C3', C4, (dd 17), (dd 18), (dd 19), (dd 20), (dd 21), (dd 22), (dd 23), (dd 24), (dd 25), (dd 26), (dd 27), (dd 28), (dd 29), (dd 30), (dd 31), (dd 32), (dd 33), (dd 34), (dd 35), (dd 36), (dd 37), (dd 38), E7] w)) w) :
    cCode Try.prog (cd Try.f67 [1, 1, 0, 1, 0, 0]) B1 (fun i => @Bool.rec (fun _ => KE) ((fun _ _ _ => False) i) qc0 (Nat.beq i 0)) (retK Try.prog Try.f67.results.toList K) [b0, records1, b2, records3, (dd 4), (dd 5), out6', A5, (dd 8), (dd 9), (dd 10), A9, C0, C1, C2, C3', (dd 16), (dd 17), (dd 18), (dd 19), (dd 20), (dd 21), (dd 22), (dd 23), (dd 24), (dd 25), (dd 26), (dd 27), (dd 28), (dd 29), (dd 30), (dd 31), (dd 32), (dd 33), (dd 34), (dd 35), (dd 36), (dd 37), (dd 38), E7] w := Eq.mp (by kernel_rfl) h

theorem frame_Put_L1_r {K : KV} {b0 records1 b2 records3 A2 A3 out6 A5 s8 size9 sum10 A9 C0 C1 C2 C3 C4 C5 C6 C7 C8 C9 D0 D1 D2 D3 D4 D5 D6 D7 D8 D9 E0 E1 E2 E3 E4 E5 E6 E7 : Value} {w : World} (Inv : Value → Value → World → Prop) (μ : Value → Value → World → Nat) (h0 : Inv out6 C3 w)
    (hs : ∀ (out6' C3' : Value) (dd : Nat → Value) (w : World) (m : Nat), Inv out6' C3' w → m = μ out6' C3' w →
    bin Try.prog BinOp.lss 3 false false C3' C2 (fun C4 w =>
    cond C4
      (idxA Try.prog 50 C1 C3' (fun C5 w =>
    ld Try.prog 29 C5 (fun C6 w =>
    blt Try.prog Builtin.len #[29] 3 #[false] #[C6] (fun C8 w =>
    bin Try.prog BinOp.gtr 3 false true C8 (Value.int IntKind.i64 4096) (fun C9 w =>
    cond C9
      (K (Value.tuple #[(Value.slice none 0 0), (Value.int IntKind.i64 6)]) w)
      (blt Try.prog Builtin.len #[29] 3 #[false] #[C6] (fun D1 w =>
    conv Try.prog 3 106 D1 (fun D2 w =>
    call Try.prog 69 #[D2] (fun D3 w =>
    call Try.prog 71 #[D3] (fun D5 w =>
    call Try.prog 70 #[D5, C6] (fun D7 w =>
    blt Try.prog Builtin.append #[29, 29] 29 #[false, false] #[out6', D3] (fun E0 w =>
    call Try.prog 69 #[D7] (fun E2 w =>
    blt Try.prog Builtin.append #[29, 29] 29 #[false, false] #[E0, E2] (fun E3 w =>
    blt Try.prog Builtin.append #[29, 29] 29 #[false, false] #[E3, C6] (fun E5 w =>
    bin Try.prog BinOp.add 3 false true C3' (Value.int IntKind.i64 1) (fun E6 w =>
    (Inv E5 E6 w ∧ μ E5 E6 w < m)) w) w) w) w) w) w) w) w) w) w)) w) w) w) w)
      ((frame_Put_P1 K) [b0, records1, b2, records3, (dd 4), (dd 5), out6', A5, (dd 8), (dd 9), (dd 10), A9, C0, C1, C2, C3', C4, (dd 17), (dd 18), (dd 19), (dd 20), (dd 21), (dd 22), (dd 23), (dd 24), (dd 25), (dd 26), (dd 27), (dd 28), (dd 29), (dd 30), (dd 31), (dd 32), (dd 33), (dd 34), (dd 35), (dd 36), (dd 37), (dd 38), E7] w)) w) :
    frame_Put_L1 K [b0, records1, b2, records3, A2, A3, out6, A5, s8, size9, sum10, A9, C0, C1, C2, C3, C4, C5, C6, C7, C8, C9, D0, D1, D2, D3, D4, D5, D6, D7, D8, D9, E0, E1, E2, E3, E4, E5, E6, E7] w := by
  refine loop_rule (cd Try.f67 [1, 1, 0, 1, 0, 0]) [4, 5, 6, 8, 9, 10, 15, 16, 17, 18, 19, 20, 21, 22, 23, 24, 25, 26, 27, 28, 29, 30, 31, 32, 33, 34, 35, 36, 37, 38] (by kernel_rfl) (fun e2 w2 => Inv (gd e2 6) (gd e2 15) w2) (fun e2 w2 => μ (gd e2 6) (gd e2 15) w2) h0 ?_
  intro e' w' hI
  have h := hs (gd e' 6) (gd e' 15) (fun i => gd e' i) w' _ hI rfl
  have h2 : cCode Try.prog (cd Try.f67 [1, 1, 0, 1, 0, 0]) (fun e2 w2 => Inv (gd e2 6) (gd e2 15) w2 ∧ μ (gd e2 6) (gd e2 15) w2 < μ (gd e' 6) (gd e' 15) w') (fun i => @Bool.rec (fun _ => KE) ((fun _ _ _ => False) i) (frame_Put_P1 K) (Nat.beq i 0)) (retK Try.prog Try.f67.results.toList K) [b0, records1, b2, records3, (gd e' 4), (gd e' 5), (gd e' 6), A5, (gd e' 8), (gd e' 9), (gd e' 10), A9, C0, C1, C2, (gd e' 15), (gd e' 16), (gd e' 17), (gd e' 18), (gd e' 19), (gd e' 20), (gd e' 21), (gd e' 22), (gd e' 23), (gd e' 24), (gd e' 25), (gd e' 26), (gd e' 27), (gd e' 28), (gd e' 29), (gd e' 30), (gd e' 31), (gd e' 32), (gd e' 33), (gd e' 34), (gd e' 35), (gd e' 36), (gd e' 37), (gd e' 38), E7] w' := frame_Put_L1_k (fun e2 w2 => Inv (gd e2 6) (gd e2 15) w2 ∧ μ (gd e2 6) (gd e2 15) w2 < μ (gd e' 6) (gd e' 15) w') (frame_Put_P1 K) (Eq.mp (by kernel_rfl) h)
  exact Eq.mp (by kernel_rfl) h2

theorem frame_Put_P1_k {K : KV} {b0 records1 b2 records3 A2 A3 out6 A5 s8 size9 sum10 A9 C0 C1 C2 C3 C4 C5 C6 C7 C8 C9 D0 D1 D2 D3 D4 D5 D6 D7 D8 D9 E0 E1 E2 E3 E4 E5 E6 E7 : Value} {w : World}
    (h : K (Value.tuple #[out6, (Value.int IntKind.i64 0)]) w) :
    cCode Try.prog (cd Try.f67 [1, 1, 1]) (retK Try.prog Try.f67.results.toList K) (fun _ _ _ => False) (retK Try.prog Try.f67.results.toList K) [b0, records1, b2, records3, A2, A3, out6, A5, s8, size9, sum10, A9, C0, C1, C2, C3, C4, C5, C6, C7, C8, C9, D0, D1, D2, D3, D4, D5, D6, D7, D8, D9, E0, E1, E2, E3, E4, E5, E6, E7] w := Eq.mp (by kernel_rfl) h

theorem frame_Put_P1_r {K : KV} {b0 records1 b2 records3 A2 A3 out6 A5 s8 size9 sum10 A9 C0 C1 C2 C3 C4 C5 C6 C7 C8 C9 D0 D1 D2 D3 D4 D5 D6 D7 D8 D9 E0 E1 E2 E3 E4 E5 E6 E7 : Value} {w : World}
    (h : K (Value.tuple #[out6, (Value.int IntKind.i64 0)]) w) :
    frame_Put_P1 K [b0, records1, b2, records3, A2, A3, out6, A5, s8, size9, sum10, A9, C0, C1, C2, C3, C4, C5, C6, C7, C8, C9, D0, D1, D2, D3, D4, D5, D6, D7, D8, D9, E0, E1, E2, E3, E4, E5, E6, E7] w := by
  delta frame_Put_P1
  exact Eq.mp (congrArg (fun c => cCode Try.prog c (retK Try.prog Try.f67.results.toList K) (fun _ _ _ => False) (retK Try.prog Try.f67.results.toList K) [b0, records1, b2, records3, A2, A3, out6, A5, s8, size9, sum10, A9, C0, C1, C2, C3, C4, C5, C6, C7, C8, C9, D0, D1, D2, D3, D4, D5, D6, D7, D8, D9, E0, E1, E2, E3, E4, E5, E6, E7] w) (by kernel_rfl : (cd Try.f67 [1, 1, 1]) = (cd Try.f67 [1, 1, 1]))) (frame_Put_P1_k h)
attribute [irreducible] frame_Put_P1 frame_Put_L1


theorem frame_place_number_k {K : KV} {p0 : Value} {w : World}
    (h : hReg (fun S w =>
    hld S (fun k w => nilC p0 k w) (fun A7 =>
    hld S (fun k w => fldA Try.prog 102 A7 0 k w) (fun A8 =>
    hld S (fun k w => ld Try.prog 29 A8 k w) (fun A9 =>
    hld S (fun k w => nilC p0 k w) (fun C1 =>
    hld S (fun k w => fldA Try.prog 102 C1 1 k w) (fun C2 =>
    hld S (fun k w => ld Try.prog 3 C2 k w) (fun C3 =>
    call Try.prog 75 #[A9, C3, (Value.int IntKind.i64 4)] (fun C4 w =>
    hReg (fun S w =>
    hld S (fun k w => ext Try.prog C4 0 k w) (fun C5 =>
    hld S (fun k w => ext Try.prog C4 1 k w) (fun C6 =>
    hld S (fun k w => ext Try.prog C4 2 k w) (fun C7 =>
    bin Try.prog BinOp.neq 33 false true C7 (Value.int IntKind.i64 0) (fun C9 w =>
    cond C9
      (K (Value.tuple #[(Value.int IntKind.u32 0), (Value.bool false)]) w)
      (nilC p0 (fun D2 w =>
    fldA Try.prog 102 D2 1 (fun D3 w =>
    sto Try.prog 3 D3 C6 (fun _t w =>
    conv Try.prog 113 106 C5 (fun D5 w =>
    K (Value.tuple #[D5, (Value.bool true)]) w) w) w) w) w)) w)))) w) w))))))) w.drew) :
    cCode Try.prog (cd Try.f72 []) (retK Try.prog Try.f72.results.toList K) (fun _ _ _ => False) (retK Try.prog Try.f72.results.toList K) [p0, undef, undef, undef, undef, undef, undef, undef, undef, undef, undef, undef, undef, undef, undef, undef, undef, undef, undef, undef, undef, undef, undef, undef, undef, undef, undef, undef] w := Eq.mp (by kernel_rfl) h

theorem frame_place_number_in {K : KV} {p0 : Value} {w : World}
    (h : hReg (fun S w =>
    hld S (fun k w => nilC p0 k w) (fun A7 =>
    hld S (fun k w => fldA Try.prog 102 A7 0 k w) (fun A8 =>
    hld S (fun k w => ld Try.prog 29 A8 k w) (fun A9 =>
    hld S (fun k w => nilC p0 k w) (fun C1 =>
    hld S (fun k w => fldA Try.prog 102 C1 1 k w) (fun C2 =>
    hld S (fun k w => ld Try.prog 3 C2 k w) (fun C3 =>
    call Try.prog 75 #[A9, C3, (Value.int IntKind.i64 4)] (fun C4 w =>
    hReg (fun S w =>
    hld S (fun k w => ext Try.prog C4 0 k w) (fun C5 =>
    hld S (fun k w => ext Try.prog C4 1 k w) (fun C6 =>
    hld S (fun k w => ext Try.prog C4 2 k w) (fun C7 =>
    bin Try.prog BinOp.neq 33 false true C7 (Value.int IntKind.i64 0) (fun C9 w =>
    cond C9
      (K (Value.tuple #[(Value.int IntKind.u32 0), (Value.bool false)]) w)
      (nilC p0 (fun D2 w =>
    fldA Try.prog 102 D2 1 (fun D3 w =>
    sto Try.prog 3 D3 C6 (fun _t w =>
    conv Try.prog 113 106 C5 (fun D5 w =>
    K (Value.tuple #[D5, (Value.bool true)]) w) w) w) w) w)) w)))) w) w))))))) w.drew) :
    Gives Try.prog 72 #[p0] w K := enter' Try.func72 (by kernel_rfl) (Eq.mp (congrArg (fun c => cCode Try.prog c (retK Try.prog Try.f72.results.toList K) (fun _ _ _ => False) (retK Try.prog Try.f72.results.toList K) [p0, undef, undef, undef, undef, undef, undef, undef, undef, undef, undef, undef, undef, undef, undef, undef, undef, undef, undef, undef, undef, undef, undef, undef, undef, undef, undef, undef] w) (by kernel_rfl : (cd Try.f72 []) = (cd Try.f72 []))) (frame_place_number_k h))
theorem frame_place_number_go : isGo Try.prog 72 := ⟨_, Try.func72, by kernel_rfl, by kernel_rfl⟩

def frame_place_record_A1 (K : KV) : KE := cCode Try.prog (cd Try.f68 [1, 1, 1, 1, 1, 1]) (retK Try.prog Try.f68.results.toList K) (fun _ _ _ => False) (retK Try.prog Try.f68.results.toList K)
theorem frame_place_record_k {K : KV} (xc0 : Code) {p0 : Value} {w : World}
    (h : nilC p0 (fun A9 w =>
    ld Try.prog 102 A9 (fun C0 w =>
    alc Try.prog 102 (fun q4 w =>
    sto Try.prog 102 q4 C0 (fun _t w =>
    call Try.prog 72 #[q4] (fun C2 w =>
    ext Try.prog C2 0 (fun C3 w =>
    ext Try.prog C2 1 (fun C4 w =>
    call Try.prog 72 #[q4] (fun C6 w =>
    ext Try.prog C6 0 (fun C7 w =>
    ext Try.prog C6 1 (fun C8 w =>
    un Try.prog UnOp.not C4 (fun D0 w =>
    gsel D0 false (fun k24 =>
    un Try.prog UnOp.not C8 (fun D3 w =>
    k24 [C8, D3] w) w)
    (fun k => k [undef, undef] w) (fun us24 w =>
    pick D0 (Value.bool true) (gd us24 1) (fun D4 w =>
    gsel D4 false (fun k28 =>
    bin Try.prog BinOp.gtr 106 false true C3 (Value.int IntKind.u32 4096) (fun D7 w =>
    k28 [C3, D7] w) w)
    (fun k => k [undef, undef] w) (fun us28 w =>
    pick D4 (Value.bool true) (gd us28 1) (fun D8 w =>
    gsel D8 false (fun k32 =>
    conv Try.prog 106 3 C3 (fun E1 w =>
    fldA Try.prog 102 q4 0 (fun E2 w =>
    ld Try.prog 29 E2 (fun E3 w =>
    blt Try.prog Builtin.len #[29] 3 #[false] #[E3] (fun E4 w =>
    fldA Try.prog 102 q4 1 (fun E5 w =>
    ld Try.prog 3 E5 (fun E6 w =>
    bin Try.prog BinOp.sub 3 false false E4 E6 (fun E7 w =>
    bin Try.prog BinOp.gtr 3 false false E1 E7 (fun E8 w =>
    k32 [C3, E1, E2, E3, E4, E5, E6, E7, E8] w) w) w) w) w) w) w) w) w)
    (fun k => k [undef, undef, undef, undef, undef, undef, undef, undef, undef] w) (fun us32 w =>
    pick D8 (Value.bool true) (gd us32 8) (fun E9 w =>
    cond E9
      (K (Value.tuple #[(Value.slice none 0 0), (Value.bool false)]) w)
      (fldA Try.prog 102 q4 0 (fun F0 w =>
    ld Try.prog 29 F0 (fun F1 w =>
    fldA Try.prog 102 q4 1 (fun F2 w =>
    ld Try.prog 3 F2 (fun F3 w =>
    slc Try.prog 29 F1 (some F3) none none (fun F4 w =>
    slc Try.prog 29 F4 none (some C3) none (fun F6 w =>
    (cCode Try.prog xc0 (retK Try.prog Try.f68.results.toList K) (fun _ _ _ => False) (retK Try.prog Try.f68.results.toList K)) (p0::undef::(Value.slice none 0 0)::(Value.bool false)::q4::C3::C4::C7::C8::F6::p0::A9::C0::C2::C2::C3::C4::C6::C6::C7::C8::C4::D0::D0::(gd us24 0)::(gd us24 1)::D4::D4::(gd us28 0)::(gd us28 1)::D8::D8::(gd us32 0)::(gd us32 1)::(gd us32 2)::(gd us32 3)::(gd us32 4)::(gd us32 5)::(gd us32 6)::(gd us32 7)::(gd us32 8)::E9::F0::F1::F2::F3::F4::C3::F6::undef::undef::undef::undef::undef::undef::undef::undef::undef::undef::undef::undef::undef::undef::undef::undef::undef::[]) w) w) w) w) w) w) w)) w)) w)) w)) w) w) w) w) w) w) w) w) w) w) w) :
    cCode Try.prog (rep [1, 1, 1, 1, 1, 1] xc0 (cd Try.f68 [])) (retK Try.prog Try.f68.results.toList K) (fun _ _ _ => False) (retK Try.prog Try.f68.results.toList K) (p0::undef::undef::undef::undef::undef::undef::undef::undef::undef::undef::undef::undef::undef::undef::undef::undef::undef::undef::undef::undef::undef::undef::undef::undef::undef::undef::undef::undef::undef::undef::undef::undef::undef::undef::undef::undef::undef::undef::undef::undef::undef::undef::undef::undef::undef::undef::undef::undef::undef::undef::undef::undef::undef::undef::undef::undef::undef::undef::undef::undef::undef::undef::undef::undef::undef::[]) w := Eq.mp (by kernel_rfl) h

theorem frame_place_record_in {K : KV} {p0 : Value} {w : World}
    (h : nilC p0 (fun A9 w =>
    ld Try.prog 102 A9 (fun C0 w =>
    alc Try.prog 102 (fun q4 w =>
    sto Try.prog 102 q4 C0 (fun _t w =>
    call Try.prog 72 #[q4] (fun C2 w =>
    ext Try.prog C2 0 (fun C3 w =>
    ext Try.prog C2 1 (fun C4 w =>
    call Try.prog 72 #[q4] (fun C6 w =>
    ext Try.prog C6 0 (fun C7 w =>
    ext Try.prog C6 1 (fun C8 w =>
    un Try.prog UnOp.not C4 (fun D0 w =>
    gsel D0 false (fun k24 =>
    un Try.prog UnOp.not C8 (fun D3 w =>
    k24 [C8, D3] w) w)
    (fun k => k [undef, undef] w) (fun us24 w =>
    pick D0 (Value.bool true) (gd us24 1) (fun D4 w =>
    gsel D4 false (fun k28 =>
    bin Try.prog BinOp.gtr 106 false true C3 (Value.int IntKind.u32 4096) (fun D7 w =>
    k28 [C3, D7] w) w)
    (fun k => k [undef, undef] w) (fun us28 w =>
    pick D4 (Value.bool true) (gd us28 1) (fun D8 w =>
    gsel D8 false (fun k32 =>
    conv Try.prog 106 3 C3 (fun E1 w =>
    fldA Try.prog 102 q4 0 (fun E2 w =>
    ld Try.prog 29 E2 (fun E3 w =>
    blt Try.prog Builtin.len #[29] 3 #[false] #[E3] (fun E4 w =>
    fldA Try.prog 102 q4 1 (fun E5 w =>
    ld Try.prog 3 E5 (fun E6 w =>
    bin Try.prog BinOp.sub 3 false false E4 E6 (fun E7 w =>
    bin Try.prog BinOp.gtr 3 false false E1 E7 (fun E8 w =>
    k32 [C3, E1, E2, E3, E4, E5, E6, E7, E8] w) w) w) w) w) w) w) w) w)
    (fun k => k [undef, undef, undef, undef, undef, undef, undef, undef, undef] w) (fun us32 w =>
    pick D8 (Value.bool true) (gd us32 8) (fun E9 w =>
    cond E9
      (K (Value.tuple #[(Value.slice none 0 0), (Value.bool false)]) w)
      (fldA Try.prog 102 q4 0 (fun F0 w =>
    ld Try.prog 29 F0 (fun F1 w =>
    fldA Try.prog 102 q4 1 (fun F2 w =>
    ld Try.prog 3 F2 (fun F3 w =>
    slc Try.prog 29 F1 (some F3) none none (fun F4 w =>
    slc Try.prog 29 F4 none (some C3) none (fun F6 w =>
    (frame_place_record_A1 K) (p0::undef::(Value.slice none 0 0)::(Value.bool false)::q4::C3::C4::C7::C8::F6::p0::A9::C0::C2::C2::C3::C4::C6::C6::C7::C8::C4::D0::D0::(gd us24 0)::(gd us24 1)::D4::D4::(gd us28 0)::(gd us28 1)::D8::D8::(gd us32 0)::(gd us32 1)::(gd us32 2)::(gd us32 3)::(gd us32 4)::(gd us32 5)::(gd us32 6)::(gd us32 7)::(gd us32 8)::E9::F0::F1::F2::F3::F4::C3::F6::undef::undef::undef::undef::undef::undef::undef::undef::undef::undef::undef::undef::undef::undef::undef::undef::undef::[]) w) w) w) w) w) w) w)) w)) w)) w)) w) w) w) w) w) w) w) w) w) w) w) :
    Gives Try.prog 68 #[p0] w K := enter' Try.func68 (by kernel_rfl) (Eq.mp (congrArg (fun c => cCode Try.prog c (retK Try.prog Try.f68.results.toList K) (fun _ _ _ => False) (retK Try.prog Try.f68.results.toList K) (p0::undef::undef::undef::undef::undef::undef::undef::undef::undef::undef::undef::undef::undef::undef::undef::undef::undef::undef::undef::undef::undef::undef::undef::undef::undef::undef::undef::undef::undef::undef::undef::undef::undef::undef::undef::undef::undef::undef::undef::undef::undef::undef::undef::undef::undef::undef::undef::undef::undef::undef::undef::undef::undef::undef::undef::undef::undef::undef::undef::undef::undef::undef::undef::undef::undef::[]) w) (by kernel_rfl : (rep [1, 1, 1, 1, 1, 1] (cd Try.f68 [1, 1, 1, 1, 1, 1]) (cd Try.f68 [])) = (cd Try.f68 []))) (frame_place_record_k (cd Try.f68 [1, 1, 1, 1, 1, 1]) h))
theorem frame_place_record_go : isGo Try.prog 68 := ⟨_, Try.func68, by kernel_rfl, by kernel_rfl⟩

section
variable {p0 p1 A0 A1 q4 size5 one6 sum7 two8 s9 A8 A9 C0 C1 C2 C3 C4 C5 C6 C7 C8 C9 D0 D1 D2 D3 D4 D5 D6 D7 D8 D9 E0 E1 E2 E3 E4 E5 E6 E7 E8 E9 F0 F1 F2 F3 F4 F5 F6 F7 F8 F9 G0 G1 G2 G3 G4 G5 G6 G7 G8 G9 H0 H1 H2 H3 : Value}
theorem frame_place_record_A1_k {K : KV} {w : World}
    (h : call Try.prog 69 #[size5] (fun F8 w =>
    call Try.prog 71 #[F8] (fun F9 w =>
    call Try.prog 70 #[F9, s9] (fun G1 w =>
    bin Try.prog BinOp.neq 106 false false G1 sum7 (fun G3 w =>
    cond G3
      (K (Value.tuple #[(Value.slice none 0 0), (Value.bool false)]) w)
      (fldA Try.prog 102 q4 1 (fun G5 w =>
    ld Try.prog 3 G5 (fun G6 w =>
    conv Try.prog 106 3 size5 (fun G8 w =>
    bin Try.prog BinOp.add 3 false false G6 G8 (fun G9 w =>
    nilC p0 (fun H0 w =>
    fldA Try.prog 102 H0 1 (fun H1 w =>
    sto Try.prog 3 H1 G9 (fun _t w =>
    call Try.prog 42 #[s9] (fun H3 w =>
    K (Value.tuple #[H3, (Value.bool true)]) w) w) w) w) w) w) w) w) w)) w) w) w) w) :
    cCode Try.prog (cd Try.f68 [1, 1, 1, 1, 1, 1]) (retK Try.prog Try.f68.results.toList K) (fun _ _ _ => False) (retK Try.prog Try.f68.results.toList K) (p0::p1::A0::A1::q4::size5::one6::sum7::two8::s9::A8::A9::C0::C1::C2::C3::C4::C5::C6::C7::C8::C9::D0::D1::D2::D3::D4::D5::D6::D7::D8::D9::E0::E1::E2::E3::E4::E5::E6::E7::E8::E9::F0::F1::F2::F3::F4::F5::F6::F7::F8::F9::G0::G1::G2::G3::G4::G5::G6::G7::G8::G9::H0::H1::H2::H3::[]) w := Eq.mp (by kernel_rfl) h

theorem frame_place_record_A1_r {K : KV} {w : World}
    (h : call Try.prog 69 #[size5] (fun F8 w =>
    call Try.prog 71 #[F8] (fun F9 w =>
    call Try.prog 70 #[F9, s9] (fun G1 w =>
    bin Try.prog BinOp.neq 106 false false G1 sum7 (fun G3 w =>
    cond G3
      (K (Value.tuple #[(Value.slice none 0 0), (Value.bool false)]) w)
      (fldA Try.prog 102 q4 1 (fun G5 w =>
    ld Try.prog 3 G5 (fun G6 w =>
    conv Try.prog 106 3 size5 (fun G8 w =>
    bin Try.prog BinOp.add 3 false false G6 G8 (fun G9 w =>
    nilC p0 (fun H0 w =>
    fldA Try.prog 102 H0 1 (fun H1 w =>
    sto Try.prog 3 H1 G9 (fun _t w =>
    call Try.prog 42 #[s9] (fun H3 w =>
    K (Value.tuple #[H3, (Value.bool true)]) w) w) w) w) w) w) w) w) w)) w) w) w) w) :
    frame_place_record_A1 K (p0::p1::A0::A1::q4::size5::one6::sum7::two8::s9::A8::A9::C0::C1::C2::C3::C4::C5::C6::C7::C8::C9::D0::D1::D2::D3::D4::D5::D6::D7::D8::D9::E0::E1::E2::E3::E4::E5::E6::E7::E8::E9::F0::F1::F2::F3::F4::F5::F6::F7::F8::F9::G0::G1::G2::G3::G4::G5::G6::G7::G8::G9::H0::H1::H2::H3::[]) w := by
  delta frame_place_record_A1
  exact Eq.mp (congrArg (fun c => cCode Try.prog c (retK Try.prog Try.f68.results.toList K) (fun _ _ _ => False) (retK Try.prog Try.f68.results.toList K) (p0::p1::A0::A1::q4::size5::one6::sum7::two8::s9::A8::A9::C0::C1::C2::C3::C4::C5::C6::C7::C8::C9::D0::D1::D2::D3::D4::D5::D6::D7::D8::D9::E0::E1::E2::E3::E4::E5::E6::E7::E8::E9::F0::F1::F2::F3::F4::F5::F6::F7::F8::F9::G0::G1::G2::G3::G4::G5::G6::G7::G8::G9::H0::H1::H2::H3::[]) w) (by kernel_rfl : (cd Try.f68 [1, 1, 1, 1, 1, 1]) = (cd Try.f68 [1, 1, 1, 1, 1, 1]))) (frame_place_record_A1_k h)
attribute [irreducible] frame_place_record_A1


end
theorem frame_New_k {K : KV} {b0 : Value} {w : World}
    (h : call Try.prog 42 #[b0] (fun A2 w =>
    bld Try.prog 102 #[(0, A2)] (fun A3 w =>
    bld Try.prog 104 #[(0, A3)] (fun A4 w =>
    box Try.prog 104 A4 (fun A5 w =>
    K A5 w) w) w) w) w) :
    cCode Try.prog (cd Try.f64 []) (retK Try.prog Try.f64.results.toList K) (fun _ _ _ => False) (retK Try.prog Try.f64.results.toList K) [b0, undef, undef, undef, undef, undef, undef, undef] w := Eq.mp (by kernel_rfl) h

theorem frame_New_in {K : KV} {b0 : Value} {w : World}
    (h : call Try.prog 42 #[b0] (fun A2 w =>
    bld Try.prog 102 #[(0, A2)] (fun A3 w =>
    bld Try.prog 104 #[(0, A3)] (fun A4 w =>
    box Try.prog 104 A4 (fun A5 w =>
    K A5 w) w) w) w) w) :
    Gives Try.prog 64 #[b0] w K := enter' Try.func64 (by kernel_rfl) (Eq.mp (congrArg (fun c => cCode Try.prog c (retK Try.prog Try.f64.results.toList K) (fun _ _ _ => False) (retK Try.prog Try.f64.results.toList K) [b0, undef, undef, undef, undef, undef, undef, undef] w) (by kernel_rfl : (cd Try.f64 []) = (cd Try.f64 []))) (frame_New_k h))
theorem frame_New_go : isGo Try.prog 64 := ⟨_, Try.func64, by kernel_rfl, by kernel_rfl⟩


theorem frame_Reader_Next_k {K : KV} {r0 : Value} {w : World}
    (h : bin Try.prog BinOp.eql 95 false true r0 (Value.pointer none) (fun A3 w =>
    cond A3
      (K (Value.tuple #[(Value.slice none 0 0), (Value.bool false)]) w)
      (nilC r0 (fun A5 w =>
    fldA Try.prog 104 A5 0 (fun A6 w =>
    call Try.prog 68 #[A6] (fun A7 w =>
    ext Try.prog A7 0 (fun A8 w =>
    ext Try.prog A7 1 (fun A9 w =>
    K (Value.tuple #[A8, A9]) w) w) w) w) w) w)) w) :
    cCode Try.prog (cd Try.f65 []) (retK Try.prog Try.f65.results.toList K) (fun _ _ _ => False) (retK Try.prog Try.f65.results.toList K) [r0, undef, undef, undef, undef, undef, undef, undef, undef, undef, undef, undef] w := Eq.mp (by kernel_rfl) h

theorem frame_Reader_Next_in {K : KV} {r0 : Value} {w : World}
    (h : bin Try.prog BinOp.eql 95 false true r0 (Value.pointer none) (fun A3 w =>
    cond A3
      (K (Value.tuple #[(Value.slice none 0 0), (Value.bool false)]) w)
      (nilC r0 (fun A5 w =>
    fldA Try.prog 104 A5 0 (fun A6 w =>
    call Try.prog 68 #[A6] (fun A7 w =>
    ext Try.prog A7 0 (fun A8 w =>
    ext Try.prog A7 1 (fun A9 w =>
    K (Value.tuple #[A8, A9]) w) w) w) w) w) w)) w) :
    Gives Try.prog 65 #[r0] w K := enter' Try.func65 (by kernel_rfl) (Eq.mp (congrArg (fun c => cCode Try.prog c (retK Try.prog Try.f65.results.toList K) (fun _ _ _ => False) (retK Try.prog Try.f65.results.toList K) [r0, undef, undef, undef, undef, undef, undef, undef, undef, undef, undef, undef] w) (by kernel_rfl : (cd Try.f65 []) = (cd Try.f65 []))) (frame_Reader_Next_k h))
theorem frame_Reader_Next_go : isGo Try.prog 65 := ⟨_, Try.func65, by kernel_rfl, by kernel_rfl⟩


theorem frame_Reader_At_k {K : KV} {r0 : Value} {w : World}
    (h : bin Try.prog BinOp.eql 95 false true r0 (Value.pointer none) (fun A2 w =>
    cond A2
      (K (Value.int IntKind.i64 0) w)
      (nilC r0 (fun A4 w =>
    fldA Try.prog 104 A4 0 (fun A5 w =>
    fldA Try.prog 102 A5 1 (fun A6 w =>
    ld Try.prog 3 A6 (fun A7 w =>
    K A7 w) w) w) w) w)) w) :
    cCode Try.prog (cd Try.f66 []) (retK Try.prog Try.f66.results.toList K) (fun _ _ _ => False) (retK Try.prog Try.f66.results.toList K) [r0, undef, undef, undef, undef, undef, undef, undef, undef, undef] w := Eq.mp (by kernel_rfl) h

theorem frame_Reader_At_in {K : KV} {r0 : Value} {w : World}
    (h : bin Try.prog BinOp.eql 95 false true r0 (Value.pointer none) (fun A2 w =>
    cond A2
      (K (Value.int IntKind.i64 0) w)
      (nilC r0 (fun A4 w =>
    fldA Try.prog 104 A4 0 (fun A5 w =>
    fldA Try.prog 102 A5 1 (fun A6 w =>
    ld Try.prog 3 A6 (fun A7 w =>
    K A7 w) w) w) w) w)) w) :
    Gives Try.prog 66 #[r0] w K := enter' Try.func66 (by kernel_rfl) (Eq.mp (congrArg (fun c => cCode Try.prog c (retK Try.prog Try.f66.results.toList K) (fun _ _ _ => False) (retK Try.prog Try.f66.results.toList K) [r0, undef, undef, undef, undef, undef, undef, undef, undef, undef] w) (by kernel_rfl : (cd Try.f66 []) = (cd Try.f66 []))) (frame_Reader_At_k h))
theorem frame_Reader_At_go : isGo Try.prog 66 := ⟨_, Try.func66, by kernel_rfl, by kernel_rfl⟩

def frame_All_L1 (K : KV) : KE := cCode Try.prog (cd Try.f44 [1, 1, 0]) (retK Try.prog Try.f44.results.toList K) (fun i => @Bool.rec (fun _ => KE) ((fun _ _ _ => False) i) (retK Try.prog Try.f44.results.toList K) (Nat.beq i 0)) (retK Try.prog Try.f44.results.toList K)
theorem frame_All_k {K : KV} {b0 : Value} {w : World}
    (h : call Try.prog 64 #[b0] (fun A6 w =>
    (cCode Try.prog (cd Try.f44 [1, 1, 0]) (retK Try.prog Try.f44.results.toList K) (fun i => @Bool.rec (fun _ => KE) ((fun _ _ _ => False) i) (retK Try.prog Try.f44.results.toList K) (Nat.beq i 0)) (retK Try.prog Try.f44.results.toList K)) [b0, undef, (Value.slice none 0 0), (Value.int IntKind.i64 0), A6, undef, undef, b0, A6, undef, undef, undef, undef, undef, undef, undef, undef, undef, undef, undef, undef, undef, undef] w) w) :
    cCode Try.prog (cd Try.f44 []) (retK Try.prog Try.f44.results.toList K) (fun _ _ _ => False) (retK Try.prog Try.f44.results.toList K) [b0, undef, undef, undef, undef, undef, undef, undef, undef, undef, undef, undef, undef, undef, undef, undef, undef, undef, undef, undef, undef, undef, undef] w := Eq.mp (by kernel_rfl) h

theorem frame_All_in {K : KV} {b0 : Value} {w : World}
    (h : call Try.prog 64 #[b0] (fun A6 w =>
    (frame_All_L1 K) [b0, undef, (Value.slice none 0 0), (Value.int IntKind.i64 0), A6, undef, undef, b0, A6, undef, undef, undef, undef, undef, undef, undef, undef, undef, undef, undef, undef, undef, undef] w) w) :
    Gives Try.prog 44 #[b0] w K := enter' Try.func44 (by kernel_rfl) (Eq.mp (congrArg (fun c => cCode Try.prog c (retK Try.prog Try.f44.results.toList K) (fun _ _ _ => False) (retK Try.prog Try.f44.results.toList K) [b0, undef, undef, undef, undef, undef, undef, undef, undef, undef, undef, undef, undef, undef, undef, undef, undef, undef, undef, undef, undef, undef, undef] w) (by kernel_rfl : (cd Try.f44 []) = (cd Try.f44 []))) (frame_All_k h))
theorem frame_All_go : isGo Try.prog 44 := ⟨_, Try.func44, by kernel_rfl, by kernel_rfl⟩

theorem frame_All_L1_k {K : KV} (B1 : KE) {b0 b1 l2' r4 A5 A6 : Value} {dd : Nat → Value} {w : World}
    (h : call Try.prog 65 #[r4] (fun A9 w =>
    ext Try.prog A9 0 (fun C0 w =>
    ext Try.prog A9 1 (fun C1 w =>
    un Try.prog UnOp.not C1 (fun C3 w =>
    cond C3
      (call Try.prog 66 #[r4] (fun C6 w =>
      K (Value.tuple #[l2', C6]) w) w)
      (bldS Try.prog 50 1 #[(0, C0)] (fun C9 w =>
    blt Try.prog Builtin.append #[50, 50] 50 #[false, false] #[l2', C9] (fun D0 w =>
    B1 [b0, b1, D0, (dd 3), r4, C0, C1, A5, A6, A9, r4, A9, C0, C1, C1, C3, (dd 16), (dd 17), (dd 18), l2', C0, C9, D0] w) w) w)) w) w) w) w) :
    cCode Try.prog (cd Try.f44 [1, 1, 0, 0]) B1 (fun i => @Bool.rec (fun _ => KE) ((fun _ _ _ => False) i) (retK Try.prog Try.f44.results.toList K) (Nat.beq i 0)) (retK Try.prog Try.f44.results.toList K) [b0, b1, l2', (dd 3), r4, (dd 5), (dd 6), A5, A6, (dd 9), (dd 10), (dd 11), (dd 12), (dd 13), (dd 14), (dd 15), (dd 16), (dd 17), (dd 18), (dd 19), (dd 20), (dd 21), (dd 22)] w := Eq.mp (by kernel_rfl) h

theorem frame_All_L1_r {K : KV} {b0 b1 l2 at3 r4 s5 is6 A5 A6 A7 A8 A9 C0 C1 C2 C3 C4 C5 C6 C7 C8 C9 D0 : Value} {w : World} (Inv : Value → World → Prop) (μ : Value → World → Nat) (h0 : Inv l2 w)
    (hs : ∀ (l2' : Value) (dd : Nat → Value) (w : World) (m : Nat), Inv l2' w → m = μ l2' w →
    call Try.prog 65 #[r4] (fun A9 w =>
    ext Try.prog A9 0 (fun C0 w =>
    ext Try.prog A9 1 (fun C1 w =>
    un Try.prog UnOp.not C1 (fun C3 w =>
    cond C3
      (call Try.prog 66 #[r4] (fun C6 w =>
      K (Value.tuple #[l2', C6]) w) w)
      (bldS Try.prog 50 1 #[(0, C0)] (fun C9 w =>
    blt Try.prog Builtin.append #[50, 50] 50 #[false, false] #[l2', C9] (fun D0 w =>
    (Inv D0 w ∧ μ D0 w < m)) w) w)) w) w) w) w) :
    frame_All_L1 K [b0, b1, l2, at3, r4, s5, is6, A5, A6, A7, A8, A9, C0, C1, C2, C3, C4, C5, C6, C7, C8, C9, D0] w := by
  refine loop_rule (cd Try.f44 [1, 1, 0, 0]) [2, 3, 5, 6, 9, 10, 11, 12, 13, 14, 15, 16, 17, 18, 19, 20, 21, 22] (by kernel_rfl) (fun e2 w2 => Inv (gd e2 2) w2) (fun e2 w2 => μ (gd e2 2) w2) h0 ?_
  intro e' w' hI
  have h := hs (gd e' 2) (fun i => gd e' i) w' _ hI rfl
  have h2 : cCode Try.prog (cd Try.f44 [1, 1, 0, 0]) (fun e2 w2 => Inv (gd e2 2) w2 ∧ μ (gd e2 2) w2 < μ (gd e' 2) w') (fun i => @Bool.rec (fun _ => KE) ((fun _ _ _ => False) i) (retK Try.prog Try.f44.results.toList K) (Nat.beq i 0)) (retK Try.prog Try.f44.results.toList K) [b0, b1, (gd e' 2), (gd e' 3), r4, (gd e' 5), (gd e' 6), A5, A6, (gd e' 9), (gd e' 10), (gd e' 11), (gd e' 12), (gd e' 13), (gd e' 14), (gd e' 15), (gd e' 16), (gd e' 17), (gd e' 18), (gd e' 19), (gd e' 20), (gd e' 21), (gd e' 22)] w' := frame_All_L1_k (fun e2 w2 => Inv (gd e2 2) w2 ∧ μ (gd e2 2) w2 < μ (gd e' 2) w') (Eq.mp (by kernel_rfl) h)
  exact Eq.mp (by kernel_rfl) h2
attribute [irreducible] frame_All_L1

end Go.Proofs.Ytjkmblbonambjaa
