/- Written by program (gen.py): what the code of some functions asks, part by part; each text is checked by the kernel against the translation. -/
import Derived.Test.YtjkmblbonambjaaSh
import Derived.Test.YtjkmblbonambjaaChecked
namespace Go.Proofs.Ytjkmblbonambjaa
open Go.RowKit
set_option maxRecDepth 100000

def octet_width_P1 (K : KV) : KE := cCode Try.prog (cd Try.f76 [1, 1, 1]) (retK Try.prog Try.f76.results.toList K) (fun _ _ _ => False) (retK Try.prog Try.f76.results.toList K)
def octet_width_A1 (K : KV) : KE := cCode Try.prog (cd Try.f76 [1, 1, 0, 1]) (octet_width_P1 K) (fun _ _ _ => False) (retK Try.prog Try.f76.results.toList K)
def octet_width_P2 (K : KV) : KE := cCode Try.prog (cd Try.f76 [1, 1, 0, 1, 0, 1]) (octet_width_P1 K) (fun i => @Bool.rec (fun _ => KE) ((fun _ _ _ => False) i) (octet_width_P1 K) (Nat.beq i 0)) (retK Try.prog Try.f76.results.toList K)
def octet_width_A2 (K : KV) : KE := cCode Try.prog (cd Try.f76 [1, 1, 0, 1, 0, 0]) (octet_width_P2 K) (fun i => @Bool.rec (fun _ => KE) ((fun _ _ _ => False) i) (octet_width_P1 K) (Nat.beq i 0)) (retK Try.prog Try.f76.results.toList K)
def octet_width_P3 (K : KV) : KE := cCode Try.prog (cd Try.f76 [1, 1, 0, 1, 0, 0, 0, 1]) (octet_width_P2 K) (fun i => @Bool.rec (fun _ => KE) ((fun i => @Bool.rec (fun _ => KE) ((fun _ _ _ => False) i) (octet_width_P1 K) (Nat.beq i 0)) i) (octet_width_P2 K) (Nat.beq i 4)) (retK Try.prog Try.f76.results.toList K)
def octet_width_A3 (K : KV) : KE := cCode Try.prog (cd Try.f76 [1, 1, 0, 1, 0, 0, 0, 0]) (octet_width_P3 K) (fun i => @Bool.rec (fun _ => KE) ((fun i => @Bool.rec (fun _ => KE) ((fun _ _ _ => False) i) (octet_width_P1 K) (Nat.beq i 0)) i) (octet_width_P2 K) (Nat.beq i 4)) (retK Try.prog Try.f76.results.toList K)
def octet_width_P4 (K : KV) : KE := cCode Try.prog (cd Try.f76 [1, 1, 0, 1, 0, 0, 0, 0, 0, 1]) (octet_width_P3 K) (fun i => @Bool.rec (fun _ => KE) ((fun i => @Bool.rec (fun _ => KE) ((fun i => @Bool.rec (fun _ => KE) ((fun _ _ _ => False) i) (octet_width_P1 K) (Nat.beq i 0)) i) (octet_width_P2 K) (Nat.beq i 4)) i) (octet_width_P3 K) (Nat.beq i 3)) (retK Try.prog Try.f76.results.toList K)
def octet_width_A4 (K : KV) : KE := cCode Try.prog (cd Try.f76 [1, 1, 0, 1, 0, 0, 0, 0, 0, 0]) (octet_width_P4 K) (fun i => @Bool.rec (fun _ => KE) ((fun i => @Bool.rec (fun _ => KE) ((fun i => @Bool.rec (fun _ => KE) ((fun _ _ _ => False) i) (octet_width_P1 K) (Nat.beq i 0)) i) (octet_width_P2 K) (Nat.beq i 4)) i) (octet_width_P3 K) (Nat.beq i 3)) (retK Try.prog Try.f76.results.toList K)
theorem octet_width_k {K : KV} (xc0 : Code) {size0 : Value} {w : World}
    (h : (cCode Try.prog xc0 (cCode Try.prog (cd Try.f76 [1, 1, 1]) (retK Try.prog Try.f76.results.toList K) (fun _ _ _ => False) (retK Try.prog Try.f76.results.toList K)) (fun _ _ _ => False) (retK Try.prog Try.f76.results.toList K)) [size0, undef, (Value.int IntKind.i64 0), (Value.int IntKind.i64 0), size0, undef, undef, undef, undef, undef, undef, undef, undef, undef, undef, undef, undef, undef, undef, undef, undef, undef] w) :
    cCode Try.prog (rep [1, 1, 0, 1] xc0 (cd Try.f76 [])) (retK Try.prog Try.f76.results.toList K) (fun _ _ _ => False) (retK Try.prog Try.f76.results.toList K) [size0, undef, undef, undef, undef, undef, undef, undef, undef, undef, undef, undef, undef, undef, undef, undef, undef, undef, undef, undef, undef, undef] w := Eq.mp (by kernel_rfl) h

theorem octet_width_in {K : KV} {size0 : Value} {w : World}
    (h : (octet_width_A1 K) [size0, undef, (Value.int IntKind.i64 0), (Value.int IntKind.i64 0), size0, undef, undef, undef, undef, undef, undef, undef, undef, undef, undef, undef, undef, undef, undef, undef, undef, undef] w) :
    Gives Try.prog 76 #[size0] w K := enter' Try.func76 (by kernel_rfl) (Eq.mp (congrArg (fun c => cCode Try.prog c (retK Try.prog Try.f76.results.toList K) (fun _ _ _ => False) (retK Try.prog Try.f76.results.toList K) [size0, undef, undef, undef, undef, undef, undef, undef, undef, undef, undef, undef, undef, undef, undef, undef, undef, undef, undef, undef, undef, undef] w) (by kernel_rfl : (rep [1, 1, 0, 1] (cd Try.f76 [1, 1, 0, 1]) (cd Try.f76 [])) = (cd Try.f76 []))) (octet_width_k (cd Try.f76 [1, 1, 0, 1]) h))
theorem octet_width_go : isGo Try.prog 76 := ⟨_, Try.func76, by kernel_rfl, by kernel_rfl⟩

theorem octet_width_A1_k {K : KV} (qc0 : KE) (xc0 : Code) {size0 size1 A0 bits3 A1 A2 A3 A4 A5 A6 A7 A8 A9 C0 C1 C2 C3 C4 C5 C6 C7 C8 : Value} {w : World}
    (h : (cCode Try.prog xc0 (cCode Try.prog (cd Try.f76 [1, 1, 0, 1, 0, 1]) qc0 (fun i => @Bool.rec (fun _ => KE) ((fun _ _ _ => False) i) qc0 (Nat.beq i 0)) (retK Try.prog Try.f76.results.toList K)) (fun i => @Bool.rec (fun _ => KE) ((fun _ _ _ => False) i) qc0 (Nat.beq i 0)) (retK Try.prog Try.f76.results.toList K)) [size0, size1, A0, bits3, A1, A2, A3, A4, A5, A6, A7, A8, A9, C0, C1, C2, C3, C4, C5, C6, C7, C8] w) :
    cCode Try.prog (rep [0, 0] xc0 (cd Try.f76 [1, 1, 0, 1])) qc0 (fun _ _ _ => False) (retK Try.prog Try.f76.results.toList K) [size0, size1, A0, bits3, A1, A2, A3, A4, A5, A6, A7, A8, A9, C0, C1, C2, C3, C4, C5, C6, C7, C8] w := Eq.mp (by kernel_rfl) h

theorem octet_width_A1_r {K : KV} {size0 size1 A0 bits3 A1 A2 A3 A4 A5 A6 A7 A8 A9 C0 C1 C2 C3 C4 C5 C6 C7 C8 : Value} {w : World}
    (h : (octet_width_A2 K) [size0, size1, A0, bits3, A1, A2, A3, A4, A5, A6, A7, A8, A9, C0, C1, C2, C3, C4, C5, C6, C7, C8] w) :
    octet_width_A1 K [size0, size1, A0, bits3, A1, A2, A3, A4, A5, A6, A7, A8, A9, C0, C1, C2, C3, C4, C5, C6, C7, C8] w := by
  delta octet_width_A1
  exact Eq.mp (congrArg (fun c => cCode Try.prog c (octet_width_P1 K) (fun _ _ _ => False) (retK Try.prog Try.f76.results.toList K) [size0, size1, A0, bits3, A1, A2, A3, A4, A5, A6, A7, A8, A9, C0, C1, C2, C3, C4, C5, C6, C7, C8] w) (by kernel_rfl : (rep [0, 0] (cd Try.f76 [1, 1, 0, 1, 0, 0]) (cd Try.f76 [1, 1, 0, 1])) = (cd Try.f76 [1, 1, 0, 1]))) (octet_width_A1_k (octet_width_P1 K) (cd Try.f76 [1, 1, 0, 1, 0, 0]) h)

theorem octet_width_A2_k {K : KV} (qc0 : KE) (qc1 : KE) (xc0 : Code) {size0 size1 A0 bits3 A1 A2 A3 A4 A5 A6 A7 A8 A9 C0 C1 C2 C3 C4 C5 C6 C7 C8 : Value} {w : World}
    (h : (cCode Try.prog xc0 (cCode Try.prog (cd Try.f76 [1, 1, 0, 1, 0, 0, 0, 1]) qc0 (fun i => @Bool.rec (fun _ => KE) ((fun i => @Bool.rec (fun _ => KE) ((fun _ _ _ => False) i) qc1 (Nat.beq i 0)) i) qc0 (Nat.beq i 4)) (retK Try.prog Try.f76.results.toList K)) (fun i => @Bool.rec (fun _ => KE) ((fun i => @Bool.rec (fun _ => KE) ((fun _ _ _ => False) i) qc1 (Nat.beq i 0)) i) qc0 (Nat.beq i 4)) (retK Try.prog Try.f76.results.toList K)) [size0, size1, A0, bits3, A1, A2, A3, A4, A5, A6, A7, A8, A9, C0, C1, C2, C3, C4, C5, C6, C7, C8] w) :
    cCode Try.prog (rep [0, 0] xc0 (cd Try.f76 [1, 1, 0, 1, 0, 0])) qc0 (fun i => @Bool.rec (fun _ => KE) ((fun _ _ _ => False) i) qc1 (Nat.beq i 0)) (retK Try.prog Try.f76.results.toList K) [size0, size1, A0, bits3, A1, A2, A3, A4, A5, A6, A7, A8, A9, C0, C1, C2, C3, C4, C5, C6, C7, C8] w := Eq.mp (by kernel_rfl) h

theorem octet_width_A2_r {K : KV} {size0 size1 A0 bits3 A1 A2 A3 A4 A5 A6 A7 A8 A9 C0 C1 C2 C3 C4 C5 C6 C7 C8 : Value} {w : World}
    (h : (octet_width_A3 K) [size0, size1, A0, bits3, A1, A2, A3, A4, A5, A6, A7, A8, A9, C0, C1, C2, C3, C4, C5, C6, C7, C8] w) :
    octet_width_A2 K [size0, size1, A0, bits3, A1, A2, A3, A4, A5, A6, A7, A8, A9, C0, C1, C2, C3, C4, C5, C6, C7, C8] w := by
  delta octet_width_A2
  exact Eq.mp (congrArg (fun c => cCode Try.prog c (octet_width_P2 K) (fun i => @Bool.rec (fun _ => KE) ((fun _ _ _ => False) i) (octet_width_P1 K) (Nat.beq i 0)) (retK Try.prog Try.f76.results.toList K) [size0, size1, A0, bits3, A1, A2, A3, A4, A5, A6, A7, A8, A9, C0, C1, C2, C3, C4, C5, C6, C7, C8] w) (by kernel_rfl : (rep [0, 0] (cd Try.f76 [1, 1, 0, 1, 0, 0, 0, 0]) (cd Try.f76 [1, 1, 0, 1, 0, 0])) = (cd Try.f76 [1, 1, 0, 1, 0, 0]))) (octet_width_A2_k (octet_width_P2 K) (octet_width_P1 K) (cd Try.f76 [1, 1, 0, 1, 0, 0, 0, 0]) h)

theorem octet_width_A3_k {K : KV} (qc0 : KE) (qc1 : KE) (qc2 : KE) (xc0 : Code) {size0 size1 A0 bits3 A1 A2 A3 A4 A5 A6 A7 A8 A9 C0 C1 C2 C3 C4 C5 C6 C7 C8 : Value} {w : World}
    (h : (cCode Try.prog xc0 (cCode Try.prog (cd Try.f76 [1, 1, 0, 1, 0, 0, 0, 0, 0, 1]) qc0 (fun i => @Bool.rec (fun _ => KE) ((fun i => @Bool.rec (fun _ => KE) ((fun i => @Bool.rec (fun _ => KE) ((fun _ _ _ => False) i) qc1 (Nat.beq i 0)) i) qc2 (Nat.beq i 4)) i) qc0 (Nat.beq i 3)) (retK Try.prog Try.f76.results.toList K)) (fun i => @Bool.rec (fun _ => KE) ((fun i => @Bool.rec (fun _ => KE) ((fun i => @Bool.rec (fun _ => KE) ((fun _ _ _ => False) i) qc1 (Nat.beq i 0)) i) qc2 (Nat.beq i 4)) i) qc0 (Nat.beq i 3)) (retK Try.prog Try.f76.results.toList K)) [size0, size1, A0, bits3, A1, A2, A3, A4, A5, A6, A7, A8, A9, C0, C1, C2, C3, C4, C5, C6, C7, C8] w) :
    cCode Try.prog (rep [0, 0] xc0 (cd Try.f76 [1, 1, 0, 1, 0, 0, 0, 0])) qc0 (fun i => @Bool.rec (fun _ => KE) ((fun i => @Bool.rec (fun _ => KE) ((fun _ _ _ => False) i) qc1 (Nat.beq i 0)) i) qc2 (Nat.beq i 4)) (retK Try.prog Try.f76.results.toList K) [size0, size1, A0, bits3, A1, A2, A3, A4, A5, A6, A7, A8, A9, C0, C1, C2, C3, C4, C5, C6, C7, C8] w := Eq.mp (by kernel_rfl) h

theorem octet_width_A3_r {K : KV} {size0 size1 A0 bits3 A1 A2 A3 A4 A5 A6 A7 A8 A9 C0 C1 C2 C3 C4 C5 C6 C7 C8 : Value} {w : World}
    (h : (octet_width_A4 K) [size0, size1, A0, bits3, A1, A2, A3, A4, A5, A6, A7, A8, A9, C0, C1, C2, C3, C4, C5, C6, C7, C8] w) :
    octet_width_A3 K [size0, size1, A0, bits3, A1, A2, A3, A4, A5, A6, A7, A8, A9, C0, C1, C2, C3, C4, C5, C6, C7, C8] w := by
  delta octet_width_A3
  exact Eq.mp (congrArg (fun c => cCode Try.prog c (octet_width_P3 K) (fun i => @Bool.rec (fun _ => KE) ((fun i => @Bool.rec (fun _ => KE) ((fun _ _ _ => False) i) (octet_width_P1 K) (Nat.beq i 0)) i) (octet_width_P2 K) (Nat.beq i 4)) (retK Try.prog Try.f76.results.toList K) [size0, size1, A0, bits3, A1, A2, A3, A4, A5, A6, A7, A8, A9, C0, C1, C2, C3, C4, C5, C6, C7, C8] w) (by kernel_rfl : (rep [0, 0] (cd Try.f76 [1, 1, 0, 1, 0, 0, 0, 0, 0, 0]) (cd Try.f76 [1, 1, 0, 1, 0, 0, 0, 0])) = (cd Try.f76 [1, 1, 0, 1, 0, 0, 0, 0]))) (octet_width_A3_k (octet_width_P3 K) (octet_width_P1 K) (octet_width_P2 K) (cd Try.f76 [1, 1, 0, 1, 0, 0, 0, 0, 0, 0]) h)

theorem octet_width_A4_k {K : KV} (qc0 : KE) (qc1 : KE) (qc2 : KE) (qc3 : KE) {size0 size1 A0 bits3 A1 A2 A3 A4 A5 A6 A7 A8 A9 C0 C1 C2 C3 C4 C5 C6 C7 C8 : Value} {w : World}
    (h : bin Try.prog BinOp.eql 3 false true A1 (Value.int IntKind.i64 8) (fun A3 w =>
    cond A3
      (bin Try.prog BinOp.add 3 false true bits3 (Value.int IntKind.i64 32) (fun C1 w =>
    qc0 [size0, size1, A0, C1, A1, A3, A3, A4, A5, A6, A7, A8, A9, bits3, C1, C2, C3, C4, C5, C6, C7, C8] w) w)
      (bin Try.prog BinOp.eql 3 false true A1 (Value.int IntKind.i64 4) (fun A5 w =>
    cond A5
      (qc0 [size0, size1, A0, bits3, A1, A3, A3, A5, A5, A6, A7, A8, A9, C0, C1, C2, C3, C4, C5, C6, C7, C8] w)
      (bin Try.prog BinOp.eql 3 false true A1 (Value.int IntKind.i64 2) (fun A7 w =>
    cond A7
      (qc3 [size0, size1, A0, bits3, A1, A3, A3, A5, A5, A7, A7, A8, A9, C0, C1, C2, C3, C4, C5, C6, C7, C8] w)
      (bin Try.prog BinOp.eql 3 false true A1 (Value.int IntKind.i64 1) (fun A9 w =>
    cond A9
      (qc2 [size0, size1, A0, bits3, A1, A3, A3, A5, A5, A7, A7, A9, A9, C0, C1, C2, C3, C4, C5, C6, C7, C8] w)
      (qc1 [size0, size1, A0, bits3, A1, A3, A3, A5, A5, A7, A7, A9, A9, C0, C1, C2, C3, C4, C5, C6, C7, C8] w)) w)) w)) w)) w) :
    cCode Try.prog (cd Try.f76 [1, 1, 0, 1, 0, 0, 0, 0, 0, 0]) qc0 (fun i => @Bool.rec (fun _ => KE) ((fun i => @Bool.rec (fun _ => KE) ((fun i => @Bool.rec (fun _ => KE) ((fun _ _ _ => False) i) qc1 (Nat.beq i 0)) i) qc2 (Nat.beq i 4)) i) qc3 (Nat.beq i 3)) (retK Try.prog Try.f76.results.toList K) [size0, size1, A0, bits3, A1, A2, A3, A4, A5, A6, A7, A8, A9, C0, C1, C2, C3, C4, C5, C6, C7, C8] w := Eq.mp (by kernel_rfl) h

theorem octet_width_A4_r {K : KV} {size0 size1 A0 bits3 A1 A2 A3 A4 A5 A6 A7 A8 A9 C0 C1 C2 C3 C4 C5 C6 C7 C8 : Value} {w : World}
    (h : bin Try.prog BinOp.eql 3 false true A1 (Value.int IntKind.i64 8) (fun A3 w =>
    cond A3
      (bin Try.prog BinOp.add 3 false true bits3 (Value.int IntKind.i64 32) (fun C1 w =>
    (octet_width_P4 K) [size0, size1, A0, C1, A1, A3, A3, A4, A5, A6, A7, A8, A9, bits3, C1, C2, C3, C4, C5, C6, C7, C8] w) w)
      (bin Try.prog BinOp.eql 3 false true A1 (Value.int IntKind.i64 4) (fun A5 w =>
    cond A5
      ((octet_width_P4 K) [size0, size1, A0, bits3, A1, A3, A3, A5, A5, A6, A7, A8, A9, C0, C1, C2, C3, C4, C5, C6, C7, C8] w)
      (bin Try.prog BinOp.eql 3 false true A1 (Value.int IntKind.i64 2) (fun A7 w =>
    cond A7
      ((octet_width_P3 K) [size0, size1, A0, bits3, A1, A3, A3, A5, A5, A7, A7, A8, A9, C0, C1, C2, C3, C4, C5, C6, C7, C8] w)
      (bin Try.prog BinOp.eql 3 false true A1 (Value.int IntKind.i64 1) (fun A9 w =>
    cond A9
      ((octet_width_P2 K) [size0, size1, A0, bits3, A1, A3, A3, A5, A5, A7, A7, A9, A9, C0, C1, C2, C3, C4, C5, C6, C7, C8] w)
      ((octet_width_P1 K) [size0, size1, A0, bits3, A1, A3, A3, A5, A5, A7, A7, A9, A9, C0, C1, C2, C3, C4, C5, C6, C7, C8] w)) w)) w)) w)) w) :
    octet_width_A4 K [size0, size1, A0, bits3, A1, A2, A3, A4, A5, A6, A7, A8, A9, C0, C1, C2, C3, C4, C5, C6, C7, C8] w := by
  delta octet_width_A4
  exact Eq.mp (congrArg (fun c => cCode Try.prog c (octet_width_P4 K) (fun i => @Bool.rec (fun _ => KE) ((fun i => @Bool.rec (fun _ => KE) ((fun i => @Bool.rec (fun _ => KE) ((fun _ _ _ => False) i) (octet_width_P1 K) (Nat.beq i 0)) i) (octet_width_P2 K) (Nat.beq i 4)) i) (octet_width_P3 K) (Nat.beq i 3)) (retK Try.prog Try.f76.results.toList K) [size0, size1, A0, bits3, A1, A2, A3, A4, A5, A6, A7, A8, A9, C0, C1, C2, C3, C4, C5, C6, C7, C8] w) (by kernel_rfl : (cd Try.f76 [1, 1, 0, 1, 0, 0, 0, 0, 0, 0]) = (cd Try.f76 [1, 1, 0, 1, 0, 0, 0, 0, 0, 0]))) (octet_width_A4_k (octet_width_P4 K) (octet_width_P1 K) (octet_width_P2 K) (octet_width_P3 K) h)

theorem octet_width_P4_k {K : KV} (qc0 : KE) (qc1 : KE) (qc2 : KE) {size0 size1 A0 bits3 A1 A2 A3 A4 A5 A6 A7 A8 A9 C0 C1 C2 C3 C4 C5 C6 C7 C8 : Value} {w : World}
    (h : bin Try.prog BinOp.add 3 false true bits3 (Value.int IntKind.i64 16) (fun C3 w =>
    qc0 [size0, size1, A0, C3, A1, A2, A3, A4, A5, A6, A7, A8, A9, C0, C1, bits3, C3, C4, C5, C6, C7, C8] w) w) :
    cCode Try.prog (cd Try.f76 [1, 1, 0, 1, 0, 0, 0, 0, 0, 1]) qc0 (fun i => @Bool.rec (fun _ => KE) ((fun i => @Bool.rec (fun _ => KE) ((fun i => @Bool.rec (fun _ => KE) ((fun _ _ _ => False) i) qc1 (Nat.beq i 0)) i) qc2 (Nat.beq i 4)) i) qc0 (Nat.beq i 3)) (retK Try.prog Try.f76.results.toList K) [size0, size1, A0, bits3, A1, A2, A3, A4, A5, A6, A7, A8, A9, C0, C1, C2, C3, C4, C5, C6, C7, C8] w := Eq.mp (by kernel_rfl) h

theorem octet_width_P4_r {K : KV} {size0 size1 A0 bits3 A1 A2 A3 A4 A5 A6 A7 A8 A9 C0 C1 C2 C3 C4 C5 C6 C7 C8 : Value} {w : World}
    (h : bin Try.prog BinOp.add 3 false true bits3 (Value.int IntKind.i64 16) (fun C3 w =>
    (octet_width_P3 K) [size0, size1, A0, C3, A1, A2, A3, A4, A5, A6, A7, A8, A9, C0, C1, bits3, C3, C4, C5, C6, C7, C8] w) w) :
    octet_width_P4 K [size0, size1, A0, bits3, A1, A2, A3, A4, A5, A6, A7, A8, A9, C0, C1, C2, C3, C4, C5, C6, C7, C8] w := by
  delta octet_width_P4
  exact Eq.mp (congrArg (fun c => cCode Try.prog c (octet_width_P3 K) (fun i => @Bool.rec (fun _ => KE) ((fun i => @Bool.rec (fun _ => KE) ((fun i => @Bool.rec (fun _ => KE) ((fun _ _ _ => False) i) (octet_width_P1 K) (Nat.beq i 0)) i) (octet_width_P2 K) (Nat.beq i 4)) i) (octet_width_P3 K) (Nat.beq i 3)) (retK Try.prog Try.f76.results.toList K) [size0, size1, A0, bits3, A1, A2, A3, A4, A5, A6, A7, A8, A9, C0, C1, C2, C3, C4, C5, C6, C7, C8] w) (by kernel_rfl : (cd Try.f76 [1, 1, 0, 1, 0, 0, 0, 0, 0, 1]) = (cd Try.f76 [1, 1, 0, 1, 0, 0, 0, 0, 0, 1]))) (octet_width_P4_k (octet_width_P3 K) (octet_width_P1 K) (octet_width_P2 K) h)

theorem octet_width_P3_k {K : KV} (qc0 : KE) (qc1 : KE) {size0 size1 A0 bits3 A1 A2 A3 A4 A5 A6 A7 A8 A9 C0 C1 C2 C3 C4 C5 C6 C7 C8 : Value} {w : World}
    (h : bin Try.prog BinOp.add 3 false true bits3 (Value.int IntKind.i64 8) (fun C5 w =>
    qc0 [size0, size1, A0, C5, A1, A2, A3, A4, A5, A6, A7, A8, A9, C0, C1, C2, C3, bits3, C5, C6, C7, C8] w) w) :
    cCode Try.prog (cd Try.f76 [1, 1, 0, 1, 0, 0, 0, 1]) qc0 (fun i => @Bool.rec (fun _ => KE) ((fun i => @Bool.rec (fun _ => KE) ((fun _ _ _ => False) i) qc1 (Nat.beq i 0)) i) qc0 (Nat.beq i 4)) (retK Try.prog Try.f76.results.toList K) [size0, size1, A0, bits3, A1, A2, A3, A4, A5, A6, A7, A8, A9, C0, C1, C2, C3, C4, C5, C6, C7, C8] w := Eq.mp (by kernel_rfl) h

theorem octet_width_P3_r {K : KV} {size0 size1 A0 bits3 A1 A2 A3 A4 A5 A6 A7 A8 A9 C0 C1 C2 C3 C4 C5 C6 C7 C8 : Value} {w : World}
    (h : bin Try.prog BinOp.add 3 false true bits3 (Value.int IntKind.i64 8) (fun C5 w =>
    (octet_width_P2 K) [size0, size1, A0, C5, A1, A2, A3, A4, A5, A6, A7, A8, A9, C0, C1, C2, C3, bits3, C5, C6, C7, C8] w) w) :
    octet_width_P3 K [size0, size1, A0, bits3, A1, A2, A3, A4, A5, A6, A7, A8, A9, C0, C1, C2, C3, C4, C5, C6, C7, C8] w := by
  delta octet_width_P3
  exact Eq.mp (congrArg (fun c => cCode Try.prog c (octet_width_P2 K) (fun i => @Bool.rec (fun _ => KE) ((fun i => @Bool.rec (fun _ => KE) ((fun _ _ _ => False) i) (octet_width_P1 K) (Nat.beq i 0)) i) (octet_width_P2 K) (Nat.beq i 4)) (retK Try.prog Try.f76.results.toList K) [size0, size1, A0, bits3, A1, A2, A3, A4, A5, A6, A7, A8, A9, C0, C1, C2, C3, C4, C5, C6, C7, C8] w) (by kernel_rfl : (cd Try.f76 [1, 1, 0, 1, 0, 0, 0, 1]) = (cd Try.f76 [1, 1, 0, 1, 0, 0, 0, 1]))) (octet_width_P3_k (octet_width_P2 K) (octet_width_P1 K) h)

theorem octet_width_P2_k {K : KV} (qc0 : KE) {size0 size1 A0 bits3 A1 A2 A3 A4 A5 A6 A7 A8 A9 C0 C1 C2 C3 C4 C5 C6 C7 C8 : Value} {w : World}
    (h : bin Try.prog BinOp.add 3 false true bits3 (Value.int IntKind.i64 8) (fun C7 w =>
    qc0 [size0, size1, A0, C7, A1, A2, A3, A4, A5, A6, A7, A8, A9, C0, C1, C2, C3, C4, C5, bits3, C7, C8] w) w) :
    cCode Try.prog (cd Try.f76 [1, 1, 0, 1, 0, 1]) qc0 (fun i => @Bool.rec (fun _ => KE) ((fun _ _ _ => False) i) qc0 (Nat.beq i 0)) (retK Try.prog Try.f76.results.toList K) [size0, size1, A0, bits3, A1, A2, A3, A4, A5, A6, A7, A8, A9, C0, C1, C2, C3, C4, C5, C6, C7, C8] w := Eq.mp (by kernel_rfl) h

theorem octet_width_P2_r {K : KV} {size0 size1 A0 bits3 A1 A2 A3 A4 A5 A6 A7 A8 A9 C0 C1 C2 C3 C4 C5 C6 C7 C8 : Value} {w : World}
    (h : bin Try.prog BinOp.add 3 false true bits3 (Value.int IntKind.i64 8) (fun C7 w =>
    (octet_width_P1 K) [size0, size1, A0, C7, A1, A2, A3, A4, A5, A6, A7, A8, A9, C0, C1, C2, C3, C4, C5, bits3, C7, C8] w) w) :
    octet_width_P2 K [size0, size1, A0, bits3, A1, A2, A3, A4, A5, A6, A7, A8, A9, C0, C1, C2, C3, C4, C5, C6, C7, C8] w := by
  delta octet_width_P2
  exact Eq.mp (congrArg (fun c => cCode Try.prog c (octet_width_P1 K) (fun i => @Bool.rec (fun _ => KE) ((fun _ _ _ => False) i) (octet_width_P1 K) (Nat.beq i 0)) (retK Try.prog Try.f76.results.toList K) [size0, size1, A0, bits3, A1, A2, A3, A4, A5, A6, A7, A8, A9, C0, C1, C2, C3, C4, C5, C6, C7, C8] w) (by kernel_rfl : (cd Try.f76 [1, 1, 0, 1, 0, 1]) = (cd Try.f76 [1, 1, 0, 1, 0, 1]))) (octet_width_P2_k (octet_width_P1 K) h)

theorem octet_width_P1_k {K : KV} {size0 size1 A0 bits3 A1 A2 A3 A4 A5 A6 A7 A8 A9 C0 C1 C2 C3 C4 C5 C6 C7 C8 : Value} {w : World}
    (h : K bits3 w) :
    cCode Try.prog (cd Try.f76 [1, 1, 1]) (retK Try.prog Try.f76.results.toList K) (fun _ _ _ => False) (retK Try.prog Try.f76.results.toList K) [size0, size1, A0, bits3, A1, A2, A3, A4, A5, A6, A7, A8, A9, C0, C1, C2, C3, C4, C5, C6, C7, C8] w := Eq.mp (by kernel_rfl) h

theorem octet_width_P1_r {K : KV} {size0 size1 A0 bits3 A1 A2 A3 A4 A5 A6 A7 A8 A9 C0 C1 C2 C3 C4 C5 C6 C7 C8 : Value} {w : World}
    (h : K bits3 w) :
    octet_width_P1 K [size0, size1, A0, bits3, A1, A2, A3, A4, A5, A6, A7, A8, A9, C0, C1, C2, C3, C4, C5, C6, C7, C8] w := by
  delta octet_width_P1
  exact Eq.mp (congrArg (fun c => cCode Try.prog c (retK Try.prog Try.f76.results.toList K) (fun _ _ _ => False) (retK Try.prog Try.f76.results.toList K) [size0, size1, A0, bits3, A1, A2, A3, A4, A5, A6, A7, A8, A9, C0, C1, C2, C3, C4, C5, C6, C7, C8] w) (by kernel_rfl : (cd Try.f76 [1, 1, 1]) = (cd Try.f76 [1, 1, 1]))) (octet_width_P1_k h)
attribute [irreducible] octet_width_P1 octet_width_A1 octet_width_P2 octet_width_A2 octet_width_P3 octet_width_A3 octet_width_P4 octet_width_A4

def octet_Put_A1 (K : KV) : KE := cCode Try.prog (cd Try.f73 [1, 1, 1, 1]) (retK Try.prog Try.f73.results.toList K) (fun _ _ _ => False) (retK Try.prog Try.f73.results.toList K)
def octet_Put_P1 (K : KV) : KE := cCode Try.prog (cd Try.f73 [1, 1, 1, 1, 1]) (retK Try.prog Try.f73.results.toList K) (fun _ _ _ => False) (retK Try.prog Try.f73.results.toList K)
def octet_Put_L1 (K : KV) : KE := cCode Try.prog (cd Try.f73 [1, 1, 1, 1, 0, 1, 0]) (octet_Put_P1 K) (fun i => @Bool.rec (fun _ => KE) ((fun _ _ _ => False) i) (octet_Put_P1 K) (Nat.beq i 1)) (retK Try.prog Try.f73.results.toList K)
theorem octet_Put_k {K : KV} (xc0 : Code) {b0 n1 size2 : Value} {w : World}
    (h : call Try.prog 76 #[size2] (fun A8 w =>
    bin Try.prog BinOp.eql 3 false true A8 (Value.int IntKind.i64 0) (fun C1 w =>
    cond C1
      (K (Value.tuple #[(Value.slice none 0 0), (Value.int IntKind.i64 1)]) w)
      (bin Try.prog BinOp.shr 113 false false n1 A8 (fun C5 w =>
      bin Try.prog BinOp.gtr 113 false true C5 (Value.int IntKind.u64 0) (fun C6 w =>
      cond C6
        (K (Value.tuple #[(Value.slice none 0 0), (Value.int IntKind.i64 6)]) w)
        (blt Try.prog Builtin.len #[29] 3 #[false] #[b0] (fun C8 w =>
    bin Try.prog BinOp.add 3 false false C8 size2 (fun D0 w =>
    mkS Try.prog 29 (Value.int IntKind.i64 0) D0 (fun D1 w =>
    blt Try.prog Builtin.append #[29, 29] 29 #[false, false] #[D1, b0] (fun D3 w =>
    (cCode Try.prog xc0 (retK Try.prog Try.f73.results.toList K) (fun _ _ _ => False) (retK Try.prog Try.f73.results.toList K)) [b0, n1, size2, undef, undef, undef, (Value.slice none 0 0), (Value.int IntKind.i64 0), A8, D3, size2, A8, C1, A8, C1, C6, n1, A8, C5, C6, b0, C8, size2, D0, D1, b0, D3, undef, undef, undef, undef, undef, undef, undef, undef, undef, undef, undef, undef, undef, undef] w) w) w) w) w)) w) w)) w) w) :
    cCode Try.prog (rep [1, 1, 1, 1] xc0 (cd Try.f73 [])) (retK Try.prog Try.f73.results.toList K) (fun _ _ _ => False) (retK Try.prog Try.f73.results.toList K) [b0, n1, size2, undef, undef, undef, undef, undef, undef, undef, undef, undef, undef, undef, undef, undef, undef, undef, undef, undef, undef, undef, undef, undef, undef, undef, undef, undef, undef, undef, undef, undef, undef, undef, undef, undef, undef, undef, undef, undef, undef] w := Eq.mp (by kernel_rfl) h

theorem octet_Put_in {K : KV} {b0 n1 size2 : Value} {w : World}
    (h : call Try.prog 76 #[size2] (fun A8 w =>
    bin Try.prog BinOp.eql 3 false true A8 (Value.int IntKind.i64 0) (fun C1 w =>
    cond C1
      (K (Value.tuple #[(Value.slice none 0 0), (Value.int IntKind.i64 1)]) w)
      (bin Try.prog BinOp.shr 113 false false n1 A8 (fun C5 w =>
      bin Try.prog BinOp.gtr 113 false true C5 (Value.int IntKind.u64 0) (fun C6 w =>
      cond C6
        (K (Value.tuple #[(Value.slice none 0 0), (Value.int IntKind.i64 6)]) w)
        (blt Try.prog Builtin.len #[29] 3 #[false] #[b0] (fun C8 w =>
    bin Try.prog BinOp.add 3 false false C8 size2 (fun D0 w =>
    mkS Try.prog 29 (Value.int IntKind.i64 0) D0 (fun D1 w =>
    blt Try.prog Builtin.append #[29, 29] 29 #[false, false] #[D1, b0] (fun D3 w =>
    (octet_Put_A1 K) [b0, n1, size2, undef, undef, undef, (Value.slice none 0 0), (Value.int IntKind.i64 0), A8, D3, size2, A8, C1, A8, C1, C6, n1, A8, C5, C6, b0, C8, size2, D0, D1, b0, D3, undef, undef, undef, undef, undef, undef, undef, undef, undef, undef, undef, undef, undef, undef] w) w) w) w) w)) w) w)) w) w) :
    Gives Try.prog 73 #[b0, n1, size2] w K := enter' Try.func73 (by kernel_rfl) (Eq.mp (congrArg (fun c => cCode Try.prog c (retK Try.prog Try.f73.results.toList K) (fun _ _ _ => False) (retK Try.prog Try.f73.results.toList K) [b0, n1, size2, undef, undef, undef, undef, undef, undef, undef, undef, undef, undef, undef, undef, undef, undef, undef, undef, undef, undef, undef, undef, undef, undef, undef, undef, undef, undef, undef, undef, undef, undef, undef, undef, undef, undef, undef, undef, undef, undef] w) (by kernel_rfl : (rep [1, 1, 1, 1] (cd Try.f73 [1, 1, 1, 1]) (cd Try.f73 [])) = (cd Try.f73 []))) (octet_Put_k (cd Try.f73 [1, 1, 1, 1]) h))
theorem octet_Put_go : isGo Try.prog 73 := ⟨_, Try.func73, by kernel_rfl, by kernel_rfl⟩

theorem octet_Put_A1_k {K : KV} {b0 n1 size2 b3 n4 size5 A3 A4 bits8 out9 A7 A8 A9 C0 C1 C2 C3 C4 C5 C6 C7 C8 C9 D0 D1 D2 D3 D4 D5 D6 D7 D8 D9 E0 E1 E2 E3 E4 E5 E6 E7 : Value} {w : World}
    (h : bin Try.prog BinOp.sub 3 false true bits8 (Value.int IntKind.i64 8) (fun D5 w =>
    (cCode Try.prog (cd Try.f73 [1, 1, 1, 1, 0, 1, 0]) (cCode Try.prog (cd Try.f73 [1, 1, 1, 1, 1]) (retK Try.prog Try.f73.results.toList K) (fun _ _ _ => False) (retK Try.prog Try.f73.results.toList K)) (fun i => @Bool.rec (fun _ => KE) ((fun _ _ _ => False) i) (cCode Try.prog (cd Try.f73 [1, 1, 1, 1, 1]) (retK Try.prog Try.f73.results.toList K) (fun _ _ _ => False) (retK Try.prog Try.f73.results.toList K)) (Nat.beq i 1)) (retK Try.prog Try.f73.results.toList K)) [b0, n1, size2, b3, n4, size5, A3, A4, D5, out9, A7, A8, A9, C0, C1, C2, C3, C4, C5, C6, C7, C8, C9, D0, D1, D2, D3, bits8, D5, D6, D7, D8, D9, E0, E1, E2, E3, E4, E5, E6, E7] w) w) :
    cCode Try.prog (cd Try.f73 [1, 1, 1, 1]) (retK Try.prog Try.f73.results.toList K) (fun _ _ _ => False) (retK Try.prog Try.f73.results.toList K) [b0, n1, size2, b3, n4, size5, A3, A4, bits8, out9, A7, A8, A9, C0, C1, C2, C3, C4, C5, C6, C7, C8, C9, D0, D1, D2, D3, D4, D5, D6, D7, D8, D9, E0, E1, E2, E3, E4, E5, E6, E7] w := Eq.mp (by kernel_rfl) h

theorem octet_Put_A1_r {K : KV} {b0 n1 size2 b3 n4 size5 A3 A4 bits8 out9 A7 A8 A9 C0 C1 C2 C3 C4 C5 C6 C7 C8 C9 D0 D1 D2 D3 D4 D5 D6 D7 D8 D9 E0 E1 E2 E3 E4 E5 E6 E7 : Value} {w : World}
    (h : bin Try.prog BinOp.sub 3 false true bits8 (Value.int IntKind.i64 8) (fun D5 w =>
    (octet_Put_L1 K) [b0, n1, size2, b3, n4, size5, A3, A4, D5, out9, A7, A8, A9, C0, C1, C2, C3, C4, C5, C6, C7, C8, C9, D0, D1, D2, D3, bits8, D5, D6, D7, D8, D9, E0, E1, E2, E3, E4, E5, E6, E7] w) w) :
    octet_Put_A1 K [b0, n1, size2, b3, n4, size5, A3, A4, bits8, out9, A7, A8, A9, C0, C1, C2, C3, C4, C5, C6, C7, C8, C9, D0, D1, D2, D3, D4, D5, D6, D7, D8, D9, E0, E1, E2, E3, E4, E5, E6, E7] w := by
  delta octet_Put_A1
  exact Eq.mp (congrArg (fun c => cCode Try.prog c (retK Try.prog Try.f73.results.toList K) (fun _ _ _ => False) (retK Try.prog Try.f73.results.toList K) [b0, n1, size2, b3, n4, size5, A3, A4, bits8, out9, A7, A8, A9, C0, C1, C2, C3, C4, C5, C6, C7, C8, C9, D0, D1, D2, D3, D4, D5, D6, D7, D8, D9, E0, E1, E2, E3, E4, E5, E6, E7] w) (by kernel_rfl : (cd Try.f73 [1, 1, 1, 1]) = (cd Try.f73 [1, 1, 1, 1]))) (octet_Put_A1_k h)

theorem octet_Put_L1_k {K : KV} (B1 : KE) (qc0 : KE) {b0 n1 size2 b3 n4 size5 A3 A4 bits8' out9' A7 A8 A9 C0 C1 C2 C3 C4 C5 C6 C7 C8 C9 D0 D1 D2 D3 D4 D5 E7 : Value} {dd : Nat → Value} {w : World}
    (h : bin Try.prog BinOp.geq 3 false true bits8' (Value.int IntKind.i64 0) (fun D7 w =>
    cond D7
      (bin Try.prog BinOp.shr 113 false false n1 bits8' (fun E3 w =>
    conv Try.prog 113 5 E3 (fun E4 w =>
    bldS Try.prog 29 1 #[(0, E4)] (fun E5 w =>
    blt Try.prog Builtin.append #[29, 29] 29 #[false, false] #[out9', E5] (fun E6 w =>
    bin Try.prog BinOp.sub 3 false true bits8' (Value.int IntKind.i64 8) (fun D9 w =>
    B1 [b0, n1, size2, b3, n4, size5, A3, A4, D9, E6, A7, A8, A9, C0, C1, C2, C3, C4, C5, C6, C7, C8, C9, D0, D1, D2, D3, D4, D5, bits8', D7, bits8', D9, out9', n1, bits8', E3, E4, E5, E6, E7] w) w) w) w) w) w)
      (qc0 [b0, n1, size2, b3, n4, size5, A3, A4, bits8', out9', A7, A8, A9, C0, C1, C2, C3, C4, C5, C6, C7, C8, C9, D0, D1, D2, D3, D4, D5, bits8', D7, (dd 31), (dd 32), (dd 33), (dd 34), (dd 35), (dd 36), (dd 37), (dd 38), (dd 39), E7] w)) w) :
    cCode Try.prog (cd Try.f73 [1, 1, 1, 1, 0, 1, 0, 0]) B1 (fun i => @Bool.rec (fun _ => KE) ((fun _ _ _ => False) i) qc0 (Nat.beq i 1)) (retK Try.prog Try.f73.results.toList K) [b0, n1, size2, b3, n4, size5, A3, A4, bits8', out9', A7, A8, A9, C0, C1, C2, C3, C4, C5, C6, C7, C8, C9, D0, D1, D2, D3, D4, D5, (dd 29), (dd 30), (dd 31), (dd 32), (dd 33), (dd 34), (dd 35), (dd 36), (dd 37), (dd 38), (dd 39), E7] w := Eq.mp (by kernel_rfl) h

theorem octet_Put_L1_r {K : KV} {b0 n1 size2 b3 n4 size5 A3 A4 bits8 out9 A7 A8 A9 C0 C1 C2 C3 C4 C5 C6 C7 C8 C9 D0 D1 D2 D3 D4 D5 D6 D7 D8 D9 E0 E1 E2 E3 E4 E5 E6 E7 : Value} {w : World} (Inv : Value → Value → World → Prop) (μ : Value → Value → World → Nat) (h0 : Inv bits8 out9 w)
    (hs : ∀ (bits8' out9' : Value) (dd : Nat → Value) (w : World) (m : Nat), Inv bits8' out9' w → m = μ bits8' out9' w →
    bin Try.prog BinOp.geq 3 false true bits8' (Value.int IntKind.i64 0) (fun D7 w =>
    cond D7
      (bin Try.prog BinOp.shr 113 false false n1 bits8' (fun E3 w =>
    conv Try.prog 113 5 E3 (fun E4 w =>
    bldS Try.prog 29 1 #[(0, E4)] (fun E5 w =>
    blt Try.prog Builtin.append #[29, 29] 29 #[false, false] #[out9', E5] (fun E6 w =>
    bin Try.prog BinOp.sub 3 false true bits8' (Value.int IntKind.i64 8) (fun D9 w =>
    (Inv D9 E6 w ∧ μ D9 E6 w < m)) w) w) w) w) w)
      ((octet_Put_P1 K) [b0, n1, size2, b3, n4, size5, A3, A4, bits8', out9', A7, A8, A9, C0, C1, C2, C3, C4, C5, C6, C7, C8, C9, D0, D1, D2, D3, D4, D5, bits8', D7, (dd 31), (dd 32), (dd 33), (dd 34), (dd 35), (dd 36), (dd 37), (dd 38), (dd 39), E7] w)) w) :
    octet_Put_L1 K [b0, n1, size2, b3, n4, size5, A3, A4, bits8, out9, A7, A8, A9, C0, C1, C2, C3, C4, C5, C6, C7, C8, C9, D0, D1, D2, D3, D4, D5, D6, D7, D8, D9, E0, E1, E2, E3, E4, E5, E6, E7] w := by
  refine loop_rule (cd Try.f73 [1, 1, 1, 1, 0, 1, 0, 0]) [8, 9, 29, 30, 31, 32, 33, 34, 35, 36, 37, 38, 39] (by kernel_rfl) (fun e2 w2 => Inv (gd e2 8) (gd e2 9) w2) (fun e2 w2 => μ (gd e2 8) (gd e2 9) w2) h0 ?_
  intro e' w' hI
  have h := hs (gd e' 8) (gd e' 9) (fun i => gd e' i) w' _ hI rfl
  have h2 : cCode Try.prog (cd Try.f73 [1, 1, 1, 1, 0, 1, 0, 0]) (fun e2 w2 => Inv (gd e2 8) (gd e2 9) w2 ∧ μ (gd e2 8) (gd e2 9) w2 < μ (gd e' 8) (gd e' 9) w') (fun i => @Bool.rec (fun _ => KE) ((fun _ _ _ => False) i) (octet_Put_P1 K) (Nat.beq i 1)) (retK Try.prog Try.f73.results.toList K) [b0, n1, size2, b3, n4, size5, A3, A4, (gd e' 8), (gd e' 9), A7, A8, A9, C0, C1, C2, C3, C4, C5, C6, C7, C8, C9, D0, D1, D2, D3, D4, D5, (gd e' 29), (gd e' 30), (gd e' 31), (gd e' 32), (gd e' 33), (gd e' 34), (gd e' 35), (gd e' 36), (gd e' 37), (gd e' 38), (gd e' 39), E7] w' := octet_Put_L1_k (fun e2 w2 => Inv (gd e2 8) (gd e2 9) w2 ∧ μ (gd e2 8) (gd e2 9) w2 < μ (gd e' 8) (gd e' 9) w') (octet_Put_P1 K) (Eq.mp (by kernel_rfl) h)
  exact Eq.mp (by kernel_rfl) h2

theorem octet_Put_P1_k {K : KV} {b0 n1 size2 b3 n4 size5 A3 A4 bits8 out9 A7 A8 A9 C0 C1 C2 C3 C4 C5 C6 C7 C8 C9 D0 D1 D2 D3 D4 D5 D6 D7 D8 D9 E0 E1 E2 E3 E4 E5 E6 E7 : Value} {w : World}
    (h : K (Value.tuple #[out9, (Value.int IntKind.i64 0)]) w) :
    cCode Try.prog (cd Try.f73 [1, 1, 1, 1, 1]) (retK Try.prog Try.f73.results.toList K) (fun _ _ _ => False) (retK Try.prog Try.f73.results.toList K) [b0, n1, size2, b3, n4, size5, A3, A4, bits8, out9, A7, A8, A9, C0, C1, C2, C3, C4, C5, C6, C7, C8, C9, D0, D1, D2, D3, D4, D5, D6, D7, D8, D9, E0, E1, E2, E3, E4, E5, E6, E7] w := Eq.mp (by kernel_rfl) h

theorem octet_Put_P1_r {K : KV} {b0 n1 size2 b3 n4 size5 A3 A4 bits8 out9 A7 A8 A9 C0 C1 C2 C3 C4 C5 C6 C7 C8 C9 D0 D1 D2 D3 D4 D5 D6 D7 D8 D9 E0 E1 E2 E3 E4 E5 E6 E7 : Value} {w : World}
    (h : K (Value.tuple #[out9, (Value.int IntKind.i64 0)]) w) :
    octet_Put_P1 K [b0, n1, size2, b3, n4, size5, A3, A4, bits8, out9, A7, A8, A9, C0, C1, C2, C3, C4, C5, C6, C7, C8, C9, D0, D1, D2, D3, D4, D5, D6, D7, D8, D9, E0, E1, E2, E3, E4, E5, E6, E7] w := by
  delta octet_Put_P1
  exact Eq.mp (congrArg (fun c => cCode Try.prog c (retK Try.prog Try.f73.results.toList K) (fun _ _ _ => False) (retK Try.prog Try.f73.results.toList K) [b0, n1, size2, b3, n4, size5, A3, A4, bits8, out9, A7, A8, A9, C0, C1, C2, C3, C4, C5, C6, C7, C8, C9, D0, D1, D2, D3, D4, D5, D6, D7, D8, D9, E0, E1, E2, E3, E4, E5, E6, E7] w) (by kernel_rfl : (cd Try.f73 [1, 1, 1, 1, 1]) = (cd Try.f73 [1, 1, 1, 1, 1]))) (octet_Put_P1_k h)
attribute [irreducible] octet_Put_A1 octet_Put_P1 octet_Put_L1

def octet_Take_P1 (K : KV) : KE := cCode Try.prog (cd Try.f75 [1, 1]) (retK Try.prog Try.f75.results.toList K) (fun _ _ _ => False) (retK Try.prog Try.f75.results.toList K)
def octet_Take_P2 (K : KV) : KE := cCode Try.prog (cd Try.f75 [1, 0, 0, 1]) (octet_Take_P1 K) (fun i => @Bool.rec (fun _ => KE) ((fun _ _ _ => False) i) (octet_Take_P1 K) (Nat.beq i 0)) (retK Try.prog Try.f75.results.toList K)
def octet_Take_A1 (K : KV) : KE := cCode Try.prog (cd Try.f75 [1, 0, 0, 0, 1]) (octet_Take_P2 K) (fun i => @Bool.rec (fun _ => KE) ((fun _ _ _ => False) i) (octet_Take_P1 K) (Nat.beq i 0)) (retK Try.prog Try.f75.results.toList K)
def octet_Take_P3 (K : KV) : KE := cCode Try.prog (cd Try.f75 [1, 1, 1, 1]) (retK Try.prog Try.f75.results.toList K) (fun _ _ _ => False) (retK Try.prog Try.f75.results.toList K)
def octet_Take_L1 (K : KV) : KE := cCode Try.prog (cd Try.f75 [1, 1, 1, 0, 1, 0]) (octet_Take_P3 K) (fun i => @Bool.rec (fun _ => KE) ((fun _ _ _ => False) i) (octet_Take_P3 K) (Nat.beq i 1)) (retK Try.prog Try.f75.results.toList K)
theorem octet_Take_k {K : KV} (xc0 : Code) {b0 at1 size2 : Value} {w : World}
    (h : call Try.prog 76 #[size2] (fun C0 w =>
    bin Try.prog BinOp.eql 3 false true C0 (Value.int IntKind.i64 0) (fun C1 w =>
    (cCode Try.prog xc0 (cCode Try.prog (cd Try.f75 [1, 0, 0, 1]) (cCode Try.prog (cd Try.f75 [1, 1]) (retK Try.prog Try.f75.results.toList K) (fun _ _ _ => False) (retK Try.prog Try.f75.results.toList K)) (fun i => @Bool.rec (fun _ => KE) ((fun _ _ _ => False) i) (cCode Try.prog (cd Try.f75 [1, 1]) (retK Try.prog Try.f75.results.toList K) (fun _ _ _ => False) (retK Try.prog Try.f75.results.toList K)) (Nat.beq i 0)) (retK Try.prog Try.f75.results.toList K)) (fun i => @Bool.rec (fun _ => KE) ((fun _ _ _ => False) i) (cCode Try.prog (cd Try.f75 [1, 1]) (retK Try.prog Try.f75.results.toList K) (fun _ _ _ => False) (retK Try.prog Try.f75.results.toList K)) (Nat.beq i 0)) (retK Try.prog Try.f75.results.toList K)) (b0::at1::size2::undef::undef::undef::(Value.int IntKind.u64 0)::(Value.int IntKind.i64 0)::(Value.int IntKind.i64 0)::undef::undef::C1::size2::C0::C1::undef::undef::undef::undef::undef::undef::undef::undef::undef::undef::undef::undef::undef::undef::undef::undef::undef::undef::undef::undef::undef::undef::undef::undef::undef::undef::undef::undef::undef::undef::undef::undef::undef::[]) w) w) w) :
    cCode Try.prog (rep [1, 0, 0, 0, 1] xc0 (cd Try.f75 [])) (retK Try.prog Try.f75.results.toList K) (fun _ _ _ => False) (retK Try.prog Try.f75.results.toList K) (b0::at1::size2::undef::undef::undef::undef::undef::undef::undef::undef::undef::undef::undef::undef::undef::undef::undef::undef::undef::undef::undef::undef::undef::undef::undef::undef::undef::undef::undef::undef::undef::undef::undef::undef::undef::undef::undef::undef::undef::undef::undef::undef::undef::undef::undef::undef::undef::[]) w := Eq.mp (by kernel_rfl) h

theorem octet_Take_in {K : KV} {b0 at1 size2 : Value} {w : World}
    (h : call Try.prog 76 #[size2] (fun C0 w =>
    bin Try.prog BinOp.eql 3 false true C0 (Value.int IntKind.i64 0) (fun C1 w =>
    (octet_Take_A1 K) (b0::at1::size2::undef::undef::undef::(Value.int IntKind.u64 0)::(Value.int IntKind.i64 0)::(Value.int IntKind.i64 0)::undef::undef::C1::size2::C0::C1::undef::undef::undef::undef::undef::undef::undef::undef::undef::undef::undef::undef::undef::undef::undef::undef::undef::undef::undef::undef::undef::undef::undef::undef::undef::undef::undef::undef::undef::undef::undef::undef::undef::[]) w) w) w) :
    Gives Try.prog 75 #[b0, at1, size2] w K := enter' Try.func75 (by kernel_rfl) (Eq.mp (congrArg (fun c => cCode Try.prog c (retK Try.prog Try.f75.results.toList K) (fun _ _ _ => False) (retK Try.prog Try.f75.results.toList K) (b0::at1::size2::undef::undef::undef::undef::undef::undef::undef::undef::undef::undef::undef::undef::undef::undef::undef::undef::undef::undef::undef::undef::undef::undef::undef::undef::undef::undef::undef::undef::undef::undef::undef::undef::undef::undef::undef::undef::undef::undef::undef::undef::undef::undef::undef::undef::undef::[]) w) (by kernel_rfl : (rep [1, 0, 0, 0, 1] (cd Try.f75 [1, 0, 0, 0, 1]) (cd Try.f75 [])) = (cd Try.f75 []))) (octet_Take_k (cd Try.f75 [1, 0, 0, 0, 1]) h))
theorem octet_Take_go : isGo Try.prog 75 := ⟨_, Try.func75, by kernel_rfl, by kernel_rfl⟩

section
variable {b0 at1 size2 b3 at4 size5 n6 next7 e8 A6 c10 A8 A9 C0 C1 C2 C3 C4 C5 C6 C7 C8 C9 D0 D1 D2 D3 D4 D5 D6 D7 D8 D9 E0 E1 E2 E3 E4 E5 E6 E7 E8 E9 F0 F1 F2 F3 F4 : Value}
theorem octet_Take_A1_k {K : KV} (qc0 : KE) (qc1 : KE) {w : World}
    (h : cond A8
      (qc0 (b0::at1::size2::b3::at4::size5::n6::next7::e8::A6::c10::A8::A9::C0::C1::C2::C3::C4::C5::C6::C7::C8::C9::D0::D1::D2::D3::D4::D5::D6::D7::D8::D9::E0::E1::E2::E3::E4::E5::E6::E7::E8::E9::F0::F1::F2::F3::F4::[]) w)
      (bin Try.prog BinOp.lss 3 false true at1 (Value.int IntKind.i64 0) (fun C3 w =>
      cond C3
        (qc0 (b0::at1::size2::b3::at4::size5::n6::next7::e8::A6::c10::C3::A9::C0::C1::at1::C3::C4::C5::C6::C7::C8::C9::D0::D1::D2::D3::D4::D5::D6::D7::D8::D9::E0::E1::E2::E3::E4::E5::E6::E7::E8::E9::F0::F1::F2::F3::F4::[]) w)
        (blt Try.prog Builtin.len #[29] 3 #[false] #[b0] (fun C6 w =>
        bin Try.prog BinOp.gtr 3 false false at1 C6 (fun C7 w =>
        qc0 (b0::at1::size2::b3::at4::size5::n6::next7::e8::A6::c10::C7::A9::C0::C1::at1::C3::at1::b0::C6::C7::C8::C9::D0::D1::D2::D3::D4::D5::D6::D7::D8::D9::E0::E1::E2::E3::E4::E5::E6::E7::E8::E9::F0::F1::F2::F3::F4::[]) w) w) w)) w)) :
    cCode Try.prog (cd Try.f75 [1, 0, 0, 0, 1]) qc0 (fun i => @Bool.rec (fun _ => KE) ((fun _ _ _ => False) i) qc1 (Nat.beq i 0)) (retK Try.prog Try.f75.results.toList K) (b0::at1::size2::b3::at4::size5::n6::next7::e8::A6::c10::A8::A9::C0::C1::C2::C3::C4::C5::C6::C7::C8::C9::D0::D1::D2::D3::D4::D5::D6::D7::D8::D9::E0::E1::E2::E3::E4::E5::E6::E7::E8::E9::F0::F1::F2::F3::F4::[]) w := Eq.mp (by kernel_rfl) h

theorem octet_Take_A1_r {K : KV} {w : World}
    (h : cond A8
      ((octet_Take_P2 K) (b0::at1::size2::b3::at4::size5::n6::next7::e8::A6::c10::A8::A9::C0::C1::C2::C3::C4::C5::C6::C7::C8::C9::D0::D1::D2::D3::D4::D5::D6::D7::D8::D9::E0::E1::E2::E3::E4::E5::E6::E7::E8::E9::F0::F1::F2::F3::F4::[]) w)
      (bin Try.prog BinOp.lss 3 false true at1 (Value.int IntKind.i64 0) (fun C3 w =>
      cond C3
        ((octet_Take_P2 K) (b0::at1::size2::b3::at4::size5::n6::next7::e8::A6::c10::C3::A9::C0::C1::at1::C3::C4::C5::C6::C7::C8::C9::D0::D1::D2::D3::D4::D5::D6::D7::D8::D9::E0::E1::E2::E3::E4::E5::E6::E7::E8::E9::F0::F1::F2::F3::F4::[]) w)
        (blt Try.prog Builtin.len #[29] 3 #[false] #[b0] (fun C6 w =>
        bin Try.prog BinOp.gtr 3 false false at1 C6 (fun C7 w =>
        (octet_Take_P2 K) (b0::at1::size2::b3::at4::size5::n6::next7::e8::A6::c10::C7::A9::C0::C1::at1::C3::at1::b0::C6::C7::C8::C9::D0::D1::D2::D3::D4::D5::D6::D7::D8::D9::E0::E1::E2::E3::E4::E5::E6::E7::E8::E9::F0::F1::F2::F3::F4::[]) w) w) w)) w)) :
    octet_Take_A1 K (b0::at1::size2::b3::at4::size5::n6::next7::e8::A6::c10::A8::A9::C0::C1::C2::C3::C4::C5::C6::C7::C8::C9::D0::D1::D2::D3::D4::D5::D6::D7::D8::D9::E0::E1::E2::E3::E4::E5::E6::E7::E8::E9::F0::F1::F2::F3::F4::[]) w := by
  delta octet_Take_A1
  exact Eq.mp (congrArg (fun c => cCode Try.prog c (octet_Take_P2 K) (fun i => @Bool.rec (fun _ => KE) ((fun _ _ _ => False) i) (octet_Take_P1 K) (Nat.beq i 0)) (retK Try.prog Try.f75.results.toList K) (b0::at1::size2::b3::at4::size5::n6::next7::e8::A6::c10::A8::A9::C0::C1::C2::C3::C4::C5::C6::C7::C8::C9::D0::D1::D2::D3::D4::D5::D6::D7::D8::D9::E0::E1::E2::E3::E4::E5::E6::E7::E8::E9::F0::F1::F2::F3::F4::[]) w) (by kernel_rfl : (cd Try.f75 [1, 0, 0, 0, 1]) = (cd Try.f75 [1, 0, 0, 0, 1]))) (octet_Take_A1_k (octet_Take_P2 K) (octet_Take_P1 K) h)

theorem octet_Take_P2_k {K : KV} (qc0 : KE) {w : World}
    (h : cond A8
      (K (Value.tuple #[(Value.int IntKind.u64 0), (Value.int IntKind.i64 0), (Value.int IntKind.i64 1)]) w)
      (blt Try.prog Builtin.len #[29] 3 #[false] #[b0] (fun D0 w =>
      bin Try.prog BinOp.sub 3 false false D0 at1 (fun D2 w =>
      bin Try.prog BinOp.lss 3 false false D2 size2 (fun D4 w =>
      cond D4
        (K (Value.tuple #[(Value.int IntKind.u64 0), (Value.int IntKind.i64 0), (Value.int IntKind.i64 5)]) w)
        (qc0 (b0::at1::size2::b3::at4::size5::n6::next7::e8::A6::c10::A8::A9::C0::C1::C2::C3::C4::C5::C6::C7::D4::b0::D0::at1::D2::size2::D4::D5::D6::D7::D8::D9::E0::E1::E2::E3::E4::E5::E6::E7::E8::E9::F0::F1::F2::F3::F4::[]) w)) w) w) w)) :
    cCode Try.prog (cd Try.f75 [1, 0, 0, 1]) qc0 (fun i => @Bool.rec (fun _ => KE) ((fun _ _ _ => False) i) qc0 (Nat.beq i 0)) (retK Try.prog Try.f75.results.toList K) (b0::at1::size2::b3::at4::size5::n6::next7::e8::A6::c10::A8::A9::C0::C1::C2::C3::C4::C5::C6::C7::C8::C9::D0::D1::D2::D3::D4::D5::D6::D7::D8::D9::E0::E1::E2::E3::E4::E5::E6::E7::E8::E9::F0::F1::F2::F3::F4::[]) w := Eq.mp (by kernel_rfl) h

theorem octet_Take_P2_r {K : KV} {w : World}
    (h : cond A8
      (K (Value.tuple #[(Value.int IntKind.u64 0), (Value.int IntKind.i64 0), (Value.int IntKind.i64 1)]) w)
      (blt Try.prog Builtin.len #[29] 3 #[false] #[b0] (fun D0 w =>
      bin Try.prog BinOp.sub 3 false false D0 at1 (fun D2 w =>
      bin Try.prog BinOp.lss 3 false false D2 size2 (fun D4 w =>
      cond D4
        (K (Value.tuple #[(Value.int IntKind.u64 0), (Value.int IntKind.i64 0), (Value.int IntKind.i64 5)]) w)
        ((octet_Take_P1 K) (b0::at1::size2::b3::at4::size5::n6::next7::e8::A6::c10::A8::A9::C0::C1::C2::C3::C4::C5::C6::C7::D4::b0::D0::at1::D2::size2::D4::D5::D6::D7::D8::D9::E0::E1::E2::E3::E4::E5::E6::E7::E8::E9::F0::F1::F2::F3::F4::[]) w)) w) w) w)) :
    octet_Take_P2 K (b0::at1::size2::b3::at4::size5::n6::next7::e8::A6::c10::A8::A9::C0::C1::C2::C3::C4::C5::C6::C7::C8::C9::D0::D1::D2::D3::D4::D5::D6::D7::D8::D9::E0::E1::E2::E3::E4::E5::E6::E7::E8::E9::F0::F1::F2::F3::F4::[]) w := by
  delta octet_Take_P2
  exact Eq.mp (congrArg (fun c => cCode Try.prog c (octet_Take_P1 K) (fun i => @Bool.rec (fun _ => KE) ((fun _ _ _ => False) i) (octet_Take_P1 K) (Nat.beq i 0)) (retK Try.prog Try.f75.results.toList K) (b0::at1::size2::b3::at4::size5::n6::next7::e8::A6::c10::A8::A9::C0::C1::C2::C3::C4::C5::C6::C7::C8::C9::D0::D1::D2::D3::D4::D5::D6::D7::D8::D9::E0::E1::E2::E3::E4::E5::E6::E7::E8::E9::F0::F1::F2::F3::F4::[]) w) (by kernel_rfl : (cd Try.f75 [1, 0, 0, 1]) = (cd Try.f75 [1, 0, 0, 1]))) (octet_Take_P2_k (octet_Take_P1 K) h)

theorem octet_Take_P1_k {K : KV} {w : World}
    (h : bin Try.prog BinOp.add 3 false false at1 size2 (fun D7 w =>
    slc Try.prog 29 b0 (some at1) (some D7) none (fun E1 w =>
    blt Try.prog Builtin.len #[29] 3 #[false] #[E1] (fun E2 w =>
    (cCode Try.prog (cd Try.f75 [1, 1, 1, 0, 1, 0]) (cCode Try.prog (cd Try.f75 [1, 1, 1, 1]) (retK Try.prog Try.f75.results.toList K) (fun _ _ _ => False) (retK Try.prog Try.f75.results.toList K)) (fun i => @Bool.rec (fun _ => KE) ((fun _ _ _ => False) i) (cCode Try.prog (cd Try.f75 [1, 1, 1, 1]) (retK Try.prog Try.f75.results.toList K) (fun _ _ _ => False) (retK Try.prog Try.f75.results.toList K)) (Nat.beq i 1)) (retK Try.prog Try.f75.results.toList K)) (b0::at1::size2::b3::at4::size5::n6::D7::e8::A6::c10::A8::A9::C0::C1::C2::C3::C4::C5::C6::C7::C8::C9::D0::D1::D2::D3::D4::at1::size2::D7::b0::at1::D7::E1::E2::(Value.int IntKind.i64 0)::E4::E5::E6::E7::E8::E9::F0::F1::F2::F3::F4::[]) w) w) w) w) :
    cCode Try.prog (cd Try.f75 [1, 1]) (retK Try.prog Try.f75.results.toList K) (fun _ _ _ => False) (retK Try.prog Try.f75.results.toList K) (b0::at1::size2::b3::at4::size5::n6::next7::e8::A6::c10::A8::A9::C0::C1::C2::C3::C4::C5::C6::C7::C8::C9::D0::D1::D2::D3::D4::D5::D6::D7::D8::D9::E0::E1::E2::E3::E4::E5::E6::E7::E8::E9::F0::F1::F2::F3::F4::[]) w := Eq.mp (by kernel_rfl) h

theorem octet_Take_P1_r {K : KV} {w : World}
    (h : bin Try.prog BinOp.add 3 false false at1 size2 (fun D7 w =>
    slc Try.prog 29 b0 (some at1) (some D7) none (fun E1 w =>
    blt Try.prog Builtin.len #[29] 3 #[false] #[E1] (fun E2 w =>
    (octet_Take_L1 K) (b0::at1::size2::b3::at4::size5::n6::D7::e8::A6::c10::A8::A9::C0::C1::C2::C3::C4::C5::C6::C7::C8::C9::D0::D1::D2::D3::D4::at1::size2::D7::b0::at1::D7::E1::E2::(Value.int IntKind.i64 0)::E4::E5::E6::E7::E8::E9::F0::F1::F2::F3::F4::[]) w) w) w) w) :
    octet_Take_P1 K (b0::at1::size2::b3::at4::size5::n6::next7::e8::A6::c10::A8::A9::C0::C1::C2::C3::C4::C5::C6::C7::C8::C9::D0::D1::D2::D3::D4::D5::D6::D7::D8::D9::E0::E1::E2::E3::E4::E5::E6::E7::E8::E9::F0::F1::F2::F3::F4::[]) w := by
  delta octet_Take_P1
  exact Eq.mp (congrArg (fun c => cCode Try.prog c (retK Try.prog Try.f75.results.toList K) (fun _ _ _ => False) (retK Try.prog Try.f75.results.toList K) (b0::at1::size2::b3::at4::size5::n6::next7::e8::A6::c10::A8::A9::C0::C1::C2::C3::C4::C5::C6::C7::C8::C9::D0::D1::D2::D3::D4::D5::D6::D7::D8::D9::E0::E1::E2::E3::E4::E5::E6::E7::E8::E9::F0::F1::F2::F3::F4::[]) w) (by kernel_rfl : (cd Try.f75 [1, 1]) = (cd Try.f75 [1, 1]))) (octet_Take_P1_k h)

end
theorem octet_Take_L1_k {K : KV} (B1 : KE) (qc0 : KE) {b0 at1 size2 b3 at4 size5 n6' next7 e8 A6 A8 A9 C0 C1 C2 C3 C4 C5 C6 C7 C8 C9 D0 D1 D2 D3 D4 D5 D6 D7 D8 D9 E0 E1 E2 E3' F3 F4 : Value} {dd : Nat → Value} {w : World}
    (h : bin Try.prog BinOp.lss 3 false false E3' E2 (fun E4 w =>
    cond E4
      (idxA Try.prog 29 E1 E3' (fun E5 w =>
    ld Try.prog 5 E5 (fun E6 w =>
    bin Try.prog BinOp.shl 113 false true n6' (Value.int IntKind.u64 8) (fun E8 w =>
    conv Try.prog 5 113 E6 (fun F0 w =>
    bin Try.prog BinOp.or 113 false false E8 F0 (fun F1 w =>
    bin Try.prog BinOp.add 3 false true E3' (Value.int IntKind.i64 1) (fun F2 w =>
    B1 (b0::at1::size2::b3::at4::size5::F1::next7::e8::A6::E6::A8::A9::C0::C1::C2::C3::C4::C5::C6::C7::C8::C9::D0::D1::D2::D3::D4::D5::D6::D7::D8::D9::E0::E1::E2::F2::E4::E5::E6::n6'::E8::E6::F0::F1::F2::F3::F4::[]) w) w) w) w) w) w) w)
      (qc0 (b0::at1::size2::b3::at4::size5::n6'::next7::e8::A6::(dd 10)::A8::A9::C0::C1::C2::C3::C4::C5::C6::C7::C8::C9::D0::D1::D2::D3::D4::D5::D6::D7::D8::D9::E0::E1::E2::E3'::E4::(dd 38)::(dd 39)::(dd 40)::(dd 41)::(dd 42)::(dd 43)::(dd 44)::(dd 45)::F3::F4::[]) w)) w) :
    cCode Try.prog (cd Try.f75 [1, 1, 1, 0, 1, 0, 0]) B1 (fun i => @Bool.rec (fun _ => KE) ((fun _ _ _ => False) i) qc0 (Nat.beq i 1)) (retK Try.prog Try.f75.results.toList K) (b0::at1::size2::b3::at4::size5::n6'::next7::e8::A6::(dd 10)::A8::A9::C0::C1::C2::C3::C4::C5::C6::C7::C8::C9::D0::D1::D2::D3::D4::D5::D6::D7::D8::D9::E0::E1::E2::E3'::(dd 37)::(dd 38)::(dd 39)::(dd 40)::(dd 41)::(dd 42)::(dd 43)::(dd 44)::(dd 45)::F3::F4::[]) w := Eq.mp (by kernel_rfl) h

section
variable {b0 at1 size2 b3 at4 size5 n6 next7 e8 A6 c10 A8 A9 C0 C1 C2 C3 C4 C5 C6 C7 C8 C9 D0 D1 D2 D3 D4 D5 D6 D7 D8 D9 E0 E1 E2 E3 E4 E5 E6 E7 E8 E9 F0 F1 F2 F3 F4 : Value}
theorem octet_Take_L1_r {K : KV} {w : World} (Inv : Value → Value → World → Prop) (μ : Value → Value → World → Nat) (h0 : Inv n6 E3 w)
    (hs : ∀ (n6' E3' : Value) (dd : Nat → Value) (w : World) (m : Nat), Inv n6' E3' w → m = μ n6' E3' w →
    bin Try.prog BinOp.lss 3 false false E3' E2 (fun E4 w =>
    cond E4
      (idxA Try.prog 29 E1 E3' (fun E5 w =>
    ld Try.prog 5 E5 (fun E6 w =>
    bin Try.prog BinOp.shl 113 false true n6' (Value.int IntKind.u64 8) (fun E8 w =>
    conv Try.prog 5 113 E6 (fun F0 w =>
    bin Try.prog BinOp.or 113 false false E8 F0 (fun F1 w =>
    bin Try.prog BinOp.add 3 false true E3' (Value.int IntKind.i64 1) (fun F2 w =>
    (Inv F1 F2 w ∧ μ F1 F2 w < m)) w) w) w) w) w) w)
      ((octet_Take_P3 K) (b0::at1::size2::b3::at4::size5::n6'::next7::e8::A6::(dd 10)::A8::A9::C0::C1::C2::C3::C4::C5::C6::C7::C8::C9::D0::D1::D2::D3::D4::D5::D6::D7::D8::D9::E0::E1::E2::E3'::E4::(dd 38)::(dd 39)::(dd 40)::(dd 41)::(dd 42)::(dd 43)::(dd 44)::(dd 45)::F3::F4::[]) w)) w) :
    octet_Take_L1 K (b0::at1::size2::b3::at4::size5::n6::next7::e8::A6::c10::A8::A9::C0::C1::C2::C3::C4::C5::C6::C7::C8::C9::D0::D1::D2::D3::D4::D5::D6::D7::D8::D9::E0::E1::E2::E3::E4::E5::E6::E7::E8::E9::F0::F1::F2::F3::F4::[]) w := by
  refine loop_rule (cd Try.f75 [1, 1, 1, 0, 1, 0, 0]) [6, 10, 36, 37, 38, 39, 40, 41, 42, 43, 44, 45] (by kernel_rfl) (fun e2 w2 => Inv (gd e2 6) (gd e2 36) w2) (fun e2 w2 => μ (gd e2 6) (gd e2 36) w2) h0 ?_
  intro e' w' hI
  have h := hs (gd e' 6) (gd e' 36) (fun i => gd e' i) w' _ hI rfl
  have h2 : cCode Try.prog (cd Try.f75 [1, 1, 1, 0, 1, 0, 0]) (fun e2 w2 => Inv (gd e2 6) (gd e2 36) w2 ∧ μ (gd e2 6) (gd e2 36) w2 < μ (gd e' 6) (gd e' 36) w') (fun i => @Bool.rec (fun _ => KE) ((fun _ _ _ => False) i) (octet_Take_P3 K) (Nat.beq i 1)) (retK Try.prog Try.f75.results.toList K) (b0::at1::size2::b3::at4::size5::(gd e' 6)::next7::e8::A6::(gd e' 10)::A8::A9::C0::C1::C2::C3::C4::C5::C6::C7::C8::C9::D0::D1::D2::D3::D4::D5::D6::D7::D8::D9::E0::E1::E2::(gd e' 36)::(gd e' 37)::(gd e' 38)::(gd e' 39)::(gd e' 40)::(gd e' 41)::(gd e' 42)::(gd e' 43)::(gd e' 44)::(gd e' 45)::F3::F4::[]) w' := octet_Take_L1_k (fun e2 w2 => Inv (gd e2 6) (gd e2 36) w2 ∧ μ (gd e2 6) (gd e2 36) w2 < μ (gd e' 6) (gd e' 36) w') (octet_Take_P3 K) (Eq.mp (by kernel_rfl) h)
  exact Eq.mp (by kernel_rfl) h2

theorem octet_Take_P3_k {K : KV} {w : World}
    (h : K (Value.tuple #[n6, next7, (Value.int IntKind.i64 0)]) w) :
    cCode Try.prog (cd Try.f75 [1, 1, 1, 1]) (retK Try.prog Try.f75.results.toList K) (fun _ _ _ => False) (retK Try.prog Try.f75.results.toList K) (b0::at1::size2::b3::at4::size5::n6::next7::e8::A6::c10::A8::A9::C0::C1::C2::C3::C4::C5::C6::C7::C8::C9::D0::D1::D2::D3::D4::D5::D6::D7::D8::D9::E0::E1::E2::E3::E4::E5::E6::E7::E8::E9::F0::F1::F2::F3::F4::[]) w := Eq.mp (by kernel_rfl) h

theorem octet_Take_P3_r {K : KV} {w : World}
    (h : K (Value.tuple #[n6, next7, (Value.int IntKind.i64 0)]) w) :
    octet_Take_P3 K (b0::at1::size2::b3::at4::size5::n6::next7::e8::A6::c10::A8::A9::C0::C1::C2::C3::C4::C5::C6::C7::C8::C9::D0::D1::D2::D3::D4::D5::D6::D7::D8::D9::E0::E1::E2::E3::E4::E5::E6::E7::E8::E9::F0::F1::F2::F3::F4::[]) w := by
  delta octet_Take_P3
  exact Eq.mp (congrArg (fun c => cCode Try.prog c (retK Try.prog Try.f75.results.toList K) (fun _ _ _ => False) (retK Try.prog Try.f75.results.toList K) (b0::at1::size2::b3::at4::size5::n6::next7::e8::A6::c10::A8::A9::C0::C1::C2::C3::C4::C5::C6::C7::C8::C9::D0::D1::D2::D3::D4::D5::D6::D7::D8::D9::E0::E1::E2::E3::E4::E5::E6::E7::E8::E9::F0::F1::F2::F3::F4::[]) w) (by kernel_rfl : (cd Try.f75 [1, 1, 1, 1]) = (cd Try.f75 [1, 1, 1, 1]))) (octet_Take_P3_k h)
attribute [irreducible] octet_Take_P1 octet_Take_P2 octet_Take_A1 octet_Take_P3 octet_Take_L1

end
end Go.Proofs.Ytjkmblbonambjaa
