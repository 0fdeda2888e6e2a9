/- Written by program (gen.py): what the code of some functions asks, part by part; each text is checked by the kernel against the translation. -/
import Derived.Test.YtjkmblbonambjaaSh
import Derived.Test.YtjkmblbonambjaaChecked
namespace Go.Proofs.Ytjkmblbonambjaa
open Go.RowKit
set_option maxRecDepth 100000

def octet_width_P1 (K : KV) : KE := cCode Try.prog (cd Try.f76 [1, 1, 1]) (retK Try.prog Try.f76.results.toList K) (fun _ _ _ => False) (retK Try.prog Try.f76.results.toList K)
def octet_width_A1 (K : KV) : KE := cCode Try.prog (cd Try.f76 [1, 1, 0, 1]) (octet_width_P1 K) (fun _ _ _ => False) (retK Try.prog Try.f76.results.toList K)
def octet_width_P2 (K : KV) : KE := cCode Try.prog (cd Try.f76 [1, 1, 0, 1, 0, 1]) (octet_width_P1 K) (fun i => @Bool.rec (fun _ => KE) ((fun _ _ _ => False) i) (octet_width_P1 K) (Nat.beq i 0)) (retK Try.prog Try.f76.results.toList K)
def octet_width_A2 (K : KV) : KE := cCode Try.prog (cd Try.f76 [1, 1, 0, 1, 0, 0]) (octet_width_P2 K) (fun i => @Bool.rec (fun _ => KE) ((fun _ _ _ => False) i) (octet_width_P1 K) (Nat.beq i 0)) (retK Try.prog Try.f76.results.toList K)
def octet_width_P3 (K : KV) : KE := cCode Try.prog (cd Try.f76 [1, 1, 0, 1, 0, 0, 0, 1]) (octet_width_P2 K) (fun i => @Bool.rec (fun _ => KE) ((fun i => @Bool.rec (fun _ => KE) ((fun _ _ _ => False) i) (octet_width_P1 K) (Nat.beq i 0)) i) (octet_width_P2 K) (Nat.beq i 4)) (retK Try.prog Try.f76.results.toList K)
def octet_width_A3 (K : KV) : KE := cCode Try.prog (cd Try.f76 [1, 1, 0, 1, 0, 0, 0, 0]) (octet_width_P3 K) (fun i => @Bool.rec (fun _ => KE) ((fun i => @Bool.rec (fun _ => KE) ((fun _ _ _ => False) i) (octet_width_P1 K) (Nat.beq i 0)) i) (octet_width_P2 K) (Nat.beq i 4)) (retK Try.prog Try.f76.results.toList K)
def octet_width_P4 (K : KV) : KE := cCode Try.prog (cd Try.f76 [1, 1, 0, 1, 0, 0, 0, 0, 0, 1]) (octet_width_P3 K) (fun i => @Bool.rec (fun _ => KE) ((fun i => @Bool.rec (fun _ => KE) ((fun i => @Bool.rec (fun _ => KE) ((fun _ _ _ => False) i) (octet_width_P1 K) (Nat.beq i 0)) i) (octet_width_P2 K) (Nat.beq i 4)) i) (octet_width_P3 K) (Nat.beq i 3)) (retK Try.prog Try.f76.results.toList K)
def octet_width_A4 (K : KV) : KE := cCode Try.prog (cd Try.f76 [1, 1, 0, 1, 0, 0, 0, 0, 0, 0]) (octet_width_P4 K) (fun i => @Bool.rec (fun _ => KE) ((fun i => @Bool.rec (fun _ => KE) ((fun i => @Bool.rec (fun _ => KE) ((fun _ _ _ => False) i) (octet_width_P1 K) (Nat.beq i 0)) i) (octet_width_P2 K) (Nat.beq i 4)) i) (octet_width_P3 K) (Nat.beq i 3)) (retK Try.prog Try.f76.results.toList K)
theorem octet_width_k {K : KV} (x0 : Code) {size0 : Value} {w : World}
    (h : (cCode Try.prog x0 (cCode Try.prog (cd Try.f76 [1, 1, 1]) (retK Try.prog Try.f76.results.toList K) (fun _ _ _ => False) (retK Try.prog Try.f76.results.toList K)) (fun _ _ _ => False) (retK Try.prog Try.f76.results.toList K)) [size0, undef, (Value.int IntKind.i64 0), (Value.int IntKind.i64 0), size0, undef, undef, undef, undef, undef, undef, undef, undef, undef, undef, undef, undef, undef, undef, undef, undef, undef] w) :
    cCode Try.prog (rep [1, 1, 0, 1] x0 (cd Try.f76 [])) (retK Try.prog Try.f76.results.toList K) (fun _ _ _ => False) (retK Try.prog Try.f76.results.toList K) [size0, undef, undef, undef, undef, undef, undef, undef, undef, undef, undef, undef, undef, undef, undef, undef, undef, undef, undef, undef, undef, undef] w := Eq.mp (by kernel_rfl) h

theorem octet_width_in {K : KV} {size0 : Value} {w : World}
    (h : (octet_width_A1 K) [size0, undef, (Value.int IntKind.i64 0), (Value.int IntKind.i64 0), size0, undef, undef, undef, undef, undef, undef, undef, undef, undef, undef, undef, undef, undef, undef, undef, undef, undef] w) :
    Gives Try.prog 76 #[size0] w K := enter' Try.func76 (by kernel_rfl) (Eq.mp (congrArg (fun c => cCode Try.prog c (retK Try.prog Try.f76.results.toList K) (fun _ _ _ => False) (retK Try.prog Try.f76.results.toList K) [size0, undef, undef, undef, undef, undef, undef, undef, undef, undef, undef, undef, undef, undef, undef, undef, undef, undef, undef, undef, undef, undef] w) (by kernel_rfl : (rep [1, 1, 0, 1] (cd Try.f76 [1, 1, 0, 1]) (cd Try.f76 [])) = (cd Try.f76 []))) (octet_width_k (cd Try.f76 [1, 1, 0, 1]) h))
theorem octet_width_go : isGo Try.prog 76 := ⟨_, Try.func76, by kernel_rfl, by kernel_rfl⟩

theorem octet_width_A1_k {K : KV} (q0 : KE) (x0 : Code) {size0 size1 t2 bits3 t4 t5 t6 t7 t8 t9 t10 t11 t12 t13 t14 t15 t16 t17 t18 t19 t20 t21 : Value} {w : World}
    (h : (cCode Try.prog x0 (cCode Try.prog (cd Try.f76 [1, 1, 0, 1, 0, 1]) q0 (fun i => @Bool.rec (fun _ => KE) ((fun _ _ _ => False) i) q0 (Nat.beq i 0)) (retK Try.prog Try.f76.results.toList K)) (fun i => @Bool.rec (fun _ => KE) ((fun _ _ _ => False) i) q0 (Nat.beq i 0)) (retK Try.prog Try.f76.results.toList K)) [size0, size1, t2, bits3, t4, t5, t6, t7, t8, t9, t10, t11, t12, t13, t14, t15, t16, t17, t18, t19, t20, t21] w) :
    cCode Try.prog (rep [0, 0] x0 (cd Try.f76 [1, 1, 0, 1])) q0 (fun _ _ _ => False) (retK Try.prog Try.f76.results.toList K) [size0, size1, t2, bits3, t4, t5, t6, t7, t8, t9, t10, t11, t12, t13, t14, t15, t16, t17, t18, t19, t20, t21] w := Eq.mp (by kernel_rfl) h

theorem octet_width_A1_r {K : KV} {size0 size1 t2 bits3 t4 t5 t6 t7 t8 t9 t10 t11 t12 t13 t14 t15 t16 t17 t18 t19 t20 t21 : Value} {w : World}
    (h : (octet_width_A2 K) [size0, size1, t2, bits3, t4, t5, t6, t7, t8, t9, t10, t11, t12, t13, t14, t15, t16, t17, t18, t19, t20, t21] w) :
    octet_width_A1 K [size0, size1, t2, bits3, t4, t5, t6, t7, t8, t9, t10, t11, t12, t13, t14, t15, t16, t17, t18, t19, t20, t21] w := by
  delta octet_width_A1
  exact Eq.mp (congrArg (fun c => cCode Try.prog c (octet_width_P1 K) (fun _ _ _ => False) (retK Try.prog Try.f76.results.toList K) [size0, size1, t2, bits3, t4, t5, t6, t7, t8, t9, t10, t11, t12, t13, t14, t15, t16, t17, t18, t19, t20, t21] w) (by kernel_rfl : (rep [0, 0] (cd Try.f76 [1, 1, 0, 1, 0, 0]) (cd Try.f76 [1, 1, 0, 1])) = (cd Try.f76 [1, 1, 0, 1]))) (octet_width_A1_k (octet_width_P1 K) (cd Try.f76 [1, 1, 0, 1, 0, 0]) h)

theorem octet_width_A2_k {K : KV} (q0 : KE) (q1 : KE) (x0 : Code) {size0 size1 t2 bits3 t4 t5 t6 t7 t8 t9 t10 t11 t12 t13 t14 t15 t16 t17 t18 t19 t20 t21 : Value} {w : World}
    (h : (cCode Try.prog x0 (cCode Try.prog (cd Try.f76 [1, 1, 0, 1, 0, 0, 0, 1]) q0 (fun i => @Bool.rec (fun _ => KE) ((fun i => @Bool.rec (fun _ => KE) ((fun _ _ _ => False) i) q1 (Nat.beq i 0)) i) q0 (Nat.beq i 4)) (retK Try.prog Try.f76.results.toList K)) (fun i => @Bool.rec (fun _ => KE) ((fun i => @Bool.rec (fun _ => KE) ((fun _ _ _ => False) i) q1 (Nat.beq i 0)) i) q0 (Nat.beq i 4)) (retK Try.prog Try.f76.results.toList K)) [size0, size1, t2, bits3, t4, t5, t6, t7, t8, t9, t10, t11, t12, t13, t14, t15, t16, t17, t18, t19, t20, t21] w) :
    cCode Try.prog (rep [0, 0] x0 (cd Try.f76 [1, 1, 0, 1, 0, 0])) q0 (fun i => @Bool.rec (fun _ => KE) ((fun _ _ _ => False) i) q1 (Nat.beq i 0)) (retK Try.prog Try.f76.results.toList K) [size0, size1, t2, bits3, t4, t5, t6, t7, t8, t9, t10, t11, t12, t13, t14, t15, t16, t17, t18, t19, t20, t21] w := Eq.mp (by kernel_rfl) h

theorem octet_width_A2_r {K : KV} {size0 size1 t2 bits3 t4 t5 t6 t7 t8 t9 t10 t11 t12 t13 t14 t15 t16 t17 t18 t19 t20 t21 : Value} {w : World}
    (h : (octet_width_A3 K) [size0, size1, t2, bits3, t4, t5, t6, t7, t8, t9, t10, t11, t12, t13, t14, t15, t16, t17, t18, t19, t20, t21] w) :
    octet_width_A2 K [size0, size1, t2, bits3, t4, t5, t6, t7, t8, t9, t10, t11, t12, t13, t14, t15, t16, t17, t18, t19, t20, t21] w := by
  delta octet_width_A2
  exact Eq.mp (congrArg (fun c => cCode Try.prog c (octet_width_P2 K) (fun i => @Bool.rec (fun _ => KE) ((fun _ _ _ => False) i) (octet_width_P1 K) (Nat.beq i 0)) (retK Try.prog Try.f76.results.toList K) [size0, size1, t2, bits3, t4, t5, t6, t7, t8, t9, t10, t11, t12, t13, t14, t15, t16, t17, t18, t19, t20, t21] w) (by kernel_rfl : (rep [0, 0] (cd Try.f76 [1, 1, 0, 1, 0, 0, 0, 0]) (cd Try.f76 [1, 1, 0, 1, 0, 0])) = (cd Try.f76 [1, 1, 0, 1, 0, 0]))) (octet_width_A2_k (octet_width_P2 K) (octet_width_P1 K) (cd Try.f76 [1, 1, 0, 1, 0, 0, 0, 0]) h)

theorem octet_width_A3_k {K : KV} (q0 : KE) (q1 : KE) (q2 : KE) (x0 : Code) {size0 size1 t2 bits3 t4 t5 t6 t7 t8 t9 t10 t11 t12 t13 t14 t15 t16 t17 t18 t19 t20 t21 : Value} {w : World}
    (h : (cCode Try.prog x0 (cCode Try.prog (cd Try.f76 [1, 1, 0, 1, 0, 0, 0, 0, 0, 1]) q0 (fun i => @Bool.rec (fun _ => KE) ((fun i => @Bool.rec (fun _ => KE) ((fun i => @Bool.rec (fun _ => KE) ((fun _ _ _ => False) i) q1 (Nat.beq i 0)) i) q2 (Nat.beq i 4)) i) q0 (Nat.beq i 3)) (retK Try.prog Try.f76.results.toList K)) (fun i => @Bool.rec (fun _ => KE) ((fun i => @Bool.rec (fun _ => KE) ((fun i => @Bool.rec (fun _ => KE) ((fun _ _ _ => False) i) q1 (Nat.beq i 0)) i) q2 (Nat.beq i 4)) i) q0 (Nat.beq i 3)) (retK Try.prog Try.f76.results.toList K)) [size0, size1, t2, bits3, t4, t5, t6, t7, t8, t9, t10, t11, t12, t13, t14, t15, t16, t17, t18, t19, t20, t21] w) :
    cCode Try.prog (rep [0, 0] x0 (cd Try.f76 [1, 1, 0, 1, 0, 0, 0, 0])) q0 (fun i => @Bool.rec (fun _ => KE) ((fun i => @Bool.rec (fun _ => KE) ((fun _ _ _ => False) i) q1 (Nat.beq i 0)) i) q2 (Nat.beq i 4)) (retK Try.prog Try.f76.results.toList K) [size0, size1, t2, bits3, t4, t5, t6, t7, t8, t9, t10, t11, t12, t13, t14, t15, t16, t17, t18, t19, t20, t21] w := Eq.mp (by kernel_rfl) h

theorem octet_width_A3_r {K : KV} {size0 size1 t2 bits3 t4 t5 t6 t7 t8 t9 t10 t11 t12 t13 t14 t15 t16 t17 t18 t19 t20 t21 : Value} {w : World}
    (h : (octet_width_A4 K) [size0, size1, t2, bits3, t4, t5, t6, t7, t8, t9, t10, t11, t12, t13, t14, t15, t16, t17, t18, t19, t20, t21] w) :
    octet_width_A3 K [size0, size1, t2, bits3, t4, t5, t6, t7, t8, t9, t10, t11, t12, t13, t14, t15, t16, t17, t18, t19, t20, t21] w := by
  delta octet_width_A3
  exact Eq.mp (congrArg (fun c => cCode Try.prog c (octet_width_P3 K) (fun i => @Bool.rec (fun _ => KE) ((fun i => @Bool.rec (fun _ => KE) ((fun _ _ _ => False) i) (octet_width_P1 K) (Nat.beq i 0)) i) (octet_width_P2 K) (Nat.beq i 4)) (retK Try.prog Try.f76.results.toList K) [size0, size1, t2, bits3, t4, t5, t6, t7, t8, t9, t10, t11, t12, t13, t14, t15, t16, t17, t18, t19, t20, t21] w) (by kernel_rfl : (rep [0, 0] (cd Try.f76 [1, 1, 0, 1, 0, 0, 0, 0, 0, 0]) (cd Try.f76 [1, 1, 0, 1, 0, 0, 0, 0])) = (cd Try.f76 [1, 1, 0, 1, 0, 0, 0, 0]))) (octet_width_A3_k (octet_width_P3 K) (octet_width_P1 K) (octet_width_P2 K) (cd Try.f76 [1, 1, 0, 1, 0, 0, 0, 0, 0, 0]) h)

theorem octet_width_A4_k {K : KV} (q0 : KE) (q1 : KE) (q2 : KE) (q3 : KE) {size0 size1 t2 bits3 t4 t5 t6 t7 t8 t9 t10 t11 t12 t13 t14 t15 t16 t17 t18 t19 t20 t21 : Value} {w : World}
    (h : bin Try.prog BinOp.eql 3 false true t4 (Value.int IntKind.i64 8) (fun t6 w =>
    cond t6
      (bin Try.prog BinOp.add 3 false true bits3 (Value.int IntKind.i64 32) (fun t14 w =>
    q0 [size0, size1, t2, t14, t4, t6, t6, t7, t8, t9, t10, t11, t12, bits3, t14, t15, t16, t17, t18, t19, t20, t21] w) w)
      (bin Try.prog BinOp.eql 3 false true t4 (Value.int IntKind.i64 4) (fun t8 w =>
    cond t8
      (q0 [size0, size1, t2, bits3, t4, t6, t6, t8, t8, t9, t10, t11, t12, t13, t14, t15, t16, t17, t18, t19, t20, t21] w)
      (bin Try.prog BinOp.eql 3 false true t4 (Value.int IntKind.i64 2) (fun t10 w =>
    cond t10
      (q3 [size0, size1, t2, bits3, t4, t6, t6, t8, t8, t10, t10, t11, t12, t13, t14, t15, t16, t17, t18, t19, t20, t21] w)
      (bin Try.prog BinOp.eql 3 false true t4 (Value.int IntKind.i64 1) (fun t12 w =>
    cond t12
      (q2 [size0, size1, t2, bits3, t4, t6, t6, t8, t8, t10, t10, t12, t12, t13, t14, t15, t16, t17, t18, t19, t20, t21] w)
      (q1 [size0, size1, t2, bits3, t4, t6, t6, t8, t8, t10, t10, t12, t12, t13, t14, t15, t16, t17, t18, t19, t20, t21] w)) w)) w)) w)) w) :
    cCode Try.prog (cd Try.f76 [1, 1, 0, 1, 0, 0, 0, 0, 0, 0]) q0 (fun i => @Bool.rec (fun _ => KE) ((fun i => @Bool.rec (fun _ => KE) ((fun i => @Bool.rec (fun _ => KE) ((fun _ _ _ => False) i) q1 (Nat.beq i 0)) i) q2 (Nat.beq i 4)) i) q3 (Nat.beq i 3)) (retK Try.prog Try.f76.results.toList K) [size0, size1, t2, bits3, t4, t5, t6, t7, t8, t9, t10, t11, t12, t13, t14, t15, t16, t17, t18, t19, t20, t21] w := Eq.mp (by kernel_rfl) h

theorem octet_width_A4_r {K : KV} {size0 size1 t2 bits3 t4 t5 t6 t7 t8 t9 t10 t11 t12 t13 t14 t15 t16 t17 t18 t19 t20 t21 : Value} {w : World}
    (h : bin Try.prog BinOp.eql 3 false true t4 (Value.int IntKind.i64 8) (fun t6 w =>
    cond t6
      (bin Try.prog BinOp.add 3 false true bits3 (Value.int IntKind.i64 32) (fun t14 w =>
    (octet_width_P4 K) [size0, size1, t2, t14, t4, t6, t6, t7, t8, t9, t10, t11, t12, bits3, t14, t15, t16, t17, t18, t19, t20, t21] w) w)
      (bin Try.prog BinOp.eql 3 false true t4 (Value.int IntKind.i64 4) (fun t8 w =>
    cond t8
      ((octet_width_P4 K) [size0, size1, t2, bits3, t4, t6, t6, t8, t8, t9, t10, t11, t12, t13, t14, t15, t16, t17, t18, t19, t20, t21] w)
      (bin Try.prog BinOp.eql 3 false true t4 (Value.int IntKind.i64 2) (fun t10 w =>
    cond t10
      ((octet_width_P3 K) [size0, size1, t2, bits3, t4, t6, t6, t8, t8, t10, t10, t11, t12, t13, t14, t15, t16, t17, t18, t19, t20, t21] w)
      (bin Try.prog BinOp.eql 3 false true t4 (Value.int IntKind.i64 1) (fun t12 w =>
    cond t12
      ((octet_width_P2 K) [size0, size1, t2, bits3, t4, t6, t6, t8, t8, t10, t10, t12, t12, t13, t14, t15, t16, t17, t18, t19, t20, t21] w)
      ((octet_width_P1 K) [size0, size1, t2, bits3, t4, t6, t6, t8, t8, t10, t10, t12, t12, t13, t14, t15, t16, t17, t18, t19, t20, t21] w)) w)) w)) w)) w) :
    octet_width_A4 K [size0, size1, t2, bits3, t4, t5, t6, t7, t8, t9, t10, t11, t12, t13, t14, t15, t16, t17, t18, t19, t20, t21] w := by
  delta octet_width_A4
  exact Eq.mp (congrArg (fun c => cCode Try.prog c (octet_width_P4 K) (fun i => @Bool.rec (fun _ => KE) ((fun i => @Bool.rec (fun _ => KE) ((fun i => @Bool.rec (fun _ => KE) ((fun _ _ _ => False) i) (octet_width_P1 K) (Nat.beq i 0)) i) (octet_width_P2 K) (Nat.beq i 4)) i) (octet_width_P3 K) (Nat.beq i 3)) (retK Try.prog Try.f76.results.toList K) [size0, size1, t2, bits3, t4, t5, t6, t7, t8, t9, t10, t11, t12, t13, t14, t15, t16, t17, t18, t19, t20, t21] w) (by kernel_rfl : (cd Try.f76 [1, 1, 0, 1, 0, 0, 0, 0, 0, 0]) = (cd Try.f76 [1, 1, 0, 1, 0, 0, 0, 0, 0, 0]))) (octet_width_A4_k (octet_width_P4 K) (octet_width_P1 K) (octet_width_P2 K) (octet_width_P3 K) h)

theorem octet_width_P4_k {K : KV} (q0 : KE) (q1 : KE) (q2 : KE) {size0 size1 t2 bits3 t4 t5 t6 t7 t8 t9 t10 t11 t12 t13 t14 t15 t16 t17 t18 t19 t20 t21 : Value} {w : World}
    (h : bin Try.prog BinOp.add 3 false true bits3 (Value.int IntKind.i64 16) (fun t16 w =>
    q0 [size0, size1, t2, t16, t4, t5, t6, t7, t8, t9, t10, t11, t12, t13, t14, bits3, t16, t17, t18, t19, t20, t21] w) w) :
    cCode Try.prog (cd Try.f76 [1, 1, 0, 1, 0, 0, 0, 0, 0, 1]) q0 (fun i => @Bool.rec (fun _ => KE) ((fun i => @Bool.rec (fun _ => KE) ((fun i => @Bool.rec (fun _ => KE) ((fun _ _ _ => False) i) q1 (Nat.beq i 0)) i) q2 (Nat.beq i 4)) i) q0 (Nat.beq i 3)) (retK Try.prog Try.f76.results.toList K) [size0, size1, t2, bits3, t4, t5, t6, t7, t8, t9, t10, t11, t12, t13, t14, t15, t16, t17, t18, t19, t20, t21] w := Eq.mp (by kernel_rfl) h

theorem octet_width_P4_r {K : KV} {size0 size1 t2 bits3 t4 t5 t6 t7 t8 t9 t10 t11 t12 t13 t14 t15 t16 t17 t18 t19 t20 t21 : Value} {w : World}
    (h : bin Try.prog BinOp.add 3 false true bits3 (Value.int IntKind.i64 16) (fun t16 w =>
    (octet_width_P3 K) [size0, size1, t2, t16, t4, t5, t6, t7, t8, t9, t10, t11, t12, t13, t14, bits3, t16, t17, t18, t19, t20, t21] w) w) :
    octet_width_P4 K [size0, size1, t2, bits3, t4, t5, t6, t7, t8, t9, t10, t11, t12, t13, t14, t15, t16, t17, t18, t19, t20, t21] w := by
  delta octet_width_P4
  exact Eq.mp (congrArg (fun c => cCode Try.prog c (octet_width_P3 K) (fun i => @Bool.rec (fun _ => KE) ((fun i => @Bool.rec (fun _ => KE) ((fun i => @Bool.rec (fun _ => KE) ((fun _ _ _ => False) i) (octet_width_P1 K) (Nat.beq i 0)) i) (octet_width_P2 K) (Nat.beq i 4)) i) (octet_width_P3 K) (Nat.beq i 3)) (retK Try.prog Try.f76.results.toList K) [size0, size1, t2, bits3, t4, t5, t6, t7, t8, t9, t10, t11, t12, t13, t14, t15, t16, t17, t18, t19, t20, t21] w) (by kernel_rfl : (cd Try.f76 [1, 1, 0, 1, 0, 0, 0, 0, 0, 1]) = (cd Try.f76 [1, 1, 0, 1, 0, 0, 0, 0, 0, 1]))) (octet_width_P4_k (octet_width_P3 K) (octet_width_P1 K) (octet_width_P2 K) h)

theorem octet_width_P3_k {K : KV} (q0 : KE) (q1 : KE) {size0 size1 t2 bits3 t4 t5 t6 t7 t8 t9 t10 t11 t12 t13 t14 t15 t16 t17 t18 t19 t20 t21 : Value} {w : World}
    (h : bin Try.prog BinOp.add 3 false true bits3 (Value.int IntKind.i64 8) (fun t18 w =>
    q0 [size0, size1, t2, t18, t4, t5, t6, t7, t8, t9, t10, t11, t12, t13, t14, t15, t16, bits3, t18, t19, t20, t21] w) w) :
    cCode Try.prog (cd Try.f76 [1, 1, 0, 1, 0, 0, 0, 1]) q0 (fun i => @Bool.rec (fun _ => KE) ((fun i => @Bool.rec (fun _ => KE) ((fun _ _ _ => False) i) q1 (Nat.beq i 0)) i) q0 (Nat.beq i 4)) (retK Try.prog Try.f76.results.toList K) [size0, size1, t2, bits3, t4, t5, t6, t7, t8, t9, t10, t11, t12, t13, t14, t15, t16, t17, t18, t19, t20, t21] w := Eq.mp (by kernel_rfl) h

theorem octet_width_P3_r {K : KV} {size0 size1 t2 bits3 t4 t5 t6 t7 t8 t9 t10 t11 t12 t13 t14 t15 t16 t17 t18 t19 t20 t21 : Value} {w : World}
    (h : bin Try.prog BinOp.add 3 false true bits3 (Value.int IntKind.i64 8) (fun t18 w =>
    (octet_width_P2 K) [size0, size1, t2, t18, t4, t5, t6, t7, t8, t9, t10, t11, t12, t13, t14, t15, t16, bits3, t18, t19, t20, t21] w) w) :
    octet_width_P3 K [size0, size1, t2, bits3, t4, t5, t6, t7, t8, t9, t10, t11, t12, t13, t14, t15, t16, t17, t18, t19, t20, t21] w := by
  delta octet_width_P3
  exact Eq.mp (congrArg (fun c => cCode Try.prog c (octet_width_P2 K) (fun i => @Bool.rec (fun _ => KE) ((fun i => @Bool.rec (fun _ => KE) ((fun _ _ _ => False) i) (octet_width_P1 K) (Nat.beq i 0)) i) (octet_width_P2 K) (Nat.beq i 4)) (retK Try.prog Try.f76.results.toList K) [size0, size1, t2, bits3, t4, t5, t6, t7, t8, t9, t10, t11, t12, t13, t14, t15, t16, t17, t18, t19, t20, t21] w) (by kernel_rfl : (cd Try.f76 [1, 1, 0, 1, 0, 0, 0, 1]) = (cd Try.f76 [1, 1, 0, 1, 0, 0, 0, 1]))) (octet_width_P3_k (octet_width_P2 K) (octet_width_P1 K) h)

theorem octet_width_P2_k {K : KV} (q0 : KE) {size0 size1 t2 bits3 t4 t5 t6 t7 t8 t9 t10 t11 t12 t13 t14 t15 t16 t17 t18 t19 t20 t21 : Value} {w : World}
    (h : bin Try.prog BinOp.add 3 false true bits3 (Value.int IntKind.i64 8) (fun t20 w =>
    q0 [size0, size1, t2, t20, t4, t5, t6, t7, t8, t9, t10, t11, t12, t13, t14, t15, t16, t17, t18, bits3, t20, t21] w) w) :
    cCode Try.prog (cd Try.f76 [1, 1, 0, 1, 0, 1]) q0 (fun i => @Bool.rec (fun _ => KE) ((fun _ _ _ => False) i) q0 (Nat.beq i 0)) (retK Try.prog Try.f76.results.toList K) [size0, size1, t2, bits3, t4, t5, t6, t7, t8, t9, t10, t11, t12, t13, t14, t15, t16, t17, t18, t19, t20, t21] w := Eq.mp (by kernel_rfl) h

theorem octet_width_P2_r {K : KV} {size0 size1 t2 bits3 t4 t5 t6 t7 t8 t9 t10 t11 t12 t13 t14 t15 t16 t17 t18 t19 t20 t21 : Value} {w : World}
    (h : bin Try.prog BinOp.add 3 false true bits3 (Value.int IntKind.i64 8) (fun t20 w =>
    (octet_width_P1 K) [size0, size1, t2, t20, t4, t5, t6, t7, t8, t9, t10, t11, t12, t13, t14, t15, t16, t17, t18, bits3, t20, t21] w) w) :
    octet_width_P2 K [size0, size1, t2, bits3, t4, t5, t6, t7, t8, t9, t10, t11, t12, t13, t14, t15, t16, t17, t18, t19, t20, t21] w := by
  delta octet_width_P2
  exact Eq.mp (congrArg (fun c => cCode Try.prog c (octet_width_P1 K) (fun i => @Bool.rec (fun _ => KE) ((fun _ _ _ => False) i) (octet_width_P1 K) (Nat.beq i 0)) (retK Try.prog Try.f76.results.toList K) [size0, size1, t2, bits3, t4, t5, t6, t7, t8, t9, t10, t11, t12, t13, t14, t15, t16, t17, t18, t19, t20, t21] w) (by kernel_rfl : (cd Try.f76 [1, 1, 0, 1, 0, 1]) = (cd Try.f76 [1, 1, 0, 1, 0, 1]))) (octet_width_P2_k (octet_width_P1 K) h)

theorem octet_width_P1_k {K : KV} {size0 size1 t2 bits3 t4 t5 t6 t7 t8 t9 t10 t11 t12 t13 t14 t15 t16 t17 t18 t19 t20 t21 : Value} {w : World}
    (h : K bits3 w) :
    cCode Try.prog (cd Try.f76 [1, 1, 1]) (retK Try.prog Try.f76.results.toList K) (fun _ _ _ => False) (retK Try.prog Try.f76.results.toList K) [size0, size1, t2, bits3, t4, t5, t6, t7, t8, t9, t10, t11, t12, t13, t14, t15, t16, t17, t18, t19, t20, t21] w := Eq.mp (by kernel_rfl) h

theorem octet_width_P1_r {K : KV} {size0 size1 t2 bits3 t4 t5 t6 t7 t8 t9 t10 t11 t12 t13 t14 t15 t16 t17 t18 t19 t20 t21 : Value} {w : World}
    (h : K bits3 w) :
    octet_width_P1 K [size0, size1, t2, bits3, t4, t5, t6, t7, t8, t9, t10, t11, t12, t13, t14, t15, t16, t17, t18, t19, t20, t21] w := by
  delta octet_width_P1
  exact Eq.mp (congrArg (fun c => cCode Try.prog c (retK Try.prog Try.f76.results.toList K) (fun _ _ _ => False) (retK Try.prog Try.f76.results.toList K) [size0, size1, t2, bits3, t4, t5, t6, t7, t8, t9, t10, t11, t12, t13, t14, t15, t16, t17, t18, t19, t20, t21] w) (by kernel_rfl : (cd Try.f76 [1, 1, 1]) = (cd Try.f76 [1, 1, 1]))) (octet_width_P1_k h)
attribute [irreducible] octet_width_P1 octet_width_A1 octet_width_P2 octet_width_A2 octet_width_P3 octet_width_A3 octet_width_P4 octet_width_A4

def octet_Put_A1 (K : KV) : KE := cCode Try.prog (cd Try.f73 [1, 1, 1, 1]) (retK Try.prog Try.f73.results.toList K) (fun _ _ _ => False) (retK Try.prog Try.f73.results.toList K)
def octet_Put_P1 (K : KV) : KE := cCode Try.prog (cd Try.f73 [1, 1, 1, 1, 1]) (retK Try.prog Try.f73.results.toList K) (fun _ _ _ => False) (retK Try.prog Try.f73.results.toList K)
def octet_Put_L1 (K : KV) : KE := cCode Try.prog (cd Try.f73 [1, 1, 1, 1, 0, 1, 0]) (octet_Put_P1 K) (fun i => @Bool.rec (fun _ => KE) ((fun _ _ _ => False) i) (octet_Put_P1 K) (Nat.beq i 1)) (retK Try.prog Try.f73.results.toList K)
theorem octet_Put_k {K : KV} (x0 : Code) {b0 n1 size2 : Value} {w : World}
    (h : call Try.prog 76 #[size2] (fun t11 w =>
    bin Try.prog BinOp.eql 3 false true t11 (Value.int IntKind.i64 0) (fun t14 w =>
    cond t14
      (K (Value.tuple #[(Value.slice none 0 0), (Value.int IntKind.i64 1)]) w)
      (bin Try.prog BinOp.shr 113 false false n1 t11 (fun t18 w =>
      bin Try.prog BinOp.gtr 113 false true t18 (Value.int IntKind.u64 0) (fun t19 w =>
      cond t19
        (K (Value.tuple #[(Value.slice none 0 0), (Value.int IntKind.i64 6)]) w)
        (blt Try.prog Builtin.len #[29] 3 #[false] #[b0] (fun t21 w =>
    bin Try.prog BinOp.add 3 false false t21 size2 (fun t23 w =>
    mkS Try.prog 29 (Value.int IntKind.i64 0) t23 (fun t24 w =>
    blt Try.prog Builtin.append #[29, 29] 29 #[false, false] #[t24, b0] (fun t26 w =>
    (cCode Try.prog x0 (retK Try.prog Try.f73.results.toList K) (fun _ _ _ => False) (retK Try.prog Try.f73.results.toList K)) [b0, n1, size2, undef, undef, undef, (Value.slice none 0 0), (Value.int IntKind.i64 0), t11, t26, size2, t11, t14, t11, t14, t19, n1, t11, t18, t19, b0, t21, size2, t23, t24, b0, t26, undef, undef, undef, undef, undef, undef, undef, undef, undef, undef, undef, undef, undef, undef] w) w) w) w) w)) w) w)) w) w) :
    cCode Try.prog (rep [1, 1, 1, 1] x0 (cd Try.f73 [])) (retK Try.prog Try.f73.results.toList K) (fun _ _ _ => False) (retK Try.prog Try.f73.results.toList K) [b0, n1, size2, undef, undef, undef, undef, undef, undef, undef, undef, undef, undef, undef, undef, undef, undef, undef, undef, undef, undef, undef, undef, undef, undef, undef, undef, undef, undef, undef, undef, undef, undef, undef, undef, undef, undef, undef, undef, undef, undef] w := Eq.mp (by kernel_rfl) h

theorem octet_Put_in {K : KV} {b0 n1 size2 : Value} {w : World}
    (h : call Try.prog 76 #[size2] (fun t11 w =>
    bin Try.prog BinOp.eql 3 false true t11 (Value.int IntKind.i64 0) (fun t14 w =>
    cond t14
      (K (Value.tuple #[(Value.slice none 0 0), (Value.int IntKind.i64 1)]) w)
      (bin Try.prog BinOp.shr 113 false false n1 t11 (fun t18 w =>
      bin Try.prog BinOp.gtr 113 false true t18 (Value.int IntKind.u64 0) (fun t19 w =>
      cond t19
        (K (Value.tuple #[(Value.slice none 0 0), (Value.int IntKind.i64 6)]) w)
        (blt Try.prog Builtin.len #[29] 3 #[false] #[b0] (fun t21 w =>
    bin Try.prog BinOp.add 3 false false t21 size2 (fun t23 w =>
    mkS Try.prog 29 (Value.int IntKind.i64 0) t23 (fun t24 w =>
    blt Try.prog Builtin.append #[29, 29] 29 #[false, false] #[t24, b0] (fun t26 w =>
    (octet_Put_A1 K) [b0, n1, size2, undef, undef, undef, (Value.slice none 0 0), (Value.int IntKind.i64 0), t11, t26, size2, t11, t14, t11, t14, t19, n1, t11, t18, t19, b0, t21, size2, t23, t24, b0, t26, undef, undef, undef, undef, undef, undef, undef, undef, undef, undef, undef, undef, undef, undef] w) w) w) w) w)) w) w)) w) w) :
    Gives Try.prog 73 #[b0, n1, size2] w K := enter' Try.func73 (by kernel_rfl) (Eq.mp (congrArg (fun c => cCode Try.prog c (retK Try.prog Try.f73.results.toList K) (fun _ _ _ => False) (retK Try.prog Try.f73.results.toList K) [b0, n1, size2, undef, undef, undef, undef, undef, undef, undef, undef, undef, undef, undef, undef, undef, undef, undef, undef, undef, undef, undef, undef, undef, undef, undef, undef, undef, undef, undef, undef, undef, undef, undef, undef, undef, undef, undef, undef, undef, undef] w) (by kernel_rfl : (rep [1, 1, 1, 1] (cd Try.f73 [1, 1, 1, 1]) (cd Try.f73 [])) = (cd Try.f73 []))) (octet_Put_k (cd Try.f73 [1, 1, 1, 1]) h))
theorem octet_Put_go : isGo Try.prog 73 := ⟨_, Try.func73, by kernel_rfl, by kernel_rfl⟩

theorem octet_Put_A1_k {K : KV} {b0 n1 size2 b3 n4 size5 t6 t7 bits8 out9 t10 t11 t12 t13 t14 t15 t16 t17 t18 t19 t20 t21 t22 t23 t24 t25 t26 t27 t28 t29 t30 t31 t32 t33 t34 t35 t36 t37 t38 t39 t40 : Value} {w : World}
    (h : bin Try.prog BinOp.sub 3 false true bits8 (Value.int IntKind.i64 8) (fun t28 w =>
    (cCode Try.prog (cd Try.f73 [1, 1, 1, 1, 0, 1, 0]) (cCode Try.prog (cd Try.f73 [1, 1, 1, 1, 1]) (retK Try.prog Try.f73.results.toList K) (fun _ _ _ => False) (retK Try.prog Try.f73.results.toList K)) (fun i => @Bool.rec (fun _ => KE) ((fun _ _ _ => False) i) (cCode Try.prog (cd Try.f73 [1, 1, 1, 1, 1]) (retK Try.prog Try.f73.results.toList K) (fun _ _ _ => False) (retK Try.prog Try.f73.results.toList K)) (Nat.beq i 1)) (retK Try.prog Try.f73.results.toList K)) [b0, n1, size2, b3, n4, size5, t6, t7, t28, out9, t10, t11, t12, t13, t14, t15, t16, t17, t18, t19, t20, t21, t22, t23, t24, t25, t26, bits8, t28, t29, t30, t31, t32, t33, t34, t35, t36, t37, t38, t39, t40] w) w) :
    cCode Try.prog (cd Try.f73 [1, 1, 1, 1]) (retK Try.prog Try.f73.results.toList K) (fun _ _ _ => False) (retK Try.prog Try.f73.results.toList K) [b0, n1, size2, b3, n4, size5, t6, t7, bits8, out9, t10, t11, t12, t13, t14, t15, t16, t17, t18, t19, t20, t21, t22, t23, t24, t25, t26, t27, t28, t29, t30, t31, t32, t33, t34, t35, t36, t37, t38, t39, t40] w := Eq.mp (by kernel_rfl) h

theorem octet_Put_A1_r {K : KV} {b0 n1 size2 b3 n4 size5 t6 t7 bits8 out9 t10 t11 t12 t13 t14 t15 t16 t17 t18 t19 t20 t21 t22 t23 t24 t25 t26 t27 t28 t29 t30 t31 t32 t33 t34 t35 t36 t37 t38 t39 t40 : Value} {w : World}
    (h : bin Try.prog BinOp.sub 3 false true bits8 (Value.int IntKind.i64 8) (fun t28 w =>
    (octet_Put_L1 K) [b0, n1, size2, b3, n4, size5, t6, t7, t28, out9, t10, t11, t12, t13, t14, t15, t16, t17, t18, t19, t20, t21, t22, t23, t24, t25, t26, bits8, t28, t29, t30, t31, t32, t33, t34, t35, t36, t37, t38, t39, t40] w) w) :
    octet_Put_A1 K [b0, n1, size2, b3, n4, size5, t6, t7, bits8, out9, t10, t11, t12, t13, t14, t15, t16, t17, t18, t19, t20, t21, t22, t23, t24, t25, t26, t27, t28, t29, t30, t31, t32, t33, t34, t35, t36, t37, t38, t39, t40] w := by
  delta octet_Put_A1
  exact Eq.mp (congrArg (fun c => cCode Try.prog c (retK Try.prog Try.f73.results.toList K) (fun _ _ _ => False) (retK Try.prog Try.f73.results.toList K) [b0, n1, size2, b3, n4, size5, t6, t7, bits8, out9, t10, t11, t12, t13, t14, t15, t16, t17, t18, t19, t20, t21, t22, t23, t24, t25, t26, t27, t28, t29, t30, t31, t32, t33, t34, t35, t36, t37, t38, t39, t40] w) (by kernel_rfl : (cd Try.f73 [1, 1, 1, 1]) = (cd Try.f73 [1, 1, 1, 1]))) (octet_Put_A1_k h)

theorem octet_Put_L1_k {K : KV} (B1 : KE) (q0 : KE) {b0 n1 size2 b3 n4 size5 t6 t7 bits8' out9' t10 t11 t12 t13 t14 t15 t16 t17 t18 t19 t20 t21 t22 t23 t24 t25 t26 t27 t28 t40 : Value} {dd : Nat → Value} {w : World}
    (h : bin Try.prog BinOp.geq 3 false true bits8' (Value.int IntKind.i64 0) (fun t30 w =>
    cond t30
      (bin Try.prog BinOp.shr 113 false false n1 bits8' (fun t36 w =>
    conv Try.prog 113 5 t36 (fun t37 w =>
    bldS Try.prog 29 1 #[(0, t37)] (fun t38 w =>
    blt Try.prog Builtin.append #[29, 29] 29 #[false, false] #[out9', t38] (fun t39 w =>
    bin Try.prog BinOp.sub 3 false true bits8' (Value.int IntKind.i64 8) (fun t32 w =>
    B1 [b0, n1, size2, b3, n4, size5, t6, t7, t32, t39, t10, t11, t12, t13, t14, t15, t16, t17, t18, t19, t20, t21, t22, t23, t24, t25, t26, t27, t28, bits8', t30, bits8', t32, out9', n1, bits8', t36, t37, t38, t39, t40] w) w) w) w) w) w)
      (q0 [b0, n1, size2, b3, n4, size5, t6, t7, bits8', out9', t10, t11, t12, t13, t14, t15, t16, t17, t18, t19, t20, t21, t22, t23, t24, t25, t26, t27, t28, bits8', t30, (dd 31), (dd 32), (dd 33), (dd 34), (dd 35), (dd 36), (dd 37), (dd 38), (dd 39), t40] w)) w) :
    cCode Try.prog (cd Try.f73 [1, 1, 1, 1, 0, 1, 0, 0]) B1 (fun i => @Bool.rec (fun _ => KE) ((fun _ _ _ => False) i) q0 (Nat.beq i 1)) (retK Try.prog Try.f73.results.toList K) [b0, n1, size2, b3, n4, size5, t6, t7, bits8', out9', t10, t11, t12, t13, t14, t15, t16, t17, t18, t19, t20, t21, t22, t23, t24, t25, t26, t27, t28, (dd 29), (dd 30), (dd 31), (dd 32), (dd 33), (dd 34), (dd 35), (dd 36), (dd 37), (dd 38), (dd 39), t40] w := Eq.mp (by kernel_rfl) h

theorem octet_Put_L1_r {K : KV} {b0 n1 size2 b3 n4 size5 t6 t7 bits8 out9 t10 t11 t12 t13 t14 t15 t16 t17 t18 t19 t20 t21 t22 t23 t24 t25 t26 t27 t28 t29 t30 t31 t32 t33 t34 t35 t36 t37 t38 t39 t40 : Value} {w : World} (Inv : Value → Value → World → Prop) (μ : Value → Value → World → Nat) (h0 : Inv bits8 out9 w)
    (hs : ∀ (bits8' out9' : Value) (dd : Nat → Value) (w : World) (m : Nat), Inv bits8' out9' w → m = μ bits8' out9' w →
    bin Try.prog BinOp.geq 3 false true bits8' (Value.int IntKind.i64 0) (fun t30 w =>
    cond t30
      (bin Try.prog BinOp.shr 113 false false n1 bits8' (fun t36 w =>
    conv Try.prog 113 5 t36 (fun t37 w =>
    bldS Try.prog 29 1 #[(0, t37)] (fun t38 w =>
    blt Try.prog Builtin.append #[29, 29] 29 #[false, false] #[out9', t38] (fun t39 w =>
    bin Try.prog BinOp.sub 3 false true bits8' (Value.int IntKind.i64 8) (fun t32 w =>
    (Inv t32 t39 w ∧ μ t32 t39 w < m)) w) w) w) w) w)
      ((octet_Put_P1 K) [b0, n1, size2, b3, n4, size5, t6, t7, bits8', out9', t10, t11, t12, t13, t14, t15, t16, t17, t18, t19, t20, t21, t22, t23, t24, t25, t26, t27, t28, bits8', t30, (dd 31), (dd 32), (dd 33), (dd 34), (dd 35), (dd 36), (dd 37), (dd 38), (dd 39), t40] w)) w) :
    octet_Put_L1 K [b0, n1, size2, b3, n4, size5, t6, t7, bits8, out9, t10, t11, t12, t13, t14, t15, t16, t17, t18, t19, t20, t21, t22, t23, t24, t25, t26, t27, t28, t29, t30, t31, t32, t33, t34, t35, t36, t37, t38, t39, t40] w := by
  refine loop_rule (cd Try.f73 [1, 1, 1, 1, 0, 1, 0, 0]) [8, 9, 29, 30, 31, 32, 33, 34, 35, 36, 37, 38, 39] (by kernel_rfl) (fun e2 w2 => Inv (gd e2 8) (gd e2 9) w2) (fun e2 w2 => μ (gd e2 8) (gd e2 9) w2) h0 ?_
  intro e' w' hI
  have h := hs (gd e' 8) (gd e' 9) (fun i => gd e' i) w' _ hI rfl
  have h2 : cCode Try.prog (cd Try.f73 [1, 1, 1, 1, 0, 1, 0, 0]) (fun e2 w2 => Inv (gd e2 8) (gd e2 9) w2 ∧ μ (gd e2 8) (gd e2 9) w2 < μ (gd e' 8) (gd e' 9) w') (fun i => @Bool.rec (fun _ => KE) ((fun _ _ _ => False) i) (octet_Put_P1 K) (Nat.beq i 1)) (retK Try.prog Try.f73.results.toList K) [b0, n1, size2, b3, n4, size5, t6, t7, (gd e' 8), (gd e' 9), t10, t11, t12, t13, t14, t15, t16, t17, t18, t19, t20, t21, t22, t23, t24, t25, t26, t27, t28, (gd e' 29), (gd e' 30), (gd e' 31), (gd e' 32), (gd e' 33), (gd e' 34), (gd e' 35), (gd e' 36), (gd e' 37), (gd e' 38), (gd e' 39), t40] w' := octet_Put_L1_k (fun e2 w2 => Inv (gd e2 8) (gd e2 9) w2 ∧ μ (gd e2 8) (gd e2 9) w2 < μ (gd e' 8) (gd e' 9) w') (octet_Put_P1 K) (Eq.mp (by kernel_rfl) h)
  exact Eq.mp (by kernel_rfl) h2

theorem octet_Put_P1_k {K : KV} {b0 n1 size2 b3 n4 size5 t6 t7 bits8 out9 t10 t11 t12 t13 t14 t15 t16 t17 t18 t19 t20 t21 t22 t23 t24 t25 t26 t27 t28 t29 t30 t31 t32 t33 t34 t35 t36 t37 t38 t39 t40 : Value} {w : World}
    (h : K (Value.tuple #[out9, (Value.int IntKind.i64 0)]) w) :
    cCode Try.prog (cd Try.f73 [1, 1, 1, 1, 1]) (retK Try.prog Try.f73.results.toList K) (fun _ _ _ => False) (retK Try.prog Try.f73.results.toList K) [b0, n1, size2, b3, n4, size5, t6, t7, bits8, out9, t10, t11, t12, t13, t14, t15, t16, t17, t18, t19, t20, t21, t22, t23, t24, t25, t26, t27, t28, t29, t30, t31, t32, t33, t34, t35, t36, t37, t38, t39, t40] w := Eq.mp (by kernel_rfl) h

theorem octet_Put_P1_r {K : KV} {b0 n1 size2 b3 n4 size5 t6 t7 bits8 out9 t10 t11 t12 t13 t14 t15 t16 t17 t18 t19 t20 t21 t22 t23 t24 t25 t26 t27 t28 t29 t30 t31 t32 t33 t34 t35 t36 t37 t38 t39 t40 : Value} {w : World}
    (h : K (Value.tuple #[out9, (Value.int IntKind.i64 0)]) w) :
    octet_Put_P1 K [b0, n1, size2, b3, n4, size5, t6, t7, bits8, out9, t10, t11, t12, t13, t14, t15, t16, t17, t18, t19, t20, t21, t22, t23, t24, t25, t26, t27, t28, t29, t30, t31, t32, t33, t34, t35, t36, t37, t38, t39, t40] w := by
  delta octet_Put_P1
  exact Eq.mp (congrArg (fun c => cCode Try.prog c (retK Try.prog Try.f73.results.toList K) (fun _ _ _ => False) (retK Try.prog Try.f73.results.toList K) [b0, n1, size2, b3, n4, size5, t6, t7, bits8, out9, t10, t11, t12, t13, t14, t15, t16, t17, t18, t19, t20, t21, t22, t23, t24, t25, t26, t27, t28, t29, t30, t31, t32, t33, t34, t35, t36, t37, t38, t39, t40] w) (by kernel_rfl : (cd Try.f73 [1, 1, 1, 1, 1]) = (cd Try.f73 [1, 1, 1, 1, 1]))) (octet_Put_P1_k h)
attribute [irreducible] octet_Put_A1 octet_Put_P1 octet_Put_L1

def octet_Take_P1 (K : KV) : KE := cCode Try.prog (cd Try.f75 [1, 1]) (retK Try.prog Try.f75.results.toList K) (fun _ _ _ => False) (retK Try.prog Try.f75.results.toList K)
def octet_Take_P2 (K : KV) : KE := cCode Try.prog (cd Try.f75 [1, 0, 0, 1]) (octet_Take_P1 K) (fun i => @Bool.rec (fun _ => KE) ((fun _ _ _ => False) i) (octet_Take_P1 K) (Nat.beq i 0)) (retK Try.prog Try.f75.results.toList K)
def octet_Take_A1 (K : KV) : KE := cCode Try.prog (cd Try.f75 [1, 0, 0, 0, 1]) (octet_Take_P2 K) (fun i => @Bool.rec (fun _ => KE) ((fun _ _ _ => False) i) (octet_Take_P1 K) (Nat.beq i 0)) (retK Try.prog Try.f75.results.toList K)
def octet_Take_P3 (K : KV) : KE := cCode Try.prog (cd Try.f75 [1, 1, 1, 1]) (retK Try.prog Try.f75.results.toList K) (fun _ _ _ => False) (retK Try.prog Try.f75.results.toList K)
def octet_Take_L1 (K : KV) : KE := cCode Try.prog (cd Try.f75 [1, 1, 1, 0, 1, 0]) (octet_Take_P3 K) (fun i => @Bool.rec (fun _ => KE) ((fun _ _ _ => False) i) (octet_Take_P3 K) (Nat.beq i 1)) (retK Try.prog Try.f75.results.toList K)
theorem octet_Take_k {K : KV} (x0 : Code) {b0 at1 size2 : Value} {w : World}
    (h : call Try.prog 76 #[size2] (fun t13 w =>
    bin Try.prog BinOp.eql 3 false true t13 (Value.int IntKind.i64 0) (fun t14 w =>
    (cCode Try.prog x0 (cCode Try.prog (cd Try.f75 [1, 0, 0, 1]) (cCode Try.prog (cd Try.f75 [1, 1]) (retK Try.prog Try.f75.results.toList K) (fun _ _ _ => False) (retK Try.prog Try.f75.results.toList K)) (fun i => @Bool.rec (fun _ => KE) ((fun _ _ _ => False) i) (cCode Try.prog (cd Try.f75 [1, 1]) (retK Try.prog Try.f75.results.toList K) (fun _ _ _ => False) (retK Try.prog Try.f75.results.toList K)) (Nat.beq i 0)) (retK Try.prog Try.f75.results.toList K)) (fun i => @Bool.rec (fun _ => KE) ((fun _ _ _ => False) i) (cCode Try.prog (cd Try.f75 [1, 1]) (retK Try.prog Try.f75.results.toList K) (fun _ _ _ => False) (retK Try.prog Try.f75.results.toList K)) (Nat.beq i 0)) (retK Try.prog Try.f75.results.toList K)) (b0 :: at1 :: size2 :: undef :: undef :: undef :: (Value.int IntKind.u64 0) :: (Value.int IntKind.i64 0) :: (Value.int IntKind.i64 0) :: undef :: undef :: t14 :: size2 :: t13 :: t14 :: undef :: undef :: undef :: undef :: undef :: undef :: undef :: undef :: undef :: undef :: undef :: undef :: undef :: undef :: undef :: undef :: undef :: undef :: undef :: undef :: undef :: undef :: undef :: undef :: undef :: undef :: undef :: undef :: undef :: undef :: undef :: undef :: undef :: []) w) w) w) :
    cCode Try.prog (rep [1, 0, 0, 0, 1] x0 (cd Try.f75 [])) (retK Try.prog Try.f75.results.toList K) (fun _ _ _ => False) (retK Try.prog Try.f75.results.toList K) (b0 :: at1 :: size2 :: undef :: undef :: undef :: undef :: undef :: undef :: undef :: undef :: undef :: undef :: undef :: undef :: undef :: undef :: undef :: undef :: undef :: undef :: undef :: undef :: undef :: undef :: undef :: undef :: undef :: undef :: undef :: undef :: undef :: undef :: undef :: undef :: undef :: undef :: undef :: undef :: undef :: undef :: undef :: undef :: undef :: undef :: undef :: undef :: undef :: []) w := Eq.mp (by kernel_rfl) h

theorem octet_Take_in {K : KV} {b0 at1 size2 : Value} {w : World}
    (h : call Try.prog 76 #[size2] (fun t13 w =>
    bin Try.prog BinOp.eql 3 false true t13 (Value.int IntKind.i64 0) (fun t14 w =>
    (octet_Take_A1 K) (b0 :: at1 :: size2 :: undef :: undef :: undef :: (Value.int IntKind.u64 0) :: (Value.int IntKind.i64 0) :: (Value.int IntKind.i64 0) :: undef :: undef :: t14 :: size2 :: t13 :: t14 :: undef :: undef :: undef :: undef :: undef :: undef :: undef :: undef :: undef :: undef :: undef :: undef :: undef :: undef :: undef :: undef :: undef :: undef :: undef :: undef :: undef :: undef :: undef :: undef :: undef :: undef :: undef :: undef :: undef :: undef :: undef :: undef :: undef :: []) w) w) w) :
    Gives Try.prog 75 #[b0, at1, size2] w K := enter' Try.func75 (by kernel_rfl) (Eq.mp (congrArg (fun c => cCode Try.prog c (retK Try.prog Try.f75.results.toList K) (fun _ _ _ => False) (retK Try.prog Try.f75.results.toList K) (b0 :: at1 :: size2 :: undef :: undef :: undef :: undef :: undef :: undef :: undef :: undef :: undef :: undef :: undef :: undef :: undef :: undef :: undef :: undef :: undef :: undef :: undef :: undef :: undef :: undef :: undef :: undef :: undef :: undef :: undef :: undef :: undef :: undef :: undef :: undef :: undef :: undef :: undef :: undef :: undef :: undef :: undef :: undef :: undef :: undef :: undef :: undef :: undef :: []) w) (by kernel_rfl : (rep [1, 0, 0, 0, 1] (cd Try.f75 [1, 0, 0, 0, 1]) (cd Try.f75 [])) = (cd Try.f75 []))) (octet_Take_k (cd Try.f75 [1, 0, 0, 0, 1]) h))
theorem octet_Take_go : isGo Try.prog 75 := ⟨_, Try.func75, by kernel_rfl, by kernel_rfl⟩

theorem octet_Take_A1_k {K : KV} (q0 : KE) (q1 : KE) {b0 at1 size2 b3 at4 size5 n6 next7 e8 t9 c10 t11 t12 t13 t14 t15 t16 t17 t18 t19 t20 t21 t22 t23 t24 t25 t26 t27 t28 t29 t30 t31 t32 t33 t34 t35 t36 t37 t38 t39 t40 t41 t42 t43 t44 t45 t46 t47 : Value} {w : World}
    (h : cond t11
      (q0 (b0 :: at1 :: size2 :: b3 :: at4 :: size5 :: n6 :: next7 :: e8 :: t9 :: c10 :: t11 :: t12 :: t13 :: t14 :: t15 :: t16 :: t17 :: t18 :: t19 :: t20 :: t21 :: t22 :: t23 :: t24 :: t25 :: t26 :: t27 :: t28 :: t29 :: t30 :: t31 :: t32 :: t33 :: t34 :: t35 :: t36 :: t37 :: t38 :: t39 :: t40 :: t41 :: t42 :: t43 :: t44 :: t45 :: t46 :: t47 :: []) w)
      (bin Try.prog BinOp.lss 3 false true at1 (Value.int IntKind.i64 0) (fun t16 w =>
      cond t16
        (q0 (b0 :: at1 :: size2 :: b3 :: at4 :: size5 :: n6 :: next7 :: e8 :: t9 :: c10 :: t16 :: t12 :: t13 :: t14 :: at1 :: t16 :: t17 :: t18 :: t19 :: t20 :: t21 :: t22 :: t23 :: t24 :: t25 :: t26 :: t27 :: t28 :: t29 :: t30 :: t31 :: t32 :: t33 :: t34 :: t35 :: t36 :: t37 :: t38 :: t39 :: t40 :: t41 :: t42 :: t43 :: t44 :: t45 :: t46 :: t47 :: []) w)
        (blt Try.prog Builtin.len #[29] 3 #[false] #[b0] (fun t19 w =>
        bin Try.prog BinOp.gtr 3 false false at1 t19 (fun t20 w =>
        q0 (b0 :: at1 :: size2 :: b3 :: at4 :: size5 :: n6 :: next7 :: e8 :: t9 :: c10 :: t20 :: t12 :: t13 :: t14 :: at1 :: t16 :: at1 :: b0 :: t19 :: t20 :: t21 :: t22 :: t23 :: t24 :: t25 :: t26 :: t27 :: t28 :: t29 :: t30 :: t31 :: t32 :: t33 :: t34 :: t35 :: t36 :: t37 :: t38 :: t39 :: t40 :: t41 :: t42 :: t43 :: t44 :: t45 :: t46 :: t47 :: []) w) w) w)) w)) :
    cCode Try.prog (cd Try.f75 [1, 0, 0, 0, 1]) q0 (fun i => @Bool.rec (fun _ => KE) ((fun _ _ _ => False) i) q1 (Nat.beq i 0)) (retK Try.prog Try.f75.results.toList K) (b0 :: at1 :: size2 :: b3 :: at4 :: size5 :: n6 :: next7 :: e8 :: t9 :: c10 :: t11 :: t12 :: t13 :: t14 :: t15 :: t16 :: t17 :: t18 :: t19 :: t20 :: t21 :: t22 :: t23 :: t24 :: t25 :: t26 :: t27 :: t28 :: t29 :: t30 :: t31 :: t32 :: t33 :: t34 :: t35 :: t36 :: t37 :: t38 :: t39 :: t40 :: t41 :: t42 :: t43 :: t44 :: t45 :: t46 :: t47 :: []) w := Eq.mp (by kernel_rfl) h

theorem octet_Take_A1_r {K : KV} {b0 at1 size2 b3 at4 size5 n6 next7 e8 t9 c10 t11 t12 t13 t14 t15 t16 t17 t18 t19 t20 t21 t22 t23 t24 t25 t26 t27 t28 t29 t30 t31 t32 t33 t34 t35 t36 t37 t38 t39 t40 t41 t42 t43 t44 t45 t46 t47 : Value} {w : World}
    (h : cond t11
      ((octet_Take_P2 K) (b0 :: at1 :: size2 :: b3 :: at4 :: size5 :: n6 :: next7 :: e8 :: t9 :: c10 :: t11 :: t12 :: t13 :: t14 :: t15 :: t16 :: t17 :: t18 :: t19 :: t20 :: t21 :: t22 :: t23 :: t24 :: t25 :: t26 :: t27 :: t28 :: t29 :: t30 :: t31 :: t32 :: t33 :: t34 :: t35 :: t36 :: t37 :: t38 :: t39 :: t40 :: t41 :: t42 :: t43 :: t44 :: t45 :: t46 :: t47 :: []) w)
      (bin Try.prog BinOp.lss 3 false true at1 (Value.int IntKind.i64 0) (fun t16 w =>
      cond t16
        ((octet_Take_P2 K) (b0 :: at1 :: size2 :: b3 :: at4 :: size5 :: n6 :: next7 :: e8 :: t9 :: c10 :: t16 :: t12 :: t13 :: t14 :: at1 :: t16 :: t17 :: t18 :: t19 :: t20 :: t21 :: t22 :: t23 :: t24 :: t25 :: t26 :: t27 :: t28 :: t29 :: t30 :: t31 :: t32 :: t33 :: t34 :: t35 :: t36 :: t37 :: t38 :: t39 :: t40 :: t41 :: t42 :: t43 :: t44 :: t45 :: t46 :: t47 :: []) w)
        (blt Try.prog Builtin.len #[29] 3 #[false] #[b0] (fun t19 w =>
        bin Try.prog BinOp.gtr 3 false false at1 t19 (fun t20 w =>
        (octet_Take_P2 K) (b0 :: at1 :: size2 :: b3 :: at4 :: size5 :: n6 :: next7 :: e8 :: t9 :: c10 :: t20 :: t12 :: t13 :: t14 :: at1 :: t16 :: at1 :: b0 :: t19 :: t20 :: t21 :: t22 :: t23 :: t24 :: t25 :: t26 :: t27 :: t28 :: t29 :: t30 :: t31 :: t32 :: t33 :: t34 :: t35 :: t36 :: t37 :: t38 :: t39 :: t40 :: t41 :: t42 :: t43 :: t44 :: t45 :: t46 :: t47 :: []) w) w) w)) w)) :
    octet_Take_A1 K (b0 :: at1 :: size2 :: b3 :: at4 :: size5 :: n6 :: next7 :: e8 :: t9 :: c10 :: t11 :: t12 :: t13 :: t14 :: t15 :: t16 :: t17 :: t18 :: t19 :: t20 :: t21 :: t22 :: t23 :: t24 :: t25 :: t26 :: t27 :: t28 :: t29 :: t30 :: t31 :: t32 :: t33 :: t34 :: t35 :: t36 :: t37 :: t38 :: t39 :: t40 :: t41 :: t42 :: t43 :: t44 :: t45 :: t46 :: t47 :: []) w := by
  delta octet_Take_A1
  exact Eq.mp (congrArg (fun c => cCode Try.prog c (octet_Take_P2 K) (fun i => @Bool.rec (fun _ => KE) ((fun _ _ _ => False) i) (octet_Take_P1 K) (Nat.beq i 0)) (retK Try.prog Try.f75.results.toList K) (b0 :: at1 :: size2 :: b3 :: at4 :: size5 :: n6 :: next7 :: e8 :: t9 :: c10 :: t11 :: t12 :: t13 :: t14 :: t15 :: t16 :: t17 :: t18 :: t19 :: t20 :: t21 :: t22 :: t23 :: t24 :: t25 :: t26 :: t27 :: t28 :: t29 :: t30 :: t31 :: t32 :: t33 :: t34 :: t35 :: t36 :: t37 :: t38 :: t39 :: t40 :: t41 :: t42 :: t43 :: t44 :: t45 :: t46 :: t47 :: []) w) (by kernel_rfl : (cd Try.f75 [1, 0, 0, 0, 1]) = (cd Try.f75 [1, 0, 0, 0, 1]))) (octet_Take_A1_k (octet_Take_P2 K) (octet_Take_P1 K) h)

theorem octet_Take_P2_k {K : KV} (q0 : KE) {b0 at1 size2 b3 at4 size5 n6 next7 e8 t9 c10 t11 t12 t13 t14 t15 t16 t17 t18 t19 t20 t21 t22 t23 t24 t25 t26 t27 t28 t29 t30 t31 t32 t33 t34 t35 t36 t37 t38 t39 t40 t41 t42 t43 t44 t45 t46 t47 : Value} {w : World}
    (h : cond t11
      (K (Value.tuple #[(Value.int IntKind.u64 0), (Value.int IntKind.i64 0), (Value.int IntKind.i64 1)]) w)
      (blt Try.prog Builtin.len #[29] 3 #[false] #[b0] (fun t23 w =>
      bin Try.prog BinOp.sub 3 false false t23 at1 (fun t25 w =>
      bin Try.prog BinOp.lss 3 false false t25 size2 (fun t27 w =>
      cond t27
        (K (Value.tuple #[(Value.int IntKind.u64 0), (Value.int IntKind.i64 0), (Value.int IntKind.i64 5)]) w)
        (q0 (b0 :: at1 :: size2 :: b3 :: at4 :: size5 :: n6 :: next7 :: e8 :: t9 :: c10 :: t11 :: t12 :: t13 :: t14 :: t15 :: t16 :: t17 :: t18 :: t19 :: t20 :: t27 :: b0 :: t23 :: at1 :: t25 :: size2 :: t27 :: t28 :: t29 :: t30 :: t31 :: t32 :: t33 :: t34 :: t35 :: t36 :: t37 :: t38 :: t39 :: t40 :: t41 :: t42 :: t43 :: t44 :: t45 :: t46 :: t47 :: []) w)) w) w) w)) :
    cCode Try.prog (cd Try.f75 [1, 0, 0, 1]) q0 (fun i => @Bool.rec (fun _ => KE) ((fun _ _ _ => False) i) q0 (Nat.beq i 0)) (retK Try.prog Try.f75.results.toList K) (b0 :: at1 :: size2 :: b3 :: at4 :: size5 :: n6 :: next7 :: e8 :: t9 :: c10 :: t11 :: t12 :: t13 :: t14 :: t15 :: t16 :: t17 :: t18 :: t19 :: t20 :: t21 :: t22 :: t23 :: t24 :: t25 :: t26 :: t27 :: t28 :: t29 :: t30 :: t31 :: t32 :: t33 :: t34 :: t35 :: t36 :: t37 :: t38 :: t39 :: t40 :: t41 :: t42 :: t43 :: t44 :: t45 :: t46 :: t47 :: []) w := Eq.mp (by kernel_rfl) h

theorem octet_Take_P2_r {K : KV} {b0 at1 size2 b3 at4 size5 n6 next7 e8 t9 c10 t11 t12 t13 t14 t15 t16 t17 t18 t19 t20 t21 t22 t23 t24 t25 t26 t27 t28 t29 t30 t31 t32 t33 t34 t35 t36 t37 t38 t39 t40 t41 t42 t43 t44 t45 t46 t47 : Value} {w : World}
    (h : cond t11
      (K (Value.tuple #[(Value.int IntKind.u64 0), (Value.int IntKind.i64 0), (Value.int IntKind.i64 1)]) w)
      (blt Try.prog Builtin.len #[29] 3 #[false] #[b0] (fun t23 w =>
      bin Try.prog BinOp.sub 3 false false t23 at1 (fun t25 w =>
      bin Try.prog BinOp.lss 3 false false t25 size2 (fun t27 w =>
      cond t27
        (K (Value.tuple #[(Value.int IntKind.u64 0), (Value.int IntKind.i64 0), (Value.int IntKind.i64 5)]) w)
        ((octet_Take_P1 K) (b0 :: at1 :: size2 :: b3 :: at4 :: size5 :: n6 :: next7 :: e8 :: t9 :: c10 :: t11 :: t12 :: t13 :: t14 :: t15 :: t16 :: t17 :: t18 :: t19 :: t20 :: t27 :: b0 :: t23 :: at1 :: t25 :: size2 :: t27 :: t28 :: t29 :: t30 :: t31 :: t32 :: t33 :: t34 :: t35 :: t36 :: t37 :: t38 :: t39 :: t40 :: t41 :: t42 :: t43 :: t44 :: t45 :: t46 :: t47 :: []) w)) w) w) w)) :
    octet_Take_P2 K (b0 :: at1 :: size2 :: b3 :: at4 :: size5 :: n6 :: next7 :: e8 :: t9 :: c10 :: t11 :: t12 :: t13 :: t14 :: t15 :: t16 :: t17 :: t18 :: t19 :: t20 :: t21 :: t22 :: t23 :: t24 :: t25 :: t26 :: t27 :: t28 :: t29 :: t30 :: t31 :: t32 :: t33 :: t34 :: t35 :: t36 :: t37 :: t38 :: t39 :: t40 :: t41 :: t42 :: t43 :: t44 :: t45 :: t46 :: t47 :: []) w := by
  delta octet_Take_P2
  exact Eq.mp (congrArg (fun c => cCode Try.prog c (octet_Take_P1 K) (fun i => @Bool.rec (fun _ => KE) ((fun _ _ _ => False) i) (octet_Take_P1 K) (Nat.beq i 0)) (retK Try.prog Try.f75.results.toList K) (b0 :: at1 :: size2 :: b3 :: at4 :: size5 :: n6 :: next7 :: e8 :: t9 :: c10 :: t11 :: t12 :: t13 :: t14 :: t15 :: t16 :: t17 :: t18 :: t19 :: t20 :: t21 :: t22 :: t23 :: t24 :: t25 :: t26 :: t27 :: t28 :: t29 :: t30 :: t31 :: t32 :: t33 :: t34 :: t35 :: t36 :: t37 :: t38 :: t39 :: t40 :: t41 :: t42 :: t43 :: t44 :: t45 :: t46 :: t47 :: []) w) (by kernel_rfl : (cd Try.f75 [1, 0, 0, 1]) = (cd Try.f75 [1, 0, 0, 1]))) (octet_Take_P2_k (octet_Take_P1 K) h)

theorem octet_Take_P1_k {K : KV} {b0 at1 size2 b3 at4 size5 n6 next7 e8 t9 c10 t11 t12 t13 t14 t15 t16 t17 t18 t19 t20 t21 t22 t23 t24 t25 t26 t27 t28 t29 t30 t31 t32 t33 t34 t35 t36 t37 t38 t39 t40 t41 t42 t43 t44 t45 t46 t47 : Value} {w : World}
    (h : bin Try.prog BinOp.add 3 false false at1 size2 (fun t30 w =>
    slc Try.prog 29 b0 (some at1) (some t30) none (fun t34 w =>
    blt Try.prog Builtin.len #[29] 3 #[false] #[t34] (fun t35 w =>
    (cCode Try.prog (cd Try.f75 [1, 1, 1, 0, 1, 0]) (cCode Try.prog (cd Try.f75 [1, 1, 1, 1]) (retK Try.prog Try.f75.results.toList K) (fun _ _ _ => False) (retK Try.prog Try.f75.results.toList K)) (fun i => @Bool.rec (fun _ => KE) ((fun _ _ _ => False) i) (cCode Try.prog (cd Try.f75 [1, 1, 1, 1]) (retK Try.prog Try.f75.results.toList K) (fun _ _ _ => False) (retK Try.prog Try.f75.results.toList K)) (Nat.beq i 1)) (retK Try.prog Try.f75.results.toList K)) (b0 :: at1 :: size2 :: b3 :: at4 :: size5 :: n6 :: t30 :: e8 :: t9 :: c10 :: t11 :: t12 :: t13 :: t14 :: t15 :: t16 :: t17 :: t18 :: t19 :: t20 :: t21 :: t22 :: t23 :: t24 :: t25 :: t26 :: t27 :: at1 :: size2 :: t30 :: b0 :: at1 :: t30 :: t34 :: t35 :: (Value.int IntKind.i64 0) :: t37 :: t38 :: t39 :: t40 :: t41 :: t42 :: t43 :: t44 :: t45 :: t46 :: t47 :: []) w) w) w) w) :
    cCode Try.prog (cd Try.f75 [1, 1]) (retK Try.prog Try.f75.results.toList K) (fun _ _ _ => False) (retK Try.prog Try.f75.results.toList K) (b0 :: at1 :: size2 :: b3 :: at4 :: size5 :: n6 :: next7 :: e8 :: t9 :: c10 :: t11 :: t12 :: t13 :: t14 :: t15 :: t16 :: t17 :: t18 :: t19 :: t20 :: t21 :: t22 :: t23 :: t24 :: t25 :: t26 :: t27 :: t28 :: t29 :: t30 :: t31 :: t32 :: t33 :: t34 :: t35 :: t36 :: t37 :: t38 :: t39 :: t40 :: t41 :: t42 :: t43 :: t44 :: t45 :: t46 :: t47 :: []) w := Eq.mp (by kernel_rfl) h

theorem octet_Take_P1_r {K : KV} {b0 at1 size2 b3 at4 size5 n6 next7 e8 t9 c10 t11 t12 t13 t14 t15 t16 t17 t18 t19 t20 t21 t22 t23 t24 t25 t26 t27 t28 t29 t30 t31 t32 t33 t34 t35 t36 t37 t38 t39 t40 t41 t42 t43 t44 t45 t46 t47 : Value} {w : World}
    (h : bin Try.prog BinOp.add 3 false false at1 size2 (fun t30 w =>
    slc Try.prog 29 b0 (some at1) (some t30) none (fun t34 w =>
    blt Try.prog Builtin.len #[29] 3 #[false] #[t34] (fun t35 w =>
    (octet_Take_L1 K) (b0 :: at1 :: size2 :: b3 :: at4 :: size5 :: n6 :: t30 :: e8 :: t9 :: c10 :: t11 :: t12 :: t13 :: t14 :: t15 :: t16 :: t17 :: t18 :: t19 :: t20 :: t21 :: t22 :: t23 :: t24 :: t25 :: t26 :: t27 :: at1 :: size2 :: t30 :: b0 :: at1 :: t30 :: t34 :: t35 :: (Value.int IntKind.i64 0) :: t37 :: t38 :: t39 :: t40 :: t41 :: t42 :: t43 :: t44 :: t45 :: t46 :: t47 :: []) w) w) w) w) :
    octet_Take_P1 K (b0 :: at1 :: size2 :: b3 :: at4 :: size5 :: n6 :: next7 :: e8 :: t9 :: c10 :: t11 :: t12 :: t13 :: t14 :: t15 :: t16 :: t17 :: t18 :: t19 :: t20 :: t21 :: t22 :: t23 :: t24 :: t25 :: t26 :: t27 :: t28 :: t29 :: t30 :: t31 :: t32 :: t33 :: t34 :: t35 :: t36 :: t37 :: t38 :: t39 :: t40 :: t41 :: t42 :: t43 :: t44 :: t45 :: t46 :: t47 :: []) w := by
  delta octet_Take_P1
  exact Eq.mp (congrArg (fun c => cCode Try.prog c (retK Try.prog Try.f75.results.toList K) (fun _ _ _ => False) (retK Try.prog Try.f75.results.toList K) (b0 :: at1 :: size2 :: b3 :: at4 :: size5 :: n6 :: next7 :: e8 :: t9 :: c10 :: t11 :: t12 :: t13 :: t14 :: t15 :: t16 :: t17 :: t18 :: t19 :: t20 :: t21 :: t22 :: t23 :: t24 :: t25 :: t26 :: t27 :: t28 :: t29 :: t30 :: t31 :: t32 :: t33 :: t34 :: t35 :: t36 :: t37 :: t38 :: t39 :: t40 :: t41 :: t42 :: t43 :: t44 :: t45 :: t46 :: t47 :: []) w) (by kernel_rfl : (cd Try.f75 [1, 1]) = (cd Try.f75 [1, 1]))) (octet_Take_P1_k h)

theorem octet_Take_L1_k {K : KV} (B1 : KE) (q0 : KE) {b0 at1 size2 b3 at4 size5 n6' next7 e8 t9 t11 t12 t13 t14 t15 t16 t17 t18 t19 t20 t21 t22 t23 t24 t25 t26 t27 t28 t29 t30 t31 t32 t33 t34 t35 t36' t46 t47 : Value} {dd : Nat → Value} {w : World}
    (h : bin Try.prog BinOp.lss 3 false false t36' t35 (fun t37 w =>
    cond t37
      (idxA Try.prog 29 t34 t36' (fun t38 w =>
    ld Try.prog 5 t38 (fun t39 w =>
    bin Try.prog BinOp.shl 113 false true n6' (Value.int IntKind.u64 8) (fun t41 w =>
    conv Try.prog 5 113 t39 (fun t43 w =>
    bin Try.prog BinOp.or 113 false false t41 t43 (fun t44 w =>
    bin Try.prog BinOp.add 3 false true t36' (Value.int IntKind.i64 1) (fun t45 w =>
    B1 (b0 :: at1 :: size2 :: b3 :: at4 :: size5 :: t44 :: next7 :: e8 :: t9 :: t39 :: t11 :: t12 :: t13 :: t14 :: t15 :: t16 :: t17 :: t18 :: t19 :: t20 :: t21 :: t22 :: t23 :: t24 :: t25 :: t26 :: t27 :: t28 :: t29 :: t30 :: t31 :: t32 :: t33 :: t34 :: t35 :: t45 :: t37 :: t38 :: t39 :: n6' :: t41 :: t39 :: t43 :: t44 :: t45 :: t46 :: t47 :: []) w) w) w) w) w) w) w)
      (q0 (b0 :: at1 :: size2 :: b3 :: at4 :: size5 :: n6' :: next7 :: e8 :: t9 :: (dd 10) :: t11 :: t12 :: t13 :: t14 :: t15 :: t16 :: t17 :: t18 :: t19 :: t20 :: t21 :: t22 :: t23 :: t24 :: t25 :: t26 :: t27 :: t28 :: t29 :: t30 :: t31 :: t32 :: t33 :: t34 :: t35 :: t36' :: t37 :: (dd 38) :: (dd 39) :: (dd 40) :: (dd 41) :: (dd 42) :: (dd 43) :: (dd 44) :: (dd 45) :: t46 :: t47 :: []) w)) w) :
    cCode Try.prog (cd Try.f75 [1, 1, 1, 0, 1, 0, 0]) B1 (fun i => @Bool.rec (fun _ => KE) ((fun _ _ _ => False) i) q0 (Nat.beq i 1)) (retK Try.prog Try.f75.results.toList K) (b0 :: at1 :: size2 :: b3 :: at4 :: size5 :: n6' :: next7 :: e8 :: t9 :: (dd 10) :: t11 :: t12 :: t13 :: t14 :: t15 :: t16 :: t17 :: t18 :: t19 :: t20 :: t21 :: t22 :: t23 :: t24 :: t25 :: t26 :: t27 :: t28 :: t29 :: t30 :: t31 :: t32 :: t33 :: t34 :: t35 :: t36' :: (dd 37) :: (dd 38) :: (dd 39) :: (dd 40) :: (dd 41) :: (dd 42) :: (dd 43) :: (dd 44) :: (dd 45) :: t46 :: t47 :: []) w := Eq.mp (by kernel_rfl) h

theorem octet_Take_L1_r {K : KV} {b0 at1 size2 b3 at4 size5 n6 next7 e8 t9 c10 t11 t12 t13 t14 t15 t16 t17 t18 t19 t20 t21 t22 t23 t24 t25 t26 t27 t28 t29 t30 t31 t32 t33 t34 t35 t36 t37 t38 t39 t40 t41 t42 t43 t44 t45 t46 t47 : Value} {w : World} (Inv : Value → Value → World → Prop) (μ : Value → Value → World → Nat) (h0 : Inv n6 t36 w)
    (hs : ∀ (n6' t36' : Value) (dd : Nat → Value) (w : World) (m : Nat), Inv n6' t36' w → m = μ n6' t36' w →
    bin Try.prog BinOp.lss 3 false false t36' t35 (fun t37 w =>
    cond t37
      (idxA Try.prog 29 t34 t36' (fun t38 w =>
    ld Try.prog 5 t38 (fun t39 w =>
    bin Try.prog BinOp.shl 113 false true n6' (Value.int IntKind.u64 8) (fun t41 w =>
    conv Try.prog 5 113 t39 (fun t43 w =>
    bin Try.prog BinOp.or 113 false false t41 t43 (fun t44 w =>
    bin Try.prog BinOp.add 3 false true t36' (Value.int IntKind.i64 1) (fun t45 w =>
    (Inv t44 t45 w ∧ μ t44 t45 w < m)) w) w) w) w) w) w)
      ((octet_Take_P3 K) (b0 :: at1 :: size2 :: b3 :: at4 :: size5 :: n6' :: next7 :: e8 :: t9 :: (dd 10) :: t11 :: t12 :: t13 :: t14 :: t15 :: t16 :: t17 :: t18 :: t19 :: t20 :: t21 :: t22 :: t23 :: t24 :: t25 :: t26 :: t27 :: t28 :: t29 :: t30 :: t31 :: t32 :: t33 :: t34 :: t35 :: t36' :: t37 :: (dd 38) :: (dd 39) :: (dd 40) :: (dd 41) :: (dd 42) :: (dd 43) :: (dd 44) :: (dd 45) :: t46 :: t47 :: []) w)) w) :
    octet_Take_L1 K (b0 :: at1 :: size2 :: b3 :: at4 :: size5 :: n6 :: next7 :: e8 :: t9 :: c10 :: t11 :: t12 :: t13 :: t14 :: t15 :: t16 :: t17 :: t18 :: t19 :: t20 :: t21 :: t22 :: t23 :: t24 :: t25 :: t26 :: t27 :: t28 :: t29 :: t30 :: t31 :: t32 :: t33 :: t34 :: t35 :: t36 :: t37 :: t38 :: t39 :: t40 :: t41 :: t42 :: t43 :: t44 :: t45 :: t46 :: t47 :: []) w := by
  refine loop_rule (cd Try.f75 [1, 1, 1, 0, 1, 0, 0]) [6, 10, 36, 37, 38, 39, 40, 41, 42, 43, 44, 45] (by kernel_rfl) (fun e2 w2 => Inv (gd e2 6) (gd e2 36) w2) (fun e2 w2 => μ (gd e2 6) (gd e2 36) w2) h0 ?_
  intro e' w' hI
  have h := hs (gd e' 6) (gd e' 36) (fun i => gd e' i) w' _ hI rfl
  have h2 : cCode Try.prog (cd Try.f75 [1, 1, 1, 0, 1, 0, 0]) (fun e2 w2 => Inv (gd e2 6) (gd e2 36) w2 ∧ μ (gd e2 6) (gd e2 36) w2 < μ (gd e' 6) (gd e' 36) w') (fun i => @Bool.rec (fun _ => KE) ((fun _ _ _ => False) i) (octet_Take_P3 K) (Nat.beq i 1)) (retK Try.prog Try.f75.results.toList K) (b0 :: at1 :: size2 :: b3 :: at4 :: size5 :: (gd e' 6) :: next7 :: e8 :: t9 :: (gd e' 10) :: t11 :: t12 :: t13 :: t14 :: t15 :: t16 :: t17 :: t18 :: t19 :: t20 :: t21 :: t22 :: t23 :: t24 :: t25 :: t26 :: t27 :: t28 :: t29 :: t30 :: t31 :: t32 :: t33 :: t34 :: t35 :: (gd e' 36) :: (gd e' 37) :: (gd e' 38) :: (gd e' 39) :: (gd e' 40) :: (gd e' 41) :: (gd e' 42) :: (gd e' 43) :: (gd e' 44) :: (gd e' 45) :: t46 :: t47 :: []) w' := octet_Take_L1_k (fun e2 w2 => Inv (gd e2 6) (gd e2 36) w2 ∧ μ (gd e2 6) (gd e2 36) w2 < μ (gd e' 6) (gd e' 36) w') (octet_Take_P3 K) (Eq.mp (by kernel_rfl) h)
  exact Eq.mp (by kernel_rfl) h2

theorem octet_Take_P3_k {K : KV} {b0 at1 size2 b3 at4 size5 n6 next7 e8 t9 c10 t11 t12 t13 t14 t15 t16 t17 t18 t19 t20 t21 t22 t23 t24 t25 t26 t27 t28 t29 t30 t31 t32 t33 t34 t35 t36 t37 t38 t39 t40 t41 t42 t43 t44 t45 t46 t47 : Value} {w : World}
    (h : K (Value.tuple #[n6, next7, (Value.int IntKind.i64 0)]) w) :
    cCode Try.prog (cd Try.f75 [1, 1, 1, 1]) (retK Try.prog Try.f75.results.toList K) (fun _ _ _ => False) (retK Try.prog Try.f75.results.toList K) (b0 :: at1 :: size2 :: b3 :: at4 :: size5 :: n6 :: next7 :: e8 :: t9 :: c10 :: t11 :: t12 :: t13 :: t14 :: t15 :: t16 :: t17 :: t18 :: t19 :: t20 :: t21 :: t22 :: t23 :: t24 :: t25 :: t26 :: t27 :: t28 :: t29 :: t30 :: t31 :: t32 :: t33 :: t34 :: t35 :: t36 :: t37 :: t38 :: t39 :: t40 :: t41 :: t42 :: t43 :: t44 :: t45 :: t46 :: t47 :: []) w := Eq.mp (by kernel_rfl) h

theorem octet_Take_P3_r {K : KV} {b0 at1 size2 b3 at4 size5 n6 next7 e8 t9 c10 t11 t12 t13 t14 t15 t16 t17 t18 t19 t20 t21 t22 t23 t24 t25 t26 t27 t28 t29 t30 t31 t32 t33 t34 t35 t36 t37 t38 t39 t40 t41 t42 t43 t44 t45 t46 t47 : Value} {w : World}
    (h : K (Value.tuple #[n6, next7, (Value.int IntKind.i64 0)]) w) :
    octet_Take_P3 K (b0 :: at1 :: size2 :: b3 :: at4 :: size5 :: n6 :: next7 :: e8 :: t9 :: c10 :: t11 :: t12 :: t13 :: t14 :: t15 :: t16 :: t17 :: t18 :: t19 :: t20 :: t21 :: t22 :: t23 :: t24 :: t25 :: t26 :: t27 :: t28 :: t29 :: t30 :: t31 :: t32 :: t33 :: t34 :: t35 :: t36 :: t37 :: t38 :: t39 :: t40 :: t41 :: t42 :: t43 :: t44 :: t45 :: t46 :: t47 :: []) w := by
  delta octet_Take_P3
  exact Eq.mp (congrArg (fun c => cCode Try.prog c (retK Try.prog Try.f75.results.toList K) (fun _ _ _ => False) (retK Try.prog Try.f75.results.toList K) (b0 :: at1 :: size2 :: b3 :: at4 :: size5 :: n6 :: next7 :: e8 :: t9 :: c10 :: t11 :: t12 :: t13 :: t14 :: t15 :: t16 :: t17 :: t18 :: t19 :: t20 :: t21 :: t22 :: t23 :: t24 :: t25 :: t26 :: t27 :: t28 :: t29 :: t30 :: t31 :: t32 :: t33 :: t34 :: t35 :: t36 :: t37 :: t38 :: t39 :: t40 :: t41 :: t42 :: t43 :: t44 :: t45 :: t46 :: t47 :: []) w) (by kernel_rfl : (cd Try.f75 [1, 1, 1, 1]) = (cd Try.f75 [1, 1, 1, 1]))) (octet_Take_P3_k h)
attribute [irreducible] octet_Take_P1 octet_Take_P2 octet_Take_A1 octet_Take_P3 octet_Take_L1

end Go.Proofs.Ytjkmblbonambjaa
