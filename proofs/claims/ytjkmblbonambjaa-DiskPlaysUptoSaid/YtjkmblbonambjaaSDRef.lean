/- Written by program (gen.py): what the code of some functions asks, part by part; each text is checked by the kernel against the translation. -/
import Derived.Test.YtjkmblbonambjaaSh
import Derived.Test.YtjkmblbonambjaaChecked
namespace Go.Proofs.Ytjkmblbonambjaa
open Go.RowKit
set_option maxRecDepth 100000


theorem leatref04_New_k {K : KV} {w : World}
    (h : bld Try.prog 40 #[(3, (Value.int IntKind.i64 (-1)))] (fun t1 w =>
    box Try.prog 40 t1 (fun t2 w =>
    K t2 w) w) w) :
    cCode Try.prog (cd Try.f12 []) (retK Try.prog Try.f12.results.toList K) (fun _ _ _ => False) (retK Try.prog Try.f12.results.toList K) [undef, undef, undef] w := Eq.mp (by kernel_rfl) h

theorem leatref04_New_in {K : KV} {w : World}
    (h : bld Try.prog 40 #[(3, (Value.int IntKind.i64 (-1)))] (fun t1 w =>
    box Try.prog 40 t1 (fun t2 w =>
    K t2 w) w) w) :
    Gives Try.prog 12 #[] w K := enter' Try.func12 (by kernel_rfl) (Eq.mp (congrArg (fun c => cCode Try.prog c (retK Try.prog Try.f12.results.toList K) (fun _ _ _ => False) (retK Try.prog Try.f12.results.toList K) [undef, undef, undef] w) (by kernel_rfl : (cd Try.f12 []) = (cd Try.f12 []))) (leatref04_New_k (h : bld Try.prog 40 #[(3, (Value.int IntKind.i64 (-1)))] (fun t1 w =>
    box Try.prog 40 t1 (fun t2 w =>
    K t2 w) w) w)))
theorem leatref04_New_go : isGo Try.prog 12 := ⟨_, Try.func12, by kernel_rfl, by kernel_rfl⟩

def leatref04_Files_With_P1 (K : KV) : KE := cCode Try.prog (cd Try.f63 [1, 1]) (retK Try.prog Try.f63.results.toList K) (fun _ _ _ => False) (retK Try.prog Try.f63.results.toList K)
def leatref04_Files_With_A1 (K : KV) : KE := cCode Try.prog (cd Try.f63 [1, 0, 1]) (leatref04_Files_With_P1 K) (fun _ _ _ => False) (retK Try.prog Try.f63.results.toList K)
theorem leatref04_Files_With_k {K : KV} (x0 : Code) {f0 c1 : Value} {w : World}
    (h : box Try.prog 37 f0 (fun f2 w =>
    box Try.prog 74 c1 (fun c3 w =>
    alc Try.prog 37 (fun t4 w =>
    fldA Try.prog 74 c3 0 (fun t5 w =>
    ld Try.prog 3 t5 (fun t6 w =>
    (cCode Try.prog x0 (cCode Try.prog (cd Try.f63 [1, 1]) (retK Try.prog Try.f63.results.toList K) (fun _ _ _ => False) (retK Try.prog Try.f63.results.toList K)) (fun _ _ _ => False) (retK Try.prog Try.f63.results.toList K)) [f0, c1, f2, c3, t4, t5, t6, undef, undef, undef, undef, undef, undef, undef, undef, undef, undef, undef, undef, undef, undef, undef, undef, undef, undef, undef, undef, undef, undef, undef, undef, undef, undef, undef, undef, undef] w) w) w) w) w) w) :
    cCode Try.prog (rep [1, 0, 1] x0 (cd Try.f63 [])) (retK Try.prog Try.f63.results.toList K) (fun _ _ _ => False) (retK Try.prog Try.f63.results.toList K) [f0, c1, undef, undef, undef, undef, undef, undef, undef, undef, undef, undef, undef, undef, undef, undef, undef, undef, undef, undef, undef, undef, undef, undef, undef, undef, undef, undef, undef, undef, undef, undef, undef, undef, undef, undef] w := Eq.mp (by kernel_rfl) h

theorem leatref04_Files_With_in {K : KV} {f0 c1 : Value} {w : World}
    (h : box Try.prog 37 f0 (fun f2 w =>
    box Try.prog 74 c1 (fun c3 w =>
    alc Try.prog 37 (fun t4 w =>
    fldA Try.prog 74 c3 0 (fun t5 w =>
    ld Try.prog 3 t5 (fun t6 w =>
    (leatref04_Files_With_A1 K) [f0, c1, f2, c3, t4, t5, t6, undef, undef, undef, undef, undef, undef, undef, undef, undef, undef, undef, undef, undef, undef, undef, undef, undef, undef, undef, undef, undef, undef, undef, undef, undef, undef, undef, undef, undef] w) w) w) w) w) w) :
    Gives Try.prog 63 #[f0, c1] w K := enter' Try.func63 (by kernel_rfl) (Eq.mp (congrArg (fun c => cCode Try.prog c (retK Try.prog Try.f63.results.toList K) (fun _ _ _ => False) (retK Try.prog Try.f63.results.toList K) [f0, c1, undef, undef, undef, undef, undef, undef, undef, undef, undef, undef, undef, undef, undef, undef, undef, undef, undef, undef, undef, undef, undef, undef, undef, undef, undef, undef, undef, undef, undef, undef, undef, undef, undef, undef] w) (by kernel_rfl : (rep [1, 0, 1] (cd Try.f63 [1, 0, 1]) (cd Try.f63 [])) = (cd Try.f63 []))) (leatref04_Files_With_k (cd Try.f63 [1, 0, 1]) (h : box Try.prog 37 f0 (fun f2 w =>
    box Try.prog 74 c1 (fun c3 w =>
    alc Try.prog 37 (fun t4 w =>
    fldA Try.prog 74 c3 0 (fun t5 w =>
    ld Try.prog 3 t5 (fun t6 w =>
    (leatref04_Files_With_A1 K) [f0, c1, f2, c3, t4, t5, t6, undef, undef, undef, undef, undef, undef, undef, undef, undef, undef, undef, undef, undef, undef, undef, undef, undef, undef, undef, undef, undef, undef, undef, undef, undef, undef, undef, undef, undef] w) w) w) w) w) w)))
theorem leatref04_Files_With_go : isGo Try.prog 63 := ⟨_, Try.func63, by kernel_rfl, by kernel_rfl⟩

theorem leatref04_Files_With_A1_k {K : KV} (q0 : KE) {f0 c1 f2 c3 t4 t5 t6 t7 t8 t9 t10 t11 t12 t13 t14 t15 t16 t17 t18 t19 t20 t21 t22 t23 t24 t25 t26 t27 t28 t29 t30 t31 t32 t33 t34 t35 : Value} {w : World}
    (h : bin Try.prog BinOp.eql 3 false true t6 (Value.int IntKind.i64 1) (fun t12 w =>
    cond t12
      ((fun w =>
      sti (fun k w => fldA Try.prog 74 c3 1 k w) (fun t13 w =>
      sti (fun k w => ld Try.prog 3 t13 k w) (fun t14 w =>
      sti (fun k w => fldA Try.prog 74 c3 1 k w) (fun t15 w =>
      sti (fun k w => ld Try.prog 3 t15 k w) (fun t16 w =>
      sti (fun k w => idxA Try.prog 37 f2 t16 k w) (fun t17 w =>
      sti (fun k w => ld Try.prog 9 t17 k w) (fun t18 w =>
      sti (fun k w => fldA Try.prog 74 c3 3 k w) (fun t19 w =>
      sti (fun k w => ld Try.prog 9 t19 k w) (fun t20 w =>
      sti (fun k w => bin Try.prog BinOp.add 9 false false t18 t20 k w) (fun t21 w =>
      sti (fun k w => idxA Try.prog 37 f2 t14 k w) (fun t22 w =>
      sto Try.prog 9 t22 t21 (fun _t w =>
      q0 [f0, c1, f2, c3, t4, t5, t6, t7, t8, t9, t10, t12, t12, t13, t14, t15, t16, t17, t18, t19, t20, t21, t22, t23, t24, t25, t26, t27, t28, t29, t30, t31, t32, t33, t34, t35] w) w) w) w) w) w) w) w) w) w) w) w) w.drew)
      (bin Try.prog BinOp.eql 3 false true t6 (Value.int IntKind.i64 2) (fun t24 w =>
      cond t24
        ((fun w =>
        sti (fun k w => fldA Try.prog 74 c3 1 k w) (fun t25 w =>
        sti (fun k w => ld Try.prog 3 t25 k w) (fun t26 w =>
        sti (fun k w => fldA Try.prog 74 c3 1 k w) (fun t27 w =>
        sti (fun k w => ld Try.prog 3 t27 k w) (fun t28 w =>
        sti (fun k w => idxA Try.prog 37 f2 t28 k w) (fun t29 w =>
        sti (fun k w => ld Try.prog 9 t29 k w) (fun t30 w =>
        sti (fun k w => fldA Try.prog 74 c3 2 k w) (fun t31 w =>
        sti (fun k w => ld Try.prog 3 t31 k w) (fun t32 w =>
        sti (fun k w => slc Try.prog 9 t30 none (some t32) none k w) (fun t33 w =>
        sti (fun k w => idxA Try.prog 37 f2 t26 k w) (fun t34 w =>
        sto Try.prog 9 t34 t33 (fun _t w =>
        q0 [f0, c1, f2, c3, t4, t5, t6, t7, t8, t9, t10, t12, t12, t13, t14, t15, t16, t17, t18, t19, t20, t21, t22, t24, t24, t25, t26, t27, t28, t29, t30, t31, t32, t33, t34, t35] w) w) w) w) w) w) w) w) w) w) w) w) w.drew)
        (idxA Try.prog 37 f2 (Value.int IntKind.i64 1) (fun t7 w =>
        ld Try.prog 9 t7 (fun t8 w =>
        idxA Try.prog 37 f2 (Value.int IntKind.i64 0) (fun t9 w =>
        sto Try.prog 9 t9 t8 (fun _t w =>
        idxA Try.prog 37 f2 (Value.int IntKind.i64 1) (fun t10 w =>
        sto Try.prog 9 t10 (Value.string (bstr [])) (fun _t w =>
        q0 [f0, c1, f2, c3, t4, t5, t6, t7, t8, t9, t10, t12, t12, t13, t14, t15, t16, t17, t18, t19, t20, t21, t22, t24, t24, t25, t26, t27, t28, t29, t30, t31, t32, t33, t34, t35] w) w) w) w) w) w) w)) w)) w) :
    cCode Try.prog (cd Try.f63 [1, 0, 1]) q0 (fun _ _ _ => False) (retK Try.prog Try.f63.results.toList K) [f0, c1, f2, c3, t4, t5, t6, t7, t8, t9, t10, t11, t12, t13, t14, t15, t16, t17, t18, t19, t20, t21, t22, t23, t24, t25, t26, t27, t28, t29, t30, t31, t32, t33, t34, t35] w := Eq.mp (by kernel_rfl) h

theorem leatref04_Files_With_A1_r {K : KV} {f0 c1 f2 c3 t4 t5 t6 t7 t8 t9 t10 t11 t12 t13 t14 t15 t16 t17 t18 t19 t20 t21 t22 t23 t24 t25 t26 t27 t28 t29 t30 t31 t32 t33 t34 t35 : Value} {w : World}
    (h : bin Try.prog BinOp.eql 3 false true t6 (Value.int IntKind.i64 1) (fun t12 w =>
    cond t12
      ((fun w =>
      sti (fun k w => fldA Try.prog 74 c3 1 k w) (fun t13 w =>
      sti (fun k w => ld Try.prog 3 t13 k w) (fun t14 w =>
      sti (fun k w => fldA Try.prog 74 c3 1 k w) (fun t15 w =>
      sti (fun k w => ld Try.prog 3 t15 k w) (fun t16 w =>
      sti (fun k w => idxA Try.prog 37 f2 t16 k w) (fun t17 w =>
      sti (fun k w => ld Try.prog 9 t17 k w) (fun t18 w =>
      sti (fun k w => fldA Try.prog 74 c3 3 k w) (fun t19 w =>
      sti (fun k w => ld Try.prog 9 t19 k w) (fun t20 w =>
      sti (fun k w => bin Try.prog BinOp.add 9 false false t18 t20 k w) (fun t21 w =>
      sti (fun k w => idxA Try.prog 37 f2 t14 k w) (fun t22 w =>
      sto Try.prog 9 t22 t21 (fun _t w =>
      (leatref04_Files_With_P1 K) [f0, c1, f2, c3, t4, t5, t6, t7, t8, t9, t10, t12, t12, t13, t14, t15, t16, t17, t18, t19, t20, t21, t22, t23, t24, t25, t26, t27, t28, t29, t30, t31, t32, t33, t34, t35] w) w) w) w) w) w) w) w) w) w) w) w) w.drew)
      (bin Try.prog BinOp.eql 3 false true t6 (Value.int IntKind.i64 2) (fun t24 w =>
      cond t24
        ((fun w =>
        sti (fun k w => fldA Try.prog 74 c3 1 k w) (fun t25 w =>
        sti (fun k w => ld Try.prog 3 t25 k w) (fun t26 w =>
        sti (fun k w => fldA Try.prog 74 c3 1 k w) (fun t27 w =>
        sti (fun k w => ld Try.prog 3 t27 k w) (fun t28 w =>
        sti (fun k w => idxA Try.prog 37 f2 t28 k w) (fun t29 w =>
        sti (fun k w => ld Try.prog 9 t29 k w) (fun t30 w =>
        sti (fun k w => fldA Try.prog 74 c3 2 k w) (fun t31 w =>
        sti (fun k w => ld Try.prog 3 t31 k w) (fun t32 w =>
        sti (fun k w => slc Try.prog 9 t30 none (some t32) none k w) (fun t33 w =>
        sti (fun k w => idxA Try.prog 37 f2 t26 k w) (fun t34 w =>
        sto Try.prog 9 t34 t33 (fun _t w =>
        (leatref04_Files_With_P1 K) [f0, c1, f2, c3, t4, t5, t6, t7, t8, t9, t10, t12, t12, t13, t14, t15, t16, t17, t18, t19, t20, t21, t22, t24, t24, t25, t26, t27, t28, t29, t30, t31, t32, t33, t34, t35] w) w) w) w) w) w) w) w) w) w) w) w) w.drew)
        (idxA Try.prog 37 f2 (Value.int IntKind.i64 1) (fun t7 w =>
        ld Try.prog 9 t7 (fun t8 w =>
        idxA Try.prog 37 f2 (Value.int IntKind.i64 0) (fun t9 w =>
        sto Try.prog 9 t9 t8 (fun _t w =>
        idxA Try.prog 37 f2 (Value.int IntKind.i64 1) (fun t10 w =>
        sto Try.prog 9 t10 (Value.string (bstr [])) (fun _t w =>
        (leatref04_Files_With_P1 K) [f0, c1, f2, c3, t4, t5, t6, t7, t8, t9, t10, t12, t12, t13, t14, t15, t16, t17, t18, t19, t20, t21, t22, t24, t24, t25, t26, t27, t28, t29, t30, t31, t32, t33, t34, t35] w) w) w) w) w) w) w)) w)) w) :
    leatref04_Files_With_A1 K [f0, c1, f2, c3, t4, t5, t6, t7, t8, t9, t10, t11, t12, t13, t14, t15, t16, t17, t18, t19, t20, t21, t22, t23, t24, t25, t26, t27, t28, t29, t30, t31, t32, t33, t34, t35] w := by
  delta leatref04_Files_With_A1
  exact Eq.mp (congrArg (fun c => cCode Try.prog c (leatref04_Files_With_P1 K) (fun _ _ _ => False) (retK Try.prog Try.f63.results.toList K) [f0, c1, f2, c3, t4, t5, t6, t7, t8, t9, t10, t11, t12, t13, t14, t15, t16, t17, t18, t19, t20, t21, t22, t23, t24, t25, t26, t27, t28, t29, t30, t31, t32, t33, t34, t35] w) (by kernel_rfl : (cd Try.f63 [1, 0, 1]) = (cd Try.f63 [1, 0, 1]))) (leatref04_Files_With_A1_k (leatref04_Files_With_P1 K) h)

theorem leatref04_Files_With_P1_k {K : KV} {f0 c1 f2 c3 t4 t5 t6 t7 t8 t9 t10 t11 t12 t13 t14 t15 t16 t17 t18 t19 t20 t21 t22 t23 t24 t25 t26 t27 t28 t29 t30 t31 t32 t33 t34 t35 : Value} {w : World}
    (h : ld Try.prog 37 f2 (fun t35 w =>
    sto Try.prog 37 t4 t35 (fun _t w =>
    retM Try.prog [(some 37, t4)] K w) w) w) :
    cCode Try.prog (cd Try.f63 [1, 1]) (retK Try.prog Try.f63.results.toList K) (fun _ _ _ => False) (retK Try.prog Try.f63.results.toList K) [f0, c1, f2, c3, t4, t5, t6, t7, t8, t9, t10, t11, t12, t13, t14, t15, t16, t17, t18, t19, t20, t21, t22, t23, t24, t25, t26, t27, t28, t29, t30, t31, t32, t33, t34, t35] w := Eq.mp (by kernel_rfl) h

theorem leatref04_Files_With_P1_r {K : KV} {f0 c1 f2 c3 t4 t5 t6 t7 t8 t9 t10 t11 t12 t13 t14 t15 t16 t17 t18 t19 t20 t21 t22 t23 t24 t25 t26 t27 t28 t29 t30 t31 t32 t33 t34 t35 : Value} {w : World}
    (h : ld Try.prog 37 f2 (fun t35 w =>
    sto Try.prog 37 t4 t35 (fun _t w =>
    retM Try.prog [(some 37, t4)] K w) w) w) :
    leatref04_Files_With_P1 K [f0, c1, f2, c3, t4, t5, t6, t7, t8, t9, t10, t11, t12, t13, t14, t15, t16, t17, t18, t19, t20, t21, t22, t23, t24, t25, t26, t27, t28, t29, t30, t31, t32, t33, t34, t35] w := by
  delta leatref04_Files_With_P1
  exact Eq.mp (congrArg (fun c => cCode Try.prog c (retK Try.prog Try.f63.results.toList K) (fun _ _ _ => False) (retK Try.prog Try.f63.results.toList K) [f0, c1, f2, c3, t4, t5, t6, t7, t8, t9, t10, t11, t12, t13, t14, t15, t16, t17, t18, t19, t20, t21, t22, t23, t24, t25, t26, t27, t28, t29, t30, t31, t32, t33, t34, t35] w) (by kernel_rfl : (cd Try.f63 [1, 1]) = (cd Try.f63 [1, 1]))) (leatref04_Files_With_P1_k h)
attribute [irreducible] leatref04_Files_With_P1 leatref04_Files_With_A1

def leatref04_Disk_Now_P1 (K : KV) : KE := cCode Try.prog (cd Try.f43 [1, 1, 1]) (retK Try.prog Try.f43.results.toList K) (fun _ _ _ => False) (retK Try.prog Try.f43.results.toList K)
def leatref04_Disk_Now_L1 (K : KV) : KE := cCode Try.prog (cd Try.f43 [1, 1, 0, 1, 0]) (leatref04_Disk_Now_P1 K) (fun i => @Bool.rec (fun _ => KE) ((fun _ _ _ => False) i) (leatref04_Disk_Now_P1 K) (Nat.beq i 0)) (retK Try.prog Try.f43.results.toList K)
theorem leatref04_Disk_Now_k {K : KV} {d0 : Value} {w : World}
    (h : alc Try.prog 37 (fun t2 w =>
    nilC d0 (fun t6 w =>
    fldA Try.prog 40 t6 0 (fun t7 w =>
    ld Try.prog 37 t7 (fun t8 w =>
    alc Try.prog 37 (fun f3 w =>
    sto Try.prog 37 f3 t8 (fun _t w =>
    (cCode Try.prog (cd Try.f43 [1, 1, 0, 1, 0]) (cCode Try.prog (cd Try.f43 [1, 1, 1]) (retK Try.prog Try.f43.results.toList K) (fun _ _ _ => False) (retK Try.prog Try.f43.results.toList K)) (fun i => @Bool.rec (fun _ => KE) ((fun _ _ _ => False) i) (cCode Try.prog (cd Try.f43 [1, 1, 1]) (retK Try.prog Try.f43.results.toList K) (fun _ _ _ => False) (retK Try.prog Try.f43.results.toList K)) (Nat.beq i 0)) (retK Try.prog Try.f43.results.toList K)) [d0, undef, t2, f3, (Value.int IntKind.i64 0), d0, t6, t7, t8, undef, undef, undef, undef, undef, undef, undef, undef, undef, undef, undef, undef, undef, undef, undef, undef, undef, undef, undef] w) w) w) w) w) w) w) :
    cCode Try.prog (cd Try.f43 []) (retK Try.prog Try.f43.results.toList K) (fun _ _ _ => False) (retK Try.prog Try.f43.results.toList K) [d0, undef, undef, undef, undef, undef, undef, undef, undef, undef, undef, undef, undef, undef, undef, undef, undef, undef, undef, undef, undef, undef, undef, undef, undef, undef, undef, undef] w := Eq.mp (by kernel_rfl) h

theorem leatref04_Disk_Now_in {K : KV} {d0 : Value} {w : World}
    (h : alc Try.prog 37 (fun t2 w =>
    nilC d0 (fun t6 w =>
    fldA Try.prog 40 t6 0 (fun t7 w =>
    ld Try.prog 37 t7 (fun t8 w =>
    alc Try.prog 37 (fun f3 w =>
    sto Try.prog 37 f3 t8 (fun _t w =>
    (leatref04_Disk_Now_L1 K) [d0, undef, t2, f3, (Value.int IntKind.i64 0), d0, t6, t7, t8, undef, undef, undef, undef, undef, undef, undef, undef, undef, undef, undef, undef, undef, undef, undef, undef, undef, undef, undef] w) w) w) w) w) w) w) :
    Gives Try.prog 43 #[d0] w K := enter' Try.func43 (by kernel_rfl) (Eq.mp (congrArg (fun c => cCode Try.prog c (retK Try.prog Try.f43.results.toList K) (fun _ _ _ => False) (retK Try.prog Try.f43.results.toList K) [d0, undef, undef, undef, undef, undef, undef, undef, undef, undef, undef, undef, undef, undef, undef, undef, undef, undef, undef, undef, undef, undef, undef, undef, undef, undef, undef, undef] w) (by kernel_rfl : (cd Try.f43 []) = (cd Try.f43 []))) (leatref04_Disk_Now_k (h : alc Try.prog 37 (fun t2 w =>
    nilC d0 (fun t6 w =>
    fldA Try.prog 40 t6 0 (fun t7 w =>
    ld Try.prog 37 t7 (fun t8 w =>
    alc Try.prog 37 (fun f3 w =>
    sto Try.prog 37 f3 t8 (fun _t w =>
    (leatref04_Disk_Now_L1 K) [d0, undef, t2, f3, (Value.int IntKind.i64 0), d0, t6, t7, t8, undef, undef, undef, undef, undef, undef, undef, undef, undef, undef, undef, undef, undef, undef, undef, undef, undef, undef, undef] w) w) w) w) w) w) w)))
theorem leatref04_Disk_Now_go : isGo Try.prog 43 := ⟨_, Try.func43, by kernel_rfl, by kernel_rfl⟩

theorem leatref04_Disk_Now_L1_k {K : KV} (B1 : KE) (q0 : KE) {d0 d1 t2 f3 i4' t5 t6 t7 t8 t27 : Value} {dd : Nat → Value} {w : World}
    (h : nilC d0 (fun t11 w =>
    fldA Try.prog 40 t11 1 (fun t12 w =>
    ld Try.prog 38 t12 (fun t13 w =>
    blt Try.prog Builtin.len #[38] 3 #[false] #[t13] (fun t14 w =>
    bin Try.prog BinOp.lss 3 false false i4' t14 (fun t15 w =>
    cond t15
      (hReg (fun S w =>
    hld S (fun k w => ld Try.prog 37 f3 k w) (fun t18 =>
    hld S (fun k w => nilC d0 k w) (fun t20 =>
    hld S (fun k w => fldA Try.prog 40 t20 1 k w) (fun t21 =>
    hld S (fun k w => ld Try.prog 38 t21 k w) (fun t22 =>
    hld S (fun k w => idxA Try.prog 38 t22 i4' k w) (fun t24 =>
    hld S (fun k w => ld Try.prog 74 t24 k w) (fun t25 =>
    call Try.prog 63 #[t18, t25] (fun t26 w =>
    hReg (fun S w =>
    sto Try.prog 37 f3 t26 (fun _t w =>
    bin Try.prog BinOp.add 3 false true i4' (Value.int IntKind.i64 1) (fun t17 w =>
    B1 [d0, d1, t2, f3, t17, t5, t6, t7, t8, i4', d0, t11, t12, t13, t14, t15, i4', t17, t18, d0, t20, t21, t22, i4', t24, t25, t26, t27] w) w) w) w) w))))))) w.drew)
      (q0 [d0, d1, t2, f3, i4', t5, t6, t7, t8, i4', d0, t11, t12, t13, t14, t15, (dd 16), (dd 17), (dd 18), (dd 19), (dd 20), (dd 21), (dd 22), (dd 23), (dd 24), (dd 25), (dd 26), t27] w)) w) w) w) w) w) :
    cCode Try.prog (cd Try.f43 [1, 1, 0, 1, 0, 0]) B1 (fun i => @Bool.rec (fun _ => KE) ((fun _ _ _ => False) i) q0 (Nat.beq i 0)) (retK Try.prog Try.f43.results.toList K) [d0, d1, t2, f3, i4', t5, t6, t7, t8, (dd 9), (dd 10), (dd 11), (dd 12), (dd 13), (dd 14), (dd 15), (dd 16), (dd 17), (dd 18), (dd 19), (dd 20), (dd 21), (dd 22), (dd 23), (dd 24), (dd 25), (dd 26), t27] w := Eq.mp (by kernel_rfl) h

theorem leatref04_Disk_Now_L1_r {K : KV} {d0 d1 t2 f3 i4 t5 t6 t7 t8 t9 t10 t11 t12 t13 t14 t15 t16 t17 t18 t19 t20 t21 t22 t23 t24 t25 t26 t27 : Value} {w : World} (Inv : Value → World → Prop) (μ : Value → World → Nat) (h0 : Inv i4 w)
    (hs : ∀ (i4' : Value) (dd : Nat → Value) (w : World) (m : Nat), Inv i4' w → m = μ i4' w →
    nilC d0 (fun t11 w =>
    fldA Try.prog 40 t11 1 (fun t12 w =>
    ld Try.prog 38 t12 (fun t13 w =>
    blt Try.prog Builtin.len #[38] 3 #[false] #[t13] (fun t14 w =>
    bin Try.prog BinOp.lss 3 false false i4' t14 (fun t15 w =>
    cond t15
      (hReg (fun S w =>
    hld S (fun k w => ld Try.prog 37 f3 k w) (fun t18 =>
    hld S (fun k w => nilC d0 k w) (fun t20 =>
    hld S (fun k w => fldA Try.prog 40 t20 1 k w) (fun t21 =>
    hld S (fun k w => ld Try.prog 38 t21 k w) (fun t22 =>
    hld S (fun k w => idxA Try.prog 38 t22 i4' k w) (fun t24 =>
    hld S (fun k w => ld Try.prog 74 t24 k w) (fun t25 =>
    call Try.prog 63 #[t18, t25] (fun t26 w =>
    hReg (fun S w =>
    sto Try.prog 37 f3 t26 (fun _t w =>
    bin Try.prog BinOp.add 3 false true i4' (Value.int IntKind.i64 1) (fun t17 w =>
    (Inv t17 w ∧ μ t17 w < m)) w) w) w) w))))))) w.drew)
      ((leatref04_Disk_Now_P1 K) [d0, d1, t2, f3, i4', t5, t6, t7, t8, i4', d0, t11, t12, t13, t14, t15, (dd 16), (dd 17), (dd 18), (dd 19), (dd 20), (dd 21), (dd 22), (dd 23), (dd 24), (dd 25), (dd 26), t27] w)) w) w) w) w) w) :
    leatref04_Disk_Now_L1 K [d0, d1, t2, f3, i4, t5, t6, t7, t8, t9, t10, t11, t12, t13, t14, t15, t16, t17, t18, t19, t20, t21, t22, t23, t24, t25, t26, t27] w := by
  refine loop_rule (cd Try.f43 [1, 1, 0, 1, 0, 0]) [4, 9, 10, 11, 12, 13, 14, 15, 16, 17, 18, 19, 20, 21, 22, 23, 24, 25, 26] (by kernel_rfl) (fun e2 w2 => Inv (gd e2 4) w2) (fun e2 w2 => μ (gd e2 4) w2) h0 ?_
  intro e' w' hI
  have h := hs (gd e' 4) (fun i => gd e' i) w' _ hI rfl
  have h2 : cCode Try.prog (cd Try.f43 [1, 1, 0, 1, 0, 0]) (fun e2 w2 => Inv (gd e2 4) w2 ∧ μ (gd e2 4) w2 < μ (gd e' 4) w') (fun i => @Bool.rec (fun _ => KE) ((fun _ _ _ => False) i) (leatref04_Disk_Now_P1 K) (Nat.beq i 0)) (retK Try.prog Try.f43.results.toList K) [d0, d1, t2, f3, (gd e' 4), t5, t6, t7, t8, (gd e' 9), (gd e' 10), (gd e' 11), (gd e' 12), (gd e' 13), (gd e' 14), (gd e' 15), (gd e' 16), (gd e' 17), (gd e' 18), (gd e' 19), (gd e' 20), (gd e' 21), (gd e' 22), (gd e' 23), (gd e' 24), (gd e' 25), (gd e' 26), t27] w' := leatref04_Disk_Now_L1_k (fun e2 w2 => Inv (gd e2 4) w2 ∧ μ (gd e2 4) w2 < μ (gd e' 4) w') (leatref04_Disk_Now_P1 K) (Eq.mp (by kernel_rfl) h)
  exact Eq.mp (by kernel_rfl) h2

theorem leatref04_Disk_Now_P1_k {K : KV} {d0 d1 t2 f3 i4 t5 t6 t7 t8 t9 t10 t11 t12 t13 t14 t15 t16 t17 t18 t19 t20 t21 t22 t23 t24 t25 t26 t27 : Value} {w : World}
    (h : ld Try.prog 37 f3 (fun t27 w =>
    sto Try.prog 37 t2 t27 (fun _t w =>
    retM Try.prog [(some 37, t2)] K w) w) w) :
    cCode Try.prog (cd Try.f43 [1, 1, 1]) (retK Try.prog Try.f43.results.toList K) (fun _ _ _ => False) (retK Try.prog Try.f43.results.toList K) [d0, d1, t2, f3, i4, t5, t6, t7, t8, t9, t10, t11, t12, t13, t14, t15, t16, t17, t18, t19, t20, t21, t22, t23, t24, t25, t26, t27] w := Eq.mp (by kernel_rfl) h

theorem leatref04_Disk_Now_P1_r {K : KV} {d0 d1 t2 f3 i4 t5 t6 t7 t8 t9 t10 t11 t12 t13 t14 t15 t16 t17 t18 t19 t20 t21 t22 t23 t24 t25 t26 t27 : Value} {w : World}
    (h : ld Try.prog 37 f3 (fun t27 w =>
    sto Try.prog 37 t2 t27 (fun _t w =>
    retM Try.prog [(some 37, t2)] K w) w) w) :
    leatref04_Disk_Now_P1 K [d0, d1, t2, f3, i4, t5, t6, t7, t8, t9, t10, t11, t12, t13, t14, t15, t16, t17, t18, t19, t20, t21, t22, t23, t24, t25, t26, t27] w := by
  delta leatref04_Disk_Now_P1
  exact Eq.mp (congrArg (fun c => cCode Try.prog c (retK Try.prog Try.f43.results.toList K) (fun _ _ _ => False) (retK Try.prog Try.f43.results.toList K) [d0, d1, t2, f3, i4, t5, t6, t7, t8, t9, t10, t11, t12, t13, t14, t15, t16, t17, t18, t19, t20, t21, t22, t23, t24, t25, t26, t27] w) (by kernel_rfl : (cd Try.f43 [1, 1, 1]) = (cd Try.f43 [1, 1, 1]))) (leatref04_Disk_Now_P1_k h)
attribute [irreducible] leatref04_Disk_Now_P1 leatref04_Disk_Now_L1

def leatref04_Disk_burns_P1 (K : KV) : KE := cCode Try.prog (cd Try.f61 [1, 1, 1]) (retK Try.prog Try.f61.results.toList K) (fun _ _ _ => False) (retK Try.prog Try.f61.results.toList K)
def leatref04_Disk_burns_A1 (K : KV) : KE := cCode Try.prog (cd Try.f61 [1, 1, 0, 1]) (leatref04_Disk_burns_P1 K) (fun _ _ _ => False) (retK Try.prog Try.f61.results.toList K)
theorem leatref04_Disk_burns_k {K : KV} (x0 : Code) {d0 : Value} {w : World}
    (h : nilC d0 (fun t4 w =>
    fldA Try.prog 40 t4 3 (fun t5 w =>
    ld Try.prog 3 t5 (fun t6 w =>
    bin Try.prog BinOp.eql 3 false true t6 (Value.int IntKind.i64 0) (fun t7 w =>
    cond t7
      (nilC d0 (fun t9 w =>
      fldA Try.prog 40 t9 3 (fun t10 w =>
      sto Try.prog 3 t10 (Value.int IntKind.i64 (-1)) (fun _t w =>
      nilC d0 (fun t12 w =>
      fldA Try.prog 40 t12 2 (fun t13 w =>
      sto Try.prog 4 t13 (Value.bool true) (fun _t w =>
      K (Value.bool true) w) w) w) w) w) w) w)
      (nilC d0 (fun t15 w =>
    fldA Try.prog 40 t15 3 (fun t16 w =>
    ld Try.prog 3 t16 (fun t17 w =>
    bin Try.prog BinOp.gtr 3 false true t17 (Value.int IntKind.i64 0) (fun t18 w =>
    (cCode Try.prog x0 (cCode Try.prog (cd Try.f61 [1, 1, 1]) (retK Try.prog Try.f61.results.toList K) (fun _ _ _ => False) (retK Try.prog Try.f61.results.toList K)) (fun _ _ _ => False) (retK Try.prog Try.f61.results.toList K)) [d0, undef, (Value.bool false), d0, t4, t5, t6, t7, undef, undef, undef, undef, undef, undef, d0, t15, t16, t17, t18, undef, undef, undef, undef, undef, undef, undef] w) w) w) w) w)) w) w) w) w) :
    cCode Try.prog (rep [1, 1, 0, 1] x0 (cd Try.f61 [])) (retK Try.prog Try.f61.results.toList K) (fun _ _ _ => False) (retK Try.prog Try.f61.results.toList K) [d0, undef, undef, undef, undef, undef, undef, undef, undef, undef, undef, undef, undef, undef, undef, undef, undef, undef, undef, undef, undef, undef, undef, undef, undef, undef] w := Eq.mp (by kernel_rfl) h

theorem leatref04_Disk_burns_in {K : KV} {d0 : Value} {w : World}
    (h : nilC d0 (fun t4 w =>
    fldA Try.prog 40 t4 3 (fun t5 w =>
    ld Try.prog 3 t5 (fun t6 w =>
    bin Try.prog BinOp.eql 3 false true t6 (Value.int IntKind.i64 0) (fun t7 w =>
    cond t7
      (nilC d0 (fun t9 w =>
      fldA Try.prog 40 t9 3 (fun t10 w =>
      sto Try.prog 3 t10 (Value.int IntKind.i64 (-1)) (fun _t w =>
      nilC d0 (fun t12 w =>
      fldA Try.prog 40 t12 2 (fun t13 w =>
      sto Try.prog 4 t13 (Value.bool true) (fun _t w =>
      K (Value.bool true) w) w) w) w) w) w) w)
      (nilC d0 (fun t15 w =>
    fldA Try.prog 40 t15 3 (fun t16 w =>
    ld Try.prog 3 t16 (fun t17 w =>
    bin Try.prog BinOp.gtr 3 false true t17 (Value.int IntKind.i64 0) (fun t18 w =>
    (leatref04_Disk_burns_A1 K) [d0, undef, (Value.bool false), d0, t4, t5, t6, t7, undef, undef, undef, undef, undef, undef, d0, t15, t16, t17, t18, undef, undef, undef, undef, undef, undef, undef] w) w) w) w) w)) w) w) w) w) :
    Gives Try.prog 61 #[d0] w K := enter' Try.func61 (by kernel_rfl) (Eq.mp (congrArg (fun c => cCode Try.prog c (retK Try.prog Try.f61.results.toList K) (fun _ _ _ => False) (retK Try.prog Try.f61.results.toList K) [d0, undef, undef, undef, undef, undef, undef, undef, undef, undef, undef, undef, undef, undef, undef, undef, undef, undef, undef, undef, undef, undef, undef, undef, undef, undef] w) (by kernel_rfl : (rep [1, 1, 0, 1] (cd Try.f61 [1, 1, 0, 1]) (cd Try.f61 [])) = (cd Try.f61 []))) (leatref04_Disk_burns_k (cd Try.f61 [1, 1, 0, 1]) (h : nilC d0 (fun t4 w =>
    fldA Try.prog 40 t4 3 (fun t5 w =>
    ld Try.prog 3 t5 (fun t6 w =>
    bin Try.prog BinOp.eql 3 false true t6 (Value.int IntKind.i64 0) (fun t7 w =>
    cond t7
      (nilC d0 (fun t9 w =>
      fldA Try.prog 40 t9 3 (fun t10 w =>
      sto Try.prog 3 t10 (Value.int IntKind.i64 (-1)) (fun _t w =>
      nilC d0 (fun t12 w =>
      fldA Try.prog 40 t12 2 (fun t13 w =>
      sto Try.prog 4 t13 (Value.bool true) (fun _t w =>
      K (Value.bool true) w) w) w) w) w) w) w)
      (nilC d0 (fun t15 w =>
    fldA Try.prog 40 t15 3 (fun t16 w =>
    ld Try.prog 3 t16 (fun t17 w =>
    bin Try.prog BinOp.gtr 3 false true t17 (Value.int IntKind.i64 0) (fun t18 w =>
    (leatref04_Disk_burns_A1 K) [d0, undef, (Value.bool false), d0, t4, t5, t6, t7, undef, undef, undef, undef, undef, undef, d0, t15, t16, t17, t18, undef, undef, undef, undef, undef, undef, undef] w) w) w) w) w)) w) w) w) w)))
theorem leatref04_Disk_burns_go : isGo Try.prog 61 := ⟨_, Try.func61, by kernel_rfl, by kernel_rfl⟩

theorem leatref04_Disk_burns_A1_k {K : KV} (q0 : KE) {d0 d1 t2 t3 t4 t5 t6 t7 t8 t9 t10 t11 t12 t13 t14 t15 t16 t17 t18 t19 t20 t21 t22 t23 t24 t25 : Value} {w : World}
    (h : cond t18
      (nilC d0 (fun t20 w =>
      fldA Try.prog 40 t20 3 (fun t21 w =>
      ld Try.prog 3 t21 (fun t22 w =>
      bin Try.prog BinOp.sub 3 false true t22 (Value.int IntKind.i64 1) (fun t23 w =>
      nilC d0 (fun t24 w =>
      fldA Try.prog 40 t24 3 (fun t25 w =>
      sto Try.prog 3 t25 t23 (fun _t w =>
      q0 [d0, d1, t2, t3, t4, t5, t6, t7, t8, t9, t10, t11, t12, t13, t14, t15, t16, t17, t18, d0, t20, t21, t22, t23, t24, t25] w) w) w) w) w) w) w) w)
      (q0 [d0, d1, t2, t3, t4, t5, t6, t7, t8, t9, t10, t11, t12, t13, t14, t15, t16, t17, t18, t19, t20, t21, t22, t23, t24, t25] w)) :
    cCode Try.prog (cd Try.f61 [1, 1, 0, 1]) q0 (fun _ _ _ => False) (retK Try.prog Try.f61.results.toList K) [d0, d1, t2, t3, t4, t5, t6, t7, t8, t9, t10, t11, t12, t13, t14, t15, t16, t17, t18, t19, t20, t21, t22, t23, t24, t25] w := Eq.mp (by kernel_rfl) h

theorem leatref04_Disk_burns_A1_r {K : KV} {d0 d1 t2 t3 t4 t5 t6 t7 t8 t9 t10 t11 t12 t13 t14 t15 t16 t17 t18 t19 t20 t21 t22 t23 t24 t25 : Value} {w : World}
    (h : cond t18
      (nilC d0 (fun t20 w =>
      fldA Try.prog 40 t20 3 (fun t21 w =>
      ld Try.prog 3 t21 (fun t22 w =>
      bin Try.prog BinOp.sub 3 false true t22 (Value.int IntKind.i64 1) (fun t23 w =>
      nilC d0 (fun t24 w =>
      fldA Try.prog 40 t24 3 (fun t25 w =>
      sto Try.prog 3 t25 t23 (fun _t w =>
      (leatref04_Disk_burns_P1 K) [d0, d1, t2, t3, t4, t5, t6, t7, t8, t9, t10, t11, t12, t13, t14, t15, t16, t17, t18, d0, t20, t21, t22, t23, t24, t25] w) w) w) w) w) w) w) w)
      ((leatref04_Disk_burns_P1 K) [d0, d1, t2, t3, t4, t5, t6, t7, t8, t9, t10, t11, t12, t13, t14, t15, t16, t17, t18, t19, t20, t21, t22, t23, t24, t25] w)) :
    leatref04_Disk_burns_A1 K [d0, d1, t2, t3, t4, t5, t6, t7, t8, t9, t10, t11, t12, t13, t14, t15, t16, t17, t18, t19, t20, t21, t22, t23, t24, t25] w := by
  delta leatref04_Disk_burns_A1
  exact Eq.mp (congrArg (fun c => cCode Try.prog c (leatref04_Disk_burns_P1 K) (fun _ _ _ => False) (retK Try.prog Try.f61.results.toList K) [d0, d1, t2, t3, t4, t5, t6, t7, t8, t9, t10, t11, t12, t13, t14, t15, t16, t17, t18, t19, t20, t21, t22, t23, t24, t25] w) (by kernel_rfl : (cd Try.f61 [1, 1, 0, 1]) = (cd Try.f61 [1, 1, 0, 1]))) (leatref04_Disk_burns_A1_k (leatref04_Disk_burns_P1 K) h)

theorem leatref04_Disk_burns_P1_k {K : KV} {d0 d1 t2 t3 t4 t5 t6 t7 t8 t9 t10 t11 t12 t13 t14 t15 t16 t17 t18 t19 t20 t21 t22 t23 t24 t25 : Value} {w : World}
    (h : K (Value.bool false) w) :
    cCode Try.prog (cd Try.f61 [1, 1, 1]) (retK Try.prog Try.f61.results.toList K) (fun _ _ _ => False) (retK Try.prog Try.f61.results.toList K) [d0, d1, t2, t3, t4, t5, t6, t7, t8, t9, t10, t11, t12, t13, t14, t15, t16, t17, t18, t19, t20, t21, t22, t23, t24, t25] w := Eq.mp (by kernel_rfl) h

theorem leatref04_Disk_burns_P1_r {K : KV} {d0 d1 t2 t3 t4 t5 t6 t7 t8 t9 t10 t11 t12 t13 t14 t15 t16 t17 t18 t19 t20 t21 t22 t23 t24 t25 : Value} {w : World}
    (h : K (Value.bool false) w) :
    leatref04_Disk_burns_P1 K [d0, d1, t2, t3, t4, t5, t6, t7, t8, t9, t10, t11, t12, t13, t14, t15, t16, t17, t18, t19, t20, t21, t22, t23, t24, t25] w := by
  delta leatref04_Disk_burns_P1
  exact Eq.mp (congrArg (fun c => cCode Try.prog c (retK Try.prog Try.f61.results.toList K) (fun _ _ _ => False) (retK Try.prog Try.f61.results.toList K) [d0, d1, t2, t3, t4, t5, t6, t7, t8, t9, t10, t11, t12, t13, t14, t15, t16, t17, t18, t19, t20, t21, t22, t23, t24, t25] w) (by kernel_rfl : (cd Try.f61 [1, 1, 1]) = (cd Try.f61 [1, 1, 1]))) (leatref04_Disk_burns_P1_k h)
attribute [irreducible] leatref04_Disk_burns_P1 leatref04_Disk_burns_A1


theorem leatref04_Disk_Do_k {K : KV} {d0 c1 : Value} {w : World}
    (h : box Try.prog 74 c1 (fun c3 w =>
    nilC d0 (fun t7 w =>
    fldA Try.prog 40 t7 2 (fun t8 w =>
    ld Try.prog 4 t8 (fun t9 w =>
    cond t9
      (K (Value.int IntKind.i64 8) w)
      (call Try.prog 43 #[d0] (fun t11 w =>
    alc Try.prog 37 (fun now5 w =>
    sto Try.prog 37 now5 t11 (fun _t w =>
    (fun w =>
    sti (fun k w => fldA Try.prog 74 c3 0 k w) (fun t12 w =>
    sti (fun k w => ld Try.prog 3 t12 k w) (fun t13 w =>
    sti (fun k w => bin Try.prog BinOp.neq 3 false true t13 (Value.int IntKind.i64 3) k w) (fun t14 w =>
    gsel t14 true (fun k16 =>
    sti (fun k w => fldA Try.prog 74 c3 1 k w) (fun t16 w =>
    sti (fun k w => ld Try.prog 3 t16 k w) (fun t17 w =>
    sti (fun k w => bin Try.prog BinOp.neq 3 false true t17 (Value.int IntKind.i64 0) k w) (fun t18 w =>
    k16 [t16, t17, t18] w) w) w) w)
    (fun k => k [undef, undef, undef] w) (fun us16 w =>
    sti (fun k w => pick t14 (gd us16 2) (Value.bool false) k w) (fun t19 w =>
    gsel t19 true (fun k21 =>
    sti (fun k w => fldA Try.prog 74 c3 1 k w) (fun t21 w =>
    sti (fun k w => ld Try.prog 3 t21 k w) (fun t22 w =>
    sti (fun k w => bin Try.prog BinOp.neq 3 false true t22 (Value.int IntKind.i64 1) k w) (fun t23 w =>
    k21 [t21, t22, t23] w) w) w) w)
    (fun k => k [undef, undef, undef] w) (fun us21 w =>
    sti (fun k w => pick t19 (gd us21 2) (Value.bool false) k w) (fun t24 w =>
    gsel t24 false (fun k26 =>
    sti (fun k w => fldA Try.prog 74 c3 0 k w) (fun t26 w =>
    sti (fun k w => ld Try.prog 3 t26 k w) (fun t27 w =>
    sti (fun k w => bin Try.prog BinOp.eql 3 false true t27 (Value.int IntKind.i64 2) k w) (fun t28 w =>
    k26 [t26, t27, t28, t28] w) w) w) w)
    (fun k => k [undef, undef, undef, undef] w) (fun us26 w =>
    gsel (gd us26 3) true (fun k30 =>
    sti (fun k w => fldA Try.prog 74 c3 2 k w) (fun t30 w =>
    sti (fun k w => ld Try.prog 3 t30 k w) (fun t31 w =>
    sti (fun k w => bin Try.prog BinOp.lss 3 false true t31 (Value.int IntKind.i64 0) k w) (fun t32 w =>
    k30 [t30, t31, t32, t32] w) w) w) w)
    (fun k => k [undef, undef, undef, undef] w) (fun us30 w =>
    gsel (gd us30 3) false (fun k34 =>
    sti (fun k w => fldA Try.prog 74 c3 2 k w) (fun t34 w =>
    sti (fun k w => ld Try.prog 3 t34 k w) (fun t35 w =>
    sti (fun k w => fldA Try.prog 74 c3 1 k w) (fun t36 w =>
    sti (fun k w => ld Try.prog 3 t36 k w) (fun t37 w =>
    sti (fun k w => idxA Try.prog 37 now5 t37 k w) (fun t38 w =>
    sti (fun k w => ld Try.prog 9 t38 k w) (fun t39 w =>
    sti (fun k w => blt Try.prog Builtin.len #[9] 3 #[false] #[t39] k w) (fun t40 w =>
    sti (fun k w => bin Try.prog BinOp.gtr 3 false false t35 t40 k w) (fun t41 w =>
    k34 [t34, t35, t36, t37, t38, t39, t40, t41] w) w) w) w) w) w) w) w) w)
    (fun k => k [undef, undef, undef, undef, undef, undef, undef, undef] w) (fun us34 w =>
    gsel (gd us26 3) true (fun k42 =>
    sti (fun k w => pick (gd us30 3) (Value.bool true) (gd us34 7) k w) (fun t42 w =>
    k42 [t42] w) w)
    (fun k => k [undef] w) (fun us42 w =>
    gsel t24 false (fun k43 =>
    sti (fun k w => pick (gd us26 3) (gd us42 0) (Value.bool false) k w) (fun t43 w =>
    k43 [t43] w) w)
    (fun k => k [undef] w) (fun us43 w =>
    sti (fun k w => pick t24 (Value.bool true) (gd us43 0) k w) (fun t44 w =>
    cond t44
      (K (Value.int IntKind.i64 1) w)
      (fldA Try.prog 74 c3 0 (fun t45 w =>
    ld Try.prog 3 t45 (fun t46 w =>
    bin Try.prog BinOp.eql 3 false true t46 (Value.int IntKind.i64 1) (fun t47 w =>
    gsel t47 true (fun k49 =>
    idxA Try.prog 37 now5 (Value.int IntKind.i64 0) (fun t49 w =>
    ld Try.prog 9 t49 (fun t50 w =>
    blt Try.prog Builtin.len #[9] 3 #[false] #[t50] (fun t51 w =>
    idxA Try.prog 37 now5 (Value.int IntKind.i64 1) (fun t52 w =>
    ld Try.prog 9 t52 (fun t53 w =>
    blt Try.prog Builtin.len #[9] 3 #[false] #[t53] (fun t54 w =>
    bin Try.prog BinOp.add 3 false false t51 t54 (fun t55 w =>
    fldA Try.prog 74 c3 3 (fun t56 w =>
    ld Try.prog 9 t56 (fun t57 w =>
    blt Try.prog Builtin.len #[9] 3 #[false] #[t57] (fun t58 w =>
    bin Try.prog BinOp.add 3 false false t55 t58 (fun t59 w =>
    bin Try.prog BinOp.gtr 3 false true t59 (Value.int IntKind.i64 4194304) (fun t60 w =>
    k49 [t49, t50, t51, t52, t53, t54, t55, t56, t57, t58, t59, t60] w) w) w) w) w) w) w) w) w) w) w) w) w)
    (fun k => k [undef, undef, undef, undef, undef, undef, undef, undef, undef, undef, undef, undef] w) (fun us49 w =>
    pick t47 (gd us49 11) (Value.bool false) (fun t61 w =>
    cond t61
      (K (Value.int IntKind.i64 7) w)
      (hReg (fun S w =>
    hld S (fun k w => nilC d0 k w) (fun t65 =>
    hld S (fun k w => fldA Try.prog 40 t65 1 k w) (fun t66 =>
    hld S (fun k w => ld Try.prog 38 t66 k w) (fun t67 =>
    hld S (fun k w => ld Try.prog 74 c3 k w) (fun t69 =>
    (bldS Try.prog 38 0 #[] (fun t63 w =>
    hSub S (fun S w =>
    (blt Try.prog Builtin.append #[38, 38] 38 #[false, false] #[t63, t67] (fun t68 w =>
    hSub S (fun S w =>
    bldS Try.prog 38 1 #[(0, t69)] (fun t70 w =>
    hSub S (fun S w =>
    blt Try.prog Builtin.append #[38, 38] 38 #[false, false] #[t68, t70] (fun t71 w =>
    hSub S (fun S w =>
    hld S (fun k w => nilC d0 k w) (fun t72 =>
    hld S (fun k w => fldA Try.prog 40 t72 1 k w) (fun t73 =>
    sto Try.prog 38 t73 t71 (fun _t w =>
    call Try.prog 61 #[d0] (fun t75 w =>
    cond t75
      (K (Value.int IntKind.i64 8) w)
      (K (Value.int IntKind.i64 0) w)) w) w))) w) w) w) w) w) w) ∧ (bldS Try.prog 38 1 #[(0, t69)] (fun t70 w =>
    hSub S (fun S w =>
    blt Try.prog Builtin.append #[38, 38] 38 #[false, false] #[t63, t67] (fun t68 w =>
    hSub S (fun S w =>
    blt Try.prog Builtin.append #[38, 38] 38 #[false, false] #[t68, t70] (fun t71 w =>
    hSub S (fun S w =>
    hld S (fun k w => nilC d0 k w) (fun t72 =>
    hld S (fun k w => fldA Try.prog 40 t72 1 k w) (fun t73 =>
    sto Try.prog 38 t73 t71 (fun _t w =>
    call Try.prog 61 #[d0] (fun t75 w =>
    cond t75
      (K (Value.int IntKind.i64 8) w)
      (K (Value.int IntKind.i64 0) w)) w) w))) w) w) w) w) w) w)) w) w) ∧ (bldS Try.prog 38 1 #[(0, t69)] (fun t70 w =>
    hSub S (fun S w =>
    bldS Try.prog 38 0 #[] (fun t63 w =>
    hSub S (fun S w =>
    blt Try.prog Builtin.append #[38, 38] 38 #[false, false] #[t63, t67] (fun t68 w =>
    hSub S (fun S w =>
    blt Try.prog Builtin.append #[38, 38] 38 #[false, false] #[t68, t70] (fun t71 w =>
    hSub S (fun S w =>
    hld S (fun k w => nilC d0 k w) (fun t72 =>
    hld S (fun k w => fldA Try.prog 40 t72 1 k w) (fun t73 =>
    sto Try.prog 38 t73 t71 (fun _t w =>
    call Try.prog 61 #[d0] (fun t75 w =>
    cond t75
      (K (Value.int IntKind.i64 8) w)
      (K (Value.int IntKind.i64 0) w)) w) w))) w) w) w) w) w) w) w) w)))))) w.drew)) w)) w) w) w)) w)))))) w)) w)) w) w) w) w.drew) w) w) w)) w) w) w) w) :
    cCode Try.prog (cd Try.f36 []) (retK Try.prog Try.f36.results.toList K) (fun _ _ _ => False) (retK Try.prog Try.f36.results.toList K) (d0 :: c1 :: undef :: undef :: undef :: undef :: undef :: undef :: undef :: undef :: undef :: undef :: undef :: undef :: undef :: undef :: undef :: undef :: undef :: undef :: undef :: undef :: undef :: undef :: undef :: undef :: undef :: undef :: undef :: undef :: undef :: undef :: undef :: undef :: undef :: undef :: undef :: undef :: undef :: undef :: undef :: undef :: undef :: undef :: undef :: undef :: undef :: undef :: undef :: undef :: undef :: undef :: undef :: undef :: undef :: undef :: undef :: undef :: undef :: undef :: undef :: undef :: undef :: undef :: undef :: undef :: undef :: undef :: undef :: undef :: undef :: undef :: undef :: undef :: undef :: undef :: []) w := Eq.mp (by kernel_rfl) h

theorem leatref04_Disk_Do_in {K : KV} {d0 c1 : Value} {w : World}
    (h : box Try.prog 74 c1 (fun c3 w =>
    nilC d0 (fun t7 w =>
    fldA Try.prog 40 t7 2 (fun t8 w =>
    ld Try.prog 4 t8 (fun t9 w =>
    cond t9
      (K (Value.int IntKind.i64 8) w)
      (call Try.prog 43 #[d0] (fun t11 w =>
    alc Try.prog 37 (fun now5 w =>
    sto Try.prog 37 now5 t11 (fun _t w =>
    (fun w =>
    sti (fun k w => fldA Try.prog 74 c3 0 k w) (fun t12 w =>
    sti (fun k w => ld Try.prog 3 t12 k w) (fun t13 w =>
    sti (fun k w => bin Try.prog BinOp.neq 3 false true t13 (Value.int IntKind.i64 3) k w) (fun t14 w =>
    gsel t14 true (fun k16 =>
    sti (fun k w => fldA Try.prog 74 c3 1 k w) (fun t16 w =>
    sti (fun k w => ld Try.prog 3 t16 k w) (fun t17 w =>
    sti (fun k w => bin Try.prog BinOp.neq 3 false true t17 (Value.int IntKind.i64 0) k w) (fun t18 w =>
    k16 [t16, t17, t18] w) w) w) w)
    (fun k => k [undef, undef, undef] w) (fun us16 w =>
    sti (fun k w => pick t14 (gd us16 2) (Value.bool false) k w) (fun t19 w =>
    gsel t19 true (fun k21 =>
    sti (fun k w => fldA Try.prog 74 c3 1 k w) (fun t21 w =>
    sti (fun k w => ld Try.prog 3 t21 k w) (fun t22 w =>
    sti (fun k w => bin Try.prog BinOp.neq 3 false true t22 (Value.int IntKind.i64 1) k w) (fun t23 w =>
    k21 [t21, t22, t23] w) w) w) w)
    (fun k => k [undef, undef, undef] w) (fun us21 w =>
    sti (fun k w => pick t19 (gd us21 2) (Value.bool false) k w) (fun t24 w =>
    gsel t24 false (fun k26 =>
    sti (fun k w => fldA Try.prog 74 c3 0 k w) (fun t26 w =>
    sti (fun k w => ld Try.prog 3 t26 k w) (fun t27 w =>
    sti (fun k w => bin Try.prog BinOp.eql 3 false true t27 (Value.int IntKind.i64 2) k w) (fun t28 w =>
    k26 [t26, t27, t28, t28] w) w) w) w)
    (fun k => k [undef, undef, undef, undef] w) (fun us26 w =>
    gsel (gd us26 3) true (fun k30 =>
    sti (fun k w => fldA Try.prog 74 c3 2 k w) (fun t30 w =>
    sti (fun k w => ld Try.prog 3 t30 k w) (fun t31 w =>
    sti (fun k w => bin Try.prog BinOp.lss 3 false true t31 (Value.int IntKind.i64 0) k w) (fun t32 w =>
    k30 [t30, t31, t32, t32] w) w) w) w)
    (fun k => k [undef, undef, undef, undef] w) (fun us30 w =>
    gsel (gd us30 3) false (fun k34 =>
    sti (fun k w => fldA Try.prog 74 c3 2 k w) (fun t34 w =>
    sti (fun k w => ld Try.prog 3 t34 k w) (fun t35 w =>
    sti (fun k w => fldA Try.prog 74 c3 1 k w) (fun t36 w =>
    sti (fun k w => ld Try.prog 3 t36 k w) (fun t37 w =>
    sti (fun k w => idxA Try.prog 37 now5 t37 k w) (fun t38 w =>
    sti (fun k w => ld Try.prog 9 t38 k w) (fun t39 w =>
    sti (fun k w => blt Try.prog Builtin.len #[9] 3 #[false] #[t39] k w) (fun t40 w =>
    sti (fun k w => bin Try.prog BinOp.gtr 3 false false t35 t40 k w) (fun t41 w =>
    k34 [t34, t35, t36, t37, t38, t39, t40, t41] w) w) w) w) w) w) w) w) w)
    (fun k => k [undef, undef, undef, undef, undef, undef, undef, undef] w) (fun us34 w =>
    gsel (gd us26 3) true (fun k42 =>
    sti (fun k w => pick (gd us30 3) (Value.bool true) (gd us34 7) k w) (fun t42 w =>
    k42 [t42] w) w)
    (fun k => k [undef] w) (fun us42 w =>
    gsel t24 false (fun k43 =>
    sti (fun k w => pick (gd us26 3) (gd us42 0) (Value.bool false) k w) (fun t43 w =>
    k43 [t43] w) w)
    (fun k => k [undef] w) (fun us43 w =>
    sti (fun k w => pick t24 (Value.bool true) (gd us43 0) k w) (fun t44 w =>
    cond t44
      (K (Value.int IntKind.i64 1) w)
      (fldA Try.prog 74 c3 0 (fun t45 w =>
    ld Try.prog 3 t45 (fun t46 w =>
    bin Try.prog BinOp.eql 3 false true t46 (Value.int IntKind.i64 1) (fun t47 w =>
    gsel t47 true (fun k49 =>
    idxA Try.prog 37 now5 (Value.int IntKind.i64 0) (fun t49 w =>
    ld Try.prog 9 t49 (fun t50 w =>
    blt Try.prog Builtin.len #[9] 3 #[false] #[t50] (fun t51 w =>
    idxA Try.prog 37 now5 (Value.int IntKind.i64 1) (fun t52 w =>
    ld Try.prog 9 t52 (fun t53 w =>
    blt Try.prog Builtin.len #[9] 3 #[false] #[t53] (fun t54 w =>
    bin Try.prog BinOp.add 3 false false t51 t54 (fun t55 w =>
    fldA Try.prog 74 c3 3 (fun t56 w =>
    ld Try.prog 9 t56 (fun t57 w =>
    blt Try.prog Builtin.len #[9] 3 #[false] #[t57] (fun t58 w =>
    bin Try.prog BinOp.add 3 false false t55 t58 (fun t59 w =>
    bin Try.prog BinOp.gtr 3 false true t59 (Value.int IntKind.i64 4194304) (fun t60 w =>
    k49 [t49, t50, t51, t52, t53, t54, t55, t56, t57, t58, t59, t60] w) w) w) w) w) w) w) w) w) w) w) w) w)
    (fun k => k [undef, undef, undef, undef, undef, undef, undef, undef, undef, undef, undef, undef] w) (fun us49 w =>
    pick t47 (gd us49 11) (Value.bool false) (fun t61 w =>
    cond t61
      (K (Value.int IntKind.i64 7) w)
      (hReg (fun S w =>
    hld S (fun k w => nilC d0 k w) (fun t65 =>
    hld S (fun k w => fldA Try.prog 40 t65 1 k w) (fun t66 =>
    hld S (fun k w => ld Try.prog 38 t66 k w) (fun t67 =>
    hld S (fun k w => ld Try.prog 74 c3 k w) (fun t69 =>
    (bldS Try.prog 38 0 #[] (fun t63 w =>
    hSub S (fun S w =>
    (blt Try.prog Builtin.append #[38, 38] 38 #[false, false] #[t63, t67] (fun t68 w =>
    hSub S (fun S w =>
    bldS Try.prog 38 1 #[(0, t69)] (fun t70 w =>
    hSub S (fun S w =>
    blt Try.prog Builtin.append #[38, 38] 38 #[false, false] #[t68, t70] (fun t71 w =>
    hSub S (fun S w =>
    hld S (fun k w => nilC d0 k w) (fun t72 =>
    hld S (fun k w => fldA Try.prog 40 t72 1 k w) (fun t73 =>
    sto Try.prog 38 t73 t71 (fun _t w =>
    call Try.prog 61 #[d0] (fun t75 w =>
    cond t75
      (K (Value.int IntKind.i64 8) w)
      (K (Value.int IntKind.i64 0) w)) w) w))) w) w) w) w) w) w) ∧ (bldS Try.prog 38 1 #[(0, t69)] (fun t70 w =>
    hSub S (fun S w =>
    blt Try.prog Builtin.append #[38, 38] 38 #[false, false] #[t63, t67] (fun t68 w =>
    hSub S (fun S w =>
    blt Try.prog Builtin.append #[38, 38] 38 #[false, false] #[t68, t70] (fun t71 w =>
    hSub S (fun S w =>
    hld S (fun k w => nilC d0 k w) (fun t72 =>
    hld S (fun k w => fldA Try.prog 40 t72 1 k w) (fun t73 =>
    sto Try.prog 38 t73 t71 (fun _t w =>
    call Try.prog 61 #[d0] (fun t75 w =>
    cond t75
      (K (Value.int IntKind.i64 8) w)
      (K (Value.int IntKind.i64 0) w)) w) w))) w) w) w) w) w) w)) w) w) ∧ (bldS Try.prog 38 1 #[(0, t69)] (fun t70 w =>
    hSub S (fun S w =>
    bldS Try.prog 38 0 #[] (fun t63 w =>
    hSub S (fun S w =>
    blt Try.prog Builtin.append #[38, 38] 38 #[false, false] #[t63, t67] (fun t68 w =>
    hSub S (fun S w =>
    blt Try.prog Builtin.append #[38, 38] 38 #[false, false] #[t68, t70] (fun t71 w =>
    hSub S (fun S w =>
    hld S (fun k w => nilC d0 k w) (fun t72 =>
    hld S (fun k w => fldA Try.prog 40 t72 1 k w) (fun t73 =>
    sto Try.prog 38 t73 t71 (fun _t w =>
    call Try.prog 61 #[d0] (fun t75 w =>
    cond t75
      (K (Value.int IntKind.i64 8) w)
      (K (Value.int IntKind.i64 0) w)) w) w))) w) w) w) w) w) w) w) w)))))) w.drew)) w)) w) w) w)) w)))))) w)) w)) w) w) w) w.drew) w) w) w)) w) w) w) w) :
    Gives Try.prog 36 #[d0, c1] w K := enter' Try.func36 (by kernel_rfl) (Eq.mp (congrArg (fun c => cCode Try.prog c (retK Try.prog Try.f36.results.toList K) (fun _ _ _ => False) (retK Try.prog Try.f36.results.toList K) (d0 :: c1 :: undef :: undef :: undef :: undef :: undef :: undef :: undef :: undef :: undef :: undef :: undef :: undef :: undef :: undef :: undef :: undef :: undef :: undef :: undef :: undef :: undef :: undef :: undef :: undef :: undef :: undef :: undef :: undef :: undef :: undef :: undef :: undef :: undef :: undef :: undef :: undef :: undef :: undef :: undef :: undef :: undef :: undef :: undef :: undef :: undef :: undef :: undef :: undef :: undef :: undef :: undef :: undef :: undef :: undef :: undef :: undef :: undef :: undef :: undef :: undef :: undef :: undef :: undef :: undef :: undef :: undef :: undef :: undef :: undef :: undef :: undef :: undef :: undef :: undef :: []) w) (by kernel_rfl : (cd Try.f36 []) = (cd Try.f36 []))) (leatref04_Disk_Do_k (h : box Try.prog 74 c1 (fun c3 w =>
    nilC d0 (fun t7 w =>
    fldA Try.prog 40 t7 2 (fun t8 w =>
    ld Try.prog 4 t8 (fun t9 w =>
    cond t9
      (K (Value.int IntKind.i64 8) w)
      (call Try.prog 43 #[d0] (fun t11 w =>
    alc Try.prog 37 (fun now5 w =>
    sto Try.prog 37 now5 t11 (fun _t w =>
    (fun w =>
    sti (fun k w => fldA Try.prog 74 c3 0 k w) (fun t12 w =>
    sti (fun k w => ld Try.prog 3 t12 k w) (fun t13 w =>
    sti (fun k w => bin Try.prog BinOp.neq 3 false true t13 (Value.int IntKind.i64 3) k w) (fun t14 w =>
    gsel t14 true (fun k16 =>
    sti (fun k w => fldA Try.prog 74 c3 1 k w) (fun t16 w =>
    sti (fun k w => ld Try.prog 3 t16 k w) (fun t17 w =>
    sti (fun k w => bin Try.prog BinOp.neq 3 false true t17 (Value.int IntKind.i64 0) k w) (fun t18 w =>
    k16 [t16, t17, t18] w) w) w) w)
    (fun k => k [undef, undef, undef] w) (fun us16 w =>
    sti (fun k w => pick t14 (gd us16 2) (Value.bool false) k w) (fun t19 w =>
    gsel t19 true (fun k21 =>
    sti (fun k w => fldA Try.prog 74 c3 1 k w) (fun t21 w =>
    sti (fun k w => ld Try.prog 3 t21 k w) (fun t22 w =>
    sti (fun k w => bin Try.prog BinOp.neq 3 false true t22 (Value.int IntKind.i64 1) k w) (fun t23 w =>
    k21 [t21, t22, t23] w) w) w) w)
    (fun k => k [undef, undef, undef] w) (fun us21 w =>
    sti (fun k w => pick t19 (gd us21 2) (Value.bool false) k w) (fun t24 w =>
    gsel t24 false (fun k26 =>
    sti (fun k w => fldA Try.prog 74 c3 0 k w) (fun t26 w =>
    sti (fun k w => ld Try.prog 3 t26 k w) (fun t27 w =>
    sti (fun k w => bin Try.prog BinOp.eql 3 false true t27 (Value.int IntKind.i64 2) k w) (fun t28 w =>
    k26 [t26, t27, t28, t28] w) w) w) w)
    (fun k => k [undef, undef, undef, undef] w) (fun us26 w =>
    gsel (gd us26 3) true (fun k30 =>
    sti (fun k w => fldA Try.prog 74 c3 2 k w) (fun t30 w =>
    sti (fun k w => ld Try.prog 3 t30 k w) (fun t31 w =>
    sti (fun k w => bin Try.prog BinOp.lss 3 false true t31 (Value.int IntKind.i64 0) k w) (fun t32 w =>
    k30 [t30, t31, t32, t32] w) w) w) w)
    (fun k => k [undef, undef, undef, undef] w) (fun us30 w =>
    gsel (gd us30 3) false (fun k34 =>
    sti (fun k w => fldA Try.prog 74 c3 2 k w) (fun t34 w =>
    sti (fun k w => ld Try.prog 3 t34 k w) (fun t35 w =>
    sti (fun k w => fldA Try.prog 74 c3 1 k w) (fun t36 w =>
    sti (fun k w => ld Try.prog 3 t36 k w) (fun t37 w =>
    sti (fun k w => idxA Try.prog 37 now5 t37 k w) (fun t38 w =>
    sti (fun k w => ld Try.prog 9 t38 k w) (fun t39 w =>
    sti (fun k w => blt Try.prog Builtin.len #[9] 3 #[false] #[t39] k w) (fun t40 w =>
    sti (fun k w => bin Try.prog BinOp.gtr 3 false false t35 t40 k w) (fun t41 w =>
    k34 [t34, t35, t36, t37, t38, t39, t40, t41] w) w) w) w) w) w) w) w) w)
    (fun k => k [undef, undef, undef, undef, undef, undef, undef, undef] w) (fun us34 w =>
    gsel (gd us26 3) true (fun k42 =>
    sti (fun k w => pick (gd us30 3) (Value.bool true) (gd us34 7) k w) (fun t42 w =>
    k42 [t42] w) w)
    (fun k => k [undef] w) (fun us42 w =>
    gsel t24 false (fun k43 =>
    sti (fun k w => pick (gd us26 3) (gd us42 0) (Value.bool false) k w) (fun t43 w =>
    k43 [t43] w) w)
    (fun k => k [undef] w) (fun us43 w =>
    sti (fun k w => pick t24 (Value.bool true) (gd us43 0) k w) (fun t44 w =>
    cond t44
      (K (Value.int IntKind.i64 1) w)
      (fldA Try.prog 74 c3 0 (fun t45 w =>
    ld Try.prog 3 t45 (fun t46 w =>
    bin Try.prog BinOp.eql 3 false true t46 (Value.int IntKind.i64 1) (fun t47 w =>
    gsel t47 true (fun k49 =>
    idxA Try.prog 37 now5 (Value.int IntKind.i64 0) (fun t49 w =>
    ld Try.prog 9 t49 (fun t50 w =>
    blt Try.prog Builtin.len #[9] 3 #[false] #[t50] (fun t51 w =>
    idxA Try.prog 37 now5 (Value.int IntKind.i64 1) (fun t52 w =>
    ld Try.prog 9 t52 (fun t53 w =>
    blt Try.prog Builtin.len #[9] 3 #[false] #[t53] (fun t54 w =>
    bin Try.prog BinOp.add 3 false false t51 t54 (fun t55 w =>
    fldA Try.prog 74 c3 3 (fun t56 w =>
    ld Try.prog 9 t56 (fun t57 w =>
    blt Try.prog Builtin.len #[9] 3 #[false] #[t57] (fun t58 w =>
    bin Try.prog BinOp.add 3 false false t55 t58 (fun t59 w =>
    bin Try.prog BinOp.gtr 3 false true t59 (Value.int IntKind.i64 4194304) (fun t60 w =>
    k49 [t49, t50, t51, t52, t53, t54, t55, t56, t57, t58, t59, t60] w) w) w) w) w) w) w) w) w) w) w) w) w)
    (fun k => k [undef, undef, undef, undef, undef, undef, undef, undef, undef, undef, undef, undef] w) (fun us49 w =>
    pick t47 (gd us49 11) (Value.bool false) (fun t61 w =>
    cond t61
      (K (Value.int IntKind.i64 7) w)
      (hReg (fun S w =>
    hld S (fun k w => nilC d0 k w) (fun t65 =>
    hld S (fun k w => fldA Try.prog 40 t65 1 k w) (fun t66 =>
    hld S (fun k w => ld Try.prog 38 t66 k w) (fun t67 =>
    hld S (fun k w => ld Try.prog 74 c3 k w) (fun t69 =>
    (bldS Try.prog 38 0 #[] (fun t63 w =>
    hSub S (fun S w =>
    (blt Try.prog Builtin.append #[38, 38] 38 #[false, false] #[t63, t67] (fun t68 w =>
    hSub S (fun S w =>
    bldS Try.prog 38 1 #[(0, t69)] (fun t70 w =>
    hSub S (fun S w =>
    blt Try.prog Builtin.append #[38, 38] 38 #[false, false] #[t68, t70] (fun t71 w =>
    hSub S (fun S w =>
    hld S (fun k w => nilC d0 k w) (fun t72 =>
    hld S (fun k w => fldA Try.prog 40 t72 1 k w) (fun t73 =>
    sto Try.prog 38 t73 t71 (fun _t w =>
    call Try.prog 61 #[d0] (fun t75 w =>
    cond t75
      (K (Value.int IntKind.i64 8) w)
      (K (Value.int IntKind.i64 0) w)) w) w))) w) w) w) w) w) w) ∧ (bldS Try.prog 38 1 #[(0, t69)] (fun t70 w =>
    hSub S (fun S w =>
    blt Try.prog Builtin.append #[38, 38] 38 #[false, false] #[t63, t67] (fun t68 w =>
    hSub S (fun S w =>
    blt Try.prog Builtin.append #[38, 38] 38 #[false, false] #[t68, t70] (fun t71 w =>
    hSub S (fun S w =>
    hld S (fun k w => nilC d0 k w) (fun t72 =>
    hld S (fun k w => fldA Try.prog 40 t72 1 k w) (fun t73 =>
    sto Try.prog 38 t73 t71 (fun _t w =>
    call Try.prog 61 #[d0] (fun t75 w =>
    cond t75
      (K (Value.int IntKind.i64 8) w)
      (K (Value.int IntKind.i64 0) w)) w) w))) w) w) w) w) w) w)) w) w) ∧ (bldS Try.prog 38 1 #[(0, t69)] (fun t70 w =>
    hSub S (fun S w =>
    bldS Try.prog 38 0 #[] (fun t63 w =>
    hSub S (fun S w =>
    blt Try.prog Builtin.append #[38, 38] 38 #[false, false] #[t63, t67] (fun t68 w =>
    hSub S (fun S w =>
    blt Try.prog Builtin.append #[38, 38] 38 #[false, false] #[t68, t70] (fun t71 w =>
    hSub S (fun S w =>
    hld S (fun k w => nilC d0 k w) (fun t72 =>
    hld S (fun k w => fldA Try.prog 40 t72 1 k w) (fun t73 =>
    sto Try.prog 38 t73 t71 (fun _t w =>
    call Try.prog 61 #[d0] (fun t75 w =>
    cond t75
      (K (Value.int IntKind.i64 8) w)
      (K (Value.int IntKind.i64 0) w)) w) w))) w) w) w) w) w) w) w) w)))))) w.drew)) w)) w) w) w)) w)))))) w)) w)) w) w) w) w.drew) w) w) w)) w) w) w) w)))
theorem leatref04_Disk_Do_go : isGo Try.prog 36 := ⟨_, Try.func36, by kernel_rfl, by kernel_rfl⟩


theorem leatref04_Disk_Sync_k {K : KV} {d0 : Value} {w : World}
    (h : nilC d0 (fun t4 w =>
    fldA Try.prog 40 t4 2 (fun t5 w =>
    ld Try.prog 4 t5 (fun t6 w =>
    gsel t6 false (fun k8 =>
    call Try.prog 61 #[d0] (fun t9 w =>
    k8 [d0, t9] w) w)
    (fun k => k [undef, undef] w) (fun us8 w =>
    pick t6 (Value.bool true) (gd us8 1) (fun t10 w =>
    cond t10
      (K (Value.int IntKind.i64 8) w)
      (call Try.prog 43 #[d0] (fun t13 w =>
    nilC d0 (fun t14 w =>
    fldA Try.prog 40 t14 0 (fun t15 w =>
    sto Try.prog 37 t15 t13 (fun _t w =>
    nilC d0 (fun t17 w =>
    fldA Try.prog 40 t17 1 (fun t18 w =>
    sto Try.prog 38 t18 (Value.slice none 0 0) (fun _t w =>
    K (Value.int IntKind.i64 0) w) w) w) w) w) w) w) w)) w)) w) w) w) :
    cCode Try.prog (cd Try.f37 []) (retK Try.prog Try.f37.results.toList K) (fun _ _ _ => False) (retK Try.prog Try.f37.results.toList K) [d0, undef, undef, undef, undef, undef, undef, undef, undef, undef, undef, undef, undef, undef, undef, undef, undef, undef, undef] w := Eq.mp (by kernel_rfl) h

theorem leatref04_Disk_Sync_in {K : KV} {d0 : Value} {w : World}
    (h : nilC d0 (fun t4 w =>
    fldA Try.prog 40 t4 2 (fun t5 w =>
    ld Try.prog 4 t5 (fun t6 w =>
    gsel t6 false (fun k8 =>
    call Try.prog 61 #[d0] (fun t9 w =>
    k8 [d0, t9] w) w)
    (fun k => k [undef, undef] w) (fun us8 w =>
    pick t6 (Value.bool true) (gd us8 1) (fun t10 w =>
    cond t10
      (K (Value.int IntKind.i64 8) w)
      (call Try.prog 43 #[d0] (fun t13 w =>
    nilC d0 (fun t14 w =>
    fldA Try.prog 40 t14 0 (fun t15 w =>
    sto Try.prog 37 t15 t13 (fun _t w =>
    nilC d0 (fun t17 w =>
    fldA Try.prog 40 t17 1 (fun t18 w =>
    sto Try.prog 38 t18 (Value.slice none 0 0) (fun _t w =>
    K (Value.int IntKind.i64 0) w) w) w) w) w) w) w) w)) w)) w) w) w) :
    Gives Try.prog 37 #[d0] w K := enter' Try.func37 (by kernel_rfl) (Eq.mp (congrArg (fun c => cCode Try.prog c (retK Try.prog Try.f37.results.toList K) (fun _ _ _ => False) (retK Try.prog Try.f37.results.toList K) [d0, undef, undef, undef, undef, undef, undef, undef, undef, undef, undef, undef, undef, undef, undef, undef, undef, undef, undef] w) (by kernel_rfl : (cd Try.f37 []) = (cd Try.f37 []))) (leatref04_Disk_Sync_k (h : nilC d0 (fun t4 w =>
    fldA Try.prog 40 t4 2 (fun t5 w =>
    ld Try.prog 4 t5 (fun t6 w =>
    gsel t6 false (fun k8 =>
    call Try.prog 61 #[d0] (fun t9 w =>
    k8 [d0, t9] w) w)
    (fun k => k [undef, undef] w) (fun us8 w =>
    pick t6 (Value.bool true) (gd us8 1) (fun t10 w =>
    cond t10
      (K (Value.int IntKind.i64 8) w)
      (call Try.prog 43 #[d0] (fun t13 w =>
    nilC d0 (fun t14 w =>
    fldA Try.prog 40 t14 0 (fun t15 w =>
    sto Try.prog 37 t15 t13 (fun _t w =>
    nilC d0 (fun t17 w =>
    fldA Try.prog 40 t17 1 (fun t18 w =>
    sto Try.prog 38 t18 (Value.slice none 0 0) (fun _t w =>
    K (Value.int IntKind.i64 0) w) w) w) w) w) w) w) w)) w)) w) w) w)))
theorem leatref04_Disk_Sync_go : isGo Try.prog 37 := ⟨_, Try.func37, by kernel_rfl, by kernel_rfl⟩


theorem leatref04_Disk_Read_k {K : KV} {d0 file1 : Value} {w : World}
    (h : nilC d0 (fun t7 w =>
    fldA Try.prog 40 t7 2 (fun t8 w =>
    ld Try.prog 4 t8 (fun t9 w =>
    cond t9
      (K (Value.tuple #[(Value.string (bstr [])), (Value.int IntKind.i64 8)]) w)
      (bin Try.prog BinOp.neq 3 false true file1 (Value.int IntKind.i64 0) (fun t11 w =>
    gsel t11 true (fun k13 =>
    bin Try.prog BinOp.neq 3 false true file1 (Value.int IntKind.i64 1) (fun t14 w =>
    k13 [file1, t14] w) w)
    (fun k => k [undef, undef] w) (fun us13 w =>
    pick t11 (gd us13 1) (Value.bool false) (fun t15 w =>
    cond t15
      (K (Value.tuple #[(Value.string (bstr [])), (Value.int IntKind.i64 1)]) w)
      (call Try.prog 43 #[d0] (fun t17 w =>
    idx Try.prog 37 t17 file1 (fun t19 w =>
    K (Value.tuple #[t19, (Value.int IntKind.i64 0)]) w) w) w)) w)) w)) w) w) w) :
    cCode Try.prog (cd Try.f18 []) (retK Try.prog Try.f18.results.toList K) (fun _ _ _ => False) (retK Try.prog Try.f18.results.toList K) [d0, file1, undef, undef, undef, undef, undef, undef, undef, undef, undef, undef, undef, undef, undef, undef, undef, undef, undef, undef] w := Eq.mp (by kernel_rfl) h

theorem leatref04_Disk_Read_in {K : KV} {d0 file1 : Value} {w : World}
    (h : nilC d0 (fun t7 w =>
    fldA Try.prog 40 t7 2 (fun t8 w =>
    ld Try.prog 4 t8 (fun t9 w =>
    cond t9
      (K (Value.tuple #[(Value.string (bstr [])), (Value.int IntKind.i64 8)]) w)
      (bin Try.prog BinOp.neq 3 false true file1 (Value.int IntKind.i64 0) (fun t11 w =>
    gsel t11 true (fun k13 =>
    bin Try.prog BinOp.neq 3 false true file1 (Value.int IntKind.i64 1) (fun t14 w =>
    k13 [file1, t14] w) w)
    (fun k => k [undef, undef] w) (fun us13 w =>
    pick t11 (gd us13 1) (Value.bool false) (fun t15 w =>
    cond t15
      (K (Value.tuple #[(Value.string (bstr [])), (Value.int IntKind.i64 1)]) w)
      (call Try.prog 43 #[d0] (fun t17 w =>
    idx Try.prog 37 t17 file1 (fun t19 w =>
    K (Value.tuple #[t19, (Value.int IntKind.i64 0)]) w) w) w)) w)) w)) w) w) w) :
    Gives Try.prog 18 #[d0, file1] w K := enter' Try.func18 (by kernel_rfl) (Eq.mp (congrArg (fun c => cCode Try.prog c (retK Try.prog Try.f18.results.toList K) (fun _ _ _ => False) (retK Try.prog Try.f18.results.toList K) [d0, file1, undef, undef, undef, undef, undef, undef, undef, undef, undef, undef, undef, undef, undef, undef, undef, undef, undef, undef] w) (by kernel_rfl : (cd Try.f18 []) = (cd Try.f18 []))) (leatref04_Disk_Read_k (h : nilC d0 (fun t7 w =>
    fldA Try.prog 40 t7 2 (fun t8 w =>
    ld Try.prog 4 t8 (fun t9 w =>
    cond t9
      (K (Value.tuple #[(Value.string (bstr [])), (Value.int IntKind.i64 8)]) w)
      (bin Try.prog BinOp.neq 3 false true file1 (Value.int IntKind.i64 0) (fun t11 w =>
    gsel t11 true (fun k13 =>
    bin Try.prog BinOp.neq 3 false true file1 (Value.int IntKind.i64 1) (fun t14 w =>
    k13 [file1, t14] w) w)
    (fun k => k [undef, undef] w) (fun us13 w =>
    pick t11 (gd us13 1) (Value.bool false) (fun t15 w =>
    cond t15
      (K (Value.tuple #[(Value.string (bstr [])), (Value.int IntKind.i64 1)]) w)
      (call Try.prog 43 #[d0] (fun t17 w =>
    idx Try.prog 37 t17 file1 (fun t19 w =>
    K (Value.tuple #[t19, (Value.int IntKind.i64 0)]) w) w) w)) w)) w)) w) w) w)))
theorem leatref04_Disk_Read_go : isGo Try.prog 18 := ⟨_, Try.func18, by kernel_rfl, by kernel_rfl⟩


theorem leatref04_Disk_PowerOff_k {K : KV} {d0 : Value} {w : World}
    (h : nilC d0 (fun t3 w =>
    fldA Try.prog 40 t3 2 (fun t4 w =>
    sto Try.prog 4 t4 (Value.bool true) (fun _t w =>
    nilC d0 (fun t6 w =>
    fldA Try.prog 40 t6 3 (fun t7 w =>
    sto Try.prog 3 t7 (Value.int IntKind.i64 (-1)) (fun _t w =>
    K (Value.tuple #[]) w) w) w) w) w) w) w) :
    cCode Try.prog (cd Try.f38 []) (retK Try.prog Try.f38.results.toList K) (fun _ _ _ => False) (retK Try.prog Try.f38.results.toList K) [d0, undef, undef, undef, undef, undef, undef, undef] w := Eq.mp (by kernel_rfl) h

theorem leatref04_Disk_PowerOff_in {K : KV} {d0 : Value} {w : World}
    (h : nilC d0 (fun t3 w =>
    fldA Try.prog 40 t3 2 (fun t4 w =>
    sto Try.prog 4 t4 (Value.bool true) (fun _t w =>
    nilC d0 (fun t6 w =>
    fldA Try.prog 40 t6 3 (fun t7 w =>
    sto Try.prog 3 t7 (Value.int IntKind.i64 (-1)) (fun _t w =>
    K (Value.tuple #[]) w) w) w) w) w) w) w) :
    Gives Try.prog 38 #[d0] w K := enter' Try.func38 (by kernel_rfl) (Eq.mp (congrArg (fun c => cCode Try.prog c (retK Try.prog Try.f38.results.toList K) (fun _ _ _ => False) (retK Try.prog Try.f38.results.toList K) [d0, undef, undef, undef, undef, undef, undef, undef] w) (by kernel_rfl : (cd Try.f38 []) = (cd Try.f38 []))) (leatref04_Disk_PowerOff_k (h : nilC d0 (fun t3 w =>
    fldA Try.prog 40 t3 2 (fun t4 w =>
    sto Try.prog 4 t4 (Value.bool true) (fun _t w =>
    nilC d0 (fun t6 w =>
    fldA Try.prog 40 t6 3 (fun t7 w =>
    sto Try.prog 3 t7 (Value.int IntKind.i64 (-1)) (fun _t w =>
    K (Value.tuple #[]) w) w) w) w) w) w) w)))
theorem leatref04_Disk_PowerOff_go : isGo Try.prog 38 := ⟨_, Try.func38, by kernel_rfl, by kernel_rfl⟩


theorem leatref04_pick_k {K : KV} {l0 i1 : Value} {w : World}
    (h : blt Try.prog Builtin.len #[30] 3 #[false] #[l0] (fun t7 w =>
    bin Try.prog BinOp.geq 3 false false i1 t7 (fun t8 w =>
    cond t8
      (K (Value.int IntKind.i64 0) w)
      (idxA Try.prog 30 l0 i1 (fun t11 w =>
    ld Try.prog 3 t11 (fun t12 w =>
    blt Try.prog Builtin.max #[3, 3] 3 #[false, true] #[t12, (Value.int IntKind.i64 0)] (fun t13 w =>
    K t13 w) w) w) w)) w) w) :
    cCode Try.prog (cd Try.f62 []) (retK Try.prog Try.f62.results.toList K) (fun _ _ _ => False) (retK Try.prog Try.f62.results.toList K) [l0, i1, undef, undef, undef, undef, undef, undef, undef, undef, undef, undef, undef, undef] w := Eq.mp (by kernel_rfl) h

theorem leatref04_pick_in {K : KV} {l0 i1 : Value} {w : World}
    (h : blt Try.prog Builtin.len #[30] 3 #[false] #[l0] (fun t7 w =>
    bin Try.prog BinOp.geq 3 false false i1 t7 (fun t8 w =>
    cond t8
      (K (Value.int IntKind.i64 0) w)
      (idxA Try.prog 30 l0 i1 (fun t11 w =>
    ld Try.prog 3 t11 (fun t12 w =>
    blt Try.prog Builtin.max #[3, 3] 3 #[false, true] #[t12, (Value.int IntKind.i64 0)] (fun t13 w =>
    K t13 w) w) w) w)) w) w) :
    Gives Try.prog 62 #[l0, i1] w K := enter' Try.func62 (by kernel_rfl) (Eq.mp (congrArg (fun c => cCode Try.prog c (retK Try.prog Try.f62.results.toList K) (fun _ _ _ => False) (retK Try.prog Try.f62.results.toList K) [l0, i1, undef, undef, undef, undef, undef, undef, undef, undef, undef, undef, undef, undef] w) (by kernel_rfl : (cd Try.f62 []) = (cd Try.f62 []))) (leatref04_pick_k (h : blt Try.prog Builtin.len #[30] 3 #[false] #[l0] (fun t7 w =>
    bin Try.prog BinOp.geq 3 false false i1 t7 (fun t8 w =>
    cond t8
      (K (Value.int IntKind.i64 0) w)
      (idxA Try.prog 30 l0 i1 (fun t11 w =>
    ld Try.prog 3 t11 (fun t12 w =>
    blt Try.prog Builtin.max #[3, 3] 3 #[false, true] #[t12, (Value.int IntKind.i64 0)] (fun t13 w =>
    K t13 w) w) w) w)) w) w)))
theorem leatref04_pick_go : isGo Try.prog 62 := ⟨_, Try.func62, by kernel_rfl, by kernel_rfl⟩

def leatref04_Disk_On_P1 (K : KV) : KE := cCode Try.prog (cd Try.f39 [1, 1, 1, 1, 1]) (retK Try.prog Try.f39.results.toList K) (fun _ _ _ => False) (retK Try.prog Try.f39.results.toList K)
def leatref04_Disk_On_L1 (K : KV) : KE := cCode Try.prog (cd Try.f39 [1, 1, 1, 1, 0, 1, 0]) (leatref04_Disk_On_P1 K) (fun i => @Bool.rec (fun _ => KE) ((fun _ _ _ => False) i) (leatref04_Disk_On_P1 K) (Nat.beq i 0)) (retK Try.prog Try.f39.results.toList K)
def leatref04_Disk_On_P2 (K : KV) : KE := cCode Try.prog (cd Try.f39 [1, 1, 1, 1, 1, 1]) (retK Try.prog Try.f39.results.toList K) (fun _ _ _ => False) (retK Try.prog Try.f39.results.toList K)
def leatref04_Disk_On_A1 (K : KV) : KE := cCode Try.prog (cd Try.f39 [1, 1, 1, 1, 1, 0, 1]) (leatref04_Disk_On_P2 K) (fun _ _ _ => False) (retK Try.prog Try.f39.results.toList K)
theorem leatref04_Disk_On_k {K : KV} {d0 picks1 : Value} {w : World}
    (h : nilC d0 (fun t10 w =>
    fldA Try.prog 40 t10 2 (fun t11 w =>
    ld Try.prog 4 t11 (fun t12 w =>
    un Try.prog UnOp.not t12 (fun t13 w =>
    cond t13
      (K (Value.int IntKind.i64 3) w)
      (hReg (fun S w =>
    hld S (fun k w => nilC d0 k w) (fun t17 =>
    hld S (fun k w => fldA Try.prog 40 t17 1 k w) (fun t18 =>
    hld S (fun k w => ld Try.prog 38 t18 k w) (fun t19 =>
    hld S (fun k w => blt Try.prog Builtin.len #[38] 3 #[false] #[t19] k w) (fun t20 =>
    hld S (fun k w => bin Try.prog BinOp.add 3 false true t20 (Value.int IntKind.i64 1) k w) (fun t21 =>
    call Try.prog 62 #[picks1, (Value.int IntKind.i64 0)] (fun t15 w =>
    hSub S (fun S w =>
    hld S (fun k w => bin Try.prog BinOp.rem 3 false false t15 t21 k w) (fun t22 =>
    nilC d0 (fun t24 w =>
    fldA Try.prog 40 t24 0 (fun t25 w =>
    ld Try.prog 37 t25 (fun t26 w =>
    alc Try.prog 37 (fun f6 w =>
    sto Try.prog 37 f6 t26 (fun _t w =>
    (cCode Try.prog (cd Try.f39 [1, 1, 1, 1, 0, 1, 0]) (cCode Try.prog (cd Try.f39 [1, 1, 1, 1, 1]) (retK Try.prog Try.f39.results.toList K) (fun _ _ _ => False) (retK Try.prog Try.f39.results.toList K)) (fun i => @Bool.rec (fun _ => KE) ((fun _ _ _ => False) i) (cCode Try.prog (cd Try.f39 [1, 1, 1, 1, 1]) (retK Try.prog Try.f39.results.toList K) (fun _ _ _ => False) (retK Try.prog Try.f39.results.toList K)) (Nat.beq i 0)) (retK Try.prog Try.f39.results.toList K)) (d0 :: picks1 :: undef :: undef :: (Value.int IntKind.i64 0) :: t22 :: f6 :: (Value.int IntKind.i64 0) :: undef :: d0 :: t10 :: t11 :: t12 :: t13 :: picks1 :: t15 :: d0 :: t17 :: t18 :: t19 :: t20 :: t21 :: t22 :: d0 :: t24 :: t25 :: t26 :: undef :: undef :: undef :: undef :: undef :: undef :: undef :: undef :: undef :: undef :: undef :: undef :: undef :: undef :: undef :: undef :: undef :: undef :: undef :: undef :: undef :: undef :: undef :: undef :: undef :: undef :: undef :: undef :: undef :: undef :: undef :: undef :: undef :: undef :: undef :: undef :: undef :: undef :: undef :: undef :: undef :: undef :: undef :: undef :: undef :: undef :: undef :: undef :: undef :: undef :: undef :: undef :: undef :: undef :: undef :: undef :: undef :: undef :: undef :: undef :: undef :: undef :: undef :: undef :: undef :: undef :: []) w) w) w) w) w) w)) w) w)))))) w.drew)) w) w) w) w) :
    cCode Try.prog (cd Try.f39 []) (retK Try.prog Try.f39.results.toList K) (fun _ _ _ => False) (retK Try.prog Try.f39.results.toList K) (d0 :: picks1 :: undef :: undef :: undef :: undef :: undef :: undef :: undef :: undef :: undef :: undef :: undef :: undef :: undef :: undef :: undef :: undef :: undef :: undef :: undef :: undef :: undef :: undef :: undef :: undef :: undef :: undef :: undef :: undef :: undef :: undef :: undef :: undef :: undef :: undef :: undef :: undef :: undef :: undef :: undef :: undef :: undef :: undef :: undef :: undef :: undef :: undef :: undef :: undef :: undef :: undef :: undef :: undef :: undef :: undef :: undef :: undef :: undef :: undef :: undef :: undef :: undef :: undef :: undef :: undef :: undef :: undef :: undef :: undef :: undef :: undef :: undef :: undef :: undef :: undef :: undef :: undef :: undef :: undef :: undef :: undef :: undef :: undef :: undef :: undef :: undef :: undef :: undef :: undef :: undef :: undef :: undef :: []) w := Eq.mp (by kernel_rfl) h

theorem leatref04_Disk_On_in {K : KV} {d0 picks1 : Value} {w : World}
    (h : nilC d0 (fun t10 w =>
    fldA Try.prog 40 t10 2 (fun t11 w =>
    ld Try.prog 4 t11 (fun t12 w =>
    un Try.prog UnOp.not t12 (fun t13 w =>
    cond t13
      (K (Value.int IntKind.i64 3) w)
      (hReg (fun S w =>
    hld S (fun k w => nilC d0 k w) (fun t17 =>
    hld S (fun k w => fldA Try.prog 40 t17 1 k w) (fun t18 =>
    hld S (fun k w => ld Try.prog 38 t18 k w) (fun t19 =>
    hld S (fun k w => blt Try.prog Builtin.len #[38] 3 #[false] #[t19] k w) (fun t20 =>
    hld S (fun k w => bin Try.prog BinOp.add 3 false true t20 (Value.int IntKind.i64 1) k w) (fun t21 =>
    call Try.prog 62 #[picks1, (Value.int IntKind.i64 0)] (fun t15 w =>
    hSub S (fun S w =>
    hld S (fun k w => bin Try.prog BinOp.rem 3 false false t15 t21 k w) (fun t22 =>
    nilC d0 (fun t24 w =>
    fldA Try.prog 40 t24 0 (fun t25 w =>
    ld Try.prog 37 t25 (fun t26 w =>
    alc Try.prog 37 (fun f6 w =>
    sto Try.prog 37 f6 t26 (fun _t w =>
    (leatref04_Disk_On_L1 K) (d0 :: picks1 :: undef :: undef :: (Value.int IntKind.i64 0) :: t22 :: f6 :: (Value.int IntKind.i64 0) :: undef :: d0 :: t10 :: t11 :: t12 :: t13 :: picks1 :: t15 :: d0 :: t17 :: t18 :: t19 :: t20 :: t21 :: t22 :: d0 :: t24 :: t25 :: t26 :: undef :: undef :: undef :: undef :: undef :: undef :: undef :: undef :: undef :: undef :: undef :: undef :: undef :: undef :: undef :: undef :: undef :: undef :: undef :: undef :: undef :: undef :: undef :: undef :: undef :: undef :: undef :: undef :: undef :: undef :: undef :: undef :: undef :: undef :: undef :: undef :: undef :: undef :: undef :: undef :: undef :: undef :: undef :: undef :: undef :: undef :: undef :: undef :: undef :: undef :: undef :: undef :: undef :: undef :: undef :: undef :: undef :: undef :: undef :: undef :: undef :: undef :: undef :: undef :: undef :: undef :: []) w) w) w) w) w) w)) w) w)))))) w.drew)) w) w) w) w) :
    Gives Try.prog 39 #[d0, picks1] w K := enter' Try.func39 (by kernel_rfl) (Eq.mp (congrArg (fun c => cCode Try.prog c (retK Try.prog Try.f39.results.toList K) (fun _ _ _ => False) (retK Try.prog Try.f39.results.toList K) (d0 :: picks1 :: undef :: undef :: undef :: undef :: undef :: undef :: undef :: undef :: undef :: undef :: undef :: undef :: undef :: undef :: undef :: undef :: undef :: undef :: undef :: undef :: undef :: undef :: undef :: undef :: undef :: undef :: undef :: undef :: undef :: undef :: undef :: undef :: undef :: undef :: undef :: undef :: undef :: undef :: undef :: undef :: undef :: undef :: undef :: undef :: undef :: undef :: undef :: undef :: undef :: undef :: undef :: undef :: undef :: undef :: undef :: undef :: undef :: undef :: undef :: undef :: undef :: undef :: undef :: undef :: undef :: undef :: undef :: undef :: undef :: undef :: undef :: undef :: undef :: undef :: undef :: undef :: undef :: undef :: undef :: undef :: undef :: undef :: undef :: undef :: undef :: undef :: undef :: undef :: undef :: undef :: undef :: []) w) (by kernel_rfl : (cd Try.f39 []) = (cd Try.f39 []))) (leatref04_Disk_On_k (h : nilC d0 (fun t10 w =>
    fldA Try.prog 40 t10 2 (fun t11 w =>
    ld Try.prog 4 t11 (fun t12 w =>
    un Try.prog UnOp.not t12 (fun t13 w =>
    cond t13
      (K (Value.int IntKind.i64 3) w)
      (hReg (fun S w =>
    hld S (fun k w => nilC d0 k w) (fun t17 =>
    hld S (fun k w => fldA Try.prog 40 t17 1 k w) (fun t18 =>
    hld S (fun k w => ld Try.prog 38 t18 k w) (fun t19 =>
    hld S (fun k w => blt Try.prog Builtin.len #[38] 3 #[false] #[t19] k w) (fun t20 =>
    hld S (fun k w => bin Try.prog BinOp.add 3 false true t20 (Value.int IntKind.i64 1) k w) (fun t21 =>
    call Try.prog 62 #[picks1, (Value.int IntKind.i64 0)] (fun t15 w =>
    hSub S (fun S w =>
    hld S (fun k w => bin Try.prog BinOp.rem 3 false false t15 t21 k w) (fun t22 =>
    nilC d0 (fun t24 w =>
    fldA Try.prog 40 t24 0 (fun t25 w =>
    ld Try.prog 37 t25 (fun t26 w =>
    alc Try.prog 37 (fun f6 w =>
    sto Try.prog 37 f6 t26 (fun _t w =>
    (leatref04_Disk_On_L1 K) (d0 :: picks1 :: undef :: undef :: (Value.int IntKind.i64 0) :: t22 :: f6 :: (Value.int IntKind.i64 0) :: undef :: d0 :: t10 :: t11 :: t12 :: t13 :: picks1 :: t15 :: d0 :: t17 :: t18 :: t19 :: t20 :: t21 :: t22 :: d0 :: t24 :: t25 :: t26 :: undef :: undef :: undef :: undef :: undef :: undef :: undef :: undef :: undef :: undef :: undef :: undef :: undef :: undef :: undef :: undef :: undef :: undef :: undef :: undef :: undef :: undef :: undef :: undef :: undef :: undef :: undef :: undef :: undef :: undef :: undef :: undef :: undef :: undef :: undef :: undef :: undef :: undef :: undef :: undef :: undef :: undef :: undef :: undef :: undef :: undef :: undef :: undef :: undef :: undef :: undef :: undef :: undef :: undef :: undef :: undef :: undef :: undef :: undef :: undef :: undef :: undef :: undef :: undef :: undef :: undef :: []) w) w) w) w) w) w)) w) w)))))) w.drew)) w) w) w) w)))
theorem leatref04_Disk_On_go : isGo Try.prog 39 := ⟨_, Try.func39, by kernel_rfl, by kernel_rfl⟩

theorem leatref04_Disk_On_L1_k {K : KV} (B1 : KE) (q0 : KE) {d0 picks1 d2 picks3 t4 k_5 f6 i7' c8 t9 t10 t11 t12 t13 t14 t15 t16 t17 t18 t19 t20 t21 t22 t23 t24 t25 t26 t41 t42 t43 t44 t45 t46 t47 t48 t49 t50 t51 t52 t53 t54 t55 t56 t57 t58 t59 t60 t61 t62 t63 t64 t65 t66 t67 t68 t69 t70 t71 t72 t73 t74 t75 t76 t77 t78 t79 t80 t81 t82 t83 t84 t85 t86 t87 t88 t89 t90 t91 t92 : Value} {dd : Nat → Value} {w : World}
    (h : bin Try.prog BinOp.lss 3 false false i7' k_5 (fun t29 w =>
    cond t29
      (hReg (fun S w =>
    hld S (fun k w => ld Try.prog 37 f6 k w) (fun t32 =>
    hld S (fun k w => nilC d0 k w) (fun t34 =>
    hld S (fun k w => fldA Try.prog 40 t34 1 k w) (fun t35 =>
    hld S (fun k w => ld Try.prog 38 t35 k w) (fun t36 =>
    hld S (fun k w => idxA Try.prog 38 t36 i7' k w) (fun t38 =>
    hld S (fun k w => ld Try.prog 74 t38 k w) (fun t39 =>
    call Try.prog 63 #[t32, t39] (fun t40 w =>
    hReg (fun S w =>
    sto Try.prog 37 f6 t40 (fun _t w =>
    bin Try.prog BinOp.add 3 false true i7' (Value.int IntKind.i64 1) (fun t31 w =>
    B1 (d0 :: picks1 :: d2 :: picks3 :: t4 :: k_5 :: f6 :: t31 :: c8 :: t9 :: t10 :: t11 :: t12 :: t13 :: t14 :: t15 :: t16 :: t17 :: t18 :: t19 :: t20 :: t21 :: t22 :: t23 :: t24 :: t25 :: t26 :: i7' :: k_5 :: t29 :: i7' :: t31 :: t32 :: d0 :: t34 :: t35 :: t36 :: i7' :: t38 :: t39 :: t40 :: t41 :: t42 :: t43 :: t44 :: t45 :: t46 :: t47 :: t48 :: t49 :: t50 :: t51 :: t52 :: t53 :: t54 :: t55 :: t56 :: t57 :: t58 :: t59 :: t60 :: t61 :: t62 :: t63 :: t64 :: t65 :: t66 :: t67 :: t68 :: t69 :: t70 :: t71 :: t72 :: t73 :: t74 :: t75 :: t76 :: t77 :: t78 :: t79 :: t80 :: t81 :: t82 :: t83 :: t84 :: t85 :: t86 :: t87 :: t88 :: t89 :: t90 :: t91 :: t92 :: []) w) w) w) w) w))))))) w.drew)
      (q0 (d0 :: picks1 :: d2 :: picks3 :: t4 :: k_5 :: f6 :: i7' :: c8 :: t9 :: t10 :: t11 :: t12 :: t13 :: t14 :: t15 :: t16 :: t17 :: t18 :: t19 :: t20 :: t21 :: t22 :: t23 :: t24 :: t25 :: t26 :: i7' :: k_5 :: t29 :: (dd 30) :: (dd 31) :: (dd 32) :: (dd 33) :: (dd 34) :: (dd 35) :: (dd 36) :: (dd 37) :: (dd 38) :: (dd 39) :: (dd 40) :: t41 :: t42 :: t43 :: t44 :: t45 :: t46 :: t47 :: t48 :: t49 :: t50 :: t51 :: t52 :: t53 :: t54 :: t55 :: t56 :: t57 :: t58 :: t59 :: t60 :: t61 :: t62 :: t63 :: t64 :: t65 :: t66 :: t67 :: t68 :: t69 :: t70 :: t71 :: t72 :: t73 :: t74 :: t75 :: t76 :: t77 :: t78 :: t79 :: t80 :: t81 :: t82 :: t83 :: t84 :: t85 :: t86 :: t87 :: t88 :: t89 :: t90 :: t91 :: t92 :: []) w)) w) :
    cCode Try.prog (cd Try.f39 [1, 1, 1, 1, 0, 1, 0, 0]) B1 (fun i => @Bool.rec (fun _ => KE) ((fun _ _ _ => False) i) q0 (Nat.beq i 0)) (retK Try.prog Try.f39.results.toList K) (d0 :: picks1 :: d2 :: picks3 :: t4 :: k_5 :: f6 :: i7' :: c8 :: t9 :: t10 :: t11 :: t12 :: t13 :: t14 :: t15 :: t16 :: t17 :: t18 :: t19 :: t20 :: t21 :: t22 :: t23 :: t24 :: t25 :: t26 :: (dd 27) :: (dd 28) :: (dd 29) :: (dd 30) :: (dd 31) :: (dd 32) :: (dd 33) :: (dd 34) :: (dd 35) :: (dd 36) :: (dd 37) :: (dd 38) :: (dd 39) :: (dd 40) :: t41 :: t42 :: t43 :: t44 :: t45 :: t46 :: t47 :: t48 :: t49 :: t50 :: t51 :: t52 :: t53 :: t54 :: t55 :: t56 :: t57 :: t58 :: t59 :: t60 :: t61 :: t62 :: t63 :: t64 :: t65 :: t66 :: t67 :: t68 :: t69 :: t70 :: t71 :: t72 :: t73 :: t74 :: t75 :: t76 :: t77 :: t78 :: t79 :: t80 :: t81 :: t82 :: t83 :: t84 :: t85 :: t86 :: t87 :: t88 :: t89 :: t90 :: t91 :: t92 :: []) w := Eq.mp (by kernel_rfl) h

theorem leatref04_Disk_On_L1_r {K : KV} {d0 picks1 d2 picks3 t4 k_5 f6 i7 c8 t9 t10 t11 t12 t13 t14 t15 t16 t17 t18 t19 t20 t21 t22 t23 t24 t25 t26 t27 t28 t29 t30 t31 t32 t33 t34 t35 t36 t37 t38 t39 t40 t41 t42 t43 t44 t45 t46 t47 t48 t49 t50 t51 t52 t53 t54 t55 t56 t57 t58 t59 t60 t61 t62 t63 t64 t65 t66 t67 t68 t69 t70 t71 t72 t73 t74 t75 t76 t77 t78 t79 t80 t81 t82 t83 t84 t85 t86 t87 t88 t89 t90 t91 t92 : Value} {w : World} (Inv : Value → World → Prop) (μ : Value → World → Nat) (h0 : Inv i7 w)
    (hs : ∀ (i7' : Value) (dd : Nat → Value) (w : World) (m : Nat), Inv i7' w → m = μ i7' w →
    bin Try.prog BinOp.lss 3 false false i7' k_5 (fun t29 w =>
    cond t29
      (hReg (fun S w =>
    hld S (fun k w => ld Try.prog 37 f6 k w) (fun t32 =>
    hld S (fun k w => nilC d0 k w) (fun t34 =>
    hld S (fun k w => fldA Try.prog 40 t34 1 k w) (fun t35 =>
    hld S (fun k w => ld Try.prog 38 t35 k w) (fun t36 =>
    hld S (fun k w => idxA Try.prog 38 t36 i7' k w) (fun t38 =>
    hld S (fun k w => ld Try.prog 74 t38 k w) (fun t39 =>
    call Try.prog 63 #[t32, t39] (fun t40 w =>
    hReg (fun S w =>
    sto Try.prog 37 f6 t40 (fun _t w =>
    bin Try.prog BinOp.add 3 false true i7' (Value.int IntKind.i64 1) (fun t31 w =>
    (Inv t31 w ∧ μ t31 w < m)) w) w) w) w))))))) w.drew)
      ((leatref04_Disk_On_P1 K) (d0 :: picks1 :: d2 :: picks3 :: t4 :: k_5 :: f6 :: i7' :: c8 :: t9 :: t10 :: t11 :: t12 :: t13 :: t14 :: t15 :: t16 :: t17 :: t18 :: t19 :: t20 :: t21 :: t22 :: t23 :: t24 :: t25 :: t26 :: i7' :: k_5 :: t29 :: (dd 30) :: (dd 31) :: (dd 32) :: (dd 33) :: (dd 34) :: (dd 35) :: (dd 36) :: (dd 37) :: (dd 38) :: (dd 39) :: (dd 40) :: t41 :: t42 :: t43 :: t44 :: t45 :: t46 :: t47 :: t48 :: t49 :: t50 :: t51 :: t52 :: t53 :: t54 :: t55 :: t56 :: t57 :: t58 :: t59 :: t60 :: t61 :: t62 :: t63 :: t64 :: t65 :: t66 :: t67 :: t68 :: t69 :: t70 :: t71 :: t72 :: t73 :: t74 :: t75 :: t76 :: t77 :: t78 :: t79 :: t80 :: t81 :: t82 :: t83 :: t84 :: t85 :: t86 :: t87 :: t88 :: t89 :: t90 :: t91 :: t92 :: []) w)) w) :
    leatref04_Disk_On_L1 K (d0 :: picks1 :: d2 :: picks3 :: t4 :: k_5 :: f6 :: i7 :: c8 :: t9 :: t10 :: t11 :: t12 :: t13 :: t14 :: t15 :: t16 :: t17 :: t18 :: t19 :: t20 :: t21 :: t22 :: t23 :: t24 :: t25 :: t26 :: t27 :: t28 :: t29 :: t30 :: t31 :: t32 :: t33 :: t34 :: t35 :: t36 :: t37 :: t38 :: t39 :: t40 :: t41 :: t42 :: t43 :: t44 :: t45 :: t46 :: t47 :: t48 :: t49 :: t50 :: t51 :: t52 :: t53 :: t54 :: t55 :: t56 :: t57 :: t58 :: t59 :: t60 :: t61 :: t62 :: t63 :: t64 :: t65 :: t66 :: t67 :: t68 :: t69 :: t70 :: t71 :: t72 :: t73 :: t74 :: t75 :: t76 :: t77 :: t78 :: t79 :: t80 :: t81 :: t82 :: t83 :: t84 :: t85 :: t86 :: t87 :: t88 :: t89 :: t90 :: t91 :: t92 :: []) w := by
  refine loop_rule (cd Try.f39 [1, 1, 1, 1, 0, 1, 0, 0]) [7, 27, 28, 29, 30, 31, 32, 33, 34, 35, 36, 37, 38, 39, 40] (by kernel_rfl) (fun e2 w2 => Inv (gd e2 7) w2) (fun e2 w2 => μ (gd e2 7) w2) h0 ?_
  intro e' w' hI
  have h := hs (gd e' 7) (fun i => gd e' i) w' _ hI rfl
  have h2 : cCode Try.prog (cd Try.f39 [1, 1, 1, 1, 0, 1, 0, 0]) (fun e2 w2 => Inv (gd e2 7) w2 ∧ μ (gd e2 7) w2 < μ (gd e' 7) w') (fun i => @Bool.rec (fun _ => KE) ((fun _ _ _ => False) i) (leatref04_Disk_On_P1 K) (Nat.beq i 0)) (retK Try.prog Try.f39.results.toList K) (d0 :: picks1 :: d2 :: picks3 :: t4 :: k_5 :: f6 :: (gd e' 7) :: c8 :: t9 :: t10 :: t11 :: t12 :: t13 :: t14 :: t15 :: t16 :: t17 :: t18 :: t19 :: t20 :: t21 :: t22 :: t23 :: t24 :: t25 :: t26 :: (gd e' 27) :: (gd e' 28) :: (gd e' 29) :: (gd e' 30) :: (gd e' 31) :: (gd e' 32) :: (gd e' 33) :: (gd e' 34) :: (gd e' 35) :: (gd e' 36) :: (gd e' 37) :: (gd e' 38) :: (gd e' 39) :: (gd e' 40) :: t41 :: t42 :: t43 :: t44 :: t45 :: t46 :: t47 :: t48 :: t49 :: t50 :: t51 :: t52 :: t53 :: t54 :: t55 :: t56 :: t57 :: t58 :: t59 :: t60 :: t61 :: t62 :: t63 :: t64 :: t65 :: t66 :: t67 :: t68 :: t69 :: t70 :: t71 :: t72 :: t73 :: t74 :: t75 :: t76 :: t77 :: t78 :: t79 :: t80 :: t81 :: t82 :: t83 :: t84 :: t85 :: t86 :: t87 :: t88 :: t89 :: t90 :: t91 :: t92 :: []) w' := leatref04_Disk_On_L1_k (fun e2 w2 => Inv (gd e2 7) w2 ∧ μ (gd e2 7) w2 < μ (gd e' 7) w') (leatref04_Disk_On_P1 K) (Eq.mp (by kernel_rfl) h)
  exact Eq.mp (by kernel_rfl) h2

theorem leatref04_Disk_On_P1_k {K : KV} (x0 : Code) {d0 picks1 d2 picks3 t4 k_5 f6 i7 c8 t9 t10 t11 t12 t13 t14 t15 t16 t17 t18 t19 t20 t21 t22 t23 t24 t25 t26 t27 t28 t29 t30 t31 t32 t33 t34 t35 t36 t37 t38 t39 t40 t41 t42 t43 t44 t45 t46 t47 t48 t49 t50 t51 t52 t53 t54 t55 t56 t57 t58 t59 t60 t61 t62 t63 t64 t65 t66 t67 t68 t69 t70 t71 t72 t73 t74 t75 t76 t77 t78 t79 t80 t81 t82 t83 t84 t85 t86 t87 t88 t89 t90 t91 t92 : Value} {w : World}
    (h : nilC d0 (fun t43 w =>
    fldA Try.prog 40 t43 1 (fun t44 w =>
    ld Try.prog 38 t44 (fun t45 w =>
    blt Try.prog Builtin.len #[38] 3 #[false] #[t45] (fun t46 w =>
    bin Try.prog BinOp.lss 3 false false k_5 t46 (fun t47 w =>
    gsel t47 true (fun k49 =>
    nilC d0 (fun t50 w =>
    fldA Try.prog 40 t50 1 (fun t51 w =>
    ld Try.prog 38 t51 (fun t52 w =>
    idxA Try.prog 38 t52 k_5 (fun t54 w =>
    fldA Try.prog 74 t54 0 (fun t55 w =>
    ld Try.prog 3 t55 (fun t56 w =>
    bin Try.prog BinOp.eql 3 false true t56 (Value.int IntKind.i64 1) (fun t57 w =>
    k49 [d0, t50, t51, t52, k_5, t54, t55, t56, t57] w) w) w) w) w) w) w) w)
    (fun k => k [undef, undef, undef, undef, undef, undef, undef, undef, undef] w) (fun us49 w =>
    pick t47 (gd us49 8) (Value.bool false) (fun t58 w =>
    (cCode Try.prog x0 (cCode Try.prog (cd Try.f39 [1, 1, 1, 1, 1, 1]) (retK Try.prog Try.f39.results.toList K) (fun _ _ _ => False) (retK Try.prog Try.f39.results.toList K)) (fun _ _ _ => False) (retK Try.prog Try.f39.results.toList K)) (d0 :: picks1 :: d2 :: picks3 :: t4 :: k_5 :: f6 :: i7 :: c8 :: t9 :: t10 :: t11 :: t12 :: t13 :: t14 :: t15 :: t16 :: t17 :: t18 :: t19 :: t20 :: t21 :: t22 :: t23 :: t24 :: t25 :: t26 :: t27 :: t28 :: t29 :: t30 :: t31 :: t32 :: t33 :: t34 :: t35 :: t36 :: t37 :: t38 :: t39 :: t40 :: k_5 :: d0 :: t43 :: t44 :: t45 :: t46 :: t47 :: t47 :: (gd us49 0) :: (gd us49 1) :: (gd us49 2) :: (gd us49 3) :: (gd us49 4) :: (gd us49 5) :: (gd us49 6) :: (gd us49 7) :: (gd us49 8) :: t58 :: t59 :: t60 :: t61 :: t62 :: t63 :: t64 :: t65 :: t66 :: t67 :: t68 :: t69 :: t70 :: t71 :: t72 :: t73 :: t74 :: t75 :: t76 :: t77 :: t78 :: t79 :: t80 :: t81 :: t82 :: t83 :: t84 :: t85 :: t86 :: t87 :: t88 :: t89 :: t90 :: t91 :: t92 :: []) w) w)) w) w) w) w) w) :
    cCode Try.prog (rep [0, 1] x0 (cd Try.f39 [1, 1, 1, 1, 1])) (retK Try.prog Try.f39.results.toList K) (fun _ _ _ => False) (retK Try.prog Try.f39.results.toList K) (d0 :: picks1 :: d2 :: picks3 :: t4 :: k_5 :: f6 :: i7 :: c8 :: t9 :: t10 :: t11 :: t12 :: t13 :: t14 :: t15 :: t16 :: t17 :: t18 :: t19 :: t20 :: t21 :: t22 :: t23 :: t24 :: t25 :: t26 :: t27 :: t28 :: t29 :: t30 :: t31 :: t32 :: t33 :: t34 :: t35 :: t36 :: t37 :: t38 :: t39 :: t40 :: t41 :: t42 :: t43 :: t44 :: t45 :: t46 :: t47 :: t48 :: t49 :: t50 :: t51 :: t52 :: t53 :: t54 :: t55 :: t56 :: t57 :: t58 :: t59 :: t60 :: t61 :: t62 :: t63 :: t64 :: t65 :: t66 :: t67 :: t68 :: t69 :: t70 :: t71 :: t72 :: t73 :: t74 :: t75 :: t76 :: t77 :: t78 :: t79 :: t80 :: t81 :: t82 :: t83 :: t84 :: t85 :: t86 :: t87 :: t88 :: t89 :: t90 :: t91 :: t92 :: []) w := Eq.mp (by kernel_rfl) h

theorem leatref04_Disk_On_P1_r {K : KV} {d0 picks1 d2 picks3 t4 k_5 f6 i7 c8 t9 t10 t11 t12 t13 t14 t15 t16 t17 t18 t19 t20 t21 t22 t23 t24 t25 t26 t27 t28 t29 t30 t31 t32 t33 t34 t35 t36 t37 t38 t39 t40 t41 t42 t43 t44 t45 t46 t47 t48 t49 t50 t51 t52 t53 t54 t55 t56 t57 t58 t59 t60 t61 t62 t63 t64 t65 t66 t67 t68 t69 t70 t71 t72 t73 t74 t75 t76 t77 t78 t79 t80 t81 t82 t83 t84 t85 t86 t87 t88 t89 t90 t91 t92 : Value} {w : World}
    (h : nilC d0 (fun t43 w =>
    fldA Try.prog 40 t43 1 (fun t44 w =>
    ld Try.prog 38 t44 (fun t45 w =>
    blt Try.prog Builtin.len #[38] 3 #[false] #[t45] (fun t46 w =>
    bin Try.prog BinOp.lss 3 false false k_5 t46 (fun t47 w =>
    gsel t47 true (fun k49 =>
    nilC d0 (fun t50 w =>
    fldA Try.prog 40 t50 1 (fun t51 w =>
    ld Try.prog 38 t51 (fun t52 w =>
    idxA Try.prog 38 t52 k_5 (fun t54 w =>
    fldA Try.prog 74 t54 0 (fun t55 w =>
    ld Try.prog 3 t55 (fun t56 w =>
    bin Try.prog BinOp.eql 3 false true t56 (Value.int IntKind.i64 1) (fun t57 w =>
    k49 [d0, t50, t51, t52, k_5, t54, t55, t56, t57] w) w) w) w) w) w) w) w)
    (fun k => k [undef, undef, undef, undef, undef, undef, undef, undef, undef] w) (fun us49 w =>
    pick t47 (gd us49 8) (Value.bool false) (fun t58 w =>
    (leatref04_Disk_On_A1 K) (d0 :: picks1 :: d2 :: picks3 :: t4 :: k_5 :: f6 :: i7 :: c8 :: t9 :: t10 :: t11 :: t12 :: t13 :: t14 :: t15 :: t16 :: t17 :: t18 :: t19 :: t20 :: t21 :: t22 :: t23 :: t24 :: t25 :: t26 :: t27 :: t28 :: t29 :: t30 :: t31 :: t32 :: t33 :: t34 :: t35 :: t36 :: t37 :: t38 :: t39 :: t40 :: k_5 :: d0 :: t43 :: t44 :: t45 :: t46 :: t47 :: t47 :: (gd us49 0) :: (gd us49 1) :: (gd us49 2) :: (gd us49 3) :: (gd us49 4) :: (gd us49 5) :: (gd us49 6) :: (gd us49 7) :: (gd us49 8) :: t58 :: t59 :: t60 :: t61 :: t62 :: t63 :: t64 :: t65 :: t66 :: t67 :: t68 :: t69 :: t70 :: t71 :: t72 :: t73 :: t74 :: t75 :: t76 :: t77 :: t78 :: t79 :: t80 :: t81 :: t82 :: t83 :: t84 :: t85 :: t86 :: t87 :: t88 :: t89 :: t90 :: t91 :: t92 :: []) w) w)) w) w) w) w) w) :
    leatref04_Disk_On_P1 K (d0 :: picks1 :: d2 :: picks3 :: t4 :: k_5 :: f6 :: i7 :: c8 :: t9 :: t10 :: t11 :: t12 :: t13 :: t14 :: t15 :: t16 :: t17 :: t18 :: t19 :: t20 :: t21 :: t22 :: t23 :: t24 :: t25 :: t26 :: t27 :: t28 :: t29 :: t30 :: t31 :: t32 :: t33 :: t34 :: t35 :: t36 :: t37 :: t38 :: t39 :: t40 :: t41 :: t42 :: t43 :: t44 :: t45 :: t46 :: t47 :: t48 :: t49 :: t50 :: t51 :: t52 :: t53 :: t54 :: t55 :: t56 :: t57 :: t58 :: t59 :: t60 :: t61 :: t62 :: t63 :: t64 :: t65 :: t66 :: t67 :: t68 :: t69 :: t70 :: t71 :: t72 :: t73 :: t74 :: t75 :: t76 :: t77 :: t78 :: t79 :: t80 :: t81 :: t82 :: t83 :: t84 :: t85 :: t86 :: t87 :: t88 :: t89 :: t90 :: t91 :: t92 :: []) w := by
  delta leatref04_Disk_On_P1
  exact Eq.mp (congrArg (fun c => cCode Try.prog c (retK Try.prog Try.f39.results.toList K) (fun _ _ _ => False) (retK Try.prog Try.f39.results.toList K) (d0 :: picks1 :: d2 :: picks3 :: t4 :: k_5 :: f6 :: i7 :: c8 :: t9 :: t10 :: t11 :: t12 :: t13 :: t14 :: t15 :: t16 :: t17 :: t18 :: t19 :: t20 :: t21 :: t22 :: t23 :: t24 :: t25 :: t26 :: t27 :: t28 :: t29 :: t30 :: t31 :: t32 :: t33 :: t34 :: t35 :: t36 :: t37 :: t38 :: t39 :: t40 :: t41 :: t42 :: t43 :: t44 :: t45 :: t46 :: t47 :: t48 :: t49 :: t50 :: t51 :: t52 :: t53 :: t54 :: t55 :: t56 :: t57 :: t58 :: t59 :: t60 :: t61 :: t62 :: t63 :: t64 :: t65 :: t66 :: t67 :: t68 :: t69 :: t70 :: t71 :: t72 :: t73 :: t74 :: t75 :: t76 :: t77 :: t78 :: t79 :: t80 :: t81 :: t82 :: t83 :: t84 :: t85 :: t86 :: t87 :: t88 :: t89 :: t90 :: t91 :: t92 :: []) w) (by kernel_rfl : (rep [0, 1] (cd Try.f39 [1, 1, 1, 1, 1, 0, 1]) (cd Try.f39 [1, 1, 1, 1, 1])) = (cd Try.f39 [1, 1, 1, 1, 1]))) (leatref04_Disk_On_P1_k (cd Try.f39 [1, 1, 1, 1, 1, 0, 1]) h)

theorem leatref04_Disk_On_A1_k {K : KV} (q0 : KE) {d0 picks1 d2 picks3 t4 k_5 f6 i7 c8 t9 t10 t11 t12 t13 t14 t15 t16 t17 t18 t19 t20 t21 t22 t23 t24 t25 t26 t27 t28 t29 t30 t31 t32 t33 t34 t35 t36 t37 t38 t39 t40 t41 t42 t43 t44 t45 t46 t47 t48 t49 t50 t51 t52 t53 t54 t55 t56 t57 t58 t59 t60 t61 t62 t63 t64 t65 t66 t67 t68 t69 t70 t71 t72 t73 t74 t75 t76 t77 t78 t79 t80 t81 t82 t83 t84 t85 t86 t87 t88 t89 t90 t91 t92 : Value} {w : World}
    (h : cond t58
      (nilC d0 (fun t60 w =>
      fldA Try.prog 40 t60 1 (fun t61 w =>
      ld Try.prog 38 t61 (fun t62 w =>
      idxA Try.prog 38 t62 k_5 (fun t64 w =>
      ld Try.prog 74 t64 (fun t65 w =>
      alc Try.prog 74 (fun c8 w =>
      sto Try.prog 74 c8 t65 (fun _t w =>
      hReg (fun S w =>
      hld S (fun k w => fldA Try.prog 74 c8 3 k w) (fun t66 =>
      hld S (fun k w => ld Try.prog 9 t66 k w) (fun t67 =>
      hld S (fun k w => fldA Try.prog 74 c8 3 k w) (fun t70 =>
      hld S (fun k w => ld Try.prog 9 t70 k w) (fun t71 =>
      hld S (fun k w => blt Try.prog Builtin.len #[9] 3 #[false] #[t71] k w) (fun t72 =>
      hld S (fun k w => bin Try.prog BinOp.add 3 false true t72 (Value.int IntKind.i64 1) k w) (fun t73 =>
      call Try.prog 62 #[picks1, (Value.int IntKind.i64 1)] (fun t69 w =>
      hSub S (fun S w =>
      hld S (fun k w => bin Try.prog BinOp.rem 3 false false t69 t73 k w) (fun t74 =>
      hld S (fun k w => slc Try.prog 9 t67 none (some t74) none k w) (fun t75 =>
      hld S (fun k w => fldA Try.prog 74 c8 3 k w) (fun t76 =>
      sto Try.prog 9 t76 t75 (fun _t w =>
      ld Try.prog 37 f6 (fun t77 w =>
      ld Try.prog 74 c8 (fun t78 w =>
      call Try.prog 63 #[t77, t78] (fun t79 w =>
      sto Try.prog 37 f6 t79 (fun _t w =>
      q0 (d0 :: picks1 :: d2 :: picks3 :: t4 :: k_5 :: f6 :: i7 :: c8 :: t9 :: t10 :: t11 :: t12 :: t13 :: t14 :: t15 :: t16 :: t17 :: t18 :: t19 :: t20 :: t21 :: t22 :: t23 :: t24 :: t25 :: t26 :: t27 :: t28 :: t29 :: t30 :: t31 :: t32 :: t33 :: t34 :: t35 :: t36 :: t37 :: t38 :: t39 :: t40 :: t41 :: t42 :: t43 :: t44 :: t45 :: t46 :: t47 :: t48 :: t49 :: t50 :: t51 :: t52 :: t53 :: t54 :: t55 :: t56 :: t57 :: t58 :: d0 :: t60 :: t61 :: t62 :: k_5 :: t64 :: t65 :: t66 :: t67 :: picks1 :: t69 :: t70 :: t71 :: t72 :: t73 :: t74 :: t75 :: t76 :: t77 :: t78 :: t79 :: t80 :: t81 :: t82 :: t83 :: t84 :: t85 :: t86 :: t87 :: t88 :: t89 :: t90 :: t91 :: t92 :: []) w) w) w) w) w) w)))) w) w))))))) w.drew) w) w) w) w) w) w) w)
      (q0 (d0 :: picks1 :: d2 :: picks3 :: t4 :: k_5 :: f6 :: i7 :: c8 :: t9 :: t10 :: t11 :: t12 :: t13 :: t14 :: t15 :: t16 :: t17 :: t18 :: t19 :: t20 :: t21 :: t22 :: t23 :: t24 :: t25 :: t26 :: t27 :: t28 :: t29 :: t30 :: t31 :: t32 :: t33 :: t34 :: t35 :: t36 :: t37 :: t38 :: t39 :: t40 :: t41 :: t42 :: t43 :: t44 :: t45 :: t46 :: t47 :: t48 :: t49 :: t50 :: t51 :: t52 :: t53 :: t54 :: t55 :: t56 :: t57 :: t58 :: t59 :: t60 :: t61 :: t62 :: t63 :: t64 :: t65 :: t66 :: t67 :: t68 :: t69 :: t70 :: t71 :: t72 :: t73 :: t74 :: t75 :: t76 :: t77 :: t78 :: t79 :: t80 :: t81 :: t82 :: t83 :: t84 :: t85 :: t86 :: t87 :: t88 :: t89 :: t90 :: t91 :: t92 :: []) w)) :
    cCode Try.prog (cd Try.f39 [1, 1, 1, 1, 1, 0, 1]) q0 (fun _ _ _ => False) (retK Try.prog Try.f39.results.toList K) (d0 :: picks1 :: d2 :: picks3 :: t4 :: k_5 :: f6 :: i7 :: c8 :: t9 :: t10 :: t11 :: t12 :: t13 :: t14 :: t15 :: t16 :: t17 :: t18 :: t19 :: t20 :: t21 :: t22 :: t23 :: t24 :: t25 :: t26 :: t27 :: t28 :: t29 :: t30 :: t31 :: t32 :: t33 :: t34 :: t35 :: t36 :: t37 :: t38 :: t39 :: t40 :: t41 :: t42 :: t43 :: t44 :: t45 :: t46 :: t47 :: t48 :: t49 :: t50 :: t51 :: t52 :: t53 :: t54 :: t55 :: t56 :: t57 :: t58 :: t59 :: t60 :: t61 :: t62 :: t63 :: t64 :: t65 :: t66 :: t67 :: t68 :: t69 :: t70 :: t71 :: t72 :: t73 :: t74 :: t75 :: t76 :: t77 :: t78 :: t79 :: t80 :: t81 :: t82 :: t83 :: t84 :: t85 :: t86 :: t87 :: t88 :: t89 :: t90 :: t91 :: t92 :: []) w := Eq.mp (by kernel_rfl) h

theorem leatref04_Disk_On_A1_r {K : KV} {d0 picks1 d2 picks3 t4 k_5 f6 i7 c8 t9 t10 t11 t12 t13 t14 t15 t16 t17 t18 t19 t20 t21 t22 t23 t24 t25 t26 t27 t28 t29 t30 t31 t32 t33 t34 t35 t36 t37 t38 t39 t40 t41 t42 t43 t44 t45 t46 t47 t48 t49 t50 t51 t52 t53 t54 t55 t56 t57 t58 t59 t60 t61 t62 t63 t64 t65 t66 t67 t68 t69 t70 t71 t72 t73 t74 t75 t76 t77 t78 t79 t80 t81 t82 t83 t84 t85 t86 t87 t88 t89 t90 t91 t92 : Value} {w : World}
    (h : cond t58
      (nilC d0 (fun t60 w =>
      fldA Try.prog 40 t60 1 (fun t61 w =>
      ld Try.prog 38 t61 (fun t62 w =>
      idxA Try.prog 38 t62 k_5 (fun t64 w =>
      ld Try.prog 74 t64 (fun t65 w =>
      alc Try.prog 74 (fun c8 w =>
      sto Try.prog 74 c8 t65 (fun _t w =>
      hReg (fun S w =>
      hld S (fun k w => fldA Try.prog 74 c8 3 k w) (fun t66 =>
      hld S (fun k w => ld Try.prog 9 t66 k w) (fun t67 =>
      hld S (fun k w => fldA Try.prog 74 c8 3 k w) (fun t70 =>
      hld S (fun k w => ld Try.prog 9 t70 k w) (fun t71 =>
      hld S (fun k w => blt Try.prog Builtin.len #[9] 3 #[false] #[t71] k w) (fun t72 =>
      hld S (fun k w => bin Try.prog BinOp.add 3 false true t72 (Value.int IntKind.i64 1) k w) (fun t73 =>
      call Try.prog 62 #[picks1, (Value.int IntKind.i64 1)] (fun t69 w =>
      hSub S (fun S w =>
      hld S (fun k w => bin Try.prog BinOp.rem 3 false false t69 t73 k w) (fun t74 =>
      hld S (fun k w => slc Try.prog 9 t67 none (some t74) none k w) (fun t75 =>
      hld S (fun k w => fldA Try.prog 74 c8 3 k w) (fun t76 =>
      sto Try.prog 9 t76 t75 (fun _t w =>
      ld Try.prog 37 f6 (fun t77 w =>
      ld Try.prog 74 c8 (fun t78 w =>
      call Try.prog 63 #[t77, t78] (fun t79 w =>
      sto Try.prog 37 f6 t79 (fun _t w =>
      (leatref04_Disk_On_P2 K) (d0 :: picks1 :: d2 :: picks3 :: t4 :: k_5 :: f6 :: i7 :: c8 :: t9 :: t10 :: t11 :: t12 :: t13 :: t14 :: t15 :: t16 :: t17 :: t18 :: t19 :: t20 :: t21 :: t22 :: t23 :: t24 :: t25 :: t26 :: t27 :: t28 :: t29 :: t30 :: t31 :: t32 :: t33 :: t34 :: t35 :: t36 :: t37 :: t38 :: t39 :: t40 :: t41 :: t42 :: t43 :: t44 :: t45 :: t46 :: t47 :: t48 :: t49 :: t50 :: t51 :: t52 :: t53 :: t54 :: t55 :: t56 :: t57 :: t58 :: d0 :: t60 :: t61 :: t62 :: k_5 :: t64 :: t65 :: t66 :: t67 :: picks1 :: t69 :: t70 :: t71 :: t72 :: t73 :: t74 :: t75 :: t76 :: t77 :: t78 :: t79 :: t80 :: t81 :: t82 :: t83 :: t84 :: t85 :: t86 :: t87 :: t88 :: t89 :: t90 :: t91 :: t92 :: []) w) w) w) w) w) w)))) w) w))))))) w.drew) w) w) w) w) w) w) w)
      ((leatref04_Disk_On_P2 K) (d0 :: picks1 :: d2 :: picks3 :: t4 :: k_5 :: f6 :: i7 :: c8 :: t9 :: t10 :: t11 :: t12 :: t13 :: t14 :: t15 :: t16 :: t17 :: t18 :: t19 :: t20 :: t21 :: t22 :: t23 :: t24 :: t25 :: t26 :: t27 :: t28 :: t29 :: t30 :: t31 :: t32 :: t33 :: t34 :: t35 :: t36 :: t37 :: t38 :: t39 :: t40 :: t41 :: t42 :: t43 :: t44 :: t45 :: t46 :: t47 :: t48 :: t49 :: t50 :: t51 :: t52 :: t53 :: t54 :: t55 :: t56 :: t57 :: t58 :: t59 :: t60 :: t61 :: t62 :: t63 :: t64 :: t65 :: t66 :: t67 :: t68 :: t69 :: t70 :: t71 :: t72 :: t73 :: t74 :: t75 :: t76 :: t77 :: t78 :: t79 :: t80 :: t81 :: t82 :: t83 :: t84 :: t85 :: t86 :: t87 :: t88 :: t89 :: t90 :: t91 :: t92 :: []) w)) :
    leatref04_Disk_On_A1 K (d0 :: picks1 :: d2 :: picks3 :: t4 :: k_5 :: f6 :: i7 :: c8 :: t9 :: t10 :: t11 :: t12 :: t13 :: t14 :: t15 :: t16 :: t17 :: t18 :: t19 :: t20 :: t21 :: t22 :: t23 :: t24 :: t25 :: t26 :: t27 :: t28 :: t29 :: t30 :: t31 :: t32 :: t33 :: t34 :: t35 :: t36 :: t37 :: t38 :: t39 :: t40 :: t41 :: t42 :: t43 :: t44 :: t45 :: t46 :: t47 :: t48 :: t49 :: t50 :: t51 :: t52 :: t53 :: t54 :: t55 :: t56 :: t57 :: t58 :: t59 :: t60 :: t61 :: t62 :: t63 :: t64 :: t65 :: t66 :: t67 :: t68 :: t69 :: t70 :: t71 :: t72 :: t73 :: t74 :: t75 :: t76 :: t77 :: t78 :: t79 :: t80 :: t81 :: t82 :: t83 :: t84 :: t85 :: t86 :: t87 :: t88 :: t89 :: t90 :: t91 :: t92 :: []) w := by
  delta leatref04_Disk_On_A1
  exact Eq.mp (congrArg (fun c => cCode Try.prog c (leatref04_Disk_On_P2 K) (fun _ _ _ => False) (retK Try.prog Try.f39.results.toList K) (d0 :: picks1 :: d2 :: picks3 :: t4 :: k_5 :: f6 :: i7 :: c8 :: t9 :: t10 :: t11 :: t12 :: t13 :: t14 :: t15 :: t16 :: t17 :: t18 :: t19 :: t20 :: t21 :: t22 :: t23 :: t24 :: t25 :: t26 :: t27 :: t28 :: t29 :: t30 :: t31 :: t32 :: t33 :: t34 :: t35 :: t36 :: t37 :: t38 :: t39 :: t40 :: t41 :: t42 :: t43 :: t44 :: t45 :: t46 :: t47 :: t48 :: t49 :: t50 :: t51 :: t52 :: t53 :: t54 :: t55 :: t56 :: t57 :: t58 :: t59 :: t60 :: t61 :: t62 :: t63 :: t64 :: t65 :: t66 :: t67 :: t68 :: t69 :: t70 :: t71 :: t72 :: t73 :: t74 :: t75 :: t76 :: t77 :: t78 :: t79 :: t80 :: t81 :: t82 :: t83 :: t84 :: t85 :: t86 :: t87 :: t88 :: t89 :: t90 :: t91 :: t92 :: []) w) (by kernel_rfl : (cd Try.f39 [1, 1, 1, 1, 1, 0, 1]) = (cd Try.f39 [1, 1, 1, 1, 1, 0, 1]))) (leatref04_Disk_On_A1_k (leatref04_Disk_On_P2 K) h)

theorem leatref04_Disk_On_P2_k {K : KV} {d0 picks1 d2 picks3 t4 k_5 f6 i7 c8 t9 t10 t11 t12 t13 t14 t15 t16 t17 t18 t19 t20 t21 t22 t23 t24 t25 t26 t27 t28 t29 t30 t31 t32 t33 t34 t35 t36 t37 t38 t39 t40 t41 t42 t43 t44 t45 t46 t47 t48 t49 t50 t51 t52 t53 t54 t55 t56 t57 t58 t59 t60 t61 t62 t63 t64 t65 t66 t67 t68 t69 t70 t71 t72 t73 t74 t75 t76 t77 t78 t79 t80 t81 t82 t83 t84 t85 t86 t87 t88 t89 t90 t91 t92 : Value} {w : World}
    (h : ld Try.prog 37 f6 (fun t81 w =>
    nilC d0 (fun t82 w =>
    fldA Try.prog 40 t82 0 (fun t83 w =>
    sto Try.prog 37 t83 t81 (fun _t w =>
    nilC d0 (fun t85 w =>
    fldA Try.prog 40 t85 1 (fun t86 w =>
    sto Try.prog 38 t86 (Value.slice none 0 0) (fun _t w =>
    nilC d0 (fun t88 w =>
    fldA Try.prog 40 t88 2 (fun t89 w =>
    sto Try.prog 4 t89 (Value.bool false) (fun _t w =>
    nilC d0 (fun t91 w =>
    fldA Try.prog 40 t91 3 (fun t92 w =>
    sto Try.prog 3 t92 (Value.int IntKind.i64 (-1)) (fun _t w =>
    K (Value.int IntKind.i64 0) w) w) w) w) w) w) w) w) w) w) w) w) w) w) :
    cCode Try.prog (cd Try.f39 [1, 1, 1, 1, 1, 1]) (retK Try.prog Try.f39.results.toList K) (fun _ _ _ => False) (retK Try.prog Try.f39.results.toList K) (d0 :: picks1 :: d2 :: picks3 :: t4 :: k_5 :: f6 :: i7 :: c8 :: t9 :: t10 :: t11 :: t12 :: t13 :: t14 :: t15 :: t16 :: t17 :: t18 :: t19 :: t20 :: t21 :: t22 :: t23 :: t24 :: t25 :: t26 :: t27 :: t28 :: t29 :: t30 :: t31 :: t32 :: t33 :: t34 :: t35 :: t36 :: t37 :: t38 :: t39 :: t40 :: t41 :: t42 :: t43 :: t44 :: t45 :: t46 :: t47 :: t48 :: t49 :: t50 :: t51 :: t52 :: t53 :: t54 :: t55 :: t56 :: t57 :: t58 :: t59 :: t60 :: t61 :: t62 :: t63 :: t64 :: t65 :: t66 :: t67 :: t68 :: t69 :: t70 :: t71 :: t72 :: t73 :: t74 :: t75 :: t76 :: t77 :: t78 :: t79 :: t80 :: t81 :: t82 :: t83 :: t84 :: t85 :: t86 :: t87 :: t88 :: t89 :: t90 :: t91 :: t92 :: []) w := Eq.mp (by kernel_rfl) h

theorem leatref04_Disk_On_P2_r {K : KV} {d0 picks1 d2 picks3 t4 k_5 f6 i7 c8 t9 t10 t11 t12 t13 t14 t15 t16 t17 t18 t19 t20 t21 t22 t23 t24 t25 t26 t27 t28 t29 t30 t31 t32 t33 t34 t35 t36 t37 t38 t39 t40 t41 t42 t43 t44 t45 t46 t47 t48 t49 t50 t51 t52 t53 t54 t55 t56 t57 t58 t59 t60 t61 t62 t63 t64 t65 t66 t67 t68 t69 t70 t71 t72 t73 t74 t75 t76 t77 t78 t79 t80 t81 t82 t83 t84 t85 t86 t87 t88 t89 t90 t91 t92 : Value} {w : World}
    (h : ld Try.prog 37 f6 (fun t81 w =>
    nilC d0 (fun t82 w =>
    fldA Try.prog 40 t82 0 (fun t83 w =>
    sto Try.prog 37 t83 t81 (fun _t w =>
    nilC d0 (fun t85 w =>
    fldA Try.prog 40 t85 1 (fun t86 w =>
    sto Try.prog 38 t86 (Value.slice none 0 0) (fun _t w =>
    nilC d0 (fun t88 w =>
    fldA Try.prog 40 t88 2 (fun t89 w =>
    sto Try.prog 4 t89 (Value.bool false) (fun _t w =>
    nilC d0 (fun t91 w =>
    fldA Try.prog 40 t91 3 (fun t92 w =>
    sto Try.prog 3 t92 (Value.int IntKind.i64 (-1)) (fun _t w =>
    K (Value.int IntKind.i64 0) w) w) w) w) w) w) w) w) w) w) w) w) w) w) :
    leatref04_Disk_On_P2 K (d0 :: picks1 :: d2 :: picks3 :: t4 :: k_5 :: f6 :: i7 :: c8 :: t9 :: t10 :: t11 :: t12 :: t13 :: t14 :: t15 :: t16 :: t17 :: t18 :: t19 :: t20 :: t21 :: t22 :: t23 :: t24 :: t25 :: t26 :: t27 :: t28 :: t29 :: t30 :: t31 :: t32 :: t33 :: t34 :: t35 :: t36 :: t37 :: t38 :: t39 :: t40 :: t41 :: t42 :: t43 :: t44 :: t45 :: t46 :: t47 :: t48 :: t49 :: t50 :: t51 :: t52 :: t53 :: t54 :: t55 :: t56 :: t57 :: t58 :: t59 :: t60 :: t61 :: t62 :: t63 :: t64 :: t65 :: t66 :: t67 :: t68 :: t69 :: t70 :: t71 :: t72 :: t73 :: t74 :: t75 :: t76 :: t77 :: t78 :: t79 :: t80 :: t81 :: t82 :: t83 :: t84 :: t85 :: t86 :: t87 :: t88 :: t89 :: t90 :: t91 :: t92 :: []) w := by
  delta leatref04_Disk_On_P2
  exact Eq.mp (congrArg (fun c => cCode Try.prog c (retK Try.prog Try.f39.results.toList K) (fun _ _ _ => False) (retK Try.prog Try.f39.results.toList K) (d0 :: picks1 :: d2 :: picks3 :: t4 :: k_5 :: f6 :: i7 :: c8 :: t9 :: t10 :: t11 :: t12 :: t13 :: t14 :: t15 :: t16 :: t17 :: t18 :: t19 :: t20 :: t21 :: t22 :: t23 :: t24 :: t25 :: t26 :: t27 :: t28 :: t29 :: t30 :: t31 :: t32 :: t33 :: t34 :: t35 :: t36 :: t37 :: t38 :: t39 :: t40 :: t41 :: t42 :: t43 :: t44 :: t45 :: t46 :: t47 :: t48 :: t49 :: t50 :: t51 :: t52 :: t53 :: t54 :: t55 :: t56 :: t57 :: t58 :: t59 :: t60 :: t61 :: t62 :: t63 :: t64 :: t65 :: t66 :: t67 :: t68 :: t69 :: t70 :: t71 :: t72 :: t73 :: t74 :: t75 :: t76 :: t77 :: t78 :: t79 :: t80 :: t81 :: t82 :: t83 :: t84 :: t85 :: t86 :: t87 :: t88 :: t89 :: t90 :: t91 :: t92 :: []) w) (by kernel_rfl : (cd Try.f39 [1, 1, 1, 1, 1, 1]) = (cd Try.f39 [1, 1, 1, 1, 1, 1]))) (leatref04_Disk_On_P2_k h)
attribute [irreducible] leatref04_Disk_On_P1 leatref04_Disk_On_L1 leatref04_Disk_On_P2 leatref04_Disk_On_A1

def leatlaw04_refers_P1 (K : KV) : KE := cCode Try.prog (cd Try.f14 [1, 1]) (retK Try.prog Try.f14.results.toList K) (fun _ _ _ => False) (retK Try.prog Try.f14.results.toList K)
def leatlaw04_refers_A1 (K : KV) : KE := cCode Try.prog (cd Try.f14 [1, 0, 1]) (leatlaw04_refers_P1 K) (fun _ _ _ => False) (retK Try.prog Try.f14.results.toList K)
def leatlaw04_refers_P2 (K : KV) : KE := cCode Try.prog (cd Try.f14 [1, 0, 1, 0, 1]) (leatlaw04_refers_P1 K) (fun i => @Bool.rec (fun _ => KE) ((fun _ _ _ => False) i) (leatlaw04_refers_P1 K) (Nat.beq i 0)) (retK Try.prog Try.f14.results.toList K)
def leatlaw04_refers_A2 (K : KV) : KE := cCode Try.prog (cd Try.f14 [1, 0, 1, 0, 0, 1]) (leatlaw04_refers_P2 K) (fun i => @Bool.rec (fun _ => KE) ((fun _ _ _ => False) i) (leatlaw04_refers_P1 K) (Nat.beq i 0)) (retK Try.prog Try.f14.results.toList K)
theorem leatlaw04_refers_k {K : KV} (x0 : Code) {d0 x1 : Value} {w : World}
    (h : box Try.prog 32 x1 (fun x3 w =>
    fldA Try.prog 32 x3 0 (fun t5 w =>
    ld Try.prog 3 t5 (fun t6 w =>
    (cCode Try.prog x0 (cCode Try.prog (cd Try.f14 [1, 1]) (retK Try.prog Try.f14.results.toList K) (fun _ _ _ => False) (retK Try.prog Try.f14.results.toList K)) (fun _ _ _ => False) (retK Try.prog Try.f14.results.toList K)) [d0, x1, undef, x3, (Value.int IntKind.i64 0), t5, t6, undef, undef, undef, undef, undef, undef, undef, undef, undef, undef, undef, undef, undef, undef, undef, undef, undef, undef, undef, undef, undef, undef, undef, undef, undef, undef, undef, undef, undef, undef, undef, undef, undef, undef, undef, undef, undef, undef] w) w) w) w) :
    cCode Try.prog (rep [1, 0, 1] x0 (cd Try.f14 [])) (retK Try.prog Try.f14.results.toList K) (fun _ _ _ => False) (retK Try.prog Try.f14.results.toList K) [d0, x1, undef, undef, undef, undef, undef, undef, undef, undef, undef, undef, undef, undef, undef, undef, undef, undef, undef, undef, undef, undef, undef, undef, undef, undef, undef, undef, undef, undef, undef, undef, undef, undef, undef, undef, undef, undef, undef, undef, undef, undef, undef, undef, undef] w := Eq.mp (by kernel_rfl) h

theorem leatlaw04_refers_in {K : KV} {d0 x1 : Value} {w : World}
    (h : box Try.prog 32 x1 (fun x3 w =>
    fldA Try.prog 32 x3 0 (fun t5 w =>
    ld Try.prog 3 t5 (fun t6 w =>
    (leatlaw04_refers_A1 K) [d0, x1, undef, x3, (Value.int IntKind.i64 0), t5, t6, undef, undef, undef, undef, undef, undef, undef, undef, undef, undef, undef, undef, undef, undef, undef, undef, undef, undef, undef, undef, undef, undef, undef, undef, undef, undef, undef, undef, undef, undef, undef, undef, undef, undef, undef, undef, undef, undef] w) w) w) w) :
    Gives Try.prog 14 #[d0, x1] w K := enter' Try.func14 (by kernel_rfl) (Eq.mp (congrArg (fun c => cCode Try.prog c (retK Try.prog Try.f14.results.toList K) (fun _ _ _ => False) (retK Try.prog Try.f14.results.toList K) [d0, x1, undef, undef, undef, undef, undef, undef, undef, undef, undef, undef, undef, undef, undef, undef, undef, undef, undef, undef, undef, undef, undef, undef, undef, undef, undef, undef, undef, undef, undef, undef, undef, undef, undef, undef, undef, undef, undef, undef, undef, undef, undef, undef, undef] w) (by kernel_rfl : (rep [1, 0, 1] (cd Try.f14 [1, 0, 1]) (cd Try.f14 [])) = (cd Try.f14 []))) (leatlaw04_refers_k (cd Try.f14 [1, 0, 1]) (h : box Try.prog 32 x1 (fun x3 w =>
    fldA Try.prog 32 x3 0 (fun t5 w =>
    ld Try.prog 3 t5 (fun t6 w =>
    (leatlaw04_refers_A1 K) [d0, x1, undef, x3, (Value.int IntKind.i64 0), t5, t6, undef, undef, undef, undef, undef, undef, undef, undef, undef, undef, undef, undef, undef, undef, undef, undef, undef, undef, undef, undef, undef, undef, undef, undef, undef, undef, undef, undef, undef, undef, undef, undef, undef, undef, undef, undef, undef, undef] w) w) w) w)))
theorem leatlaw04_refers_go : isGo Try.prog 14 := ⟨_, Try.func14, by kernel_rfl, by kernel_rfl⟩

theorem leatlaw04_refers_A1_k {K : KV} (q0 : KE) (x0 : Code) {d0 x1 d2 x3 t4 t5 t6 t7 t8 t9 t10 t11 t12 t13 t14 t15 t16 t17 t18 t19 t20 t21 t22 t23 t24 t25 t26 t27 t28 t29 t30 t31 t32 t33 t34 t35 t36 t37 t38 t39 t40 t41 t42 t43 t44 : Value} {w : World}
    (h : bin Try.prog BinOp.eql 3 false true t6 (Value.int IntKind.i64 1) (fun t8 w =>
    (cCode Try.prog x0 (cCode Try.prog (cd Try.f14 [1, 0, 1, 0, 1]) q0 (fun i => @Bool.rec (fun _ => KE) ((fun _ _ _ => False) i) q0 (Nat.beq i 0)) (retK Try.prog Try.f14.results.toList K)) (fun i => @Bool.rec (fun _ => KE) ((fun _ _ _ => False) i) q0 (Nat.beq i 0)) (retK Try.prog Try.f14.results.toList K)) [d0, x1, d2, x3, t4, t5, t6, t8, t8, t9, t10, t11, t12, t13, t14, t15, t16, t17, t18, t19, t20, t21, t22, t23, t24, t25, t26, t27, t28, t29, t30, t31, t32, t33, t34, t35, t36, t37, t38, t39, t40, t41, t42, t43, t44] w) w) :
    cCode Try.prog (rep [0, 0, 1] x0 (cd Try.f14 [1, 0, 1])) q0 (fun _ _ _ => False) (retK Try.prog Try.f14.results.toList K) [d0, x1, d2, x3, t4, t5, t6, t7, t8, t9, t10, t11, t12, t13, t14, t15, t16, t17, t18, t19, t20, t21, t22, t23, t24, t25, t26, t27, t28, t29, t30, t31, t32, t33, t34, t35, t36, t37, t38, t39, t40, t41, t42, t43, t44] w := Eq.mp (by kernel_rfl) h

theorem leatlaw04_refers_A1_r {K : KV} {d0 x1 d2 x3 t4 t5 t6 t7 t8 t9 t10 t11 t12 t13 t14 t15 t16 t17 t18 t19 t20 t21 t22 t23 t24 t25 t26 t27 t28 t29 t30 t31 t32 t33 t34 t35 t36 t37 t38 t39 t40 t41 t42 t43 t44 : Value} {w : World}
    (h : bin Try.prog BinOp.eql 3 false true t6 (Value.int IntKind.i64 1) (fun t8 w =>
    (leatlaw04_refers_A2 K) [d0, x1, d2, x3, t4, t5, t6, t8, t8, t9, t10, t11, t12, t13, t14, t15, t16, t17, t18, t19, t20, t21, t22, t23, t24, t25, t26, t27, t28, t29, t30, t31, t32, t33, t34, t35, t36, t37, t38, t39, t40, t41, t42, t43, t44] w) w) :
    leatlaw04_refers_A1 K [d0, x1, d2, x3, t4, t5, t6, t7, t8, t9, t10, t11, t12, t13, t14, t15, t16, t17, t18, t19, t20, t21, t22, t23, t24, t25, t26, t27, t28, t29, t30, t31, t32, t33, t34, t35, t36, t37, t38, t39, t40, t41, t42, t43, t44] w := by
  delta leatlaw04_refers_A1
  exact Eq.mp (congrArg (fun c => cCode Try.prog c (leatlaw04_refers_P1 K) (fun _ _ _ => False) (retK Try.prog Try.f14.results.toList K) [d0, x1, d2, x3, t4, t5, t6, t7, t8, t9, t10, t11, t12, t13, t14, t15, t16, t17, t18, t19, t20, t21, t22, t23, t24, t25, t26, t27, t28, t29, t30, t31, t32, t33, t34, t35, t36, t37, t38, t39, t40, t41, t42, t43, t44] w) (by kernel_rfl : (rep [0, 0, 1] (cd Try.f14 [1, 0, 1, 0, 0, 1]) (cd Try.f14 [1, 0, 1])) = (cd Try.f14 [1, 0, 1]))) (leatlaw04_refers_A1_k (leatlaw04_refers_P1 K) (cd Try.f14 [1, 0, 1, 0, 0, 1]) h)

theorem leatlaw04_refers_A2_k {K : KV} (q0 : KE) (q1 : KE) {d0 x1 d2 x3 t4 t5 t6 t7 t8 t9 t10 t11 t12 t13 t14 t15 t16 t17 t18 t19 t20 t21 t22 t23 t24 t25 t26 t27 t28 t29 t30 t31 t32 t33 t34 t35 t36 t37 t38 t39 t40 t41 t42 t43 t44 : Value} {w : World}
    (h : cond t7
      (q0 [d0, x1, d2, x3, t4, t5, t6, t7, t8, t9, t10, t11, t12, t13, t14, t15, t16, t17, t18, t19, t20, t21, t22, t23, t24, t25, t26, t27, t28, t29, t30, t31, t32, t33, t34, t35, t36, t37, t38, t39, t40, t41, t42, t43, t44] w)
      (bin Try.prog BinOp.eql 3 false true t6 (Value.int IntKind.i64 2) (fun t9 w =>
      cond t9
        (q0 [d0, x1, d2, x3, t4, t5, t6, t9, t8, t9, t10, t11, t12, t13, t14, t15, t16, t17, t18, t19, t20, t21, t22, t23, t24, t25, t26, t27, t28, t29, t30, t31, t32, t33, t34, t35, t36, t37, t38, t39, t40, t41, t42, t43, t44] w)
        (bin Try.prog BinOp.eql 3 false true t6 (Value.int IntKind.i64 3) (fun t10 w =>
        q0 [d0, x1, d2, x3, t4, t5, t6, t10, t8, t9, t10, t11, t12, t13, t14, t15, t16, t17, t18, t19, t20, t21, t22, t23, t24, t25, t26, t27, t28, t29, t30, t31, t32, t33, t34, t35, t36, t37, t38, t39, t40, t41, t42, t43, t44] w) w)) w)) :
    cCode Try.prog (cd Try.f14 [1, 0, 1, 0, 0, 1]) q0 (fun i => @Bool.rec (fun _ => KE) ((fun _ _ _ => False) i) q1 (Nat.beq i 0)) (retK Try.prog Try.f14.results.toList K) [d0, x1, d2, x3, t4, t5, t6, t7, t8, t9, t10, t11, t12, t13, t14, t15, t16, t17, t18, t19, t20, t21, t22, t23, t24, t25, t26, t27, t28, t29, t30, t31, t32, t33, t34, t35, t36, t37, t38, t39, t40, t41, t42, t43, t44] w := Eq.mp (by kernel_rfl) h

theorem leatlaw04_refers_A2_r {K : KV} {d0 x1 d2 x3 t4 t5 t6 t7 t8 t9 t10 t11 t12 t13 t14 t15 t16 t17 t18 t19 t20 t21 t22 t23 t24 t25 t26 t27 t28 t29 t30 t31 t32 t33 t34 t35 t36 t37 t38 t39 t40 t41 t42 t43 t44 : Value} {w : World}
    (h : cond t7
      ((leatlaw04_refers_P2 K) [d0, x1, d2, x3, t4, t5, t6, t7, t8, t9, t10, t11, t12, t13, t14, t15, t16, t17, t18, t19, t20, t21, t22, t23, t24, t25, t26, t27, t28, t29, t30, t31, t32, t33, t34, t35, t36, t37, t38, t39, t40, t41, t42, t43, t44] w)
      (bin Try.prog BinOp.eql 3 false true t6 (Value.int IntKind.i64 2) (fun t9 w =>
      cond t9
        ((leatlaw04_refers_P2 K) [d0, x1, d2, x3, t4, t5, t6, t9, t8, t9, t10, t11, t12, t13, t14, t15, t16, t17, t18, t19, t20, t21, t22, t23, t24, t25, t26, t27, t28, t29, t30, t31, t32, t33, t34, t35, t36, t37, t38, t39, t40, t41, t42, t43, t44] w)
        (bin Try.prog BinOp.eql 3 false true t6 (Value.int IntKind.i64 3) (fun t10 w =>
        (leatlaw04_refers_P2 K) [d0, x1, d2, x3, t4, t5, t6, t10, t8, t9, t10, t11, t12, t13, t14, t15, t16, t17, t18, t19, t20, t21, t22, t23, t24, t25, t26, t27, t28, t29, t30, t31, t32, t33, t34, t35, t36, t37, t38, t39, t40, t41, t42, t43, t44] w) w)) w)) :
    leatlaw04_refers_A2 K [d0, x1, d2, x3, t4, t5, t6, t7, t8, t9, t10, t11, t12, t13, t14, t15, t16, t17, t18, t19, t20, t21, t22, t23, t24, t25, t26, t27, t28, t29, t30, t31, t32, t33, t34, t35, t36, t37, t38, t39, t40, t41, t42, t43, t44] w := by
  delta leatlaw04_refers_A2
  exact Eq.mp (congrArg (fun c => cCode Try.prog c (leatlaw04_refers_P2 K) (fun i => @Bool.rec (fun _ => KE) ((fun _ _ _ => False) i) (leatlaw04_refers_P1 K) (Nat.beq i 0)) (retK Try.prog Try.f14.results.toList K) [d0, x1, d2, x3, t4, t5, t6, t7, t8, t9, t10, t11, t12, t13, t14, t15, t16, t17, t18, t19, t20, t21, t22, t23, t24, t25, t26, t27, t28, t29, t30, t31, t32, t33, t34, t35, t36, t37, t38, t39, t40, t41, t42, t43, t44] w) (by kernel_rfl : (cd Try.f14 [1, 0, 1, 0, 0, 1]) = (cd Try.f14 [1, 0, 1, 0, 0, 1]))) (leatlaw04_refers_A2_k (leatlaw04_refers_P2 K) (leatlaw04_refers_P1 K) h)

theorem leatlaw04_refers_P2_k {K : KV} (q0 : KE) {d0 x1 d2 x3 t4 t5 t6 t7 t8 t9 t10 t11 t12 t13 t14 t15 t16 t17 t18 t19 t20 t21 t22 t23 t24 t25 t26 t27 t28 t29 t30 t31 t32 t33 t34 t35 t36 t37 t38 t39 t40 t41 t42 t43 t44 : Value} {w : World}
    (h : cond t7
      (fldA Try.prog 32 x3 0 (fun t12 w =>
      ld Try.prog 3 t12 (fun t13 w =>
      fldA Try.prog 32 x3 1 (fun t14 w =>
      ld Try.prog 3 t14 (fun t15 w =>
      fldA Try.prog 32 x3 2 (fun t16 w =>
      ld Try.prog 3 t16 (fun t17 w =>
      fldA Try.prog 32 x3 3 (fun t18 w =>
      ld Try.prog 29 t18 (fun t19 w =>
      conv Try.prog 29 9 t19 (fun t20 w =>
      bld Try.prog 74 #[(0, t13), (1, t15), (2, t17), (3, t20)] (fun t21 w =>
      call Try.prog 36 #[d0, t21] (fun t22 w =>
      K t22 w) w) w) w) w) w) w) w) w) w) w) w)
      (bin Try.prog BinOp.eql 3 false true t6 (Value.int IntKind.i64 4) (fun t24 w =>
      cond t24
        (call Try.prog 37 #[d0] (fun t26 w =>
        K t26 w) w)
        (bin Try.prog BinOp.eql 3 false true t6 (Value.int IntKind.i64 5) (fun t28 w =>
        cond t28
          (fldA Try.prog 32 x3 2 (fun t30 w =>
          ld Try.prog 3 t30 (fun t31 w =>
          blt Try.prog Builtin.max #[3, 3] 3 #[false, true] #[t31, (Value.int IntKind.i64 (-1))] (fun t32 w =>
          nilC d0 (fun t33 w =>
          fldA Try.prog 40 t33 3 (fun t34 w =>
          sto Try.prog 3 t34 t32 (fun _t w =>
          q0 [d0, x1, d2, x3, t4, t5, t6, t7, t8, t9, t10, t11, t12, t13, t14, t15, t16, t17, t18, t19, t20, t21, t22, t24, t24, t25, t26, t28, t28, d0, t30, t31, t32, t33, t34, t35, t36, t37, t38, t39, t40, t41, t42, t43, t44] w) w) w) w) w) w) w)
          (bin Try.prog BinOp.eql 3 false true t6 (Value.int IntKind.i64 6) (fun t36 w =>
          cond t36
            (call Try.prog 38 #[d0] (fun t38 w =>
            q0 [d0, x1, d2, x3, t4, t5, t6, t7, t8, t9, t10, t11, t12, t13, t14, t15, t16, t17, t18, t19, t20, t21, t22, t24, t24, t25, t26, t28, t28, t29, t30, t31, t32, t33, t34, t36, t36, d0, t38, t39, t40, t41, t42, t43, t44] w) w)
            (bin Try.prog BinOp.eql 3 false true t6 (Value.int IntKind.i64 7) (fun t40 w =>
            cond t40
              (fldA Try.prog 32 x3 4 (fun t42 w =>
              ld Try.prog 30 t42 (fun t43 w =>
              call Try.prog 39 #[d0, t43] (fun t44 w =>
              K t44 w) w) w) w)
              (q0 [d0, x1, d2, x3, t4, t5, t6, t7, t8, t9, t10, t11, t12, t13, t14, t15, t16, t17, t18, t19, t20, t21, t22, t24, t24, t25, t26, t28, t28, t29, t30, t31, t32, t33, t34, t36, t36, t37, t38, t40, t40, t41, t42, t43, t44] w)) w)) w)) w)) w)) :
    cCode Try.prog (cd Try.f14 [1, 0, 1, 0, 1]) q0 (fun i => @Bool.rec (fun _ => KE) ((fun _ _ _ => False) i) q0 (Nat.beq i 0)) (retK Try.prog Try.f14.results.toList K) [d0, x1, d2, x3, t4, t5, t6, t7, t8, t9, t10, t11, t12, t13, t14, t15, t16, t17, t18, t19, t20, t21, t22, t23, t24, t25, t26, t27, t28, t29, t30, t31, t32, t33, t34, t35, t36, t37, t38, t39, t40, t41, t42, t43, t44] w := Eq.mp (by kernel_rfl) h

theorem leatlaw04_refers_P2_r {K : KV} {d0 x1 d2 x3 t4 t5 t6 t7 t8 t9 t10 t11 t12 t13 t14 t15 t16 t17 t18 t19 t20 t21 t22 t23 t24 t25 t26 t27 t28 t29 t30 t31 t32 t33 t34 t35 t36 t37 t38 t39 t40 t41 t42 t43 t44 : Value} {w : World}
    (h : cond t7
      (fldA Try.prog 32 x3 0 (fun t12 w =>
      ld Try.prog 3 t12 (fun t13 w =>
      fldA Try.prog 32 x3 1 (fun t14 w =>
      ld Try.prog 3 t14 (fun t15 w =>
      fldA Try.prog 32 x3 2 (fun t16 w =>
      ld Try.prog 3 t16 (fun t17 w =>
      fldA Try.prog 32 x3 3 (fun t18 w =>
      ld Try.prog 29 t18 (fun t19 w =>
      conv Try.prog 29 9 t19 (fun t20 w =>
      bld Try.prog 74 #[(0, t13), (1, t15), (2, t17), (3, t20)] (fun t21 w =>
      call Try.prog 36 #[d0, t21] (fun t22 w =>
      K t22 w) w) w) w) w) w) w) w) w) w) w) w)
      (bin Try.prog BinOp.eql 3 false true t6 (Value.int IntKind.i64 4) (fun t24 w =>
      cond t24
        (call Try.prog 37 #[d0] (fun t26 w =>
        K t26 w) w)
        (bin Try.prog BinOp.eql 3 false true t6 (Value.int IntKind.i64 5) (fun t28 w =>
        cond t28
          (fldA Try.prog 32 x3 2 (fun t30 w =>
          ld Try.prog 3 t30 (fun t31 w =>
          blt Try.prog Builtin.max #[3, 3] 3 #[false, true] #[t31, (Value.int IntKind.i64 (-1))] (fun t32 w =>
          nilC d0 (fun t33 w =>
          fldA Try.prog 40 t33 3 (fun t34 w =>
          sto Try.prog 3 t34 t32 (fun _t w =>
          (leatlaw04_refers_P1 K) [d0, x1, d2, x3, t4, t5, t6, t7, t8, t9, t10, t11, t12, t13, t14, t15, t16, t17, t18, t19, t20, t21, t22, t24, t24, t25, t26, t28, t28, d0, t30, t31, t32, t33, t34, t35, t36, t37, t38, t39, t40, t41, t42, t43, t44] w) w) w) w) w) w) w)
          (bin Try.prog BinOp.eql 3 false true t6 (Value.int IntKind.i64 6) (fun t36 w =>
          cond t36
            (call Try.prog 38 #[d0] (fun t38 w =>
            (leatlaw04_refers_P1 K) [d0, x1, d2, x3, t4, t5, t6, t7, t8, t9, t10, t11, t12, t13, t14, t15, t16, t17, t18, t19, t20, t21, t22, t24, t24, t25, t26, t28, t28, t29, t30, t31, t32, t33, t34, t36, t36, d0, t38, t39, t40, t41, t42, t43, t44] w) w)
            (bin Try.prog BinOp.eql 3 false true t6 (Value.int IntKind.i64 7) (fun t40 w =>
            cond t40
              (fldA Try.prog 32 x3 4 (fun t42 w =>
              ld Try.prog 30 t42 (fun t43 w =>
              call Try.prog 39 #[d0, t43] (fun t44 w =>
              K t44 w) w) w) w)
              ((leatlaw04_refers_P1 K) [d0, x1, d2, x3, t4, t5, t6, t7, t8, t9, t10, t11, t12, t13, t14, t15, t16, t17, t18, t19, t20, t21, t22, t24, t24, t25, t26, t28, t28, t29, t30, t31, t32, t33, t34, t36, t36, t37, t38, t40, t40, t41, t42, t43, t44] w)) w)) w)) w)) w)) :
    leatlaw04_refers_P2 K [d0, x1, d2, x3, t4, t5, t6, t7, t8, t9, t10, t11, t12, t13, t14, t15, t16, t17, t18, t19, t20, t21, t22, t23, t24, t25, t26, t27, t28, t29, t30, t31, t32, t33, t34, t35, t36, t37, t38, t39, t40, t41, t42, t43, t44] w := by
  delta leatlaw04_refers_P2
  exact Eq.mp (congrArg (fun c => cCode Try.prog c (leatlaw04_refers_P1 K) (fun i => @Bool.rec (fun _ => KE) ((fun _ _ _ => False) i) (leatlaw04_refers_P1 K) (Nat.beq i 0)) (retK Try.prog Try.f14.results.toList K) [d0, x1, d2, x3, t4, t5, t6, t7, t8, t9, t10, t11, t12, t13, t14, t15, t16, t17, t18, t19, t20, t21, t22, t23, t24, t25, t26, t27, t28, t29, t30, t31, t32, t33, t34, t35, t36, t37, t38, t39, t40, t41, t42, t43, t44] w) (by kernel_rfl : (cd Try.f14 [1, 0, 1, 0, 1]) = (cd Try.f14 [1, 0, 1, 0, 1]))) (leatlaw04_refers_P2_k (leatlaw04_refers_P1 K) h)

theorem leatlaw04_refers_P1_k {K : KV} {d0 x1 d2 x3 t4 t5 t6 t7 t8 t9 t10 t11 t12 t13 t14 t15 t16 t17 t18 t19 t20 t21 t22 t23 t24 t25 t26 t27 t28 t29 t30 t31 t32 t33 t34 t35 t36 t37 t38 t39 t40 t41 t42 t43 t44 : Value} {w : World}
    (h : K (Value.int IntKind.i64 0) w) :
    cCode Try.prog (cd Try.f14 [1, 1]) (retK Try.prog Try.f14.results.toList K) (fun _ _ _ => False) (retK Try.prog Try.f14.results.toList K) [d0, x1, d2, x3, t4, t5, t6, t7, t8, t9, t10, t11, t12, t13, t14, t15, t16, t17, t18, t19, t20, t21, t22, t23, t24, t25, t26, t27, t28, t29, t30, t31, t32, t33, t34, t35, t36, t37, t38, t39, t40, t41, t42, t43, t44] w := Eq.mp (by kernel_rfl) h

theorem leatlaw04_refers_P1_r {K : KV} {d0 x1 d2 x3 t4 t5 t6 t7 t8 t9 t10 t11 t12 t13 t14 t15 t16 t17 t18 t19 t20 t21 t22 t23 t24 t25 t26 t27 t28 t29 t30 t31 t32 t33 t34 t35 t36 t37 t38 t39 t40 t41 t42 t43 t44 : Value} {w : World}
    (h : K (Value.int IntKind.i64 0) w) :
    leatlaw04_refers_P1 K [d0, x1, d2, x3, t4, t5, t6, t7, t8, t9, t10, t11, t12, t13, t14, t15, t16, t17, t18, t19, t20, t21, t22, t23, t24, t25, t26, t27, t28, t29, t30, t31, t32, t33, t34, t35, t36, t37, t38, t39, t40, t41, t42, t43, t44] w := by
  delta leatlaw04_refers_P1
  exact Eq.mp (congrArg (fun c => cCode Try.prog c (retK Try.prog Try.f14.results.toList K) (fun _ _ _ => False) (retK Try.prog Try.f14.results.toList K) [d0, x1, d2, x3, t4, t5, t6, t7, t8, t9, t10, t11, t12, t13, t14, t15, t16, t17, t18, t19, t20, t21, t22, t23, t24, t25, t26, t27, t28, t29, t30, t31, t32, t33, t34, t35, t36, t37, t38, t39, t40, t41, t42, t43, t44] w) (by kernel_rfl : (cd Try.f14 [1, 1]) = (cd Try.f14 [1, 1]))) (leatlaw04_refers_P1_k h)
attribute [irreducible] leatlaw04_refers_P1 leatlaw04_refers_A1 leatlaw04_refers_P2 leatlaw04_refers_A2

end Go.Proofs.Ytjkmblbonambjaa
