/- Written by program (gen.py): what the code of some functions asks, part by part; each text is checked by the kernel against the translation. -/
import Derived.Test.YtcieejlkdfdpiaaSh
import Derived.Test.YtcieejlkdfdpiaaChecked
namespace Go.Proofs.Ytcieejlkdfdpiaa
open Go.RowKit
set_option maxRecDepth 100000


theorem audit_New_k {K : KV} {w : World}
    (h : mkMap Try.prog 60 none (fun t1 w =>
    mkMap Try.prog 61 none (fun t2 w =>
    mkMap Try.prog 62 none (fun t3 w =>
    mkMap Try.prog 63 none (fun t4 w =>
    bld Try.prog 65 #[(0, t1), (1, t2), (2, t3), (3, t4)] (fun t5 w =>
    box Try.prog 65 t5 (fun t6 w =>
    K t6 w) w) w) w) w) w) w) :
    cCode Try.prog (cd Try.f7 []) (retK Try.prog Try.f7.results.toList K) (fun _ _ _ => False) (retK Try.prog Try.f7.results.toList K) [undef, undef, undef, undef, undef, undef, undef] w := Eq.mp (by kernel_rfl) h

theorem audit_New_in {K : KV} {w : World}
    (h : mkMap Try.prog 60 none (fun t1 w =>
    mkMap Try.prog 61 none (fun t2 w =>
    mkMap Try.prog 62 none (fun t3 w =>
    mkMap Try.prog 63 none (fun t4 w =>
    bld Try.prog 65 #[(0, t1), (1, t2), (2, t3), (3, t4)] (fun t5 w =>
    box Try.prog 65 t5 (fun t6 w =>
    K t6 w) w) w) w) w) w) w) :
    Gives Try.prog 7 #[] w K := enter' Try.func7 (by kernel_rfl) (Eq.mp (congrArg (fun c => cCode Try.prog c (retK Try.prog Try.f7.results.toList K) (fun _ _ _ => False) (retK Try.prog Try.f7.results.toList K) [undef, undef, undef, undef, undef, undef, undef] w) (by kernel_rfl : (cd Try.f7 []) = (cd Try.f7 []))) (audit_New_k h))
theorem audit_New_go : isGo Try.prog 7 := ⟨_, Try.func7, by kernel_rfl, by kernel_rfl⟩


theorem audit_within_k {K : KV} {x0 : Value} {w : World}
    (h : blt Try.prog Builtin.min #[2, 2] 2 #[false, true] #[x0, (Value.int IntKind.i64 1125899906842624)] (fun t4 w =>
    blt Try.prog Builtin.max #[2, 2] 2 #[true, false] #[(Value.int IntKind.i64 0), t4] (fun t5 w =>
    K t5 w) w) w) :
    cCode Try.prog (cd Try.f17 []) (retK Try.prog Try.f17.results.toList K) (fun _ _ _ => False) (retK Try.prog Try.f17.results.toList K) [x0, undef, undef, undef, undef, undef] w := Eq.mp (by kernel_rfl) h

theorem audit_within_in {K : KV} {x0 : Value} {w : World}
    (h : blt Try.prog Builtin.min #[2, 2] 2 #[false, true] #[x0, (Value.int IntKind.i64 1125899906842624)] (fun t4 w =>
    blt Try.prog Builtin.max #[2, 2] 2 #[true, false] #[(Value.int IntKind.i64 0), t4] (fun t5 w =>
    K t5 w) w) w) :
    Gives Try.prog 17 #[x0] w K := enter' Try.func17 (by kernel_rfl) (Eq.mp (congrArg (fun c => cCode Try.prog c (retK Try.prog Try.f17.results.toList K) (fun _ _ _ => False) (retK Try.prog Try.f17.results.toList K) [x0, undef, undef, undef, undef, undef] w) (by kernel_rfl : (cd Try.f17 []) = (cd Try.f17 []))) (audit_within_k h))
theorem audit_within_go : isGo Try.prog 17 := ⟨_, Try.func17, by kernel_rfl, by kernel_rfl⟩


theorem tree_Id_k {K : KV} {origin0 seq1 : Value} {w : World}
    (h : bin Try.prog BinOp.lss 3 false true origin0 (Value.int IntKind.i64 1) (fun t6 w =>
    gsel t6 false (fun k8 =>
    bin Try.prog BinOp.gtr 3 false true origin0 (Value.int IntKind.i64 6) (fun t9 w =>
    k8 [origin0, t9] w) w)
    (fun k => k [undef, undef] w) (fun us8 w =>
    pick t6 (Value.bool true) (gd us8 1) (fun t10 w =>
    gsel t10 false (fun k12 =>
    bin Try.prog BinOp.lss 33 false true seq1 (Value.int IntKind.u64 1) (fun t13 w =>
    k12 [seq1, t13] w) w)
    (fun k => k [undef, undef] w) (fun us12 w =>
    pick t10 (Value.bool true) (gd us12 1) (fun t14 w =>
    gsel t14 false (fun k16 =>
    bin Try.prog BinOp.geq 33 false true seq1 (Value.int IntKind.u64 1099511627776) (fun t17 w =>
    k16 [seq1, t17] w) w)
    (fun k => k [undef, undef] w) (fun us16 w =>
    pick t14 (Value.bool true) (gd us16 1) (fun t18 w =>
    cond t18
      (K (Value.int IntKind.u64 0) w)
      (conv Try.prog 3 33 origin0 (fun t20 w =>
    bin Try.prog BinOp.shl 33 false true t20 (Value.int IntKind.u64 40) (fun t21 w =>
    bin Try.prog BinOp.or 33 false false t21 seq1 (fun t23 w =>
    K t23 w) w) w) w)) w)) w)) w)) w) :
    cCode Try.prog (cd Try.f16 []) (retK Try.prog Try.f16.results.toList K) (fun _ _ _ => False) (retK Try.prog Try.f16.results.toList K) [origin0, seq1, undef, undef, undef, undef, undef, undef, undef, undef, undef, undef, undef, undef, undef, undef, undef, undef, undef, undef, undef, undef, undef, undef] w := Eq.mp (by kernel_rfl) h

theorem tree_Id_in {K : KV} {origin0 seq1 : Value} {w : World}
    (h : bin Try.prog BinOp.lss 3 false true origin0 (Value.int IntKind.i64 1) (fun t6 w =>
    gsel t6 false (fun k8 =>
    bin Try.prog BinOp.gtr 3 false true origin0 (Value.int IntKind.i64 6) (fun t9 w =>
    k8 [origin0, t9] w) w)
    (fun k => k [undef, undef] w) (fun us8 w =>
    pick t6 (Value.bool true) (gd us8 1) (fun t10 w =>
    gsel t10 false (fun k12 =>
    bin Try.prog BinOp.lss 33 false true seq1 (Value.int IntKind.u64 1) (fun t13 w =>
    k12 [seq1, t13] w) w)
    (fun k => k [undef, undef] w) (fun us12 w =>
    pick t10 (Value.bool true) (gd us12 1) (fun t14 w =>
    gsel t14 false (fun k16 =>
    bin Try.prog BinOp.geq 33 false true seq1 (Value.int IntKind.u64 1099511627776) (fun t17 w =>
    k16 [seq1, t17] w) w)
    (fun k => k [undef, undef] w) (fun us16 w =>
    pick t14 (Value.bool true) (gd us16 1) (fun t18 w =>
    cond t18
      (K (Value.int IntKind.u64 0) w)
      (conv Try.prog 3 33 origin0 (fun t20 w =>
    bin Try.prog BinOp.shl 33 false true t20 (Value.int IntKind.u64 40) (fun t21 w =>
    bin Try.prog BinOp.or 33 false false t21 seq1 (fun t23 w =>
    K t23 w) w) w) w)) w)) w)) w)) w) :
    Gives Try.prog 16 #[origin0, seq1] w K := enter' Try.func16 (by kernel_rfl) (Eq.mp (congrArg (fun c => cCode Try.prog c (retK Try.prog Try.f16.results.toList K) (fun _ _ _ => False) (retK Try.prog Try.f16.results.toList K) [origin0, seq1, undef, undef, undef, undef, undef, undef, undef, undef, undef, undef, undef, undef, undef, undef, undef, undef, undef, undef, undef, undef, undef, undef] w) (by kernel_rfl : (cd Try.f16 []) = (cd Try.f16 []))) (tree_Id_k h))
theorem tree_Id_go : isGo Try.prog 16 := ⟨_, Try.func16, by kernel_rfl, by kernel_rfl⟩

def audit_Audit_Say_A1 (K : KV) : KE := cCode Try.prog (cd Try.f8 [1, 1, 1, 0, 1, 0, 1]) (retK Try.prog Try.f8.results.toList K) (fun i => @Bool.rec (fun _ => KE) ((fun _ _ _ => False) i) (retK Try.prog Try.f8.results.toList K) (Nat.beq i 0)) (retK Try.prog Try.f8.results.toList K)
def audit_Audit_Say_A2 (K : KV) : KE := cCode Try.prog (cd Try.f8 [1, 1, 1, 0, 1, 1, 1]) (retK Try.prog Try.f8.results.toList K) (fun i => @Bool.rec (fun _ => KE) ((fun _ _ _ => False) i) (retK Try.prog Try.f8.results.toList K) (Nat.beq i 0)) (retK Try.prog Try.f8.results.toList K)
def audit_Audit_Say_A3 (K : KV) : KE := cCode Try.prog (cd Try.f8 [1, 1, 1, 0, 1, 1, 1, 1, 1, 0, 1, 1, 1]) (retK Try.prog Try.f8.results.toList K) (fun i => @Bool.rec (fun _ => KE) ((fun _ _ _ => False) i) (retK Try.prog Try.f8.results.toList K) (Nat.beq i 0)) (retK Try.prog Try.f8.results.toList K)
def audit_Audit_Say_A4 (K : KV) : KE := cCode Try.prog (cd Try.f8 [1, 1, 1, 0, 1, 1, 1, 1, 1, 1, 1]) (retK Try.prog Try.f8.results.toList K) (fun i => @Bool.rec (fun _ => KE) ((fun _ _ _ => False) i) (retK Try.prog Try.f8.results.toList K) (Nat.beq i 0)) (retK Try.prog Try.f8.results.toList K)
def audit_Audit_Say_P1 (K : KV) : KE := cCode Try.prog (cd Try.f8 [1, 1, 1, 0, 1, 1, 1, 1, 1, 0, 1, 1, 1, 1]) (retK Try.prog Try.f8.results.toList K) (fun i => @Bool.rec (fun _ => KE) ((fun _ _ _ => False) i) (retK Try.prog Try.f8.results.toList K) (Nat.beq i 0)) (retK Try.prog Try.f8.results.toList K)
def audit_Audit_Say_A5 (K : KV) : KE := cCode Try.prog (cd Try.f8 [1, 1, 1, 0, 1, 1, 1, 1, 1, 0, 1, 1, 1, 0, 1]) (audit_Audit_Say_P1 K) (fun i => @Bool.rec (fun _ => KE) ((fun _ _ _ => False) i) (retK Try.prog Try.f8.results.toList K) (Nat.beq i 0)) (retK Try.prog Try.f8.results.toList K)
theorem audit_Audit_Say_k {K : KV} (xc0 : Code) (xc1 : Code) {a0 who1 k_2 x3 : Value} {w : World}
    (h : box Try.prog 35 k_2 (fun k_6 w =>
    box Try.prog 42 x3 (fun x7 w =>
    bin Try.prog BinOp.eql 24 false true a0 (Value.pointer none) (fun t16 w =>
    gsel t16 false (fun k18 =>
    fldA Try.prog 42 x7 1 (fun t18 w =>
    ld Try.prog 40 t18 (fun t19 w =>
    bin Try.prog BinOp.neq 40 false true t19 (Value.int IntKind.i64 0) (fun t20 w =>
    k18 [t18, t19, t20, t20] w) w) w) w)
    (fun k => k [undef, undef, undef, undef] w) (fun us18 w =>
    gsel (gd us18 3) true (fun k22 =>
    fldA Try.prog 42 x7 1 (fun t22 w =>
    ld Try.prog 40 t22 (fun t23 w =>
    bin Try.prog BinOp.neq 40 false true t23 (Value.int IntKind.i64 8) (fun t24 w =>
    k22 [t22, t23, t24] w) w) w) w)
    (fun k => k [undef, undef, undef] w) (fun us22 w =>
    gsel t16 false (fun k25 =>
    pick (gd us18 3) (gd us22 2) (Value.bool false) (fun t25 w =>
    k25 [t25] w) w)
    (fun k => k [undef] w) (fun us25 w =>
    pick t16 (Value.bool true) (gd us25 0) (fun t26 w =>
    cond t26
      (K (Value.tuple #[]) w)
      (fldA Try.prog 35 k_6 0 (fun t27 w =>
    ld Try.prog 5 t27 (fun t28 w =>
    bin Try.prog BinOp.eql 5 false true t28 (Value.int IntKind.u8 1) (fun t30 w =>
    cond t30
      (fldA Try.prog 42 x7 0 (fun t31 w =>
      fldA Try.prog 39 t31 0 (fun t32 w =>
      ld Try.prog 3 t32 (fun t33 w =>
      fldA Try.prog 42 x7 0 (fun t34 w =>
      fldA Try.prog 39 t34 1 (fun t35 w =>
      ld Try.prog 33 t35 (fun t36 w =>
      call Try.prog 16 #[t33, t36] (fun t37 w =>
      (cCode Try.prog xc0 (retK Try.prog Try.f8.results.toList K) (fun i => @Bool.rec (fun _ => KE) ((fun _ _ _ => False) i) (retK Try.prog Try.f8.results.toList K) (Nat.beq i 0)) (retK Try.prog Try.f8.results.toList K)) (a0 :: who1 :: k_2 :: x3 :: undef :: undef :: k_6 :: x7 :: t37 :: undef :: undef :: undef :: undef :: undef :: undef :: a0 :: t16 :: t16 :: (gd us18 0) :: (gd us18 1) :: (gd us18 2) :: (gd us18 3) :: (gd us22 0) :: (gd us22 1) :: (gd us22 2) :: (gd us25 0) :: t26 :: t27 :: t28 :: t30 :: t30 :: t31 :: t32 :: t33 :: t34 :: t35 :: t36 :: t37 :: undef :: undef :: undef :: undef :: undef :: undef :: undef :: undef :: undef :: undef :: undef :: undef :: undef :: undef :: undef :: undef :: undef :: undef :: undef :: undef :: undef :: undef :: undef :: undef :: undef :: undef :: undef :: undef :: undef :: undef :: undef :: undef :: undef :: undef :: undef :: undef :: undef :: undef :: undef :: undef :: undef :: undef :: undef :: undef :: undef :: undef :: undef :: undef :: undef :: undef :: undef :: undef :: undef :: undef :: undef :: undef :: undef :: undef :: undef :: undef :: undef :: undef :: undef :: undef :: undef :: undef :: undef :: undef :: undef :: undef :: undef :: undef :: undef :: undef :: undef :: undef :: undef :: undef :: undef :: undef :: undef :: undef :: undef :: undef :: undef :: undef :: undef :: undef :: []) w) w) w) w) w) w) w) w)
      (bin Try.prog BinOp.eql 5 false true t28 (Value.int IntKind.u8 2) (fun t65 w =>
      (cCode Try.prog xc1 (retK Try.prog Try.f8.results.toList K) (fun i => @Bool.rec (fun _ => KE) ((fun _ _ _ => False) i) (retK Try.prog Try.f8.results.toList K) (Nat.beq i 0)) (retK Try.prog Try.f8.results.toList K)) (a0 :: who1 :: k_2 :: x3 :: undef :: undef :: k_6 :: x7 :: undef :: undef :: undef :: undef :: undef :: undef :: undef :: a0 :: t16 :: t16 :: (gd us18 0) :: (gd us18 1) :: (gd us18 2) :: (gd us18 3) :: (gd us22 0) :: (gd us22 1) :: (gd us22 2) :: (gd us25 0) :: t26 :: t27 :: t28 :: t30 :: t30 :: undef :: undef :: undef :: undef :: undef :: undef :: undef :: undef :: undef :: undef :: undef :: undef :: undef :: undef :: undef :: undef :: undef :: undef :: undef :: undef :: undef :: undef :: undef :: undef :: undef :: undef :: undef :: undef :: undef :: undef :: undef :: undef :: undef :: t65 :: t65 :: undef :: undef :: undef :: undef :: undef :: undef :: undef :: undef :: undef :: undef :: undef :: undef :: undef :: undef :: undef :: undef :: undef :: undef :: undef :: undef :: undef :: undef :: undef :: undef :: undef :: undef :: undef :: undef :: undef :: undef :: undef :: undef :: undef :: undef :: undef :: undef :: undef :: undef :: undef :: undef :: undef :: undef :: undef :: undef :: undef :: undef :: undef :: undef :: undef :: undef :: undef :: undef :: undef :: undef :: undef :: undef :: undef :: undef :: undef :: undef :: []) w) w)) w) w) w)) w)))) w) w) w) :
    cCode Try.prog (rep [1, 1, 1, 0, 1, 1, 1] xc1 (rep [1, 1, 1, 0, 1, 0, 1] xc0 (cd Try.f8 []))) (retK Try.prog Try.f8.results.toList K) (fun _ _ _ => False) (retK Try.prog Try.f8.results.toList K) (a0 :: who1 :: k_2 :: x3 :: undef :: undef :: undef :: undef :: undef :: undef :: undef :: undef :: undef :: undef :: undef :: undef :: undef :: undef :: undef :: undef :: undef :: undef :: undef :: undef :: undef :: undef :: undef :: undef :: undef :: undef :: undef :: undef :: undef :: undef :: undef :: undef :: undef :: undef :: undef :: undef :: undef :: undef :: undef :: undef :: undef :: undef :: undef :: undef :: undef :: undef :: undef :: undef :: undef :: undef :: undef :: undef :: undef :: undef :: undef :: undef :: undef :: undef :: undef :: undef :: undef :: undef :: undef :: undef :: undef :: undef :: undef :: undef :: undef :: undef :: undef :: undef :: undef :: undef :: undef :: undef :: undef :: undef :: undef :: undef :: undef :: undef :: undef :: undef :: undef :: undef :: undef :: undef :: undef :: undef :: undef :: undef :: undef :: undef :: undef :: undef :: undef :: undef :: undef :: undef :: undef :: undef :: undef :: undef :: undef :: undef :: undef :: undef :: undef :: undef :: undef :: undef :: undef :: undef :: undef :: undef :: undef :: undef :: undef :: undef :: undef :: undef :: []) w := Eq.mp (by kernel_rfl) h

theorem audit_Audit_Say_in {K : KV} {a0 who1 k_2 x3 : Value} {w : World}
    (h : box Try.prog 35 k_2 (fun k_6 w =>
    box Try.prog 42 x3 (fun x7 w =>
    bin Try.prog BinOp.eql 24 false true a0 (Value.pointer none) (fun t16 w =>
    gsel t16 false (fun k18 =>
    fldA Try.prog 42 x7 1 (fun t18 w =>
    ld Try.prog 40 t18 (fun t19 w =>
    bin Try.prog BinOp.neq 40 false true t19 (Value.int IntKind.i64 0) (fun t20 w =>
    k18 [t18, t19, t20, t20] w) w) w) w)
    (fun k => k [undef, undef, undef, undef] w) (fun us18 w =>
    gsel (gd us18 3) true (fun k22 =>
    fldA Try.prog 42 x7 1 (fun t22 w =>
    ld Try.prog 40 t22 (fun t23 w =>
    bin Try.prog BinOp.neq 40 false true t23 (Value.int IntKind.i64 8) (fun t24 w =>
    k22 [t22, t23, t24] w) w) w) w)
    (fun k => k [undef, undef, undef] w) (fun us22 w =>
    gsel t16 false (fun k25 =>
    pick (gd us18 3) (gd us22 2) (Value.bool false) (fun t25 w =>
    k25 [t25] w) w)
    (fun k => k [undef] w) (fun us25 w =>
    pick t16 (Value.bool true) (gd us25 0) (fun t26 w =>
    cond t26
      (K (Value.tuple #[]) w)
      (fldA Try.prog 35 k_6 0 (fun t27 w =>
    ld Try.prog 5 t27 (fun t28 w =>
    bin Try.prog BinOp.eql 5 false true t28 (Value.int IntKind.u8 1) (fun t30 w =>
    cond t30
      (fldA Try.prog 42 x7 0 (fun t31 w =>
      fldA Try.prog 39 t31 0 (fun t32 w =>
      ld Try.prog 3 t32 (fun t33 w =>
      fldA Try.prog 42 x7 0 (fun t34 w =>
      fldA Try.prog 39 t34 1 (fun t35 w =>
      ld Try.prog 33 t35 (fun t36 w =>
      call Try.prog 16 #[t33, t36] (fun t37 w =>
      (audit_Audit_Say_A1 K) (a0 :: who1 :: k_2 :: x3 :: undef :: undef :: k_6 :: x7 :: t37 :: undef :: undef :: undef :: undef :: undef :: undef :: a0 :: t16 :: t16 :: (gd us18 0) :: (gd us18 1) :: (gd us18 2) :: (gd us18 3) :: (gd us22 0) :: (gd us22 1) :: (gd us22 2) :: (gd us25 0) :: t26 :: t27 :: t28 :: t30 :: t30 :: t31 :: t32 :: t33 :: t34 :: t35 :: t36 :: t37 :: undef :: undef :: undef :: undef :: undef :: undef :: undef :: undef :: undef :: undef :: undef :: undef :: undef :: undef :: undef :: undef :: undef :: undef :: undef :: undef :: undef :: undef :: undef :: undef :: undef :: undef :: undef :: undef :: undef :: undef :: undef :: undef :: undef :: undef :: undef :: undef :: undef :: undef :: undef :: undef :: undef :: undef :: undef :: undef :: undef :: undef :: undef :: undef :: undef :: undef :: undef :: undef :: undef :: undef :: undef :: undef :: undef :: undef :: undef :: undef :: undef :: undef :: undef :: undef :: undef :: undef :: undef :: undef :: undef :: undef :: undef :: undef :: undef :: undef :: undef :: undef :: undef :: undef :: undef :: undef :: undef :: undef :: undef :: undef :: undef :: undef :: undef :: undef :: []) w) w) w) w) w) w) w) w)
      (bin Try.prog BinOp.eql 5 false true t28 (Value.int IntKind.u8 2) (fun t65 w =>
      (audit_Audit_Say_A2 K) (a0 :: who1 :: k_2 :: x3 :: undef :: undef :: k_6 :: x7 :: undef :: undef :: undef :: undef :: undef :: undef :: undef :: a0 :: t16 :: t16 :: (gd us18 0) :: (gd us18 1) :: (gd us18 2) :: (gd us18 3) :: (gd us22 0) :: (gd us22 1) :: (gd us22 2) :: (gd us25 0) :: t26 :: t27 :: t28 :: t30 :: t30 :: undef :: undef :: undef :: undef :: undef :: undef :: undef :: undef :: undef :: undef :: undef :: undef :: undef :: undef :: undef :: undef :: undef :: undef :: undef :: undef :: undef :: undef :: undef :: undef :: undef :: undef :: undef :: undef :: undef :: undef :: undef :: undef :: undef :: t65 :: t65 :: undef :: undef :: undef :: undef :: undef :: undef :: undef :: undef :: undef :: undef :: undef :: undef :: undef :: undef :: undef :: undef :: undef :: undef :: undef :: undef :: undef :: undef :: undef :: undef :: undef :: undef :: undef :: undef :: undef :: undef :: undef :: undef :: undef :: undef :: undef :: undef :: undef :: undef :: undef :: undef :: undef :: undef :: undef :: undef :: undef :: undef :: undef :: undef :: undef :: undef :: undef :: undef :: undef :: undef :: undef :: undef :: undef :: undef :: undef :: undef :: []) w) w)) w) w) w)) w)))) w) w) w) :
    Gives Try.prog 8 #[a0, who1, k_2, x3] w K := enter' Try.func8 (by kernel_rfl) (Eq.mp (congrArg (fun c => cCode Try.prog c (retK Try.prog Try.f8.results.toList K) (fun _ _ _ => False) (retK Try.prog Try.f8.results.toList K) (a0 :: who1 :: k_2 :: x3 :: undef :: undef :: undef :: undef :: undef :: undef :: undef :: undef :: undef :: undef :: undef :: undef :: undef :: undef :: undef :: undef :: undef :: undef :: undef :: undef :: undef :: undef :: undef :: undef :: undef :: undef :: undef :: undef :: undef :: undef :: undef :: undef :: undef :: undef :: undef :: undef :: undef :: undef :: undef :: undef :: undef :: undef :: undef :: undef :: undef :: undef :: undef :: undef :: undef :: undef :: undef :: undef :: undef :: undef :: undef :: undef :: undef :: undef :: undef :: undef :: undef :: undef :: undef :: undef :: undef :: undef :: undef :: undef :: undef :: undef :: undef :: undef :: undef :: undef :: undef :: undef :: undef :: undef :: undef :: undef :: undef :: undef :: undef :: undef :: undef :: undef :: undef :: undef :: undef :: undef :: undef :: undef :: undef :: undef :: undef :: undef :: undef :: undef :: undef :: undef :: undef :: undef :: undef :: undef :: undef :: undef :: undef :: undef :: undef :: undef :: undef :: undef :: undef :: undef :: undef :: undef :: undef :: undef :: undef :: undef :: undef :: undef :: []) w) (by kernel_rfl : (rep [1, 1, 1, 0, 1, 1, 1] (cd Try.f8 [1, 1, 1, 0, 1, 1, 1]) (rep [1, 1, 1, 0, 1, 0, 1] (cd Try.f8 [1, 1, 1, 0, 1, 0, 1]) (cd Try.f8 []))) = (cd Try.f8 []))) (audit_Audit_Say_k (cd Try.f8 [1, 1, 1, 0, 1, 0, 1]) (cd Try.f8 [1, 1, 1, 0, 1, 1, 1]) h))
theorem audit_Audit_Say_go : isGo Try.prog 8 := ⟨_, Try.func8, by kernel_rfl, by kernel_rfl⟩

theorem audit_Audit_Say_A1_k {K : KV} {a0 who1 k_2 x3 a4 who5 k_6 x7 id8 t9 is10 q11 t12 is13 t14 t15 t16 t17 t18 t19 t20 t21 t22 t23 t24 t25 t26 t27 t28 t29 t30 t31 t32 t33 t34 t35 t36 t37 t38 t39 t40 t41 t42 t43 t44 t45 t46 t47 t48 t49 t50 t51 t52 t53 t54 t55 t56 t57 t58 t59 t60 t61 t62 t63 t64 t65 t66 t67 t68 t69 t70 t71 t72 t73 t74 t75 t76 t77 t78 t79 t80 t81 t82 t83 t84 t85 t86 t87 t88 t89 t90 t91 t92 t93 t94 t95 t96 t97 t98 t99 t100 t101 t102 t103 t104 t105 t106 t107 t108 t109 t110 t111 t112 t113 t114 t115 t116 t117 t118 t119 t120 t121 t122 t123 t124 t125 : Value} {w : World}
    (h : nilC a0 (fun t40 w =>
    fldA Try.prog 65 t40 0 (fun t41 w =>
    ld Try.prog 60 t41 (fun t42 w =>
    lkp Try.prog 60 t42 id8 true (fun t44 w =>
    ext Try.prog t44 0 (fun t45 w =>
    ext Try.prog t44 1 (fun t46 w =>
    alc Try.prog 68 (fun t9 w =>
    sto Try.prog 68 t9 t45 (fun _t w =>
    bin Try.prog BinOp.neq 33 false true id8 (Value.int IntKind.u64 0) (fun t48 w =>
    gsel t48 true (fun k50 =>
    un Try.prog UnOp.not t46 (fun t51 w =>
    k50 [t46, t51] w) w)
    (fun k => k [undef, undef] w) (fun us50 w =>
    pick t48 (gd us50 1) (Value.bool false) (fun t52 w =>
    cond t52
      (hReg (fun S w =>
      hld S (fun k w => nilC a0 k w) (fun t54 =>
      hld S (fun k w => fldA Try.prog 65 t54 0 k w) (fun t55 =>
      hld S (fun k w => ld Try.prog 60 t55 k w) (fun t56 =>
      hld S (fun k w => fldA Try.prog 35 k_6 1 k w) (fun t58 =>
      hld S (fun k w => ld Try.prog 33 t58 k w) (fun t59 =>
      hld S (fun k w => fldA Try.prog 35 k_6 3 k w) (fun t60 =>
      hld S (fun k w => ld Try.prog 2 t60 k w) (fun t61 =>
      call Try.prog 17 #[t61] (fun t62 w =>
      hSub S (fun S w =>
      hld S (fun k w => bld Try.prog 68 #[(0, t59), (1, t62)] k w) (fun t63 =>
      mUpd Try.prog 60 t56 id8 t63 (fun _t w =>
      K (Value.tuple #[]) w) w)) w) w)))))))) w.drew)
      (K (Value.tuple #[]) w)) w)) w) w) w) w) w) w) w) w) w) :
    cCode Try.prog (cd Try.f8 [1, 1, 1, 0, 1, 0, 1]) (retK Try.prog Try.f8.results.toList K) (fun i => @Bool.rec (fun _ => KE) ((fun _ _ _ => False) i) (retK Try.prog Try.f8.results.toList K) (Nat.beq i 0)) (retK Try.prog Try.f8.results.toList K) (a0 :: who1 :: k_2 :: x3 :: a4 :: who5 :: k_6 :: x7 :: id8 :: t9 :: is10 :: q11 :: t12 :: is13 :: t14 :: t15 :: t16 :: t17 :: t18 :: t19 :: t20 :: t21 :: t22 :: t23 :: t24 :: t25 :: t26 :: t27 :: t28 :: t29 :: t30 :: t31 :: t32 :: t33 :: t34 :: t35 :: t36 :: t37 :: t38 :: t39 :: t40 :: t41 :: t42 :: t43 :: t44 :: t45 :: t46 :: t47 :: t48 :: t49 :: t50 :: t51 :: t52 :: t53 :: t54 :: t55 :: t56 :: t57 :: t58 :: t59 :: t60 :: t61 :: t62 :: t63 :: t64 :: t65 :: t66 :: t67 :: t68 :: t69 :: t70 :: t71 :: t72 :: t73 :: t74 :: t75 :: t76 :: t77 :: t78 :: t79 :: t80 :: t81 :: t82 :: t83 :: t84 :: t85 :: t86 :: t87 :: t88 :: t89 :: t90 :: t91 :: t92 :: t93 :: t94 :: t95 :: t96 :: t97 :: t98 :: t99 :: t100 :: t101 :: t102 :: t103 :: t104 :: t105 :: t106 :: t107 :: t108 :: t109 :: t110 :: t111 :: t112 :: t113 :: t114 :: t115 :: t116 :: t117 :: t118 :: t119 :: t120 :: t121 :: t122 :: t123 :: t124 :: t125 :: []) w := Eq.mp (by kernel_rfl) h

theorem audit_Audit_Say_A1_r {K : KV} {a0 who1 k_2 x3 a4 who5 k_6 x7 id8 t9 is10 q11 t12 is13 t14 t15 t16 t17 t18 t19 t20 t21 t22 t23 t24 t25 t26 t27 t28 t29 t30 t31 t32 t33 t34 t35 t36 t37 t38 t39 t40 t41 t42 t43 t44 t45 t46 t47 t48 t49 t50 t51 t52 t53 t54 t55 t56 t57 t58 t59 t60 t61 t62 t63 t64 t65 t66 t67 t68 t69 t70 t71 t72 t73 t74 t75 t76 t77 t78 t79 t80 t81 t82 t83 t84 t85 t86 t87 t88 t89 t90 t91 t92 t93 t94 t95 t96 t97 t98 t99 t100 t101 t102 t103 t104 t105 t106 t107 t108 t109 t110 t111 t112 t113 t114 t115 t116 t117 t118 t119 t120 t121 t122 t123 t124 t125 : Value} {w : World}
    (h : nilC a0 (fun t40 w =>
    fldA Try.prog 65 t40 0 (fun t41 w =>
    ld Try.prog 60 t41 (fun t42 w =>
    lkp Try.prog 60 t42 id8 true (fun t44 w =>
    ext Try.prog t44 0 (fun t45 w =>
    ext Try.prog t44 1 (fun t46 w =>
    alc Try.prog 68 (fun t9 w =>
    sto Try.prog 68 t9 t45 (fun _t w =>
    bin Try.prog BinOp.neq 33 false true id8 (Value.int IntKind.u64 0) (fun t48 w =>
    gsel t48 true (fun k50 =>
    un Try.prog UnOp.not t46 (fun t51 w =>
    k50 [t46, t51] w) w)
    (fun k => k [undef, undef] w) (fun us50 w =>
    pick t48 (gd us50 1) (Value.bool false) (fun t52 w =>
    cond t52
      (hReg (fun S w =>
      hld S (fun k w => nilC a0 k w) (fun t54 =>
      hld S (fun k w => fldA Try.prog 65 t54 0 k w) (fun t55 =>
      hld S (fun k w => ld Try.prog 60 t55 k w) (fun t56 =>
      hld S (fun k w => fldA Try.prog 35 k_6 1 k w) (fun t58 =>
      hld S (fun k w => ld Try.prog 33 t58 k w) (fun t59 =>
      hld S (fun k w => fldA Try.prog 35 k_6 3 k w) (fun t60 =>
      hld S (fun k w => ld Try.prog 2 t60 k w) (fun t61 =>
      call Try.prog 17 #[t61] (fun t62 w =>
      hSub S (fun S w =>
      hld S (fun k w => bld Try.prog 68 #[(0, t59), (1, t62)] k w) (fun t63 =>
      mUpd Try.prog 60 t56 id8 t63 (fun _t w =>
      K (Value.tuple #[]) w) w)) w) w)))))))) w.drew)
      (K (Value.tuple #[]) w)) w)) w) w) w) w) w) w) w) w) w) :
    audit_Audit_Say_A1 K (a0 :: who1 :: k_2 :: x3 :: a4 :: who5 :: k_6 :: x7 :: id8 :: t9 :: is10 :: q11 :: t12 :: is13 :: t14 :: t15 :: t16 :: t17 :: t18 :: t19 :: t20 :: t21 :: t22 :: t23 :: t24 :: t25 :: t26 :: t27 :: t28 :: t29 :: t30 :: t31 :: t32 :: t33 :: t34 :: t35 :: t36 :: t37 :: t38 :: t39 :: t40 :: t41 :: t42 :: t43 :: t44 :: t45 :: t46 :: t47 :: t48 :: t49 :: t50 :: t51 :: t52 :: t53 :: t54 :: t55 :: t56 :: t57 :: t58 :: t59 :: t60 :: t61 :: t62 :: t63 :: t64 :: t65 :: t66 :: t67 :: t68 :: t69 :: t70 :: t71 :: t72 :: t73 :: t74 :: t75 :: t76 :: t77 :: t78 :: t79 :: t80 :: t81 :: t82 :: t83 :: t84 :: t85 :: t86 :: t87 :: t88 :: t89 :: t90 :: t91 :: t92 :: t93 :: t94 :: t95 :: t96 :: t97 :: t98 :: t99 :: t100 :: t101 :: t102 :: t103 :: t104 :: t105 :: t106 :: t107 :: t108 :: t109 :: t110 :: t111 :: t112 :: t113 :: t114 :: t115 :: t116 :: t117 :: t118 :: t119 :: t120 :: t121 :: t122 :: t123 :: t124 :: t125 :: []) w := by
  delta audit_Audit_Say_A1
  exact Eq.mp (congrArg (fun c => cCode Try.prog c (retK Try.prog Try.f8.results.toList K) (fun i => @Bool.rec (fun _ => KE) ((fun _ _ _ => False) i) (retK Try.prog Try.f8.results.toList K) (Nat.beq i 0)) (retK Try.prog Try.f8.results.toList K) (a0 :: who1 :: k_2 :: x3 :: a4 :: who5 :: k_6 :: x7 :: id8 :: t9 :: is10 :: q11 :: t12 :: is13 :: t14 :: t15 :: t16 :: t17 :: t18 :: t19 :: t20 :: t21 :: t22 :: t23 :: t24 :: t25 :: t26 :: t27 :: t28 :: t29 :: t30 :: t31 :: t32 :: t33 :: t34 :: t35 :: t36 :: t37 :: t38 :: t39 :: t40 :: t41 :: t42 :: t43 :: t44 :: t45 :: t46 :: t47 :: t48 :: t49 :: t50 :: t51 :: t52 :: t53 :: t54 :: t55 :: t56 :: t57 :: t58 :: t59 :: t60 :: t61 :: t62 :: t63 :: t64 :: t65 :: t66 :: t67 :: t68 :: t69 :: t70 :: t71 :: t72 :: t73 :: t74 :: t75 :: t76 :: t77 :: t78 :: t79 :: t80 :: t81 :: t82 :: t83 :: t84 :: t85 :: t86 :: t87 :: t88 :: t89 :: t90 :: t91 :: t92 :: t93 :: t94 :: t95 :: t96 :: t97 :: t98 :: t99 :: t100 :: t101 :: t102 :: t103 :: t104 :: t105 :: t106 :: t107 :: t108 :: t109 :: t110 :: t111 :: t112 :: t113 :: t114 :: t115 :: t116 :: t117 :: t118 :: t119 :: t120 :: t121 :: t122 :: t123 :: t124 :: t125 :: []) w) (by kernel_rfl : (cd Try.f8 [1, 1, 1, 0, 1, 0, 1]) = (cd Try.f8 [1, 1, 1, 0, 1, 0, 1]))) (audit_Audit_Say_A1_k h)

theorem audit_Audit_Say_A2_k {K : KV} (xc0 : Code) (xc1 : Code) {a0 who1 k_2 x3 a4 who5 k_6 x7 id8 t9 is10 q11 t12 is13 t14 t15 t16 t17 t18 t19 t20 t21 t22 t23 t24 t25 t26 t27 t28 t29 t30 t31 t32 t33 t34 t35 t36 t37 t38 t39 t40 t41 t42 t43 t44 t45 t46 t47 t48 t49 t50 t51 t52 t53 t54 t55 t56 t57 t58 t59 t60 t61 t62 t63 t64 t65 t66 t67 t68 t69 t70 t71 t72 t73 t74 t75 t76 t77 t78 t79 t80 t81 t82 t83 t84 t85 t86 t87 t88 t89 t90 t91 t92 t93 t94 t95 t96 t97 t98 t99 t100 t101 t102 t103 t104 t105 t106 t107 t108 t109 t110 t111 t112 t113 t114 t115 t116 t117 t118 t119 t120 t121 t122 t123 t124 t125 : Value} {w : World}
    (h : cond t64
      (hReg (fun S w =>
      hld S (fun k w => nilC a0 k w) (fun t67 =>
      hld S (fun k w => fldA Try.prog 65 t67 1 k w) (fun t68 =>
      hld S (fun k w => ld Try.prog 61 t68 k w) (fun t69 =>
      hld S (fun k w => fldA Try.prog 35 k_6 1 k w) (fun t70 =>
      hld S (fun k w => ld Try.prog 33 t70 k w) (fun t71 =>
      hld S (fun k w => lkp Try.prog 61 t69 t71 false k w) (fun t72 =>
      hld S (fun k w => fldA Try.prog 35 k_6 3 k w) (fun t73 =>
      hld S (fun k w => ld Try.prog 2 t73 k w) (fun t74 =>
      call Try.prog 17 #[t74] (fun t75 w =>
      hSub S (fun S w =>
      hld S (fun k w => bin Try.prog BinOp.add 2 false false t72 t75 k w) (fun t76 =>
      mUpd Try.prog 61 t69 t71 t76 (fun _t w =>
      K (Value.tuple #[]) w) w)) w) w))))))))) w.drew)
      (bin Try.prog BinOp.eql 5 false true t28 (Value.int IntKind.u8 3) (fun t78 w =>
      cond t78
        (fldA Try.prog 35 k_6 4 (fun t80 w =>
        ld Try.prog 33 t80 (fun t81 w =>
        bld Try.prog 72 #[(0, who1), (1, t81)] (fun t82 w =>
        alc Try.prog 72 (fun q11 w =>
        sto Try.prog 72 q11 t82 (fun _t w =>
        hReg (fun S w =>
        hld S (fun k w => nilC a0 k w) (fun t85 =>
        hld S (fun k w => fldA Try.prog 65 t85 2 k w) (fun t86 =>
        hld S (fun k w => ld Try.prog 62 t86 k w) (fun t87 =>
        hld S (fun k w => ld Try.prog 72 q11 k w) (fun t88 =>
        hld S (fun k w => lkp Try.prog 62 t87 t88 true k w) (fun t89 =>
        hld S (fun k w => ext Try.prog t89 0 k w) (fun t90 =>
        hld S (fun k w => ext Try.prog t89 1 k w) (fun t91 =>
        alc Try.prog 74 (fun t12 w =>
        hSub S (fun S w =>
        sto Try.prog 74 t12 t90 (fun _t w =>
        hSub S (fun S w =>
        gsel t91 false (fun k94 =>
        fldA Try.prog 42 x7 1 (fun t94 w =>
        ld Try.prog 40 t94 (fun t95 w =>
        bin Try.prog BinOp.neq 40 false true t95 (Value.int IntKind.i64 0) (fun t96 w =>
        k94 [t94, t95, t96] w) w) w) w)
        (fun k => k [undef, undef, undef] w) (fun us94 w =>
        pick t91 (Value.bool true) (gd us94 2) (fun t97 w =>
        cond t97
          (K (Value.tuple #[]) w)
          (fldA Try.prog 35 k_6 1 (fun t98 w =>
        ld Try.prog 33 t98 (fun t99 w =>
        fldA Try.prog 35 k_6 3 (fun t100 w =>
        ld Try.prog 2 t100 (fun t101 w =>
        bld Try.prog 74 #[(0, t99), (1, t101)] (fun t102 w =>
        alc Try.prog 74 (fun t14 w =>
        sto Try.prog 74 t14 t102 (fun _t w =>
        (cCode Try.prog xc0 (retK Try.prog Try.f8.results.toList K) (fun i => @Bool.rec (fun _ => KE) ((fun _ _ _ => False) i) (retK Try.prog Try.f8.results.toList K) (Nat.beq i 0)) (retK Try.prog Try.f8.results.toList K)) (a0 :: who1 :: k_2 :: x3 :: a4 :: who5 :: k_6 :: x7 :: id8 :: t9 :: is10 :: q11 :: t12 :: t91 :: t14 :: t15 :: t16 :: t17 :: t18 :: t19 :: t20 :: t21 :: t22 :: t23 :: t24 :: t25 :: t26 :: t27 :: t28 :: t29 :: t30 :: t31 :: t32 :: t33 :: t34 :: t35 :: t36 :: t37 :: t38 :: t39 :: t40 :: t41 :: t42 :: t43 :: t44 :: t45 :: t46 :: t47 :: t48 :: t49 :: t50 :: t51 :: t52 :: t53 :: t54 :: t55 :: t56 :: t57 :: t58 :: t59 :: t60 :: t61 :: t62 :: t63 :: t64 :: t65 :: t66 :: t67 :: t68 :: t69 :: t70 :: t71 :: t72 :: t73 :: t74 :: t75 :: t76 :: t78 :: t78 :: who1 :: t80 :: t81 :: t82 :: t89 :: a0 :: t85 :: t86 :: t87 :: t88 :: t89 :: t90 :: t91 :: t91 :: t91 :: (gd us94 0) :: (gd us94 1) :: (gd us94 2) :: t97 :: t98 :: t99 :: t100 :: t101 :: t102 :: t103 :: t104 :: t105 :: t106 :: t107 :: t108 :: t109 :: t110 :: t111 :: t112 :: t113 :: t114 :: t115 :: t116 :: t117 :: t118 :: t119 :: t120 :: t121 :: t122 :: t123 :: t124 :: t125 :: []) w) w) w) w) w) w) w) w)) w)) w) w) w) w)))))))) w.drew) w) w) w) w) w)
        (bin Try.prog BinOp.eql 5 false true t28 (Value.int IntKind.u8 4) (fun t117 w =>
        (cCode Try.prog xc1 (retK Try.prog Try.f8.results.toList K) (fun i => @Bool.rec (fun _ => KE) ((fun _ _ _ => False) i) (retK Try.prog Try.f8.results.toList K) (Nat.beq i 0)) (retK Try.prog Try.f8.results.toList K)) (a0 :: who1 :: k_2 :: x3 :: a4 :: who5 :: k_6 :: x7 :: id8 :: t9 :: is10 :: q11 :: t12 :: is13 :: t14 :: t15 :: t16 :: t17 :: t18 :: t19 :: t20 :: t21 :: t22 :: t23 :: t24 :: t25 :: t26 :: t27 :: t28 :: t29 :: t30 :: t31 :: t32 :: t33 :: t34 :: t35 :: t36 :: t37 :: t38 :: t39 :: t40 :: t41 :: t42 :: t43 :: t44 :: t45 :: t46 :: t47 :: t48 :: t49 :: t50 :: t51 :: t52 :: t53 :: t54 :: t55 :: t56 :: t57 :: t58 :: t59 :: t60 :: t61 :: t62 :: t63 :: t64 :: t65 :: t66 :: t67 :: t68 :: t69 :: t70 :: t71 :: t72 :: t73 :: t74 :: t75 :: t76 :: t78 :: t78 :: t79 :: t80 :: t81 :: t82 :: t83 :: t84 :: t85 :: t86 :: t87 :: t88 :: t89 :: t90 :: t91 :: t92 :: t93 :: t94 :: t95 :: t96 :: t97 :: t98 :: t99 :: t100 :: t101 :: t102 :: t103 :: t104 :: t105 :: t106 :: t107 :: t108 :: t109 :: t110 :: t111 :: t112 :: t113 :: t114 :: t115 :: t117 :: t117 :: t118 :: t119 :: t120 :: t121 :: t122 :: t123 :: t124 :: t125 :: []) w) w)) w)) :
    cCode Try.prog (rep [1, 1, 1, 1] xc1 (rep [1, 1, 0, 1, 1, 1] xc0 (cd Try.f8 [1, 1, 1, 0, 1, 1, 1]))) (retK Try.prog Try.f8.results.toList K) (fun i => @Bool.rec (fun _ => KE) ((fun _ _ _ => False) i) (retK Try.prog Try.f8.results.toList K) (Nat.beq i 0)) (retK Try.prog Try.f8.results.toList K) (a0 :: who1 :: k_2 :: x3 :: a4 :: who5 :: k_6 :: x7 :: id8 :: t9 :: is10 :: q11 :: t12 :: is13 :: t14 :: t15 :: t16 :: t17 :: t18 :: t19 :: t20 :: t21 :: t22 :: t23 :: t24 :: t25 :: t26 :: t27 :: t28 :: t29 :: t30 :: t31 :: t32 :: t33 :: t34 :: t35 :: t36 :: t37 :: t38 :: t39 :: t40 :: t41 :: t42 :: t43 :: t44 :: t45 :: t46 :: t47 :: t48 :: t49 :: t50 :: t51 :: t52 :: t53 :: t54 :: t55 :: t56 :: t57 :: t58 :: t59 :: t60 :: t61 :: t62 :: t63 :: t64 :: t65 :: t66 :: t67 :: t68 :: t69 :: t70 :: t71 :: t72 :: t73 :: t74 :: t75 :: t76 :: t77 :: t78 :: t79 :: t80 :: t81 :: t82 :: t83 :: t84 :: t85 :: t86 :: t87 :: t88 :: t89 :: t90 :: t91 :: t92 :: t93 :: t94 :: t95 :: t96 :: t97 :: t98 :: t99 :: t100 :: t101 :: t102 :: t103 :: t104 :: t105 :: t106 :: t107 :: t108 :: t109 :: t110 :: t111 :: t112 :: t113 :: t114 :: t115 :: t116 :: t117 :: t118 :: t119 :: t120 :: t121 :: t122 :: t123 :: t124 :: t125 :: []) w := Eq.mp (by kernel_rfl) h

theorem audit_Audit_Say_A2_r {K : KV} {a0 who1 k_2 x3 a4 who5 k_6 x7 id8 t9 is10 q11 t12 is13 t14 t15 t16 t17 t18 t19 t20 t21 t22 t23 t24 t25 t26 t27 t28 t29 t30 t31 t32 t33 t34 t35 t36 t37 t38 t39 t40 t41 t42 t43 t44 t45 t46 t47 t48 t49 t50 t51 t52 t53 t54 t55 t56 t57 t58 t59 t60 t61 t62 t63 t64 t65 t66 t67 t68 t69 t70 t71 t72 t73 t74 t75 t76 t77 t78 t79 t80 t81 t82 t83 t84 t85 t86 t87 t88 t89 t90 t91 t92 t93 t94 t95 t96 t97 t98 t99 t100 t101 t102 t103 t104 t105 t106 t107 t108 t109 t110 t111 t112 t113 t114 t115 t116 t117 t118 t119 t120 t121 t122 t123 t124 t125 : Value} {w : World}
    (h : cond t64
      (hReg (fun S w =>
      hld S (fun k w => nilC a0 k w) (fun t67 =>
      hld S (fun k w => fldA Try.prog 65 t67 1 k w) (fun t68 =>
      hld S (fun k w => ld Try.prog 61 t68 k w) (fun t69 =>
      hld S (fun k w => fldA Try.prog 35 k_6 1 k w) (fun t70 =>
      hld S (fun k w => ld Try.prog 33 t70 k w) (fun t71 =>
      hld S (fun k w => lkp Try.prog 61 t69 t71 false k w) (fun t72 =>
      hld S (fun k w => fldA Try.prog 35 k_6 3 k w) (fun t73 =>
      hld S (fun k w => ld Try.prog 2 t73 k w) (fun t74 =>
      call Try.prog 17 #[t74] (fun t75 w =>
      hSub S (fun S w =>
      hld S (fun k w => bin Try.prog BinOp.add 2 false false t72 t75 k w) (fun t76 =>
      mUpd Try.prog 61 t69 t71 t76 (fun _t w =>
      K (Value.tuple #[]) w) w)) w) w))))))))) w.drew)
      (bin Try.prog BinOp.eql 5 false true t28 (Value.int IntKind.u8 3) (fun t78 w =>
      cond t78
        (fldA Try.prog 35 k_6 4 (fun t80 w =>
        ld Try.prog 33 t80 (fun t81 w =>
        bld Try.prog 72 #[(0, who1), (1, t81)] (fun t82 w =>
        alc Try.prog 72 (fun q11 w =>
        sto Try.prog 72 q11 t82 (fun _t w =>
        hReg (fun S w =>
        hld S (fun k w => nilC a0 k w) (fun t85 =>
        hld S (fun k w => fldA Try.prog 65 t85 2 k w) (fun t86 =>
        hld S (fun k w => ld Try.prog 62 t86 k w) (fun t87 =>
        hld S (fun k w => ld Try.prog 72 q11 k w) (fun t88 =>
        hld S (fun k w => lkp Try.prog 62 t87 t88 true k w) (fun t89 =>
        hld S (fun k w => ext Try.prog t89 0 k w) (fun t90 =>
        hld S (fun k w => ext Try.prog t89 1 k w) (fun t91 =>
        alc Try.prog 74 (fun t12 w =>
        hSub S (fun S w =>
        sto Try.prog 74 t12 t90 (fun _t w =>
        hSub S (fun S w =>
        gsel t91 false (fun k94 =>
        fldA Try.prog 42 x7 1 (fun t94 w =>
        ld Try.prog 40 t94 (fun t95 w =>
        bin Try.prog BinOp.neq 40 false true t95 (Value.int IntKind.i64 0) (fun t96 w =>
        k94 [t94, t95, t96] w) w) w) w)
        (fun k => k [undef, undef, undef] w) (fun us94 w =>
        pick t91 (Value.bool true) (gd us94 2) (fun t97 w =>
        cond t97
          (K (Value.tuple #[]) w)
          (fldA Try.prog 35 k_6 1 (fun t98 w =>
        ld Try.prog 33 t98 (fun t99 w =>
        fldA Try.prog 35 k_6 3 (fun t100 w =>
        ld Try.prog 2 t100 (fun t101 w =>
        bld Try.prog 74 #[(0, t99), (1, t101)] (fun t102 w =>
        alc Try.prog 74 (fun t14 w =>
        sto Try.prog 74 t14 t102 (fun _t w =>
        (audit_Audit_Say_A3 K) (a0 :: who1 :: k_2 :: x3 :: a4 :: who5 :: k_6 :: x7 :: id8 :: t9 :: is10 :: q11 :: t12 :: t91 :: t14 :: t15 :: t16 :: t17 :: t18 :: t19 :: t20 :: t21 :: t22 :: t23 :: t24 :: t25 :: t26 :: t27 :: t28 :: t29 :: t30 :: t31 :: t32 :: t33 :: t34 :: t35 :: t36 :: t37 :: t38 :: t39 :: t40 :: t41 :: t42 :: t43 :: t44 :: t45 :: t46 :: t47 :: t48 :: t49 :: t50 :: t51 :: t52 :: t53 :: t54 :: t55 :: t56 :: t57 :: t58 :: t59 :: t60 :: t61 :: t62 :: t63 :: t64 :: t65 :: t66 :: t67 :: t68 :: t69 :: t70 :: t71 :: t72 :: t73 :: t74 :: t75 :: t76 :: t78 :: t78 :: who1 :: t80 :: t81 :: t82 :: t89 :: a0 :: t85 :: t86 :: t87 :: t88 :: t89 :: t90 :: t91 :: t91 :: t91 :: (gd us94 0) :: (gd us94 1) :: (gd us94 2) :: t97 :: t98 :: t99 :: t100 :: t101 :: t102 :: t103 :: t104 :: t105 :: t106 :: t107 :: t108 :: t109 :: t110 :: t111 :: t112 :: t113 :: t114 :: t115 :: t116 :: t117 :: t118 :: t119 :: t120 :: t121 :: t122 :: t123 :: t124 :: t125 :: []) w) w) w) w) w) w) w) w)) w)) w) w) w) w)))))))) w.drew) w) w) w) w) w)
        (bin Try.prog BinOp.eql 5 false true t28 (Value.int IntKind.u8 4) (fun t117 w =>
        (audit_Audit_Say_A4 K) (a0 :: who1 :: k_2 :: x3 :: a4 :: who5 :: k_6 :: x7 :: id8 :: t9 :: is10 :: q11 :: t12 :: is13 :: t14 :: t15 :: t16 :: t17 :: t18 :: t19 :: t20 :: t21 :: t22 :: t23 :: t24 :: t25 :: t26 :: t27 :: t28 :: t29 :: t30 :: t31 :: t32 :: t33 :: t34 :: t35 :: t36 :: t37 :: t38 :: t39 :: t40 :: t41 :: t42 :: t43 :: t44 :: t45 :: t46 :: t47 :: t48 :: t49 :: t50 :: t51 :: t52 :: t53 :: t54 :: t55 :: t56 :: t57 :: t58 :: t59 :: t60 :: t61 :: t62 :: t63 :: t64 :: t65 :: t66 :: t67 :: t68 :: t69 :: t70 :: t71 :: t72 :: t73 :: t74 :: t75 :: t76 :: t78 :: t78 :: t79 :: t80 :: t81 :: t82 :: t83 :: t84 :: t85 :: t86 :: t87 :: t88 :: t89 :: t90 :: t91 :: t92 :: t93 :: t94 :: t95 :: t96 :: t97 :: t98 :: t99 :: t100 :: t101 :: t102 :: t103 :: t104 :: t105 :: t106 :: t107 :: t108 :: t109 :: t110 :: t111 :: t112 :: t113 :: t114 :: t115 :: t117 :: t117 :: t118 :: t119 :: t120 :: t121 :: t122 :: t123 :: t124 :: t125 :: []) w) w)) w)) :
    audit_Audit_Say_A2 K (a0 :: who1 :: k_2 :: x3 :: a4 :: who5 :: k_6 :: x7 :: id8 :: t9 :: is10 :: q11 :: t12 :: is13 :: t14 :: t15 :: t16 :: t17 :: t18 :: t19 :: t20 :: t21 :: t22 :: t23 :: t24 :: t25 :: t26 :: t27 :: t28 :: t29 :: t30 :: t31 :: t32 :: t33 :: t34 :: t35 :: t36 :: t37 :: t38 :: t39 :: t40 :: t41 :: t42 :: t43 :: t44 :: t45 :: t46 :: t47 :: t48 :: t49 :: t50 :: t51 :: t52 :: t53 :: t54 :: t55 :: t56 :: t57 :: t58 :: t59 :: t60 :: t61 :: t62 :: t63 :: t64 :: t65 :: t66 :: t67 :: t68 :: t69 :: t70 :: t71 :: t72 :: t73 :: t74 :: t75 :: t76 :: t77 :: t78 :: t79 :: t80 :: t81 :: t82 :: t83 :: t84 :: t85 :: t86 :: t87 :: t88 :: t89 :: t90 :: t91 :: t92 :: t93 :: t94 :: t95 :: t96 :: t97 :: t98 :: t99 :: t100 :: t101 :: t102 :: t103 :: t104 :: t105 :: t106 :: t107 :: t108 :: t109 :: t110 :: t111 :: t112 :: t113 :: t114 :: t115 :: t116 :: t117 :: t118 :: t119 :: t120 :: t121 :: t122 :: t123 :: t124 :: t125 :: []) w := by
  delta audit_Audit_Say_A2
  exact Eq.mp (congrArg (fun c => cCode Try.prog c (retK Try.prog Try.f8.results.toList K) (fun i => @Bool.rec (fun _ => KE) ((fun _ _ _ => False) i) (retK Try.prog Try.f8.results.toList K) (Nat.beq i 0)) (retK Try.prog Try.f8.results.toList K) (a0 :: who1 :: k_2 :: x3 :: a4 :: who5 :: k_6 :: x7 :: id8 :: t9 :: is10 :: q11 :: t12 :: is13 :: t14 :: t15 :: t16 :: t17 :: t18 :: t19 :: t20 :: t21 :: t22 :: t23 :: t24 :: t25 :: t26 :: t27 :: t28 :: t29 :: t30 :: t31 :: t32 :: t33 :: t34 :: t35 :: t36 :: t37 :: t38 :: t39 :: t40 :: t41 :: t42 :: t43 :: t44 :: t45 :: t46 :: t47 :: t48 :: t49 :: t50 :: t51 :: t52 :: t53 :: t54 :: t55 :: t56 :: t57 :: t58 :: t59 :: t60 :: t61 :: t62 :: t63 :: t64 :: t65 :: t66 :: t67 :: t68 :: t69 :: t70 :: t71 :: t72 :: t73 :: t74 :: t75 :: t76 :: t77 :: t78 :: t79 :: t80 :: t81 :: t82 :: t83 :: t84 :: t85 :: t86 :: t87 :: t88 :: t89 :: t90 :: t91 :: t92 :: t93 :: t94 :: t95 :: t96 :: t97 :: t98 :: t99 :: t100 :: t101 :: t102 :: t103 :: t104 :: t105 :: t106 :: t107 :: t108 :: t109 :: t110 :: t111 :: t112 :: t113 :: t114 :: t115 :: t116 :: t117 :: t118 :: t119 :: t120 :: t121 :: t122 :: t123 :: t124 :: t125 :: []) w) (by kernel_rfl : (rep [1, 1, 1, 1] (cd Try.f8 [1, 1, 1, 0, 1, 1, 1, 1, 1, 1, 1]) (rep [1, 1, 0, 1, 1, 1] (cd Try.f8 [1, 1, 1, 0, 1, 1, 1, 1, 1, 0, 1, 1, 1]) (cd Try.f8 [1, 1, 1, 0, 1, 1, 1]))) = (cd Try.f8 [1, 1, 1, 0, 1, 1, 1]))) (audit_Audit_Say_A2_k (cd Try.f8 [1, 1, 1, 0, 1, 1, 1, 1, 1, 0, 1, 1, 1]) (cd Try.f8 [1, 1, 1, 0, 1, 1, 1, 1, 1, 1, 1]) h)

theorem audit_Audit_Say_A3_k {K : KV} (xc0 : Code) {a0 who1 k_2 x3 a4 who5 k_6 x7 id8 t9 is10 q11 t12 is13 t14 t15 t16 t17 t18 t19 t20 t21 t22 t23 t24 t25 t26 t27 t28 t29 t30 t31 t32 t33 t34 t35 t36 t37 t38 t39 t40 t41 t42 t43 t44 t45 t46 t47 t48 t49 t50 t51 t52 t53 t54 t55 t56 t57 t58 t59 t60 t61 t62 t63 t64 t65 t66 t67 t68 t69 t70 t71 t72 t73 t74 t75 t76 t77 t78 t79 t80 t81 t82 t83 t84 t85 t86 t87 t88 t89 t90 t91 t92 t93 t94 t95 t96 t97 t98 t99 t100 t101 t102 t103 t104 t105 t106 t107 t108 t109 t110 t111 t112 t113 t114 t115 t116 t117 t118 t119 t120 t121 t122 t123 t124 t125 : Value} {w : World}
    (h : hReg (fun S w =>
    hld S (fun k w => fldA Try.prog 74 t14 1 k w) (fun t103 =>
    hld S (fun k w => ld Try.prog 2 t103 k w) (fun t104 =>
    hld S (fun k w => fldA Try.prog 74 t14 1 k w) (fun t105 =>
    hld S (fun k w => ld Try.prog 2 t105 k w) (fun t106 =>
    call Try.prog 17 #[t106] (fun t107 w =>
    hSub S (fun S w =>
    hld S (fun k w => bin Try.prog BinOp.neq 2 false false t104 t107 k w) (fun t108 =>
    (cCode Try.prog xc0 (cCode Try.prog (cd Try.f8 [1, 1, 1, 0, 1, 1, 1, 1, 1, 0, 1, 1, 1, 1]) (retK Try.prog Try.f8.results.toList K) (fun i => @Bool.rec (fun _ => KE) ((fun _ _ _ => False) i) (retK Try.prog Try.f8.results.toList K) (Nat.beq i 0)) (retK Try.prog Try.f8.results.toList K)) (fun i => @Bool.rec (fun _ => KE) ((fun _ _ _ => False) i) (retK Try.prog Try.f8.results.toList K) (Nat.beq i 0)) (retK Try.prog Try.f8.results.toList K)) (a0 :: who1 :: k_2 :: x3 :: a4 :: who5 :: k_6 :: x7 :: id8 :: t9 :: is10 :: q11 :: t12 :: is13 :: t14 :: t15 :: t16 :: t17 :: t18 :: t19 :: t20 :: t21 :: t22 :: t23 :: t24 :: t25 :: t26 :: t27 :: t28 :: t29 :: t30 :: t31 :: t32 :: t33 :: t34 :: t35 :: t36 :: t37 :: t38 :: t39 :: t40 :: t41 :: t42 :: t43 :: t44 :: t45 :: t46 :: t47 :: t48 :: t49 :: t50 :: t51 :: t52 :: t53 :: t54 :: t55 :: t56 :: t57 :: t58 :: t59 :: t60 :: t61 :: t62 :: t63 :: t64 :: t65 :: t66 :: t67 :: t68 :: t69 :: t70 :: t71 :: t72 :: t73 :: t74 :: t75 :: t76 :: t77 :: t78 :: t79 :: t80 :: t81 :: t82 :: t83 :: t84 :: t85 :: t86 :: t87 :: t88 :: t89 :: t90 :: t91 :: t92 :: t93 :: t94 :: t95 :: t96 :: t97 :: t98 :: t99 :: t100 :: t101 :: t102 :: t103 :: t104 :: t105 :: t106 :: t107 :: t108 :: t109 :: t110 :: t111 :: t112 :: t113 :: t114 :: t115 :: t116 :: t117 :: t118 :: t119 :: t120 :: t121 :: t122 :: t123 :: t124 :: t125 :: []) w)) w) w))))) w.drew) :
    cCode Try.prog (rep [0, 1] xc0 (cd Try.f8 [1, 1, 1, 0, 1, 1, 1, 1, 1, 0, 1, 1, 1])) (retK Try.prog Try.f8.results.toList K) (fun i => @Bool.rec (fun _ => KE) ((fun _ _ _ => False) i) (retK Try.prog Try.f8.results.toList K) (Nat.beq i 0)) (retK Try.prog Try.f8.results.toList K) (a0 :: who1 :: k_2 :: x3 :: a4 :: who5 :: k_6 :: x7 :: id8 :: t9 :: is10 :: q11 :: t12 :: is13 :: t14 :: t15 :: t16 :: t17 :: t18 :: t19 :: t20 :: t21 :: t22 :: t23 :: t24 :: t25 :: t26 :: t27 :: t28 :: t29 :: t30 :: t31 :: t32 :: t33 :: t34 :: t35 :: t36 :: t37 :: t38 :: t39 :: t40 :: t41 :: t42 :: t43 :: t44 :: t45 :: t46 :: t47 :: t48 :: t49 :: t50 :: t51 :: t52 :: t53 :: t54 :: t55 :: t56 :: t57 :: t58 :: t59 :: t60 :: t61 :: t62 :: t63 :: t64 :: t65 :: t66 :: t67 :: t68 :: t69 :: t70 :: t71 :: t72 :: t73 :: t74 :: t75 :: t76 :: t77 :: t78 :: t79 :: t80 :: t81 :: t82 :: t83 :: t84 :: t85 :: t86 :: t87 :: t88 :: t89 :: t90 :: t91 :: t92 :: t93 :: t94 :: t95 :: t96 :: t97 :: t98 :: t99 :: t100 :: t101 :: t102 :: t103 :: t104 :: t105 :: t106 :: t107 :: t108 :: t109 :: t110 :: t111 :: t112 :: t113 :: t114 :: t115 :: t116 :: t117 :: t118 :: t119 :: t120 :: t121 :: t122 :: t123 :: t124 :: t125 :: []) w := Eq.mp (by kernel_rfl) h

theorem audit_Audit_Say_A3_r {K : KV} {a0 who1 k_2 x3 a4 who5 k_6 x7 id8 t9 is10 q11 t12 is13 t14 t15 t16 t17 t18 t19 t20 t21 t22 t23 t24 t25 t26 t27 t28 t29 t30 t31 t32 t33 t34 t35 t36 t37 t38 t39 t40 t41 t42 t43 t44 t45 t46 t47 t48 t49 t50 t51 t52 t53 t54 t55 t56 t57 t58 t59 t60 t61 t62 t63 t64 t65 t66 t67 t68 t69 t70 t71 t72 t73 t74 t75 t76 t77 t78 t79 t80 t81 t82 t83 t84 t85 t86 t87 t88 t89 t90 t91 t92 t93 t94 t95 t96 t97 t98 t99 t100 t101 t102 t103 t104 t105 t106 t107 t108 t109 t110 t111 t112 t113 t114 t115 t116 t117 t118 t119 t120 t121 t122 t123 t124 t125 : Value} {w : World}
    (h : hReg (fun S w =>
    hld S (fun k w => fldA Try.prog 74 t14 1 k w) (fun t103 =>
    hld S (fun k w => ld Try.prog 2 t103 k w) (fun t104 =>
    hld S (fun k w => fldA Try.prog 74 t14 1 k w) (fun t105 =>
    hld S (fun k w => ld Try.prog 2 t105 k w) (fun t106 =>
    call Try.prog 17 #[t106] (fun t107 w =>
    hSub S (fun S w =>
    hld S (fun k w => bin Try.prog BinOp.neq 2 false false t104 t107 k w) (fun t108 =>
    (audit_Audit_Say_A5 K) (a0 :: who1 :: k_2 :: x3 :: a4 :: who5 :: k_6 :: x7 :: id8 :: t9 :: is10 :: q11 :: t12 :: is13 :: t14 :: t15 :: t16 :: t17 :: t18 :: t19 :: t20 :: t21 :: t22 :: t23 :: t24 :: t25 :: t26 :: t27 :: t28 :: t29 :: t30 :: t31 :: t32 :: t33 :: t34 :: t35 :: t36 :: t37 :: t38 :: t39 :: t40 :: t41 :: t42 :: t43 :: t44 :: t45 :: t46 :: t47 :: t48 :: t49 :: t50 :: t51 :: t52 :: t53 :: t54 :: t55 :: t56 :: t57 :: t58 :: t59 :: t60 :: t61 :: t62 :: t63 :: t64 :: t65 :: t66 :: t67 :: t68 :: t69 :: t70 :: t71 :: t72 :: t73 :: t74 :: t75 :: t76 :: t77 :: t78 :: t79 :: t80 :: t81 :: t82 :: t83 :: t84 :: t85 :: t86 :: t87 :: t88 :: t89 :: t90 :: t91 :: t92 :: t93 :: t94 :: t95 :: t96 :: t97 :: t98 :: t99 :: t100 :: t101 :: t102 :: t103 :: t104 :: t105 :: t106 :: t107 :: t108 :: t109 :: t110 :: t111 :: t112 :: t113 :: t114 :: t115 :: t116 :: t117 :: t118 :: t119 :: t120 :: t121 :: t122 :: t123 :: t124 :: t125 :: []) w)) w) w))))) w.drew) :
    audit_Audit_Say_A3 K (a0 :: who1 :: k_2 :: x3 :: a4 :: who5 :: k_6 :: x7 :: id8 :: t9 :: is10 :: q11 :: t12 :: is13 :: t14 :: t15 :: t16 :: t17 :: t18 :: t19 :: t20 :: t21 :: t22 :: t23 :: t24 :: t25 :: t26 :: t27 :: t28 :: t29 :: t30 :: t31 :: t32 :: t33 :: t34 :: t35 :: t36 :: t37 :: t38 :: t39 :: t40 :: t41 :: t42 :: t43 :: t44 :: t45 :: t46 :: t47 :: t48 :: t49 :: t50 :: t51 :: t52 :: t53 :: t54 :: t55 :: t56 :: t57 :: t58 :: t59 :: t60 :: t61 :: t62 :: t63 :: t64 :: t65 :: t66 :: t67 :: t68 :: t69 :: t70 :: t71 :: t72 :: t73 :: t74 :: t75 :: t76 :: t77 :: t78 :: t79 :: t80 :: t81 :: t82 :: t83 :: t84 :: t85 :: t86 :: t87 :: t88 :: t89 :: t90 :: t91 :: t92 :: t93 :: t94 :: t95 :: t96 :: t97 :: t98 :: t99 :: t100 :: t101 :: t102 :: t103 :: t104 :: t105 :: t106 :: t107 :: t108 :: t109 :: t110 :: t111 :: t112 :: t113 :: t114 :: t115 :: t116 :: t117 :: t118 :: t119 :: t120 :: t121 :: t122 :: t123 :: t124 :: t125 :: []) w := by
  delta audit_Audit_Say_A3
  exact Eq.mp (congrArg (fun c => cCode Try.prog c (retK Try.prog Try.f8.results.toList K) (fun i => @Bool.rec (fun _ => KE) ((fun _ _ _ => False) i) (retK Try.prog Try.f8.results.toList K) (Nat.beq i 0)) (retK Try.prog Try.f8.results.toList K) (a0 :: who1 :: k_2 :: x3 :: a4 :: who5 :: k_6 :: x7 :: id8 :: t9 :: is10 :: q11 :: t12 :: is13 :: t14 :: t15 :: t16 :: t17 :: t18 :: t19 :: t20 :: t21 :: t22 :: t23 :: t24 :: t25 :: t26 :: t27 :: t28 :: t29 :: t30 :: t31 :: t32 :: t33 :: t34 :: t35 :: t36 :: t37 :: t38 :: t39 :: t40 :: t41 :: t42 :: t43 :: t44 :: t45 :: t46 :: t47 :: t48 :: t49 :: t50 :: t51 :: t52 :: t53 :: t54 :: t55 :: t56 :: t57 :: t58 :: t59 :: t60 :: t61 :: t62 :: t63 :: t64 :: t65 :: t66 :: t67 :: t68 :: t69 :: t70 :: t71 :: t72 :: t73 :: t74 :: t75 :: t76 :: t77 :: t78 :: t79 :: t80 :: t81 :: t82 :: t83 :: t84 :: t85 :: t86 :: t87 :: t88 :: t89 :: t90 :: t91 :: t92 :: t93 :: t94 :: t95 :: t96 :: t97 :: t98 :: t99 :: t100 :: t101 :: t102 :: t103 :: t104 :: t105 :: t106 :: t107 :: t108 :: t109 :: t110 :: t111 :: t112 :: t113 :: t114 :: t115 :: t116 :: t117 :: t118 :: t119 :: t120 :: t121 :: t122 :: t123 :: t124 :: t125 :: []) w) (by kernel_rfl : (rep [0, 1] (cd Try.f8 [1, 1, 1, 0, 1, 1, 1, 1, 1, 0, 1, 1, 1, 0, 1]) (cd Try.f8 [1, 1, 1, 0, 1, 1, 1, 1, 1, 0, 1, 1, 1])) = (cd Try.f8 [1, 1, 1, 0, 1, 1, 1, 1, 1, 0, 1, 1, 1]))) (audit_Audit_Say_A3_k (cd Try.f8 [1, 1, 1, 0, 1, 1, 1, 1, 1, 0, 1, 1, 1, 0, 1]) h)

theorem audit_Audit_Say_A4_k {K : KV} {a0 who1 k_2 x3 a4 who5 k_6 x7 id8 t9 is10 q11 t12 is13 t14 t15 t16 t17 t18 t19 t20 t21 t22 t23 t24 t25 t26 t27 t28 t29 t30 t31 t32 t33 t34 t35 t36 t37 t38 t39 t40 t41 t42 t43 t44 t45 t46 t47 t48 t49 t50 t51 t52 t53 t54 t55 t56 t57 t58 t59 t60 t61 t62 t63 t64 t65 t66 t67 t68 t69 t70 t71 t72 t73 t74 t75 t76 t77 t78 t79 t80 t81 t82 t83 t84 t85 t86 t87 t88 t89 t90 t91 t92 t93 t94 t95 t96 t97 t98 t99 t100 t101 t102 t103 t104 t105 t106 t107 t108 t109 t110 t111 t112 t113 t114 t115 t116 t117 t118 t119 t120 t121 t122 t123 t124 t125 : Value} {w : World}
    (h : cond t116
      (hReg (fun S w =>
      hld S (fun k w => nilC a0 k w) (fun t119 =>
      hld S (fun k w => fldA Try.prog 65 t119 3 k w) (fun t120 =>
      hld S (fun k w => ld Try.prog 63 t120 k w) (fun t121 =>
      hld S (fun k w => fldA Try.prog 35 k_6 5 k w) (fun t123 =>
      hld S (fun k w => ld Try.prog 33 t123 k w) (fun t124 =>
      hld S (fun k w => bld Try.prog 72 #[(0, who1), (1, t124)] k w) (fun t125 =>
      mUpd Try.prog 63 t121 t125 (Value.bool true) (fun _t w =>
      K (Value.tuple #[]) w) w))))))) w.drew)
      (K (Value.tuple #[]) w)) :
    cCode Try.prog (cd Try.f8 [1, 1, 1, 0, 1, 1, 1, 1, 1, 1, 1]) (retK Try.prog Try.f8.results.toList K) (fun i => @Bool.rec (fun _ => KE) ((fun _ _ _ => False) i) (retK Try.prog Try.f8.results.toList K) (Nat.beq i 0)) (retK Try.prog Try.f8.results.toList K) (a0 :: who1 :: k_2 :: x3 :: a4 :: who5 :: k_6 :: x7 :: id8 :: t9 :: is10 :: q11 :: t12 :: is13 :: t14 :: t15 :: t16 :: t17 :: t18 :: t19 :: t20 :: t21 :: t22 :: t23 :: t24 :: t25 :: t26 :: t27 :: t28 :: t29 :: t30 :: t31 :: t32 :: t33 :: t34 :: t35 :: t36 :: t37 :: t38 :: t39 :: t40 :: t41 :: t42 :: t43 :: t44 :: t45 :: t46 :: t47 :: t48 :: t49 :: t50 :: t51 :: t52 :: t53 :: t54 :: t55 :: t56 :: t57 :: t58 :: t59 :: t60 :: t61 :: t62 :: t63 :: t64 :: t65 :: t66 :: t67 :: t68 :: t69 :: t70 :: t71 :: t72 :: t73 :: t74 :: t75 :: t76 :: t77 :: t78 :: t79 :: t80 :: t81 :: t82 :: t83 :: t84 :: t85 :: t86 :: t87 :: t88 :: t89 :: t90 :: t91 :: t92 :: t93 :: t94 :: t95 :: t96 :: t97 :: t98 :: t99 :: t100 :: t101 :: t102 :: t103 :: t104 :: t105 :: t106 :: t107 :: t108 :: t109 :: t110 :: t111 :: t112 :: t113 :: t114 :: t115 :: t116 :: t117 :: t118 :: t119 :: t120 :: t121 :: t122 :: t123 :: t124 :: t125 :: []) w := Eq.mp (by kernel_rfl) h

theorem audit_Audit_Say_A4_r {K : KV} {a0 who1 k_2 x3 a4 who5 k_6 x7 id8 t9 is10 q11 t12 is13 t14 t15 t16 t17 t18 t19 t20 t21 t22 t23 t24 t25 t26 t27 t28 t29 t30 t31 t32 t33 t34 t35 t36 t37 t38 t39 t40 t41 t42 t43 t44 t45 t46 t47 t48 t49 t50 t51 t52 t53 t54 t55 t56 t57 t58 t59 t60 t61 t62 t63 t64 t65 t66 t67 t68 t69 t70 t71 t72 t73 t74 t75 t76 t77 t78 t79 t80 t81 t82 t83 t84 t85 t86 t87 t88 t89 t90 t91 t92 t93 t94 t95 t96 t97 t98 t99 t100 t101 t102 t103 t104 t105 t106 t107 t108 t109 t110 t111 t112 t113 t114 t115 t116 t117 t118 t119 t120 t121 t122 t123 t124 t125 : Value} {w : World}
    (h : cond t116
      (hReg (fun S w =>
      hld S (fun k w => nilC a0 k w) (fun t119 =>
      hld S (fun k w => fldA Try.prog 65 t119 3 k w) (fun t120 =>
      hld S (fun k w => ld Try.prog 63 t120 k w) (fun t121 =>
      hld S (fun k w => fldA Try.prog 35 k_6 5 k w) (fun t123 =>
      hld S (fun k w => ld Try.prog 33 t123 k w) (fun t124 =>
      hld S (fun k w => bld Try.prog 72 #[(0, who1), (1, t124)] k w) (fun t125 =>
      mUpd Try.prog 63 t121 t125 (Value.bool true) (fun _t w =>
      K (Value.tuple #[]) w) w))))))) w.drew)
      (K (Value.tuple #[]) w)) :
    audit_Audit_Say_A4 K (a0 :: who1 :: k_2 :: x3 :: a4 :: who5 :: k_6 :: x7 :: id8 :: t9 :: is10 :: q11 :: t12 :: is13 :: t14 :: t15 :: t16 :: t17 :: t18 :: t19 :: t20 :: t21 :: t22 :: t23 :: t24 :: t25 :: t26 :: t27 :: t28 :: t29 :: t30 :: t31 :: t32 :: t33 :: t34 :: t35 :: t36 :: t37 :: t38 :: t39 :: t40 :: t41 :: t42 :: t43 :: t44 :: t45 :: t46 :: t47 :: t48 :: t49 :: t50 :: t51 :: t52 :: t53 :: t54 :: t55 :: t56 :: t57 :: t58 :: t59 :: t60 :: t61 :: t62 :: t63 :: t64 :: t65 :: t66 :: t67 :: t68 :: t69 :: t70 :: t71 :: t72 :: t73 :: t74 :: t75 :: t76 :: t77 :: t78 :: t79 :: t80 :: t81 :: t82 :: t83 :: t84 :: t85 :: t86 :: t87 :: t88 :: t89 :: t90 :: t91 :: t92 :: t93 :: t94 :: t95 :: t96 :: t97 :: t98 :: t99 :: t100 :: t101 :: t102 :: t103 :: t104 :: t105 :: t106 :: t107 :: t108 :: t109 :: t110 :: t111 :: t112 :: t113 :: t114 :: t115 :: t116 :: t117 :: t118 :: t119 :: t120 :: t121 :: t122 :: t123 :: t124 :: t125 :: []) w := by
  delta audit_Audit_Say_A4
  exact Eq.mp (congrArg (fun c => cCode Try.prog c (retK Try.prog Try.f8.results.toList K) (fun i => @Bool.rec (fun _ => KE) ((fun _ _ _ => False) i) (retK Try.prog Try.f8.results.toList K) (Nat.beq i 0)) (retK Try.prog Try.f8.results.toList K) (a0 :: who1 :: k_2 :: x3 :: a4 :: who5 :: k_6 :: x7 :: id8 :: t9 :: is10 :: q11 :: t12 :: is13 :: t14 :: t15 :: t16 :: t17 :: t18 :: t19 :: t20 :: t21 :: t22 :: t23 :: t24 :: t25 :: t26 :: t27 :: t28 :: t29 :: t30 :: t31 :: t32 :: t33 :: t34 :: t35 :: t36 :: t37 :: t38 :: t39 :: t40 :: t41 :: t42 :: t43 :: t44 :: t45 :: t46 :: t47 :: t48 :: t49 :: t50 :: t51 :: t52 :: t53 :: t54 :: t55 :: t56 :: t57 :: t58 :: t59 :: t60 :: t61 :: t62 :: t63 :: t64 :: t65 :: t66 :: t67 :: t68 :: t69 :: t70 :: t71 :: t72 :: t73 :: t74 :: t75 :: t76 :: t77 :: t78 :: t79 :: t80 :: t81 :: t82 :: t83 :: t84 :: t85 :: t86 :: t87 :: t88 :: t89 :: t90 :: t91 :: t92 :: t93 :: t94 :: t95 :: t96 :: t97 :: t98 :: t99 :: t100 :: t101 :: t102 :: t103 :: t104 :: t105 :: t106 :: t107 :: t108 :: t109 :: t110 :: t111 :: t112 :: t113 :: t114 :: t115 :: t116 :: t117 :: t118 :: t119 :: t120 :: t121 :: t122 :: t123 :: t124 :: t125 :: []) w) (by kernel_rfl : (cd Try.f8 [1, 1, 1, 0, 1, 1, 1, 1, 1, 1, 1]) = (cd Try.f8 [1, 1, 1, 0, 1, 1, 1, 1, 1, 1, 1]))) (audit_Audit_Say_A4_k h)

theorem audit_Audit_Say_A5_k {K : KV} (qc0 : KE) {a0 who1 k_2 x3 a4 who5 k_6 x7 id8 t9 is10 q11 t12 is13 t14 t15 t16 t17 t18 t19 t20 t21 t22 t23 t24 t25 t26 t27 t28 t29 t30 t31 t32 t33 t34 t35 t36 t37 t38 t39 t40 t41 t42 t43 t44 t45 t46 t47 t48 t49 t50 t51 t52 t53 t54 t55 t56 t57 t58 t59 t60 t61 t62 t63 t64 t65 t66 t67 t68 t69 t70 t71 t72 t73 t74 t75 t76 t77 t78 t79 t80 t81 t82 t83 t84 t85 t86 t87 t88 t89 t90 t91 t92 t93 t94 t95 t96 t97 t98 t99 t100 t101 t102 t103 t104 t105 t106 t107 t108 t109 t110 t111 t112 t113 t114 t115 t116 t117 t118 t119 t120 t121 t122 t123 t124 t125 : Value} {w : World}
    (h : cond t108
      (fldA Try.prog 74 t14 1 (fun t109 w =>
      sto Try.prog 2 t109 (Value.int IntKind.i64 0) (fun _t w =>
      qc0 (a0 :: who1 :: k_2 :: x3 :: a4 :: who5 :: k_6 :: x7 :: id8 :: t9 :: is10 :: q11 :: t12 :: is13 :: t14 :: t15 :: t16 :: t17 :: t18 :: t19 :: t20 :: t21 :: t22 :: t23 :: t24 :: t25 :: t26 :: t27 :: t28 :: t29 :: t30 :: t31 :: t32 :: t33 :: t34 :: t35 :: t36 :: t37 :: t38 :: t39 :: t40 :: t41 :: t42 :: t43 :: t44 :: t45 :: t46 :: t47 :: t48 :: t49 :: t50 :: t51 :: t52 :: t53 :: t54 :: t55 :: t56 :: t57 :: t58 :: t59 :: t60 :: t61 :: t62 :: t63 :: t64 :: t65 :: t66 :: t67 :: t68 :: t69 :: t70 :: t71 :: t72 :: t73 :: t74 :: t75 :: t76 :: t77 :: t78 :: t79 :: t80 :: t81 :: t82 :: t83 :: t84 :: t85 :: t86 :: t87 :: t88 :: t89 :: t90 :: t91 :: t92 :: t93 :: t94 :: t95 :: t96 :: t97 :: t98 :: t99 :: t100 :: t101 :: t102 :: t103 :: t104 :: t105 :: t106 :: t107 :: t108 :: t109 :: t110 :: t111 :: t112 :: t113 :: t114 :: t115 :: t116 :: t117 :: t118 :: t119 :: t120 :: t121 :: t122 :: t123 :: t124 :: t125 :: []) w) w) w)
      (qc0 (a0 :: who1 :: k_2 :: x3 :: a4 :: who5 :: k_6 :: x7 :: id8 :: t9 :: is10 :: q11 :: t12 :: is13 :: t14 :: t15 :: t16 :: t17 :: t18 :: t19 :: t20 :: t21 :: t22 :: t23 :: t24 :: t25 :: t26 :: t27 :: t28 :: t29 :: t30 :: t31 :: t32 :: t33 :: t34 :: t35 :: t36 :: t37 :: t38 :: t39 :: t40 :: t41 :: t42 :: t43 :: t44 :: t45 :: t46 :: t47 :: t48 :: t49 :: t50 :: t51 :: t52 :: t53 :: t54 :: t55 :: t56 :: t57 :: t58 :: t59 :: t60 :: t61 :: t62 :: t63 :: t64 :: t65 :: t66 :: t67 :: t68 :: t69 :: t70 :: t71 :: t72 :: t73 :: t74 :: t75 :: t76 :: t77 :: t78 :: t79 :: t80 :: t81 :: t82 :: t83 :: t84 :: t85 :: t86 :: t87 :: t88 :: t89 :: t90 :: t91 :: t92 :: t93 :: t94 :: t95 :: t96 :: t97 :: t98 :: t99 :: t100 :: t101 :: t102 :: t103 :: t104 :: t105 :: t106 :: t107 :: t108 :: t109 :: t110 :: t111 :: t112 :: t113 :: t114 :: t115 :: t116 :: t117 :: t118 :: t119 :: t120 :: t121 :: t122 :: t123 :: t124 :: t125 :: []) w)) :
    cCode Try.prog (cd Try.f8 [1, 1, 1, 0, 1, 1, 1, 1, 1, 0, 1, 1, 1, 0, 1]) qc0 (fun i => @Bool.rec (fun _ => KE) ((fun _ _ _ => False) i) (retK Try.prog Try.f8.results.toList K) (Nat.beq i 0)) (retK Try.prog Try.f8.results.toList K) (a0 :: who1 :: k_2 :: x3 :: a4 :: who5 :: k_6 :: x7 :: id8 :: t9 :: is10 :: q11 :: t12 :: is13 :: t14 :: t15 :: t16 :: t17 :: t18 :: t19 :: t20 :: t21 :: t22 :: t23 :: t24 :: t25 :: t26 :: t27 :: t28 :: t29 :: t30 :: t31 :: t32 :: t33 :: t34 :: t35 :: t36 :: t37 :: t38 :: t39 :: t40 :: t41 :: t42 :: t43 :: t44 :: t45 :: t46 :: t47 :: t48 :: t49 :: t50 :: t51 :: t52 :: t53 :: t54 :: t55 :: t56 :: t57 :: t58 :: t59 :: t60 :: t61 :: t62 :: t63 :: t64 :: t65 :: t66 :: t67 :: t68 :: t69 :: t70 :: t71 :: t72 :: t73 :: t74 :: t75 :: t76 :: t77 :: t78 :: t79 :: t80 :: t81 :: t82 :: t83 :: t84 :: t85 :: t86 :: t87 :: t88 :: t89 :: t90 :: t91 :: t92 :: t93 :: t94 :: t95 :: t96 :: t97 :: t98 :: t99 :: t100 :: t101 :: t102 :: t103 :: t104 :: t105 :: t106 :: t107 :: t108 :: t109 :: t110 :: t111 :: t112 :: t113 :: t114 :: t115 :: t116 :: t117 :: t118 :: t119 :: t120 :: t121 :: t122 :: t123 :: t124 :: t125 :: []) w := Eq.mp (by kernel_rfl) h

theorem audit_Audit_Say_A5_r {K : KV} {a0 who1 k_2 x3 a4 who5 k_6 x7 id8 t9 is10 q11 t12 is13 t14 t15 t16 t17 t18 t19 t20 t21 t22 t23 t24 t25 t26 t27 t28 t29 t30 t31 t32 t33 t34 t35 t36 t37 t38 t39 t40 t41 t42 t43 t44 t45 t46 t47 t48 t49 t50 t51 t52 t53 t54 t55 t56 t57 t58 t59 t60 t61 t62 t63 t64 t65 t66 t67 t68 t69 t70 t71 t72 t73 t74 t75 t76 t77 t78 t79 t80 t81 t82 t83 t84 t85 t86 t87 t88 t89 t90 t91 t92 t93 t94 t95 t96 t97 t98 t99 t100 t101 t102 t103 t104 t105 t106 t107 t108 t109 t110 t111 t112 t113 t114 t115 t116 t117 t118 t119 t120 t121 t122 t123 t124 t125 : Value} {w : World}
    (h : cond t108
      (fldA Try.prog 74 t14 1 (fun t109 w =>
      sto Try.prog 2 t109 (Value.int IntKind.i64 0) (fun _t w =>
      (audit_Audit_Say_P1 K) (a0 :: who1 :: k_2 :: x3 :: a4 :: who5 :: k_6 :: x7 :: id8 :: t9 :: is10 :: q11 :: t12 :: is13 :: t14 :: t15 :: t16 :: t17 :: t18 :: t19 :: t20 :: t21 :: t22 :: t23 :: t24 :: t25 :: t26 :: t27 :: t28 :: t29 :: t30 :: t31 :: t32 :: t33 :: t34 :: t35 :: t36 :: t37 :: t38 :: t39 :: t40 :: t41 :: t42 :: t43 :: t44 :: t45 :: t46 :: t47 :: t48 :: t49 :: t50 :: t51 :: t52 :: t53 :: t54 :: t55 :: t56 :: t57 :: t58 :: t59 :: t60 :: t61 :: t62 :: t63 :: t64 :: t65 :: t66 :: t67 :: t68 :: t69 :: t70 :: t71 :: t72 :: t73 :: t74 :: t75 :: t76 :: t77 :: t78 :: t79 :: t80 :: t81 :: t82 :: t83 :: t84 :: t85 :: t86 :: t87 :: t88 :: t89 :: t90 :: t91 :: t92 :: t93 :: t94 :: t95 :: t96 :: t97 :: t98 :: t99 :: t100 :: t101 :: t102 :: t103 :: t104 :: t105 :: t106 :: t107 :: t108 :: t109 :: t110 :: t111 :: t112 :: t113 :: t114 :: t115 :: t116 :: t117 :: t118 :: t119 :: t120 :: t121 :: t122 :: t123 :: t124 :: t125 :: []) w) w) w)
      ((audit_Audit_Say_P1 K) (a0 :: who1 :: k_2 :: x3 :: a4 :: who5 :: k_6 :: x7 :: id8 :: t9 :: is10 :: q11 :: t12 :: is13 :: t14 :: t15 :: t16 :: t17 :: t18 :: t19 :: t20 :: t21 :: t22 :: t23 :: t24 :: t25 :: t26 :: t27 :: t28 :: t29 :: t30 :: t31 :: t32 :: t33 :: t34 :: t35 :: t36 :: t37 :: t38 :: t39 :: t40 :: t41 :: t42 :: t43 :: t44 :: t45 :: t46 :: t47 :: t48 :: t49 :: t50 :: t51 :: t52 :: t53 :: t54 :: t55 :: t56 :: t57 :: t58 :: t59 :: t60 :: t61 :: t62 :: t63 :: t64 :: t65 :: t66 :: t67 :: t68 :: t69 :: t70 :: t71 :: t72 :: t73 :: t74 :: t75 :: t76 :: t77 :: t78 :: t79 :: t80 :: t81 :: t82 :: t83 :: t84 :: t85 :: t86 :: t87 :: t88 :: t89 :: t90 :: t91 :: t92 :: t93 :: t94 :: t95 :: t96 :: t97 :: t98 :: t99 :: t100 :: t101 :: t102 :: t103 :: t104 :: t105 :: t106 :: t107 :: t108 :: t109 :: t110 :: t111 :: t112 :: t113 :: t114 :: t115 :: t116 :: t117 :: t118 :: t119 :: t120 :: t121 :: t122 :: t123 :: t124 :: t125 :: []) w)) :
    audit_Audit_Say_A5 K (a0 :: who1 :: k_2 :: x3 :: a4 :: who5 :: k_6 :: x7 :: id8 :: t9 :: is10 :: q11 :: t12 :: is13 :: t14 :: t15 :: t16 :: t17 :: t18 :: t19 :: t20 :: t21 :: t22 :: t23 :: t24 :: t25 :: t26 :: t27 :: t28 :: t29 :: t30 :: t31 :: t32 :: t33 :: t34 :: t35 :: t36 :: t37 :: t38 :: t39 :: t40 :: t41 :: t42 :: t43 :: t44 :: t45 :: t46 :: t47 :: t48 :: t49 :: t50 :: t51 :: t52 :: t53 :: t54 :: t55 :: t56 :: t57 :: t58 :: t59 :: t60 :: t61 :: t62 :: t63 :: t64 :: t65 :: t66 :: t67 :: t68 :: t69 :: t70 :: t71 :: t72 :: t73 :: t74 :: t75 :: t76 :: t77 :: t78 :: t79 :: t80 :: t81 :: t82 :: t83 :: t84 :: t85 :: t86 :: t87 :: t88 :: t89 :: t90 :: t91 :: t92 :: t93 :: t94 :: t95 :: t96 :: t97 :: t98 :: t99 :: t100 :: t101 :: t102 :: t103 :: t104 :: t105 :: t106 :: t107 :: t108 :: t109 :: t110 :: t111 :: t112 :: t113 :: t114 :: t115 :: t116 :: t117 :: t118 :: t119 :: t120 :: t121 :: t122 :: t123 :: t124 :: t125 :: []) w := by
  delta audit_Audit_Say_A5
  exact Eq.mp (congrArg (fun c => cCode Try.prog c (audit_Audit_Say_P1 K) (fun i => @Bool.rec (fun _ => KE) ((fun _ _ _ => False) i) (retK Try.prog Try.f8.results.toList K) (Nat.beq i 0)) (retK Try.prog Try.f8.results.toList K) (a0 :: who1 :: k_2 :: x3 :: a4 :: who5 :: k_6 :: x7 :: id8 :: t9 :: is10 :: q11 :: t12 :: is13 :: t14 :: t15 :: t16 :: t17 :: t18 :: t19 :: t20 :: t21 :: t22 :: t23 :: t24 :: t25 :: t26 :: t27 :: t28 :: t29 :: t30 :: t31 :: t32 :: t33 :: t34 :: t35 :: t36 :: t37 :: t38 :: t39 :: t40 :: t41 :: t42 :: t43 :: t44 :: t45 :: t46 :: t47 :: t48 :: t49 :: t50 :: t51 :: t52 :: t53 :: t54 :: t55 :: t56 :: t57 :: t58 :: t59 :: t60 :: t61 :: t62 :: t63 :: t64 :: t65 :: t66 :: t67 :: t68 :: t69 :: t70 :: t71 :: t72 :: t73 :: t74 :: t75 :: t76 :: t77 :: t78 :: t79 :: t80 :: t81 :: t82 :: t83 :: t84 :: t85 :: t86 :: t87 :: t88 :: t89 :: t90 :: t91 :: t92 :: t93 :: t94 :: t95 :: t96 :: t97 :: t98 :: t99 :: t100 :: t101 :: t102 :: t103 :: t104 :: t105 :: t106 :: t107 :: t108 :: t109 :: t110 :: t111 :: t112 :: t113 :: t114 :: t115 :: t116 :: t117 :: t118 :: t119 :: t120 :: t121 :: t122 :: t123 :: t124 :: t125 :: []) w) (by kernel_rfl : (cd Try.f8 [1, 1, 1, 0, 1, 1, 1, 1, 1, 0, 1, 1, 1, 0, 1]) = (cd Try.f8 [1, 1, 1, 0, 1, 1, 1, 1, 1, 0, 1, 1, 1, 0, 1]))) (audit_Audit_Say_A5_k (audit_Audit_Say_P1 K) h)

theorem audit_Audit_Say_P1_k {K : KV} {a0 who1 k_2 x3 a4 who5 k_6 x7 id8 t9 is10 q11 t12 is13 t14 t15 t16 t17 t18 t19 t20 t21 t22 t23 t24 t25 t26 t27 t28 t29 t30 t31 t32 t33 t34 t35 t36 t37 t38 t39 t40 t41 t42 t43 t44 t45 t46 t47 t48 t49 t50 t51 t52 t53 t54 t55 t56 t57 t58 t59 t60 t61 t62 t63 t64 t65 t66 t67 t68 t69 t70 t71 t72 t73 t74 t75 t76 t77 t78 t79 t80 t81 t82 t83 t84 t85 t86 t87 t88 t89 t90 t91 t92 t93 t94 t95 t96 t97 t98 t99 t100 t101 t102 t103 t104 t105 t106 t107 t108 t109 t110 t111 t112 t113 t114 t115 t116 t117 t118 t119 t120 t121 t122 t123 t124 t125 : Value} {w : World}
    (h : hReg (fun S w =>
    hld S (fun k w => nilC a0 k w) (fun t111 =>
    hld S (fun k w => fldA Try.prog 65 t111 2 k w) (fun t112 =>
    hld S (fun k w => ld Try.prog 62 t112 k w) (fun t113 =>
    hld S (fun k w => ld Try.prog 72 q11 k w) (fun t114 =>
    hld S (fun k w => ld Try.prog 74 t14 k w) (fun t115 =>
    mUpd Try.prog 62 t113 t114 t115 (fun _t w =>
    K (Value.tuple #[]) w) w)))))) w.drew) :
    cCode Try.prog (cd Try.f8 [1, 1, 1, 0, 1, 1, 1, 1, 1, 0, 1, 1, 1, 1]) (retK Try.prog Try.f8.results.toList K) (fun i => @Bool.rec (fun _ => KE) ((fun _ _ _ => False) i) (retK Try.prog Try.f8.results.toList K) (Nat.beq i 0)) (retK Try.prog Try.f8.results.toList K) (a0 :: who1 :: k_2 :: x3 :: a4 :: who5 :: k_6 :: x7 :: id8 :: t9 :: is10 :: q11 :: t12 :: is13 :: t14 :: t15 :: t16 :: t17 :: t18 :: t19 :: t20 :: t21 :: t22 :: t23 :: t24 :: t25 :: t26 :: t27 :: t28 :: t29 :: t30 :: t31 :: t32 :: t33 :: t34 :: t35 :: t36 :: t37 :: t38 :: t39 :: t40 :: t41 :: t42 :: t43 :: t44 :: t45 :: t46 :: t47 :: t48 :: t49 :: t50 :: t51 :: t52 :: t53 :: t54 :: t55 :: t56 :: t57 :: t58 :: t59 :: t60 :: t61 :: t62 :: t63 :: t64 :: t65 :: t66 :: t67 :: t68 :: t69 :: t70 :: t71 :: t72 :: t73 :: t74 :: t75 :: t76 :: t77 :: t78 :: t79 :: t80 :: t81 :: t82 :: t83 :: t84 :: t85 :: t86 :: t87 :: t88 :: t89 :: t90 :: t91 :: t92 :: t93 :: t94 :: t95 :: t96 :: t97 :: t98 :: t99 :: t100 :: t101 :: t102 :: t103 :: t104 :: t105 :: t106 :: t107 :: t108 :: t109 :: t110 :: t111 :: t112 :: t113 :: t114 :: t115 :: t116 :: t117 :: t118 :: t119 :: t120 :: t121 :: t122 :: t123 :: t124 :: t125 :: []) w := Eq.mp (by kernel_rfl) h

theorem audit_Audit_Say_P1_r {K : KV} {a0 who1 k_2 x3 a4 who5 k_6 x7 id8 t9 is10 q11 t12 is13 t14 t15 t16 t17 t18 t19 t20 t21 t22 t23 t24 t25 t26 t27 t28 t29 t30 t31 t32 t33 t34 t35 t36 t37 t38 t39 t40 t41 t42 t43 t44 t45 t46 t47 t48 t49 t50 t51 t52 t53 t54 t55 t56 t57 t58 t59 t60 t61 t62 t63 t64 t65 t66 t67 t68 t69 t70 t71 t72 t73 t74 t75 t76 t77 t78 t79 t80 t81 t82 t83 t84 t85 t86 t87 t88 t89 t90 t91 t92 t93 t94 t95 t96 t97 t98 t99 t100 t101 t102 t103 t104 t105 t106 t107 t108 t109 t110 t111 t112 t113 t114 t115 t116 t117 t118 t119 t120 t121 t122 t123 t124 t125 : Value} {w : World}
    (h : hReg (fun S w =>
    hld S (fun k w => nilC a0 k w) (fun t111 =>
    hld S (fun k w => fldA Try.prog 65 t111 2 k w) (fun t112 =>
    hld S (fun k w => ld Try.prog 62 t112 k w) (fun t113 =>
    hld S (fun k w => ld Try.prog 72 q11 k w) (fun t114 =>
    hld S (fun k w => ld Try.prog 74 t14 k w) (fun t115 =>
    mUpd Try.prog 62 t113 t114 t115 (fun _t w =>
    K (Value.tuple #[]) w) w)))))) w.drew) :
    audit_Audit_Say_P1 K (a0 :: who1 :: k_2 :: x3 :: a4 :: who5 :: k_6 :: x7 :: id8 :: t9 :: is10 :: q11 :: t12 :: is13 :: t14 :: t15 :: t16 :: t17 :: t18 :: t19 :: t20 :: t21 :: t22 :: t23 :: t24 :: t25 :: t26 :: t27 :: t28 :: t29 :: t30 :: t31 :: t32 :: t33 :: t34 :: t35 :: t36 :: t37 :: t38 :: t39 :: t40 :: t41 :: t42 :: t43 :: t44 :: t45 :: t46 :: t47 :: t48 :: t49 :: t50 :: t51 :: t52 :: t53 :: t54 :: t55 :: t56 :: t57 :: t58 :: t59 :: t60 :: t61 :: t62 :: t63 :: t64 :: t65 :: t66 :: t67 :: t68 :: t69 :: t70 :: t71 :: t72 :: t73 :: t74 :: t75 :: t76 :: t77 :: t78 :: t79 :: t80 :: t81 :: t82 :: t83 :: t84 :: t85 :: t86 :: t87 :: t88 :: t89 :: t90 :: t91 :: t92 :: t93 :: t94 :: t95 :: t96 :: t97 :: t98 :: t99 :: t100 :: t101 :: t102 :: t103 :: t104 :: t105 :: t106 :: t107 :: t108 :: t109 :: t110 :: t111 :: t112 :: t113 :: t114 :: t115 :: t116 :: t117 :: t118 :: t119 :: t120 :: t121 :: t122 :: t123 :: t124 :: t125 :: []) w := by
  delta audit_Audit_Say_P1
  exact Eq.mp (congrArg (fun c => cCode Try.prog c (retK Try.prog Try.f8.results.toList K) (fun i => @Bool.rec (fun _ => KE) ((fun _ _ _ => False) i) (retK Try.prog Try.f8.results.toList K) (Nat.beq i 0)) (retK Try.prog Try.f8.results.toList K) (a0 :: who1 :: k_2 :: x3 :: a4 :: who5 :: k_6 :: x7 :: id8 :: t9 :: is10 :: q11 :: t12 :: is13 :: t14 :: t15 :: t16 :: t17 :: t18 :: t19 :: t20 :: t21 :: t22 :: t23 :: t24 :: t25 :: t26 :: t27 :: t28 :: t29 :: t30 :: t31 :: t32 :: t33 :: t34 :: t35 :: t36 :: t37 :: t38 :: t39 :: t40 :: t41 :: t42 :: t43 :: t44 :: t45 :: t46 :: t47 :: t48 :: t49 :: t50 :: t51 :: t52 :: t53 :: t54 :: t55 :: t56 :: t57 :: t58 :: t59 :: t60 :: t61 :: t62 :: t63 :: t64 :: t65 :: t66 :: t67 :: t68 :: t69 :: t70 :: t71 :: t72 :: t73 :: t74 :: t75 :: t76 :: t77 :: t78 :: t79 :: t80 :: t81 :: t82 :: t83 :: t84 :: t85 :: t86 :: t87 :: t88 :: t89 :: t90 :: t91 :: t92 :: t93 :: t94 :: t95 :: t96 :: t97 :: t98 :: t99 :: t100 :: t101 :: t102 :: t103 :: t104 :: t105 :: t106 :: t107 :: t108 :: t109 :: t110 :: t111 :: t112 :: t113 :: t114 :: t115 :: t116 :: t117 :: t118 :: t119 :: t120 :: t121 :: t122 :: t123 :: t124 :: t125 :: []) w) (by kernel_rfl : (cd Try.f8 [1, 1, 1, 0, 1, 1, 1, 1, 1, 0, 1, 1, 1, 1]) = (cd Try.f8 [1, 1, 1, 0, 1, 1, 1, 1, 1, 0, 1, 1, 1, 1]))) (audit_Audit_Say_P1_k h)
attribute [irreducible] audit_Audit_Say_A1 audit_Audit_Say_A2 audit_Audit_Say_A3 audit_Audit_Say_A4 audit_Audit_Say_P1 audit_Audit_Say_A5

def audit_Audit_below_P1 (K : KV) : KE := cCode Try.prog (cd Try.f21 [1, 1]) (retK Try.prog Try.f21.results.toList K) (fun _ _ _ => False) (retK Try.prog Try.f21.results.toList K)
def audit_Audit_below_A1 (K : KV) : KE := cCode Try.prog (cd Try.f21 [1, 0, 1]) (audit_Audit_below_P1 K) (fun _ _ _ => False) (retK Try.prog Try.f21.results.toList K)
def audit_Audit_below_L1 (K : KV) : KE := cCode Try.prog (cd Try.f21 [1, 0, 1, 0]) (audit_Audit_below_P1 K) (fun i => @Bool.rec (fun _ => KE) ((fun _ _ _ => False) i) (audit_Audit_below_P1 K) (Nat.beq i 0)) (retK Try.prog Try.f21.results.toList K)
theorem audit_Audit_below_k {K : KV} (xc0 : Code) {a0 id1 of2 : Value} {w : World}
    (h : (cCode Try.prog xc0 (cCode Try.prog (cd Try.f21 [1, 1]) (retK Try.prog Try.f21.results.toList K) (fun _ _ _ => False) (retK Try.prog Try.f21.results.toList K)) (fun _ _ _ => False) (retK Try.prog Try.f21.results.toList K)) [a0, id1, of2, undef, undef, undef, (Value.bool false), undef, undef, (Value.int IntKind.i64 0), undef, undef, undef, undef, undef, undef, undef, undef, undef, undef, undef, undef, undef, undef, undef, undef, undef, undef, undef, undef, undef, undef, undef] w) :
    cCode Try.prog (rep [1, 0, 1] xc0 (cd Try.f21 [])) (retK Try.prog Try.f21.results.toList K) (fun _ _ _ => False) (retK Try.prog Try.f21.results.toList K) [a0, id1, of2, undef, undef, undef, undef, undef, undef, undef, undef, undef, undef, undef, undef, undef, undef, undef, undef, undef, undef, undef, undef, undef, undef, undef, undef, undef, undef, undef, undef, undef, undef] w := Eq.mp (by kernel_rfl) h

theorem audit_Audit_below_in {K : KV} {a0 id1 of2 : Value} {w : World}
    (h : (audit_Audit_below_A1 K) [a0, id1, of2, undef, undef, undef, (Value.bool false), undef, undef, (Value.int IntKind.i64 0), undef, undef, undef, undef, undef, undef, undef, undef, undef, undef, undef, undef, undef, undef, undef, undef, undef, undef, undef, undef, undef, undef, undef] w) :
    Gives Try.prog 21 #[a0, id1, of2] w K := enter' Try.func21 (by kernel_rfl) (Eq.mp (congrArg (fun c => cCode Try.prog c (retK Try.prog Try.f21.results.toList K) (fun _ _ _ => False) (retK Try.prog Try.f21.results.toList K) [a0, id1, of2, undef, undef, undef, undef, undef, undef, undef, undef, undef, undef, undef, undef, undef, undef, undef, undef, undef, undef, undef, undef, undef, undef, undef, undef, undef, undef, undef, undef, undef, undef] w) (by kernel_rfl : (rep [1, 0, 1] (cd Try.f21 [1, 0, 1]) (cd Try.f21 [])) = (cd Try.f21 []))) (audit_Audit_below_k (cd Try.f21 [1, 0, 1]) h))
theorem audit_Audit_below_go : isGo Try.prog 21 := ⟨_, Try.func21, by kernel_rfl, by kernel_rfl⟩

theorem audit_Audit_below_A1_k {K : KV} (qc0 : KE) {a0 id1 of2 a3 id4 of5 t6 n7 is8 t9 t10 t11 t12 t13 t14 t15 t16 t17 t18 t19 t20 t21 t22 t23 t24 t25 t26 t27 t28 t29 t30 t31 t32 : Value} {w : World}
    (h : (cCode Try.prog (cd Try.f21 [1, 0, 1, 0]) qc0 (fun i => @Bool.rec (fun _ => KE) ((fun _ _ _ => False) i) qc0 (Nat.beq i 0)) (retK Try.prog Try.f21.results.toList K)) [a0, id1, of2, a3, id4, of5, t6, n7, is8, t9, t10, t11, t12, t13, t14, t15, t16, t17, t18, t19, t20, t21, t22, t23, t24, t25, t26, t27, t28, t29, t30, t31, t32] w) :
    cCode Try.prog (cd Try.f21 [1, 0, 1]) qc0 (fun _ _ _ => False) (retK Try.prog Try.f21.results.toList K) [a0, id1, of2, a3, id4, of5, t6, n7, is8, t9, t10, t11, t12, t13, t14, t15, t16, t17, t18, t19, t20, t21, t22, t23, t24, t25, t26, t27, t28, t29, t30, t31, t32] w := Eq.mp (by kernel_rfl) h

theorem audit_Audit_below_A1_r {K : KV} {a0 id1 of2 a3 id4 of5 t6 n7 is8 t9 t10 t11 t12 t13 t14 t15 t16 t17 t18 t19 t20 t21 t22 t23 t24 t25 t26 t27 t28 t29 t30 t31 t32 : Value} {w : World}
    (h : (audit_Audit_below_L1 K) [a0, id1, of2, a3, id4, of5, t6, n7, is8, t9, t10, t11, t12, t13, t14, t15, t16, t17, t18, t19, t20, t21, t22, t23, t24, t25, t26, t27, t28, t29, t30, t31, t32] w) :
    audit_Audit_below_A1 K [a0, id1, of2, a3, id4, of5, t6, n7, is8, t9, t10, t11, t12, t13, t14, t15, t16, t17, t18, t19, t20, t21, t22, t23, t24, t25, t26, t27, t28, t29, t30, t31, t32] w := by
  delta audit_Audit_below_A1
  exact Eq.mp (congrArg (fun c => cCode Try.prog c (audit_Audit_below_P1 K) (fun _ _ _ => False) (retK Try.prog Try.f21.results.toList K) [a0, id1, of2, a3, id4, of5, t6, n7, is8, t9, t10, t11, t12, t13, t14, t15, t16, t17, t18, t19, t20, t21, t22, t23, t24, t25, t26, t27, t28, t29, t30, t31, t32] w) (by kernel_rfl : (cd Try.f21 [1, 0, 1]) = (cd Try.f21 [1, 0, 1]))) (audit_Audit_below_A1_k (audit_Audit_below_P1 K) h)

theorem audit_Audit_below_L1_k {K : KV} (B1 : KE) (qc0 : KE) {a0 id1' of2 a3 id4 of5 t6 t9' t24' t25' t30 t31 t32 : Value} {dd : Nat → Value} {w : World}
    (h : bin Try.prog BinOp.lss 3 false true t9' (Value.int IntKind.i64 32) (fun t10 w =>
    cond t10
      (nilC a0 (fun t13 w =>
    fldA Try.prog 65 t13 0 (fun t14 w =>
    ld Try.prog 60 t14 (fun t15 w =>
    lkp Try.prog 60 t15 id1' true (fun t17 w =>
    ext Try.prog t17 0 (fun t18 w =>
    ext Try.prog t17 1 (fun t19 w =>
    alc Try.prog 68 (fun n7 w =>
    sto Try.prog 68 n7 t18 (fun _t w =>
    bin Try.prog BinOp.eql 33 false false id1' of2 (fun t22 w =>
    gsel t22 false (fun k24 =>
    un Try.prog UnOp.not t19 (fun t25 w =>
    k24 [t19, t25] w) w)
    (fun k => k [undef, undef] w) (fun us24 w =>
    pick t22 (Value.bool true) (gd us24 1) (fun t26 w =>
    cond t26
      (qc0 [a0, id1', of2, a3, id4, of5, t6, n7, t19, t9', t10, t17, a0, t13, t14, t15, id1', t17, t18, t19, id1', of2, t22, t22, (gd us24 0), (gd us24 1), t26, (dd 27), (dd 28), (dd 29), t30, t31, t32] w)
      (fldA Try.prog 68 n7 0 (fun t27 w =>
    ld Try.prog 33 t27 (fun t28 w =>
    bin Try.prog BinOp.add 3 false true t9' (Value.int IntKind.i64 1) (fun t29 w =>
    B1 [a0, t28, of2, a3, id4, of5, t6, n7, t19, t29, t10, t17, a0, t13, t14, t15, id1', t17, t18, t19, id1', of2, t22, t22, (gd us24 0), (gd us24 1), t26, t27, t28, t29, t30, t31, t32] w) w) w) w)) w)) w) w) w) w) w) w) w) w) w)
      (qc0 [a0, id1', of2, a3, id4, of5, t6, (dd 7), (dd 8), t9', t10, (dd 11), (dd 12), (dd 13), (dd 14), (dd 15), (dd 16), (dd 17), (dd 18), (dd 19), (dd 20), (dd 21), (dd 22), (dd 23), t24', t25', (dd 26), (dd 27), (dd 28), (dd 29), t30, t31, t32] w)) w) :
    cCode Try.prog (cd Try.f21 [1, 0, 1, 0, 0]) B1 (fun i => @Bool.rec (fun _ => KE) ((fun _ _ _ => False) i) qc0 (Nat.beq i 0)) (retK Try.prog Try.f21.results.toList K) [a0, id1', of2, a3, id4, of5, t6, (dd 7), (dd 8), t9', (dd 10), (dd 11), (dd 12), (dd 13), (dd 14), (dd 15), (dd 16), (dd 17), (dd 18), (dd 19), (dd 20), (dd 21), (dd 22), (dd 23), t24', t25', (dd 26), (dd 27), (dd 28), (dd 29), t30, t31, t32] w := Eq.mp (by kernel_rfl) h

theorem audit_Audit_below_L1_r {K : KV} {a0 id1 of2 a3 id4 of5 t6 n7 is8 t9 t10 t11 t12 t13 t14 t15 t16 t17 t18 t19 t20 t21 t22 t23 t24 t25 t26 t27 t28 t29 t30 t31 t32 : Value} {w : World} (Inv : Value → Value → Value → Value → World → Prop) (μ : Value → Value → Value → Value → World → Nat) (h0 : Inv id1 t9 t24 t25 w)
    (hs : ∀ (id1' t9' t24' t25' : Value) (dd : Nat → Value) (w : World) (m : Nat), Inv id1' t9' t24' t25' w → m = μ id1' t9' t24' t25' w →
    bin Try.prog BinOp.lss 3 false true t9' (Value.int IntKind.i64 32) (fun t10 w =>
    cond t10
      (nilC a0 (fun t13 w =>
    fldA Try.prog 65 t13 0 (fun t14 w =>
    ld Try.prog 60 t14 (fun t15 w =>
    lkp Try.prog 60 t15 id1' true (fun t17 w =>
    ext Try.prog t17 0 (fun t18 w =>
    ext Try.prog t17 1 (fun t19 w =>
    alc Try.prog 68 (fun n7 w =>
    sto Try.prog 68 n7 t18 (fun _t w =>
    bin Try.prog BinOp.eql 33 false false id1' of2 (fun t22 w =>
    gsel t22 false (fun k24 =>
    un Try.prog UnOp.not t19 (fun t25 w =>
    k24 [t19, t25] w) w)
    (fun k => k [undef, undef] w) (fun us24 w =>
    pick t22 (Value.bool true) (gd us24 1) (fun t26 w =>
    cond t26
      ((audit_Audit_below_P1 K) [a0, id1', of2, a3, id4, of5, t6, n7, t19, t9', t10, t17, a0, t13, t14, t15, id1', t17, t18, t19, id1', of2, t22, t22, (gd us24 0), (gd us24 1), t26, (dd 27), (dd 28), (dd 29), t30, t31, t32] w)
      (fldA Try.prog 68 n7 0 (fun t27 w =>
    ld Try.prog 33 t27 (fun t28 w =>
    bin Try.prog BinOp.add 3 false true t9' (Value.int IntKind.i64 1) (fun t29 w =>
    (Inv t28 t29 (gd us24 0) (gd us24 1) w ∧ μ t28 t29 (gd us24 0) (gd us24 1) w < m)) w) w) w)) w)) w) w) w) w) w) w) w) w) w)
      ((audit_Audit_below_P1 K) [a0, id1', of2, a3, id4, of5, t6, (dd 7), (dd 8), t9', t10, (dd 11), (dd 12), (dd 13), (dd 14), (dd 15), (dd 16), (dd 17), (dd 18), (dd 19), (dd 20), (dd 21), (dd 22), (dd 23), t24', t25', (dd 26), (dd 27), (dd 28), (dd 29), t30, t31, t32] w)) w) :
    audit_Audit_below_L1 K [a0, id1, of2, a3, id4, of5, t6, n7, is8, t9, t10, t11, t12, t13, t14, t15, t16, t17, t18, t19, t20, t21, t22, t23, t24, t25, t26, t27, t28, t29, t30, t31, t32] w := by
  refine loop_rule (cd Try.f21 [1, 0, 1, 0, 0]) [1, 7, 8, 9, 10, 11, 12, 13, 14, 15, 16, 17, 18, 19, 20, 21, 22, 23, 24, 25, 26, 27, 28, 29] (by kernel_rfl) (fun e2 w2 => Inv (gd e2 1) (gd e2 9) (gd e2 24) (gd e2 25) w2) (fun e2 w2 => μ (gd e2 1) (gd e2 9) (gd e2 24) (gd e2 25) w2) h0 ?_
  intro e' w' hI
  have h := hs (gd e' 1) (gd e' 9) (gd e' 24) (gd e' 25) (fun i => gd e' i) w' _ hI rfl
  have h2 : cCode Try.prog (cd Try.f21 [1, 0, 1, 0, 0]) (fun e2 w2 => Inv (gd e2 1) (gd e2 9) (gd e2 24) (gd e2 25) w2 ∧ μ (gd e2 1) (gd e2 9) (gd e2 24) (gd e2 25) w2 < μ (gd e' 1) (gd e' 9) (gd e' 24) (gd e' 25) w') (fun i => @Bool.rec (fun _ => KE) ((fun _ _ _ => False) i) (audit_Audit_below_P1 K) (Nat.beq i 0)) (retK Try.prog Try.f21.results.toList K) [a0, (gd e' 1), of2, a3, id4, of5, t6, (gd e' 7), (gd e' 8), (gd e' 9), (gd e' 10), (gd e' 11), (gd e' 12), (gd e' 13), (gd e' 14), (gd e' 15), (gd e' 16), (gd e' 17), (gd e' 18), (gd e' 19), (gd e' 20), (gd e' 21), (gd e' 22), (gd e' 23), (gd e' 24), (gd e' 25), (gd e' 26), (gd e' 27), (gd e' 28), (gd e' 29), t30, t31, t32] w' := audit_Audit_below_L1_k (fun e2 w2 => Inv (gd e2 1) (gd e2 9) (gd e2 24) (gd e2 25) w2 ∧ μ (gd e2 1) (gd e2 9) (gd e2 24) (gd e2 25) w2 < μ (gd e' 1) (gd e' 9) (gd e' 24) (gd e' 25) w') (audit_Audit_below_P1 K) (Eq.mp (by kernel_rfl) h)
  exact Eq.mp (by kernel_rfl) h2

theorem audit_Audit_below_P1_k {K : KV} {a0 id1 of2 a3 id4 of5 t6 n7 is8 t9 t10 t11 t12 t13 t14 t15 t16 t17 t18 t19 t20 t21 t22 t23 t24 t25 t26 t27 t28 t29 t30 t31 t32 : Value} {w : World}
    (h : bin Try.prog BinOp.eql 33 false false id1 of2 (fun t32 w =>
    K t32 w) w) :
    cCode Try.prog (cd Try.f21 [1, 1]) (retK Try.prog Try.f21.results.toList K) (fun _ _ _ => False) (retK Try.prog Try.f21.results.toList K) [a0, id1, of2, a3, id4, of5, t6, n7, is8, t9, t10, t11, t12, t13, t14, t15, t16, t17, t18, t19, t20, t21, t22, t23, t24, t25, t26, t27, t28, t29, t30, t31, t32] w := Eq.mp (by kernel_rfl) h

theorem audit_Audit_below_P1_r {K : KV} {a0 id1 of2 a3 id4 of5 t6 n7 is8 t9 t10 t11 t12 t13 t14 t15 t16 t17 t18 t19 t20 t21 t22 t23 t24 t25 t26 t27 t28 t29 t30 t31 t32 : Value} {w : World}
    (h : bin Try.prog BinOp.eql 33 false false id1 of2 (fun t32 w =>
    K t32 w) w) :
    audit_Audit_below_P1 K [a0, id1, of2, a3, id4, of5, t6, n7, is8, t9, t10, t11, t12, t13, t14, t15, t16, t17, t18, t19, t20, t21, t22, t23, t24, t25, t26, t27, t28, t29, t30, t31, t32] w := by
  delta audit_Audit_below_P1
  exact Eq.mp (congrArg (fun c => cCode Try.prog c (retK Try.prog Try.f21.results.toList K) (fun _ _ _ => False) (retK Try.prog Try.f21.results.toList K) [a0, id1, of2, a3, id4, of5, t6, n7, is8, t9, t10, t11, t12, t13, t14, t15, t16, t17, t18, t19, t20, t21, t22, t23, t24, t25, t26, t27, t28, t29, t30, t31, t32] w) (by kernel_rfl : (cd Try.f21 [1, 1]) = (cd Try.f21 [1, 1]))) (audit_Audit_below_P1_k h)
attribute [irreducible] audit_Audit_below_P1 audit_Audit_below_A1 audit_Audit_below_L1

def audit_Audit_Sums_P1 (K : KV) : KE := cCode Try.prog (cd Try.f10 [1, 1, 1, 1, 1]) (retK Try.prog Try.f10.results.toList K) (fun _ _ _ => False) (retK Try.prog Try.f10.results.toList K)
def audit_Audit_Sums_L1 (K : KV) : KE := cCode Try.prog (cd Try.f10 [1, 1, 1, 1, 0, 1, 0]) (audit_Audit_Sums_P1 K) (fun i => @Bool.rec (fun _ => KE) ((fun _ _ _ => False) i) (audit_Audit_Sums_P1 K) (Nat.beq i 0)) (retK Try.prog Try.f10.results.toList K)
theorem audit_Audit_Sums_k {K : KV} {a0 id1 : Value} {w : World}
    (h : bin Try.prog BinOp.eql 24 false true a0 (Value.pointer none) (fun t12 w =>
    cond t12
      (K (Value.tuple #[(Value.int IntKind.i64 0), (Value.int IntKind.i64 0), (Value.int IntKind.i64 2)]) w)
      (nilC a0 (fun t15 w =>
    fldA Try.prog 65 t15 0 (fun t16 w =>
    ld Try.prog 60 t16 (fun t17 w =>
    lkp Try.prog 60 t17 id1 true (fun t19 w =>
    ext Try.prog t19 0 (fun t20 w =>
    ext Try.prog t19 1 (fun t21 w =>
    alc Try.prog 68 (fun n7 w =>
    sto Try.prog 68 n7 t20 (fun _t w =>
    un Try.prog UnOp.not t21 (fun t23 w =>
    cond t23
      (K (Value.tuple #[(Value.int IntKind.i64 0), (Value.int IntKind.i64 0), (Value.int IntKind.i64 9)]) w)
      (nilC a0 (fun t25 w =>
    fldA Try.prog 65 t25 2 (fun t26 w =>
    ld Try.prog 62 t26 (fun t27 w =>
    rng Try.prog 62 t27 (fun t28 w =>
    (cCode Try.prog (cd Try.f10 [1, 1, 1, 1, 0, 1, 0]) (cCode Try.prog (cd Try.f10 [1, 1, 1, 1, 1]) (retK Try.prog Try.f10.results.toList K) (fun _ _ _ => False) (retK Try.prog Try.f10.results.toList K)) (fun i => @Bool.rec (fun _ => KE) ((fun _ _ _ => False) i) (cCode Try.prog (cd Try.f10 [1, 1, 1, 1, 1]) (retK Try.prog Try.f10.results.toList K) (fun _ _ _ => False) (retK Try.prog Try.f10.results.toList K)) (Nat.beq i 0)) (retK Try.prog Try.f10.results.toList K)) (a0 :: id1 :: undef :: undef :: (Value.int IntKind.i64 0) :: (Value.int IntKind.i64 0) :: (Value.int IntKind.i64 0) :: n7 :: t21 :: undef :: undef :: a0 :: t12 :: t19 :: a0 :: t15 :: t16 :: t17 :: id1 :: t19 :: t20 :: t21 :: t21 :: t23 :: a0 :: t25 :: t26 :: t27 :: t28 :: undef :: undef :: undef :: undef :: undef :: undef :: undef :: undef :: undef :: undef :: undef :: undef :: undef :: undef :: undef :: undef :: undef :: undef :: undef :: undef :: undef :: undef :: undef :: undef :: undef :: undef :: undef :: undef :: undef :: undef :: undef :: undef :: undef :: []) w) w) w) w) w)) w) w) w) w) w) w) w) w) w)) w) :
    cCode Try.prog (cd Try.f10 []) (retK Try.prog Try.f10.results.toList K) (fun _ _ _ => False) (retK Try.prog Try.f10.results.toList K) (a0 :: id1 :: undef :: undef :: undef :: undef :: undef :: undef :: undef :: undef :: undef :: undef :: undef :: undef :: undef :: undef :: undef :: undef :: undef :: undef :: undef :: undef :: undef :: undef :: undef :: undef :: undef :: undef :: undef :: undef :: undef :: undef :: undef :: undef :: undef :: undef :: undef :: undef :: undef :: undef :: undef :: undef :: undef :: undef :: undef :: undef :: undef :: undef :: undef :: undef :: undef :: undef :: undef :: undef :: undef :: undef :: undef :: undef :: undef :: undef :: undef :: undef :: []) w := Eq.mp (by kernel_rfl) h

theorem audit_Audit_Sums_in {K : KV} {a0 id1 : Value} {w : World}
    (h : bin Try.prog BinOp.eql 24 false true a0 (Value.pointer none) (fun t12 w =>
    cond t12
      (K (Value.tuple #[(Value.int IntKind.i64 0), (Value.int IntKind.i64 0), (Value.int IntKind.i64 2)]) w)
      (nilC a0 (fun t15 w =>
    fldA Try.prog 65 t15 0 (fun t16 w =>
    ld Try.prog 60 t16 (fun t17 w =>
    lkp Try.prog 60 t17 id1 true (fun t19 w =>
    ext Try.prog t19 0 (fun t20 w =>
    ext Try.prog t19 1 (fun t21 w =>
    alc Try.prog 68 (fun n7 w =>
    sto Try.prog 68 n7 t20 (fun _t w =>
    un Try.prog UnOp.not t21 (fun t23 w =>
    cond t23
      (K (Value.tuple #[(Value.int IntKind.i64 0), (Value.int IntKind.i64 0), (Value.int IntKind.i64 9)]) w)
      (nilC a0 (fun t25 w =>
    fldA Try.prog 65 t25 2 (fun t26 w =>
    ld Try.prog 62 t26 (fun t27 w =>
    rng Try.prog 62 t27 (fun t28 w =>
    (audit_Audit_Sums_L1 K) (a0 :: id1 :: undef :: undef :: (Value.int IntKind.i64 0) :: (Value.int IntKind.i64 0) :: (Value.int IntKind.i64 0) :: n7 :: t21 :: undef :: undef :: a0 :: t12 :: t19 :: a0 :: t15 :: t16 :: t17 :: id1 :: t19 :: t20 :: t21 :: t21 :: t23 :: a0 :: t25 :: t26 :: t27 :: t28 :: undef :: undef :: undef :: undef :: undef :: undef :: undef :: undef :: undef :: undef :: undef :: undef :: undef :: undef :: undef :: undef :: undef :: undef :: undef :: undef :: undef :: undef :: undef :: undef :: undef :: undef :: undef :: undef :: undef :: undef :: undef :: undef :: undef :: []) w) w) w) w) w)) w) w) w) w) w) w) w) w) w)) w) :
    Gives Try.prog 10 #[a0, id1] w K := enter' Try.func10 (by kernel_rfl) (Eq.mp (congrArg (fun c => cCode Try.prog c (retK Try.prog Try.f10.results.toList K) (fun _ _ _ => False) (retK Try.prog Try.f10.results.toList K) (a0 :: id1 :: undef :: undef :: undef :: undef :: undef :: undef :: undef :: undef :: undef :: undef :: undef :: undef :: undef :: undef :: undef :: undef :: undef :: undef :: undef :: undef :: undef :: undef :: undef :: undef :: undef :: undef :: undef :: undef :: undef :: undef :: undef :: undef :: undef :: undef :: undef :: undef :: undef :: undef :: undef :: undef :: undef :: undef :: undef :: undef :: undef :: undef :: undef :: undef :: undef :: undef :: undef :: undef :: undef :: undef :: undef :: undef :: undef :: undef :: undef :: undef :: []) w) (by kernel_rfl : (cd Try.f10 []) = (cd Try.f10 []))) (audit_Audit_Sums_k h))
theorem audit_Audit_Sums_go : isGo Try.prog 10 := ⟨_, Try.func10, by kernel_rfl, by kernel_rfl⟩

theorem audit_Audit_Sums_L1_k {K : KV} (B1 : KE) (qc0 : KE) {a0 id1 a2 id3 limit4 used5' e6 n7 is8 t11 t12 t13 t14 t15 t16 t17 t18 t19 t20 t21 t22 t23 t24 t25 t26 t27 t28 t42' t43' t44' t45' t46' t52 t53 t54 t55 t56 t57 t58 t59 t60 t61 : Value} {dd : Nat → Value} {w : World}
    (h : nxt Try.prog t28 false 0 (fun t29 w =>
    ext Try.prog t29 0 (fun t30 w =>
    cond t30
      (ent Try.prog t28 (fun t31 w =>
    ext Try.prog t31 0 (fun t32 w =>
    ext Try.prog t31 1 (fun t33 w =>
    alc Try.prog 72 (fun q9 w =>
    alc Try.prog 74 (fun t10 w =>
    sto Try.prog 72 q9 t32 (fun _t w =>
    sto Try.prog 74 t10 t33 (fun _t w =>
    hReg (fun S w =>
    hld S (fun k w => nilC a0 k w) (fun t35 =>
    hld S (fun k w => fldA Try.prog 65 t35 3 k w) (fun t36 =>
    hld S (fun k w => ld Try.prog 63 t36 k w) (fun t37 =>
    hld S (fun k w => ld Try.prog 72 q9 k w) (fun t38 =>
    hld S (fun k w => lkp Try.prog 63 t37 t38 false k w) (fun t39 =>
    hld S (fun k w => un Try.prog UnOp.not t39 k w) (fun t40 =>
    hG t40 true S (fun k w => k a0 w) (fun t42 =>
    hG t40 true S (fun k w => fldA Try.prog 74 t10 0 k w) (fun t43 =>
    hG t40 true S (fun k w => ld Try.prog 33 t43 k w) (fun t44 =>
    hG t40 true S (fun k w => k id1 w) (fun t45 =>
    xG t40 true (fun k w => call Try.prog 21 #[t42, t44, t45] k w) (fun t46 w =>
    hReg (fun S w =>
    hld S (fun k w => pick t40 t46 (Value.bool false) k w) (fun t47 =>
    cond t47
      (fldA Try.prog 74 t10 1 (fun t49 w =>
      ld Try.prog 2 t49 (fun t50 w =>
      bin Try.prog BinOp.add 2 false false used5' t50 (fun t51 w =>
      B1 (a0 :: id1 :: a2 :: id3 :: limit4 :: t51 :: e6 :: n7 :: is8 :: q9 :: t10 :: t11 :: t12 :: t13 :: t14 :: t15 :: t16 :: t17 :: t18 :: t19 :: t20 :: t21 :: t22 :: t23 :: t24 :: t25 :: t26 :: t27 :: t28 :: t29 :: t30 :: t31 :: t32 :: t33 :: a0 :: t35 :: t36 :: t37 :: t38 :: t39 :: t40 :: t40 :: t42 :: t43 :: t44 :: t45 :: t46 :: t47 :: used5' :: t49 :: t50 :: t51 :: t52 :: t53 :: t54 :: t55 :: t56 :: t57 :: t58 :: t59 :: t60 :: t61 :: []) w) w) w) w)
      (B1 (a0 :: id1 :: a2 :: id3 :: limit4 :: used5' :: e6 :: n7 :: is8 :: q9 :: t10 :: t11 :: t12 :: t13 :: t14 :: t15 :: t16 :: t17 :: t18 :: t19 :: t20 :: t21 :: t22 :: t23 :: t24 :: t25 :: t26 :: t27 :: t28 :: t29 :: t30 :: t31 :: t32 :: t33 :: a0 :: t35 :: t36 :: t37 :: t38 :: t39 :: t40 :: t40 :: t42 :: t43 :: t44 :: t45 :: t46 :: t47 :: (dd 48) :: (dd 49) :: (dd 50) :: (dd 51) :: t52 :: t53 :: t54 :: t55 :: t56 :: t57 :: t58 :: t59 :: t60 :: t61 :: []) w))) w) w))))))))))) w.drew) w) w) w) w) w) w) w)
      (qc0 (a0 :: id1 :: a2 :: id3 :: limit4 :: used5' :: e6 :: n7 :: is8 :: (dd 9) :: (dd 10) :: t11 :: t12 :: t13 :: t14 :: t15 :: t16 :: t17 :: t18 :: t19 :: t20 :: t21 :: t22 :: t23 :: t24 :: t25 :: t26 :: t27 :: t28 :: t29 :: t30 :: (dd 31) :: (dd 32) :: (dd 33) :: (dd 34) :: (dd 35) :: (dd 36) :: (dd 37) :: (dd 38) :: (dd 39) :: (dd 40) :: (dd 41) :: t42' :: t43' :: t44' :: t45' :: t46' :: (dd 47) :: (dd 48) :: (dd 49) :: (dd 50) :: (dd 51) :: t52 :: t53 :: t54 :: t55 :: t56 :: t57 :: t58 :: t59 :: t60 :: t61 :: []) w)) w) w) :
    cCode Try.prog (cd Try.f10 [1, 1, 1, 1, 0, 1, 0, 0]) B1 (fun i => @Bool.rec (fun _ => KE) ((fun _ _ _ => False) i) qc0 (Nat.beq i 0)) (retK Try.prog Try.f10.results.toList K) (a0 :: id1 :: a2 :: id3 :: limit4 :: used5' :: e6 :: n7 :: is8 :: (dd 9) :: (dd 10) :: t11 :: t12 :: t13 :: t14 :: t15 :: t16 :: t17 :: t18 :: t19 :: t20 :: t21 :: t22 :: t23 :: t24 :: t25 :: t26 :: t27 :: t28 :: (dd 29) :: (dd 30) :: (dd 31) :: (dd 32) :: (dd 33) :: (dd 34) :: (dd 35) :: (dd 36) :: (dd 37) :: (dd 38) :: (dd 39) :: (dd 40) :: (dd 41) :: t42' :: t43' :: t44' :: t45' :: t46' :: (dd 47) :: (dd 48) :: (dd 49) :: (dd 50) :: (dd 51) :: t52 :: t53 :: t54 :: t55 :: t56 :: t57 :: t58 :: t59 :: t60 :: t61 :: []) w := Eq.mp (by kernel_rfl) h

theorem audit_Audit_Sums_L1_r {K : KV} {a0 id1 a2 id3 limit4 used5 e6 n7 is8 q9 t10 t11 t12 t13 t14 t15 t16 t17 t18 t19 t20 t21 t22 t23 t24 t25 t26 t27 t28 t29 t30 t31 t32 t33 t34 t35 t36 t37 t38 t39 t40 t41 t42 t43 t44 t45 t46 t47 t48 t49 t50 t51 t52 t53 t54 t55 t56 t57 t58 t59 t60 t61 : Value} {w : World} (Inv : Value → Value → Value → Value → Value → Value → World → Prop) (μ : Value → Value → Value → Value → Value → Value → World → Nat) (h0 : Inv used5 t42 t43 t44 t45 t46 w)
    (hs : ∀ (used5' t42' t43' t44' t45' t46' : Value) (dd : Nat → Value) (w : World) (m : Nat), Inv used5' t42' t43' t44' t45' t46' w → m = μ used5' t42' t43' t44' t45' t46' w →
    nxt Try.prog t28 false 0 (fun t29 w =>
    ext Try.prog t29 0 (fun t30 w =>
    cond t30
      (ent Try.prog t28 (fun t31 w =>
    ext Try.prog t31 0 (fun t32 w =>
    ext Try.prog t31 1 (fun t33 w =>
    alc Try.prog 72 (fun q9 w =>
    alc Try.prog 74 (fun t10 w =>
    sto Try.prog 72 q9 t32 (fun _t w =>
    sto Try.prog 74 t10 t33 (fun _t w =>
    hReg (fun S w =>
    hld S (fun k w => nilC a0 k w) (fun t35 =>
    hld S (fun k w => fldA Try.prog 65 t35 3 k w) (fun t36 =>
    hld S (fun k w => ld Try.prog 63 t36 k w) (fun t37 =>
    hld S (fun k w => ld Try.prog 72 q9 k w) (fun t38 =>
    hld S (fun k w => lkp Try.prog 63 t37 t38 false k w) (fun t39 =>
    hld S (fun k w => un Try.prog UnOp.not t39 k w) (fun t40 =>
    hG t40 true S (fun k w => k a0 w) (fun t42 =>
    hG t40 true S (fun k w => fldA Try.prog 74 t10 0 k w) (fun t43 =>
    hG t40 true S (fun k w => ld Try.prog 33 t43 k w) (fun t44 =>
    hG t40 true S (fun k w => k id1 w) (fun t45 =>
    xG t40 true (fun k w => call Try.prog 21 #[t42, t44, t45] k w) (fun t46 w =>
    hReg (fun S w =>
    hld S (fun k w => pick t40 t46 (Value.bool false) k w) (fun t47 =>
    cond t47
      (fldA Try.prog 74 t10 1 (fun t49 w =>
      ld Try.prog 2 t49 (fun t50 w =>
      bin Try.prog BinOp.add 2 false false used5' t50 (fun t51 w =>
      (Inv t51 t42 t43 t44 t45 t46 w ∧ μ t51 t42 t43 t44 t45 t46 w < m)) w) w) w)
      ((Inv used5' t42 t43 t44 t45 t46 w ∧ μ used5' t42 t43 t44 t45 t46 w < m)))) w) w))))))))))) w.drew) w) w) w) w) w) w) w)
      ((audit_Audit_Sums_P1 K) (a0 :: id1 :: a2 :: id3 :: limit4 :: used5' :: e6 :: n7 :: is8 :: (dd 9) :: (dd 10) :: t11 :: t12 :: t13 :: t14 :: t15 :: t16 :: t17 :: t18 :: t19 :: t20 :: t21 :: t22 :: t23 :: t24 :: t25 :: t26 :: t27 :: t28 :: t29 :: t30 :: (dd 31) :: (dd 32) :: (dd 33) :: (dd 34) :: (dd 35) :: (dd 36) :: (dd 37) :: (dd 38) :: (dd 39) :: (dd 40) :: (dd 41) :: t42' :: t43' :: t44' :: t45' :: t46' :: (dd 47) :: (dd 48) :: (dd 49) :: (dd 50) :: (dd 51) :: t52 :: t53 :: t54 :: t55 :: t56 :: t57 :: t58 :: t59 :: t60 :: t61 :: []) w)) w) w) :
    audit_Audit_Sums_L1 K (a0 :: id1 :: a2 :: id3 :: limit4 :: used5 :: e6 :: n7 :: is8 :: q9 :: t10 :: t11 :: t12 :: t13 :: t14 :: t15 :: t16 :: t17 :: t18 :: t19 :: t20 :: t21 :: t22 :: t23 :: t24 :: t25 :: t26 :: t27 :: t28 :: t29 :: t30 :: t31 :: t32 :: t33 :: t34 :: t35 :: t36 :: t37 :: t38 :: t39 :: t40 :: t41 :: t42 :: t43 :: t44 :: t45 :: t46 :: t47 :: t48 :: t49 :: t50 :: t51 :: t52 :: t53 :: t54 :: t55 :: t56 :: t57 :: t58 :: t59 :: t60 :: t61 :: []) w := by
  refine loop_rule (cd Try.f10 [1, 1, 1, 1, 0, 1, 0, 0]) [5, 9, 10, 29, 30, 31, 32, 33, 34, 35, 36, 37, 38, 39, 40, 41, 42, 43, 44, 45, 46, 47, 48, 49, 50, 51] (by kernel_rfl) (fun e2 w2 => Inv (gd e2 5) (gd e2 42) (gd e2 43) (gd e2 44) (gd e2 45) (gd e2 46) w2) (fun e2 w2 => μ (gd e2 5) (gd e2 42) (gd e2 43) (gd e2 44) (gd e2 45) (gd e2 46) w2) h0 ?_
  intro e' w' hI
  have h := hs (gd e' 5) (gd e' 42) (gd e' 43) (gd e' 44) (gd e' 45) (gd e' 46) (fun i => gd e' i) w' _ hI rfl
  have h2 : cCode Try.prog (cd Try.f10 [1, 1, 1, 1, 0, 1, 0, 0]) (fun e2 w2 => Inv (gd e2 5) (gd e2 42) (gd e2 43) (gd e2 44) (gd e2 45) (gd e2 46) w2 ∧ μ (gd e2 5) (gd e2 42) (gd e2 43) (gd e2 44) (gd e2 45) (gd e2 46) w2 < μ (gd e' 5) (gd e' 42) (gd e' 43) (gd e' 44) (gd e' 45) (gd e' 46) w') (fun i => @Bool.rec (fun _ => KE) ((fun _ _ _ => False) i) (audit_Audit_Sums_P1 K) (Nat.beq i 0)) (retK Try.prog Try.f10.results.toList K) (a0 :: id1 :: a2 :: id3 :: limit4 :: (gd e' 5) :: e6 :: n7 :: is8 :: (gd e' 9) :: (gd e' 10) :: t11 :: t12 :: t13 :: t14 :: t15 :: t16 :: t17 :: t18 :: t19 :: t20 :: t21 :: t22 :: t23 :: t24 :: t25 :: t26 :: t27 :: t28 :: (gd e' 29) :: (gd e' 30) :: (gd e' 31) :: (gd e' 32) :: (gd e' 33) :: (gd e' 34) :: (gd e' 35) :: (gd e' 36) :: (gd e' 37) :: (gd e' 38) :: (gd e' 39) :: (gd e' 40) :: (gd e' 41) :: (gd e' 42) :: (gd e' 43) :: (gd e' 44) :: (gd e' 45) :: (gd e' 46) :: (gd e' 47) :: (gd e' 48) :: (gd e' 49) :: (gd e' 50) :: (gd e' 51) :: t52 :: t53 :: t54 :: t55 :: t56 :: t57 :: t58 :: t59 :: t60 :: t61 :: []) w' := audit_Audit_Sums_L1_k (fun e2 w2 => Inv (gd e2 5) (gd e2 42) (gd e2 43) (gd e2 44) (gd e2 45) (gd e2 46) w2 ∧ μ (gd e2 5) (gd e2 42) (gd e2 43) (gd e2 44) (gd e2 45) (gd e2 46) w2 < μ (gd e' 5) (gd e' 42) (gd e' 43) (gd e' 44) (gd e' 45) (gd e' 46) w') (audit_Audit_Sums_P1 K) (Eq.mp (by kernel_rfl) h)
  exact Eq.mp (by kernel_rfl) h2

theorem audit_Audit_Sums_P1_k {K : KV} {a0 id1 a2 id3 limit4 used5 e6 n7 is8 q9 t10 t11 t12 t13 t14 t15 t16 t17 t18 t19 t20 t21 t22 t23 t24 t25 t26 t27 t28 t29 t30 t31 t32 t33 t34 t35 t36 t37 t38 t39 t40 t41 t42 t43 t44 t45 t46 t47 t48 t49 t50 t51 t52 t53 t54 t55 t56 t57 t58 t59 t60 t61 : Value} {w : World}
    (h : (fun w =>
    sti (fun k w => fldA Try.prog 68 n7 1 k w) (fun t52 w =>
    sti (fun k w => ld Try.prog 2 t52 k w) (fun t53 w =>
    sti (fun k w => nilC a0 k w) (fun t55 w =>
    sti (fun k w => fldA Try.prog 65 t55 1 k w) (fun t56 w =>
    sti (fun k w => ld Try.prog 61 t56 k w) (fun t57 w =>
    sti (fun k w => lkp Try.prog 61 t57 id1 false k w) (fun t59 w =>
    sti (fun k w => bin Try.prog BinOp.add 2 false false t53 t59 k w) (fun t60 w =>
    K (Value.tuple #[t60, used5, (Value.int IntKind.i64 0)]) w) w) w) w) w) w) w) w) w.drew) :
    cCode Try.prog (cd Try.f10 [1, 1, 1, 1, 1]) (retK Try.prog Try.f10.results.toList K) (fun _ _ _ => False) (retK Try.prog Try.f10.results.toList K) (a0 :: id1 :: a2 :: id3 :: limit4 :: used5 :: e6 :: n7 :: is8 :: q9 :: t10 :: t11 :: t12 :: t13 :: t14 :: t15 :: t16 :: t17 :: t18 :: t19 :: t20 :: t21 :: t22 :: t23 :: t24 :: t25 :: t26 :: t27 :: t28 :: t29 :: t30 :: t31 :: t32 :: t33 :: t34 :: t35 :: t36 :: t37 :: t38 :: t39 :: t40 :: t41 :: t42 :: t43 :: t44 :: t45 :: t46 :: t47 :: t48 :: t49 :: t50 :: t51 :: t52 :: t53 :: t54 :: t55 :: t56 :: t57 :: t58 :: t59 :: t60 :: t61 :: []) w := Eq.mp (by kernel_rfl) h

theorem audit_Audit_Sums_P1_r {K : KV} {a0 id1 a2 id3 limit4 used5 e6 n7 is8 q9 t10 t11 t12 t13 t14 t15 t16 t17 t18 t19 t20 t21 t22 t23 t24 t25 t26 t27 t28 t29 t30 t31 t32 t33 t34 t35 t36 t37 t38 t39 t40 t41 t42 t43 t44 t45 t46 t47 t48 t49 t50 t51 t52 t53 t54 t55 t56 t57 t58 t59 t60 t61 : Value} {w : World}
    (h : (fun w =>
    sti (fun k w => fldA Try.prog 68 n7 1 k w) (fun t52 w =>
    sti (fun k w => ld Try.prog 2 t52 k w) (fun t53 w =>
    sti (fun k w => nilC a0 k w) (fun t55 w =>
    sti (fun k w => fldA Try.prog 65 t55 1 k w) (fun t56 w =>
    sti (fun k w => ld Try.prog 61 t56 k w) (fun t57 w =>
    sti (fun k w => lkp Try.prog 61 t57 id1 false k w) (fun t59 w =>
    sti (fun k w => bin Try.prog BinOp.add 2 false false t53 t59 k w) (fun t60 w =>
    K (Value.tuple #[t60, used5, (Value.int IntKind.i64 0)]) w) w) w) w) w) w) w) w) w.drew) :
    audit_Audit_Sums_P1 K (a0 :: id1 :: a2 :: id3 :: limit4 :: used5 :: e6 :: n7 :: is8 :: q9 :: t10 :: t11 :: t12 :: t13 :: t14 :: t15 :: t16 :: t17 :: t18 :: t19 :: t20 :: t21 :: t22 :: t23 :: t24 :: t25 :: t26 :: t27 :: t28 :: t29 :: t30 :: t31 :: t32 :: t33 :: t34 :: t35 :: t36 :: t37 :: t38 :: t39 :: t40 :: t41 :: t42 :: t43 :: t44 :: t45 :: t46 :: t47 :: t48 :: t49 :: t50 :: t51 :: t52 :: t53 :: t54 :: t55 :: t56 :: t57 :: t58 :: t59 :: t60 :: t61 :: []) w := by
  delta audit_Audit_Sums_P1
  exact Eq.mp (congrArg (fun c => cCode Try.prog c (retK Try.prog Try.f10.results.toList K) (fun _ _ _ => False) (retK Try.prog Try.f10.results.toList K) (a0 :: id1 :: a2 :: id3 :: limit4 :: used5 :: e6 :: n7 :: is8 :: q9 :: t10 :: t11 :: t12 :: t13 :: t14 :: t15 :: t16 :: t17 :: t18 :: t19 :: t20 :: t21 :: t22 :: t23 :: t24 :: t25 :: t26 :: t27 :: t28 :: t29 :: t30 :: t31 :: t32 :: t33 :: t34 :: t35 :: t36 :: t37 :: t38 :: t39 :: t40 :: t41 :: t42 :: t43 :: t44 :: t45 :: t46 :: t47 :: t48 :: t49 :: t50 :: t51 :: t52 :: t53 :: t54 :: t55 :: t56 :: t57 :: t58 :: t59 :: t60 :: t61 :: []) w) (by kernel_rfl : (cd Try.f10 [1, 1, 1, 1, 1]) = (cd Try.f10 [1, 1, 1, 1, 1]))) (audit_Audit_Sums_P1_k h)
attribute [irreducible] audit_Audit_Sums_P1 audit_Audit_Sums_L1

def audit_Audit_Nodes_P1 (K : KV) : KE := cCode Try.prog (cd Try.f15 [1, 1, 1]) (retK Try.prog Try.f15.results.toList K) (fun _ _ _ => False) (retK Try.prog Try.f15.results.toList K)
def audit_Audit_Nodes_L1 (K : KV) : KE := cCode Try.prog (cd Try.f15 [1, 1, 0, 1, 0]) (audit_Audit_Nodes_P1 K) (fun i => @Bool.rec (fun _ => KE) ((fun _ _ _ => False) i) (audit_Audit_Nodes_P1 K) (Nat.beq i 0)) (retK Try.prog Try.f15.results.toList K)
theorem audit_Audit_Nodes_k {K : KV} {a0 : Value} {w : World}
    (h : bin Try.prog BinOp.eql 24 false true a0 (Value.pointer none) (fun t5 w =>
    cond t5
      (K (Value.slice none 0 0) w)
      (nilC a0 (fun t7 w =>
    fldA Try.prog 65 t7 0 (fun t8 w =>
    ld Try.prog 60 t8 (fun t9 w =>
    rng Try.prog 60 t9 (fun t10 w =>
    (cCode Try.prog (cd Try.f15 [1, 1, 0, 1, 0]) (cCode Try.prog (cd Try.f15 [1, 1, 1]) (retK Try.prog Try.f15.results.toList K) (fun _ _ _ => False) (retK Try.prog Try.f15.results.toList K)) (fun i => @Bool.rec (fun _ => KE) ((fun _ _ _ => False) i) (cCode Try.prog (cd Try.f15 [1, 1, 1]) (retK Try.prog Try.f15.results.toList K) (fun _ _ _ => False) (retK Try.prog Try.f15.results.toList K)) (Nat.beq i 0)) (retK Try.prog Try.f15.results.toList K)) [a0, undef, (Value.slice none 0 0), undef, a0, t5, a0, t7, t8, t9, t10, undef, undef, undef, undef, undef, undef, undef, undef, undef, undef, undef] w) w) w) w) w)) w) :
    cCode Try.prog (cd Try.f15 []) (retK Try.prog Try.f15.results.toList K) (fun _ _ _ => False) (retK Try.prog Try.f15.results.toList K) [a0, undef, undef, undef, undef, undef, undef, undef, undef, undef, undef, undef, undef, undef, undef, undef, undef, undef, undef, undef, undef, undef] w := Eq.mp (by kernel_rfl) h

theorem audit_Audit_Nodes_in {K : KV} {a0 : Value} {w : World}
    (h : bin Try.prog BinOp.eql 24 false true a0 (Value.pointer none) (fun t5 w =>
    cond t5
      (K (Value.slice none 0 0) w)
      (nilC a0 (fun t7 w =>
    fldA Try.prog 65 t7 0 (fun t8 w =>
    ld Try.prog 60 t8 (fun t9 w =>
    rng Try.prog 60 t9 (fun t10 w =>
    (audit_Audit_Nodes_L1 K) [a0, undef, (Value.slice none 0 0), undef, a0, t5, a0, t7, t8, t9, t10, undef, undef, undef, undef, undef, undef, undef, undef, undef, undef, undef] w) w) w) w) w)) w) :
    Gives Try.prog 15 #[a0] w K := enter' Try.func15 (by kernel_rfl) (Eq.mp (congrArg (fun c => cCode Try.prog c (retK Try.prog Try.f15.results.toList K) (fun _ _ _ => False) (retK Try.prog Try.f15.results.toList K) [a0, undef, undef, undef, undef, undef, undef, undef, undef, undef, undef, undef, undef, undef, undef, undef, undef, undef, undef, undef, undef, undef] w) (by kernel_rfl : (cd Try.f15 []) = (cd Try.f15 []))) (audit_Audit_Nodes_k h))
theorem audit_Audit_Nodes_go : isGo Try.prog 15 := ⟨_, Try.func15, by kernel_rfl, by kernel_rfl⟩

theorem audit_Audit_Nodes_L1_k {K : KV} (B1 : KE) (qc0 : KE) {a0 a1 l2' t4 t5 t6 t7 t8 t9 t10 t19 t20 t21 : Value} {dd : Nat → Value} {w : World}
    (h : nxt Try.prog t10 false 0 (fun t11 w =>
    ext Try.prog t11 0 (fun t12 w =>
    cond t12
      (ent Try.prog t10 (fun t13 w =>
    ext Try.prog t13 0 (fun t14 w =>
    bldS Try.prog 47 1 #[(0, t14)] (fun t17 w =>
    blt Try.prog Builtin.append #[47, 47] 47 #[false, false] #[l2', t17] (fun t18 w =>
    B1 [a0, a1, t18, t14, t4, t5, t6, t7, t8, t9, t10, t11, t12, t13, t14, l2', t14, t17, t18, t19, t20, t21] w) w) w) w) w)
      (qc0 [a0, a1, l2', (dd 3), t4, t5, t6, t7, t8, t9, t10, t11, t12, (dd 13), (dd 14), (dd 15), (dd 16), (dd 17), (dd 18), t19, t20, t21] w)) w) w) :
    cCode Try.prog (cd Try.f15 [1, 1, 0, 1, 0, 0]) B1 (fun i => @Bool.rec (fun _ => KE) ((fun _ _ _ => False) i) qc0 (Nat.beq i 0)) (retK Try.prog Try.f15.results.toList K) [a0, a1, l2', (dd 3), t4, t5, t6, t7, t8, t9, t10, (dd 11), (dd 12), (dd 13), (dd 14), (dd 15), (dd 16), (dd 17), (dd 18), t19, t20, t21] w := Eq.mp (by kernel_rfl) h

theorem audit_Audit_Nodes_L1_r {K : KV} {a0 a1 l2 id3 t4 t5 t6 t7 t8 t9 t10 t11 t12 t13 t14 t15 t16 t17 t18 t19 t20 t21 : Value} {w : World} (Inv : Value → World → Prop) (μ : Value → World → Nat) (h0 : Inv l2 w)
    (hs : ∀ (l2' : Value) (dd : Nat → Value) (w : World) (m : Nat), Inv l2' w → m = μ l2' w →
    nxt Try.prog t10 false 0 (fun t11 w =>
    ext Try.prog t11 0 (fun t12 w =>
    cond t12
      (ent Try.prog t10 (fun t13 w =>
    ext Try.prog t13 0 (fun t14 w =>
    bldS Try.prog 47 1 #[(0, t14)] (fun t17 w =>
    blt Try.prog Builtin.append #[47, 47] 47 #[false, false] #[l2', t17] (fun t18 w =>
    (Inv t18 w ∧ μ t18 w < m)) w) w) w) w)
      ((audit_Audit_Nodes_P1 K) [a0, a1, l2', (dd 3), t4, t5, t6, t7, t8, t9, t10, t11, t12, (dd 13), (dd 14), (dd 15), (dd 16), (dd 17), (dd 18), t19, t20, t21] w)) w) w) :
    audit_Audit_Nodes_L1 K [a0, a1, l2, id3, t4, t5, t6, t7, t8, t9, t10, t11, t12, t13, t14, t15, t16, t17, t18, t19, t20, t21] w := by
  refine loop_rule (cd Try.f15 [1, 1, 0, 1, 0, 0]) [2, 3, 11, 12, 13, 14, 15, 16, 17, 18] (by kernel_rfl) (fun e2 w2 => Inv (gd e2 2) w2) (fun e2 w2 => μ (gd e2 2) w2) h0 ?_
  intro e' w' hI
  have h := hs (gd e' 2) (fun i => gd e' i) w' _ hI rfl
  have h2 : cCode Try.prog (cd Try.f15 [1, 1, 0, 1, 0, 0]) (fun e2 w2 => Inv (gd e2 2) w2 ∧ μ (gd e2 2) w2 < μ (gd e' 2) w') (fun i => @Bool.rec (fun _ => KE) ((fun _ _ _ => False) i) (audit_Audit_Nodes_P1 K) (Nat.beq i 0)) (retK Try.prog Try.f15.results.toList K) [a0, a1, (gd e' 2), (gd e' 3), t4, t5, t6, t7, t8, t9, t10, (gd e' 11), (gd e' 12), (gd e' 13), (gd e' 14), (gd e' 15), (gd e' 16), (gd e' 17), (gd e' 18), t19, t20, t21] w' := audit_Audit_Nodes_L1_k (fun e2 w2 => Inv (gd e2 2) w2 ∧ μ (gd e2 2) w2 < μ (gd e' 2) w') (audit_Audit_Nodes_P1 K) (Eq.mp (by kernel_rfl) h)
  exact Eq.mp (by kernel_rfl) h2

theorem audit_Audit_Nodes_P1_k {K : KV} {a0 a1 l2 id3 t4 t5 t6 t7 t8 t9 t10 t11 t12 t13 t14 t15 t16 t17 t18 t19 t20 t21 : Value} {w : World}
    (h : call Try.prog 23 #[l2] (fun t20 w =>
    K l2 w) w) :
    cCode Try.prog (cd Try.f15 [1, 1, 1]) (retK Try.prog Try.f15.results.toList K) (fun _ _ _ => False) (retK Try.prog Try.f15.results.toList K) [a0, a1, l2, id3, t4, t5, t6, t7, t8, t9, t10, t11, t12, t13, t14, t15, t16, t17, t18, t19, t20, t21] w := Eq.mp (by kernel_rfl) h

theorem audit_Audit_Nodes_P1_r {K : KV} {a0 a1 l2 id3 t4 t5 t6 t7 t8 t9 t10 t11 t12 t13 t14 t15 t16 t17 t18 t19 t20 t21 : Value} {w : World}
    (h : call Try.prog 23 #[l2] (fun t20 w =>
    K l2 w) w) :
    audit_Audit_Nodes_P1 K [a0, a1, l2, id3, t4, t5, t6, t7, t8, t9, t10, t11, t12, t13, t14, t15, t16, t17, t18, t19, t20, t21] w := by
  delta audit_Audit_Nodes_P1
  exact Eq.mp (congrArg (fun c => cCode Try.prog c (retK Try.prog Try.f15.results.toList K) (fun _ _ _ => False) (retK Try.prog Try.f15.results.toList K) [a0, a1, l2, id3, t4, t5, t6, t7, t8, t9, t10, t11, t12, t13, t14, t15, t16, t17, t18, t19, t20, t21] w) (by kernel_rfl : (cd Try.f15 [1, 1, 1]) = (cd Try.f15 [1, 1, 1]))) (audit_Audit_Nodes_P1_k h)
attribute [irreducible] audit_Audit_Nodes_P1 audit_Audit_Nodes_L1

def audit_Audit_Bound_P1 (K : KV) : KE := cCode Try.prog (cd Try.f12 [1, 1]) (retK Try.prog Try.f12.results.toList K) (fun _ _ _ => False) (retK Try.prog Try.f12.results.toList K)
def audit_Audit_Bound_L1 (K : KV) : KE := cCode Try.prog (cd Try.f12 [1, 0, 1, 0]) (audit_Audit_Bound_P1 K) (fun i => @Bool.rec (fun _ => KE) ((fun _ _ _ => False) i) (audit_Audit_Bound_P1 K) (Nat.beq i 0)) (retK Try.prog Try.f12.results.toList K)
theorem audit_Audit_Bound_k {K : KV} {a0 : Value} {w : World}
    (h : call Try.prog 15 #[a0] (fun t9 w =>
    blt Try.prog Builtin.len #[47] 3 #[false] #[t9] (fun t10 w =>
    (cCode Try.prog (cd Try.f12 [1, 0, 1, 0]) (cCode Try.prog (cd Try.f12 [1, 1]) (retK Try.prog Try.f12.results.toList K) (fun _ _ _ => False) (retK Try.prog Try.f12.results.toList K)) (fun i => @Bool.rec (fun _ => KE) ((fun _ _ _ => False) i) (cCode Try.prog (cd Try.f12 [1, 1]) (retK Try.prog Try.f12.results.toList K) (fun _ _ _ => False) (retK Try.prog Try.f12.results.toList K)) (Nat.beq i 0)) (retK Try.prog Try.f12.results.toList K)) [a0, undef, (Value.bool false), undef, undef, undef, undef, undef, a0, t9, t10, (Value.int IntKind.i64 0), undef, undef, undef, undef, undef, undef, undef, undef, undef, undef, undef, undef, undef, undef] w) w) w) :
    cCode Try.prog (cd Try.f12 []) (retK Try.prog Try.f12.results.toList K) (fun _ _ _ => False) (retK Try.prog Try.f12.results.toList K) [a0, undef, undef, undef, undef, undef, undef, undef, undef, undef, undef, undef, undef, undef, undef, undef, undef, undef, undef, undef, undef, undef, undef, undef, undef, undef] w := Eq.mp (by kernel_rfl) h

theorem audit_Audit_Bound_in {K : KV} {a0 : Value} {w : World}
    (h : call Try.prog 15 #[a0] (fun t9 w =>
    blt Try.prog Builtin.len #[47] 3 #[false] #[t9] (fun t10 w =>
    (audit_Audit_Bound_L1 K) [a0, undef, (Value.bool false), undef, undef, undef, undef, undef, a0, t9, t10, (Value.int IntKind.i64 0), undef, undef, undef, undef, undef, undef, undef, undef, undef, undef, undef, undef, undef, undef] w) w) w) :
    Gives Try.prog 12 #[a0] w K := enter' Try.func12 (by kernel_rfl) (Eq.mp (congrArg (fun c => cCode Try.prog c (retK Try.prog Try.f12.results.toList K) (fun _ _ _ => False) (retK Try.prog Try.f12.results.toList K) [a0, undef, undef, undef, undef, undef, undef, undef, undef, undef, undef, undef, undef, undef, undef, undef, undef, undef, undef, undef, undef, undef, undef, undef, undef, undef] w) (by kernel_rfl : (cd Try.f12 []) = (cd Try.f12 []))) (audit_Audit_Bound_k h))
theorem audit_Audit_Bound_go : isGo Try.prog 12 := ⟨_, Try.func12, by kernel_rfl, by kernel_rfl⟩

theorem audit_Audit_Bound_L1_k {K : KV} (B1 : KE) (qc0 : KE) {a0 a1 t3 t8 t9 t10 t11' : Value} {dd : Nat → Value} {w : World}
    (h : bin Try.prog BinOp.lss 3 false false t11' t10 (fun t12 w =>
    cond t12
      (idxA Try.prog 47 t9 t11' (fun t13 w =>
    ld Try.prog 33 t13 (fun t14 w =>
    call Try.prog 10 #[a0, t14] (fun t18 w =>
    ext Try.prog t18 0 (fun t19 w =>
    ext Try.prog t18 1 (fun t20 w =>
    ext Try.prog t18 2 (fun t21 w =>
    bin Try.prog BinOp.gtr 2 false false t20 t19 (fun t24 w =>
    cond t24
      (K (Value.bool false) w)
      (bin Try.prog BinOp.add 3 false true t11' (Value.int IntKind.i64 1) (fun t25 w =>
    B1 [a0, a1, (dd 2), t3, t14, t19, t20, t21, t8, t9, t10, t25, t12, t13, t14, t18, a0, t14, t18, t19, t20, t21, t20, t19, t24, t25] w) w)) w) w) w) w) w) w) w)
      (qc0 [a0, a1, (dd 2), t3, (dd 4), (dd 5), (dd 6), (dd 7), t8, t9, t10, t11', t12, (dd 13), (dd 14), (dd 15), (dd 16), (dd 17), (dd 18), (dd 19), (dd 20), (dd 21), (dd 22), (dd 23), (dd 24), (dd 25)] w)) w) :
    cCode Try.prog (cd Try.f12 [1, 0, 1, 0, 0]) B1 (fun i => @Bool.rec (fun _ => KE) ((fun _ _ _ => False) i) qc0 (Nat.beq i 0)) (retK Try.prog Try.f12.results.toList K) [a0, a1, (dd 2), t3, (dd 4), (dd 5), (dd 6), (dd 7), t8, t9, t10, t11', (dd 12), (dd 13), (dd 14), (dd 15), (dd 16), (dd 17), (dd 18), (dd 19), (dd 20), (dd 21), (dd 22), (dd 23), (dd 24), (dd 25)] w := Eq.mp (by kernel_rfl) h

theorem audit_Audit_Bound_L1_r {K : KV} {a0 a1 t2 t3 id4 limit5 used6 t7 t8 t9 t10 t11 t12 t13 t14 t15 t16 t17 t18 t19 t20 t21 t22 t23 t24 t25 : Value} {w : World} (Inv : Value → World → Prop) (μ : Value → World → Nat) (h0 : Inv t11 w)
    (hs : ∀ (t11' : Value) (dd : Nat → Value) (w : World) (m : Nat), Inv t11' w → m = μ t11' w →
    bin Try.prog BinOp.lss 3 false false t11' t10 (fun t12 w =>
    cond t12
      (idxA Try.prog 47 t9 t11' (fun t13 w =>
    ld Try.prog 33 t13 (fun t14 w =>
    call Try.prog 10 #[a0, t14] (fun t18 w =>
    ext Try.prog t18 0 (fun t19 w =>
    ext Try.prog t18 1 (fun t20 w =>
    ext Try.prog t18 2 (fun t21 w =>
    bin Try.prog BinOp.gtr 2 false false t20 t19 (fun t24 w =>
    cond t24
      (K (Value.bool false) w)
      (bin Try.prog BinOp.add 3 false true t11' (Value.int IntKind.i64 1) (fun t25 w =>
    (Inv t25 w ∧ μ t25 w < m)) w)) w) w) w) w) w) w) w)
      ((audit_Audit_Bound_P1 K) [a0, a1, (dd 2), t3, (dd 4), (dd 5), (dd 6), (dd 7), t8, t9, t10, t11', t12, (dd 13), (dd 14), (dd 15), (dd 16), (dd 17), (dd 18), (dd 19), (dd 20), (dd 21), (dd 22), (dd 23), (dd 24), (dd 25)] w)) w) :
    audit_Audit_Bound_L1 K [a0, a1, t2, t3, id4, limit5, used6, t7, t8, t9, t10, t11, t12, t13, t14, t15, t16, t17, t18, t19, t20, t21, t22, t23, t24, t25] w := by
  refine loop_rule (cd Try.f12 [1, 0, 1, 0, 0]) [2, 4, 5, 6, 7, 11, 12, 13, 14, 15, 16, 17, 18, 19, 20, 21, 22, 23, 24, 25] (by kernel_rfl) (fun e2 w2 => Inv (gd e2 11) w2) (fun e2 w2 => μ (gd e2 11) w2) h0 ?_
  intro e' w' hI
  have h := hs (gd e' 11) (fun i => gd e' i) w' _ hI rfl
  have h2 : cCode Try.prog (cd Try.f12 [1, 0, 1, 0, 0]) (fun e2 w2 => Inv (gd e2 11) w2 ∧ μ (gd e2 11) w2 < μ (gd e' 11) w') (fun i => @Bool.rec (fun _ => KE) ((fun _ _ _ => False) i) (audit_Audit_Bound_P1 K) (Nat.beq i 0)) (retK Try.prog Try.f12.results.toList K) [a0, a1, (gd e' 2), t3, (gd e' 4), (gd e' 5), (gd e' 6), (gd e' 7), t8, t9, t10, (gd e' 11), (gd e' 12), (gd e' 13), (gd e' 14), (gd e' 15), (gd e' 16), (gd e' 17), (gd e' 18), (gd e' 19), (gd e' 20), (gd e' 21), (gd e' 22), (gd e' 23), (gd e' 24), (gd e' 25)] w' := audit_Audit_Bound_L1_k (fun e2 w2 => Inv (gd e2 11) w2 ∧ μ (gd e2 11) w2 < μ (gd e' 11) w') (audit_Audit_Bound_P1 K) (Eq.mp (by kernel_rfl) h)
  exact Eq.mp (by kernel_rfl) h2

theorem audit_Audit_Bound_P1_k {K : KV} {a0 a1 t2 t3 id4 limit5 used6 t7 t8 t9 t10 t11 t12 t13 t14 t15 t16 t17 t18 t19 t20 t21 t22 t23 t24 t25 : Value} {w : World}
    (h : K (Value.bool true) w) :
    cCode Try.prog (cd Try.f12 [1, 1]) (retK Try.prog Try.f12.results.toList K) (fun _ _ _ => False) (retK Try.prog Try.f12.results.toList K) [a0, a1, t2, t3, id4, limit5, used6, t7, t8, t9, t10, t11, t12, t13, t14, t15, t16, t17, t18, t19, t20, t21, t22, t23, t24, t25] w := Eq.mp (by kernel_rfl) h

theorem audit_Audit_Bound_P1_r {K : KV} {a0 a1 t2 t3 id4 limit5 used6 t7 t8 t9 t10 t11 t12 t13 t14 t15 t16 t17 t18 t19 t20 t21 t22 t23 t24 t25 : Value} {w : World}
    (h : K (Value.bool true) w) :
    audit_Audit_Bound_P1 K [a0, a1, t2, t3, id4, limit5, used6, t7, t8, t9, t10, t11, t12, t13, t14, t15, t16, t17, t18, t19, t20, t21, t22, t23, t24, t25] w := by
  delta audit_Audit_Bound_P1
  exact Eq.mp (congrArg (fun c => cCode Try.prog c (retK Try.prog Try.f12.results.toList K) (fun _ _ _ => False) (retK Try.prog Try.f12.results.toList K) [a0, a1, t2, t3, id4, limit5, used6, t7, t8, t9, t10, t11, t12, t13, t14, t15, t16, t17, t18, t19, t20, t21, t22, t23, t24, t25] w) (by kernel_rfl : (cd Try.f12 [1, 1]) = (cd Try.f12 [1, 1]))) (audit_Audit_Bound_P1_k h)
attribute [irreducible] audit_Audit_Bound_P1 audit_Audit_Bound_L1

end Go.Proofs.Ytcieejlkdfdpiaa
