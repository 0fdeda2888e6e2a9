/- Written by program (gen.py): what the code of some functions asks, part by part; each text is checked by the kernel against the translation. -/
import Derived.Test.YtjkmblbonambjaaSh
import Derived.Test.YtjkmblbonambjaaChecked
namespace Go.Proofs.Ytjkmblbonambjaa
open Go.RowKit
set_option maxRecDepth 100000

def journal_each_P1 (K : KV) : KE := cCode Try.prog (cd Try.f45 [1, 1]) (retK Try.prog Try.f45.results.toList K) (fun _ _ _ => False) (retK Try.prog Try.f45.results.toList K)
def journal_each_L1 (K : KV) : KE := cCode Try.prog (cd Try.f45 [1, 0, 1, 0]) (journal_each_P1 K) (fun i => @Bool.rec (fun _ => KE) ((fun _ _ _ => False) i) (journal_each_P1 K) (Nat.beq i 0)) (retK Try.prog Try.f45.results.toList K)
theorem journal_each_k {K : KV} {l0 : Value} {w : World}
    (h : blt Try.prog Builtin.len #[99] 3 #[false] #[l0] (fun t7 w =>
    (cCode Try.prog (cd Try.f45 [1, 0, 1, 0]) (cCode Try.prog (cd Try.f45 [1, 1]) (retK Try.prog Try.f45.results.toList K) (fun _ _ _ => False) (retK Try.prog Try.f45.results.toList K)) (fun i => @Bool.rec (fun _ => KE) ((fun _ _ _ => False) i) (cCode Try.prog (cd Try.f45 [1, 1]) (retK Try.prog Try.f45.results.toList K) (fun _ _ _ => False) (retK Try.prog Try.f45.results.toList K)) (Nat.beq i 0)) (retK Try.prog Try.f45.results.toList K)) [l0, undef, (Value.int IntKind.i64 0), undef, undef, undef, l0, t7, (Value.int IntKind.i64 0), undef, undef, undef, undef, undef, undef, undef, undef, undef] w) w) :
    cCode Try.prog (cd Try.f45 []) (retK Try.prog Try.f45.results.toList K) (fun _ _ _ => False) (retK Try.prog Try.f45.results.toList K) [l0, undef, undef, undef, undef, undef, undef, undef, undef, undef, undef, undef, undef, undef, undef, undef, undef, undef] w := Eq.mp (by kernel_rfl) h

theorem journal_each_in {K : KV} {l0 : Value} {w : World}
    (h : blt Try.prog Builtin.len #[99] 3 #[false] #[l0] (fun t7 w =>
    (journal_each_L1 K) [l0, undef, (Value.int IntKind.i64 0), undef, undef, undef, l0, t7, (Value.int IntKind.i64 0), undef, undef, undef, undef, undef, undef, undef, undef, undef] w) w) :
    Gives Try.prog 45 #[l0] w K := enter' Try.func45 (by kernel_rfl) (Eq.mp (congrArg (fun c => cCode Try.prog c (retK Try.prog Try.f45.results.toList K) (fun _ _ _ => False) (retK Try.prog Try.f45.results.toList K) [l0, undef, undef, undef, undef, undef, undef, undef, undef, undef, undef, undef, undef, undef, undef, undef, undef, undef] w) (by kernel_rfl : (cd Try.f45 []) = (cd Try.f45 []))) (journal_each_k h))
theorem journal_each_go : isGo Try.prog 45 := ⟨_, Try.func45, by kernel_rfl, by kernel_rfl⟩

theorem journal_each_L1_k {K : KV} (B1 : KE) (q0 : KE) {l0 l1 t3 t6 t7 t8' : Value} {dd : Nat → Value} {w : World}
    (h : bin Try.prog BinOp.lss 3 false false t8' t7 (fun t9 w =>
    cond t9
      (idxA Try.prog 99 t6 t8' (fun t10 w =>
    ld Try.prog 65 t10 (fun t11 w =>
    callV Try.prog t11 #[] (fun t13 w =>
    bin Try.prog BinOp.neq 33 false true t13 (Value.int IntKind.i64 0) (fun t15 w =>
    cond t15
      (K t13 w)
      (bin Try.prog BinOp.add 3 false true t8' (Value.int IntKind.i64 1) (fun t17 w =>
    B1 [l0, l1, (dd 2), t3, t11, t13, t6, t7, t17, t9, t10, t11, t11, t13, t13, t15, (dd 16), t17] w) w)) w) w) w) w)
      (q0 [l0, l1, (dd 2), t3, (dd 4), (dd 5), t6, t7, t8', t9, (dd 10), (dd 11), (dd 12), (dd 13), (dd 14), (dd 15), (dd 16), (dd 17)] w)) w) :
    cCode Try.prog (cd Try.f45 [1, 0, 1, 0, 0]) B1 (fun i => @Bool.rec (fun _ => KE) ((fun _ _ _ => False) i) q0 (Nat.beq i 0)) (retK Try.prog Try.f45.results.toList K) [l0, l1, (dd 2), t3, (dd 4), (dd 5), t6, t7, t8', (dd 9), (dd 10), (dd 11), (dd 12), (dd 13), (dd 14), (dd 15), (dd 16), (dd 17)] w := Eq.mp (by kernel_rfl) h

theorem journal_each_L1_r {K : KV} {l0 l1 t2 t3 do4 e5 t6 t7 t8 t9 t10 t11 t12 t13 t14 t15 t16 t17 : Value} {w : World} (Inv : Value → World → Prop) (μ : Value → World → Nat) (h0 : Inv t8 w)
    (hs : ∀ (t8' : Value) (dd : Nat → Value) (w : World) (m : Nat), Inv t8' w → m = μ t8' w →
    bin Try.prog BinOp.lss 3 false false t8' t7 (fun t9 w =>
    cond t9
      (idxA Try.prog 99 t6 t8' (fun t10 w =>
    ld Try.prog 65 t10 (fun t11 w =>
    callV Try.prog t11 #[] (fun t13 w =>
    bin Try.prog BinOp.neq 33 false true t13 (Value.int IntKind.i64 0) (fun t15 w =>
    cond t15
      (K t13 w)
      (bin Try.prog BinOp.add 3 false true t8' (Value.int IntKind.i64 1) (fun t17 w =>
    (Inv t17 w ∧ μ t17 w < m)) w)) w) w) w) w)
      ((journal_each_P1 K) [l0, l1, (dd 2), t3, (dd 4), (dd 5), t6, t7, t8', t9, (dd 10), (dd 11), (dd 12), (dd 13), (dd 14), (dd 15), (dd 16), (dd 17)] w)) w) :
    journal_each_L1 K [l0, l1, t2, t3, do4, e5, t6, t7, t8, t9, t10, t11, t12, t13, t14, t15, t16, t17] w := by
  refine loop_rule (cd Try.f45 [1, 0, 1, 0, 0]) [2, 4, 5, 8, 9, 10, 11, 12, 13, 14, 15, 16, 17] (by kernel_rfl) (fun e2 w2 => Inv (gd e2 8) w2) (fun e2 w2 => μ (gd e2 8) w2) h0 ?_
  intro e' w' hI
  have h := hs (gd e' 8) (fun i => gd e' i) w' _ hI rfl
  have h2 : cCode Try.prog (cd Try.f45 [1, 0, 1, 0, 0]) (fun e2 w2 => Inv (gd e2 8) w2 ∧ μ (gd e2 8) w2 < μ (gd e' 8) w') (fun i => @Bool.rec (fun _ => KE) ((fun _ _ _ => False) i) (journal_each_P1 K) (Nat.beq i 0)) (retK Try.prog Try.f45.results.toList K) [l0, l1, (gd e' 2), t3, (gd e' 4), (gd e' 5), t6, t7, (gd e' 8), (gd e' 9), (gd e' 10), (gd e' 11), (gd e' 12), (gd e' 13), (gd e' 14), (gd e' 15), (gd e' 16), (gd e' 17)] w' := journal_each_L1_k (fun e2 w2 => Inv (gd e2 8) w2 ∧ μ (gd e2 8) w2 < μ (gd e' 8) w') (journal_each_P1 K) (Eq.mp (by kernel_rfl) h)
  exact Eq.mp (by kernel_rfl) h2

theorem journal_each_P1_k {K : KV} {l0 l1 t2 t3 do4 e5 t6 t7 t8 t9 t10 t11 t12 t13 t14 t15 t16 t17 : Value} {w : World}
    (h : K (Value.int IntKind.i64 0) w) :
    cCode Try.prog (cd Try.f45 [1, 1]) (retK Try.prog Try.f45.results.toList K) (fun _ _ _ => False) (retK Try.prog Try.f45.results.toList K) [l0, l1, t2, t3, do4, e5, t6, t7, t8, t9, t10, t11, t12, t13, t14, t15, t16, t17] w := Eq.mp (by kernel_rfl) h

theorem journal_each_P1_r {K : KV} {l0 l1 t2 t3 do4 e5 t6 t7 t8 t9 t10 t11 t12 t13 t14 t15 t16 t17 : Value} {w : World}
    (h : K (Value.int IntKind.i64 0) w) :
    journal_each_P1 K [l0, l1, t2, t3, do4, e5, t6, t7, t8, t9, t10, t11, t12, t13, t14, t15, t16, t17] w := by
  delta journal_each_P1
  exact Eq.mp (congrArg (fun c => cCode Try.prog c (retK Try.prog Try.f45.results.toList K) (fun _ _ _ => False) (retK Try.prog Try.f45.results.toList K) [l0, l1, t2, t3, do4, e5, t6, t7, t8, t9, t10, t11, t12, t13, t14, t15, t16, t17] w) (by kernel_rfl : (cd Try.f45 [1, 1]) = (cd Try.f45 [1, 1]))) (journal_each_P1_k h)
attribute [irreducible] journal_each_P1 journal_each_L1


theorem journal_empty_k {K : KV} {d0 : Value} {w : World}
    (h : call Try.prog 17 #[d0, (Value.int IntKind.i64 1)] (fun t7 w =>
    ext Try.prog t7 0 (fun t8 w =>
    ext Try.prog t7 1 (fun t9 w =>
    bin Try.prog BinOp.neq 33 false true t9 (Value.int IntKind.i64 0) (fun t11 w =>
    gsel t11 false (fun k13 =>
    blt Try.prog Builtin.len #[29] 3 #[false] #[t8] (fun t14 w =>
    bin Try.prog BinOp.eql 3 false true t14 (Value.int IntKind.i64 0) (fun t15 w =>
    k13 [t8, t14, t15] w) w) w)
    (fun k => k [undef, undef, undef] w) (fun us13 w =>
    pick t11 (Value.bool true) (gd us13 2) (fun t16 w =>
    cond t16
      (K t9 w)
      (call Try.prog 35 #[d0, (Value.int IntKind.i64 1), (Value.int IntKind.i64 0)] (fun t19 w =>
    K t19 w) w)) w)) w) w) w) w) :
    cCode Try.prog (cd Try.f48 []) (retK Try.prog Try.f48.results.toList K) (fun _ _ _ => False) (retK Try.prog Try.f48.results.toList K) [d0, undef, undef, undef, undef, undef, undef, undef, undef, undef, undef, undef, undef, undef, undef, undef, undef, undef, undef, undef] w := Eq.mp (by kernel_rfl) h

theorem journal_empty_in {K : KV} {d0 : Value} {w : World}
    (h : call Try.prog 17 #[d0, (Value.int IntKind.i64 1)] (fun t7 w =>
    ext Try.prog t7 0 (fun t8 w =>
    ext Try.prog t7 1 (fun t9 w =>
    bin Try.prog BinOp.neq 33 false true t9 (Value.int IntKind.i64 0) (fun t11 w =>
    gsel t11 false (fun k13 =>
    blt Try.prog Builtin.len #[29] 3 #[false] #[t8] (fun t14 w =>
    bin Try.prog BinOp.eql 3 false true t14 (Value.int IntKind.i64 0) (fun t15 w =>
    k13 [t8, t14, t15] w) w) w)
    (fun k => k [undef, undef, undef] w) (fun us13 w =>
    pick t11 (Value.bool true) (gd us13 2) (fun t16 w =>
    cond t16
      (K t9 w)
      (call Try.prog 35 #[d0, (Value.int IntKind.i64 1), (Value.int IntKind.i64 0)] (fun t19 w =>
    K t19 w) w)) w)) w) w) w) w) :
    Gives Try.prog 48 #[d0] w K := enter' Try.func48 (by kernel_rfl) (Eq.mp (congrArg (fun c => cCode Try.prog c (retK Try.prog Try.f48.results.toList K) (fun _ _ _ => False) (retK Try.prog Try.f48.results.toList K) [d0, undef, undef, undef, undef, undef, undef, undef, undef, undef, undef, undef, undef, undef, undef, undef, undef, undef, undef, undef] w) (by kernel_rfl : (cd Try.f48 []) = (cd Try.f48 []))) (journal_empty_k h))
theorem journal_empty_go : isGo Try.prog 48 := ⟨_, Try.func48, by kernel_rfl, by kernel_rfl⟩

def journal_Open_A1 (K : KV) : KE := cCode Try.prog (cd Try.f21 [1, 1, 1, 1]) (retK Try.prog Try.f21.results.toList K) (fun _ _ _ => False) (retK Try.prog Try.f21.results.toList K)
theorem journal_Open_k {K : KV} (x0 : Code) {d0 : Value} {w : World}
    (h : box Try.prog 25 d0 (fun d1 w =>
    ld Try.prog 25 d1 (fun t9 w =>
    call Try.prog 17 #[t9, (Value.int IntKind.i64 0)] (fun t10 w =>
    ext Try.prog t10 0 (fun t11 w =>
    ext Try.prog t10 1 (fun t12 w =>
    alc Try.prog 29 (fun b5 w =>
    sto Try.prog 29 b5 t11 (fun _t w =>
    bin Try.prog BinOp.neq 33 false true t12 (Value.int IntKind.i64 0) (fun t14 w =>
    cond t14
      (K (Value.tuple #[(Value.pointer none), (Value.slice none 0 0), t12]) w)
      (ld Try.prog 29 b5 (fun t17 w =>
    call Try.prog 44 #[t17] (fun t18 w =>
    ext Try.prog t18 0 (fun t19 w =>
    ext Try.prog t18 1 (fun t20 w =>
    alc Try.prog 3 (fun at7 w =>
    sto Try.prog 3 at7 t20 (fun _t w =>
    (cCode Try.prog x0 (retK Try.prog Try.f21.results.toList K) (fun _ _ _ => False) (retK Try.prog Try.f21.results.toList K)) [d0, d1, (Value.pointer none), (Value.slice none 0 0), t12, b5, t19, at7, t10, t9, t10, t11, t12, t12, t14, undef, t18, t17, t18, t19, t20, undef, undef, undef, undef, undef, undef, undef, undef, undef, undef, undef, undef, undef] w) w) w) w) w) w) w)) w) w) w) w) w) w) w) w) :
    cCode Try.prog (rep [1, 1, 1, 1] x0 (cd Try.f21 [])) (retK Try.prog Try.f21.results.toList K) (fun _ _ _ => False) (retK Try.prog Try.f21.results.toList K) [d0, undef, undef, undef, undef, undef, undef, undef, undef, undef, undef, undef, undef, undef, undef, undef, undef, undef, undef, undef, undef, undef, undef, undef, undef, undef, undef, undef, undef, undef, undef, undef, undef, undef] w := Eq.mp (by kernel_rfl) h

theorem journal_Open_in {K : KV} {d0 : Value} {w : World}
    (h : box Try.prog 25 d0 (fun d1 w =>
    ld Try.prog 25 d1 (fun t9 w =>
    call Try.prog 17 #[t9, (Value.int IntKind.i64 0)] (fun t10 w =>
    ext Try.prog t10 0 (fun t11 w =>
    ext Try.prog t10 1 (fun t12 w =>
    alc Try.prog 29 (fun b5 w =>
    sto Try.prog 29 b5 t11 (fun _t w =>
    bin Try.prog BinOp.neq 33 false true t12 (Value.int IntKind.i64 0) (fun t14 w =>
    cond t14
      (K (Value.tuple #[(Value.pointer none), (Value.slice none 0 0), t12]) w)
      (ld Try.prog 29 b5 (fun t17 w =>
    call Try.prog 44 #[t17] (fun t18 w =>
    ext Try.prog t18 0 (fun t19 w =>
    ext Try.prog t18 1 (fun t20 w =>
    alc Try.prog 3 (fun at7 w =>
    sto Try.prog 3 at7 t20 (fun _t w =>
    (journal_Open_A1 K) [d0, d1, (Value.pointer none), (Value.slice none 0 0), t12, b5, t19, at7, t10, t9, t10, t11, t12, t12, t14, undef, t18, t17, t18, t19, t20, undef, undef, undef, undef, undef, undef, undef, undef, undef, undef, undef, undef, undef] w) w) w) w) w) w) w)) w) w) w) w) w) w) w) w) :
    Gives Try.prog 21 #[d0] w K := enter' Try.func21 (by kernel_rfl) (Eq.mp (congrArg (fun c => cCode Try.prog c (retK Try.prog Try.f21.results.toList K) (fun _ _ _ => False) (retK Try.prog Try.f21.results.toList K) [d0, undef, undef, undef, undef, undef, undef, undef, undef, undef, undef, undef, undef, undef, undef, undef, undef, undef, undef, undef, undef, undef, undef, undef, undef, undef, undef, undef, undef, undef, undef, undef, undef, undef] w) (by kernel_rfl : (rep [1, 1, 1, 1] (cd Try.f21 [1, 1, 1, 1]) (cd Try.f21 [])) = (cd Try.f21 []))) (journal_Open_k (cd Try.f21 [1, 1, 1, 1]) h))
theorem journal_Open_go : isGo Try.prog 21 := ⟨_, Try.func21, by kernel_rfl, by kernel_rfl⟩

theorem journal_Open_A1_k {K : KV} {d0 d1 j2 records3 e4 b5 l6 at7 t8 t9 t10 t11 t12 t13 t14 t15 t16 t17 t18 t19 t20 t21 t22 t23 t24 t25 t26 t27 t28 t29 t30 t31 t32 t33 : Value} {w : World}
    (h : bldS Try.prog 99 3 #[(0, (Value.func (Fn.func 46) #[] #[at7, b5, d1])), (1, (Value.func (Fn.func 47) #[] #[d1])), (2, (Value.func (Fn.func 49) #[] #[d1]))] (fun t24 w =>
    call Try.prog 45 #[t24] (fun t25 w =>
    bin Try.prog BinOp.neq 33 false true t25 (Value.int IntKind.i64 0) (fun t27 w =>
    cond t27
      (K (Value.tuple #[(Value.pointer none), (Value.slice none 0 0), t25]) w)
      (ld Try.prog 25 d1 (fun t29 w =>
    ld Try.prog 3 at7 (fun t30 w =>
    bld Try.prog 84 #[(0, t29), (1, t30)] (fun t31 w =>
    box Try.prog 84 t31 (fun t32 w =>
    K (Value.tuple #[t32, l6, (Value.int IntKind.i64 0)]) w) w) w) w) w)) w) w) w) :
    cCode Try.prog (cd Try.f21 [1, 1, 1, 1]) (retK Try.prog Try.f21.results.toList K) (fun _ _ _ => False) (retK Try.prog Try.f21.results.toList K) [d0, d1, j2, records3, e4, b5, l6, at7, t8, t9, t10, t11, t12, t13, t14, t15, t16, t17, t18, t19, t20, t21, t22, t23, t24, t25, t26, t27, t28, t29, t30, t31, t32, t33] w := Eq.mp (by kernel_rfl) h

theorem journal_Open_A1_r {K : KV} {d0 d1 j2 records3 e4 b5 l6 at7 t8 t9 t10 t11 t12 t13 t14 t15 t16 t17 t18 t19 t20 t21 t22 t23 t24 t25 t26 t27 t28 t29 t30 t31 t32 t33 : Value} {w : World}
    (h : bldS Try.prog 99 3 #[(0, (Value.func (Fn.func 46) #[] #[at7, b5, d1])), (1, (Value.func (Fn.func 47) #[] #[d1])), (2, (Value.func (Fn.func 49) #[] #[d1]))] (fun t24 w =>
    call Try.prog 45 #[t24] (fun t25 w =>
    bin Try.prog BinOp.neq 33 false true t25 (Value.int IntKind.i64 0) (fun t27 w =>
    cond t27
      (K (Value.tuple #[(Value.pointer none), (Value.slice none 0 0), t25]) w)
      (ld Try.prog 25 d1 (fun t29 w =>
    ld Try.prog 3 at7 (fun t30 w =>
    bld Try.prog 84 #[(0, t29), (1, t30)] (fun t31 w =>
    box Try.prog 84 t31 (fun t32 w =>
    K (Value.tuple #[t32, l6, (Value.int IntKind.i64 0)]) w) w) w) w) w)) w) w) w) :
    journal_Open_A1 K [d0, d1, j2, records3, e4, b5, l6, at7, t8, t9, t10, t11, t12, t13, t14, t15, t16, t17, t18, t19, t20, t21, t22, t23, t24, t25, t26, t27, t28, t29, t30, t31, t32, t33] w := by
  delta journal_Open_A1
  exact Eq.mp (congrArg (fun c => cCode Try.prog c (retK Try.prog Try.f21.results.toList K) (fun _ _ _ => False) (retK Try.prog Try.f21.results.toList K) [d0, d1, j2, records3, e4, b5, l6, at7, t8, t9, t10, t11, t12, t13, t14, t15, t16, t17, t18, t19, t20, t21, t22, t23, t24, t25, t26, t27, t28, t29, t30, t31, t32, t33] w) (by kernel_rfl : (cd Try.f21 [1, 1, 1, 1]) = (cd Try.f21 [1, 1, 1, 1]))) (journal_Open_A1_k h)
attribute [irreducible] journal_Open_A1


theorem journal_Open_1_k {K : KV} {t0 t1 t2 : Value} {w : World}
    (h : ld Try.prog 3 t0 (fun t4 w =>
    ld Try.prog 29 t1 (fun t5 w =>
    blt Try.prog Builtin.len #[29] 3 #[false] #[t5] (fun t6 w =>
    bin Try.prog BinOp.eql 3 false false t4 t6 (fun t7 w =>
    cond t7
      (K (Value.int IntKind.i64 0) w)
      (ld Try.prog 25 t2 (fun t8 w =>
    ld Try.prog 3 t0 (fun t9 w =>
    call Try.prog 35 #[t8, (Value.int IntKind.i64 0), t9] (fun t10 w =>
    K t10 w) w) w) w)) w) w) w) w) :
    cCode Try.prog (cd Try.f46 []) (retK Try.prog Try.f46.results.toList K) (fun _ _ _ => False) (retK Try.prog Try.f46.results.toList K) [t0, t1, t2, undef, undef, undef, undef, undef, undef, undef, undef] w := Eq.mp (by kernel_rfl) h

theorem journal_Open_1_in {K : KV} {t0 t1 t2 : Value} {w : World}
    (h : ld Try.prog 3 t0 (fun t4 w =>
    ld Try.prog 29 t1 (fun t5 w =>
    blt Try.prog Builtin.len #[29] 3 #[false] #[t5] (fun t6 w =>
    bin Try.prog BinOp.eql 3 false false t4 t6 (fun t7 w =>
    cond t7
      (K (Value.int IntKind.i64 0) w)
      (ld Try.prog 25 t2 (fun t8 w =>
    ld Try.prog 3 t0 (fun t9 w =>
    call Try.prog 35 #[t8, (Value.int IntKind.i64 0), t9] (fun t10 w =>
    K t10 w) w) w) w)) w) w) w) w) :
    Gives Try.prog 46 #[t0, t1, t2] w K := enter' Try.func46 (by kernel_rfl) (Eq.mp (congrArg (fun c => cCode Try.prog c (retK Try.prog Try.f46.results.toList K) (fun _ _ _ => False) (retK Try.prog Try.f46.results.toList K) [t0, t1, t2, undef, undef, undef, undef, undef, undef, undef, undef] w) (by kernel_rfl : (cd Try.f46 []) = (cd Try.f46 []))) (journal_Open_1_k h))
theorem journal_Open_1_go : isGo Try.prog 46 := ⟨_, Try.func46, by kernel_rfl, by kernel_rfl⟩


theorem journal_Open_2_k {K : KV} {t0 : Value} {w : World}
    (h : ld Try.prog 25 t0 (fun t2 w =>
    call Try.prog 48 #[t2] (fun t3 w =>
    K t3 w) w) w) :
    cCode Try.prog (cd Try.f47 []) (retK Try.prog Try.f47.results.toList K) (fun _ _ _ => False) (retK Try.prog Try.f47.results.toList K) [t0, undef, undef, undef] w := Eq.mp (by kernel_rfl) h

theorem journal_Open_2_in {K : KV} {t0 : Value} {w : World}
    (h : ld Try.prog 25 t0 (fun t2 w =>
    call Try.prog 48 #[t2] (fun t3 w =>
    K t3 w) w) w) :
    Gives Try.prog 47 #[t0] w K := enter' Try.func47 (by kernel_rfl) (Eq.mp (congrArg (fun c => cCode Try.prog c (retK Try.prog Try.f47.results.toList K) (fun _ _ _ => False) (retK Try.prog Try.f47.results.toList K) [t0, undef, undef, undef] w) (by kernel_rfl : (cd Try.f47 []) = (cd Try.f47 []))) (journal_Open_2_k h))
theorem journal_Open_2_go : isGo Try.prog 47 := ⟨_, Try.func47, by kernel_rfl, by kernel_rfl⟩


theorem journal_Open_3_k {K : KV} {t0 : Value} {w : World}
    (h : ld Try.prog 25 t0 (fun t2 w =>
    call Try.prog 16 #[t2] (fun t3 w =>
    bin Try.prog BinOp.eql 3 false true t3 (Value.int IntKind.i64 0) (fun t4 w =>
    cond t4
      (K (Value.int IntKind.i64 0) w)
      (ld Try.prog 25 t0 (fun t5 w =>
    call Try.prog 33 #[t5] (fun t6 w =>
    K t6 w) w) w)) w) w) w) :
    cCode Try.prog (cd Try.f49 []) (retK Try.prog Try.f49.results.toList K) (fun _ _ _ => False) (retK Try.prog Try.f49.results.toList K) [t0, undef, undef, undef, undef, undef, undef] w := Eq.mp (by kernel_rfl) h

theorem journal_Open_3_in {K : KV} {t0 : Value} {w : World}
    (h : ld Try.prog 25 t0 (fun t2 w =>
    call Try.prog 16 #[t2] (fun t3 w =>
    bin Try.prog BinOp.eql 3 false true t3 (Value.int IntKind.i64 0) (fun t4 w =>
    cond t4
      (K (Value.int IntKind.i64 0) w)
      (ld Try.prog 25 t0 (fun t5 w =>
    call Try.prog 33 #[t5] (fun t6 w =>
    K t6 w) w) w)) w) w) w) :
    Gives Try.prog 49 #[t0] w K := enter' Try.func49 (by kernel_rfl) (Eq.mp (congrArg (fun c => cCode Try.prog c (retK Try.prog Try.f49.results.toList K) (fun _ _ _ => False) (retK Try.prog Try.f49.results.toList K) [t0, undef, undef, undef, undef, undef, undef] w) (by kernel_rfl : (cd Try.f49 []) = (cd Try.f49 []))) (journal_Open_3_k h))
theorem journal_Open_3_go : isGo Try.prog 49 := ⟨_, Try.func49, by kernel_rfl, by kernel_rfl⟩


theorem journal_Journal_bytes_k {K : KV} {j0 records1 : Value} {w : World}
    (h : bin Try.prog BinOp.eql 49 false true j0 (Value.pointer none) (fun t8 w =>
    cond t8
      (K (Value.tuple #[(Value.slice none 0 0), (Value.int IntKind.i64 2)]) w)
      (nilC j0 (fun t11 w =>
      fldA Try.prog 84 t11 2 (fun t12 w =>
      ld Try.prog 4 t12 (fun t13 w =>
      cond t13
        (K (Value.tuple #[(Value.slice none 0 0), (Value.int IntKind.i64 3)]) w)
        (call Try.prog 67 #[(Value.slice none 0 0), records1] (fun t15 w =>
    ext Try.prog t15 0 (fun t16 w =>
    ext Try.prog t15 1 (fun t17 w =>
    K (Value.tuple #[t16, t17]) w) w) w) w)) w) w) w)) w) :
    cCode Try.prog (cd Try.f50 []) (retK Try.prog Try.f50.results.toList K) (fun _ _ _ => False) (retK Try.prog Try.f50.results.toList K) [j0, records1, undef, undef, undef, undef, undef, undef, undef, undef, undef, undef, undef, undef, undef, undef, undef, undef] w := Eq.mp (by kernel_rfl) h

theorem journal_Journal_bytes_in {K : KV} {j0 records1 : Value} {w : World}
    (h : bin Try.prog BinOp.eql 49 false true j0 (Value.pointer none) (fun t8 w =>
    cond t8
      (K (Value.tuple #[(Value.slice none 0 0), (Value.int IntKind.i64 2)]) w)
      (nilC j0 (fun t11 w =>
      fldA Try.prog 84 t11 2 (fun t12 w =>
      ld Try.prog 4 t12 (fun t13 w =>
      cond t13
        (K (Value.tuple #[(Value.slice none 0 0), (Value.int IntKind.i64 3)]) w)
        (call Try.prog 67 #[(Value.slice none 0 0), records1] (fun t15 w =>
    ext Try.prog t15 0 (fun t16 w =>
    ext Try.prog t15 1 (fun t17 w =>
    K (Value.tuple #[t16, t17]) w) w) w) w)) w) w) w)) w) :
    Gives Try.prog 50 #[j0, records1] w K := enter' Try.func50 (by kernel_rfl) (Eq.mp (congrArg (fun c => cCode Try.prog c (retK Try.prog Try.f50.results.toList K) (fun _ _ _ => False) (retK Try.prog Try.f50.results.toList K) [j0, records1, undef, undef, undef, undef, undef, undef, undef, undef, undef, undef, undef, undef, undef, undef, undef, undef] w) (by kernel_rfl : (cd Try.f50 []) = (cd Try.f50 []))) (journal_Journal_bytes_k h))
theorem journal_Journal_bytes_go : isGo Try.prog 50 := ⟨_, Try.func50, by kernel_rfl, by kernel_rfl⟩

def journal_Journal_done_P1 (K : KV) : KE := cCode Try.prog (cd Try.f52 [1, 1, 1]) (retK Try.prog Try.f52.results.toList K) (fun _ _ _ => False) (retK Try.prog Try.f52.results.toList K)
def journal_Journal_done_A1 (K : KV) : KE := cCode Try.prog (cd Try.f52 [1, 1, 0, 1]) (journal_Journal_done_P1 K) (fun _ _ _ => False) (retK Try.prog Try.f52.results.toList K)
theorem journal_Journal_done_k {K : KV} (x0 : Code) {j0 size1 e2 : Value} {w : World}
    (h : bin Try.prog BinOp.eql 33 false true e2 (Value.int IntKind.i64 8) (fun t9 w =>
    nilC j0 (fun t10 w =>
    fldA Try.prog 84 t10 2 (fun t11 w =>
    sto Try.prog 4 t11 t9 (fun _t w =>
    bin Try.prog BinOp.eql 33 false true e2 (Value.int IntKind.i64 0) (fun t13 w =>
    (cCode Try.prog x0 (cCode Try.prog (cd Try.f52 [1, 1, 1]) (retK Try.prog Try.f52.results.toList K) (fun _ _ _ => False) (retK Try.prog Try.f52.results.toList K)) (fun _ _ _ => False) (retK Try.prog Try.f52.results.toList K)) [j0, size1, e2, undef, undef, undef, (Value.int IntKind.i64 0), j0, e2, t9, t10, t11, e2, t13, undef, undef, undef, undef, undef] w) w) w) w) w) w) :
    cCode Try.prog (rep [1, 1, 0, 1] x0 (cd Try.f52 [])) (retK Try.prog Try.f52.results.toList K) (fun _ _ _ => False) (retK Try.prog Try.f52.results.toList K) [j0, size1, e2, undef, undef, undef, undef, undef, undef, undef, undef, undef, undef, undef, undef, undef, undef, undef, undef] w := Eq.mp (by kernel_rfl) h

theorem journal_Journal_done_in {K : KV} {j0 size1 e2 : Value} {w : World}
    (h : bin Try.prog BinOp.eql 33 false true e2 (Value.int IntKind.i64 8) (fun t9 w =>
    nilC j0 (fun t10 w =>
    fldA Try.prog 84 t10 2 (fun t11 w =>
    sto Try.prog 4 t11 t9 (fun _t w =>
    bin Try.prog BinOp.eql 33 false true e2 (Value.int IntKind.i64 0) (fun t13 w =>
    (journal_Journal_done_A1 K) [j0, size1, e2, undef, undef, undef, (Value.int IntKind.i64 0), j0, e2, t9, t10, t11, e2, t13, undef, undef, undef, undef, undef] w) w) w) w) w) w) :
    Gives Try.prog 52 #[j0, size1, e2] w K := enter' Try.func52 (by kernel_rfl) (Eq.mp (congrArg (fun c => cCode Try.prog c (retK Try.prog Try.f52.results.toList K) (fun _ _ _ => False) (retK Try.prog Try.f52.results.toList K) [j0, size1, e2, undef, undef, undef, undef, undef, undef, undef, undef, undef, undef, undef, undef, undef, undef, undef, undef] w) (by kernel_rfl : (rep [1, 1, 0, 1] (cd Try.f52 [1, 1, 0, 1]) (cd Try.f52 [])) = (cd Try.f52 []))) (journal_Journal_done_k (cd Try.f52 [1, 1, 0, 1]) h))
theorem journal_Journal_done_go : isGo Try.prog 52 := ⟨_, Try.func52, by kernel_rfl, by kernel_rfl⟩

theorem journal_Journal_done_A1_k {K : KV} (q0 : KE) {j0 size1 e2 j3 size4 e5 t6 t7 t8 t9 t10 t11 t12 t13 t14 t15 t16 t17 t18 : Value} {w : World}
    (h : cond t13
      (nilC j0 (fun t16 w =>
      fldA Try.prog 84 t16 1 (fun t17 w =>
      sto Try.prog 3 t17 size1 (fun _t w =>
      q0 [j0, size1, e2, j3, size4, e5, t6, t7, t8, t9, t10, t11, t12, t13, j0, size1, t16, t17, t18] w) w) w) w)
      (q0 [j0, size1, e2, j3, size4, e5, t6, t7, t8, t9, t10, t11, t12, t13, t14, t15, t16, t17, t18] w)) :
    cCode Try.prog (cd Try.f52 [1, 1, 0, 1]) q0 (fun _ _ _ => False) (retK Try.prog Try.f52.results.toList K) [j0, size1, e2, j3, size4, e5, t6, t7, t8, t9, t10, t11, t12, t13, t14, t15, t16, t17, t18] w := Eq.mp (by kernel_rfl) h

theorem journal_Journal_done_A1_r {K : KV} {j0 size1 e2 j3 size4 e5 t6 t7 t8 t9 t10 t11 t12 t13 t14 t15 t16 t17 t18 : Value} {w : World}
    (h : cond t13
      (nilC j0 (fun t16 w =>
      fldA Try.prog 84 t16 1 (fun t17 w =>
      sto Try.prog 3 t17 size1 (fun _t w =>
      (journal_Journal_done_P1 K) [j0, size1, e2, j3, size4, e5, t6, t7, t8, t9, t10, t11, t12, t13, j0, size1, t16, t17, t18] w) w) w) w)
      ((journal_Journal_done_P1 K) [j0, size1, e2, j3, size4, e5, t6, t7, t8, t9, t10, t11, t12, t13, t14, t15, t16, t17, t18] w)) :
    journal_Journal_done_A1 K [j0, size1, e2, j3, size4, e5, t6, t7, t8, t9, t10, t11, t12, t13, t14, t15, t16, t17, t18] w := by
  delta journal_Journal_done_A1
  exact Eq.mp (congrArg (fun c => cCode Try.prog c (journal_Journal_done_P1 K) (fun _ _ _ => False) (retK Try.prog Try.f52.results.toList K) [j0, size1, e2, j3, size4, e5, t6, t7, t8, t9, t10, t11, t12, t13, t14, t15, t16, t17, t18] w) (by kernel_rfl : (cd Try.f52 [1, 1, 0, 1]) = (cd Try.f52 [1, 1, 0, 1]))) (journal_Journal_done_A1_k (journal_Journal_done_P1 K) h)

theorem journal_Journal_done_P1_k {K : KV} {j0 size1 e2 j3 size4 e5 t6 t7 t8 t9 t10 t11 t12 t13 t14 t15 t16 t17 t18 : Value} {w : World}
    (h : K e2 w) :
    cCode Try.prog (cd Try.f52 [1, 1, 1]) (retK Try.prog Try.f52.results.toList K) (fun _ _ _ => False) (retK Try.prog Try.f52.results.toList K) [j0, size1, e2, j3, size4, e5, t6, t7, t8, t9, t10, t11, t12, t13, t14, t15, t16, t17, t18] w := Eq.mp (by kernel_rfl) h

theorem journal_Journal_done_P1_r {K : KV} {j0 size1 e2 j3 size4 e5 t6 t7 t8 t9 t10 t11 t12 t13 t14 t15 t16 t17 t18 : Value} {w : World}
    (h : K e2 w) :
    journal_Journal_done_P1 K [j0, size1, e2, j3, size4, e5, t6, t7, t8, t9, t10, t11, t12, t13, t14, t15, t16, t17, t18] w := by
  delta journal_Journal_done_P1
  exact Eq.mp (congrArg (fun c => cCode Try.prog c (retK Try.prog Try.f52.results.toList K) (fun _ _ _ => False) (retK Try.prog Try.f52.results.toList K) [j0, size1, e2, j3, size4, e5, t6, t7, t8, t9, t10, t11, t12, t13, t14, t15, t16, t17, t18] w) (by kernel_rfl : (cd Try.f52 [1, 1, 1]) = (cd Try.f52 [1, 1, 1]))) (journal_Journal_done_P1_k h)
attribute [irreducible] journal_Journal_done_P1 journal_Journal_done_A1

def journal_Journal_Add_A1 (K : KV) : KE := cCode Try.prog (cd Try.f23 [1, 1, 1, 1]) (retK Try.prog Try.f23.results.toList K) (fun _ _ _ => False) (retK Try.prog Try.f23.results.toList K)
theorem journal_Journal_Add_k {K : KV} (x0 : Code) {j0 records1 : Value} {w : World}
    (h : box Try.prog 49 j0 (fun j2 w =>
    ld Try.prog 49 j2 (fun t8 w =>
    call Try.prog 50 #[t8, records1] (fun t10 w =>
    ext Try.prog t10 0 (fun t11 w =>
    ext Try.prog t10 1 (fun t12 w =>
    alc Try.prog 29 (fun b5 w =>
    sto Try.prog 29 b5 t11 (fun _t w =>
    bin Try.prog BinOp.neq 33 false true t12 (Value.int IntKind.i64 0) (fun t14 w =>
    gsel t14 false (fun k16 =>
    blt Try.prog Builtin.len #[50] 3 #[false] #[records1] (fun t17 w =>
    bin Try.prog BinOp.eql 3 false true t17 (Value.int IntKind.i64 0) (fun t18 w =>
    k16 [records1, t17, t18] w) w) w)
    (fun k => k [undef, undef, undef] w) (fun us16 w =>
    pick t14 (Value.bool true) (gd us16 2) (fun t19 w =>
    cond t19
      (K t12 w)
      (ld Try.prog 49 j2 (fun t22 w =>
    nilC t22 (fun t23 w =>
    fldA Try.prog 84 t23 0 (fun t24 w =>
    ld Try.prog 25 t24 (fun t25 w =>
    bldS Try.prog 99 2 #[(0, (Value.func (Fn.func 51) #[] #[j2, b5])), (1, (Value.func (Fn.func 33) #[t25] #[]))] (fun t27 w =>
    call Try.prog 45 #[t27] (fun t28 w =>
    (cCode Try.prog x0 (retK Try.prog Try.f23.results.toList K) (fun _ _ _ => False) (retK Try.prog Try.f23.results.toList K)) [j0, records1, j2, undef, (Value.int IntKind.i64 0), b5, t28, t10, t8, records1, t10, t11, t12, t12, t14, t14, (gd us16 0), (gd us16 1), (gd us16 2), t19, undef, (Value.func (Fn.func 51) #[] #[j2, b5]), t22, t23, t24, t25, (Value.func (Fn.func 33) #[t25] #[]), t27, t28, undef, undef, undef, undef, undef, undef, undef, undef, undef, undef] w) w) w) w) w) w) w)) w)) w) w) w) w) w) w) w) w) :
    cCode Try.prog (rep [1, 1, 1, 1] x0 (cd Try.f23 [])) (retK Try.prog Try.f23.results.toList K) (fun _ _ _ => False) (retK Try.prog Try.f23.results.toList K) [j0, records1, undef, undef, undef, undef, undef, undef, undef, undef, undef, undef, undef, undef, undef, undef, undef, undef, undef, undef, undef, undef, undef, undef, undef, undef, undef, undef, undef, undef, undef, undef, undef, undef, undef, undef, undef, undef, undef] w := Eq.mp (by kernel_rfl) h

theorem journal_Journal_Add_in {K : KV} {j0 records1 : Value} {w : World}
    (h : box Try.prog 49 j0 (fun j2 w =>
    ld Try.prog 49 j2 (fun t8 w =>
    call Try.prog 50 #[t8, records1] (fun t10 w =>
    ext Try.prog t10 0 (fun t11 w =>
    ext Try.prog t10 1 (fun t12 w =>
    alc Try.prog 29 (fun b5 w =>
    sto Try.prog 29 b5 t11 (fun _t w =>
    bin Try.prog BinOp.neq 33 false true t12 (Value.int IntKind.i64 0) (fun t14 w =>
    gsel t14 false (fun k16 =>
    blt Try.prog Builtin.len #[50] 3 #[false] #[records1] (fun t17 w =>
    bin Try.prog BinOp.eql 3 false true t17 (Value.int IntKind.i64 0) (fun t18 w =>
    k16 [records1, t17, t18] w) w) w)
    (fun k => k [undef, undef, undef] w) (fun us16 w =>
    pick t14 (Value.bool true) (gd us16 2) (fun t19 w =>
    cond t19
      (K t12 w)
      (ld Try.prog 49 j2 (fun t22 w =>
    nilC t22 (fun t23 w =>
    fldA Try.prog 84 t23 0 (fun t24 w =>
    ld Try.prog 25 t24 (fun t25 w =>
    bldS Try.prog 99 2 #[(0, (Value.func (Fn.func 51) #[] #[j2, b5])), (1, (Value.func (Fn.func 33) #[t25] #[]))] (fun t27 w =>
    call Try.prog 45 #[t27] (fun t28 w =>
    (journal_Journal_Add_A1 K) [j0, records1, j2, undef, (Value.int IntKind.i64 0), b5, t28, t10, t8, records1, t10, t11, t12, t12, t14, t14, (gd us16 0), (gd us16 1), (gd us16 2), t19, undef, (Value.func (Fn.func 51) #[] #[j2, b5]), t22, t23, t24, t25, (Value.func (Fn.func 33) #[t25] #[]), t27, t28, undef, undef, undef, undef, undef, undef, undef, undef, undef, undef] w) w) w) w) w) w) w)) w)) w) w) w) w) w) w) w) w) :
    Gives Try.prog 23 #[j0, records1] w K := enter' Try.func23 (by kernel_rfl) (Eq.mp (congrArg (fun c => cCode Try.prog c (retK Try.prog Try.f23.results.toList K) (fun _ _ _ => False) (retK Try.prog Try.f23.results.toList K) [j0, records1, undef, undef, undef, undef, undef, undef, undef, undef, undef, undef, undef, undef, undef, undef, undef, undef, undef, undef, undef, undef, undef, undef, undef, undef, undef, undef, undef, undef, undef, undef, undef, undef, undef, undef, undef, undef, undef] w) (by kernel_rfl : (rep [1, 1, 1, 1] (cd Try.f23 [1, 1, 1, 1]) (cd Try.f23 [])) = (cd Try.f23 []))) (journal_Journal_Add_k (cd Try.f23 [1, 1, 1, 1]) h))
theorem journal_Journal_Add_go : isGo Try.prog 23 := ⟨_, Try.func23, by kernel_rfl, by kernel_rfl⟩

theorem journal_Journal_Add_A1_k {K : KV} {j0 records1 j2 records3 t4 b5 e6 t7 t8 t9 t10 t11 t12 t13 t14 t15 t16 t17 t18 t19 t20 t21 t22 t23 t24 t25 t26 t27 t28 t29 t30 t31 t32 t33 t34 t35 t36 t37 t38 : Value} {w : World}
    (h : hReg (fun S w =>
    hld S (fun k w => ld Try.prog 49 j2 k w) (fun t29 =>
    hld S (fun k w => ld Try.prog 49 j2 k w) (fun t30 =>
    hld S (fun k w => nilC t30 k w) (fun t31 =>
    hld S (fun k w => fldA Try.prog 84 t31 1 k w) (fun t32 =>
    hld S (fun k w => ld Try.prog 3 t32 k w) (fun t33 =>
    hld S (fun k w => ld Try.prog 29 b5 k w) (fun t34 =>
    hld S (fun k w => blt Try.prog Builtin.len #[29] 3 #[false] #[t34] k w) (fun t35 =>
    hld S (fun k w => bin Try.prog BinOp.add 3 false false t33 t35 k w) (fun t36 =>
    call Try.prog 52 #[t29, t36, e6] (fun t38 w =>
    hReg (fun S w =>
    K t38 w) w) w))))))))) w.drew) :
    cCode Try.prog (cd Try.f23 [1, 1, 1, 1]) (retK Try.prog Try.f23.results.toList K) (fun _ _ _ => False) (retK Try.prog Try.f23.results.toList K) [j0, records1, j2, records3, t4, b5, e6, t7, t8, t9, t10, t11, t12, t13, t14, t15, t16, t17, t18, t19, t20, t21, t22, t23, t24, t25, t26, t27, t28, t29, t30, t31, t32, t33, t34, t35, t36, t37, t38] w := Eq.mp (by kernel_rfl) h

theorem journal_Journal_Add_A1_r {K : KV} {j0 records1 j2 records3 t4 b5 e6 t7 t8 t9 t10 t11 t12 t13 t14 t15 t16 t17 t18 t19 t20 t21 t22 t23 t24 t25 t26 t27 t28 t29 t30 t31 t32 t33 t34 t35 t36 t37 t38 : Value} {w : World}
    (h : hReg (fun S w =>
    hld S (fun k w => ld Try.prog 49 j2 k w) (fun t29 =>
    hld S (fun k w => ld Try.prog 49 j2 k w) (fun t30 =>
    hld S (fun k w => nilC t30 k w) (fun t31 =>
    hld S (fun k w => fldA Try.prog 84 t31 1 k w) (fun t32 =>
    hld S (fun k w => ld Try.prog 3 t32 k w) (fun t33 =>
    hld S (fun k w => ld Try.prog 29 b5 k w) (fun t34 =>
    hld S (fun k w => blt Try.prog Builtin.len #[29] 3 #[false] #[t34] k w) (fun t35 =>
    hld S (fun k w => bin Try.prog BinOp.add 3 false false t33 t35 k w) (fun t36 =>
    call Try.prog 52 #[t29, t36, e6] (fun t38 w =>
    hReg (fun S w =>
    K t38 w) w) w))))))))) w.drew) :
    journal_Journal_Add_A1 K [j0, records1, j2, records3, t4, b5, e6, t7, t8, t9, t10, t11, t12, t13, t14, t15, t16, t17, t18, t19, t20, t21, t22, t23, t24, t25, t26, t27, t28, t29, t30, t31, t32, t33, t34, t35, t36, t37, t38] w := by
  delta journal_Journal_Add_A1
  exact Eq.mp (congrArg (fun c => cCode Try.prog c (retK Try.prog Try.f23.results.toList K) (fun _ _ _ => False) (retK Try.prog Try.f23.results.toList K) [j0, records1, j2, records3, t4, b5, e6, t7, t8, t9, t10, t11, t12, t13, t14, t15, t16, t17, t18, t19, t20, t21, t22, t23, t24, t25, t26, t27, t28, t29, t30, t31, t32, t33, t34, t35, t36, t37, t38] w) (by kernel_rfl : (cd Try.f23 [1, 1, 1, 1]) = (cd Try.f23 [1, 1, 1, 1]))) (journal_Journal_Add_A1_k h)
attribute [irreducible] journal_Journal_Add_A1


theorem journal_Journal_Add_1_k {K : KV} {t0 t1 : Value} {w : World}
    (h : hReg (fun S w =>
    hld S (fun k w => ld Try.prog 49 t0 k w) (fun t3 =>
    hld S (fun k w => nilC t3 k w) (fun t4 =>
    hld S (fun k w => fldA Try.prog 84 t4 0 k w) (fun t5 =>
    hld S (fun k w => ld Try.prog 25 t5 k w) (fun t6 =>
    hld S (fun k w => ld Try.prog 29 t1 k w) (fun t7 =>
    call Try.prog 32 #[t6, (Value.int IntKind.i64 0), t7] (fun t8 w =>
    hReg (fun S w =>
    K t8 w) w) w)))))) w.drew) :
    cCode Try.prog (cd Try.f51 []) (retK Try.prog Try.f51.results.toList K) (fun _ _ _ => False) (retK Try.prog Try.f51.results.toList K) [t0, t1, undef, undef, undef, undef, undef, undef, undef] w := Eq.mp (by kernel_rfl) h

theorem journal_Journal_Add_1_in {K : KV} {t0 t1 : Value} {w : World}
    (h : hReg (fun S w =>
    hld S (fun k w => ld Try.prog 49 t0 k w) (fun t3 =>
    hld S (fun k w => nilC t3 k w) (fun t4 =>
    hld S (fun k w => fldA Try.prog 84 t4 0 k w) (fun t5 =>
    hld S (fun k w => ld Try.prog 25 t5 k w) (fun t6 =>
    hld S (fun k w => ld Try.prog 29 t1 k w) (fun t7 =>
    call Try.prog 32 #[t6, (Value.int IntKind.i64 0), t7] (fun t8 w =>
    hReg (fun S w =>
    K t8 w) w) w)))))) w.drew) :
    Gives Try.prog 51 #[t0, t1] w K := enter' Try.func51 (by kernel_rfl) (Eq.mp (congrArg (fun c => cCode Try.prog c (retK Try.prog Try.f51.results.toList K) (fun _ _ _ => False) (retK Try.prog Try.f51.results.toList K) [t0, t1, undef, undef, undef, undef, undef, undef, undef] w) (by kernel_rfl : (cd Try.f51 []) = (cd Try.f51 []))) (journal_Journal_Add_1_k h))
theorem journal_Journal_Add_1_go : isGo Try.prog 51 := ⟨_, Try.func51, by kernel_rfl, by kernel_rfl⟩


theorem journal_Journal_Compact_k {K : KV} {j0 records1 : Value} {w : World}
    (h : box Try.prog 49 j0 (fun j2 w =>
    ld Try.prog 49 j2 (fun t8 w =>
    call Try.prog 50 #[t8, records1] (fun t10 w =>
    ext Try.prog t10 0 (fun t11 w =>
    ext Try.prog t10 1 (fun t12 w =>
    alc Try.prog 29 (fun b5 w =>
    sto Try.prog 29 b5 t11 (fun _t w =>
    bin Try.prog BinOp.neq 33 false true t12 (Value.int IntKind.i64 0) (fun t14 w =>
    cond t14
      (K t12 w)
      (hReg (fun S w =>
    hld S (fun k w => ld Try.prog 49 j2 k w) (fun t18 =>
    hld S (fun k w => nilC t18 k w) (fun t19 =>
    hld S (fun k w => fldA Try.prog 84 t19 0 k w) (fun t20 =>
    hld S (fun k w => ld Try.prog 25 t20 k w) (fun t21 =>
    hld S (fun k w => ld Try.prog 49 j2 k w) (fun t23 =>
    hld S (fun k w => nilC t23 k w) (fun t24 =>
    hld S (fun k w => fldA Try.prog 84 t24 0 k w) (fun t25 =>
    hld S (fun k w => ld Try.prog 25 t25 k w) (fun t26 =>
    hld S (fun k w => ld Try.prog 49 j2 k w) (fun t28 =>
    hld S (fun k w => nilC t28 k w) (fun t29 =>
    hld S (fun k w => fldA Try.prog 84 t29 0 k w) (fun t30 =>
    hld S (fun k w => ld Try.prog 25 t30 k w) (fun t31 =>
    bldS Try.prog 99 5 #[(0, (Value.func (Fn.func 53) #[] #[j2])), (1, (Value.func (Fn.func 54) #[] #[j2, b5])), (2, (Value.func (Fn.func 33) #[t21] #[])), (3, (Value.func (Fn.func 34) #[t26] #[])), (4, (Value.func (Fn.func 33) #[t31] #[]))] (fun t33 w =>
    hReg (fun S w =>
    call Try.prog 45 #[t33] (fun t34 w =>
    hReg (fun S w =>
    ld Try.prog 49 j2 (fun t35 w =>
    ld Try.prog 29 b5 (fun t36 w =>
    blt Try.prog Builtin.len #[29] 3 #[false] #[t36] (fun t37 w =>
    call Try.prog 52 #[t35, t37, t34] (fun t39 w =>
    K t39 w) w) w) w) w) w) w) w) w))))))))))))) w.drew)) w) w) w) w) w) w) w) w) :
    cCode Try.prog (cd Try.f24 []) (retK Try.prog Try.f24.results.toList K) (fun _ _ _ => False) (retK Try.prog Try.f24.results.toList K) [j0, records1, undef, undef, undef, undef, undef, undef, undef, undef, undef, undef, undef, undef, undef, undef, undef, undef, undef, undef, undef, undef, undef, undef, undef, undef, undef, undef, undef, undef, undef, undef, undef, undef, undef, undef, undef, undef, undef, undef] w := Eq.mp (by kernel_rfl) h

theorem journal_Journal_Compact_in {K : KV} {j0 records1 : Value} {w : World}
    (h : box Try.prog 49 j0 (fun j2 w =>
    ld Try.prog 49 j2 (fun t8 w =>
    call Try.prog 50 #[t8, records1] (fun t10 w =>
    ext Try.prog t10 0 (fun t11 w =>
    ext Try.prog t10 1 (fun t12 w =>
    alc Try.prog 29 (fun b5 w =>
    sto Try.prog 29 b5 t11 (fun _t w =>
    bin Try.prog BinOp.neq 33 false true t12 (Value.int IntKind.i64 0) (fun t14 w =>
    cond t14
      (K t12 w)
      (hReg (fun S w =>
    hld S (fun k w => ld Try.prog 49 j2 k w) (fun t18 =>
    hld S (fun k w => nilC t18 k w) (fun t19 =>
    hld S (fun k w => fldA Try.prog 84 t19 0 k w) (fun t20 =>
    hld S (fun k w => ld Try.prog 25 t20 k w) (fun t21 =>
    hld S (fun k w => ld Try.prog 49 j2 k w) (fun t23 =>
    hld S (fun k w => nilC t23 k w) (fun t24 =>
    hld S (fun k w => fldA Try.prog 84 t24 0 k w) (fun t25 =>
    hld S (fun k w => ld Try.prog 25 t25 k w) (fun t26 =>
    hld S (fun k w => ld Try.prog 49 j2 k w) (fun t28 =>
    hld S (fun k w => nilC t28 k w) (fun t29 =>
    hld S (fun k w => fldA Try.prog 84 t29 0 k w) (fun t30 =>
    hld S (fun k w => ld Try.prog 25 t30 k w) (fun t31 =>
    bldS Try.prog 99 5 #[(0, (Value.func (Fn.func 53) #[] #[j2])), (1, (Value.func (Fn.func 54) #[] #[j2, b5])), (2, (Value.func (Fn.func 33) #[t21] #[])), (3, (Value.func (Fn.func 34) #[t26] #[])), (4, (Value.func (Fn.func 33) #[t31] #[]))] (fun t33 w =>
    hReg (fun S w =>
    call Try.prog 45 #[t33] (fun t34 w =>
    hReg (fun S w =>
    ld Try.prog 49 j2 (fun t35 w =>
    ld Try.prog 29 b5 (fun t36 w =>
    blt Try.prog Builtin.len #[29] 3 #[false] #[t36] (fun t37 w =>
    call Try.prog 52 #[t35, t37, t34] (fun t39 w =>
    K t39 w) w) w) w) w) w) w) w) w))))))))))))) w.drew)) w) w) w) w) w) w) w) w) :
    Gives Try.prog 24 #[j0, records1] w K := enter' Try.func24 (by kernel_rfl) (Eq.mp (congrArg (fun c => cCode Try.prog c (retK Try.prog Try.f24.results.toList K) (fun _ _ _ => False) (retK Try.prog Try.f24.results.toList K) [j0, records1, undef, undef, undef, undef, undef, undef, undef, undef, undef, undef, undef, undef, undef, undef, undef, undef, undef, undef, undef, undef, undef, undef, undef, undef, undef, undef, undef, undef, undef, undef, undef, undef, undef, undef, undef, undef, undef, undef] w) (by kernel_rfl : (cd Try.f24 []) = (cd Try.f24 []))) (journal_Journal_Compact_k h))
theorem journal_Journal_Compact_go : isGo Try.prog 24 := ⟨_, Try.func24, by kernel_rfl, by kernel_rfl⟩


theorem journal_Journal_Compact_1_k {K : KV} {t0 : Value} {w : World}
    (h : ld Try.prog 49 t0 (fun t2 w =>
    nilC t2 (fun t3 w =>
    fldA Try.prog 84 t3 0 (fun t4 w =>
    ld Try.prog 25 t4 (fun t5 w =>
    call Try.prog 48 #[t5] (fun t6 w =>
    K t6 w) w) w) w) w) w) :
    cCode Try.prog (cd Try.f53 []) (retK Try.prog Try.f53.results.toList K) (fun _ _ _ => False) (retK Try.prog Try.f53.results.toList K) [t0, undef, undef, undef, undef, undef, undef] w := Eq.mp (by kernel_rfl) h

theorem journal_Journal_Compact_1_in {K : KV} {t0 : Value} {w : World}
    (h : ld Try.prog 49 t0 (fun t2 w =>
    nilC t2 (fun t3 w =>
    fldA Try.prog 84 t3 0 (fun t4 w =>
    ld Try.prog 25 t4 (fun t5 w =>
    call Try.prog 48 #[t5] (fun t6 w =>
    K t6 w) w) w) w) w) w) :
    Gives Try.prog 53 #[t0] w K := enter' Try.func53 (by kernel_rfl) (Eq.mp (congrArg (fun c => cCode Try.prog c (retK Try.prog Try.f53.results.toList K) (fun _ _ _ => False) (retK Try.prog Try.f53.results.toList K) [t0, undef, undef, undef, undef, undef, undef] w) (by kernel_rfl : (cd Try.f53 []) = (cd Try.f53 []))) (journal_Journal_Compact_1_k h))
theorem journal_Journal_Compact_1_go : isGo Try.prog 53 := ⟨_, Try.func53, by kernel_rfl, by kernel_rfl⟩


theorem journal_Journal_Compact_2_k {K : KV} {t0 t1 : Value} {w : World}
    (h : hReg (fun S w =>
    hld S (fun k w => ld Try.prog 49 t0 k w) (fun t3 =>
    hld S (fun k w => nilC t3 k w) (fun t4 =>
    hld S (fun k w => fldA Try.prog 84 t4 0 k w) (fun t5 =>
    hld S (fun k w => ld Try.prog 25 t5 k w) (fun t6 =>
    hld S (fun k w => ld Try.prog 29 t1 k w) (fun t7 =>
    call Try.prog 32 #[t6, (Value.int IntKind.i64 1), t7] (fun t8 w =>
    hReg (fun S w =>
    K t8 w) w) w)))))) w.drew) :
    cCode Try.prog (cd Try.f54 []) (retK Try.prog Try.f54.results.toList K) (fun _ _ _ => False) (retK Try.prog Try.f54.results.toList K) [t0, t1, undef, undef, undef, undef, undef, undef, undef] w := Eq.mp (by kernel_rfl) h

theorem journal_Journal_Compact_2_in {K : KV} {t0 t1 : Value} {w : World}
    (h : hReg (fun S w =>
    hld S (fun k w => ld Try.prog 49 t0 k w) (fun t3 =>
    hld S (fun k w => nilC t3 k w) (fun t4 =>
    hld S (fun k w => fldA Try.prog 84 t4 0 k w) (fun t5 =>
    hld S (fun k w => ld Try.prog 25 t5 k w) (fun t6 =>
    hld S (fun k w => ld Try.prog 29 t1 k w) (fun t7 =>
    call Try.prog 32 #[t6, (Value.int IntKind.i64 1), t7] (fun t8 w =>
    hReg (fun S w =>
    K t8 w) w) w)))))) w.drew) :
    Gives Try.prog 54 #[t0, t1] w K := enter' Try.func54 (by kernel_rfl) (Eq.mp (congrArg (fun c => cCode Try.prog c (retK Try.prog Try.f54.results.toList K) (fun _ _ _ => False) (retK Try.prog Try.f54.results.toList K) [t0, t1, undef, undef, undef, undef, undef, undef, undef] w) (by kernel_rfl : (cd Try.f54 []) = (cd Try.f54 []))) (journal_Journal_Compact_2_k h))
theorem journal_Journal_Compact_2_go : isGo Try.prog 54 := ⟨_, Try.func54, by kernel_rfl, by kernel_rfl⟩


theorem journal_Journal_Size_k {K : KV} {j0 : Value} {w : World}
    (h : bin Try.prog BinOp.eql 49 false true j0 (Value.pointer none) (fun t4 w =>
    cond t4
      (K (Value.int IntKind.i64 0) w)
      (nilC j0 (fun t6 w =>
    fldA Try.prog 84 t6 1 (fun t7 w =>
    ld Try.prog 3 t7 (fun t8 w =>
    K t8 w) w) w) w)) w) :
    cCode Try.prog (cd Try.f30 []) (retK Try.prog Try.f30.results.toList K) (fun _ _ _ => False) (retK Try.prog Try.f30.results.toList K) [j0, undef, undef, undef, undef, undef, undef, undef, undef] w := Eq.mp (by kernel_rfl) h

theorem journal_Journal_Size_in {K : KV} {j0 : Value} {w : World}
    (h : bin Try.prog BinOp.eql 49 false true j0 (Value.pointer none) (fun t4 w =>
    cond t4
      (K (Value.int IntKind.i64 0) w)
      (nilC j0 (fun t6 w =>
    fldA Try.prog 84 t6 1 (fun t7 w =>
    ld Try.prog 3 t7 (fun t8 w =>
    K t8 w) w) w) w)) w) :
    Gives Try.prog 30 #[j0] w K := enter' Try.func30 (by kernel_rfl) (Eq.mp (congrArg (fun c => cCode Try.prog c (retK Try.prog Try.f30.results.toList K) (fun _ _ _ => False) (retK Try.prog Try.f30.results.toList K) [j0, undef, undef, undef, undef, undef, undef, undef, undef] w) (by kernel_rfl : (cd Try.f30 []) = (cd Try.f30 []))) (journal_Journal_Size_k h))
theorem journal_Journal_Size_go : isGo Try.prog 30 := ⟨_, Try.func30, by kernel_rfl, by kernel_rfl⟩


theorem journal_Journal_Whole_k {K : KV} {j0 : Value} {w : World}
    (h : bin Try.prog BinOp.neq 49 false true j0 (Value.pointer none) (fun t4 w =>
    gsel t4 true (fun k6 =>
    nilC j0 (fun t7 w =>
    fldA Try.prog 84 t7 2 (fun t8 w =>
    ld Try.prog 4 t8 (fun t9 w =>
    un Try.prog UnOp.not t9 (fun t10 w =>
    k6 [j0, t7, t8, t9, t10] w) w) w) w) w)
    (fun k => k [undef, undef, undef, undef, undef] w) (fun us6 w =>
    pick t4 (gd us6 4) (Value.bool false) (fun t11 w =>
    K t11 w) w)) w) :
    cCode Try.prog (cd Try.f31 []) (retK Try.prog Try.f31.results.toList K) (fun _ _ _ => False) (retK Try.prog Try.f31.results.toList K) [j0, undef, undef, undef, undef, undef, undef, undef, undef, undef, undef, undef] w := Eq.mp (by kernel_rfl) h

theorem journal_Journal_Whole_in {K : KV} {j0 : Value} {w : World}
    (h : bin Try.prog BinOp.neq 49 false true j0 (Value.pointer none) (fun t4 w =>
    gsel t4 true (fun k6 =>
    nilC j0 (fun t7 w =>
    fldA Try.prog 84 t7 2 (fun t8 w =>
    ld Try.prog 4 t8 (fun t9 w =>
    un Try.prog UnOp.not t9 (fun t10 w =>
    k6 [j0, t7, t8, t9, t10] w) w) w) w) w)
    (fun k => k [undef, undef, undef, undef, undef] w) (fun us6 w =>
    pick t4 (gd us6 4) (Value.bool false) (fun t11 w =>
    K t11 w) w)) w) :
    Gives Try.prog 31 #[j0] w K := enter' Try.func31 (by kernel_rfl) (Eq.mp (congrArg (fun c => cCode Try.prog c (retK Try.prog Try.f31.results.toList K) (fun _ _ _ => False) (retK Try.prog Try.f31.results.toList K) [j0, undef, undef, undef, undef, undef, undef, undef, undef, undef, undef, undef] w) (by kernel_rfl : (cd Try.f31 []) = (cd Try.f31 []))) (journal_Journal_Whole_k h))
theorem journal_Journal_Whole_go : isGo Try.prog 31 := ⟨_, Try.func31, by kernel_rfl, by kernel_rfl⟩

end Go.Proofs.Ytjkmblbonambjaa
