/- Written by program (gen.py): what the code of some functions asks, part by part; each text is checked by the kernel against the translation. -/
import Derived.Test.YtjkmblbonambjaaSh
import Derived.Test.YtjkmblbonambjaaChecked
namespace Go.Proofs.Ytjkmblbonambjaa
open Go.RowKit
set_option maxRecDepth 100000


theorem disk_New_k {K : KV} {w : World}
    (h : bld Try.prog 70 #[] (fun t1 w =>
    box Try.prog 70 t1 (fun t2 w =>
    K t2 w) w) w) :
    cCode Try.prog (cd Try.f11 []) (retK Try.prog Try.f11.results.toList K) (fun _ _ _ => False) (retK Try.prog Try.f11.results.toList K) [undef, undef, undef] w := Eq.mp (by kernel_rfl) h

theorem disk_New_in {K : KV} {w : World}
    (h : bld Try.prog 70 #[] (fun t1 w =>
    box Try.prog 70 t1 (fun t2 w =>
    K t2 w) w) w) :
    Gives Try.prog 11 #[] w K := enter' Try.func11 (by kernel_rfl) (Eq.mp (congrArg (fun c => cCode Try.prog c (retK Try.prog Try.f11.results.toList K) (fun _ _ _ => False) (retK Try.prog Try.f11.results.toList K) [undef, undef, undef] w) (by kernel_rfl : (cd Try.f11 []) = (cd Try.f11 []))) (disk_New_k h))
theorem disk_New_go : isGo Try.prog 11 := ⟨_, Try.func11, by kernel_rfl, by kernel_rfl⟩


theorem disk_known_k {K : KV} {file0 : Value} {w : World}
    (h : bin Try.prog BinOp.eql 3 false true file0 (Value.int IntKind.i64 0) (fun t4 w =>
    gsel t4 false (fun k6 =>
    bin Try.prog BinOp.eql 3 false true file0 (Value.int IntKind.i64 1) (fun t7 w =>
    k6 [file0, t7] w) w)
    (fun k => k [undef, undef] w) (fun us6 w =>
    pick t4 (Value.bool true) (gd us6 1) (fun t8 w =>
    K t8 w) w)) w) :
    cCode Try.prog (cd Try.f41 []) (retK Try.prog Try.f41.results.toList K) (fun _ _ _ => False) (retK Try.prog Try.f41.results.toList K) [file0, undef, undef, undef, undef, undef, undef, undef, undef] w := Eq.mp (by kernel_rfl) h

theorem disk_known_in {K : KV} {file0 : Value} {w : World}
    (h : bin Try.prog BinOp.eql 3 false true file0 (Value.int IntKind.i64 0) (fun t4 w =>
    gsel t4 false (fun k6 =>
    bin Try.prog BinOp.eql 3 false true file0 (Value.int IntKind.i64 1) (fun t7 w =>
    k6 [file0, t7] w) w)
    (fun k => k [undef, undef] w) (fun us6 w =>
    pick t4 (Value.bool true) (gd us6 1) (fun t8 w =>
    K t8 w) w)) w) :
    Gives Try.prog 41 #[file0] w K := enter' Try.func41 (by kernel_rfl) (Eq.mp (congrArg (fun c => cCode Try.prog c (retK Try.prog Try.f41.results.toList K) (fun _ _ _ => False) (retK Try.prog Try.f41.results.toList K) [file0, undef, undef, undef, undef, undef, undef, undef, undef] w) (by kernel_rfl : (cd Try.f41 []) = (cd Try.f41 []))) (disk_known_k h))
theorem disk_known_go : isGo Try.prog 41 := ⟨_, Try.func41, by kernel_rfl, by kernel_rfl⟩


theorem disk_Disk_ready_k {K : KV} {d0 : Value} {w : World}
    (h : bin Try.prog BinOp.eql 25 false true d0 (Value.pointer none) (fun t5 w =>
    cond t5
      (K (Value.int IntKind.i64 2) w)
      (nilC d0 (fun t8 w =>
      fldA Try.prog 70 t8 3 (fun t9 w =>
      ld Try.prog 4 t9 (fun t10 w =>
      cond t10
        (K (Value.int IntKind.i64 8) w)
        (K (Value.int IntKind.i64 0) w)) w) w) w)) w) :
    cCode Try.prog (cd Try.f40 []) (retK Try.prog Try.f40.results.toList K) (fun _ _ _ => False) (retK Try.prog Try.f40.results.toList K) [d0, undef, undef, undef, undef, undef, undef, undef, undef, undef, undef] w := Eq.mp (by kernel_rfl) h

theorem disk_Disk_ready_in {K : KV} {d0 : Value} {w : World}
    (h : bin Try.prog BinOp.eql 25 false true d0 (Value.pointer none) (fun t5 w =>
    cond t5
      (K (Value.int IntKind.i64 2) w)
      (nilC d0 (fun t8 w =>
      fldA Try.prog 70 t8 3 (fun t9 w =>
      ld Try.prog 4 t9 (fun t10 w =>
      cond t10
        (K (Value.int IntKind.i64 8) w)
        (K (Value.int IntKind.i64 0) w)) w) w) w)) w) :
    Gives Try.prog 40 #[d0] w K := enter' Try.func40 (by kernel_rfl) (Eq.mp (congrArg (fun c => cCode Try.prog c (retK Try.prog Try.f40.results.toList K) (fun _ _ _ => False) (retK Try.prog Try.f40.results.toList K) [d0, undef, undef, undef, undef, undef, undef, undef, undef, undef, undef] w) (by kernel_rfl : (cd Try.f40 []) = (cd Try.f40 []))) (disk_Disk_ready_k h))
theorem disk_Disk_ready_go : isGo Try.prog 40 := ⟨_, Try.func40, by kernel_rfl, by kernel_rfl⟩


theorem disk_Disk_burns_k {K : KV} {d0 : Value} {w : World}
    (h : nilC d0 (fun t4 w =>
    fldA Try.prog 70 t4 4 (fun t5 w =>
    ld Try.prog 4 t5 (fun t6 w =>
    un Try.prog UnOp.not t6 (fun t7 w =>
    cond t7
      (K (Value.bool false) w)
      (nilC d0 (fun t9 w =>
    fldA Try.prog 70 t9 5 (fun t10 w =>
    ld Try.prog 3 t10 (fun t11 w =>
    bin Try.prog BinOp.eql 3 false true t11 (Value.int IntKind.i64 0) (fun t12 w =>
    cond t12
      (call Try.prog 28 #[d0] (fun t14 w =>
      K (Value.bool true) w) w)
      (nilC d0 (fun t16 w =>
    fldA Try.prog 70 t16 5 (fun t17 w =>
    ld Try.prog 3 t17 (fun t18 w =>
    bin Try.prog BinOp.sub 3 false true t18 (Value.int IntKind.i64 1) (fun t19 w =>
    nilC d0 (fun t20 w =>
    fldA Try.prog 70 t20 5 (fun t21 w =>
    sto Try.prog 3 t21 t19 (fun _t w =>
    K (Value.bool false) w) w) w) w) w) w) w) w)) w) w) w) w)) w) w) w) w) :
    cCode Try.prog (cd Try.f58 []) (retK Try.prog Try.f58.results.toList K) (fun _ _ _ => False) (retK Try.prog Try.f58.results.toList K) [d0, undef, undef, undef, undef, undef, undef, undef, undef, undef, undef, undef, undef, undef, undef, undef, undef, undef, undef, undef, undef, undef] w := Eq.mp (by kernel_rfl) h

theorem disk_Disk_burns_in {K : KV} {d0 : Value} {w : World}
    (h : nilC d0 (fun t4 w =>
    fldA Try.prog 70 t4 4 (fun t5 w =>
    ld Try.prog 4 t5 (fun t6 w =>
    un Try.prog UnOp.not t6 (fun t7 w =>
    cond t7
      (K (Value.bool false) w)
      (nilC d0 (fun t9 w =>
    fldA Try.prog 70 t9 5 (fun t10 w =>
    ld Try.prog 3 t10 (fun t11 w =>
    bin Try.prog BinOp.eql 3 false true t11 (Value.int IntKind.i64 0) (fun t12 w =>
    cond t12
      (call Try.prog 28 #[d0] (fun t14 w =>
      K (Value.bool true) w) w)
      (nilC d0 (fun t16 w =>
    fldA Try.prog 70 t16 5 (fun t17 w =>
    ld Try.prog 3 t17 (fun t18 w =>
    bin Try.prog BinOp.sub 3 false true t18 (Value.int IntKind.i64 1) (fun t19 w =>
    nilC d0 (fun t20 w =>
    fldA Try.prog 70 t20 5 (fun t21 w =>
    sto Try.prog 3 t21 t19 (fun _t w =>
    K (Value.bool false) w) w) w) w) w) w) w) w)) w) w) w) w)) w) w) w) w) :
    Gives Try.prog 58 #[d0] w K := enter' Try.func58 (by kernel_rfl) (Eq.mp (congrArg (fun c => cCode Try.prog c (retK Try.prog Try.f58.results.toList K) (fun _ _ _ => False) (retK Try.prog Try.f58.results.toList K) [d0, undef, undef, undef, undef, undef, undef, undef, undef, undef, undef, undef, undef, undef, undef, undef, undef, undef, undef, undef, undef, undef] w) (by kernel_rfl : (cd Try.f58 []) = (cd Try.f58 []))) (disk_Disk_burns_k h))
theorem disk_Disk_burns_go : isGo Try.prog 58 := ⟨_, Try.func58, by kernel_rfl, by kernel_rfl⟩


theorem disk_Disk_make_k {K : KV} {d0 c1 : Value} {w : World}
    (h : box Try.prog 90 c1 (fun c3 w =>
    hReg (fun S w =>
    hld S (fun k w => nilC d0 k w) (fun t7 =>
    hld S (fun k w => fldA Try.prog 70 t7 2 k w) (fun t8 =>
    hld S (fun k w => ld Try.prog 68 t8 k w) (fun t9 =>
    hld S (fun k w => ld Try.prog 90 c3 k w) (fun t10 =>
    bldS Try.prog 68 1 #[(0, t10)] (fun t11 w =>
    hSub S (fun S w =>
    blt Try.prog Builtin.append #[68, 68] 68 #[false, false] #[t9, t11] (fun t12 w =>
    hSub S (fun S w =>
    hld S (fun k w => nilC d0 k w) (fun t13 =>
    hld S (fun k w => fldA Try.prog 70 t13 2 k w) (fun t14 =>
    sto Try.prog 68 t14 t12 (fun _t w =>
    hReg (fun S w =>
    hld S (fun k w => fldA Try.prog 90 c3 0 k w) (fun t15 =>
    hld S (fun k w => ld Try.prog 88 t15 k w) (fun t16 =>
    hld S (fun k w => nilC d0 k w) (fun t18 =>
    hld S (fun k w => fldA Try.prog 70 t18 1 k w) (fun t19 =>
    hld S (fun k w => fldA Try.prog 90 c3 1 k w) (fun t20 =>
    hld S (fun k w => ld Try.prog 29 t20 k w) (fun t21 =>
    callV Try.prog t16 #[t19, t21] (fun t22 w =>
    call Try.prog 58 #[d0] (fun t24 w =>
    cond t24
      (K (Value.int IntKind.i64 8) w)
      (K (Value.int IntKind.i64 0) w)) w) w))))))) w.drew) w))) w) w) w) w))))) w.drew) w) :
    cCode Try.prog (cd Try.f56 []) (retK Try.prog Try.f56.results.toList K) (fun _ _ _ => False) (retK Try.prog Try.f56.results.toList K) [d0, c1, undef, undef, undef, undef, undef, undef, undef, undef, undef, undef, undef, undef, undef, undef, undef, undef, undef, undef, undef, undef, undef, undef, undef] w := Eq.mp (by kernel_rfl) h

theorem disk_Disk_make_in {K : KV} {d0 c1 : Value} {w : World}
    (h : box Try.prog 90 c1 (fun c3 w =>
    hReg (fun S w =>
    hld S (fun k w => nilC d0 k w) (fun t7 =>
    hld S (fun k w => fldA Try.prog 70 t7 2 k w) (fun t8 =>
    hld S (fun k w => ld Try.prog 68 t8 k w) (fun t9 =>
    hld S (fun k w => ld Try.prog 90 c3 k w) (fun t10 =>
    bldS Try.prog 68 1 #[(0, t10)] (fun t11 w =>
    hSub S (fun S w =>
    blt Try.prog Builtin.append #[68, 68] 68 #[false, false] #[t9, t11] (fun t12 w =>
    hSub S (fun S w =>
    hld S (fun k w => nilC d0 k w) (fun t13 =>
    hld S (fun k w => fldA Try.prog 70 t13 2 k w) (fun t14 =>
    sto Try.prog 68 t14 t12 (fun _t w =>
    hReg (fun S w =>
    hld S (fun k w => fldA Try.prog 90 c3 0 k w) (fun t15 =>
    hld S (fun k w => ld Try.prog 88 t15 k w) (fun t16 =>
    hld S (fun k w => nilC d0 k w) (fun t18 =>
    hld S (fun k w => fldA Try.prog 70 t18 1 k w) (fun t19 =>
    hld S (fun k w => fldA Try.prog 90 c3 1 k w) (fun t20 =>
    hld S (fun k w => ld Try.prog 29 t20 k w) (fun t21 =>
    callV Try.prog t16 #[t19, t21] (fun t22 w =>
    call Try.prog 58 #[d0] (fun t24 w =>
    cond t24
      (K (Value.int IntKind.i64 8) w)
      (K (Value.int IntKind.i64 0) w)) w) w))))))) w.drew) w))) w) w) w) w))))) w.drew) w) :
    Gives Try.prog 56 #[d0, c1] w K := enter' Try.func56 (by kernel_rfl) (Eq.mp (congrArg (fun c => cCode Try.prog c (retK Try.prog Try.f56.results.toList K) (fun _ _ _ => False) (retK Try.prog Try.f56.results.toList K) [d0, c1, undef, undef, undef, undef, undef, undef, undef, undef, undef, undef, undef, undef, undef, undef, undef, undef, undef, undef, undef, undef, undef, undef, undef] w) (by kernel_rfl : (cd Try.f56 []) = (cd Try.f56 []))) (disk_Disk_make_k h))
theorem disk_Disk_make_go : isGo Try.prog 56 := ⟨_, Try.func56, by kernel_rfl, by kernel_rfl⟩


theorem disk_Disk_Append_k {K : KV} {d0 file1 b2 : Value} {w : World}
    (h : box Try.prog 3 file1 (fun file4 w =>
    call Try.prog 40 #[d0] (fun t9 w =>
    bin Try.prog BinOp.neq 33 false true t9 (Value.int IntKind.i64 0) (fun t11 w =>
    cond t11
      (K t9 w)
      (ld Try.prog 3 file4 (fun t14 w =>
    call Try.prog 41 #[t14] (fun t15 w =>
    un Try.prog UnOp.not t15 (fun t16 w =>
    cond t16
      (K (Value.int IntKind.i64 1) w)
      ((fun w =>
      sti (fun k w => nilC d0 k w) (fun t19 w =>
      sti (fun k w => fldA Try.prog 70 t19 1 k w) (fun t20 w =>
      sti (fun k w => idxA Try.prog 67 t20 (Value.int IntKind.i64 0) k w) (fun t21 w =>
      sti (fun k w => ld Try.prog 29 t21 k w) (fun t22 w =>
      sti (fun k w => blt Try.prog Builtin.len #[29] 3 #[false] #[t22] k w) (fun t23 w =>
      sti (fun k w => nilC d0 k w) (fun t25 w =>
      sti (fun k w => fldA Try.prog 70 t25 1 k w) (fun t26 w =>
      sti (fun k w => idxA Try.prog 67 t26 (Value.int IntKind.i64 1) k w) (fun t27 w =>
      sti (fun k w => ld Try.prog 29 t27 k w) (fun t28 w =>
      sti (fun k w => blt Try.prog Builtin.len #[29] 3 #[false] #[t28] k w) (fun t29 w =>
      sti (fun k w => bin Try.prog BinOp.add 3 false false t23 t29 k w) (fun t30 w =>
      sti (fun k w => blt Try.prog Builtin.len #[29] 3 #[false] #[b2] k w) (fun t32 w =>
      sti (fun k w => bin Try.prog BinOp.add 3 false false t30 t32 k w) (fun t33 w =>
      sti (fun k w => bin Try.prog BinOp.gtr 3 false true t33 (Value.int IntKind.i64 4194304) k w) (fun t34 w =>
      cond t34
        (K (Value.int IntKind.i64 7) w)
        (call Try.prog 42 #[b2] (fun t37 w =>
    bld Try.prog 90 #[(1, t37), (2, (Value.bool true)), (0, (Value.func (Fn.func 57) #[] #[file4]))] (fun t39 w =>
    call Try.prog 56 #[d0, t39] (fun t40 w =>
    K t40 w) w) w) w)) w) w) w) w) w) w) w) w) w) w) w) w) w) w) w.drew)) w) w) w)) w) w) w) :
    cCode Try.prog (cd Try.f32 []) (retK Try.prog Try.f32.results.toList K) (fun _ _ _ => False) (retK Try.prog Try.f32.results.toList K) [d0, file1, b2, undef, undef, undef, undef, undef, undef, undef, undef, undef, undef, undef, undef, undef, undef, undef, undef, undef, undef, undef, undef, undef, undef, undef, undef, undef, undef, undef, undef, undef, undef, undef, undef, undef, undef, undef, undef, undef, undef] w := Eq.mp (by kernel_rfl) h

theorem disk_Disk_Append_in {K : KV} {d0 file1 b2 : Value} {w : World}
    (h : box Try.prog 3 file1 (fun file4 w =>
    call Try.prog 40 #[d0] (fun t9 w =>
    bin Try.prog BinOp.neq 33 false true t9 (Value.int IntKind.i64 0) (fun t11 w =>
    cond t11
      (K t9 w)
      (ld Try.prog 3 file4 (fun t14 w =>
    call Try.prog 41 #[t14] (fun t15 w =>
    un Try.prog UnOp.not t15 (fun t16 w =>
    cond t16
      (K (Value.int IntKind.i64 1) w)
      ((fun w =>
      sti (fun k w => nilC d0 k w) (fun t19 w =>
      sti (fun k w => fldA Try.prog 70 t19 1 k w) (fun t20 w =>
      sti (fun k w => idxA Try.prog 67 t20 (Value.int IntKind.i64 0) k w) (fun t21 w =>
      sti (fun k w => ld Try.prog 29 t21 k w) (fun t22 w =>
      sti (fun k w => blt Try.prog Builtin.len #[29] 3 #[false] #[t22] k w) (fun t23 w =>
      sti (fun k w => nilC d0 k w) (fun t25 w =>
      sti (fun k w => fldA Try.prog 70 t25 1 k w) (fun t26 w =>
      sti (fun k w => idxA Try.prog 67 t26 (Value.int IntKind.i64 1) k w) (fun t27 w =>
      sti (fun k w => ld Try.prog 29 t27 k w) (fun t28 w =>
      sti (fun k w => blt Try.prog Builtin.len #[29] 3 #[false] #[t28] k w) (fun t29 w =>
      sti (fun k w => bin Try.prog BinOp.add 3 false false t23 t29 k w) (fun t30 w =>
      sti (fun k w => blt Try.prog Builtin.len #[29] 3 #[false] #[b2] k w) (fun t32 w =>
      sti (fun k w => bin Try.prog BinOp.add 3 false false t30 t32 k w) (fun t33 w =>
      sti (fun k w => bin Try.prog BinOp.gtr 3 false true t33 (Value.int IntKind.i64 4194304) k w) (fun t34 w =>
      cond t34
        (K (Value.int IntKind.i64 7) w)
        (call Try.prog 42 #[b2] (fun t37 w =>
    bld Try.prog 90 #[(1, t37), (2, (Value.bool true)), (0, (Value.func (Fn.func 57) #[] #[file4]))] (fun t39 w =>
    call Try.prog 56 #[d0, t39] (fun t40 w =>
    K t40 w) w) w) w)) w) w) w) w) w) w) w) w) w) w) w) w) w) w) w.drew)) w) w) w)) w) w) w) :
    Gives Try.prog 32 #[d0, file1, b2] w K := enter' Try.func32 (by kernel_rfl) (Eq.mp (congrArg (fun c => cCode Try.prog c (retK Try.prog Try.f32.results.toList K) (fun _ _ _ => False) (retK Try.prog Try.f32.results.toList K) [d0, file1, b2, undef, undef, undef, undef, undef, undef, undef, undef, undef, undef, undef, undef, undef, undef, undef, undef, undef, undef, undef, undef, undef, undef, undef, undef, undef, undef, undef, undef, undef, undef, undef, undef, undef, undef, undef, undef, undef, undef] w) (by kernel_rfl : (cd Try.f32 []) = (cd Try.f32 []))) (disk_Disk_Append_k h))
theorem disk_Disk_Append_go : isGo Try.prog 32 := ⟨_, Try.func32, by kernel_rfl, by kernel_rfl⟩


theorem disk_Disk_Append_1_k {K : KV} {f0 b1 t2 : Value} {w : World}
    (h : hReg (fun S w =>
    hld S (fun k w => ld Try.prog 3 t2 k w) (fun t6 =>
    hld S (fun k w => ld Try.prog 3 t2 k w) (fun t8 =>
    hld S (fun k w => nilC f0 k w) (fun t9 =>
    hld S (fun k w => idxA Try.prog 67 t9 t8 k w) (fun t10 =>
    hld S (fun k w => ld Try.prog 29 t10 k w) (fun t11 =>
    hld S (fun k w => ld Try.prog 3 t2 k w) (fun t13 =>
    hld S (fun k w => nilC f0 k w) (fun t14 =>
    hld S (fun k w => idxA Try.prog 67 t14 t13 k w) (fun t15 =>
    hld S (fun k w => ld Try.prog 29 t15 k w) (fun t16 =>
    hld S (fun k w => blt Try.prog Builtin.len #[29] 3 #[false] #[t16] k w) (fun t17 =>
    hld S (fun k w => ld Try.prog 3 t2 k w) (fun t19 =>
    hld S (fun k w => nilC f0 k w) (fun t20 =>
    hld S (fun k w => idxA Try.prog 67 t20 t19 k w) (fun t21 =>
    hld S (fun k w => ld Try.prog 29 t21 k w) (fun t22 =>
    hld S (fun k w => blt Try.prog Builtin.len #[29] 3 #[false] #[t22] k w) (fun t23 =>
    hld S (fun k w => slc Try.prog 29 t11 none (some t17) (some t23) k w) (fun t24 =>
    hld S (fun k w => nilC f0 k w) (fun t27 =>
    blt Try.prog Builtin.append #[29, 29] 29 #[false, false] #[t24, b1] (fun t26 w =>
    hSub S (fun S w =>
    hld S (fun k w => idxA Try.prog 67 t27 t6 k w) (fun t28 =>
    sto Try.prog 29 t28 t26 (fun _t w =>
    K (Value.tuple #[]) w) w)) w) w)))))))))))))))))) w.drew) :
    cCode Try.prog (cd Try.f57 []) (retK Try.prog Try.f57.results.toList K) (fun _ _ _ => False) (retK Try.prog Try.f57.results.toList K) [f0, b1, t2, undef, undef, undef, undef, undef, undef, undef, undef, undef, undef, undef, undef, undef, undef, undef, undef, undef, undef, undef, undef, undef, undef, undef, undef, undef, undef] w := Eq.mp (by kernel_rfl) h

theorem disk_Disk_Append_1_in {K : KV} {f0 b1 t2 : Value} {w : World}
    (h : hReg (fun S w =>
    hld S (fun k w => ld Try.prog 3 t2 k w) (fun t6 =>
    hld S (fun k w => ld Try.prog 3 t2 k w) (fun t8 =>
    hld S (fun k w => nilC f0 k w) (fun t9 =>
    hld S (fun k w => idxA Try.prog 67 t9 t8 k w) (fun t10 =>
    hld S (fun k w => ld Try.prog 29 t10 k w) (fun t11 =>
    hld S (fun k w => ld Try.prog 3 t2 k w) (fun t13 =>
    hld S (fun k w => nilC f0 k w) (fun t14 =>
    hld S (fun k w => idxA Try.prog 67 t14 t13 k w) (fun t15 =>
    hld S (fun k w => ld Try.prog 29 t15 k w) (fun t16 =>
    hld S (fun k w => blt Try.prog Builtin.len #[29] 3 #[false] #[t16] k w) (fun t17 =>
    hld S (fun k w => ld Try.prog 3 t2 k w) (fun t19 =>
    hld S (fun k w => nilC f0 k w) (fun t20 =>
    hld S (fun k w => idxA Try.prog 67 t20 t19 k w) (fun t21 =>
    hld S (fun k w => ld Try.prog 29 t21 k w) (fun t22 =>
    hld S (fun k w => blt Try.prog Builtin.len #[29] 3 #[false] #[t22] k w) (fun t23 =>
    hld S (fun k w => slc Try.prog 29 t11 none (some t17) (some t23) k w) (fun t24 =>
    hld S (fun k w => nilC f0 k w) (fun t27 =>
    blt Try.prog Builtin.append #[29, 29] 29 #[false, false] #[t24, b1] (fun t26 w =>
    hSub S (fun S w =>
    hld S (fun k w => idxA Try.prog 67 t27 t6 k w) (fun t28 =>
    sto Try.prog 29 t28 t26 (fun _t w =>
    K (Value.tuple #[]) w) w)) w) w)))))))))))))))))) w.drew) :
    Gives Try.prog 57 #[f0, b1, t2] w K := enter' Try.func57 (by kernel_rfl) (Eq.mp (congrArg (fun c => cCode Try.prog c (retK Try.prog Try.f57.results.toList K) (fun _ _ _ => False) (retK Try.prog Try.f57.results.toList K) [f0, b1, t2, undef, undef, undef, undef, undef, undef, undef, undef, undef, undef, undef, undef, undef, undef, undef, undef, undef, undef, undef, undef, undef, undef, undef, undef, undef, undef] w) (by kernel_rfl : (cd Try.f57 []) = (cd Try.f57 []))) (disk_Disk_Append_1_k h))
theorem disk_Disk_Append_1_go : isGo Try.prog 57 := ⟨_, Try.func57, by kernel_rfl, by kernel_rfl⟩


theorem disk_Disk_Cut_k {K : KV} {d0 file1 n2 : Value} {w : World}
    (h : box Try.prog 3 file1 (fun file4 w =>
    box Try.prog 3 n2 (fun n5 w =>
    call Try.prog 40 #[d0] (fun t9 w =>
    bin Try.prog BinOp.neq 33 false true t9 (Value.int IntKind.i64 0) (fun t11 w =>
    cond t11
      (K t9 w)
      ((fun w =>
    sti (fun k w => ld Try.prog 3 file4 k w) (fun t13 w =>
    sti (fun k w => call Try.prog 41 #[t13] k w) (fun t14 w =>
    sti (fun k w => un Try.prog UnOp.not t14 k w) (fun t15 w =>
    gsel t15 false (fun k17 =>
    sti (fun k w => ld Try.prog 3 n5 k w) (fun t17 w =>
    sti (fun k w => bin Try.prog BinOp.lss 3 false true t17 (Value.int IntKind.i64 0) k w) (fun t18 w =>
    k17 [t17, t18] w) w) w)
    (fun k => k [undef, undef] w) (fun us17 w =>
    sti (fun k w => pick t15 (Value.bool true) (gd us17 1) k w) (fun t19 w =>
    gsel t19 false (fun k21 =>
    sti (fun k w => ld Try.prog 3 n5 k w) (fun t21 w =>
    sti (fun k w => ld Try.prog 3 file4 k w) (fun t23 w =>
    sti (fun k w => nilC d0 k w) (fun t24 w =>
    sti (fun k w => fldA Try.prog 70 t24 1 k w) (fun t25 w =>
    sti (fun k w => idxA Try.prog 67 t25 t23 k w) (fun t26 w =>
    sti (fun k w => ld Try.prog 29 t26 k w) (fun t27 w =>
    sti (fun k w => blt Try.prog Builtin.len #[29] 3 #[false] #[t27] k w) (fun t28 w =>
    sti (fun k w => bin Try.prog BinOp.gtr 3 false false t21 t28 k w) (fun t29 w =>
    k21 [t21, d0, t23, t24, t25, t26, t27, t28, t29] w) w) w) w) w) w) w) w) w)
    (fun k => k [undef, undef, undef, undef, undef, undef, undef, undef, undef] w) (fun us21 w =>
    sti (fun k w => pick t19 (Value.bool true) (gd us21 8) k w) (fun t30 w =>
    cond t30
      (K (Value.int IntKind.i64 1) w)
      (bld Try.prog 90 #[(0, (Value.func (Fn.func 60) #[] #[file4, n5]))] (fun t33 w =>
    call Try.prog 56 #[d0, t33] (fun t34 w =>
    K t34 w) w) w)) w)) w)) w) w) w) w.drew)) w) w) w) w) :
    cCode Try.prog (cd Try.f35 []) (retK Try.prog Try.f35.results.toList K) (fun _ _ _ => False) (retK Try.prog Try.f35.results.toList K) [d0, file1, n2, undef, undef, undef, undef, undef, undef, undef, undef, undef, undef, undef, undef, undef, undef, undef, undef, undef, undef, undef, undef, undef, undef, undef, undef, undef, undef, undef, undef, undef, undef, undef, undef] w := Eq.mp (by kernel_rfl) h

theorem disk_Disk_Cut_in {K : KV} {d0 file1 n2 : Value} {w : World}
    (h : box Try.prog 3 file1 (fun file4 w =>
    box Try.prog 3 n2 (fun n5 w =>
    call Try.prog 40 #[d0] (fun t9 w =>
    bin Try.prog BinOp.neq 33 false true t9 (Value.int IntKind.i64 0) (fun t11 w =>
    cond t11
      (K t9 w)
      ((fun w =>
    sti (fun k w => ld Try.prog 3 file4 k w) (fun t13 w =>
    sti (fun k w => call Try.prog 41 #[t13] k w) (fun t14 w =>
    sti (fun k w => un Try.prog UnOp.not t14 k w) (fun t15 w =>
    gsel t15 false (fun k17 =>
    sti (fun k w => ld Try.prog 3 n5 k w) (fun t17 w =>
    sti (fun k w => bin Try.prog BinOp.lss 3 false true t17 (Value.int IntKind.i64 0) k w) (fun t18 w =>
    k17 [t17, t18] w) w) w)
    (fun k => k [undef, undef] w) (fun us17 w =>
    sti (fun k w => pick t15 (Value.bool true) (gd us17 1) k w) (fun t19 w =>
    gsel t19 false (fun k21 =>
    sti (fun k w => ld Try.prog 3 n5 k w) (fun t21 w =>
    sti (fun k w => ld Try.prog 3 file4 k w) (fun t23 w =>
    sti (fun k w => nilC d0 k w) (fun t24 w =>
    sti (fun k w => fldA Try.prog 70 t24 1 k w) (fun t25 w =>
    sti (fun k w => idxA Try.prog 67 t25 t23 k w) (fun t26 w =>
    sti (fun k w => ld Try.prog 29 t26 k w) (fun t27 w =>
    sti (fun k w => blt Try.prog Builtin.len #[29] 3 #[false] #[t27] k w) (fun t28 w =>
    sti (fun k w => bin Try.prog BinOp.gtr 3 false false t21 t28 k w) (fun t29 w =>
    k21 [t21, d0, t23, t24, t25, t26, t27, t28, t29] w) w) w) w) w) w) w) w) w)
    (fun k => k [undef, undef, undef, undef, undef, undef, undef, undef, undef] w) (fun us21 w =>
    sti (fun k w => pick t19 (Value.bool true) (gd us21 8) k w) (fun t30 w =>
    cond t30
      (K (Value.int IntKind.i64 1) w)
      (bld Try.prog 90 #[(0, (Value.func (Fn.func 60) #[] #[file4, n5]))] (fun t33 w =>
    call Try.prog 56 #[d0, t33] (fun t34 w =>
    K t34 w) w) w)) w)) w)) w) w) w) w.drew)) w) w) w) w) :
    Gives Try.prog 35 #[d0, file1, n2] w K := enter' Try.func35 (by kernel_rfl) (Eq.mp (congrArg (fun c => cCode Try.prog c (retK Try.prog Try.f35.results.toList K) (fun _ _ _ => False) (retK Try.prog Try.f35.results.toList K) [d0, file1, n2, undef, undef, undef, undef, undef, undef, undef, undef, undef, undef, undef, undef, undef, undef, undef, undef, undef, undef, undef, undef, undef, undef, undef, undef, undef, undef, undef, undef, undef, undef, undef, undef] w) (by kernel_rfl : (cd Try.f35 []) = (cd Try.f35 []))) (disk_Disk_Cut_k h))
theorem disk_Disk_Cut_go : isGo Try.prog 35 := ⟨_, Try.func35, by kernel_rfl, by kernel_rfl⟩


theorem disk_Disk_Cut_1_k {K : KV} {f0 t1 t2 t3 : Value} {w : World}
    (h : (fun w =>
    sti (fun k w => ld Try.prog 3 t2 k w) (fun t7 w =>
    sti (fun k w => ld Try.prog 3 t2 k w) (fun t9 w =>
    sti (fun k w => nilC f0 k w) (fun t10 w =>
    sti (fun k w => idxA Try.prog 67 t10 t9 k w) (fun t11 w =>
    sti (fun k w => ld Try.prog 29 t11 k w) (fun t12 w =>
    sti (fun k w => ld Try.prog 3 t3 k w) (fun t13 w =>
    sti (fun k w => ld Try.prog 3 t3 k w) (fun t14 w =>
    sti (fun k w => slc Try.prog 29 t12 none (some t13) (some t14) k w) (fun t15 w =>
    sti (fun k w => nilC f0 k w) (fun t16 w =>
    sti (fun k w => idxA Try.prog 67 t16 t7 k w) (fun t17 w =>
    sto Try.prog 29 t17 t15 (fun _t w =>
    K (Value.tuple #[]) w) w) w) w) w) w) w) w) w) w) w) w) w.drew) :
    cCode Try.prog (cd Try.f60 []) (retK Try.prog Try.f60.results.toList K) (fun _ _ _ => False) (retK Try.prog Try.f60.results.toList K) [f0, t1, t2, t3, undef, undef, undef, undef, undef, undef, undef, undef, undef, undef, undef, undef, undef, undef] w := Eq.mp (by kernel_rfl) h

theorem disk_Disk_Cut_1_in {K : KV} {f0 t1 t2 t3 : Value} {w : World}
    (h : (fun w =>
    sti (fun k w => ld Try.prog 3 t2 k w) (fun t7 w =>
    sti (fun k w => ld Try.prog 3 t2 k w) (fun t9 w =>
    sti (fun k w => nilC f0 k w) (fun t10 w =>
    sti (fun k w => idxA Try.prog 67 t10 t9 k w) (fun t11 w =>
    sti (fun k w => ld Try.prog 29 t11 k w) (fun t12 w =>
    sti (fun k w => ld Try.prog 3 t3 k w) (fun t13 w =>
    sti (fun k w => ld Try.prog 3 t3 k w) (fun t14 w =>
    sti (fun k w => slc Try.prog 29 t12 none (some t13) (some t14) k w) (fun t15 w =>
    sti (fun k w => nilC f0 k w) (fun t16 w =>
    sti (fun k w => idxA Try.prog 67 t16 t7 k w) (fun t17 w =>
    sto Try.prog 29 t17 t15 (fun _t w =>
    K (Value.tuple #[]) w) w) w) w) w) w) w) w) w) w) w) w) w.drew) :
    Gives Try.prog 60 #[f0, t1, t2, t3] w K := enter' Try.func60 (by kernel_rfl) (Eq.mp (congrArg (fun c => cCode Try.prog c (retK Try.prog Try.f60.results.toList K) (fun _ _ _ => False) (retK Try.prog Try.f60.results.toList K) [f0, t1, t2, t3, undef, undef, undef, undef, undef, undef, undef, undef, undef, undef, undef, undef, undef, undef] w) (by kernel_rfl : (cd Try.f60 []) = (cd Try.f60 []))) (disk_Disk_Cut_1_k h))
theorem disk_Disk_Cut_1_go : isGo Try.prog 60 := ⟨_, Try.func60, by kernel_rfl, by kernel_rfl⟩


theorem disk_Disk_Rename_k {K : KV} {d0 : Value} {w : World}
    (h : call Try.prog 40 #[d0] (fun t5 w =>
    bin Try.prog BinOp.neq 33 false true t5 (Value.int IntKind.i64 0) (fun t7 w =>
    cond t7
      (K t5 w)
      (bld Try.prog 90 #[(0, (Value.func (Fn.func 59) #[] #[]))] (fun t10 w =>
    call Try.prog 56 #[d0, t10] (fun t11 w =>
    K t11 w) w) w)) w) w) :
    cCode Try.prog (cd Try.f34 []) (retK Try.prog Try.f34.results.toList K) (fun _ _ _ => False) (retK Try.prog Try.f34.results.toList K) [d0, undef, undef, undef, undef, undef, undef, undef, undef, undef, undef, undef] w := Eq.mp (by kernel_rfl) h

theorem disk_Disk_Rename_in {K : KV} {d0 : Value} {w : World}
    (h : call Try.prog 40 #[d0] (fun t5 w =>
    bin Try.prog BinOp.neq 33 false true t5 (Value.int IntKind.i64 0) (fun t7 w =>
    cond t7
      (K t5 w)
      (bld Try.prog 90 #[(0, (Value.func (Fn.func 59) #[] #[]))] (fun t10 w =>
    call Try.prog 56 #[d0, t10] (fun t11 w =>
    K t11 w) w) w)) w) w) :
    Gives Try.prog 34 #[d0] w K := enter' Try.func34 (by kernel_rfl) (Eq.mp (congrArg (fun c => cCode Try.prog c (retK Try.prog Try.f34.results.toList K) (fun _ _ _ => False) (retK Try.prog Try.f34.results.toList K) [d0, undef, undef, undef, undef, undef, undef, undef, undef, undef, undef, undef] w) (by kernel_rfl : (cd Try.f34 []) = (cd Try.f34 []))) (disk_Disk_Rename_k h))
theorem disk_Disk_Rename_go : isGo Try.prog 34 := ⟨_, Try.func34, by kernel_rfl, by kernel_rfl⟩


theorem disk_Disk_Rename_1_k {K : KV} {f0 t1 : Value} {w : World}
    (h : hReg (fun S w =>
    hld S (fun k w => nilC f0 k w) (fun t7 =>
    hld S (fun k w => idxA Try.prog 67 t7 (Value.int IntKind.i64 1) k w) (fun t8 =>
    hld S (fun k w => ld Try.prog 29 t8 k w) (fun t9 =>
    hld S (fun k w => nilC f0 k w) (fun t10 =>
    hld S (fun k w => idxA Try.prog 67 t10 (Value.int IntKind.i64 0) k w) (fun t11 =>
    hld S (fun k w => nilC f0 k w) (fun t12 =>
    sto Try.prog 29 t11 t9 (fun _t w =>
    hSub S (fun S w =>
    hld S (fun k w => idxA Try.prog 67 t12 (Value.int IntKind.i64 1) k w) (fun t13 =>
    sto Try.prog 29 t13 (Value.slice none 0 0) (fun _t w =>
    K (Value.tuple #[]) w) w)) w) w))))))) w.drew) :
    cCode Try.prog (cd Try.f59 []) (retK Try.prog Try.f59.results.toList K) (fun _ _ _ => False) (retK Try.prog Try.f59.results.toList K) [f0, t1, undef, undef, undef, undef, undef, undef, undef, undef, undef, undef, undef, undef] w := Eq.mp (by kernel_rfl) h

theorem disk_Disk_Rename_1_in {K : KV} {f0 t1 : Value} {w : World}
    (h : hReg (fun S w =>
    hld S (fun k w => nilC f0 k w) (fun t7 =>
    hld S (fun k w => idxA Try.prog 67 t7 (Value.int IntKind.i64 1) k w) (fun t8 =>
    hld S (fun k w => ld Try.prog 29 t8 k w) (fun t9 =>
    hld S (fun k w => nilC f0 k w) (fun t10 =>
    hld S (fun k w => idxA Try.prog 67 t10 (Value.int IntKind.i64 0) k w) (fun t11 =>
    hld S (fun k w => nilC f0 k w) (fun t12 =>
    sto Try.prog 29 t11 t9 (fun _t w =>
    hSub S (fun S w =>
    hld S (fun k w => idxA Try.prog 67 t12 (Value.int IntKind.i64 1) k w) (fun t13 =>
    sto Try.prog 29 t13 (Value.slice none 0 0) (fun _t w =>
    K (Value.tuple #[]) w) w)) w) w))))))) w.drew) :
    Gives Try.prog 59 #[f0, t1] w K := enter' Try.func59 (by kernel_rfl) (Eq.mp (congrArg (fun c => cCode Try.prog c (retK Try.prog Try.f59.results.toList K) (fun _ _ _ => False) (retK Try.prog Try.f59.results.toList K) [f0, t1, undef, undef, undef, undef, undef, undef, undef, undef, undef, undef, undef, undef] w) (by kernel_rfl : (cd Try.f59 []) = (cd Try.f59 []))) (disk_Disk_Rename_1_k h))
theorem disk_Disk_Rename_1_go : isGo Try.prog 59 := ⟨_, Try.func59, by kernel_rfl, by kernel_rfl⟩


theorem disk_Disk_Sync_k {K : KV} {d0 : Value} {w : World}
    (h : call Try.prog 40 #[d0] (fun t5 w =>
    bin Try.prog BinOp.neq 33 false true t5 (Value.int IntKind.i64 0) (fun t7 w =>
    cond t7
      (K t5 w)
      (call Try.prog 58 #[d0] (fun t10 w =>
    cond t10
      (K (Value.int IntKind.i64 8) w)
      (nilC d0 (fun t14 w =>
    fldA Try.prog 70 t14 1 (fun t15 w =>
    ld Try.prog 67 t15 (fun t16 w =>
    nilC d0 (fun t17 w =>
    fldA Try.prog 70 t17 0 (fun t18 w =>
    sto Try.prog 67 t18 t16 (fun _t w =>
    nilC d0 (fun t19 w =>
    fldA Try.prog 70 t19 2 (fun t20 w =>
    sto Try.prog 68 t20 (Value.slice none 0 0) (fun _t w =>
    K (Value.int IntKind.i64 0) w) w) w) w) w) w) w) w) w) w)) w)) w) w) :
    cCode Try.prog (cd Try.f33 []) (retK Try.prog Try.f33.results.toList K) (fun _ _ _ => False) (retK Try.prog Try.f33.results.toList K) [d0, undef, undef, undef, undef, undef, undef, undef, undef, undef, undef, undef, undef, undef, undef, undef, undef, undef, undef, undef, undef] w := Eq.mp (by kernel_rfl) h

theorem disk_Disk_Sync_in {K : KV} {d0 : Value} {w : World}
    (h : call Try.prog 40 #[d0] (fun t5 w =>
    bin Try.prog BinOp.neq 33 false true t5 (Value.int IntKind.i64 0) (fun t7 w =>
    cond t7
      (K t5 w)
      (call Try.prog 58 #[d0] (fun t10 w =>
    cond t10
      (K (Value.int IntKind.i64 8) w)
      (nilC d0 (fun t14 w =>
    fldA Try.prog 70 t14 1 (fun t15 w =>
    ld Try.prog 67 t15 (fun t16 w =>
    nilC d0 (fun t17 w =>
    fldA Try.prog 70 t17 0 (fun t18 w =>
    sto Try.prog 67 t18 t16 (fun _t w =>
    nilC d0 (fun t19 w =>
    fldA Try.prog 70 t19 2 (fun t20 w =>
    sto Try.prog 68 t20 (Value.slice none 0 0) (fun _t w =>
    K (Value.int IntKind.i64 0) w) w) w) w) w) w) w) w) w) w)) w)) w) w) :
    Gives Try.prog 33 #[d0] w K := enter' Try.func33 (by kernel_rfl) (Eq.mp (congrArg (fun c => cCode Try.prog c (retK Try.prog Try.f33.results.toList K) (fun _ _ _ => False) (retK Try.prog Try.f33.results.toList K) [d0, undef, undef, undef, undef, undef, undef, undef, undef, undef, undef, undef, undef, undef, undef, undef, undef, undef, undef, undef, undef] w) (by kernel_rfl : (cd Try.f33 []) = (cd Try.f33 []))) (disk_Disk_Sync_k h))
theorem disk_Disk_Sync_go : isGo Try.prog 33 := ⟨_, Try.func33, by kernel_rfl, by kernel_rfl⟩


theorem disk_Disk_Read_k {K : KV} {d0 file1 : Value} {w : World}
    (h : call Try.prog 40 #[d0] (fun t8 w =>
    bin Try.prog BinOp.neq 33 false true t8 (Value.int IntKind.i64 0) (fun t10 w =>
    cond t10
      (K (Value.tuple #[(Value.slice none 0 0), t8]) w)
      (call Try.prog 41 #[file1] (fun t13 w =>
    un Try.prog UnOp.not t13 (fun t14 w =>
    cond t14
      (K (Value.tuple #[(Value.slice none 0 0), (Value.int IntKind.i64 1)]) w)
      (nilC d0 (fun t17 w =>
    fldA Try.prog 70 t17 1 (fun t18 w =>
    idxA Try.prog 67 t18 file1 (fun t19 w =>
    ld Try.prog 29 t19 (fun t20 w =>
    call Try.prog 42 #[t20] (fun t21 w =>
    K (Value.tuple #[t21, (Value.int IntKind.i64 0)]) w) w) w) w) w) w)) w) w)) w) w) :
    cCode Try.prog (cd Try.f17 []) (retK Try.prog Try.f17.results.toList K) (fun _ _ _ => False) (retK Try.prog Try.f17.results.toList K) [d0, file1, undef, undef, undef, undef, undef, undef, undef, undef, undef, undef, undef, undef, undef, undef, undef, undef, undef, undef, undef, undef] w := Eq.mp (by kernel_rfl) h

theorem disk_Disk_Read_in {K : KV} {d0 file1 : Value} {w : World}
    (h : call Try.prog 40 #[d0] (fun t8 w =>
    bin Try.prog BinOp.neq 33 false true t8 (Value.int IntKind.i64 0) (fun t10 w =>
    cond t10
      (K (Value.tuple #[(Value.slice none 0 0), t8]) w)
      (call Try.prog 41 #[file1] (fun t13 w =>
    un Try.prog UnOp.not t13 (fun t14 w =>
    cond t14
      (K (Value.tuple #[(Value.slice none 0 0), (Value.int IntKind.i64 1)]) w)
      (nilC d0 (fun t17 w =>
    fldA Try.prog 70 t17 1 (fun t18 w =>
    idxA Try.prog 67 t18 file1 (fun t19 w =>
    ld Try.prog 29 t19 (fun t20 w =>
    call Try.prog 42 #[t20] (fun t21 w =>
    K (Value.tuple #[t21, (Value.int IntKind.i64 0)]) w) w) w) w) w) w)) w) w)) w) w) :
    Gives Try.prog 17 #[d0, file1] w K := enter' Try.func17 (by kernel_rfl) (Eq.mp (congrArg (fun c => cCode Try.prog c (retK Try.prog Try.f17.results.toList K) (fun _ _ _ => False) (retK Try.prog Try.f17.results.toList K) [d0, file1, undef, undef, undef, undef, undef, undef, undef, undef, undef, undef, undef, undef, undef, undef, undef, undef, undef, undef, undef, undef] w) (by kernel_rfl : (cd Try.f17 []) = (cd Try.f17 []))) (disk_Disk_Read_k h))
theorem disk_Disk_Read_go : isGo Try.prog 17 := ⟨_, Try.func17, by kernel_rfl, by kernel_rfl⟩


theorem disk_Disk_Fuse_k {K : KV} {d0 n1 : Value} {w : World}
    (h : bin Try.prog BinOp.neq 25 false true d0 (Value.pointer none) (fun t5 w =>
    cond t5
      (bin Try.prog BinOp.geq 3 false true n1 (Value.int IntKind.i64 0) (fun t9 w =>
      nilC d0 (fun t11 w =>
      fldA Try.prog 70 t11 4 (fun t12 w =>
      sto Try.prog 4 t12 t9 (fun _t w =>
      nilC d0 (fun t13 w =>
      fldA Try.prog 70 t13 5 (fun t14 w =>
      sto Try.prog 3 t14 n1 (fun _t w =>
      K (Value.tuple #[]) w) w) w) w) w) w) w) w)
      (K (Value.tuple #[]) w)) w) :
    cCode Try.prog (cd Try.f22 []) (retK Try.prog Try.f22.results.toList K) (fun _ _ _ => False) (retK Try.prog Try.f22.results.toList K) [d0, n1, undef, undef, undef, undef, undef, undef, undef, undef, undef, undef, undef, undef, undef] w := Eq.mp (by kernel_rfl) h

theorem disk_Disk_Fuse_in {K : KV} {d0 n1 : Value} {w : World}
    (h : bin Try.prog BinOp.neq 25 false true d0 (Value.pointer none) (fun t5 w =>
    cond t5
      (bin Try.prog BinOp.geq 3 false true n1 (Value.int IntKind.i64 0) (fun t9 w =>
      nilC d0 (fun t11 w =>
      fldA Try.prog 70 t11 4 (fun t12 w =>
      sto Try.prog 4 t12 t9 (fun _t w =>
      nilC d0 (fun t13 w =>
      fldA Try.prog 70 t13 5 (fun t14 w =>
      sto Try.prog 3 t14 n1 (fun _t w =>
      K (Value.tuple #[]) w) w) w) w) w) w) w) w)
      (K (Value.tuple #[]) w)) w) :
    Gives Try.prog 22 #[d0, n1] w K := enter' Try.func22 (by kernel_rfl) (Eq.mp (congrArg (fun c => cCode Try.prog c (retK Try.prog Try.f22.results.toList K) (fun _ _ _ => False) (retK Try.prog Try.f22.results.toList K) [d0, n1, undef, undef, undef, undef, undef, undef, undef, undef, undef, undef, undef, undef, undef] w) (by kernel_rfl : (cd Try.f22 []) = (cd Try.f22 []))) (disk_Disk_Fuse_k h))
theorem disk_Disk_Fuse_go : isGo Try.prog 22 := ⟨_, Try.func22, by kernel_rfl, by kernel_rfl⟩


theorem disk_Disk_Off_k {K : KV} {d0 : Value} {w : World}
    (h : bin Try.prog BinOp.neq 25 false true d0 (Value.pointer none) (fun t3 w =>
    cond t3
      (nilC d0 (fun t6 w =>
      fldA Try.prog 70 t6 3 (fun t7 w =>
      sto Try.prog 4 t7 (Value.bool true) (fun _t w =>
      nilC d0 (fun t8 w =>
      fldA Try.prog 70 t8 4 (fun t9 w =>
      sto Try.prog 4 t9 (Value.bool false) (fun _t w =>
      K (Value.tuple #[]) w) w) w) w) w) w) w)
      (K (Value.tuple #[]) w)) w) :
    cCode Try.prog (cd Try.f28 []) (retK Try.prog Try.f28.results.toList K) (fun _ _ _ => False) (retK Try.prog Try.f28.results.toList K) [d0, undef, undef, undef, undef, undef, undef, undef, undef, undef] w := Eq.mp (by kernel_rfl) h

theorem disk_Disk_Off_in {K : KV} {d0 : Value} {w : World}
    (h : bin Try.prog BinOp.neq 25 false true d0 (Value.pointer none) (fun t3 w =>
    cond t3
      (nilC d0 (fun t6 w =>
      fldA Try.prog 70 t6 3 (fun t7 w =>
      sto Try.prog 4 t7 (Value.bool true) (fun _t w =>
      nilC d0 (fun t8 w =>
      fldA Try.prog 70 t8 4 (fun t9 w =>
      sto Try.prog 4 t9 (Value.bool false) (fun _t w =>
      K (Value.tuple #[]) w) w) w) w) w) w) w)
      (K (Value.tuple #[]) w)) w) :
    Gives Try.prog 28 #[d0] w K := enter' Try.func28 (by kernel_rfl) (Eq.mp (congrArg (fun c => cCode Try.prog c (retK Try.prog Try.f28.results.toList K) (fun _ _ _ => False) (retK Try.prog Try.f28.results.toList K) [d0, undef, undef, undef, undef, undef, undef, undef, undef, undef] w) (by kernel_rfl : (cd Try.f28 []) = (cd Try.f28 []))) (disk_Disk_Off_k h))
theorem disk_Disk_Off_go : isGo Try.prog 28 := ⟨_, Try.func28, by kernel_rfl, by kernel_rfl⟩


theorem disk_pick_k {K : KV} {l0 i1 among2 : Value} {w : World}
    (h : blt Try.prog Builtin.len #[30] 3 #[false] #[l0] (fun t9 w =>
    bin Try.prog BinOp.geq 3 false false i1 t9 (fun t10 w =>
    gsel t10 false (fun k12 =>
    idxA Try.prog 30 l0 i1 (fun t14 w =>
    ld Try.prog 3 t14 (fun t15 w =>
    bin Try.prog BinOp.lss 3 false true t15 (Value.int IntKind.i64 0) (fun t16 w =>
    k12 [l0, i1, t14, t15, t16] w) w) w) w)
    (fun k => k [undef, undef, undef, undef, undef] w) (fun us12 w =>
    pick t10 (Value.bool true) (gd us12 4) (fun t17 w =>
    cond t17
      (K (Value.int IntKind.i64 0) w)
      (idxA Try.prog 30 l0 i1 (fun t20 w =>
    ld Try.prog 3 t20 (fun t21 w =>
    bin Try.prog BinOp.rem 3 false false t21 among2 (fun t23 w =>
    K t23 w) w) w) w)) w)) w) w) :
    cCode Try.prog (cd Try.f55 []) (retK Try.prog Try.f55.results.toList K) (fun _ _ _ => False) (retK Try.prog Try.f55.results.toList K) [l0, i1, among2, undef, undef, undef, undef, undef, undef, undef, undef, undef, undef, undef, undef, undef, undef, undef, undef, undef, undef, undef, undef, undef] w := Eq.mp (by kernel_rfl) h

theorem disk_pick_in {K : KV} {l0 i1 among2 : Value} {w : World}
    (h : blt Try.prog Builtin.len #[30] 3 #[false] #[l0] (fun t9 w =>
    bin Try.prog BinOp.geq 3 false false i1 t9 (fun t10 w =>
    gsel t10 false (fun k12 =>
    idxA Try.prog 30 l0 i1 (fun t14 w =>
    ld Try.prog 3 t14 (fun t15 w =>
    bin Try.prog BinOp.lss 3 false true t15 (Value.int IntKind.i64 0) (fun t16 w =>
    k12 [l0, i1, t14, t15, t16] w) w) w) w)
    (fun k => k [undef, undef, undef, undef, undef] w) (fun us12 w =>
    pick t10 (Value.bool true) (gd us12 4) (fun t17 w =>
    cond t17
      (K (Value.int IntKind.i64 0) w)
      (idxA Try.prog 30 l0 i1 (fun t20 w =>
    ld Try.prog 3 t20 (fun t21 w =>
    bin Try.prog BinOp.rem 3 false false t21 among2 (fun t23 w =>
    K t23 w) w) w) w)) w)) w) w) :
    Gives Try.prog 55 #[l0, i1, among2] w K := enter' Try.func55 (by kernel_rfl) (Eq.mp (congrArg (fun c => cCode Try.prog c (retK Try.prog Try.f55.results.toList K) (fun _ _ _ => False) (retK Try.prog Try.f55.results.toList K) [l0, i1, among2, undef, undef, undef, undef, undef, undef, undef, undef, undef, undef, undef, undef, undef, undef, undef, undef, undef, undef, undef, undef, undef] w) (by kernel_rfl : (cd Try.f55 []) = (cd Try.f55 []))) (disk_pick_k h))
theorem disk_pick_go : isGo Try.prog 55 := ⟨_, Try.func55, by kernel_rfl, by kernel_rfl⟩

def disk_Disk_On_A1 (K : KV) : KE := cCode Try.prog (cd Try.f25 [1, 1, 1, 1]) (retK Try.prog Try.f25.results.toList K) (fun _ _ _ => False) (retK Try.prog Try.f25.results.toList K)
def disk_Disk_On_P1 (K : KV) : KE := cCode Try.prog (cd Try.f25 [1, 1, 1, 1, 1]) (retK Try.prog Try.f25.results.toList K) (fun _ _ _ => False) (retK Try.prog Try.f25.results.toList K)
def disk_Disk_On_L1 (K : KV) : KE := cCode Try.prog (cd Try.f25 [1, 1, 1, 1, 0, 1, 0]) (disk_Disk_On_P1 K) (fun i => @Bool.rec (fun _ => KE) ((fun _ _ _ => False) i) (disk_Disk_On_P1 K) (Nat.beq i 1)) (retK Try.prog Try.f25.results.toList K)
def disk_Disk_On_P2 (K : KV) : KE := cCode Try.prog (cd Try.f25 [1, 1, 1, 1, 1, 1]) (retK Try.prog Try.f25.results.toList K) (fun _ _ _ => False) (retK Try.prog Try.f25.results.toList K)
def disk_Disk_On_A2 (K : KV) : KE := cCode Try.prog (cd Try.f25 [1, 1, 1, 1, 1, 0, 1]) (disk_Disk_On_P2 K) (fun _ _ _ => False) (retK Try.prog Try.f25.results.toList K)
theorem disk_Disk_On_k {K : KV} (x0 : Code) {d0 picks1 : Value} {w : World}
    (h : bin Try.prog BinOp.eql 25 false true d0 (Value.pointer none) (fun t12 w =>
    cond t12
      (K (Value.int IntKind.i64 2) w)
      (nilC d0 (fun t15 w =>
      fldA Try.prog 70 t15 3 (fun t16 w =>
      ld Try.prog 4 t16 (fun t17 w =>
      un Try.prog UnOp.not t17 (fun t18 w =>
      cond t18
        (K (Value.int IntKind.i64 3) w)
        (nilC d0 (fun t21 w =>
    fldA Try.prog 70 t21 2 (fun t22 w =>
    ld Try.prog 68 t22 (fun t23 w =>
    blt Try.prog Builtin.len #[68] 3 #[false] #[t23] (fun t24 w =>
    bin Try.prog BinOp.add 3 false true t24 (Value.int IntKind.i64 1) (fun t25 w =>
    call Try.prog 55 #[picks1, (Value.int IntKind.i64 0), t25] (fun t26 w =>
    nilC d0 (fun t28 w =>
    fldA Try.prog 70 t28 0 (fun t29 w =>
    ld Try.prog 67 t29 (fun t30 w =>
    alc Try.prog 67 (fun f6 w =>
    sto Try.prog 67 f6 t30 (fun _t w =>
    (cCode Try.prog x0 (retK Try.prog Try.f25.results.toList K) (fun _ _ _ => False) (retK Try.prog Try.f25.results.toList K)) (d0 :: picks1 :: undef :: undef :: (Value.int IntKind.i64 0) :: t26 :: f6 :: undef :: undef :: undef :: t12 :: d0 :: t12 :: t18 :: d0 :: t15 :: t16 :: t17 :: t18 :: picks1 :: d0 :: t21 :: t22 :: t23 :: t24 :: t25 :: t26 :: d0 :: t28 :: t29 :: t30 :: undef :: undef :: undef :: undef :: undef :: undef :: undef :: undef :: undef :: undef :: undef :: undef :: undef :: undef :: undef :: undef :: undef :: undef :: undef :: undef :: undef :: undef :: undef :: undef :: undef :: undef :: undef :: undef :: undef :: undef :: undef :: undef :: undef :: undef :: undef :: undef :: undef :: undef :: undef :: undef :: undef :: undef :: undef :: undef :: undef :: undef :: undef :: undef :: undef :: undef :: []) w) w) w) w) w) w) w) w) w) w) w) w)) w) w) w) w)) w) :
    cCode Try.prog (rep [1, 1, 1, 1] x0 (cd Try.f25 [])) (retK Try.prog Try.f25.results.toList K) (fun _ _ _ => False) (retK Try.prog Try.f25.results.toList K) (d0 :: picks1 :: undef :: undef :: undef :: undef :: undef :: undef :: undef :: undef :: undef :: undef :: undef :: undef :: undef :: undef :: undef :: undef :: undef :: undef :: undef :: undef :: undef :: undef :: undef :: undef :: undef :: undef :: undef :: undef :: undef :: undef :: undef :: undef :: undef :: undef :: undef :: undef :: undef :: undef :: undef :: undef :: undef :: undef :: undef :: undef :: undef :: undef :: undef :: undef :: undef :: undef :: undef :: undef :: undef :: undef :: undef :: undef :: undef :: undef :: undef :: undef :: undef :: undef :: undef :: undef :: undef :: undef :: undef :: undef :: undef :: undef :: undef :: undef :: undef :: undef :: undef :: undef :: undef :: undef :: undef :: []) w := Eq.mp (by kernel_rfl) h

theorem disk_Disk_On_in {K : KV} {d0 picks1 : Value} {w : World}
    (h : bin Try.prog BinOp.eql 25 false true d0 (Value.pointer none) (fun t12 w =>
    cond t12
      (K (Value.int IntKind.i64 2) w)
      (nilC d0 (fun t15 w =>
      fldA Try.prog 70 t15 3 (fun t16 w =>
      ld Try.prog 4 t16 (fun t17 w =>
      un Try.prog UnOp.not t17 (fun t18 w =>
      cond t18
        (K (Value.int IntKind.i64 3) w)
        (nilC d0 (fun t21 w =>
    fldA Try.prog 70 t21 2 (fun t22 w =>
    ld Try.prog 68 t22 (fun t23 w =>
    blt Try.prog Builtin.len #[68] 3 #[false] #[t23] (fun t24 w =>
    bin Try.prog BinOp.add 3 false true t24 (Value.int IntKind.i64 1) (fun t25 w =>
    call Try.prog 55 #[picks1, (Value.int IntKind.i64 0), t25] (fun t26 w =>
    nilC d0 (fun t28 w =>
    fldA Try.prog 70 t28 0 (fun t29 w =>
    ld Try.prog 67 t29 (fun t30 w =>
    alc Try.prog 67 (fun f6 w =>
    sto Try.prog 67 f6 t30 (fun _t w =>
    (disk_Disk_On_A1 K) (d0 :: picks1 :: undef :: undef :: (Value.int IntKind.i64 0) :: t26 :: f6 :: undef :: undef :: undef :: t12 :: d0 :: t12 :: t18 :: d0 :: t15 :: t16 :: t17 :: t18 :: picks1 :: d0 :: t21 :: t22 :: t23 :: t24 :: t25 :: t26 :: d0 :: t28 :: t29 :: t30 :: undef :: undef :: undef :: undef :: undef :: undef :: undef :: undef :: undef :: undef :: undef :: undef :: undef :: undef :: undef :: undef :: undef :: undef :: undef :: undef :: undef :: undef :: undef :: undef :: undef :: undef :: undef :: undef :: undef :: undef :: undef :: undef :: undef :: undef :: undef :: undef :: undef :: undef :: undef :: undef :: undef :: undef :: undef :: undef :: undef :: undef :: undef :: undef :: undef :: undef :: []) w) w) w) w) w) w) w) w) w) w) w) w)) w) w) w) w)) w) :
    Gives Try.prog 25 #[d0, picks1] w K := enter' Try.func25 (by kernel_rfl) (Eq.mp (congrArg (fun c => cCode Try.prog c (retK Try.prog Try.f25.results.toList K) (fun _ _ _ => False) (retK Try.prog Try.f25.results.toList K) (d0 :: picks1 :: undef :: undef :: undef :: undef :: undef :: undef :: undef :: undef :: undef :: undef :: undef :: undef :: undef :: undef :: undef :: undef :: undef :: undef :: undef :: undef :: undef :: undef :: undef :: undef :: undef :: undef :: undef :: undef :: undef :: undef :: undef :: undef :: undef :: undef :: undef :: undef :: undef :: undef :: undef :: undef :: undef :: undef :: undef :: undef :: undef :: undef :: undef :: undef :: undef :: undef :: undef :: undef :: undef :: undef :: undef :: undef :: undef :: undef :: undef :: undef :: undef :: undef :: undef :: undef :: undef :: undef :: undef :: undef :: undef :: undef :: undef :: undef :: undef :: undef :: undef :: undef :: undef :: undef :: undef :: []) w) (by kernel_rfl : (rep [1, 1, 1, 1] (cd Try.f25 [1, 1, 1, 1]) (cd Try.f25 [])) = (cd Try.f25 []))) (disk_Disk_On_k (cd Try.f25 [1, 1, 1, 1]) h))
theorem disk_Disk_On_go : isGo Try.prog 25 := ⟨_, Try.func25, by kernel_rfl, by kernel_rfl⟩

theorem disk_Disk_On_A1_k {K : KV} {d0 picks1 d2 picks3 t4 k_5 f6 t7 c8 c9 t10 t11 t12 t13 t14 t15 t16 t17 t18 t19 t20 t21 t22 t23 t24 t25 t26 t27 t28 t29 t30 t31 t32 t33 t34 t35 t36 t37 t38 t39 t40 t41 t42 t43 t44 t45 t46 t47 t48 t49 t50 t51 t52 t53 t54 t55 t56 t57 t58 t59 t60 t61 t62 t63 t64 t65 t66 t67 t68 t69 t70 t71 t72 t73 t74 t75 t76 t77 t78 t79 t80 : Value} {w : World}
    (h : nilC d0 (fun t32 w =>
    fldA Try.prog 70 t32 2 (fun t33 w =>
    ld Try.prog 68 t33 (fun t34 w =>
    slc Try.prog 68 t34 none (some k_5) none (fun t36 w =>
    blt Try.prog Builtin.len #[68] 3 #[false] #[t36] (fun t37 w =>
    (cCode Try.prog (cd Try.f25 [1, 1, 1, 1, 0, 1, 0]) (cCode Try.prog (cd Try.f25 [1, 1, 1, 1, 1]) (retK Try.prog Try.f25.results.toList K) (fun _ _ _ => False) (retK Try.prog Try.f25.results.toList K)) (fun i => @Bool.rec (fun _ => KE) ((fun _ _ _ => False) i) (cCode Try.prog (cd Try.f25 [1, 1, 1, 1, 1]) (retK Try.prog Try.f25.results.toList K) (fun _ _ _ => False) (retK Try.prog Try.f25.results.toList K)) (Nat.beq i 1)) (retK Try.prog Try.f25.results.toList K)) (d0 :: picks1 :: d2 :: picks3 :: t4 :: k_5 :: f6 :: t7 :: c8 :: c9 :: t10 :: t11 :: t12 :: t13 :: t14 :: t15 :: t16 :: t17 :: t18 :: t19 :: t20 :: t21 :: t22 :: t23 :: t24 :: t25 :: t26 :: t27 :: t28 :: t29 :: t30 :: d0 :: t32 :: t33 :: t34 :: k_5 :: t36 :: t37 :: (Value.int IntKind.i64 0) :: t39 :: t40 :: t41 :: t42 :: t43 :: t44 :: t45 :: t46 :: t47 :: t48 :: t49 :: t50 :: t51 :: t52 :: t53 :: t54 :: t55 :: t56 :: t57 :: t58 :: t59 :: t60 :: t61 :: t62 :: t63 :: t64 :: t65 :: t66 :: t67 :: t68 :: t69 :: t70 :: t71 :: t72 :: t73 :: t74 :: t75 :: t76 :: t77 :: t78 :: t79 :: t80 :: []) w) w) w) w) w) w) :
    cCode Try.prog (cd Try.f25 [1, 1, 1, 1]) (retK Try.prog Try.f25.results.toList K) (fun _ _ _ => False) (retK Try.prog Try.f25.results.toList K) (d0 :: picks1 :: d2 :: picks3 :: t4 :: k_5 :: f6 :: t7 :: c8 :: c9 :: t10 :: t11 :: t12 :: t13 :: t14 :: t15 :: t16 :: t17 :: t18 :: t19 :: t20 :: t21 :: t22 :: t23 :: t24 :: t25 :: t26 :: t27 :: t28 :: t29 :: t30 :: t31 :: t32 :: t33 :: t34 :: t35 :: t36 :: t37 :: t38 :: t39 :: t40 :: t41 :: t42 :: t43 :: t44 :: t45 :: t46 :: t47 :: t48 :: t49 :: t50 :: t51 :: t52 :: t53 :: t54 :: t55 :: t56 :: t57 :: t58 :: t59 :: t60 :: t61 :: t62 :: t63 :: t64 :: t65 :: t66 :: t67 :: t68 :: t69 :: t70 :: t71 :: t72 :: t73 :: t74 :: t75 :: t76 :: t77 :: t78 :: t79 :: t80 :: []) w := Eq.mp (by kernel_rfl) h

theorem disk_Disk_On_A1_r {K : KV} {d0 picks1 d2 picks3 t4 k_5 f6 t7 c8 c9 t10 t11 t12 t13 t14 t15 t16 t17 t18 t19 t20 t21 t22 t23 t24 t25 t26 t27 t28 t29 t30 t31 t32 t33 t34 t35 t36 t37 t38 t39 t40 t41 t42 t43 t44 t45 t46 t47 t48 t49 t50 t51 t52 t53 t54 t55 t56 t57 t58 t59 t60 t61 t62 t63 t64 t65 t66 t67 t68 t69 t70 t71 t72 t73 t74 t75 t76 t77 t78 t79 t80 : Value} {w : World}
    (h : nilC d0 (fun t32 w =>
    fldA Try.prog 70 t32 2 (fun t33 w =>
    ld Try.prog 68 t33 (fun t34 w =>
    slc Try.prog 68 t34 none (some k_5) none (fun t36 w =>
    blt Try.prog Builtin.len #[68] 3 #[false] #[t36] (fun t37 w =>
    (disk_Disk_On_L1 K) (d0 :: picks1 :: d2 :: picks3 :: t4 :: k_5 :: f6 :: t7 :: c8 :: c9 :: t10 :: t11 :: t12 :: t13 :: t14 :: t15 :: t16 :: t17 :: t18 :: t19 :: t20 :: t21 :: t22 :: t23 :: t24 :: t25 :: t26 :: t27 :: t28 :: t29 :: t30 :: d0 :: t32 :: t33 :: t34 :: k_5 :: t36 :: t37 :: (Value.int IntKind.i64 0) :: t39 :: t40 :: t41 :: t42 :: t43 :: t44 :: t45 :: t46 :: t47 :: t48 :: t49 :: t50 :: t51 :: t52 :: t53 :: t54 :: t55 :: t56 :: t57 :: t58 :: t59 :: t60 :: t61 :: t62 :: t63 :: t64 :: t65 :: t66 :: t67 :: t68 :: t69 :: t70 :: t71 :: t72 :: t73 :: t74 :: t75 :: t76 :: t77 :: t78 :: t79 :: t80 :: []) w) w) w) w) w) w) :
    disk_Disk_On_A1 K (d0 :: picks1 :: d2 :: picks3 :: t4 :: k_5 :: f6 :: t7 :: c8 :: c9 :: t10 :: t11 :: t12 :: t13 :: t14 :: t15 :: t16 :: t17 :: t18 :: t19 :: t20 :: t21 :: t22 :: t23 :: t24 :: t25 :: t26 :: t27 :: t28 :: t29 :: t30 :: t31 :: t32 :: t33 :: t34 :: t35 :: t36 :: t37 :: t38 :: t39 :: t40 :: t41 :: t42 :: t43 :: t44 :: t45 :: t46 :: t47 :: t48 :: t49 :: t50 :: t51 :: t52 :: t53 :: t54 :: t55 :: t56 :: t57 :: t58 :: t59 :: t60 :: t61 :: t62 :: t63 :: t64 :: t65 :: t66 :: t67 :: t68 :: t69 :: t70 :: t71 :: t72 :: t73 :: t74 :: t75 :: t76 :: t77 :: t78 :: t79 :: t80 :: []) w := by
  delta disk_Disk_On_A1
  exact Eq.mp (congrArg (fun c => cCode Try.prog c (retK Try.prog Try.f25.results.toList K) (fun _ _ _ => False) (retK Try.prog Try.f25.results.toList K) (d0 :: picks1 :: d2 :: picks3 :: t4 :: k_5 :: f6 :: t7 :: c8 :: c9 :: t10 :: t11 :: t12 :: t13 :: t14 :: t15 :: t16 :: t17 :: t18 :: t19 :: t20 :: t21 :: t22 :: t23 :: t24 :: t25 :: t26 :: t27 :: t28 :: t29 :: t30 :: t31 :: t32 :: t33 :: t34 :: t35 :: t36 :: t37 :: t38 :: t39 :: t40 :: t41 :: t42 :: t43 :: t44 :: t45 :: t46 :: t47 :: t48 :: t49 :: t50 :: t51 :: t52 :: t53 :: t54 :: t55 :: t56 :: t57 :: t58 :: t59 :: t60 :: t61 :: t62 :: t63 :: t64 :: t65 :: t66 :: t67 :: t68 :: t69 :: t70 :: t71 :: t72 :: t73 :: t74 :: t75 :: t76 :: t77 :: t78 :: t79 :: t80 :: []) w) (by kernel_rfl : (cd Try.f25 [1, 1, 1, 1]) = (cd Try.f25 [1, 1, 1, 1]))) (disk_Disk_On_A1_k h)

theorem disk_Disk_On_L1_k {K : KV} (B1 : KE) (q0 : KE) {d0 picks1 d2 picks3 t4 k_5 f6 t7 c9 t10 t11 t12 t13 t14 t15 t16 t17 t18 t19 t20 t21 t22 t23 t24 t25 t26 t27 t28 t29 t30 t31 t32 t33 t34 t35 t36 t37 t38' t48 t49 t50 t51 t52 t53 t54 t55 t56 t57 t58 t59 t60 t61 t62 t63 t64 t65 t66 t67 t68 t69 t70 t71 t72 t73 t74 t75 t76 t77 t78 t79 t80 : Value} {dd : Nat → Value} {w : World}
    (h : bin Try.prog BinOp.lss 3 false false t38' t37 (fun t39 w =>
    cond t39
      (idxA Try.prog 68 t36 t38' (fun t40 w =>
    ld Try.prog 90 t40 (fun t41 w =>
    alc Try.prog 90 (fun c8 w =>
    sto Try.prog 90 c8 t41 (fun _t w =>
    fldA Try.prog 90 c8 0 (fun t42 w =>
    ld Try.prog 88 t42 (fun t43 w =>
    fldA Try.prog 90 c8 1 (fun t44 w =>
    ld Try.prog 29 t44 (fun t45 w =>
    callV Try.prog t43 #[f6, t45] (fun t46 w =>
    bin Try.prog BinOp.add 3 false true t38' (Value.int IntKind.i64 1) (fun t47 w =>
    B1 (d0 :: picks1 :: d2 :: picks3 :: t4 :: k_5 :: f6 :: t7 :: c8 :: c9 :: t10 :: t11 :: t12 :: t13 :: t14 :: t15 :: t16 :: t17 :: t18 :: t19 :: t20 :: t21 :: t22 :: t23 :: t24 :: t25 :: t26 :: t27 :: t28 :: t29 :: t30 :: t31 :: t32 :: t33 :: t34 :: t35 :: t36 :: t37 :: t47 :: t39 :: t40 :: t41 :: t42 :: t43 :: t44 :: t45 :: t46 :: t47 :: t48 :: t49 :: t50 :: t51 :: t52 :: t53 :: t54 :: t55 :: t56 :: t57 :: t58 :: t59 :: t60 :: t61 :: t62 :: t63 :: t64 :: t65 :: t66 :: t67 :: t68 :: t69 :: t70 :: t71 :: t72 :: t73 :: t74 :: t75 :: t76 :: t77 :: t78 :: t79 :: t80 :: []) w) w) w) w) w) w) w) w) w) w) w)
      (q0 (d0 :: picks1 :: d2 :: picks3 :: t4 :: k_5 :: f6 :: t7 :: (dd 8) :: c9 :: t10 :: t11 :: t12 :: t13 :: t14 :: t15 :: t16 :: t17 :: t18 :: t19 :: t20 :: t21 :: t22 :: t23 :: t24 :: t25 :: t26 :: t27 :: t28 :: t29 :: t30 :: t31 :: t32 :: t33 :: t34 :: t35 :: t36 :: t37 :: t38' :: t39 :: (dd 40) :: (dd 41) :: (dd 42) :: (dd 43) :: (dd 44) :: (dd 45) :: (dd 46) :: (dd 47) :: t48 :: t49 :: t50 :: t51 :: t52 :: t53 :: t54 :: t55 :: t56 :: t57 :: t58 :: t59 :: t60 :: t61 :: t62 :: t63 :: t64 :: t65 :: t66 :: t67 :: t68 :: t69 :: t70 :: t71 :: t72 :: t73 :: t74 :: t75 :: t76 :: t77 :: t78 :: t79 :: t80 :: []) w)) w) :
    cCode Try.prog (cd Try.f25 [1, 1, 1, 1, 0, 1, 0, 0]) B1 (fun i => @Bool.rec (fun _ => KE) ((fun _ _ _ => False) i) q0 (Nat.beq i 1)) (retK Try.prog Try.f25.results.toList K) (d0 :: picks1 :: d2 :: picks3 :: t4 :: k_5 :: f6 :: t7 :: (dd 8) :: c9 :: t10 :: t11 :: t12 :: t13 :: t14 :: t15 :: t16 :: t17 :: t18 :: t19 :: t20 :: t21 :: t22 :: t23 :: t24 :: t25 :: t26 :: t27 :: t28 :: t29 :: t30 :: t31 :: t32 :: t33 :: t34 :: t35 :: t36 :: t37 :: t38' :: (dd 39) :: (dd 40) :: (dd 41) :: (dd 42) :: (dd 43) :: (dd 44) :: (dd 45) :: (dd 46) :: (dd 47) :: t48 :: t49 :: t50 :: t51 :: t52 :: t53 :: t54 :: t55 :: t56 :: t57 :: t58 :: t59 :: t60 :: t61 :: t62 :: t63 :: t64 :: t65 :: t66 :: t67 :: t68 :: t69 :: t70 :: t71 :: t72 :: t73 :: t74 :: t75 :: t76 :: t77 :: t78 :: t79 :: t80 :: []) w := Eq.mp (by kernel_rfl) h

theorem disk_Disk_On_L1_r {K : KV} {d0 picks1 d2 picks3 t4 k_5 f6 t7 c8 c9 t10 t11 t12 t13 t14 t15 t16 t17 t18 t19 t20 t21 t22 t23 t24 t25 t26 t27 t28 t29 t30 t31 t32 t33 t34 t35 t36 t37 t38 t39 t40 t41 t42 t43 t44 t45 t46 t47 t48 t49 t50 t51 t52 t53 t54 t55 t56 t57 t58 t59 t60 t61 t62 t63 t64 t65 t66 t67 t68 t69 t70 t71 t72 t73 t74 t75 t76 t77 t78 t79 t80 : Value} {w : World} (Inv : Value → World → Prop) (μ : Value → World → Nat) (h0 : Inv t38 w)
    (hs : ∀ (t38' : Value) (dd : Nat → Value) (w : World) (m : Nat), Inv t38' w → m = μ t38' w →
    bin Try.prog BinOp.lss 3 false false t38' t37 (fun t39 w =>
    cond t39
      (idxA Try.prog 68 t36 t38' (fun t40 w =>
    ld Try.prog 90 t40 (fun t41 w =>
    alc Try.prog 90 (fun c8 w =>
    sto Try.prog 90 c8 t41 (fun _t w =>
    fldA Try.prog 90 c8 0 (fun t42 w =>
    ld Try.prog 88 t42 (fun t43 w =>
    fldA Try.prog 90 c8 1 (fun t44 w =>
    ld Try.prog 29 t44 (fun t45 w =>
    callV Try.prog t43 #[f6, t45] (fun t46 w =>
    bin Try.prog BinOp.add 3 false true t38' (Value.int IntKind.i64 1) (fun t47 w =>
    (Inv t47 w ∧ μ t47 w < m)) w) w) w) w) w) w) w) w) w) w)
      ((disk_Disk_On_P1 K) (d0 :: picks1 :: d2 :: picks3 :: t4 :: k_5 :: f6 :: t7 :: (dd 8) :: c9 :: t10 :: t11 :: t12 :: t13 :: t14 :: t15 :: t16 :: t17 :: t18 :: t19 :: t20 :: t21 :: t22 :: t23 :: t24 :: t25 :: t26 :: t27 :: t28 :: t29 :: t30 :: t31 :: t32 :: t33 :: t34 :: t35 :: t36 :: t37 :: t38' :: t39 :: (dd 40) :: (dd 41) :: (dd 42) :: (dd 43) :: (dd 44) :: (dd 45) :: (dd 46) :: (dd 47) :: t48 :: t49 :: t50 :: t51 :: t52 :: t53 :: t54 :: t55 :: t56 :: t57 :: t58 :: t59 :: t60 :: t61 :: t62 :: t63 :: t64 :: t65 :: t66 :: t67 :: t68 :: t69 :: t70 :: t71 :: t72 :: t73 :: t74 :: t75 :: t76 :: t77 :: t78 :: t79 :: t80 :: []) w)) w) :
    disk_Disk_On_L1 K (d0 :: picks1 :: d2 :: picks3 :: t4 :: k_5 :: f6 :: t7 :: c8 :: c9 :: t10 :: t11 :: t12 :: t13 :: t14 :: t15 :: t16 :: t17 :: t18 :: t19 :: t20 :: t21 :: t22 :: t23 :: t24 :: t25 :: t26 :: t27 :: t28 :: t29 :: t30 :: t31 :: t32 :: t33 :: t34 :: t35 :: t36 :: t37 :: t38 :: t39 :: t40 :: t41 :: t42 :: t43 :: t44 :: t45 :: t46 :: t47 :: t48 :: t49 :: t50 :: t51 :: t52 :: t53 :: t54 :: t55 :: t56 :: t57 :: t58 :: t59 :: t60 :: t61 :: t62 :: t63 :: t64 :: t65 :: t66 :: t67 :: t68 :: t69 :: t70 :: t71 :: t72 :: t73 :: t74 :: t75 :: t76 :: t77 :: t78 :: t79 :: t80 :: []) w := by
  refine loop_rule (cd Try.f25 [1, 1, 1, 1, 0, 1, 0, 0]) [8, 38, 39, 40, 41, 42, 43, 44, 45, 46, 47] (by kernel_rfl) (fun e2 w2 => Inv (gd e2 38) w2) (fun e2 w2 => μ (gd e2 38) w2) h0 ?_
  intro e' w' hI
  have h := hs (gd e' 38) (fun i => gd e' i) w' _ hI rfl
  have h2 : cCode Try.prog (cd Try.f25 [1, 1, 1, 1, 0, 1, 0, 0]) (fun e2 w2 => Inv (gd e2 38) w2 ∧ μ (gd e2 38) w2 < μ (gd e' 38) w') (fun i => @Bool.rec (fun _ => KE) ((fun _ _ _ => False) i) (disk_Disk_On_P1 K) (Nat.beq i 1)) (retK Try.prog Try.f25.results.toList K) (d0 :: picks1 :: d2 :: picks3 :: t4 :: k_5 :: f6 :: t7 :: (gd e' 8) :: c9 :: t10 :: t11 :: t12 :: t13 :: t14 :: t15 :: t16 :: t17 :: t18 :: t19 :: t20 :: t21 :: t22 :: t23 :: t24 :: t25 :: t26 :: t27 :: t28 :: t29 :: t30 :: t31 :: t32 :: t33 :: t34 :: t35 :: t36 :: t37 :: (gd e' 38) :: (gd e' 39) :: (gd e' 40) :: (gd e' 41) :: (gd e' 42) :: (gd e' 43) :: (gd e' 44) :: (gd e' 45) :: (gd e' 46) :: (gd e' 47) :: t48 :: t49 :: t50 :: t51 :: t52 :: t53 :: t54 :: t55 :: t56 :: t57 :: t58 :: t59 :: t60 :: t61 :: t62 :: t63 :: t64 :: t65 :: t66 :: t67 :: t68 :: t69 :: t70 :: t71 :: t72 :: t73 :: t74 :: t75 :: t76 :: t77 :: t78 :: t79 :: t80 :: []) w' := disk_Disk_On_L1_k (fun e2 w2 => Inv (gd e2 38) w2 ∧ μ (gd e2 38) w2 < μ (gd e' 38) w') (disk_Disk_On_P1 K) (Eq.mp (by kernel_rfl) h)
  exact Eq.mp (by kernel_rfl) h2

theorem disk_Disk_On_P1_k {K : KV} (x0 : Code) {d0 picks1 d2 picks3 t4 k_5 f6 t7 c8 c9 t10 t11 t12 t13 t14 t15 t16 t17 t18 t19 t20 t21 t22 t23 t24 t25 t26 t27 t28 t29 t30 t31 t32 t33 t34 t35 t36 t37 t38 t39 t40 t41 t42 t43 t44 t45 t46 t47 t48 t49 t50 t51 t52 t53 t54 t55 t56 t57 t58 t59 t60 t61 t62 t63 t64 t65 t66 t67 t68 t69 t70 t71 t72 t73 t74 t75 t76 t77 t78 t79 t80 : Value} {w : World}
    (h : nilC d0 (fun t50 w =>
    fldA Try.prog 70 t50 2 (fun t51 w =>
    ld Try.prog 68 t51 (fun t52 w =>
    blt Try.prog Builtin.len #[68] 3 #[false] #[t52] (fun t53 w =>
    bin Try.prog BinOp.lss 3 false false k_5 t53 (fun t54 w =>
    (cCode Try.prog x0 (cCode Try.prog (cd Try.f25 [1, 1, 1, 1, 1, 1]) (retK Try.prog Try.f25.results.toList K) (fun _ _ _ => False) (retK Try.prog Try.f25.results.toList K)) (fun _ _ _ => False) (retK Try.prog Try.f25.results.toList K)) (d0 :: picks1 :: d2 :: picks3 :: t4 :: k_5 :: f6 :: t7 :: c8 :: c9 :: t10 :: t11 :: t12 :: t13 :: t14 :: t15 :: t16 :: t17 :: t18 :: t19 :: t20 :: t21 :: t22 :: t23 :: t24 :: t25 :: t26 :: t27 :: t28 :: t29 :: t30 :: t31 :: t32 :: t33 :: t34 :: t35 :: t36 :: t37 :: t38 :: t39 :: t40 :: t41 :: t42 :: t43 :: t44 :: t45 :: t46 :: t47 :: k_5 :: d0 :: t50 :: t51 :: t52 :: t53 :: t54 :: t55 :: t56 :: t57 :: t58 :: t59 :: t60 :: t61 :: t62 :: t63 :: t64 :: t65 :: t66 :: t67 :: t68 :: t69 :: t70 :: t71 :: t72 :: t73 :: t74 :: t75 :: t76 :: t77 :: t78 :: t79 :: t80 :: []) w) w) w) w) w) w) :
    cCode Try.prog (rep [0, 1] x0 (cd Try.f25 [1, 1, 1, 1, 1])) (retK Try.prog Try.f25.results.toList K) (fun _ _ _ => False) (retK Try.prog Try.f25.results.toList K) (d0 :: picks1 :: d2 :: picks3 :: t4 :: k_5 :: f6 :: t7 :: c8 :: c9 :: t10 :: t11 :: t12 :: t13 :: t14 :: t15 :: t16 :: t17 :: t18 :: t19 :: t20 :: t21 :: t22 :: t23 :: t24 :: t25 :: t26 :: t27 :: t28 :: t29 :: t30 :: t31 :: t32 :: t33 :: t34 :: t35 :: t36 :: t37 :: t38 :: t39 :: t40 :: t41 :: t42 :: t43 :: t44 :: t45 :: t46 :: t47 :: t48 :: t49 :: t50 :: t51 :: t52 :: t53 :: t54 :: t55 :: t56 :: t57 :: t58 :: t59 :: t60 :: t61 :: t62 :: t63 :: t64 :: t65 :: t66 :: t67 :: t68 :: t69 :: t70 :: t71 :: t72 :: t73 :: t74 :: t75 :: t76 :: t77 :: t78 :: t79 :: t80 :: []) w := Eq.mp (by kernel_rfl) h

theorem disk_Disk_On_P1_r {K : KV} {d0 picks1 d2 picks3 t4 k_5 f6 t7 c8 c9 t10 t11 t12 t13 t14 t15 t16 t17 t18 t19 t20 t21 t22 t23 t24 t25 t26 t27 t28 t29 t30 t31 t32 t33 t34 t35 t36 t37 t38 t39 t40 t41 t42 t43 t44 t45 t46 t47 t48 t49 t50 t51 t52 t53 t54 t55 t56 t57 t58 t59 t60 t61 t62 t63 t64 t65 t66 t67 t68 t69 t70 t71 t72 t73 t74 t75 t76 t77 t78 t79 t80 : Value} {w : World}
    (h : nilC d0 (fun t50 w =>
    fldA Try.prog 70 t50 2 (fun t51 w =>
    ld Try.prog 68 t51 (fun t52 w =>
    blt Try.prog Builtin.len #[68] 3 #[false] #[t52] (fun t53 w =>
    bin Try.prog BinOp.lss 3 false false k_5 t53 (fun t54 w =>
    (disk_Disk_On_A2 K) (d0 :: picks1 :: d2 :: picks3 :: t4 :: k_5 :: f6 :: t7 :: c8 :: c9 :: t10 :: t11 :: t12 :: t13 :: t14 :: t15 :: t16 :: t17 :: t18 :: t19 :: t20 :: t21 :: t22 :: t23 :: t24 :: t25 :: t26 :: t27 :: t28 :: t29 :: t30 :: t31 :: t32 :: t33 :: t34 :: t35 :: t36 :: t37 :: t38 :: t39 :: t40 :: t41 :: t42 :: t43 :: t44 :: t45 :: t46 :: t47 :: k_5 :: d0 :: t50 :: t51 :: t52 :: t53 :: t54 :: t55 :: t56 :: t57 :: t58 :: t59 :: t60 :: t61 :: t62 :: t63 :: t64 :: t65 :: t66 :: t67 :: t68 :: t69 :: t70 :: t71 :: t72 :: t73 :: t74 :: t75 :: t76 :: t77 :: t78 :: t79 :: t80 :: []) w) w) w) w) w) w) :
    disk_Disk_On_P1 K (d0 :: picks1 :: d2 :: picks3 :: t4 :: k_5 :: f6 :: t7 :: c8 :: c9 :: t10 :: t11 :: t12 :: t13 :: t14 :: t15 :: t16 :: t17 :: t18 :: t19 :: t20 :: t21 :: t22 :: t23 :: t24 :: t25 :: t26 :: t27 :: t28 :: t29 :: t30 :: t31 :: t32 :: t33 :: t34 :: t35 :: t36 :: t37 :: t38 :: t39 :: t40 :: t41 :: t42 :: t43 :: t44 :: t45 :: t46 :: t47 :: t48 :: t49 :: t50 :: t51 :: t52 :: t53 :: t54 :: t55 :: t56 :: t57 :: t58 :: t59 :: t60 :: t61 :: t62 :: t63 :: t64 :: t65 :: t66 :: t67 :: t68 :: t69 :: t70 :: t71 :: t72 :: t73 :: t74 :: t75 :: t76 :: t77 :: t78 :: t79 :: t80 :: []) w := by
  delta disk_Disk_On_P1
  exact Eq.mp (congrArg (fun c => cCode Try.prog c (retK Try.prog Try.f25.results.toList K) (fun _ _ _ => False) (retK Try.prog Try.f25.results.toList K) (d0 :: picks1 :: d2 :: picks3 :: t4 :: k_5 :: f6 :: t7 :: c8 :: c9 :: t10 :: t11 :: t12 :: t13 :: t14 :: t15 :: t16 :: t17 :: t18 :: t19 :: t20 :: t21 :: t22 :: t23 :: t24 :: t25 :: t26 :: t27 :: t28 :: t29 :: t30 :: t31 :: t32 :: t33 :: t34 :: t35 :: t36 :: t37 :: t38 :: t39 :: t40 :: t41 :: t42 :: t43 :: t44 :: t45 :: t46 :: t47 :: t48 :: t49 :: t50 :: t51 :: t52 :: t53 :: t54 :: t55 :: t56 :: t57 :: t58 :: t59 :: t60 :: t61 :: t62 :: t63 :: t64 :: t65 :: t66 :: t67 :: t68 :: t69 :: t70 :: t71 :: t72 :: t73 :: t74 :: t75 :: t76 :: t77 :: t78 :: t79 :: t80 :: []) w) (by kernel_rfl : (rep [0, 1] (cd Try.f25 [1, 1, 1, 1, 1, 0, 1]) (cd Try.f25 [1, 1, 1, 1, 1])) = (cd Try.f25 [1, 1, 1, 1, 1]))) (disk_Disk_On_P1_k (cd Try.f25 [1, 1, 1, 1, 1, 0, 1]) h)

theorem disk_Disk_On_A2_k {K : KV} (q0 : KE) {d0 picks1 d2 picks3 t4 k_5 f6 t7 c8 c9 t10 t11 t12 t13 t14 t15 t16 t17 t18 t19 t20 t21 t22 t23 t24 t25 t26 t27 t28 t29 t30 t31 t32 t33 t34 t35 t36 t37 t38 t39 t40 t41 t42 t43 t44 t45 t46 t47 t48 t49 t50 t51 t52 t53 t54 t55 t56 t57 t58 t59 t60 t61 t62 t63 t64 t65 t66 t67 t68 t69 t70 t71 t72 t73 t74 t75 t76 t77 t78 t79 t80 : Value} {w : World}
    (h : cond t54
      (nilC d0 (fun t56 w =>
      fldA Try.prog 70 t56 2 (fun t57 w =>
      ld Try.prog 68 t57 (fun t58 w =>
      idxA Try.prog 68 t58 k_5 (fun t60 w =>
      ld Try.prog 90 t60 (fun t61 w =>
      alc Try.prog 90 (fun c9 w =>
      sto Try.prog 90 c9 t61 (fun _t w =>
      fldA Try.prog 90 c9 2 (fun t62 w =>
      ld Try.prog 4 t62 (fun t63 w =>
      cond t63
        (hReg (fun S w =>
        hld S (fun k w => fldA Try.prog 90 c9 0 k w) (fun t64 =>
        hld S (fun k w => ld Try.prog 88 t64 k w) (fun t65 =>
        hld S (fun k w => fldA Try.prog 90 c9 1 k w) (fun t66 =>
        hld S (fun k w => ld Try.prog 29 t66 k w) (fun t67 =>
        hld S (fun k w => fldA Try.prog 90 c9 1 k w) (fun t69 =>
        hld S (fun k w => ld Try.prog 29 t69 k w) (fun t70 =>
        hld S (fun k w => blt Try.prog Builtin.len #[29] 3 #[false] #[t70] k w) (fun t71 =>
        hld S (fun k w => bin Try.prog BinOp.add 3 false true t71 (Value.int IntKind.i64 1) k w) (fun t72 =>
        call Try.prog 55 #[picks1, (Value.int IntKind.i64 1), t72] (fun t73 w =>
        hSub S (fun S w =>
        hld S (fun k w => slc Try.prog 29 t67 none (some t73) none k w) (fun t74 =>
        callV Try.prog t65 #[f6, t74] (fun t75 w =>
        q0 (d0 :: picks1 :: d2 :: picks3 :: t4 :: k_5 :: f6 :: t7 :: c8 :: c9 :: t10 :: t11 :: t12 :: t13 :: t14 :: t15 :: t16 :: t17 :: t18 :: t19 :: t20 :: t21 :: t22 :: t23 :: t24 :: t25 :: t26 :: t27 :: t28 :: t29 :: t30 :: t31 :: t32 :: t33 :: t34 :: t35 :: t36 :: t37 :: t38 :: t39 :: t40 :: t41 :: t42 :: t43 :: t44 :: t45 :: t46 :: t47 :: t48 :: t49 :: t50 :: t51 :: t52 :: t53 :: t54 :: d0 :: t56 :: t57 :: t58 :: k_5 :: t60 :: t61 :: t62 :: t63 :: t64 :: t65 :: t66 :: t67 :: picks1 :: t69 :: t70 :: t71 :: t72 :: t73 :: t74 :: t75 :: t76 :: t77 :: t78 :: t79 :: t80 :: []) w) w)) w) w))))))))) w.drew)
        (q0 (d0 :: picks1 :: d2 :: picks3 :: t4 :: k_5 :: f6 :: t7 :: c8 :: c9 :: t10 :: t11 :: t12 :: t13 :: t14 :: t15 :: t16 :: t17 :: t18 :: t19 :: t20 :: t21 :: t22 :: t23 :: t24 :: t25 :: t26 :: t27 :: t28 :: t29 :: t30 :: t31 :: t32 :: t33 :: t34 :: t35 :: t36 :: t37 :: t38 :: t39 :: t40 :: t41 :: t42 :: t43 :: t44 :: t45 :: t46 :: t47 :: t48 :: t49 :: t50 :: t51 :: t52 :: t53 :: t54 :: d0 :: t56 :: t57 :: t58 :: k_5 :: t60 :: t61 :: t62 :: t63 :: t64 :: t65 :: t66 :: t67 :: t68 :: t69 :: t70 :: t71 :: t72 :: t73 :: t74 :: t75 :: t76 :: t77 :: t78 :: t79 :: t80 :: []) w)) w) w) w) w) w) w) w) w) w)
      (q0 (d0 :: picks1 :: d2 :: picks3 :: t4 :: k_5 :: f6 :: t7 :: c8 :: c9 :: t10 :: t11 :: t12 :: t13 :: t14 :: t15 :: t16 :: t17 :: t18 :: t19 :: t20 :: t21 :: t22 :: t23 :: t24 :: t25 :: t26 :: t27 :: t28 :: t29 :: t30 :: t31 :: t32 :: t33 :: t34 :: t35 :: t36 :: t37 :: t38 :: t39 :: t40 :: t41 :: t42 :: t43 :: t44 :: t45 :: t46 :: t47 :: t48 :: t49 :: t50 :: t51 :: t52 :: t53 :: t54 :: t55 :: t56 :: t57 :: t58 :: t59 :: t60 :: t61 :: t62 :: t63 :: t64 :: t65 :: t66 :: t67 :: t68 :: t69 :: t70 :: t71 :: t72 :: t73 :: t74 :: t75 :: t76 :: t77 :: t78 :: t79 :: t80 :: []) w)) :
    cCode Try.prog (cd Try.f25 [1, 1, 1, 1, 1, 0, 1]) q0 (fun _ _ _ => False) (retK Try.prog Try.f25.results.toList K) (d0 :: picks1 :: d2 :: picks3 :: t4 :: k_5 :: f6 :: t7 :: c8 :: c9 :: t10 :: t11 :: t12 :: t13 :: t14 :: t15 :: t16 :: t17 :: t18 :: t19 :: t20 :: t21 :: t22 :: t23 :: t24 :: t25 :: t26 :: t27 :: t28 :: t29 :: t30 :: t31 :: t32 :: t33 :: t34 :: t35 :: t36 :: t37 :: t38 :: t39 :: t40 :: t41 :: t42 :: t43 :: t44 :: t45 :: t46 :: t47 :: t48 :: t49 :: t50 :: t51 :: t52 :: t53 :: t54 :: t55 :: t56 :: t57 :: t58 :: t59 :: t60 :: t61 :: t62 :: t63 :: t64 :: t65 :: t66 :: t67 :: t68 :: t69 :: t70 :: t71 :: t72 :: t73 :: t74 :: t75 :: t76 :: t77 :: t78 :: t79 :: t80 :: []) w := Eq.mp (by kernel_rfl) h

theorem disk_Disk_On_A2_r {K : KV} {d0 picks1 d2 picks3 t4 k_5 f6 t7 c8 c9 t10 t11 t12 t13 t14 t15 t16 t17 t18 t19 t20 t21 t22 t23 t24 t25 t26 t27 t28 t29 t30 t31 t32 t33 t34 t35 t36 t37 t38 t39 t40 t41 t42 t43 t44 t45 t46 t47 t48 t49 t50 t51 t52 t53 t54 t55 t56 t57 t58 t59 t60 t61 t62 t63 t64 t65 t66 t67 t68 t69 t70 t71 t72 t73 t74 t75 t76 t77 t78 t79 t80 : Value} {w : World}
    (h : cond t54
      (nilC d0 (fun t56 w =>
      fldA Try.prog 70 t56 2 (fun t57 w =>
      ld Try.prog 68 t57 (fun t58 w =>
      idxA Try.prog 68 t58 k_5 (fun t60 w =>
      ld Try.prog 90 t60 (fun t61 w =>
      alc Try.prog 90 (fun c9 w =>
      sto Try.prog 90 c9 t61 (fun _t w =>
      fldA Try.prog 90 c9 2 (fun t62 w =>
      ld Try.prog 4 t62 (fun t63 w =>
      cond t63
        (hReg (fun S w =>
        hld S (fun k w => fldA Try.prog 90 c9 0 k w) (fun t64 =>
        hld S (fun k w => ld Try.prog 88 t64 k w) (fun t65 =>
        hld S (fun k w => fldA Try.prog 90 c9 1 k w) (fun t66 =>
        hld S (fun k w => ld Try.prog 29 t66 k w) (fun t67 =>
        hld S (fun k w => fldA Try.prog 90 c9 1 k w) (fun t69 =>
        hld S (fun k w => ld Try.prog 29 t69 k w) (fun t70 =>
        hld S (fun k w => blt Try.prog Builtin.len #[29] 3 #[false] #[t70] k w) (fun t71 =>
        hld S (fun k w => bin Try.prog BinOp.add 3 false true t71 (Value.int IntKind.i64 1) k w) (fun t72 =>
        call Try.prog 55 #[picks1, (Value.int IntKind.i64 1), t72] (fun t73 w =>
        hSub S (fun S w =>
        hld S (fun k w => slc Try.prog 29 t67 none (some t73) none k w) (fun t74 =>
        callV Try.prog t65 #[f6, t74] (fun t75 w =>
        (disk_Disk_On_P2 K) (d0 :: picks1 :: d2 :: picks3 :: t4 :: k_5 :: f6 :: t7 :: c8 :: c9 :: t10 :: t11 :: t12 :: t13 :: t14 :: t15 :: t16 :: t17 :: t18 :: t19 :: t20 :: t21 :: t22 :: t23 :: t24 :: t25 :: t26 :: t27 :: t28 :: t29 :: t30 :: t31 :: t32 :: t33 :: t34 :: t35 :: t36 :: t37 :: t38 :: t39 :: t40 :: t41 :: t42 :: t43 :: t44 :: t45 :: t46 :: t47 :: t48 :: t49 :: t50 :: t51 :: t52 :: t53 :: t54 :: d0 :: t56 :: t57 :: t58 :: k_5 :: t60 :: t61 :: t62 :: t63 :: t64 :: t65 :: t66 :: t67 :: picks1 :: t69 :: t70 :: t71 :: t72 :: t73 :: t74 :: t75 :: t76 :: t77 :: t78 :: t79 :: t80 :: []) w) w)) w) w))))))))) w.drew)
        ((disk_Disk_On_P2 K) (d0 :: picks1 :: d2 :: picks3 :: t4 :: k_5 :: f6 :: t7 :: c8 :: c9 :: t10 :: t11 :: t12 :: t13 :: t14 :: t15 :: t16 :: t17 :: t18 :: t19 :: t20 :: t21 :: t22 :: t23 :: t24 :: t25 :: t26 :: t27 :: t28 :: t29 :: t30 :: t31 :: t32 :: t33 :: t34 :: t35 :: t36 :: t37 :: t38 :: t39 :: t40 :: t41 :: t42 :: t43 :: t44 :: t45 :: t46 :: t47 :: t48 :: t49 :: t50 :: t51 :: t52 :: t53 :: t54 :: d0 :: t56 :: t57 :: t58 :: k_5 :: t60 :: t61 :: t62 :: t63 :: t64 :: t65 :: t66 :: t67 :: t68 :: t69 :: t70 :: t71 :: t72 :: t73 :: t74 :: t75 :: t76 :: t77 :: t78 :: t79 :: t80 :: []) w)) w) w) w) w) w) w) w) w) w)
      ((disk_Disk_On_P2 K) (d0 :: picks1 :: d2 :: picks3 :: t4 :: k_5 :: f6 :: t7 :: c8 :: c9 :: t10 :: t11 :: t12 :: t13 :: t14 :: t15 :: t16 :: t17 :: t18 :: t19 :: t20 :: t21 :: t22 :: t23 :: t24 :: t25 :: t26 :: t27 :: t28 :: t29 :: t30 :: t31 :: t32 :: t33 :: t34 :: t35 :: t36 :: t37 :: t38 :: t39 :: t40 :: t41 :: t42 :: t43 :: t44 :: t45 :: t46 :: t47 :: t48 :: t49 :: t50 :: t51 :: t52 :: t53 :: t54 :: t55 :: t56 :: t57 :: t58 :: t59 :: t60 :: t61 :: t62 :: t63 :: t64 :: t65 :: t66 :: t67 :: t68 :: t69 :: t70 :: t71 :: t72 :: t73 :: t74 :: t75 :: t76 :: t77 :: t78 :: t79 :: t80 :: []) w)) :
    disk_Disk_On_A2 K (d0 :: picks1 :: d2 :: picks3 :: t4 :: k_5 :: f6 :: t7 :: c8 :: c9 :: t10 :: t11 :: t12 :: t13 :: t14 :: t15 :: t16 :: t17 :: t18 :: t19 :: t20 :: t21 :: t22 :: t23 :: t24 :: t25 :: t26 :: t27 :: t28 :: t29 :: t30 :: t31 :: t32 :: t33 :: t34 :: t35 :: t36 :: t37 :: t38 :: t39 :: t40 :: t41 :: t42 :: t43 :: t44 :: t45 :: t46 :: t47 :: t48 :: t49 :: t50 :: t51 :: t52 :: t53 :: t54 :: t55 :: t56 :: t57 :: t58 :: t59 :: t60 :: t61 :: t62 :: t63 :: t64 :: t65 :: t66 :: t67 :: t68 :: t69 :: t70 :: t71 :: t72 :: t73 :: t74 :: t75 :: t76 :: t77 :: t78 :: t79 :: t80 :: []) w := by
  delta disk_Disk_On_A2
  exact Eq.mp (congrArg (fun c => cCode Try.prog c (disk_Disk_On_P2 K) (fun _ _ _ => False) (retK Try.prog Try.f25.results.toList K) (d0 :: picks1 :: d2 :: picks3 :: t4 :: k_5 :: f6 :: t7 :: c8 :: c9 :: t10 :: t11 :: t12 :: t13 :: t14 :: t15 :: t16 :: t17 :: t18 :: t19 :: t20 :: t21 :: t22 :: t23 :: t24 :: t25 :: t26 :: t27 :: t28 :: t29 :: t30 :: t31 :: t32 :: t33 :: t34 :: t35 :: t36 :: t37 :: t38 :: t39 :: t40 :: t41 :: t42 :: t43 :: t44 :: t45 :: t46 :: t47 :: t48 :: t49 :: t50 :: t51 :: t52 :: t53 :: t54 :: t55 :: t56 :: t57 :: t58 :: t59 :: t60 :: t61 :: t62 :: t63 :: t64 :: t65 :: t66 :: t67 :: t68 :: t69 :: t70 :: t71 :: t72 :: t73 :: t74 :: t75 :: t76 :: t77 :: t78 :: t79 :: t80 :: []) w) (by kernel_rfl : (cd Try.f25 [1, 1, 1, 1, 1, 0, 1]) = (cd Try.f25 [1, 1, 1, 1, 1, 0, 1]))) (disk_Disk_On_A2_k (disk_Disk_On_P2 K) h)

theorem disk_Disk_On_P2_k {K : KV} {d0 picks1 d2 picks3 t4 k_5 f6 t7 c8 c9 t10 t11 t12 t13 t14 t15 t16 t17 t18 t19 t20 t21 t22 t23 t24 t25 t26 t27 t28 t29 t30 t31 t32 t33 t34 t35 t36 t37 t38 t39 t40 t41 t42 t43 t44 t45 t46 t47 t48 t49 t50 t51 t52 t53 t54 t55 t56 t57 t58 t59 t60 t61 t62 t63 t64 t65 t66 t67 t68 t69 t70 t71 t72 t73 t74 t75 t76 t77 t78 t79 t80 : Value} {w : World}
    (h : ld Try.prog 67 f6 (fun t77 w =>
    ld Try.prog 67 f6 (fun t78 w =>
    bld Try.prog 70 #[(0, t77), (1, t78)] (fun t79 w =>
    nilC d0 (fun t80 w =>
    sto Try.prog 70 t80 t79 (fun _t w =>
    K (Value.int IntKind.i64 0) w) w) w) w) w) w) :
    cCode Try.prog (cd Try.f25 [1, 1, 1, 1, 1, 1]) (retK Try.prog Try.f25.results.toList K) (fun _ _ _ => False) (retK Try.prog Try.f25.results.toList K) (d0 :: picks1 :: d2 :: picks3 :: t4 :: k_5 :: f6 :: t7 :: c8 :: c9 :: t10 :: t11 :: t12 :: t13 :: t14 :: t15 :: t16 :: t17 :: t18 :: t19 :: t20 :: t21 :: t22 :: t23 :: t24 :: t25 :: t26 :: t27 :: t28 :: t29 :: t30 :: t31 :: t32 :: t33 :: t34 :: t35 :: t36 :: t37 :: t38 :: t39 :: t40 :: t41 :: t42 :: t43 :: t44 :: t45 :: t46 :: t47 :: t48 :: t49 :: t50 :: t51 :: t52 :: t53 :: t54 :: t55 :: t56 :: t57 :: t58 :: t59 :: t60 :: t61 :: t62 :: t63 :: t64 :: t65 :: t66 :: t67 :: t68 :: t69 :: t70 :: t71 :: t72 :: t73 :: t74 :: t75 :: t76 :: t77 :: t78 :: t79 :: t80 :: []) w := Eq.mp (by kernel_rfl) h

theorem disk_Disk_On_P2_r {K : KV} {d0 picks1 d2 picks3 t4 k_5 f6 t7 c8 c9 t10 t11 t12 t13 t14 t15 t16 t17 t18 t19 t20 t21 t22 t23 t24 t25 t26 t27 t28 t29 t30 t31 t32 t33 t34 t35 t36 t37 t38 t39 t40 t41 t42 t43 t44 t45 t46 t47 t48 t49 t50 t51 t52 t53 t54 t55 t56 t57 t58 t59 t60 t61 t62 t63 t64 t65 t66 t67 t68 t69 t70 t71 t72 t73 t74 t75 t76 t77 t78 t79 t80 : Value} {w : World}
    (h : ld Try.prog 67 f6 (fun t77 w =>
    ld Try.prog 67 f6 (fun t78 w =>
    bld Try.prog 70 #[(0, t77), (1, t78)] (fun t79 w =>
    nilC d0 (fun t80 w =>
    sto Try.prog 70 t80 t79 (fun _t w =>
    K (Value.int IntKind.i64 0) w) w) w) w) w) w) :
    disk_Disk_On_P2 K (d0 :: picks1 :: d2 :: picks3 :: t4 :: k_5 :: f6 :: t7 :: c8 :: c9 :: t10 :: t11 :: t12 :: t13 :: t14 :: t15 :: t16 :: t17 :: t18 :: t19 :: t20 :: t21 :: t22 :: t23 :: t24 :: t25 :: t26 :: t27 :: t28 :: t29 :: t30 :: t31 :: t32 :: t33 :: t34 :: t35 :: t36 :: t37 :: t38 :: t39 :: t40 :: t41 :: t42 :: t43 :: t44 :: t45 :: t46 :: t47 :: t48 :: t49 :: t50 :: t51 :: t52 :: t53 :: t54 :: t55 :: t56 :: t57 :: t58 :: t59 :: t60 :: t61 :: t62 :: t63 :: t64 :: t65 :: t66 :: t67 :: t68 :: t69 :: t70 :: t71 :: t72 :: t73 :: t74 :: t75 :: t76 :: t77 :: t78 :: t79 :: t80 :: []) w := by
  delta disk_Disk_On_P2
  exact Eq.mp (congrArg (fun c => cCode Try.prog c (retK Try.prog Try.f25.results.toList K) (fun _ _ _ => False) (retK Try.prog Try.f25.results.toList K) (d0 :: picks1 :: d2 :: picks3 :: t4 :: k_5 :: f6 :: t7 :: c8 :: c9 :: t10 :: t11 :: t12 :: t13 :: t14 :: t15 :: t16 :: t17 :: t18 :: t19 :: t20 :: t21 :: t22 :: t23 :: t24 :: t25 :: t26 :: t27 :: t28 :: t29 :: t30 :: t31 :: t32 :: t33 :: t34 :: t35 :: t36 :: t37 :: t38 :: t39 :: t40 :: t41 :: t42 :: t43 :: t44 :: t45 :: t46 :: t47 :: t48 :: t49 :: t50 :: t51 :: t52 :: t53 :: t54 :: t55 :: t56 :: t57 :: t58 :: t59 :: t60 :: t61 :: t62 :: t63 :: t64 :: t65 :: t66 :: t67 :: t68 :: t69 :: t70 :: t71 :: t72 :: t73 :: t74 :: t75 :: t76 :: t77 :: t78 :: t79 :: t80 :: []) w) (by kernel_rfl : (cd Try.f25 [1, 1, 1, 1, 1, 1]) = (cd Try.f25 [1, 1, 1, 1, 1, 1]))) (disk_Disk_On_P2_k h)
attribute [irreducible] disk_Disk_On_A1 disk_Disk_On_P1 disk_Disk_On_L1 disk_Disk_On_P2 disk_Disk_On_A2


theorem disk_Disk_Power_k {K : KV} {d0 : Value} {w : World}
    (h : bin Try.prog BinOp.neq 25 false true d0 (Value.pointer none) (fun t4 w =>
    gsel t4 true (fun k6 =>
    nilC d0 (fun t7 w =>
    fldA Try.prog 70 t7 3 (fun t8 w =>
    ld Try.prog 4 t8 (fun t9 w =>
    un Try.prog UnOp.not t9 (fun t10 w =>
    k6 [d0, t7, t8, t9, t10] w) w) w) w) w)
    (fun k => k [undef, undef, undef, undef, undef] w) (fun us6 w =>
    pick t4 (gd us6 4) (Value.bool false) (fun t11 w =>
    K t11 w) w)) w) :
    cCode Try.prog (cd Try.f15 []) (retK Try.prog Try.f15.results.toList K) (fun _ _ _ => False) (retK Try.prog Try.f15.results.toList K) [d0, undef, undef, undef, undef, undef, undef, undef, undef, undef, undef, undef] w := Eq.mp (by kernel_rfl) h

theorem disk_Disk_Power_in {K : KV} {d0 : Value} {w : World}
    (h : bin Try.prog BinOp.neq 25 false true d0 (Value.pointer none) (fun t4 w =>
    gsel t4 true (fun k6 =>
    nilC d0 (fun t7 w =>
    fldA Try.prog 70 t7 3 (fun t8 w =>
    ld Try.prog 4 t8 (fun t9 w =>
    un Try.prog UnOp.not t9 (fun t10 w =>
    k6 [d0, t7, t8, t9, t10] w) w) w) w) w)
    (fun k => k [undef, undef, undef, undef, undef] w) (fun us6 w =>
    pick t4 (gd us6 4) (Value.bool false) (fun t11 w =>
    K t11 w) w)) w) :
    Gives Try.prog 15 #[d0] w K := enter' Try.func15 (by kernel_rfl) (Eq.mp (congrArg (fun c => cCode Try.prog c (retK Try.prog Try.f15.results.toList K) (fun _ _ _ => False) (retK Try.prog Try.f15.results.toList K) [d0, undef, undef, undef, undef, undef, undef, undef, undef, undef, undef, undef] w) (by kernel_rfl : (cd Try.f15 []) = (cd Try.f15 []))) (disk_Disk_Power_k h))
theorem disk_Disk_Power_go : isGo Try.prog 15 := ⟨_, Try.func15, by kernel_rfl, by kernel_rfl⟩


theorem disk_Disk_Loose_k {K : KV} {d0 : Value} {w : World}
    (h : bin Try.prog BinOp.eql 25 false true d0 (Value.pointer none) (fun t4 w =>
    cond t4
      (K (Value.int IntKind.i64 0) w)
      (nilC d0 (fun t6 w =>
    fldA Try.prog 70 t6 2 (fun t7 w =>
    ld Try.prog 68 t7 (fun t8 w =>
    blt Try.prog Builtin.len #[68] 3 #[false] #[t8] (fun t9 w =>
    K t9 w) w) w) w) w)) w) :
    cCode Try.prog (cd Try.f16 []) (retK Try.prog Try.f16.results.toList K) (fun _ _ _ => False) (retK Try.prog Try.f16.results.toList K) [d0, undef, undef, undef, undef, undef, undef, undef, undef, undef] w := Eq.mp (by kernel_rfl) h

theorem disk_Disk_Loose_in {K : KV} {d0 : Value} {w : World}
    (h : bin Try.prog BinOp.eql 25 false true d0 (Value.pointer none) (fun t4 w =>
    cond t4
      (K (Value.int IntKind.i64 0) w)
      (nilC d0 (fun t6 w =>
    fldA Try.prog 70 t6 2 (fun t7 w =>
    ld Try.prog 68 t7 (fun t8 w =>
    blt Try.prog Builtin.len #[68] 3 #[false] #[t8] (fun t9 w =>
    K t9 w) w) w) w) w)) w) :
    Gives Try.prog 16 #[d0] w K := enter' Try.func16 (by kernel_rfl) (Eq.mp (congrArg (fun c => cCode Try.prog c (retK Try.prog Try.f16.results.toList K) (fun _ _ _ => False) (retK Try.prog Try.f16.results.toList K) [d0, undef, undef, undef, undef, undef, undef, undef, undef, undef] w) (by kernel_rfl : (cd Try.f16 []) = (cd Try.f16 []))) (disk_Disk_Loose_k h))
theorem disk_Disk_Loose_go : isGo Try.prog 16 := ⟨_, Try.func16, by kernel_rfl, by kernel_rfl⟩

end Go.Proofs.Ytjkmblbonambjaa
