/- Written by program (gen.py): what the code of some functions asks, part by part; each text is checked by the kernel against the translation. -/
import Derived.Test.YtjkmblbonambjaaSh
import Derived.Test.YtjkmblbonambjaaChecked
namespace Go.Proofs.Ytjkmblbonambjaa
open Go.RowKit
set_option maxRecDepth 100000


theorem disk_New_k {K : KV} {w : World}
    (h : bld Try.prog 70 #[] (fun A0 w =>
    box Try.prog 70 A0 (fun A1 w =>
    K A1 w) w) w) :
    cCode Try.prog (cd Try.f11 []) (retK Try.prog Try.f11.results.toList K) (fun _ _ _ => False) (retK Try.prog Try.f11.results.toList K) [undef, undef, undef] w := Eq.mp (by kernel_rfl) h

theorem disk_New_in {K : KV} {w : World}
    (h : bld Try.prog 70 #[] (fun A0 w =>
    box Try.prog 70 A0 (fun A1 w =>
    K A1 w) w) w) :
    Gives Try.prog 11 #[] w K := enter' Try.func11 (by kernel_rfl) (Eq.mp (congrArg (fun c => cCode Try.prog c (retK Try.prog Try.f11.results.toList K) (fun _ _ _ => False) (retK Try.prog Try.f11.results.toList K) [undef, undef, undef] w) (by kernel_rfl : (cd Try.f11 []) = (cd Try.f11 []))) (disk_New_k h))
theorem disk_New_go : isGo Try.prog 11 := ⟨_, Try.func11, by kernel_rfl, by kernel_rfl⟩


theorem disk_known_k {K : KV} {file0 : Value} {w : World}
    (h : bin Try.prog BinOp.eql 3 false true file0 (Value.int IntKind.i64 0) (fun A3 w =>
    gsel A3 false (fun k6 =>
    bin Try.prog BinOp.eql 3 false true file0 (Value.int IntKind.i64 1) (fun A6 w =>
    k6 [file0, A6] w) w)
    (fun k => k [undef, undef] w) (fun us6 w =>
    pick A3 (Value.bool true) (gd us6 1) (fun A7 w =>
    K A7 w) w)) w) :
    cCode Try.prog (cd Try.f41 []) (retK Try.prog Try.f41.results.toList K) (fun _ _ _ => False) (retK Try.prog Try.f41.results.toList K) [file0, undef, undef, undef, undef, undef, undef, undef, undef] w := Eq.mp (by kernel_rfl) h

theorem disk_known_in {K : KV} {file0 : Value} {w : World}
    (h : bin Try.prog BinOp.eql 3 false true file0 (Value.int IntKind.i64 0) (fun A3 w =>
    gsel A3 false (fun k6 =>
    bin Try.prog BinOp.eql 3 false true file0 (Value.int IntKind.i64 1) (fun A6 w =>
    k6 [file0, A6] w) w)
    (fun k => k [undef, undef] w) (fun us6 w =>
    pick A3 (Value.bool true) (gd us6 1) (fun A7 w =>
    K A7 w) w)) w) :
    Gives Try.prog 41 #[file0] w K := enter' Try.func41 (by kernel_rfl) (Eq.mp (congrArg (fun c => cCode Try.prog c (retK Try.prog Try.f41.results.toList K) (fun _ _ _ => False) (retK Try.prog Try.f41.results.toList K) [file0, undef, undef, undef, undef, undef, undef, undef, undef] w) (by kernel_rfl : (cd Try.f41 []) = (cd Try.f41 []))) (disk_known_k h))
theorem disk_known_go : isGo Try.prog 41 := ⟨_, Try.func41, by kernel_rfl, by kernel_rfl⟩


theorem disk_Disk_ready_k {K : KV} {d0 : Value} {w : World}
    (h : bin Try.prog BinOp.eql 25 false true d0 (Value.pointer none) (fun A4 w =>
    cond A4
      (K (Value.int IntKind.i64 2) w)
      (nilC d0 (fun A7 w =>
      fldA Try.prog 70 A7 3 (fun A8 w =>
      ld Try.prog 4 A8 (fun A9 w =>
      cond A9
        (K (Value.int IntKind.i64 8) w)
        (K (Value.int IntKind.i64 0) w)) w) w) w)) w) :
    cCode Try.prog (cd Try.f40 []) (retK Try.prog Try.f40.results.toList K) (fun _ _ _ => False) (retK Try.prog Try.f40.results.toList K) [d0, undef, undef, undef, undef, undef, undef, undef, undef, undef, undef] w := Eq.mp (by kernel_rfl) h

theorem disk_Disk_ready_in {K : KV} {d0 : Value} {w : World}
    (h : bin Try.prog BinOp.eql 25 false true d0 (Value.pointer none) (fun A4 w =>
    cond A4
      (K (Value.int IntKind.i64 2) w)
      (nilC d0 (fun A7 w =>
      fldA Try.prog 70 A7 3 (fun A8 w =>
      ld Try.prog 4 A8 (fun A9 w =>
      cond A9
        (K (Value.int IntKind.i64 8) w)
        (K (Value.int IntKind.i64 0) w)) w) w) w)) w) :
    Gives Try.prog 40 #[d0] w K := enter' Try.func40 (by kernel_rfl) (Eq.mp (congrArg (fun c => cCode Try.prog c (retK Try.prog Try.f40.results.toList K) (fun _ _ _ => False) (retK Try.prog Try.f40.results.toList K) [d0, undef, undef, undef, undef, undef, undef, undef, undef, undef, undef] w) (by kernel_rfl : (cd Try.f40 []) = (cd Try.f40 []))) (disk_Disk_ready_k h))
theorem disk_Disk_ready_go : isGo Try.prog 40 := ⟨_, Try.func40, by kernel_rfl, by kernel_rfl⟩


theorem disk_Disk_burns_k {K : KV} {d0 : Value} {w : World}
    (h : nilC d0 (fun A3 w =>
    fldA Try.prog 70 A3 4 (fun A4 w =>
    ld Try.prog 4 A4 (fun A5 w =>
    un Try.prog UnOp.not A5 (fun A6 w =>
    cond A6
      (K (Value.bool false) w)
      (nilC d0 (fun A8 w =>
    fldA Try.prog 70 A8 5 (fun A9 w =>
    ld Try.prog 3 A9 (fun C0 w =>
    bin Try.prog BinOp.eql 3 false true C0 (Value.int IntKind.i64 0) (fun C1 w =>
    cond C1
      (call Try.prog 28 #[d0] (fun C3 w =>
      K (Value.bool true) w) w)
      (nilC d0 (fun C5 w =>
    fldA Try.prog 70 C5 5 (fun C6 w =>
    ld Try.prog 3 C6 (fun C7 w =>
    bin Try.prog BinOp.sub 3 false true C7 (Value.int IntKind.i64 1) (fun C8 w =>
    nilC d0 (fun C9 w =>
    fldA Try.prog 70 C9 5 (fun D0 w =>
    sto Try.prog 3 D0 C8 (fun _t w =>
    K (Value.bool false) w) w) w) w) w) w) w) w)) w) w) w) w)) w) w) w) w) :
    cCode Try.prog (cd Try.f58 []) (retK Try.prog Try.f58.results.toList K) (fun _ _ _ => False) (retK Try.prog Try.f58.results.toList K) [d0, undef, undef, undef, undef, undef, undef, undef, undef, undef, undef, undef, undef, undef, undef, undef, undef, undef, undef, undef, undef, undef] w := Eq.mp (by kernel_rfl) h

theorem disk_Disk_burns_in {K : KV} {d0 : Value} {w : World}
    (h : nilC d0 (fun A3 w =>
    fldA Try.prog 70 A3 4 (fun A4 w =>
    ld Try.prog 4 A4 (fun A5 w =>
    un Try.prog UnOp.not A5 (fun A6 w =>
    cond A6
      (K (Value.bool false) w)
      (nilC d0 (fun A8 w =>
    fldA Try.prog 70 A8 5 (fun A9 w =>
    ld Try.prog 3 A9 (fun C0 w =>
    bin Try.prog BinOp.eql 3 false true C0 (Value.int IntKind.i64 0) (fun C1 w =>
    cond C1
      (call Try.prog 28 #[d0] (fun C3 w =>
      K (Value.bool true) w) w)
      (nilC d0 (fun C5 w =>
    fldA Try.prog 70 C5 5 (fun C6 w =>
    ld Try.prog 3 C6 (fun C7 w =>
    bin Try.prog BinOp.sub 3 false true C7 (Value.int IntKind.i64 1) (fun C8 w =>
    nilC d0 (fun C9 w =>
    fldA Try.prog 70 C9 5 (fun D0 w =>
    sto Try.prog 3 D0 C8 (fun _t w =>
    K (Value.bool false) w) w) w) w) w) w) w) w)) w) w) w) w)) w) w) w) w) :
    Gives Try.prog 58 #[d0] w K := enter' Try.func58 (by kernel_rfl) (Eq.mp (congrArg (fun c => cCode Try.prog c (retK Try.prog Try.f58.results.toList K) (fun _ _ _ => False) (retK Try.prog Try.f58.results.toList K) [d0, undef, undef, undef, undef, undef, undef, undef, undef, undef, undef, undef, undef, undef, undef, undef, undef, undef, undef, undef, undef, undef] w) (by kernel_rfl : (cd Try.f58 []) = (cd Try.f58 []))) (disk_Disk_burns_k h))
theorem disk_Disk_burns_go : isGo Try.prog 58 := ⟨_, Try.func58, by kernel_rfl, by kernel_rfl⟩


theorem disk_Disk_make_k {K : KV} {d0 c1 : Value} {w : World}
    (h : box Try.prog 90 c1 (fun c3 w =>
    hReg (fun S w =>
    hld S (fun k w => nilC d0 k w) (fun A6 =>
    hld S (fun k w => fldA Try.prog 70 A6 2 k w) (fun A7 =>
    hld S (fun k w => ld Try.prog 68 A7 k w) (fun A8 =>
    hld S (fun k w => ld Try.prog 90 c3 k w) (fun A9 =>
    bldS Try.prog 68 1 #[(0, A9)] (fun C0 w =>
    hSub S (fun S w =>
    blt Try.prog Builtin.append #[68, 68] 68 #[false, false] #[A8, C0] (fun C1 w =>
    hReg (fun S w =>
    hld S (fun k w => nilC d0 k w) (fun C2 =>
    hld S (fun k w => fldA Try.prog 70 C2 2 k w) (fun C3 =>
    sto Try.prog 68 C3 C1 (fun _t w =>
    hReg (fun S w =>
    hld S (fun k w => fldA Try.prog 90 c3 0 k w) (fun C4 =>
    hld S (fun k w => ld Try.prog 88 C4 k w) (fun C5 =>
    hld S (fun k w => nilC d0 k w) (fun C7 =>
    hld S (fun k w => fldA Try.prog 70 C7 1 k w) (fun C8 =>
    hld S (fun k w => fldA Try.prog 90 c3 1 k w) (fun C9 =>
    hld S (fun k w => ld Try.prog 29 C9 k w) (fun D0 =>
    callV Try.prog C5 #[C8, D0] (fun D1 w =>
    call Try.prog 58 #[d0] (fun D3 w =>
    cond D3
      (K (Value.int IntKind.i64 8) w)
      (K (Value.int IntKind.i64 0) w)) w) w))))))) w.drew) w))) w) w) w) w))))) w.drew) w) :
    cCode Try.prog (cd Try.f56 []) (retK Try.prog Try.f56.results.toList K) (fun _ _ _ => False) (retK Try.prog Try.f56.results.toList K) [d0, c1, undef, undef, undef, undef, undef, undef, undef, undef, undef, undef, undef, undef, undef, undef, undef, undef, undef, undef, undef, undef, undef, undef, undef] w := Eq.mp (by kernel_rfl) h

theorem disk_Disk_make_in {K : KV} {d0 c1 : Value} {w : World}
    (h : box Try.prog 90 c1 (fun c3 w =>
    hReg (fun S w =>
    hld S (fun k w => nilC d0 k w) (fun A6 =>
    hld S (fun k w => fldA Try.prog 70 A6 2 k w) (fun A7 =>
    hld S (fun k w => ld Try.prog 68 A7 k w) (fun A8 =>
    hld S (fun k w => ld Try.prog 90 c3 k w) (fun A9 =>
    bldS Try.prog 68 1 #[(0, A9)] (fun C0 w =>
    hSub S (fun S w =>
    blt Try.prog Builtin.append #[68, 68] 68 #[false, false] #[A8, C0] (fun C1 w =>
    hReg (fun S w =>
    hld S (fun k w => nilC d0 k w) (fun C2 =>
    hld S (fun k w => fldA Try.prog 70 C2 2 k w) (fun C3 =>
    sto Try.prog 68 C3 C1 (fun _t w =>
    hReg (fun S w =>
    hld S (fun k w => fldA Try.prog 90 c3 0 k w) (fun C4 =>
    hld S (fun k w => ld Try.prog 88 C4 k w) (fun C5 =>
    hld S (fun k w => nilC d0 k w) (fun C7 =>
    hld S (fun k w => fldA Try.prog 70 C7 1 k w) (fun C8 =>
    hld S (fun k w => fldA Try.prog 90 c3 1 k w) (fun C9 =>
    hld S (fun k w => ld Try.prog 29 C9 k w) (fun D0 =>
    callV Try.prog C5 #[C8, D0] (fun D1 w =>
    call Try.prog 58 #[d0] (fun D3 w =>
    cond D3
      (K (Value.int IntKind.i64 8) w)
      (K (Value.int IntKind.i64 0) w)) w) w))))))) w.drew) w))) w) w) w) w))))) w.drew) w) :
    Gives Try.prog 56 #[d0, c1] w K := enter' Try.func56 (by kernel_rfl) (Eq.mp (congrArg (fun c => cCode Try.prog c (retK Try.prog Try.f56.results.toList K) (fun _ _ _ => False) (retK Try.prog Try.f56.results.toList K) [d0, c1, undef, undef, undef, undef, undef, undef, undef, undef, undef, undef, undef, undef, undef, undef, undef, undef, undef, undef, undef, undef, undef, undef, undef] w) (by kernel_rfl : (cd Try.f56 []) = (cd Try.f56 []))) (disk_Disk_make_k h))
theorem disk_Disk_make_go : isGo Try.prog 56 := ⟨_, Try.func56, by kernel_rfl, by kernel_rfl⟩


theorem disk_Disk_Append_k {K : KV} {d0 file1 b2 : Value} {w : World}
    (h : box Try.prog 3 file1 (fun file4 w =>
    call Try.prog 40 #[d0] (fun A8 w =>
    bin Try.prog BinOp.neq 33 false true A8 (Value.int IntKind.i64 0) (fun C0 w =>
    cond C0
      (K A8 w)
      (ld Try.prog 3 file4 (fun C3 w =>
    call Try.prog 41 #[C3] (fun C4 w =>
    un Try.prog UnOp.not C4 (fun C5 w =>
    cond C5
      (K (Value.int IntKind.i64 1) w)
      ((fun w =>
      sti (fun k w => nilC d0 k w) (fun C8 w =>
      sti (fun k w => fldA Try.prog 70 C8 1 k w) (fun C9 w =>
      sti (fun k w => idxA Try.prog 67 C9 (Value.int IntKind.i64 0) k w) (fun D0 w =>
      sti (fun k w => ld Try.prog 29 D0 k w) (fun D1 w =>
      sti (fun k w => blt Try.prog Builtin.len #[29] 3 #[false] #[D1] k w) (fun D2 w =>
      sti (fun k w => nilC d0 k w) (fun D4 w =>
      sti (fun k w => fldA Try.prog 70 D4 1 k w) (fun D5 w =>
      sti (fun k w => idxA Try.prog 67 D5 (Value.int IntKind.i64 1) k w) (fun D6 w =>
      sti (fun k w => ld Try.prog 29 D6 k w) (fun D7 w =>
      sti (fun k w => blt Try.prog Builtin.len #[29] 3 #[false] #[D7] k w) (fun D8 w =>
      sti (fun k w => bin Try.prog BinOp.add 3 false false D2 D8 k w) (fun D9 w =>
      sti (fun k w => blt Try.prog Builtin.len #[29] 3 #[false] #[b2] k w) (fun E1 w =>
      sti (fun k w => bin Try.prog BinOp.add 3 false false D9 E1 k w) (fun E2 w =>
      sti (fun k w => bin Try.prog BinOp.gtr 3 false true E2 (Value.int IntKind.i64 4194304) k w) (fun E3 w =>
      cond E3
        (K (Value.int IntKind.i64 7) w)
        (call Try.prog 42 #[b2] (fun E6 w =>
    bld Try.prog 90 #[(1, E6), (2, (Value.bool true)), (0, (Value.func (Fn.func 57) #[] #[file4]))] (fun E8 w =>
    call Try.prog 56 #[d0, E8] (fun E9 w =>
    K E9 w) w) w) w)) w) w) w) w) w) w) w) w) w) w) w) w) w) w) w.drew)) w) w) w)) w) w) w) :
    cCode Try.prog (cd Try.f32 []) (retK Try.prog Try.f32.results.toList K) (fun _ _ _ => False) (retK Try.prog Try.f32.results.toList K) [d0, file1, b2, undef, undef, undef, undef, undef, undef, undef, undef, undef, undef, undef, undef, undef, undef, undef, undef, undef, undef, undef, undef, undef, undef, undef, undef, undef, undef, undef, undef, undef, undef, undef, undef, undef, undef, undef, undef, undef, undef] w := Eq.mp (by kernel_rfl) h

theorem disk_Disk_Append_in {K : KV} {d0 file1 b2 : Value} {w : World}
    (h : box Try.prog 3 file1 (fun file4 w =>
    call Try.prog 40 #[d0] (fun A8 w =>
    bin Try.prog BinOp.neq 33 false true A8 (Value.int IntKind.i64 0) (fun C0 w =>
    cond C0
      (K A8 w)
      (ld Try.prog 3 file4 (fun C3 w =>
    call Try.prog 41 #[C3] (fun C4 w =>
    un Try.prog UnOp.not C4 (fun C5 w =>
    cond C5
      (K (Value.int IntKind.i64 1) w)
      ((fun w =>
      sti (fun k w => nilC d0 k w) (fun C8 w =>
      sti (fun k w => fldA Try.prog 70 C8 1 k w) (fun C9 w =>
      sti (fun k w => idxA Try.prog 67 C9 (Value.int IntKind.i64 0) k w) (fun D0 w =>
      sti (fun k w => ld Try.prog 29 D0 k w) (fun D1 w =>
      sti (fun k w => blt Try.prog Builtin.len #[29] 3 #[false] #[D1] k w) (fun D2 w =>
      sti (fun k w => nilC d0 k w) (fun D4 w =>
      sti (fun k w => fldA Try.prog 70 D4 1 k w) (fun D5 w =>
      sti (fun k w => idxA Try.prog 67 D5 (Value.int IntKind.i64 1) k w) (fun D6 w =>
      sti (fun k w => ld Try.prog 29 D6 k w) (fun D7 w =>
      sti (fun k w => blt Try.prog Builtin.len #[29] 3 #[false] #[D7] k w) (fun D8 w =>
      sti (fun k w => bin Try.prog BinOp.add 3 false false D2 D8 k w) (fun D9 w =>
      sti (fun k w => blt Try.prog Builtin.len #[29] 3 #[false] #[b2] k w) (fun E1 w =>
      sti (fun k w => bin Try.prog BinOp.add 3 false false D9 E1 k w) (fun E2 w =>
      sti (fun k w => bin Try.prog BinOp.gtr 3 false true E2 (Value.int IntKind.i64 4194304) k w) (fun E3 w =>
      cond E3
        (K (Value.int IntKind.i64 7) w)
        (call Try.prog 42 #[b2] (fun E6 w =>
    bld Try.prog 90 #[(1, E6), (2, (Value.bool true)), (0, (Value.func (Fn.func 57) #[] #[file4]))] (fun E8 w =>
    call Try.prog 56 #[d0, E8] (fun E9 w =>
    K E9 w) w) w) w)) w) w) w) w) w) w) w) w) w) w) w) w) w) w) w.drew)) w) w) w)) w) w) w) :
    Gives Try.prog 32 #[d0, file1, b2] w K := enter' Try.func32 (by kernel_rfl) (Eq.mp (congrArg (fun c => cCode Try.prog c (retK Try.prog Try.f32.results.toList K) (fun _ _ _ => False) (retK Try.prog Try.f32.results.toList K) [d0, file1, b2, undef, undef, undef, undef, undef, undef, undef, undef, undef, undef, undef, undef, undef, undef, undef, undef, undef, undef, undef, undef, undef, undef, undef, undef, undef, undef, undef, undef, undef, undef, undef, undef, undef, undef, undef, undef, undef, undef] w) (by kernel_rfl : (cd Try.f32 []) = (cd Try.f32 []))) (disk_Disk_Append_k h))
theorem disk_Disk_Append_go : isGo Try.prog 32 := ⟨_, Try.func32, by kernel_rfl, by kernel_rfl⟩


theorem disk_Disk_Append_1_k {K : KV} {f0 b1 A1 : Value} {w : World}
    (h : hReg (fun S w =>
    hld S (fun k w => ld Try.prog 3 A1 k w) (fun A5 =>
    hld S (fun k w => ld Try.prog 3 A1 k w) (fun A7 =>
    hld S (fun k w => nilC f0 k w) (fun A8 =>
    hld S (fun k w => idxA Try.prog 67 A8 A7 k w) (fun A9 =>
    hld S (fun k w => ld Try.prog 29 A9 k w) (fun C0 =>
    hld S (fun k w => ld Try.prog 3 A1 k w) (fun C2 =>
    hld S (fun k w => nilC f0 k w) (fun C3 =>
    hld S (fun k w => idxA Try.prog 67 C3 C2 k w) (fun C4 =>
    hld S (fun k w => ld Try.prog 29 C4 k w) (fun C5 =>
    hld S (fun k w => blt Try.prog Builtin.len #[29] 3 #[false] #[C5] k w) (fun C6 =>
    hld S (fun k w => ld Try.prog 3 A1 k w) (fun C8 =>
    hld S (fun k w => nilC f0 k w) (fun C9 =>
    hld S (fun k w => idxA Try.prog 67 C9 C8 k w) (fun D0 =>
    hld S (fun k w => ld Try.prog 29 D0 k w) (fun D1 =>
    hld S (fun k w => blt Try.prog Builtin.len #[29] 3 #[false] #[D1] k w) (fun D2 =>
    hld S (fun k w => slc Try.prog 29 C0 none (some C6) (some D2) k w) (fun D3 =>
    hld S (fun k w => nilC f0 k w) (fun D6 =>
    blt Try.prog Builtin.append #[29, 29] 29 #[false, false] #[D3, b1] (fun D5 w =>
    hSub S (fun S w =>
    hld S (fun k w => idxA Try.prog 67 D6 A5 k w) (fun D7 =>
    sto Try.prog 29 D7 D5 (fun _t w =>
    K (Value.tuple #[]) w) w)) w) w)))))))))))))))))) w.drew) :
    cCode Try.prog (cd Try.f57 []) (retK Try.prog Try.f57.results.toList K) (fun _ _ _ => False) (retK Try.prog Try.f57.results.toList K) [f0, b1, A1, undef, undef, undef, undef, undef, undef, undef, undef, undef, undef, undef, undef, undef, undef, undef, undef, undef, undef, undef, undef, undef, undef, undef, undef, undef, undef] w := Eq.mp (by kernel_rfl) h

theorem disk_Disk_Append_1_in {K : KV} {f0 b1 A1 : Value} {w : World}
    (h : hReg (fun S w =>
    hld S (fun k w => ld Try.prog 3 A1 k w) (fun A5 =>
    hld S (fun k w => ld Try.prog 3 A1 k w) (fun A7 =>
    hld S (fun k w => nilC f0 k w) (fun A8 =>
    hld S (fun k w => idxA Try.prog 67 A8 A7 k w) (fun A9 =>
    hld S (fun k w => ld Try.prog 29 A9 k w) (fun C0 =>
    hld S (fun k w => ld Try.prog 3 A1 k w) (fun C2 =>
    hld S (fun k w => nilC f0 k w) (fun C3 =>
    hld S (fun k w => idxA Try.prog 67 C3 C2 k w) (fun C4 =>
    hld S (fun k w => ld Try.prog 29 C4 k w) (fun C5 =>
    hld S (fun k w => blt Try.prog Builtin.len #[29] 3 #[false] #[C5] k w) (fun C6 =>
    hld S (fun k w => ld Try.prog 3 A1 k w) (fun C8 =>
    hld S (fun k w => nilC f0 k w) (fun C9 =>
    hld S (fun k w => idxA Try.prog 67 C9 C8 k w) (fun D0 =>
    hld S (fun k w => ld Try.prog 29 D0 k w) (fun D1 =>
    hld S (fun k w => blt Try.prog Builtin.len #[29] 3 #[false] #[D1] k w) (fun D2 =>
    hld S (fun k w => slc Try.prog 29 C0 none (some C6) (some D2) k w) (fun D3 =>
    hld S (fun k w => nilC f0 k w) (fun D6 =>
    blt Try.prog Builtin.append #[29, 29] 29 #[false, false] #[D3, b1] (fun D5 w =>
    hSub S (fun S w =>
    hld S (fun k w => idxA Try.prog 67 D6 A5 k w) (fun D7 =>
    sto Try.prog 29 D7 D5 (fun _t w =>
    K (Value.tuple #[]) w) w)) w) w)))))))))))))))))) w.drew) :
    Gives Try.prog 57 #[f0, b1, A1] w K := enter' Try.func57 (by kernel_rfl) (Eq.mp (congrArg (fun c => cCode Try.prog c (retK Try.prog Try.f57.results.toList K) (fun _ _ _ => False) (retK Try.prog Try.f57.results.toList K) [f0, b1, A1, undef, undef, undef, undef, undef, undef, undef, undef, undef, undef, undef, undef, undef, undef, undef, undef, undef, undef, undef, undef, undef, undef, undef, undef, undef, undef] w) (by kernel_rfl : (cd Try.f57 []) = (cd Try.f57 []))) (disk_Disk_Append_1_k h))
theorem disk_Disk_Append_1_go : isGo Try.prog 57 := ⟨_, Try.func57, by kernel_rfl, by kernel_rfl⟩


theorem disk_Disk_Cut_k {K : KV} {d0 file1 n2 : Value} {w : World}
    (h : box Try.prog 3 file1 (fun file4 w =>
    box Try.prog 3 n2 (fun n5 w =>
    call Try.prog 40 #[d0] (fun A8 w =>
    bin Try.prog BinOp.neq 33 false true A8 (Value.int IntKind.i64 0) (fun C0 w =>
    cond C0
      (K A8 w)
      ((fun w =>
    sti (fun k w => ld Try.prog 3 file4 k w) (fun C2 w =>
    sti (fun k w => call Try.prog 41 #[C2] k w) (fun C3 w =>
    sti (fun k w => un Try.prog UnOp.not C3 k w) (fun C4 w =>
    gsel C4 false (fun k17 =>
    sti (fun k w => ld Try.prog 3 n5 k w) (fun C6 w =>
    sti (fun k w => bin Try.prog BinOp.lss 3 false true C6 (Value.int IntKind.i64 0) k w) (fun C7 w =>
    k17 [C6, C7] w) w) w)
    (fun k => k [undef, undef] w) (fun us17 w =>
    sti (fun k w => pick C4 (Value.bool true) (gd us17 1) k w) (fun C8 w =>
    gsel C8 false (fun k21 =>
    sti (fun k w => ld Try.prog 3 n5 k w) (fun D0 w =>
    sti (fun k w => ld Try.prog 3 file4 k w) (fun D2 w =>
    sti (fun k w => nilC d0 k w) (fun D3 w =>
    sti (fun k w => fldA Try.prog 70 D3 1 k w) (fun D4 w =>
    sti (fun k w => idxA Try.prog 67 D4 D2 k w) (fun D5 w =>
    sti (fun k w => ld Try.prog 29 D5 k w) (fun D6 w =>
    sti (fun k w => blt Try.prog Builtin.len #[29] 3 #[false] #[D6] k w) (fun D7 w =>
    sti (fun k w => bin Try.prog BinOp.gtr 3 false false D0 D7 k w) (fun D8 w =>
    k21 [D0, d0, D2, D3, D4, D5, D6, D7, D8] w) w) w) w) w) w) w) w) w)
    (fun k => k [undef, undef, undef, undef, undef, undef, undef, undef, undef] w) (fun us21 w =>
    sti (fun k w => pick C8 (Value.bool true) (gd us21 8) k w) (fun D9 w =>
    cond D9
      (K (Value.int IntKind.i64 1) w)
      (bld Try.prog 90 #[(0, (Value.func (Fn.func 60) #[] #[file4, n5]))] (fun E2 w =>
    call Try.prog 56 #[d0, E2] (fun E3 w =>
    K E3 w) w) w)) w)) w)) w) w) w) w.drew)) w) w) w) w) :
    cCode Try.prog (cd Try.f35 []) (retK Try.prog Try.f35.results.toList K) (fun _ _ _ => False) (retK Try.prog Try.f35.results.toList K) [d0, file1, n2, undef, undef, undef, undef, undef, undef, undef, undef, undef, undef, undef, undef, undef, undef, undef, undef, undef, undef, undef, undef, undef, undef, undef, undef, undef, undef, undef, undef, undef, undef, undef, undef] w := Eq.mp (by kernel_rfl) h

theorem disk_Disk_Cut_in {K : KV} {d0 file1 n2 : Value} {w : World}
    (h : box Try.prog 3 file1 (fun file4 w =>
    box Try.prog 3 n2 (fun n5 w =>
    call Try.prog 40 #[d0] (fun A8 w =>
    bin Try.prog BinOp.neq 33 false true A8 (Value.int IntKind.i64 0) (fun C0 w =>
    cond C0
      (K A8 w)
      ((fun w =>
    sti (fun k w => ld Try.prog 3 file4 k w) (fun C2 w =>
    sti (fun k w => call Try.prog 41 #[C2] k w) (fun C3 w =>
    sti (fun k w => un Try.prog UnOp.not C3 k w) (fun C4 w =>
    gsel C4 false (fun k17 =>
    sti (fun k w => ld Try.prog 3 n5 k w) (fun C6 w =>
    sti (fun k w => bin Try.prog BinOp.lss 3 false true C6 (Value.int IntKind.i64 0) k w) (fun C7 w =>
    k17 [C6, C7] w) w) w)
    (fun k => k [undef, undef] w) (fun us17 w =>
    sti (fun k w => pick C4 (Value.bool true) (gd us17 1) k w) (fun C8 w =>
    gsel C8 false (fun k21 =>
    sti (fun k w => ld Try.prog 3 n5 k w) (fun D0 w =>
    sti (fun k w => ld Try.prog 3 file4 k w) (fun D2 w =>
    sti (fun k w => nilC d0 k w) (fun D3 w =>
    sti (fun k w => fldA Try.prog 70 D3 1 k w) (fun D4 w =>
    sti (fun k w => idxA Try.prog 67 D4 D2 k w) (fun D5 w =>
    sti (fun k w => ld Try.prog 29 D5 k w) (fun D6 w =>
    sti (fun k w => blt Try.prog Builtin.len #[29] 3 #[false] #[D6] k w) (fun D7 w =>
    sti (fun k w => bin Try.prog BinOp.gtr 3 false false D0 D7 k w) (fun D8 w =>
    k21 [D0, d0, D2, D3, D4, D5, D6, D7, D8] w) w) w) w) w) w) w) w) w)
    (fun k => k [undef, undef, undef, undef, undef, undef, undef, undef, undef] w) (fun us21 w =>
    sti (fun k w => pick C8 (Value.bool true) (gd us21 8) k w) (fun D9 w =>
    cond D9
      (K (Value.int IntKind.i64 1) w)
      (bld Try.prog 90 #[(0, (Value.func (Fn.func 60) #[] #[file4, n5]))] (fun E2 w =>
    call Try.prog 56 #[d0, E2] (fun E3 w =>
    K E3 w) w) w)) w)) w)) w) w) w) w.drew)) w) w) w) w) :
    Gives Try.prog 35 #[d0, file1, n2] w K := enter' Try.func35 (by kernel_rfl) (Eq.mp (congrArg (fun c => cCode Try.prog c (retK Try.prog Try.f35.results.toList K) (fun _ _ _ => False) (retK Try.prog Try.f35.results.toList K) [d0, file1, n2, undef, undef, undef, undef, undef, undef, undef, undef, undef, undef, undef, undef, undef, undef, undef, undef, undef, undef, undef, undef, undef, undef, undef, undef, undef, undef, undef, undef, undef, undef, undef, undef] w) (by kernel_rfl : (cd Try.f35 []) = (cd Try.f35 []))) (disk_Disk_Cut_k h))
theorem disk_Disk_Cut_go : isGo Try.prog 35 := ⟨_, Try.func35, by kernel_rfl, by kernel_rfl⟩


theorem disk_Disk_Cut_1_k {K : KV} {f0 A0 A1 A2 : Value} {w : World}
    (h : (fun w =>
    sti (fun k w => ld Try.prog 3 A1 k w) (fun A6 w =>
    sti (fun k w => ld Try.prog 3 A1 k w) (fun A8 w =>
    sti (fun k w => nilC f0 k w) (fun A9 w =>
    sti (fun k w => idxA Try.prog 67 A9 A8 k w) (fun C0 w =>
    sti (fun k w => ld Try.prog 29 C0 k w) (fun C1 w =>
    sti (fun k w => ld Try.prog 3 A2 k w) (fun C2 w =>
    sti (fun k w => ld Try.prog 3 A2 k w) (fun C3 w =>
    sti (fun k w => slc Try.prog 29 C1 none (some C2) (some C3) k w) (fun C4 w =>
    sti (fun k w => nilC f0 k w) (fun C5 w =>
    sti (fun k w => idxA Try.prog 67 C5 A6 k w) (fun C6 w =>
    sto Try.prog 29 C6 C4 (fun _t w =>
    K (Value.tuple #[]) w) w) w) w) w) w) w) w) w) w) w) w) w.drew) :
    cCode Try.prog (cd Try.f60 []) (retK Try.prog Try.f60.results.toList K) (fun _ _ _ => False) (retK Try.prog Try.f60.results.toList K) [f0, A0, A1, A2, undef, undef, undef, undef, undef, undef, undef, undef, undef, undef, undef, undef, undef, undef] w := Eq.mp (by kernel_rfl) h

theorem disk_Disk_Cut_1_in {K : KV} {f0 A0 A1 A2 : Value} {w : World}
    (h : (fun w =>
    sti (fun k w => ld Try.prog 3 A1 k w) (fun A6 w =>
    sti (fun k w => ld Try.prog 3 A1 k w) (fun A8 w =>
    sti (fun k w => nilC f0 k w) (fun A9 w =>
    sti (fun k w => idxA Try.prog 67 A9 A8 k w) (fun C0 w =>
    sti (fun k w => ld Try.prog 29 C0 k w) (fun C1 w =>
    sti (fun k w => ld Try.prog 3 A2 k w) (fun C2 w =>
    sti (fun k w => ld Try.prog 3 A2 k w) (fun C3 w =>
    sti (fun k w => slc Try.prog 29 C1 none (some C2) (some C3) k w) (fun C4 w =>
    sti (fun k w => nilC f0 k w) (fun C5 w =>
    sti (fun k w => idxA Try.prog 67 C5 A6 k w) (fun C6 w =>
    sto Try.prog 29 C6 C4 (fun _t w =>
    K (Value.tuple #[]) w) w) w) w) w) w) w) w) w) w) w) w) w.drew) :
    Gives Try.prog 60 #[f0, A0, A1, A2] w K := enter' Try.func60 (by kernel_rfl) (Eq.mp (congrArg (fun c => cCode Try.prog c (retK Try.prog Try.f60.results.toList K) (fun _ _ _ => False) (retK Try.prog Try.f60.results.toList K) [f0, A0, A1, A2, undef, undef, undef, undef, undef, undef, undef, undef, undef, undef, undef, undef, undef, undef] w) (by kernel_rfl : (cd Try.f60 []) = (cd Try.f60 []))) (disk_Disk_Cut_1_k h))
theorem disk_Disk_Cut_1_go : isGo Try.prog 60 := ⟨_, Try.func60, by kernel_rfl, by kernel_rfl⟩


theorem disk_Disk_Rename_k {K : KV} {d0 : Value} {w : World}
    (h : call Try.prog 40 #[d0] (fun A4 w =>
    bin Try.prog BinOp.neq 33 false true A4 (Value.int IntKind.i64 0) (fun A6 w =>
    cond A6
      (K A4 w)
      (bld Try.prog 90 #[(0, (Value.func (Fn.func 59) #[] #[]))] (fun A9 w =>
    call Try.prog 56 #[d0, A9] (fun C0 w =>
    K C0 w) w) w)) w) w) :
    cCode Try.prog (cd Try.f34 []) (retK Try.prog Try.f34.results.toList K) (fun _ _ _ => False) (retK Try.prog Try.f34.results.toList K) [d0, undef, undef, undef, undef, undef, undef, undef, undef, undef, undef, undef] w := Eq.mp (by kernel_rfl) h

theorem disk_Disk_Rename_in {K : KV} {d0 : Value} {w : World}
    (h : call Try.prog 40 #[d0] (fun A4 w =>
    bin Try.prog BinOp.neq 33 false true A4 (Value.int IntKind.i64 0) (fun A6 w =>
    cond A6
      (K A4 w)
      (bld Try.prog 90 #[(0, (Value.func (Fn.func 59) #[] #[]))] (fun A9 w =>
    call Try.prog 56 #[d0, A9] (fun C0 w =>
    K C0 w) w) w)) w) w) :
    Gives Try.prog 34 #[d0] w K := enter' Try.func34 (by kernel_rfl) (Eq.mp (congrArg (fun c => cCode Try.prog c (retK Try.prog Try.f34.results.toList K) (fun _ _ _ => False) (retK Try.prog Try.f34.results.toList K) [d0, undef, undef, undef, undef, undef, undef, undef, undef, undef, undef, undef] w) (by kernel_rfl : (cd Try.f34 []) = (cd Try.f34 []))) (disk_Disk_Rename_k h))
theorem disk_Disk_Rename_go : isGo Try.prog 34 := ⟨_, Try.func34, by kernel_rfl, by kernel_rfl⟩


theorem disk_Disk_Rename_1_k {K : KV} {f0 A0 : Value} {w : World}
    (h : hReg (fun S w =>
    hld S (fun k w => nilC f0 k w) (fun A6 =>
    hld S (fun k w => idxA Try.prog 67 A6 (Value.int IntKind.i64 1) k w) (fun A7 =>
    hld S (fun k w => ld Try.prog 29 A7 k w) (fun A8 =>
    hld S (fun k w => nilC f0 k w) (fun A9 =>
    hld S (fun k w => idxA Try.prog 67 A9 (Value.int IntKind.i64 0) k w) (fun C0 =>
    hld S (fun k w => nilC f0 k w) (fun C1 =>
    sto Try.prog 29 C0 A8 (fun _t w =>
    hSub S (fun S w =>
    hld S (fun k w => idxA Try.prog 67 C1 (Value.int IntKind.i64 1) k w) (fun C2 =>
    sto Try.prog 29 C2 (Value.slice none 0 0) (fun _t w =>
    K (Value.tuple #[]) w) w)) w) w))))))) w.drew) :
    cCode Try.prog (cd Try.f59 []) (retK Try.prog Try.f59.results.toList K) (fun _ _ _ => False) (retK Try.prog Try.f59.results.toList K) [f0, A0, undef, undef, undef, undef, undef, undef, undef, undef, undef, undef, undef, undef] w := Eq.mp (by kernel_rfl) h

theorem disk_Disk_Rename_1_in {K : KV} {f0 A0 : Value} {w : World}
    (h : hReg (fun S w =>
    hld S (fun k w => nilC f0 k w) (fun A6 =>
    hld S (fun k w => idxA Try.prog 67 A6 (Value.int IntKind.i64 1) k w) (fun A7 =>
    hld S (fun k w => ld Try.prog 29 A7 k w) (fun A8 =>
    hld S (fun k w => nilC f0 k w) (fun A9 =>
    hld S (fun k w => idxA Try.prog 67 A9 (Value.int IntKind.i64 0) k w) (fun C0 =>
    hld S (fun k w => nilC f0 k w) (fun C1 =>
    sto Try.prog 29 C0 A8 (fun _t w =>
    hSub S (fun S w =>
    hld S (fun k w => idxA Try.prog 67 C1 (Value.int IntKind.i64 1) k w) (fun C2 =>
    sto Try.prog 29 C2 (Value.slice none 0 0) (fun _t w =>
    K (Value.tuple #[]) w) w)) w) w))))))) w.drew) :
    Gives Try.prog 59 #[f0, A0] w K := enter' Try.func59 (by kernel_rfl) (Eq.mp (congrArg (fun c => cCode Try.prog c (retK Try.prog Try.f59.results.toList K) (fun _ _ _ => False) (retK Try.prog Try.f59.results.toList K) [f0, A0, undef, undef, undef, undef, undef, undef, undef, undef, undef, undef, undef, undef] w) (by kernel_rfl : (cd Try.f59 []) = (cd Try.f59 []))) (disk_Disk_Rename_1_k h))
theorem disk_Disk_Rename_1_go : isGo Try.prog 59 := ⟨_, Try.func59, by kernel_rfl, by kernel_rfl⟩


theorem disk_Disk_Sync_k {K : KV} {d0 : Value} {w : World}
    (h : call Try.prog 40 #[d0] (fun A4 w =>
    bin Try.prog BinOp.neq 33 false true A4 (Value.int IntKind.i64 0) (fun A6 w =>
    cond A6
      (K A4 w)
      (call Try.prog 58 #[d0] (fun A9 w =>
    cond A9
      (K (Value.int IntKind.i64 8) w)
      (nilC d0 (fun C3 w =>
    fldA Try.prog 70 C3 1 (fun C4 w =>
    ld Try.prog 67 C4 (fun C5 w =>
    nilC d0 (fun C6 w =>
    fldA Try.prog 70 C6 0 (fun C7 w =>
    sto Try.prog 67 C7 C5 (fun _t w =>
    nilC d0 (fun C8 w =>
    fldA Try.prog 70 C8 2 (fun C9 w =>
    sto Try.prog 68 C9 (Value.slice none 0 0) (fun _t w =>
    K (Value.int IntKind.i64 0) w) w) w) w) w) w) w) w) w) w)) w)) w) w) :
    cCode Try.prog (cd Try.f33 []) (retK Try.prog Try.f33.results.toList K) (fun _ _ _ => False) (retK Try.prog Try.f33.results.toList K) [d0, undef, undef, undef, undef, undef, undef, undef, undef, undef, undef, undef, undef, undef, undef, undef, undef, undef, undef, undef, undef] w := Eq.mp (by kernel_rfl) h

theorem disk_Disk_Sync_in {K : KV} {d0 : Value} {w : World}
    (h : call Try.prog 40 #[d0] (fun A4 w =>
    bin Try.prog BinOp.neq 33 false true A4 (Value.int IntKind.i64 0) (fun A6 w =>
    cond A6
      (K A4 w)
      (call Try.prog 58 #[d0] (fun A9 w =>
    cond A9
      (K (Value.int IntKind.i64 8) w)
      (nilC d0 (fun C3 w =>
    fldA Try.prog 70 C3 1 (fun C4 w =>
    ld Try.prog 67 C4 (fun C5 w =>
    nilC d0 (fun C6 w =>
    fldA Try.prog 70 C6 0 (fun C7 w =>
    sto Try.prog 67 C7 C5 (fun _t w =>
    nilC d0 (fun C8 w =>
    fldA Try.prog 70 C8 2 (fun C9 w =>
    sto Try.prog 68 C9 (Value.slice none 0 0) (fun _t w =>
    K (Value.int IntKind.i64 0) w) w) w) w) w) w) w) w) w) w)) w)) w) w) :
    Gives Try.prog 33 #[d0] w K := enter' Try.func33 (by kernel_rfl) (Eq.mp (congrArg (fun c => cCode Try.prog c (retK Try.prog Try.f33.results.toList K) (fun _ _ _ => False) (retK Try.prog Try.f33.results.toList K) [d0, undef, undef, undef, undef, undef, undef, undef, undef, undef, undef, undef, undef, undef, undef, undef, undef, undef, undef, undef, undef] w) (by kernel_rfl : (cd Try.f33 []) = (cd Try.f33 []))) (disk_Disk_Sync_k h))
theorem disk_Disk_Sync_go : isGo Try.prog 33 := ⟨_, Try.func33, by kernel_rfl, by kernel_rfl⟩


theorem disk_Disk_Read_k {K : KV} {d0 file1 : Value} {w : World}
    (h : call Try.prog 40 #[d0] (fun A7 w =>
    bin Try.prog BinOp.neq 33 false true A7 (Value.int IntKind.i64 0) (fun A9 w =>
    cond A9
      (K (Value.tuple #[(Value.slice none 0 0), A7]) w)
      (call Try.prog 41 #[file1] (fun C2 w =>
    un Try.prog UnOp.not C2 (fun C3 w =>
    cond C3
      (K (Value.tuple #[(Value.slice none 0 0), (Value.int IntKind.i64 1)]) w)
      (nilC d0 (fun C6 w =>
    fldA Try.prog 70 C6 1 (fun C7 w =>
    idxA Try.prog 67 C7 file1 (fun C8 w =>
    ld Try.prog 29 C8 (fun C9 w =>
    call Try.prog 42 #[C9] (fun D0 w =>
    K (Value.tuple #[D0, (Value.int IntKind.i64 0)]) w) w) w) w) w) w)) w) w)) w) w) :
    cCode Try.prog (cd Try.f17 []) (retK Try.prog Try.f17.results.toList K) (fun _ _ _ => False) (retK Try.prog Try.f17.results.toList K) [d0, file1, undef, undef, undef, undef, undef, undef, undef, undef, undef, undef, undef, undef, undef, undef, undef, undef, undef, undef, undef, undef] w := Eq.mp (by kernel_rfl) h

theorem disk_Disk_Read_in {K : KV} {d0 file1 : Value} {w : World}
    (h : call Try.prog 40 #[d0] (fun A7 w =>
    bin Try.prog BinOp.neq 33 false true A7 (Value.int IntKind.i64 0) (fun A9 w =>
    cond A9
      (K (Value.tuple #[(Value.slice none 0 0), A7]) w)
      (call Try.prog 41 #[file1] (fun C2 w =>
    un Try.prog UnOp.not C2 (fun C3 w =>
    cond C3
      (K (Value.tuple #[(Value.slice none 0 0), (Value.int IntKind.i64 1)]) w)
      (nilC d0 (fun C6 w =>
    fldA Try.prog 70 C6 1 (fun C7 w =>
    idxA Try.prog 67 C7 file1 (fun C8 w =>
    ld Try.prog 29 C8 (fun C9 w =>
    call Try.prog 42 #[C9] (fun D0 w =>
    K (Value.tuple #[D0, (Value.int IntKind.i64 0)]) w) w) w) w) w) w)) w) w)) w) w) :
    Gives Try.prog 17 #[d0, file1] w K := enter' Try.func17 (by kernel_rfl) (Eq.mp (congrArg (fun c => cCode Try.prog c (retK Try.prog Try.f17.results.toList K) (fun _ _ _ => False) (retK Try.prog Try.f17.results.toList K) [d0, file1, undef, undef, undef, undef, undef, undef, undef, undef, undef, undef, undef, undef, undef, undef, undef, undef, undef, undef, undef, undef] w) (by kernel_rfl : (cd Try.f17 []) = (cd Try.f17 []))) (disk_Disk_Read_k h))
theorem disk_Disk_Read_go : isGo Try.prog 17 := ⟨_, Try.func17, by kernel_rfl, by kernel_rfl⟩


theorem disk_Disk_Fuse_k {K : KV} {d0 n1 : Value} {w : World}
    (h : bin Try.prog BinOp.neq 25 false true d0 (Value.pointer none) (fun A4 w =>
    cond A4
      (bin Try.prog BinOp.geq 3 false true n1 (Value.int IntKind.i64 0) (fun A8 w =>
      nilC d0 (fun C0 w =>
      fldA Try.prog 70 C0 4 (fun C1 w =>
      sto Try.prog 4 C1 A8 (fun _t w =>
      nilC d0 (fun C2 w =>
      fldA Try.prog 70 C2 5 (fun C3 w =>
      sto Try.prog 3 C3 n1 (fun _t w =>
      K (Value.tuple #[]) w) w) w) w) w) w) w) w)
      (K (Value.tuple #[]) w)) w) :
    cCode Try.prog (cd Try.f22 []) (retK Try.prog Try.f22.results.toList K) (fun _ _ _ => False) (retK Try.prog Try.f22.results.toList K) [d0, n1, undef, undef, undef, undef, undef, undef, undef, undef, undef, undef, undef, undef, undef] w := Eq.mp (by kernel_rfl) h

theorem disk_Disk_Fuse_in {K : KV} {d0 n1 : Value} {w : World}
    (h : bin Try.prog BinOp.neq 25 false true d0 (Value.pointer none) (fun A4 w =>
    cond A4
      (bin Try.prog BinOp.geq 3 false true n1 (Value.int IntKind.i64 0) (fun A8 w =>
      nilC d0 (fun C0 w =>
      fldA Try.prog 70 C0 4 (fun C1 w =>
      sto Try.prog 4 C1 A8 (fun _t w =>
      nilC d0 (fun C2 w =>
      fldA Try.prog 70 C2 5 (fun C3 w =>
      sto Try.prog 3 C3 n1 (fun _t w =>
      K (Value.tuple #[]) w) w) w) w) w) w) w) w)
      (K (Value.tuple #[]) w)) w) :
    Gives Try.prog 22 #[d0, n1] w K := enter' Try.func22 (by kernel_rfl) (Eq.mp (congrArg (fun c => cCode Try.prog c (retK Try.prog Try.f22.results.toList K) (fun _ _ _ => False) (retK Try.prog Try.f22.results.toList K) [d0, n1, undef, undef, undef, undef, undef, undef, undef, undef, undef, undef, undef, undef, undef] w) (by kernel_rfl : (cd Try.f22 []) = (cd Try.f22 []))) (disk_Disk_Fuse_k h))
theorem disk_Disk_Fuse_go : isGo Try.prog 22 := ⟨_, Try.func22, by kernel_rfl, by kernel_rfl⟩


theorem disk_Disk_Off_k {K : KV} {d0 : Value} {w : World}
    (h : bin Try.prog BinOp.neq 25 false true d0 (Value.pointer none) (fun A2 w =>
    cond A2
      (nilC d0 (fun A5 w =>
      fldA Try.prog 70 A5 3 (fun A6 w =>
      sto Try.prog 4 A6 (Value.bool true) (fun _t w =>
      nilC d0 (fun A7 w =>
      fldA Try.prog 70 A7 4 (fun A8 w =>
      sto Try.prog 4 A8 (Value.bool false) (fun _t w =>
      K (Value.tuple #[]) w) w) w) w) w) w) w)
      (K (Value.tuple #[]) w)) w) :
    cCode Try.prog (cd Try.f28 []) (retK Try.prog Try.f28.results.toList K) (fun _ _ _ => False) (retK Try.prog Try.f28.results.toList K) [d0, undef, undef, undef, undef, undef, undef, undef, undef, undef] w := Eq.mp (by kernel_rfl) h

theorem disk_Disk_Off_in {K : KV} {d0 : Value} {w : World}
    (h : bin Try.prog BinOp.neq 25 false true d0 (Value.pointer none) (fun A2 w =>
    cond A2
      (nilC d0 (fun A5 w =>
      fldA Try.prog 70 A5 3 (fun A6 w =>
      sto Try.prog 4 A6 (Value.bool true) (fun _t w =>
      nilC d0 (fun A7 w =>
      fldA Try.prog 70 A7 4 (fun A8 w =>
      sto Try.prog 4 A8 (Value.bool false) (fun _t w =>
      K (Value.tuple #[]) w) w) w) w) w) w) w)
      (K (Value.tuple #[]) w)) w) :
    Gives Try.prog 28 #[d0] w K := enter' Try.func28 (by kernel_rfl) (Eq.mp (congrArg (fun c => cCode Try.prog c (retK Try.prog Try.f28.results.toList K) (fun _ _ _ => False) (retK Try.prog Try.f28.results.toList K) [d0, undef, undef, undef, undef, undef, undef, undef, undef, undef] w) (by kernel_rfl : (cd Try.f28 []) = (cd Try.f28 []))) (disk_Disk_Off_k h))
theorem disk_Disk_Off_go : isGo Try.prog 28 := ⟨_, Try.func28, by kernel_rfl, by kernel_rfl⟩


theorem disk_pick_k {K : KV} {l0 i1 among2 : Value} {w : World}
    (h : blt Try.prog Builtin.len #[30] 3 #[false] #[l0] (fun A8 w =>
    bin Try.prog BinOp.geq 3 false false i1 A8 (fun A9 w =>
    gsel A9 false (fun k12 =>
    idxA Try.prog 30 l0 i1 (fun C3 w =>
    ld Try.prog 3 C3 (fun C4 w =>
    bin Try.prog BinOp.lss 3 false true C4 (Value.int IntKind.i64 0) (fun C5 w =>
    k12 [l0, i1, C3, C4, C5] w) w) w) w)
    (fun k => k [undef, undef, undef, undef, undef] w) (fun us12 w =>
    pick A9 (Value.bool true) (gd us12 4) (fun C6 w =>
    cond C6
      (K (Value.int IntKind.i64 0) w)
      (idxA Try.prog 30 l0 i1 (fun C9 w =>
    ld Try.prog 3 C9 (fun D0 w =>
    bin Try.prog BinOp.rem 3 false false D0 among2 (fun D2 w =>
    K D2 w) w) w) w)) w)) w) w) :
    cCode Try.prog (cd Try.f55 []) (retK Try.prog Try.f55.results.toList K) (fun _ _ _ => False) (retK Try.prog Try.f55.results.toList K) [l0, i1, among2, undef, undef, undef, undef, undef, undef, undef, undef, undef, undef, undef, undef, undef, undef, undef, undef, undef, undef, undef, undef, undef] w := Eq.mp (by kernel_rfl) h

theorem disk_pick_in {K : KV} {l0 i1 among2 : Value} {w : World}
    (h : blt Try.prog Builtin.len #[30] 3 #[false] #[l0] (fun A8 w =>
    bin Try.prog BinOp.geq 3 false false i1 A8 (fun A9 w =>
    gsel A9 false (fun k12 =>
    idxA Try.prog 30 l0 i1 (fun C3 w =>
    ld Try.prog 3 C3 (fun C4 w =>
    bin Try.prog BinOp.lss 3 false true C4 (Value.int IntKind.i64 0) (fun C5 w =>
    k12 [l0, i1, C3, C4, C5] w) w) w) w)
    (fun k => k [undef, undef, undef, undef, undef] w) (fun us12 w =>
    pick A9 (Value.bool true) (gd us12 4) (fun C6 w =>
    cond C6
      (K (Value.int IntKind.i64 0) w)
      (idxA Try.prog 30 l0 i1 (fun C9 w =>
    ld Try.prog 3 C9 (fun D0 w =>
    bin Try.prog BinOp.rem 3 false false D0 among2 (fun D2 w =>
    K D2 w) w) w) w)) w)) w) w) :
    Gives Try.prog 55 #[l0, i1, among2] w K := enter' Try.func55 (by kernel_rfl) (Eq.mp (congrArg (fun c => cCode Try.prog c (retK Try.prog Try.f55.results.toList K) (fun _ _ _ => False) (retK Try.prog Try.f55.results.toList K) [l0, i1, among2, undef, undef, undef, undef, undef, undef, undef, undef, undef, undef, undef, undef, undef, undef, undef, undef, undef, undef, undef, undef, undef] w) (by kernel_rfl : (cd Try.f55 []) = (cd Try.f55 []))) (disk_pick_k h))
theorem disk_pick_go : isGo Try.prog 55 := ⟨_, Try.func55, by kernel_rfl, by kernel_rfl⟩

def disk_Disk_On_A1 (K : KV) : KE := cCode Try.prog (cd Try.f25 [1, 1, 1, 1]) (retK Try.prog Try.f25.results.toList K) (fun _ _ _ => False) (retK Try.prog Try.f25.results.toList K)
def disk_Disk_On_P1 (K : KV) : KE := cCode Try.prog (cd Try.f25 [1, 1, 1, 1, 1]) (retK Try.prog Try.f25.results.toList K) (fun _ _ _ => False) (retK Try.prog Try.f25.results.toList K)
def disk_Disk_On_L1 (K : KV) : KE := cCode Try.prog (cd Try.f25 [1, 1, 1, 1, 0, 1, 0]) (disk_Disk_On_P1 K) (fun i => @Bool.rec (fun _ => KE) ((fun _ _ _ => False) i) (disk_Disk_On_P1 K) (Nat.beq i 1)) (retK Try.prog Try.f25.results.toList K)
def disk_Disk_On_P2 (K : KV) : KE := cCode Try.prog (cd Try.f25 [1, 1, 1, 1, 1, 1]) (retK Try.prog Try.f25.results.toList K) (fun _ _ _ => False) (retK Try.prog Try.f25.results.toList K)
def disk_Disk_On_A2 (K : KV) : KE := cCode Try.prog (cd Try.f25 [1, 1, 1, 1, 1, 0, 1]) (disk_Disk_On_P2 K) (fun _ _ _ => False) (retK Try.prog Try.f25.results.toList K)
theorem disk_Disk_On_k {K : KV} (xc0 : Code) {d0 picks1 : Value} {w : World}
    (h : bin Try.prog BinOp.eql 25 false true d0 (Value.pointer none) (fun C1 w =>
    cond C1
      (K (Value.int IntKind.i64 2) w)
      (nilC d0 (fun C4 w =>
      fldA Try.prog 70 C4 3 (fun C5 w =>
      ld Try.prog 4 C5 (fun C6 w =>
      un Try.prog UnOp.not C6 (fun C7 w =>
      cond C7
        (K (Value.int IntKind.i64 3) w)
        (nilC d0 (fun D0 w =>
    fldA Try.prog 70 D0 2 (fun D1 w =>
    ld Try.prog 68 D1 (fun D2 w =>
    blt Try.prog Builtin.len #[68] 3 #[false] #[D2] (fun D3 w =>
    bin Try.prog BinOp.add 3 false true D3 (Value.int IntKind.i64 1) (fun D4 w =>
    call Try.prog 55 #[picks1, (Value.int IntKind.i64 0), D4] (fun D5 w =>
    nilC d0 (fun D7 w =>
    fldA Try.prog 70 D7 0 (fun D8 w =>
    ld Try.prog 67 D8 (fun D9 w =>
    alc Try.prog 67 (fun f6 w =>
    sto Try.prog 67 f6 D9 (fun _t w =>
    (cCode Try.prog xc0 (retK Try.prog Try.f25.results.toList K) (fun _ _ _ => False) (retK Try.prog Try.f25.results.toList K)) (d0::picks1::undef::undef::(Value.int IntKind.i64 0)::D5::f6::undef::undef::undef::C1::d0::C1::C7::d0::C4::C5::C6::C7::picks1::d0::D0::D1::D2::D3::D4::D5::d0::D7::D8::D9::undef::undef::undef::undef::undef::undef::undef::undef::undef::undef::undef::undef::undef::undef::undef::undef::undef::undef::undef::undef::undef::undef::undef::undef::undef::undef::undef::undef::undef::undef::undef::undef::undef::undef::undef::undef::undef::undef::undef::undef::undef::undef::undef::undef::undef::undef::undef::undef::undef::undef::[]) w) w) w) w) w) w) w) w) w) w) w) w)) w) w) w) w)) w) :
    cCode Try.prog (rep [1, 1, 1, 1] xc0 (cd Try.f25 [])) (retK Try.prog Try.f25.results.toList K) (fun _ _ _ => False) (retK Try.prog Try.f25.results.toList K) (d0::picks1::undef::undef::undef::undef::undef::undef::undef::undef::undef::undef::undef::undef::undef::undef::undef::undef::undef::undef::undef::undef::undef::undef::undef::undef::undef::undef::undef::undef::undef::undef::undef::undef::undef::undef::undef::undef::undef::undef::undef::undef::undef::undef::undef::undef::undef::undef::undef::undef::undef::undef::undef::undef::undef::undef::undef::undef::undef::undef::undef::undef::undef::undef::undef::undef::undef::undef::undef::undef::undef::undef::undef::undef::undef::undef::undef::undef::undef::undef::undef::[]) w := Eq.mp (by kernel_rfl) h

theorem disk_Disk_On_in {K : KV} {d0 picks1 : Value} {w : World}
    (h : bin Try.prog BinOp.eql 25 false true d0 (Value.pointer none) (fun C1 w =>
    cond C1
      (K (Value.int IntKind.i64 2) w)
      (nilC d0 (fun C4 w =>
      fldA Try.prog 70 C4 3 (fun C5 w =>
      ld Try.prog 4 C5 (fun C6 w =>
      un Try.prog UnOp.not C6 (fun C7 w =>
      cond C7
        (K (Value.int IntKind.i64 3) w)
        (nilC d0 (fun D0 w =>
    fldA Try.prog 70 D0 2 (fun D1 w =>
    ld Try.prog 68 D1 (fun D2 w =>
    blt Try.prog Builtin.len #[68] 3 #[false] #[D2] (fun D3 w =>
    bin Try.prog BinOp.add 3 false true D3 (Value.int IntKind.i64 1) (fun D4 w =>
    call Try.prog 55 #[picks1, (Value.int IntKind.i64 0), D4] (fun D5 w =>
    nilC d0 (fun D7 w =>
    fldA Try.prog 70 D7 0 (fun D8 w =>
    ld Try.prog 67 D8 (fun D9 w =>
    alc Try.prog 67 (fun f6 w =>
    sto Try.prog 67 f6 D9 (fun _t w =>
    (disk_Disk_On_A1 K) (d0::picks1::undef::undef::(Value.int IntKind.i64 0)::D5::f6::undef::undef::undef::C1::d0::C1::C7::d0::C4::C5::C6::C7::picks1::d0::D0::D1::D2::D3::D4::D5::d0::D7::D8::D9::undef::undef::undef::undef::undef::undef::undef::undef::undef::undef::undef::undef::undef::undef::undef::undef::undef::undef::undef::undef::undef::undef::undef::undef::undef::undef::undef::undef::undef::undef::undef::undef::undef::undef::undef::undef::undef::undef::undef::undef::undef::undef::undef::undef::undef::undef::undef::undef::undef::undef::[]) w) w) w) w) w) w) w) w) w) w) w) w)) w) w) w) w)) w) :
    Gives Try.prog 25 #[d0, picks1] w K := enter' Try.func25 (by kernel_rfl) (Eq.mp (congrArg (fun c => cCode Try.prog c (retK Try.prog Try.f25.results.toList K) (fun _ _ _ => False) (retK Try.prog Try.f25.results.toList K) (d0::picks1::undef::undef::undef::undef::undef::undef::undef::undef::undef::undef::undef::undef::undef::undef::undef::undef::undef::undef::undef::undef::undef::undef::undef::undef::undef::undef::undef::undef::undef::undef::undef::undef::undef::undef::undef::undef::undef::undef::undef::undef::undef::undef::undef::undef::undef::undef::undef::undef::undef::undef::undef::undef::undef::undef::undef::undef::undef::undef::undef::undef::undef::undef::undef::undef::undef::undef::undef::undef::undef::undef::undef::undef::undef::undef::undef::undef::undef::undef::undef::[]) w) (by kernel_rfl : (rep [1, 1, 1, 1] (cd Try.f25 [1, 1, 1, 1]) (cd Try.f25 [])) = (cd Try.f25 []))) (disk_Disk_On_k (cd Try.f25 [1, 1, 1, 1]) h))
theorem disk_Disk_On_go : isGo Try.prog 25 := ⟨_, Try.func25, by kernel_rfl, by kernel_rfl⟩

section
variable {d0 picks1 d2 picks3 A3 k_5 f6 A6 c8 c9 A9 C0 C1 C2 C3 C4 C5 C6 C7 C8 C9 D0 D1 D2 D3 D4 D5 D6 D7 D8 D9 E0 E1 E2 E3 E4 E5 E6 E7 E8 E9 F0 F1 F2 F3 F4 F5 F6 F7 F8 F9 G0 G1 G2 G3 G4 G5 G6 G7 G8 G9 H0 H1 H2 H3 H4 H5 H6 H7 H8 H9 I0 I1 I2 I3 I4 I5 I6 I7 I8 I9 : Value}
theorem disk_Disk_On_A1_k {K : KV} {w : World}
    (h : nilC d0 (fun E1 w =>
    fldA Try.prog 70 E1 2 (fun E2 w =>
    ld Try.prog 68 E2 (fun E3 w =>
    slc Try.prog 68 E3 none (some k_5) none (fun E5 w =>
    blt Try.prog Builtin.len #[68] 3 #[false] #[E5] (fun E6 w =>
    (cCode Try.prog (cd Try.f25 [1, 1, 1, 1, 0, 1, 0]) (cCode Try.prog (cd Try.f25 [1, 1, 1, 1, 1]) (retK Try.prog Try.f25.results.toList K) (fun _ _ _ => False) (retK Try.prog Try.f25.results.toList K)) (fun i => @Bool.rec (fun _ => KE) ((fun _ _ _ => False) i) (cCode Try.prog (cd Try.f25 [1, 1, 1, 1, 1]) (retK Try.prog Try.f25.results.toList K) (fun _ _ _ => False) (retK Try.prog Try.f25.results.toList K)) (Nat.beq i 1)) (retK Try.prog Try.f25.results.toList K)) (d0::picks1::d2::picks3::A3::k_5::f6::A6::c8::c9::A9::C0::C1::C2::C3::C4::C5::C6::C7::C8::C9::D0::D1::D2::D3::D4::D5::D6::D7::D8::D9::d0::E1::E2::E3::k_5::E5::E6::(Value.int IntKind.i64 0)::E8::E9::F0::F1::F2::F3::F4::F5::F6::F7::F8::F9::G0::G1::G2::G3::G4::G5::G6::G7::G8::G9::H0::H1::H2::H3::H4::H5::H6::H7::H8::H9::I0::I1::I2::I3::I4::I5::I6::I7::I8::I9::[]) w) w) w) w) w) w) :
    cCode Try.prog (cd Try.f25 [1, 1, 1, 1]) (retK Try.prog Try.f25.results.toList K) (fun _ _ _ => False) (retK Try.prog Try.f25.results.toList K) (d0::picks1::d2::picks3::A3::k_5::f6::A6::c8::c9::A9::C0::C1::C2::C3::C4::C5::C6::C7::C8::C9::D0::D1::D2::D3::D4::D5::D6::D7::D8::D9::E0::E1::E2::E3::E4::E5::E6::E7::E8::E9::F0::F1::F2::F3::F4::F5::F6::F7::F8::F9::G0::G1::G2::G3::G4::G5::G6::G7::G8::G9::H0::H1::H2::H3::H4::H5::H6::H7::H8::H9::I0::I1::I2::I3::I4::I5::I6::I7::I8::I9::[]) w := Eq.mp (by kernel_rfl) h

theorem disk_Disk_On_A1_r {K : KV} {w : World}
    (h : nilC d0 (fun E1 w =>
    fldA Try.prog 70 E1 2 (fun E2 w =>
    ld Try.prog 68 E2 (fun E3 w =>
    slc Try.prog 68 E3 none (some k_5) none (fun E5 w =>
    blt Try.prog Builtin.len #[68] 3 #[false] #[E5] (fun E6 w =>
    (disk_Disk_On_L1 K) (d0::picks1::d2::picks3::A3::k_5::f6::A6::c8::c9::A9::C0::C1::C2::C3::C4::C5::C6::C7::C8::C9::D0::D1::D2::D3::D4::D5::D6::D7::D8::D9::d0::E1::E2::E3::k_5::E5::E6::(Value.int IntKind.i64 0)::E8::E9::F0::F1::F2::F3::F4::F5::F6::F7::F8::F9::G0::G1::G2::G3::G4::G5::G6::G7::G8::G9::H0::H1::H2::H3::H4::H5::H6::H7::H8::H9::I0::I1::I2::I3::I4::I5::I6::I7::I8::I9::[]) w) w) w) w) w) w) :
    disk_Disk_On_A1 K (d0::picks1::d2::picks3::A3::k_5::f6::A6::c8::c9::A9::C0::C1::C2::C3::C4::C5::C6::C7::C8::C9::D0::D1::D2::D3::D4::D5::D6::D7::D8::D9::E0::E1::E2::E3::E4::E5::E6::E7::E8::E9::F0::F1::F2::F3::F4::F5::F6::F7::F8::F9::G0::G1::G2::G3::G4::G5::G6::G7::G8::G9::H0::H1::H2::H3::H4::H5::H6::H7::H8::H9::I0::I1::I2::I3::I4::I5::I6::I7::I8::I9::[]) w := by
  delta disk_Disk_On_A1
  exact Eq.mp (congrArg (fun c => cCode Try.prog c (retK Try.prog Try.f25.results.toList K) (fun _ _ _ => False) (retK Try.prog Try.f25.results.toList K) (d0::picks1::d2::picks3::A3::k_5::f6::A6::c8::c9::A9::C0::C1::C2::C3::C4::C5::C6::C7::C8::C9::D0::D1::D2::D3::D4::D5::D6::D7::D8::D9::E0::E1::E2::E3::E4::E5::E6::E7::E8::E9::F0::F1::F2::F3::F4::F5::F6::F7::F8::F9::G0::G1::G2::G3::G4::G5::G6::G7::G8::G9::H0::H1::H2::H3::H4::H5::H6::H7::H8::H9::I0::I1::I2::I3::I4::I5::I6::I7::I8::I9::[]) w) (by kernel_rfl : (cd Try.f25 [1, 1, 1, 1]) = (cd Try.f25 [1, 1, 1, 1]))) (disk_Disk_On_A1_k h)

end
theorem disk_Disk_On_L1_k {K : KV} (B1 : KE) (qc0 : KE) {d0 picks1 d2 picks3 A3 k_5 f6 A6 c9 A9 C0 C1 C2 C3 C4 C5 C6 C7 C8 C9 D0 D1 D2 D3 D4 D5 D6 D7 D8 D9 E0 E1 E2 E3 E4 E5 E6 E7' F7 F8 F9 G0 G1 G2 G3 G4 G5 G6 G7 G8 G9 H0 H1 H2 H3 H4 H5 H6 H7 H8 H9 I0 I1 I2 I3 I4 I5 I6 I7 I8 I9 : Value} {dd : Nat → Value} {w : World}
    (h : bin Try.prog BinOp.lss 3 false false E7' E6 (fun E8 w =>
    cond E8
      (idxA Try.prog 68 E5 E7' (fun E9 w =>
    ld Try.prog 90 E9 (fun F0 w =>
    alc Try.prog 90 (fun c8 w =>
    sto Try.prog 90 c8 F0 (fun _t w =>
    fldA Try.prog 90 c8 0 (fun F1 w =>
    ld Try.prog 88 F1 (fun F2 w =>
    fldA Try.prog 90 c8 1 (fun F3 w =>
    ld Try.prog 29 F3 (fun F4 w =>
    callV Try.prog F2 #[f6, F4] (fun F5 w =>
    bin Try.prog BinOp.add 3 false true E7' (Value.int IntKind.i64 1) (fun F6 w =>
    B1 (d0::picks1::d2::picks3::A3::k_5::f6::A6::c8::c9::A9::C0::C1::C2::C3::C4::C5::C6::C7::C8::C9::D0::D1::D2::D3::D4::D5::D6::D7::D8::D9::E0::E1::E2::E3::E4::E5::E6::F6::E8::E9::F0::F1::F2::F3::F4::F5::F6::F7::F8::F9::G0::G1::G2::G3::G4::G5::G6::G7::G8::G9::H0::H1::H2::H3::H4::H5::H6::H7::H8::H9::I0::I1::I2::I3::I4::I5::I6::I7::I8::I9::[]) w) w) w) w) w) w) w) w) w) w) w)
      (qc0 (d0::picks1::d2::picks3::A3::k_5::f6::A6::(dd 8)::c9::A9::C0::C1::C2::C3::C4::C5::C6::C7::C8::C9::D0::D1::D2::D3::D4::D5::D6::D7::D8::D9::E0::E1::E2::E3::E4::E5::E6::E7'::E8::(dd 40)::(dd 41)::(dd 42)::(dd 43)::(dd 44)::(dd 45)::(dd 46)::(dd 47)::F7::F8::F9::G0::G1::G2::G3::G4::G5::G6::G7::G8::G9::H0::H1::H2::H3::H4::H5::H6::H7::H8::H9::I0::I1::I2::I3::I4::I5::I6::I7::I8::I9::[]) w)) w) :
    cCode Try.prog (cd Try.f25 [1, 1, 1, 1, 0, 1, 0, 0]) B1 (fun i => @Bool.rec (fun _ => KE) ((fun _ _ _ => False) i) qc0 (Nat.beq i 1)) (retK Try.prog Try.f25.results.toList K) (d0::picks1::d2::picks3::A3::k_5::f6::A6::(dd 8)::c9::A9::C0::C1::C2::C3::C4::C5::C6::C7::C8::C9::D0::D1::D2::D3::D4::D5::D6::D7::D8::D9::E0::E1::E2::E3::E4::E5::E6::E7'::(dd 39)::(dd 40)::(dd 41)::(dd 42)::(dd 43)::(dd 44)::(dd 45)::(dd 46)::(dd 47)::F7::F8::F9::G0::G1::G2::G3::G4::G5::G6::G7::G8::G9::H0::H1::H2::H3::H4::H5::H6::H7::H8::H9::I0::I1::I2::I3::I4::I5::I6::I7::I8::I9::[]) w := Eq.mp (by kernel_rfl) h

section
variable {d0 picks1 d2 picks3 A3 k_5 f6 A6 c8 c9 A9 C0 C1 C2 C3 C4 C5 C6 C7 C8 C9 D0 D1 D2 D3 D4 D5 D6 D7 D8 D9 E0 E1 E2 E3 E4 E5 E6 E7 E8 E9 F0 F1 F2 F3 F4 F5 F6 F7 F8 F9 G0 G1 G2 G3 G4 G5 G6 G7 G8 G9 H0 H1 H2 H3 H4 H5 H6 H7 H8 H9 I0 I1 I2 I3 I4 I5 I6 I7 I8 I9 : Value}
theorem disk_Disk_On_L1_r {K : KV} {w : World} (Inv : Value → World → Prop) (μ : Value → World → Nat) (h0 : Inv E7 w)
    (hs : ∀ (E7' : Value) (dd : Nat → Value) (w : World) (m : Nat), Inv E7' w → m = μ E7' w →
    bin Try.prog BinOp.lss 3 false false E7' E6 (fun E8 w =>
    cond E8
      (idxA Try.prog 68 E5 E7' (fun E9 w =>
    ld Try.prog 90 E9 (fun F0 w =>
    alc Try.prog 90 (fun c8 w =>
    sto Try.prog 90 c8 F0 (fun _t w =>
    fldA Try.prog 90 c8 0 (fun F1 w =>
    ld Try.prog 88 F1 (fun F2 w =>
    fldA Try.prog 90 c8 1 (fun F3 w =>
    ld Try.prog 29 F3 (fun F4 w =>
    callV Try.prog F2 #[f6, F4] (fun F5 w =>
    bin Try.prog BinOp.add 3 false true E7' (Value.int IntKind.i64 1) (fun F6 w =>
    (Inv F6 w ∧ μ F6 w < m)) w) w) w) w) w) w) w) w) w) w)
      ((disk_Disk_On_P1 K) (d0::picks1::d2::picks3::A3::k_5::f6::A6::(dd 8)::c9::A9::C0::C1::C2::C3::C4::C5::C6::C7::C8::C9::D0::D1::D2::D3::D4::D5::D6::D7::D8::D9::E0::E1::E2::E3::E4::E5::E6::E7'::E8::(dd 40)::(dd 41)::(dd 42)::(dd 43)::(dd 44)::(dd 45)::(dd 46)::(dd 47)::F7::F8::F9::G0::G1::G2::G3::G4::G5::G6::G7::G8::G9::H0::H1::H2::H3::H4::H5::H6::H7::H8::H9::I0::I1::I2::I3::I4::I5::I6::I7::I8::I9::[]) w)) w) :
    disk_Disk_On_L1 K (d0::picks1::d2::picks3::A3::k_5::f6::A6::c8::c9::A9::C0::C1::C2::C3::C4::C5::C6::C7::C8::C9::D0::D1::D2::D3::D4::D5::D6::D7::D8::D9::E0::E1::E2::E3::E4::E5::E6::E7::E8::E9::F0::F1::F2::F3::F4::F5::F6::F7::F8::F9::G0::G1::G2::G3::G4::G5::G6::G7::G8::G9::H0::H1::H2::H3::H4::H5::H6::H7::H8::H9::I0::I1::I2::I3::I4::I5::I6::I7::I8::I9::[]) w := by
  refine loop_rule (cd Try.f25 [1, 1, 1, 1, 0, 1, 0, 0]) [8, 38, 39, 40, 41, 42, 43, 44, 45, 46, 47] (by kernel_rfl) (fun e2 w2 => Inv (gd e2 38) w2) (fun e2 w2 => μ (gd e2 38) w2) h0 ?_
  intro e' w' hI
  have h := hs (gd e' 38) (fun i => gd e' i) w' _ hI rfl
  have h2 : cCode Try.prog (cd Try.f25 [1, 1, 1, 1, 0, 1, 0, 0]) (fun e2 w2 => Inv (gd e2 38) w2 ∧ μ (gd e2 38) w2 < μ (gd e' 38) w') (fun i => @Bool.rec (fun _ => KE) ((fun _ _ _ => False) i) (disk_Disk_On_P1 K) (Nat.beq i 1)) (retK Try.prog Try.f25.results.toList K) (d0::picks1::d2::picks3::A3::k_5::f6::A6::(gd e' 8)::c9::A9::C0::C1::C2::C3::C4::C5::C6::C7::C8::C9::D0::D1::D2::D3::D4::D5::D6::D7::D8::D9::E0::E1::E2::E3::E4::E5::E6::(gd e' 38)::(gd e' 39)::(gd e' 40)::(gd e' 41)::(gd e' 42)::(gd e' 43)::(gd e' 44)::(gd e' 45)::(gd e' 46)::(gd e' 47)::F7::F8::F9::G0::G1::G2::G3::G4::G5::G6::G7::G8::G9::H0::H1::H2::H3::H4::H5::H6::H7::H8::H9::I0::I1::I2::I3::I4::I5::I6::I7::I8::I9::[]) w' := disk_Disk_On_L1_k (fun e2 w2 => Inv (gd e2 38) w2 ∧ μ (gd e2 38) w2 < μ (gd e' 38) w') (disk_Disk_On_P1 K) (Eq.mp (by kernel_rfl) h)
  exact Eq.mp (by kernel_rfl) h2

theorem disk_Disk_On_P1_k {K : KV} (xc0 : Code) {w : World}
    (h : nilC d0 (fun F9 w =>
    fldA Try.prog 70 F9 2 (fun G0 w =>
    ld Try.prog 68 G0 (fun G1 w =>
    blt Try.prog Builtin.len #[68] 3 #[false] #[G1] (fun G2 w =>
    bin Try.prog BinOp.lss 3 false false k_5 G2 (fun G3 w =>
    (cCode Try.prog xc0 (cCode Try.prog (cd Try.f25 [1, 1, 1, 1, 1, 1]) (retK Try.prog Try.f25.results.toList K) (fun _ _ _ => False) (retK Try.prog Try.f25.results.toList K)) (fun _ _ _ => False) (retK Try.prog Try.f25.results.toList K)) (d0::picks1::d2::picks3::A3::k_5::f6::A6::c8::c9::A9::C0::C1::C2::C3::C4::C5::C6::C7::C8::C9::D0::D1::D2::D3::D4::D5::D6::D7::D8::D9::E0::E1::E2::E3::E4::E5::E6::E7::E8::E9::F0::F1::F2::F3::F4::F5::F6::k_5::d0::F9::G0::G1::G2::G3::G4::G5::G6::G7::G8::G9::H0::H1::H2::H3::H4::H5::H6::H7::H8::H9::I0::I1::I2::I3::I4::I5::I6::I7::I8::I9::[]) w) w) w) w) w) w) :
    cCode Try.prog (rep [0, 1] xc0 (cd Try.f25 [1, 1, 1, 1, 1])) (retK Try.prog Try.f25.results.toList K) (fun _ _ _ => False) (retK Try.prog Try.f25.results.toList K) (d0::picks1::d2::picks3::A3::k_5::f6::A6::c8::c9::A9::C0::C1::C2::C3::C4::C5::C6::C7::C8::C9::D0::D1::D2::D3::D4::D5::D6::D7::D8::D9::E0::E1::E2::E3::E4::E5::E6::E7::E8::E9::F0::F1::F2::F3::F4::F5::F6::F7::F8::F9::G0::G1::G2::G3::G4::G5::G6::G7::G8::G9::H0::H1::H2::H3::H4::H5::H6::H7::H8::H9::I0::I1::I2::I3::I4::I5::I6::I7::I8::I9::[]) w := Eq.mp (by kernel_rfl) h

theorem disk_Disk_On_P1_r {K : KV} {w : World}
    (h : nilC d0 (fun F9 w =>
    fldA Try.prog 70 F9 2 (fun G0 w =>
    ld Try.prog 68 G0 (fun G1 w =>
    blt Try.prog Builtin.len #[68] 3 #[false] #[G1] (fun G2 w =>
    bin Try.prog BinOp.lss 3 false false k_5 G2 (fun G3 w =>
    (disk_Disk_On_A2 K) (d0::picks1::d2::picks3::A3::k_5::f6::A6::c8::c9::A9::C0::C1::C2::C3::C4::C5::C6::C7::C8::C9::D0::D1::D2::D3::D4::D5::D6::D7::D8::D9::E0::E1::E2::E3::E4::E5::E6::E7::E8::E9::F0::F1::F2::F3::F4::F5::F6::k_5::d0::F9::G0::G1::G2::G3::G4::G5::G6::G7::G8::G9::H0::H1::H2::H3::H4::H5::H6::H7::H8::H9::I0::I1::I2::I3::I4::I5::I6::I7::I8::I9::[]) w) w) w) w) w) w) :
    disk_Disk_On_P1 K (d0::picks1::d2::picks3::A3::k_5::f6::A6::c8::c9::A9::C0::C1::C2::C3::C4::C5::C6::C7::C8::C9::D0::D1::D2::D3::D4::D5::D6::D7::D8::D9::E0::E1::E2::E3::E4::E5::E6::E7::E8::E9::F0::F1::F2::F3::F4::F5::F6::F7::F8::F9::G0::G1::G2::G3::G4::G5::G6::G7::G8::G9::H0::H1::H2::H3::H4::H5::H6::H7::H8::H9::I0::I1::I2::I3::I4::I5::I6::I7::I8::I9::[]) w := by
  delta disk_Disk_On_P1
  exact Eq.mp (congrArg (fun c => cCode Try.prog c (retK Try.prog Try.f25.results.toList K) (fun _ _ _ => False) (retK Try.prog Try.f25.results.toList K) (d0::picks1::d2::picks3::A3::k_5::f6::A6::c8::c9::A9::C0::C1::C2::C3::C4::C5::C6::C7::C8::C9::D0::D1::D2::D3::D4::D5::D6::D7::D8::D9::E0::E1::E2::E3::E4::E5::E6::E7::E8::E9::F0::F1::F2::F3::F4::F5::F6::F7::F8::F9::G0::G1::G2::G3::G4::G5::G6::G7::G8::G9::H0::H1::H2::H3::H4::H5::H6::H7::H8::H9::I0::I1::I2::I3::I4::I5::I6::I7::I8::I9::[]) w) (by kernel_rfl : (rep [0, 1] (cd Try.f25 [1, 1, 1, 1, 1, 0, 1]) (cd Try.f25 [1, 1, 1, 1, 1])) = (cd Try.f25 [1, 1, 1, 1, 1]))) (disk_Disk_On_P1_k (cd Try.f25 [1, 1, 1, 1, 1, 0, 1]) h)

theorem disk_Disk_On_A2_k {K : KV} (qc0 : KE) {w : World}
    (h : cond G3
      (nilC d0 (fun G5 w =>
      fldA Try.prog 70 G5 2 (fun G6 w =>
      ld Try.prog 68 G6 (fun G7 w =>
      idxA Try.prog 68 G7 k_5 (fun G9 w =>
      ld Try.prog 90 G9 (fun H0 w =>
      alc Try.prog 90 (fun c9 w =>
      sto Try.prog 90 c9 H0 (fun _t w =>
      fldA Try.prog 90 c9 2 (fun H1 w =>
      ld Try.prog 4 H1 (fun H2 w =>
      cond H2
        (hReg (fun S w =>
        hld S (fun k w => fldA Try.prog 90 c9 0 k w) (fun H3 =>
        hld S (fun k w => ld Try.prog 88 H3 k w) (fun H4 =>
        hld S (fun k w => fldA Try.prog 90 c9 1 k w) (fun H5 =>
        hld S (fun k w => ld Try.prog 29 H5 k w) (fun H6 =>
        hld S (fun k w => fldA Try.prog 90 c9 1 k w) (fun H8 =>
        hld S (fun k w => ld Try.prog 29 H8 k w) (fun H9 =>
        hld S (fun k w => blt Try.prog Builtin.len #[29] 3 #[false] #[H9] k w) (fun I0 =>
        hld (fun _ => True) (fun k w => bin Try.prog BinOp.add 3 false true I0 (Value.int IntKind.i64 1) k w) (fun I1 =>
        call Try.prog 55 #[picks1, (Value.int IntKind.i64 1), I1] (fun I2 w =>
        hSub S (fun S w =>
        hld S (fun k w => slc Try.prog 29 H6 none (some I2) none k w) (fun I3 =>
        callV Try.prog H4 #[f6, I3] (fun I4 w =>
        qc0 (d0::picks1::d2::picks3::A3::k_5::f6::A6::c8::c9::A9::C0::C1::C2::C3::C4::C5::C6::C7::C8::C9::D0::D1::D2::D3::D4::D5::D6::D7::D8::D9::E0::E1::E2::E3::E4::E5::E6::E7::E8::E9::F0::F1::F2::F3::F4::F5::F6::F7::F8::F9::G0::G1::G2::G3::d0::G5::G6::G7::k_5::G9::H0::H1::H2::H3::H4::H5::H6::picks1::H8::H9::I0::I1::I2::I3::I4::I5::I6::I7::I8::I9::[]) w) w)) w) w))))))))) w.drew)
        (qc0 (d0::picks1::d2::picks3::A3::k_5::f6::A6::c8::c9::A9::C0::C1::C2::C3::C4::C5::C6::C7::C8::C9::D0::D1::D2::D3::D4::D5::D6::D7::D8::D9::E0::E1::E2::E3::E4::E5::E6::E7::E8::E9::F0::F1::F2::F3::F4::F5::F6::F7::F8::F9::G0::G1::G2::G3::d0::G5::G6::G7::k_5::G9::H0::H1::H2::H3::H4::H5::H6::H7::H8::H9::I0::I1::I2::I3::I4::I5::I6::I7::I8::I9::[]) w)) w) w) w) w) w) w) w) w) w)
      (qc0 (d0::picks1::d2::picks3::A3::k_5::f6::A6::c8::c9::A9::C0::C1::C2::C3::C4::C5::C6::C7::C8::C9::D0::D1::D2::D3::D4::D5::D6::D7::D8::D9::E0::E1::E2::E3::E4::E5::E6::E7::E8::E9::F0::F1::F2::F3::F4::F5::F6::F7::F8::F9::G0::G1::G2::G3::G4::G5::G6::G7::G8::G9::H0::H1::H2::H3::H4::H5::H6::H7::H8::H9::I0::I1::I2::I3::I4::I5::I6::I7::I8::I9::[]) w)) :
    cCode Try.prog (cd Try.f25 [1, 1, 1, 1, 1, 0, 1]) qc0 (fun _ _ _ => False) (retK Try.prog Try.f25.results.toList K) (d0::picks1::d2::picks3::A3::k_5::f6::A6::c8::c9::A9::C0::C1::C2::C3::C4::C5::C6::C7::C8::C9::D0::D1::D2::D3::D4::D5::D6::D7::D8::D9::E0::E1::E2::E3::E4::E5::E6::E7::E8::E9::F0::F1::F2::F3::F4::F5::F6::F7::F8::F9::G0::G1::G2::G3::G4::G5::G6::G7::G8::G9::H0::H1::H2::H3::H4::H5::H6::H7::H8::H9::I0::I1::I2::I3::I4::I5::I6::I7::I8::I9::[]) w := Eq.mp (by kernel_rfl) h

theorem disk_Disk_On_A2_r {K : KV} {w : World}
    (h : cond G3
      (nilC d0 (fun G5 w =>
      fldA Try.prog 70 G5 2 (fun G6 w =>
      ld Try.prog 68 G6 (fun G7 w =>
      idxA Try.prog 68 G7 k_5 (fun G9 w =>
      ld Try.prog 90 G9 (fun H0 w =>
      alc Try.prog 90 (fun c9 w =>
      sto Try.prog 90 c9 H0 (fun _t w =>
      fldA Try.prog 90 c9 2 (fun H1 w =>
      ld Try.prog 4 H1 (fun H2 w =>
      cond H2
        (hReg (fun S w =>
        hld S (fun k w => fldA Try.prog 90 c9 0 k w) (fun H3 =>
        hld S (fun k w => ld Try.prog 88 H3 k w) (fun H4 =>
        hld S (fun k w => fldA Try.prog 90 c9 1 k w) (fun H5 =>
        hld S (fun k w => ld Try.prog 29 H5 k w) (fun H6 =>
        hld S (fun k w => fldA Try.prog 90 c9 1 k w) (fun H8 =>
        hld S (fun k w => ld Try.prog 29 H8 k w) (fun H9 =>
        hld S (fun k w => blt Try.prog Builtin.len #[29] 3 #[false] #[H9] k w) (fun I0 =>
        hld (fun _ => True) (fun k w => bin Try.prog BinOp.add 3 false true I0 (Value.int IntKind.i64 1) k w) (fun I1 =>
        call Try.prog 55 #[picks1, (Value.int IntKind.i64 1), I1] (fun I2 w =>
        hSub S (fun S w =>
        hld S (fun k w => slc Try.prog 29 H6 none (some I2) none k w) (fun I3 =>
        callV Try.prog H4 #[f6, I3] (fun I4 w =>
        (disk_Disk_On_P2 K) (d0::picks1::d2::picks3::A3::k_5::f6::A6::c8::c9::A9::C0::C1::C2::C3::C4::C5::C6::C7::C8::C9::D0::D1::D2::D3::D4::D5::D6::D7::D8::D9::E0::E1::E2::E3::E4::E5::E6::E7::E8::E9::F0::F1::F2::F3::F4::F5::F6::F7::F8::F9::G0::G1::G2::G3::d0::G5::G6::G7::k_5::G9::H0::H1::H2::H3::H4::H5::H6::picks1::H8::H9::I0::I1::I2::I3::I4::I5::I6::I7::I8::I9::[]) w) w)) w) w))))))))) w.drew)
        ((disk_Disk_On_P2 K) (d0::picks1::d2::picks3::A3::k_5::f6::A6::c8::c9::A9::C0::C1::C2::C3::C4::C5::C6::C7::C8::C9::D0::D1::D2::D3::D4::D5::D6::D7::D8::D9::E0::E1::E2::E3::E4::E5::E6::E7::E8::E9::F0::F1::F2::F3::F4::F5::F6::F7::F8::F9::G0::G1::G2::G3::d0::G5::G6::G7::k_5::G9::H0::H1::H2::H3::H4::H5::H6::H7::H8::H9::I0::I1::I2::I3::I4::I5::I6::I7::I8::I9::[]) w)) w) w) w) w) w) w) w) w) w)
      ((disk_Disk_On_P2 K) (d0::picks1::d2::picks3::A3::k_5::f6::A6::c8::c9::A9::C0::C1::C2::C3::C4::C5::C6::C7::C8::C9::D0::D1::D2::D3::D4::D5::D6::D7::D8::D9::E0::E1::E2::E3::E4::E5::E6::E7::E8::E9::F0::F1::F2::F3::F4::F5::F6::F7::F8::F9::G0::G1::G2::G3::G4::G5::G6::G7::G8::G9::H0::H1::H2::H3::H4::H5::H6::H7::H8::H9::I0::I1::I2::I3::I4::I5::I6::I7::I8::I9::[]) w)) :
    disk_Disk_On_A2 K (d0::picks1::d2::picks3::A3::k_5::f6::A6::c8::c9::A9::C0::C1::C2::C3::C4::C5::C6::C7::C8::C9::D0::D1::D2::D3::D4::D5::D6::D7::D8::D9::E0::E1::E2::E3::E4::E5::E6::E7::E8::E9::F0::F1::F2::F3::F4::F5::F6::F7::F8::F9::G0::G1::G2::G3::G4::G5::G6::G7::G8::G9::H0::H1::H2::H3::H4::H5::H6::H7::H8::H9::I0::I1::I2::I3::I4::I5::I6::I7::I8::I9::[]) w := by
  delta disk_Disk_On_A2
  exact Eq.mp (congrArg (fun c => cCode Try.prog c (disk_Disk_On_P2 K) (fun _ _ _ => False) (retK Try.prog Try.f25.results.toList K) (d0::picks1::d2::picks3::A3::k_5::f6::A6::c8::c9::A9::C0::C1::C2::C3::C4::C5::C6::C7::C8::C9::D0::D1::D2::D3::D4::D5::D6::D7::D8::D9::E0::E1::E2::E3::E4::E5::E6::E7::E8::E9::F0::F1::F2::F3::F4::F5::F6::F7::F8::F9::G0::G1::G2::G3::G4::G5::G6::G7::G8::G9::H0::H1::H2::H3::H4::H5::H6::H7::H8::H9::I0::I1::I2::I3::I4::I5::I6::I7::I8::I9::[]) w) (by kernel_rfl : (cd Try.f25 [1, 1, 1, 1, 1, 0, 1]) = (cd Try.f25 [1, 1, 1, 1, 1, 0, 1]))) (disk_Disk_On_A2_k (disk_Disk_On_P2 K) h)

theorem disk_Disk_On_P2_k {K : KV} {w : World}
    (h : ld Try.prog 67 f6 (fun I6 w =>
    ld Try.prog 67 f6 (fun I7 w =>
    bld Try.prog 70 #[(0, I6), (1, I7)] (fun I8 w =>
    nilC d0 (fun I9 w =>
    sto Try.prog 70 I9 I8 (fun _t w =>
    K (Value.int IntKind.i64 0) w) w) w) w) w) w) :
    cCode Try.prog (cd Try.f25 [1, 1, 1, 1, 1, 1]) (retK Try.prog Try.f25.results.toList K) (fun _ _ _ => False) (retK Try.prog Try.f25.results.toList K) (d0::picks1::d2::picks3::A3::k_5::f6::A6::c8::c9::A9::C0::C1::C2::C3::C4::C5::C6::C7::C8::C9::D0::D1::D2::D3::D4::D5::D6::D7::D8::D9::E0::E1::E2::E3::E4::E5::E6::E7::E8::E9::F0::F1::F2::F3::F4::F5::F6::F7::F8::F9::G0::G1::G2::G3::G4::G5::G6::G7::G8::G9::H0::H1::H2::H3::H4::H5::H6::H7::H8::H9::I0::I1::I2::I3::I4::I5::I6::I7::I8::I9::[]) w := Eq.mp (by kernel_rfl) h

theorem disk_Disk_On_P2_r {K : KV} {w : World}
    (h : ld Try.prog 67 f6 (fun I6 w =>
    ld Try.prog 67 f6 (fun I7 w =>
    bld Try.prog 70 #[(0, I6), (1, I7)] (fun I8 w =>
    nilC d0 (fun I9 w =>
    sto Try.prog 70 I9 I8 (fun _t w =>
    K (Value.int IntKind.i64 0) w) w) w) w) w) w) :
    disk_Disk_On_P2 K (d0::picks1::d2::picks3::A3::k_5::f6::A6::c8::c9::A9::C0::C1::C2::C3::C4::C5::C6::C7::C8::C9::D0::D1::D2::D3::D4::D5::D6::D7::D8::D9::E0::E1::E2::E3::E4::E5::E6::E7::E8::E9::F0::F1::F2::F3::F4::F5::F6::F7::F8::F9::G0::G1::G2::G3::G4::G5::G6::G7::G8::G9::H0::H1::H2::H3::H4::H5::H6::H7::H8::H9::I0::I1::I2::I3::I4::I5::I6::I7::I8::I9::[]) w := by
  delta disk_Disk_On_P2
  exact Eq.mp (congrArg (fun c => cCode Try.prog c (retK Try.prog Try.f25.results.toList K) (fun _ _ _ => False) (retK Try.prog Try.f25.results.toList K) (d0::picks1::d2::picks3::A3::k_5::f6::A6::c8::c9::A9::C0::C1::C2::C3::C4::C5::C6::C7::C8::C9::D0::D1::D2::D3::D4::D5::D6::D7::D8::D9::E0::E1::E2::E3::E4::E5::E6::E7::E8::E9::F0::F1::F2::F3::F4::F5::F6::F7::F8::F9::G0::G1::G2::G3::G4::G5::G6::G7::G8::G9::H0::H1::H2::H3::H4::H5::H6::H7::H8::H9::I0::I1::I2::I3::I4::I5::I6::I7::I8::I9::[]) w) (by kernel_rfl : (cd Try.f25 [1, 1, 1, 1, 1, 1]) = (cd Try.f25 [1, 1, 1, 1, 1, 1]))) (disk_Disk_On_P2_k h)
attribute [irreducible] disk_Disk_On_A1 disk_Disk_On_P1 disk_Disk_On_L1 disk_Disk_On_P2 disk_Disk_On_A2


end
theorem disk_Disk_Power_k {K : KV} {d0 : Value} {w : World}
    (h : bin Try.prog BinOp.neq 25 false true d0 (Value.pointer none) (fun A3 w =>
    gsel A3 true (fun k6 =>
    nilC d0 (fun A6 w =>
    fldA Try.prog 70 A6 3 (fun A7 w =>
    ld Try.prog 4 A7 (fun A8 w =>
    un Try.prog UnOp.not A8 (fun A9 w =>
    k6 [d0, A6, A7, A8, A9] w) w) w) w) w)
    (fun k => k [undef, undef, undef, undef, undef] w) (fun us6 w =>
    pick A3 (gd us6 4) (Value.bool false) (fun C0 w =>
    K C0 w) w)) w) :
    cCode Try.prog (cd Try.f15 []) (retK Try.prog Try.f15.results.toList K) (fun _ _ _ => False) (retK Try.prog Try.f15.results.toList K) [d0, undef, undef, undef, undef, undef, undef, undef, undef, undef, undef, undef] w := Eq.mp (by kernel_rfl) h

theorem disk_Disk_Power_in {K : KV} {d0 : Value} {w : World}
    (h : bin Try.prog BinOp.neq 25 false true d0 (Value.pointer none) (fun A3 w =>
    gsel A3 true (fun k6 =>
    nilC d0 (fun A6 w =>
    fldA Try.prog 70 A6 3 (fun A7 w =>
    ld Try.prog 4 A7 (fun A8 w =>
    un Try.prog UnOp.not A8 (fun A9 w =>
    k6 [d0, A6, A7, A8, A9] w) w) w) w) w)
    (fun k => k [undef, undef, undef, undef, undef] w) (fun us6 w =>
    pick A3 (gd us6 4) (Value.bool false) (fun C0 w =>
    K C0 w) w)) w) :
    Gives Try.prog 15 #[d0] w K := enter' Try.func15 (by kernel_rfl) (Eq.mp (congrArg (fun c => cCode Try.prog c (retK Try.prog Try.f15.results.toList K) (fun _ _ _ => False) (retK Try.prog Try.f15.results.toList K) [d0, undef, undef, undef, undef, undef, undef, undef, undef, undef, undef, undef] w) (by kernel_rfl : (cd Try.f15 []) = (cd Try.f15 []))) (disk_Disk_Power_k h))
theorem disk_Disk_Power_go : isGo Try.prog 15 := ⟨_, Try.func15, by kernel_rfl, by kernel_rfl⟩


theorem disk_Disk_Loose_k {K : KV} {d0 : Value} {w : World}
    (h : bin Try.prog BinOp.eql 25 false true d0 (Value.pointer none) (fun A3 w =>
    cond A3
      (K (Value.int IntKind.i64 0) w)
      (nilC d0 (fun A5 w =>
    fldA Try.prog 70 A5 2 (fun A6 w =>
    ld Try.prog 68 A6 (fun A7 w =>
    blt Try.prog Builtin.len #[68] 3 #[false] #[A7] (fun A8 w =>
    K A8 w) w) w) w) w)) w) :
    cCode Try.prog (cd Try.f16 []) (retK Try.prog Try.f16.results.toList K) (fun _ _ _ => False) (retK Try.prog Try.f16.results.toList K) [d0, undef, undef, undef, undef, undef, undef, undef, undef, undef] w := Eq.mp (by kernel_rfl) h

theorem disk_Disk_Loose_in {K : KV} {d0 : Value} {w : World}
    (h : bin Try.prog BinOp.eql 25 false true d0 (Value.pointer none) (fun A3 w =>
    cond A3
      (K (Value.int IntKind.i64 0) w)
      (nilC d0 (fun A5 w =>
    fldA Try.prog 70 A5 2 (fun A6 w =>
    ld Try.prog 68 A6 (fun A7 w =>
    blt Try.prog Builtin.len #[68] 3 #[false] #[A7] (fun A8 w =>
    K A8 w) w) w) w) w)) w) :
    Gives Try.prog 16 #[d0] w K := enter' Try.func16 (by kernel_rfl) (Eq.mp (congrArg (fun c => cCode Try.prog c (retK Try.prog Try.f16.results.toList K) (fun _ _ _ => False) (retK Try.prog Try.f16.results.toList K) [d0, undef, undef, undef, undef, undef, undef, undef, undef, undef] w) (by kernel_rfl : (cd Try.f16 []) = (cd Try.f16 []))) (disk_Disk_Loose_k h))
theorem disk_Disk_Loose_go : isGo Try.prog 16 := ⟨_, Try.func16, by kernel_rfl, by kernel_rfl⟩

end Go.Proofs.Ytjkmblbonambjaa
