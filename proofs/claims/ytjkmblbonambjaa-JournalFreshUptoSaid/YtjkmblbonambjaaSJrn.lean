/- Written by program (gen.py): what the code of some functions asks, part by part; each text is checked by the kernel against the translation. -/
import Derived.Test.YtjkmblbonambjaaSh
import Derived.Test.YtjkmblbonambjaaChecked
namespace Go.Proofs.Ytjkmblbonambjaa
open Go.RowKit
set_option maxRecDepth 100000

def journal_each_P1 (K : KV) : KE := cCode Try.prog (cd Try.f45 [1, 1]) (retK Try.prog Try.f45.results.toList K) (fun _ _ _ => False) (retK Try.prog Try.f45.results.toList K)
def journal_each_L1 (K : KV) : KE := cCode Try.prog (cd Try.f45 [1, 0, 1, 0]) (journal_each_P1 K) (fun i => @Bool.rec (fun _ => KE) ((fun _ _ _ => False) i) (journal_each_P1 K) (Nat.beq i 0)) (retK Try.prog Try.f45.results.toList K)
theorem journal_each_k {K : KV} {l0 : Value} {w : World}
    (h : blt Try.prog Builtin.len #[99] 3 #[false] #[l0] (fun A7 w =>
    (cCode Try.prog (cd Try.f45 [1, 0, 1, 0]) (cCode Try.prog (cd Try.f45 [1, 1]) (retK Try.prog Try.f45.results.toList K) (fun _ _ _ => False) (retK Try.prog Try.f45.results.toList K)) (fun i => @Bool.rec (fun _ => KE) ((fun _ _ _ => False) i) (cCode Try.prog (cd Try.f45 [1, 1]) (retK Try.prog Try.f45.results.toList K) (fun _ _ _ => False) (retK Try.prog Try.f45.results.toList K)) (Nat.beq i 0)) (retK Try.prog Try.f45.results.toList K)) [l0, undef, (Value.int IntKind.i64 0), undef, undef, undef, l0, A7, (Value.int IntKind.i64 0), undef, undef, undef, undef, undef, undef, undef, undef, undef] w) w) :
    cCode Try.prog (cd Try.f45 []) (retK Try.prog Try.f45.results.toList K) (fun _ _ _ => False) (retK Try.prog Try.f45.results.toList K) [l0, undef, undef, undef, undef, undef, undef, undef, undef, undef, undef, undef, undef, undef, undef, undef, undef, undef] w := Eq.mp (by kernel_rfl) h

theorem journal_each_in {K : KV} {l0 : Value} {w : World}
    (h : blt Try.prog Builtin.len #[99] 3 #[false] #[l0] (fun A7 w =>
    (journal_each_L1 K) [l0, undef, (Value.int IntKind.i64 0), undef, undef, undef, l0, A7, (Value.int IntKind.i64 0), undef, undef, undef, undef, undef, undef, undef, undef, undef] w) w) :
    Gives Try.prog 45 #[l0] w K := enter' Try.func45 (by kernel_rfl) (Eq.mp (congrArg (fun c => cCode Try.prog c (retK Try.prog Try.f45.results.toList K) (fun _ _ _ => False) (retK Try.prog Try.f45.results.toList K) [l0, undef, undef, undef, undef, undef, undef, undef, undef, undef, undef, undef, undef, undef, undef, undef, undef, undef] w) (by kernel_rfl : (cd Try.f45 []) = (cd Try.f45 []))) (journal_each_k h))
theorem journal_each_go : isGo Try.prog 45 := ⟨_, Try.func45, by kernel_rfl, by kernel_rfl⟩

theorem journal_each_L1_k {K : KV} (B1 : KE) (qc0 : KE) {l0 l1 A3 A6 A7 A8' : Value} {dd : Nat → Value} {w : World}
    (h : bin Try.prog BinOp.lss 3 false false A8' A7 (fun A9 w =>
    cond A9
      (idxA Try.prog 99 A6 A8' (fun C0 w =>
    ld Try.prog 65 C0 (fun C1 w =>
    callV Try.prog C1 #[] (fun C3 w =>
    bin Try.prog BinOp.neq 33 false true C3 (Value.int IntKind.i64 0) (fun C5 w =>
    cond C5
      (K C3 w)
      (bin Try.prog BinOp.add 3 false true A8' (Value.int IntKind.i64 1) (fun C7 w =>
    B1 [l0, l1, (dd 2), A3, C1, C3, A6, A7, C7, A9, C0, C1, C1, C3, C3, C5, (dd 16), C7] w) w)) w) w) w) w)
      (qc0 [l0, l1, (dd 2), A3, (dd 4), (dd 5), A6, A7, A8', A9, (dd 10), (dd 11), (dd 12), (dd 13), (dd 14), (dd 15), (dd 16), (dd 17)] w)) w) :
    cCode Try.prog (cd Try.f45 [1, 0, 1, 0, 0]) B1 (fun i => @Bool.rec (fun _ => KE) ((fun _ _ _ => False) i) qc0 (Nat.beq i 0)) (retK Try.prog Try.f45.results.toList K) [l0, l1, (dd 2), A3, (dd 4), (dd 5), A6, A7, A8', (dd 9), (dd 10), (dd 11), (dd 12), (dd 13), (dd 14), (dd 15), (dd 16), (dd 17)] w := Eq.mp (by kernel_rfl) h

theorem journal_each_L1_r {K : KV} {l0 l1 A2 A3 do4 e5 A6 A7 A8 A9 C0 C1 C2 C3 C4 C5 C6 C7 : Value} {w : World} (Inv : Value → World → Prop) (μ : Value → World → Nat) (h0 : Inv A8 w)
    (hs : ∀ (A8' : Value) (dd : Nat → Value) (w : World) (m : Nat), Inv A8' w → m = μ A8' w →
    bin Try.prog BinOp.lss 3 false false A8' A7 (fun A9 w =>
    cond A9
      (idxA Try.prog 99 A6 A8' (fun C0 w =>
    ld Try.prog 65 C0 (fun C1 w =>
    callV Try.prog C1 #[] (fun C3 w =>
    bin Try.prog BinOp.neq 33 false true C3 (Value.int IntKind.i64 0) (fun C5 w =>
    cond C5
      (K C3 w)
      (bin Try.prog BinOp.add 3 false true A8' (Value.int IntKind.i64 1) (fun C7 w =>
    (Inv C7 w ∧ μ C7 w < m)) w)) w) w) w) w)
      ((journal_each_P1 K) [l0, l1, (dd 2), A3, (dd 4), (dd 5), A6, A7, A8', A9, (dd 10), (dd 11), (dd 12), (dd 13), (dd 14), (dd 15), (dd 16), (dd 17)] w)) w) :
    journal_each_L1 K [l0, l1, A2, A3, do4, e5, A6, A7, A8, A9, C0, C1, C2, C3, C4, C5, C6, C7] w := by
  refine loop_rule (cd Try.f45 [1, 0, 1, 0, 0]) [2, 4, 5, 8, 9, 10, 11, 12, 13, 14, 15, 16, 17] (by kernel_rfl) (fun e2 w2 => Inv (gd e2 8) w2) (fun e2 w2 => μ (gd e2 8) w2) h0 ?_
  intro e' w' hI
  have h := hs (gd e' 8) (fun i => gd e' i) w' _ hI rfl
  have h2 : cCode Try.prog (cd Try.f45 [1, 0, 1, 0, 0]) (fun e2 w2 => Inv (gd e2 8) w2 ∧ μ (gd e2 8) w2 < μ (gd e' 8) w') (fun i => @Bool.rec (fun _ => KE) ((fun _ _ _ => False) i) (journal_each_P1 K) (Nat.beq i 0)) (retK Try.prog Try.f45.results.toList K) [l0, l1, (gd e' 2), A3, (gd e' 4), (gd e' 5), A6, A7, (gd e' 8), (gd e' 9), (gd e' 10), (gd e' 11), (gd e' 12), (gd e' 13), (gd e' 14), (gd e' 15), (gd e' 16), (gd e' 17)] w' := journal_each_L1_k (fun e2 w2 => Inv (gd e2 8) w2 ∧ μ (gd e2 8) w2 < μ (gd e' 8) w') (journal_each_P1 K) (Eq.mp (by kernel_rfl) h)
  exact Eq.mp (by kernel_rfl) h2

theorem journal_each_P1_k {K : KV} {l0 l1 A2 A3 do4 e5 A6 A7 A8 A9 C0 C1 C2 C3 C4 C5 C6 C7 : Value} {w : World}
    (h : K (Value.int IntKind.i64 0) w) :
    cCode Try.prog (cd Try.f45 [1, 1]) (retK Try.prog Try.f45.results.toList K) (fun _ _ _ => False) (retK Try.prog Try.f45.results.toList K) [l0, l1, A2, A3, do4, e5, A6, A7, A8, A9, C0, C1, C2, C3, C4, C5, C6, C7] w := Eq.mp (by kernel_rfl) h

theorem journal_each_P1_r {K : KV} {l0 l1 A2 A3 do4 e5 A6 A7 A8 A9 C0 C1 C2 C3 C4 C5 C6 C7 : Value} {w : World}
    (h : K (Value.int IntKind.i64 0) w) :
    journal_each_P1 K [l0, l1, A2, A3, do4, e5, A6, A7, A8, A9, C0, C1, C2, C3, C4, C5, C6, C7] w := by
  delta journal_each_P1
  exact Eq.mp (congrArg (fun c => cCode Try.prog c (retK Try.prog Try.f45.results.toList K) (fun _ _ _ => False) (retK Try.prog Try.f45.results.toList K) [l0, l1, A2, A3, do4, e5, A6, A7, A8, A9, C0, C1, C2, C3, C4, C5, C6, C7] w) (by kernel_rfl : (cd Try.f45 [1, 1]) = (cd Try.f45 [1, 1]))) (journal_each_P1_k h)
attribute [irreducible] journal_each_P1 journal_each_L1


theorem journal_empty_k {K : KV} {d0 : Value} {w : World}
    (h : call Try.prog 17 #[d0, (Value.int IntKind.i64 1)] (fun A7 w =>
    ext Try.prog A7 0 (fun A8 w =>
    ext Try.prog A7 1 (fun A9 w =>
    bin Try.prog BinOp.neq 33 false true A9 (Value.int IntKind.i64 0) (fun C1 w =>
    gsel C1 false (fun k13 =>
    blt Try.prog Builtin.len #[29] 3 #[false] #[A8] (fun C4 w =>
    bin Try.prog BinOp.eql 3 false true C4 (Value.int IntKind.i64 0) (fun C5 w =>
    k13 [A8, C4, C5] w) w) w)
    (fun k => k [undef, undef, undef] w) (fun us13 w =>
    pick C1 (Value.bool true) (gd us13 2) (fun C6 w =>
    cond C6
      (K A9 w)
      (call Try.prog 35 #[d0, (Value.int IntKind.i64 1), (Value.int IntKind.i64 0)] (fun C9 w =>
    K C9 w) w)) w)) w) w) w) w) :
    cCode Try.prog (cd Try.f48 []) (retK Try.prog Try.f48.results.toList K) (fun _ _ _ => False) (retK Try.prog Try.f48.results.toList K) [d0, undef, undef, undef, undef, undef, undef, undef, undef, undef, undef, undef, undef, undef, undef, undef, undef, undef, undef, undef] w := Eq.mp (by kernel_rfl) h

theorem journal_empty_in {K : KV} {d0 : Value} {w : World}
    (h : call Try.prog 17 #[d0, (Value.int IntKind.i64 1)] (fun A7 w =>
    ext Try.prog A7 0 (fun A8 w =>
    ext Try.prog A7 1 (fun A9 w =>
    bin Try.prog BinOp.neq 33 false true A9 (Value.int IntKind.i64 0) (fun C1 w =>
    gsel C1 false (fun k13 =>
    blt Try.prog Builtin.len #[29] 3 #[false] #[A8] (fun C4 w =>
    bin Try.prog BinOp.eql 3 false true C4 (Value.int IntKind.i64 0) (fun C5 w =>
    k13 [A8, C4, C5] w) w) w)
    (fun k => k [undef, undef, undef] w) (fun us13 w =>
    pick C1 (Value.bool true) (gd us13 2) (fun C6 w =>
    cond C6
      (K A9 w)
      (call Try.prog 35 #[d0, (Value.int IntKind.i64 1), (Value.int IntKind.i64 0)] (fun C9 w =>
    K C9 w) w)) w)) w) w) w) w) :
    Gives Try.prog 48 #[d0] w K := enter' Try.func48 (by kernel_rfl) (Eq.mp (congrArg (fun c => cCode Try.prog c (retK Try.prog Try.f48.results.toList K) (fun _ _ _ => False) (retK Try.prog Try.f48.results.toList K) [d0, undef, undef, undef, undef, undef, undef, undef, undef, undef, undef, undef, undef, undef, undef, undef, undef, undef, undef, undef] w) (by kernel_rfl : (cd Try.f48 []) = (cd Try.f48 []))) (journal_empty_k h))
theorem journal_empty_go : isGo Try.prog 48 := ⟨_, Try.func48, by kernel_rfl, by kernel_rfl⟩

def journal_Open_A1 (K : KV) : KE := cCode Try.prog (cd Try.f21 [1, 1, 1, 1]) (retK Try.prog Try.f21.results.toList K) (fun _ _ _ => False) (retK Try.prog Try.f21.results.toList K)
theorem journal_Open_k {K : KV} (xc0 : Code) {d0 : Value} {w : World}
    (h : box Try.prog 25 d0 (fun d1 w =>
    ld Try.prog 25 d1 (fun A9 w =>
    call Try.prog 17 #[A9, (Value.int IntKind.i64 0)] (fun C0 w =>
    ext Try.prog C0 0 (fun C1 w =>
    ext Try.prog C0 1 (fun C2 w =>
    alc Try.prog 29 (fun b5 w =>
    sto Try.prog 29 b5 C1 (fun _t w =>
    bin Try.prog BinOp.neq 33 false true C2 (Value.int IntKind.i64 0) (fun C4 w =>
    cond C4
      (K (Value.tuple #[(Value.pointer none), (Value.slice none 0 0), C2]) w)
      (ld Try.prog 29 b5 (fun C7 w =>
    call Try.prog 44 #[C7] (fun C8 w =>
    ext Try.prog C8 0 (fun C9 w =>
    ext Try.prog C8 1 (fun D0 w =>
    alc Try.prog 3 (fun at7 w =>
    sto Try.prog 3 at7 D0 (fun _t w =>
    (cCode Try.prog xc0 (retK Try.prog Try.f21.results.toList K) (fun _ _ _ => False) (retK Try.prog Try.f21.results.toList K)) [d0, d1, (Value.pointer none), (Value.slice none 0 0), C2, b5, C9, at7, C0, A9, C0, C1, C2, C2, C4, undef, C8, C7, C8, C9, D0, undef, undef, undef, undef, undef, undef, undef, undef, undef, undef, undef, undef, undef] w) w) w) w) w) w) w)) w) w) w) w) w) w) w) w) :
    cCode Try.prog (rep [1, 1, 1, 1] xc0 (cd Try.f21 [])) (retK Try.prog Try.f21.results.toList K) (fun _ _ _ => False) (retK Try.prog Try.f21.results.toList K) [d0, undef, undef, undef, undef, undef, undef, undef, undef, undef, undef, undef, undef, undef, undef, undef, undef, undef, undef, undef, undef, undef, undef, undef, undef, undef, undef, undef, undef, undef, undef, undef, undef, undef] w := Eq.mp (by kernel_rfl) h

theorem journal_Open_in {K : KV} {d0 : Value} {w : World}
    (h : box Try.prog 25 d0 (fun d1 w =>
    ld Try.prog 25 d1 (fun A9 w =>
    call Try.prog 17 #[A9, (Value.int IntKind.i64 0)] (fun C0 w =>
    ext Try.prog C0 0 (fun C1 w =>
    ext Try.prog C0 1 (fun C2 w =>
    alc Try.prog 29 (fun b5 w =>
    sto Try.prog 29 b5 C1 (fun _t w =>
    bin Try.prog BinOp.neq 33 false true C2 (Value.int IntKind.i64 0) (fun C4 w =>
    cond C4
      (K (Value.tuple #[(Value.pointer none), (Value.slice none 0 0), C2]) w)
      (ld Try.prog 29 b5 (fun C7 w =>
    call Try.prog 44 #[C7] (fun C8 w =>
    ext Try.prog C8 0 (fun C9 w =>
    ext Try.prog C8 1 (fun D0 w =>
    alc Try.prog 3 (fun at7 w =>
    sto Try.prog 3 at7 D0 (fun _t w =>
    (journal_Open_A1 K) [d0, d1, (Value.pointer none), (Value.slice none 0 0), C2, b5, C9, at7, C0, A9, C0, C1, C2, C2, C4, undef, C8, C7, C8, C9, D0, undef, undef, undef, undef, undef, undef, undef, undef, undef, undef, undef, undef, undef] w) w) w) w) w) w) w)) w) w) w) w) w) w) w) w) :
    Gives Try.prog 21 #[d0] w K := enter' Try.func21 (by kernel_rfl) (Eq.mp (congrArg (fun c => cCode Try.prog c (retK Try.prog Try.f21.results.toList K) (fun _ _ _ => False) (retK Try.prog Try.f21.results.toList K) [d0, undef, undef, undef, undef, undef, undef, undef, undef, undef, undef, undef, undef, undef, undef, undef, undef, undef, undef, undef, undef, undef, undef, undef, undef, undef, undef, undef, undef, undef, undef, undef, undef, undef] w) (by kernel_rfl : (rep [1, 1, 1, 1] (cd Try.f21 [1, 1, 1, 1]) (cd Try.f21 [])) = (cd Try.f21 []))) (journal_Open_k (cd Try.f21 [1, 1, 1, 1]) h))
theorem journal_Open_go : isGo Try.prog 21 := ⟨_, Try.func21, by kernel_rfl, by kernel_rfl⟩

theorem journal_Open_A1_k {K : KV} {d0 d1 j2 records3 e4 b5 l6 at7 A8 A9 C0 C1 C2 C3 C4 C5 C6 C7 C8 C9 D0 D1 D2 D3 D4 D5 D6 D7 D8 D9 E0 E1 E2 E3 : Value} {w : World}
    (h : bldS Try.prog 99 3 #[(0, (Value.func (Fn.func 46) #[] #[at7, b5, d1])), (1, (Value.func (Fn.func 47) #[] #[d1])), (2, (Value.func (Fn.func 49) #[] #[d1]))] (fun D4 w =>
    call Try.prog 45 #[D4] (fun D5 w =>
    bin Try.prog BinOp.neq 33 false true D5 (Value.int IntKind.i64 0) (fun D7 w =>
    cond D7
      (K (Value.tuple #[(Value.pointer none), (Value.slice none 0 0), D5]) w)
      (ld Try.prog 25 d1 (fun D9 w =>
    ld Try.prog 3 at7 (fun E0 w =>
    bld Try.prog 84 #[(0, D9), (1, E0)] (fun E1 w =>
    box Try.prog 84 E1 (fun E2 w =>
    K (Value.tuple #[E2, l6, (Value.int IntKind.i64 0)]) w) w) w) w) w)) w) w) w) :
    cCode Try.prog (cd Try.f21 [1, 1, 1, 1]) (retK Try.prog Try.f21.results.toList K) (fun _ _ _ => False) (retK Try.prog Try.f21.results.toList K) [d0, d1, j2, records3, e4, b5, l6, at7, A8, A9, C0, C1, C2, C3, C4, C5, C6, C7, C8, C9, D0, D1, D2, D3, D4, D5, D6, D7, D8, D9, E0, E1, E2, E3] w := Eq.mp (by kernel_rfl) h

theorem journal_Open_A1_r {K : KV} {d0 d1 j2 records3 e4 b5 l6 at7 A8 A9 C0 C1 C2 C3 C4 C5 C6 C7 C8 C9 D0 D1 D2 D3 D4 D5 D6 D7 D8 D9 E0 E1 E2 E3 : Value} {w : World}
    (h : bldS Try.prog 99 3 #[(0, (Value.func (Fn.func 46) #[] #[at7, b5, d1])), (1, (Value.func (Fn.func 47) #[] #[d1])), (2, (Value.func (Fn.func 49) #[] #[d1]))] (fun D4 w =>
    call Try.prog 45 #[D4] (fun D5 w =>
    bin Try.prog BinOp.neq 33 false true D5 (Value.int IntKind.i64 0) (fun D7 w =>
    cond D7
      (K (Value.tuple #[(Value.pointer none), (Value.slice none 0 0), D5]) w)
      (ld Try.prog 25 d1 (fun D9 w =>
    ld Try.prog 3 at7 (fun E0 w =>
    bld Try.prog 84 #[(0, D9), (1, E0)] (fun E1 w =>
    box Try.prog 84 E1 (fun E2 w =>
    K (Value.tuple #[E2, l6, (Value.int IntKind.i64 0)]) w) w) w) w) w)) w) w) w) :
    journal_Open_A1 K [d0, d1, j2, records3, e4, b5, l6, at7, A8, A9, C0, C1, C2, C3, C4, C5, C6, C7, C8, C9, D0, D1, D2, D3, D4, D5, D6, D7, D8, D9, E0, E1, E2, E3] w := by
  delta journal_Open_A1
  exact Eq.mp (congrArg (fun c => cCode Try.prog c (retK Try.prog Try.f21.results.toList K) (fun _ _ _ => False) (retK Try.prog Try.f21.results.toList K) [d0, d1, j2, records3, e4, b5, l6, at7, A8, A9, C0, C1, C2, C3, C4, C5, C6, C7, C8, C9, D0, D1, D2, D3, D4, D5, D6, D7, D8, D9, E0, E1, E2, E3] w) (by kernel_rfl : (cd Try.f21 [1, 1, 1, 1]) = (cd Try.f21 [1, 1, 1, 1]))) (journal_Open_A1_k h)
attribute [irreducible] journal_Open_A1


theorem journal_Open_1_k {K : KV} {A0 A1 A2 : Value} {w : World}
    (h : ld Try.prog 3 A0 (fun A4 w =>
    ld Try.prog 29 A1 (fun A5 w =>
    blt Try.prog Builtin.len #[29] 3 #[false] #[A5] (fun A6 w =>
    bin Try.prog BinOp.eql 3 false false A4 A6 (fun A7 w =>
    cond A7
      (K (Value.int IntKind.i64 0) w)
      (ld Try.prog 25 A2 (fun A8 w =>
    ld Try.prog 3 A0 (fun A9 w =>
    call Try.prog 35 #[A8, (Value.int IntKind.i64 0), A9] (fun C0 w =>
    K C0 w) w) w) w)) w) w) w) w) :
    cCode Try.prog (cd Try.f46 []) (retK Try.prog Try.f46.results.toList K) (fun _ _ _ => False) (retK Try.prog Try.f46.results.toList K) [A0, A1, A2, undef, undef, undef, undef, undef, undef, undef, undef] w := Eq.mp (by kernel_rfl) h

theorem journal_Open_1_in {K : KV} {A0 A1 A2 : Value} {w : World}
    (h : ld Try.prog 3 A0 (fun A4 w =>
    ld Try.prog 29 A1 (fun A5 w =>
    blt Try.prog Builtin.len #[29] 3 #[false] #[A5] (fun A6 w =>
    bin Try.prog BinOp.eql 3 false false A4 A6 (fun A7 w =>
    cond A7
      (K (Value.int IntKind.i64 0) w)
      (ld Try.prog 25 A2 (fun A8 w =>
    ld Try.prog 3 A0 (fun A9 w =>
    call Try.prog 35 #[A8, (Value.int IntKind.i64 0), A9] (fun C0 w =>
    K C0 w) w) w) w)) w) w) w) w) :
    Gives Try.prog 46 #[A0, A1, A2] w K := enter' Try.func46 (by kernel_rfl) (Eq.mp (congrArg (fun c => cCode Try.prog c (retK Try.prog Try.f46.results.toList K) (fun _ _ _ => False) (retK Try.prog Try.f46.results.toList K) [A0, A1, A2, undef, undef, undef, undef, undef, undef, undef, undef] w) (by kernel_rfl : (cd Try.f46 []) = (cd Try.f46 []))) (journal_Open_1_k h))
theorem journal_Open_1_go : isGo Try.prog 46 := ⟨_, Try.func46, by kernel_rfl, by kernel_rfl⟩


theorem journal_Open_2_k {K : KV} {A0 : Value} {w : World}
    (h : ld Try.prog 25 A0 (fun A2 w =>
    call Try.prog 48 #[A2] (fun A3 w =>
    K A3 w) w) w) :
    cCode Try.prog (cd Try.f47 []) (retK Try.prog Try.f47.results.toList K) (fun _ _ _ => False) (retK Try.prog Try.f47.results.toList K) [A0, undef, undef, undef] w := Eq.mp (by kernel_rfl) h

theorem journal_Open_2_in {K : KV} {A0 : Value} {w : World}
    (h : ld Try.prog 25 A0 (fun A2 w =>
    call Try.prog 48 #[A2] (fun A3 w =>
    K A3 w) w) w) :
    Gives Try.prog 47 #[A0] w K := enter' Try.func47 (by kernel_rfl) (Eq.mp (congrArg (fun c => cCode Try.prog c (retK Try.prog Try.f47.results.toList K) (fun _ _ _ => False) (retK Try.prog Try.f47.results.toList K) [A0, undef, undef, undef] w) (by kernel_rfl : (cd Try.f47 []) = (cd Try.f47 []))) (journal_Open_2_k h))
theorem journal_Open_2_go : isGo Try.prog 47 := ⟨_, Try.func47, by kernel_rfl, by kernel_rfl⟩


theorem journal_Open_3_k {K : KV} {A0 : Value} {w : World}
    (h : ld Try.prog 25 A0 (fun A2 w =>
    call Try.prog 16 #[A2] (fun A3 w =>
    bin Try.prog BinOp.eql 3 false true A3 (Value.int IntKind.i64 0) (fun A4 w =>
    cond A4
      (K (Value.int IntKind.i64 0) w)
      (ld Try.prog 25 A0 (fun A5 w =>
    call Try.prog 33 #[A5] (fun A6 w =>
    K A6 w) w) w)) w) w) w) :
    cCode Try.prog (cd Try.f49 []) (retK Try.prog Try.f49.results.toList K) (fun _ _ _ => False) (retK Try.prog Try.f49.results.toList K) [A0, undef, undef, undef, undef, undef, undef] w := Eq.mp (by kernel_rfl) h

theorem journal_Open_3_in {K : KV} {A0 : Value} {w : World}
    (h : ld Try.prog 25 A0 (fun A2 w =>
    call Try.prog 16 #[A2] (fun A3 w =>
    bin Try.prog BinOp.eql 3 false true A3 (Value.int IntKind.i64 0) (fun A4 w =>
    cond A4
      (K (Value.int IntKind.i64 0) w)
      (ld Try.prog 25 A0 (fun A5 w =>
    call Try.prog 33 #[A5] (fun A6 w =>
    K A6 w) w) w)) w) w) w) :
    Gives Try.prog 49 #[A0] w K := enter' Try.func49 (by kernel_rfl) (Eq.mp (congrArg (fun c => cCode Try.prog c (retK Try.prog Try.f49.results.toList K) (fun _ _ _ => False) (retK Try.prog Try.f49.results.toList K) [A0, undef, undef, undef, undef, undef, undef] w) (by kernel_rfl : (cd Try.f49 []) = (cd Try.f49 []))) (journal_Open_3_k h))
theorem journal_Open_3_go : isGo Try.prog 49 := ⟨_, Try.func49, by kernel_rfl, by kernel_rfl⟩


theorem journal_Journal_bytes_k {K : KV} {j0 records1 : Value} {w : World}
    (h : bin Try.prog BinOp.eql 49 false true j0 (Value.pointer none) (fun A8 w =>
    cond A8
      (K (Value.tuple #[(Value.slice none 0 0), (Value.int IntKind.i64 2)]) w)
      (nilC j0 (fun C1 w =>
      fldA Try.prog 84 C1 2 (fun C2 w =>
      ld Try.prog 4 C2 (fun C3 w =>
      cond C3
        (K (Value.tuple #[(Value.slice none 0 0), (Value.int IntKind.i64 3)]) w)
        (call Try.prog 67 #[(Value.slice none 0 0), records1] (fun C5 w =>
    ext Try.prog C5 0 (fun C6 w =>
    ext Try.prog C5 1 (fun C7 w =>
    K (Value.tuple #[C6, C7]) w) w) w) w)) w) w) w)) w) :
    cCode Try.prog (cd Try.f50 []) (retK Try.prog Try.f50.results.toList K) (fun _ _ _ => False) (retK Try.prog Try.f50.results.toList K) [j0, records1, undef, undef, undef, undef, undef, undef, undef, undef, undef, undef, undef, undef, undef, undef, undef, undef] w := Eq.mp (by kernel_rfl) h

theorem journal_Journal_bytes_in {K : KV} {j0 records1 : Value} {w : World}
    (h : bin Try.prog BinOp.eql 49 false true j0 (Value.pointer none) (fun A8 w =>
    cond A8
      (K (Value.tuple #[(Value.slice none 0 0), (Value.int IntKind.i64 2)]) w)
      (nilC j0 (fun C1 w =>
      fldA Try.prog 84 C1 2 (fun C2 w =>
      ld Try.prog 4 C2 (fun C3 w =>
      cond C3
        (K (Value.tuple #[(Value.slice none 0 0), (Value.int IntKind.i64 3)]) w)
        (call Try.prog 67 #[(Value.slice none 0 0), records1] (fun C5 w =>
    ext Try.prog C5 0 (fun C6 w =>
    ext Try.prog C5 1 (fun C7 w =>
    K (Value.tuple #[C6, C7]) w) w) w) w)) w) w) w)) w) :
    Gives Try.prog 50 #[j0, records1] w K := enter' Try.func50 (by kernel_rfl) (Eq.mp (congrArg (fun c => cCode Try.prog c (retK Try.prog Try.f50.results.toList K) (fun _ _ _ => False) (retK Try.prog Try.f50.results.toList K) [j0, records1, undef, undef, undef, undef, undef, undef, undef, undef, undef, undef, undef, undef, undef, undef, undef, undef] w) (by kernel_rfl : (cd Try.f50 []) = (cd Try.f50 []))) (journal_Journal_bytes_k h))
theorem journal_Journal_bytes_go : isGo Try.prog 50 := ⟨_, Try.func50, by kernel_rfl, by kernel_rfl⟩

def journal_Journal_done_P1 (K : KV) : KE := cCode Try.prog (cd Try.f52 [1, 1, 1]) (retK Try.prog Try.f52.results.toList K) (fun _ _ _ => False) (retK Try.prog Try.f52.results.toList K)
def journal_Journal_done_A1 (K : KV) : KE := cCode Try.prog (cd Try.f52 [1, 1, 0, 1]) (journal_Journal_done_P1 K) (fun _ _ _ => False) (retK Try.prog Try.f52.results.toList K)
theorem journal_Journal_done_k {K : KV} (xc0 : Code) {j0 size1 e2 : Value} {w : World}
    (h : bin Try.prog BinOp.eql 33 false true e2 (Value.int IntKind.i64 8) (fun A9 w =>
    nilC j0 (fun C0 w =>
    fldA Try.prog 84 C0 2 (fun C1 w =>
    sto Try.prog 4 C1 A9 (fun _t w =>
    bin Try.prog BinOp.eql 33 false true e2 (Value.int IntKind.i64 0) (fun C3 w =>
    (cCode Try.prog xc0 (cCode Try.prog (cd Try.f52 [1, 1, 1]) (retK Try.prog Try.f52.results.toList K) (fun _ _ _ => False) (retK Try.prog Try.f52.results.toList K)) (fun _ _ _ => False) (retK Try.prog Try.f52.results.toList K)) [j0, size1, e2, undef, undef, undef, (Value.int IntKind.i64 0), j0, e2, A9, C0, C1, e2, C3, undef, undef, undef, undef, undef] w) w) w) w) w) w) :
    cCode Try.prog (rep [1, 1, 0, 1] xc0 (cd Try.f52 [])) (retK Try.prog Try.f52.results.toList K) (fun _ _ _ => False) (retK Try.prog Try.f52.results.toList K) [j0, size1, e2, undef, undef, undef, undef, undef, undef, undef, undef, undef, undef, undef, undef, undef, undef, undef, undef] w := Eq.mp (by kernel_rfl) h

theorem journal_Journal_done_in {K : KV} {j0 size1 e2 : Value} {w : World}
    (h : bin Try.prog BinOp.eql 33 false true e2 (Value.int IntKind.i64 8) (fun A9 w =>
    nilC j0 (fun C0 w =>
    fldA Try.prog 84 C0 2 (fun C1 w =>
    sto Try.prog 4 C1 A9 (fun _t w =>
    bin Try.prog BinOp.eql 33 false true e2 (Value.int IntKind.i64 0) (fun C3 w =>
    (journal_Journal_done_A1 K) [j0, size1, e2, undef, undef, undef, (Value.int IntKind.i64 0), j0, e2, A9, C0, C1, e2, C3, undef, undef, undef, undef, undef] w) w) w) w) w) w) :
    Gives Try.prog 52 #[j0, size1, e2] w K := enter' Try.func52 (by kernel_rfl) (Eq.mp (congrArg (fun c => cCode Try.prog c (retK Try.prog Try.f52.results.toList K) (fun _ _ _ => False) (retK Try.prog Try.f52.results.toList K) [j0, size1, e2, undef, undef, undef, undef, undef, undef, undef, undef, undef, undef, undef, undef, undef, undef, undef, undef] w) (by kernel_rfl : (rep [1, 1, 0, 1] (cd Try.f52 [1, 1, 0, 1]) (cd Try.f52 [])) = (cd Try.f52 []))) (journal_Journal_done_k (cd Try.f52 [1, 1, 0, 1]) h))
theorem journal_Journal_done_go : isGo Try.prog 52 := ⟨_, Try.func52, by kernel_rfl, by kernel_rfl⟩

theorem journal_Journal_done_A1_k {K : KV} (qc0 : KE) {j0 size1 e2 j3 size4 e5 A6 A7 A8 A9 C0 C1 C2 C3 C4 C5 C6 C7 C8 : Value} {w : World}
    (h : cond C3
      (nilC j0 (fun C6 w =>
      fldA Try.prog 84 C6 1 (fun C7 w =>
      sto Try.prog 3 C7 size1 (fun _t w =>
      qc0 [j0, size1, e2, j3, size4, e5, A6, A7, A8, A9, C0, C1, C2, C3, j0, size1, C6, C7, C8] w) w) w) w)
      (qc0 [j0, size1, e2, j3, size4, e5, A6, A7, A8, A9, C0, C1, C2, C3, C4, C5, C6, C7, C8] w)) :
    cCode Try.prog (cd Try.f52 [1, 1, 0, 1]) qc0 (fun _ _ _ => False) (retK Try.prog Try.f52.results.toList K) [j0, size1, e2, j3, size4, e5, A6, A7, A8, A9, C0, C1, C2, C3, C4, C5, C6, C7, C8] w := Eq.mp (by kernel_rfl) h

theorem journal_Journal_done_A1_r {K : KV} {j0 size1 e2 j3 size4 e5 A6 A7 A8 A9 C0 C1 C2 C3 C4 C5 C6 C7 C8 : Value} {w : World}
    (h : cond C3
      (nilC j0 (fun C6 w =>
      fldA Try.prog 84 C6 1 (fun C7 w =>
      sto Try.prog 3 C7 size1 (fun _t w =>
      (journal_Journal_done_P1 K) [j0, size1, e2, j3, size4, e5, A6, A7, A8, A9, C0, C1, C2, C3, j0, size1, C6, C7, C8] w) w) w) w)
      ((journal_Journal_done_P1 K) [j0, size1, e2, j3, size4, e5, A6, A7, A8, A9, C0, C1, C2, C3, C4, C5, C6, C7, C8] w)) :
    journal_Journal_done_A1 K [j0, size1, e2, j3, size4, e5, A6, A7, A8, A9, C0, C1, C2, C3, C4, C5, C6, C7, C8] w := by
  delta journal_Journal_done_A1
  exact Eq.mp (congrArg (fun c => cCode Try.prog c (journal_Journal_done_P1 K) (fun _ _ _ => False) (retK Try.prog Try.f52.results.toList K) [j0, size1, e2, j3, size4, e5, A6, A7, A8, A9, C0, C1, C2, C3, C4, C5, C6, C7, C8] w) (by kernel_rfl : (cd Try.f52 [1, 1, 0, 1]) = (cd Try.f52 [1, 1, 0, 1]))) (journal_Journal_done_A1_k (journal_Journal_done_P1 K) h)

theorem journal_Journal_done_P1_k {K : KV} {j0 size1 e2 j3 size4 e5 A6 A7 A8 A9 C0 C1 C2 C3 C4 C5 C6 C7 C8 : Value} {w : World}
    (h : K e2 w) :
    cCode Try.prog (cd Try.f52 [1, 1, 1]) (retK Try.prog Try.f52.results.toList K) (fun _ _ _ => False) (retK Try.prog Try.f52.results.toList K) [j0, size1, e2, j3, size4, e5, A6, A7, A8, A9, C0, C1, C2, C3, C4, C5, C6, C7, C8] w := Eq.mp (by kernel_rfl) h

theorem journal_Journal_done_P1_r {K : KV} {j0 size1 e2 j3 size4 e5 A6 A7 A8 A9 C0 C1 C2 C3 C4 C5 C6 C7 C8 : Value} {w : World}
    (h : K e2 w) :
    journal_Journal_done_P1 K [j0, size1, e2, j3, size4, e5, A6, A7, A8, A9, C0, C1, C2, C3, C4, C5, C6, C7, C8] w := by
  delta journal_Journal_done_P1
  exact Eq.mp (congrArg (fun c => cCode Try.prog c (retK Try.prog Try.f52.results.toList K) (fun _ _ _ => False) (retK Try.prog Try.f52.results.toList K) [j0, size1, e2, j3, size4, e5, A6, A7, A8, A9, C0, C1, C2, C3, C4, C5, C6, C7, C8] w) (by kernel_rfl : (cd Try.f52 [1, 1, 1]) = (cd Try.f52 [1, 1, 1]))) (journal_Journal_done_P1_k h)
attribute [irreducible] journal_Journal_done_P1 journal_Journal_done_A1

def journal_Journal_Add_A1 (K : KV) : KE := cCode Try.prog (cd Try.f23 [1, 1, 1, 1]) (retK Try.prog Try.f23.results.toList K) (fun _ _ _ => False) (retK Try.prog Try.f23.results.toList K)
theorem journal_Journal_Add_k {K : KV} (xc0 : Code) {j0 records1 : Value} {w : World}
    (h : box Try.prog 49 j0 (fun j2 w =>
    ld Try.prog 49 j2 (fun A8 w =>
    call Try.prog 50 #[A8, records1] (fun C0 w =>
    ext Try.prog C0 0 (fun C1 w =>
    ext Try.prog C0 1 (fun C2 w =>
    alc Try.prog 29 (fun b5 w =>
    sto Try.prog 29 b5 C1 (fun _t w =>
    bin Try.prog BinOp.neq 33 false true C2 (Value.int IntKind.i64 0) (fun C4 w =>
    gsel C4 false (fun k16 =>
    blt Try.prog Builtin.len #[50] 3 #[false] #[records1] (fun C7 w =>
    bin Try.prog BinOp.eql 3 false true C7 (Value.int IntKind.i64 0) (fun C8 w =>
    k16 [records1, C7, C8] w) w) w)
    (fun k => k [undef, undef, undef] w) (fun us16 w =>
    pick C4 (Value.bool true) (gd us16 2) (fun C9 w =>
    cond C9
      (K C2 w)
      (ld Try.prog 49 j2 (fun D2 w =>
    nilC D2 (fun D3 w =>
    fldA Try.prog 84 D3 0 (fun D4 w =>
    ld Try.prog 25 D4 (fun D5 w =>
    bldS Try.prog 99 2 #[(0, (Value.func (Fn.func 51) #[] #[j2, b5])), (1, (Value.func (Fn.func 33) #[D5] #[]))] (fun D7 w =>
    call Try.prog 45 #[D7] (fun D8 w =>
    (cCode Try.prog xc0 (retK Try.prog Try.f23.results.toList K) (fun _ _ _ => False) (retK Try.prog Try.f23.results.toList K)) [j0, records1, j2, undef, (Value.int IntKind.i64 0), b5, D8, C0, A8, records1, C0, C1, C2, C2, C4, C4, (gd us16 0), (gd us16 1), (gd us16 2), C9, undef, (Value.func (Fn.func 51) #[] #[j2, b5]), D2, D3, D4, D5, (Value.func (Fn.func 33) #[D5] #[]), D7, D8, undef, undef, undef, undef, undef, undef, undef, undef, undef, undef] w) w) w) w) w) w) w)) w)) w) w) w) w) w) w) w) w) :
    cCode Try.prog (rep [1, 1, 1, 1] xc0 (cd Try.f23 [])) (retK Try.prog Try.f23.results.toList K) (fun _ _ _ => False) (retK Try.prog Try.f23.results.toList K) [j0, records1, undef, undef, undef, undef, undef, undef, undef, undef, undef, undef, undef, undef, undef, undef, undef, undef, undef, undef, undef, undef, undef, undef, undef, undef, undef, undef, undef, undef, undef, undef, undef, undef, undef, undef, undef, undef, undef] w := Eq.mp (by kernel_rfl) h

theorem journal_Journal_Add_in {K : KV} {j0 records1 : Value} {w : World}
    (h : box Try.prog 49 j0 (fun j2 w =>
    ld Try.prog 49 j2 (fun A8 w =>
    call Try.prog 50 #[A8, records1] (fun C0 w =>
    ext Try.prog C0 0 (fun C1 w =>
    ext Try.prog C0 1 (fun C2 w =>
    alc Try.prog 29 (fun b5 w =>
    sto Try.prog 29 b5 C1 (fun _t w =>
    bin Try.prog BinOp.neq 33 false true C2 (Value.int IntKind.i64 0) (fun C4 w =>
    gsel C4 false (fun k16 =>
    blt Try.prog Builtin.len #[50] 3 #[false] #[records1] (fun C7 w =>
    bin Try.prog BinOp.eql 3 false true C7 (Value.int IntKind.i64 0) (fun C8 w =>
    k16 [records1, C7, C8] w) w) w)
    (fun k => k [undef, undef, undef] w) (fun us16 w =>
    pick C4 (Value.bool true) (gd us16 2) (fun C9 w =>
    cond C9
      (K C2 w)
      (ld Try.prog 49 j2 (fun D2 w =>
    nilC D2 (fun D3 w =>
    fldA Try.prog 84 D3 0 (fun D4 w =>
    ld Try.prog 25 D4 (fun D5 w =>
    bldS Try.prog 99 2 #[(0, (Value.func (Fn.func 51) #[] #[j2, b5])), (1, (Value.func (Fn.func 33) #[D5] #[]))] (fun D7 w =>
    call Try.prog 45 #[D7] (fun D8 w =>
    (journal_Journal_Add_A1 K) [j0, records1, j2, undef, (Value.int IntKind.i64 0), b5, D8, C0, A8, records1, C0, C1, C2, C2, C4, C4, (gd us16 0), (gd us16 1), (gd us16 2), C9, undef, (Value.func (Fn.func 51) #[] #[j2, b5]), D2, D3, D4, D5, (Value.func (Fn.func 33) #[D5] #[]), D7, D8, undef, undef, undef, undef, undef, undef, undef, undef, undef, undef] w) w) w) w) w) w) w)) w)) w) w) w) w) w) w) w) w) :
    Gives Try.prog 23 #[j0, records1] w K := enter' Try.func23 (by kernel_rfl) (Eq.mp (congrArg (fun c => cCode Try.prog c (retK Try.prog Try.f23.results.toList K) (fun _ _ _ => False) (retK Try.prog Try.f23.results.toList K) [j0, records1, undef, undef, undef, undef, undef, undef, undef, undef, undef, undef, undef, undef, undef, undef, undef, undef, undef, undef, undef, undef, undef, undef, undef, undef, undef, undef, undef, undef, undef, undef, undef, undef, undef, undef, undef, undef, undef] w) (by kernel_rfl : (rep [1, 1, 1, 1] (cd Try.f23 [1, 1, 1, 1]) (cd Try.f23 [])) = (cd Try.f23 []))) (journal_Journal_Add_k (cd Try.f23 [1, 1, 1, 1]) h))
theorem journal_Journal_Add_go : isGo Try.prog 23 := ⟨_, Try.func23, by kernel_rfl, by kernel_rfl⟩

theorem journal_Journal_Add_A1_k {K : KV} {j0 records1 j2 records3 A4 b5 e6 A7 A8 A9 C0 C1 C2 C3 C4 C5 C6 C7 C8 C9 D0 D1 D2 D3 D4 D5 D6 D7 D8 D9 E0 E1 E2 E3 E4 E5 E6 E7 E8 : Value} {w : World}
    (h : hReg (fun S w =>
    hld S (fun k w => ld Try.prog 49 j2 k w) (fun D9 =>
    hld S (fun k w => ld Try.prog 49 j2 k w) (fun E0 =>
    hld S (fun k w => nilC E0 k w) (fun E1 =>
    hld S (fun k w => fldA Try.prog 84 E1 1 k w) (fun E2 =>
    hld S (fun k w => ld Try.prog 3 E2 k w) (fun E3 =>
    hld S (fun k w => ld Try.prog 29 b5 k w) (fun E4 =>
    hld S (fun k w => blt Try.prog Builtin.len #[29] 3 #[false] #[E4] k w) (fun E5 =>
    hld (fun _ => True) (fun k w => bin Try.prog BinOp.add 3 false false E3 E5 k w) (fun E6 =>
    call Try.prog 52 #[D9, E6, e6] (fun E8 w =>
    hReg (fun S w =>
    K E8 w) w) w))))))))) w.drew) :
    cCode Try.prog (cd Try.f23 [1, 1, 1, 1]) (retK Try.prog Try.f23.results.toList K) (fun _ _ _ => False) (retK Try.prog Try.f23.results.toList K) [j0, records1, j2, records3, A4, b5, e6, A7, A8, A9, C0, C1, C2, C3, C4, C5, C6, C7, C8, C9, D0, D1, D2, D3, D4, D5, D6, D7, D8, D9, E0, E1, E2, E3, E4, E5, E6, E7, E8] w := Eq.mp (by kernel_rfl) h

theorem journal_Journal_Add_A1_r {K : KV} {j0 records1 j2 records3 A4 b5 e6 A7 A8 A9 C0 C1 C2 C3 C4 C5 C6 C7 C8 C9 D0 D1 D2 D3 D4 D5 D6 D7 D8 D9 E0 E1 E2 E3 E4 E5 E6 E7 E8 : Value} {w : World}
    (h : hReg (fun S w =>
    hld S (fun k w => ld Try.prog 49 j2 k w) (fun D9 =>
    hld S (fun k w => ld Try.prog 49 j2 k w) (fun E0 =>
    hld S (fun k w => nilC E0 k w) (fun E1 =>
    hld S (fun k w => fldA Try.prog 84 E1 1 k w) (fun E2 =>
    hld S (fun k w => ld Try.prog 3 E2 k w) (fun E3 =>
    hld S (fun k w => ld Try.prog 29 b5 k w) (fun E4 =>
    hld S (fun k w => blt Try.prog Builtin.len #[29] 3 #[false] #[E4] k w) (fun E5 =>
    hld (fun _ => True) (fun k w => bin Try.prog BinOp.add 3 false false E3 E5 k w) (fun E6 =>
    call Try.prog 52 #[D9, E6, e6] (fun E8 w =>
    hReg (fun S w =>
    K E8 w) w) w))))))))) w.drew) :
    journal_Journal_Add_A1 K [j0, records1, j2, records3, A4, b5, e6, A7, A8, A9, C0, C1, C2, C3, C4, C5, C6, C7, C8, C9, D0, D1, D2, D3, D4, D5, D6, D7, D8, D9, E0, E1, E2, E3, E4, E5, E6, E7, E8] w := by
  delta journal_Journal_Add_A1
  exact Eq.mp (congrArg (fun c => cCode Try.prog c (retK Try.prog Try.f23.results.toList K) (fun _ _ _ => False) (retK Try.prog Try.f23.results.toList K) [j0, records1, j2, records3, A4, b5, e6, A7, A8, A9, C0, C1, C2, C3, C4, C5, C6, C7, C8, C9, D0, D1, D2, D3, D4, D5, D6, D7, D8, D9, E0, E1, E2, E3, E4, E5, E6, E7, E8] w) (by kernel_rfl : (cd Try.f23 [1, 1, 1, 1]) = (cd Try.f23 [1, 1, 1, 1]))) (journal_Journal_Add_A1_k h)
attribute [irreducible] journal_Journal_Add_A1


theorem journal_Journal_Add_1_k {K : KV} {A0 A1 : Value} {w : World}
    (h : hReg (fun S w =>
    hld S (fun k w => ld Try.prog 49 A0 k w) (fun A3 =>
    hld S (fun k w => nilC A3 k w) (fun A4 =>
    hld S (fun k w => fldA Try.prog 84 A4 0 k w) (fun A5 =>
    hld S (fun k w => ld Try.prog 25 A5 k w) (fun A6 =>
    hld S (fun k w => ld Try.prog 29 A1 k w) (fun A7 =>
    call Try.prog 32 #[A6, (Value.int IntKind.i64 0), A7] (fun A8 w =>
    hReg (fun S w =>
    K A8 w) w) w)))))) w.drew) :
    cCode Try.prog (cd Try.f51 []) (retK Try.prog Try.f51.results.toList K) (fun _ _ _ => False) (retK Try.prog Try.f51.results.toList K) [A0, A1, undef, undef, undef, undef, undef, undef, undef] w := Eq.mp (by kernel_rfl) h

theorem journal_Journal_Add_1_in {K : KV} {A0 A1 : Value} {w : World}
    (h : hReg (fun S w =>
    hld S (fun k w => ld Try.prog 49 A0 k w) (fun A3 =>
    hld S (fun k w => nilC A3 k w) (fun A4 =>
    hld S (fun k w => fldA Try.prog 84 A4 0 k w) (fun A5 =>
    hld S (fun k w => ld Try.prog 25 A5 k w) (fun A6 =>
    hld S (fun k w => ld Try.prog 29 A1 k w) (fun A7 =>
    call Try.prog 32 #[A6, (Value.int IntKind.i64 0), A7] (fun A8 w =>
    hReg (fun S w =>
    K A8 w) w) w)))))) w.drew) :
    Gives Try.prog 51 #[A0, A1] w K := enter' Try.func51 (by kernel_rfl) (Eq.mp (congrArg (fun c => cCode Try.prog c (retK Try.prog Try.f51.results.toList K) (fun _ _ _ => False) (retK Try.prog Try.f51.results.toList K) [A0, A1, undef, undef, undef, undef, undef, undef, undef] w) (by kernel_rfl : (cd Try.f51 []) = (cd Try.f51 []))) (journal_Journal_Add_1_k h))
theorem journal_Journal_Add_1_go : isGo Try.prog 51 := ⟨_, Try.func51, by kernel_rfl, by kernel_rfl⟩


theorem journal_Journal_Compact_k {K : KV} {j0 records1 : Value} {w : World}
    (h : box Try.prog 49 j0 (fun j2 w =>
    ld Try.prog 49 j2 (fun A8 w =>
    call Try.prog 50 #[A8, records1] (fun C0 w =>
    ext Try.prog C0 0 (fun C1 w =>
    ext Try.prog C0 1 (fun C2 w =>
    alc Try.prog 29 (fun b5 w =>
    sto Try.prog 29 b5 C1 (fun _t w =>
    bin Try.prog BinOp.neq 33 false true C2 (Value.int IntKind.i64 0) (fun C4 w =>
    cond C4
      (K C2 w)
      (hReg (fun S w =>
    hld S (fun k w => ld Try.prog 49 j2 k w) (fun C8 =>
    hld S (fun k w => nilC C8 k w) (fun C9 =>
    hld S (fun k w => fldA Try.prog 84 C9 0 k w) (fun D0 =>
    hld S (fun k w => ld Try.prog 25 D0 k w) (fun D1 =>
    hld S (fun k w => ld Try.prog 49 j2 k w) (fun D3 =>
    hld S (fun k w => nilC D3 k w) (fun D4 =>
    hld S (fun k w => fldA Try.prog 84 D4 0 k w) (fun D5 =>
    hld S (fun k w => ld Try.prog 25 D5 k w) (fun D6 =>
    hld S (fun k w => ld Try.prog 49 j2 k w) (fun D8 =>
    hld S (fun k w => nilC D8 k w) (fun D9 =>
    hld S (fun k w => fldA Try.prog 84 D9 0 k w) (fun E0 =>
    hld S (fun k w => ld Try.prog 25 E0 k w) (fun E1 =>
    bldS Try.prog 99 5 #[(0, (Value.func (Fn.func 53) #[] #[j2])), (1, (Value.func (Fn.func 54) #[] #[j2, b5])), (2, (Value.func (Fn.func 33) #[D1] #[])), (3, (Value.func (Fn.func 34) #[D6] #[])), (4, (Value.func (Fn.func 33) #[E1] #[]))] (fun E3 w =>
    hReg (fun S w =>
    call Try.prog 45 #[E3] (fun E4 w =>
    hReg (fun S w =>
    ld Try.prog 49 j2 (fun E5 w =>
    ld Try.prog 29 b5 (fun E6 w =>
    blt Try.prog Builtin.len #[29] 3 #[false] #[E6] (fun E7 w =>
    call Try.prog 52 #[E5, E7, E4] (fun E9 w =>
    K E9 w) w) w) w) w) w) w) w) w))))))))))))) w.drew)) w) w) w) w) w) w) w) w) :
    cCode Try.prog (cd Try.f24 []) (retK Try.prog Try.f24.results.toList K) (fun _ _ _ => False) (retK Try.prog Try.f24.results.toList K) [j0, records1, undef, undef, undef, undef, undef, undef, undef, undef, undef, undef, undef, undef, undef, undef, undef, undef, undef, undef, undef, undef, undef, undef, undef, undef, undef, undef, undef, undef, undef, undef, undef, undef, undef, undef, undef, undef, undef, undef] w := Eq.mp (by kernel_rfl) h

theorem journal_Journal_Compact_in {K : KV} {j0 records1 : Value} {w : World}
    (h : box Try.prog 49 j0 (fun j2 w =>
    ld Try.prog 49 j2 (fun A8 w =>
    call Try.prog 50 #[A8, records1] (fun C0 w =>
    ext Try.prog C0 0 (fun C1 w =>
    ext Try.prog C0 1 (fun C2 w =>
    alc Try.prog 29 (fun b5 w =>
    sto Try.prog 29 b5 C1 (fun _t w =>
    bin Try.prog BinOp.neq 33 false true C2 (Value.int IntKind.i64 0) (fun C4 w =>
    cond C4
      (K C2 w)
      (hReg (fun S w =>
    hld S (fun k w => ld Try.prog 49 j2 k w) (fun C8 =>
    hld S (fun k w => nilC C8 k w) (fun C9 =>
    hld S (fun k w => fldA Try.prog 84 C9 0 k w) (fun D0 =>
    hld S (fun k w => ld Try.prog 25 D0 k w) (fun D1 =>
    hld S (fun k w => ld Try.prog 49 j2 k w) (fun D3 =>
    hld S (fun k w => nilC D3 k w) (fun D4 =>
    hld S (fun k w => fldA Try.prog 84 D4 0 k w) (fun D5 =>
    hld S (fun k w => ld Try.prog 25 D5 k w) (fun D6 =>
    hld S (fun k w => ld Try.prog 49 j2 k w) (fun D8 =>
    hld S (fun k w => nilC D8 k w) (fun D9 =>
    hld S (fun k w => fldA Try.prog 84 D9 0 k w) (fun E0 =>
    hld S (fun k w => ld Try.prog 25 E0 k w) (fun E1 =>
    bldS Try.prog 99 5 #[(0, (Value.func (Fn.func 53) #[] #[j2])), (1, (Value.func (Fn.func 54) #[] #[j2, b5])), (2, (Value.func (Fn.func 33) #[D1] #[])), (3, (Value.func (Fn.func 34) #[D6] #[])), (4, (Value.func (Fn.func 33) #[E1] #[]))] (fun E3 w =>
    hReg (fun S w =>
    call Try.prog 45 #[E3] (fun E4 w =>
    hReg (fun S w =>
    ld Try.prog 49 j2 (fun E5 w =>
    ld Try.prog 29 b5 (fun E6 w =>
    blt Try.prog Builtin.len #[29] 3 #[false] #[E6] (fun E7 w =>
    call Try.prog 52 #[E5, E7, E4] (fun E9 w =>
    K E9 w) w) w) w) w) w) w) w) w))))))))))))) w.drew)) w) w) w) w) w) w) w) w) :
    Gives Try.prog 24 #[j0, records1] w K := enter' Try.func24 (by kernel_rfl) (Eq.mp (congrArg (fun c => cCode Try.prog c (retK Try.prog Try.f24.results.toList K) (fun _ _ _ => False) (retK Try.prog Try.f24.results.toList K) [j0, records1, undef, undef, undef, undef, undef, undef, undef, undef, undef, undef, undef, undef, undef, undef, undef, undef, undef, undef, undef, undef, undef, undef, undef, undef, undef, undef, undef, undef, undef, undef, undef, undef, undef, undef, undef, undef, undef, undef] w) (by kernel_rfl : (cd Try.f24 []) = (cd Try.f24 []))) (journal_Journal_Compact_k h))
theorem journal_Journal_Compact_go : isGo Try.prog 24 := ⟨_, Try.func24, by kernel_rfl, by kernel_rfl⟩


theorem journal_Journal_Compact_1_k {K : KV} {A0 : Value} {w : World}
    (h : ld Try.prog 49 A0 (fun A2 w =>
    nilC A2 (fun A3 w =>
    fldA Try.prog 84 A3 0 (fun A4 w =>
    ld Try.prog 25 A4 (fun A5 w =>
    call Try.prog 48 #[A5] (fun A6 w =>
    K A6 w) w) w) w) w) w) :
    cCode Try.prog (cd Try.f53 []) (retK Try.prog Try.f53.results.toList K) (fun _ _ _ => False) (retK Try.prog Try.f53.results.toList K) [A0, undef, undef, undef, undef, undef, undef] w := Eq.mp (by kernel_rfl) h

theorem journal_Journal_Compact_1_in {K : KV} {A0 : Value} {w : World}
    (h : ld Try.prog 49 A0 (fun A2 w =>
    nilC A2 (fun A3 w =>
    fldA Try.prog 84 A3 0 (fun A4 w =>
    ld Try.prog 25 A4 (fun A5 w =>
    call Try.prog 48 #[A5] (fun A6 w =>
    K A6 w) w) w) w) w) w) :
    Gives Try.prog 53 #[A0] w K := enter' Try.func53 (by kernel_rfl) (Eq.mp (congrArg (fun c => cCode Try.prog c (retK Try.prog Try.f53.results.toList K) (fun _ _ _ => False) (retK Try.prog Try.f53.results.toList K) [A0, undef, undef, undef, undef, undef, undef] w) (by kernel_rfl : (cd Try.f53 []) = (cd Try.f53 []))) (journal_Journal_Compact_1_k h))
theorem journal_Journal_Compact_1_go : isGo Try.prog 53 := ⟨_, Try.func53, by kernel_rfl, by kernel_rfl⟩


theorem journal_Journal_Compact_2_k {K : KV} {A0 A1 : Value} {w : World}
    (h : hReg (fun S w =>
    hld S (fun k w => ld Try.prog 49 A0 k w) (fun A3 =>
    hld S (fun k w => nilC A3 k w) (fun A4 =>
    hld S (fun k w => fldA Try.prog 84 A4 0 k w) (fun A5 =>
    hld S (fun k w => ld Try.prog 25 A5 k w) (fun A6 =>
    hld S (fun k w => ld Try.prog 29 A1 k w) (fun A7 =>
    call Try.prog 32 #[A6, (Value.int IntKind.i64 1), A7] (fun A8 w =>
    hReg (fun S w =>
    K A8 w) w) w)))))) w.drew) :
    cCode Try.prog (cd Try.f54 []) (retK Try.prog Try.f54.results.toList K) (fun _ _ _ => False) (retK Try.prog Try.f54.results.toList K) [A0, A1, undef, undef, undef, undef, undef, undef, undef] w := Eq.mp (by kernel_rfl) h

theorem journal_Journal_Compact_2_in {K : KV} {A0 A1 : Value} {w : World}
    (h : hReg (fun S w =>
    hld S (fun k w => ld Try.prog 49 A0 k w) (fun A3 =>
    hld S (fun k w => nilC A3 k w) (fun A4 =>
    hld S (fun k w => fldA Try.prog 84 A4 0 k w) (fun A5 =>
    hld S (fun k w => ld Try.prog 25 A5 k w) (fun A6 =>
    hld S (fun k w => ld Try.prog 29 A1 k w) (fun A7 =>
    call Try.prog 32 #[A6, (Value.int IntKind.i64 1), A7] (fun A8 w =>
    hReg (fun S w =>
    K A8 w) w) w)))))) w.drew) :
    Gives Try.prog 54 #[A0, A1] w K := enter' Try.func54 (by kernel_rfl) (Eq.mp (congrArg (fun c => cCode Try.prog c (retK Try.prog Try.f54.results.toList K) (fun _ _ _ => False) (retK Try.prog Try.f54.results.toList K) [A0, A1, undef, undef, undef, undef, undef, undef, undef] w) (by kernel_rfl : (cd Try.f54 []) = (cd Try.f54 []))) (journal_Journal_Compact_2_k h))
theorem journal_Journal_Compact_2_go : isGo Try.prog 54 := ⟨_, Try.func54, by kernel_rfl, by kernel_rfl⟩


theorem journal_Journal_Size_k {K : KV} {j0 : Value} {w : World}
    (h : bin Try.prog BinOp.eql 49 false true j0 (Value.pointer none) (fun A4 w =>
    cond A4
      (K (Value.int IntKind.i64 0) w)
      (nilC j0 (fun A6 w =>
    fldA Try.prog 84 A6 1 (fun A7 w =>
    ld Try.prog 3 A7 (fun A8 w =>
    K A8 w) w) w) w)) w) :
    cCode Try.prog (cd Try.f30 []) (retK Try.prog Try.f30.results.toList K) (fun _ _ _ => False) (retK Try.prog Try.f30.results.toList K) [j0, undef, undef, undef, undef, undef, undef, undef, undef] w := Eq.mp (by kernel_rfl) h

theorem journal_Journal_Size_in {K : KV} {j0 : Value} {w : World}
    (h : bin Try.prog BinOp.eql 49 false true j0 (Value.pointer none) (fun A4 w =>
    cond A4
      (K (Value.int IntKind.i64 0) w)
      (nilC j0 (fun A6 w =>
    fldA Try.prog 84 A6 1 (fun A7 w =>
    ld Try.prog 3 A7 (fun A8 w =>
    K A8 w) w) w) w)) w) :
    Gives Try.prog 30 #[j0] w K := enter' Try.func30 (by kernel_rfl) (Eq.mp (congrArg (fun c => cCode Try.prog c (retK Try.prog Try.f30.results.toList K) (fun _ _ _ => False) (retK Try.prog Try.f30.results.toList K) [j0, undef, undef, undef, undef, undef, undef, undef, undef] w) (by kernel_rfl : (cd Try.f30 []) = (cd Try.f30 []))) (journal_Journal_Size_k h))
theorem journal_Journal_Size_go : isGo Try.prog 30 := ⟨_, Try.func30, by kernel_rfl, by kernel_rfl⟩


theorem journal_Journal_Whole_k {K : KV} {j0 : Value} {w : World}
    (h : bin Try.prog BinOp.neq 49 false true j0 (Value.pointer none) (fun A4 w =>
    gsel A4 true (fun k6 =>
    nilC j0 (fun A7 w =>
    fldA Try.prog 84 A7 2 (fun A8 w =>
    ld Try.prog 4 A8 (fun A9 w =>
    un Try.prog UnOp.not A9 (fun C0 w =>
    k6 [j0, A7, A8, A9, C0] w) w) w) w) w)
    (fun k => k [undef, undef, undef, undef, undef] w) (fun us6 w =>
    pick A4 (gd us6 4) (Value.bool false) (fun C1 w =>
    K C1 w) w)) w) :
    cCode Try.prog (cd Try.f31 []) (retK Try.prog Try.f31.results.toList K) (fun _ _ _ => False) (retK Try.prog Try.f31.results.toList K) [j0, undef, undef, undef, undef, undef, undef, undef, undef, undef, undef, undef] w := Eq.mp (by kernel_rfl) h

theorem journal_Journal_Whole_in {K : KV} {j0 : Value} {w : World}
    (h : bin Try.prog BinOp.neq 49 false true j0 (Value.pointer none) (fun A4 w =>
    gsel A4 true (fun k6 =>
    nilC j0 (fun A7 w =>
    fldA Try.prog 84 A7 2 (fun A8 w =>
    ld Try.prog 4 A8 (fun A9 w =>
    un Try.prog UnOp.not A9 (fun C0 w =>
    k6 [j0, A7, A8, A9, C0] w) w) w) w) w)
    (fun k => k [undef, undef, undef, undef, undef] w) (fun us6 w =>
    pick A4 (gd us6 4) (Value.bool false) (fun C1 w =>
    K C1 w) w)) w) :
    Gives Try.prog 31 #[j0] w K := enter' Try.func31 (by kernel_rfl) (Eq.mp (congrArg (fun c => cCode Try.prog c (retK Try.prog Try.f31.results.toList K) (fun _ _ _ => False) (retK Try.prog Try.f31.results.toList K) [j0, undef, undef, undef, undef, undef, undef, undef, undef, undef, undef, undef] w) (by kernel_rfl : (cd Try.f31 []) = (cd Try.f31 []))) (journal_Journal_Whole_k h))
theorem journal_Journal_Whole_go : isGo Try.prog 31 := ⟨_, Try.func31, by kernel_rfl, by kernel_rfl⟩

end Go.Proofs.Ytjkmblbonambjaa
