/- Written by program (gen.py): what the code of some functions asks, part by part; each text is checked by the kernel against the translation. -/
import Derived.Test.YtnmjfakibhekmaaGreatDoorSh
import Derived.Test.YtnmjfakibhekmaaGreatDoorChecked
namespace Go.Proofs.YtnmjfakibhekmaaGreatDoor
open Go.RowKit
set_option maxRecDepth 100000

def rights_sum_P1 (K : KV) : KE := cCode Tryz.prog (cd Tryz.f247 [1, 1]) (retK Tryz.prog Tryz.f247.results.toList K) (fun _ _ _ => False) (retK Tryz.prog Tryz.f247.results.toList K)
def rights_sum_L1 (K : KV) : KE := cCode Tryz.prog (cd Tryz.f247 [1, 0, 1, 0]) (rights_sum_P1 K) (fun i => @Bool.rec (fun _ => KE) ((fun _ _ _ => False) i) (rights_sum_P1 K) (Nat.beq i 0)) (retK Tryz.prog Tryz.f247.results.toList K)
theorem rights_sum_k {K : KV} {l0 : Value} {w : World}
    (h : blt Tryz.prog Builtin.len #[391] 3 #[false] #[l0] (fun A3 w =>
    (cCode Tryz.prog (cd Tryz.f247 [1, 0, 1, 0]) (cCode Tryz.prog (cd Tryz.f247 [1, 1]) (retK Tryz.prog Tryz.f247.results.toList K) (fun _ _ _ => False) (retK Tryz.prog Tryz.f247.results.toList K)) (fun i => @Bool.rec (fun _ => KE) ((fun _ _ _ => False) i) (cCode Tryz.prog (cd Tryz.f247 [1, 1]) (retK Tryz.prog Tryz.f247.results.toList K) (fun _ _ _ => False) (retK Tryz.prog Tryz.f247.results.toList K)) (Nat.beq i 0)) (retK Tryz.prog Tryz.f247.results.toList K)) [l0, undef, (Value.int IntKind.i64 0), (Value.bool false), undef, undef, l0, A3, (Value.int IntKind.i64 0), undef, undef, undef, undef, undef, undef, undef, undef, undef, undef, undef, undef, undef, undef] w) w) :
    cCode Tryz.prog (cd Tryz.f247 []) (retK Tryz.prog Tryz.f247.results.toList K) (fun _ _ _ => False) (retK Tryz.prog Tryz.f247.results.toList K) [l0, undef, undef, undef, undef, undef, undef, undef, undef, undef, undef, undef, undef, undef, undef, undef, undef, undef, undef, undef, undef, undef, undef] w := Eq.mp (by kernel_rfl) h

theorem rights_sum_in {K : KV} {l0 : Value} {w : World}
    (h : blt Tryz.prog Builtin.len #[391] 3 #[false] #[l0] (fun A3 w =>
    (rights_sum_L1 K) [l0, undef, (Value.int IntKind.i64 0), (Value.bool false), undef, undef, l0, A3, (Value.int IntKind.i64 0), undef, undef, undef, undef, undef, undef, undef, undef, undef, undef, undef, undef, undef, undef] w) w) :
    Gives Tryz.prog 247 #[l0] w K := enter' Tryz.func247 (by kernel_rfl) (Eq.mp (congrArg (fun c => cCode Tryz.prog c (retK Tryz.prog Tryz.f247.results.toList K) (fun _ _ _ => False) (retK Tryz.prog Tryz.f247.results.toList K) [l0, undef, undef, undef, undef, undef, undef, undef, undef, undef, undef, undef, undef, undef, undef, undef, undef, undef, undef, undef, undef, undef, undef] w) (by kernel_rfl : (cd Tryz.f247 []) = (cd Tryz.f247 []))) (rights_sum_k h))
theorem rights_sum_go : isGo Tryz.prog 247 := ⟨_, Tryz.func247, by kernel_rfl, by kernel_rfl⟩

theorem rights_sum_L1_k {K : KV} (B1 : KE) (qc0 : KE) {l0 l1 all2' A0 A2 A3 A4' C1' C2' C8 : Value} {dd : Nat → Value} {w : World}
    (h : bin Tryz.prog BinOp.lss 3 false false A4' A3 (fun A5 w =>
    cond A5
      (idxA Tryz.prog 391 A2 A4' (fun A6 w =>
    ld Tryz.prog 2 A6 (fun A7 w =>
    bin Tryz.prog BinOp.lss 2 false true A7 (Value.int IntKind.i64 0) (fun A9 w =>
    gsel A9 false (fun k15 =>
    bin Tryz.prog BinOp.gtr 2 false true A7 (Value.int IntKind.i64 1125899906842624) (fun C2 w =>
    k15 [A7, C2] w) w)
    (fun k => k [undef, undef] w) (fun us15 w =>
    pick A9 (Value.bool true) (gd us15 1) (fun C3 w =>
    cond C3
      (K (Value.tuple #[(Value.int IntKind.i64 0), (Value.bool false)]) w)
      (bin Tryz.prog BinOp.add 2 false false all2' A7 (fun C6 w =>
    bin Tryz.prog BinOp.add 3 false true A4' (Value.int IntKind.i64 1) (fun C7 w =>
    B1 [l0, l1, C6, (dd 3), A0, A7, A2, A3, C7, A5, A6, A7, A7, A9, A9, (gd us15 0), (gd us15 1), C3, all2', A7, C6, C7, C8] w) w) w)) w)) w) w) w)
      (qc0 [l0, l1, all2', (dd 3), A0, (dd 5), A2, A3, A4', A5, (dd 10), (dd 11), (dd 12), (dd 13), (dd 14), C1', C2', (dd 17), (dd 18), (dd 19), (dd 20), (dd 21), C8] w)) w) :
    cCode Tryz.prog (cd Tryz.f247 [1, 0, 1, 0, 0]) B1 (fun i => @Bool.rec (fun _ => KE) ((fun _ _ _ => False) i) qc0 (Nat.beq i 0)) (retK Tryz.prog Tryz.f247.results.toList K) [l0, l1, all2', (dd 3), A0, (dd 5), A2, A3, A4', (dd 9), (dd 10), (dd 11), (dd 12), (dd 13), (dd 14), C1', C2', (dd 17), (dd 18), (dd 19), (dd 20), (dd 21), C8] w := Eq.mp (by kernel_rfl) h

theorem rights_sum_L1_r {K : KV} {l0 l1 all2 is3 A0 x5 A2 A3 A4 A5 A6 A7 A8 A9 C0 C1 C2 C3 C4 C5 C6 C7 C8 : Value} {w : World} (Inv : Value → Value → Value → Value → World → Prop) (μ : Value → Value → Value → Value → World → Nat) (h0 : Inv all2 A4 C1 C2 w)
    (hs : ∀ (all2' A4' C1' C2' : Value) (dd : Nat → Value) (w : World) (m : Nat), Inv all2' A4' C1' C2' w → m = μ all2' A4' C1' C2' w →
    bin Tryz.prog BinOp.lss 3 false false A4' A3 (fun A5 w =>
    cond A5
      (idxA Tryz.prog 391 A2 A4' (fun A6 w =>
    ld Tryz.prog 2 A6 (fun A7 w =>
    bin Tryz.prog BinOp.lss 2 false true A7 (Value.int IntKind.i64 0) (fun A9 w =>
    gsel A9 false (fun k15 =>
    bin Tryz.prog BinOp.gtr 2 false true A7 (Value.int IntKind.i64 1125899906842624) (fun C2 w =>
    k15 [A7, C2] w) w)
    (fun k => k [undef, undef] w) (fun us15 w =>
    pick A9 (Value.bool true) (gd us15 1) (fun C3 w =>
    cond C3
      (K (Value.tuple #[(Value.int IntKind.i64 0), (Value.bool false)]) w)
      (bin Tryz.prog BinOp.add 2 false false all2' A7 (fun C6 w =>
    bin Tryz.prog BinOp.add 3 false true A4' (Value.int IntKind.i64 1) (fun C7 w =>
    (Inv C6 C7 (gd us15 0) (gd us15 1) w ∧ μ C6 C7 (gd us15 0) (gd us15 1) w < m)) w) w)) w)) w) w) w)
      ((rights_sum_P1 K) [l0, l1, all2', (dd 3), A0, (dd 5), A2, A3, A4', A5, (dd 10), (dd 11), (dd 12), (dd 13), (dd 14), C1', C2', (dd 17), (dd 18), (dd 19), (dd 20), (dd 21), C8] w)) w) :
    rights_sum_L1 K [l0, l1, all2, is3, A0, x5, A2, A3, A4, A5, A6, A7, A8, A9, C0, C1, C2, C3, C4, C5, C6, C7, C8] w := by
  refine loop_rule (cd Tryz.f247 [1, 0, 1, 0, 0]) [2, 3, 5, 8, 9, 10, 11, 12, 13, 14, 15, 16, 17, 18, 19, 20, 21] (by kernel_rfl) (fun e2 w2 => Inv (gd e2 2) (gd e2 8) (gd e2 15) (gd e2 16) w2) (fun e2 w2 => μ (gd e2 2) (gd e2 8) (gd e2 15) (gd e2 16) w2) h0 ?_
  intro e' w' hI
  have h := hs (gd e' 2) (gd e' 8) (gd e' 15) (gd e' 16) (fun i => gd e' i) w' _ hI rfl
  have h2 : cCode Tryz.prog (cd Tryz.f247 [1, 0, 1, 0, 0]) (fun e2 w2 => Inv (gd e2 2) (gd e2 8) (gd e2 15) (gd e2 16) w2 ∧ μ (gd e2 2) (gd e2 8) (gd e2 15) (gd e2 16) w2 < μ (gd e' 2) (gd e' 8) (gd e' 15) (gd e' 16) w') (fun i => @Bool.rec (fun _ => KE) ((fun _ _ _ => False) i) (rights_sum_P1 K) (Nat.beq i 0)) (retK Tryz.prog Tryz.f247.results.toList K) [l0, l1, (gd e' 2), (gd e' 3), A0, (gd e' 5), A2, A3, (gd e' 8), (gd e' 9), (gd e' 10), (gd e' 11), (gd e' 12), (gd e' 13), (gd e' 14), (gd e' 15), (gd e' 16), (gd e' 17), (gd e' 18), (gd e' 19), (gd e' 20), (gd e' 21), C8] w' := rights_sum_L1_k (fun e2 w2 => Inv (gd e2 2) (gd e2 8) (gd e2 15) (gd e2 16) w2 ∧ μ (gd e2 2) (gd e2 8) (gd e2 15) (gd e2 16) w2 < μ (gd e' 2) (gd e' 8) (gd e' 15) (gd e' 16) w') (rights_sum_P1 K) (Eq.mp (by kernel_rfl) h)
  exact Eq.mp (by kernel_rfl) h2

theorem rights_sum_P1_k {K : KV} {l0 l1 all2 is3 A0 x5 A2 A3 A4 A5 A6 A7 A8 A9 C0 C1 C2 C3 C4 C5 C6 C7 C8 : Value} {w : World}
    (h : K (Value.tuple #[all2, (Value.bool true)]) w) :
    cCode Tryz.prog (cd Tryz.f247 [1, 1]) (retK Tryz.prog Tryz.f247.results.toList K) (fun _ _ _ => False) (retK Tryz.prog Tryz.f247.results.toList K) [l0, l1, all2, is3, A0, x5, A2, A3, A4, A5, A6, A7, A8, A9, C0, C1, C2, C3, C4, C5, C6, C7, C8] w := Eq.mp (by kernel_rfl) h

theorem rights_sum_P1_r {K : KV} {l0 l1 all2 is3 A0 x5 A2 A3 A4 A5 A6 A7 A8 A9 C0 C1 C2 C3 C4 C5 C6 C7 C8 : Value} {w : World}
    (h : K (Value.tuple #[all2, (Value.bool true)]) w) :
    rights_sum_P1 K [l0, l1, all2, is3, A0, x5, A2, A3, A4, A5, A6, A7, A8, A9, C0, C1, C2, C3, C4, C5, C6, C7, C8] w := by
  delta rights_sum_P1
  exact Eq.mp (congrArg (fun c => cCode Tryz.prog c (retK Tryz.prog Tryz.f247.results.toList K) (fun _ _ _ => False) (retK Tryz.prog Tryz.f247.results.toList K) [l0, l1, all2, is3, A0, x5, A2, A3, A4, A5, A6, A7, A8, A9, C0, C1, C2, C3, C4, C5, C6, C7, C8] w) (by kernel_rfl : (cd Tryz.f247 [1, 1]) = (cd Tryz.f247 [1, 1]))) (rights_sum_P1_k h)
attribute [irreducible] rights_sum_P1 rights_sum_L1

def rights_local_P1 (K : KV) : KE := cCode Tryz.prog (cd Tryz.f195 [1, 1, 1]) (retK Tryz.prog Tryz.f195.results.toList K) (fun _ _ _ => False) (retK Tryz.prog Tryz.f195.results.toList K)
def rights_local_L1 (K : KV) : KE := cCode Tryz.prog (cd Tryz.f195 [1, 1, 0, 1, 0]) (rights_local_P1 K) (fun i => @Bool.rec (fun _ => KE) ((fun _ _ _ => False) i) (rights_local_P1 K) (Nat.beq i 0)) (retK Tryz.prog Tryz.f195.results.toList K)
theorem rights_local_k {K : KV} {r0 k_1 : Value} {w : World}
    (h : hReg (fun S w =>
    hld S (fun k w => nilC r0 k w) (fun C1 =>
    hld S (fun k w => fldA Tryz.prog 123 C1 1 k w) (fun C2 =>
    hld S (fun k w => idxA Tryz.prog 82 C2 k_1 k w) (fun C3 =>
    hld S (fun k w => ld Tryz.prog 2 C3 k w) (fun C4 =>
    hld S (fun k w => nilC r0 k w) (fun C8 =>
    hld S (fun k w => fldA Tryz.prog 123 C8 0 k w) (fun C9 =>
    hld S (fun k w => idxA Tryz.prog 82 C9 k_1 k w) (fun D0 =>
    hld S (fun k w => ld Tryz.prog 2 D0 k w) (fun D1 =>
    hld S (fun k w => nilC r0 k w) (fun D4 =>
    hld S (fun k w => fldA Tryz.prog 123 D4 2 k w) (fun D5 =>
    hld S (fun k w => idxA Tryz.prog 82 D5 k_1 k w) (fun D6 =>
    hld S (fun k w => ld Tryz.prog 2 D6 k w) (fun D7 =>
    (bldS Tryz.prog 391 1 #[(0, C4)] (fun C5 w =>
    hSub S (fun S w =>
    bldS Tryz.prog 391 2 #[(0, D1), (1, D7)] (fun D8 w =>
    hSub S (fun S w =>
    (cCode Tryz.prog (cd Tryz.f195 [1, 1, 0, 1, 0]) (cCode Tryz.prog (cd Tryz.f195 [1, 1, 1]) (retK Tryz.prog Tryz.f195.results.toList K) (fun _ _ _ => False) (retK Tryz.prog Tryz.f195.results.toList K)) (fun i => @Bool.rec (fun _ => KE) ((fun _ _ _ => False) i) (cCode Tryz.prog (cd Tryz.f195 [1, 1, 1]) (retK Tryz.prog Tryz.f195.results.toList K) (fun _ _ _ => False) (retK Tryz.prog Tryz.f195.results.toList K)) (Nat.beq i 0)) (retK Tryz.prog Tryz.f195.results.toList K)) (r0::k_1::undef::undef::(Value.int IntKind.i64 0)::(Value.bool false)::C5::D8::undef::undef::undef::undef::undef::r0::k_1::C1::C2::C3::C4::C5::r0::k_1::C8::C9::D0::D1::r0::k_1::D4::D5::D6::D7::D8::(Value.int IntKind.i64 0)::undef::undef::undef::undef::undef::undef::undef::undef::undef::undef::undef::undef::undef::undef::undef::undef::undef::undef::undef::undef::undef::undef::undef::undef::undef::undef::undef::undef::undef::undef::undef::undef::undef::undef::undef::undef::undef::undef::undef::undef::undef::undef::[]) w) w) w) w) w) ∧ (bldS Tryz.prog 391 2 #[(0, D1), (1, D7)] (fun D8 w =>
    hSub S (fun S w =>
    bldS Tryz.prog 391 1 #[(0, C4)] (fun C5 w =>
    hReg (fun S w =>
    (cCode Tryz.prog (cd Tryz.f195 [1, 1, 0, 1, 0]) (cCode Tryz.prog (cd Tryz.f195 [1, 1, 1]) (retK Tryz.prog Tryz.f195.results.toList K) (fun _ _ _ => False) (retK Tryz.prog Tryz.f195.results.toList K)) (fun i => @Bool.rec (fun _ => KE) ((fun _ _ _ => False) i) (cCode Tryz.prog (cd Tryz.f195 [1, 1, 1]) (retK Tryz.prog Tryz.f195.results.toList K) (fun _ _ _ => False) (retK Tryz.prog Tryz.f195.results.toList K)) (Nat.beq i 0)) (retK Tryz.prog Tryz.f195.results.toList K)) (r0::k_1::undef::undef::(Value.int IntKind.i64 0)::(Value.bool false)::C5::D8::undef::undef::undef::undef::undef::r0::k_1::C1::C2::C3::C4::C5::r0::k_1::C8::C9::D0::D1::r0::k_1::D4::D5::D6::D7::D8::(Value.int IntKind.i64 0)::undef::undef::undef::undef::undef::undef::undef::undef::undef::undef::undef::undef::undef::undef::undef::undef::undef::undef::undef::undef::undef::undef::undef::undef::undef::undef::undef::undef::undef::undef::undef::undef::undef::undef::undef::undef::undef::undef::undef::undef::undef::undef::[]) w) w) w) w) w)))))))))))))) w.drew) :
    cCode Tryz.prog (cd Tryz.f195 []) (retK Tryz.prog Tryz.f195.results.toList K) (fun _ _ _ => False) (retK Tryz.prog Tryz.f195.results.toList K) (r0::k_1::undef::undef::undef::undef::undef::undef::undef::undef::undef::undef::undef::undef::undef::undef::undef::undef::undef::undef::undef::undef::undef::undef::undef::undef::undef::undef::undef::undef::undef::undef::undef::undef::undef::undef::undef::undef::undef::undef::undef::undef::undef::undef::undef::undef::undef::undef::undef::undef::undef::undef::undef::undef::undef::undef::undef::undef::undef::undef::undef::undef::undef::undef::undef::undef::undef::undef::undef::undef::undef::undef::undef::undef::undef::undef::[]) w := Eq.mp (by kernel_rfl) h

theorem rights_local_in {K : KV} {r0 k_1 : Value} {w : World}
    (h : hReg (fun S w =>
    hld S (fun k w => nilC r0 k w) (fun C1 =>
    hld S (fun k w => fldA Tryz.prog 123 C1 1 k w) (fun C2 =>
    hld S (fun k w => idxA Tryz.prog 82 C2 k_1 k w) (fun C3 =>
    hld S (fun k w => ld Tryz.prog 2 C3 k w) (fun C4 =>
    hld S (fun k w => nilC r0 k w) (fun C8 =>
    hld S (fun k w => fldA Tryz.prog 123 C8 0 k w) (fun C9 =>
    hld S (fun k w => idxA Tryz.prog 82 C9 k_1 k w) (fun D0 =>
    hld S (fun k w => ld Tryz.prog 2 D0 k w) (fun D1 =>
    hld S (fun k w => nilC r0 k w) (fun D4 =>
    hld S (fun k w => fldA Tryz.prog 123 D4 2 k w) (fun D5 =>
    hld S (fun k w => idxA Tryz.prog 82 D5 k_1 k w) (fun D6 =>
    hld S (fun k w => ld Tryz.prog 2 D6 k w) (fun D7 =>
    (bldS Tryz.prog 391 1 #[(0, C4)] (fun C5 w =>
    hSub S (fun S w =>
    bldS Tryz.prog 391 2 #[(0, D1), (1, D7)] (fun D8 w =>
    hSub S (fun S w =>
    (rights_local_L1 K) (r0::k_1::undef::undef::(Value.int IntKind.i64 0)::(Value.bool false)::C5::D8::undef::undef::undef::undef::undef::r0::k_1::C1::C2::C3::C4::C5::r0::k_1::C8::C9::D0::D1::r0::k_1::D4::D5::D6::D7::D8::(Value.int IntKind.i64 0)::undef::undef::undef::undef::undef::undef::undef::undef::undef::undef::undef::undef::undef::undef::undef::undef::undef::undef::undef::undef::undef::undef::undef::undef::undef::undef::undef::undef::undef::undef::undef::undef::undef::undef::undef::undef::undef::undef::undef::undef::undef::undef::[]) w) w) w) w) w) ∧ (bldS Tryz.prog 391 2 #[(0, D1), (1, D7)] (fun D8 w =>
    hSub S (fun S w =>
    bldS Tryz.prog 391 1 #[(0, C4)] (fun C5 w =>
    hReg (fun S w =>
    (rights_local_L1 K) (r0::k_1::undef::undef::(Value.int IntKind.i64 0)::(Value.bool false)::C5::D8::undef::undef::undef::undef::undef::r0::k_1::C1::C2::C3::C4::C5::r0::k_1::C8::C9::D0::D1::r0::k_1::D4::D5::D6::D7::D8::(Value.int IntKind.i64 0)::undef::undef::undef::undef::undef::undef::undef::undef::undef::undef::undef::undef::undef::undef::undef::undef::undef::undef::undef::undef::undef::undef::undef::undef::undef::undef::undef::undef::undef::undef::undef::undef::undef::undef::undef::undef::undef::undef::undef::undef::undef::undef::[]) w) w) w) w) w)))))))))))))) w.drew) :
    Gives Tryz.prog 195 #[r0, k_1] w K := enter' Tryz.func195 (by kernel_rfl) (Eq.mp (congrArg (fun c => cCode Tryz.prog c (retK Tryz.prog Tryz.f195.results.toList K) (fun _ _ _ => False) (retK Tryz.prog Tryz.f195.results.toList K) (r0::k_1::undef::undef::undef::undef::undef::undef::undef::undef::undef::undef::undef::undef::undef::undef::undef::undef::undef::undef::undef::undef::undef::undef::undef::undef::undef::undef::undef::undef::undef::undef::undef::undef::undef::undef::undef::undef::undef::undef::undef::undef::undef::undef::undef::undef::undef::undef::undef::undef::undef::undef::undef::undef::undef::undef::undef::undef::undef::undef::undef::undef::undef::undef::undef::undef::undef::undef::undef::undef::undef::undef::undef::undef::undef::undef::[]) w) (by kernel_rfl : (cd Tryz.f195 []) = (cd Tryz.f195 []))) (rights_local_k h))
theorem rights_local_go : isGo Tryz.prog 195 := ⟨_, Tryz.func195, by kernel_rfl, by kernel_rfl⟩

theorem rights_local_L1_k {K : KV} (B1 : KE) (qc0 : KE) {r0 k_1 r2 k_3 A0 A1 out6' in7' less9 one10 more11 two12 A9 C0 C1 C2 C3 C4 C5 C6 C7 C8 C9 D0 D1 D2 D3 D4 D5 D6 D7 D8 D9' G5 G6 G7 G8 G9 H0 H1 H2 H3 H4 H5 H6 H7 H8 H9 I0 I1 : Value} {dd : Nat → Value} {w : World}
    (h : bin Tryz.prog BinOp.lss 3 false true D9' (Value.int IntKind.i64 6) (fun E0 w =>
    cond E0
      (hReg (fun S w =>
    hld S (fun k w => nilC r0 k w) (fun E6 =>
    hld S (fun k w => fldA Tryz.prog 123 E6 3 k w) (fun E7 =>
    hld S (fun k w => idxA Tryz.prog 121 E7 k_1 k w) (fun E8 =>
    hld S (fun k w => idxA Tryz.prog 82 E8 D9' k w) (fun E9 =>
    hld S (fun k w => ld Tryz.prog 2 E9 k w) (fun F0 =>
    hld S (fun k w => nilC r0 k w) (fun F7 =>
    hld S (fun k w => fldA Tryz.prog 123 F7 3 k w) (fun F8 =>
    hld S (fun k w => idxA Tryz.prog 121 F8 D9' k w) (fun F9 =>
    hld S (fun k w => idxA Tryz.prog 82 F9 k_1 k w) (fun G0 =>
    hld S (fun k w => ld Tryz.prog 2 G0 k w) (fun G1 =>
    (bldS Tryz.prog 391 1 #[(0, F0)] (fun F1 w =>
    hSub S (fun S w =>
    (blt Tryz.prog Builtin.append #[391, 391] 391 #[false, false] #[out6', F1] (fun F2 w =>
    hSub S (fun S w =>
    bldS Tryz.prog 391 1 #[(0, G1)] (fun G2 w =>
    hReg (fun S w =>
    blt Tryz.prog Builtin.append #[391, 391] 391 #[false, false] #[in7', G2] (fun G3 w =>
    hReg (fun S w =>
    bin Tryz.prog BinOp.add 3 false true D9' (Value.int IntKind.i64 1) (fun G4 w =>
    B1 (r0::k_1::r2::k_3::A0::A1::F2::G3::D9'::less9::one10::more11::two12::A9::C0::C1::C2::C3::C4::C5::C6::C7::C8::C9::D0::D1::D2::D3::D4::D5::D6::D7::D8::G4::E0::D9'::out6'::r0::k_1::D9'::E6::E7::E8::E9::F0::F1::F2::in7'::r0::D9'::k_1::F7::F8::F9::G0::G1::G2::G3::G4::G5::G6::G7::G8::G9::H0::H1::H2::H3::H4::H5::H6::H7::H8::H9::I0::I1::[]) w) w) w) w) w) w) w) w) ∧ (bldS Tryz.prog 391 1 #[(0, G1)] (fun G2 w =>
    hReg (fun S w =>
    blt Tryz.prog Builtin.append #[391, 391] 391 #[false, false] #[out6', F1] (fun F2 w =>
    hReg (fun S w =>
    blt Tryz.prog Builtin.append #[391, 391] 391 #[false, false] #[in7', G2] (fun G3 w =>
    hReg (fun S w =>
    bin Tryz.prog BinOp.add 3 false true D9' (Value.int IntKind.i64 1) (fun G4 w =>
    B1 (r0::k_1::r2::k_3::A0::A1::F2::G3::D9'::less9::one10::more11::two12::A9::C0::C1::C2::C3::C4::C5::C6::C7::C8::C9::D0::D1::D2::D3::D4::D5::D6::D7::D8::G4::E0::D9'::out6'::r0::k_1::D9'::E6::E7::E8::E9::F0::F1::F2::in7'::r0::D9'::k_1::F7::F8::F9::G0::G1::G2::G3::G4::G5::G6::G7::G8::G9::H0::H1::H2::H3::H4::H5::H6::H7::H8::H9::I0::I1::[]) w) w) w) w) w) w) w) w)) w) w) ∧ (bldS Tryz.prog 391 1 #[(0, G1)] (fun G2 w =>
    hSub S (fun S w =>
    bldS Tryz.prog 391 1 #[(0, F0)] (fun F1 w =>
    hReg (fun S w =>
    blt Tryz.prog Builtin.append #[391, 391] 391 #[false, false] #[out6', F1] (fun F2 w =>
    hReg (fun S w =>
    blt Tryz.prog Builtin.append #[391, 391] 391 #[false, false] #[in7', G2] (fun G3 w =>
    hReg (fun S w =>
    bin Tryz.prog BinOp.add 3 false true D9' (Value.int IntKind.i64 1) (fun G4 w =>
    B1 (r0::k_1::r2::k_3::A0::A1::F2::G3::D9'::less9::one10::more11::two12::A9::C0::C1::C2::C3::C4::C5::C6::C7::C8::C9::D0::D1::D2::D3::D4::D5::D6::D7::D8::G4::E0::D9'::out6'::r0::k_1::D9'::E6::E7::E8::E9::F0::F1::F2::in7'::r0::D9'::k_1::F7::F8::F9::G0::G1::G2::G3::G4::G5::G6::G7::G8::G9::H0::H1::H2::H3::H4::H5::H6::H7::H8::H9::I0::I1::[]) w) w) w) w) w) w) w) w) w) w)))))))))))) w.drew)
      (qc0 (r0::k_1::r2::k_3::A0::A1::out6'::in7'::(dd 8)::less9::one10::more11::two12::A9::C0::C1::C2::C3::C4::C5::C6::C7::C8::C9::D0::D1::D2::D3::D4::D5::D6::D7::D8::D9'::E0::(dd 35)::(dd 36)::(dd 37)::(dd 38)::(dd 39)::(dd 40)::(dd 41)::(dd 42)::(dd 43)::(dd 44)::(dd 45)::(dd 46)::(dd 47)::(dd 48)::(dd 49)::(dd 50)::(dd 51)::(dd 52)::(dd 53)::(dd 54)::(dd 55)::(dd 56)::(dd 57)::(dd 58)::G5::G6::G7::G8::G9::H0::H1::H2::H3::H4::H5::H6::H7::H8::H9::I0::I1::[]) w)) w) :
    cCode Tryz.prog (cd Tryz.f195 [1, 1, 0, 1, 0, 0]) B1 (fun i => @Bool.rec (fun _ => KE) ((fun _ _ _ => False) i) qc0 (Nat.beq i 0)) (retK Tryz.prog Tryz.f195.results.toList K) (r0::k_1::r2::k_3::A0::A1::out6'::in7'::(dd 8)::less9::one10::more11::two12::A9::C0::C1::C2::C3::C4::C5::C6::C7::C8::C9::D0::D1::D2::D3::D4::D5::D6::D7::D8::D9'::(dd 34)::(dd 35)::(dd 36)::(dd 37)::(dd 38)::(dd 39)::(dd 40)::(dd 41)::(dd 42)::(dd 43)::(dd 44)::(dd 45)::(dd 46)::(dd 47)::(dd 48)::(dd 49)::(dd 50)::(dd 51)::(dd 52)::(dd 53)::(dd 54)::(dd 55)::(dd 56)::(dd 57)::(dd 58)::G5::G6::G7::G8::G9::H0::H1::H2::H3::H4::H5::H6::H7::H8::H9::I0::I1::[]) w := Eq.mp (by kernel_rfl) h

section
variable {r0 k_1 r2 k_3 A0 A1 out6 in7 j8 less9 one10 more11 two12 A9 C0 C1 C2 C3 C4 C5 C6 C7 C8 C9 D0 D1 D2 D3 D4 D5 D6 D7 D8 D9 E0 E1 E2 E3 E4 E5 E6 E7 E8 E9 F0 F1 F2 F3 F4 F5 F6 F7 F8 F9 G0 G1 G2 G3 G4 G5 G6 G7 G8 G9 H0 H1 H2 H3 H4 H5 H6 H7 H8 H9 I0 I1 : Value}
theorem rights_local_L1_r {K : KV} {w : World} (Inv : Value → Value → Value → World → Prop) (μ : Value → Value → Value → World → Nat) (h0 : Inv out6 in7 D9 w)
    (hs : ∀ (out6' in7' D9' : Value) (dd : Nat → Value) (w : World) (m : Nat), Inv out6' in7' D9' w → m = μ out6' in7' D9' w →
    bin Tryz.prog BinOp.lss 3 false true D9' (Value.int IntKind.i64 6) (fun E0 w =>
    cond E0
      (hReg (fun S w =>
    hld S (fun k w => nilC r0 k w) (fun E6 =>
    hld S (fun k w => fldA Tryz.prog 123 E6 3 k w) (fun E7 =>
    hld S (fun k w => idxA Tryz.prog 121 E7 k_1 k w) (fun E8 =>
    hld S (fun k w => idxA Tryz.prog 82 E8 D9' k w) (fun E9 =>
    hld S (fun k w => ld Tryz.prog 2 E9 k w) (fun F0 =>
    hld S (fun k w => nilC r0 k w) (fun F7 =>
    hld S (fun k w => fldA Tryz.prog 123 F7 3 k w) (fun F8 =>
    hld S (fun k w => idxA Tryz.prog 121 F8 D9' k w) (fun F9 =>
    hld S (fun k w => idxA Tryz.prog 82 F9 k_1 k w) (fun G0 =>
    hld S (fun k w => ld Tryz.prog 2 G0 k w) (fun G1 =>
    (bldS Tryz.prog 391 1 #[(0, F0)] (fun F1 w =>
    hSub S (fun S w =>
    (blt Tryz.prog Builtin.append #[391, 391] 391 #[false, false] #[out6', F1] (fun F2 w =>
    hSub S (fun S w =>
    bldS Tryz.prog 391 1 #[(0, G1)] (fun G2 w =>
    hReg (fun S w =>
    blt Tryz.prog Builtin.append #[391, 391] 391 #[false, false] #[in7', G2] (fun G3 w =>
    hReg (fun S w =>
    bin Tryz.prog BinOp.add 3 false true D9' (Value.int IntKind.i64 1) (fun G4 w =>
    (Inv F2 G3 G4 w ∧ μ F2 G3 G4 w < m)) w) w) w) w) w) w) w) ∧ (bldS Tryz.prog 391 1 #[(0, G1)] (fun G2 w =>
    hReg (fun S w =>
    blt Tryz.prog Builtin.append #[391, 391] 391 #[false, false] #[out6', F1] (fun F2 w =>
    hReg (fun S w =>
    blt Tryz.prog Builtin.append #[391, 391] 391 #[false, false] #[in7', G2] (fun G3 w =>
    hReg (fun S w =>
    bin Tryz.prog BinOp.add 3 false true D9' (Value.int IntKind.i64 1) (fun G4 w =>
    (Inv F2 G3 G4 w ∧ μ F2 G3 G4 w < m)) w) w) w) w) w) w) w)) w) w) ∧ (bldS Tryz.prog 391 1 #[(0, G1)] (fun G2 w =>
    hSub S (fun S w =>
    bldS Tryz.prog 391 1 #[(0, F0)] (fun F1 w =>
    hReg (fun S w =>
    blt Tryz.prog Builtin.append #[391, 391] 391 #[false, false] #[out6', F1] (fun F2 w =>
    hReg (fun S w =>
    blt Tryz.prog Builtin.append #[391, 391] 391 #[false, false] #[in7', G2] (fun G3 w =>
    hReg (fun S w =>
    bin Tryz.prog BinOp.add 3 false true D9' (Value.int IntKind.i64 1) (fun G4 w =>
    (Inv F2 G3 G4 w ∧ μ F2 G3 G4 w < m)) w) w) w) w) w) w) w) w) w)))))))))))) w.drew)
      ((rights_local_P1 K) (r0::k_1::r2::k_3::A0::A1::out6'::in7'::(dd 8)::less9::one10::more11::two12::A9::C0::C1::C2::C3::C4::C5::C6::C7::C8::C9::D0::D1::D2::D3::D4::D5::D6::D7::D8::D9'::E0::(dd 35)::(dd 36)::(dd 37)::(dd 38)::(dd 39)::(dd 40)::(dd 41)::(dd 42)::(dd 43)::(dd 44)::(dd 45)::(dd 46)::(dd 47)::(dd 48)::(dd 49)::(dd 50)::(dd 51)::(dd 52)::(dd 53)::(dd 54)::(dd 55)::(dd 56)::(dd 57)::(dd 58)::G5::G6::G7::G8::G9::H0::H1::H2::H3::H4::H5::H6::H7::H8::H9::I0::I1::[]) w)) w) :
    rights_local_L1 K (r0::k_1::r2::k_3::A0::A1::out6::in7::j8::less9::one10::more11::two12::A9::C0::C1::C2::C3::C4::C5::C6::C7::C8::C9::D0::D1::D2::D3::D4::D5::D6::D7::D8::D9::E0::E1::E2::E3::E4::E5::E6::E7::E8::E9::F0::F1::F2::F3::F4::F5::F6::F7::F8::F9::G0::G1::G2::G3::G4::G5::G6::G7::G8::G9::H0::H1::H2::H3::H4::H5::H6::H7::H8::H9::I0::I1::[]) w := by
  refine loop_rule (cd Tryz.f195 [1, 1, 0, 1, 0, 0]) [6, 7, 8, 33, 34, 35, 36, 37, 38, 39, 40, 41, 42, 43, 44, 45, 46, 47, 48, 49, 50, 51, 52, 53, 54, 55, 56, 57, 58] (by kernel_rfl) (fun e2 w2 => Inv (gd e2 6) (gd e2 7) (gd e2 33) w2) (fun e2 w2 => μ (gd e2 6) (gd e2 7) (gd e2 33) w2) h0 ?_
  intro e' w' hI
  have h := hs (gd e' 6) (gd e' 7) (gd e' 33) (fun i => gd e' i) w' _ hI rfl
  have h2 : cCode Tryz.prog (cd Tryz.f195 [1, 1, 0, 1, 0, 0]) (fun e2 w2 => Inv (gd e2 6) (gd e2 7) (gd e2 33) w2 ∧ μ (gd e2 6) (gd e2 7) (gd e2 33) w2 < μ (gd e' 6) (gd e' 7) (gd e' 33) w') (fun i => @Bool.rec (fun _ => KE) ((fun _ _ _ => False) i) (rights_local_P1 K) (Nat.beq i 0)) (retK Tryz.prog Tryz.f195.results.toList K) (r0::k_1::r2::k_3::A0::A1::(gd e' 6)::(gd e' 7)::(gd e' 8)::less9::one10::more11::two12::A9::C0::C1::C2::C3::C4::C5::C6::C7::C8::C9::D0::D1::D2::D3::D4::D5::D6::D7::D8::(gd e' 33)::(gd e' 34)::(gd e' 35)::(gd e' 36)::(gd e' 37)::(gd e' 38)::(gd e' 39)::(gd e' 40)::(gd e' 41)::(gd e' 42)::(gd e' 43)::(gd e' 44)::(gd e' 45)::(gd e' 46)::(gd e' 47)::(gd e' 48)::(gd e' 49)::(gd e' 50)::(gd e' 51)::(gd e' 52)::(gd e' 53)::(gd e' 54)::(gd e' 55)::(gd e' 56)::(gd e' 57)::(gd e' 58)::G5::G6::G7::G8::G9::H0::H1::H2::H3::H4::H5::H6::H7::H8::H9::I0::I1::[]) w' := rights_local_L1_k (fun e2 w2 => Inv (gd e2 6) (gd e2 7) (gd e2 33) w2 ∧ μ (gd e2 6) (gd e2 7) (gd e2 33) w2 < μ (gd e' 6) (gd e' 7) (gd e' 33) w') (rights_local_P1 K) (Eq.mp (by kernel_rfl) h)
  exact Eq.mp (by kernel_rfl) h2

theorem rights_local_P1_k {K : KV} {w : World}
    (h : call Tryz.prog 247 #[out6] (fun G7 w =>
    ext Tryz.prog G7 0 (fun G8 w =>
    ext Tryz.prog G7 1 (fun G9 w =>
    call Tryz.prog 247 #[in7] (fun H2 w =>
    ext Tryz.prog H2 0 (fun H3 w =>
    ext Tryz.prog H2 1 (fun H4 w =>
    bin Tryz.prog BinOp.sub 2 false false H3 G8 (fun H7 w =>
    gsel G9 true (fun k74 =>
    k74 [H4] w)
    (fun k => k [undef] w) (fun us74 w =>
    pick G9 (gd us74 0) (Value.bool false) (fun I1 w =>
    K (Value.tuple #[H7, I1]) w) w)) w) w) w) w) w) w) w) :
    cCode Tryz.prog (cd Tryz.f195 [1, 1, 1]) (retK Tryz.prog Tryz.f195.results.toList K) (fun _ _ _ => False) (retK Tryz.prog Tryz.f195.results.toList K) (r0::k_1::r2::k_3::A0::A1::out6::in7::j8::less9::one10::more11::two12::A9::C0::C1::C2::C3::C4::C5::C6::C7::C8::C9::D0::D1::D2::D3::D4::D5::D6::D7::D8::D9::E0::E1::E2::E3::E4::E5::E6::E7::E8::E9::F0::F1::F2::F3::F4::F5::F6::F7::F8::F9::G0::G1::G2::G3::G4::G5::G6::G7::G8::G9::H0::H1::H2::H3::H4::H5::H6::H7::H8::H9::I0::I1::[]) w := Eq.mp (by kernel_rfl) h

theorem rights_local_P1_r {K : KV} {w : World}
    (h : call Tryz.prog 247 #[out6] (fun G7 w =>
    ext Tryz.prog G7 0 (fun G8 w =>
    ext Tryz.prog G7 1 (fun G9 w =>
    call Tryz.prog 247 #[in7] (fun H2 w =>
    ext Tryz.prog H2 0 (fun H3 w =>
    ext Tryz.prog H2 1 (fun H4 w =>
    bin Tryz.prog BinOp.sub 2 false false H3 G8 (fun H7 w =>
    gsel G9 true (fun k74 =>
    k74 [H4] w)
    (fun k => k [undef] w) (fun us74 w =>
    pick G9 (gd us74 0) (Value.bool false) (fun I1 w =>
    K (Value.tuple #[H7, I1]) w) w)) w) w) w) w) w) w) w) :
    rights_local_P1 K (r0::k_1::r2::k_3::A0::A1::out6::in7::j8::less9::one10::more11::two12::A9::C0::C1::C2::C3::C4::C5::C6::C7::C8::C9::D0::D1::D2::D3::D4::D5::D6::D7::D8::D9::E0::E1::E2::E3::E4::E5::E6::E7::E8::E9::F0::F1::F2::F3::F4::F5::F6::F7::F8::F9::G0::G1::G2::G3::G4::G5::G6::G7::G8::G9::H0::H1::H2::H3::H4::H5::H6::H7::H8::H9::I0::I1::[]) w := by
  delta rights_local_P1
  exact Eq.mp (congrArg (fun c => cCode Tryz.prog c (retK Tryz.prog Tryz.f195.results.toList K) (fun _ _ _ => False) (retK Tryz.prog Tryz.f195.results.toList K) (r0::k_1::r2::k_3::A0::A1::out6::in7::j8::less9::one10::more11::two12::A9::C0::C1::C2::C3::C4::C5::C6::C7::C8::C9::D0::D1::D2::D3::D4::D5::D6::D7::D8::D9::E0::E1::E2::E3::E4::E5::E6::E7::E8::E9::F0::F1::F2::F3::F4::F5::F6::F7::F8::F9::G0::G1::G2::G3::G4::G5::G6::G7::G8::G9::H0::H1::H2::H3::H4::H5::H6::H7::H8::H9::I0::I1::[]) w) (by kernel_rfl : (cd Tryz.f195 [1, 1, 1]) = (cd Tryz.f195 [1, 1, 1]))) (rights_local_P1_k h)
attribute [irreducible] rights_local_P1 rights_local_L1

end
end Go.Proofs.YtnmjfakibhekmaaGreatDoor
