/- Laid together: STrc Trc Trc2 Mem2 Mem3 Trc3 Be TPl SRef Ref. -/
import Derived.Test.YtfjafbbalohmhaaGreatDoorSh
import Derived.Test.YtfjafbbalohmhaaGreatDoorChecked
import Derived.Test.YtfjafbbalohmhaaGreatDoorQ1
namespace Go.Proofs.YtfjafbbalohmhaaGreatDoor
open Go.RowKit
set_option maxRecDepth 100000

def trace_within_P1 (K : KV) : KE := cCode Tryz.prog (cd Tryz.f27 [1, 1]) (retK Tryz.prog Tryz.f27.results.toList K) (fun _ _ _ => False) (retK Tryz.prog Tryz.f27.results.toList K)
def trace_within_L1 (K : KV) : KE := cCode Tryz.prog (cd Tryz.f27 [1, 0, 1, 0]) (trace_within_P1 K) (fun i => @Bool.rec (fun _ => KE) ((fun _ _ _ => False) i) (trace_within_P1 K) (Nat.beq i 0)) (retK Tryz.prog Tryz.f27.results.toList K)
theorem trace_within_k {K : KV} {low0 high1 l2 : Value} {w : World}
    (h : blt Tryz.prog Builtin.len #[25] 3 #[false] #[l2] (fun A8 w =>
    (cCode Tryz.prog (cd Tryz.f27 [1, 0, 1, 0]) (cCode Tryz.prog (cd Tryz.f27 [1, 1]) (retK Tryz.prog Tryz.f27.results.toList K) (fun _ _ _ => False) (retK Tryz.prog Tryz.f27.results.toList K)) (fun i => @Bool.rec (fun _ => KE) ((fun _ _ _ => False) i) (cCode Tryz.prog (cd Tryz.f27 [1, 1]) (retK Tryz.prog Tryz.f27.results.toList K) (fun _ _ _ => False) (retK Tryz.prog Tryz.f27.results.toList K)) (Nat.beq i 0)) (retK Tryz.prog Tryz.f27.results.toList K)) [low0, high1, l2, undef, undef, undef, (Value.bool false), undef, undef, l2, A8, (Value.int IntKind.i64 0), undef, undef, undef, undef, undef, undef, undef, undef, undef, undef, undef, undef] w) w) :
    cCode Tryz.prog (cd Tryz.f27 []) (retK Tryz.prog Tryz.f27.results.toList K) (fun _ _ _ => False) (retK Tryz.prog Tryz.f27.results.toList K) [low0, high1, l2, undef, undef, undef, undef, undef, undef, undef, undef, undef, undef, undef, undef, undef, undef, undef, undef, undef, undef, undef, undef, undef] w := Eq.mp (by kernel_rfl) h

theorem trace_within_in {K : KV} {low0 high1 l2 : Value} {w : World}
    (h : blt Tryz.prog Builtin.len #[25] 3 #[false] #[l2] (fun A8 w =>
    (trace_within_L1 K) [low0, high1, l2, undef, undef, undef, (Value.bool false), undef, undef, l2, A8, (Value.int IntKind.i64 0), undef, undef, undef, undef, undef, undef, undef, undef, undef, undef, undef, undef] w) w) :
    Gives Tryz.prog 27 #[low0, high1, l2] w K := enter' Tryz.func27 (by kernel_rfl) (Eq.mp (congrArg (fun c => cCode Tryz.prog c (retK Tryz.prog Tryz.f27.results.toList K) (fun _ _ _ => False) (retK Tryz.prog Tryz.f27.results.toList K) [low0, high1, l2, undef, undef, undef, undef, undef, undef, undef, undef, undef, undef, undef, undef, undef, undef, undef, undef, undef, undef, undef, undef, undef] w) (by kernel_rfl : (cd Tryz.f27 []) = (cd Tryz.f27 []))) (trace_within_k h))
theorem trace_within_go : isGo Tryz.prog 27 := ⟨_, Tryz.func27, by kernel_rfl, by kernel_rfl⟩

theorem trace_within_L1_k {K : KV} (B1 : KE) (qc0 : KE) {low0 high1 l2 low3 high4 l5 A5 A7 A8 A9' C7' C8' C9' : Value} {dd : Nat → Value} {w : World}
    (h : bin Tryz.prog BinOp.lss 3 false false A9' A8 (fun C0 w =>
    cond C0
      (idxA Tryz.prog 25 A7 A9' (fun C1 w =>
    ld Tryz.prog 3 C1 (fun C2 w =>
    bin Tryz.prog BinOp.lss 3 false false C2 low0 (fun C5 w =>
    gsel C5 false (fun k19 =>
    bin Tryz.prog BinOp.gtr 3 false false C2 high1 (fun C9 w =>
    k19 [C2, high1, C9] w) w)
    (fun k => k [undef, undef, undef] w) (fun us19 w =>
    pick C5 (Value.bool true) (gd us19 2) (fun D0 w =>
    cond D0
      (K (Value.bool false) w)
      (bin Tryz.prog BinOp.add 3 false true A9' (Value.int IntKind.i64 1) (fun D1 w =>
    B1 [low0, high1, l2, low3, high4, l5, (dd 6), A5, C2, A7, A8, D1, C0, C1, C2, C2, low0, C5, C5, (gd us19 0), (gd us19 1), (gd us19 2), D0, D1] w) w)) w)) w) w) w)
      (qc0 [low0, high1, l2, low3, high4, l5, (dd 6), A5, (dd 8), A7, A8, A9', C0, (dd 13), (dd 14), (dd 15), (dd 16), (dd 17), (dd 18), C7', C8', C9', (dd 22), (dd 23)] w)) w) :
    cCode Tryz.prog (cd Tryz.f27 [1, 0, 1, 0, 0]) B1 (fun i => @Bool.rec (fun _ => KE) ((fun _ _ _ => False) i) qc0 (Nat.beq i 0)) (retK Tryz.prog Tryz.f27.results.toList K) [low0, high1, l2, low3, high4, l5, (dd 6), A5, (dd 8), A7, A8, A9', (dd 12), (dd 13), (dd 14), (dd 15), (dd 16), (dd 17), (dd 18), C7', C8', C9', (dd 22), (dd 23)] w := Eq.mp (by kernel_rfl) h

theorem trace_within_L1_r {K : KV} {low0 high1 l2 low3 high4 l5 A4 A5 x8 A7 A8 A9 C0 C1 C2 C3 C4 C5 C6 C7 C8 C9 D0 D1 : Value} {w : World} (Inv : Value → Value → Value → Value → World → Prop) (μ : Value → Value → Value → Value → World → Nat) (h0 : Inv A9 C7 C8 C9 w)
    (hs : ∀ (A9' C7' C8' C9' : Value) (dd : Nat → Value) (w : World) (m : Nat), Inv A9' C7' C8' C9' w → m = μ A9' C7' C8' C9' w →
    bin Tryz.prog BinOp.lss 3 false false A9' A8 (fun C0 w =>
    cond C0
      (idxA Tryz.prog 25 A7 A9' (fun C1 w =>
    ld Tryz.prog 3 C1 (fun C2 w =>
    bin Tryz.prog BinOp.lss 3 false false C2 low0 (fun C5 w =>
    gsel C5 false (fun k19 =>
    bin Tryz.prog BinOp.gtr 3 false false C2 high1 (fun C9 w =>
    k19 [C2, high1, C9] w) w)
    (fun k => k [undef, undef, undef] w) (fun us19 w =>
    pick C5 (Value.bool true) (gd us19 2) (fun D0 w =>
    cond D0
      (K (Value.bool false) w)
      (bin Tryz.prog BinOp.add 3 false true A9' (Value.int IntKind.i64 1) (fun D1 w =>
    (Inv D1 (gd us19 0) (gd us19 1) (gd us19 2) w ∧ μ D1 (gd us19 0) (gd us19 1) (gd us19 2) w < m)) w)) w)) w) w) w)
      ((trace_within_P1 K) [low0, high1, l2, low3, high4, l5, (dd 6), A5, (dd 8), A7, A8, A9', C0, (dd 13), (dd 14), (dd 15), (dd 16), (dd 17), (dd 18), C7', C8', C9', (dd 22), (dd 23)] w)) w) :
    trace_within_L1 K [low0, high1, l2, low3, high4, l5, A4, A5, x8, A7, A8, A9, C0, C1, C2, C3, C4, C5, C6, C7, C8, C9, D0, D1] w := by
  refine loop_rule (cd Tryz.f27 [1, 0, 1, 0, 0]) [6, 8, 11, 12, 13, 14, 15, 16, 17, 18, 19, 20, 21, 22, 23] (by kernel_rfl) (fun e2 w2 => Inv (gd e2 11) (gd e2 19) (gd e2 20) (gd e2 21) w2) (fun e2 w2 => μ (gd e2 11) (gd e2 19) (gd e2 20) (gd e2 21) w2) h0 ?_
  intro e' w' hI
  have h := hs (gd e' 11) (gd e' 19) (gd e' 20) (gd e' 21) (fun i => gd e' i) w' _ hI rfl
  have h2 : cCode Tryz.prog (cd Tryz.f27 [1, 0, 1, 0, 0]) (fun e2 w2 => Inv (gd e2 11) (gd e2 19) (gd e2 20) (gd e2 21) w2 ∧ μ (gd e2 11) (gd e2 19) (gd e2 20) (gd e2 21) w2 < μ (gd e' 11) (gd e' 19) (gd e' 20) (gd e' 21) w') (fun i => @Bool.rec (fun _ => KE) ((fun _ _ _ => False) i) (trace_within_P1 K) (Nat.beq i 0)) (retK Tryz.prog Tryz.f27.results.toList K) [low0, high1, l2, low3, high4, l5, (gd e' 6), A5, (gd e' 8), A7, A8, (gd e' 11), (gd e' 12), (gd e' 13), (gd e' 14), (gd e' 15), (gd e' 16), (gd e' 17), (gd e' 18), (gd e' 19), (gd e' 20), (gd e' 21), (gd e' 22), (gd e' 23)] w' := trace_within_L1_k (fun e2 w2 => Inv (gd e2 11) (gd e2 19) (gd e2 20) (gd e2 21) w2 ∧ μ (gd e2 11) (gd e2 19) (gd e2 20) (gd e2 21) w2 < μ (gd e' 11) (gd e' 19) (gd e' 20) (gd e' 21) w') (trace_within_P1 K) (Eq.mp (by kernel_rfl) h)
  exact Eq.mp (by kernel_rfl) h2

theorem trace_within_P1_k {K : KV} {low0 high1 l2 low3 high4 l5 A4 A5 x8 A7 A8 A9 C0 C1 C2 C3 C4 C5 C6 C7 C8 C9 D0 D1 : Value} {w : World}
    (h : K (Value.bool true) w) :
    cCode Tryz.prog (cd Tryz.f27 [1, 1]) (retK Tryz.prog Tryz.f27.results.toList K) (fun _ _ _ => False) (retK Tryz.prog Tryz.f27.results.toList K) [low0, high1, l2, low3, high4, l5, A4, A5, x8, A7, A8, A9, C0, C1, C2, C3, C4, C5, C6, C7, C8, C9, D0, D1] w := Eq.mp (by kernel_rfl) h

theorem trace_within_P1_r {K : KV} {low0 high1 l2 low3 high4 l5 A4 A5 x8 A7 A8 A9 C0 C1 C2 C3 C4 C5 C6 C7 C8 C9 D0 D1 : Value} {w : World}
    (h : K (Value.bool true) w) :
    trace_within_P1 K [low0, high1, l2, low3, high4, l5, A4, A5, x8, A7, A8, A9, C0, C1, C2, C3, C4, C5, C6, C7, C8, C9, D0, D1] w := by
  delta trace_within_P1
  exact Eq.mp (congrArg (fun c => cCode Tryz.prog c (retK Tryz.prog Tryz.f27.results.toList K) (fun _ _ _ => False) (retK Tryz.prog Tryz.f27.results.toList K) [low0, high1, l2, low3, high4, l5, A4, A5, x8, A7, A8, A9, C0, C1, C2, C3, C4, C5, C6, C7, C8, C9, D0, D1] w) (by kernel_rfl : (cd Tryz.f27 [1, 1]) = (cd Tryz.f27 [1, 1]))) (trace_within_P1_k h)
attribute [irreducible] trace_within_P1 trace_within_L1

def trace_May_P1 (K : KV) : KE := cCode Tryz.prog (cd Tryz.f9 [1, 1]) (retK Tryz.prog Tryz.f9.results.toList K) (fun _ _ _ => False) (retK Tryz.prog Tryz.f9.results.toList K)
def trace_May_P2 (K : KV) : KE := cCode Tryz.prog (cd Tryz.f9 [1, 0, 0, 1]) (trace_May_P1 K) (fun i => @Bool.rec (fun _ => KE) ((fun _ _ _ => False) i) (trace_May_P1 K) (Nat.beq i 0)) (retK Tryz.prog Tryz.f9.results.toList K)
def trace_May_A1 (K : KV) : KE := cCode Tryz.prog (cd Tryz.f9 [1, 0, 0, 0, 1]) (trace_May_P2 K) (fun i => @Bool.rec (fun _ => KE) ((fun _ _ _ => False) i) (trace_May_P1 K) (Nat.beq i 0)) (retK Tryz.prog Tryz.f9.results.toList K)
def trace_May_P3 (K : KV) : KE := cCode Tryz.prog (cd Tryz.f9 [1, 0, 0, 1, 1, 1]) (trace_May_P1 K) (fun i => @Bool.rec (fun _ => KE) ((fun _ _ _ => False) i) (trace_May_P1 K) (Nat.beq i 0)) (retK Tryz.prog Tryz.f9.results.toList K)
def trace_May_A2 (K : KV) : KE := cCode Tryz.prog (cd Tryz.f9 [1, 0, 0, 1, 1, 0, 1]) (trace_May_P3 K) (fun i => @Bool.rec (fun _ => KE) ((fun _ _ _ => False) i) (trace_May_P1 K) (Nat.beq i 0)) (retK Tryz.prog Tryz.f9.results.toList K)
def trace_May_P4 (K : KV) : KE := cCode Tryz.prog (cd Tryz.f9 [1, 0, 0, 1, 1, 1, 1, 1]) (trace_May_P1 K) (fun i => @Bool.rec (fun _ => KE) ((fun _ _ _ => False) i) (trace_May_P1 K) (Nat.beq i 0)) (retK Tryz.prog Tryz.f9.results.toList K)
def trace_May_A3 (K : KV) : KE := cCode Tryz.prog (cd Tryz.f9 [1, 0, 0, 1, 1, 1, 1, 0, 1]) (trace_May_P4 K) (fun i => @Bool.rec (fun _ => KE) ((fun _ _ _ => False) i) (trace_May_P1 K) (Nat.beq i 0)) (retK Tryz.prog Tryz.f9.results.toList K)
theorem trace_May_k {K : KV} (xc0 : Code) {s0 : Value} {w : World}
    (h : box Tryz.prog 27 s0 (fun s1 w =>
    fldA Tryz.prog 27 s1 0 (fun A2 w =>
    ld Tryz.prog 5 A2 (fun A3 w =>
    bin Tryz.prog BinOp.lss 5 false true A3 (Value.int IntKind.u8 1) (fun A4 w =>
    (cCode Tryz.prog xc0 (cCode Tryz.prog (cd Tryz.f9 [1, 0, 0, 1]) (cCode Tryz.prog (cd Tryz.f9 [1, 1]) (retK Tryz.prog Tryz.f9.results.toList K) (fun _ _ _ => False) (retK Tryz.prog Tryz.f9.results.toList K)) (fun i => @Bool.rec (fun _ => KE) ((fun _ _ _ => False) i) (cCode Tryz.prog (cd Tryz.f9 [1, 1]) (retK Tryz.prog Tryz.f9.results.toList K) (fun _ _ _ => False) (retK Tryz.prog Tryz.f9.results.toList K)) (Nat.beq i 0)) (retK Tryz.prog Tryz.f9.results.toList K)) (fun i => @Bool.rec (fun _ => KE) ((fun _ _ _ => False) i) (cCode Tryz.prog (cd Tryz.f9 [1, 1]) (retK Tryz.prog Tryz.f9.results.toList K) (fun _ _ _ => False) (retK Tryz.prog Tryz.f9.results.toList K)) (Nat.beq i 0)) (retK Tryz.prog Tryz.f9.results.toList K)) (s0::s1::(Value.bool false)::A4::A2::A3::A4::undef::undef::undef::undef::undef::undef::undef::undef::undef::undef::undef::undef::undef::undef::undef::undef::undef::undef::undef::undef::undef::undef::undef::undef::undef::undef::undef::undef::undef::undef::undef::undef::undef::undef::undef::undef::undef::undef::undef::undef::undef::[]) w) w) w) w) w) :
    cCode Tryz.prog (rep [1, 0, 0, 0, 1] xc0 (cd Tryz.f9 [])) (retK Tryz.prog Tryz.f9.results.toList K) (fun _ _ _ => False) (retK Tryz.prog Tryz.f9.results.toList K) (s0::undef::undef::undef::undef::undef::undef::undef::undef::undef::undef::undef::undef::undef::undef::undef::undef::undef::undef::undef::undef::undef::undef::undef::undef::undef::undef::undef::undef::undef::undef::undef::undef::undef::undef::undef::undef::undef::undef::undef::undef::undef::undef::undef::undef::undef::undef::undef::[]) w := Eq.mp (by kernel_rfl) h

theorem trace_May_in {K : KV} {s0 : Value} {w : World}
    (h : box Tryz.prog 27 s0 (fun s1 w =>
    fldA Tryz.prog 27 s1 0 (fun A2 w =>
    ld Tryz.prog 5 A2 (fun A3 w =>
    bin Tryz.prog BinOp.lss 5 false true A3 (Value.int IntKind.u8 1) (fun A4 w =>
    (trace_May_A1 K) (s0::s1::(Value.bool false)::A4::A2::A3::A4::undef::undef::undef::undef::undef::undef::undef::undef::undef::undef::undef::undef::undef::undef::undef::undef::undef::undef::undef::undef::undef::undef::undef::undef::undef::undef::undef::undef::undef::undef::undef::undef::undef::undef::undef::undef::undef::undef::undef::undef::undef::[]) w) w) w) w) w) :
    Gives Tryz.prog 9 #[s0] w K := enter' Tryz.func9 (by kernel_rfl) (Eq.mp (congrArg (fun c => cCode Tryz.prog c (retK Tryz.prog Tryz.f9.results.toList K) (fun _ _ _ => False) (retK Tryz.prog Tryz.f9.results.toList K) (s0::undef::undef::undef::undef::undef::undef::undef::undef::undef::undef::undef::undef::undef::undef::undef::undef::undef::undef::undef::undef::undef::undef::undef::undef::undef::undef::undef::undef::undef::undef::undef::undef::undef::undef::undef::undef::undef::undef::undef::undef::undef::undef::undef::undef::undef::undef::undef::[]) w) (by kernel_rfl : (rep [1, 0, 0, 0, 1] (cd Tryz.f9 [1, 0, 0, 0, 1]) (cd Tryz.f9 [])) = (cd Tryz.f9 []))) (trace_May_k (cd Tryz.f9 [1, 0, 0, 0, 1]) h))
theorem trace_May_go : isGo Tryz.prog 9 := ⟨_, Tryz.func9, by kernel_rfl, by kernel_rfl⟩

theorem trace_May_A1_k {K : KV} (qc0 : KE) (qc1 : KE) {s0 s1 A0 A1 A2 A3 A4 A5 A6 A7 A8 A9 C0 C1 C2 C3 C4 C5 C6 C7 C8 C9 D0 D1 D2 D3 D4 D5 D6 D7 D8 D9 E0 E1 E2 E3 E4 E5 E6 E7 E8 E9 F0 F1 F2 F3 F4 F5 : Value} {w : World}
    (h : cond A1
      (qc0 (s0::s1::A0::A1::A2::A3::A4::A5::A6::A7::A8::A9::C0::C1::C2::C3::C4::C5::C6::C7::C8::C9::D0::D1::D2::D3::D4::D5::D6::D7::D8::D9::E0::E1::E2::E3::E4::E5::E6::E7::E8::E9::F0::F1::F2::F3::F4::F5::[]) w)
      (fldA Tryz.prog 27 s1 0 (fun A5 w =>
      ld Tryz.prog 5 A5 (fun A6 w =>
      bin Tryz.prog BinOp.gtr 5 false true A6 (Value.int IntKind.u8 12) (fun A7 w =>
      cond A7
        (qc0 (s0::s1::A0::A7::A2::A3::A4::A5::A6::A7::A8::A9::C0::C1::C2::C3::C4::C5::C6::C7::C8::C9::D0::D1::D2::D3::D4::D5::D6::D7::D8::D9::E0::E1::E2::E3::E4::E5::E6::E7::E8::E9::F0::F1::F2::F3::F4::F5::[]) w)
        (fldA Tryz.prog 27 s1 2 (fun A8 w =>
        fldA Tryz.prog 24 A8 0 (fun A9 w =>
        ld Tryz.prog 5 A9 (fun C0 w =>
        bin Tryz.prog BinOp.gtr 5 false true C0 (Value.int IntKind.u8 7) (fun C1 w =>
        qc0 (s0::s1::A0::C1::A2::A3::A4::A5::A6::A7::A8::A9::C0::C1::C2::C3::C4::C5::C6::C7::C8::C9::D0::D1::D2::D3::D4::D5::D6::D7::D8::D9::E0::E1::E2::E3::E4::E5::E6::E7::E8::E9::F0::F1::F2::F3::F4::F5::[]) w) w) w) w) w)) w) w) w)) :
    cCode Tryz.prog (cd Tryz.f9 [1, 0, 0, 0, 1]) qc0 (fun i => @Bool.rec (fun _ => KE) ((fun _ _ _ => False) i) qc1 (Nat.beq i 0)) (retK Tryz.prog Tryz.f9.results.toList K) (s0::s1::A0::A1::A2::A3::A4::A5::A6::A7::A8::A9::C0::C1::C2::C3::C4::C5::C6::C7::C8::C9::D0::D1::D2::D3::D4::D5::D6::D7::D8::D9::E0::E1::E2::E3::E4::E5::E6::E7::E8::E9::F0::F1::F2::F3::F4::F5::[]) w := Eq.mp (by kernel_rfl) h

theorem trace_May_A1_r {K : KV} {s0 s1 A0 A1 A2 A3 A4 A5 A6 A7 A8 A9 C0 C1 C2 C3 C4 C5 C6 C7 C8 C9 D0 D1 D2 D3 D4 D5 D6 D7 D8 D9 E0 E1 E2 E3 E4 E5 E6 E7 E8 E9 F0 F1 F2 F3 F4 F5 : Value} {w : World}
    (h : cond A1
      ((trace_May_P2 K) (s0::s1::A0::A1::A2::A3::A4::A5::A6::A7::A8::A9::C0::C1::C2::C3::C4::C5::C6::C7::C8::C9::D0::D1::D2::D3::D4::D5::D6::D7::D8::D9::E0::E1::E2::E3::E4::E5::E6::E7::E8::E9::F0::F1::F2::F3::F4::F5::[]) w)
      (fldA Tryz.prog 27 s1 0 (fun A5 w =>
      ld Tryz.prog 5 A5 (fun A6 w =>
      bin Tryz.prog BinOp.gtr 5 false true A6 (Value.int IntKind.u8 12) (fun A7 w =>
      cond A7
        ((trace_May_P2 K) (s0::s1::A0::A7::A2::A3::A4::A5::A6::A7::A8::A9::C0::C1::C2::C3::C4::C5::C6::C7::C8::C9::D0::D1::D2::D3::D4::D5::D6::D7::D8::D9::E0::E1::E2::E3::E4::E5::E6::E7::E8::E9::F0::F1::F2::F3::F4::F5::[]) w)
        (fldA Tryz.prog 27 s1 2 (fun A8 w =>
        fldA Tryz.prog 24 A8 0 (fun A9 w =>
        ld Tryz.prog 5 A9 (fun C0 w =>
        bin Tryz.prog BinOp.gtr 5 false true C0 (Value.int IntKind.u8 7) (fun C1 w =>
        (trace_May_P2 K) (s0::s1::A0::C1::A2::A3::A4::A5::A6::A7::A8::A9::C0::C1::C2::C3::C4::C5::C6::C7::C8::C9::D0::D1::D2::D3::D4::D5::D6::D7::D8::D9::E0::E1::E2::E3::E4::E5::E6::E7::E8::E9::F0::F1::F2::F3::F4::F5::[]) w) w) w) w) w)) w) w) w)) :
    trace_May_A1 K (s0::s1::A0::A1::A2::A3::A4::A5::A6::A7::A8::A9::C0::C1::C2::C3::C4::C5::C6::C7::C8::C9::D0::D1::D2::D3::D4::D5::D6::D7::D8::D9::E0::E1::E2::E3::E4::E5::E6::E7::E8::E9::F0::F1::F2::F3::F4::F5::[]) w := by
  delta trace_May_A1
  exact Eq.mp (congrArg (fun c => cCode Tryz.prog c (trace_May_P2 K) (fun i => @Bool.rec (fun _ => KE) ((fun _ _ _ => False) i) (trace_May_P1 K) (Nat.beq i 0)) (retK Tryz.prog Tryz.f9.results.toList K) (s0::s1::A0::A1::A2::A3::A4::A5::A6::A7::A8::A9::C0::C1::C2::C3::C4::C5::C6::C7::C8::C9::D0::D1::D2::D3::D4::D5::D6::D7::D8::D9::E0::E1::E2::E3::E4::E5::E6::E7::E8::E9::F0::F1::F2::F3::F4::F5::[]) w) (by kernel_rfl : (cd Tryz.f9 [1, 0, 0, 0, 1]) = (cd Tryz.f9 [1, 0, 0, 0, 1]))) (trace_May_A1_k (trace_May_P2 K) (trace_May_P1 K) h)

theorem trace_May_P2_k {K : KV} (qc0 : KE) (xc0 : Code) {s0 s1 A0 A1 A2 A3 A4 A5 A6 A7 A8 A9 C0 C1 C2 C3 C4 C5 C6 C7 C8 C9 D0 D1 D2 D3 D4 D5 D6 D7 D8 D9 E0 E1 E2 E3 E4 E5 E6 E7 E8 E9 F0 F1 F2 F3 F4 F5 : Value} {w : World}
    (h : cond A1
      (K (Value.bool false) w)
      (fldA Tryz.prog 27 s1 1 (fun C3 w =>
      ld Tryz.prog 3 C3 (fun C4 w =>
      fldA Tryz.prog 27 s1 4 (fun C5 w =>
      ld Tryz.prog 3 C5 (fun C6 w =>
      fldA Tryz.prog 27 s1 3 (fun C7 w =>
      ld Tryz.prog 3 C7 (fun C8 w =>
      fldA Tryz.prog 27 s1 2 (fun C9 w =>
      fldA Tryz.prog 24 C9 2 (fun D0 w =>
      ld Tryz.prog 3 D0 (fun D1 w =>
      bldS Tryz.prog 25 4 #[(0, C4), (1, C6), (2, C8), (3, D1)] (fun D2 w =>
      call Tryz.prog 27 #[(Value.int IntKind.i64 (-1)), (Value.int IntKind.i64 255), D2] (fun D3 w =>
      un Tryz.prog UnOp.not D3 (fun D4 w =>
      (cCode Tryz.prog xc0 (cCode Tryz.prog (cd Tryz.f9 [1, 0, 0, 1, 1, 1]) qc0 (fun i => @Bool.rec (fun _ => KE) ((fun _ _ _ => False) i) qc0 (Nat.beq i 0)) (retK Tryz.prog Tryz.f9.results.toList K)) (fun i => @Bool.rec (fun _ => KE) ((fun _ _ _ => False) i) qc0 (Nat.beq i 0)) (retK Tryz.prog Tryz.f9.results.toList K)) (s0::s1::A0::A1::A2::A3::A4::A5::A6::A7::A8::A9::C0::C1::D4::C3::C4::C5::C6::C7::C8::C9::D0::D1::D2::D3::D4::D5::D6::D7::D8::D9::E0::E1::E2::E3::E4::E5::E6::E7::E8::E9::F0::F1::F2::F3::F4::F5::[]) w) w) w) w) w) w) w) w) w) w) w) w) w)) :
    cCode Tryz.prog (rep [1, 0, 1] xc0 (cd Tryz.f9 [1, 0, 0, 1])) qc0 (fun i => @Bool.rec (fun _ => KE) ((fun _ _ _ => False) i) qc0 (Nat.beq i 0)) (retK Tryz.prog Tryz.f9.results.toList K) (s0::s1::A0::A1::A2::A3::A4::A5::A6::A7::A8::A9::C0::C1::C2::C3::C4::C5::C6::C7::C8::C9::D0::D1::D2::D3::D4::D5::D6::D7::D8::D9::E0::E1::E2::E3::E4::E5::E6::E7::E8::E9::F0::F1::F2::F3::F4::F5::[]) w := Eq.mp (by kernel_rfl) h

theorem trace_May_P2_r {K : KV} {s0 s1 A0 A1 A2 A3 A4 A5 A6 A7 A8 A9 C0 C1 C2 C3 C4 C5 C6 C7 C8 C9 D0 D1 D2 D3 D4 D5 D6 D7 D8 D9 E0 E1 E2 E3 E4 E5 E6 E7 E8 E9 F0 F1 F2 F3 F4 F5 : Value} {w : World}
    (h : cond A1
      (K (Value.bool false) w)
      (fldA Tryz.prog 27 s1 1 (fun C3 w =>
      ld Tryz.prog 3 C3 (fun C4 w =>
      fldA Tryz.prog 27 s1 4 (fun C5 w =>
      ld Tryz.prog 3 C5 (fun C6 w =>
      fldA Tryz.prog 27 s1 3 (fun C7 w =>
      ld Tryz.prog 3 C7 (fun C8 w =>
      fldA Tryz.prog 27 s1 2 (fun C9 w =>
      fldA Tryz.prog 24 C9 2 (fun D0 w =>
      ld Tryz.prog 3 D0 (fun D1 w =>
      bldS Tryz.prog 25 4 #[(0, C4), (1, C6), (2, C8), (3, D1)] (fun D2 w =>
      call Tryz.prog 27 #[(Value.int IntKind.i64 (-1)), (Value.int IntKind.i64 255), D2] (fun D3 w =>
      un Tryz.prog UnOp.not D3 (fun D4 w =>
      (trace_May_A2 K) (s0::s1::A0::A1::A2::A3::A4::A5::A6::A7::A8::A9::C0::C1::D4::C3::C4::C5::C6::C7::C8::C9::D0::D1::D2::D3::D4::D5::D6::D7::D8::D9::E0::E1::E2::E3::E4::E5::E6::E7::E8::E9::F0::F1::F2::F3::F4::F5::[]) w) w) w) w) w) w) w) w) w) w) w) w) w)) :
    trace_May_P2 K (s0::s1::A0::A1::A2::A3::A4::A5::A6::A7::A8::A9::C0::C1::C2::C3::C4::C5::C6::C7::C8::C9::D0::D1::D2::D3::D4::D5::D6::D7::D8::D9::E0::E1::E2::E3::E4::E5::E6::E7::E8::E9::F0::F1::F2::F3::F4::F5::[]) w := by
  delta trace_May_P2
  exact Eq.mp (congrArg (fun c => cCode Tryz.prog c (trace_May_P1 K) (fun i => @Bool.rec (fun _ => KE) ((fun _ _ _ => False) i) (trace_May_P1 K) (Nat.beq i 0)) (retK Tryz.prog Tryz.f9.results.toList K) (s0::s1::A0::A1::A2::A3::A4::A5::A6::A7::A8::A9::C0::C1::C2::C3::C4::C5::C6::C7::C8::C9::D0::D1::D2::D3::D4::D5::D6::D7::D8::D9::E0::E1::E2::E3::E4::E5::E6::E7::E8::E9::F0::F1::F2::F3::F4::F5::[]) w) (by kernel_rfl : (rep [1, 0, 1] (cd Tryz.f9 [1, 0, 0, 1, 1, 0, 1]) (cd Tryz.f9 [1, 0, 0, 1])) = (cd Tryz.f9 [1, 0, 0, 1]))) (trace_May_P2_k (trace_May_P1 K) (cd Tryz.f9 [1, 0, 0, 1, 1, 0, 1]) h)

theorem trace_May_A2_k {K : KV} (qc0 : KE) (qc1 : KE) {s0 s1 A0 A1 A2 A3 A4 A5 A6 A7 A8 A9 C0 C1 C2 C3 C4 C5 C6 C7 C8 C9 D0 D1 D2 D3 D4 D5 D6 D7 D8 D9 E0 E1 E2 E3 E4 E5 E6 E7 E8 E9 F0 F1 F2 F3 F4 F5 : Value} {w : World}
    (h : cond C2
      (qc0 (s0::s1::A0::A1::A2::A3::A4::A5::A6::A7::A8::A9::C0::C1::C2::C3::C4::C5::C6::C7::C8::C9::D0::D1::D2::D3::D4::D5::D6::D7::D8::D9::E0::E1::E2::E3::E4::E5::E6::E7::E8::E9::F0::F1::F2::F3::F4::F5::[]) w)
      (fldA Tryz.prog 27 s1 5 (fun D5 w =>
      ld Tryz.prog 3 D5 (fun D6 w =>
      bldS Tryz.prog 25 1 #[(0, D6)] (fun D7 w =>
      call Tryz.prog 27 #[(Value.int IntKind.i64 (-1)), (Value.int IntKind.i64 1073741824), D7] (fun D8 w =>
      un Tryz.prog UnOp.not D8 (fun D9 w =>
      qc0 (s0::s1::A0::A1::A2::A3::A4::A5::A6::A7::A8::A9::C0::C1::D9::C3::C4::C5::C6::C7::C8::C9::D0::D1::D2::D3::D4::D5::D6::D7::D8::D9::E0::E1::E2::E3::E4::E5::E6::E7::E8::E9::F0::F1::F2::F3::F4::F5::[]) w) w) w) w) w) w)) :
    cCode Tryz.prog (cd Tryz.f9 [1, 0, 0, 1, 1, 0, 1]) qc0 (fun i => @Bool.rec (fun _ => KE) ((fun _ _ _ => False) i) qc1 (Nat.beq i 0)) (retK Tryz.prog Tryz.f9.results.toList K) (s0::s1::A0::A1::A2::A3::A4::A5::A6::A7::A8::A9::C0::C1::C2::C3::C4::C5::C6::C7::C8::C9::D0::D1::D2::D3::D4::D5::D6::D7::D8::D9::E0::E1::E2::E3::E4::E5::E6::E7::E8::E9::F0::F1::F2::F3::F4::F5::[]) w := Eq.mp (by kernel_rfl) h

theorem trace_May_A2_r {K : KV} {s0 s1 A0 A1 A2 A3 A4 A5 A6 A7 A8 A9 C0 C1 C2 C3 C4 C5 C6 C7 C8 C9 D0 D1 D2 D3 D4 D5 D6 D7 D8 D9 E0 E1 E2 E3 E4 E5 E6 E7 E8 E9 F0 F1 F2 F3 F4 F5 : Value} {w : World}
    (h : cond C2
      ((trace_May_P3 K) (s0::s1::A0::A1::A2::A3::A4::A5::A6::A7::A8::A9::C0::C1::C2::C3::C4::C5::C6::C7::C8::C9::D0::D1::D2::D3::D4::D5::D6::D7::D8::D9::E0::E1::E2::E3::E4::E5::E6::E7::E8::E9::F0::F1::F2::F3::F4::F5::[]) w)
      (fldA Tryz.prog 27 s1 5 (fun D5 w =>
      ld Tryz.prog 3 D5 (fun D6 w =>
      bldS Tryz.prog 25 1 #[(0, D6)] (fun D7 w =>
      call Tryz.prog 27 #[(Value.int IntKind.i64 (-1)), (Value.int IntKind.i64 1073741824), D7] (fun D8 w =>
      un Tryz.prog UnOp.not D8 (fun D9 w =>
      (trace_May_P3 K) (s0::s1::A0::A1::A2::A3::A4::A5::A6::A7::A8::A9::C0::C1::D9::C3::C4::C5::C6::C7::C8::C9::D0::D1::D2::D3::D4::D5::D6::D7::D8::D9::E0::E1::E2::E3::E4::E5::E6::E7::E8::E9::F0::F1::F2::F3::F4::F5::[]) w) w) w) w) w) w)) :
    trace_May_A2 K (s0::s1::A0::A1::A2::A3::A4::A5::A6::A7::A8::A9::C0::C1::C2::C3::C4::C5::C6::C7::C8::C9::D0::D1::D2::D3::D4::D5::D6::D7::D8::D9::E0::E1::E2::E3::E4::E5::E6::E7::E8::E9::F0::F1::F2::F3::F4::F5::[]) w := by
  delta trace_May_A2
  exact Eq.mp (congrArg (fun c => cCode Tryz.prog c (trace_May_P3 K) (fun i => @Bool.rec (fun _ => KE) ((fun _ _ _ => False) i) (trace_May_P1 K) (Nat.beq i 0)) (retK Tryz.prog Tryz.f9.results.toList K) (s0::s1::A0::A1::A2::A3::A4::A5::A6::A7::A8::A9::C0::C1::C2::C3::C4::C5::C6::C7::C8::C9::D0::D1::D2::D3::D4::D5::D6::D7::D8::D9::E0::E1::E2::E3::E4::E5::E6::E7::E8::E9::F0::F1::F2::F3::F4::F5::[]) w) (by kernel_rfl : (cd Tryz.f9 [1, 0, 0, 1, 1, 0, 1]) = (cd Tryz.f9 [1, 0, 0, 1, 1, 0, 1]))) (trace_May_A2_k (trace_May_P3 K) (trace_May_P1 K) h)

theorem trace_May_P3_k {K : KV} (qc0 : KE) (xc0 : Code) {s0 s1 A0 A1 A2 A3 A4 A5 A6 A7 A8 A9 C0 C1 C2 C3 C4 C5 C6 C7 C8 C9 D0 D1 D2 D3 D4 D5 D6 D7 D8 D9 E0 E1 E2 E3 E4 E5 E6 E7 E8 E9 F0 F1 F2 F3 F4 F5 : Value} {w : World}
    (h : cond C2
      (K (Value.bool false) w)
      (fldA Tryz.prog 27 s1 2 (fun E1 w =>
      fldA Tryz.prog 24 E1 3 (fun E2 w =>
      ld Tryz.prog 2 E2 (fun E3 w =>
      bin Tryz.prog BinOp.lss 2 false true E3 (Value.int IntKind.i64 (-1)) (fun E4 w =>
      (cCode Tryz.prog xc0 (cCode Tryz.prog (cd Tryz.f9 [1, 0, 0, 1, 1, 1, 1, 1]) qc0 (fun i => @Bool.rec (fun _ => KE) ((fun _ _ _ => False) i) qc0 (Nat.beq i 0)) (retK Tryz.prog Tryz.f9.results.toList K)) (fun i => @Bool.rec (fun _ => KE) ((fun _ _ _ => False) i) qc0 (Nat.beq i 0)) (retK Tryz.prog Tryz.f9.results.toList K)) (s0::s1::A0::A1::A2::A3::A4::A5::A6::A7::A8::A9::C0::C1::C2::C3::C4::C5::C6::C7::C8::C9::D0::D1::D2::D3::D4::D5::D6::D7::D8::D9::E4::E1::E2::E3::E4::E5::E6::E7::E8::E9::F0::F1::F2::F3::F4::F5::[]) w) w) w) w) w)) :
    cCode Tryz.prog (rep [1, 0, 1] xc0 (cd Tryz.f9 [1, 0, 0, 1, 1, 1])) qc0 (fun i => @Bool.rec (fun _ => KE) ((fun _ _ _ => False) i) qc0 (Nat.beq i 0)) (retK Tryz.prog Tryz.f9.results.toList K) (s0::s1::A0::A1::A2::A3::A4::A5::A6::A7::A8::A9::C0::C1::C2::C3::C4::C5::C6::C7::C8::C9::D0::D1::D2::D3::D4::D5::D6::D7::D8::D9::E0::E1::E2::E3::E4::E5::E6::E7::E8::E9::F0::F1::F2::F3::F4::F5::[]) w := Eq.mp (by kernel_rfl) h

theorem trace_May_P3_r {K : KV} {s0 s1 A0 A1 A2 A3 A4 A5 A6 A7 A8 A9 C0 C1 C2 C3 C4 C5 C6 C7 C8 C9 D0 D1 D2 D3 D4 D5 D6 D7 D8 D9 E0 E1 E2 E3 E4 E5 E6 E7 E8 E9 F0 F1 F2 F3 F4 F5 : Value} {w : World}
    (h : cond C2
      (K (Value.bool false) w)
      (fldA Tryz.prog 27 s1 2 (fun E1 w =>
      fldA Tryz.prog 24 E1 3 (fun E2 w =>
      ld Tryz.prog 2 E2 (fun E3 w =>
      bin Tryz.prog BinOp.lss 2 false true E3 (Value.int IntKind.i64 (-1)) (fun E4 w =>
      (trace_May_A3 K) (s0::s1::A0::A1::A2::A3::A4::A5::A6::A7::A8::A9::C0::C1::C2::C3::C4::C5::C6::C7::C8::C9::D0::D1::D2::D3::D4::D5::D6::D7::D8::D9::E4::E1::E2::E3::E4::E5::E6::E7::E8::E9::F0::F1::F2::F3::F4::F5::[]) w) w) w) w) w)) :
    trace_May_P3 K (s0::s1::A0::A1::A2::A3::A4::A5::A6::A7::A8::A9::C0::C1::C2::C3::C4::C5::C6::C7::C8::C9::D0::D1::D2::D3::D4::D5::D6::D7::D8::D9::E0::E1::E2::E3::E4::E5::E6::E7::E8::E9::F0::F1::F2::F3::F4::F5::[]) w := by
  delta trace_May_P3
  exact Eq.mp (congrArg (fun c => cCode Tryz.prog c (trace_May_P1 K) (fun i => @Bool.rec (fun _ => KE) ((fun _ _ _ => False) i) (trace_May_P1 K) (Nat.beq i 0)) (retK Tryz.prog Tryz.f9.results.toList K) (s0::s1::A0::A1::A2::A3::A4::A5::A6::A7::A8::A9::C0::C1::C2::C3::C4::C5::C6::C7::C8::C9::D0::D1::D2::D3::D4::D5::D6::D7::D8::D9::E0::E1::E2::E3::E4::E5::E6::E7::E8::E9::F0::F1::F2::F3::F4::F5::[]) w) (by kernel_rfl : (rep [1, 0, 1] (cd Tryz.f9 [1, 0, 0, 1, 1, 1, 1, 0, 1]) (cd Tryz.f9 [1, 0, 0, 1, 1, 1])) = (cd Tryz.f9 [1, 0, 0, 1, 1, 1]))) (trace_May_P3_k (trace_May_P1 K) (cd Tryz.f9 [1, 0, 0, 1, 1, 1, 1, 0, 1]) h)

theorem trace_May_A3_k {K : KV} (qc0 : KE) (qc1 : KE) {s0 s1 A0 A1 A2 A3 A4 A5 A6 A7 A8 A9 C0 C1 C2 C3 C4 C5 C6 C7 C8 C9 D0 D1 D2 D3 D4 D5 D6 D7 D8 D9 E0 E1 E2 E3 E4 E5 E6 E7 E8 E9 F0 F1 F2 F3 F4 F5 : Value} {w : World}
    (h : cond E0
      (qc0 (s0::s1::A0::A1::A2::A3::A4::A5::A6::A7::A8::A9::C0::C1::C2::C3::C4::C5::C6::C7::C8::C9::D0::D1::D2::D3::D4::D5::D6::D7::D8::D9::E0::E1::E2::E3::E4::E5::E6::E7::E8::E9::F0::F1::F2::F3::F4::F5::[]) w)
      (fldA Tryz.prog 27 s1 2 (fun E5 w =>
      fldA Tryz.prog 24 E5 3 (fun E6 w =>
      ld Tryz.prog 2 E6 (fun E7 w =>
      bin Tryz.prog BinOp.gtr 2 false true E7 (Value.int IntKind.i64 1152921504606846976) (fun E8 w =>
      cond E8
        (qc0 (s0::s1::A0::A1::A2::A3::A4::A5::A6::A7::A8::A9::C0::C1::C2::C3::C4::C5::C6::C7::C8::C9::D0::D1::D2::D3::D4::D5::D6::D7::D8::D9::E8::E1::E2::E3::E4::E5::E6::E7::E8::E9::F0::F1::F2::F3::F4::F5::[]) w)
        (fldA Tryz.prog 27 s1 6 (fun E9 w =>
        ld Tryz.prog 25 E9 (fun F0 w =>
        blt Tryz.prog Builtin.len #[25] 3 #[false] #[F0] (fun F1 w =>
        bin Tryz.prog BinOp.gtr 3 false true F1 (Value.int IntKind.i64 255) (fun F2 w =>
        qc0 (s0::s1::A0::A1::A2::A3::A4::A5::A6::A7::A8::A9::C0::C1::C2::C3::C4::C5::C6::C7::C8::C9::D0::D1::D2::D3::D4::D5::D6::D7::D8::D9::F2::E1::E2::E3::E4::E5::E6::E7::E8::E9::F0::F1::F2::F3::F4::F5::[]) w) w) w) w) w)) w) w) w) w)) :
    cCode Tryz.prog (cd Tryz.f9 [1, 0, 0, 1, 1, 1, 1, 0, 1]) qc0 (fun i => @Bool.rec (fun _ => KE) ((fun _ _ _ => False) i) qc1 (Nat.beq i 0)) (retK Tryz.prog Tryz.f9.results.toList K) (s0::s1::A0::A1::A2::A3::A4::A5::A6::A7::A8::A9::C0::C1::C2::C3::C4::C5::C6::C7::C8::C9::D0::D1::D2::D3::D4::D5::D6::D7::D8::D9::E0::E1::E2::E3::E4::E5::E6::E7::E8::E9::F0::F1::F2::F3::F4::F5::[]) w := Eq.mp (by kernel_rfl) h

theorem trace_May_A3_r {K : KV} {s0 s1 A0 A1 A2 A3 A4 A5 A6 A7 A8 A9 C0 C1 C2 C3 C4 C5 C6 C7 C8 C9 D0 D1 D2 D3 D4 D5 D6 D7 D8 D9 E0 E1 E2 E3 E4 E5 E6 E7 E8 E9 F0 F1 F2 F3 F4 F5 : Value} {w : World}
    (h : cond E0
      ((trace_May_P4 K) (s0::s1::A0::A1::A2::A3::A4::A5::A6::A7::A8::A9::C0::C1::C2::C3::C4::C5::C6::C7::C8::C9::D0::D1::D2::D3::D4::D5::D6::D7::D8::D9::E0::E1::E2::E3::E4::E5::E6::E7::E8::E9::F0::F1::F2::F3::F4::F5::[]) w)
      (fldA Tryz.prog 27 s1 2 (fun E5 w =>
      fldA Tryz.prog 24 E5 3 (fun E6 w =>
      ld Tryz.prog 2 E6 (fun E7 w =>
      bin Tryz.prog BinOp.gtr 2 false true E7 (Value.int IntKind.i64 1152921504606846976) (fun E8 w =>
      cond E8
        ((trace_May_P4 K) (s0::s1::A0::A1::A2::A3::A4::A5::A6::A7::A8::A9::C0::C1::C2::C3::C4::C5::C6::C7::C8::C9::D0::D1::D2::D3::D4::D5::D6::D7::D8::D9::E8::E1::E2::E3::E4::E5::E6::E7::E8::E9::F0::F1::F2::F3::F4::F5::[]) w)
        (fldA Tryz.prog 27 s1 6 (fun E9 w =>
        ld Tryz.prog 25 E9 (fun F0 w =>
        blt Tryz.prog Builtin.len #[25] 3 #[false] #[F0] (fun F1 w =>
        bin Tryz.prog BinOp.gtr 3 false true F1 (Value.int IntKind.i64 255) (fun F2 w =>
        (trace_May_P4 K) (s0::s1::A0::A1::A2::A3::A4::A5::A6::A7::A8::A9::C0::C1::C2::C3::C4::C5::C6::C7::C8::C9::D0::D1::D2::D3::D4::D5::D6::D7::D8::D9::F2::E1::E2::E3::E4::E5::E6::E7::E8::E9::F0::F1::F2::F3::F4::F5::[]) w) w) w) w) w)) w) w) w) w)) :
    trace_May_A3 K (s0::s1::A0::A1::A2::A3::A4::A5::A6::A7::A8::A9::C0::C1::C2::C3::C4::C5::C6::C7::C8::C9::D0::D1::D2::D3::D4::D5::D6::D7::D8::D9::E0::E1::E2::E3::E4::E5::E6::E7::E8::E9::F0::F1::F2::F3::F4::F5::[]) w := by
  delta trace_May_A3
  exact Eq.mp (congrArg (fun c => cCode Tryz.prog c (trace_May_P4 K) (fun i => @Bool.rec (fun _ => KE) ((fun _ _ _ => False) i) (trace_May_P1 K) (Nat.beq i 0)) (retK Tryz.prog Tryz.f9.results.toList K) (s0::s1::A0::A1::A2::A3::A4::A5::A6::A7::A8::A9::C0::C1::C2::C3::C4::C5::C6::C7::C8::C9::D0::D1::D2::D3::D4::D5::D6::D7::D8::D9::E0::E1::E2::E3::E4::E5::E6::E7::E8::E9::F0::F1::F2::F3::F4::F5::[]) w) (by kernel_rfl : (cd Tryz.f9 [1, 0, 0, 1, 1, 1, 1, 0, 1]) = (cd Tryz.f9 [1, 0, 0, 1, 1, 1, 1, 0, 1]))) (trace_May_A3_k (trace_May_P4 K) (trace_May_P1 K) h)

theorem trace_May_P4_k {K : KV} (qc0 : KE) {s0 s1 A0 A1 A2 A3 A4 A5 A6 A7 A8 A9 C0 C1 C2 C3 C4 C5 C6 C7 C8 C9 D0 D1 D2 D3 D4 D5 D6 D7 D8 D9 E0 E1 E2 E3 E4 E5 E6 E7 E8 E9 F0 F1 F2 F3 F4 F5 : Value} {w : World}
    (h : cond E0
      (K (Value.bool false) w)
      (qc0 (s0::s1::A0::A1::A2::A3::A4::A5::A6::A7::A8::A9::C0::C1::C2::C3::C4::C5::C6::C7::C8::C9::D0::D1::D2::D3::D4::D5::D6::D7::D8::D9::E0::E1::E2::E3::E4::E5::E6::E7::E8::E9::F0::F1::F2::F3::F4::F5::[]) w)) :
    cCode Tryz.prog (cd Tryz.f9 [1, 0, 0, 1, 1, 1, 1, 1]) qc0 (fun i => @Bool.rec (fun _ => KE) ((fun _ _ _ => False) i) qc0 (Nat.beq i 0)) (retK Tryz.prog Tryz.f9.results.toList K) (s0::s1::A0::A1::A2::A3::A4::A5::A6::A7::A8::A9::C0::C1::C2::C3::C4::C5::C6::C7::C8::C9::D0::D1::D2::D3::D4::D5::D6::D7::D8::D9::E0::E1::E2::E3::E4::E5::E6::E7::E8::E9::F0::F1::F2::F3::F4::F5::[]) w := Eq.mp (by kernel_rfl) h

theorem trace_May_P4_r {K : KV} {s0 s1 A0 A1 A2 A3 A4 A5 A6 A7 A8 A9 C0 C1 C2 C3 C4 C5 C6 C7 C8 C9 D0 D1 D2 D3 D4 D5 D6 D7 D8 D9 E0 E1 E2 E3 E4 E5 E6 E7 E8 E9 F0 F1 F2 F3 F4 F5 : Value} {w : World}
    (h : cond E0
      (K (Value.bool false) w)
      ((trace_May_P1 K) (s0::s1::A0::A1::A2::A3::A4::A5::A6::A7::A8::A9::C0::C1::C2::C3::C4::C5::C6::C7::C8::C9::D0::D1::D2::D3::D4::D5::D6::D7::D8::D9::E0::E1::E2::E3::E4::E5::E6::E7::E8::E9::F0::F1::F2::F3::F4::F5::[]) w)) :
    trace_May_P4 K (s0::s1::A0::A1::A2::A3::A4::A5::A6::A7::A8::A9::C0::C1::C2::C3::C4::C5::C6::C7::C8::C9::D0::D1::D2::D3::D4::D5::D6::D7::D8::D9::E0::E1::E2::E3::E4::E5::E6::E7::E8::E9::F0::F1::F2::F3::F4::F5::[]) w := by
  delta trace_May_P4
  exact Eq.mp (congrArg (fun c => cCode Tryz.prog c (trace_May_P1 K) (fun i => @Bool.rec (fun _ => KE) ((fun _ _ _ => False) i) (trace_May_P1 K) (Nat.beq i 0)) (retK Tryz.prog Tryz.f9.results.toList K) (s0::s1::A0::A1::A2::A3::A4::A5::A6::A7::A8::A9::C0::C1::C2::C3::C4::C5::C6::C7::C8::C9::D0::D1::D2::D3::D4::D5::D6::D7::D8::D9::E0::E1::E2::E3::E4::E5::E6::E7::E8::E9::F0::F1::F2::F3::F4::F5::[]) w) (by kernel_rfl : (cd Tryz.f9 [1, 0, 0, 1, 1, 1, 1, 1]) = (cd Tryz.f9 [1, 0, 0, 1, 1, 1, 1, 1]))) (trace_May_P4_k (trace_May_P1 K) h)

theorem trace_May_P1_k {K : KV} {s0 s1 A0 A1 A2 A3 A4 A5 A6 A7 A8 A9 C0 C1 C2 C3 C4 C5 C6 C7 C8 C9 D0 D1 D2 D3 D4 D5 D6 D7 D8 D9 E0 E1 E2 E3 E4 E5 E6 E7 E8 E9 F0 F1 F2 F3 F4 F5 : Value} {w : World}
    (h : fldA Tryz.prog 27 s1 6 (fun F3 w =>
    ld Tryz.prog 25 F3 (fun F4 w =>
    call Tryz.prog 27 #[(Value.int IntKind.i64 (-1)), (Value.int IntKind.i64 254), F4] (fun F5 w =>
    K F5 w) w) w) w) :
    cCode Tryz.prog (cd Tryz.f9 [1, 1]) (retK Tryz.prog Tryz.f9.results.toList K) (fun _ _ _ => False) (retK Tryz.prog Tryz.f9.results.toList K) (s0::s1::A0::A1::A2::A3::A4::A5::A6::A7::A8::A9::C0::C1::C2::C3::C4::C5::C6::C7::C8::C9::D0::D1::D2::D3::D4::D5::D6::D7::D8::D9::E0::E1::E2::E3::E4::E5::E6::E7::E8::E9::F0::F1::F2::F3::F4::F5::[]) w := Eq.mp (by kernel_rfl) h

theorem trace_May_P1_r {K : KV} {s0 s1 A0 A1 A2 A3 A4 A5 A6 A7 A8 A9 C0 C1 C2 C3 C4 C5 C6 C7 C8 C9 D0 D1 D2 D3 D4 D5 D6 D7 D8 D9 E0 E1 E2 E3 E4 E5 E6 E7 E8 E9 F0 F1 F2 F3 F4 F5 : Value} {w : World}
    (h : fldA Tryz.prog 27 s1 6 (fun F3 w =>
    ld Tryz.prog 25 F3 (fun F4 w =>
    call Tryz.prog 27 #[(Value.int IntKind.i64 (-1)), (Value.int IntKind.i64 254), F4] (fun F5 w =>
    K F5 w) w) w) w) :
    trace_May_P1 K (s0::s1::A0::A1::A2::A3::A4::A5::A6::A7::A8::A9::C0::C1::C2::C3::C4::C5::C6::C7::C8::C9::D0::D1::D2::D3::D4::D5::D6::D7::D8::D9::E0::E1::E2::E3::E4::E5::E6::E7::E8::E9::F0::F1::F2::F3::F4::F5::[]) w := by
  delta trace_May_P1
  exact Eq.mp (congrArg (fun c => cCode Tryz.prog c (retK Tryz.prog Tryz.f9.results.toList K) (fun _ _ _ => False) (retK Tryz.prog Tryz.f9.results.toList K) (s0::s1::A0::A1::A2::A3::A4::A5::A6::A7::A8::A9::C0::C1::C2::C3::C4::C5::C6::C7::C8::C9::D0::D1::D2::D3::D4::D5::D6::D7::D8::D9::E0::E1::E2::E3::E4::E5::E6::E7::E8::E9::F0::F1::F2::F3::F4::F5::[]) w) (by kernel_rfl : (cd Tryz.f9 [1, 1]) = (cd Tryz.f9 [1, 1]))) (trace_May_P1_k h)
attribute [irreducible] trace_May_P1 trace_May_P2 trace_May_A1 trace_May_P3 trace_May_A2 trace_May_P4 trace_May_A3


section
variable {s0 s1 A0 p3 A2 x5 A4 x7 A6 A7 A8 A9 C0 C1 C2 C3 C4 C5 C6 C7 C8 C9 D0 D1 D2 D3 D4 D5 D6 D7 D8 D9 E0 E1 E2 E3 E4 E5 E6 E7 E8 E9 F0 F1 F2 F3 F4 F5 F6 F7 F8 F9 G0 G1 G2 G3 G4 G5 G6 G7 G8 G9 H0 H1 H2 H3 H4 H5 H6 H7 H8 H9 I0 I1 I2 I3 I4 I5 I6 I7 I8 I9 J0 J1 : Value}


end
theorem trace_eye_get_k {K : KV} {y0 size1 : Value} {w : World}
    (h : hReg (fun S w =>
    hld S (fun k w => nilC y0 k w) (fun A8 =>
    hld S (fun k w => fldA Tryz.prog 75 A8 0 k w) (fun A9 =>
    hld S (fun k w => ld Tryz.prog 28 A9 k w) (fun C0 =>
    hld S (fun k w => nilC y0 k w) (fun C2 =>
    hld S (fun k w => fldA Tryz.prog 75 C2 1 k w) (fun C3 =>
    hld S (fun k w => ld Tryz.prog 3 C3 k w) (fun C4 =>
    call Tryz.prog 45 #[C0, C4, size1] (fun C6 w =>
    hReg (fun S w =>
    hld S (fun k w => ext Tryz.prog C6 0 k w) (fun C7 =>
    hld S (fun k w => ext Tryz.prog C6 1 k w) (fun C8 =>
    hld S (fun k w => ext Tryz.prog C6 2 k w) (fun C9 =>
    nilC y0 (fun D1 w =>
    fldA Tryz.prog 75 D1 2 (fun D2 w =>
    ld Tryz.prog 4 D2 (fun D3 w =>
    gsel D3 false (fun k27 =>
    bin Tryz.prog BinOp.neq 34 false true C9 (Value.int IntKind.i64 0) (fun D6 w =>
    k27 [C9, D6] w) w)
    (fun k => k [undef, undef] w) (fun us27 w =>
    pick D3 (Value.bool true) (gd us27 1) (fun D7 w =>
    cond D7
      (nilC y0 (fun D9 w =>
      fldA Tryz.prog 75 D9 2 (fun E0 w =>
      sto Tryz.prog 4 E0 (Value.bool true) (fun _t w =>
      K (Value.int IntKind.u64 0) w) w) w) w)
      (nilC y0 (fun E3 w =>
    fldA Tryz.prog 75 E3 1 (fun E4 w =>
    sto Tryz.prog 3 E4 C8 (fun _t w =>
    K C7 w) w) w) w)) w)) w) w) w)))) w) w))))))) w.drew) :
    cCode Tryz.prog (cd Tryz.f29 []) (retK Tryz.prog Tryz.f29.results.toList K) (fun _ _ _ => False) (retK Tryz.prog Tryz.f29.results.toList K) [y0, size1, undef, undef, undef, undef, undef, undef, undef, undef, undef, undef, undef, undef, undef, undef, undef, undef, undef, undef, undef, undef, undef, undef, undef, undef, undef, undef, undef, undef, undef, undef, undef, undef, undef, undef, undef, undef] w := Eq.mp (by kernel_rfl) h

theorem trace_eye_get_in {K : KV} {y0 size1 : Value} {w : World}
    (h : hReg (fun S w =>
    hld S (fun k w => nilC y0 k w) (fun A8 =>
    hld S (fun k w => fldA Tryz.prog 75 A8 0 k w) (fun A9 =>
    hld S (fun k w => ld Tryz.prog 28 A9 k w) (fun C0 =>
    hld S (fun k w => nilC y0 k w) (fun C2 =>
    hld S (fun k w => fldA Tryz.prog 75 C2 1 k w) (fun C3 =>
    hld S (fun k w => ld Tryz.prog 3 C3 k w) (fun C4 =>
    call Tryz.prog 45 #[C0, C4, size1] (fun C6 w =>
    hReg (fun S w =>
    hld S (fun k w => ext Tryz.prog C6 0 k w) (fun C7 =>
    hld S (fun k w => ext Tryz.prog C6 1 k w) (fun C8 =>
    hld S (fun k w => ext Tryz.prog C6 2 k w) (fun C9 =>
    nilC y0 (fun D1 w =>
    fldA Tryz.prog 75 D1 2 (fun D2 w =>
    ld Tryz.prog 4 D2 (fun D3 w =>
    gsel D3 false (fun k27 =>
    bin Tryz.prog BinOp.neq 34 false true C9 (Value.int IntKind.i64 0) (fun D6 w =>
    k27 [C9, D6] w) w)
    (fun k => k [undef, undef] w) (fun us27 w =>
    pick D3 (Value.bool true) (gd us27 1) (fun D7 w =>
    cond D7
      (nilC y0 (fun D9 w =>
      fldA Tryz.prog 75 D9 2 (fun E0 w =>
      sto Tryz.prog 4 E0 (Value.bool true) (fun _t w =>
      K (Value.int IntKind.u64 0) w) w) w) w)
      (nilC y0 (fun E3 w =>
    fldA Tryz.prog 75 E3 1 (fun E4 w =>
    sto Tryz.prog 3 E4 C8 (fun _t w =>
    K C7 w) w) w) w)) w)) w) w) w)))) w) w))))))) w.drew) :
    Gives Tryz.prog 29 #[y0, size1] w K := enter' Tryz.func29 (by kernel_rfl) (Eq.mp (congrArg (fun c => cCode Tryz.prog c (retK Tryz.prog Tryz.f29.results.toList K) (fun _ _ _ => False) (retK Tryz.prog Tryz.f29.results.toList K) [y0, size1, undef, undef, undef, undef, undef, undef, undef, undef, undef, undef, undef, undef, undef, undef, undef, undef, undef, undef, undef, undef, undef, undef, undef, undef, undef, undef, undef, undef, undef, undef, undef, undef, undef, undef, undef, undef] w) (by kernel_rfl : (cd Tryz.f29 []) = (cd Tryz.f29 []))) (trace_eye_get_k h))
theorem trace_eye_get_go : isGo Tryz.prog 29 := ⟨_, Tryz.func29, by kernel_rfl, by kernel_rfl⟩


theorem trace_eye_less_k {K : KV} {y0 size1 : Value} {w : World}
    (h : call Tryz.prog 29 #[y0, size1] (fun A5 w =>
    conv Tryz.prog 22 3 A5 (fun A6 w =>
    bin Tryz.prog BinOp.sub 3 false true A6 (Value.int IntKind.i64 1) (fun A7 w =>
    K A7 w) w) w) w) :
    cCode Tryz.prog (cd Tryz.f30 []) (retK Tryz.prog Tryz.f30.results.toList K) (fun _ _ _ => False) (retK Tryz.prog Tryz.f30.results.toList K) [y0, size1, undef, undef, undef, undef, undef, undef, undef, undef] w := Eq.mp (by kernel_rfl) h

theorem trace_eye_less_in {K : KV} {y0 size1 : Value} {w : World}
    (h : call Tryz.prog 29 #[y0, size1] (fun A5 w =>
    conv Tryz.prog 22 3 A5 (fun A6 w =>
    bin Tryz.prog BinOp.sub 3 false true A6 (Value.int IntKind.i64 1) (fun A7 w =>
    K A7 w) w) w) w) :
    Gives Tryz.prog 30 #[y0, size1] w K := enter' Tryz.func30 (by kernel_rfl) (Eq.mp (congrArg (fun c => cCode Tryz.prog c (retK Tryz.prog Tryz.f30.results.toList K) (fun _ _ _ => False) (retK Tryz.prog Tryz.f30.results.toList K) [y0, size1, undef, undef, undef, undef, undef, undef, undef, undef] w) (by kernel_rfl : (cd Tryz.f30 []) = (cd Tryz.f30 []))) (trace_eye_less_k h))
theorem trace_eye_less_go : isGo Tryz.prog 30 := ⟨_, Tryz.func30, by kernel_rfl, by kernel_rfl⟩

def trace_Get_A1 (K : KV) : KE := cCode Tryz.prog (cd Tryz.f12 [1, 1, 1, 1, 1]) (retK Tryz.prog Tryz.f12.results.toList K) (fun _ _ _ => False) (retK Tryz.prog Tryz.f12.results.toList K)
def trace_Get_A2 (K : KV) : KE := cCode Tryz.prog (cd Tryz.f12 [1, 1, 1, 1, 1, 1, 1, 1]) (retK Tryz.prog Tryz.f12.results.toList K) (fun _ _ _ => False) (retK Tryz.prog Tryz.f12.results.toList K)
def trace_Get_P1 (K : KV) : KE := cCode Tryz.prog (cd Tryz.f12 [1, 1, 1, 1, 1, 1, 1, 1, 1]) (retK Tryz.prog Tryz.f12.results.toList K) (fun _ _ _ => False) (retK Tryz.prog Tryz.f12.results.toList K)
def trace_Get_L1 (K : KV) : KE := cCode Tryz.prog (cd Tryz.f12 [1, 1, 1, 1, 1, 1, 1, 1, 0, 1, 0]) (trace_Get_P1 K) (fun i => @Bool.rec (fun _ => KE) ((fun _ _ _ => False) i) (trace_Get_P1 K) (Nat.beq i 0)) (retK Tryz.prog Tryz.f12.results.toList K)
theorem trace_Get_k {K : KV} (xc0 : Code) {b0 : Value} {w : World}
    (h : alc Tryz.prog 27 (fun A0 w =>
    bld Tryz.prog 75 #[(0, b0)] (fun A6 w =>
    box Tryz.prog 75 A6 (fun A7 w =>
    alc Tryz.prog 27 (fun s5 w =>
    call Tryz.prog 29 #[A7, (Value.int IntKind.i64 1)] (fun A9 w =>
    conv Tryz.prog 22 5 A9 (fun C0 w =>
    fldA Tryz.prog 27 s5 0 (fun C1 w =>
    sto Tryz.prog 5 C1 C0 (fun _t w =>
    call Tryz.prog 30 #[A7, (Value.int IntKind.i64 2)] (fun C3 w =>
    call Tryz.prog 30 #[A7, (Value.int IntKind.i64 2)] (fun C5 w =>
    call Tryz.prog 30 #[A7, (Value.int IntKind.i64 2)] (fun C7 w =>
    call Tryz.prog 30 #[A7, (Value.int IntKind.i64 4)] (fun C9 w =>
    fldA Tryz.prog 27 s5 1 (fun D0 w =>
    sto Tryz.prog 3 D0 C3 (fun _t w =>
    fldA Tryz.prog 27 s5 4 (fun D1 w =>
    sto Tryz.prog 3 D1 C5 (fun _t w =>
    fldA Tryz.prog 27 s5 3 (fun D2 w =>
    sto Tryz.prog 3 D2 C7 (fun _t w =>
    fldA Tryz.prog 27 s5 5 (fun D3 w =>
    sto Tryz.prog 3 D3 C9 (fun _t w =>
    (cCode Tryz.prog xc0 (retK Tryz.prog Tryz.f12.results.toList K) (fun _ _ _ => False) (retK Tryz.prog Tryz.f12.results.toList K)) (b0::undef::A0::(Value.int IntKind.i64 0)::A7::s5::undef::b0::A6::A7::A7::A9::C0::C1::A7::C3::A7::C5::A7::C7::A7::C9::D0::D1::D2::D3::undef::undef::undef::undef::undef::undef::undef::undef::undef::undef::undef::undef::undef::undef::undef::undef::undef::undef::undef::undef::undef::undef::undef::undef::undef::undef::undef::undef::undef::undef::undef::undef::undef::undef::undef::undef::undef::undef::undef::undef::undef::undef::undef::undef::undef::undef::undef::undef::undef::undef::undef::undef::undef::undef::undef::undef::undef::undef::undef::undef::undef::undef::undef::undef::undef::undef::undef::[]) w) w) w) w) w) w) w) w) w) w) w) w) w) w) w) w) w) w) w) w) w) :
    cCode Tryz.prog (rep [1, 1, 1, 1, 1] xc0 (cd Tryz.f12 [])) (retK Tryz.prog Tryz.f12.results.toList K) (fun _ _ _ => False) (retK Tryz.prog Tryz.f12.results.toList K) (b0::undef::undef::undef::undef::undef::undef::undef::undef::undef::undef::undef::undef::undef::undef::undef::undef::undef::undef::undef::undef::undef::undef::undef::undef::undef::undef::undef::undef::undef::undef::undef::undef::undef::undef::undef::undef::undef::undef::undef::undef::undef::undef::undef::undef::undef::undef::undef::undef::undef::undef::undef::undef::undef::undef::undef::undef::undef::undef::undef::undef::undef::undef::undef::undef::undef::undef::undef::undef::undef::undef::undef::undef::undef::undef::undef::undef::undef::undef::undef::undef::undef::undef::undef::undef::undef::undef::undef::undef::undef::undef::undef::undef::[]) w := Eq.mp (by kernel_rfl) h

theorem trace_Get_in {K : KV} {b0 : Value} {w : World}
    (h : alc Tryz.prog 27 (fun A0 w =>
    bld Tryz.prog 75 #[(0, b0)] (fun A6 w =>
    box Tryz.prog 75 A6 (fun A7 w =>
    alc Tryz.prog 27 (fun s5 w =>
    call Tryz.prog 29 #[A7, (Value.int IntKind.i64 1)] (fun A9 w =>
    conv Tryz.prog 22 5 A9 (fun C0 w =>
    fldA Tryz.prog 27 s5 0 (fun C1 w =>
    sto Tryz.prog 5 C1 C0 (fun _t w =>
    call Tryz.prog 30 #[A7, (Value.int IntKind.i64 2)] (fun C3 w =>
    call Tryz.prog 30 #[A7, (Value.int IntKind.i64 2)] (fun C5 w =>
    call Tryz.prog 30 #[A7, (Value.int IntKind.i64 2)] (fun C7 w =>
    call Tryz.prog 30 #[A7, (Value.int IntKind.i64 4)] (fun C9 w =>
    fldA Tryz.prog 27 s5 1 (fun D0 w =>
    sto Tryz.prog 3 D0 C3 (fun _t w =>
    fldA Tryz.prog 27 s5 4 (fun D1 w =>
    sto Tryz.prog 3 D1 C5 (fun _t w =>
    fldA Tryz.prog 27 s5 3 (fun D2 w =>
    sto Tryz.prog 3 D2 C7 (fun _t w =>
    fldA Tryz.prog 27 s5 5 (fun D3 w =>
    sto Tryz.prog 3 D3 C9 (fun _t w =>
    (trace_Get_A1 K) (b0::undef::A0::(Value.int IntKind.i64 0)::A7::s5::undef::b0::A6::A7::A7::A9::C0::C1::A7::C3::A7::C5::A7::C7::A7::C9::D0::D1::D2::D3::undef::undef::undef::undef::undef::undef::undef::undef::undef::undef::undef::undef::undef::undef::undef::undef::undef::undef::undef::undef::undef::undef::undef::undef::undef::undef::undef::undef::undef::undef::undef::undef::undef::undef::undef::undef::undef::undef::undef::undef::undef::undef::undef::undef::undef::undef::undef::undef::undef::undef::undef::undef::undef::undef::undef::undef::undef::undef::undef::undef::undef::undef::undef::undef::undef::undef::undef::[]) w) w) w) w) w) w) w) w) w) w) w) w) w) w) w) w) w) w) w) w) w) :
    Gives Tryz.prog 12 #[b0] w K := enter' Tryz.func12 (by kernel_rfl) (Eq.mp (congrArg (fun c => cCode Tryz.prog c (retK Tryz.prog Tryz.f12.results.toList K) (fun _ _ _ => False) (retK Tryz.prog Tryz.f12.results.toList K) (b0::undef::undef::undef::undef::undef::undef::undef::undef::undef::undef::undef::undef::undef::undef::undef::undef::undef::undef::undef::undef::undef::undef::undef::undef::undef::undef::undef::undef::undef::undef::undef::undef::undef::undef::undef::undef::undef::undef::undef::undef::undef::undef::undef::undef::undef::undef::undef::undef::undef::undef::undef::undef::undef::undef::undef::undef::undef::undef::undef::undef::undef::undef::undef::undef::undef::undef::undef::undef::undef::undef::undef::undef::undef::undef::undef::undef::undef::undef::undef::undef::undef::undef::undef::undef::undef::undef::undef::undef::undef::undef::undef::undef::[]) w) (by kernel_rfl : (rep [1, 1, 1, 1, 1] (cd Tryz.f12 [1, 1, 1, 1, 1]) (cd Tryz.f12 [])) = (cd Tryz.f12 []))) (trace_Get_k (cd Tryz.f12 [1, 1, 1, 1, 1]) h))
theorem trace_Get_go : isGo Tryz.prog 12 := ⟨_, Tryz.func12, by kernel_rfl, by kernel_rfl⟩

section
variable {b0 b1 A0 A1 y4 s5 n6 A5 A6 A7 A8 A9 C0 C1 C2 C3 C4 C5 C6 C7 C8 C9 D0 D1 D2 D3 D4 D5 D6 D7 D8 D9 E0 E1 E2 E3 E4 E5 E6 E7 E8 E9 F0 F1 F2 F3 F4 F5 F6 F7 F8 F9 G0 G1 G2 G3 G4 G5 G6 G7 G8 G9 H0 H1 H2 H3 H4 H5 H6 H7 H8 H9 I0 I1 I2 I3 I4 I5 I6 I7 I8 I9 J0 J1 J2 J3 J4 J5 J6 J7 J8 J9 L0 : Value}
theorem trace_Get_A1_k {K : KV} (xc0 : Code) {w : World}
    (h : call Tryz.prog 29 #[y4, (Value.int IntKind.i64 1)] (fun D5 w =>
    conv Tryz.prog 22 5 D5 (fun D6 w =>
    call Tryz.prog 29 #[y4, (Value.int IntKind.i64 8)] (fun D8 w =>
    call Tryz.prog 30 #[y4, (Value.int IntKind.i64 2)] (fun E0 w =>
    fldA Tryz.prog 27 s5 2 (fun E1 w =>
    fldA Tryz.prog 24 E1 0 (fun E2 w =>
    sto Tryz.prog 5 E2 D6 (fun _t w =>
    fldA Tryz.prog 27 s5 2 (fun E3 w =>
    fldA Tryz.prog 24 E3 1 (fun E4 w =>
    sto Tryz.prog 22 E4 D8 (fun _t w =>
    fldA Tryz.prog 27 s5 2 (fun E5 w =>
    fldA Tryz.prog 24 E5 2 (fun E6 w =>
    sto Tryz.prog 3 E6 E0 (fun _t w =>
    call Tryz.prog 29 #[y4, (Value.int IntKind.i64 8)] (fun E8 w =>
    bin Tryz.prog BinOp.sub 22 false true E8 (Value.int IntKind.u64 1) (fun E9 w =>
    conv Tryz.prog 22 2 E9 (fun F0 w =>
    fldA Tryz.prog 27 s5 2 (fun F1 w =>
    fldA Tryz.prog 24 F1 3 (fun F2 w =>
    sto Tryz.prog 2 F2 F0 (fun _t w =>
    call Tryz.prog 29 #[y4, (Value.int IntKind.i64 8)] (fun F4 w =>
    call Tryz.prog 29 #[y4, (Value.int IntKind.i64 8)] (fun F6 w =>
    fldA Tryz.prog 27 s5 2 (fun F7 w =>
    fldA Tryz.prog 24 F7 4 (fun F8 w =>
    sto Tryz.prog 22 F8 F4 (fun _t w =>
    fldA Tryz.prog 27 s5 2 (fun F9 w =>
    fldA Tryz.prog 24 F9 5 (fun G0 w =>
    sto Tryz.prog 22 G0 F6 (fun _t w =>
    (cCode Tryz.prog xc0 (retK Tryz.prog Tryz.f12.results.toList K) (fun _ _ _ => False) (retK Tryz.prog Tryz.f12.results.toList K)) (b0::b1::A0::A1::y4::s5::n6::A5::A6::A7::A8::A9::C0::C1::C2::C3::C4::C5::C6::C7::C8::C9::D0::D1::D2::D3::y4::D5::D6::y4::D8::y4::E0::E1::E2::E3::E4::E5::E6::y4::E8::E9::F0::F1::F2::y4::F4::y4::F6::F7::F8::F9::G0::G1::G2::G3::G4::G5::G6::G7::G8::G9::H0::H1::H2::H3::H4::H5::H6::H7::H8::H9::I0::I1::I2::I3::I4::I5::I6::I7::I8::I9::J0::J1::J2::J3::J4::J5::J6::J7::J8::J9::L0::[]) w) w) w) w) w) w) w) w) w) w) w) w) w) w) w) w) w) w) w) w) w) w) w) w) w) w) w) w) :
    cCode Tryz.prog (rep [1, 1, 1] xc0 (cd Tryz.f12 [1, 1, 1, 1, 1])) (retK Tryz.prog Tryz.f12.results.toList K) (fun _ _ _ => False) (retK Tryz.prog Tryz.f12.results.toList K) (b0::b1::A0::A1::y4::s5::n6::A5::A6::A7::A8::A9::C0::C1::C2::C3::C4::C5::C6::C7::C8::C9::D0::D1::D2::D3::D4::D5::D6::D7::D8::D9::E0::E1::E2::E3::E4::E5::E6::E7::E8::E9::F0::F1::F2::F3::F4::F5::F6::F7::F8::F9::G0::G1::G2::G3::G4::G5::G6::G7::G8::G9::H0::H1::H2::H3::H4::H5::H6::H7::H8::H9::I0::I1::I2::I3::I4::I5::I6::I7::I8::I9::J0::J1::J2::J3::J4::J5::J6::J7::J8::J9::L0::[]) w := Eq.mp (by kernel_rfl) h

theorem trace_Get_A1_r {K : KV} {w : World}
    (h : call Tryz.prog 29 #[y4, (Value.int IntKind.i64 1)] (fun D5 w =>
    conv Tryz.prog 22 5 D5 (fun D6 w =>
    call Tryz.prog 29 #[y4, (Value.int IntKind.i64 8)] (fun D8 w =>
    call Tryz.prog 30 #[y4, (Value.int IntKind.i64 2)] (fun E0 w =>
    fldA Tryz.prog 27 s5 2 (fun E1 w =>
    fldA Tryz.prog 24 E1 0 (fun E2 w =>
    sto Tryz.prog 5 E2 D6 (fun _t w =>
    fldA Tryz.prog 27 s5 2 (fun E3 w =>
    fldA Tryz.prog 24 E3 1 (fun E4 w =>
    sto Tryz.prog 22 E4 D8 (fun _t w =>
    fldA Tryz.prog 27 s5 2 (fun E5 w =>
    fldA Tryz.prog 24 E5 2 (fun E6 w =>
    sto Tryz.prog 3 E6 E0 (fun _t w =>
    call Tryz.prog 29 #[y4, (Value.int IntKind.i64 8)] (fun E8 w =>
    bin Tryz.prog BinOp.sub 22 false true E8 (Value.int IntKind.u64 1) (fun E9 w =>
    conv Tryz.prog 22 2 E9 (fun F0 w =>
    fldA Tryz.prog 27 s5 2 (fun F1 w =>
    fldA Tryz.prog 24 F1 3 (fun F2 w =>
    sto Tryz.prog 2 F2 F0 (fun _t w =>
    call Tryz.prog 29 #[y4, (Value.int IntKind.i64 8)] (fun F4 w =>
    call Tryz.prog 29 #[y4, (Value.int IntKind.i64 8)] (fun F6 w =>
    fldA Tryz.prog 27 s5 2 (fun F7 w =>
    fldA Tryz.prog 24 F7 4 (fun F8 w =>
    sto Tryz.prog 22 F8 F4 (fun _t w =>
    fldA Tryz.prog 27 s5 2 (fun F9 w =>
    fldA Tryz.prog 24 F9 5 (fun G0 w =>
    sto Tryz.prog 22 G0 F6 (fun _t w =>
    (trace_Get_A2 K) (b0::b1::A0::A1::y4::s5::n6::A5::A6::A7::A8::A9::C0::C1::C2::C3::C4::C5::C6::C7::C8::C9::D0::D1::D2::D3::y4::D5::D6::y4::D8::y4::E0::E1::E2::E3::E4::E5::E6::y4::E8::E9::F0::F1::F2::y4::F4::y4::F6::F7::F8::F9::G0::G1::G2::G3::G4::G5::G6::G7::G8::G9::H0::H1::H2::H3::H4::H5::H6::H7::H8::H9::I0::I1::I2::I3::I4::I5::I6::I7::I8::I9::J0::J1::J2::J3::J4::J5::J6::J7::J8::J9::L0::[]) w) w) w) w) w) w) w) w) w) w) w) w) w) w) w) w) w) w) w) w) w) w) w) w) w) w) w) w) :
    trace_Get_A1 K (b0::b1::A0::A1::y4::s5::n6::A5::A6::A7::A8::A9::C0::C1::C2::C3::C4::C5::C6::C7::C8::C9::D0::D1::D2::D3::D4::D5::D6::D7::D8::D9::E0::E1::E2::E3::E4::E5::E6::E7::E8::E9::F0::F1::F2::F3::F4::F5::F6::F7::F8::F9::G0::G1::G2::G3::G4::G5::G6::G7::G8::G9::H0::H1::H2::H3::H4::H5::H6::H7::H8::H9::I0::I1::I2::I3::I4::I5::I6::I7::I8::I9::J0::J1::J2::J3::J4::J5::J6::J7::J8::J9::L0::[]) w := by
  delta trace_Get_A1
  exact Eq.mp (congrArg (fun c => cCode Tryz.prog c (retK Tryz.prog Tryz.f12.results.toList K) (fun _ _ _ => False) (retK Tryz.prog Tryz.f12.results.toList K) (b0::b1::A0::A1::y4::s5::n6::A5::A6::A7::A8::A9::C0::C1::C2::C3::C4::C5::C6::C7::C8::C9::D0::D1::D2::D3::D4::D5::D6::D7::D8::D9::E0::E1::E2::E3::E4::E5::E6::E7::E8::E9::F0::F1::F2::F3::F4::F5::F6::F7::F8::F9::G0::G1::G2::G3::G4::G5::G6::G7::G8::G9::H0::H1::H2::H3::H4::H5::H6::H7::H8::H9::I0::I1::I2::I3::I4::I5::I6::I7::I8::I9::J0::J1::J2::J3::J4::J5::J6::J7::J8::J9::L0::[]) w) (by kernel_rfl : (rep [1, 1, 1] (cd Tryz.f12 [1, 1, 1, 1, 1, 1, 1, 1]) (cd Tryz.f12 [1, 1, 1, 1, 1])) = (cd Tryz.f12 [1, 1, 1, 1, 1]))) (trace_Get_A1_k (cd Tryz.f12 [1, 1, 1, 1, 1, 1, 1, 1]) h)

theorem trace_Get_A2_k {K : KV} {w : World}
    (h : call Tryz.prog 29 #[y4, (Value.int IntKind.i64 1)] (fun G2 w =>
    (cCode Tryz.prog (cd Tryz.f12 [1, 1, 1, 1, 1, 1, 1, 1, 0, 1, 0]) (cCode Tryz.prog (cd Tryz.f12 [1, 1, 1, 1, 1, 1, 1, 1, 1]) (retK Tryz.prog Tryz.f12.results.toList K) (fun _ _ _ => False) (retK Tryz.prog Tryz.f12.results.toList K)) (fun i => @Bool.rec (fun _ => KE) ((fun _ _ _ => False) i) (cCode Tryz.prog (cd Tryz.f12 [1, 1, 1, 1, 1, 1, 1, 1, 1]) (retK Tryz.prog Tryz.f12.results.toList K) (fun _ _ _ => False) (retK Tryz.prog Tryz.f12.results.toList K)) (Nat.beq i 0)) (retK Tryz.prog Tryz.f12.results.toList K)) (b0::b1::A0::A1::y4::s5::G2::A5::A6::A7::A8::A9::C0::C1::C2::C3::C4::C5::C6::C7::C8::C9::D0::D1::D2::D3::D4::D5::D6::D7::D8::D9::E0::E1::E2::E3::E4::E5::E6::E7::E8::E9::F0::F1::F2::F3::F4::F5::F6::F7::F8::F9::G0::y4::G2::G3::G4::G5::G6::G7::G8::G9::H0::H1::H2::H3::H4::H5::H6::H7::H8::H9::I0::I1::I2::I3::I4::I5::I6::I7::I8::I9::J0::J1::J2::J3::J4::J5::J6::J7::J8::J9::L0::[]) w) w) :
    cCode Tryz.prog (cd Tryz.f12 [1, 1, 1, 1, 1, 1, 1, 1]) (retK Tryz.prog Tryz.f12.results.toList K) (fun _ _ _ => False) (retK Tryz.prog Tryz.f12.results.toList K) (b0::b1::A0::A1::y4::s5::n6::A5::A6::A7::A8::A9::C0::C1::C2::C3::C4::C5::C6::C7::C8::C9::D0::D1::D2::D3::D4::D5::D6::D7::D8::D9::E0::E1::E2::E3::E4::E5::E6::E7::E8::E9::F0::F1::F2::F3::F4::F5::F6::F7::F8::F9::G0::G1::G2::G3::G4::G5::G6::G7::G8::G9::H0::H1::H2::H3::H4::H5::H6::H7::H8::H9::I0::I1::I2::I3::I4::I5::I6::I7::I8::I9::J0::J1::J2::J3::J4::J5::J6::J7::J8::J9::L0::[]) w := Eq.mp (by kernel_rfl) h

theorem trace_Get_A2_r {K : KV} {w : World}
    (h : call Tryz.prog 29 #[y4, (Value.int IntKind.i64 1)] (fun G2 w =>
    (trace_Get_L1 K) (b0::b1::A0::A1::y4::s5::G2::A5::A6::A7::A8::A9::C0::C1::C2::C3::C4::C5::C6::C7::C8::C9::D0::D1::D2::D3::D4::D5::D6::D7::D8::D9::E0::E1::E2::E3::E4::E5::E6::E7::E8::E9::F0::F1::F2::F3::F4::F5::F6::F7::F8::F9::G0::y4::G2::G3::G4::G5::G6::G7::G8::G9::H0::H1::H2::H3::H4::H5::H6::H7::H8::H9::I0::I1::I2::I3::I4::I5::I6::I7::I8::I9::J0::J1::J2::J3::J4::J5::J6::J7::J8::J9::L0::[]) w) w) :
    trace_Get_A2 K (b0::b1::A0::A1::y4::s5::n6::A5::A6::A7::A8::A9::C0::C1::C2::C3::C4::C5::C6::C7::C8::C9::D0::D1::D2::D3::D4::D5::D6::D7::D8::D9::E0::E1::E2::E3::E4::E5::E6::E7::E8::E9::F0::F1::F2::F3::F4::F5::F6::F7::F8::F9::G0::G1::G2::G3::G4::G5::G6::G7::G8::G9::H0::H1::H2::H3::H4::H5::H6::H7::H8::H9::I0::I1::I2::I3::I4::I5::I6::I7::I8::I9::J0::J1::J2::J3::J4::J5::J6::J7::J8::J9::L0::[]) w := by
  delta trace_Get_A2
  exact Eq.mp (congrArg (fun c => cCode Tryz.prog c (retK Tryz.prog Tryz.f12.results.toList K) (fun _ _ _ => False) (retK Tryz.prog Tryz.f12.results.toList K) (b0::b1::A0::A1::y4::s5::n6::A5::A6::A7::A8::A9::C0::C1::C2::C3::C4::C5::C6::C7::C8::C9::D0::D1::D2::D3::D4::D5::D6::D7::D8::D9::E0::E1::E2::E3::E4::E5::E6::E7::E8::E9::F0::F1::F2::F3::F4::F5::F6::F7::F8::F9::G0::G1::G2::G3::G4::G5::G6::G7::G8::G9::H0::H1::H2::H3::H4::H5::H6::H7::H8::H9::I0::I1::I2::I3::I4::I5::I6::I7::I8::I9::J0::J1::J2::J3::J4::J5::J6::J7::J8::J9::L0::[]) w) (by kernel_rfl : (cd Tryz.f12 [1, 1, 1, 1, 1, 1, 1, 1]) = (cd Tryz.f12 [1, 1, 1, 1, 1, 1, 1, 1]))) (trace_Get_A2_k h)

end
theorem trace_Get_L1_k {K : KV} (B1 : KE) (qc0 : KE) {b0 b1 A0 A1 y4 s5 n6' A5 A6 A7 A8 A9 C0 C1 C2 C3 C4 C5 C6 C7 C8 C9 D0 D1 D2 D3 D4 D5 D6 D7 D8 D9 E0 E1 E2 E3 E4 E5 E6 E7 E8 E9 F0 F1 F2 F3 F4 F5 F6 F7 F8 F9 G0 G1 G2 G6' G7' G8' G9' H0' I1 I2 I3 I4 I5 I6 I7 I8 I9 J0 J1 J2 J3 J4 J5 J6 J7 J8 J9 L0 : Value} {dd : Nat → Value} {w : World}
    (h : bin Tryz.prog BinOp.gtr 22 false true n6' (Value.int IntKind.u64 0) (fun G4 w =>
    gsel G4 true (fun k58 =>
    nilC y4 (fun G7 w =>
    fldA Tryz.prog 75 G7 2 (fun G8 w =>
    ld Tryz.prog 4 G8 (fun G9 w =>
    un Tryz.prog UnOp.not G9 (fun H0 w =>
    k58 [y4, G7, G8, G9, H0] w) w) w) w) w)
    (fun k => k [undef, undef, undef, undef, undef] w) (fun us58 w =>
    pick G4 (gd us58 4) (Value.bool false) (fun H1 w =>
    cond H1
      (hReg (fun S w =>
    hld S (fun k w => fldA Tryz.prog 27 s5 6 k w) (fun H4 =>
    hld S (fun k w => ld Tryz.prog 25 H4 k w) (fun H5 =>
    call Tryz.prog 30 #[y4, (Value.int IntKind.i64 1)] (fun H7 w =>
    hSub S (fun S w =>
    bldS Tryz.prog 25 1 #[(0, H7)] (fun H8 w =>
    hSub S (fun S w =>
    blt Tryz.prog Builtin.append #[25, 25] 25 #[false, false] #[H5, H8] (fun H9 w =>
    hReg (fun S w =>
    hld S (fun k w => fldA Tryz.prog 27 s5 6 k w) (fun I0 =>
    sto Tryz.prog 25 I0 H9 (fun _t w =>
    bin Tryz.prog BinOp.sub 22 false true n6' (Value.int IntKind.u64 1) (fun H3 w =>
    B1 (b0::b1::A0::A1::y4::s5::H3::A5::A6::A7::A8::A9::C0::C1::C2::C3::C4::C5::C6::C7::C8::C9::D0::D1::D2::D3::D4::D5::D6::D7::D8::D9::E0::E1::E2::E3::E4::E5::E6::E7::E8::E9::F0::F1::F2::F3::F4::F5::F6::F7::F8::F9::G0::G1::G2::n6'::G4::G4::(gd us58 0)::(gd us58 1)::(gd us58 2)::(gd us58 3)::(gd us58 4)::H1::n6'::H3::H4::H5::y4::H7::H8::H9::I0::I1::I2::I3::I4::I5::I6::I7::I8::I9::J0::J1::J2::J3::J4::J5::J6::J7::J8::J9::L0::[]) w) w) w)) w) w) w) w) w) w))) w.drew)
      (qc0 (b0::b1::A0::A1::y4::s5::n6'::A5::A6::A7::A8::A9::C0::C1::C2::C3::C4::C5::C6::C7::C8::C9::D0::D1::D2::D3::D4::D5::D6::D7::D8::D9::E0::E1::E2::E3::E4::E5::E6::E7::E8::E9::F0::F1::F2::F3::F4::F5::F6::F7::F8::F9::G0::G1::G2::n6'::G4::G4::(gd us58 0)::(gd us58 1)::(gd us58 2)::(gd us58 3)::(gd us58 4)::H1::(dd 64)::(dd 65)::(dd 66)::(dd 67)::(dd 68)::(dd 69)::(dd 70)::(dd 71)::(dd 72)::I1::I2::I3::I4::I5::I6::I7::I8::I9::J0::J1::J2::J3::J4::J5::J6::J7::J8::J9::L0::[]) w)) w)) w) :
    cCode Tryz.prog (cd Tryz.f12 [1, 1, 1, 1, 1, 1, 1, 1, 0, 1, 0, 0]) B1 (fun i => @Bool.rec (fun _ => KE) ((fun _ _ _ => False) i) qc0 (Nat.beq i 0)) (retK Tryz.prog Tryz.f12.results.toList K) (b0::b1::A0::A1::y4::s5::n6'::A5::A6::A7::A8::A9::C0::C1::C2::C3::C4::C5::C6::C7::C8::C9::D0::D1::D2::D3::D4::D5::D6::D7::D8::D9::E0::E1::E2::E3::E4::E5::E6::E7::E8::E9::F0::F1::F2::F3::F4::F5::F6::F7::F8::F9::G0::G1::G2::(dd 55)::(dd 56)::(dd 57)::G6'::G7'::G8'::G9'::H0'::(dd 63)::(dd 64)::(dd 65)::(dd 66)::(dd 67)::(dd 68)::(dd 69)::(dd 70)::(dd 71)::(dd 72)::I1::I2::I3::I4::I5::I6::I7::I8::I9::J0::J1::J2::J3::J4::J5::J6::J7::J8::J9::L0::[]) w := Eq.mp (by kernel_rfl) h

section
variable {b0 b1 A0 A1 y4 s5 n6 A5 A6 A7 A8 A9 C0 C1 C2 C3 C4 C5 C6 C7 C8 C9 D0 D1 D2 D3 D4 D5 D6 D7 D8 D9 E0 E1 E2 E3 E4 E5 E6 E7 E8 E9 F0 F1 F2 F3 F4 F5 F6 F7 F8 F9 G0 G1 G2 G3 G4 G5 G6 G7 G8 G9 H0 H1 H2 H3 H4 H5 H6 H7 H8 H9 I0 I1 I2 I3 I4 I5 I6 I7 I8 I9 J0 J1 J2 J3 J4 J5 J6 J7 J8 J9 L0 : Value}
theorem trace_Get_L1_r {K : KV} {w : World} (Inv : Value → Value → Value → Value → Value → Value → World → Prop) (μ : Value → Value → Value → Value → Value → Value → World → Nat) (h0 : Inv n6 G6 G7 G8 G9 H0 w)
    (hs : ∀ (n6' G6' G7' G8' G9' H0' : Value) (dd : Nat → Value) (w : World) (m : Nat), Inv n6' G6' G7' G8' G9' H0' w → m = μ n6' G6' G7' G8' G9' H0' w →
    bin Tryz.prog BinOp.gtr 22 false true n6' (Value.int IntKind.u64 0) (fun G4 w =>
    gsel G4 true (fun k58 =>
    nilC y4 (fun G7 w =>
    fldA Tryz.prog 75 G7 2 (fun G8 w =>
    ld Tryz.prog 4 G8 (fun G9 w =>
    un Tryz.prog UnOp.not G9 (fun H0 w =>
    k58 [y4, G7, G8, G9, H0] w) w) w) w) w)
    (fun k => k [undef, undef, undef, undef, undef] w) (fun us58 w =>
    pick G4 (gd us58 4) (Value.bool false) (fun H1 w =>
    cond H1
      (hReg (fun S w =>
    hld S (fun k w => fldA Tryz.prog 27 s5 6 k w) (fun H4 =>
    hld S (fun k w => ld Tryz.prog 25 H4 k w) (fun H5 =>
    call Tryz.prog 30 #[y4, (Value.int IntKind.i64 1)] (fun H7 w =>
    hSub S (fun S w =>
    bldS Tryz.prog 25 1 #[(0, H7)] (fun H8 w =>
    hSub S (fun S w =>
    blt Tryz.prog Builtin.append #[25, 25] 25 #[false, false] #[H5, H8] (fun H9 w =>
    hReg (fun S w =>
    hld S (fun k w => fldA Tryz.prog 27 s5 6 k w) (fun I0 =>
    sto Tryz.prog 25 I0 H9 (fun _t w =>
    bin Tryz.prog BinOp.sub 22 false true n6' (Value.int IntKind.u64 1) (fun H3 w =>
    (Inv H3 (gd us58 0) (gd us58 1) (gd us58 2) (gd us58 3) (gd us58 4) w ∧ μ H3 (gd us58 0) (gd us58 1) (gd us58 2) (gd us58 3) (gd us58 4) w < m)) w) w)) w) w) w) w) w) w))) w.drew)
      ((trace_Get_P1 K) (b0::b1::A0::A1::y4::s5::n6'::A5::A6::A7::A8::A9::C0::C1::C2::C3::C4::C5::C6::C7::C8::C9::D0::D1::D2::D3::D4::D5::D6::D7::D8::D9::E0::E1::E2::E3::E4::E5::E6::E7::E8::E9::F0::F1::F2::F3::F4::F5::F6::F7::F8::F9::G0::G1::G2::n6'::G4::G4::(gd us58 0)::(gd us58 1)::(gd us58 2)::(gd us58 3)::(gd us58 4)::H1::(dd 64)::(dd 65)::(dd 66)::(dd 67)::(dd 68)::(dd 69)::(dd 70)::(dd 71)::(dd 72)::I1::I2::I3::I4::I5::I6::I7::I8::I9::J0::J1::J2::J3::J4::J5::J6::J7::J8::J9::L0::[]) w)) w)) w) :
    trace_Get_L1 K (b0::b1::A0::A1::y4::s5::n6::A5::A6::A7::A8::A9::C0::C1::C2::C3::C4::C5::C6::C7::C8::C9::D0::D1::D2::D3::D4::D5::D6::D7::D8::D9::E0::E1::E2::E3::E4::E5::E6::E7::E8::E9::F0::F1::F2::F3::F4::F5::F6::F7::F8::F9::G0::G1::G2::G3::G4::G5::G6::G7::G8::G9::H0::H1::H2::H3::H4::H5::H6::H7::H8::H9::I0::I1::I2::I3::I4::I5::I6::I7::I8::I9::J0::J1::J2::J3::J4::J5::J6::J7::J8::J9::L0::[]) w := by
  refine loop_rule (cd Tryz.f12 [1, 1, 1, 1, 1, 1, 1, 1, 0, 1, 0, 0]) [6, 55, 56, 57, 58, 59, 60, 61, 62, 63, 64, 65, 66, 67, 68, 69, 70, 71, 72] (by kernel_rfl) (fun e2 w2 => Inv (gd e2 6) (gd e2 58) (gd e2 59) (gd e2 60) (gd e2 61) (gd e2 62) w2) (fun e2 w2 => μ (gd e2 6) (gd e2 58) (gd e2 59) (gd e2 60) (gd e2 61) (gd e2 62) w2) h0 ?_
  intro e' w' hI
  have h := hs (gd e' 6) (gd e' 58) (gd e' 59) (gd e' 60) (gd e' 61) (gd e' 62) (fun i => gd e' i) w' _ hI rfl
  have h2 : cCode Tryz.prog (cd Tryz.f12 [1, 1, 1, 1, 1, 1, 1, 1, 0, 1, 0, 0]) (fun e2 w2 => Inv (gd e2 6) (gd e2 58) (gd e2 59) (gd e2 60) (gd e2 61) (gd e2 62) w2 ∧ μ (gd e2 6) (gd e2 58) (gd e2 59) (gd e2 60) (gd e2 61) (gd e2 62) w2 < μ (gd e' 6) (gd e' 58) (gd e' 59) (gd e' 60) (gd e' 61) (gd e' 62) w') (fun i => @Bool.rec (fun _ => KE) ((fun _ _ _ => False) i) (trace_Get_P1 K) (Nat.beq i 0)) (retK Tryz.prog Tryz.f12.results.toList K) (b0::b1::A0::A1::y4::s5::(gd e' 6)::A5::A6::A7::A8::A9::C0::C1::C2::C3::C4::C5::C6::C7::C8::C9::D0::D1::D2::D3::D4::D5::D6::D7::D8::D9::E0::E1::E2::E3::E4::E5::E6::E7::E8::E9::F0::F1::F2::F3::F4::F5::F6::F7::F8::F9::G0::G1::G2::(gd e' 55)::(gd e' 56)::(gd e' 57)::(gd e' 58)::(gd e' 59)::(gd e' 60)::(gd e' 61)::(gd e' 62)::(gd e' 63)::(gd e' 64)::(gd e' 65)::(gd e' 66)::(gd e' 67)::(gd e' 68)::(gd e' 69)::(gd e' 70)::(gd e' 71)::(gd e' 72)::I1::I2::I3::I4::I5::I6::I7::I8::I9::J0::J1::J2::J3::J4::J5::J6::J7::J8::J9::L0::[]) w' := trace_Get_L1_k (fun e2 w2 => Inv (gd e2 6) (gd e2 58) (gd e2 59) (gd e2 60) (gd e2 61) (gd e2 62) w2 ∧ μ (gd e2 6) (gd e2 58) (gd e2 59) (gd e2 60) (gd e2 61) (gd e2 62) w2 < μ (gd e' 6) (gd e' 58) (gd e' 59) (gd e' 60) (gd e' 61) (gd e' 62) w') (trace_Get_P1 K) (Eq.mp (by kernel_rfl) h)
  exact Eq.mp (by kernel_rfl) h2

theorem trace_Get_P1_k {K : KV} {w : World}
    (h : nilC y4 (fun I2 w =>
    fldA Tryz.prog 75 I2 2 (fun I3 w =>
    ld Tryz.prog 4 I3 (fun I4 w =>
    gsel I4 false (fun k78 =>
    nilC y4 (fun I7 w =>
    fldA Tryz.prog 75 I7 1 (fun I8 w =>
    ld Tryz.prog 3 I8 (fun I9 w =>
    blt Tryz.prog Builtin.len #[28] 3 #[false] #[b0] (fun J1 w =>
    bin Tryz.prog BinOp.neq 3 false false I9 J1 (fun J2 w =>
    k78 [y4, I7, I8, I9, b0, J1, J2] w) w) w) w) w) w)
    (fun k => k [undef, undef, undef, undef, undef, undef, undef] w) (fun us78 w =>
    pick I4 (Value.bool true) (gd us78 6) (fun J3 w =>
    gsel J3 false (fun k87 =>
    ld Tryz.prog 27 s5 (fun J5 w =>
    call Tryz.prog 9 #[J5] (fun J6 w =>
    un Tryz.prog UnOp.not J6 (fun J7 w =>
    k87 [J5, J6, J7] w) w) w) w)
    (fun k => k [undef, undef, undef] w) (fun us87 w =>
    pick J3 (Value.bool true) (gd us87 2) (fun J8 w =>
    cond J8
      (bld Tryz.prog 27 #[] (fun J9 w =>
      sto Tryz.prog 27 A0 J9 (fun _t w =>
      retM Tryz.prog [(some 27, A0), (none, (Value.int IntKind.i64 5))] K w) w) w)
      (ld Tryz.prog 27 s5 (fun L0 w =>
    sto Tryz.prog 27 A0 L0 (fun _t w =>
    retM Tryz.prog [(some 27, A0), (none, (Value.int IntKind.i64 0))] K w) w) w)) w)) w)) w) w) w) :
    cCode Tryz.prog (cd Tryz.f12 [1, 1, 1, 1, 1, 1, 1, 1, 1]) (retK Tryz.prog Tryz.f12.results.toList K) (fun _ _ _ => False) (retK Tryz.prog Tryz.f12.results.toList K) (b0::b1::A0::A1::y4::s5::n6::A5::A6::A7::A8::A9::C0::C1::C2::C3::C4::C5::C6::C7::C8::C9::D0::D1::D2::D3::D4::D5::D6::D7::D8::D9::E0::E1::E2::E3::E4::E5::E6::E7::E8::E9::F0::F1::F2::F3::F4::F5::F6::F7::F8::F9::G0::G1::G2::G3::G4::G5::G6::G7::G8::G9::H0::H1::H2::H3::H4::H5::H6::H7::H8::H9::I0::I1::I2::I3::I4::I5::I6::I7::I8::I9::J0::J1::J2::J3::J4::J5::J6::J7::J8::J9::L0::[]) w := Eq.mp (by kernel_rfl) h

theorem trace_Get_P1_r {K : KV} {w : World}
    (h : nilC y4 (fun I2 w =>
    fldA Tryz.prog 75 I2 2 (fun I3 w =>
    ld Tryz.prog 4 I3 (fun I4 w =>
    gsel I4 false (fun k78 =>
    nilC y4 (fun I7 w =>
    fldA Tryz.prog 75 I7 1 (fun I8 w =>
    ld Tryz.prog 3 I8 (fun I9 w =>
    blt Tryz.prog Builtin.len #[28] 3 #[false] #[b0] (fun J1 w =>
    bin Tryz.prog BinOp.neq 3 false false I9 J1 (fun J2 w =>
    k78 [y4, I7, I8, I9, b0, J1, J2] w) w) w) w) w) w)
    (fun k => k [undef, undef, undef, undef, undef, undef, undef] w) (fun us78 w =>
    pick I4 (Value.bool true) (gd us78 6) (fun J3 w =>
    gsel J3 false (fun k87 =>
    ld Tryz.prog 27 s5 (fun J5 w =>
    call Tryz.prog 9 #[J5] (fun J6 w =>
    un Tryz.prog UnOp.not J6 (fun J7 w =>
    k87 [J5, J6, J7] w) w) w) w)
    (fun k => k [undef, undef, undef] w) (fun us87 w =>
    pick J3 (Value.bool true) (gd us87 2) (fun J8 w =>
    cond J8
      (bld Tryz.prog 27 #[] (fun J9 w =>
      sto Tryz.prog 27 A0 J9 (fun _t w =>
      retM Tryz.prog [(some 27, A0), (none, (Value.int IntKind.i64 5))] K w) w) w)
      (ld Tryz.prog 27 s5 (fun L0 w =>
    sto Tryz.prog 27 A0 L0 (fun _t w =>
    retM Tryz.prog [(some 27, A0), (none, (Value.int IntKind.i64 0))] K w) w) w)) w)) w)) w) w) w) :
    trace_Get_P1 K (b0::b1::A0::A1::y4::s5::n6::A5::A6::A7::A8::A9::C0::C1::C2::C3::C4::C5::C6::C7::C8::C9::D0::D1::D2::D3::D4::D5::D6::D7::D8::D9::E0::E1::E2::E3::E4::E5::E6::E7::E8::E9::F0::F1::F2::F3::F4::F5::F6::F7::F8::F9::G0::G1::G2::G3::G4::G5::G6::G7::G8::G9::H0::H1::H2::H3::H4::H5::H6::H7::H8::H9::I0::I1::I2::I3::I4::I5::I6::I7::I8::I9::J0::J1::J2::J3::J4::J5::J6::J7::J8::J9::L0::[]) w := by
  delta trace_Get_P1
  exact Eq.mp (congrArg (fun c => cCode Tryz.prog c (retK Tryz.prog Tryz.f12.results.toList K) (fun _ _ _ => False) (retK Tryz.prog Tryz.f12.results.toList K) (b0::b1::A0::A1::y4::s5::n6::A5::A6::A7::A8::A9::C0::C1::C2::C3::C4::C5::C6::C7::C8::C9::D0::D1::D2::D3::D4::D5::D6::D7::D8::D9::E0::E1::E2::E3::E4::E5::E6::E7::E8::E9::F0::F1::F2::F3::F4::F5::F6::F7::F8::F9::G0::G1::G2::G3::G4::G5::G6::G7::G8::G9::H0::H1::H2::H3::H4::H5::H6::H7::H8::H9::I0::I1::I2::I3::I4::I5::I6::I7::I8::I9::J0::J1::J2::J3::J4::J5::J6::J7::J8::J9::L0::[]) w) (by kernel_rfl : (cd Tryz.f12 [1, 1, 1, 1, 1, 1, 1, 1, 1]) = (cd Tryz.f12 [1, 1, 1, 1, 1, 1, 1, 1, 1]))) (trace_Get_P1_k h)
attribute [irreducible] trace_Get_A1 trace_Get_A2 trace_Get_P1 trace_Get_L1

end
end Go.Proofs.YtfjafbbalohmhaaGreatDoor
namespace Go.Proofs.YtfjafbbalohmhaaGreatDoor
set_option maxRecDepth 100000
open Go.RowKit

def i6 (x : Int) : Value := .int .i64 x
structure STP where
  d : Int
  who : Int
  kind : Int
  node : Int
  to : Int
  am : Int
  req : Int
  of_ : Int
  k : Int
  j : Int
  n : Int
  picks : List Int
def stC (s : STP) (v : Value) : List Value := [.int .u8 s.d, i6 s.who, .int .u8 s.kind, .int .u64 s.node, i6 s.to, i6 s.am, .int .u64 s.req, .int .u64 s.of_, i6 s.k, i6 s.j, i6 s.n, v]
structure STW (s : STP) : Prop where
  d : 0 ≤ s.d ∧ s.d ≤ 255
  kind : 0 ≤ s.kind ∧ s.kind ≤ 255
  node : 0 ≤ s.node ∧ s.node ≤ 18446744073709551615
  req : 0 ≤ s.req ∧ s.req ≤ 18446744073709551615
  of_ : 0 ≤ s.of_ ∧ s.of_ ≤ 18446744073709551615
def inB (lo hi x : Int) : Bool := decide (lo ≤ x) && decide (x ≤ hi)
def mayT (s : STP) : Bool :=
  decide (1 ≤ s.d) && decide (s.d ≤ 12) && decide (s.kind ≤ 7) && [s.who, s.j, s.k, s.to].all (inB (-1) 255) && inB (-1) 1073741824 s.n && inB (-1) 1152921504606846976 s.am && decide (s.picks.length ≤ 255) && s.picks.all (inB (-1) 254)
def putT (s : STP) : List UInt8 :=
  match mayT s with
  | false => []
  | true => beBytes s.d.toNat 1 ++ beBytes (s.who + 1).toNat 2 ++ beBytes (s.j + 1).toNat 2 ++ beBytes (s.k + 1).toNat 2 ++ beBytes (s.n + 1).toNat 4 ++ beBytes s.kind.toNat 1 ++ beBytes s.node.toNat 8 ++ beBytes (s.to + 1).toNat 2 ++ beBytes (s.am + 1).toNat 8
      ++ beBytes s.req.toNat 8 ++ beBytes s.of_.toNat 8 ++ beBytes s.picks.length 1 ++ s.picks.flatMap fun x => beBytes (x + 1).toNat 1
theorem inB_iff {lo hi x : Int} : inB lo hi x = true ↔ lo ≤ x ∧ x ≤ hi := by simp [inB]
theorem mayT_iff {s : STP} : mayT s = true ↔ (1 ≤ s.d ∧ s.d ≤ 12) ∧ s.kind ≤ 7 ∧ (-1 ≤ s.who ∧ s.who ≤ 255) ∧ (-1 ≤ s.j ∧ s.j ≤ 255) ∧ (-1 ≤ s.k ∧ s.k ≤ 255) ∧ (-1 ≤ s.to ∧ s.to ≤ 255) ∧ (-1 ≤ s.n ∧ s.n ≤ 1073741824) ∧ (-1 ≤ s.am ∧ s.am ≤ 1152921504606846976) ∧ s.picks.length ≤ 255 ∧ s.picks.all (inB (-1) 254) = true := by
  simp [mayT, inB_iff, and_assoc]
abbrev RN (w : World) (a : Option Addr) (n c : Nat) (l : List Int) : Prop := RV w a n c (l.map i6)
theorem rv_blk {w : World} {b : Nat} {E : TypeId} {xs : List Value} (h : blk w b E xs) : RV w (some ⟨b, 0, none⟩) xs.length xs.length xs :=
  ⟨rfl, Nat.le_refl _, fun _ => ⟨b, 0, rfl⟩, (fun h => by cases h), fun i v hv => by rw [show slotA (some ⟨b, 0, none⟩) i = ⟨b, 0 + i, none⟩ from rfl, h.cell, Nat.zero_add]; exact hv⟩
theorem fA_Stp_0 {w : World} {K : KV} {b o : Nat} (h : K (.pointer (some ⟨b, o + 0, none⟩)) w) : fldA Tryz.prog 27 (.pointer (some ⟨b, o, none⟩)) 0 K w := fldA_of (by kernel_rfl) h
theorem fA_Stp_1 {w : World} {K : KV} {b o : Nat} (h : K (.pointer (some ⟨b, o + 1, none⟩)) w) : fldA Tryz.prog 27 (.pointer (some ⟨b, o, none⟩)) 1 K w := fldA_of (by kernel_rfl) h
theorem fA_Stp_2 {w : World} {K : KV} {b o : Nat} (h : K (.pointer (some ⟨b, o + 2, none⟩)) w) : fldA Tryz.prog 27 (.pointer (some ⟨b, o, none⟩)) 2 K w := fldA_of (by kernel_rfl) h
theorem fA_Stp_3 {w : World} {K : KV} {b o : Nat} (h : K (.pointer (some ⟨b, o + 8, none⟩)) w) : fldA Tryz.prog 27 (.pointer (some ⟨b, o, none⟩)) 3 K w := fldA_of (by kernel_rfl) h
theorem fA_Stp_4 {w : World} {K : KV} {b o : Nat} (h : K (.pointer (some ⟨b, o + 9, none⟩)) w) : fldA Tryz.prog 27 (.pointer (some ⟨b, o, none⟩)) 4 K w := fldA_of (by kernel_rfl) h
theorem fA_Stp_5 {w : World} {K : KV} {b o : Nat} (h : K (.pointer (some ⟨b, o + 10, none⟩)) w) : fldA Tryz.prog 27 (.pointer (some ⟨b, o, none⟩)) 5 K w := fldA_of (by kernel_rfl) h
theorem fA_Stp_6 {w : World} {K : KV} {b o : Nat} (h : K (.pointer (some ⟨b, o + 11, none⟩)) w) : fldA Tryz.prog 27 (.pointer (some ⟨b, o, none⟩)) 6 K w := fldA_of (by kernel_rfl) h
theorem fA_Tas_0 {w : World} {K : KV} {b o : Nat} (h : K (.pointer (some ⟨b, o + 0, none⟩)) w) : fldA Tryz.prog 24 (.pointer (some ⟨b, o, none⟩)) 0 K w := fldA_of (by kernel_rfl) h
theorem fA_Tas_1 {w : World} {K : KV} {b o : Nat} (h : K (.pointer (some ⟨b, o + 1, none⟩)) w) : fldA Tryz.prog 24 (.pointer (some ⟨b, o, none⟩)) 1 K w := fldA_of (by kernel_rfl) h
theorem fA_Tas_2 {w : World} {K : KV} {b o : Nat} (h : K (.pointer (some ⟨b, o + 2, none⟩)) w) : fldA Tryz.prog 24 (.pointer (some ⟨b, o, none⟩)) 2 K w := fldA_of (by kernel_rfl) h
theorem fA_Tas_3 {w : World} {K : KV} {b o : Nat} (h : K (.pointer (some ⟨b, o + 3, none⟩)) w) : fldA Tryz.prog 24 (.pointer (some ⟨b, o, none⟩)) 3 K w := fldA_of (by kernel_rfl) h
theorem fA_Tas_4 {w : World} {K : KV} {b o : Nat} (h : K (.pointer (some ⟨b, o + 4, none⟩)) w) : fldA Tryz.prog 24 (.pointer (some ⟨b, o, none⟩)) 4 K w := fldA_of (by kernel_rfl) h
theorem fA_Tas_5 {w : World} {K : KV} {b o : Nat} (h : K (.pointer (some ⟨b, o + 5, none⟩)) w) : fldA Tryz.prog 24 (.pointer (some ⟨b, o, none⟩)) 5 K w := fldA_of (by kernel_rfl) h
theorem ld_TL_0 {w : World} {K : KV} {b o : Nat} {E : TypeId} {cs : List Value} (v : Value) (hb : blk w b E cs) (ho : cs[o]? = some v) (h : K v w) : ld Tryz.prog 5 (.pointer (some ⟨b, o, none⟩)) K w := ld1 (fun _ => by kernel_rfl) hb ho h
theorem ld_TL_1 {w : World} {K : KV} {b o : Nat} {E : TypeId} {cs : List Value} (v : Value) (hb : blk w b E cs) (ho : cs[o]? = some v) (h : K v w) : ld Tryz.prog 3 (.pointer (some ⟨b, o, none⟩)) K w := ld1 (fun _ => by kernel_rfl) hb ho h
theorem ld_TL_2 {w : World} {K : KV} {b o : Nat} {E : TypeId} {cs : List Value} (v : Value) (hb : blk w b E cs) (ho : cs[o]? = some v) (h : K v w) : ld Tryz.prog 22 (.pointer (some ⟨b, o, none⟩)) K w := ld1 (fun _ => by kernel_rfl) hb ho h
theorem ld_TL_3 {w : World} {K : KV} {b o : Nat} {E : TypeId} {cs : List Value} (v : Value) (hb : blk w b E cs) (ho : cs[o]? = some v) (h : K v w) : ld Tryz.prog 2 (.pointer (some ⟨b, o, none⟩)) K w := ld1 (fun _ => by kernel_rfl) hb ho h
theorem ld_TL_4 {w : World} {K : KV} {b o : Nat} {E : TypeId} {cs : List Value} (v : Value) (hb : blk w b E cs) (ho : cs[o]? = some v) (h : K v w) : ld Tryz.prog 25 (.pointer (some ⟨b, o, none⟩)) K w := ld1 (fun _ => by kernel_rfl) hb ho h
attribute [local irreducible] bin un conv call callV blt slc fldA fld idxA idx lkp mUpd mEnt eSt rng nxt ent ext alc box bld bldS ld sto nilC mkMap mkS ifc pick rdy wts gsel sti cond retM Gives cCode cGrp cSeq cOp
section
variable {w : World} {K : KV}
theorem within_c {a : Option Addr} {n c : Nat} {l : List Int} {lo hi : Int} (hr : RN w a n c l) (hn : n ≤ 4611686018427387904) (h : K (.bool (l.all (inB lo hi))) w) : call Tryz.prog 27 #[i6 lo, i6 hi, .slice a n c] K w := by
  have hl : l.length = n := by simpa using hr.len
  unfold i6 at *
  refine call_of trace_within_go (trace_within_in ?_)
  refine len_slc Tryz.underlying25 ?_
  refine trace_within_L1_r (Inv := fun i _ _ _ wr => ∃ j : Nat, i = .int .i64 (j : Nat) ∧ j ≤ n ∧ wr = w ∧ (l.take j).all (inB lo hi) = true) (μ := fun i _ _ _ _ => n - (intOf i).toNat) ⟨0, rfl, by omega, rfl, by simp⟩ ?_
  rintro _ _ _ _ dd _ m ⟨j, rfl, hj, rfl, hall⟩ hm
  refine bin_lss ?_
  by_cases hjn : j < n
  · refine cond_t (by omega) ?_
    have hx : (l.map i6)[j]? = some (i6 (l.getD j 0)) := by simp [List.getD, List.getElem?_eq_getElem (show j < l.length by omega)]
    refine idx_slc Tryz.underlying25 (fun _ => by kernel_rfl) (by omega) (by omega) hr.some_ ?_
    rw [Int.toNat_natCast]
    refine ld_cell (fun _ => by kernel_rfl) (hr.cell _ _ hx) ?_
    have hx : l.getD j 0 = l[j] := by simp [List.getD, show j < l.length by omega]
    have ht : l.take (j + 1) = l.take j ++ [l.getD j 0] := by rw [hx, List.take_append_getElem (by omega)]
    generalize l.getD j 0 = x at *
    have bad : inB lo hi x = false → l.all (inB lo hi) = false := fun hb => by
      cases hq : l.all (inB lo hi) with
      | false => rfl
      | true => have := List.all_eq_true.1 hq _ (List.getElem_mem (show j < l.length by omega)); rw [← hx] at this; rw [this] at hb; cases hb
    unfold i6
    refine bin_lss ?_
    by_cases h0 : x < lo
    · refine gsel_nt h0 ?_
      refine pick_t h0 ?_
      refine cond_T ?_
      have : inB lo hi x = false := by
        cases hq : inB lo hi x with
        | false => rfl
        | true => have := inB_iff.1 hq; omega
      rw [bad this] at h
      exact h
    · refine gsel_nf h0 ?_
      refine bin_gtr ?_
      refine pick_f h0 ?_
      by_cases h1 : x > hi
      · refine cond_t h1 ?_
        have : inB lo hi x = false := by
          cases hq : inB lo hi x with
          | false => rfl
          | true => have := inB_iff.1 hq; omega
        rw [bad this] at h
        exact h
      · refine cond_f h1 ?_
        refine add64 (by omega) (by omega) ?_
        refine ⟨⟨j + 1, by simp, by omega, rfl, ?_⟩, ?_⟩
        · rw [ht, List.all_append, hall]
          simp [inB_iff.2 ⟨show lo ≤ x by omega, show x ≤ hi by omega⟩]
        · rw [hm]; simp [intOf]; omega
  · obtain rfl : j = n := by omega
    refine cond_f (by omega) ?_
    refine trace_within_P1_r ?_
    rw [List.take_of_length_le (by omega)] at hall
    rw [hall] at h
    exact h
set_option maxHeartbeats 2000000 in
theorem tmay_c {s : STP} {a : Option Addr} {c : Nat} (hw : STW s) (hr : RN w a s.picks.length c s.picks) (hn : s.picks.length ≤ 4611686018427387904) (h : ∀ w', Below w.heap.size w w' → K (.bool (mayT s)) w') :
    call Tryz.prog 9 #[.agg (stC s (.slice a s.picks.length c)).toArray] K w := by
  refine call_of trace_May_go (trace_May_in ?_)
  refine box_of fun w1 hb b1 s1 => ?_
  have hb : blk w1 w.heap.size 27 (stC s (.slice a s.picks.length c)) := hb
  generalize hq0 : w.heap.size = q at *
  have no : mayT s = false → K (.bool false) w1 := fun hq => by have := h w1 b1; rw [hq] at this; exact this
  have may := @mayT_iff s
  have no' : ¬ (mayT s = true) → K (.bool false) w1 := fun hq => no (by simpa using hq)
  have step : ∀ {c : Prop}, c → c := id
  by_cases g1 : s.d < 1
  · (repeat (first | refine fA_Stp_0 ?_ | (refine ld_TL_0 ?_ (by assumption) ?_ ?_; rotate_left; exact rfl) | refine trace_May_P2_r ?_ | refine trace_May_A1_r ?_ | refine bin_lss ?_ | refine cond_t (by omega) ?_))
    exact no' (by rw [may]; omega)
  by_cases g2 : s.d > 12
  · (repeat (first | refine fA_Stp_0 ?_ | (refine ld_TL_0 ?_ (by assumption) ?_ ?_; rotate_left; exact rfl) | refine trace_May_P2_r ?_ | refine trace_May_A1_r ?_ | refine bin_lss ?_ | refine bin_gtr ?_ | refine cond_t (by omega) ?_ | refine cond_f (by omega) ?_))
    exact no' (by rw [may]; omega)
  by_cases g3 : s.kind > 7
  · (repeat (first | refine fA_Stp_0 ?_ | refine fA_Stp_2 ?_ | refine fA_Tas_0 ?_ | (refine ld_TL_0 ?_ (by assumption) ?_ ?_; rotate_left; exact rfl) | refine trace_May_P2_r ?_ | refine trace_May_A1_r ?_ | refine bin_lss ?_ | refine bin_gtr ?_ | refine cond_t (by omega) ?_ | refine cond_f (by omega) ?_))
    exact no' (by rw [may]; omega)
  (repeat (first | refine fA_Stp_0 ?_ | refine fA_Stp_1 ?_ | refine fA_Stp_2 ?_ | refine fA_Stp_3 ?_ | refine fA_Stp_4 ?_ | refine fA_Tas_0 ?_ | refine fA_Tas_2 ?_ | (refine ld_TL_0 ?_ (by assumption) ?_ ?_; rotate_left; exact rfl) | (refine ld_TL_1 ?_ (by assumption) ?_ ?_; rotate_left; exact rfl) | refine trace_May_P2_r ?_ | refine trace_May_A1_r ?_ | refine bin_lss ?_ | refine bin_gtr ?_ | refine cond_f (by omega) ?_))
  refine bldSG (vs := [i6 s.who, i6 s.j, i6 s.k, i6 s.to]) Tryz.underlying25 (s := 1) (by kernel_rfl) (by kernel_rfl) (by omega) rfl (by simp) (by simp) (by simp) (by simp [Value.cells, i6]) ?_
  intro w2 hb2 b2 s2
  have hr2 : RN w2 (some ⟨w1.heap.size, 0, none⟩) 4 4 [s.who, s.j, s.k, s.to] := rv_blk (by simpa [Value.cells, i6] using hb2)
  refine within_c (lo := -1) (hi := 255) hr2 (by omega) ?_
  have hb2' : blk w2 q 27 (stC s (.slice a s.picks.length c)) := below_blk b2 hb (by omega)
  refine un_not ?_
  have hlist : [s.who, s.j, s.k, s.to].all (inB (-1) 255) = true ↔ (-1 ≤ s.who ∧ s.who ≤ 255) ∧ (-1 ≤ s.j ∧ s.j ≤ 255) ∧ (-1 ≤ s.k ∧ s.k ≤ 255) ∧ (-1 ≤ s.to ∧ s.to ≤ 255) := by simp [inB_iff, and_assoc]
  have no2 : ∀ w', Below q w w' → ¬ (mayT s = true) → K (Value.bool false) w' := fun w' hb hq => by have := h w' hb; rw [show mayT s = false by simpa using hq] at this; exact this
  have b12 : Below q w w2 := b1.trans (b2.mono (by omega))
  cases g4 : [s.who, s.j, s.k, s.to].all (inB (-1) 255) with
  | false =>
    rw [Bool.not_false]
    (repeat (first | refine trace_May_P3_r ?_ | refine trace_May_A2_r ?_ | refine cond_T ?_))
    exact no2 _ b12 (by rw [may]; intro hh; have := hlist.2 ⟨hh.2.2.1, hh.2.2.2.1, hh.2.2.2.2.1, hh.2.2.2.2.2.1⟩; rw [g4] at this; cases this)
  | true =>
  have hl4 := hlist.1 g4
  rw [Bool.not_true]
  (repeat (first | refine fA_Stp_5 ?_ | (refine ld_TL_1 ?_ (by assumption) ?_ ?_; rotate_left; exact rfl) | refine trace_May_A2_r ?_ | refine cond_F ?_))
  refine bldSG (vs := [i6 s.n]) Tryz.underlying25 (s := 1) (by kernel_rfl) (by kernel_rfl) (by omega) rfl (by simp) (by simp) (by simp) (by simp [Value.cells, i6]) ?_
  intro w3 hb3 b3 s3
  have hr3 : RN w3 (some ⟨w2.heap.size, 0, none⟩) 1 1 [s.n] := rv_blk (by simpa [Value.cells, i6] using hb3)
  refine within_c (lo := -1) (hi := 1073741824) hr3 (by omega) ?_
  have hb3' : blk w3 q 27 (stC s (.slice a s.picks.length c)) := below_blk b3 hb2' (by omega)
  have b13 : Below q w w3 := b12.trans (b3.mono (by omega))
  refine un_not ?_
  cases g5 : [s.n].all (inB (-1) 1073741824) with
  | false =>
    rw [Bool.not_false]
    (repeat (first | refine trace_May_P3_r ?_ | refine cond_T ?_))
    exact no2 _ b13 (by rw [may]; intro hh; have : [s.n].all (inB (-1) 1073741824) = true := (by rw [List.all_cons, List.all_nil, Bool.and_true]; exact inB_iff.2 hh.2.2.2.2.2.2.1); rw [g5] at this; cases this)
  | true =>
  have hl5 : -1 ≤ s.n ∧ s.n ≤ 1073741824 := by simpa [inB_iff] using g5
  rw [Bool.not_true]
  by_cases g6 : s.am < -1
  · (repeat (first | refine fA_Stp_2 ?_ | refine fA_Tas_3 ?_ | (refine ld_TL_3 ?_ (by assumption) ?_ ?_; rotate_left; exact rfl) | refine trace_May_P3_r ?_ | refine trace_May_P4_r ?_ | refine trace_May_A3_r ?_ | refine bin_lss ?_ | refine cond_F ?_ | refine cond_t (by omega) ?_))
    exact no2 _ b13 (by rw [may]; omega)
  by_cases g7 : s.am > 1152921504606846976
  · (repeat (first | refine fA_Stp_2 ?_ | refine fA_Tas_3 ?_ | (refine ld_TL_3 ?_ (by assumption) ?_ ?_; rotate_left; exact rfl) | refine trace_May_P3_r ?_ | refine trace_May_P4_r ?_ | refine trace_May_A3_r ?_ | refine bin_lss ?_ | refine bin_gtr ?_ | refine cond_F ?_ | refine cond_t (by omega) ?_ | refine cond_f (by omega) ?_))
    exact no2 _ b13 (by rw [may]; omega)
  (repeat (first | refine fA_Stp_2 ?_ | refine fA_Stp_6 ?_ | refine fA_Tas_3 ?_ | (refine ld_TL_3 ?_ (by assumption) ?_ ?_; rotate_left; exact rfl) | (refine ld_TL_4 ?_ (by assumption) ?_ ?_; rotate_left; exact rfl) | refine trace_May_P3_r ?_ | refine trace_May_A3_r ?_ | refine bin_lss ?_ | refine bin_gtr ?_ | refine cond_F ?_ | refine cond_f (by omega) ?_))
  refine len_slc Tryz.underlying25 ?_
  by_cases g8 : (s.picks.length : Int) > 255
  · (repeat (first | refine trace_May_P4_r ?_ | refine bin_gtr ?_ | refine cond_t (by omega) ?_))
    exact no2 _ b13 (by rw [may]; omega)
  (repeat (first | refine fA_Stp_6 ?_ | (refine ld_TL_4 ?_ (by assumption) ?_ ?_; rotate_left; exact rfl) | refine trace_May_P1_r ?_ | refine trace_May_P4_r ?_ | refine bin_gtr ?_ | refine cond_f (by omega) ?_))
  have hr4 : RN w3 a s.picks.length c s.picks := hr.below b13 (by omega)
  refine within_c (lo := -1) (hi := 254) hr4 hn ?_
  have hm : mayT s = s.picks.all (inB (-1) 254) := by
    cases hq : s.picks.all (inB (-1) 254) with
    | true => rw [may]; exact ⟨by omega, by omega, hl4.1, hl4.2.1, hl4.2.2.1, hl4.2.2.2, hl5, by omega, by omega, hq⟩
    | false =>
      cases hq2 : mayT s with
      | false => rfl
      | true => have := may.1 hq2; rw [hq] at this; simp at this
  rw [← hm]
  exact h _ b13
end
structure Tn (p : Nat) (w w' : World) : Prop where
  os : w'.os = w.os
  tape : w'.tape = w.tape
  output : w'.output = w.output
  size : w.heap.size ≤ w'.heap.size
  block : ∀ k, k < w.heap.size → k ≠ p → w'.heap[k]? = w.heap[k]?
theorem Tn.of {p : Nat} {w w' w2 : World} (h : Below w.heap.size w w') (k : Oth p w' w2) : Tn p w w2 :=
  ⟨k.os.trans h.os, k.tape.trans h.tape, k.output.trans h.output, by rw [k.size]; exact h.size, fun i hi hne => (k.other i hne).trans (h.block i hi)⟩
theorem Tn.below {p B : Nat} {w w' : World} (h : Tn p w w') (hB : B ≤ p) (hs : B ≤ w.heap.size) : Below B w w' := ⟨h.os, h.tape, h.output, h.size, fun k hk => h.block k (by omega) (by omega)⟩
theorem Tn.blk {p b : Nat} {w w' : World} {E : TypeId} {cs : List Value} (h : Tn p w w') (hb : blk w b E cs) (hne : b ≠ p) : blk w' b E cs := by
  unfold Go.Proofs.YtfjafbbalohmhaaGreatDoor.blk; rw [h.block b hb.lt hne]; exact hb
theorem putS_ok {l : List UInt8} {x k : Nat} (hk : k = 1 ∨ k = 2 ∨ k = 4 ∨ k = 8) (hx : x < 256 ^ k) : putS l x (k : Int) = (l ++ beBytes x k, 0) := by
  have hw : widthOf (k : Int) ≠ 0 := by rcases hk with rfl | rfl | rfl | rfl <;> decide
  unfold putS
  rw [if_neg hw, if_neg (by rw [Int.toNat_natCast]; omega), Int.toNat_natCast]
section
variable {w : World} {K : KV}
structure PSt (B : Nat) (w : World) (p q : Nat) (s : STP) (v : Value) (l : List UInt8) : Prop where
  pen : ∃ a n c, blk w p 69 [.slice a n c] ∧ RB w a n c l
  stp : blk w q 27 (stC s v)
  hp : B ≤ p
  hne : q ≠ p
end
end Go.Proofs.YtfjafbbalohmhaaGreatDoor
namespace Go.Proofs.YtfjafbbalohmhaaGreatDoor
set_option maxRecDepth 100000
open Go.RowKit
attribute [local irreducible] bin un conv call callV blt slc fldA fld idxA idx lkp mUpd mEnt eSt rng nxt ent ext alc box bld bldS ld sto nilC mkMap mkS ifc pick rdy wts gsel sti cond retM Gives cCode cGrp cSeq cOp
section
variable {w : World} {K : KV}
theorem conv64 {a : Int} (h1 : 0 ≤ a) (h2 : a ≤ 18446744073709551615) (h : K (.int .u64 a) w) : conv Tryz.prog 2 22 (.int .i64 a) K w := by
  refine conv_int Tryz.underlying2 Tryz.underlying22 ?_
  rw [wrap_u64, show a % 18446744073709551616 = a by omega]
  exact h
def hdT (s : STP) : List UInt8 := beBytes s.d.toNat 1 ++ beBytes (s.who + 1).toNat 2 ++ beBytes (s.j + 1).toNat 2 ++ beBytes (s.k + 1).toNat 2
def bdT (s : STP) : List UInt8 := hdT s ++ beBytes (s.n + 1).toNat 4 ++ beBytes s.kind.toNat 1 ++ beBytes s.node.toNat 8 ++ beBytes (s.to + 1).toNat 2 ++ beBytes (s.am + 1).toNat 8 ++ beBytes s.req.toNat 8 ++ beBytes s.of_.toNat 8 ++ beBytes s.picks.length 1
def pkT (l : List Int) : List UInt8 := l.flatMap fun x => beBytes (x + 1).toNat 1
theorem putT_t {s : STP} (h : mayT s = true) : putT s = bdT s ++ pkT s.picks := by
  unfold putT
  rw [h]
  rfl
theorem hdT_len (s : STP) : (hdT s).length = 7 := by simp [hdT, beBytes_len]
theorem bdT_len (s : STP) : (bdT s).length = 47 := by simp [bdT, hdT_len, beBytes_len]
theorem pkT_len : ∀ l : List Int, (pkT l).length = l.length
  | [] => rfl
  | x :: l => by
    have := pkT_len l
    unfold pkT at *
    rw [List.flatMap_cons, List.length_append, this, beBytes_len, List.length_cons]; omega
theorem pkT_snoc (l : List Int) (x : Int) : pkT (l ++ [x]) = pkT l ++ beBytes (x + 1).toNat 1 := by simp [pkT]
theorem putT_len {s : STP} (h : mayT s = true) : (putT s).length = 47 + s.picks.length := by rw [putT_t h, List.length_append, bdT_len, pkT_len]
end
end Go.Proofs.YtfjafbbalohmhaaGreatDoor
namespace Go.Proofs.YtfjafbbalohmhaaGreatDoor
set_option maxRecDepth 100000
open Go.RowKit
section
variable {P : Program} {K : KV} {w : World} {t : TypeId}

end
section
variable {P : Program} {t : TypeId} {w : World} {K : KV} {cx cy : Bool}

end
end Go.Proofs.YtfjafbbalohmhaaGreatDoor
namespace Go.Proofs.YtfjafbbalohmhaaGreatDoor
set_option maxRecDepth 100000
open Go.RowKit
abbrev ptr (b : Nat) : Value := .pointer (some ⟨b, 0, none⟩)
theorem RV.drew {w : World} {a : Option Addr} {n c : Nat} {xs : List Value} (h : RV w a n c xs) : RV w.drew a n c xs := ⟨h.len, h.cap, h.some_, h.nil_, h.cell⟩
theorem RB.drew {w : World} {a : Option Addr} {n c : Nat} {xs : List UInt8} (h : RB w a n c xs) : RB w.drew a n c xs := RV.drew h
theorem ownsRow_keep {T : List TypeId} {B B2 : Nat} {w w' : World} {E : TypeId} {s : Nat} {v : Value} {n : Nat} {xs : List Value} (h : w.ownsRow B2 E s v n xs) (hk : Keep T B w w') (hE : E ∉ T) : w'.ownsRow B2 E s v n xs := by
  refine ⟨h.1, ?_⟩
  rcases h.2 with h2 | ⟨g, cap, cur, hv, hb, hh, r⟩
  · exact .inl h2
  · exact .inr ⟨g, cap, cur, hv, hb, hk.block _ _ hh (.inr fun cs E' z e => by cases e; exact hE), r⟩
theorem OB.keep {T : List TypeId} {B B2 : Nat} {w w' : World} {a : Option Addr} {n c : Nat} {l : List UInt8} (h : OB w B2 a n c l) (hk : Keep T B w w') (hT : 5 ∉ T) : OB w' B2 a n c l := ownsRow_keep h hk hT
end Go.Proofs.YtfjafbbalohmhaaGreatDoor
namespace Go.Proofs.YtfjafbbalohmhaaGreatDoor
set_option maxRecDepth 100000
open Go.RowKit

abbrev EyS := Nat × Bool
def gtE (b : List UInt8) (st : EyS) (k : Nat) : Nat × EyS := if st.2 = false ∧ st.1 + k ≤ b.length then (beNat ((b.drop st.1).take k), (st.1 + k, false)) else (0, (st.1, true))
theorem gtE_le {b : List UInt8} {st : EyS} {k : Nat} (h : st.1 ≤ b.length) : (gtE b st k).2.1 ≤ b.length := by
  unfold gtE
  split
  · rename_i hh; exact hh.2
  · exact h
theorem gtE_lt {b : List UInt8} {st : EyS} {k : Nat} : (gtE b st k).1 < 256 ^ k := by
  unfold gtE
  split
  · rename_i hh
    have := beNat_lt ((b.drop st.1).take k)
    rwa [show ((b.drop st.1).take k).length = k by rw [List.length_take, List.length_drop]; omega] at this
  · exact Nat.pow_pos (by omega)
def amI (x : Nat) : Int := IntKind.i64.wrap (IntKind.u64.wrap ((x : Int) - 1))
def pksE (b : List UInt8) : Nat → EyS → List Int × EyS
  | 0, st => ([], st)
  | n + 1, st => match st.2 with
    | true => ([], st)
    | false => ((((gtE b st 1).1 : Int) - 1) :: (pksE b n (gtE b st 1).2).1, (pksE b n (gtE b st 1).2).2)
structure Rds where
  d : Nat
  who : Nat
  j : Nat
  k : Nat
  n : Nat
  kind : Nat
  node : Nat
  to : Nat
  am : Nat
  req : Nat
  of_ : Nat
  cnt : Nat
  st : EyS
def rdsT (b : List UInt8) (s0 : EyS) : Rds :=
  let r1 := gtE b s0 1
  let r2 := gtE b r1.2 2
  let r3 := gtE b r2.2 2
  let r4 := gtE b r3.2 2
  let r5 := gtE b r4.2 4
  let r6 := gtE b r5.2 1
  let r7 := gtE b r6.2 8
  let r8 := gtE b r7.2 2
  let r9 := gtE b r8.2 8
  let r10 := gtE b r9.2 8
  let r11 := gtE b r10.2 8
  let r12 := gtE b r11.2 1
  ⟨r1.1, r2.1, r3.1, r4.1, r5.1, r6.1, r7.1, r8.1, r9.1, r10.1, r11.1, r12.1, r12.2⟩
def stpT (r : Rds) (l : List Int) : STP := ⟨r.d, (r.who : Int) - 1, r.kind, r.node, (r.to : Int) - 1, amI r.am, r.req, r.of_, (r.k : Int) - 1, (r.j : Int) - 1, (r.n : Int) - 1, l⟩
def getP (b : List UInt8) : Option STP :=
  let r := rdsT b (0, false)
  let q := pksE b r.cnt r.st
  if q.2.2 = false ∧ q.2.1 = b.length ∧ mayT (stpT r q.1) = true then some (stpT r q.1) else none
def stp0 : List Value := [.int .u8 0, i6 0, .int .u8 0, .int .u64 0, i6 0, i6 0, .int .u64 0, .int .u64 0, i6 0, i6 0, i6 0, .slice none 0 0]
theorem fA_Eye_0 {w : World} {K : KV} {b o : Nat} (h : K (.pointer (some ⟨b, o + 0, none⟩)) w) : fldA Tryz.prog 75 (.pointer (some ⟨b, o, none⟩)) 0 K w := fldA_of (by kernel_rfl) h
theorem fA_Eye_1 {w : World} {K : KV} {b o : Nat} (h : K (.pointer (some ⟨b, o + 1, none⟩)) w) : fldA Tryz.prog 75 (.pointer (some ⟨b, o, none⟩)) 1 K w := fldA_of (by kernel_rfl) h
theorem fA_Eye_2 {w : World} {K : KV} {b o : Nat} (h : K (.pointer (some ⟨b, o + 2, none⟩)) w) : fldA Tryz.prog 75 (.pointer (some ⟨b, o, none⟩)) 2 K w := fldA_of (by kernel_rfl) h
attribute [local irreducible] bin un conv call callV blt slc fldA fld idxA idx lkp mUpd mEnt eSt rng nxt ent ext alc box bld bldS ld sto nilC mkMap mkS ifc pick rdy wts gsel sti cond retM Gives cCode cGrp cSeq cOp
section
variable {w : World} {K : KV}
theorem takeS_get {b : List UInt8} {i k : Nat} (hk : k = 1 ∨ k = 2 ∨ k = 4 ∨ k = 8) (hi : i ≤ b.length) :
    takeS b i k = if i + k ≤ b.length then (beNat ((b.drop i).take k), (i : Int) + k, 0) else (0, 0, 5) := by
  have hw : widthOf (k : Int) ≠ 0 := by rcases hk with rfl | rfl | rfl | rfl <;> decide
  unfold takeS
  rw [if_neg (by simp [hw]; omega)]
  by_cases h : i + k ≤ b.length
  · rw [if_neg (by omega), if_pos h, Int.toNat_natCast, Int.toNat_natCast]
  · rw [if_pos (by omega), if_neg h]
def eyC (a : Option Addr) (n c : Nat) (st : EyS) : List Value := [.slice a n c, i6 st.1, .bool st.2]
theorem eget_c {p : Nat} {a : Option Addr} {n c : Nat} {b : List UInt8} {st : EyS} {kk : Int} (k : Nat) (hp : blk w p 75 (eyC a n c st)) (hr : RB w a n c b) (hn : n ≤ 9223372036854775807) (hat : st.1 ≤ b.length) (hk : k = 1 ∨ k = 2 ∨ k = 4 ∨ k = 8) (hkk : kk = (k : Int))
    (h : ∀ w', blk w' p 75 (eyC a n c (gtE b st k).2) → Oth p w w' → K (.int .u64 ((gtE b st k).1 : Nat)) w') : call Tryz.prog 29 #[.pointer (some ⟨p, 0, none⟩), .int .i64 kk] K w := by
  subst hkk
  obtain ⟨i, sp⟩ := st
  have hlen := hr.len
  have hrd : RB w.drew a n c b := RV.drew hr
  refine call_of trace_eye_get_go (trace_eye_get_in ?_)
  refine hReg_of (fun x => blk x p 75 (eyC a n c (i, sp)) ∧ RB x a n c b) ⟨hp, hrd⟩ ?_
  refine hld_of (fun x hx K hK => nilC_p hK) ?_
  refine hld_of (fun x hx K hK => fA_Eye_0 hK) ?_
  refine hld_of (v := .slice a n c) (fun x hx K hK => ld1 (fun _ => by kernel_rfl) hx.1 rfl hK) ?_
  refine hld_of (fun x hx K hK => nilC_p hK) ?_
  refine hld_of (fun x hx K hK => fA_Eye_1 hK) ?_
  refine hld_of (v := i6 i) (fun x hx K hK => ld1 (fun _ => by kernel_rfl) hx.1 rfl hK) ?_
  unfold i6
  refine take_c hrd hn ?_
  have hpd : blk w.drew p 75 (eyC a n c (i, sp)) := hp
  refine hReg_of (fun _ => True) trivial ?_
  refine hld_of (fun x hx K hK => ext3_a hK) ?_
  refine hld_of (fun x hx K hK => ext3_b hK) ?_
  refine hld_of (fun x hx K hK => ext3_c hK) ?_
  refine nilC_p ?_
  refine fA_Eye_2 ?_
  refine ld1 (v := .bool sp) (fun _ => by kernel_rfl) hpd rfl ?_
  have hat : i ≤ b.length := hat
  rw [takeS_get hk hat]
  have bad : (gtE b (i, sp) k) = (0, (i, true)) → (∀ w', blk w' p 75 (eyC a n c (i, true)) → Oth p w.drew w' → K (.int .u64 0) w') := by
    intro hq w' h1 h2
    rw [hq] at h
    exact h w' h1 ⟨h2.os, h2.tape, h2.output, h2.size, h2.other⟩
  have stop : (gtE b (i, sp) k) = (0, (i, true)) → nilC (.pointer (some ⟨p, 0, none⟩)) (fun t31 w => fldA Tryz.prog 75 t31 2 (fun t32 w => sto Tryz.prog 4 t32 (.bool true) (fun _t w => K (.int .u64 0) w) w) w) w.drew := by
    intro hq
    refine nilC_p ?_
    refine fA_Eye_2 ?_
    refine sto1 (fun _ => by kernel_rfl) hpd (by simp [eyC]) rfl ?_
    intro w' h1 h2
    exact bad hq w' h1 h2
  cases sp with
  | true =>
    refine gsel_Tn ?_
    refine pick_T ?_
    refine cond_T ?_
    exact stop (by simp [gtE])
  | false =>
    refine gsel_Fn ?_
    by_cases hf : i + k ≤ b.length
    · rw [if_pos hf]
      refine bin_neq ?_
      refine pick_F ?_
      refine cond_f (by simp) ?_
      refine nilC_p ?_
      refine fA_Eye_1 ?_
      refine sto1 (fun _ => by kernel_rfl) hpd (by simp [eyC]) rfl ?_
      intro w' h1 h2
      have hq : gtE b (i, false) k = (beNat ((b.drop i).take k), (i + k, false)) := by simp [gtE, hf]
      rw [hq] at h
      exact h w' h1 ⟨h2.os, h2.tape, h2.output, h2.size, h2.other⟩
    · rw [if_neg hf]
      refine bin_neq ?_
      refine pick_F ?_
      refine cond_t (by simp) ?_
      exact stop (by simp [gtE, hf])
theorem eless_c {p : Nat} {a : Option Addr} {n c : Nat} {b : List UInt8} {st : EyS} {kk : Int} (k : Nat) (hp : blk w p 75 (eyC a n c st)) (hr : RB w a n c b) (hn : n ≤ 9223372036854775807) (hat : st.1 ≤ b.length) (hk : k = 1 ∨ k = 2 ∨ k = 4) (hkk : kk = (k : Int))
    (h : ∀ w', blk w' p 75 (eyC a n c (gtE b st k).2) → Oth p w w' → K (i6 (((gtE b st k).1 : Int) - 1)) w') : call Tryz.prog 30 #[.pointer (some ⟨p, 0, none⟩), .int .i64 kk] K w := by
  refine call_of trace_eye_less_go (trace_eye_less_in ?_)
  refine eget_c k hp hr hn hat (by omega) hkk ?_
  intro w' h1 h2
  have hlt := gtE_lt (b := b) (st := st) (k := k)
  have : (gtE b st k).1 < 4294967296 := Nat.lt_of_lt_of_le hlt (by rcases hk with rfl | rfl | rfl <;> decide)
  refine cvUI (by omega) (by omega) ?_
  refine sub64 (by omega) (by omega) ?_
  exact h w' h1 h2
end
end Go.Proofs.YtfjafbbalohmhaaGreatDoor
namespace Go.Proofs.YtfjafbbalohmhaaGreatDoor
set_option maxRecDepth 100000

theorem beBytes_less (x y : Nat) : ∀ s, Op.bytesLess (beBytes x s) (beBytes y s) = decide (x % 256 ^ s < y % 256 ^ s) ∧ (beBytes x s = beBytes y s ↔ x % 256 ^ s = y % 256 ^ s) := by
  intro s
  induction s with
  | zero => simp [beBytes, Op.bytesLess, Nat.mod_one]
  | succ k ih =>
    obtain ⟨i1, i2⟩ := ih
    have hx := Nat.mod_pow_succ (b := 256) (k := k) (x := x)
    have hy := Nat.mod_pow_succ (b := 256) (k := k) (x := y)
    have lx : x % 256 ^ k < 256 ^ k := Nat.mod_lt _ (Nat.pow_pos (by omega))
    have ly : y % 256 ^ k < 256 ^ k := Nat.mod_lt _ (Nat.pow_pos (by omega))
    have bx : (UInt8.ofNat (x / 256 ^ k)).toNat = x / 256 ^ k % 256 := by simp
    have bY : (UInt8.ofNat (y / 256 ^ k)).toNat = y / 256 ^ k % 256 := by simp
    have e1 : UInt8.ofNat (x / 256 ^ k) < UInt8.ofNat (y / 256 ^ k) ↔ x / 256 ^ k % 256 < y / 256 ^ k % 256 := by rw [UInt8.lt_iff_toNat_lt, bx, bY]
    have e2 : UInt8.ofNat (x / 256 ^ k) = UInt8.ofNat (y / 256 ^ k) ↔ x / 256 ^ k % 256 = y / 256 ^ k % 256 := by rw [← UInt8.toNat_inj, bx, bY]
    simp only [beBytes, Op.bytesLess, List.cons.injEq]
    rw [i1, i2, e2, hx, hy]
    have e3 : (UInt8.ofNat (x / 256 ^ k) == UInt8.ofNat (y / 256 ^ k)) = decide (x / 256 ^ k % 256 = y / 256 ^ k % 256) := by
      by_cases hh : x / 256 ^ k % 256 = y / 256 ^ k % 256
      · rw [decide_eq_true hh, beq_iff_eq]; exact e2.2 hh
      · rw [decide_eq_false hh, beq_eq_false_iff_ne]; exact fun h => hh (e2.1 h)
    rw [e3]
    generalize x / 256 ^ k % 256 = dx at *
    generalize y / 256 ^ k % 256 = dy at *
    generalize x % 256 ^ k = rx at *
    generalize y % 256 ^ k = ry at *
    generalize 256 ^ k = B at *
    rcases Nat.lt_trichotomy dx dy with hd | hd | hd
    · have h1 := Nat.mul_le_mul_left B (show dx + 1 ≤ dy from hd)
      rw [Nat.mul_add, Nat.mul_one] at h1
      rw [decide_eq_true (e1.2 hd), decide_eq_true (show rx + B * dx < ry + B * dy by omega)]
      exact ⟨rfl, fun h => absurd h.1 (by omega), fun h => by omega⟩
    · subst hd
      have hn : ¬ UInt8.ofNat (x / B) < UInt8.ofNat (y / B) := fun h => by have := e1.1 h; omega
      rw [decide_eq_false hn]
      refine ⟨?_, ?_, ?_⟩
      · simp only [Bool.false_or, decide_true, Bool.true_and]
        exact decide_eq_decide.2 (by omega)
      · intro h; rw [h.2]
      · intro h; exact ⟨rfl, by omega⟩
    · have h1 := Nat.mul_le_mul_left B (show dy + 1 ≤ dx from hd)
      rw [Nat.mul_add, Nat.mul_one] at h1
      have hn : ¬ UInt8.ofNat (x / B) < UInt8.ofNat (y / B) := fun h => by have := e1.1 h; omega
      rw [decide_eq_false hn, decide_eq_false (show ¬ dx = dy by omega), decide_eq_false (show ¬ rx + B * dx < ry + B * dy by omega)]
      exact ⟨rfl, fun h => absurd h.1 (by omega), fun h => by omega⟩

theorem foldl_be (l : List UInt8) : ∀ n : Nat, l.foldl (fun n c => n * 256 + c.toNat) n = n * 256 ^ l.length + l.foldl (fun n c => n * 256 + c.toNat) 0 := by
  induction l with
  | nil => intro n; simp
  | cons c r ih =>
    intro n
    simp only [List.foldl_cons, List.length_cons]
    rw [ih (n * 256 + c.toNat), ih (0 * 256 + c.toNat)]
    rw [Nat.pow_succ, Nat.add_mul, Nat.add_mul, Nat.mul_assoc, Nat.mul_comm (256 ^ r.length) 256]
    omega
theorem beNat_cons (c : UInt8) (l : List UInt8) : beNat (c :: l) = c.toNat * 256 ^ l.length + beNat l := by
  unfold beNat
  rw [List.foldl_cons, foldl_be]
  simp
theorem be_beNat (l : List UInt8) : beBytes (beNat l) l.length = l := by
  induction l with
  | nil => rfl
  | cons c r ih =>
    have hlt := beNat_lt r
    have hB : 0 < 256 ^ r.length := Nat.pow_pos (by omega)
    rw [List.length_cons, beBytes, beNat_cons]
    have h1 : (c.toNat * 256 ^ r.length + beNat r) / 256 ^ r.length = c.toNat := by
      rw [Nat.mul_comm, Nat.mul_add_div hB, Nat.div_eq_of_lt hlt]; rfl
    have h2 : beBytes (c.toNat * 256 ^ r.length + beNat r) r.length = beBytes (beNat r) r.length := by
      refine (beBytes_less _ _ _).2.2 ?_
      rw [Nat.mul_comm, Nat.mul_add_mod]
    rw [h1, h2, ih]
    simp

end Go.Proofs.YtfjafbbalohmhaaGreatDoor
namespace Go.Proofs.YtfjafbbalohmhaaGreatDoor
set_option maxRecDepth 100000

def rd (b : List UInt8) : List Nat → EyS → List Nat × EyS
  | [], st => ([], st)
  | k :: ks, st => ((gtE b st k).1 :: (rd b ks (gtE b st k).2).1, (rd b ks (gtE b st k).2).2)
def ksT : List Nat := [1, 2, 2, 2, 4, 1, 8, 2, 8, 8, 8, 1]
def valsT (r : Rds) : List Nat := [r.d, r.who, r.j, r.k, r.n, r.kind, r.node, r.to, r.am, r.req, r.of_, r.cnt]
theorem rds_rd (b : List UInt8) (s0 : EyS) : rd b ksT s0 = (valsT (rdsT b s0), (rdsT b s0).st) := by
  unfold rdsT valsT ksT
  simp only [rd]
structure RdsLt (r : Rds) : Prop where
  d : r.d < 256 ^ 1
  kind : r.kind < 256 ^ 1
  cnt : r.cnt < 256 ^ 1
  node : r.node < 256 ^ 8
  am : r.am < 256 ^ 8
  req : r.req < 256 ^ 8
  of_ : r.of_ < 256 ^ 8
theorem rds_lt (b : List UInt8) (s0 : EyS) : RdsLt (rdsT b s0) := by
  unfold rdsT
  exact ⟨gtE_lt, gtE_lt, gtE_lt, gtE_lt, gtE_lt, gtE_lt, gtE_lt⟩
attribute [local irreducible] rdsT
theorem stpT_w (b : List UInt8) (l : List Int) : STW (stpT (rdsT b (0, false)) l) := by
  have h := rds_lt b (0, false)
  have h1 := h.d
  have h2 := h.kind
  have h3 := h.node
  have h4 := h.req
  have h5 := h.of_
  exact ⟨by simp only [stpT]; omega, by simp only [stpT]; omega, by simp only [stpT]; omega, by simp only [stpT]; omega, by simp only [stpT]; omega⟩
def encL (l : List (Nat × Nat)) : List UInt8 := l.flatMap fun q => beBytes q.1 q.2
theorem gtE_sp (b : List UInt8) (i k : Nat) : gtE b (i, true) k = (0, (i, true)) := by simp [gtE]
theorem rd_sp (b : List UInt8) : ∀ (ks : List Nat) (i : Nat), (rd b ks (i, true)).2.2 = true
  | [], i => rfl
  | k :: ks, i => by
    show (rd b ks (gtE b (i, true) k).2).2.2 = true
    rw [gtE_sp]
    exact rd_sp b ks i
theorem gtE_back {b : List UInt8} {i k : Nat} (h : (gtE b (i, false) k).2.2 = false) : i + k ≤ b.length ∧ gtE b (i, false) k = (beNat ((b.drop i).take k), (i + k, false)) ∧ beBytes (gtE b (i, false) k).1 k = (b.drop i).take k := by
  unfold gtE at *
  by_cases hh : i + k ≤ b.length
  · rw [if_pos ⟨rfl, hh⟩]
    refine ⟨hh, rfl, ?_⟩
    have := be_beNat ((b.drop i).take k)
    rwa [show ((b.drop i).take k).length = k by rw [List.length_take, List.length_drop]; omega] at this
  · rw [if_neg (fun hq => hh hq.2)] at h; cases h
theorem rd_back {b : List UInt8} : ∀ (ks : List Nat) (i : Nat), i ≤ b.length → (rd b ks (i, false)).2.2 = false → (rd b ks (i, false)).2.1 = i + ks.sum ∧ i + ks.sum ≤ b.length ∧ encL ((rd b ks (i, false)).1.zip ks) = (b.drop i).take ks.sum
  | [], i, hi, _ => by simp [rd, encL, hi]
  | k :: ks, i, hi, h => by
    have h : (rd b ks (gtE b (i, false) k).2).2.2 = false := h
    have h0 : (gtE b (i, false) k).2.2 = false := by
      cases hq : (gtE b (i, false) k).2.2 with
      | false => rfl
      | true =>
        have e : (gtE b (i, false) k).2 = ((gtE b (i, false) k).2.1, true) := by rw [← hq]
        rw [e, rd_sp] at h; cases h
    obtain ⟨h1, h2, h3⟩ := gtE_back h0
    have e : (gtE b (i, false) k).2 = (i + k, false) := by rw [h2]
    rw [e] at h
    obtain ⟨k1, k2, k3⟩ := rd_back ks (i + k) h1 h
    refine ⟨?_, by simp; omega, ?_⟩
    · show (rd b ks (gtE b (i, false) k).2).2.1 = _
      rw [e, k1]; simp; omega
    · show encL (((gtE b (i, false) k).1 :: (rd b ks (gtE b (i, false) k).2).1).zip (k :: ks)) = _
      rw [e, List.zip_cons_cons]
      show beBytes (gtE b (i, false) k).1 k ++ encL ((rd b ks (i + k, false)).1.zip ks) = _
      rw [h3, k3, List.sum_cons, List.take_add, List.drop_drop]
theorem pks_back {b : List UInt8} : ∀ (m i : Nat), i ≤ b.length → (pksE b m (i, false)).2.2 = false → (pksE b m (i, false)).1.length = m ∧ (pksE b m (i, false)).2.1 = i + m ∧ i + m ≤ b.length ∧ pkT (pksE b m (i, false)).1 = (b.drop i).take m
  | 0, i, hi, _ => by simp [pksE, pkT, hi]
  | m + 1, i, hi, h => by
    have hp : pksE b (m + 1) (i, false) = ((((gtE b (i, false) 1).1 : Int) - 1) :: (pksE b m (gtE b (i, false) 1).2).1, (pksE b m (gtE b (i, false) 1).2).2) := rfl
    rw [hp] at h ⊢
    have h0 : (gtE b (i, false) 1).2.2 = false := by
      cases hq : (gtE b (i, false) 1).2.2 with
      | false => rfl
      | true =>
        have e : (gtE b (i, false) 1).2 = ((gtE b (i, false) 1).2.1, true) := by rw [← hq]
        rw [e] at h
        cases m <;> simp [pksE] at h
    obtain ⟨h1, h2, h3⟩ := gtE_back h0
    have e : (gtE b (i, false) 1).2 = (i + 1, false) := by rw [h2]
    rw [e] at h ⊢
    obtain ⟨k0, k1, k2, k3⟩ := pks_back m (i + 1) h1 h
    refine ⟨by simp [k0], by simp only; rw [k1]; omega, by omega, ?_⟩
    show beBytes ((((gtE b (i, false) 1).1 : Int) - 1) + 1).toNat 1 ++ pkT (pksE b m (i + 1, false)).1 = _
    rw [show (((((gtE b (i, false) 1).1 : Int) - 1) + 1).toNat) = (gtE b (i, false) 1).1 by omega, h3, k3]
    rw [show m + 1 = 1 + m by omega, List.take_add, List.drop_drop]
def numT (s : STP) : List (Nat × Nat) := [(s.d.toNat, 1), ((s.who + 1).toNat, 2), ((s.j + 1).toNat, 2), ((s.k + 1).toNat, 2), ((s.n + 1).toNat, 4), (s.kind.toNat, 1), (s.node.toNat, 8), ((s.to + 1).toNat, 2), ((s.am + 1).toNat, 8), (s.req.toNat, 8), (s.of_.toNat, 8), (s.picks.length, 1)]
theorem bdT_num (s : STP) : bdT s = encL (numT s) := by simp [bdT, hdT, encL, numT, List.append_assoc]
theorem wrap64 (n : Int) : IntKind.i64.wrap n = (n + 9223372036854775808) % 18446744073709551616 - 9223372036854775808 := by
  have e1 : ((2 : Int) ^ 64) = 18446744073709551616 := by decide
  have e2 : ((2 : Int) ^ 63) = 9223372036854775808 := by decide
  simp only [IntKind.wrap, IntKind.signed, IntKind.bits, Bool.true_and, decide_eq_true_eq, e1, e2, ge_iff_le]
  split <;> omega
theorem amI_back {x : Nat} (hx : x < 18446744073709551616) (h1 : -1 ≤ amI x) : (amI x + 1).toNat = x := by
  unfold amI at *
  rw [wrap_u64, wrap64] at *
  omega
theorem put_got {b : List UInt8} {l : List Int} {st : EyS} (hq : pksE b (rdsT b (0, false)).cnt (rdsT b (0, false)).st = (l, st)) (hsp : st.2 = false) (hm : -1 ≤ amI (rdsT b (0, false)).am) :
    (rdsT b (0, false)).st = (47, false) ∧ l.length = (rdsT b (0, false)).cnt ∧ st.1 = 47 + l.length ∧ st.1 ≤ b.length ∧ bdT (stpT (rdsT b (0, false)) l) ++ pkT l = b.take st.1 := by
  have h0 : (rdsT b (0, false)).st.2 = false := by
    cases hq2 : (rdsT b (0, false)).st.2 with
    | false => rfl
    | true =>
      have e : (rdsT b (0, false)).st = ((rdsT b (0, false)).st.1, true) := by rw [← hq2]
      rw [e] at hq
      have : pksE b (rdsT b (0, false)).cnt ((rdsT b (0, false)).st.1, true) = ([], ((rdsT b (0, false)).st.1, true)) := by
        cases (rdsT b (0, false)).cnt <;> rfl
      rw [this] at hq
      cases hq
      cases hsp
  have hb := rd_back (b := b) ksT 0 (Nat.zero_le _) (by rw [rds_rd]; exact h0)
  rw [rds_rd] at hb
  obtain ⟨x1, x2, x3⟩ := hb
  have x1 : (rdsT b (0, false)).st.1 = 47 := x1
  have x2 : 47 ≤ b.length := x2
  have hst : (rdsT b (0, false)).st = (47, false) := Prod.ext x1 h0
  rw [hst] at hq
  have hpb := pks_back (b := b) (rdsT b (0, false)).cnt 47 x2 (by rw [hq]; exact hsp)
  rw [hq] at hpb
  obtain ⟨y1, y2, y3, y4⟩ := hpb
  have y1 : l.length = (rdsT b (0, false)).cnt := y1
  have y2 : st.1 = 47 + (rdsT b (0, false)).cnt := y2
  have y4 : pkT l = (b.drop 47).take (rdsT b (0, false)).cnt := y4
  refine ⟨hst, y1, by omega, by omega, ?_⟩
  have hamlt := (rds_lt b (0, false)).am
  have hnum : numT (stpT (rdsT b (0, false)) l) = (valsT (rdsT b (0, false))).zip ksT := by
    simp only [numT, stpT, valsT, ksT, List.zip_cons_cons, List.zip_nil_left, List.cons.injEq, Prod.mk.injEq, and_true]
    rw [amI_back (by simpa using hamlt) hm, y1]
    refine ⟨by omega, by omega, by omega, by omega, by omega, by omega, by omega, by omega, rfl, by omega, by omega, rfl⟩
  rw [bdT_num, hnum, x3, y4, y2]
  have hsum : ksT.sum = 47 := rfl
  rw [hsum, List.drop_zero, List.take_add]
theorem getP_some {b : List UInt8} {s : STP} (h : getP b = some s) : mayT s = true ∧ putT s = b ∧ STW s := by
  unfold getP at h
  simp only at h
  split at h
  · rename_i hh
    obtain ⟨h1, h2, h3⟩ := hh
    cases h
    generalize hq : pksE b (rdsT b (0, false)).cnt (rdsT b (0, false)).st = q at *
    obtain ⟨l, st⟩ := q
    have hm := (mayT_iff.1 h3)
    obtain ⟨g1, g2, g3, g4, g5⟩ := put_got hq h1 hm.2.2.2.2.2.2.2.1.1
    refine ⟨h3, ?_, ?_⟩
    · rw [putT_t h3]
      have h2 : st.1 = b.length := h2
      rw [h2, List.take_length] at g5
      exact g5
    · exact stpT_w b l
  · cases h
def getR (b : List UInt8) : Option STP :=
  let r := rdsT b (0, false)
  let q := pksE b r.cnt r.st
  if q.2.2 = false ∧ b ≠ [] ∧ putT (stpT r q.1) = b then some (stpT r q.1) else none
theorem getR_eq (b : List UInt8) : getR b = getP b := by
  unfold getR getP
  simp only
  generalize hq : pksE b (rdsT b (0, false)).cnt (rdsT b (0, false)).st = q
  obtain ⟨l, st⟩ := q
  simp only
  have key : (st.2 = false ∧ b ≠ [] ∧ putT (stpT (rdsT b (0, false)) l) = b) ↔ (st.2 = false ∧ st.1 = b.length ∧ mayT (stpT (rdsT b (0, false)) l) = true) := by
    constructor
    · rintro ⟨hsp, hne, hp⟩
      have hm : mayT (stpT (rdsT b (0, false)) l) = true := by
        cases hq2 : mayT (stpT (rdsT b (0, false)) l) with
        | true => rfl
        | false =>
          unfold putT at hp
          rw [hq2] at hp
          exact absurd hp.symm hne
      obtain ⟨g1, g2, g3, g4, g5⟩ := put_got hq hsp (mayT_iff.1 hm).2.2.2.2.2.2.2.1.1
      have := congrArg List.length hp
      rw [putT_len hm] at this
      have hpk : (stpT (rdsT b (0, false)) l).picks = l := rfl
      rw [hpk] at this
      exact ⟨hsp, by omega, hm⟩
    · rintro ⟨hsp, hat, hm⟩
      obtain ⟨g1, g2, g3, g4, g5⟩ := put_got hq hsp (mayT_iff.1 hm).2.2.2.2.2.2.2.1.1
      refine ⟨hsp, ?_, ?_⟩
      · rintro rfl
        simp at g4
        omega
      · rw [putT_t hm]
        rw [hat, List.take_length] at g5
        exact g5
  by_cases hh : st.2 = false ∧ st.1 = b.length ∧ mayT (stpT (rdsT b (0, false)) l) = true
  · rw [if_pos hh, if_pos (key.2 hh)]
  · rw [if_neg hh, if_neg (fun h => hh (key.1 h))]
end Go.Proofs.YtfjafbbalohmhaaGreatDoor
namespace Go.Proofs.YtfjafbbalohmhaaGreatDoor
open Go.RowKit
set_option maxRecDepth 100000


theorem leatref01_size_k {K : KV} {k_0 : Value} {w : World}
    (h : bin Tryz.prog BinOp.eql 3 false true k_0 (Value.int IntKind.i64 1) (fun A0 w =>
    gsel A0 false (fun k6 =>
    bin Tryz.prog BinOp.eql 3 false true k_0 (Value.int IntKind.i64 2) (fun A2 w =>
    k6 [k_0, A2] w) w)
    (fun k => k [undef, undef] w) (fun us6 w =>
    pick A0 (Value.bool true) (gd us6 1) (fun A3 w =>
    gsel A3 false (fun k10 =>
    bin Tryz.prog BinOp.eql 3 false true k_0 (Value.int IntKind.i64 4) (fun A5 w =>
    k10 [k_0, A5] w) w)
    (fun k => k [undef, undef] w) (fun us10 w =>
    pick A3 (Value.bool true) (gd us10 1) (fun A6 w =>
    gsel A6 false (fun k14 =>
    bin Tryz.prog BinOp.eql 3 false true k_0 (Value.int IntKind.i64 8) (fun A9 w =>
    k14 [k_0, A9] w) w)
    (fun k => k [undef, undef] w) (fun us14 w =>
    pick A6 (Value.bool true) (gd us14 1) (fun C0 w =>
    K C0 w) w)) w)) w)) w) :
    cCode Tryz.prog (cd Tryz.f61 []) (retK Tryz.prog Tryz.f61.results.toList K) (fun _ _ _ => False) (retK Tryz.prog Tryz.f61.results.toList K) [k_0, undef, undef, undef, undef, undef, undef, undef, undef, undef, undef, undef, undef, undef, undef, undef, undef] w := Eq.mp (by kernel_rfl) h

theorem leatref01_size_in {K : KV} {k_0 : Value} {w : World}
    (h : bin Tryz.prog BinOp.eql 3 false true k_0 (Value.int IntKind.i64 1) (fun A0 w =>
    gsel A0 false (fun k6 =>
    bin Tryz.prog BinOp.eql 3 false true k_0 (Value.int IntKind.i64 2) (fun A2 w =>
    k6 [k_0, A2] w) w)
    (fun k => k [undef, undef] w) (fun us6 w =>
    pick A0 (Value.bool true) (gd us6 1) (fun A3 w =>
    gsel A3 false (fun k10 =>
    bin Tryz.prog BinOp.eql 3 false true k_0 (Value.int IntKind.i64 4) (fun A5 w =>
    k10 [k_0, A5] w) w)
    (fun k => k [undef, undef] w) (fun us10 w =>
    pick A3 (Value.bool true) (gd us10 1) (fun A6 w =>
    gsel A6 false (fun k14 =>
    bin Tryz.prog BinOp.eql 3 false true k_0 (Value.int IntKind.i64 8) (fun A9 w =>
    k14 [k_0, A9] w) w)
    (fun k => k [undef, undef] w) (fun us14 w =>
    pick A6 (Value.bool true) (gd us14 1) (fun C0 w =>
    K C0 w) w)) w)) w)) w) :
    Gives Tryz.prog 61 #[k_0] w K := enter' Tryz.func61 (by kernel_rfl) (Eq.mp (congrArg (fun c => cCode Tryz.prog c (retK Tryz.prog Tryz.f61.results.toList K) (fun _ _ _ => False) (retK Tryz.prog Tryz.f61.results.toList K) [k_0, undef, undef, undef, undef, undef, undef, undef, undef, undef, undef, undef, undef, undef, undef, undef, undef] w) (by kernel_rfl : (cd Tryz.f61 []) = (cd Tryz.f61 []))) (leatref01_size_k h))
theorem leatref01_size_go : isGo Tryz.prog 61 := ⟨_, Tryz.func61, by kernel_rfl, by kernel_rfl⟩

def leatref01_Put_P1 (K : KV) : KE := cCode Tryz.prog (cd Tryz.f44 [1, 1, 1, 1, 1]) (retK Tryz.prog Tryz.f44.results.toList K) (fun _ _ _ => False) (retK Tryz.prog Tryz.f44.results.toList K)
def leatref01_Put_L1 (K : KV) : KE := cCode Tryz.prog (cd Tryz.f44 [1, 1, 1, 1, 0, 1, 0]) (leatref01_Put_P1 K) (fun i => @Bool.rec (fun _ => KE) ((fun _ _ _ => False) i) (leatref01_Put_P1 K) (Nat.beq i 0)) (retK Tryz.prog Tryz.f44.results.toList K)
theorem leatref01_Put_k {K : KV} {b0 n1 k_2 : Value} {w : World}
    (h : call Tryz.prog 61 #[k_2] (fun A5 w =>
    un Tryz.prog UnOp.not A5 (fun A6 w =>
    cond A6
      (K (Value.tuple #[(Value.slice none 0 0), (Value.int IntKind.i64 1)]) w)
      (bin Tryz.prog BinOp.lss 3 false true k_2 (Value.int IntKind.i64 8) (fun A8 w =>
    gsel A8 true (fun k16 =>
    bin Tryz.prog BinOp.mul 3 true false (Value.int IntKind.i64 8) k_2 (fun C2 w =>
    conv Tryz.prog 3 97 C2 (fun C3 w =>
    bin Tryz.prog BinOp.shr 22 false false n1 C3 (fun C4 w =>
    bin Tryz.prog BinOp.gtr 22 false true C4 (Value.int IntKind.u64 0) (fun C5 w =>
    k16 [n1, k_2, C2, C3, C4, C5] w) w) w) w) w)
    (fun k => k [undef, undef, undef, undef, undef, undef] w) (fun us16 w =>
    pick A8 (gd us16 5) (Value.bool false) (fun C6 w =>
    cond C6
      (K (Value.tuple #[(Value.slice none 0 0), (Value.int IntKind.i64 6)]) w)
      (bldS Tryz.prog 28 0 #[] (fun C7 w =>
    blt Tryz.prog Builtin.append #[28, 28] 28 #[false, false] #[C7, b0] (fun C9 w =>
    bin Tryz.prog BinOp.sub 3 false true k_2 (Value.int IntKind.i64 1) (fun D1 w =>
    (cCode Tryz.prog (cd Tryz.f44 [1, 1, 1, 1, 0, 1, 0]) (cCode Tryz.prog (cd Tryz.f44 [1, 1, 1, 1, 1]) (retK Tryz.prog Tryz.f44.results.toList K) (fun _ _ _ => False) (retK Tryz.prog Tryz.f44.results.toList K)) (fun i => @Bool.rec (fun _ => KE) ((fun _ _ _ => False) i) (cCode Tryz.prog (cd Tryz.f44 [1, 1, 1, 1, 1]) (retK Tryz.prog Tryz.f44.results.toList K) (fun _ _ _ => False) (retK Tryz.prog Tryz.f44.results.toList K)) (Nat.beq i 0)) (retK Tryz.prog Tryz.f44.results.toList K)) [b0, n1, k_2, undef, undef, undef, (Value.slice none 0 0), (Value.int IntKind.i64 0), C9, D1, k_2, A5, A6, k_2, A8, A8, (gd us16 0), (gd us16 1), (gd us16 2), (gd us16 3), (gd us16 4), (gd us16 5), C6, C7, b0, C9, k_2, D1, undef, undef, undef, undef, undef, undef, undef, undef, undef, undef, undef, undef, undef, undef] w) w) w) w)) w)) w)) w) w) :
    cCode Tryz.prog (cd Tryz.f44 []) (retK Tryz.prog Tryz.f44.results.toList K) (fun _ _ _ => False) (retK Tryz.prog Tryz.f44.results.toList K) [b0, n1, k_2, undef, undef, undef, undef, undef, undef, undef, undef, undef, undef, undef, undef, undef, undef, undef, undef, undef, undef, undef, undef, undef, undef, undef, undef, undef, undef, undef, undef, undef, undef, undef, undef, undef, undef, undef, undef, undef, undef, undef] w := Eq.mp (by kernel_rfl) h

theorem leatref01_Put_in {K : KV} {b0 n1 k_2 : Value} {w : World}
    (h : call Tryz.prog 61 #[k_2] (fun A5 w =>
    un Tryz.prog UnOp.not A5 (fun A6 w =>
    cond A6
      (K (Value.tuple #[(Value.slice none 0 0), (Value.int IntKind.i64 1)]) w)
      (bin Tryz.prog BinOp.lss 3 false true k_2 (Value.int IntKind.i64 8) (fun A8 w =>
    gsel A8 true (fun k16 =>
    bin Tryz.prog BinOp.mul 3 true false (Value.int IntKind.i64 8) k_2 (fun C2 w =>
    conv Tryz.prog 3 97 C2 (fun C3 w =>
    bin Tryz.prog BinOp.shr 22 false false n1 C3 (fun C4 w =>
    bin Tryz.prog BinOp.gtr 22 false true C4 (Value.int IntKind.u64 0) (fun C5 w =>
    k16 [n1, k_2, C2, C3, C4, C5] w) w) w) w) w)
    (fun k => k [undef, undef, undef, undef, undef, undef] w) (fun us16 w =>
    pick A8 (gd us16 5) (Value.bool false) (fun C6 w =>
    cond C6
      (K (Value.tuple #[(Value.slice none 0 0), (Value.int IntKind.i64 6)]) w)
      (bldS Tryz.prog 28 0 #[] (fun C7 w =>
    blt Tryz.prog Builtin.append #[28, 28] 28 #[false, false] #[C7, b0] (fun C9 w =>
    bin Tryz.prog BinOp.sub 3 false true k_2 (Value.int IntKind.i64 1) (fun D1 w =>
    (leatref01_Put_L1 K) [b0, n1, k_2, undef, undef, undef, (Value.slice none 0 0), (Value.int IntKind.i64 0), C9, D1, k_2, A5, A6, k_2, A8, A8, (gd us16 0), (gd us16 1), (gd us16 2), (gd us16 3), (gd us16 4), (gd us16 5), C6, C7, b0, C9, k_2, D1, undef, undef, undef, undef, undef, undef, undef, undef, undef, undef, undef, undef, undef, undef] w) w) w) w)) w)) w)) w) w) :
    Gives Tryz.prog 44 #[b0, n1, k_2] w K := enter' Tryz.func44 (by kernel_rfl) (Eq.mp (congrArg (fun c => cCode Tryz.prog c (retK Tryz.prog Tryz.f44.results.toList K) (fun _ _ _ => False) (retK Tryz.prog Tryz.f44.results.toList K) [b0, n1, k_2, undef, undef, undef, undef, undef, undef, undef, undef, undef, undef, undef, undef, undef, undef, undef, undef, undef, undef, undef, undef, undef, undef, undef, undef, undef, undef, undef, undef, undef, undef, undef, undef, undef, undef, undef, undef, undef, undef, undef] w) (by kernel_rfl : (cd Tryz.f44 []) = (cd Tryz.f44 []))) (leatref01_Put_k h))
theorem leatref01_Put_go : isGo Tryz.prog 44 := ⟨_, Tryz.func44, by kernel_rfl, by kernel_rfl⟩

theorem leatref01_Put_L1_k {K : KV} (B1 : KE) (qc0 : KE) {b0 n1 k_2 b3 n4 k_5 A1 A2 out8' i9' A4 A5 A6 A7 A8 A9 C0 C1 C2 C3 C4 C5 C6 C7 C8 C9 D0 D1 E5 : Value} {dd : Nat → Value} {w : World}
    (h : bin Tryz.prog BinOp.geq 3 false true i9' (Value.int IntKind.i64 0) (fun D3 w =>
    cond D3
      (bin Tryz.prog BinOp.mul 3 true false (Value.int IntKind.i64 8) i9' (fun D9 w =>
    conv Tryz.prog 3 97 D9 (fun E0 w =>
    bin Tryz.prog BinOp.shr 22 false false n1 E0 (fun E1 w =>
    conv Tryz.prog 22 5 E1 (fun E2 w =>
    bldS Tryz.prog 28 1 #[(0, E2)] (fun E3 w =>
    blt Tryz.prog Builtin.append #[28, 28] 28 #[false, false] #[out8', E3] (fun E4 w =>
    bin Tryz.prog BinOp.sub 3 false true i9' (Value.int IntKind.i64 1) (fun D5 w =>
    B1 [b0, n1, k_2, b3, n4, k_5, A1, A2, E4, D5, A4, A5, A6, A7, A8, A9, C0, C1, C2, C3, C4, C5, C6, C7, C8, C9, D0, D1, i9', D3, i9', D5, out8', n1, i9', D9, E0, E1, E2, E3, E4, E5] w) w) w) w) w) w) w) w)
      (qc0 [b0, n1, k_2, b3, n4, k_5, A1, A2, out8', i9', A4, A5, A6, A7, A8, A9, C0, C1, C2, C3, C4, C5, C6, C7, C8, C9, D0, D1, i9', D3, (dd 30), (dd 31), (dd 32), (dd 33), (dd 34), (dd 35), (dd 36), (dd 37), (dd 38), (dd 39), (dd 40), E5] w)) w) :
    cCode Tryz.prog (cd Tryz.f44 [1, 1, 1, 1, 0, 1, 0, 0]) B1 (fun i => @Bool.rec (fun _ => KE) ((fun _ _ _ => False) i) qc0 (Nat.beq i 0)) (retK Tryz.prog Tryz.f44.results.toList K) [b0, n1, k_2, b3, n4, k_5, A1, A2, out8', i9', A4, A5, A6, A7, A8, A9, C0, C1, C2, C3, C4, C5, C6, C7, C8, C9, D0, D1, (dd 28), (dd 29), (dd 30), (dd 31), (dd 32), (dd 33), (dd 34), (dd 35), (dd 36), (dd 37), (dd 38), (dd 39), (dd 40), E5] w := Eq.mp (by kernel_rfl) h

theorem leatref01_Put_L1_r {K : KV} {b0 n1 k_2 b3 n4 k_5 A1 A2 out8 i9 A4 A5 A6 A7 A8 A9 C0 C1 C2 C3 C4 C5 C6 C7 C8 C9 D0 D1 D2 D3 D4 D5 D6 D7 D8 D9 E0 E1 E2 E3 E4 E5 : Value} {w : World} (Inv : Value → Value → World → Prop) (μ : Value → Value → World → Nat) (h0 : Inv out8 i9 w)
    (hs : ∀ (out8' i9' : Value) (dd : Nat → Value) (w : World) (m : Nat), Inv out8' i9' w → m = μ out8' i9' w →
    bin Tryz.prog BinOp.geq 3 false true i9' (Value.int IntKind.i64 0) (fun D3 w =>
    cond D3
      (bin Tryz.prog BinOp.mul 3 true false (Value.int IntKind.i64 8) i9' (fun D9 w =>
    conv Tryz.prog 3 97 D9 (fun E0 w =>
    bin Tryz.prog BinOp.shr 22 false false n1 E0 (fun E1 w =>
    conv Tryz.prog 22 5 E1 (fun E2 w =>
    bldS Tryz.prog 28 1 #[(0, E2)] (fun E3 w =>
    blt Tryz.prog Builtin.append #[28, 28] 28 #[false, false] #[out8', E3] (fun E4 w =>
    bin Tryz.prog BinOp.sub 3 false true i9' (Value.int IntKind.i64 1) (fun D5 w =>
    (Inv E4 D5 w ∧ μ E4 D5 w < m)) w) w) w) w) w) w) w)
      ((leatref01_Put_P1 K) [b0, n1, k_2, b3, n4, k_5, A1, A2, out8', i9', A4, A5, A6, A7, A8, A9, C0, C1, C2, C3, C4, C5, C6, C7, C8, C9, D0, D1, i9', D3, (dd 30), (dd 31), (dd 32), (dd 33), (dd 34), (dd 35), (dd 36), (dd 37), (dd 38), (dd 39), (dd 40), E5] w)) w) :
    leatref01_Put_L1 K [b0, n1, k_2, b3, n4, k_5, A1, A2, out8, i9, A4, A5, A6, A7, A8, A9, C0, C1, C2, C3, C4, C5, C6, C7, C8, C9, D0, D1, D2, D3, D4, D5, D6, D7, D8, D9, E0, E1, E2, E3, E4, E5] w := by
  refine loop_rule (cd Tryz.f44 [1, 1, 1, 1, 0, 1, 0, 0]) [8, 9, 28, 29, 30, 31, 32, 33, 34, 35, 36, 37, 38, 39, 40] (by kernel_rfl) (fun e2 w2 => Inv (gd e2 8) (gd e2 9) w2) (fun e2 w2 => μ (gd e2 8) (gd e2 9) w2) h0 ?_
  intro e' w' hI
  have h := hs (gd e' 8) (gd e' 9) (fun i => gd e' i) w' _ hI rfl
  have h2 : cCode Tryz.prog (cd Tryz.f44 [1, 1, 1, 1, 0, 1, 0, 0]) (fun e2 w2 => Inv (gd e2 8) (gd e2 9) w2 ∧ μ (gd e2 8) (gd e2 9) w2 < μ (gd e' 8) (gd e' 9) w') (fun i => @Bool.rec (fun _ => KE) ((fun _ _ _ => False) i) (leatref01_Put_P1 K) (Nat.beq i 0)) (retK Tryz.prog Tryz.f44.results.toList K) [b0, n1, k_2, b3, n4, k_5, A1, A2, (gd e' 8), (gd e' 9), A4, A5, A6, A7, A8, A9, C0, C1, C2, C3, C4, C5, C6, C7, C8, C9, D0, D1, (gd e' 28), (gd e' 29), (gd e' 30), (gd e' 31), (gd e' 32), (gd e' 33), (gd e' 34), (gd e' 35), (gd e' 36), (gd e' 37), (gd e' 38), (gd e' 39), (gd e' 40), E5] w' := leatref01_Put_L1_k (fun e2 w2 => Inv (gd e2 8) (gd e2 9) w2 ∧ μ (gd e2 8) (gd e2 9) w2 < μ (gd e' 8) (gd e' 9) w') (leatref01_Put_P1 K) (Eq.mp (by kernel_rfl) h)
  exact Eq.mp (by kernel_rfl) h2

theorem leatref01_Put_P1_k {K : KV} {b0 n1 k_2 b3 n4 k_5 A1 A2 out8 i9 A4 A5 A6 A7 A8 A9 C0 C1 C2 C3 C4 C5 C6 C7 C8 C9 D0 D1 D2 D3 D4 D5 D6 D7 D8 D9 E0 E1 E2 E3 E4 E5 : Value} {w : World}
    (h : K (Value.tuple #[out8, (Value.int IntKind.i64 0)]) w) :
    cCode Tryz.prog (cd Tryz.f44 [1, 1, 1, 1, 1]) (retK Tryz.prog Tryz.f44.results.toList K) (fun _ _ _ => False) (retK Tryz.prog Tryz.f44.results.toList K) [b0, n1, k_2, b3, n4, k_5, A1, A2, out8, i9, A4, A5, A6, A7, A8, A9, C0, C1, C2, C3, C4, C5, C6, C7, C8, C9, D0, D1, D2, D3, D4, D5, D6, D7, D8, D9, E0, E1, E2, E3, E4, E5] w := Eq.mp (by kernel_rfl) h

theorem leatref01_Put_P1_r {K : KV} {b0 n1 k_2 b3 n4 k_5 A1 A2 out8 i9 A4 A5 A6 A7 A8 A9 C0 C1 C2 C3 C4 C5 C6 C7 C8 C9 D0 D1 D2 D3 D4 D5 D6 D7 D8 D9 E0 E1 E2 E3 E4 E5 : Value} {w : World}
    (h : K (Value.tuple #[out8, (Value.int IntKind.i64 0)]) w) :
    leatref01_Put_P1 K [b0, n1, k_2, b3, n4, k_5, A1, A2, out8, i9, A4, A5, A6, A7, A8, A9, C0, C1, C2, C3, C4, C5, C6, C7, C8, C9, D0, D1, D2, D3, D4, D5, D6, D7, D8, D9, E0, E1, E2, E3, E4, E5] w := by
  delta leatref01_Put_P1
  exact Eq.mp (congrArg (fun c => cCode Tryz.prog c (retK Tryz.prog Tryz.f44.results.toList K) (fun _ _ _ => False) (retK Tryz.prog Tryz.f44.results.toList K) [b0, n1, k_2, b3, n4, k_5, A1, A2, out8, i9, A4, A5, A6, A7, A8, A9, C0, C1, C2, C3, C4, C5, C6, C7, C8, C9, D0, D1, D2, D3, D4, D5, D6, D7, D8, D9, E0, E1, E2, E3, E4, E5] w) (by kernel_rfl : (cd Tryz.f44 [1, 1, 1, 1, 1]) = (cd Tryz.f44 [1, 1, 1, 1, 1]))) (leatref01_Put_P1_k h)
attribute [irreducible] leatref01_Put_P1 leatref01_Put_L1

def leatref01_Take_A1 (K : KV) : KE := cCode Tryz.prog (cd Tryz.f46 [1, 1, 1, 1]) (retK Tryz.prog Tryz.f46.results.toList K) (fun _ _ _ => False) (retK Tryz.prog Tryz.f46.results.toList K)
def leatref01_Take_P1 (K : KV) : KE := cCode Tryz.prog (cd Tryz.f46 [1, 1, 1, 1, 1]) (retK Tryz.prog Tryz.f46.results.toList K) (fun _ _ _ => False) (retK Tryz.prog Tryz.f46.results.toList K)
def leatref01_Take_L1 (K : KV) : KE := cCode Tryz.prog (cd Tryz.f46 [1, 1, 1, 1, 0, 1, 0]) (leatref01_Take_P1 K) (fun i => @Bool.rec (fun _ => KE) ((fun _ _ _ => False) i) (leatref01_Take_P1 K) (Nat.beq i 0)) (retK Tryz.prog Tryz.f46.results.toList K)
theorem leatref01_Take_k {K : KV} (xc0 : Code) {b0 at1 k_2 : Value} {w : World}
    (h : call Tryz.prog 61 #[k_2] (fun A6 w =>
    un Tryz.prog UnOp.not A6 (fun A7 w =>
    gsel A7 false (fun k15 =>
    bin Tryz.prog BinOp.lss 3 false true at1 (Value.int IntKind.i64 0) (fun C0 w =>
    k15 [at1, C0] w) w)
    (fun k => k [undef, undef] w) (fun us15 w =>
    pick A7 (Value.bool true) (gd us15 1) (fun C1 w =>
    gsel C1 false (fun k19 =>
    blt Tryz.prog Builtin.len #[28] 3 #[false] #[b0] (fun C5 w =>
    bin Tryz.prog BinOp.gtr 3 false false at1 C5 (fun C6 w =>
    k19 [at1, b0, C5, C6] w) w) w)
    (fun k => k [undef, undef, undef, undef] w) (fun us19 w =>
    pick C1 (Value.bool true) (gd us19 3) (fun C7 w =>
    cond C7
      (K (Value.tuple #[(Value.int IntKind.u64 0), (Value.int IntKind.i64 0), (Value.int IntKind.i64 1)]) w)
      (blt Tryz.prog Builtin.len #[28] 3 #[false] #[b0] (fun C9 w =>
    bin Tryz.prog BinOp.sub 3 false false C9 at1 (fun D1 w =>
    bin Tryz.prog BinOp.lss 3 false false D1 k_2 (fun D3 w =>
    cond D3
      (K (Value.tuple #[(Value.int IntKind.u64 0), (Value.int IntKind.i64 0), (Value.int IntKind.i64 5)]) w)
      ((cCode Tryz.prog xc0 (retK Tryz.prog Tryz.f46.results.toList K) (fun _ _ _ => False) (retK Tryz.prog Tryz.f46.results.toList K)) (b0::at1::k_2::undef::undef::undef::(Value.int IntKind.u64 0)::(Value.int IntKind.i64 0)::(Value.int IntKind.i64 0)::(Value.int IntKind.u64 0)::undef::k_2::A6::A7::A7::(gd us15 0)::(gd us15 1)::C1::C1::(gd us19 0)::(gd us19 1)::(gd us19 2)::(gd us19 3)::C7::b0::C9::at1::D1::k_2::D3::undef::undef::undef::undef::undef::undef::undef::undef::undef::undef::undef::undef::undef::undef::undef::undef::undef::undef::undef::[]) w)) w) w) w)) w)) w)) w) w) :
    cCode Tryz.prog (rep [1, 1, 1, 1] xc0 (cd Tryz.f46 [])) (retK Tryz.prog Tryz.f46.results.toList K) (fun _ _ _ => False) (retK Tryz.prog Tryz.f46.results.toList K) (b0::at1::k_2::undef::undef::undef::undef::undef::undef::undef::undef::undef::undef::undef::undef::undef::undef::undef::undef::undef::undef::undef::undef::undef::undef::undef::undef::undef::undef::undef::undef::undef::undef::undef::undef::undef::undef::undef::undef::undef::undef::undef::undef::undef::undef::undef::undef::undef::undef::[]) w := Eq.mp (by kernel_rfl) h

theorem leatref01_Take_in {K : KV} {b0 at1 k_2 : Value} {w : World}
    (h : call Tryz.prog 61 #[k_2] (fun A6 w =>
    un Tryz.prog UnOp.not A6 (fun A7 w =>
    gsel A7 false (fun k15 =>
    bin Tryz.prog BinOp.lss 3 false true at1 (Value.int IntKind.i64 0) (fun C0 w =>
    k15 [at1, C0] w) w)
    (fun k => k [undef, undef] w) (fun us15 w =>
    pick A7 (Value.bool true) (gd us15 1) (fun C1 w =>
    gsel C1 false (fun k19 =>
    blt Tryz.prog Builtin.len #[28] 3 #[false] #[b0] (fun C5 w =>
    bin Tryz.prog BinOp.gtr 3 false false at1 C5 (fun C6 w =>
    k19 [at1, b0, C5, C6] w) w) w)
    (fun k => k [undef, undef, undef, undef] w) (fun us19 w =>
    pick C1 (Value.bool true) (gd us19 3) (fun C7 w =>
    cond C7
      (K (Value.tuple #[(Value.int IntKind.u64 0), (Value.int IntKind.i64 0), (Value.int IntKind.i64 1)]) w)
      (blt Tryz.prog Builtin.len #[28] 3 #[false] #[b0] (fun C9 w =>
    bin Tryz.prog BinOp.sub 3 false false C9 at1 (fun D1 w =>
    bin Tryz.prog BinOp.lss 3 false false D1 k_2 (fun D3 w =>
    cond D3
      (K (Value.tuple #[(Value.int IntKind.u64 0), (Value.int IntKind.i64 0), (Value.int IntKind.i64 5)]) w)
      ((leatref01_Take_A1 K) (b0::at1::k_2::undef::undef::undef::(Value.int IntKind.u64 0)::(Value.int IntKind.i64 0)::(Value.int IntKind.i64 0)::(Value.int IntKind.u64 0)::undef::k_2::A6::A7::A7::(gd us15 0)::(gd us15 1)::C1::C1::(gd us19 0)::(gd us19 1)::(gd us19 2)::(gd us19 3)::C7::b0::C9::at1::D1::k_2::D3::undef::undef::undef::undef::undef::undef::undef::undef::undef::undef::undef::undef::undef::undef::undef::undef::undef::undef::undef::[]) w)) w) w) w)) w)) w)) w) w) :
    Gives Tryz.prog 46 #[b0, at1, k_2] w K := enter' Tryz.func46 (by kernel_rfl) (Eq.mp (congrArg (fun c => cCode Tryz.prog c (retK Tryz.prog Tryz.f46.results.toList K) (fun _ _ _ => False) (retK Tryz.prog Tryz.f46.results.toList K) (b0::at1::k_2::undef::undef::undef::undef::undef::undef::undef::undef::undef::undef::undef::undef::undef::undef::undef::undef::undef::undef::undef::undef::undef::undef::undef::undef::undef::undef::undef::undef::undef::undef::undef::undef::undef::undef::undef::undef::undef::undef::undef::undef::undef::undef::undef::undef::undef::undef::[]) w) (by kernel_rfl : (rep [1, 1, 1, 1] (cd Tryz.f46 [1, 1, 1, 1]) (cd Tryz.f46 [])) = (cd Tryz.f46 []))) (leatref01_Take_k (cd Tryz.f46 [1, 1, 1, 1]) h))
theorem leatref01_Take_go : isGo Tryz.prog 46 := ⟨_, Tryz.func46, by kernel_rfl, by kernel_rfl⟩

section
variable {b0 at1 k_2 b3 at4 k_5 A1 A2 A3 n9 i10 A5 A6 A7 A8 A9 C0 C1 C2 C3 C4 C5 C6 C7 C8 C9 D0 D1 D2 D3 D4 D5 D6 D7 D8 D9 E0 E1 E2 E3 E4 E5 E6 E7 E8 E9 F0 F1 F2 : Value}
theorem leatref01_Take_A1_k {K : KV} {w : World}
    (h : (cCode Tryz.prog (cd Tryz.f46 [1, 1, 1, 1, 0, 1, 0]) (cCode Tryz.prog (cd Tryz.f46 [1, 1, 1, 1, 1]) (retK Tryz.prog Tryz.f46.results.toList K) (fun _ _ _ => False) (retK Tryz.prog Tryz.f46.results.toList K)) (fun i => @Bool.rec (fun _ => KE) ((fun _ _ _ => False) i) (cCode Tryz.prog (cd Tryz.f46 [1, 1, 1, 1, 1]) (retK Tryz.prog Tryz.f46.results.toList K) (fun _ _ _ => False) (retK Tryz.prog Tryz.f46.results.toList K)) (Nat.beq i 0)) (retK Tryz.prog Tryz.f46.results.toList K)) (b0::at1::k_2::b3::at4::k_5::A1::A2::A3::n9::(Value.int IntKind.i64 0)::A5::A6::A7::A8::A9::C0::C1::C2::C3::C4::C5::C6::C7::C8::C9::D0::D1::D2::D3::D4::D5::D6::D7::D8::D9::E0::E1::E2::E3::E4::E5::E6::E7::E8::E9::F0::F1::F2::[]) w) :
    cCode Tryz.prog (cd Tryz.f46 [1, 1, 1, 1]) (retK Tryz.prog Tryz.f46.results.toList K) (fun _ _ _ => False) (retK Tryz.prog Tryz.f46.results.toList K) (b0::at1::k_2::b3::at4::k_5::A1::A2::A3::n9::i10::A5::A6::A7::A8::A9::C0::C1::C2::C3::C4::C5::C6::C7::C8::C9::D0::D1::D2::D3::D4::D5::D6::D7::D8::D9::E0::E1::E2::E3::E4::E5::E6::E7::E8::E9::F0::F1::F2::[]) w := Eq.mp (by kernel_rfl) h

theorem leatref01_Take_A1_r {K : KV} {w : World}
    (h : (leatref01_Take_L1 K) (b0::at1::k_2::b3::at4::k_5::A1::A2::A3::n9::(Value.int IntKind.i64 0)::A5::A6::A7::A8::A9::C0::C1::C2::C3::C4::C5::C6::C7::C8::C9::D0::D1::D2::D3::D4::D5::D6::D7::D8::D9::E0::E1::E2::E3::E4::E5::E6::E7::E8::E9::F0::F1::F2::[]) w) :
    leatref01_Take_A1 K (b0::at1::k_2::b3::at4::k_5::A1::A2::A3::n9::i10::A5::A6::A7::A8::A9::C0::C1::C2::C3::C4::C5::C6::C7::C8::C9::D0::D1::D2::D3::D4::D5::D6::D7::D8::D9::E0::E1::E2::E3::E4::E5::E6::E7::E8::E9::F0::F1::F2::[]) w := by
  delta leatref01_Take_A1
  exact Eq.mp (congrArg (fun c => cCode Tryz.prog c (retK Tryz.prog Tryz.f46.results.toList K) (fun _ _ _ => False) (retK Tryz.prog Tryz.f46.results.toList K) (b0::at1::k_2::b3::at4::k_5::A1::A2::A3::n9::i10::A5::A6::A7::A8::A9::C0::C1::C2::C3::C4::C5::C6::C7::C8::C9::D0::D1::D2::D3::D4::D5::D6::D7::D8::D9::E0::E1::E2::E3::E4::E5::E6::E7::E8::E9::F0::F1::F2::[]) w) (by kernel_rfl : (cd Tryz.f46 [1, 1, 1, 1]) = (cd Tryz.f46 [1, 1, 1, 1]))) (leatref01_Take_A1_k h)

end
theorem leatref01_Take_L1_k {K : KV} (B1 : KE) (qc0 : KE) {b0 at1 k_2 b3 at4 k_5 A1 A2 A3 n9' i10' A5 A6 A7 A8 A9 C0 C1 C2 C3 C4 C5 C6 C7 C8 C9 D0 D1 D2 D3 E9 F0 F1 F2 : Value} {dd : Nat → Value} {w : World}
    (h : bin Tryz.prog BinOp.lss 3 false false i10' k_2 (fun D6 w =>
    cond D6
      (bin Tryz.prog BinOp.mul 22 true false (Value.int IntKind.u64 256) n9' (fun E0 w =>
    bin Tryz.prog BinOp.add 3 false false at1 i10' (fun E4 w =>
    idxA Tryz.prog 28 b0 E4 (fun E5 w =>
    ld Tryz.prog 5 E5 (fun E6 w =>
    conv Tryz.prog 5 22 E6 (fun E7 w =>
    bin Tryz.prog BinOp.add 22 false false E0 E7 (fun E8 w =>
    bin Tryz.prog BinOp.add 3 false true i10' (Value.int IntKind.i64 1) (fun D8 w =>
    B1 (b0::at1::k_2::b3::at4::k_5::A1::A2::A3::E8::D8::A5::A6::A7::A8::A9::C0::C1::C2::C3::C4::C5::C6::C7::C8::C9::D0::D1::D2::D3::i10'::k_2::D6::i10'::D8::n9'::E0::b0::at1::i10'::E4::E5::E6::E7::E8::E9::F0::F1::F2::[]) w) w) w) w) w) w) w) w)
      (qc0 (b0::at1::k_2::b3::at4::k_5::A1::A2::A3::n9'::i10'::A5::A6::A7::A8::A9::C0::C1::C2::C3::C4::C5::C6::C7::C8::C9::D0::D1::D2::D3::i10'::k_2::D6::(dd 33)::(dd 34)::(dd 35)::(dd 36)::(dd 37)::(dd 38)::(dd 39)::(dd 40)::(dd 41)::(dd 42)::(dd 43)::(dd 44)::E9::F0::F1::F2::[]) w)) w) :
    cCode Tryz.prog (cd Tryz.f46 [1, 1, 1, 1, 0, 1, 0, 0]) B1 (fun i => @Bool.rec (fun _ => KE) ((fun _ _ _ => False) i) qc0 (Nat.beq i 0)) (retK Tryz.prog Tryz.f46.results.toList K) (b0::at1::k_2::b3::at4::k_5::A1::A2::A3::n9'::i10'::A5::A6::A7::A8::A9::C0::C1::C2::C3::C4::C5::C6::C7::C8::C9::D0::D1::D2::D3::(dd 30)::(dd 31)::(dd 32)::(dd 33)::(dd 34)::(dd 35)::(dd 36)::(dd 37)::(dd 38)::(dd 39)::(dd 40)::(dd 41)::(dd 42)::(dd 43)::(dd 44)::E9::F0::F1::F2::[]) w := Eq.mp (by kernel_rfl) h

section
variable {b0 at1 k_2 b3 at4 k_5 A1 A2 A3 n9 i10 A5 A6 A7 A8 A9 C0 C1 C2 C3 C4 C5 C6 C7 C8 C9 D0 D1 D2 D3 D4 D5 D6 D7 D8 D9 E0 E1 E2 E3 E4 E5 E6 E7 E8 E9 F0 F1 F2 : Value}
theorem leatref01_Take_L1_r {K : KV} {w : World} (Inv : Value → Value → World → Prop) (μ : Value → Value → World → Nat) (h0 : Inv n9 i10 w)
    (hs : ∀ (n9' i10' : Value) (dd : Nat → Value) (w : World) (m : Nat), Inv n9' i10' w → m = μ n9' i10' w →
    bin Tryz.prog BinOp.lss 3 false false i10' k_2 (fun D6 w =>
    cond D6
      (bin Tryz.prog BinOp.mul 22 true false (Value.int IntKind.u64 256) n9' (fun E0 w =>
    bin Tryz.prog BinOp.add 3 false false at1 i10' (fun E4 w =>
    idxA Tryz.prog 28 b0 E4 (fun E5 w =>
    ld Tryz.prog 5 E5 (fun E6 w =>
    conv Tryz.prog 5 22 E6 (fun E7 w =>
    bin Tryz.prog BinOp.add 22 false false E0 E7 (fun E8 w =>
    bin Tryz.prog BinOp.add 3 false true i10' (Value.int IntKind.i64 1) (fun D8 w =>
    (Inv E8 D8 w ∧ μ E8 D8 w < m)) w) w) w) w) w) w) w)
      ((leatref01_Take_P1 K) (b0::at1::k_2::b3::at4::k_5::A1::A2::A3::n9'::i10'::A5::A6::A7::A8::A9::C0::C1::C2::C3::C4::C5::C6::C7::C8::C9::D0::D1::D2::D3::i10'::k_2::D6::(dd 33)::(dd 34)::(dd 35)::(dd 36)::(dd 37)::(dd 38)::(dd 39)::(dd 40)::(dd 41)::(dd 42)::(dd 43)::(dd 44)::E9::F0::F1::F2::[]) w)) w) :
    leatref01_Take_L1 K (b0::at1::k_2::b3::at4::k_5::A1::A2::A3::n9::i10::A5::A6::A7::A8::A9::C0::C1::C2::C3::C4::C5::C6::C7::C8::C9::D0::D1::D2::D3::D4::D5::D6::D7::D8::D9::E0::E1::E2::E3::E4::E5::E6::E7::E8::E9::F0::F1::F2::[]) w := by
  refine loop_rule (cd Tryz.f46 [1, 1, 1, 1, 0, 1, 0, 0]) [9, 10, 30, 31, 32, 33, 34, 35, 36, 37, 38, 39, 40, 41, 42, 43, 44] (by kernel_rfl) (fun e2 w2 => Inv (gd e2 9) (gd e2 10) w2) (fun e2 w2 => μ (gd e2 9) (gd e2 10) w2) h0 ?_
  intro e' w' hI
  have h := hs (gd e' 9) (gd e' 10) (fun i => gd e' i) w' _ hI rfl
  have h2 : cCode Tryz.prog (cd Tryz.f46 [1, 1, 1, 1, 0, 1, 0, 0]) (fun e2 w2 => Inv (gd e2 9) (gd e2 10) w2 ∧ μ (gd e2 9) (gd e2 10) w2 < μ (gd e' 9) (gd e' 10) w') (fun i => @Bool.rec (fun _ => KE) ((fun _ _ _ => False) i) (leatref01_Take_P1 K) (Nat.beq i 0)) (retK Tryz.prog Tryz.f46.results.toList K) (b0::at1::k_2::b3::at4::k_5::A1::A2::A3::(gd e' 9)::(gd e' 10)::A5::A6::A7::A8::A9::C0::C1::C2::C3::C4::C5::C6::C7::C8::C9::D0::D1::D2::D3::(gd e' 30)::(gd e' 31)::(gd e' 32)::(gd e' 33)::(gd e' 34)::(gd e' 35)::(gd e' 36)::(gd e' 37)::(gd e' 38)::(gd e' 39)::(gd e' 40)::(gd e' 41)::(gd e' 42)::(gd e' 43)::(gd e' 44)::E9::F0::F1::F2::[]) w' := leatref01_Take_L1_k (fun e2 w2 => Inv (gd e2 9) (gd e2 10) w2 ∧ μ (gd e2 9) (gd e2 10) w2 < μ (gd e' 9) (gd e' 10) w') (leatref01_Take_P1 K) (Eq.mp (by kernel_rfl) h)
  exact Eq.mp (by kernel_rfl) h2

theorem leatref01_Take_P1_k {K : KV} {w : World}
    (h : bin Tryz.prog BinOp.add 3 false false at1 k_2 (fun F2 w =>
    K (Value.tuple #[n9, F2, (Value.int IntKind.i64 0)]) w) w) :
    cCode Tryz.prog (cd Tryz.f46 [1, 1, 1, 1, 1]) (retK Tryz.prog Tryz.f46.results.toList K) (fun _ _ _ => False) (retK Tryz.prog Tryz.f46.results.toList K) (b0::at1::k_2::b3::at4::k_5::A1::A2::A3::n9::i10::A5::A6::A7::A8::A9::C0::C1::C2::C3::C4::C5::C6::C7::C8::C9::D0::D1::D2::D3::D4::D5::D6::D7::D8::D9::E0::E1::E2::E3::E4::E5::E6::E7::E8::E9::F0::F1::F2::[]) w := Eq.mp (by kernel_rfl) h

theorem leatref01_Take_P1_r {K : KV} {w : World}
    (h : bin Tryz.prog BinOp.add 3 false false at1 k_2 (fun F2 w =>
    K (Value.tuple #[n9, F2, (Value.int IntKind.i64 0)]) w) w) :
    leatref01_Take_P1 K (b0::at1::k_2::b3::at4::k_5::A1::A2::A3::n9::i10::A5::A6::A7::A8::A9::C0::C1::C2::C3::C4::C5::C6::C7::C8::C9::D0::D1::D2::D3::D4::D5::D6::D7::D8::D9::E0::E1::E2::E3::E4::E5::E6::E7::E8::E9::F0::F1::F2::[]) w := by
  delta leatref01_Take_P1
  exact Eq.mp (congrArg (fun c => cCode Tryz.prog c (retK Tryz.prog Tryz.f46.results.toList K) (fun _ _ _ => False) (retK Tryz.prog Tryz.f46.results.toList K) (b0::at1::k_2::b3::at4::k_5::A1::A2::A3::n9::i10::A5::A6::A7::A8::A9::C0::C1::C2::C3::C4::C5::C6::C7::C8::C9::D0::D1::D2::D3::D4::D5::D6::D7::D8::D9::E0::E1::E2::E3::E4::E5::E6::E7::E8::E9::F0::F1::F2::[]) w) (by kernel_rfl : (cd Tryz.f46 [1, 1, 1, 1, 1]) = (cd Tryz.f46 [1, 1, 1, 1, 1]))) (leatref01_Take_P1_k h)
attribute [irreducible] leatref01_Take_A1 leatref01_Take_P1 leatref01_Take_L1

end
end Go.Proofs.YtfjafbbalohmhaaGreatDoor
namespace Go.Proofs.YtfjafbbalohmhaaGreatDoor
set_option maxRecDepth 100000
open Go.RowKit
attribute [local irreducible] bin un conv call callV blt slc fldA fld idxA idx lkp mUpd mEnt eSt rng nxt ent ext alc box bld bldS ld sto nilC mkMap mkS ifc pick rdy wts gsel sti cond retM Gives cCode cGrp cSeq cOp

theorem rsize_c {k : Int} {w : World} {K : KV} (h : K (.bool (decide (widthOf k ≠ 0))) w) : call Tryz.prog 61 #[.int .i64 k] K w := by
  refine call_of leatref01_size_go (leatref01_size_in ?_)
  by_cases h1 : k = 1
  · subst h1; (repeat (first | refine bin_eql ?_ | refine pick_T ?_ | refine gsel_Tn ?_)); exact h
  by_cases h2 : k = 2
  · subst h2; (repeat (first | refine bin_eql ?_ | refine pick_T ?_ | refine pick_F ?_ | refine gsel_Tn ?_ | refine gsel_Fn ?_)); exact h
  by_cases h4 : k = 4
  · subst h4; (repeat (first | refine bin_eql ?_ | refine pick_T ?_ | refine pick_F ?_ | refine gsel_Tn ?_ | refine gsel_Fn ?_)); exact h
  by_cases h8 : k = 8
  · subst h8; (repeat (first | refine bin_eql ?_ | refine pick_F ?_ | refine gsel_Fn ?_)); exact h
  have hw : widthOf k = 0 := by simp [widthOf, *]
  rw [hw] at h
  (repeat (first | refine bin_eql ?_ | refine gsel_nf (by omega) ?_ | refine pick_f (by omega) ?_))
  have : gd [Value.int .i64 k, Value.bool (decide (k = 8))] 1 = Value.bool (decide ((0 : Int) ≠ 0)) := by
    show Value.bool (decide (k = 8)) = _
    simp [h8]
  rw [this]; exact h

theorem rput_c {a : Option Addr} {n c : Nat} {l : List UInt8} {x : Nat} {k : Int} {w : World} {K : KV} (hb : RB w a n c l) (hn : n ≤ 140737488351232) (hx : x < 18446744073709551616)
    (h : ∀ a' n' c' w', OB w' w.heap.size a' n' c' (putS l x k).1 → Below w.heap.size w w' → K (.tuple #[.slice a' n' c', .int .i64 (putS l x k).2]) w') :
    call Tryz.prog 44 #[.slice a n c, .int .u64 x, .int .i64 k] K w := by
  refine call_of leatref01_Put_go (leatref01_Put_in ?_)
  refine rsize_c ?_
  by_cases hw0 : widthOf k = 0
  · have hp : putS l x k = ([], 1) := by simp [putS, hw0]
    rw [hp] at h
    (repeat (first | refine un_notD ?_ | refine cond_t (by omega) ?_))
    exact h _ _ _ _ (OB.nil _ _) (Below.refl _ _)
  obtain ⟨N, hN, rfl⟩ := width_ne hw0
  have hwN := width_K N hN
  have hN8 : 1 ≤ N ∧ N ≤ 8 := by omega
  by_cases hbig : 256 ^ N ≤ x
  · have hp : putS l x N = ([], 6) := by simp [putS, hw0, hbig]
    rw [hp] at h
    have hq : (0 : Int) < ((x / 256 ^ N : Nat) : Int) := by
      have : 0 < x / 256 ^ N := Nat.div_pos hbig (Nat.pow_pos (by omega))
      omega
    have : N < 8 := by
      rcases hN with rfl | rfl | rfl | rfl <;> omega
    (repeat (first | refine bin_lss ?_ | refine un_notD ?_ | refine mul64 (by omega) (by omega) ?_ | refine cvIUint (by omega) (by omega) ?_ | refine cond_f (by omega) ?_ | refine gsel_pt (by omega) ?_))
    refine bin_shr (by omega) ?_
    rw [shr_bytes x N (by omega)]
    (repeat (first | refine bin_gtr ?_ | refine cond_t (by omega) ?_ | refine pick_t (by omega) ?_))
    exact h _ _ _ _ (OB.nil _ _) (Below.refl _ _)
  have hp : putS l x N = (l ++ beBytes x N, 0) := by simp [putS, hw0, hbig]
  rw [hp] at h
  have hq : ((x / 256 ^ N : Nat) : Int) = 0 := by
    have : x / 256 ^ N = 0 := Nat.div_eq_of_lt (by omega)
    omega
  have hll := hb.len
  rcases Nat.lt_or_ge N 8 with h8 | h8
  all_goals
    (repeat (first | refine bin_lss ?_ | refine un_notD ?_ | refine mul64 (by omega) (by omega) ?_ | refine cvIUint (by omega) (by omega) ?_ | refine cond_F ?_ | refine cond_f (by omega) ?_ | refine gsel_pt (by omega) ?_ | refine gsel_pf (by omega) ?_ | refine pick_f (by omega) ?_))
    try
      refine bin_shr (by omega) ?_
      rw [shr_bytes x N (by omega)]
      (repeat (first | refine bin_gtr ?_ | refine cond_f (by omega) ?_ | refine pick_t (by omega) ?_))
    refine empty8 w.heap.size (Nat.le_refl _) ?_
    intro a1 w1 ho1 hb1
    refine app8 w.heap.size ho1 (hb.below hb1 (by omega)) (by omega) hb1.size ?_
    intro a2 c2 w2 ho2 hg2
    have hb2 : Below w.heap.size w w2 := hb1.grown hg2 hb1.size (fun k hk => (OV.block ho1 k hk).1)
    rw [List.nil_append, Nat.zero_add] at ho2
    (repeat (first | refine sub64 (by omega) (by omega) ?_))
    refine leatref01_Put_L1_r (Inv := fun out i wr => ∃ (j : Nat) (a' : Option Addr) (n' c' : Nat), j ≤ N ∧ i = .int .i64 ((N : Int) - 1 - (j : Int)) ∧ out = .slice a' n' c' ∧ OB wr w.heap.size a' n' c' (l ++ (beBytes x N).take j) ∧ Below w.heap.size w wr)
      (μ := fun _ i _ => (intOf i + 1).toNat) ⟨0, _, _, _, by omega, by simp, rfl, by simpa using ho2, hb2⟩ ?_
    rintro _ _ _ w3 m ⟨j, a3, n3, c3, hj, rfl, rfl, ho3, hb3⟩ hm
    have hl3 := ho3.len
    simp only [List.length_append, List.length_take, beBytes_len] at hl3
    by_cases hjN : j < N
    · (repeat (first | refine bin_geq ?_ | refine mul64 (by omega) (by omega) ?_ | refine cvIUint (by omega) (by omega) ?_ | refine cond_t (by omega) ?_))
      refine bin_shr (by omega) ?_
      rw [show 8 * ((N : Int) - 1 - (j : Int)) = 8 * ((N - 1 - j : Nat) : Int) by omega, shr_bytes x (N - 1 - j) (by omega)]
      refine cvU8 ?_
      refine bld8 rfl ?_
      intro w4 hb4 hr4 hs4
      refine app8 w.heap.size (ho3.below hb4 (by omega)) hr4 (by omega) (by have := hb3.size; omega) ?_
      intro a5 c5 w5 ho5 hg5
      (repeat (first | refine sub64 (by omega) (by omega) ?_))
      have hs3 := hb3.size
      refine ⟨⟨j + 1, _, _, _, by omega, by congr 1; omega, rfl, ?_, ?_⟩, ?_⟩
      · rw [beBytes_snoc x N j hjN, ← List.append_assoc]; exact ho5
      · exact (hb3.trans (hb4.mono hs3)).grown hg5 (by omega) (fun k hk => (OV.block (ho3.below hb4 (by omega)) k hk).1)
      · rw [hm]; simp only [intOf]; omega
    · have hjN' : j = N := by omega
      subst hjN'
      (repeat (first | refine leatref01_Put_P1_r ?_ | refine bin_geq ?_ | refine cond_f (by omega) ?_))
      have : (beBytes x j).take j = beBytes x j := List.take_of_length_le (by rw [beBytes_len]; omega)
      rw [this] at ho3
      exact h _ _ _ _ ho3 hb3

theorem rtake_c {a : Option Addr} {n c : Nat} {l : List UInt8} {p k : Int} {w : World} {K : KV} (hb : RB w a n c l) (hn : n ≤ 4611686018427387904)
    (h : K (.tuple #[.int .u64 (takeS l p k).1, .int .i64 (takeS l p k).2.1, .int .i64 (takeS l p k).2.2]) w) :
    call Tryz.prog 46 #[.slice a n c, .int .i64 p, .int .i64 k] K w := by
  have hl := hb.len
  refine call_of leatref01_Take_go (leatref01_Take_in ?_)
  refine rsize_c ?_
  by_cases h0 : widthOf k = 0
  · rw [show takeS l p k = (0, 0, 1) by simp [takeS, h0]] at h
    (repeat (first | refine un_notD ?_ | refine pick_T ?_ | refine cond_T ?_ | refine gsel_Tn ?_ | refine gsel_nt (by omega) ?_ | refine pick_t (by omega) ?_))
    exact h
  (repeat (first | refine bin_lss ?_ | refine un_notD ?_ | refine gsel_nf (by omega) ?_ | refine pick_f (by omega) ?_))
  by_cases h1 : p < 0
  · rw [show takeS l p k = (0, 0, 1) by simp [takeS, h1]] at h
    (repeat (first | refine cond_T ?_ | refine gsel_nt (by omega) ?_ | refine pick_t (by omega) ?_))
    exact h
  (repeat (first | refine bin_gtr ?_ | refine len8 ?_ | refine gsel_nf (by omega) ?_ | refine pick_f (by omega) ?_))
  by_cases h2 : (n : Int) < p
  · rw [show takeS l p k = (0, 0, 1) by simp [takeS, hl, h2]] at h
    (repeat (first | refine cond_t (by omega) ?_))
    exact h
  obtain ⟨N, hN, rfl⟩ := width_ne h0
  obtain ⟨q, rfl⟩ := Int.eq_ofNat_of_zero_le (show 0 ≤ p by omega)
  have hN8 : 1 ≤ N ∧ N ≤ 8 := by omega
  (repeat (first | refine bin_lss ?_ | refine sub64 (by omega) (by omega) ?_ | refine len8 ?_ | refine cond_f (by omega) ?_))
  by_cases h3 : (n : Int) - q < N
  · rw [show takeS l q N = (0, 0, 5) by unfold takeS; rw [if_neg (by simp [hl, h0]; omega), if_pos (by rw [hl]; exact h3)]] at h
    (repeat (first | refine cond_t (by omega) ?_))
    exact h
  have hs : takeS l q N = (beNat ((l.drop q).take N), (q : Int) + N, 0) := by
    unfold takeS
    rw [if_neg (by simp [hl, h0]; omega), if_neg (by rw [hl]; exact h3)]
    simp
  rw [hs] at h
  (repeat (first | refine leatref01_Take_A1_r ?_ | refine cond_f (by omega) ?_))
  have hlen : ((l.drop q).take N).length = N := by simp; omega
  refine leatref01_Take_L1_r (Inv := fun x i wr => ∃ j : Nat, j ≤ N ∧ i = .int .i64 (j : Nat) ∧ x = .int .u64 (beNat (((l.drop q).take N).take j) : Nat) ∧ wr = w)
    (μ := fun _ i _ => N - (intOf i).toNat) ⟨0, by omega, by simp, by simp [beNat], rfl⟩ ?_
  rintro _ _ _ w2 m ⟨j, hj, rfl, rfl, rfl⟩ hm
  by_cases hjN : j < N
  · (repeat (first | refine bin_lss ?_ | refine cond_t (by omega) ?_))
    refine bin_mul ?_
    rw [wrap_u64]
    (repeat (first | refine add64 (by omega) (by omega) ?_))
    refine idx8 hb (by omega) (by omega) ?_
    intro hc
    refine ld8 hc ?_
    have hlt := beNat_lt (((l.drop q).take N).take j)
    have hjl : (((l.drop q).take N).take j).length = j := by rw [List.length_take]; omega
    rw [hjl] at hlt
    have hlt2 : beNat (((l.drop q).take N).take j) < 72057594037927936 := by
      have : 256 ^ j ≤ 256 ^ 7 := Nat.pow_le_pow_right (by omega) (by omega)
      omega
    generalize hcc : l.getD ((q : Int) + (j : Int)).toNat 0 = cc
    have hc256 := cc.toNat_lt
    (repeat (first | refine cvBU (by omega) (by omega) ?_))
    refine bin_add ?_
    rw [wrap_u64, show (256 * (beNat (((l.drop q).take N).take j) : Int) % 18446744073709551616 + (cc.toNat : Int)) % 18446744073709551616 = ((beNat (((l.drop q).take N).take j) * 256 + cc.toNat : Nat) : Int) by omega]
    (repeat (first | refine add64 (by omega) (by omega) ?_))
    have hcc' : ((l.drop q).take N).getD j 0 = cc := by
      rw [← hcc]
      simp only [List.getD, List.getElem?_take, List.getElem?_drop]
      rw [if_pos hjN]
      congr 2
    refine ⟨⟨j + 1, by omega, by simp, ?_, rfl⟩, by rw [hm]; simp only [intOf]; omega⟩
    rw [take_snoc _ _ (by omega), beNat_snoc, hcc']
  · have : j = N := by omega
    subst this
    (repeat (first | refine leatref01_Take_P1_r ?_ | refine bin_lss ?_ | refine add64 (by omega) (by omega) ?_ | refine cond_f (by omega) ?_))
    rw [List.take_of_length_le (by omega)]
    exact h

end Go.Proofs.YtfjafbbalohmhaaGreatDoor
