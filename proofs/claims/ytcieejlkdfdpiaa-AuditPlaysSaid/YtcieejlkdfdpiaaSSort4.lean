/- Written by program (gen.py): what the code of some functions asks, part by part; each text is checked by the kernel against the translation. -/
import Derived.Test.YtcieejlkdfdpiaaSh
import Derived.Test.YtcieejlkdfdpiaaChecked
namespace Go.Proofs.Ytcieejlkdfdpiaa
open Go.RowKit
set_option maxRecDepth 100000

def slices_choosePivotOrdered_uint64_A1 (K : KV) : KE := cCode Try.prog (cd Try.f29 [1, 1, 1, 1, 1, 1]) (retK Try.prog Try.f29.results.toList K) (fun _ _ _ => False) (retK Try.prog Try.f29.results.toList K)
def slices_choosePivotOrdered_uint64_P1 (K : KV) : KE := cCode Try.prog (cd Try.f29 [1, 1, 1, 1, 1, 1, 1]) (retK Try.prog Try.f29.results.toList K) (fun _ _ _ => False) (retK Try.prog Try.f29.results.toList K)
def slices_choosePivotOrdered_uint64_A2 (K : KV) : KE := cCode Try.prog (cd Try.f29 [1, 1, 1, 1, 1, 1, 0, 1]) (slices_choosePivotOrdered_uint64_P1 K) (fun _ _ _ => False) (retK Try.prog Try.f29.results.toList K)
def slices_choosePivotOrdered_uint64_P2 (K : KV) : KE := cCode Try.prog (cd Try.f29 [1, 1, 1, 1, 1, 1, 0, 1, 0, 1]) (slices_choosePivotOrdered_uint64_P1 K) (fun _ _ _ => False) (retK Try.prog Try.f29.results.toList K)
def slices_choosePivotOrdered_uint64_A3 (K : KV) : KE := cCode Try.prog (cd Try.f29 [1, 1, 1, 1, 1, 1, 0, 1, 0, 0, 1]) (slices_choosePivotOrdered_uint64_P2 K) (fun _ _ _ => False) (retK Try.prog Try.f29.results.toList K)
theorem slices_choosePivotOrdered_uint64_k {K : KV} (xc0 : Code) {data0 a1 b2 : Value} {w : World}
    (h : bin Try.prog BinOp.sub 3 false false b2 a1 (fun A4 w =>
    alc Try.prog 3 (fun swaps9 w =>
    bin Try.prog BinOp.quo 3 false true A4 (Value.int IntKind.i64 4) (fun A7 w =>
    bin Try.prog BinOp.mul 3 false true A7 (Value.int IntKind.i64 1) (fun A8 w =>
    bin Try.prog BinOp.add 3 false false a1 A8 (fun A9 w =>
    bin Try.prog BinOp.quo 3 false true A4 (Value.int IntKind.i64 4) (fun C2 w =>
    bin Try.prog BinOp.mul 3 false true C2 (Value.int IntKind.i64 2) (fun C3 w =>
    bin Try.prog BinOp.add 3 false false a1 C3 (fun C4 w =>
    bin Try.prog BinOp.quo 3 false true A4 (Value.int IntKind.i64 4) (fun C7 w =>
    bin Try.prog BinOp.mul 3 false true C7 (Value.int IntKind.i64 3) (fun C8 w =>
    bin Try.prog BinOp.add 3 false false a1 C8 (fun C9 w =>
    (cCode Try.prog xc0 (retK Try.prog Try.f29.results.toList K) (fun _ _ _ => False) (retK Try.prog Try.f29.results.toList K)) (data0::a1::b2::undef::undef::undef::(Value.int IntKind.i64 0)::(Value.int IntKind.i64 0)::A4::swaps9::A9::C4::C9::b2::a1::A4::a1::A4::A7::A8::A9::a1::A4::C2::C3::C4::a1::A4::C7::C8::C9::undef::undef::undef::undef::undef::undef::undef::undef::undef::undef::undef::undef::undef::undef::undef::undef::undef::undef::undef::undef::undef::undef::undef::undef::undef::undef::[]) w) w) w) w) w) w) w) w) w) w) w) w) :
    cCode Try.prog (rep [1, 1, 1, 1, 1, 1] xc0 (cd Try.f29 [])) (retK Try.prog Try.f29.results.toList K) (fun _ _ _ => False) (retK Try.prog Try.f29.results.toList K) (data0::a1::b2::undef::undef::undef::undef::undef::undef::undef::undef::undef::undef::undef::undef::undef::undef::undef::undef::undef::undef::undef::undef::undef::undef::undef::undef::undef::undef::undef::undef::undef::undef::undef::undef::undef::undef::undef::undef::undef::undef::undef::undef::undef::undef::undef::undef::undef::undef::undef::undef::undef::undef::undef::undef::undef::undef::[]) w := Eq.mp (by kernel_rfl) h

theorem slices_choosePivotOrdered_uint64_in {K : KV} {data0 a1 b2 : Value} {w : World}
    (h : bin Try.prog BinOp.sub 3 false false b2 a1 (fun A4 w =>
    alc Try.prog 3 (fun swaps9 w =>
    bin Try.prog BinOp.quo 3 false true A4 (Value.int IntKind.i64 4) (fun A7 w =>
    bin Try.prog BinOp.mul 3 false true A7 (Value.int IntKind.i64 1) (fun A8 w =>
    bin Try.prog BinOp.add 3 false false a1 A8 (fun A9 w =>
    bin Try.prog BinOp.quo 3 false true A4 (Value.int IntKind.i64 4) (fun C2 w =>
    bin Try.prog BinOp.mul 3 false true C2 (Value.int IntKind.i64 2) (fun C3 w =>
    bin Try.prog BinOp.add 3 false false a1 C3 (fun C4 w =>
    bin Try.prog BinOp.quo 3 false true A4 (Value.int IntKind.i64 4) (fun C7 w =>
    bin Try.prog BinOp.mul 3 false true C7 (Value.int IntKind.i64 3) (fun C8 w =>
    bin Try.prog BinOp.add 3 false false a1 C8 (fun C9 w =>
    (slices_choosePivotOrdered_uint64_A1 K) (data0::a1::b2::undef::undef::undef::(Value.int IntKind.i64 0)::(Value.int IntKind.i64 0)::A4::swaps9::A9::C4::C9::b2::a1::A4::a1::A4::A7::A8::A9::a1::A4::C2::C3::C4::a1::A4::C7::C8::C9::undef::undef::undef::undef::undef::undef::undef::undef::undef::undef::undef::undef::undef::undef::undef::undef::undef::undef::undef::undef::undef::undef::undef::undef::undef::undef::[]) w) w) w) w) w) w) w) w) w) w) w) w) :
    Gives Try.prog 29 #[data0, a1, b2] w K := enter' Try.func29 (by kernel_rfl) (Eq.mp (congrArg (fun c => cCode Try.prog c (retK Try.prog Try.f29.results.toList K) (fun _ _ _ => False) (retK Try.prog Try.f29.results.toList K) (data0::a1::b2::undef::undef::undef::undef::undef::undef::undef::undef::undef::undef::undef::undef::undef::undef::undef::undef::undef::undef::undef::undef::undef::undef::undef::undef::undef::undef::undef::undef::undef::undef::undef::undef::undef::undef::undef::undef::undef::undef::undef::undef::undef::undef::undef::undef::undef::undef::undef::undef::undef::undef::undef::undef::undef::undef::[]) w) (by kernel_rfl : (rep [1, 1, 1, 1, 1, 1] (cd Try.f29 [1, 1, 1, 1, 1, 1]) (cd Try.f29 [])) = (cd Try.f29 []))) (slices_choosePivotOrdered_uint64_k (cd Try.f29 [1, 1, 1, 1, 1, 1]) h))
theorem slices_choosePivotOrdered_uint64_go : isGo Try.prog 29 := ⟨_, Try.func29, by kernel_rfl, by kernel_rfl⟩

section
variable {data0 a1 b2 data3 a4 b5 pivot6 hint7 l8 swaps9 i10 j11 k_12 A2 A3 A4 A5 A6 A7 A8 A9 C0 C1 C2 C3 C4 C5 C6 C7 C8 C9 D0 D1 D2 D3 D4 D5 D6 D7 D8 D9 E0 E1 E2 E3 E4 E5 E6 E7 E8 E9 F0 F1 F2 F3 F4 F5 : Value}
theorem slices_choosePivotOrdered_uint64_A1_k {K : KV} (xc0 : Code) {w : World}
    (h : bin Try.prog BinOp.geq 3 false true l8 (Value.int IntKind.i64 8) (fun D1 w =>
    (cCode Try.prog xc0 (cCode Try.prog (cd Try.f29 [1, 1, 1, 1, 1, 1, 1]) (retK Try.prog Try.f29.results.toList K) (fun _ _ _ => False) (retK Try.prog Try.f29.results.toList K)) (fun _ _ _ => False) (retK Try.prog Try.f29.results.toList K)) (data0::a1::b2::data3::a4::b5::pivot6::hint7::l8::swaps9::i10::j11::k_12::A2::A3::A4::A5::A6::A7::A8::A9::C0::C1::C2::C3::C4::C5::C6::C7::C8::C9::l8::D1::D2::D3::D4::D5::D6::D7::D8::D9::E0::E1::E2::E3::E4::E5::E6::E7::E8::E9::F0::F1::F2::F3::F4::F5::[]) w) w) :
    cCode Try.prog (rep [0, 1] xc0 (cd Try.f29 [1, 1, 1, 1, 1, 1])) (retK Try.prog Try.f29.results.toList K) (fun _ _ _ => False) (retK Try.prog Try.f29.results.toList K) (data0::a1::b2::data3::a4::b5::pivot6::hint7::l8::swaps9::i10::j11::k_12::A2::A3::A4::A5::A6::A7::A8::A9::C0::C1::C2::C3::C4::C5::C6::C7::C8::C9::D0::D1::D2::D3::D4::D5::D6::D7::D8::D9::E0::E1::E2::E3::E4::E5::E6::E7::E8::E9::F0::F1::F2::F3::F4::F5::[]) w := Eq.mp (by kernel_rfl) h

theorem slices_choosePivotOrdered_uint64_A1_r {K : KV} {w : World}
    (h : bin Try.prog BinOp.geq 3 false true l8 (Value.int IntKind.i64 8) (fun D1 w =>
    (slices_choosePivotOrdered_uint64_A2 K) (data0::a1::b2::data3::a4::b5::pivot6::hint7::l8::swaps9::i10::j11::k_12::A2::A3::A4::A5::A6::A7::A8::A9::C0::C1::C2::C3::C4::C5::C6::C7::C8::C9::l8::D1::D2::D3::D4::D5::D6::D7::D8::D9::E0::E1::E2::E3::E4::E5::E6::E7::E8::E9::F0::F1::F2::F3::F4::F5::[]) w) w) :
    slices_choosePivotOrdered_uint64_A1 K (data0::a1::b2::data3::a4::b5::pivot6::hint7::l8::swaps9::i10::j11::k_12::A2::A3::A4::A5::A6::A7::A8::A9::C0::C1::C2::C3::C4::C5::C6::C7::C8::C9::D0::D1::D2::D3::D4::D5::D6::D7::D8::D9::E0::E1::E2::E3::E4::E5::E6::E7::E8::E9::F0::F1::F2::F3::F4::F5::[]) w := by
  delta slices_choosePivotOrdered_uint64_A1
  exact Eq.mp (congrArg (fun c => cCode Try.prog c (retK Try.prog Try.f29.results.toList K) (fun _ _ _ => False) (retK Try.prog Try.f29.results.toList K) (data0::a1::b2::data3::a4::b5::pivot6::hint7::l8::swaps9::i10::j11::k_12::A2::A3::A4::A5::A6::A7::A8::A9::C0::C1::C2::C3::C4::C5::C6::C7::C8::C9::D0::D1::D2::D3::D4::D5::D6::D7::D8::D9::E0::E1::E2::E3::E4::E5::E6::E7::E8::E9::F0::F1::F2::F3::F4::F5::[]) w) (by kernel_rfl : (rep [0, 1] (cd Try.f29 [1, 1, 1, 1, 1, 1, 0, 1]) (cd Try.f29 [1, 1, 1, 1, 1, 1])) = (cd Try.f29 [1, 1, 1, 1, 1, 1]))) (slices_choosePivotOrdered_uint64_A1_k (cd Try.f29 [1, 1, 1, 1, 1, 1, 0, 1]) h)

theorem slices_choosePivotOrdered_uint64_A2_k {K : KV} (qc0 : KE) (xc0 : Code) {w : World}
    (h : cond D1
      (bin Try.prog BinOp.geq 3 false true l8 (Value.int IntKind.i64 50) (fun D3 w =>
      (cCode Try.prog xc0 (cCode Try.prog (cd Try.f29 [1, 1, 1, 1, 1, 1, 0, 1, 0, 1]) qc0 (fun _ _ _ => False) (retK Try.prog Try.f29.results.toList K)) (fun _ _ _ => False) (retK Try.prog Try.f29.results.toList K)) (data0::a1::b2::data3::a4::b5::pivot6::hint7::l8::swaps9::i10::j11::k_12::A2::A3::A4::A5::A6::A7::A8::A9::C0::C1::C2::C3::C4::C5::C6::C7::C8::C9::D0::D1::l8::D3::D4::D5::D6::D7::D8::D9::E0::E1::E2::E3::E4::E5::E6::E7::E8::E9::F0::F1::F2::F3::F4::F5::[]) w) w)
      (qc0 (data0::a1::b2::data3::a4::b5::pivot6::hint7::l8::swaps9::i10::j11::k_12::A2::A3::A4::A5::A6::A7::A8::A9::C0::C1::C2::C3::C4::C5::C6::C7::C8::C9::D0::D1::D2::D3::D4::D5::D6::D7::D8::D9::E0::E1::E2::E3::E4::E5::E6::E7::E8::E9::F0::F1::F2::F3::F4::F5::[]) w)) :
    cCode Try.prog (rep [0, 0, 1] xc0 (cd Try.f29 [1, 1, 1, 1, 1, 1, 0, 1])) qc0 (fun _ _ _ => False) (retK Try.prog Try.f29.results.toList K) (data0::a1::b2::data3::a4::b5::pivot6::hint7::l8::swaps9::i10::j11::k_12::A2::A3::A4::A5::A6::A7::A8::A9::C0::C1::C2::C3::C4::C5::C6::C7::C8::C9::D0::D1::D2::D3::D4::D5::D6::D7::D8::D9::E0::E1::E2::E3::E4::E5::E6::E7::E8::E9::F0::F1::F2::F3::F4::F5::[]) w := Eq.mp (by kernel_rfl) h

theorem slices_choosePivotOrdered_uint64_A2_r {K : KV} {w : World}
    (h : cond D1
      (bin Try.prog BinOp.geq 3 false true l8 (Value.int IntKind.i64 50) (fun D3 w =>
      (slices_choosePivotOrdered_uint64_A3 K) (data0::a1::b2::data3::a4::b5::pivot6::hint7::l8::swaps9::i10::j11::k_12::A2::A3::A4::A5::A6::A7::A8::A9::C0::C1::C2::C3::C4::C5::C6::C7::C8::C9::D0::D1::l8::D3::D4::D5::D6::D7::D8::D9::E0::E1::E2::E3::E4::E5::E6::E7::E8::E9::F0::F1::F2::F3::F4::F5::[]) w) w)
      ((slices_choosePivotOrdered_uint64_P1 K) (data0::a1::b2::data3::a4::b5::pivot6::hint7::l8::swaps9::i10::j11::k_12::A2::A3::A4::A5::A6::A7::A8::A9::C0::C1::C2::C3::C4::C5::C6::C7::C8::C9::D0::D1::D2::D3::D4::D5::D6::D7::D8::D9::E0::E1::E2::E3::E4::E5::E6::E7::E8::E9::F0::F1::F2::F3::F4::F5::[]) w)) :
    slices_choosePivotOrdered_uint64_A2 K (data0::a1::b2::data3::a4::b5::pivot6::hint7::l8::swaps9::i10::j11::k_12::A2::A3::A4::A5::A6::A7::A8::A9::C0::C1::C2::C3::C4::C5::C6::C7::C8::C9::D0::D1::D2::D3::D4::D5::D6::D7::D8::D9::E0::E1::E2::E3::E4::E5::E6::E7::E8::E9::F0::F1::F2::F3::F4::F5::[]) w := by
  delta slices_choosePivotOrdered_uint64_A2
  exact Eq.mp (congrArg (fun c => cCode Try.prog c (slices_choosePivotOrdered_uint64_P1 K) (fun _ _ _ => False) (retK Try.prog Try.f29.results.toList K) (data0::a1::b2::data3::a4::b5::pivot6::hint7::l8::swaps9::i10::j11::k_12::A2::A3::A4::A5::A6::A7::A8::A9::C0::C1::C2::C3::C4::C5::C6::C7::C8::C9::D0::D1::D2::D3::D4::D5::D6::D7::D8::D9::E0::E1::E2::E3::E4::E5::E6::E7::E8::E9::F0::F1::F2::F3::F4::F5::[]) w) (by kernel_rfl : (rep [0, 0, 1] (cd Try.f29 [1, 1, 1, 1, 1, 1, 0, 1, 0, 0, 1]) (cd Try.f29 [1, 1, 1, 1, 1, 1, 0, 1])) = (cd Try.f29 [1, 1, 1, 1, 1, 1, 0, 1]))) (slices_choosePivotOrdered_uint64_A2_k (slices_choosePivotOrdered_uint64_P1 K) (cd Try.f29 [1, 1, 1, 1, 1, 1, 0, 1, 0, 0, 1]) h)

theorem slices_choosePivotOrdered_uint64_A3_k {K : KV} (qc0 : KE) {w : World}
    (h : cond D3
      (call Try.prog 40 #[data0, i10, swaps9] (fun D6 w =>
      call Try.prog 40 #[data0, j11, swaps9] (fun D9 w =>
      call Try.prog 40 #[data0, k_12, swaps9] (fun E2 w =>
      qc0 (data0::a1::b2::data3::a4::b5::pivot6::hint7::l8::swaps9::D6::D9::E2::A2::A3::A4::A5::A6::A7::A8::A9::C0::C1::C2::C3::C4::C5::C6::C7::C8::C9::D0::D1::D2::D3::data0::i10::D6::data0::j11::D9::data0::k_12::E2::E3::E4::E5::E6::E7::E8::E9::F0::F1::F2::F3::F4::F5::[]) w) w) w) w)
      (qc0 (data0::a1::b2::data3::a4::b5::pivot6::hint7::l8::swaps9::i10::j11::k_12::A2::A3::A4::A5::A6::A7::A8::A9::C0::C1::C2::C3::C4::C5::C6::C7::C8::C9::D0::D1::D2::D3::D4::D5::D6::D7::D8::D9::E0::E1::E2::E3::E4::E5::E6::E7::E8::E9::F0::F1::F2::F3::F4::F5::[]) w)) :
    cCode Try.prog (cd Try.f29 [1, 1, 1, 1, 1, 1, 0, 1, 0, 0, 1]) qc0 (fun _ _ _ => False) (retK Try.prog Try.f29.results.toList K) (data0::a1::b2::data3::a4::b5::pivot6::hint7::l8::swaps9::i10::j11::k_12::A2::A3::A4::A5::A6::A7::A8::A9::C0::C1::C2::C3::C4::C5::C6::C7::C8::C9::D0::D1::D2::D3::D4::D5::D6::D7::D8::D9::E0::E1::E2::E3::E4::E5::E6::E7::E8::E9::F0::F1::F2::F3::F4::F5::[]) w := Eq.mp (by kernel_rfl) h

theorem slices_choosePivotOrdered_uint64_A3_r {K : KV} {w : World}
    (h : cond D3
      (call Try.prog 40 #[data0, i10, swaps9] (fun D6 w =>
      call Try.prog 40 #[data0, j11, swaps9] (fun D9 w =>
      call Try.prog 40 #[data0, k_12, swaps9] (fun E2 w =>
      (slices_choosePivotOrdered_uint64_P2 K) (data0::a1::b2::data3::a4::b5::pivot6::hint7::l8::swaps9::D6::D9::E2::A2::A3::A4::A5::A6::A7::A8::A9::C0::C1::C2::C3::C4::C5::C6::C7::C8::C9::D0::D1::D2::D3::data0::i10::D6::data0::j11::D9::data0::k_12::E2::E3::E4::E5::E6::E7::E8::E9::F0::F1::F2::F3::F4::F5::[]) w) w) w) w)
      ((slices_choosePivotOrdered_uint64_P2 K) (data0::a1::b2::data3::a4::b5::pivot6::hint7::l8::swaps9::i10::j11::k_12::A2::A3::A4::A5::A6::A7::A8::A9::C0::C1::C2::C3::C4::C5::C6::C7::C8::C9::D0::D1::D2::D3::D4::D5::D6::D7::D8::D9::E0::E1::E2::E3::E4::E5::E6::E7::E8::E9::F0::F1::F2::F3::F4::F5::[]) w)) :
    slices_choosePivotOrdered_uint64_A3 K (data0::a1::b2::data3::a4::b5::pivot6::hint7::l8::swaps9::i10::j11::k_12::A2::A3::A4::A5::A6::A7::A8::A9::C0::C1::C2::C3::C4::C5::C6::C7::C8::C9::D0::D1::D2::D3::D4::D5::D6::D7::D8::D9::E0::E1::E2::E3::E4::E5::E6::E7::E8::E9::F0::F1::F2::F3::F4::F5::[]) w := by
  delta slices_choosePivotOrdered_uint64_A3
  exact Eq.mp (congrArg (fun c => cCode Try.prog c (slices_choosePivotOrdered_uint64_P2 K) (fun _ _ _ => False) (retK Try.prog Try.f29.results.toList K) (data0::a1::b2::data3::a4::b5::pivot6::hint7::l8::swaps9::i10::j11::k_12::A2::A3::A4::A5::A6::A7::A8::A9::C0::C1::C2::C3::C4::C5::C6::C7::C8::C9::D0::D1::D2::D3::D4::D5::D6::D7::D8::D9::E0::E1::E2::E3::E4::E5::E6::E7::E8::E9::F0::F1::F2::F3::F4::F5::[]) w) (by kernel_rfl : (cd Try.f29 [1, 1, 1, 1, 1, 1, 0, 1, 0, 0, 1]) = (cd Try.f29 [1, 1, 1, 1, 1, 1, 0, 1, 0, 0, 1]))) (slices_choosePivotOrdered_uint64_A3_k (slices_choosePivotOrdered_uint64_P2 K) h)

theorem slices_choosePivotOrdered_uint64_P1_k {K : KV} {w : World}
    (h : ld Try.prog 3 swaps9 (fun E8 w =>
    bin Try.prog BinOp.eql 3 false true E8 (Value.int IntKind.i64 0) (fun F1 w =>
    cond F1
      (K (Value.tuple #[j11, (Value.int IntKind.i64 1)]) w)
      (bin Try.prog BinOp.eql 3 false true E8 (Value.int IntKind.i64 12) (fun F4 w =>
      cond F4
        (K (Value.tuple #[j11, (Value.int IntKind.i64 2)]) w)
        (K (Value.tuple #[j11, (Value.int IntKind.i64 0)]) w)) w)) w) w) :
    cCode Try.prog (cd Try.f29 [1, 1, 1, 1, 1, 1, 1]) (retK Try.prog Try.f29.results.toList K) (fun _ _ _ => False) (retK Try.prog Try.f29.results.toList K) (data0::a1::b2::data3::a4::b5::pivot6::hint7::l8::swaps9::i10::j11::k_12::A2::A3::A4::A5::A6::A7::A8::A9::C0::C1::C2::C3::C4::C5::C6::C7::C8::C9::D0::D1::D2::D3::D4::D5::D6::D7::D8::D9::E0::E1::E2::E3::E4::E5::E6::E7::E8::E9::F0::F1::F2::F3::F4::F5::[]) w := Eq.mp (by kernel_rfl) h

theorem slices_choosePivotOrdered_uint64_P1_r {K : KV} {w : World}
    (h : ld Try.prog 3 swaps9 (fun E8 w =>
    bin Try.prog BinOp.eql 3 false true E8 (Value.int IntKind.i64 0) (fun F1 w =>
    cond F1
      (K (Value.tuple #[j11, (Value.int IntKind.i64 1)]) w)
      (bin Try.prog BinOp.eql 3 false true E8 (Value.int IntKind.i64 12) (fun F4 w =>
      cond F4
        (K (Value.tuple #[j11, (Value.int IntKind.i64 2)]) w)
        (K (Value.tuple #[j11, (Value.int IntKind.i64 0)]) w)) w)) w) w) :
    slices_choosePivotOrdered_uint64_P1 K (data0::a1::b2::data3::a4::b5::pivot6::hint7::l8::swaps9::i10::j11::k_12::A2::A3::A4::A5::A6::A7::A8::A9::C0::C1::C2::C3::C4::C5::C6::C7::C8::C9::D0::D1::D2::D3::D4::D5::D6::D7::D8::D9::E0::E1::E2::E3::E4::E5::E6::E7::E8::E9::F0::F1::F2::F3::F4::F5::[]) w := by
  delta slices_choosePivotOrdered_uint64_P1
  exact Eq.mp (congrArg (fun c => cCode Try.prog c (retK Try.prog Try.f29.results.toList K) (fun _ _ _ => False) (retK Try.prog Try.f29.results.toList K) (data0::a1::b2::data3::a4::b5::pivot6::hint7::l8::swaps9::i10::j11::k_12::A2::A3::A4::A5::A6::A7::A8::A9::C0::C1::C2::C3::C4::C5::C6::C7::C8::C9::D0::D1::D2::D3::D4::D5::D6::D7::D8::D9::E0::E1::E2::E3::E4::E5::E6::E7::E8::E9::F0::F1::F2::F3::F4::F5::[]) w) (by kernel_rfl : (cd Try.f29 [1, 1, 1, 1, 1, 1, 1]) = (cd Try.f29 [1, 1, 1, 1, 1, 1, 1]))) (slices_choosePivotOrdered_uint64_P1_k h)

theorem slices_choosePivotOrdered_uint64_P2_k {K : KV} (qc0 : KE) {w : World}
    (h : call Try.prog 41 #[data0, i10, j11, k_12, swaps9] (fun E7 w =>
    qc0 (data0::a1::b2::data3::a4::b5::pivot6::hint7::l8::swaps9::i10::E7::k_12::A2::A3::A4::A5::A6::A7::A8::A9::C0::C1::C2::C3::C4::C5::C6::C7::C8::C9::D0::D1::D2::D3::D4::D5::D6::D7::D8::D9::E0::E1::E2::data0::i10::j11::k_12::E7::E8::E9::F0::F1::F2::F3::F4::F5::[]) w) w) :
    cCode Try.prog (cd Try.f29 [1, 1, 1, 1, 1, 1, 0, 1, 0, 1]) qc0 (fun _ _ _ => False) (retK Try.prog Try.f29.results.toList K) (data0::a1::b2::data3::a4::b5::pivot6::hint7::l8::swaps9::i10::j11::k_12::A2::A3::A4::A5::A6::A7::A8::A9::C0::C1::C2::C3::C4::C5::C6::C7::C8::C9::D0::D1::D2::D3::D4::D5::D6::D7::D8::D9::E0::E1::E2::E3::E4::E5::E6::E7::E8::E9::F0::F1::F2::F3::F4::F5::[]) w := Eq.mp (by kernel_rfl) h

theorem slices_choosePivotOrdered_uint64_P2_r {K : KV} {w : World}
    (h : call Try.prog 41 #[data0, i10, j11, k_12, swaps9] (fun E7 w =>
    (slices_choosePivotOrdered_uint64_P1 K) (data0::a1::b2::data3::a4::b5::pivot6::hint7::l8::swaps9::i10::E7::k_12::A2::A3::A4::A5::A6::A7::A8::A9::C0::C1::C2::C3::C4::C5::C6::C7::C8::C9::D0::D1::D2::D3::D4::D5::D6::D7::D8::D9::E0::E1::E2::data0::i10::j11::k_12::E7::E8::E9::F0::F1::F2::F3::F4::F5::[]) w) w) :
    slices_choosePivotOrdered_uint64_P2 K (data0::a1::b2::data3::a4::b5::pivot6::hint7::l8::swaps9::i10::j11::k_12::A2::A3::A4::A5::A6::A7::A8::A9::C0::C1::C2::C3::C4::C5::C6::C7::C8::C9::D0::D1::D2::D3::D4::D5::D6::D7::D8::D9::E0::E1::E2::E3::E4::E5::E6::E7::E8::E9::F0::F1::F2::F3::F4::F5::[]) w := by
  delta slices_choosePivotOrdered_uint64_P2
  exact Eq.mp (congrArg (fun c => cCode Try.prog c (slices_choosePivotOrdered_uint64_P1 K) (fun _ _ _ => False) (retK Try.prog Try.f29.results.toList K) (data0::a1::b2::data3::a4::b5::pivot6::hint7::l8::swaps9::i10::j11::k_12::A2::A3::A4::A5::A6::A7::A8::A9::C0::C1::C2::C3::C4::C5::C6::C7::C8::C9::D0::D1::D2::D3::D4::D5::D6::D7::D8::D9::E0::E1::E2::E3::E4::E5::E6::E7::E8::E9::F0::F1::F2::F3::F4::F5::[]) w) (by kernel_rfl : (cd Try.f29 [1, 1, 1, 1, 1, 1, 0, 1, 0, 1]) = (cd Try.f29 [1, 1, 1, 1, 1, 1, 0, 1, 0, 1]))) (slices_choosePivotOrdered_uint64_P2_k (slices_choosePivotOrdered_uint64_P1 K) h)
attribute [irreducible] slices_choosePivotOrdered_uint64_A1 slices_choosePivotOrdered_uint64_P1 slices_choosePivotOrdered_uint64_A2 slices_choosePivotOrdered_uint64_P2 slices_choosePivotOrdered_uint64_A3


end
theorem slices_medianAdjacentOrdered_uint64_k {K : KV} {data0 a1 swaps2 : Value} {w : World}
    (h : bin Try.prog BinOp.sub 3 false true a1 (Value.int IntKind.i64 1) (fun A0 w =>
    bin Try.prog BinOp.add 3 false true a1 (Value.int IntKind.i64 1) (fun A1 w =>
    call Try.prog 41 #[data0, A0, a1, A1, swaps2] (fun A3 w =>
    K A3 w) w) w) w) :
    cCode Try.prog (cd Try.f40 []) (retK Try.prog Try.f40.results.toList K) (fun _ _ _ => False) (retK Try.prog Try.f40.results.toList K) [data0, a1, swaps2, undef, undef, undef, undef, undef, undef, undef, undef, undef, undef, undef, undef] w := Eq.mp (by kernel_rfl) h

theorem slices_medianAdjacentOrdered_uint64_in {K : KV} {data0 a1 swaps2 : Value} {w : World}
    (h : bin Try.prog BinOp.sub 3 false true a1 (Value.int IntKind.i64 1) (fun A0 w =>
    bin Try.prog BinOp.add 3 false true a1 (Value.int IntKind.i64 1) (fun A1 w =>
    call Try.prog 41 #[data0, A0, a1, A1, swaps2] (fun A3 w =>
    K A3 w) w) w) w) :
    Gives Try.prog 40 #[data0, a1, swaps2] w K := enter' Try.func40 (by kernel_rfl) (Eq.mp (congrArg (fun c => cCode Try.prog c (retK Try.prog Try.f40.results.toList K) (fun _ _ _ => False) (retK Try.prog Try.f40.results.toList K) [data0, a1, swaps2, undef, undef, undef, undef, undef, undef, undef, undef, undef, undef, undef, undef] w) (by kernel_rfl : (cd Try.f40 []) = (cd Try.f40 []))) (slices_medianAdjacentOrdered_uint64_k h))
theorem slices_medianAdjacentOrdered_uint64_go : isGo Try.prog 40 := ⟨_, Try.func40, by kernel_rfl, by kernel_rfl⟩


theorem slices_medianOrdered_uint64_k {K : KV} {data0 a1 b2 c3 swaps4 : Value} {w : World}
    (h : call Try.prog 43 #[data0, a1, b2, swaps4] (fun A5 w =>
    ext Try.prog A5 0 (fun A6 w =>
    ext Try.prog A5 1 (fun A7 w =>
    call Try.prog 43 #[data0, A7, c3, swaps4] (fun C3 w =>
    ext Try.prog C3 0 (fun C4 w =>
    ext Try.prog C3 1 (fun C5 w =>
    call Try.prog 43 #[data0, A6, C4, swaps4] (fun D1 w =>
    ext Try.prog D1 0 (fun D2 w =>
    ext Try.prog D1 1 (fun D3 w =>
    K D3 w) w) w) w) w) w) w) w) w) w) :
    cCode Try.prog (cd Try.f41 []) (retK Try.prog Try.f41.results.toList K) (fun _ _ _ => False) (retK Try.prog Try.f41.results.toList K) [data0, a1, b2, c3, swaps4, undef, undef, undef, undef, undef, undef, undef, undef, undef, undef, undef, undef, undef, undef, undef, undef, undef, undef, undef, undef, undef, undef, undef, undef, undef, undef, undef, undef, undef, undef, undef] w := Eq.mp (by kernel_rfl) h

theorem slices_medianOrdered_uint64_in {K : KV} {data0 a1 b2 c3 swaps4 : Value} {w : World}
    (h : call Try.prog 43 #[data0, a1, b2, swaps4] (fun A5 w =>
    ext Try.prog A5 0 (fun A6 w =>
    ext Try.prog A5 1 (fun A7 w =>
    call Try.prog 43 #[data0, A7, c3, swaps4] (fun C3 w =>
    ext Try.prog C3 0 (fun C4 w =>
    ext Try.prog C3 1 (fun C5 w =>
    call Try.prog 43 #[data0, A6, C4, swaps4] (fun D1 w =>
    ext Try.prog D1 0 (fun D2 w =>
    ext Try.prog D1 1 (fun D3 w =>
    K D3 w) w) w) w) w) w) w) w) w) w) :
    Gives Try.prog 41 #[data0, a1, b2, c3, swaps4] w K := enter' Try.func41 (by kernel_rfl) (Eq.mp (congrArg (fun c => cCode Try.prog c (retK Try.prog Try.f41.results.toList K) (fun _ _ _ => False) (retK Try.prog Try.f41.results.toList K) [data0, a1, b2, c3, swaps4, undef, undef, undef, undef, undef, undef, undef, undef, undef, undef, undef, undef, undef, undef, undef, undef, undef, undef, undef, undef, undef, undef, undef, undef, undef, undef, undef, undef, undef, undef, undef] w) (by kernel_rfl : (cd Try.f41 []) = (cd Try.f41 []))) (slices_medianOrdered_uint64_k h))
theorem slices_medianOrdered_uint64_go : isGo Try.prog 41 := ⟨_, Try.func41, by kernel_rfl, by kernel_rfl⟩


theorem slices_order2Ordered_uint64_k {K : KV} {data0 a1 b2 swaps3 : Value} {w : World}
    (h : hReg (fun S w =>
    hld S (fun k w => idxA Try.prog 47 data0 b2 k w) (fun A1 =>
    hld S (fun k w => ld Try.prog 33 A1 k w) (fun A2 =>
    hld S (fun k w => idxA Try.prog 47 data0 a1 k w) (fun A5 =>
    hld S (fun k w => ld Try.prog 33 A5 k w) (fun A6 =>
    call Try.prog 32 #[A2, A6] (fun A7 w =>
    cond A7
      (nilC swaps3 (fun A9 w =>
      ld Try.prog 3 A9 (fun C0 w =>
      bin Try.prog BinOp.add 3 false true C0 (Value.int IntKind.i64 1) (fun C1 w =>
      nilC swaps3 (fun C2 w =>
      sto Try.prog 3 C2 C1 (fun _t w =>
      K (Value.tuple #[b2, a1]) w) w) w) w) w) w)
      (K (Value.tuple #[a1, b2]) w)) w))))) w.drew) :
    cCode Try.prog (cd Try.f43 []) (retK Try.prog Try.f43.results.toList K) (fun _ _ _ => False) (retK Try.prog Try.f43.results.toList K) [data0, a1, b2, swaps3, undef, undef, undef, undef, undef, undef, undef, undef, undef, undef, undef, undef, undef, undef, undef, undef, undef, undef, undef, undef, undef, undef, undef, undef] w := Eq.mp (by kernel_rfl) h

theorem slices_order2Ordered_uint64_in {K : KV} {data0 a1 b2 swaps3 : Value} {w : World}
    (h : hReg (fun S w =>
    hld S (fun k w => idxA Try.prog 47 data0 b2 k w) (fun A1 =>
    hld S (fun k w => ld Try.prog 33 A1 k w) (fun A2 =>
    hld S (fun k w => idxA Try.prog 47 data0 a1 k w) (fun A5 =>
    hld S (fun k w => ld Try.prog 33 A5 k w) (fun A6 =>
    call Try.prog 32 #[A2, A6] (fun A7 w =>
    cond A7
      (nilC swaps3 (fun A9 w =>
      ld Try.prog 3 A9 (fun C0 w =>
      bin Try.prog BinOp.add 3 false true C0 (Value.int IntKind.i64 1) (fun C1 w =>
      nilC swaps3 (fun C2 w =>
      sto Try.prog 3 C2 C1 (fun _t w =>
      K (Value.tuple #[b2, a1]) w) w) w) w) w) w)
      (K (Value.tuple #[a1, b2]) w)) w))))) w.drew) :
    Gives Try.prog 43 #[data0, a1, b2, swaps3] w K := enter' Try.func43 (by kernel_rfl) (Eq.mp (congrArg (fun c => cCode Try.prog c (retK Try.prog Try.f43.results.toList K) (fun _ _ _ => False) (retK Try.prog Try.f43.results.toList K) [data0, a1, b2, swaps3, undef, undef, undef, undef, undef, undef, undef, undef, undef, undef, undef, undef, undef, undef, undef, undef, undef, undef, undef, undef, undef, undef, undef, undef] w) (by kernel_rfl : (cd Try.f43 []) = (cd Try.f43 []))) (slices_order2Ordered_uint64_k h))
theorem slices_order2Ordered_uint64_go : isGo Try.prog 43 := ⟨_, Try.func43, by kernel_rfl, by kernel_rfl⟩

end Go.Proofs.Ytcieejlkdfdpiaa
