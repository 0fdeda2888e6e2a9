/- Written by program (gen.py): what the code of some functions asks, part by part; each text is checked by the kernel against the translation. -/
import Derived.Test.YtcieejlkdfdpiaaSh
import Derived.Test.YtcieejlkdfdpiaaChecked
namespace Go.Proofs.Ytcieejlkdfdpiaa
open Go.RowKit
set_option maxRecDepth 100000

def leatref26_Audit_Say_A1 (K : KV) : KE := cCode Try.prog (cd Try.f9 [1, 1, 1, 0, 1, 0, 1, 1]) (retK Try.prog Try.f9.results.toList K) (fun i => @Bool.rec (fun _ => KE) ((fun _ _ _ => False) i) (retK Try.prog Try.f9.results.toList K) (Nat.beq i 0)) (retK Try.prog Try.f9.results.toList K)
def leatref26_Audit_Say_A2 (K : KV) : KE := cCode Try.prog (cd Try.f9 [1, 1, 1, 0, 1, 1, 1]) (retK Try.prog Try.f9.results.toList K) (fun i => @Bool.rec (fun _ => KE) ((fun _ _ _ => False) i) (retK Try.prog Try.f9.results.toList K) (Nat.beq i 0)) (retK Try.prog Try.f9.results.toList K)
def leatref26_Audit_Say_A3 (K : KV) : KE := cCode Try.prog (cd Try.f9 [1, 1, 1, 0, 1, 0, 1, 1, 0, 1, 1, 1]) (retK Try.prog Try.f9.results.toList K) (fun i => @Bool.rec (fun _ => KE) ((fun _ _ _ => False) i) (retK Try.prog Try.f9.results.toList K) (Nat.beq i 0)) (retK Try.prog Try.f9.results.toList K)
def leatref26_Audit_Say_P1 (K : KV) : KE := cCode Try.prog (cd Try.f9 [1, 1, 1, 0, 1, 1, 1, 1, 1, 0, 1, 0, 1, 1]) (retK Try.prog Try.f9.results.toList K) (fun i => @Bool.rec (fun _ => KE) ((fun _ _ _ => False) i) (retK Try.prog Try.f9.results.toList K) (Nat.beq i 0)) (retK Try.prog Try.f9.results.toList K)
def leatref26_Audit_Say_A4 (K : KV) : KE := cCode Try.prog (cd Try.f9 [1, 1, 1, 0, 1, 1, 1, 1, 1, 0, 1, 0, 1, 0, 1]) (leatref26_Audit_Say_P1 K) (fun i => @Bool.rec (fun _ => KE) ((fun _ _ _ => False) i) (retK Try.prog Try.f9.results.toList K) (Nat.beq i 0)) (retK Try.prog Try.f9.results.toList K)
def leatref26_Audit_Say_A5 (K : KV) : KE := cCode Try.prog (cd Try.f9 [1, 1, 1, 0, 1, 1, 1, 1, 1, 1, 1, 0, 1]) (retK Try.prog Try.f9.results.toList K) (fun i => @Bool.rec (fun _ => KE) ((fun _ _ _ => False) i) (retK Try.prog Try.f9.results.toList K) (Nat.beq i 0)) (retK Try.prog Try.f9.results.toList K)
def leatref26_Audit_Say_P2 (K : KV) : KE := cCode Try.prog (cd Try.f9 [1, 1, 1, 0, 1, 0, 1, 1, 0, 1, 1, 1, 1]) (retK Try.prog Try.f9.results.toList K) (fun i => @Bool.rec (fun _ => KE) ((fun _ _ _ => False) i) (retK Try.prog Try.f9.results.toList K) (Nat.beq i 0)) (retK Try.prog Try.f9.results.toList K)
def leatref26_Audit_Say_L1 (K : KV) : KE := cCode Try.prog (cd Try.f9 [1, 1, 1, 0, 1, 0, 1, 1, 0, 1, 1, 1, 0, 0]) (leatref26_Audit_Say_P2 K) (fun i => @Bool.rec (fun _ => KE) ((fun i => @Bool.rec (fun _ => KE) ((fun _ _ _ => False) i) (retK Try.prog Try.f9.results.toList K) (Nat.beq i 0)) i) (leatref26_Audit_Say_P2 K) (Nat.beq i 1)) (retK Try.prog Try.f9.results.toList K)
def leatref26_Audit_Say_P3 (K : KV) : KE := cCode Try.prog (cd Try.f9 [1, 1, 1, 0, 1, 1, 1, 1, 1, 0, 1, 0, 1, 1, 1, 1]) (retK Try.prog Try.f9.results.toList K) (fun i => @Bool.rec (fun _ => KE) ((fun _ _ _ => False) i) (retK Try.prog Try.f9.results.toList K) (Nat.beq i 0)) (retK Try.prog Try.f9.results.toList K)
def leatref26_Audit_Say_L2 (K : KV) : KE := cCode Try.prog (cd Try.f9 [1, 1, 1, 0, 1, 1, 1, 1, 1, 0, 1, 0, 1, 1, 1, 0, 1, 0]) (leatref26_Audit_Say_P3 K) (fun i => @Bool.rec (fun _ => KE) ((fun i => @Bool.rec (fun _ => KE) ((fun _ _ _ => False) i) (retK Try.prog Try.f9.results.toList K) (Nat.beq i 0)) i) (leatref26_Audit_Say_P3 K) (Nat.beq i 3)) (retK Try.prog Try.f9.results.toList K)
theorem leatref26_Audit_Say_k {K : KV} (xc0 : Code) (xc1 : Code) {a0 who1 k_2 x3 : Value} {w : World}
    (h : box Try.prog 35 k_2 (fun k_6 w =>
    box Try.prog 42 x3 (fun x7 w =>
    fldA Try.prog 42 x7 1 (fun C2 w =>
    ld Try.prog 40 C2 (fun C3 w =>
    bin Try.prog BinOp.neq 40 false true C3 (Value.int IntKind.i64 0) (fun C4 w =>
    gsel C4 true (fun k19 =>
    fldA Try.prog 42 x7 1 (fun C6 w =>
    ld Try.prog 40 C6 (fun C7 w =>
    bin Try.prog BinOp.neq 40 false true C7 (Value.int IntKind.i64 8) (fun C8 w =>
    k19 [C6, C7, C8] w) w) w) w)
    (fun k => k [undef, undef, undef] w) (fun us19 w =>
    pick C4 (gd us19 2) (Value.bool false) (fun C9 w =>
    cond C9
      (K (Value.tuple #[]) w)
      (fldA Try.prog 35 k_6 0 (fun D0 w =>
    ld Try.prog 5 D0 (fun D1 w =>
    bin Try.prog BinOp.eql 5 false true D1 (Value.int IntKind.u8 1) (fun D3 w =>
    cond D3
      (fldA Try.prog 42 x7 0 (fun D4 w =>
      fldA Try.prog 39 D4 0 (fun D5 w =>
      ld Try.prog 3 D5 (fun D6 w =>
      fldA Try.prog 42 x7 0 (fun D7 w =>
      fldA Try.prog 39 D7 1 (fun D8 w =>
      ld Try.prog 33 D8 (fun D9 w =>
      call Try.prog 18 #[D6, D9] (fun E0 w =>
      bin Try.prog BinOp.neq 33 false true E0 (Value.int IntKind.u64 0) (fun E2 w =>
      gsel E2 true (fun k37 =>
      call Try.prog 19 #[a0, E0] (fun E6 w =>
      bin Try.prog BinOp.lss 3 false true E6 (Value.int IntKind.i64 0) (fun E7 w =>
      k37 [a0, E0, E6, E7] w) w) w)
      (fun k => k [undef, undef, undef, undef] w) (fun us37 w =>
      pick E2 (gd us37 3) (Value.bool false) (fun E8 w =>
      (cCode Try.prog xc0 (retK Try.prog Try.f9.results.toList K) (fun i => @Bool.rec (fun _ => KE) ((fun _ _ _ => False) i) (retK Try.prog Try.f9.results.toList K) (Nat.beq i 0)) (retK Try.prog Try.f9.results.toList K)) (a0::who1::k_2::x3::undef::undef::k_6::x7::E0::undef::undef::undef::undef::undef::undef::C2::C3::C4::C4::(gd us19 0)::(gd us19 1)::(gd us19 2)::C9::D0::D1::D3::D3::D4::D5::D6::D7::D8::D9::E0::E0::E2::E2::(gd us37 0)::(gd us37 1)::(gd us37 2)::(gd us37 3)::E8::undef::undef::undef::undef::undef::undef::undef::undef::undef::undef::undef::undef::undef::undef::undef::undef::undef::undef::undef::undef::undef::undef::undef::undef::undef::undef::undef::undef::undef::undef::undef::undef::undef::undef::undef::undef::undef::undef::undef::undef::undef::undef::undef::undef::undef::undef::undef::undef::undef::undef::undef::undef::undef::undef::undef::undef::undef::undef::undef::undef::undef::undef::undef::undef::undef::undef::undef::undef::undef::undef::undef::undef::undef::undef::undef::undef::undef::undef::undef::undef::undef::undef::undef::undef::undef::undef::undef::undef::undef::undef::undef::undef::undef::undef::undef::undef::undef::undef::undef::undef::undef::undef::undef::undef::undef::undef::undef::undef::undef::undef::undef::undef::undef::undef::undef::undef::undef::undef::undef::undef::undef::undef::undef::undef::undef::undef::undef::undef::undef::undef::undef::undef::undef::undef::undef::undef::undef::undef::undef::undef::undef::undef::undef::undef::undef::undef::undef::undef::undef::undef::undef::undef::undef::undef::undef::undef::undef::undef::undef::undef::undef::undef::undef::undef::undef::undef::undef::undef::undef::undef::undef::undef::undef::undef::undef::undef::undef::undef::undef::undef::undef::undef::undef::[]) w) w)) w) w) w) w) w) w) w) w)
      (bin Try.prog BinOp.eql 5 false true D1 (Value.int IntKind.u8 2) (fun M1 w =>
      (cCode Try.prog xc1 (retK Try.prog Try.f9.results.toList K) (fun i => @Bool.rec (fun _ => KE) ((fun _ _ _ => False) i) (retK Try.prog Try.f9.results.toList K) (Nat.beq i 0)) (retK Try.prog Try.f9.results.toList K)) (a0::who1::k_2::x3::undef::undef::k_6::x7::undef::undef::undef::undef::undef::undef::undef::C2::C3::C4::C4::(gd us19 0)::(gd us19 1)::(gd us19 2)::C9::D0::D1::D3::D3::undef::undef::undef::undef::undef::undef::undef::undef::undef::undef::undef::undef::undef::undef::undef::undef::undef::undef::undef::undef::undef::undef::undef::undef::undef::undef::undef::undef::undef::undef::undef::undef::undef::undef::undef::undef::undef::undef::undef::undef::undef::undef::undef::undef::undef::undef::undef::undef::undef::undef::undef::undef::undef::undef::undef::undef::undef::undef::undef::undef::undef::undef::undef::undef::undef::undef::undef::undef::undef::undef::undef::undef::undef::undef::undef::undef::M1::M1::undef::undef::undef::undef::undef::undef::undef::undef::undef::undef::undef::undef::undef::undef::undef::undef::undef::undef::undef::undef::undef::undef::undef::undef::undef::undef::undef::undef::undef::undef::undef::undef::undef::undef::undef::undef::undef::undef::undef::undef::undef::undef::undef::undef::undef::undef::undef::undef::undef::undef::undef::undef::undef::undef::undef::undef::undef::undef::undef::undef::undef::undef::undef::undef::undef::undef::undef::undef::undef::undef::undef::undef::undef::undef::undef::undef::undef::undef::undef::undef::undef::undef::undef::undef::undef::undef::undef::undef::undef::undef::undef::undef::undef::undef::undef::undef::undef::undef::undef::undef::undef::undef::undef::undef::undef::undef::undef::undef::undef::undef::undef::undef::undef::undef::undef::undef::undef::undef::undef::undef::[]) w) w)) w) w) w)) w)) w) w) w) w) w) :
    cCode Try.prog (rep [1, 1, 1, 0, 1, 1, 1] xc1 (rep [1, 1, 1, 0, 1, 0, 1, 1] xc0 (cd Try.f9 []))) (retK Try.prog Try.f9.results.toList K) (fun _ _ _ => False) (retK Try.prog Try.f9.results.toList K) (a0::who1::k_2::x3::undef::undef::undef::undef::undef::undef::undef::undef::undef::undef::undef::undef::undef::undef::undef::undef::undef::undef::undef::undef::undef::undef::undef::undef::undef::undef::undef::undef::undef::undef::undef::undef::undef::undef::undef::undef::undef::undef::undef::undef::undef::undef::undef::undef::undef::undef::undef::undef::undef::undef::undef::undef::undef::undef::undef::undef::undef::undef::undef::undef::undef::undef::undef::undef::undef::undef::undef::undef::undef::undef::undef::undef::undef::undef::undef::undef::undef::undef::undef::undef::undef::undef::undef::undef::undef::undef::undef::undef::undef::undef::undef::undef::undef::undef::undef::undef::undef::undef::undef::undef::undef::undef::undef::undef::undef::undef::undef::undef::undef::undef::undef::undef::undef::undef::undef::undef::undef::undef::undef::undef::undef::undef::undef::undef::undef::undef::undef::undef::undef::undef::undef::undef::undef::undef::undef::undef::undef::undef::undef::undef::undef::undef::undef::undef::undef::undef::undef::undef::undef::undef::undef::undef::undef::undef::undef::undef::undef::undef::undef::undef::undef::undef::undef::undef::undef::undef::undef::undef::undef::undef::undef::undef::undef::undef::undef::undef::undef::undef::undef::undef::undef::undef::undef::undef::undef::undef::undef::undef::undef::undef::undef::undef::undef::undef::undef::undef::undef::undef::undef::undef::undef::undef::undef::undef::undef::undef::undef::undef::undef::undef::undef::undef::undef::undef::undef::undef::undef::undef::undef::undef::undef::[]) w := Eq.mp (by kernel_rfl) h

theorem leatref26_Audit_Say_in {K : KV} {a0 who1 k_2 x3 : Value} {w : World}
    (h : box Try.prog 35 k_2 (fun k_6 w =>
    box Try.prog 42 x3 (fun x7 w =>
    fldA Try.prog 42 x7 1 (fun C2 w =>
    ld Try.prog 40 C2 (fun C3 w =>
    bin Try.prog BinOp.neq 40 false true C3 (Value.int IntKind.i64 0) (fun C4 w =>
    gsel C4 true (fun k19 =>
    fldA Try.prog 42 x7 1 (fun C6 w =>
    ld Try.prog 40 C6 (fun C7 w =>
    bin Try.prog BinOp.neq 40 false true C7 (Value.int IntKind.i64 8) (fun C8 w =>
    k19 [C6, C7, C8] w) w) w) w)
    (fun k => k [undef, undef, undef] w) (fun us19 w =>
    pick C4 (gd us19 2) (Value.bool false) (fun C9 w =>
    cond C9
      (K (Value.tuple #[]) w)
      (fldA Try.prog 35 k_6 0 (fun D0 w =>
    ld Try.prog 5 D0 (fun D1 w =>
    bin Try.prog BinOp.eql 5 false true D1 (Value.int IntKind.u8 1) (fun D3 w =>
    cond D3
      (fldA Try.prog 42 x7 0 (fun D4 w =>
      fldA Try.prog 39 D4 0 (fun D5 w =>
      ld Try.prog 3 D5 (fun D6 w =>
      fldA Try.prog 42 x7 0 (fun D7 w =>
      fldA Try.prog 39 D7 1 (fun D8 w =>
      ld Try.prog 33 D8 (fun D9 w =>
      call Try.prog 18 #[D6, D9] (fun E0 w =>
      bin Try.prog BinOp.neq 33 false true E0 (Value.int IntKind.u64 0) (fun E2 w =>
      gsel E2 true (fun k37 =>
      call Try.prog 19 #[a0, E0] (fun E6 w =>
      bin Try.prog BinOp.lss 3 false true E6 (Value.int IntKind.i64 0) (fun E7 w =>
      k37 [a0, E0, E6, E7] w) w) w)
      (fun k => k [undef, undef, undef, undef] w) (fun us37 w =>
      pick E2 (gd us37 3) (Value.bool false) (fun E8 w =>
      (leatref26_Audit_Say_A1 K) (a0::who1::k_2::x3::undef::undef::k_6::x7::E0::undef::undef::undef::undef::undef::undef::C2::C3::C4::C4::(gd us19 0)::(gd us19 1)::(gd us19 2)::C9::D0::D1::D3::D3::D4::D5::D6::D7::D8::D9::E0::E0::E2::E2::(gd us37 0)::(gd us37 1)::(gd us37 2)::(gd us37 3)::E8::undef::undef::undef::undef::undef::undef::undef::undef::undef::undef::undef::undef::undef::undef::undef::undef::undef::undef::undef::undef::undef::undef::undef::undef::undef::undef::undef::undef::undef::undef::undef::undef::undef::undef::undef::undef::undef::undef::undef::undef::undef::undef::undef::undef::undef::undef::undef::undef::undef::undef::undef::undef::undef::undef::undef::undef::undef::undef::undef::undef::undef::undef::undef::undef::undef::undef::undef::undef::undef::undef::undef::undef::undef::undef::undef::undef::undef::undef::undef::undef::undef::undef::undef::undef::undef::undef::undef::undef::undef::undef::undef::undef::undef::undef::undef::undef::undef::undef::undef::undef::undef::undef::undef::undef::undef::undef::undef::undef::undef::undef::undef::undef::undef::undef::undef::undef::undef::undef::undef::undef::undef::undef::undef::undef::undef::undef::undef::undef::undef::undef::undef::undef::undef::undef::undef::undef::undef::undef::undef::undef::undef::undef::undef::undef::undef::undef::undef::undef::undef::undef::undef::undef::undef::undef::undef::undef::undef::undef::undef::undef::undef::undef::undef::undef::undef::undef::undef::undef::undef::undef::undef::undef::undef::undef::undef::undef::undef::undef::undef::undef::undef::undef::undef::[]) w) w)) w) w) w) w) w) w) w) w)
      (bin Try.prog BinOp.eql 5 false true D1 (Value.int IntKind.u8 2) (fun M1 w =>
      (leatref26_Audit_Say_A2 K) (a0::who1::k_2::x3::undef::undef::k_6::x7::undef::undef::undef::undef::undef::undef::undef::C2::C3::C4::C4::(gd us19 0)::(gd us19 1)::(gd us19 2)::C9::D0::D1::D3::D3::undef::undef::undef::undef::undef::undef::undef::undef::undef::undef::undef::undef::undef::undef::undef::undef::undef::undef::undef::undef::undef::undef::undef::undef::undef::undef::undef::undef::undef::undef::undef::undef::undef::undef::undef::undef::undef::undef::undef::undef::undef::undef::undef::undef::undef::undef::undef::undef::undef::undef::undef::undef::undef::undef::undef::undef::undef::undef::undef::undef::undef::undef::undef::undef::undef::undef::undef::undef::undef::undef::undef::undef::undef::undef::undef::undef::M1::M1::undef::undef::undef::undef::undef::undef::undef::undef::undef::undef::undef::undef::undef::undef::undef::undef::undef::undef::undef::undef::undef::undef::undef::undef::undef::undef::undef::undef::undef::undef::undef::undef::undef::undef::undef::undef::undef::undef::undef::undef::undef::undef::undef::undef::undef::undef::undef::undef::undef::undef::undef::undef::undef::undef::undef::undef::undef::undef::undef::undef::undef::undef::undef::undef::undef::undef::undef::undef::undef::undef::undef::undef::undef::undef::undef::undef::undef::undef::undef::undef::undef::undef::undef::undef::undef::undef::undef::undef::undef::undef::undef::undef::undef::undef::undef::undef::undef::undef::undef::undef::undef::undef::undef::undef::undef::undef::undef::undef::undef::undef::undef::undef::undef::undef::undef::undef::undef::undef::undef::undef::[]) w) w)) w) w) w)) w)) w) w) w) w) w) :
    Gives Try.prog 9 #[a0, who1, k_2, x3] w K := enter' Try.func9 (by kernel_rfl) (Eq.mp (congrArg (fun c => cCode Try.prog c (retK Try.prog Try.f9.results.toList K) (fun _ _ _ => False) (retK Try.prog Try.f9.results.toList K) (a0::who1::k_2::x3::undef::undef::undef::undef::undef::undef::undef::undef::undef::undef::undef::undef::undef::undef::undef::undef::undef::undef::undef::undef::undef::undef::undef::undef::undef::undef::undef::undef::undef::undef::undef::undef::undef::undef::undef::undef::undef::undef::undef::undef::undef::undef::undef::undef::undef::undef::undef::undef::undef::undef::undef::undef::undef::undef::undef::undef::undef::undef::undef::undef::undef::undef::undef::undef::undef::undef::undef::undef::undef::undef::undef::undef::undef::undef::undef::undef::undef::undef::undef::undef::undef::undef::undef::undef::undef::undef::undef::undef::undef::undef::undef::undef::undef::undef::undef::undef::undef::undef::undef::undef::undef::undef::undef::undef::undef::undef::undef::undef::undef::undef::undef::undef::undef::undef::undef::undef::undef::undef::undef::undef::undef::undef::undef::undef::undef::undef::undef::undef::undef::undef::undef::undef::undef::undef::undef::undef::undef::undef::undef::undef::undef::undef::undef::undef::undef::undef::undef::undef::undef::undef::undef::undef::undef::undef::undef::undef::undef::undef::undef::undef::undef::undef::undef::undef::undef::undef::undef::undef::undef::undef::undef::undef::undef::undef::undef::undef::undef::undef::undef::undef::undef::undef::undef::undef::undef::undef::undef::undef::undef::undef::undef::undef::undef::undef::undef::undef::undef::undef::undef::undef::undef::undef::undef::undef::undef::undef::undef::undef::undef::undef::undef::undef::undef::undef::undef::undef::undef::undef::undef::undef::undef::[]) w) (by kernel_rfl : (rep [1, 1, 1, 0, 1, 1, 1] (cd Try.f9 [1, 1, 1, 0, 1, 1, 1]) (rep [1, 1, 1, 0, 1, 0, 1, 1] (cd Try.f9 [1, 1, 1, 0, 1, 0, 1, 1]) (cd Try.f9 []))) = (cd Try.f9 []))) (leatref26_Audit_Say_k (cd Try.f9 [1, 1, 1, 0, 1, 0, 1, 1]) (cd Try.f9 [1, 1, 1, 0, 1, 1, 1]) h))
theorem leatref26_Audit_Say_go : isGo Try.prog 9 := ⟨_, Try.func9, by kernel_rfl, by kernel_rfl⟩

section
variable {a0 who1 k_2 x3 a4 who5 k_6 x7 id8 at9 n10 n11 x12 i13 at14 C2 C3 C4 C5 C6 C7 C8 C9 D0 D1 D2 D3 D4 D5 D6 D7 D8 D9 E0 E1 E2 E3 E4 E5 E6 E7 E8 E9 F0 F1 F2 F3 F4 F5 F6 F7 F8 F9 G0 G1 G2 G3 G4 G5 G6 G7 G8 G9 H0 H1 H2 H3 H4 H5 H6 H7 H8 H9 I0 I1 I2 I3 I4 I5 I6 I7 I8 I9 J0 J1 J2 J3 J4 J5 J6 J7 J8 J9 L0 L1 L2 L3 L4 L5 L6 L7 L8 L9 M0 M1 M2 M3 M4 M5 M6 M7 M8 M9 N0 N1 N2 N3 N4 N5 N6 N7 N8 N9 O0 O1 O2 O3 O4 O5 O6 O7 O8 O9 P0 P1 P2 P3 P4 P5 P6 P7 P8 P9 Q0 Q1 Q2 Q3 Q4 Q5 Q6 Q7 Q8 Q9 R0 R1 R2 R3 R4 R5 R6 R7 R8 R9 S0 S1 S2 S3 S4 S5 S6 S7 S8 S9 T0 T1 T2 T3 T4 T5 T6 T7 T8 T9 U0 U1 U2 U3 U4 U5 U6 U7 U8 U9 V0 V1 V2 V3 V4 V5 V6 V7 V8 V9 W0 W1 W2 W3 W4 W5 W6 W7 W8 W9 X0 X1 X2 X3 X4 X5 X6 X7 X8 X9 Y0 Y1 : Value}
theorem leatref26_Audit_Say_A1_k {K : KV} (xc0 : Code) {w : World}
    (h : cond E8
      (nilC a0 (fun F0 w =>
      fldA Try.prog 31 F0 0 (fun F1 w =>
      ld Try.prog 27 F1 (fun F2 w =>
      blt Try.prog Builtin.len #[27] 3 #[false] #[F2] (fun F3 w =>
      fldA Try.prog 35 k_6 1 (fun F5 w =>
      ld Try.prog 33 F5 (fun F6 w =>
      fldA Try.prog 35 k_6 3 (fun F7 w =>
      ld Try.prog 2 F7 (fun F8 w =>
      blt Try.prog Builtin.min #[2, 2] 2 #[false, true] #[F8, (Value.int IntKind.i64 1125899906842624)] (fun F9 w =>
      blt Try.prog Builtin.max #[2, 2] 2 #[true, false] #[(Value.int IntKind.i64 0), F9] (fun G0 w =>
      bld Try.prog 49 #[(0, id8), (1, F6), (2, G0)] (fun G1 w =>
      alc Try.prog 49 (fun n10 w =>
      sto Try.prog 49 n10 G1 (fun _t w =>
      hReg (fun S w =>
      hld S (fun k w => nilC a0 k w) (fun G4 =>
      hld S (fun k w => fldA Try.prog 31 G4 0 k w) (fun G5 =>
      hld S (fun k w => ld Try.prog 27 G5 k w) (fun G6 =>
      hld S (fun k w => ld Try.prog 49 n10 k w) (fun G7 =>
      bldS Try.prog 27 1 #[(0, G7)] (fun G8 w =>
      hSub S (fun S w =>
      blt Try.prog Builtin.append #[27, 27] 27 #[false, false] #[G6, G8] (fun G9 w =>
      hReg (fun S w =>
      hld S (fun k w => nilC a0 k w) (fun H0 =>
      hld S (fun k w => fldA Try.prog 31 H0 0 k w) (fun H1 =>
      sto Try.prog 27 H1 G9 (fun _t w =>
      (cCode Try.prog xc0 (retK Try.prog Try.f9.results.toList K) (fun i => @Bool.rec (fun _ => KE) ((fun _ _ _ => False) i) (retK Try.prog Try.f9.results.toList K) (Nat.beq i 0)) (retK Try.prog Try.f9.results.toList K)) (a0::who1::k_2::x3::a4::who5::k_6::x7::id8::F3::n10::n11::x12::i13::at14::C2::C3::C4::C5::C6::C7::C8::C9::D0::D1::D2::D3::D4::D5::D6::D7::D8::D9::E0::E1::E2::E3::E4::E5::E6::E7::E8::a0::F0::F1::F2::F3::id8::F5::F6::F7::F8::F9::G0::G1::a0::a0::G4::G5::G6::G7::G8::G9::H0::H1::H2::H3::H4::H5::H6::H7::H8::H9::I0::I1::I2::I3::I4::I5::I6::I7::I8::I9::J0::J1::J2::J3::J4::J5::J6::J7::J8::J9::L0::L1::L2::L3::L4::L5::L6::L7::L8::L9::M0::M1::M2::M3::M4::M5::M6::M7::M8::M9::N0::N1::N2::N3::N4::N5::N6::N7::N8::N9::O0::O1::O2::O3::O4::O5::O6::O7::O8::O9::P0::P1::P2::P3::P4::P5::P6::P7::P8::P9::Q0::Q1::Q2::Q3::Q4::Q5::Q6::Q7::Q8::Q9::R0::R1::R2::R3::R4::R5::R6::R7::R8::R9::S0::S1::S2::S3::S4::S5::S6::S7::S8::S9::T0::T1::T2::T3::T4::T5::T6::T7::T8::T9::U0::U1::U2::U3::U4::U5::U6::U7::U8::U9::V0::V1::V2::V3::V4::V5::V6::V7::V8::V9::W0::W1::W2::W3::W4::W5::W6::W7::W8::W9::X0::X1::X2::X3::X4::X5::X6::X7::X8::X9::Y0::Y1::[]) w) w))) w) w) w) w))))) w.drew) w) w) w) w) w) w) w) w) w) w) w) w) w)
      (K (Value.tuple #[]) w)) :
    cCode Try.prog (rep [0, 1, 1, 1] xc0 (cd Try.f9 [1, 1, 1, 0, 1, 0, 1, 1])) (retK Try.prog Try.f9.results.toList K) (fun i => @Bool.rec (fun _ => KE) ((fun _ _ _ => False) i) (retK Try.prog Try.f9.results.toList K) (Nat.beq i 0)) (retK Try.prog Try.f9.results.toList K) (a0::who1::k_2::x3::a4::who5::k_6::x7::id8::at9::n10::n11::x12::i13::at14::C2::C3::C4::C5::C6::C7::C8::C9::D0::D1::D2::D3::D4::D5::D6::D7::D8::D9::E0::E1::E2::E3::E4::E5::E6::E7::E8::E9::F0::F1::F2::F3::F4::F5::F6::F7::F8::F9::G0::G1::G2::G3::G4::G5::G6::G7::G8::G9::H0::H1::H2::H3::H4::H5::H6::H7::H8::H9::I0::I1::I2::I3::I4::I5::I6::I7::I8::I9::J0::J1::J2::J3::J4::J5::J6::J7::J8::J9::L0::L1::L2::L3::L4::L5::L6::L7::L8::L9::M0::M1::M2::M3::M4::M5::M6::M7::M8::M9::N0::N1::N2::N3::N4::N5::N6::N7::N8::N9::O0::O1::O2::O3::O4::O5::O6::O7::O8::O9::P0::P1::P2::P3::P4::P5::P6::P7::P8::P9::Q0::Q1::Q2::Q3::Q4::Q5::Q6::Q7::Q8::Q9::R0::R1::R2::R3::R4::R5::R6::R7::R8::R9::S0::S1::S2::S3::S4::S5::S6::S7::S8::S9::T0::T1::T2::T3::T4::T5::T6::T7::T8::T9::U0::U1::U2::U3::U4::U5::U6::U7::U8::U9::V0::V1::V2::V3::V4::V5::V6::V7::V8::V9::W0::W1::W2::W3::W4::W5::W6::W7::W8::W9::X0::X1::X2::X3::X4::X5::X6::X7::X8::X9::Y0::Y1::[]) w := Eq.mp (by kernel_rfl) h

theorem leatref26_Audit_Say_A1_r {K : KV} {w : World}
    (h : cond E8
      (nilC a0 (fun F0 w =>
      fldA Try.prog 31 F0 0 (fun F1 w =>
      ld Try.prog 27 F1 (fun F2 w =>
      blt Try.prog Builtin.len #[27] 3 #[false] #[F2] (fun F3 w =>
      fldA Try.prog 35 k_6 1 (fun F5 w =>
      ld Try.prog 33 F5 (fun F6 w =>
      fldA Try.prog 35 k_6 3 (fun F7 w =>
      ld Try.prog 2 F7 (fun F8 w =>
      blt Try.prog Builtin.min #[2, 2] 2 #[false, true] #[F8, (Value.int IntKind.i64 1125899906842624)] (fun F9 w =>
      blt Try.prog Builtin.max #[2, 2] 2 #[true, false] #[(Value.int IntKind.i64 0), F9] (fun G0 w =>
      bld Try.prog 49 #[(0, id8), (1, F6), (2, G0)] (fun G1 w =>
      alc Try.prog 49 (fun n10 w =>
      sto Try.prog 49 n10 G1 (fun _t w =>
      hReg (fun S w =>
      hld S (fun k w => nilC a0 k w) (fun G4 =>
      hld S (fun k w => fldA Try.prog 31 G4 0 k w) (fun G5 =>
      hld S (fun k w => ld Try.prog 27 G5 k w) (fun G6 =>
      hld S (fun k w => ld Try.prog 49 n10 k w) (fun G7 =>
      bldS Try.prog 27 1 #[(0, G7)] (fun G8 w =>
      hSub S (fun S w =>
      blt Try.prog Builtin.append #[27, 27] 27 #[false, false] #[G6, G8] (fun G9 w =>
      hReg (fun S w =>
      hld S (fun k w => nilC a0 k w) (fun H0 =>
      hld S (fun k w => fldA Try.prog 31 H0 0 k w) (fun H1 =>
      sto Try.prog 27 H1 G9 (fun _t w =>
      (leatref26_Audit_Say_A3 K) (a0::who1::k_2::x3::a4::who5::k_6::x7::id8::F3::n10::n11::x12::i13::at14::C2::C3::C4::C5::C6::C7::C8::C9::D0::D1::D2::D3::D4::D5::D6::D7::D8::D9::E0::E1::E2::E3::E4::E5::E6::E7::E8::a0::F0::F1::F2::F3::id8::F5::F6::F7::F8::F9::G0::G1::a0::a0::G4::G5::G6::G7::G8::G9::H0::H1::H2::H3::H4::H5::H6::H7::H8::H9::I0::I1::I2::I3::I4::I5::I6::I7::I8::I9::J0::J1::J2::J3::J4::J5::J6::J7::J8::J9::L0::L1::L2::L3::L4::L5::L6::L7::L8::L9::M0::M1::M2::M3::M4::M5::M6::M7::M8::M9::N0::N1::N2::N3::N4::N5::N6::N7::N8::N9::O0::O1::O2::O3::O4::O5::O6::O7::O8::O9::P0::P1::P2::P3::P4::P5::P6::P7::P8::P9::Q0::Q1::Q2::Q3::Q4::Q5::Q6::Q7::Q8::Q9::R0::R1::R2::R3::R4::R5::R6::R7::R8::R9::S0::S1::S2::S3::S4::S5::S6::S7::S8::S9::T0::T1::T2::T3::T4::T5::T6::T7::T8::T9::U0::U1::U2::U3::U4::U5::U6::U7::U8::U9::V0::V1::V2::V3::V4::V5::V6::V7::V8::V9::W0::W1::W2::W3::W4::W5::W6::W7::W8::W9::X0::X1::X2::X3::X4::X5::X6::X7::X8::X9::Y0::Y1::[]) w) w))) w) w) w) w))))) w.drew) w) w) w) w) w) w) w) w) w) w) w) w) w)
      (K (Value.tuple #[]) w)) :
    leatref26_Audit_Say_A1 K (a0::who1::k_2::x3::a4::who5::k_6::x7::id8::at9::n10::n11::x12::i13::at14::C2::C3::C4::C5::C6::C7::C8::C9::D0::D1::D2::D3::D4::D5::D6::D7::D8::D9::E0::E1::E2::E3::E4::E5::E6::E7::E8::E9::F0::F1::F2::F3::F4::F5::F6::F7::F8::F9::G0::G1::G2::G3::G4::G5::G6::G7::G8::G9::H0::H1::H2::H3::H4::H5::H6::H7::H8::H9::I0::I1::I2::I3::I4::I5::I6::I7::I8::I9::J0::J1::J2::J3::J4::J5::J6::J7::J8::J9::L0::L1::L2::L3::L4::L5::L6::L7::L8::L9::M0::M1::M2::M3::M4::M5::M6::M7::M8::M9::N0::N1::N2::N3::N4::N5::N6::N7::N8::N9::O0::O1::O2::O3::O4::O5::O6::O7::O8::O9::P0::P1::P2::P3::P4::P5::P6::P7::P8::P9::Q0::Q1::Q2::Q3::Q4::Q5::Q6::Q7::Q8::Q9::R0::R1::R2::R3::R4::R5::R6::R7::R8::R9::S0::S1::S2::S3::S4::S5::S6::S7::S8::S9::T0::T1::T2::T3::T4::T5::T6::T7::T8::T9::U0::U1::U2::U3::U4::U5::U6::U7::U8::U9::V0::V1::V2::V3::V4::V5::V6::V7::V8::V9::W0::W1::W2::W3::W4::W5::W6::W7::W8::W9::X0::X1::X2::X3::X4::X5::X6::X7::X8::X9::Y0::Y1::[]) w := by
  delta leatref26_Audit_Say_A1
  exact Eq.mp (congrArg (fun c => cCode Try.prog c (retK Try.prog Try.f9.results.toList K) (fun i => @Bool.rec (fun _ => KE) ((fun _ _ _ => False) i) (retK Try.prog Try.f9.results.toList K) (Nat.beq i 0)) (retK Try.prog Try.f9.results.toList K) (a0::who1::k_2::x3::a4::who5::k_6::x7::id8::at9::n10::n11::x12::i13::at14::C2::C3::C4::C5::C6::C7::C8::C9::D0::D1::D2::D3::D4::D5::D6::D7::D8::D9::E0::E1::E2::E3::E4::E5::E6::E7::E8::E9::F0::F1::F2::F3::F4::F5::F6::F7::F8::F9::G0::G1::G2::G3::G4::G5::G6::G7::G8::G9::H0::H1::H2::H3::H4::H5::H6::H7::H8::H9::I0::I1::I2::I3::I4::I5::I6::I7::I8::I9::J0::J1::J2::J3::J4::J5::J6::J7::J8::J9::L0::L1::L2::L3::L4::L5::L6::L7::L8::L9::M0::M1::M2::M3::M4::M5::M6::M7::M8::M9::N0::N1::N2::N3::N4::N5::N6::N7::N8::N9::O0::O1::O2::O3::O4::O5::O6::O7::O8::O9::P0::P1::P2::P3::P4::P5::P6::P7::P8::P9::Q0::Q1::Q2::Q3::Q4::Q5::Q6::Q7::Q8::Q9::R0::R1::R2::R3::R4::R5::R6::R7::R8::R9::S0::S1::S2::S3::S4::S5::S6::S7::S8::S9::T0::T1::T2::T3::T4::T5::T6::T7::T8::T9::U0::U1::U2::U3::U4::U5::U6::U7::U8::U9::V0::V1::V2::V3::V4::V5::V6::V7::V8::V9::W0::W1::W2::W3::W4::W5::W6::W7::W8::W9::X0::X1::X2::X3::X4::X5::X6::X7::X8::X9::Y0::Y1::[]) w) (by kernel_rfl : (rep [0, 1, 1, 1] (cd Try.f9 [1, 1, 1, 0, 1, 0, 1, 1, 0, 1, 1, 1]) (cd Try.f9 [1, 1, 1, 0, 1, 0, 1, 1])) = (cd Try.f9 [1, 1, 1, 0, 1, 0, 1, 1]))) (leatref26_Audit_Say_A1_k (cd Try.f9 [1, 1, 1, 0, 1, 0, 1, 1, 0, 1, 1, 1]) h)

theorem leatref26_Audit_Say_A2_k {K : KV} (xc0 : Code) (xc1 : Code) {w : World}
    (h : cond M0
      (hReg (fun S w =>
      hld S (fun k w => nilC a0 k w) (fun M4 =>
      hld S (fun k w => fldA Try.prog 31 M4 1 k w) (fun M5 =>
      hld S (fun k w => ld Try.prog 28 M5 k w) (fun M6 =>
      hld S (fun k w => fldA Try.prog 35 k_6 1 k w) (fun M7 =>
      hld S (fun k w => ld Try.prog 33 M7 k w) (fun M8 =>
      hld S (fun k w => fldA Try.prog 35 k_6 3 k w) (fun M9 =>
      hld S (fun k w => ld Try.prog 2 M9 k w) (fun N0 =>
      blt Try.prog Builtin.min #[2, 2] 2 #[false, true] #[N0, (Value.int IntKind.i64 1125899906842624)] (fun N1 w =>
      hSub S (fun S w =>
      blt Try.prog Builtin.max #[2, 2] 2 #[true, false] #[(Value.int IntKind.i64 0), N1] (fun N2 w =>
      hSub S (fun S w =>
      hld S (fun k w => bld Try.prog 78 #[(0, M8), (1, N2)] k w) (fun N3 =>
      bldS Try.prog 28 1 #[(0, N3)] (fun N4 w =>
      hSub S (fun S w =>
      blt Try.prog Builtin.append #[28, 28] 28 #[false, false] #[M6, N4] (fun N5 w =>
      hReg (fun S w =>
      hld S (fun k w => nilC a0 k w) (fun N6 =>
      hld S (fun k w => fldA Try.prog 31 N6 1 k w) (fun N7 =>
      sto Try.prog 28 N7 N5 (fun _t w =>
      K (Value.tuple #[]) w) w))) w) w) w) w)) w) w) w) w)))))))) w.drew)
      (bin Try.prog BinOp.eql 5 false true D1 (Value.int IntKind.u8 3) (fun N9 w =>
      cond N9
        (fldA Try.prog 42 x7 1 (fun O0 w =>
        ld Try.prog 40 O0 (fun O1 w =>
        bin Try.prog BinOp.eql 40 false true O1 (Value.int IntKind.i64 0) (fun O2 w =>
        gsel O2 true (fun k127 =>
        fldA Try.prog 35 k_6 4 (fun O6 w =>
        ld Try.prog 33 O6 (fun O7 w =>
        call Try.prog 20 #[a0, who1, O7] (fun O8 w =>
        bin Try.prog BinOp.lss 3 false true O8 (Value.int IntKind.i64 0) (fun O9 w =>
        k127 [a0, who1, O6, O7, O8, O9] w) w) w) w) w)
        (fun k => k [undef, undef, undef, undef, undef, undef] w) (fun us127 w =>
        pick O2 (gd us127 5) (Value.bool false) (fun P0 w =>
        cond P0
          (fldA Try.prog 35 k_6 3 (fun P1 w =>
          ld Try.prog 2 P1 (fun P2 w =>
          bin Try.prog BinOp.lss 2 false true P2 (Value.int IntKind.i64 0) (fun P4 w =>
          gsel P4 false (fun k139 =>
          bin Try.prog BinOp.gtr 2 false true P2 (Value.int IntKind.i64 1125899906842624) (fun P7 w =>
          k139 [P2, P7] w) w)
          (fun k => k [undef, undef] w) (fun us139 w =>
          pick P4 (Value.bool true) (gd us139 1) (fun P8 w =>
          (cCode Try.prog xc0 (cCode Try.prog (cd Try.f9 [1, 1, 1, 0, 1, 1, 1, 1, 1, 0, 1, 0, 1, 1]) (retK Try.prog Try.f9.results.toList K) (fun i => @Bool.rec (fun _ => KE) ((fun _ _ _ => False) i) (retK Try.prog Try.f9.results.toList K) (Nat.beq i 0)) (retK Try.prog Try.f9.results.toList K)) (fun i => @Bool.rec (fun _ => KE) ((fun _ _ _ => False) i) (retK Try.prog Try.f9.results.toList K) (Nat.beq i 0)) (retK Try.prog Try.f9.results.toList K)) (a0::who1::k_2::x3::a4::who5::k_6::x7::id8::at9::n10::P2::x12::i13::at14::C2::C3::C4::C5::C6::C7::C8::C9::D0::D1::D2::D3::D4::D5::D6::D7::D8::D9::E0::E1::E2::E3::E4::E5::E6::E7::E8::E9::F0::F1::F2::F3::F4::F5::F6::F7::F8::F9::G0::G1::G2::G3::G4::G5::G6::G7::G8::G9::H0::H1::H2::H3::H4::H5::H6::H7::H8::H9::I0::I1::I2::I3::I4::I5::I6::I7::I8::I9::J0::J1::J2::J3::J4::J5::J6::J7::J8::J9::L0::L1::L2::L3::L4::L5::L6::L7::L8::L9::M0::M1::M2::M3::M4::M5::M6::M7::M8::M9::N0::N1::N2::N3::N4::N5::N6::N7::N9::N9::O0::O1::O2::O2::(gd us127 0)::(gd us127 1)::(gd us127 2)::(gd us127 3)::(gd us127 4)::(gd us127 5)::P0::P1::P2::P2::P4::P4::(gd us139 0)::(gd us139 1)::P8::P9::Q0::Q1::Q2::Q3::Q4::Q5::Q6::Q7::Q8::Q9::R0::R1::R2::R3::R4::R5::R6::R7::R8::R9::S0::S1::S2::S3::S4::S5::S6::S7::S8::S9::T0::T1::T2::T3::T4::T5::T6::T7::T8::T9::U0::U1::U2::U3::U4::U5::U6::U7::U8::U9::V0::V1::V2::V3::V4::V5::V6::V7::V8::V9::W0::W1::W2::W3::W4::W5::W6::W7::W8::W9::X0::X1::X2::X3::X4::X5::X6::X7::X8::X9::Y0::Y1::[]) w) w)) w) w) w)
          (K (Value.tuple #[]) w)) w)) w) w) w)
        (bin Try.prog BinOp.eql 5 false true D1 (Value.int IntKind.u8 4) (fun V4 w =>
        cond V4
          (hReg (fun S w =>
          hld S (fun k w => nilC a0 k w) (fun V7 =>
          hld S (fun k w => fldA Try.prog 31 V7 3 k w) (fun V8 =>
          hld S (fun k w => ld Try.prog 29 V8 k w) (fun V9 =>
          hld S (fun k w => fldA Try.prog 35 k_6 5 k w) (fun W1 =>
          hld S (fun k w => ld Try.prog 33 W1 k w) (fun W2 =>
          hld S (fun k w => bld Try.prog 81 #[(0, who1), (1, W2)] k w) (fun W3 =>
          bldS Try.prog 29 1 #[(0, W3)] (fun W4 w =>
          hSub S (fun S w =>
          blt Try.prog Builtin.append #[29, 29] 29 #[false, false] #[V9, W4] (fun W5 w =>
          hReg (fun S w =>
          hld S (fun k w => nilC a0 k w) (fun W6 =>
          hld S (fun k w => fldA Try.prog 31 W6 3 k w) (fun W7 =>
          sto Try.prog 29 W7 W5 (fun _t w =>
          (cCode Try.prog xc1 (retK Try.prog Try.f9.results.toList K) (fun i => @Bool.rec (fun _ => KE) ((fun _ _ _ => False) i) (retK Try.prog Try.f9.results.toList K) (Nat.beq i 0)) (retK Try.prog Try.f9.results.toList K)) (a0::who1::k_2::x3::a4::who5::k_6::x7::id8::at9::n10::n11::x12::i13::at14::C2::C3::C4::C5::C6::C7::C8::C9::D0::D1::D2::D3::D4::D5::D6::D7::D8::D9::E0::E1::E2::E3::E4::E5::E6::E7::E8::E9::F0::F1::F2::F3::F4::F5::F6::F7::F8::F9::G0::G1::G2::G3::G4::G5::G6::G7::G8::G9::H0::H1::H2::H3::H4::H5::H6::H7::H8::H9::I0::I1::I2::I3::I4::I5::I6::I7::I8::I9::J0::J1::J2::J3::J4::J5::J6::J7::J8::J9::L0::L1::L2::L3::L4::L5::L6::L7::L8::L9::M0::M1::M2::M3::M4::M5::M6::M7::M8::M9::N0::N1::N2::N3::N4::N5::N6::N7::N9::N9::O0::O1::O2::O3::O4::O5::O6::O7::O8::O9::P0::P1::P2::P3::P4::P5::P6::P7::P8::P9::Q0::Q1::Q2::Q3::Q4::Q5::Q6::Q7::Q8::Q9::R0::R1::R2::R3::R4::R5::R6::R7::R8::R9::S0::S1::S2::S3::S4::S5::S6::S7::S8::S9::T0::T1::T2::T3::T4::T5::T6::T7::T8::T9::U0::U1::U2::U3::U4::U5::U6::U7::U8::U9::V0::V1::V2::V4::V4::a0::a0::V7::V8::V9::who1::W1::W2::W3::W4::W5::W6::W7::W8::W9::X0::X1::X2::X3::X4::X5::X6::X7::X8::X9::Y0::Y1::[]) w) w))) w) w) w) w))))))) w.drew)
          (K (Value.tuple #[]) w)) w)) w)) :
    cCode Try.prog (rep [1, 1, 1, 1, 0, 1] xc1 (rep [1, 1, 0, 1, 0, 1, 0, 1] xc0 (cd Try.f9 [1, 1, 1, 0, 1, 1, 1]))) (retK Try.prog Try.f9.results.toList K) (fun i => @Bool.rec (fun _ => KE) ((fun _ _ _ => False) i) (retK Try.prog Try.f9.results.toList K) (Nat.beq i 0)) (retK Try.prog Try.f9.results.toList K) (a0::who1::k_2::x3::a4::who5::k_6::x7::id8::at9::n10::n11::x12::i13::at14::C2::C3::C4::C5::C6::C7::C8::C9::D0::D1::D2::D3::D4::D5::D6::D7::D8::D9::E0::E1::E2::E3::E4::E5::E6::E7::E8::E9::F0::F1::F2::F3::F4::F5::F6::F7::F8::F9::G0::G1::G2::G3::G4::G5::G6::G7::G8::G9::H0::H1::H2::H3::H4::H5::H6::H7::H8::H9::I0::I1::I2::I3::I4::I5::I6::I7::I8::I9::J0::J1::J2::J3::J4::J5::J6::J7::J8::J9::L0::L1::L2::L3::L4::L5::L6::L7::L8::L9::M0::M1::M2::M3::M4::M5::M6::M7::M8::M9::N0::N1::N2::N3::N4::N5::N6::N7::N8::N9::O0::O1::O2::O3::O4::O5::O6::O7::O8::O9::P0::P1::P2::P3::P4::P5::P6::P7::P8::P9::Q0::Q1::Q2::Q3::Q4::Q5::Q6::Q7::Q8::Q9::R0::R1::R2::R3::R4::R5::R6::R7::R8::R9::S0::S1::S2::S3::S4::S5::S6::S7::S8::S9::T0::T1::T2::T3::T4::T5::T6::T7::T8::T9::U0::U1::U2::U3::U4::U5::U6::U7::U8::U9::V0::V1::V2::V3::V4::V5::V6::V7::V8::V9::W0::W1::W2::W3::W4::W5::W6::W7::W8::W9::X0::X1::X2::X3::X4::X5::X6::X7::X8::X9::Y0::Y1::[]) w := Eq.mp (by kernel_rfl) h

theorem leatref26_Audit_Say_A2_r {K : KV} {w : World}
    (h : cond M0
      (hReg (fun S w =>
      hld S (fun k w => nilC a0 k w) (fun M4 =>
      hld S (fun k w => fldA Try.prog 31 M4 1 k w) (fun M5 =>
      hld S (fun k w => ld Try.prog 28 M5 k w) (fun M6 =>
      hld S (fun k w => fldA Try.prog 35 k_6 1 k w) (fun M7 =>
      hld S (fun k w => ld Try.prog 33 M7 k w) (fun M8 =>
      hld S (fun k w => fldA Try.prog 35 k_6 3 k w) (fun M9 =>
      hld S (fun k w => ld Try.prog 2 M9 k w) (fun N0 =>
      blt Try.prog Builtin.min #[2, 2] 2 #[false, true] #[N0, (Value.int IntKind.i64 1125899906842624)] (fun N1 w =>
      hSub S (fun S w =>
      blt Try.prog Builtin.max #[2, 2] 2 #[true, false] #[(Value.int IntKind.i64 0), N1] (fun N2 w =>
      hSub S (fun S w =>
      hld S (fun k w => bld Try.prog 78 #[(0, M8), (1, N2)] k w) (fun N3 =>
      bldS Try.prog 28 1 #[(0, N3)] (fun N4 w =>
      hSub S (fun S w =>
      blt Try.prog Builtin.append #[28, 28] 28 #[false, false] #[M6, N4] (fun N5 w =>
      hReg (fun S w =>
      hld S (fun k w => nilC a0 k w) (fun N6 =>
      hld S (fun k w => fldA Try.prog 31 N6 1 k w) (fun N7 =>
      sto Try.prog 28 N7 N5 (fun _t w =>
      K (Value.tuple #[]) w) w))) w) w) w) w)) w) w) w) w)))))))) w.drew)
      (bin Try.prog BinOp.eql 5 false true D1 (Value.int IntKind.u8 3) (fun N9 w =>
      cond N9
        (fldA Try.prog 42 x7 1 (fun O0 w =>
        ld Try.prog 40 O0 (fun O1 w =>
        bin Try.prog BinOp.eql 40 false true O1 (Value.int IntKind.i64 0) (fun O2 w =>
        gsel O2 true (fun k127 =>
        fldA Try.prog 35 k_6 4 (fun O6 w =>
        ld Try.prog 33 O6 (fun O7 w =>
        call Try.prog 20 #[a0, who1, O7] (fun O8 w =>
        bin Try.prog BinOp.lss 3 false true O8 (Value.int IntKind.i64 0) (fun O9 w =>
        k127 [a0, who1, O6, O7, O8, O9] w) w) w) w) w)
        (fun k => k [undef, undef, undef, undef, undef, undef] w) (fun us127 w =>
        pick O2 (gd us127 5) (Value.bool false) (fun P0 w =>
        cond P0
          (fldA Try.prog 35 k_6 3 (fun P1 w =>
          ld Try.prog 2 P1 (fun P2 w =>
          bin Try.prog BinOp.lss 2 false true P2 (Value.int IntKind.i64 0) (fun P4 w =>
          gsel P4 false (fun k139 =>
          bin Try.prog BinOp.gtr 2 false true P2 (Value.int IntKind.i64 1125899906842624) (fun P7 w =>
          k139 [P2, P7] w) w)
          (fun k => k [undef, undef] w) (fun us139 w =>
          pick P4 (Value.bool true) (gd us139 1) (fun P8 w =>
          (leatref26_Audit_Say_A4 K) (a0::who1::k_2::x3::a4::who5::k_6::x7::id8::at9::n10::P2::x12::i13::at14::C2::C3::C4::C5::C6::C7::C8::C9::D0::D1::D2::D3::D4::D5::D6::D7::D8::D9::E0::E1::E2::E3::E4::E5::E6::E7::E8::E9::F0::F1::F2::F3::F4::F5::F6::F7::F8::F9::G0::G1::G2::G3::G4::G5::G6::G7::G8::G9::H0::H1::H2::H3::H4::H5::H6::H7::H8::H9::I0::I1::I2::I3::I4::I5::I6::I7::I8::I9::J0::J1::J2::J3::J4::J5::J6::J7::J8::J9::L0::L1::L2::L3::L4::L5::L6::L7::L8::L9::M0::M1::M2::M3::M4::M5::M6::M7::M8::M9::N0::N1::N2::N3::N4::N5::N6::N7::N9::N9::O0::O1::O2::O2::(gd us127 0)::(gd us127 1)::(gd us127 2)::(gd us127 3)::(gd us127 4)::(gd us127 5)::P0::P1::P2::P2::P4::P4::(gd us139 0)::(gd us139 1)::P8::P9::Q0::Q1::Q2::Q3::Q4::Q5::Q6::Q7::Q8::Q9::R0::R1::R2::R3::R4::R5::R6::R7::R8::R9::S0::S1::S2::S3::S4::S5::S6::S7::S8::S9::T0::T1::T2::T3::T4::T5::T6::T7::T8::T9::U0::U1::U2::U3::U4::U5::U6::U7::U8::U9::V0::V1::V2::V3::V4::V5::V6::V7::V8::V9::W0::W1::W2::W3::W4::W5::W6::W7::W8::W9::X0::X1::X2::X3::X4::X5::X6::X7::X8::X9::Y0::Y1::[]) w) w)) w) w) w)
          (K (Value.tuple #[]) w)) w)) w) w) w)
        (bin Try.prog BinOp.eql 5 false true D1 (Value.int IntKind.u8 4) (fun V4 w =>
        cond V4
          (hReg (fun S w =>
          hld S (fun k w => nilC a0 k w) (fun V7 =>
          hld S (fun k w => fldA Try.prog 31 V7 3 k w) (fun V8 =>
          hld S (fun k w => ld Try.prog 29 V8 k w) (fun V9 =>
          hld S (fun k w => fldA Try.prog 35 k_6 5 k w) (fun W1 =>
          hld S (fun k w => ld Try.prog 33 W1 k w) (fun W2 =>
          hld S (fun k w => bld Try.prog 81 #[(0, who1), (1, W2)] k w) (fun W3 =>
          bldS Try.prog 29 1 #[(0, W3)] (fun W4 w =>
          hSub S (fun S w =>
          blt Try.prog Builtin.append #[29, 29] 29 #[false, false] #[V9, W4] (fun W5 w =>
          hReg (fun S w =>
          hld S (fun k w => nilC a0 k w) (fun W6 =>
          hld S (fun k w => fldA Try.prog 31 W6 3 k w) (fun W7 =>
          sto Try.prog 29 W7 W5 (fun _t w =>
          (leatref26_Audit_Say_A5 K) (a0::who1::k_2::x3::a4::who5::k_6::x7::id8::at9::n10::n11::x12::i13::at14::C2::C3::C4::C5::C6::C7::C8::C9::D0::D1::D2::D3::D4::D5::D6::D7::D8::D9::E0::E1::E2::E3::E4::E5::E6::E7::E8::E9::F0::F1::F2::F3::F4::F5::F6::F7::F8::F9::G0::G1::G2::G3::G4::G5::G6::G7::G8::G9::H0::H1::H2::H3::H4::H5::H6::H7::H8::H9::I0::I1::I2::I3::I4::I5::I6::I7::I8::I9::J0::J1::J2::J3::J4::J5::J6::J7::J8::J9::L0::L1::L2::L3::L4::L5::L6::L7::L8::L9::M0::M1::M2::M3::M4::M5::M6::M7::M8::M9::N0::N1::N2::N3::N4::N5::N6::N7::N9::N9::O0::O1::O2::O3::O4::O5::O6::O7::O8::O9::P0::P1::P2::P3::P4::P5::P6::P7::P8::P9::Q0::Q1::Q2::Q3::Q4::Q5::Q6::Q7::Q8::Q9::R0::R1::R2::R3::R4::R5::R6::R7::R8::R9::S0::S1::S2::S3::S4::S5::S6::S7::S8::S9::T0::T1::T2::T3::T4::T5::T6::T7::T8::T9::U0::U1::U2::U3::U4::U5::U6::U7::U8::U9::V0::V1::V2::V4::V4::a0::a0::V7::V8::V9::who1::W1::W2::W3::W4::W5::W6::W7::W8::W9::X0::X1::X2::X3::X4::X5::X6::X7::X8::X9::Y0::Y1::[]) w) w))) w) w) w) w))))))) w.drew)
          (K (Value.tuple #[]) w)) w)) w)) :
    leatref26_Audit_Say_A2 K (a0::who1::k_2::x3::a4::who5::k_6::x7::id8::at9::n10::n11::x12::i13::at14::C2::C3::C4::C5::C6::C7::C8::C9::D0::D1::D2::D3::D4::D5::D6::D7::D8::D9::E0::E1::E2::E3::E4::E5::E6::E7::E8::E9::F0::F1::F2::F3::F4::F5::F6::F7::F8::F9::G0::G1::G2::G3::G4::G5::G6::G7::G8::G9::H0::H1::H2::H3::H4::H5::H6::H7::H8::H9::I0::I1::I2::I3::I4::I5::I6::I7::I8::I9::J0::J1::J2::J3::J4::J5::J6::J7::J8::J9::L0::L1::L2::L3::L4::L5::L6::L7::L8::L9::M0::M1::M2::M3::M4::M5::M6::M7::M8::M9::N0::N1::N2::N3::N4::N5::N6::N7::N8::N9::O0::O1::O2::O3::O4::O5::O6::O7::O8::O9::P0::P1::P2::P3::P4::P5::P6::P7::P8::P9::Q0::Q1::Q2::Q3::Q4::Q5::Q6::Q7::Q8::Q9::R0::R1::R2::R3::R4::R5::R6::R7::R8::R9::S0::S1::S2::S3::S4::S5::S6::S7::S8::S9::T0::T1::T2::T3::T4::T5::T6::T7::T8::T9::U0::U1::U2::U3::U4::U5::U6::U7::U8::U9::V0::V1::V2::V3::V4::V5::V6::V7::V8::V9::W0::W1::W2::W3::W4::W5::W6::W7::W8::W9::X0::X1::X2::X3::X4::X5::X6::X7::X8::X9::Y0::Y1::[]) w := by
  delta leatref26_Audit_Say_A2
  exact Eq.mp (congrArg (fun c => cCode Try.prog c (retK Try.prog Try.f9.results.toList K) (fun i => @Bool.rec (fun _ => KE) ((fun _ _ _ => False) i) (retK Try.prog Try.f9.results.toList K) (Nat.beq i 0)) (retK Try.prog Try.f9.results.toList K) (a0::who1::k_2::x3::a4::who5::k_6::x7::id8::at9::n10::n11::x12::i13::at14::C2::C3::C4::C5::C6::C7::C8::C9::D0::D1::D2::D3::D4::D5::D6::D7::D8::D9::E0::E1::E2::E3::E4::E5::E6::E7::E8::E9::F0::F1::F2::F3::F4::F5::F6::F7::F8::F9::G0::G1::G2::G3::G4::G5::G6::G7::G8::G9::H0::H1::H2::H3::H4::H5::H6::H7::H8::H9::I0::I1::I2::I3::I4::I5::I6::I7::I8::I9::J0::J1::J2::J3::J4::J5::J6::J7::J8::J9::L0::L1::L2::L3::L4::L5::L6::L7::L8::L9::M0::M1::M2::M3::M4::M5::M6::M7::M8::M9::N0::N1::N2::N3::N4::N5::N6::N7::N8::N9::O0::O1::O2::O3::O4::O5::O6::O7::O8::O9::P0::P1::P2::P3::P4::P5::P6::P7::P8::P9::Q0::Q1::Q2::Q3::Q4::Q5::Q6::Q7::Q8::Q9::R0::R1::R2::R3::R4::R5::R6::R7::R8::R9::S0::S1::S2::S3::S4::S5::S6::S7::S8::S9::T0::T1::T2::T3::T4::T5::T6::T7::T8::T9::U0::U1::U2::U3::U4::U5::U6::U7::U8::U9::V0::V1::V2::V3::V4::V5::V6::V7::V8::V9::W0::W1::W2::W3::W4::W5::W6::W7::W8::W9::X0::X1::X2::X3::X4::X5::X6::X7::X8::X9::Y0::Y1::[]) w) (by kernel_rfl : (rep [1, 1, 1, 1, 0, 1] (cd Try.f9 [1, 1, 1, 0, 1, 1, 1, 1, 1, 1, 1, 0, 1]) (rep [1, 1, 0, 1, 0, 1, 0, 1] (cd Try.f9 [1, 1, 1, 0, 1, 1, 1, 1, 1, 0, 1, 0, 1, 0, 1]) (cd Try.f9 [1, 1, 1, 0, 1, 1, 1]))) = (cd Try.f9 [1, 1, 1, 0, 1, 1, 1]))) (leatref26_Audit_Say_A2_k (cd Try.f9 [1, 1, 1, 0, 1, 1, 1, 1, 1, 0, 1, 0, 1, 0, 1]) (cd Try.f9 [1, 1, 1, 0, 1, 1, 1, 1, 1, 1, 1, 0, 1]) h)

theorem leatref26_Audit_Say_A3_k {K : KV} {w : World}
    (h : (cCode Try.prog (cd Try.f9 [1, 1, 1, 0, 1, 0, 1, 1, 0, 1, 1, 1, 0, 0]) (cCode Try.prog (cd Try.f9 [1, 1, 1, 0, 1, 0, 1, 1, 0, 1, 1, 1, 1]) (retK Try.prog Try.f9.results.toList K) (fun i => @Bool.rec (fun _ => KE) ((fun _ _ _ => False) i) (retK Try.prog Try.f9.results.toList K) (Nat.beq i 0)) (retK Try.prog Try.f9.results.toList K)) (fun i => @Bool.rec (fun _ => KE) ((fun i => @Bool.rec (fun _ => KE) ((fun _ _ _ => False) i) (retK Try.prog Try.f9.results.toList K) (Nat.beq i 0)) i) (cCode Try.prog (cd Try.f9 [1, 1, 1, 0, 1, 0, 1, 1, 0, 1, 1, 1, 1]) (retK Try.prog Try.f9.results.toList K) (fun i => @Bool.rec (fun _ => KE) ((fun _ _ _ => False) i) (retK Try.prog Try.f9.results.toList K) (Nat.beq i 0)) (retK Try.prog Try.f9.results.toList K)) (Nat.beq i 1)) (retK Try.prog Try.f9.results.toList K)) (a0::who1::k_2::x3::a4::who5::k_6::x7::id8::at9::n10::n11::x12::i13::at14::C2::C3::C4::C5::C6::C7::C8::C9::D0::D1::D2::D3::D4::D5::D6::D7::D8::D9::E0::E1::E2::E3::E4::E5::E6::E7::E8::E9::F0::F1::F2::F3::F4::F5::F6::F7::F8::F9::G0::G1::G2::G3::G4::G5::G6::G7::G8::G9::H0::H1::H2::H3::H4::H5::H6::H7::H8::H9::I0::I1::I2::I3::I4::I5::I6::I7::I8::I9::J0::J1::J2::J3::J4::J5::J6::J7::J8::J9::L0::L1::L2::L3::L4::L5::L6::L7::L8::L9::M0::M1::M2::M3::M4::M5::M6::M7::M8::M9::N0::N1::N2::N3::N4::N5::N6::N7::N8::N9::O0::O1::O2::O3::O4::O5::O6::O7::O8::O9::P0::P1::P2::P3::P4::P5::P6::P7::P8::P9::Q0::Q1::Q2::Q3::Q4::Q5::Q6::Q7::Q8::Q9::R0::R1::R2::R3::R4::R5::R6::R7::R8::R9::S0::S1::S2::S3::S4::S5::S6::S7::S8::S9::T0::T1::T2::T3::T4::T5::T6::T7::T8::T9::U0::U1::U2::U3::U4::U5::U6::U7::U8::U9::V0::V1::V2::V3::V4::V5::V6::V7::V8::V9::W0::W1::W2::W3::W4::W5::W6::W7::W8::W9::X0::X1::X2::X3::X4::X5::X6::X7::X8::X9::Y0::Y1::[]) w) :
    cCode Try.prog (cd Try.f9 [1, 1, 1, 0, 1, 0, 1, 1, 0, 1, 1, 1]) (retK Try.prog Try.f9.results.toList K) (fun i => @Bool.rec (fun _ => KE) ((fun _ _ _ => False) i) (retK Try.prog Try.f9.results.toList K) (Nat.beq i 0)) (retK Try.prog Try.f9.results.toList K) (a0::who1::k_2::x3::a4::who5::k_6::x7::id8::at9::n10::n11::x12::i13::at14::C2::C3::C4::C5::C6::C7::C8::C9::D0::D1::D2::D3::D4::D5::D6::D7::D8::D9::E0::E1::E2::E3::E4::E5::E6::E7::E8::E9::F0::F1::F2::F3::F4::F5::F6::F7::F8::F9::G0::G1::G2::G3::G4::G5::G6::G7::G8::G9::H0::H1::H2::H3::H4::H5::H6::H7::H8::H9::I0::I1::I2::I3::I4::I5::I6::I7::I8::I9::J0::J1::J2::J3::J4::J5::J6::J7::J8::J9::L0::L1::L2::L3::L4::L5::L6::L7::L8::L9::M0::M1::M2::M3::M4::M5::M6::M7::M8::M9::N0::N1::N2::N3::N4::N5::N6::N7::N8::N9::O0::O1::O2::O3::O4::O5::O6::O7::O8::O9::P0::P1::P2::P3::P4::P5::P6::P7::P8::P9::Q0::Q1::Q2::Q3::Q4::Q5::Q6::Q7::Q8::Q9::R0::R1::R2::R3::R4::R5::R6::R7::R8::R9::S0::S1::S2::S3::S4::S5::S6::S7::S8::S9::T0::T1::T2::T3::T4::T5::T6::T7::T8::T9::U0::U1::U2::U3::U4::U5::U6::U7::U8::U9::V0::V1::V2::V3::V4::V5::V6::V7::V8::V9::W0::W1::W2::W3::W4::W5::W6::W7::W8::W9::X0::X1::X2::X3::X4::X5::X6::X7::X8::X9::Y0::Y1::[]) w := Eq.mp (by kernel_rfl) h

theorem leatref26_Audit_Say_A3_r {K : KV} {w : World}
    (h : (leatref26_Audit_Say_L1 K) (a0::who1::k_2::x3::a4::who5::k_6::x7::id8::at9::n10::n11::x12::i13::at14::C2::C3::C4::C5::C6::C7::C8::C9::D0::D1::D2::D3::D4::D5::D6::D7::D8::D9::E0::E1::E2::E3::E4::E5::E6::E7::E8::E9::F0::F1::F2::F3::F4::F5::F6::F7::F8::F9::G0::G1::G2::G3::G4::G5::G6::G7::G8::G9::H0::H1::H2::H3::H4::H5::H6::H7::H8::H9::I0::I1::I2::I3::I4::I5::I6::I7::I8::I9::J0::J1::J2::J3::J4::J5::J6::J7::J8::J9::L0::L1::L2::L3::L4::L5::L6::L7::L8::L9::M0::M1::M2::M3::M4::M5::M6::M7::M8::M9::N0::N1::N2::N3::N4::N5::N6::N7::N8::N9::O0::O1::O2::O3::O4::O5::O6::O7::O8::O9::P0::P1::P2::P3::P4::P5::P6::P7::P8::P9::Q0::Q1::Q2::Q3::Q4::Q5::Q6::Q7::Q8::Q9::R0::R1::R2::R3::R4::R5::R6::R7::R8::R9::S0::S1::S2::S3::S4::S5::S6::S7::S8::S9::T0::T1::T2::T3::T4::T5::T6::T7::T8::T9::U0::U1::U2::U3::U4::U5::U6::U7::U8::U9::V0::V1::V2::V3::V4::V5::V6::V7::V8::V9::W0::W1::W2::W3::W4::W5::W6::W7::W8::W9::X0::X1::X2::X3::X4::X5::X6::X7::X8::X9::Y0::Y1::[]) w) :
    leatref26_Audit_Say_A3 K (a0::who1::k_2::x3::a4::who5::k_6::x7::id8::at9::n10::n11::x12::i13::at14::C2::C3::C4::C5::C6::C7::C8::C9::D0::D1::D2::D3::D4::D5::D6::D7::D8::D9::E0::E1::E2::E3::E4::E5::E6::E7::E8::E9::F0::F1::F2::F3::F4::F5::F6::F7::F8::F9::G0::G1::G2::G3::G4::G5::G6::G7::G8::G9::H0::H1::H2::H3::H4::H5::H6::H7::H8::H9::I0::I1::I2::I3::I4::I5::I6::I7::I8::I9::J0::J1::J2::J3::J4::J5::J6::J7::J8::J9::L0::L1::L2::L3::L4::L5::L6::L7::L8::L9::M0::M1::M2::M3::M4::M5::M6::M7::M8::M9::N0::N1::N2::N3::N4::N5::N6::N7::N8::N9::O0::O1::O2::O3::O4::O5::O6::O7::O8::O9::P0::P1::P2::P3::P4::P5::P6::P7::P8::P9::Q0::Q1::Q2::Q3::Q4::Q5::Q6::Q7::Q8::Q9::R0::R1::R2::R3::R4::R5::R6::R7::R8::R9::S0::S1::S2::S3::S4::S5::S6::S7::S8::S9::T0::T1::T2::T3::T4::T5::T6::T7::T8::T9::U0::U1::U2::U3::U4::U5::U6::U7::U8::U9::V0::V1::V2::V3::V4::V5::V6::V7::V8::V9::W0::W1::W2::W3::W4::W5::W6::W7::W8::W9::X0::X1::X2::X3::X4::X5::X6::X7::X8::X9::Y0::Y1::[]) w := by
  delta leatref26_Audit_Say_A3
  exact Eq.mp (congrArg (fun c => cCode Try.prog c (retK Try.prog Try.f9.results.toList K) (fun i => @Bool.rec (fun _ => KE) ((fun _ _ _ => False) i) (retK Try.prog Try.f9.results.toList K) (Nat.beq i 0)) (retK Try.prog Try.f9.results.toList K) (a0::who1::k_2::x3::a4::who5::k_6::x7::id8::at9::n10::n11::x12::i13::at14::C2::C3::C4::C5::C6::C7::C8::C9::D0::D1::D2::D3::D4::D5::D6::D7::D8::D9::E0::E1::E2::E3::E4::E5::E6::E7::E8::E9::F0::F1::F2::F3::F4::F5::F6::F7::F8::F9::G0::G1::G2::G3::G4::G5::G6::G7::G8::G9::H0::H1::H2::H3::H4::H5::H6::H7::H8::H9::I0::I1::I2::I3::I4::I5::I6::I7::I8::I9::J0::J1::J2::J3::J4::J5::J6::J7::J8::J9::L0::L1::L2::L3::L4::L5::L6::L7::L8::L9::M0::M1::M2::M3::M4::M5::M6::M7::M8::M9::N0::N1::N2::N3::N4::N5::N6::N7::N8::N9::O0::O1::O2::O3::O4::O5::O6::O7::O8::O9::P0::P1::P2::P3::P4::P5::P6::P7::P8::P9::Q0::Q1::Q2::Q3::Q4::Q5::Q6::Q7::Q8::Q9::R0::R1::R2::R3::R4::R5::R6::R7::R8::R9::S0::S1::S2::S3::S4::S5::S6::S7::S8::S9::T0::T1::T2::T3::T4::T5::T6::T7::T8::T9::U0::U1::U2::U3::U4::U5::U6::U7::U8::U9::V0::V1::V2::V3::V4::V5::V6::V7::V8::V9::W0::W1::W2::W3::W4::W5::W6::W7::W8::W9::X0::X1::X2::X3::X4::X5::X6::X7::X8::X9::Y0::Y1::[]) w) (by kernel_rfl : (cd Try.f9 [1, 1, 1, 0, 1, 0, 1, 1, 0, 1, 1, 1]) = (cd Try.f9 [1, 1, 1, 0, 1, 0, 1, 1, 0, 1, 1, 1]))) (leatref26_Audit_Say_A3_k h)

theorem leatref26_Audit_Say_A4_k {K : KV} (qc0 : KE) {w : World}
    (h : cond P8
      (qc0 (a0::who1::k_2::x3::a4::who5::k_6::x7::id8::at9::n10::(Value.int IntKind.i64 0)::x12::i13::at14::C2::C3::C4::C5::C6::C7::C8::C9::D0::D1::D2::D3::D4::D5::D6::D7::D8::D9::E0::E1::E2::E3::E4::E5::E6::E7::E8::E9::F0::F1::F2::F3::F4::F5::F6::F7::F8::F9::G0::G1::G2::G3::G4::G5::G6::G7::G8::G9::H0::H1::H2::H3::H4::H5::H6::H7::H8::H9::I0::I1::I2::I3::I4::I5::I6::I7::I8::I9::J0::J1::J2::J3::J4::J5::J6::J7::J8::J9::L0::L1::L2::L3::L4::L5::L6::L7::L8::L9::M0::M1::M2::M3::M4::M5::M6::M7::M8::M9::N0::N1::N2::N3::N4::N5::N6::N7::N8::N9::O0::O1::O2::O3::O4::O5::O6::O7::O8::O9::P0::P1::P2::P3::P4::P5::P6::P7::P8::P9::Q0::Q1::Q2::Q3::Q4::Q5::Q6::Q7::Q8::Q9::R0::R1::R2::R3::R4::R5::R6::R7::R8::R9::S0::S1::S2::S3::S4::S5::S6::S7::S8::S9::T0::T1::T2::T3::T4::T5::T6::T7::T8::T9::U0::U1::U2::U3::U4::U5::U6::U7::U8::U9::V0::V1::V2::V3::V4::V5::V6::V7::V8::V9::W0::W1::W2::W3::W4::W5::W6::W7::W8::W9::X0::X1::X2::X3::X4::X5::X6::X7::X8::X9::Y0::Y1::[]) w)
      (qc0 (a0::who1::k_2::x3::a4::who5::k_6::x7::id8::at9::n10::n11::x12::i13::at14::C2::C3::C4::C5::C6::C7::C8::C9::D0::D1::D2::D3::D4::D5::D6::D7::D8::D9::E0::E1::E2::E3::E4::E5::E6::E7::E8::E9::F0::F1::F2::F3::F4::F5::F6::F7::F8::F9::G0::G1::G2::G3::G4::G5::G6::G7::G8::G9::H0::H1::H2::H3::H4::H5::H6::H7::H8::H9::I0::I1::I2::I3::I4::I5::I6::I7::I8::I9::J0::J1::J2::J3::J4::J5::J6::J7::J8::J9::L0::L1::L2::L3::L4::L5::L6::L7::L8::L9::M0::M1::M2::M3::M4::M5::M6::M7::M8::M9::N0::N1::N2::N3::N4::N5::N6::N7::N8::N9::O0::O1::O2::O3::O4::O5::O6::O7::O8::O9::P0::P1::P2::P3::P4::P5::P6::P7::P8::P9::Q0::Q1::Q2::Q3::Q4::Q5::Q6::Q7::Q8::Q9::R0::R1::R2::R3::R4::R5::R6::R7::R8::R9::S0::S1::S2::S3::S4::S5::S6::S7::S8::S9::T0::T1::T2::T3::T4::T5::T6::T7::T8::T9::U0::U1::U2::U3::U4::U5::U6::U7::U8::U9::V0::V1::V2::V3::V4::V5::V6::V7::V8::V9::W0::W1::W2::W3::W4::W5::W6::W7::W8::W9::X0::X1::X2::X3::X4::X5::X6::X7::X8::X9::Y0::Y1::[]) w)) :
    cCode Try.prog (cd Try.f9 [1, 1, 1, 0, 1, 1, 1, 1, 1, 0, 1, 0, 1, 0, 1]) qc0 (fun i => @Bool.rec (fun _ => KE) ((fun _ _ _ => False) i) (retK Try.prog Try.f9.results.toList K) (Nat.beq i 0)) (retK Try.prog Try.f9.results.toList K) (a0::who1::k_2::x3::a4::who5::k_6::x7::id8::at9::n10::n11::x12::i13::at14::C2::C3::C4::C5::C6::C7::C8::C9::D0::D1::D2::D3::D4::D5::D6::D7::D8::D9::E0::E1::E2::E3::E4::E5::E6::E7::E8::E9::F0::F1::F2::F3::F4::F5::F6::F7::F8::F9::G0::G1::G2::G3::G4::G5::G6::G7::G8::G9::H0::H1::H2::H3::H4::H5::H6::H7::H8::H9::I0::I1::I2::I3::I4::I5::I6::I7::I8::I9::J0::J1::J2::J3::J4::J5::J6::J7::J8::J9::L0::L1::L2::L3::L4::L5::L6::L7::L8::L9::M0::M1::M2::M3::M4::M5::M6::M7::M8::M9::N0::N1::N2::N3::N4::N5::N6::N7::N8::N9::O0::O1::O2::O3::O4::O5::O6::O7::O8::O9::P0::P1::P2::P3::P4::P5::P6::P7::P8::P9::Q0::Q1::Q2::Q3::Q4::Q5::Q6::Q7::Q8::Q9::R0::R1::R2::R3::R4::R5::R6::R7::R8::R9::S0::S1::S2::S3::S4::S5::S6::S7::S8::S9::T0::T1::T2::T3::T4::T5::T6::T7::T8::T9::U0::U1::U2::U3::U4::U5::U6::U7::U8::U9::V0::V1::V2::V3::V4::V5::V6::V7::V8::V9::W0::W1::W2::W3::W4::W5::W6::W7::W8::W9::X0::X1::X2::X3::X4::X5::X6::X7::X8::X9::Y0::Y1::[]) w := Eq.mp (by kernel_rfl) h

theorem leatref26_Audit_Say_A4_r {K : KV} {w : World}
    (h : cond P8
      ((leatref26_Audit_Say_P1 K) (a0::who1::k_2::x3::a4::who5::k_6::x7::id8::at9::n10::(Value.int IntKind.i64 0)::x12::i13::at14::C2::C3::C4::C5::C6::C7::C8::C9::D0::D1::D2::D3::D4::D5::D6::D7::D8::D9::E0::E1::E2::E3::E4::E5::E6::E7::E8::E9::F0::F1::F2::F3::F4::F5::F6::F7::F8::F9::G0::G1::G2::G3::G4::G5::G6::G7::G8::G9::H0::H1::H2::H3::H4::H5::H6::H7::H8::H9::I0::I1::I2::I3::I4::I5::I6::I7::I8::I9::J0::J1::J2::J3::J4::J5::J6::J7::J8::J9::L0::L1::L2::L3::L4::L5::L6::L7::L8::L9::M0::M1::M2::M3::M4::M5::M6::M7::M8::M9::N0::N1::N2::N3::N4::N5::N6::N7::N8::N9::O0::O1::O2::O3::O4::O5::O6::O7::O8::O9::P0::P1::P2::P3::P4::P5::P6::P7::P8::P9::Q0::Q1::Q2::Q3::Q4::Q5::Q6::Q7::Q8::Q9::R0::R1::R2::R3::R4::R5::R6::R7::R8::R9::S0::S1::S2::S3::S4::S5::S6::S7::S8::S9::T0::T1::T2::T3::T4::T5::T6::T7::T8::T9::U0::U1::U2::U3::U4::U5::U6::U7::U8::U9::V0::V1::V2::V3::V4::V5::V6::V7::V8::V9::W0::W1::W2::W3::W4::W5::W6::W7::W8::W9::X0::X1::X2::X3::X4::X5::X6::X7::X8::X9::Y0::Y1::[]) w)
      ((leatref26_Audit_Say_P1 K) (a0::who1::k_2::x3::a4::who5::k_6::x7::id8::at9::n10::n11::x12::i13::at14::C2::C3::C4::C5::C6::C7::C8::C9::D0::D1::D2::D3::D4::D5::D6::D7::D8::D9::E0::E1::E2::E3::E4::E5::E6::E7::E8::E9::F0::F1::F2::F3::F4::F5::F6::F7::F8::F9::G0::G1::G2::G3::G4::G5::G6::G7::G8::G9::H0::H1::H2::H3::H4::H5::H6::H7::H8::H9::I0::I1::I2::I3::I4::I5::I6::I7::I8::I9::J0::J1::J2::J3::J4::J5::J6::J7::J8::J9::L0::L1::L2::L3::L4::L5::L6::L7::L8::L9::M0::M1::M2::M3::M4::M5::M6::M7::M8::M9::N0::N1::N2::N3::N4::N5::N6::N7::N8::N9::O0::O1::O2::O3::O4::O5::O6::O7::O8::O9::P0::P1::P2::P3::P4::P5::P6::P7::P8::P9::Q0::Q1::Q2::Q3::Q4::Q5::Q6::Q7::Q8::Q9::R0::R1::R2::R3::R4::R5::R6::R7::R8::R9::S0::S1::S2::S3::S4::S5::S6::S7::S8::S9::T0::T1::T2::T3::T4::T5::T6::T7::T8::T9::U0::U1::U2::U3::U4::U5::U6::U7::U8::U9::V0::V1::V2::V3::V4::V5::V6::V7::V8::V9::W0::W1::W2::W3::W4::W5::W6::W7::W8::W9::X0::X1::X2::X3::X4::X5::X6::X7::X8::X9::Y0::Y1::[]) w)) :
    leatref26_Audit_Say_A4 K (a0::who1::k_2::x3::a4::who5::k_6::x7::id8::at9::n10::n11::x12::i13::at14::C2::C3::C4::C5::C6::C7::C8::C9::D0::D1::D2::D3::D4::D5::D6::D7::D8::D9::E0::E1::E2::E3::E4::E5::E6::E7::E8::E9::F0::F1::F2::F3::F4::F5::F6::F7::F8::F9::G0::G1::G2::G3::G4::G5::G6::G7::G8::G9::H0::H1::H2::H3::H4::H5::H6::H7::H8::H9::I0::I1::I2::I3::I4::I5::I6::I7::I8::I9::J0::J1::J2::J3::J4::J5::J6::J7::J8::J9::L0::L1::L2::L3::L4::L5::L6::L7::L8::L9::M0::M1::M2::M3::M4::M5::M6::M7::M8::M9::N0::N1::N2::N3::N4::N5::N6::N7::N8::N9::O0::O1::O2::O3::O4::O5::O6::O7::O8::O9::P0::P1::P2::P3::P4::P5::P6::P7::P8::P9::Q0::Q1::Q2::Q3::Q4::Q5::Q6::Q7::Q8::Q9::R0::R1::R2::R3::R4::R5::R6::R7::R8::R9::S0::S1::S2::S3::S4::S5::S6::S7::S8::S9::T0::T1::T2::T3::T4::T5::T6::T7::T8::T9::U0::U1::U2::U3::U4::U5::U6::U7::U8::U9::V0::V1::V2::V3::V4::V5::V6::V7::V8::V9::W0::W1::W2::W3::W4::W5::W6::W7::W8::W9::X0::X1::X2::X3::X4::X5::X6::X7::X8::X9::Y0::Y1::[]) w := by
  delta leatref26_Audit_Say_A4
  exact Eq.mp (congrArg (fun c => cCode Try.prog c (leatref26_Audit_Say_P1 K) (fun i => @Bool.rec (fun _ => KE) ((fun _ _ _ => False) i) (retK Try.prog Try.f9.results.toList K) (Nat.beq i 0)) (retK Try.prog Try.f9.results.toList K) (a0::who1::k_2::x3::a4::who5::k_6::x7::id8::at9::n10::n11::x12::i13::at14::C2::C3::C4::C5::C6::C7::C8::C9::D0::D1::D2::D3::D4::D5::D6::D7::D8::D9::E0::E1::E2::E3::E4::E5::E6::E7::E8::E9::F0::F1::F2::F3::F4::F5::F6::F7::F8::F9::G0::G1::G2::G3::G4::G5::G6::G7::G8::G9::H0::H1::H2::H3::H4::H5::H6::H7::H8::H9::I0::I1::I2::I3::I4::I5::I6::I7::I8::I9::J0::J1::J2::J3::J4::J5::J6::J7::J8::J9::L0::L1::L2::L3::L4::L5::L6::L7::L8::L9::M0::M1::M2::M3::M4::M5::M6::M7::M8::M9::N0::N1::N2::N3::N4::N5::N6::N7::N8::N9::O0::O1::O2::O3::O4::O5::O6::O7::O8::O9::P0::P1::P2::P3::P4::P5::P6::P7::P8::P9::Q0::Q1::Q2::Q3::Q4::Q5::Q6::Q7::Q8::Q9::R0::R1::R2::R3::R4::R5::R6::R7::R8::R9::S0::S1::S2::S3::S4::S5::S6::S7::S8::S9::T0::T1::T2::T3::T4::T5::T6::T7::T8::T9::U0::U1::U2::U3::U4::U5::U6::U7::U8::U9::V0::V1::V2::V3::V4::V5::V6::V7::V8::V9::W0::W1::W2::W3::W4::W5::W6::W7::W8::W9::X0::X1::X2::X3::X4::X5::X6::X7::X8::X9::Y0::Y1::[]) w) (by kernel_rfl : (cd Try.f9 [1, 1, 1, 0, 1, 1, 1, 1, 1, 0, 1, 0, 1, 0, 1]) = (cd Try.f9 [1, 1, 1, 0, 1, 1, 1, 1, 1, 0, 1, 0, 1, 0, 1]))) (leatref26_Audit_Say_A4_k (leatref26_Audit_Say_P1 K) h)

theorem leatref26_Audit_Say_A5_k {K : KV} {w : World}
    (h : fldA Try.prog 35 k_6 5 (fun X0 w =>
    ld Try.prog 33 X0 (fun X1 w =>
    call Try.prog 20 #[a0, who1, X1] (fun X2 w =>
    bin Try.prog BinOp.geq 3 false true X2 (Value.int IntKind.i64 0) (fun X4 w =>
    cond X4
      (nilC a0 (fun X6 w =>
      fldA Try.prog 31 X6 2 (fun X7 w =>
      ld Try.prog 29 X7 (fun X8 w =>
      idxA Try.prog 29 X8 X2 (fun Y0 w =>
      fldA Try.prog 81 Y0 4 (fun Y1 w =>
      sto Try.prog 4 Y1 (Value.bool true) (fun _t w =>
      K (Value.tuple #[]) w) w) w) w) w) w) w)
      (K (Value.tuple #[]) w)) w) w) w) w) :
    cCode Try.prog (cd Try.f9 [1, 1, 1, 0, 1, 1, 1, 1, 1, 1, 1, 0, 1]) (retK Try.prog Try.f9.results.toList K) (fun i => @Bool.rec (fun _ => KE) ((fun _ _ _ => False) i) (retK Try.prog Try.f9.results.toList K) (Nat.beq i 0)) (retK Try.prog Try.f9.results.toList K) (a0::who1::k_2::x3::a4::who5::k_6::x7::id8::at9::n10::n11::x12::i13::at14::C2::C3::C4::C5::C6::C7::C8::C9::D0::D1::D2::D3::D4::D5::D6::D7::D8::D9::E0::E1::E2::E3::E4::E5::E6::E7::E8::E9::F0::F1::F2::F3::F4::F5::F6::F7::F8::F9::G0::G1::G2::G3::G4::G5::G6::G7::G8::G9::H0::H1::H2::H3::H4::H5::H6::H7::H8::H9::I0::I1::I2::I3::I4::I5::I6::I7::I8::I9::J0::J1::J2::J3::J4::J5::J6::J7::J8::J9::L0::L1::L2::L3::L4::L5::L6::L7::L8::L9::M0::M1::M2::M3::M4::M5::M6::M7::M8::M9::N0::N1::N2::N3::N4::N5::N6::N7::N8::N9::O0::O1::O2::O3::O4::O5::O6::O7::O8::O9::P0::P1::P2::P3::P4::P5::P6::P7::P8::P9::Q0::Q1::Q2::Q3::Q4::Q5::Q6::Q7::Q8::Q9::R0::R1::R2::R3::R4::R5::R6::R7::R8::R9::S0::S1::S2::S3::S4::S5::S6::S7::S8::S9::T0::T1::T2::T3::T4::T5::T6::T7::T8::T9::U0::U1::U2::U3::U4::U5::U6::U7::U8::U9::V0::V1::V2::V3::V4::V5::V6::V7::V8::V9::W0::W1::W2::W3::W4::W5::W6::W7::W8::W9::X0::X1::X2::X3::X4::X5::X6::X7::X8::X9::Y0::Y1::[]) w := Eq.mp (by kernel_rfl) h

theorem leatref26_Audit_Say_A5_r {K : KV} {w : World}
    (h : fldA Try.prog 35 k_6 5 (fun X0 w =>
    ld Try.prog 33 X0 (fun X1 w =>
    call Try.prog 20 #[a0, who1, X1] (fun X2 w =>
    bin Try.prog BinOp.geq 3 false true X2 (Value.int IntKind.i64 0) (fun X4 w =>
    cond X4
      (nilC a0 (fun X6 w =>
      fldA Try.prog 31 X6 2 (fun X7 w =>
      ld Try.prog 29 X7 (fun X8 w =>
      idxA Try.prog 29 X8 X2 (fun Y0 w =>
      fldA Try.prog 81 Y0 4 (fun Y1 w =>
      sto Try.prog 4 Y1 (Value.bool true) (fun _t w =>
      K (Value.tuple #[]) w) w) w) w) w) w) w)
      (K (Value.tuple #[]) w)) w) w) w) w) :
    leatref26_Audit_Say_A5 K (a0::who1::k_2::x3::a4::who5::k_6::x7::id8::at9::n10::n11::x12::i13::at14::C2::C3::C4::C5::C6::C7::C8::C9::D0::D1::D2::D3::D4::D5::D6::D7::D8::D9::E0::E1::E2::E3::E4::E5::E6::E7::E8::E9::F0::F1::F2::F3::F4::F5::F6::F7::F8::F9::G0::G1::G2::G3::G4::G5::G6::G7::G8::G9::H0::H1::H2::H3::H4::H5::H6::H7::H8::H9::I0::I1::I2::I3::I4::I5::I6::I7::I8::I9::J0::J1::J2::J3::J4::J5::J6::J7::J8::J9::L0::L1::L2::L3::L4::L5::L6::L7::L8::L9::M0::M1::M2::M3::M4::M5::M6::M7::M8::M9::N0::N1::N2::N3::N4::N5::N6::N7::N8::N9::O0::O1::O2::O3::O4::O5::O6::O7::O8::O9::P0::P1::P2::P3::P4::P5::P6::P7::P8::P9::Q0::Q1::Q2::Q3::Q4::Q5::Q6::Q7::Q8::Q9::R0::R1::R2::R3::R4::R5::R6::R7::R8::R9::S0::S1::S2::S3::S4::S5::S6::S7::S8::S9::T0::T1::T2::T3::T4::T5::T6::T7::T8::T9::U0::U1::U2::U3::U4::U5::U6::U7::U8::U9::V0::V1::V2::V3::V4::V5::V6::V7::V8::V9::W0::W1::W2::W3::W4::W5::W6::W7::W8::W9::X0::X1::X2::X3::X4::X5::X6::X7::X8::X9::Y0::Y1::[]) w := by
  delta leatref26_Audit_Say_A5
  exact Eq.mp (congrArg (fun c => cCode Try.prog c (retK Try.prog Try.f9.results.toList K) (fun i => @Bool.rec (fun _ => KE) ((fun _ _ _ => False) i) (retK Try.prog Try.f9.results.toList K) (Nat.beq i 0)) (retK Try.prog Try.f9.results.toList K) (a0::who1::k_2::x3::a4::who5::k_6::x7::id8::at9::n10::n11::x12::i13::at14::C2::C3::C4::C5::C6::C7::C8::C9::D0::D1::D2::D3::D4::D5::D6::D7::D8::D9::E0::E1::E2::E3::E4::E5::E6::E7::E8::E9::F0::F1::F2::F3::F4::F5::F6::F7::F8::F9::G0::G1::G2::G3::G4::G5::G6::G7::G8::G9::H0::H1::H2::H3::H4::H5::H6::H7::H8::H9::I0::I1::I2::I3::I4::I5::I6::I7::I8::I9::J0::J1::J2::J3::J4::J5::J6::J7::J8::J9::L0::L1::L2::L3::L4::L5::L6::L7::L8::L9::M0::M1::M2::M3::M4::M5::M6::M7::M8::M9::N0::N1::N2::N3::N4::N5::N6::N7::N8::N9::O0::O1::O2::O3::O4::O5::O6::O7::O8::O9::P0::P1::P2::P3::P4::P5::P6::P7::P8::P9::Q0::Q1::Q2::Q3::Q4::Q5::Q6::Q7::Q8::Q9::R0::R1::R2::R3::R4::R5::R6::R7::R8::R9::S0::S1::S2::S3::S4::S5::S6::S7::S8::S9::T0::T1::T2::T3::T4::T5::T6::T7::T8::T9::U0::U1::U2::U3::U4::U5::U6::U7::U8::U9::V0::V1::V2::V3::V4::V5::V6::V7::V8::V9::W0::W1::W2::W3::W4::W5::W6::W7::W8::W9::X0::X1::X2::X3::X4::X5::X6::X7::X8::X9::Y0::Y1::[]) w) (by kernel_rfl : (cd Try.f9 [1, 1, 1, 0, 1, 1, 1, 1, 1, 1, 1, 0, 1]) = (cd Try.f9 [1, 1, 1, 0, 1, 1, 1, 1, 1, 1, 1, 0, 1]))) (leatref26_Audit_Say_A5_k h)

end
theorem leatref26_Audit_Say_L1_k {K : KV} (B1 : KE) (qc0 : KE) {a0 who1 k_2 x3 a4 who5 k_6 x7 id8 at9' n10 n11 x12 i13 at14 C2 C3 C4 C5 C6 C7 C8 C9 D0 D1 D2 D3 D4 D5 D6 D7 D8 D9 E0 E1 E2 E3 E4 E5 E6 E7 E8 E9 F0 F1 F2 F3 F4 F5 F6 F7 F8 F9 G0 G1 G2 G3 G4 G5 G6 G7 G8 G9 H0 H1 H5' H6' H7' H8' H9' I0' I1' I2' I3' I4' I5' L3 L4 L5 L6 L7 L8 L9 M0 M1 M2 M3 M4 M5 M6 M7 M8 M9 N0 N1 N2 N3 N4 N5 N6 N7 N8 N9 O0 O1 O2 O3 O4 O5 O6 O7 O8 O9 P0 P1 P2 P3 P4 P5 P6 P7 P8 P9 Q0 Q1 Q2 Q3 Q4 Q5 Q6 Q7 Q8 Q9 R0 R1 R2 R3 R4 R5 R6 R7 R8 R9 S0 S1 S2 S3 S4 S5 S6 S7 S8 S9 T0 T1 T2 T3 T4 T5 T6 T7 T8 T9 U0 U1 U2 U3 U4 U5 U6 U7 U8 U9 V0 V1 V2 V3 V4 V5 V6 V7 V8 V9 W0 W1 W2 W3 W4 W5 W6 W7 W8 W9 X0 X1 X2 X3 X4 X5 X6 X7 X8 X9 Y0 Y1 : Value} {dd : Nat → Value} {w : World}
    (h : bin Try.prog BinOp.gtr 3 false true at9' (Value.int IntKind.i64 0) (fun H3 w =>
    gsel H3 true (fun k68 =>
    nilC a0 (fun H6 w =>
    fldA Try.prog 31 H6 0 (fun H7 w =>
    ld Try.prog 27 H7 (fun H8 w =>
    bin Try.prog BinOp.sub 3 false true at9' (Value.int IntKind.i64 1) (fun I0 w =>
    idxA Try.prog 27 H8 I0 (fun I1 w =>
    fldA Try.prog 49 I1 0 (fun I2 w =>
    ld Try.prog 33 I2 (fun I3 w =>
    bin Try.prog BinOp.gtr 33 false false I3 id8 (fun I5 w =>
    k68 [a0, H6, H7, H8, at9', I0, I1, I2, I3, id8, I5] w) w) w) w) w) w) w) w) w)
    (fun k => k [undef, undef, undef, undef, undef, undef, undef, undef, undef, undef, undef] w) (fun us68 w =>
    pick H3 (gd us68 10) (Value.bool false) (fun I6 w =>
    cond I6
      ((fun w =>
    sti (fun k w => nilC a0 k w) (fun I8 w =>
    sti (fun k w => fldA Try.prog 31 I8 0 k w) (fun I9 w =>
    sti (fun k w => ld Try.prog 27 I9 k w) (fun J0 w =>
    sti (fun k w => nilC a0 k w) (fun J3 w =>
    sti (fun k w => fldA Try.prog 31 J3 0 k w) (fun J4 w =>
    sti (fun k w => ld Try.prog 27 J4 k w) (fun J5 w =>
    sti (fun k w => bin Try.prog BinOp.sub 3 false true at9' (Value.int IntKind.i64 1) k w) (fun J7 w =>
    sti (fun k w => idxA Try.prog 27 J5 J7 k w) (fun J8 w =>
    sti (fun k w => ld Try.prog 49 J8 k w) (fun J9 w =>
    sti (fun k w => idxA Try.prog 27 J0 at9' k w) (fun L0 w =>
    sto Try.prog 49 L0 J9 (fun _t w =>
    bin Try.prog BinOp.sub 3 false true at9' (Value.int IntKind.i64 1) (fun L2 w =>
    B1 (a0::who1::k_2::x3::a4::who5::k_6::x7::id8::L2::n10::n11::x12::i13::at14::C2::C3::C4::C5::C6::C7::C8::C9::D0::D1::D2::D3::D4::D5::D6::D7::D8::D9::E0::E1::E2::E3::E4::E5::E6::E7::E8::E9::F0::F1::F2::F3::F4::F5::F6::F7::F8::F9::G0::G1::G2::G3::G4::G5::G6::G7::G8::G9::H0::H1::at9'::H3::H3::(gd us68 0)::(gd us68 1)::(gd us68 2)::(gd us68 3)::(gd us68 4)::(gd us68 5)::(gd us68 6)::(gd us68 7)::(gd us68 8)::(gd us68 9)::(gd us68 10)::I6::a0::I8::I9::J0::at9'::a0::J3::J4::J5::at9'::J7::J8::J9::L0::at9'::L2::L3::L4::L5::L6::L7::L8::L9::M0::M1::M2::M3::M4::M5::M6::M7::M8::M9::N0::N1::N2::N3::N4::N5::N6::N7::N8::N9::O0::O1::O2::O3::O4::O5::O6::O7::O8::O9::P0::P1::P2::P3::P4::P5::P6::P7::P8::P9::Q0::Q1::Q2::Q3::Q4::Q5::Q6::Q7::Q8::Q9::R0::R1::R2::R3::R4::R5::R6::R7::R8::R9::S0::S1::S2::S3::S4::S5::S6::S7::S8::S9::T0::T1::T2::T3::T4::T5::T6::T7::T8::T9::U0::U1::U2::U3::U4::U5::U6::U7::U8::U9::V0::V1::V2::V3::V4::V5::V6::V7::V8::V9::W0::W1::W2::W3::W4::W5::W6::W7::W8::W9::X0::X1::X2::X3::X4::X5::X6::X7::X8::X9::Y0::Y1::[]) w) w) w) w) w) w) w) w) w) w) w) w) w) w.drew)
      (qc0 (a0::who1::k_2::x3::a4::who5::k_6::x7::id8::at9'::n10::n11::x12::i13::at14::C2::C3::C4::C5::C6::C7::C8::C9::D0::D1::D2::D3::D4::D5::D6::D7::D8::D9::E0::E1::E2::E3::E4::E5::E6::E7::E8::E9::F0::F1::F2::F3::F4::F5::F6::F7::F8::F9::G0::G1::G2::G3::G4::G5::G6::G7::G8::G9::H0::H1::at9'::H3::H3::(gd us68 0)::(gd us68 1)::(gd us68 2)::(gd us68 3)::(gd us68 4)::(gd us68 5)::(gd us68 6)::(gd us68 7)::(gd us68 8)::(gd us68 9)::(gd us68 10)::I6::(dd 80)::(dd 81)::(dd 82)::(dd 83)::(dd 84)::(dd 85)::(dd 86)::(dd 87)::(dd 88)::(dd 89)::(dd 90)::(dd 91)::(dd 92)::(dd 93)::(dd 94)::(dd 95)::L3::L4::L5::L6::L7::L8::L9::M0::M1::M2::M3::M4::M5::M6::M7::M8::M9::N0::N1::N2::N3::N4::N5::N6::N7::N8::N9::O0::O1::O2::O3::O4::O5::O6::O7::O8::O9::P0::P1::P2::P3::P4::P5::P6::P7::P8::P9::Q0::Q1::Q2::Q3::Q4::Q5::Q6::Q7::Q8::Q9::R0::R1::R2::R3::R4::R5::R6::R7::R8::R9::S0::S1::S2::S3::S4::S5::S6::S7::S8::S9::T0::T1::T2::T3::T4::T5::T6::T7::T8::T9::U0::U1::U2::U3::U4::U5::U6::U7::U8::U9::V0::V1::V2::V3::V4::V5::V6::V7::V8::V9::W0::W1::W2::W3::W4::W5::W6::W7::W8::W9::X0::X1::X2::X3::X4::X5::X6::X7::X8::X9::Y0::Y1::[]) w)) w)) w) :
    cCode Try.prog (cd Try.f9 [1, 1, 1, 0, 1, 0, 1, 1, 0, 1, 1, 1, 0, 0, 0]) B1 (fun i => @Bool.rec (fun _ => KE) ((fun i => @Bool.rec (fun _ => KE) ((fun _ _ _ => False) i) (retK Try.prog Try.f9.results.toList K) (Nat.beq i 0)) i) qc0 (Nat.beq i 1)) (retK Try.prog Try.f9.results.toList K) (a0::who1::k_2::x3::a4::who5::k_6::x7::id8::at9'::n10::n11::x12::i13::at14::C2::C3::C4::C5::C6::C7::C8::C9::D0::D1::D2::D3::D4::D5::D6::D7::D8::D9::E0::E1::E2::E3::E4::E5::E6::E7::E8::E9::F0::F1::F2::F3::F4::F5::F6::F7::F8::F9::G0::G1::G2::G3::G4::G5::G6::G7::G8::G9::H0::H1::(dd 65)::(dd 66)::(dd 67)::H5'::H6'::H7'::H8'::H9'::I0'::I1'::I2'::I3'::I4'::I5'::(dd 79)::(dd 80)::(dd 81)::(dd 82)::(dd 83)::(dd 84)::(dd 85)::(dd 86)::(dd 87)::(dd 88)::(dd 89)::(dd 90)::(dd 91)::(dd 92)::(dd 93)::(dd 94)::(dd 95)::L3::L4::L5::L6::L7::L8::L9::M0::M1::M2::M3::M4::M5::M6::M7::M8::M9::N0::N1::N2::N3::N4::N5::N6::N7::N8::N9::O0::O1::O2::O3::O4::O5::O6::O7::O8::O9::P0::P1::P2::P3::P4::P5::P6::P7::P8::P9::Q0::Q1::Q2::Q3::Q4::Q5::Q6::Q7::Q8::Q9::R0::R1::R2::R3::R4::R5::R6::R7::R8::R9::S0::S1::S2::S3::S4::S5::S6::S7::S8::S9::T0::T1::T2::T3::T4::T5::T6::T7::T8::T9::U0::U1::U2::U3::U4::U5::U6::U7::U8::U9::V0::V1::V2::V3::V4::V5::V6::V7::V8::V9::W0::W1::W2::W3::W4::W5::W6::W7::W8::W9::X0::X1::X2::X3::X4::X5::X6::X7::X8::X9::Y0::Y1::[]) w := Eq.mp (by kernel_rfl) h

section
variable {a0 who1 k_2 x3 a4 who5 k_6 x7 id8 at9 n10 n11 x12 i13 at14 C2 C3 C4 C5 C6 C7 C8 C9 D0 D1 D2 D3 D4 D5 D6 D7 D8 D9 E0 E1 E2 E3 E4 E5 E6 E7 E8 E9 F0 F1 F2 F3 F4 F5 F6 F7 F8 F9 G0 G1 G2 G3 G4 G5 G6 G7 G8 G9 H0 H1 H2 H3 H4 H5 H6 H7 H8 H9 I0 I1 I2 I3 I4 I5 I6 I7 I8 I9 J0 J1 J2 J3 J4 J5 J6 J7 J8 J9 L0 L1 L2 L3 L4 L5 L6 L7 L8 L9 M0 M1 M2 M3 M4 M5 M6 M7 M8 M9 N0 N1 N2 N3 N4 N5 N6 N7 N8 N9 O0 O1 O2 O3 O4 O5 O6 O7 O8 O9 P0 P1 P2 P3 P4 P5 P6 P7 P8 P9 Q0 Q1 Q2 Q3 Q4 Q5 Q6 Q7 Q8 Q9 R0 R1 R2 R3 R4 R5 R6 R7 R8 R9 S0 S1 S2 S3 S4 S5 S6 S7 S8 S9 T0 T1 T2 T3 T4 T5 T6 T7 T8 T9 U0 U1 U2 U3 U4 U5 U6 U7 U8 U9 V0 V1 V2 V3 V4 V5 V6 V7 V8 V9 W0 W1 W2 W3 W4 W5 W6 W7 W8 W9 X0 X1 X2 X3 X4 X5 X6 X7 X8 X9 Y0 Y1 : Value}
theorem leatref26_Audit_Say_L1_r {K : KV} {w : World} (Inv : Value → Value → Value → Value → Value → Value → Value → Value → Value → Value → Value → Value → World → Prop) (μ : Value → Value → Value → Value → Value → Value → Value → Value → Value → Value → Value → Value → World → Nat) (h0 : Inv at9 H5 H6 H7 H8 H9 I0 I1 I2 I3 I4 I5 w)
    (hs : ∀ (at9' H5' H6' H7' H8' H9' I0' I1' I2' I3' I4' I5' : Value) (dd : Nat → Value) (w : World) (m : Nat), Inv at9' H5' H6' H7' H8' H9' I0' I1' I2' I3' I4' I5' w → m = μ at9' H5' H6' H7' H8' H9' I0' I1' I2' I3' I4' I5' w →
    bin Try.prog BinOp.gtr 3 false true at9' (Value.int IntKind.i64 0) (fun H3 w =>
    gsel H3 true (fun k68 =>
    nilC a0 (fun H6 w =>
    fldA Try.prog 31 H6 0 (fun H7 w =>
    ld Try.prog 27 H7 (fun H8 w =>
    bin Try.prog BinOp.sub 3 false true at9' (Value.int IntKind.i64 1) (fun I0 w =>
    idxA Try.prog 27 H8 I0 (fun I1 w =>
    fldA Try.prog 49 I1 0 (fun I2 w =>
    ld Try.prog 33 I2 (fun I3 w =>
    bin Try.prog BinOp.gtr 33 false false I3 id8 (fun I5 w =>
    k68 [a0, H6, H7, H8, at9', I0, I1, I2, I3, id8, I5] w) w) w) w) w) w) w) w) w)
    (fun k => k [undef, undef, undef, undef, undef, undef, undef, undef, undef, undef, undef] w) (fun us68 w =>
    pick H3 (gd us68 10) (Value.bool false) (fun I6 w =>
    cond I6
      ((fun w =>
    sti (fun k w => nilC a0 k w) (fun I8 w =>
    sti (fun k w => fldA Try.prog 31 I8 0 k w) (fun I9 w =>
    sti (fun k w => ld Try.prog 27 I9 k w) (fun J0 w =>
    sti (fun k w => nilC a0 k w) (fun J3 w =>
    sti (fun k w => fldA Try.prog 31 J3 0 k w) (fun J4 w =>
    sti (fun k w => ld Try.prog 27 J4 k w) (fun J5 w =>
    sti (fun k w => bin Try.prog BinOp.sub 3 false true at9' (Value.int IntKind.i64 1) k w) (fun J7 w =>
    sti (fun k w => idxA Try.prog 27 J5 J7 k w) (fun J8 w =>
    sti (fun k w => ld Try.prog 49 J8 k w) (fun J9 w =>
    sti (fun k w => idxA Try.prog 27 J0 at9' k w) (fun L0 w =>
    sto Try.prog 49 L0 J9 (fun _t w =>
    bin Try.prog BinOp.sub 3 false true at9' (Value.int IntKind.i64 1) (fun L2 w =>
    (Inv L2 (gd us68 0) (gd us68 1) (gd us68 2) (gd us68 3) (gd us68 4) (gd us68 5) (gd us68 6) (gd us68 7) (gd us68 8) (gd us68 9) (gd us68 10) w ∧ μ L2 (gd us68 0) (gd us68 1) (gd us68 2) (gd us68 3) (gd us68 4) (gd us68 5) (gd us68 6) (gd us68 7) (gd us68 8) (gd us68 9) (gd us68 10) w < m)) w) w) w) w) w) w) w) w) w) w) w) w) w.drew)
      ((leatref26_Audit_Say_P2 K) (a0::who1::k_2::x3::a4::who5::k_6::x7::id8::at9'::n10::n11::x12::i13::at14::C2::C3::C4::C5::C6::C7::C8::C9::D0::D1::D2::D3::D4::D5::D6::D7::D8::D9::E0::E1::E2::E3::E4::E5::E6::E7::E8::E9::F0::F1::F2::F3::F4::F5::F6::F7::F8::F9::G0::G1::G2::G3::G4::G5::G6::G7::G8::G9::H0::H1::at9'::H3::H3::(gd us68 0)::(gd us68 1)::(gd us68 2)::(gd us68 3)::(gd us68 4)::(gd us68 5)::(gd us68 6)::(gd us68 7)::(gd us68 8)::(gd us68 9)::(gd us68 10)::I6::(dd 80)::(dd 81)::(dd 82)::(dd 83)::(dd 84)::(dd 85)::(dd 86)::(dd 87)::(dd 88)::(dd 89)::(dd 90)::(dd 91)::(dd 92)::(dd 93)::(dd 94)::(dd 95)::L3::L4::L5::L6::L7::L8::L9::M0::M1::M2::M3::M4::M5::M6::M7::M8::M9::N0::N1::N2::N3::N4::N5::N6::N7::N8::N9::O0::O1::O2::O3::O4::O5::O6::O7::O8::O9::P0::P1::P2::P3::P4::P5::P6::P7::P8::P9::Q0::Q1::Q2::Q3::Q4::Q5::Q6::Q7::Q8::Q9::R0::R1::R2::R3::R4::R5::R6::R7::R8::R9::S0::S1::S2::S3::S4::S5::S6::S7::S8::S9::T0::T1::T2::T3::T4::T5::T6::T7::T8::T9::U0::U1::U2::U3::U4::U5::U6::U7::U8::U9::V0::V1::V2::V3::V4::V5::V6::V7::V8::V9::W0::W1::W2::W3::W4::W5::W6::W7::W8::W9::X0::X1::X2::X3::X4::X5::X6::X7::X8::X9::Y0::Y1::[]) w)) w)) w) :
    leatref26_Audit_Say_L1 K (a0::who1::k_2::x3::a4::who5::k_6::x7::id8::at9::n10::n11::x12::i13::at14::C2::C3::C4::C5::C6::C7::C8::C9::D0::D1::D2::D3::D4::D5::D6::D7::D8::D9::E0::E1::E2::E3::E4::E5::E6::E7::E8::E9::F0::F1::F2::F3::F4::F5::F6::F7::F8::F9::G0::G1::G2::G3::G4::G5::G6::G7::G8::G9::H0::H1::H2::H3::H4::H5::H6::H7::H8::H9::I0::I1::I2::I3::I4::I5::I6::I7::I8::I9::J0::J1::J2::J3::J4::J5::J6::J7::J8::J9::L0::L1::L2::L3::L4::L5::L6::L7::L8::L9::M0::M1::M2::M3::M4::M5::M6::M7::M8::M9::N0::N1::N2::N3::N4::N5::N6::N7::N8::N9::O0::O1::O2::O3::O4::O5::O6::O7::O8::O9::P0::P1::P2::P3::P4::P5::P6::P7::P8::P9::Q0::Q1::Q2::Q3::Q4::Q5::Q6::Q7::Q8::Q9::R0::R1::R2::R3::R4::R5::R6::R7::R8::R9::S0::S1::S2::S3::S4::S5::S6::S7::S8::S9::T0::T1::T2::T3::T4::T5::T6::T7::T8::T9::U0::U1::U2::U3::U4::U5::U6::U7::U8::U9::V0::V1::V2::V3::V4::V5::V6::V7::V8::V9::W0::W1::W2::W3::W4::W5::W6::W7::W8::W9::X0::X1::X2::X3::X4::X5::X6::X7::X8::X9::Y0::Y1::[]) w := by
  refine loop_rule (cd Try.f9 [1, 1, 1, 0, 1, 0, 1, 1, 0, 1, 1, 1, 0, 0, 0]) [9, 65, 66, 67, 68, 69, 70, 71, 72, 73, 74, 75, 76, 77, 78, 79, 80, 81, 82, 83, 84, 85, 86, 87, 88, 89, 90, 91, 92, 93, 94, 95] (by kernel_rfl) (fun e2 w2 => Inv (gd e2 9) (gd e2 68) (gd e2 69) (gd e2 70) (gd e2 71) (gd e2 72) (gd e2 73) (gd e2 74) (gd e2 75) (gd e2 76) (gd e2 77) (gd e2 78) w2) (fun e2 w2 => μ (gd e2 9) (gd e2 68) (gd e2 69) (gd e2 70) (gd e2 71) (gd e2 72) (gd e2 73) (gd e2 74) (gd e2 75) (gd e2 76) (gd e2 77) (gd e2 78) w2) h0 ?_
  intro e' w' hI
  have h := hs (gd e' 9) (gd e' 68) (gd e' 69) (gd e' 70) (gd e' 71) (gd e' 72) (gd e' 73) (gd e' 74) (gd e' 75) (gd e' 76) (gd e' 77) (gd e' 78) (fun i => gd e' i) w' _ hI rfl
  have h2 : cCode Try.prog (cd Try.f9 [1, 1, 1, 0, 1, 0, 1, 1, 0, 1, 1, 1, 0, 0, 0]) (fun e2 w2 => Inv (gd e2 9) (gd e2 68) (gd e2 69) (gd e2 70) (gd e2 71) (gd e2 72) (gd e2 73) (gd e2 74) (gd e2 75) (gd e2 76) (gd e2 77) (gd e2 78) w2 ∧ μ (gd e2 9) (gd e2 68) (gd e2 69) (gd e2 70) (gd e2 71) (gd e2 72) (gd e2 73) (gd e2 74) (gd e2 75) (gd e2 76) (gd e2 77) (gd e2 78) w2 < μ (gd e' 9) (gd e' 68) (gd e' 69) (gd e' 70) (gd e' 71) (gd e' 72) (gd e' 73) (gd e' 74) (gd e' 75) (gd e' 76) (gd e' 77) (gd e' 78) w') (fun i => @Bool.rec (fun _ => KE) ((fun i => @Bool.rec (fun _ => KE) ((fun _ _ _ => False) i) (retK Try.prog Try.f9.results.toList K) (Nat.beq i 0)) i) (leatref26_Audit_Say_P2 K) (Nat.beq i 1)) (retK Try.prog Try.f9.results.toList K) (a0::who1::k_2::x3::a4::who5::k_6::x7::id8::(gd e' 9)::n10::n11::x12::i13::at14::C2::C3::C4::C5::C6::C7::C8::C9::D0::D1::D2::D3::D4::D5::D6::D7::D8::D9::E0::E1::E2::E3::E4::E5::E6::E7::E8::E9::F0::F1::F2::F3::F4::F5::F6::F7::F8::F9::G0::G1::G2::G3::G4::G5::G6::G7::G8::G9::H0::H1::(gd e' 65)::(gd e' 66)::(gd e' 67)::(gd e' 68)::(gd e' 69)::(gd e' 70)::(gd e' 71)::(gd e' 72)::(gd e' 73)::(gd e' 74)::(gd e' 75)::(gd e' 76)::(gd e' 77)::(gd e' 78)::(gd e' 79)::(gd e' 80)::(gd e' 81)::(gd e' 82)::(gd e' 83)::(gd e' 84)::(gd e' 85)::(gd e' 86)::(gd e' 87)::(gd e' 88)::(gd e' 89)::(gd e' 90)::(gd e' 91)::(gd e' 92)::(gd e' 93)::(gd e' 94)::(gd e' 95)::L3::L4::L5::L6::L7::L8::L9::M0::M1::M2::M3::M4::M5::M6::M7::M8::M9::N0::N1::N2::N3::N4::N5::N6::N7::N8::N9::O0::O1::O2::O3::O4::O5::O6::O7::O8::O9::P0::P1::P2::P3::P4::P5::P6::P7::P8::P9::Q0::Q1::Q2::Q3::Q4::Q5::Q6::Q7::Q8::Q9::R0::R1::R2::R3::R4::R5::R6::R7::R8::R9::S0::S1::S2::S3::S4::S5::S6::S7::S8::S9::T0::T1::T2::T3::T4::T5::T6::T7::T8::T9::U0::U1::U2::U3::U4::U5::U6::U7::U8::U9::V0::V1::V2::V3::V4::V5::V6::V7::V8::V9::W0::W1::W2::W3::W4::W5::W6::W7::W8::W9::X0::X1::X2::X3::X4::X5::X6::X7::X8::X9::Y0::Y1::[]) w' := leatref26_Audit_Say_L1_k (fun e2 w2 => Inv (gd e2 9) (gd e2 68) (gd e2 69) (gd e2 70) (gd e2 71) (gd e2 72) (gd e2 73) (gd e2 74) (gd e2 75) (gd e2 76) (gd e2 77) (gd e2 78) w2 ∧ μ (gd e2 9) (gd e2 68) (gd e2 69) (gd e2 70) (gd e2 71) (gd e2 72) (gd e2 73) (gd e2 74) (gd e2 75) (gd e2 76) (gd e2 77) (gd e2 78) w2 < μ (gd e' 9) (gd e' 68) (gd e' 69) (gd e' 70) (gd e' 71) (gd e' 72) (gd e' 73) (gd e' 74) (gd e' 75) (gd e' 76) (gd e' 77) (gd e' 78) w') (leatref26_Audit_Say_P2 K) (Eq.mp (by kernel_rfl) h)
  exact Eq.mp (by kernel_rfl) h2

theorem leatref26_Audit_Say_P1_k {K : KV} {w : World}
    (h : fldA Try.prog 35 k_6 4 (fun Q0 w =>
    ld Try.prog 33 Q0 (fun Q1 w =>
    fldA Try.prog 35 k_6 1 (fun Q2 w =>
    ld Try.prog 33 Q2 (fun Q3 w =>
    bld Try.prog 81 #[(0, who1), (1, Q1), (2, Q3), (3, n11)] (fun Q5 w =>
    alc Try.prog 81 (fun x12 w =>
    sto Try.prog 81 x12 Q5 (fun _t w =>
    (cCode Try.prog (cd Try.f9 [1, 1, 1, 0, 1, 1, 1, 1, 1, 0, 1, 0, 1, 1, 1, 0, 1, 0]) (cCode Try.prog (cd Try.f9 [1, 1, 1, 0, 1, 1, 1, 1, 1, 0, 1, 0, 1, 1, 1, 1]) (retK Try.prog Try.f9.results.toList K) (fun i => @Bool.rec (fun _ => KE) ((fun _ _ _ => False) i) (retK Try.prog Try.f9.results.toList K) (Nat.beq i 0)) (retK Try.prog Try.f9.results.toList K)) (fun i => @Bool.rec (fun _ => KE) ((fun i => @Bool.rec (fun _ => KE) ((fun _ _ _ => False) i) (retK Try.prog Try.f9.results.toList K) (Nat.beq i 0)) i) (cCode Try.prog (cd Try.f9 [1, 1, 1, 0, 1, 1, 1, 1, 1, 0, 1, 0, 1, 1, 1, 1]) (retK Try.prog Try.f9.results.toList K) (fun i => @Bool.rec (fun _ => KE) ((fun _ _ _ => False) i) (retK Try.prog Try.f9.results.toList K) (Nat.beq i 0)) (retK Try.prog Try.f9.results.toList K)) (Nat.beq i 3)) (retK Try.prog Try.f9.results.toList K)) (a0::who1::k_2::x3::a4::who5::k_6::x7::id8::at9::n10::n11::x12::(Value.int IntKind.i64 0)::at14::C2::C3::C4::C5::C6::C7::C8::C9::D0::D1::D2::D3::D4::D5::D6::D7::D8::D9::E0::E1::E2::E3::E4::E5::E6::E7::E8::E9::F0::F1::F2::F3::F4::F5::F6::F7::F8::F9::G0::G1::G2::G3::G4::G5::G6::G7::G8::G9::H0::H1::H2::H3::H4::H5::H6::H7::H8::H9::I0::I1::I2::I3::I4::I5::I6::I7::I8::I9::J0::J1::J2::J3::J4::J5::J6::J7::J8::J9::L0::L1::L2::L3::L4::L5::L6::L7::L8::L9::M0::M1::M2::M3::M4::M5::M6::M7::M8::M9::N0::N1::N2::N3::N4::N5::N6::N7::N8::N9::O0::O1::O2::O3::O4::O5::O6::O7::O8::O9::P0::P1::P2::P3::P4::P5::P6::P7::P8::who1::Q0::Q1::Q2::Q3::n11::Q5::Q6::Q7::Q8::Q9::R0::R1::R2::R3::R4::R5::R6::R7::R8::R9::S0::S1::S2::S3::S4::S5::S6::S7::S8::S9::T0::T1::T2::T3::T4::T5::T6::T7::T8::T9::U0::U1::U2::U3::U4::U5::U6::U7::U8::U9::V0::V1::V2::V3::V4::V5::V6::V7::V8::V9::W0::W1::W2::W3::W4::W5::W6::W7::W8::W9::X0::X1::X2::X3::X4::X5::X6::X7::X8::X9::Y0::Y1::[]) w) w) w) w) w) w) w) w) :
    cCode Try.prog (cd Try.f9 [1, 1, 1, 0, 1, 1, 1, 1, 1, 0, 1, 0, 1, 1]) (retK Try.prog Try.f9.results.toList K) (fun i => @Bool.rec (fun _ => KE) ((fun _ _ _ => False) i) (retK Try.prog Try.f9.results.toList K) (Nat.beq i 0)) (retK Try.prog Try.f9.results.toList K) (a0::who1::k_2::x3::a4::who5::k_6::x7::id8::at9::n10::n11::x12::i13::at14::C2::C3::C4::C5::C6::C7::C8::C9::D0::D1::D2::D3::D4::D5::D6::D7::D8::D9::E0::E1::E2::E3::E4::E5::E6::E7::E8::E9::F0::F1::F2::F3::F4::F5::F6::F7::F8::F9::G0::G1::G2::G3::G4::G5::G6::G7::G8::G9::H0::H1::H2::H3::H4::H5::H6::H7::H8::H9::I0::I1::I2::I3::I4::I5::I6::I7::I8::I9::J0::J1::J2::J3::J4::J5::J6::J7::J8::J9::L0::L1::L2::L3::L4::L5::L6::L7::L8::L9::M0::M1::M2::M3::M4::M5::M6::M7::M8::M9::N0::N1::N2::N3::N4::N5::N6::N7::N8::N9::O0::O1::O2::O3::O4::O5::O6::O7::O8::O9::P0::P1::P2::P3::P4::P5::P6::P7::P8::P9::Q0::Q1::Q2::Q3::Q4::Q5::Q6::Q7::Q8::Q9::R0::R1::R2::R3::R4::R5::R6::R7::R8::R9::S0::S1::S2::S3::S4::S5::S6::S7::S8::S9::T0::T1::T2::T3::T4::T5::T6::T7::T8::T9::U0::U1::U2::U3::U4::U5::U6::U7::U8::U9::V0::V1::V2::V3::V4::V5::V6::V7::V8::V9::W0::W1::W2::W3::W4::W5::W6::W7::W8::W9::X0::X1::X2::X3::X4::X5::X6::X7::X8::X9::Y0::Y1::[]) w := Eq.mp (by kernel_rfl) h

theorem leatref26_Audit_Say_P1_r {K : KV} {w : World}
    (h : fldA Try.prog 35 k_6 4 (fun Q0 w =>
    ld Try.prog 33 Q0 (fun Q1 w =>
    fldA Try.prog 35 k_6 1 (fun Q2 w =>
    ld Try.prog 33 Q2 (fun Q3 w =>
    bld Try.prog 81 #[(0, who1), (1, Q1), (2, Q3), (3, n11)] (fun Q5 w =>
    alc Try.prog 81 (fun x12 w =>
    sto Try.prog 81 x12 Q5 (fun _t w =>
    (leatref26_Audit_Say_L2 K) (a0::who1::k_2::x3::a4::who5::k_6::x7::id8::at9::n10::n11::x12::(Value.int IntKind.i64 0)::at14::C2::C3::C4::C5::C6::C7::C8::C9::D0::D1::D2::D3::D4::D5::D6::D7::D8::D9::E0::E1::E2::E3::E4::E5::E6::E7::E8::E9::F0::F1::F2::F3::F4::F5::F6::F7::F8::F9::G0::G1::G2::G3::G4::G5::G6::G7::G8::G9::H0::H1::H2::H3::H4::H5::H6::H7::H8::H9::I0::I1::I2::I3::I4::I5::I6::I7::I8::I9::J0::J1::J2::J3::J4::J5::J6::J7::J8::J9::L0::L1::L2::L3::L4::L5::L6::L7::L8::L9::M0::M1::M2::M3::M4::M5::M6::M7::M8::M9::N0::N1::N2::N3::N4::N5::N6::N7::N8::N9::O0::O1::O2::O3::O4::O5::O6::O7::O8::O9::P0::P1::P2::P3::P4::P5::P6::P7::P8::who1::Q0::Q1::Q2::Q3::n11::Q5::Q6::Q7::Q8::Q9::R0::R1::R2::R3::R4::R5::R6::R7::R8::R9::S0::S1::S2::S3::S4::S5::S6::S7::S8::S9::T0::T1::T2::T3::T4::T5::T6::T7::T8::T9::U0::U1::U2::U3::U4::U5::U6::U7::U8::U9::V0::V1::V2::V3::V4::V5::V6::V7::V8::V9::W0::W1::W2::W3::W4::W5::W6::W7::W8::W9::X0::X1::X2::X3::X4::X5::X6::X7::X8::X9::Y0::Y1::[]) w) w) w) w) w) w) w) w) :
    leatref26_Audit_Say_P1 K (a0::who1::k_2::x3::a4::who5::k_6::x7::id8::at9::n10::n11::x12::i13::at14::C2::C3::C4::C5::C6::C7::C8::C9::D0::D1::D2::D3::D4::D5::D6::D7::D8::D9::E0::E1::E2::E3::E4::E5::E6::E7::E8::E9::F0::F1::F2::F3::F4::F5::F6::F7::F8::F9::G0::G1::G2::G3::G4::G5::G6::G7::G8::G9::H0::H1::H2::H3::H4::H5::H6::H7::H8::H9::I0::I1::I2::I3::I4::I5::I6::I7::I8::I9::J0::J1::J2::J3::J4::J5::J6::J7::J8::J9::L0::L1::L2::L3::L4::L5::L6::L7::L8::L9::M0::M1::M2::M3::M4::M5::M6::M7::M8::M9::N0::N1::N2::N3::N4::N5::N6::N7::N8::N9::O0::O1::O2::O3::O4::O5::O6::O7::O8::O9::P0::P1::P2::P3::P4::P5::P6::P7::P8::P9::Q0::Q1::Q2::Q3::Q4::Q5::Q6::Q7::Q8::Q9::R0::R1::R2::R3::R4::R5::R6::R7::R8::R9::S0::S1::S2::S3::S4::S5::S6::S7::S8::S9::T0::T1::T2::T3::T4::T5::T6::T7::T8::T9::U0::U1::U2::U3::U4::U5::U6::U7::U8::U9::V0::V1::V2::V3::V4::V5::V6::V7::V8::V9::W0::W1::W2::W3::W4::W5::W6::W7::W8::W9::X0::X1::X2::X3::X4::X5::X6::X7::X8::X9::Y0::Y1::[]) w := by
  delta leatref26_Audit_Say_P1
  exact Eq.mp (congrArg (fun c => cCode Try.prog c (retK Try.prog Try.f9.results.toList K) (fun i => @Bool.rec (fun _ => KE) ((fun _ _ _ => False) i) (retK Try.prog Try.f9.results.toList K) (Nat.beq i 0)) (retK Try.prog Try.f9.results.toList K) (a0::who1::k_2::x3::a4::who5::k_6::x7::id8::at9::n10::n11::x12::i13::at14::C2::C3::C4::C5::C6::C7::C8::C9::D0::D1::D2::D3::D4::D5::D6::D7::D8::D9::E0::E1::E2::E3::E4::E5::E6::E7::E8::E9::F0::F1::F2::F3::F4::F5::F6::F7::F8::F9::G0::G1::G2::G3::G4::G5::G6::G7::G8::G9::H0::H1::H2::H3::H4::H5::H6::H7::H8::H9::I0::I1::I2::I3::I4::I5::I6::I7::I8::I9::J0::J1::J2::J3::J4::J5::J6::J7::J8::J9::L0::L1::L2::L3::L4::L5::L6::L7::L8::L9::M0::M1::M2::M3::M4::M5::M6::M7::M8::M9::N0::N1::N2::N3::N4::N5::N6::N7::N8::N9::O0::O1::O2::O3::O4::O5::O6::O7::O8::O9::P0::P1::P2::P3::P4::P5::P6::P7::P8::P9::Q0::Q1::Q2::Q3::Q4::Q5::Q6::Q7::Q8::Q9::R0::R1::R2::R3::R4::R5::R6::R7::R8::R9::S0::S1::S2::S3::S4::S5::S6::S7::S8::S9::T0::T1::T2::T3::T4::T5::T6::T7::T8::T9::U0::U1::U2::U3::U4::U5::U6::U7::U8::U9::V0::V1::V2::V3::V4::V5::V6::V7::V8::V9::W0::W1::W2::W3::W4::W5::W6::W7::W8::W9::X0::X1::X2::X3::X4::X5::X6::X7::X8::X9::Y0::Y1::[]) w) (by kernel_rfl : (cd Try.f9 [1, 1, 1, 0, 1, 1, 1, 1, 1, 0, 1, 0, 1, 1]) = (cd Try.f9 [1, 1, 1, 0, 1, 1, 1, 1, 1, 0, 1, 0, 1, 1]))) (leatref26_Audit_Say_P1_k h)

theorem leatref26_Audit_Say_P2_k {K : KV} {w : World}
    (h : (fun w =>
    sti (fun k w => nilC a0 k w) (fun L4 w =>
    sti (fun k w => fldA Try.prog 31 L4 0 k w) (fun L5 w =>
    sti (fun k w => ld Try.prog 27 L5 k w) (fun L6 w =>
    sti (fun k w => ld Try.prog 49 n10 k w) (fun L8 w =>
    sti (fun k w => idxA Try.prog 27 L6 at9 k w) (fun L9 w =>
    sto Try.prog 49 L9 L8 (fun _t w =>
    K (Value.tuple #[]) w) w) w) w) w) w) w) w.drew) :
    cCode Try.prog (cd Try.f9 [1, 1, 1, 0, 1, 0, 1, 1, 0, 1, 1, 1, 1]) (retK Try.prog Try.f9.results.toList K) (fun i => @Bool.rec (fun _ => KE) ((fun _ _ _ => False) i) (retK Try.prog Try.f9.results.toList K) (Nat.beq i 0)) (retK Try.prog Try.f9.results.toList K) (a0::who1::k_2::x3::a4::who5::k_6::x7::id8::at9::n10::n11::x12::i13::at14::C2::C3::C4::C5::C6::C7::C8::C9::D0::D1::D2::D3::D4::D5::D6::D7::D8::D9::E0::E1::E2::E3::E4::E5::E6::E7::E8::E9::F0::F1::F2::F3::F4::F5::F6::F7::F8::F9::G0::G1::G2::G3::G4::G5::G6::G7::G8::G9::H0::H1::H2::H3::H4::H5::H6::H7::H8::H9::I0::I1::I2::I3::I4::I5::I6::I7::I8::I9::J0::J1::J2::J3::J4::J5::J6::J7::J8::J9::L0::L1::L2::L3::L4::L5::L6::L7::L8::L9::M0::M1::M2::M3::M4::M5::M6::M7::M8::M9::N0::N1::N2::N3::N4::N5::N6::N7::N8::N9::O0::O1::O2::O3::O4::O5::O6::O7::O8::O9::P0::P1::P2::P3::P4::P5::P6::P7::P8::P9::Q0::Q1::Q2::Q3::Q4::Q5::Q6::Q7::Q8::Q9::R0::R1::R2::R3::R4::R5::R6::R7::R8::R9::S0::S1::S2::S3::S4::S5::S6::S7::S8::S9::T0::T1::T2::T3::T4::T5::T6::T7::T8::T9::U0::U1::U2::U3::U4::U5::U6::U7::U8::U9::V0::V1::V2::V3::V4::V5::V6::V7::V8::V9::W0::W1::W2::W3::W4::W5::W6::W7::W8::W9::X0::X1::X2::X3::X4::X5::X6::X7::X8::X9::Y0::Y1::[]) w := Eq.mp (by kernel_rfl) h

theorem leatref26_Audit_Say_P2_r {K : KV} {w : World}
    (h : (fun w =>
    sti (fun k w => nilC a0 k w) (fun L4 w =>
    sti (fun k w => fldA Try.prog 31 L4 0 k w) (fun L5 w =>
    sti (fun k w => ld Try.prog 27 L5 k w) (fun L6 w =>
    sti (fun k w => ld Try.prog 49 n10 k w) (fun L8 w =>
    sti (fun k w => idxA Try.prog 27 L6 at9 k w) (fun L9 w =>
    sto Try.prog 49 L9 L8 (fun _t w =>
    K (Value.tuple #[]) w) w) w) w) w) w) w) w.drew) :
    leatref26_Audit_Say_P2 K (a0::who1::k_2::x3::a4::who5::k_6::x7::id8::at9::n10::n11::x12::i13::at14::C2::C3::C4::C5::C6::C7::C8::C9::D0::D1::D2::D3::D4::D5::D6::D7::D8::D9::E0::E1::E2::E3::E4::E5::E6::E7::E8::E9::F0::F1::F2::F3::F4::F5::F6::F7::F8::F9::G0::G1::G2::G3::G4::G5::G6::G7::G8::G9::H0::H1::H2::H3::H4::H5::H6::H7::H8::H9::I0::I1::I2::I3::I4::I5::I6::I7::I8::I9::J0::J1::J2::J3::J4::J5::J6::J7::J8::J9::L0::L1::L2::L3::L4::L5::L6::L7::L8::L9::M0::M1::M2::M3::M4::M5::M6::M7::M8::M9::N0::N1::N2::N3::N4::N5::N6::N7::N8::N9::O0::O1::O2::O3::O4::O5::O6::O7::O8::O9::P0::P1::P2::P3::P4::P5::P6::P7::P8::P9::Q0::Q1::Q2::Q3::Q4::Q5::Q6::Q7::Q8::Q9::R0::R1::R2::R3::R4::R5::R6::R7::R8::R9::S0::S1::S2::S3::S4::S5::S6::S7::S8::S9::T0::T1::T2::T3::T4::T5::T6::T7::T8::T9::U0::U1::U2::U3::U4::U5::U6::U7::U8::U9::V0::V1::V2::V3::V4::V5::V6::V7::V8::V9::W0::W1::W2::W3::W4::W5::W6::W7::W8::W9::X0::X1::X2::X3::X4::X5::X6::X7::X8::X9::Y0::Y1::[]) w := by
  delta leatref26_Audit_Say_P2
  exact Eq.mp (congrArg (fun c => cCode Try.prog c (retK Try.prog Try.f9.results.toList K) (fun i => @Bool.rec (fun _ => KE) ((fun _ _ _ => False) i) (retK Try.prog Try.f9.results.toList K) (Nat.beq i 0)) (retK Try.prog Try.f9.results.toList K) (a0::who1::k_2::x3::a4::who5::k_6::x7::id8::at9::n10::n11::x12::i13::at14::C2::C3::C4::C5::C6::C7::C8::C9::D0::D1::D2::D3::D4::D5::D6::D7::D8::D9::E0::E1::E2::E3::E4::E5::E6::E7::E8::E9::F0::F1::F2::F3::F4::F5::F6::F7::F8::F9::G0::G1::G2::G3::G4::G5::G6::G7::G8::G9::H0::H1::H2::H3::H4::H5::H6::H7::H8::H9::I0::I1::I2::I3::I4::I5::I6::I7::I8::I9::J0::J1::J2::J3::J4::J5::J6::J7::J8::J9::L0::L1::L2::L3::L4::L5::L6::L7::L8::L9::M0::M1::M2::M3::M4::M5::M6::M7::M8::M9::N0::N1::N2::N3::N4::N5::N6::N7::N8::N9::O0::O1::O2::O3::O4::O5::O6::O7::O8::O9::P0::P1::P2::P3::P4::P5::P6::P7::P8::P9::Q0::Q1::Q2::Q3::Q4::Q5::Q6::Q7::Q8::Q9::R0::R1::R2::R3::R4::R5::R6::R7::R8::R9::S0::S1::S2::S3::S4::S5::S6::S7::S8::S9::T0::T1::T2::T3::T4::T5::T6::T7::T8::T9::U0::U1::U2::U3::U4::U5::U6::U7::U8::U9::V0::V1::V2::V3::V4::V5::V6::V7::V8::V9::W0::W1::W2::W3::W4::W5::W6::W7::W8::W9::X0::X1::X2::X3::X4::X5::X6::X7::X8::X9::Y0::Y1::[]) w) (by kernel_rfl : (cd Try.f9 [1, 1, 1, 0, 1, 0, 1, 1, 0, 1, 1, 1, 1]) = (cd Try.f9 [1, 1, 1, 0, 1, 0, 1, 1, 0, 1, 1, 1, 1]))) (leatref26_Audit_Say_P2_k h)

end
theorem leatref26_Audit_Say_L2_k {K : KV} (B1 : KE) (qc0 : KE) {a0 who1 k_2 x3 a4 who5 k_6 x7 id8 at9 n10 n11 x12 i13' at14 C2 C3 C4 C5 C6 C7 C8 C9 D0 D1 D2 D3 D4 D5 D6 D7 D8 D9 E0 E1 E2 E3 E4 E5 E6 E7 E8 E9 F0 F1 F2 F3 F4 F5 F6 F7 F8 F9 G0 G1 G2 G3 G4 G5 G6 G7 G8 G9 H0 H1 H2 H3 H4 H5 H6 H7 H8 H9 I0 I1 I2 I3 I4 I5 I6 I7 I8 I9 J0 J1 J2 J3 J4 J5 J6 J7 J8 J9 L0 L1 L2 L3 L4 L5 L6 L7 L8 L9 M0 M1 M2 M3 M4 M5 M6 M7 M8 M9 N0 N1 N2 N3 N4 N5 N6 N7 N8 N9 O0 O1 O2 O3 O4 O5 O6 O7 O8 O9 P0 P1 P2 P3 P4 P5 P6 P7 P8 P9 Q0 Q1 Q2 Q3 Q4 Q5 R8' R9' S0' S1' S2' S3' S4' S5' S6' S7' S8' S9' T0' T1' T2' T3' T4' T5' T6' T7' T8' T9' U0' U3 U4 U5 U6 U7 U8 U9 V0 V1 V2 V3 V4 V5 V6 V7 V8 V9 W0 W1 W2 W3 W4 W5 W6 W7 W8 W9 X0 X1 X2 X3 X4 X5 X6 X7 X8 X9 Y0 Y1 : Value} {dd : Nat → Value} {w : World}
    (h : nilC a0 (fun Q8 w =>
    fldA Try.prog 31 Q8 3 (fun Q9 w =>
    ld Try.prog 29 Q9 (fun R0 w =>
    blt Try.prog Builtin.len #[29] 3 #[false] #[R0] (fun R1 w =>
    bin Try.prog BinOp.lss 3 false false i13' R1 (fun R2 w =>
    cond R2
      ((fun w =>
    sti (fun k w => fldA Try.prog 81 x12 4 k w) (fun R5 w =>
    sti (fun k w => ld Try.prog 4 R5 k w) (fun R6 w =>
    gsel R6 false (fun k161 =>
    sti (fun k w => nilC a0 k w) (fun R9 w =>
    sti (fun k w => fldA Try.prog 31 R9 3 k w) (fun S0 w =>
    sti (fun k w => ld Try.prog 29 S0 k w) (fun S1 w =>
    sti (fun k w => idxA Try.prog 29 S1 i13' k w) (fun S3 w =>
    sti (fun k w => fldA Try.prog 81 S3 0 k w) (fun S4 w =>
    sti (fun k w => ld Try.prog 3 S4 k w) (fun S5 w =>
    sti (fun k w => bin Try.prog BinOp.eql 3 false false S5 who1 k w) (fun S7 w =>
    k161 [a0, R9, S0, S1, i13', S3, S4, S5, who1, S7, S7] w) w) w) w) w) w) w) w)
    (fun k => k [undef, undef, undef, undef, undef, undef, undef, undef, undef, undef, undef] w) (fun us161 w =>
    gsel (gd us161 10) true (fun k172 =>
    sti (fun k w => nilC a0 k w) (fun T0 w =>
    sti (fun k w => fldA Try.prog 31 T0 3 k w) (fun T1 w =>
    sti (fun k w => ld Try.prog 29 T1 k w) (fun T2 w =>
    sti (fun k w => idxA Try.prog 29 T2 i13' k w) (fun T4 w =>
    sti (fun k w => fldA Try.prog 81 T4 1 k w) (fun T5 w =>
    sti (fun k w => ld Try.prog 33 T5 k w) (fun T6 w =>
    sti (fun k w => fldA Try.prog 35 k_6 4 k w) (fun T7 w =>
    sti (fun k w => ld Try.prog 33 T7 k w) (fun T8 w =>
    sti (fun k w => bin Try.prog BinOp.eql 33 false false T6 T8 k w) (fun T9 w =>
    k172 [a0, T0, T1, T2, i13', T4, T5, T6, T7, T8, T9] w) w) w) w) w) w) w) w) w) w)
    (fun k => k [undef, undef, undef, undef, undef, undef, undef, undef, undef, undef, undef] w) (fun us172 w =>
    gsel R6 false (fun k183 =>
    sti (fun k w => pick (gd us161 10) (gd us172 10) (Value.bool false) k w) (fun U0 w =>
    k183 [U0] w) w)
    (fun k => k [undef] w) (fun us183 w =>
    sti (fun k w => pick R6 (Value.bool true) (gd us183 0) k w) (fun U1 w =>
    sti (fun k w => fldA Try.prog 81 x12 4 k w) (fun U2 w =>
    sto Try.prog 4 U2 U1 (fun _t w =>
    bin Try.prog BinOp.add 3 false true i13' (Value.int IntKind.i64 1) (fun R4 w =>
    B1 (a0::who1::k_2::x3::a4::who5::k_6::x7::id8::at9::n10::n11::x12::R4::at14::C2::C3::C4::C5::C6::C7::C8::C9::D0::D1::D2::D3::D4::D5::D6::D7::D8::D9::E0::E1::E2::E3::E4::E5::E6::E7::E8::E9::F0::F1::F2::F3::F4::F5::F6::F7::F8::F9::G0::G1::G2::G3::G4::G5::G6::G7::G8::G9::H0::H1::H2::H3::H4::H5::H6::H7::H8::H9::I0::I1::I2::I3::I4::I5::I6::I7::I8::I9::J0::J1::J2::J3::J4::J5::J6::J7::J8::J9::L0::L1::L2::L3::L4::L5::L6::L7::L8::L9::M0::M1::M2::M3::M4::M5::M6::M7::M8::M9::N0::N1::N2::N3::N4::N5::N6::N7::N8::N9::O0::O1::O2::O3::O4::O5::O6::O7::O8::O9::P0::P1::P2::P3::P4::P5::P6::P7::P8::P9::Q0::Q1::Q2::Q3::Q4::Q5::i13'::a0::Q8::Q9::R0::R1::R2::i13'::R4::R5::R6::R6::(gd us161 0)::(gd us161 1)::(gd us161 2)::(gd us161 3)::(gd us161 4)::(gd us161 5)::(gd us161 6)::(gd us161 7)::(gd us161 8)::(gd us161 9)::(gd us161 10)::(gd us172 0)::(gd us172 1)::(gd us172 2)::(gd us172 3)::(gd us172 4)::(gd us172 5)::(gd us172 6)::(gd us172 7)::(gd us172 8)::(gd us172 9)::(gd us172 10)::(gd us183 0)::U1::U2::U3::U4::U5::U6::U7::U8::U9::V0::V1::V2::V3::V4::V5::V6::V7::V8::V9::W0::W1::W2::W3::W4::W5::W6::W7::W8::W9::X0::X1::X2::X3::X4::X5::X6::X7::X8::X9::Y0::Y1::[]) w) w) w) w) w)))) w) w) w.drew)
      (qc0 (a0::who1::k_2::x3::a4::who5::k_6::x7::id8::at9::n10::n11::x12::i13'::at14::C2::C3::C4::C5::C6::C7::C8::C9::D0::D1::D2::D3::D4::D5::D6::D7::D8::D9::E0::E1::E2::E3::E4::E5::E6::E7::E8::E9::F0::F1::F2::F3::F4::F5::F6::F7::F8::F9::G0::G1::G2::G3::G4::G5::G6::G7::G8::G9::H0::H1::H2::H3::H4::H5::H6::H7::H8::H9::I0::I1::I2::I3::I4::I5::I6::I7::I8::I9::J0::J1::J2::J3::J4::J5::J6::J7::J8::J9::L0::L1::L2::L3::L4::L5::L6::L7::L8::L9::M0::M1::M2::M3::M4::M5::M6::M7::M8::M9::N0::N1::N2::N3::N4::N5::N6::N7::N8::N9::O0::O1::O2::O3::O4::O5::O6::O7::O8::O9::P0::P1::P2::P3::P4::P5::P6::P7::P8::P9::Q0::Q1::Q2::Q3::Q4::Q5::i13'::a0::Q8::Q9::R0::R1::R2::(dd 156)::(dd 157)::(dd 158)::(dd 159)::(dd 160)::R8'::R9'::S0'::S1'::S2'::S3'::S4'::S5'::S6'::S7'::S8'::S9'::T0'::T1'::T2'::T3'::T4'::T5'::T6'::T7'::T8'::T9'::U0'::(dd 184)::(dd 185)::U3::U4::U5::U6::U7::U8::U9::V0::V1::V2::V3::V4::V5::V6::V7::V8::V9::W0::W1::W2::W3::W4::W5::W6::W7::W8::W9::X0::X1::X2::X3::X4::X5::X6::X7::X8::X9::Y0::Y1::[]) w)) w) w) w) w) w) :
    cCode Try.prog (cd Try.f9 [1, 1, 1, 0, 1, 1, 1, 1, 1, 0, 1, 0, 1, 1, 1, 0, 1, 0, 0]) B1 (fun i => @Bool.rec (fun _ => KE) ((fun i => @Bool.rec (fun _ => KE) ((fun _ _ _ => False) i) (retK Try.prog Try.f9.results.toList K) (Nat.beq i 0)) i) qc0 (Nat.beq i 3)) (retK Try.prog Try.f9.results.toList K) (a0::who1::k_2::x3::a4::who5::k_6::x7::id8::at9::n10::n11::x12::i13'::at14::C2::C3::C4::C5::C6::C7::C8::C9::D0::D1::D2::D3::D4::D5::D6::D7::D8::D9::E0::E1::E2::E3::E4::E5::E6::E7::E8::E9::F0::F1::F2::F3::F4::F5::F6::F7::F8::F9::G0::G1::G2::G3::G4::G5::G6::G7::G8::G9::H0::H1::H2::H3::H4::H5::H6::H7::H8::H9::I0::I1::I2::I3::I4::I5::I6::I7::I8::I9::J0::J1::J2::J3::J4::J5::J6::J7::J8::J9::L0::L1::L2::L3::L4::L5::L6::L7::L8::L9::M0::M1::M2::M3::M4::M5::M6::M7::M8::M9::N0::N1::N2::N3::N4::N5::N6::N7::N8::N9::O0::O1::O2::O3::O4::O5::O6::O7::O8::O9::P0::P1::P2::P3::P4::P5::P6::P7::P8::P9::Q0::Q1::Q2::Q3::Q4::Q5::(dd 149)::(dd 150)::(dd 151)::(dd 152)::(dd 153)::(dd 154)::(dd 155)::(dd 156)::(dd 157)::(dd 158)::(dd 159)::(dd 160)::R8'::R9'::S0'::S1'::S2'::S3'::S4'::S5'::S6'::S7'::S8'::S9'::T0'::T1'::T2'::T3'::T4'::T5'::T6'::T7'::T8'::T9'::U0'::(dd 184)::(dd 185)::U3::U4::U5::U6::U7::U8::U9::V0::V1::V2::V3::V4::V5::V6::V7::V8::V9::W0::W1::W2::W3::W4::W5::W6::W7::W8::W9::X0::X1::X2::X3::X4::X5::X6::X7::X8::X9::Y0::Y1::[]) w := Eq.mp (by kernel_rfl) h

section
variable {a0 who1 k_2 x3 a4 who5 k_6 x7 id8 at9 n10 n11 x12 i13 at14 C2 C3 C4 C5 C6 C7 C8 C9 D0 D1 D2 D3 D4 D5 D6 D7 D8 D9 E0 E1 E2 E3 E4 E5 E6 E7 E8 E9 F0 F1 F2 F3 F4 F5 F6 F7 F8 F9 G0 G1 G2 G3 G4 G5 G6 G7 G8 G9 H0 H1 H2 H3 H4 H5 H6 H7 H8 H9 I0 I1 I2 I3 I4 I5 I6 I7 I8 I9 J0 J1 J2 J3 J4 J5 J6 J7 J8 J9 L0 L1 L2 L3 L4 L5 L6 L7 L8 L9 M0 M1 M2 M3 M4 M5 M6 M7 M8 M9 N0 N1 N2 N3 N4 N5 N6 N7 N8 N9 O0 O1 O2 O3 O4 O5 O6 O7 O8 O9 P0 P1 P2 P3 P4 P5 P6 P7 P8 P9 Q0 Q1 Q2 Q3 Q4 Q5 Q6 Q7 Q8 Q9 R0 R1 R2 R3 R4 R5 R6 R7 R8 R9 S0 S1 S2 S3 S4 S5 S6 S7 S8 S9 T0 T1 T2 T3 T4 T5 T6 T7 T8 T9 U0 U1 U2 U3 U4 U5 U6 U7 U8 U9 V0 V1 V2 V3 V4 V5 V6 V7 V8 V9 W0 W1 W2 W3 W4 W5 W6 W7 W8 W9 X0 X1 X2 X3 X4 X5 X6 X7 X8 X9 Y0 Y1 : Value}
theorem leatref26_Audit_Say_L2_r {K : KV} {w : World} (Inv : Value → Value → Value → Value → Value → Value → Value → Value → Value → Value → Value → Value → Value → Value → Value → Value → Value → Value → Value → Value → Value → Value → Value → Value → World → Prop) (μ : Value → Value → Value → Value → Value → Value → Value → Value → Value → Value → Value → Value → Value → Value → Value → Value → Value → Value → Value → Value → Value → Value → Value → Value → World → Nat) (h0 : Inv i13 R8 R9 S0 S1 S2 S3 S4 S5 S6 S7 S8 S9 T0 T1 T2 T3 T4 T5 T6 T7 T8 T9 U0 w)
    (hs : ∀ (i13' R8' R9' S0' S1' S2' S3' S4' S5' S6' S7' S8' S9' T0' T1' T2' T3' T4' T5' T6' T7' T8' T9' U0' : Value) (dd : Nat → Value) (w : World) (m : Nat), Inv i13' R8' R9' S0' S1' S2' S3' S4' S5' S6' S7' S8' S9' T0' T1' T2' T3' T4' T5' T6' T7' T8' T9' U0' w → m = μ i13' R8' R9' S0' S1' S2' S3' S4' S5' S6' S7' S8' S9' T0' T1' T2' T3' T4' T5' T6' T7' T8' T9' U0' w →
    nilC a0 (fun Q8 w =>
    fldA Try.prog 31 Q8 3 (fun Q9 w =>
    ld Try.prog 29 Q9 (fun R0 w =>
    blt Try.prog Builtin.len #[29] 3 #[false] #[R0] (fun R1 w =>
    bin Try.prog BinOp.lss 3 false false i13' R1 (fun R2 w =>
    cond R2
      ((fun w =>
    sti (fun k w => fldA Try.prog 81 x12 4 k w) (fun R5 w =>
    sti (fun k w => ld Try.prog 4 R5 k w) (fun R6 w =>
    gsel R6 false (fun k161 =>
    sti (fun k w => nilC a0 k w) (fun R9 w =>
    sti (fun k w => fldA Try.prog 31 R9 3 k w) (fun S0 w =>
    sti (fun k w => ld Try.prog 29 S0 k w) (fun S1 w =>
    sti (fun k w => idxA Try.prog 29 S1 i13' k w) (fun S3 w =>
    sti (fun k w => fldA Try.prog 81 S3 0 k w) (fun S4 w =>
    sti (fun k w => ld Try.prog 3 S4 k w) (fun S5 w =>
    sti (fun k w => bin Try.prog BinOp.eql 3 false false S5 who1 k w) (fun S7 w =>
    k161 [a0, R9, S0, S1, i13', S3, S4, S5, who1, S7, S7] w) w) w) w) w) w) w) w)
    (fun k => k [undef, undef, undef, undef, undef, undef, undef, undef, undef, undef, undef] w) (fun us161 w =>
    gsel (gd us161 10) true (fun k172 =>
    sti (fun k w => nilC a0 k w) (fun T0 w =>
    sti (fun k w => fldA Try.prog 31 T0 3 k w) (fun T1 w =>
    sti (fun k w => ld Try.prog 29 T1 k w) (fun T2 w =>
    sti (fun k w => idxA Try.prog 29 T2 i13' k w) (fun T4 w =>
    sti (fun k w => fldA Try.prog 81 T4 1 k w) (fun T5 w =>
    sti (fun k w => ld Try.prog 33 T5 k w) (fun T6 w =>
    sti (fun k w => fldA Try.prog 35 k_6 4 k w) (fun T7 w =>
    sti (fun k w => ld Try.prog 33 T7 k w) (fun T8 w =>
    sti (fun k w => bin Try.prog BinOp.eql 33 false false T6 T8 k w) (fun T9 w =>
    k172 [a0, T0, T1, T2, i13', T4, T5, T6, T7, T8, T9] w) w) w) w) w) w) w) w) w) w)
    (fun k => k [undef, undef, undef, undef, undef, undef, undef, undef, undef, undef, undef] w) (fun us172 w =>
    gsel R6 false (fun k183 =>
    sti (fun k w => pick (gd us161 10) (gd us172 10) (Value.bool false) k w) (fun U0 w =>
    k183 [U0] w) w)
    (fun k => k [undef] w) (fun us183 w =>
    sti (fun k w => pick R6 (Value.bool true) (gd us183 0) k w) (fun U1 w =>
    sti (fun k w => fldA Try.prog 81 x12 4 k w) (fun U2 w =>
    sto Try.prog 4 U2 U1 (fun _t w =>
    bin Try.prog BinOp.add 3 false true i13' (Value.int IntKind.i64 1) (fun R4 w =>
    (Inv R4 (gd us161 0) (gd us161 1) (gd us161 2) (gd us161 3) (gd us161 4) (gd us161 5) (gd us161 6) (gd us161 7) (gd us161 8) (gd us161 9) (gd us161 10) (gd us172 0) (gd us172 1) (gd us172 2) (gd us172 3) (gd us172 4) (gd us172 5) (gd us172 6) (gd us172 7) (gd us172 8) (gd us172 9) (gd us172 10) (gd us183 0) w ∧ μ R4 (gd us161 0) (gd us161 1) (gd us161 2) (gd us161 3) (gd us161 4) (gd us161 5) (gd us161 6) (gd us161 7) (gd us161 8) (gd us161 9) (gd us161 10) (gd us172 0) (gd us172 1) (gd us172 2) (gd us172 3) (gd us172 4) (gd us172 5) (gd us172 6) (gd us172 7) (gd us172 8) (gd us172 9) (gd us172 10) (gd us183 0) w < m)) w) w) w) w)))) w) w) w.drew)
      ((leatref26_Audit_Say_P3 K) (a0::who1::k_2::x3::a4::who5::k_6::x7::id8::at9::n10::n11::x12::i13'::at14::C2::C3::C4::C5::C6::C7::C8::C9::D0::D1::D2::D3::D4::D5::D6::D7::D8::D9::E0::E1::E2::E3::E4::E5::E6::E7::E8::E9::F0::F1::F2::F3::F4::F5::F6::F7::F8::F9::G0::G1::G2::G3::G4::G5::G6::G7::G8::G9::H0::H1::H2::H3::H4::H5::H6::H7::H8::H9::I0::I1::I2::I3::I4::I5::I6::I7::I8::I9::J0::J1::J2::J3::J4::J5::J6::J7::J8::J9::L0::L1::L2::L3::L4::L5::L6::L7::L8::L9::M0::M1::M2::M3::M4::M5::M6::M7::M8::M9::N0::N1::N2::N3::N4::N5::N6::N7::N8::N9::O0::O1::O2::O3::O4::O5::O6::O7::O8::O9::P0::P1::P2::P3::P4::P5::P6::P7::P8::P9::Q0::Q1::Q2::Q3::Q4::Q5::i13'::a0::Q8::Q9::R0::R1::R2::(dd 156)::(dd 157)::(dd 158)::(dd 159)::(dd 160)::R8'::R9'::S0'::S1'::S2'::S3'::S4'::S5'::S6'::S7'::S8'::S9'::T0'::T1'::T2'::T3'::T4'::T5'::T6'::T7'::T8'::T9'::U0'::(dd 184)::(dd 185)::U3::U4::U5::U6::U7::U8::U9::V0::V1::V2::V3::V4::V5::V6::V7::V8::V9::W0::W1::W2::W3::W4::W5::W6::W7::W8::W9::X0::X1::X2::X3::X4::X5::X6::X7::X8::X9::Y0::Y1::[]) w)) w) w) w) w) w) :
    leatref26_Audit_Say_L2 K (a0::who1::k_2::x3::a4::who5::k_6::x7::id8::at9::n10::n11::x12::i13::at14::C2::C3::C4::C5::C6::C7::C8::C9::D0::D1::D2::D3::D4::D5::D6::D7::D8::D9::E0::E1::E2::E3::E4::E5::E6::E7::E8::E9::F0::F1::F2::F3::F4::F5::F6::F7::F8::F9::G0::G1::G2::G3::G4::G5::G6::G7::G8::G9::H0::H1::H2::H3::H4::H5::H6::H7::H8::H9::I0::I1::I2::I3::I4::I5::I6::I7::I8::I9::J0::J1::J2::J3::J4::J5::J6::J7::J8::J9::L0::L1::L2::L3::L4::L5::L6::L7::L8::L9::M0::M1::M2::M3::M4::M5::M6::M7::M8::M9::N0::N1::N2::N3::N4::N5::N6::N7::N8::N9::O0::O1::O2::O3::O4::O5::O6::O7::O8::O9::P0::P1::P2::P3::P4::P5::P6::P7::P8::P9::Q0::Q1::Q2::Q3::Q4::Q5::Q6::Q7::Q8::Q9::R0::R1::R2::R3::R4::R5::R6::R7::R8::R9::S0::S1::S2::S3::S4::S5::S6::S7::S8::S9::T0::T1::T2::T3::T4::T5::T6::T7::T8::T9::U0::U1::U2::U3::U4::U5::U6::U7::U8::U9::V0::V1::V2::V3::V4::V5::V6::V7::V8::V9::W0::W1::W2::W3::W4::W5::W6::W7::W8::W9::X0::X1::X2::X3::X4::X5::X6::X7::X8::X9::Y0::Y1::[]) w := by
  refine loop_rule (cd Try.f9 [1, 1, 1, 0, 1, 1, 1, 1, 1, 0, 1, 0, 1, 1, 1, 0, 1, 0, 0]) [13, 149, 150, 151, 152, 153, 154, 155, 156, 157, 158, 159, 160, 161, 162, 163, 164, 165, 166, 167, 168, 169, 170, 171, 172, 173, 174, 175, 176, 177, 178, 179, 180, 181, 182, 183, 184, 185] (by kernel_rfl) (fun e2 w2 => Inv (gd e2 13) (gd e2 161) (gd e2 162) (gd e2 163) (gd e2 164) (gd e2 165) (gd e2 166) (gd e2 167) (gd e2 168) (gd e2 169) (gd e2 170) (gd e2 171) (gd e2 172) (gd e2 173) (gd e2 174) (gd e2 175) (gd e2 176) (gd e2 177) (gd e2 178) (gd e2 179) (gd e2 180) (gd e2 181) (gd e2 182) (gd e2 183) w2) (fun e2 w2 => μ (gd e2 13) (gd e2 161) (gd e2 162) (gd e2 163) (gd e2 164) (gd e2 165) (gd e2 166) (gd e2 167) (gd e2 168) (gd e2 169) (gd e2 170) (gd e2 171) (gd e2 172) (gd e2 173) (gd e2 174) (gd e2 175) (gd e2 176) (gd e2 177) (gd e2 178) (gd e2 179) (gd e2 180) (gd e2 181) (gd e2 182) (gd e2 183) w2) h0 ?_
  intro e' w' hI
  have h := hs (gd e' 13) (gd e' 161) (gd e' 162) (gd e' 163) (gd e' 164) (gd e' 165) (gd e' 166) (gd e' 167) (gd e' 168) (gd e' 169) (gd e' 170) (gd e' 171) (gd e' 172) (gd e' 173) (gd e' 174) (gd e' 175) (gd e' 176) (gd e' 177) (gd e' 178) (gd e' 179) (gd e' 180) (gd e' 181) (gd e' 182) (gd e' 183) (fun i => gd e' i) w' _ hI rfl
  have h2 : cCode Try.prog (cd Try.f9 [1, 1, 1, 0, 1, 1, 1, 1, 1, 0, 1, 0, 1, 1, 1, 0, 1, 0, 0]) (fun e2 w2 => Inv (gd e2 13) (gd e2 161) (gd e2 162) (gd e2 163) (gd e2 164) (gd e2 165) (gd e2 166) (gd e2 167) (gd e2 168) (gd e2 169) (gd e2 170) (gd e2 171) (gd e2 172) (gd e2 173) (gd e2 174) (gd e2 175) (gd e2 176) (gd e2 177) (gd e2 178) (gd e2 179) (gd e2 180) (gd e2 181) (gd e2 182) (gd e2 183) w2 ∧ μ (gd e2 13) (gd e2 161) (gd e2 162) (gd e2 163) (gd e2 164) (gd e2 165) (gd e2 166) (gd e2 167) (gd e2 168) (gd e2 169) (gd e2 170) (gd e2 171) (gd e2 172) (gd e2 173) (gd e2 174) (gd e2 175) (gd e2 176) (gd e2 177) (gd e2 178) (gd e2 179) (gd e2 180) (gd e2 181) (gd e2 182) (gd e2 183) w2 < μ (gd e' 13) (gd e' 161) (gd e' 162) (gd e' 163) (gd e' 164) (gd e' 165) (gd e' 166) (gd e' 167) (gd e' 168) (gd e' 169) (gd e' 170) (gd e' 171) (gd e' 172) (gd e' 173) (gd e' 174) (gd e' 175) (gd e' 176) (gd e' 177) (gd e' 178) (gd e' 179) (gd e' 180) (gd e' 181) (gd e' 182) (gd e' 183) w') (fun i => @Bool.rec (fun _ => KE) ((fun i => @Bool.rec (fun _ => KE) ((fun _ _ _ => False) i) (retK Try.prog Try.f9.results.toList K) (Nat.beq i 0)) i) (leatref26_Audit_Say_P3 K) (Nat.beq i 3)) (retK Try.prog Try.f9.results.toList K) (a0::who1::k_2::x3::a4::who5::k_6::x7::id8::at9::n10::n11::x12::(gd e' 13)::at14::C2::C3::C4::C5::C6::C7::C8::C9::D0::D1::D2::D3::D4::D5::D6::D7::D8::D9::E0::E1::E2::E3::E4::E5::E6::E7::E8::E9::F0::F1::F2::F3::F4::F5::F6::F7::F8::F9::G0::G1::G2::G3::G4::G5::G6::G7::G8::G9::H0::H1::H2::H3::H4::H5::H6::H7::H8::H9::I0::I1::I2::I3::I4::I5::I6::I7::I8::I9::J0::J1::J2::J3::J4::J5::J6::J7::J8::J9::L0::L1::L2::L3::L4::L5::L6::L7::L8::L9::M0::M1::M2::M3::M4::M5::M6::M7::M8::M9::N0::N1::N2::N3::N4::N5::N6::N7::N8::N9::O0::O1::O2::O3::O4::O5::O6::O7::O8::O9::P0::P1::P2::P3::P4::P5::P6::P7::P8::P9::Q0::Q1::Q2::Q3::Q4::Q5::(gd e' 149)::(gd e' 150)::(gd e' 151)::(gd e' 152)::(gd e' 153)::(gd e' 154)::(gd e' 155)::(gd e' 156)::(gd e' 157)::(gd e' 158)::(gd e' 159)::(gd e' 160)::(gd e' 161)::(gd e' 162)::(gd e' 163)::(gd e' 164)::(gd e' 165)::(gd e' 166)::(gd e' 167)::(gd e' 168)::(gd e' 169)::(gd e' 170)::(gd e' 171)::(gd e' 172)::(gd e' 173)::(gd e' 174)::(gd e' 175)::(gd e' 176)::(gd e' 177)::(gd e' 178)::(gd e' 179)::(gd e' 180)::(gd e' 181)::(gd e' 182)::(gd e' 183)::(gd e' 184)::(gd e' 185)::U3::U4::U5::U6::U7::U8::U9::V0::V1::V2::V3::V4::V5::V6::V7::V8::V9::W0::W1::W2::W3::W4::W5::W6::W7::W8::W9::X0::X1::X2::X3::X4::X5::X6::X7::X8::X9::Y0::Y1::[]) w' := leatref26_Audit_Say_L2_k (fun e2 w2 => Inv (gd e2 13) (gd e2 161) (gd e2 162) (gd e2 163) (gd e2 164) (gd e2 165) (gd e2 166) (gd e2 167) (gd e2 168) (gd e2 169) (gd e2 170) (gd e2 171) (gd e2 172) (gd e2 173) (gd e2 174) (gd e2 175) (gd e2 176) (gd e2 177) (gd e2 178) (gd e2 179) (gd e2 180) (gd e2 181) (gd e2 182) (gd e2 183) w2 ∧ μ (gd e2 13) (gd e2 161) (gd e2 162) (gd e2 163) (gd e2 164) (gd e2 165) (gd e2 166) (gd e2 167) (gd e2 168) (gd e2 169) (gd e2 170) (gd e2 171) (gd e2 172) (gd e2 173) (gd e2 174) (gd e2 175) (gd e2 176) (gd e2 177) (gd e2 178) (gd e2 179) (gd e2 180) (gd e2 181) (gd e2 182) (gd e2 183) w2 < μ (gd e' 13) (gd e' 161) (gd e' 162) (gd e' 163) (gd e' 164) (gd e' 165) (gd e' 166) (gd e' 167) (gd e' 168) (gd e' 169) (gd e' 170) (gd e' 171) (gd e' 172) (gd e' 173) (gd e' 174) (gd e' 175) (gd e' 176) (gd e' 177) (gd e' 178) (gd e' 179) (gd e' 180) (gd e' 181) (gd e' 182) (gd e' 183) w') (leatref26_Audit_Say_P3 K) (Eq.mp (by kernel_rfl) h)
  exact Eq.mp (by kernel_rfl) h2

theorem leatref26_Audit_Say_P3_k {K : KV} {w : World}
    (h : hReg (fun S w =>
    hld S (fun k w => nilC a0 k w) (fun U5 =>
    hld S (fun k w => fldA Try.prog 31 U5 2 k w) (fun U6 =>
    hld S (fun k w => ld Try.prog 29 U6 k w) (fun U7 =>
    hld S (fun k w => ld Try.prog 81 x12 k w) (fun U8 =>
    bldS Try.prog 29 1 #[(0, U8)] (fun U9 w =>
    hSub S (fun S w =>
    blt Try.prog Builtin.append #[29, 29] 29 #[false, false] #[U7, U9] (fun V0 w =>
    hReg (fun S w =>
    hld S (fun k w => nilC a0 k w) (fun V1 =>
    hld S (fun k w => fldA Try.prog 31 V1 2 k w) (fun V2 =>
    sto Try.prog 29 V2 V0 (fun _t w =>
    K (Value.tuple #[]) w) w))) w) w) w) w))))) w.drew) :
    cCode Try.prog (cd Try.f9 [1, 1, 1, 0, 1, 1, 1, 1, 1, 0, 1, 0, 1, 1, 1, 1]) (retK Try.prog Try.f9.results.toList K) (fun i => @Bool.rec (fun _ => KE) ((fun _ _ _ => False) i) (retK Try.prog Try.f9.results.toList K) (Nat.beq i 0)) (retK Try.prog Try.f9.results.toList K) (a0::who1::k_2::x3::a4::who5::k_6::x7::id8::at9::n10::n11::x12::i13::at14::C2::C3::C4::C5::C6::C7::C8::C9::D0::D1::D2::D3::D4::D5::D6::D7::D8::D9::E0::E1::E2::E3::E4::E5::E6::E7::E8::E9::F0::F1::F2::F3::F4::F5::F6::F7::F8::F9::G0::G1::G2::G3::G4::G5::G6::G7::G8::G9::H0::H1::H2::H3::H4::H5::H6::H7::H8::H9::I0::I1::I2::I3::I4::I5::I6::I7::I8::I9::J0::J1::J2::J3::J4::J5::J6::J7::J8::J9::L0::L1::L2::L3::L4::L5::L6::L7::L8::L9::M0::M1::M2::M3::M4::M5::M6::M7::M8::M9::N0::N1::N2::N3::N4::N5::N6::N7::N8::N9::O0::O1::O2::O3::O4::O5::O6::O7::O8::O9::P0::P1::P2::P3::P4::P5::P6::P7::P8::P9::Q0::Q1::Q2::Q3::Q4::Q5::Q6::Q7::Q8::Q9::R0::R1::R2::R3::R4::R5::R6::R7::R8::R9::S0::S1::S2::S3::S4::S5::S6::S7::S8::S9::T0::T1::T2::T3::T4::T5::T6::T7::T8::T9::U0::U1::U2::U3::U4::U5::U6::U7::U8::U9::V0::V1::V2::V3::V4::V5::V6::V7::V8::V9::W0::W1::W2::W3::W4::W5::W6::W7::W8::W9::X0::X1::X2::X3::X4::X5::X6::X7::X8::X9::Y0::Y1::[]) w := Eq.mp (by kernel_rfl) h

theorem leatref26_Audit_Say_P3_r {K : KV} {w : World}
    (h : hReg (fun S w =>
    hld S (fun k w => nilC a0 k w) (fun U5 =>
    hld S (fun k w => fldA Try.prog 31 U5 2 k w) (fun U6 =>
    hld S (fun k w => ld Try.prog 29 U6 k w) (fun U7 =>
    hld S (fun k w => ld Try.prog 81 x12 k w) (fun U8 =>
    bldS Try.prog 29 1 #[(0, U8)] (fun U9 w =>
    hSub S (fun S w =>
    blt Try.prog Builtin.append #[29, 29] 29 #[false, false] #[U7, U9] (fun V0 w =>
    hReg (fun S w =>
    hld S (fun k w => nilC a0 k w) (fun V1 =>
    hld S (fun k w => fldA Try.prog 31 V1 2 k w) (fun V2 =>
    sto Try.prog 29 V2 V0 (fun _t w =>
    K (Value.tuple #[]) w) w))) w) w) w) w))))) w.drew) :
    leatref26_Audit_Say_P3 K (a0::who1::k_2::x3::a4::who5::k_6::x7::id8::at9::n10::n11::x12::i13::at14::C2::C3::C4::C5::C6::C7::C8::C9::D0::D1::D2::D3::D4::D5::D6::D7::D8::D9::E0::E1::E2::E3::E4::E5::E6::E7::E8::E9::F0::F1::F2::F3::F4::F5::F6::F7::F8::F9::G0::G1::G2::G3::G4::G5::G6::G7::G8::G9::H0::H1::H2::H3::H4::H5::H6::H7::H8::H9::I0::I1::I2::I3::I4::I5::I6::I7::I8::I9::J0::J1::J2::J3::J4::J5::J6::J7::J8::J9::L0::L1::L2::L3::L4::L5::L6::L7::L8::L9::M0::M1::M2::M3::M4::M5::M6::M7::M8::M9::N0::N1::N2::N3::N4::N5::N6::N7::N8::N9::O0::O1::O2::O3::O4::O5::O6::O7::O8::O9::P0::P1::P2::P3::P4::P5::P6::P7::P8::P9::Q0::Q1::Q2::Q3::Q4::Q5::Q6::Q7::Q8::Q9::R0::R1::R2::R3::R4::R5::R6::R7::R8::R9::S0::S1::S2::S3::S4::S5::S6::S7::S8::S9::T0::T1::T2::T3::T4::T5::T6::T7::T8::T9::U0::U1::U2::U3::U4::U5::U6::U7::U8::U9::V0::V1::V2::V3::V4::V5::V6::V7::V8::V9::W0::W1::W2::W3::W4::W5::W6::W7::W8::W9::X0::X1::X2::X3::X4::X5::X6::X7::X8::X9::Y0::Y1::[]) w := by
  delta leatref26_Audit_Say_P3
  exact Eq.mp (congrArg (fun c => cCode Try.prog c (retK Try.prog Try.f9.results.toList K) (fun i => @Bool.rec (fun _ => KE) ((fun _ _ _ => False) i) (retK Try.prog Try.f9.results.toList K) (Nat.beq i 0)) (retK Try.prog Try.f9.results.toList K) (a0::who1::k_2::x3::a4::who5::k_6::x7::id8::at9::n10::n11::x12::i13::at14::C2::C3::C4::C5::C6::C7::C8::C9::D0::D1::D2::D3::D4::D5::D6::D7::D8::D9::E0::E1::E2::E3::E4::E5::E6::E7::E8::E9::F0::F1::F2::F3::F4::F5::F6::F7::F8::F9::G0::G1::G2::G3::G4::G5::G6::G7::G8::G9::H0::H1::H2::H3::H4::H5::H6::H7::H8::H9::I0::I1::I2::I3::I4::I5::I6::I7::I8::I9::J0::J1::J2::J3::J4::J5::J6::J7::J8::J9::L0::L1::L2::L3::L4::L5::L6::L7::L8::L9::M0::M1::M2::M3::M4::M5::M6::M7::M8::M9::N0::N1::N2::N3::N4::N5::N6::N7::N8::N9::O0::O1::O2::O3::O4::O5::O6::O7::O8::O9::P0::P1::P2::P3::P4::P5::P6::P7::P8::P9::Q0::Q1::Q2::Q3::Q4::Q5::Q6::Q7::Q8::Q9::R0::R1::R2::R3::R4::R5::R6::R7::R8::R9::S0::S1::S2::S3::S4::S5::S6::S7::S8::S9::T0::T1::T2::T3::T4::T5::T6::T7::T8::T9::U0::U1::U2::U3::U4::U5::U6::U7::U8::U9::V0::V1::V2::V3::V4::V5::V6::V7::V8::V9::W0::W1::W2::W3::W4::W5::W6::W7::W8::W9::X0::X1::X2::X3::X4::X5::X6::X7::X8::X9::Y0::Y1::[]) w) (by kernel_rfl : (cd Try.f9 [1, 1, 1, 0, 1, 1, 1, 1, 1, 0, 1, 0, 1, 1, 1, 1]) = (cd Try.f9 [1, 1, 1, 0, 1, 1, 1, 1, 1, 0, 1, 0, 1, 1, 1, 1]))) (leatref26_Audit_Say_P3_k h)
attribute [irreducible] leatref26_Audit_Say_A1 leatref26_Audit_Say_A2 leatref26_Audit_Say_A3 leatref26_Audit_Say_P1 leatref26_Audit_Say_A4 leatref26_Audit_Say_A5 leatref26_Audit_Say_P2 leatref26_Audit_Say_L1 leatref26_Audit_Say_P3 leatref26_Audit_Say_L2

def leatref26_Audit_Sums_P1 (K : KV) : KE := cCode Try.prog (cd Try.f11 [1, 1, 1, 1, 1, 1]) (retK Try.prog Try.f11.results.toList K) (fun _ _ _ => False) (retK Try.prog Try.f11.results.toList K)
def leatref26_Audit_Sums_L1 (K : KV) : KE := cCode Try.prog (cd Try.f11 [1, 1, 1, 1, 1, 0, 1, 0]) (leatref26_Audit_Sums_P1 K) (fun i => @Bool.rec (fun _ => KE) ((fun _ _ _ => False) i) (leatref26_Audit_Sums_P1 K) (Nat.beq i 0)) (retK Try.prog Try.f11.results.toList K)
def leatref26_Audit_Sums_P2 (K : KV) (B1 : KE) : KE := cCode Try.prog (cd Try.f11 [1, 1, 1, 1, 1, 0, 1, 0, 0, 1, 1]) B1 (fun i => @Bool.rec (fun _ => KE) ((fun _ _ _ => False) i) (leatref26_Audit_Sums_P1 K) (Nat.beq i 0)) (retK Try.prog Try.f11.results.toList K)
def leatref26_Audit_Sums_A1 (K : KV) (B1 : KE) : KE := cCode Try.prog (cd Try.f11 [1, 1, 1, 1, 1, 0, 1, 0, 0, 1, 0]) (leatref26_Audit_Sums_P2 K B1) (fun i => @Bool.rec (fun _ => KE) ((fun _ _ _ => False) i) (leatref26_Audit_Sums_P1 K) (Nat.beq i 0)) (retK Try.prog Try.f11.results.toList K)
def leatref26_Audit_Sums_P3 (K : KV) : KE := cCode Try.prog (cd Try.f11 [1, 1, 1, 1, 1, 1, 1]) (retK Try.prog Try.f11.results.toList K) (fun _ _ _ => False) (retK Try.prog Try.f11.results.toList K)
def leatref26_Audit_Sums_L2 (K : KV) : KE := cCode Try.prog (cd Try.f11 [1, 1, 1, 1, 1, 1, 0, 1, 0]) (leatref26_Audit_Sums_P3 K) (fun i => @Bool.rec (fun _ => KE) ((fun _ _ _ => False) i) (leatref26_Audit_Sums_P3 K) (Nat.beq i 2)) (retK Try.prog Try.f11.results.toList K)
def leatref26_Audit_Sums_P4 (K : KV) (B1 : KE) : KE := cCode Try.prog (cd Try.f11 [1, 1, 1, 1, 1, 1, 0, 1, 0, 0, 1, 1]) B1 (fun i => @Bool.rec (fun _ => KE) ((fun _ _ _ => False) i) (leatref26_Audit_Sums_P3 K) (Nat.beq i 2)) (retK Try.prog Try.f11.results.toList K)
def leatref26_Audit_Sums_A2 (K : KV) (B1 : KE) : KE := cCode Try.prog (cd Try.f11 [1, 1, 1, 1, 1, 1, 0, 1, 0, 0, 1, 0]) (leatref26_Audit_Sums_P4 K B1) (fun i => @Bool.rec (fun _ => KE) ((fun _ _ _ => False) i) (leatref26_Audit_Sums_P3 K) (Nat.beq i 2)) (retK Try.prog Try.f11.results.toList K)
end
theorem leatref26_Audit_Sums_k {K : KV} {a0 id1 : Value} {w : World}
    (h : call Try.prog 19 #[a0, id1] (fun C1 w =>
    bin Try.prog BinOp.lss 3 false true C1 (Value.int IntKind.i64 0) (fun C3 w =>
    cond C3
      (K (Value.tuple #[(Value.int IntKind.i64 0), (Value.int IntKind.i64 0), (Value.int IntKind.i64 9)]) w)
      (nilC a0 (fun C5 w =>
    fldA Try.prog 31 C5 0 (fun C6 w =>
    ld Try.prog 27 C6 (fun C7 w =>
    idxA Try.prog 27 C7 C1 (fun C9 w =>
    fldA Try.prog 49 C9 2 (fun D0 w =>
    ld Try.prog 2 D0 (fun D1 w =>
    (cCode Try.prog (cd Try.f11 [1, 1, 1, 1, 1, 0, 1, 0]) (cCode Try.prog (cd Try.f11 [1, 1, 1, 1, 1, 1]) (retK Try.prog Try.f11.results.toList K) (fun _ _ _ => False) (retK Try.prog Try.f11.results.toList K)) (fun i => @Bool.rec (fun _ => KE) ((fun _ _ _ => False) i) (cCode Try.prog (cd Try.f11 [1, 1, 1, 1, 1, 1]) (retK Try.prog Try.f11.results.toList K) (fun _ _ _ => False) (retK Try.prog Try.f11.results.toList K)) (Nat.beq i 0)) (retK Try.prog Try.f11.results.toList K)) (a0::id1::undef::undef::(Value.int IntKind.i64 0)::(Value.int IntKind.i64 0)::(Value.int IntKind.i64 0)::C1::D1::(Value.int IntKind.i64 0)::(Value.int IntKind.i64 0)::undef::a0::id1::C1::C1::C3::a0::C5::C6::C7::C1::C9::D0::D1::undef::undef::undef::undef::undef::undef::undef::undef::undef::undef::undef::undef::undef::undef::undef::undef::undef::undef::undef::undef::undef::undef::undef::undef::undef::undef::undef::undef::undef::undef::undef::undef::undef::undef::undef::undef::undef::undef::undef::undef::undef::undef::undef::undef::undef::undef::undef::undef::undef::undef::undef::undef::undef::undef::undef::undef::undef::undef::undef::undef::undef::undef::undef::undef::undef::undef::undef::undef::undef::undef::undef::undef::[]) w) w) w) w) w) w) w)) w) w) :
    cCode Try.prog (cd Try.f11 []) (retK Try.prog Try.f11.results.toList K) (fun _ _ _ => False) (retK Try.prog Try.f11.results.toList K) (a0::id1::undef::undef::undef::undef::undef::undef::undef::undef::undef::undef::undef::undef::undef::undef::undef::undef::undef::undef::undef::undef::undef::undef::undef::undef::undef::undef::undef::undef::undef::undef::undef::undef::undef::undef::undef::undef::undef::undef::undef::undef::undef::undef::undef::undef::undef::undef::undef::undef::undef::undef::undef::undef::undef::undef::undef::undef::undef::undef::undef::undef::undef::undef::undef::undef::undef::undef::undef::undef::undef::undef::undef::undef::undef::undef::undef::undef::undef::undef::undef::undef::undef::undef::undef::undef::undef::undef::undef::undef::undef::undef::undef::undef::undef::undef::undef::[]) w := Eq.mp (by kernel_rfl) h

theorem leatref26_Audit_Sums_in {K : KV} {a0 id1 : Value} {w : World}
    (h : call Try.prog 19 #[a0, id1] (fun C1 w =>
    bin Try.prog BinOp.lss 3 false true C1 (Value.int IntKind.i64 0) (fun C3 w =>
    cond C3
      (K (Value.tuple #[(Value.int IntKind.i64 0), (Value.int IntKind.i64 0), (Value.int IntKind.i64 9)]) w)
      (nilC a0 (fun C5 w =>
    fldA Try.prog 31 C5 0 (fun C6 w =>
    ld Try.prog 27 C6 (fun C7 w =>
    idxA Try.prog 27 C7 C1 (fun C9 w =>
    fldA Try.prog 49 C9 2 (fun D0 w =>
    ld Try.prog 2 D0 (fun D1 w =>
    (leatref26_Audit_Sums_L1 K) (a0::id1::undef::undef::(Value.int IntKind.i64 0)::(Value.int IntKind.i64 0)::(Value.int IntKind.i64 0)::C1::D1::(Value.int IntKind.i64 0)::(Value.int IntKind.i64 0)::undef::a0::id1::C1::C1::C3::a0::C5::C6::C7::C1::C9::D0::D1::undef::undef::undef::undef::undef::undef::undef::undef::undef::undef::undef::undef::undef::undef::undef::undef::undef::undef::undef::undef::undef::undef::undef::undef::undef::undef::undef::undef::undef::undef::undef::undef::undef::undef::undef::undef::undef::undef::undef::undef::undef::undef::undef::undef::undef::undef::undef::undef::undef::undef::undef::undef::undef::undef::undef::undef::undef::undef::undef::undef::undef::undef::undef::undef::undef::undef::undef::undef::undef::undef::undef::undef::[]) w) w) w) w) w) w) w)) w) w) :
    Gives Try.prog 11 #[a0, id1] w K := enter' Try.func11 (by kernel_rfl) (Eq.mp (congrArg (fun c => cCode Try.prog c (retK Try.prog Try.f11.results.toList K) (fun _ _ _ => False) (retK Try.prog Try.f11.results.toList K) (a0::id1::undef::undef::undef::undef::undef::undef::undef::undef::undef::undef::undef::undef::undef::undef::undef::undef::undef::undef::undef::undef::undef::undef::undef::undef::undef::undef::undef::undef::undef::undef::undef::undef::undef::undef::undef::undef::undef::undef::undef::undef::undef::undef::undef::undef::undef::undef::undef::undef::undef::undef::undef::undef::undef::undef::undef::undef::undef::undef::undef::undef::undef::undef::undef::undef::undef::undef::undef::undef::undef::undef::undef::undef::undef::undef::undef::undef::undef::undef::undef::undef::undef::undef::undef::undef::undef::undef::undef::undef::undef::undef::undef::undef::undef::undef::undef::[]) w) (by kernel_rfl : (cd Try.f11 []) = (cd Try.f11 []))) (leatref26_Audit_Sums_k h))
theorem leatref26_Audit_Sums_go : isGo Try.prog 11 := ⟨_, Try.func11, by kernel_rfl, by kernel_rfl⟩

theorem leatref26_Audit_Sums_L1_k {K : KV} (B1 : KE) (qc0 : KE) (xc0 : Code) {a0 id1 a2 id3 A1 A2 A3 k_7 limit8' used9 i10' i11 A9 C0 C1 C2 C3 C4 C5 C6 C7 C8 C9 D0 D1 G1 G2 G3 G4 G5 G6 G7 G8 G9 H0 H1 H2 H3 H4 H5 H6 H7 H8 H9 I0 I1 I2 I3 I4 I5 I6 I7 I8 I9 J0 J1 J2 J3 J4 J5 J6 J7 J8 J9 L0 L1 L2 L3 : Value} {dd : Nat → Value} {w : World}
    (h : nilC a0 (fun D4 w =>
    fldA Try.prog 31 D4 1 (fun D5 w =>
    ld Try.prog 28 D5 (fun D6 w =>
    blt Try.prog Builtin.len #[28] 3 #[false] #[D6] (fun D7 w =>
    bin Try.prog BinOp.lss 3 false false i10' D7 (fun D8 w =>
    cond D8
      ((cCode Try.prog xc0 (cCode Try.prog (cd Try.f11 [1, 1, 1, 1, 1, 0, 1, 0, 0, 1, 1]) B1 (fun i => @Bool.rec (fun _ => KE) ((fun _ _ _ => False) i) qc0 (Nat.beq i 0)) (retK Try.prog Try.f11.results.toList K)) (fun i => @Bool.rec (fun _ => KE) ((fun _ _ _ => False) i) qc0 (Nat.beq i 0)) (retK Try.prog Try.f11.results.toList K)) (a0::id1::a2::id3::A1::A2::A3::k_7::limit8'::used9::i10'::i11::A9::C0::C1::C2::C3::C4::C5::C6::C7::C8::C9::D0::D1::i10'::a0::D4::D5::D6::D7::D8::(dd 32)::(dd 33)::(dd 34)::(dd 35)::(dd 36)::(dd 37)::(dd 38)::(dd 39)::(dd 40)::(dd 41)::(dd 42)::(dd 43)::(dd 44)::(dd 45)::(dd 46)::(dd 47)::(dd 48)::(dd 49)::(dd 50)::(dd 51)::(dd 52)::(dd 53)::G1::G2::G3::G4::G5::G6::G7::G8::G9::H0::H1::H2::H3::H4::H5::H6::H7::H8::H9::I0::I1::I2::I3::I4::I5::I6::I7::I8::I9::J0::J1::J2::J3::J4::J5::J6::J7::J8::J9::L0::L1::L2::L3::[]) w)
      (qc0 (a0::id1::a2::id3::A1::A2::A3::k_7::limit8'::used9::i10'::i11::A9::C0::C1::C2::C3::C4::C5::C6::C7::C8::C9::D0::D1::i10'::a0::D4::D5::D6::D7::D8::(dd 32)::(dd 33)::(dd 34)::(dd 35)::(dd 36)::(dd 37)::(dd 38)::(dd 39)::(dd 40)::(dd 41)::(dd 42)::(dd 43)::(dd 44)::(dd 45)::(dd 46)::(dd 47)::(dd 48)::(dd 49)::(dd 50)::(dd 51)::(dd 52)::(dd 53)::G1::G2::G3::G4::G5::G6::G7::G8::G9::H0::H1::H2::H3::H4::H5::H6::H7::H8::H9::I0::I1::I2::I3::I4::I5::I6::I7::I8::I9::J0::J1::J2::J3::J4::J5::J6::J7::J8::J9::L0::L1::L2::L3::[]) w)) w) w) w) w) w) :
    cCode Try.prog (rep [1, 0] xc0 (cd Try.f11 [1, 1, 1, 1, 1, 0, 1, 0, 0])) B1 (fun i => @Bool.rec (fun _ => KE) ((fun _ _ _ => False) i) qc0 (Nat.beq i 0)) (retK Try.prog Try.f11.results.toList K) (a0::id1::a2::id3::A1::A2::A3::k_7::limit8'::used9::i10'::i11::A9::C0::C1::C2::C3::C4::C5::C6::C7::C8::C9::D0::D1::(dd 25)::(dd 26)::(dd 27)::(dd 28)::(dd 29)::(dd 30)::(dd 31)::(dd 32)::(dd 33)::(dd 34)::(dd 35)::(dd 36)::(dd 37)::(dd 38)::(dd 39)::(dd 40)::(dd 41)::(dd 42)::(dd 43)::(dd 44)::(dd 45)::(dd 46)::(dd 47)::(dd 48)::(dd 49)::(dd 50)::(dd 51)::(dd 52)::(dd 53)::G1::G2::G3::G4::G5::G6::G7::G8::G9::H0::H1::H2::H3::H4::H5::H6::H7::H8::H9::I0::I1::I2::I3::I4::I5::I6::I7::I8::I9::J0::J1::J2::J3::J4::J5::J6::J7::J8::J9::L0::L1::L2::L3::[]) w := Eq.mp (by kernel_rfl) h

section
variable {a0 id1 a2 id3 A1 A2 A3 k_7 limit8 used9 i10 i11 A9 C0 C1 C2 C3 C4 C5 C6 C7 C8 C9 D0 D1 D2 D3 D4 D5 D6 D7 D8 D9 E0 E1 E2 E3 E4 E5 E6 E7 E8 E9 F0 F1 F2 F3 F4 F5 F6 F7 F8 F9 G0 G1 G2 G3 G4 G5 G6 G7 G8 G9 H0 H1 H2 H3 H4 H5 H6 H7 H8 H9 I0 I1 I2 I3 I4 I5 I6 I7 I8 I9 J0 J1 J2 J3 J4 J5 J6 J7 J8 J9 L0 L1 L2 L3 : Value}
theorem leatref26_Audit_Sums_L1_r {K : KV} {w : World} (Inv : Value → Value → World → Prop) (μ : Value → Value → World → Nat) (h0 : Inv limit8 i10 w)
    (hs : ∀ (limit8' i10' : Value) (dd : Nat → Value) (w : World) (m : Nat), Inv limit8' i10' w → m = μ limit8' i10' w →
    nilC a0 (fun D4 w =>
    fldA Try.prog 31 D4 1 (fun D5 w =>
    ld Try.prog 28 D5 (fun D6 w =>
    blt Try.prog Builtin.len #[28] 3 #[false] #[D6] (fun D7 w =>
    bin Try.prog BinOp.lss 3 false false i10' D7 (fun D8 w =>
    cond D8
      ((leatref26_Audit_Sums_A1 K (fun e2 w2 => Inv (gd e2 8) (gd e2 10) w2 ∧ μ (gd e2 8) (gd e2 10) w2 < m)) (a0::id1::a2::id3::A1::A2::A3::k_7::limit8'::used9::i10'::i11::A9::C0::C1::C2::C3::C4::C5::C6::C7::C8::C9::D0::D1::i10'::a0::D4::D5::D6::D7::D8::(dd 32)::(dd 33)::(dd 34)::(dd 35)::(dd 36)::(dd 37)::(dd 38)::(dd 39)::(dd 40)::(dd 41)::(dd 42)::(dd 43)::(dd 44)::(dd 45)::(dd 46)::(dd 47)::(dd 48)::(dd 49)::(dd 50)::(dd 51)::(dd 52)::(dd 53)::G1::G2::G3::G4::G5::G6::G7::G8::G9::H0::H1::H2::H3::H4::H5::H6::H7::H8::H9::I0::I1::I2::I3::I4::I5::I6::I7::I8::I9::J0::J1::J2::J3::J4::J5::J6::J7::J8::J9::L0::L1::L2::L3::[]) w)
      ((leatref26_Audit_Sums_P1 K) (a0::id1::a2::id3::A1::A2::A3::k_7::limit8'::used9::i10'::i11::A9::C0::C1::C2::C3::C4::C5::C6::C7::C8::C9::D0::D1::i10'::a0::D4::D5::D6::D7::D8::(dd 32)::(dd 33)::(dd 34)::(dd 35)::(dd 36)::(dd 37)::(dd 38)::(dd 39)::(dd 40)::(dd 41)::(dd 42)::(dd 43)::(dd 44)::(dd 45)::(dd 46)::(dd 47)::(dd 48)::(dd 49)::(dd 50)::(dd 51)::(dd 52)::(dd 53)::G1::G2::G3::G4::G5::G6::G7::G8::G9::H0::H1::H2::H3::H4::H5::H6::H7::H8::H9::I0::I1::I2::I3::I4::I5::I6::I7::I8::I9::J0::J1::J2::J3::J4::J5::J6::J7::J8::J9::L0::L1::L2::L3::[]) w)) w) w) w) w) w) :
    leatref26_Audit_Sums_L1 K (a0::id1::a2::id3::A1::A2::A3::k_7::limit8::used9::i10::i11::A9::C0::C1::C2::C3::C4::C5::C6::C7::C8::C9::D0::D1::D2::D3::D4::D5::D6::D7::D8::D9::E0::E1::E2::E3::E4::E5::E6::E7::E8::E9::F0::F1::F2::F3::F4::F5::F6::F7::F8::F9::G0::G1::G2::G3::G4::G5::G6::G7::G8::G9::H0::H1::H2::H3::H4::H5::H6::H7::H8::H9::I0::I1::I2::I3::I4::I5::I6::I7::I8::I9::J0::J1::J2::J3::J4::J5::J6::J7::J8::J9::L0::L1::L2::L3::[]) w := by
  refine loop_rule (cd Try.f11 [1, 1, 1, 1, 1, 0, 1, 0, 0]) [8, 10, 25, 26, 27, 28, 29, 30, 31, 32, 33, 34, 35, 36, 37, 38, 39, 40, 41, 42, 43, 44, 45, 46, 47, 48, 49, 50, 51, 52, 53] (by kernel_rfl) (fun e2 w2 => Inv (gd e2 8) (gd e2 10) w2) (fun e2 w2 => μ (gd e2 8) (gd e2 10) w2) h0 ?_
  intro e' w' hI
  have h := hs (gd e' 8) (gd e' 10) (fun i => gd e' i) w' _ hI rfl
  have h2 : cCode Try.prog (rep [1, 0] (cd Try.f11 [1, 1, 1, 1, 1, 0, 1, 0, 0, 1, 0]) (cd Try.f11 [1, 1, 1, 1, 1, 0, 1, 0, 0])) (fun e2 w2 => Inv (gd e2 8) (gd e2 10) w2 ∧ μ (gd e2 8) (gd e2 10) w2 < μ (gd e' 8) (gd e' 10) w') (fun i => @Bool.rec (fun _ => KE) ((fun _ _ _ => False) i) (leatref26_Audit_Sums_P1 K) (Nat.beq i 0)) (retK Try.prog Try.f11.results.toList K) (a0::id1::a2::id3::A1::A2::A3::k_7::(gd e' 8)::used9::(gd e' 10)::i11::A9::C0::C1::C2::C3::C4::C5::C6::C7::C8::C9::D0::D1::(gd e' 25)::(gd e' 26)::(gd e' 27)::(gd e' 28)::(gd e' 29)::(gd e' 30)::(gd e' 31)::(gd e' 32)::(gd e' 33)::(gd e' 34)::(gd e' 35)::(gd e' 36)::(gd e' 37)::(gd e' 38)::(gd e' 39)::(gd e' 40)::(gd e' 41)::(gd e' 42)::(gd e' 43)::(gd e' 44)::(gd e' 45)::(gd e' 46)::(gd e' 47)::(gd e' 48)::(gd e' 49)::(gd e' 50)::(gd e' 51)::(gd e' 52)::(gd e' 53)::G1::G2::G3::G4::G5::G6::G7::G8::G9::H0::H1::H2::H3::H4::H5::H6::H7::H8::H9::I0::I1::I2::I3::I4::I5::I6::I7::I8::I9::J0::J1::J2::J3::J4::J5::J6::J7::J8::J9::L0::L1::L2::L3::[]) w' := leatref26_Audit_Sums_L1_k (fun e2 w2 => Inv (gd e2 8) (gd e2 10) w2 ∧ μ (gd e2 8) (gd e2 10) w2 < μ (gd e' 8) (gd e' 10) w') (leatref26_Audit_Sums_P1 K) (cd Try.f11 [1, 1, 1, 1, 1, 0, 1, 0, 0, 1, 0]) (Eq.mp (by kernel_rfl) h)
  exact Eq.mp (by kernel_rfl) h2

theorem leatref26_Audit_Sums_A1_k {K : KV} (B1 : KE) (qc0 : KE) (qc1 : KE) {w : World}
    (h : nilC a0 (fun E2 w =>
    fldA Try.prog 31 E2 1 (fun E3 w =>
    ld Try.prog 28 E3 (fun E4 w =>
    idxA Try.prog 28 E4 i10 (fun E6 w =>
    fldA Try.prog 78 E6 0 (fun E7 w =>
    ld Try.prog 33 E7 (fun E8 w =>
    bin Try.prog BinOp.eql 33 false false E8 id1 (fun F0 w =>
    cond F0
      (nilC a0 (fun F3 w =>
      fldA Try.prog 31 F3 1 (fun F4 w =>
      ld Try.prog 28 F4 (fun F5 w =>
      idxA Try.prog 28 F5 i10 (fun F7 w =>
      fldA Try.prog 78 F7 1 (fun F8 w =>
      ld Try.prog 2 F8 (fun F9 w =>
      bin Try.prog BinOp.add 2 false false limit8 F9 (fun G0 w =>
      qc0 (a0::id1::a2::id3::A1::A2::A3::k_7::G0::used9::i10::i11::A9::C0::C1::C2::C3::C4::C5::C6::C7::C8::C9::D0::D1::D2::D3::D4::D5::D6::D7::D8::D9::E0::a0::E2::E3::E4::i10::E6::E7::E8::id1::F0::limit8::a0::F3::F4::F5::i10::F7::F8::F9::G0::G1::G2::G3::G4::G5::G6::G7::G8::G9::H0::H1::H2::H3::H4::H5::H6::H7::H8::H9::I0::I1::I2::I3::I4::I5::I6::I7::I8::I9::J0::J1::J2::J3::J4::J5::J6::J7::J8::J9::L0::L1::L2::L3::[]) w) w) w) w) w) w) w) w)
      (qc0 (a0::id1::a2::id3::A1::A2::A3::k_7::limit8::used9::i10::i11::A9::C0::C1::C2::C3::C4::C5::C6::C7::C8::C9::D0::D1::D2::D3::D4::D5::D6::D7::D8::D9::E0::a0::E2::E3::E4::i10::E6::E7::E8::id1::F0::F1::F2::F3::F4::F5::F6::F7::F8::F9::G0::G1::G2::G3::G4::G5::G6::G7::G8::G9::H0::H1::H2::H3::H4::H5::H6::H7::H8::H9::I0::I1::I2::I3::I4::I5::I6::I7::I8::I9::J0::J1::J2::J3::J4::J5::J6::J7::J8::J9::L0::L1::L2::L3::[]) w)) w) w) w) w) w) w) w) :
    cCode Try.prog (cd Try.f11 [1, 1, 1, 1, 1, 0, 1, 0, 0, 1, 0]) qc0 (fun i => @Bool.rec (fun _ => KE) ((fun _ _ _ => False) i) qc1 (Nat.beq i 0)) (retK Try.prog Try.f11.results.toList K) (a0::id1::a2::id3::A1::A2::A3::k_7::limit8::used9::i10::i11::A9::C0::C1::C2::C3::C4::C5::C6::C7::C8::C9::D0::D1::D2::D3::D4::D5::D6::D7::D8::D9::E0::E1::E2::E3::E4::E5::E6::E7::E8::E9::F0::F1::F2::F3::F4::F5::F6::F7::F8::F9::G0::G1::G2::G3::G4::G5::G6::G7::G8::G9::H0::H1::H2::H3::H4::H5::H6::H7::H8::H9::I0::I1::I2::I3::I4::I5::I6::I7::I8::I9::J0::J1::J2::J3::J4::J5::J6::J7::J8::J9::L0::L1::L2::L3::[]) w := Eq.mp (by kernel_rfl) h

theorem leatref26_Audit_Sums_A1_r {K : KV} {B1 : KE} {w : World}
    (h : nilC a0 (fun E2 w =>
    fldA Try.prog 31 E2 1 (fun E3 w =>
    ld Try.prog 28 E3 (fun E4 w =>
    idxA Try.prog 28 E4 i10 (fun E6 w =>
    fldA Try.prog 78 E6 0 (fun E7 w =>
    ld Try.prog 33 E7 (fun E8 w =>
    bin Try.prog BinOp.eql 33 false false E8 id1 (fun F0 w =>
    cond F0
      (nilC a0 (fun F3 w =>
      fldA Try.prog 31 F3 1 (fun F4 w =>
      ld Try.prog 28 F4 (fun F5 w =>
      idxA Try.prog 28 F5 i10 (fun F7 w =>
      fldA Try.prog 78 F7 1 (fun F8 w =>
      ld Try.prog 2 F8 (fun F9 w =>
      bin Try.prog BinOp.add 2 false false limit8 F9 (fun G0 w =>
      (leatref26_Audit_Sums_P2 K B1) (a0::id1::a2::id3::A1::A2::A3::k_7::G0::used9::i10::i11::A9::C0::C1::C2::C3::C4::C5::C6::C7::C8::C9::D0::D1::D2::D3::D4::D5::D6::D7::D8::D9::E0::a0::E2::E3::E4::i10::E6::E7::E8::id1::F0::limit8::a0::F3::F4::F5::i10::F7::F8::F9::G0::G1::G2::G3::G4::G5::G6::G7::G8::G9::H0::H1::H2::H3::H4::H5::H6::H7::H8::H9::I0::I1::I2::I3::I4::I5::I6::I7::I8::I9::J0::J1::J2::J3::J4::J5::J6::J7::J8::J9::L0::L1::L2::L3::[]) w) w) w) w) w) w) w) w)
      ((leatref26_Audit_Sums_P2 K B1) (a0::id1::a2::id3::A1::A2::A3::k_7::limit8::used9::i10::i11::A9::C0::C1::C2::C3::C4::C5::C6::C7::C8::C9::D0::D1::D2::D3::D4::D5::D6::D7::D8::D9::E0::a0::E2::E3::E4::i10::E6::E7::E8::id1::F0::F1::F2::F3::F4::F5::F6::F7::F8::F9::G0::G1::G2::G3::G4::G5::G6::G7::G8::G9::H0::H1::H2::H3::H4::H5::H6::H7::H8::H9::I0::I1::I2::I3::I4::I5::I6::I7::I8::I9::J0::J1::J2::J3::J4::J5::J6::J7::J8::J9::L0::L1::L2::L3::[]) w)) w) w) w) w) w) w) w) :
    leatref26_Audit_Sums_A1 K B1 (a0::id1::a2::id3::A1::A2::A3::k_7::limit8::used9::i10::i11::A9::C0::C1::C2::C3::C4::C5::C6::C7::C8::C9::D0::D1::D2::D3::D4::D5::D6::D7::D8::D9::E0::E1::E2::E3::E4::E5::E6::E7::E8::E9::F0::F1::F2::F3::F4::F5::F6::F7::F8::F9::G0::G1::G2::G3::G4::G5::G6::G7::G8::G9::H0::H1::H2::H3::H4::H5::H6::H7::H8::H9::I0::I1::I2::I3::I4::I5::I6::I7::I8::I9::J0::J1::J2::J3::J4::J5::J6::J7::J8::J9::L0::L1::L2::L3::[]) w := by
  delta leatref26_Audit_Sums_A1
  exact Eq.mp (congrArg (fun c => cCode Try.prog c (leatref26_Audit_Sums_P2 K B1) (fun i => @Bool.rec (fun _ => KE) ((fun _ _ _ => False) i) (leatref26_Audit_Sums_P1 K) (Nat.beq i 0)) (retK Try.prog Try.f11.results.toList K) (a0::id1::a2::id3::A1::A2::A3::k_7::limit8::used9::i10::i11::A9::C0::C1::C2::C3::C4::C5::C6::C7::C8::C9::D0::D1::D2::D3::D4::D5::D6::D7::D8::D9::E0::E1::E2::E3::E4::E5::E6::E7::E8::E9::F0::F1::F2::F3::F4::F5::F6::F7::F8::F9::G0::G1::G2::G3::G4::G5::G6::G7::G8::G9::H0::H1::H2::H3::H4::H5::H6::H7::H8::H9::I0::I1::I2::I3::I4::I5::I6::I7::I8::I9::J0::J1::J2::J3::J4::J5::J6::J7::J8::J9::L0::L1::L2::L3::[]) w) (by kernel_rfl : (cd Try.f11 [1, 1, 1, 1, 1, 0, 1, 0, 0, 1, 0]) = (cd Try.f11 [1, 1, 1, 1, 1, 0, 1, 0, 0, 1, 0]))) (leatref26_Audit_Sums_A1_k B1 (leatref26_Audit_Sums_P2 K B1) (leatref26_Audit_Sums_P1 K) h)

theorem leatref26_Audit_Sums_P1_k {K : KV} {w : World}
    (h : (cCode Try.prog (cd Try.f11 [1, 1, 1, 1, 1, 1, 0, 1, 0]) (cCode Try.prog (cd Try.f11 [1, 1, 1, 1, 1, 1, 1]) (retK Try.prog Try.f11.results.toList K) (fun _ _ _ => False) (retK Try.prog Try.f11.results.toList K)) (fun i => @Bool.rec (fun _ => KE) ((fun _ _ _ => False) i) (cCode Try.prog (cd Try.f11 [1, 1, 1, 1, 1, 1, 1]) (retK Try.prog Try.f11.results.toList K) (fun _ _ _ => False) (retK Try.prog Try.f11.results.toList K)) (Nat.beq i 2)) (retK Try.prog Try.f11.results.toList K)) (a0::id1::a2::id3::A1::A2::A3::k_7::limit8::used9::i10::(Value.int IntKind.i64 0)::A9::C0::C1::C2::C3::C4::C5::C6::C7::C8::C9::D0::D1::D2::D3::D4::D5::D6::D7::D8::D9::E0::E1::E2::E3::E4::E5::E6::E7::E8::E9::F0::F1::F2::F3::F4::F5::F6::F7::F8::F9::G0::G1::G2::G3::G4::G5::G6::G7::G8::G9::H0::H1::H2::H3::H4::H5::H6::H7::H8::H9::I0::I1::I2::I3::I4::I5::I6::I7::I8::I9::J0::J1::J2::J3::J4::J5::J6::J7::J8::J9::L0::L1::L2::L3::[]) w) :
    cCode Try.prog (cd Try.f11 [1, 1, 1, 1, 1, 1]) (retK Try.prog Try.f11.results.toList K) (fun _ _ _ => False) (retK Try.prog Try.f11.results.toList K) (a0::id1::a2::id3::A1::A2::A3::k_7::limit8::used9::i10::i11::A9::C0::C1::C2::C3::C4::C5::C6::C7::C8::C9::D0::D1::D2::D3::D4::D5::D6::D7::D8::D9::E0::E1::E2::E3::E4::E5::E6::E7::E8::E9::F0::F1::F2::F3::F4::F5::F6::F7::F8::F9::G0::G1::G2::G3::G4::G5::G6::G7::G8::G9::H0::H1::H2::H3::H4::H5::H6::H7::H8::H9::I0::I1::I2::I3::I4::I5::I6::I7::I8::I9::J0::J1::J2::J3::J4::J5::J6::J7::J8::J9::L0::L1::L2::L3::[]) w := Eq.mp (by kernel_rfl) h

theorem leatref26_Audit_Sums_P1_r {K : KV} {w : World}
    (h : (leatref26_Audit_Sums_L2 K) (a0::id1::a2::id3::A1::A2::A3::k_7::limit8::used9::i10::(Value.int IntKind.i64 0)::A9::C0::C1::C2::C3::C4::C5::C6::C7::C8::C9::D0::D1::D2::D3::D4::D5::D6::D7::D8::D9::E0::E1::E2::E3::E4::E5::E6::E7::E8::E9::F0::F1::F2::F3::F4::F5::F6::F7::F8::F9::G0::G1::G2::G3::G4::G5::G6::G7::G8::G9::H0::H1::H2::H3::H4::H5::H6::H7::H8::H9::I0::I1::I2::I3::I4::I5::I6::I7::I8::I9::J0::J1::J2::J3::J4::J5::J6::J7::J8::J9::L0::L1::L2::L3::[]) w) :
    leatref26_Audit_Sums_P1 K (a0::id1::a2::id3::A1::A2::A3::k_7::limit8::used9::i10::i11::A9::C0::C1::C2::C3::C4::C5::C6::C7::C8::C9::D0::D1::D2::D3::D4::D5::D6::D7::D8::D9::E0::E1::E2::E3::E4::E5::E6::E7::E8::E9::F0::F1::F2::F3::F4::F5::F6::F7::F8::F9::G0::G1::G2::G3::G4::G5::G6::G7::G8::G9::H0::H1::H2::H3::H4::H5::H6::H7::H8::H9::I0::I1::I2::I3::I4::I5::I6::I7::I8::I9::J0::J1::J2::J3::J4::J5::J6::J7::J8::J9::L0::L1::L2::L3::[]) w := by
  delta leatref26_Audit_Sums_P1
  exact Eq.mp (congrArg (fun c => cCode Try.prog c (retK Try.prog Try.f11.results.toList K) (fun _ _ _ => False) (retK Try.prog Try.f11.results.toList K) (a0::id1::a2::id3::A1::A2::A3::k_7::limit8::used9::i10::i11::A9::C0::C1::C2::C3::C4::C5::C6::C7::C8::C9::D0::D1::D2::D3::D4::D5::D6::D7::D8::D9::E0::E1::E2::E3::E4::E5::E6::E7::E8::E9::F0::F1::F2::F3::F4::F5::F6::F7::F8::F9::G0::G1::G2::G3::G4::G5::G6::G7::G8::G9::H0::H1::H2::H3::H4::H5::H6::H7::H8::H9::I0::I1::I2::I3::I4::I5::I6::I7::I8::I9::J0::J1::J2::J3::J4::J5::J6::J7::J8::J9::L0::L1::L2::L3::[]) w) (by kernel_rfl : (cd Try.f11 [1, 1, 1, 1, 1, 1]) = (cd Try.f11 [1, 1, 1, 1, 1, 1]))) (leatref26_Audit_Sums_P1_k h)

theorem leatref26_Audit_Sums_P2_k {K : KV} (B1 : KE) (qc0 : KE) {w : World}
    (h : bin Try.prog BinOp.add 3 false true i10 (Value.int IntKind.i64 1) (fun E0 w =>
    B1 (a0::id1::a2::id3::A1::A2::A3::k_7::limit8::used9::E0::i11::A9::C0::C1::C2::C3::C4::C5::C6::C7::C8::C9::D0::D1::D2::D3::D4::D5::D6::D7::D8::i10::E0::E1::E2::E3::E4::E5::E6::E7::E8::E9::F0::F1::F2::F3::F4::F5::F6::F7::F8::F9::G0::G1::G2::G3::G4::G5::G6::G7::G8::G9::H0::H1::H2::H3::H4::H5::H6::H7::H8::H9::I0::I1::I2::I3::I4::I5::I6::I7::I8::I9::J0::J1::J2::J3::J4::J5::J6::J7::J8::J9::L0::L1::L2::L3::[]) w) w) :
    cCode Try.prog (cd Try.f11 [1, 1, 1, 1, 1, 0, 1, 0, 0, 1, 1]) B1 (fun i => @Bool.rec (fun _ => KE) ((fun _ _ _ => False) i) qc0 (Nat.beq i 0)) (retK Try.prog Try.f11.results.toList K) (a0::id1::a2::id3::A1::A2::A3::k_7::limit8::used9::i10::i11::A9::C0::C1::C2::C3::C4::C5::C6::C7::C8::C9::D0::D1::D2::D3::D4::D5::D6::D7::D8::D9::E0::E1::E2::E3::E4::E5::E6::E7::E8::E9::F0::F1::F2::F3::F4::F5::F6::F7::F8::F9::G0::G1::G2::G3::G4::G5::G6::G7::G8::G9::H0::H1::H2::H3::H4::H5::H6::H7::H8::H9::I0::I1::I2::I3::I4::I5::I6::I7::I8::I9::J0::J1::J2::J3::J4::J5::J6::J7::J8::J9::L0::L1::L2::L3::[]) w := Eq.mp (by kernel_rfl) h

theorem leatref26_Audit_Sums_P2_r {K : KV} {B1 : KE} {w : World}
    (h : bin Try.prog BinOp.add 3 false true i10 (Value.int IntKind.i64 1) (fun E0 w =>
    B1 (a0::id1::a2::id3::A1::A2::A3::k_7::limit8::used9::E0::i11::A9::C0::C1::C2::C3::C4::C5::C6::C7::C8::C9::D0::D1::D2::D3::D4::D5::D6::D7::D8::i10::E0::E1::E2::E3::E4::E5::E6::E7::E8::E9::F0::F1::F2::F3::F4::F5::F6::F7::F8::F9::G0::G1::G2::G3::G4::G5::G6::G7::G8::G9::H0::H1::H2::H3::H4::H5::H6::H7::H8::H9::I0::I1::I2::I3::I4::I5::I6::I7::I8::I9::J0::J1::J2::J3::J4::J5::J6::J7::J8::J9::L0::L1::L2::L3::[]) w) w) :
    leatref26_Audit_Sums_P2 K B1 (a0::id1::a2::id3::A1::A2::A3::k_7::limit8::used9::i10::i11::A9::C0::C1::C2::C3::C4::C5::C6::C7::C8::C9::D0::D1::D2::D3::D4::D5::D6::D7::D8::D9::E0::E1::E2::E3::E4::E5::E6::E7::E8::E9::F0::F1::F2::F3::F4::F5::F6::F7::F8::F9::G0::G1::G2::G3::G4::G5::G6::G7::G8::G9::H0::H1::H2::H3::H4::H5::H6::H7::H8::H9::I0::I1::I2::I3::I4::I5::I6::I7::I8::I9::J0::J1::J2::J3::J4::J5::J6::J7::J8::J9::L0::L1::L2::L3::[]) w := by
  delta leatref26_Audit_Sums_P2
  exact Eq.mp (congrArg (fun c => cCode Try.prog c B1 (fun i => @Bool.rec (fun _ => KE) ((fun _ _ _ => False) i) (leatref26_Audit_Sums_P1 K) (Nat.beq i 0)) (retK Try.prog Try.f11.results.toList K) (a0::id1::a2::id3::A1::A2::A3::k_7::limit8::used9::i10::i11::A9::C0::C1::C2::C3::C4::C5::C6::C7::C8::C9::D0::D1::D2::D3::D4::D5::D6::D7::D8::D9::E0::E1::E2::E3::E4::E5::E6::E7::E8::E9::F0::F1::F2::F3::F4::F5::F6::F7::F8::F9::G0::G1::G2::G3::G4::G5::G6::G7::G8::G9::H0::H1::H2::H3::H4::H5::H6::H7::H8::H9::I0::I1::I2::I3::I4::I5::I6::I7::I8::I9::J0::J1::J2::J3::J4::J5::J6::J7::J8::J9::L0::L1::L2::L3::[]) w) (by kernel_rfl : (cd Try.f11 [1, 1, 1, 1, 1, 0, 1, 0, 0, 1, 1]) = (cd Try.f11 [1, 1, 1, 1, 1, 0, 1, 0, 0, 1, 1]))) (leatref26_Audit_Sums_P2_k B1 (leatref26_Audit_Sums_P1 K) h)

end
theorem leatref26_Audit_Sums_L2_k {K : KV} (B1 : KE) (qc0 : KE) (xc0 : Code) {a0 id1 a2 id3 A1 A2 A3 k_7 limit8 used9' i10 i11' A9 C0 C1 C2 C3 C4 C5 C6 C7 C8 C9 D0 D1 D2 D3 D4 D5 D6 D7 D8 D9 E0 E1 E2 E3 E4 E5 E6 E7 E8 E9 F0 F1 F2 F3 F4 F5 F6 F7 F8 F9 G0 I0' I1' I2' I3' I4' I5' I6' I7' I8' I9' J0' L2 L3 : Value} {dd : Nat → Value} {w : World}
    (h : nilC a0 (fun G3 w =>
    fldA Try.prog 31 G3 2 (fun G4 w =>
    ld Try.prog 29 G4 (fun G5 w =>
    blt Try.prog Builtin.len #[29] 3 #[false] #[G5] (fun G6 w =>
    bin Try.prog BinOp.lss 3 false false i11' G6 (fun G7 w =>
    cond G7
      ((cCode Try.prog xc0 (cCode Try.prog (cd Try.f11 [1, 1, 1, 1, 1, 1, 0, 1, 0, 0, 1, 1]) B1 (fun i => @Bool.rec (fun _ => KE) ((fun _ _ _ => False) i) qc0 (Nat.beq i 2)) (retK Try.prog Try.f11.results.toList K)) (fun i => @Bool.rec (fun _ => KE) ((fun _ _ _ => False) i) qc0 (Nat.beq i 2)) (retK Try.prog Try.f11.results.toList K)) (a0::id1::a2::id3::A1::A2::A3::k_7::limit8::used9'::i10::i11'::A9::C0::C1::C2::C3::C4::C5::C6::C7::C8::C9::D0::D1::D2::D3::D4::D5::D6::D7::D8::D9::E0::E1::E2::E3::E4::E5::E6::E7::E8::E9::F0::F1::F2::F3::F4::F5::F6::F7::F8::F9::G0::i11'::a0::G3::G4::G5::G6::G7::(dd 61)::(dd 62)::(dd 63)::(dd 64)::(dd 65)::(dd 66)::(dd 67)::(dd 68)::(dd 69)::(dd 70)::(dd 71)::(dd 72)::I0'::I1'::I2'::I3'::I4'::I5'::I6'::I7'::I8'::I9'::J0'::(dd 84)::(dd 85)::(dd 86)::(dd 87)::(dd 88)::(dd 89)::(dd 90)::(dd 91)::(dd 92)::(dd 93)::(dd 94)::L2::L3::[]) w)
      (qc0 (a0::id1::a2::id3::A1::A2::A3::k_7::limit8::used9'::i10::i11'::A9::C0::C1::C2::C3::C4::C5::C6::C7::C8::C9::D0::D1::D2::D3::D4::D5::D6::D7::D8::D9::E0::E1::E2::E3::E4::E5::E6::E7::E8::E9::F0::F1::F2::F3::F4::F5::F6::F7::F8::F9::G0::i11'::a0::G3::G4::G5::G6::G7::(dd 61)::(dd 62)::(dd 63)::(dd 64)::(dd 65)::(dd 66)::(dd 67)::(dd 68)::(dd 69)::(dd 70)::(dd 71)::(dd 72)::I0'::I1'::I2'::I3'::I4'::I5'::I6'::I7'::I8'::I9'::J0'::(dd 84)::(dd 85)::(dd 86)::(dd 87)::(dd 88)::(dd 89)::(dd 90)::(dd 91)::(dd 92)::(dd 93)::(dd 94)::L2::L3::[]) w)) w) w) w) w) w) :
    cCode Try.prog (rep [1, 0] xc0 (cd Try.f11 [1, 1, 1, 1, 1, 1, 0, 1, 0, 0])) B1 (fun i => @Bool.rec (fun _ => KE) ((fun _ _ _ => False) i) qc0 (Nat.beq i 2)) (retK Try.prog Try.f11.results.toList K) (a0::id1::a2::id3::A1::A2::A3::k_7::limit8::used9'::i10::i11'::A9::C0::C1::C2::C3::C4::C5::C6::C7::C8::C9::D0::D1::D2::D3::D4::D5::D6::D7::D8::D9::E0::E1::E2::E3::E4::E5::E6::E7::E8::E9::F0::F1::F2::F3::F4::F5::F6::F7::F8::F9::G0::(dd 54)::(dd 55)::(dd 56)::(dd 57)::(dd 58)::(dd 59)::(dd 60)::(dd 61)::(dd 62)::(dd 63)::(dd 64)::(dd 65)::(dd 66)::(dd 67)::(dd 68)::(dd 69)::(dd 70)::(dd 71)::(dd 72)::I0'::I1'::I2'::I3'::I4'::I5'::I6'::I7'::I8'::I9'::J0'::(dd 84)::(dd 85)::(dd 86)::(dd 87)::(dd 88)::(dd 89)::(dd 90)::(dd 91)::(dd 92)::(dd 93)::(dd 94)::L2::L3::[]) w := Eq.mp (by kernel_rfl) h

section
variable {a0 id1 a2 id3 A1 A2 A3 k_7 limit8 used9 i10 i11 A9 C0 C1 C2 C3 C4 C5 C6 C7 C8 C9 D0 D1 D2 D3 D4 D5 D6 D7 D8 D9 E0 E1 E2 E3 E4 E5 E6 E7 E8 E9 F0 F1 F2 F3 F4 F5 F6 F7 F8 F9 G0 G1 G2 G3 G4 G5 G6 G7 G8 G9 H0 H1 H2 H3 H4 H5 H6 H7 H8 H9 I0 I1 I2 I3 I4 I5 I6 I7 I8 I9 J0 J1 J2 J3 J4 J5 J6 J7 J8 J9 L0 L1 L2 L3 : Value}
theorem leatref26_Audit_Sums_L2_r {K : KV} {w : World} (Inv : Value → Value → Value → Value → Value → Value → Value → Value → Value → Value → Value → Value → Value → World → Prop) (μ : Value → Value → Value → Value → Value → Value → Value → Value → Value → Value → Value → Value → Value → World → Nat) (h0 : Inv used9 i11 I0 I1 I2 I3 I4 I5 I6 I7 I8 I9 J0 w)
    (hs : ∀ (used9' i11' I0' I1' I2' I3' I4' I5' I6' I7' I8' I9' J0' : Value) (dd : Nat → Value) (w : World) (m : Nat), Inv used9' i11' I0' I1' I2' I3' I4' I5' I6' I7' I8' I9' J0' w → m = μ used9' i11' I0' I1' I2' I3' I4' I5' I6' I7' I8' I9' J0' w →
    nilC a0 (fun G3 w =>
    fldA Try.prog 31 G3 2 (fun G4 w =>
    ld Try.prog 29 G4 (fun G5 w =>
    blt Try.prog Builtin.len #[29] 3 #[false] #[G5] (fun G6 w =>
    bin Try.prog BinOp.lss 3 false false i11' G6 (fun G7 w =>
    cond G7
      ((leatref26_Audit_Sums_A2 K (fun e2 w2 => Inv (gd e2 9) (gd e2 11) (gd e2 73) (gd e2 74) (gd e2 75) (gd e2 76) (gd e2 77) (gd e2 78) (gd e2 79) (gd e2 80) (gd e2 81) (gd e2 82) (gd e2 83) w2 ∧ μ (gd e2 9) (gd e2 11) (gd e2 73) (gd e2 74) (gd e2 75) (gd e2 76) (gd e2 77) (gd e2 78) (gd e2 79) (gd e2 80) (gd e2 81) (gd e2 82) (gd e2 83) w2 < m)) (a0::id1::a2::id3::A1::A2::A3::k_7::limit8::used9'::i10::i11'::A9::C0::C1::C2::C3::C4::C5::C6::C7::C8::C9::D0::D1::D2::D3::D4::D5::D6::D7::D8::D9::E0::E1::E2::E3::E4::E5::E6::E7::E8::E9::F0::F1::F2::F3::F4::F5::F6::F7::F8::F9::G0::i11'::a0::G3::G4::G5::G6::G7::(dd 61)::(dd 62)::(dd 63)::(dd 64)::(dd 65)::(dd 66)::(dd 67)::(dd 68)::(dd 69)::(dd 70)::(dd 71)::(dd 72)::I0'::I1'::I2'::I3'::I4'::I5'::I6'::I7'::I8'::I9'::J0'::(dd 84)::(dd 85)::(dd 86)::(dd 87)::(dd 88)::(dd 89)::(dd 90)::(dd 91)::(dd 92)::(dd 93)::(dd 94)::L2::L3::[]) w)
      ((leatref26_Audit_Sums_P3 K) (a0::id1::a2::id3::A1::A2::A3::k_7::limit8::used9'::i10::i11'::A9::C0::C1::C2::C3::C4::C5::C6::C7::C8::C9::D0::D1::D2::D3::D4::D5::D6::D7::D8::D9::E0::E1::E2::E3::E4::E5::E6::E7::E8::E9::F0::F1::F2::F3::F4::F5::F6::F7::F8::F9::G0::i11'::a0::G3::G4::G5::G6::G7::(dd 61)::(dd 62)::(dd 63)::(dd 64)::(dd 65)::(dd 66)::(dd 67)::(dd 68)::(dd 69)::(dd 70)::(dd 71)::(dd 72)::I0'::I1'::I2'::I3'::I4'::I5'::I6'::I7'::I8'::I9'::J0'::(dd 84)::(dd 85)::(dd 86)::(dd 87)::(dd 88)::(dd 89)::(dd 90)::(dd 91)::(dd 92)::(dd 93)::(dd 94)::L2::L3::[]) w)) w) w) w) w) w) :
    leatref26_Audit_Sums_L2 K (a0::id1::a2::id3::A1::A2::A3::k_7::limit8::used9::i10::i11::A9::C0::C1::C2::C3::C4::C5::C6::C7::C8::C9::D0::D1::D2::D3::D4::D5::D6::D7::D8::D9::E0::E1::E2::E3::E4::E5::E6::E7::E8::E9::F0::F1::F2::F3::F4::F5::F6::F7::F8::F9::G0::G1::G2::G3::G4::G5::G6::G7::G8::G9::H0::H1::H2::H3::H4::H5::H6::H7::H8::H9::I0::I1::I2::I3::I4::I5::I6::I7::I8::I9::J0::J1::J2::J3::J4::J5::J6::J7::J8::J9::L0::L1::L2::L3::[]) w := by
  refine loop_rule (cd Try.f11 [1, 1, 1, 1, 1, 1, 0, 1, 0, 0]) [9, 11, 54, 55, 56, 57, 58, 59, 60, 61, 62, 63, 64, 65, 66, 67, 68, 69, 70, 71, 72, 73, 74, 75, 76, 77, 78, 79, 80, 81, 82, 83, 84, 85, 86, 87, 88, 89, 90, 91, 92, 93, 94] (by kernel_rfl) (fun e2 w2 => Inv (gd e2 9) (gd e2 11) (gd e2 73) (gd e2 74) (gd e2 75) (gd e2 76) (gd e2 77) (gd e2 78) (gd e2 79) (gd e2 80) (gd e2 81) (gd e2 82) (gd e2 83) w2) (fun e2 w2 => μ (gd e2 9) (gd e2 11) (gd e2 73) (gd e2 74) (gd e2 75) (gd e2 76) (gd e2 77) (gd e2 78) (gd e2 79) (gd e2 80) (gd e2 81) (gd e2 82) (gd e2 83) w2) h0 ?_
  intro e' w' hI
  have h := hs (gd e' 9) (gd e' 11) (gd e' 73) (gd e' 74) (gd e' 75) (gd e' 76) (gd e' 77) (gd e' 78) (gd e' 79) (gd e' 80) (gd e' 81) (gd e' 82) (gd e' 83) (fun i => gd e' i) w' _ hI rfl
  have h2 : cCode Try.prog (rep [1, 0] (cd Try.f11 [1, 1, 1, 1, 1, 1, 0, 1, 0, 0, 1, 0]) (cd Try.f11 [1, 1, 1, 1, 1, 1, 0, 1, 0, 0])) (fun e2 w2 => Inv (gd e2 9) (gd e2 11) (gd e2 73) (gd e2 74) (gd e2 75) (gd e2 76) (gd e2 77) (gd e2 78) (gd e2 79) (gd e2 80) (gd e2 81) (gd e2 82) (gd e2 83) w2 ∧ μ (gd e2 9) (gd e2 11) (gd e2 73) (gd e2 74) (gd e2 75) (gd e2 76) (gd e2 77) (gd e2 78) (gd e2 79) (gd e2 80) (gd e2 81) (gd e2 82) (gd e2 83) w2 < μ (gd e' 9) (gd e' 11) (gd e' 73) (gd e' 74) (gd e' 75) (gd e' 76) (gd e' 77) (gd e' 78) (gd e' 79) (gd e' 80) (gd e' 81) (gd e' 82) (gd e' 83) w') (fun i => @Bool.rec (fun _ => KE) ((fun _ _ _ => False) i) (leatref26_Audit_Sums_P3 K) (Nat.beq i 2)) (retK Try.prog Try.f11.results.toList K) (a0::id1::a2::id3::A1::A2::A3::k_7::limit8::(gd e' 9)::i10::(gd e' 11)::A9::C0::C1::C2::C3::C4::C5::C6::C7::C8::C9::D0::D1::D2::D3::D4::D5::D6::D7::D8::D9::E0::E1::E2::E3::E4::E5::E6::E7::E8::E9::F0::F1::F2::F3::F4::F5::F6::F7::F8::F9::G0::(gd e' 54)::(gd e' 55)::(gd e' 56)::(gd e' 57)::(gd e' 58)::(gd e' 59)::(gd e' 60)::(gd e' 61)::(gd e' 62)::(gd e' 63)::(gd e' 64)::(gd e' 65)::(gd e' 66)::(gd e' 67)::(gd e' 68)::(gd e' 69)::(gd e' 70)::(gd e' 71)::(gd e' 72)::(gd e' 73)::(gd e' 74)::(gd e' 75)::(gd e' 76)::(gd e' 77)::(gd e' 78)::(gd e' 79)::(gd e' 80)::(gd e' 81)::(gd e' 82)::(gd e' 83)::(gd e' 84)::(gd e' 85)::(gd e' 86)::(gd e' 87)::(gd e' 88)::(gd e' 89)::(gd e' 90)::(gd e' 91)::(gd e' 92)::(gd e' 93)::(gd e' 94)::L2::L3::[]) w' := leatref26_Audit_Sums_L2_k (fun e2 w2 => Inv (gd e2 9) (gd e2 11) (gd e2 73) (gd e2 74) (gd e2 75) (gd e2 76) (gd e2 77) (gd e2 78) (gd e2 79) (gd e2 80) (gd e2 81) (gd e2 82) (gd e2 83) w2 ∧ μ (gd e2 9) (gd e2 11) (gd e2 73) (gd e2 74) (gd e2 75) (gd e2 76) (gd e2 77) (gd e2 78) (gd e2 79) (gd e2 80) (gd e2 81) (gd e2 82) (gd e2 83) w2 < μ (gd e' 9) (gd e' 11) (gd e' 73) (gd e' 74) (gd e' 75) (gd e' 76) (gd e' 77) (gd e' 78) (gd e' 79) (gd e' 80) (gd e' 81) (gd e' 82) (gd e' 83) w') (leatref26_Audit_Sums_P3 K) (cd Try.f11 [1, 1, 1, 1, 1, 1, 0, 1, 0, 0, 1, 0]) (Eq.mp (by kernel_rfl) h)
  exact Eq.mp (by kernel_rfl) h2

theorem leatref26_Audit_Sums_A2_k {K : KV} (B1 : KE) (qc0 : KE) (qc1 : KE) {w : World}
    (h : nilC a0 (fun H1 w =>
    fldA Try.prog 31 H1 2 (fun H2 w =>
    ld Try.prog 29 H2 (fun H3 w =>
    idxA Try.prog 29 H3 i11 (fun H5 w =>
    fldA Try.prog 81 H5 4 (fun H6 w =>
    ld Try.prog 4 H6 (fun H7 w =>
    un Try.prog UnOp.not H7 (fun H8 w =>
    gsel H8 true (fun k73 =>
    nilC a0 (fun I2 w =>
    fldA Try.prog 31 I2 2 (fun I3 w =>
    ld Try.prog 29 I3 (fun I4 w =>
    idxA Try.prog 29 I4 i11 (fun I6 w =>
    fldA Try.prog 81 I6 2 (fun I7 w =>
    ld Try.prog 33 I7 (fun I8 w =>
    call Try.prog 22 #[a0, I8, id1] (fun J0 w =>
    k73 [a0, a0, I2, I3, I4, i11, I6, I7, I8, id1, J0] w) w) w) w) w) w) w) w)
    (fun k => k [undef, undef, undef, undef, undef, undef, undef, undef, undef, undef, undef] w) (fun us73 w =>
    pick H8 (gd us73 10) (Value.bool false) (fun J1 w =>
    cond J1
      (nilC a0 (fun J4 w =>
      fldA Try.prog 31 J4 2 (fun J5 w =>
      ld Try.prog 29 J5 (fun J6 w =>
      idxA Try.prog 29 J6 i11 (fun J8 w =>
      fldA Try.prog 81 J8 3 (fun J9 w =>
      ld Try.prog 2 J9 (fun L0 w =>
      bin Try.prog BinOp.add 2 false false used9 L0 (fun L1 w =>
      qc0 (a0::id1::a2::id3::A1::A2::A3::k_7::limit8::L1::i10::i11::A9::C0::C1::C2::C3::C4::C5::C6::C7::C8::C9::D0::D1::D2::D3::D4::D5::D6::D7::D8::D9::E0::E1::E2::E3::E4::E5::E6::E7::E8::E9::F0::F1::F2::F3::F4::F5::F6::F7::F8::F9::G0::G1::G2::G3::G4::G5::G6::G7::G8::G9::a0::H1::H2::H3::i11::H5::H6::H7::H8::H8::(gd us73 0)::(gd us73 1)::(gd us73 2)::(gd us73 3)::(gd us73 4)::(gd us73 5)::(gd us73 6)::(gd us73 7)::(gd us73 8)::(gd us73 9)::(gd us73 10)::J1::used9::a0::J4::J5::J6::i11::J8::J9::L0::L1::L2::L3::[]) w) w) w) w) w) w) w) w)
      (qc0 (a0::id1::a2::id3::A1::A2::A3::k_7::limit8::used9::i10::i11::A9::C0::C1::C2::C3::C4::C5::C6::C7::C8::C9::D0::D1::D2::D3::D4::D5::D6::D7::D8::D9::E0::E1::E2::E3::E4::E5::E6::E7::E8::E9::F0::F1::F2::F3::F4::F5::F6::F7::F8::F9::G0::G1::G2::G3::G4::G5::G6::G7::G8::G9::a0::H1::H2::H3::i11::H5::H6::H7::H8::H8::(gd us73 0)::(gd us73 1)::(gd us73 2)::(gd us73 3)::(gd us73 4)::(gd us73 5)::(gd us73 6)::(gd us73 7)::(gd us73 8)::(gd us73 9)::(gd us73 10)::J1::J2::J3::J4::J5::J6::J7::J8::J9::L0::L1::L2::L3::[]) w)) w)) w) w) w) w) w) w) w) :
    cCode Try.prog (cd Try.f11 [1, 1, 1, 1, 1, 1, 0, 1, 0, 0, 1, 0]) qc0 (fun i => @Bool.rec (fun _ => KE) ((fun _ _ _ => False) i) qc1 (Nat.beq i 2)) (retK Try.prog Try.f11.results.toList K) (a0::id1::a2::id3::A1::A2::A3::k_7::limit8::used9::i10::i11::A9::C0::C1::C2::C3::C4::C5::C6::C7::C8::C9::D0::D1::D2::D3::D4::D5::D6::D7::D8::D9::E0::E1::E2::E3::E4::E5::E6::E7::E8::E9::F0::F1::F2::F3::F4::F5::F6::F7::F8::F9::G0::G1::G2::G3::G4::G5::G6::G7::G8::G9::H0::H1::H2::H3::H4::H5::H6::H7::H8::H9::I0::I1::I2::I3::I4::I5::I6::I7::I8::I9::J0::J1::J2::J3::J4::J5::J6::J7::J8::J9::L0::L1::L2::L3::[]) w := Eq.mp (by kernel_rfl) h

theorem leatref26_Audit_Sums_A2_r {K : KV} {B1 : KE} {w : World}
    (h : nilC a0 (fun H1 w =>
    fldA Try.prog 31 H1 2 (fun H2 w =>
    ld Try.prog 29 H2 (fun H3 w =>
    idxA Try.prog 29 H3 i11 (fun H5 w =>
    fldA Try.prog 81 H5 4 (fun H6 w =>
    ld Try.prog 4 H6 (fun H7 w =>
    un Try.prog UnOp.not H7 (fun H8 w =>
    gsel H8 true (fun k73 =>
    nilC a0 (fun I2 w =>
    fldA Try.prog 31 I2 2 (fun I3 w =>
    ld Try.prog 29 I3 (fun I4 w =>
    idxA Try.prog 29 I4 i11 (fun I6 w =>
    fldA Try.prog 81 I6 2 (fun I7 w =>
    ld Try.prog 33 I7 (fun I8 w =>
    call Try.prog 22 #[a0, I8, id1] (fun J0 w =>
    k73 [a0, a0, I2, I3, I4, i11, I6, I7, I8, id1, J0] w) w) w) w) w) w) w) w)
    (fun k => k [undef, undef, undef, undef, undef, undef, undef, undef, undef, undef, undef] w) (fun us73 w =>
    pick H8 (gd us73 10) (Value.bool false) (fun J1 w =>
    cond J1
      (nilC a0 (fun J4 w =>
      fldA Try.prog 31 J4 2 (fun J5 w =>
      ld Try.prog 29 J5 (fun J6 w =>
      idxA Try.prog 29 J6 i11 (fun J8 w =>
      fldA Try.prog 81 J8 3 (fun J9 w =>
      ld Try.prog 2 J9 (fun L0 w =>
      bin Try.prog BinOp.add 2 false false used9 L0 (fun L1 w =>
      (leatref26_Audit_Sums_P4 K B1) (a0::id1::a2::id3::A1::A2::A3::k_7::limit8::L1::i10::i11::A9::C0::C1::C2::C3::C4::C5::C6::C7::C8::C9::D0::D1::D2::D3::D4::D5::D6::D7::D8::D9::E0::E1::E2::E3::E4::E5::E6::E7::E8::E9::F0::F1::F2::F3::F4::F5::F6::F7::F8::F9::G0::G1::G2::G3::G4::G5::G6::G7::G8::G9::a0::H1::H2::H3::i11::H5::H6::H7::H8::H8::(gd us73 0)::(gd us73 1)::(gd us73 2)::(gd us73 3)::(gd us73 4)::(gd us73 5)::(gd us73 6)::(gd us73 7)::(gd us73 8)::(gd us73 9)::(gd us73 10)::J1::used9::a0::J4::J5::J6::i11::J8::J9::L0::L1::L2::L3::[]) w) w) w) w) w) w) w) w)
      ((leatref26_Audit_Sums_P4 K B1) (a0::id1::a2::id3::A1::A2::A3::k_7::limit8::used9::i10::i11::A9::C0::C1::C2::C3::C4::C5::C6::C7::C8::C9::D0::D1::D2::D3::D4::D5::D6::D7::D8::D9::E0::E1::E2::E3::E4::E5::E6::E7::E8::E9::F0::F1::F2::F3::F4::F5::F6::F7::F8::F9::G0::G1::G2::G3::G4::G5::G6::G7::G8::G9::a0::H1::H2::H3::i11::H5::H6::H7::H8::H8::(gd us73 0)::(gd us73 1)::(gd us73 2)::(gd us73 3)::(gd us73 4)::(gd us73 5)::(gd us73 6)::(gd us73 7)::(gd us73 8)::(gd us73 9)::(gd us73 10)::J1::J2::J3::J4::J5::J6::J7::J8::J9::L0::L1::L2::L3::[]) w)) w)) w) w) w) w) w) w) w) :
    leatref26_Audit_Sums_A2 K B1 (a0::id1::a2::id3::A1::A2::A3::k_7::limit8::used9::i10::i11::A9::C0::C1::C2::C3::C4::C5::C6::C7::C8::C9::D0::D1::D2::D3::D4::D5::D6::D7::D8::D9::E0::E1::E2::E3::E4::E5::E6::E7::E8::E9::F0::F1::F2::F3::F4::F5::F6::F7::F8::F9::G0::G1::G2::G3::G4::G5::G6::G7::G8::G9::H0::H1::H2::H3::H4::H5::H6::H7::H8::H9::I0::I1::I2::I3::I4::I5::I6::I7::I8::I9::J0::J1::J2::J3::J4::J5::J6::J7::J8::J9::L0::L1::L2::L3::[]) w := by
  delta leatref26_Audit_Sums_A2
  exact Eq.mp (congrArg (fun c => cCode Try.prog c (leatref26_Audit_Sums_P4 K B1) (fun i => @Bool.rec (fun _ => KE) ((fun _ _ _ => False) i) (leatref26_Audit_Sums_P3 K) (Nat.beq i 2)) (retK Try.prog Try.f11.results.toList K) (a0::id1::a2::id3::A1::A2::A3::k_7::limit8::used9::i10::i11::A9::C0::C1::C2::C3::C4::C5::C6::C7::C8::C9::D0::D1::D2::D3::D4::D5::D6::D7::D8::D9::E0::E1::E2::E3::E4::E5::E6::E7::E8::E9::F0::F1::F2::F3::F4::F5::F6::F7::F8::F9::G0::G1::G2::G3::G4::G5::G6::G7::G8::G9::H0::H1::H2::H3::H4::H5::H6::H7::H8::H9::I0::I1::I2::I3::I4::I5::I6::I7::I8::I9::J0::J1::J2::J3::J4::J5::J6::J7::J8::J9::L0::L1::L2::L3::[]) w) (by kernel_rfl : (cd Try.f11 [1, 1, 1, 1, 1, 1, 0, 1, 0, 0, 1, 0]) = (cd Try.f11 [1, 1, 1, 1, 1, 1, 0, 1, 0, 0, 1, 0]))) (leatref26_Audit_Sums_A2_k B1 (leatref26_Audit_Sums_P4 K B1) (leatref26_Audit_Sums_P3 K) h)

theorem leatref26_Audit_Sums_P3_k {K : KV} {w : World}
    (h : K (Value.tuple #[limit8, used9, (Value.int IntKind.i64 0)]) w) :
    cCode Try.prog (cd Try.f11 [1, 1, 1, 1, 1, 1, 1]) (retK Try.prog Try.f11.results.toList K) (fun _ _ _ => False) (retK Try.prog Try.f11.results.toList K) (a0::id1::a2::id3::A1::A2::A3::k_7::limit8::used9::i10::i11::A9::C0::C1::C2::C3::C4::C5::C6::C7::C8::C9::D0::D1::D2::D3::D4::D5::D6::D7::D8::D9::E0::E1::E2::E3::E4::E5::E6::E7::E8::E9::F0::F1::F2::F3::F4::F5::F6::F7::F8::F9::G0::G1::G2::G3::G4::G5::G6::G7::G8::G9::H0::H1::H2::H3::H4::H5::H6::H7::H8::H9::I0::I1::I2::I3::I4::I5::I6::I7::I8::I9::J0::J1::J2::J3::J4::J5::J6::J7::J8::J9::L0::L1::L2::L3::[]) w := Eq.mp (by kernel_rfl) h

theorem leatref26_Audit_Sums_P3_r {K : KV} {w : World}
    (h : K (Value.tuple #[limit8, used9, (Value.int IntKind.i64 0)]) w) :
    leatref26_Audit_Sums_P3 K (a0::id1::a2::id3::A1::A2::A3::k_7::limit8::used9::i10::i11::A9::C0::C1::C2::C3::C4::C5::C6::C7::C8::C9::D0::D1::D2::D3::D4::D5::D6::D7::D8::D9::E0::E1::E2::E3::E4::E5::E6::E7::E8::E9::F0::F1::F2::F3::F4::F5::F6::F7::F8::F9::G0::G1::G2::G3::G4::G5::G6::G7::G8::G9::H0::H1::H2::H3::H4::H5::H6::H7::H8::H9::I0::I1::I2::I3::I4::I5::I6::I7::I8::I9::J0::J1::J2::J3::J4::J5::J6::J7::J8::J9::L0::L1::L2::L3::[]) w := by
  delta leatref26_Audit_Sums_P3
  exact Eq.mp (congrArg (fun c => cCode Try.prog c (retK Try.prog Try.f11.results.toList K) (fun _ _ _ => False) (retK Try.prog Try.f11.results.toList K) (a0::id1::a2::id3::A1::A2::A3::k_7::limit8::used9::i10::i11::A9::C0::C1::C2::C3::C4::C5::C6::C7::C8::C9::D0::D1::D2::D3::D4::D5::D6::D7::D8::D9::E0::E1::E2::E3::E4::E5::E6::E7::E8::E9::F0::F1::F2::F3::F4::F5::F6::F7::F8::F9::G0::G1::G2::G3::G4::G5::G6::G7::G8::G9::H0::H1::H2::H3::H4::H5::H6::H7::H8::H9::I0::I1::I2::I3::I4::I5::I6::I7::I8::I9::J0::J1::J2::J3::J4::J5::J6::J7::J8::J9::L0::L1::L2::L3::[]) w) (by kernel_rfl : (cd Try.f11 [1, 1, 1, 1, 1, 1, 1]) = (cd Try.f11 [1, 1, 1, 1, 1, 1, 1]))) (leatref26_Audit_Sums_P3_k h)

theorem leatref26_Audit_Sums_P4_k {K : KV} (B1 : KE) (qc0 : KE) {w : World}
    (h : bin Try.prog BinOp.add 3 false true i11 (Value.int IntKind.i64 1) (fun G9 w =>
    B1 (a0::id1::a2::id3::A1::A2::A3::k_7::limit8::used9::i10::G9::A9::C0::C1::C2::C3::C4::C5::C6::C7::C8::C9::D0::D1::D2::D3::D4::D5::D6::D7::D8::D9::E0::E1::E2::E3::E4::E5::E6::E7::E8::E9::F0::F1::F2::F3::F4::F5::F6::F7::F8::F9::G0::G1::G2::G3::G4::G5::G6::G7::i11::G9::H0::H1::H2::H3::H4::H5::H6::H7::H8::H9::I0::I1::I2::I3::I4::I5::I6::I7::I8::I9::J0::J1::J2::J3::J4::J5::J6::J7::J8::J9::L0::L1::L2::L3::[]) w) w) :
    cCode Try.prog (cd Try.f11 [1, 1, 1, 1, 1, 1, 0, 1, 0, 0, 1, 1]) B1 (fun i => @Bool.rec (fun _ => KE) ((fun _ _ _ => False) i) qc0 (Nat.beq i 2)) (retK Try.prog Try.f11.results.toList K) (a0::id1::a2::id3::A1::A2::A3::k_7::limit8::used9::i10::i11::A9::C0::C1::C2::C3::C4::C5::C6::C7::C8::C9::D0::D1::D2::D3::D4::D5::D6::D7::D8::D9::E0::E1::E2::E3::E4::E5::E6::E7::E8::E9::F0::F1::F2::F3::F4::F5::F6::F7::F8::F9::G0::G1::G2::G3::G4::G5::G6::G7::G8::G9::H0::H1::H2::H3::H4::H5::H6::H7::H8::H9::I0::I1::I2::I3::I4::I5::I6::I7::I8::I9::J0::J1::J2::J3::J4::J5::J6::J7::J8::J9::L0::L1::L2::L3::[]) w := Eq.mp (by kernel_rfl) h

theorem leatref26_Audit_Sums_P4_r {K : KV} {B1 : KE} {w : World}
    (h : bin Try.prog BinOp.add 3 false true i11 (Value.int IntKind.i64 1) (fun G9 w =>
    B1 (a0::id1::a2::id3::A1::A2::A3::k_7::limit8::used9::i10::G9::A9::C0::C1::C2::C3::C4::C5::C6::C7::C8::C9::D0::D1::D2::D3::D4::D5::D6::D7::D8::D9::E0::E1::E2::E3::E4::E5::E6::E7::E8::E9::F0::F1::F2::F3::F4::F5::F6::F7::F8::F9::G0::G1::G2::G3::G4::G5::G6::G7::i11::G9::H0::H1::H2::H3::H4::H5::H6::H7::H8::H9::I0::I1::I2::I3::I4::I5::I6::I7::I8::I9::J0::J1::J2::J3::J4::J5::J6::J7::J8::J9::L0::L1::L2::L3::[]) w) w) :
    leatref26_Audit_Sums_P4 K B1 (a0::id1::a2::id3::A1::A2::A3::k_7::limit8::used9::i10::i11::A9::C0::C1::C2::C3::C4::C5::C6::C7::C8::C9::D0::D1::D2::D3::D4::D5::D6::D7::D8::D9::E0::E1::E2::E3::E4::E5::E6::E7::E8::E9::F0::F1::F2::F3::F4::F5::F6::F7::F8::F9::G0::G1::G2::G3::G4::G5::G6::G7::G8::G9::H0::H1::H2::H3::H4::H5::H6::H7::H8::H9::I0::I1::I2::I3::I4::I5::I6::I7::I8::I9::J0::J1::J2::J3::J4::J5::J6::J7::J8::J9::L0::L1::L2::L3::[]) w := by
  delta leatref26_Audit_Sums_P4
  exact Eq.mp (congrArg (fun c => cCode Try.prog c B1 (fun i => @Bool.rec (fun _ => KE) ((fun _ _ _ => False) i) (leatref26_Audit_Sums_P3 K) (Nat.beq i 2)) (retK Try.prog Try.f11.results.toList K) (a0::id1::a2::id3::A1::A2::A3::k_7::limit8::used9::i10::i11::A9::C0::C1::C2::C3::C4::C5::C6::C7::C8::C9::D0::D1::D2::D3::D4::D5::D6::D7::D8::D9::E0::E1::E2::E3::E4::E5::E6::E7::E8::E9::F0::F1::F2::F3::F4::F5::F6::F7::F8::F9::G0::G1::G2::G3::G4::G5::G6::G7::G8::G9::H0::H1::H2::H3::H4::H5::H6::H7::H8::H9::I0::I1::I2::I3::I4::I5::I6::I7::I8::I9::J0::J1::J2::J3::J4::J5::J6::J7::J8::J9::L0::L1::L2::L3::[]) w) (by kernel_rfl : (cd Try.f11 [1, 1, 1, 1, 1, 1, 0, 1, 0, 0, 1, 1]) = (cd Try.f11 [1, 1, 1, 1, 1, 1, 0, 1, 0, 0, 1, 1]))) (leatref26_Audit_Sums_P4_k B1 (leatref26_Audit_Sums_P3 K) h)
attribute [irreducible] leatref26_Audit_Sums_P1 leatref26_Audit_Sums_L1 leatref26_Audit_Sums_P2 leatref26_Audit_Sums_A1 leatref26_Audit_Sums_P3 leatref26_Audit_Sums_L2 leatref26_Audit_Sums_P4 leatref26_Audit_Sums_A2

def leatref26_Audit_Bound_P1 (K : KV) : KE := cCode Try.prog (cd Try.f13 [1, 1]) (retK Try.prog Try.f13.results.toList K) (fun _ _ _ => False) (retK Try.prog Try.f13.results.toList K)
def leatref26_Audit_Bound_L1 (K : KV) : KE := cCode Try.prog (cd Try.f13 [1, 0, 1, 0]) (leatref26_Audit_Bound_P1 K) (fun i => @Bool.rec (fun _ => KE) ((fun _ _ _ => False) i) (leatref26_Audit_Bound_P1 K) (Nat.beq i 0)) (retK Try.prog Try.f13.results.toList K)
end
theorem leatref26_Audit_Bound_k {K : KV} {a0 : Value} {w : World}
    (h : (cCode Try.prog (cd Try.f13 [1, 0, 1, 0]) (cCode Try.prog (cd Try.f13 [1, 1]) (retK Try.prog Try.f13.results.toList K) (fun _ _ _ => False) (retK Try.prog Try.f13.results.toList K)) (fun i => @Bool.rec (fun _ => KE) ((fun _ _ _ => False) i) (cCode Try.prog (cd Try.f13 [1, 1]) (retK Try.prog Try.f13.results.toList K) (fun _ _ _ => False) (retK Try.prog Try.f13.results.toList K)) (Nat.beq i 0)) (retK Try.prog Try.f13.results.toList K)) [a0, undef, (Value.bool false), (Value.int IntKind.i64 0), undef, undef, undef, undef, undef, undef, undef, undef, undef, undef, undef, undef, undef, undef, undef, undef, undef, undef, undef, undef, undef, undef, undef, undef, undef, undef, undef, undef, undef] w) :
    cCode Try.prog (cd Try.f13 []) (retK Try.prog Try.f13.results.toList K) (fun _ _ _ => False) (retK Try.prog Try.f13.results.toList K) [a0, undef, undef, undef, undef, undef, undef, undef, undef, undef, undef, undef, undef, undef, undef, undef, undef, undef, undef, undef, undef, undef, undef, undef, undef, undef, undef, undef, undef, undef, undef, undef, undef] w := Eq.mp (by kernel_rfl) h

theorem leatref26_Audit_Bound_in {K : KV} {a0 : Value} {w : World}
    (h : (leatref26_Audit_Bound_L1 K) [a0, undef, (Value.bool false), (Value.int IntKind.i64 0), undef, undef, undef, undef, undef, undef, undef, undef, undef, undef, undef, undef, undef, undef, undef, undef, undef, undef, undef, undef, undef, undef, undef, undef, undef, undef, undef, undef, undef] w) :
    Gives Try.prog 13 #[a0] w K := enter' Try.func13 (by kernel_rfl) (Eq.mp (congrArg (fun c => cCode Try.prog c (retK Try.prog Try.f13.results.toList K) (fun _ _ _ => False) (retK Try.prog Try.f13.results.toList K) [a0, undef, undef, undef, undef, undef, undef, undef, undef, undef, undef, undef, undef, undef, undef, undef, undef, undef, undef, undef, undef, undef, undef, undef, undef, undef, undef, undef, undef, undef, undef, undef, undef] w) (by kernel_rfl : (cd Try.f13 []) = (cd Try.f13 []))) (leatref26_Audit_Bound_k h))
theorem leatref26_Audit_Bound_go : isGo Try.prog 13 := ⟨_, Try.func13, by kernel_rfl, by kernel_rfl⟩

theorem leatref26_Audit_Bound_L1_k {K : KV} (B1 : KE) (qc0 : KE) {a0 a1 i3' : Value} {dd : Nat → Value} {w : World}
    (h : nilC a0 (fun A6 w =>
    fldA Try.prog 31 A6 0 (fun A7 w =>
    ld Try.prog 27 A7 (fun A8 w =>
    blt Try.prog Builtin.len #[27] 3 #[false] #[A8] (fun A9 w =>
    bin Try.prog BinOp.lss 3 false false i3' A9 (fun C0 w =>
    cond C0
      (nilC a0 (fun C6 w =>
    fldA Try.prog 31 C6 0 (fun C7 w =>
    ld Try.prog 27 C7 (fun C8 w =>
    idxA Try.prog 27 C8 i3' (fun D0 w =>
    fldA Try.prog 49 D0 0 (fun D1 w =>
    ld Try.prog 33 D1 (fun D2 w =>
    call Try.prog 11 #[a0, D2] (fun D3 w =>
    ext Try.prog D3 0 (fun D4 w =>
    ext Try.prog D3 1 (fun D5 w =>
    ext Try.prog D3 2 (fun D6 w =>
    bin Try.prog BinOp.gtr 2 false false D5 D4 (fun D9 w =>
    cond D9
      (K (Value.bool false) w)
      (bin Try.prog BinOp.add 3 false true i3' (Value.int IntKind.i64 1) (fun C2 w =>
    B1 [a0, a1, (dd 2), C2, D4, D5, D6, i3', a0, A6, A7, A8, A9, C0, i3', C2, D3, a0, a0, C6, C7, C8, i3', D0, D1, D2, D3, D4, D5, D6, D5, D4, D9] w) w)) w) w) w) w) w) w) w) w) w) w) w)
      (qc0 [a0, a1, (dd 2), i3', (dd 4), (dd 5), (dd 6), i3', a0, A6, A7, A8, A9, C0, (dd 14), (dd 15), (dd 16), (dd 17), (dd 18), (dd 19), (dd 20), (dd 21), (dd 22), (dd 23), (dd 24), (dd 25), (dd 26), (dd 27), (dd 28), (dd 29), (dd 30), (dd 31), (dd 32)] w)) w) w) w) w) w) :
    cCode Try.prog (cd Try.f13 [1, 0, 1, 0, 0]) B1 (fun i => @Bool.rec (fun _ => KE) ((fun _ _ _ => False) i) qc0 (Nat.beq i 0)) (retK Try.prog Try.f13.results.toList K) [a0, a1, (dd 2), i3', (dd 4), (dd 5), (dd 6), (dd 7), (dd 8), (dd 9), (dd 10), (dd 11), (dd 12), (dd 13), (dd 14), (dd 15), (dd 16), (dd 17), (dd 18), (dd 19), (dd 20), (dd 21), (dd 22), (dd 23), (dd 24), (dd 25), (dd 26), (dd 27), (dd 28), (dd 29), (dd 30), (dd 31), (dd 32)] w := Eq.mp (by kernel_rfl) h

theorem leatref26_Audit_Bound_L1_r {K : KV} {a0 a1 A0 i3 limit4 used5 A3 A4 A5 A6 A7 A8 A9 C0 C1 C2 C3 C4 C5 C6 C7 C8 C9 D0 D1 D2 D3 D4 D5 D6 D7 D8 D9 : Value} {w : World} (Inv : Value → World → Prop) (μ : Value → World → Nat) (h0 : Inv i3 w)
    (hs : ∀ (i3' : Value) (dd : Nat → Value) (w : World) (m : Nat), Inv i3' w → m = μ i3' w →
    nilC a0 (fun A6 w =>
    fldA Try.prog 31 A6 0 (fun A7 w =>
    ld Try.prog 27 A7 (fun A8 w =>
    blt Try.prog Builtin.len #[27] 3 #[false] #[A8] (fun A9 w =>
    bin Try.prog BinOp.lss 3 false false i3' A9 (fun C0 w =>
    cond C0
      (nilC a0 (fun C6 w =>
    fldA Try.prog 31 C6 0 (fun C7 w =>
    ld Try.prog 27 C7 (fun C8 w =>
    idxA Try.prog 27 C8 i3' (fun D0 w =>
    fldA Try.prog 49 D0 0 (fun D1 w =>
    ld Try.prog 33 D1 (fun D2 w =>
    call Try.prog 11 #[a0, D2] (fun D3 w =>
    ext Try.prog D3 0 (fun D4 w =>
    ext Try.prog D3 1 (fun D5 w =>
    ext Try.prog D3 2 (fun D6 w =>
    bin Try.prog BinOp.gtr 2 false false D5 D4 (fun D9 w =>
    cond D9
      (K (Value.bool false) w)
      (bin Try.prog BinOp.add 3 false true i3' (Value.int IntKind.i64 1) (fun C2 w =>
    (Inv C2 w ∧ μ C2 w < m)) w)) w) w) w) w) w) w) w) w) w) w) w)
      ((leatref26_Audit_Bound_P1 K) [a0, a1, (dd 2), i3', (dd 4), (dd 5), (dd 6), i3', a0, A6, A7, A8, A9, C0, (dd 14), (dd 15), (dd 16), (dd 17), (dd 18), (dd 19), (dd 20), (dd 21), (dd 22), (dd 23), (dd 24), (dd 25), (dd 26), (dd 27), (dd 28), (dd 29), (dd 30), (dd 31), (dd 32)] w)) w) w) w) w) w) :
    leatref26_Audit_Bound_L1 K [a0, a1, A0, i3, limit4, used5, A3, A4, A5, A6, A7, A8, A9, C0, C1, C2, C3, C4, C5, C6, C7, C8, C9, D0, D1, D2, D3, D4, D5, D6, D7, D8, D9] w := by
  refine loop_rule (cd Try.f13 [1, 0, 1, 0, 0]) [2, 3, 4, 5, 6, 7, 8, 9, 10, 11, 12, 13, 14, 15, 16, 17, 18, 19, 20, 21, 22, 23, 24, 25, 26, 27, 28, 29, 30, 31, 32] (by kernel_rfl) (fun e2 w2 => Inv (gd e2 3) w2) (fun e2 w2 => μ (gd e2 3) w2) h0 ?_
  intro e' w' hI
  have h := hs (gd e' 3) (fun i => gd e' i) w' _ hI rfl
  have h2 : cCode Try.prog (cd Try.f13 [1, 0, 1, 0, 0]) (fun e2 w2 => Inv (gd e2 3) w2 ∧ μ (gd e2 3) w2 < μ (gd e' 3) w') (fun i => @Bool.rec (fun _ => KE) ((fun _ _ _ => False) i) (leatref26_Audit_Bound_P1 K) (Nat.beq i 0)) (retK Try.prog Try.f13.results.toList K) [a0, a1, (gd e' 2), (gd e' 3), (gd e' 4), (gd e' 5), (gd e' 6), (gd e' 7), (gd e' 8), (gd e' 9), (gd e' 10), (gd e' 11), (gd e' 12), (gd e' 13), (gd e' 14), (gd e' 15), (gd e' 16), (gd e' 17), (gd e' 18), (gd e' 19), (gd e' 20), (gd e' 21), (gd e' 22), (gd e' 23), (gd e' 24), (gd e' 25), (gd e' 26), (gd e' 27), (gd e' 28), (gd e' 29), (gd e' 30), (gd e' 31), (gd e' 32)] w' := leatref26_Audit_Bound_L1_k (fun e2 w2 => Inv (gd e2 3) w2 ∧ μ (gd e2 3) w2 < μ (gd e' 3) w') (leatref26_Audit_Bound_P1 K) (Eq.mp (by kernel_rfl) h)
  exact Eq.mp (by kernel_rfl) h2

theorem leatref26_Audit_Bound_P1_k {K : KV} {a0 a1 A0 i3 limit4 used5 A3 A4 A5 A6 A7 A8 A9 C0 C1 C2 C3 C4 C5 C6 C7 C8 C9 D0 D1 D2 D3 D4 D5 D6 D7 D8 D9 : Value} {w : World}
    (h : K (Value.bool true) w) :
    cCode Try.prog (cd Try.f13 [1, 1]) (retK Try.prog Try.f13.results.toList K) (fun _ _ _ => False) (retK Try.prog Try.f13.results.toList K) [a0, a1, A0, i3, limit4, used5, A3, A4, A5, A6, A7, A8, A9, C0, C1, C2, C3, C4, C5, C6, C7, C8, C9, D0, D1, D2, D3, D4, D5, D6, D7, D8, D9] w := Eq.mp (by kernel_rfl) h

theorem leatref26_Audit_Bound_P1_r {K : KV} {a0 a1 A0 i3 limit4 used5 A3 A4 A5 A6 A7 A8 A9 C0 C1 C2 C3 C4 C5 C6 C7 C8 C9 D0 D1 D2 D3 D4 D5 D6 D7 D8 D9 : Value} {w : World}
    (h : K (Value.bool true) w) :
    leatref26_Audit_Bound_P1 K [a0, a1, A0, i3, limit4, used5, A3, A4, A5, A6, A7, A8, A9, C0, C1, C2, C3, C4, C5, C6, C7, C8, C9, D0, D1, D2, D3, D4, D5, D6, D7, D8, D9] w := by
  delta leatref26_Audit_Bound_P1
  exact Eq.mp (congrArg (fun c => cCode Try.prog c (retK Try.prog Try.f13.results.toList K) (fun _ _ _ => False) (retK Try.prog Try.f13.results.toList K) [a0, a1, A0, i3, limit4, used5, A3, A4, A5, A6, A7, A8, A9, C0, C1, C2, C3, C4, C5, C6, C7, C8, C9, D0, D1, D2, D3, D4, D5, D6, D7, D8, D9] w) (by kernel_rfl : (cd Try.f13 [1, 1]) = (cd Try.f13 [1, 1]))) (leatref26_Audit_Bound_P1_k h)
attribute [irreducible] leatref26_Audit_Bound_P1 leatref26_Audit_Bound_L1

def leatref26_Audit_node_P1 (K : KV) : KE := cCode Try.prog (cd Try.f19 [1, 1]) (retK Try.prog Try.f19.results.toList K) (fun _ _ _ => False) (retK Try.prog Try.f19.results.toList K)
def leatref26_Audit_node_L1 (K : KV) : KE := cCode Try.prog (cd Try.f19 [1, 0, 1, 0]) (leatref26_Audit_node_P1 K) (fun i => @Bool.rec (fun _ => KE) ((fun _ _ _ => False) i) (leatref26_Audit_node_P1 K) (Nat.beq i 0)) (retK Try.prog Try.f19.results.toList K)
theorem leatref26_Audit_node_k {K : KV} {a0 id1 : Value} {w : World}
    (h : (cCode Try.prog (cd Try.f19 [1, 0, 1, 0]) (cCode Try.prog (cd Try.f19 [1, 1]) (retK Try.prog Try.f19.results.toList K) (fun _ _ _ => False) (retK Try.prog Try.f19.results.toList K)) (fun i => @Bool.rec (fun _ => KE) ((fun _ _ _ => False) i) (cCode Try.prog (cd Try.f19 [1, 1]) (retK Try.prog Try.f19.results.toList K) (fun _ _ _ => False) (retK Try.prog Try.f19.results.toList K)) (Nat.beq i 0)) (retK Try.prog Try.f19.results.toList K)) [a0, id1, undef, undef, (Value.int IntKind.i64 0), (Value.int IntKind.i64 0), undef, undef, undef, undef, undef, undef, undef, undef, undef, undef, undef, undef, undef, undef, undef, undef, undef, undef, undef, undef] w) :
    cCode Try.prog (cd Try.f19 []) (retK Try.prog Try.f19.results.toList K) (fun _ _ _ => False) (retK Try.prog Try.f19.results.toList K) [a0, id1, undef, undef, undef, undef, undef, undef, undef, undef, undef, undef, undef, undef, undef, undef, undef, undef, undef, undef, undef, undef, undef, undef, undef, undef] w := Eq.mp (by kernel_rfl) h

theorem leatref26_Audit_node_in {K : KV} {a0 id1 : Value} {w : World}
    (h : (leatref26_Audit_node_L1 K) [a0, id1, undef, undef, (Value.int IntKind.i64 0), (Value.int IntKind.i64 0), undef, undef, undef, undef, undef, undef, undef, undef, undef, undef, undef, undef, undef, undef, undef, undef, undef, undef, undef, undef] w) :
    Gives Try.prog 19 #[a0, id1] w K := enter' Try.func19 (by kernel_rfl) (Eq.mp (congrArg (fun c => cCode Try.prog c (retK Try.prog Try.f19.results.toList K) (fun _ _ _ => False) (retK Try.prog Try.f19.results.toList K) [a0, id1, undef, undef, undef, undef, undef, undef, undef, undef, undef, undef, undef, undef, undef, undef, undef, undef, undef, undef, undef, undef, undef, undef, undef, undef] w) (by kernel_rfl : (cd Try.f19 []) = (cd Try.f19 []))) (leatref26_Audit_node_k h))
theorem leatref26_Audit_node_go : isGo Try.prog 19 := ⟨_, Try.func19, by kernel_rfl, by kernel_rfl⟩

theorem leatref26_Audit_node_L1_k {K : KV} (B1 : KE) (qc0 : KE) {a0 id1 a2 id3 i5' : Value} {dd : Nat → Value} {w : World}
    (h : nilC a0 (fun A5 w =>
    fldA Try.prog 31 A5 0 (fun A6 w =>
    ld Try.prog 27 A6 (fun A7 w =>
    blt Try.prog Builtin.len #[27] 3 #[false] #[A7] (fun A8 w =>
    bin Try.prog BinOp.lss 3 false false i5' A8 (fun A9 w =>
    cond A9
      (nilC a0 (fun C3 w =>
    fldA Try.prog 31 C3 0 (fun C4 w =>
    ld Try.prog 27 C4 (fun C5 w =>
    idxA Try.prog 27 C5 i5' (fun C7 w =>
    fldA Try.prog 49 C7 0 (fun C8 w =>
    ld Try.prog 33 C8 (fun C9 w =>
    bin Try.prog BinOp.eql 33 false false C9 id1 (fun D1 w =>
    cond D1
      (K i5' w)
      (bin Try.prog BinOp.add 3 false true i5' (Value.int IntKind.i64 1) (fun C1 w =>
    B1 [a0, id1, a2, id3, (dd 4), C1, i5', a0, A5, A6, A7, A8, A9, i5', C1, a0, C3, C4, C5, i5', C7, C8, C9, id1, D1, (dd 25)] w) w)) w) w) w) w) w) w) w)
      (qc0 [a0, id1, a2, id3, (dd 4), i5', i5', a0, A5, A6, A7, A8, A9, (dd 13), (dd 14), (dd 15), (dd 16), (dd 17), (dd 18), (dd 19), (dd 20), (dd 21), (dd 22), (dd 23), (dd 24), (dd 25)] w)) w) w) w) w) w) :
    cCode Try.prog (cd Try.f19 [1, 0, 1, 0, 0]) B1 (fun i => @Bool.rec (fun _ => KE) ((fun _ _ _ => False) i) qc0 (Nat.beq i 0)) (retK Try.prog Try.f19.results.toList K) [a0, id1, a2, id3, (dd 4), i5', (dd 6), (dd 7), (dd 8), (dd 9), (dd 10), (dd 11), (dd 12), (dd 13), (dd 14), (dd 15), (dd 16), (dd 17), (dd 18), (dd 19), (dd 20), (dd 21), (dd 22), (dd 23), (dd 24), (dd 25)] w := Eq.mp (by kernel_rfl) h

theorem leatref26_Audit_node_L1_r {K : KV} {a0 id1 a2 id3 A1 i5 A3 A4 A5 A6 A7 A8 A9 C0 C1 C2 C3 C4 C5 C6 C7 C8 C9 D0 D1 D2 : Value} {w : World} (Inv : Value → World → Prop) (μ : Value → World → Nat) (h0 : Inv i5 w)
    (hs : ∀ (i5' : Value) (dd : Nat → Value) (w : World) (m : Nat), Inv i5' w → m = μ i5' w →
    nilC a0 (fun A5 w =>
    fldA Try.prog 31 A5 0 (fun A6 w =>
    ld Try.prog 27 A6 (fun A7 w =>
    blt Try.prog Builtin.len #[27] 3 #[false] #[A7] (fun A8 w =>
    bin Try.prog BinOp.lss 3 false false i5' A8 (fun A9 w =>
    cond A9
      (nilC a0 (fun C3 w =>
    fldA Try.prog 31 C3 0 (fun C4 w =>
    ld Try.prog 27 C4 (fun C5 w =>
    idxA Try.prog 27 C5 i5' (fun C7 w =>
    fldA Try.prog 49 C7 0 (fun C8 w =>
    ld Try.prog 33 C8 (fun C9 w =>
    bin Try.prog BinOp.eql 33 false false C9 id1 (fun D1 w =>
    cond D1
      (K i5' w)
      (bin Try.prog BinOp.add 3 false true i5' (Value.int IntKind.i64 1) (fun C1 w =>
    (Inv C1 w ∧ μ C1 w < m)) w)) w) w) w) w) w) w) w)
      ((leatref26_Audit_node_P1 K) [a0, id1, a2, id3, (dd 4), i5', i5', a0, A5, A6, A7, A8, A9, (dd 13), (dd 14), (dd 15), (dd 16), (dd 17), (dd 18), (dd 19), (dd 20), (dd 21), (dd 22), (dd 23), (dd 24), (dd 25)] w)) w) w) w) w) w) :
    leatref26_Audit_node_L1 K [a0, id1, a2, id3, A1, i5, A3, A4, A5, A6, A7, A8, A9, C0, C1, C2, C3, C4, C5, C6, C7, C8, C9, D0, D1, D2] w := by
  refine loop_rule (cd Try.f19 [1, 0, 1, 0, 0]) [4, 5, 6, 7, 8, 9, 10, 11, 12, 13, 14, 15, 16, 17, 18, 19, 20, 21, 22, 23, 24, 25] (by kernel_rfl) (fun e2 w2 => Inv (gd e2 5) w2) (fun e2 w2 => μ (gd e2 5) w2) h0 ?_
  intro e' w' hI
  have h := hs (gd e' 5) (fun i => gd e' i) w' _ hI rfl
  have h2 : cCode Try.prog (cd Try.f19 [1, 0, 1, 0, 0]) (fun e2 w2 => Inv (gd e2 5) w2 ∧ μ (gd e2 5) w2 < μ (gd e' 5) w') (fun i => @Bool.rec (fun _ => KE) ((fun _ _ _ => False) i) (leatref26_Audit_node_P1 K) (Nat.beq i 0)) (retK Try.prog Try.f19.results.toList K) [a0, id1, a2, id3, (gd e' 4), (gd e' 5), (gd e' 6), (gd e' 7), (gd e' 8), (gd e' 9), (gd e' 10), (gd e' 11), (gd e' 12), (gd e' 13), (gd e' 14), (gd e' 15), (gd e' 16), (gd e' 17), (gd e' 18), (gd e' 19), (gd e' 20), (gd e' 21), (gd e' 22), (gd e' 23), (gd e' 24), (gd e' 25)] w' := leatref26_Audit_node_L1_k (fun e2 w2 => Inv (gd e2 5) w2 ∧ μ (gd e2 5) w2 < μ (gd e' 5) w') (leatref26_Audit_node_P1 K) (Eq.mp (by kernel_rfl) h)
  exact Eq.mp (by kernel_rfl) h2

theorem leatref26_Audit_node_P1_k {K : KV} {a0 id1 a2 id3 A1 i5 A3 A4 A5 A6 A7 A8 A9 C0 C1 C2 C3 C4 C5 C6 C7 C8 C9 D0 D1 D2 : Value} {w : World}
    (h : K (Value.int IntKind.i64 (-1)) w) :
    cCode Try.prog (cd Try.f19 [1, 1]) (retK Try.prog Try.f19.results.toList K) (fun _ _ _ => False) (retK Try.prog Try.f19.results.toList K) [a0, id1, a2, id3, A1, i5, A3, A4, A5, A6, A7, A8, A9, C0, C1, C2, C3, C4, C5, C6, C7, C8, C9, D0, D1, D2] w := Eq.mp (by kernel_rfl) h

theorem leatref26_Audit_node_P1_r {K : KV} {a0 id1 a2 id3 A1 i5 A3 A4 A5 A6 A7 A8 A9 C0 C1 C2 C3 C4 C5 C6 C7 C8 C9 D0 D1 D2 : Value} {w : World}
    (h : K (Value.int IntKind.i64 (-1)) w) :
    leatref26_Audit_node_P1 K [a0, id1, a2, id3, A1, i5, A3, A4, A5, A6, A7, A8, A9, C0, C1, C2, C3, C4, C5, C6, C7, C8, C9, D0, D1, D2] w := by
  delta leatref26_Audit_node_P1
  exact Eq.mp (congrArg (fun c => cCode Try.prog c (retK Try.prog Try.f19.results.toList K) (fun _ _ _ => False) (retK Try.prog Try.f19.results.toList K) [a0, id1, a2, id3, A1, i5, A3, A4, A5, A6, A7, A8, A9, C0, C1, C2, C3, C4, C5, C6, C7, C8, C9, D0, D1, D2] w) (by kernel_rfl : (cd Try.f19 [1, 1]) = (cd Try.f19 [1, 1]))) (leatref26_Audit_node_P1_k h)
attribute [irreducible] leatref26_Audit_node_P1 leatref26_Audit_node_L1

def leatref26_Audit_take_P1 (K : KV) : KE := cCode Try.prog (cd Try.f20 [1, 1]) (retK Try.prog Try.f20.results.toList K) (fun _ _ _ => False) (retK Try.prog Try.f20.results.toList K)
def leatref26_Audit_take_L1 (K : KV) : KE := cCode Try.prog (cd Try.f20 [1, 0, 1, 0]) (leatref26_Audit_take_P1 K) (fun i => @Bool.rec (fun _ => KE) ((fun _ _ _ => False) i) (leatref26_Audit_take_P1 K) (Nat.beq i 0)) (retK Try.prog Try.f20.results.toList K)
theorem leatref26_Audit_take_k {K : KV} {a0 who1 req2 : Value} {w : World}
    (h : (cCode Try.prog (cd Try.f20 [1, 0, 1, 0]) (cCode Try.prog (cd Try.f20 [1, 1]) (retK Try.prog Try.f20.results.toList K) (fun _ _ _ => False) (retK Try.prog Try.f20.results.toList K)) (fun i => @Bool.rec (fun _ => KE) ((fun _ _ _ => False) i) (cCode Try.prog (cd Try.f20 [1, 1]) (retK Try.prog Try.f20.results.toList K) (fun _ _ _ => False) (retK Try.prog Try.f20.results.toList K)) (Nat.beq i 0)) (retK Try.prog Try.f20.results.toList K)) [a0, who1, req2, undef, undef, undef, (Value.int IntKind.i64 0), (Value.int IntKind.i64 0), undef, undef, undef, undef, undef, undef, undef, undef, undef, undef, undef, undef, undef, undef, undef, undef, undef, undef, undef, undef, undef, undef, undef, undef, undef, undef, undef, undef, undef, undef, undef, undef] w) :
    cCode Try.prog (cd Try.f20 []) (retK Try.prog Try.f20.results.toList K) (fun _ _ _ => False) (retK Try.prog Try.f20.results.toList K) [a0, who1, req2, undef, undef, undef, undef, undef, undef, undef, undef, undef, undef, undef, undef, undef, undef, undef, undef, undef, undef, undef, undef, undef, undef, undef, undef, undef, undef, undef, undef, undef, undef, undef, undef, undef, undef, undef, undef, undef] w := Eq.mp (by kernel_rfl) h

theorem leatref26_Audit_take_in {K : KV} {a0 who1 req2 : Value} {w : World}
    (h : (leatref26_Audit_take_L1 K) [a0, who1, req2, undef, undef, undef, (Value.int IntKind.i64 0), (Value.int IntKind.i64 0), undef, undef, undef, undef, undef, undef, undef, undef, undef, undef, undef, undef, undef, undef, undef, undef, undef, undef, undef, undef, undef, undef, undef, undef, undef, undef, undef, undef, undef, undef, undef, undef] w) :
    Gives Try.prog 20 #[a0, who1, req2] w K := enter' Try.func20 (by kernel_rfl) (Eq.mp (congrArg (fun c => cCode Try.prog c (retK Try.prog Try.f20.results.toList K) (fun _ _ _ => False) (retK Try.prog Try.f20.results.toList K) [a0, who1, req2, undef, undef, undef, undef, undef, undef, undef, undef, undef, undef, undef, undef, undef, undef, undef, undef, undef, undef, undef, undef, undef, undef, undef, undef, undef, undef, undef, undef, undef, undef, undef, undef, undef, undef, undef, undef, undef] w) (by kernel_rfl : (cd Try.f20 []) = (cd Try.f20 []))) (leatref26_Audit_take_k h))
theorem leatref26_Audit_take_go : isGo Try.prog 20 := ⟨_, Try.func20, by kernel_rfl, by kernel_rfl⟩

theorem leatref26_Audit_take_L1_k {K : KV} (B1 : KE) (qc0 : KE) {a0 who1 req2 a3 who4 req5 i7' D5' D6' D7' D8' D9' E0' E1' E2' E3' E4' : Value} {dd : Nat → Value} {w : World}
    (h : nilC a0 (fun A7 w =>
    fldA Try.prog 31 A7 2 (fun A8 w =>
    ld Try.prog 29 A8 (fun A9 w =>
    blt Try.prog Builtin.len #[29] 3 #[false] #[A9] (fun C0 w =>
    bin Try.prog BinOp.lss 3 false false i7' C0 (fun C1 w =>
    cond C1
      (nilC a0 (fun C5 w =>
    fldA Try.prog 31 C5 2 (fun C6 w =>
    ld Try.prog 29 C6 (fun C7 w =>
    idxA Try.prog 29 C7 i7' (fun C9 w =>
    fldA Try.prog 81 C9 0 (fun D0 w =>
    ld Try.prog 3 D0 (fun D1 w =>
    bin Try.prog BinOp.eql 3 false false D1 who1 (fun D3 w =>
    gsel D3 true (fun k28 =>
    nilC a0 (fun D6 w =>
    fldA Try.prog 31 D6 2 (fun D7 w =>
    ld Try.prog 29 D7 (fun D8 w =>
    idxA Try.prog 29 D8 i7' (fun E0 w =>
    fldA Try.prog 81 E0 1 (fun E1 w =>
    ld Try.prog 33 E1 (fun E2 w =>
    bin Try.prog BinOp.eql 33 false false E2 req2 (fun E4 w =>
    k28 [a0, D6, D7, D8, i7', E0, E1, E2, req2, E4] w) w) w) w) w) w) w) w)
    (fun k => k [undef, undef, undef, undef, undef, undef, undef, undef, undef, undef] w) (fun us28 w =>
    pick D3 (gd us28 9) (Value.bool false) (fun E5 w =>
    cond E5
      (K i7' w)
      (bin Try.prog BinOp.add 3 false true i7' (Value.int IntKind.i64 1) (fun C3 w =>
    B1 [a0, who1, req2, a3, who4, req5, (dd 6), C3, i7', a0, A7, A8, A9, C0, C1, i7', C3, a0, C5, C6, C7, i7', C9, D0, D1, who1, D3, D3, (gd us28 0), (gd us28 1), (gd us28 2), (gd us28 3), (gd us28 4), (gd us28 5), (gd us28 6), (gd us28 7), (gd us28 8), (gd us28 9), E5, (dd 39)] w) w)) w)) w) w) w) w) w) w) w)
      (qc0 [a0, who1, req2, a3, who4, req5, (dd 6), i7', i7', a0, A7, A8, A9, C0, C1, (dd 15), (dd 16), (dd 17), (dd 18), (dd 19), (dd 20), (dd 21), (dd 22), (dd 23), (dd 24), (dd 25), (dd 26), (dd 27), D5', D6', D7', D8', D9', E0', E1', E2', E3', E4', (dd 38), (dd 39)] w)) w) w) w) w) w) :
    cCode Try.prog (cd Try.f20 [1, 0, 1, 0, 0]) B1 (fun i => @Bool.rec (fun _ => KE) ((fun _ _ _ => False) i) qc0 (Nat.beq i 0)) (retK Try.prog Try.f20.results.toList K) [a0, who1, req2, a3, who4, req5, (dd 6), i7', (dd 8), (dd 9), (dd 10), (dd 11), (dd 12), (dd 13), (dd 14), (dd 15), (dd 16), (dd 17), (dd 18), (dd 19), (dd 20), (dd 21), (dd 22), (dd 23), (dd 24), (dd 25), (dd 26), (dd 27), D5', D6', D7', D8', D9', E0', E1', E2', E3', E4', (dd 38), (dd 39)] w := Eq.mp (by kernel_rfl) h

theorem leatref26_Audit_take_L1_r {K : KV} {a0 who1 req2 a3 who4 req5 A3 i7 A5 A6 A7 A8 A9 C0 C1 C2 C3 C4 C5 C6 C7 C8 C9 D0 D1 D2 D3 D4 D5 D6 D7 D8 D9 E0 E1 E2 E3 E4 E5 E6 : Value} {w : World} (Inv : Value → Value → Value → Value → Value → Value → Value → Value → Value → Value → Value → World → Prop) (μ : Value → Value → Value → Value → Value → Value → Value → Value → Value → Value → Value → World → Nat) (h0 : Inv i7 D5 D6 D7 D8 D9 E0 E1 E2 E3 E4 w)
    (hs : ∀ (i7' D5' D6' D7' D8' D9' E0' E1' E2' E3' E4' : Value) (dd : Nat → Value) (w : World) (m : Nat), Inv i7' D5' D6' D7' D8' D9' E0' E1' E2' E3' E4' w → m = μ i7' D5' D6' D7' D8' D9' E0' E1' E2' E3' E4' w →
    nilC a0 (fun A7 w =>
    fldA Try.prog 31 A7 2 (fun A8 w =>
    ld Try.prog 29 A8 (fun A9 w =>
    blt Try.prog Builtin.len #[29] 3 #[false] #[A9] (fun C0 w =>
    bin Try.prog BinOp.lss 3 false false i7' C0 (fun C1 w =>
    cond C1
      (nilC a0 (fun C5 w =>
    fldA Try.prog 31 C5 2 (fun C6 w =>
    ld Try.prog 29 C6 (fun C7 w =>
    idxA Try.prog 29 C7 i7' (fun C9 w =>
    fldA Try.prog 81 C9 0 (fun D0 w =>
    ld Try.prog 3 D0 (fun D1 w =>
    bin Try.prog BinOp.eql 3 false false D1 who1 (fun D3 w =>
    gsel D3 true (fun k28 =>
    nilC a0 (fun D6 w =>
    fldA Try.prog 31 D6 2 (fun D7 w =>
    ld Try.prog 29 D7 (fun D8 w =>
    idxA Try.prog 29 D8 i7' (fun E0 w =>
    fldA Try.prog 81 E0 1 (fun E1 w =>
    ld Try.prog 33 E1 (fun E2 w =>
    bin Try.prog BinOp.eql 33 false false E2 req2 (fun E4 w =>
    k28 [a0, D6, D7, D8, i7', E0, E1, E2, req2, E4] w) w) w) w) w) w) w) w)
    (fun k => k [undef, undef, undef, undef, undef, undef, undef, undef, undef, undef] w) (fun us28 w =>
    pick D3 (gd us28 9) (Value.bool false) (fun E5 w =>
    cond E5
      (K i7' w)
      (bin Try.prog BinOp.add 3 false true i7' (Value.int IntKind.i64 1) (fun C3 w =>
    (Inv C3 (gd us28 0) (gd us28 1) (gd us28 2) (gd us28 3) (gd us28 4) (gd us28 5) (gd us28 6) (gd us28 7) (gd us28 8) (gd us28 9) w ∧ μ C3 (gd us28 0) (gd us28 1) (gd us28 2) (gd us28 3) (gd us28 4) (gd us28 5) (gd us28 6) (gd us28 7) (gd us28 8) (gd us28 9) w < m)) w)) w)) w) w) w) w) w) w) w)
      ((leatref26_Audit_take_P1 K) [a0, who1, req2, a3, who4, req5, (dd 6), i7', i7', a0, A7, A8, A9, C0, C1, (dd 15), (dd 16), (dd 17), (dd 18), (dd 19), (dd 20), (dd 21), (dd 22), (dd 23), (dd 24), (dd 25), (dd 26), (dd 27), D5', D6', D7', D8', D9', E0', E1', E2', E3', E4', (dd 38), (dd 39)] w)) w) w) w) w) w) :
    leatref26_Audit_take_L1 K [a0, who1, req2, a3, who4, req5, A3, i7, A5, A6, A7, A8, A9, C0, C1, C2, C3, C4, C5, C6, C7, C8, C9, D0, D1, D2, D3, D4, D5, D6, D7, D8, D9, E0, E1, E2, E3, E4, E5, E6] w := by
  refine loop_rule (cd Try.f20 [1, 0, 1, 0, 0]) [6, 7, 8, 9, 10, 11, 12, 13, 14, 15, 16, 17, 18, 19, 20, 21, 22, 23, 24, 25, 26, 27, 28, 29, 30, 31, 32, 33, 34, 35, 36, 37, 38, 39] (by kernel_rfl) (fun e2 w2 => Inv (gd e2 7) (gd e2 28) (gd e2 29) (gd e2 30) (gd e2 31) (gd e2 32) (gd e2 33) (gd e2 34) (gd e2 35) (gd e2 36) (gd e2 37) w2) (fun e2 w2 => μ (gd e2 7) (gd e2 28) (gd e2 29) (gd e2 30) (gd e2 31) (gd e2 32) (gd e2 33) (gd e2 34) (gd e2 35) (gd e2 36) (gd e2 37) w2) h0 ?_
  intro e' w' hI
  have h := hs (gd e' 7) (gd e' 28) (gd e' 29) (gd e' 30) (gd e' 31) (gd e' 32) (gd e' 33) (gd e' 34) (gd e' 35) (gd e' 36) (gd e' 37) (fun i => gd e' i) w' _ hI rfl
  have h2 : cCode Try.prog (cd Try.f20 [1, 0, 1, 0, 0]) (fun e2 w2 => Inv (gd e2 7) (gd e2 28) (gd e2 29) (gd e2 30) (gd e2 31) (gd e2 32) (gd e2 33) (gd e2 34) (gd e2 35) (gd e2 36) (gd e2 37) w2 ∧ μ (gd e2 7) (gd e2 28) (gd e2 29) (gd e2 30) (gd e2 31) (gd e2 32) (gd e2 33) (gd e2 34) (gd e2 35) (gd e2 36) (gd e2 37) w2 < μ (gd e' 7) (gd e' 28) (gd e' 29) (gd e' 30) (gd e' 31) (gd e' 32) (gd e' 33) (gd e' 34) (gd e' 35) (gd e' 36) (gd e' 37) w') (fun i => @Bool.rec (fun _ => KE) ((fun _ _ _ => False) i) (leatref26_Audit_take_P1 K) (Nat.beq i 0)) (retK Try.prog Try.f20.results.toList K) [a0, who1, req2, a3, who4, req5, (gd e' 6), (gd e' 7), (gd e' 8), (gd e' 9), (gd e' 10), (gd e' 11), (gd e' 12), (gd e' 13), (gd e' 14), (gd e' 15), (gd e' 16), (gd e' 17), (gd e' 18), (gd e' 19), (gd e' 20), (gd e' 21), (gd e' 22), (gd e' 23), (gd e' 24), (gd e' 25), (gd e' 26), (gd e' 27), (gd e' 28), (gd e' 29), (gd e' 30), (gd e' 31), (gd e' 32), (gd e' 33), (gd e' 34), (gd e' 35), (gd e' 36), (gd e' 37), (gd e' 38), (gd e' 39)] w' := leatref26_Audit_take_L1_k (fun e2 w2 => Inv (gd e2 7) (gd e2 28) (gd e2 29) (gd e2 30) (gd e2 31) (gd e2 32) (gd e2 33) (gd e2 34) (gd e2 35) (gd e2 36) (gd e2 37) w2 ∧ μ (gd e2 7) (gd e2 28) (gd e2 29) (gd e2 30) (gd e2 31) (gd e2 32) (gd e2 33) (gd e2 34) (gd e2 35) (gd e2 36) (gd e2 37) w2 < μ (gd e' 7) (gd e' 28) (gd e' 29) (gd e' 30) (gd e' 31) (gd e' 32) (gd e' 33) (gd e' 34) (gd e' 35) (gd e' 36) (gd e' 37) w') (leatref26_Audit_take_P1 K) (Eq.mp (by kernel_rfl) h)
  exact Eq.mp (by kernel_rfl) h2

theorem leatref26_Audit_take_P1_k {K : KV} {a0 who1 req2 a3 who4 req5 A3 i7 A5 A6 A7 A8 A9 C0 C1 C2 C3 C4 C5 C6 C7 C8 C9 D0 D1 D2 D3 D4 D5 D6 D7 D8 D9 E0 E1 E2 E3 E4 E5 E6 : Value} {w : World}
    (h : K (Value.int IntKind.i64 (-1)) w) :
    cCode Try.prog (cd Try.f20 [1, 1]) (retK Try.prog Try.f20.results.toList K) (fun _ _ _ => False) (retK Try.prog Try.f20.results.toList K) [a0, who1, req2, a3, who4, req5, A3, i7, A5, A6, A7, A8, A9, C0, C1, C2, C3, C4, C5, C6, C7, C8, C9, D0, D1, D2, D3, D4, D5, D6, D7, D8, D9, E0, E1, E2, E3, E4, E5, E6] w := Eq.mp (by kernel_rfl) h

theorem leatref26_Audit_take_P1_r {K : KV} {a0 who1 req2 a3 who4 req5 A3 i7 A5 A6 A7 A8 A9 C0 C1 C2 C3 C4 C5 C6 C7 C8 C9 D0 D1 D2 D3 D4 D5 D6 D7 D8 D9 E0 E1 E2 E3 E4 E5 E6 : Value} {w : World}
    (h : K (Value.int IntKind.i64 (-1)) w) :
    leatref26_Audit_take_P1 K [a0, who1, req2, a3, who4, req5, A3, i7, A5, A6, A7, A8, A9, C0, C1, C2, C3, C4, C5, C6, C7, C8, C9, D0, D1, D2, D3, D4, D5, D6, D7, D8, D9, E0, E1, E2, E3, E4, E5, E6] w := by
  delta leatref26_Audit_take_P1
  exact Eq.mp (congrArg (fun c => cCode Try.prog c (retK Try.prog Try.f20.results.toList K) (fun _ _ _ => False) (retK Try.prog Try.f20.results.toList K) [a0, who1, req2, a3, who4, req5, A3, i7, A5, A6, A7, A8, A9, C0, C1, C2, C3, C4, C5, C6, C7, C8, C9, D0, D1, D2, D3, D4, D5, D6, D7, D8, D9, E0, E1, E2, E3, E4, E5, E6] w) (by kernel_rfl : (cd Try.f20 [1, 1]) = (cd Try.f20 [1, 1]))) (leatref26_Audit_take_P1_k h)
attribute [irreducible] leatref26_Audit_take_P1 leatref26_Audit_take_L1

def leatref26_Audit_below_P1 (K : KV) : KE := cCode Try.prog (cd Try.f22 [1, 1]) (retK Try.prog Try.f22.results.toList K) (fun _ _ _ => False) (retK Try.prog Try.f22.results.toList K)
def leatref26_Audit_below_L1 (K : KV) : KE := cCode Try.prog (cd Try.f22 [1, 0, 1, 0]) (leatref26_Audit_below_P1 K) (fun i => @Bool.rec (fun _ => KE) ((fun _ _ _ => False) i) (leatref26_Audit_below_P1 K) (Nat.beq i 0)) (retK Try.prog Try.f22.results.toList K)
theorem leatref26_Audit_below_k {K : KV} {a0 id1 of2 : Value} {w : World}
    (h : (cCode Try.prog (cd Try.f22 [1, 0, 1, 0]) (cCode Try.prog (cd Try.f22 [1, 1]) (retK Try.prog Try.f22.results.toList K) (fun _ _ _ => False) (retK Try.prog Try.f22.results.toList K)) (fun i => @Bool.rec (fun _ => KE) ((fun _ _ _ => False) i) (cCode Try.prog (cd Try.f22 [1, 1]) (retK Try.prog Try.f22.results.toList K) (fun _ _ _ => False) (retK Try.prog Try.f22.results.toList K)) (Nat.beq i 0)) (retK Try.prog Try.f22.results.toList K)) [a0, id1, of2, undef, undef, undef, (Value.bool false), (Value.int IntKind.i64 0), undef, undef, undef, undef, undef, undef, undef, undef, undef, undef, undef, undef, undef, undef, undef, undef, undef, undef, undef, undef, undef] w) :
    cCode Try.prog (cd Try.f22 []) (retK Try.prog Try.f22.results.toList K) (fun _ _ _ => False) (retK Try.prog Try.f22.results.toList K) [a0, id1, of2, undef, undef, undef, undef, undef, undef, undef, undef, undef, undef, undef, undef, undef, undef, undef, undef, undef, undef, undef, undef, undef, undef, undef, undef, undef, undef] w := Eq.mp (by kernel_rfl) h

theorem leatref26_Audit_below_in {K : KV} {a0 id1 of2 : Value} {w : World}
    (h : (leatref26_Audit_below_L1 K) [a0, id1, of2, undef, undef, undef, (Value.bool false), (Value.int IntKind.i64 0), undef, undef, undef, undef, undef, undef, undef, undef, undef, undef, undef, undef, undef, undef, undef, undef, undef, undef, undef, undef, undef] w) :
    Gives Try.prog 22 #[a0, id1, of2] w K := enter' Try.func22 (by kernel_rfl) (Eq.mp (congrArg (fun c => cCode Try.prog c (retK Try.prog Try.f22.results.toList K) (fun _ _ _ => False) (retK Try.prog Try.f22.results.toList K) [a0, id1, of2, undef, undef, undef, undef, undef, undef, undef, undef, undef, undef, undef, undef, undef, undef, undef, undef, undef, undef, undef, undef, undef, undef, undef, undef, undef, undef] w) (by kernel_rfl : (cd Try.f22 []) = (cd Try.f22 []))) (leatref26_Audit_below_k h))
theorem leatref26_Audit_below_go : isGo Try.prog 22 := ⟨_, Try.func22, by kernel_rfl, by kernel_rfl⟩

theorem leatref26_Audit_below_L1_k {K : KV} (B1 : KE) (qc0 : KE) {a0 id1' of2 a3 id4 of5 round7' : Value} {dd : Nat → Value} {w : World}
    (h : bin Try.prog BinOp.leq 3 false true round7' (Value.int IntKind.i64 32) (fun A7 w =>
    cond A7
      (bin Try.prog BinOp.eql 33 false false id1' of2 (fun C2 w =>
    cond C2
      (K (Value.bool true) w)
      (call Try.prog 19 #[a0, id1'] (fun C5 w =>
    bin Try.prog BinOp.lss 3 false true C5 (Value.int IntKind.i64 0) (fun C7 w =>
    cond C7
      (K (Value.bool false) w)
      (nilC a0 (fun C9 w =>
    fldA Try.prog 31 C9 0 (fun D0 w =>
    ld Try.prog 27 D0 (fun D1 w =>
    idxA Try.prog 27 D1 C5 (fun D3 w =>
    fldA Try.prog 49 D3 1 (fun D4 w =>
    ld Try.prog 33 D4 (fun D5 w =>
    bin Try.prog BinOp.add 3 false true round7' (Value.int IntKind.i64 1) (fun A9 w =>
    B1 [a0, D5, of2, a3, id4, of5, (dd 6), A9, C5, round7', A7, round7', A9, id1', of2, C2, a0, id1', C5, C5, C7, a0, C9, D0, D1, C5, D3, D4, D5] w) w) w) w) w) w) w) w)) w) w)) w)
      (qc0 [a0, id1', of2, a3, id4, of5, (dd 6), round7', (dd 8), round7', A7, (dd 11), (dd 12), (dd 13), (dd 14), (dd 15), (dd 16), (dd 17), (dd 18), (dd 19), (dd 20), (dd 21), (dd 22), (dd 23), (dd 24), (dd 25), (dd 26), (dd 27), (dd 28)] w)) w) :
    cCode Try.prog (cd Try.f22 [1, 0, 1, 0, 0]) B1 (fun i => @Bool.rec (fun _ => KE) ((fun _ _ _ => False) i) qc0 (Nat.beq i 0)) (retK Try.prog Try.f22.results.toList K) [a0, id1', of2, a3, id4, of5, (dd 6), round7', (dd 8), (dd 9), (dd 10), (dd 11), (dd 12), (dd 13), (dd 14), (dd 15), (dd 16), (dd 17), (dd 18), (dd 19), (dd 20), (dd 21), (dd 22), (dd 23), (dd 24), (dd 25), (dd 26), (dd 27), (dd 28)] w := Eq.mp (by kernel_rfl) h

theorem leatref26_Audit_below_L1_r {K : KV} {a0 id1 of2 a3 id4 of5 A3 round7 k_8 A6 A7 A8 A9 C0 C1 C2 C3 C4 C5 C6 C7 C8 C9 D0 D1 D2 D3 D4 D5 : Value} {w : World} (Inv : Value → Value → World → Prop) (μ : Value → Value → World → Nat) (h0 : Inv id1 round7 w)
    (hs : ∀ (id1' round7' : Value) (dd : Nat → Value) (w : World) (m : Nat), Inv id1' round7' w → m = μ id1' round7' w →
    bin Try.prog BinOp.leq 3 false true round7' (Value.int IntKind.i64 32) (fun A7 w =>
    cond A7
      (bin Try.prog BinOp.eql 33 false false id1' of2 (fun C2 w =>
    cond C2
      (K (Value.bool true) w)
      (call Try.prog 19 #[a0, id1'] (fun C5 w =>
    bin Try.prog BinOp.lss 3 false true C5 (Value.int IntKind.i64 0) (fun C7 w =>
    cond C7
      (K (Value.bool false) w)
      (nilC a0 (fun C9 w =>
    fldA Try.prog 31 C9 0 (fun D0 w =>
    ld Try.prog 27 D0 (fun D1 w =>
    idxA Try.prog 27 D1 C5 (fun D3 w =>
    fldA Try.prog 49 D3 1 (fun D4 w =>
    ld Try.prog 33 D4 (fun D5 w =>
    bin Try.prog BinOp.add 3 false true round7' (Value.int IntKind.i64 1) (fun A9 w =>
    (Inv D5 A9 w ∧ μ D5 A9 w < m)) w) w) w) w) w) w) w)) w) w)) w)
      ((leatref26_Audit_below_P1 K) [a0, id1', of2, a3, id4, of5, (dd 6), round7', (dd 8), round7', A7, (dd 11), (dd 12), (dd 13), (dd 14), (dd 15), (dd 16), (dd 17), (dd 18), (dd 19), (dd 20), (dd 21), (dd 22), (dd 23), (dd 24), (dd 25), (dd 26), (dd 27), (dd 28)] w)) w) :
    leatref26_Audit_below_L1 K [a0, id1, of2, a3, id4, of5, A3, round7, k_8, A6, A7, A8, A9, C0, C1, C2, C3, C4, C5, C6, C7, C8, C9, D0, D1, D2, D3, D4, D5] w := by
  refine loop_rule (cd Try.f22 [1, 0, 1, 0, 0]) [1, 6, 7, 8, 9, 10, 11, 12, 13, 14, 15, 16, 17, 18, 19, 20, 21, 22, 23, 24, 25, 26, 27, 28] (by kernel_rfl) (fun e2 w2 => Inv (gd e2 1) (gd e2 7) w2) (fun e2 w2 => μ (gd e2 1) (gd e2 7) w2) h0 ?_
  intro e' w' hI
  have h := hs (gd e' 1) (gd e' 7) (fun i => gd e' i) w' _ hI rfl
  have h2 : cCode Try.prog (cd Try.f22 [1, 0, 1, 0, 0]) (fun e2 w2 => Inv (gd e2 1) (gd e2 7) w2 ∧ μ (gd e2 1) (gd e2 7) w2 < μ (gd e' 1) (gd e' 7) w') (fun i => @Bool.rec (fun _ => KE) ((fun _ _ _ => False) i) (leatref26_Audit_below_P1 K) (Nat.beq i 0)) (retK Try.prog Try.f22.results.toList K) [a0, (gd e' 1), of2, a3, id4, of5, (gd e' 6), (gd e' 7), (gd e' 8), (gd e' 9), (gd e' 10), (gd e' 11), (gd e' 12), (gd e' 13), (gd e' 14), (gd e' 15), (gd e' 16), (gd e' 17), (gd e' 18), (gd e' 19), (gd e' 20), (gd e' 21), (gd e' 22), (gd e' 23), (gd e' 24), (gd e' 25), (gd e' 26), (gd e' 27), (gd e' 28)] w' := leatref26_Audit_below_L1_k (fun e2 w2 => Inv (gd e2 1) (gd e2 7) w2 ∧ μ (gd e2 1) (gd e2 7) w2 < μ (gd e' 1) (gd e' 7) w') (leatref26_Audit_below_P1 K) (Eq.mp (by kernel_rfl) h)
  exact Eq.mp (by kernel_rfl) h2

theorem leatref26_Audit_below_P1_k {K : KV} {a0 id1 of2 a3 id4 of5 A3 round7 k_8 A6 A7 A8 A9 C0 C1 C2 C3 C4 C5 C6 C7 C8 C9 D0 D1 D2 D3 D4 D5 : Value} {w : World}
    (h : K (Value.bool false) w) :
    cCode Try.prog (cd Try.f22 [1, 1]) (retK Try.prog Try.f22.results.toList K) (fun _ _ _ => False) (retK Try.prog Try.f22.results.toList K) [a0, id1, of2, a3, id4, of5, A3, round7, k_8, A6, A7, A8, A9, C0, C1, C2, C3, C4, C5, C6, C7, C8, C9, D0, D1, D2, D3, D4, D5] w := Eq.mp (by kernel_rfl) h

theorem leatref26_Audit_below_P1_r {K : KV} {a0 id1 of2 a3 id4 of5 A3 round7 k_8 A6 A7 A8 A9 C0 C1 C2 C3 C4 C5 C6 C7 C8 C9 D0 D1 D2 D3 D4 D5 : Value} {w : World}
    (h : K (Value.bool false) w) :
    leatref26_Audit_below_P1 K [a0, id1, of2, a3, id4, of5, A3, round7, k_8, A6, A7, A8, A9, C0, C1, C2, C3, C4, C5, C6, C7, C8, C9, D0, D1, D2, D3, D4, D5] w := by
  delta leatref26_Audit_below_P1
  exact Eq.mp (congrArg (fun c => cCode Try.prog c (retK Try.prog Try.f22.results.toList K) (fun _ _ _ => False) (retK Try.prog Try.f22.results.toList K) [a0, id1, of2, a3, id4, of5, A3, round7, k_8, A6, A7, A8, A9, C0, C1, C2, C3, C4, C5, C6, C7, C8, C9, D0, D1, D2, D3, D4, D5] w) (by kernel_rfl : (cd Try.f22 [1, 1]) = (cd Try.f22 [1, 1]))) (leatref26_Audit_below_P1_k h)
attribute [irreducible] leatref26_Audit_below_P1 leatref26_Audit_below_L1

def leatref09_Same_P1 (K : KV) : KE := cCode Try.prog (cd Try.f14 [1, 1, 1]) (retK Try.prog Try.f14.results.toList K) (fun _ _ _ => False) (retK Try.prog Try.f14.results.toList K)
def leatref09_Same_L1 (K : KV) : KE := cCode Try.prog (cd Try.f14 [1, 1, 0, 1, 0]) (leatref09_Same_P1 K) (fun i => @Bool.rec (fun _ => KE) ((fun _ _ _ => False) i) (leatref09_Same_P1 K) (Nat.beq i 0)) (retK Try.prog Try.f14.results.toList K)
theorem leatref09_Same_k {K : KV} {a0 b1 : Value} {w : World}
    (h : blt Try.prog Builtin.len #[47] 3 #[false] #[a0] (fun A4 w =>
    blt Try.prog Builtin.len #[47] 3 #[false] #[b1] (fun A6 w =>
    bin Try.prog BinOp.neq 3 false false A4 A6 (fun A7 w =>
    cond A7
      (K (Value.bool false) w)
      ((cCode Try.prog (cd Try.f14 [1, 1, 0, 1, 0]) (cCode Try.prog (cd Try.f14 [1, 1, 1]) (retK Try.prog Try.f14.results.toList K) (fun _ _ _ => False) (retK Try.prog Try.f14.results.toList K)) (fun i => @Bool.rec (fun _ => KE) ((fun _ _ _ => False) i) (cCode Try.prog (cd Try.f14 [1, 1, 1]) (retK Try.prog Try.f14.results.toList K) (fun _ _ _ => False) (retK Try.prog Try.f14.results.toList K)) (Nat.beq i 0)) (retK Try.prog Try.f14.results.toList K)) [a0, b1, undef, undef, (Value.bool false), (Value.int IntKind.i64 0), a0, A4, b1, A6, A7, undef, undef, undef, undef, undef, undef, undef, undef, undef, undef, undef, undef, undef, undef, undef] w)) w) w) w) :
    cCode Try.prog (cd Try.f14 []) (retK Try.prog Try.f14.results.toList K) (fun _ _ _ => False) (retK Try.prog Try.f14.results.toList K) [a0, b1, undef, undef, undef, undef, undef, undef, undef, undef, undef, undef, undef, undef, undef, undef, undef, undef, undef, undef, undef, undef, undef, undef, undef, undef] w := Eq.mp (by kernel_rfl) h

theorem leatref09_Same_in {K : KV} {a0 b1 : Value} {w : World}
    (h : blt Try.prog Builtin.len #[47] 3 #[false] #[a0] (fun A4 w =>
    blt Try.prog Builtin.len #[47] 3 #[false] #[b1] (fun A6 w =>
    bin Try.prog BinOp.neq 3 false false A4 A6 (fun A7 w =>
    cond A7
      (K (Value.bool false) w)
      ((leatref09_Same_L1 K) [a0, b1, undef, undef, (Value.bool false), (Value.int IntKind.i64 0), a0, A4, b1, A6, A7, undef, undef, undef, undef, undef, undef, undef, undef, undef, undef, undef, undef, undef, undef, undef] w)) w) w) w) :
    Gives Try.prog 14 #[a0, b1] w K := enter' Try.func14 (by kernel_rfl) (Eq.mp (congrArg (fun c => cCode Try.prog c (retK Try.prog Try.f14.results.toList K) (fun _ _ _ => False) (retK Try.prog Try.f14.results.toList K) [a0, b1, undef, undef, undef, undef, undef, undef, undef, undef, undef, undef, undef, undef, undef, undef, undef, undef, undef, undef, undef, undef, undef, undef, undef, undef] w) (by kernel_rfl : (cd Try.f14 []) = (cd Try.f14 []))) (leatref09_Same_k h))
theorem leatref09_Same_go : isGo Try.prog 14 := ⟨_, Try.func14, by kernel_rfl, by kernel_rfl⟩

theorem leatref09_Same_L1_k {K : KV} (B1 : KE) (qc0 : KE) {a0 b1 a2 b3 i5' A3 A4 A5 A6 A7 : Value} {dd : Nat → Value} {w : World}
    (h : blt Try.prog Builtin.len #[47] 3 #[false] #[a0] (fun C0 w =>
    bin Try.prog BinOp.lss 3 false false i5' C0 (fun C1 w =>
    cond C1
      ((fun w =>
    sti (fun k w => idxA Try.prog 47 a0 i5' k w) (fun C6 w =>
    sti (fun k w => ld Try.prog 33 C6 k w) (fun C7 w =>
    sti (fun k w => idxA Try.prog 47 b1 i5' k w) (fun D0 w =>
    sti (fun k w => ld Try.prog 33 D0 k w) (fun D1 w =>
    sti (fun k w => bin Try.prog BinOp.neq 33 false false C7 D1 k w) (fun D2 w =>
    cond D2
      (K (Value.bool false) w)
      (bin Try.prog BinOp.add 3 false true i5' (Value.int IntKind.i64 1) (fun C3 w =>
    B1 [a0, b1, a2, b3, (dd 4), C3, A3, A4, A5, A6, A7, i5', a0, C0, C1, i5', C3, a0, i5', C6, C7, b1, i5', D0, D1, D2] w) w)) w) w) w) w) w) w.drew)
      (qc0 [a0, b1, a2, b3, (dd 4), i5', A3, A4, A5, A6, A7, i5', a0, C0, C1, (dd 15), (dd 16), (dd 17), (dd 18), (dd 19), (dd 20), (dd 21), (dd 22), (dd 23), (dd 24), (dd 25)] w)) w) w) :
    cCode Try.prog (cd Try.f14 [1, 1, 0, 1, 0, 0]) B1 (fun i => @Bool.rec (fun _ => KE) ((fun _ _ _ => False) i) qc0 (Nat.beq i 0)) (retK Try.prog Try.f14.results.toList K) [a0, b1, a2, b3, (dd 4), i5', A3, A4, A5, A6, A7, (dd 11), (dd 12), (dd 13), (dd 14), (dd 15), (dd 16), (dd 17), (dd 18), (dd 19), (dd 20), (dd 21), (dd 22), (dd 23), (dd 24), (dd 25)] w := Eq.mp (by kernel_rfl) h

theorem leatref09_Same_L1_r {K : KV} {a0 b1 a2 b3 A1 i5 A3 A4 A5 A6 A7 A8 A9 C0 C1 C2 C3 C4 C5 C6 C7 C8 C9 D0 D1 D2 : Value} {w : World} (Inv : Value → World → Prop) (μ : Value → World → Nat) (h0 : Inv i5 w)
    (hs : ∀ (i5' : Value) (dd : Nat → Value) (w : World) (m : Nat), Inv i5' w → m = μ i5' w →
    blt Try.prog Builtin.len #[47] 3 #[false] #[a0] (fun C0 w =>
    bin Try.prog BinOp.lss 3 false false i5' C0 (fun C1 w =>
    cond C1
      ((fun w =>
    sti (fun k w => idxA Try.prog 47 a0 i5' k w) (fun C6 w =>
    sti (fun k w => ld Try.prog 33 C6 k w) (fun C7 w =>
    sti (fun k w => idxA Try.prog 47 b1 i5' k w) (fun D0 w =>
    sti (fun k w => ld Try.prog 33 D0 k w) (fun D1 w =>
    sti (fun k w => bin Try.prog BinOp.neq 33 false false C7 D1 k w) (fun D2 w =>
    cond D2
      (K (Value.bool false) w)
      (bin Try.prog BinOp.add 3 false true i5' (Value.int IntKind.i64 1) (fun C3 w =>
    (Inv C3 w ∧ μ C3 w < m)) w)) w) w) w) w) w) w.drew)
      ((leatref09_Same_P1 K) [a0, b1, a2, b3, (dd 4), i5', A3, A4, A5, A6, A7, i5', a0, C0, C1, (dd 15), (dd 16), (dd 17), (dd 18), (dd 19), (dd 20), (dd 21), (dd 22), (dd 23), (dd 24), (dd 25)] w)) w) w) :
    leatref09_Same_L1 K [a0, b1, a2, b3, A1, i5, A3, A4, A5, A6, A7, A8, A9, C0, C1, C2, C3, C4, C5, C6, C7, C8, C9, D0, D1, D2] w := by
  refine loop_rule (cd Try.f14 [1, 1, 0, 1, 0, 0]) [4, 5, 11, 12, 13, 14, 15, 16, 17, 18, 19, 20, 21, 22, 23, 24, 25] (by kernel_rfl) (fun e2 w2 => Inv (gd e2 5) w2) (fun e2 w2 => μ (gd e2 5) w2) h0 ?_
  intro e' w' hI
  have h := hs (gd e' 5) (fun i => gd e' i) w' _ hI rfl
  have h2 : cCode Try.prog (cd Try.f14 [1, 1, 0, 1, 0, 0]) (fun e2 w2 => Inv (gd e2 5) w2 ∧ μ (gd e2 5) w2 < μ (gd e' 5) w') (fun i => @Bool.rec (fun _ => KE) ((fun _ _ _ => False) i) (leatref09_Same_P1 K) (Nat.beq i 0)) (retK Try.prog Try.f14.results.toList K) [a0, b1, a2, b3, (gd e' 4), (gd e' 5), A3, A4, A5, A6, A7, (gd e' 11), (gd e' 12), (gd e' 13), (gd e' 14), (gd e' 15), (gd e' 16), (gd e' 17), (gd e' 18), (gd e' 19), (gd e' 20), (gd e' 21), (gd e' 22), (gd e' 23), (gd e' 24), (gd e' 25)] w' := leatref09_Same_L1_k (fun e2 w2 => Inv (gd e2 5) w2 ∧ μ (gd e2 5) w2 < μ (gd e' 5) w') (leatref09_Same_P1 K) (Eq.mp (by kernel_rfl) h)
  exact Eq.mp (by kernel_rfl) h2

theorem leatref09_Same_P1_k {K : KV} {a0 b1 a2 b3 A1 i5 A3 A4 A5 A6 A7 A8 A9 C0 C1 C2 C3 C4 C5 C6 C7 C8 C9 D0 D1 D2 : Value} {w : World}
    (h : K (Value.bool true) w) :
    cCode Try.prog (cd Try.f14 [1, 1, 1]) (retK Try.prog Try.f14.results.toList K) (fun _ _ _ => False) (retK Try.prog Try.f14.results.toList K) [a0, b1, a2, b3, A1, i5, A3, A4, A5, A6, A7, A8, A9, C0, C1, C2, C3, C4, C5, C6, C7, C8, C9, D0, D1, D2] w := Eq.mp (by kernel_rfl) h

theorem leatref09_Same_P1_r {K : KV} {a0 b1 a2 b3 A1 i5 A3 A4 A5 A6 A7 A8 A9 C0 C1 C2 C3 C4 C5 C6 C7 C8 C9 D0 D1 D2 : Value} {w : World}
    (h : K (Value.bool true) w) :
    leatref09_Same_P1 K [a0, b1, a2, b3, A1, i5, A3, A4, A5, A6, A7, A8, A9, C0, C1, C2, C3, C4, C5, C6, C7, C8, C9, D0, D1, D2] w := by
  delta leatref09_Same_P1
  exact Eq.mp (congrArg (fun c => cCode Try.prog c (retK Try.prog Try.f14.results.toList K) (fun _ _ _ => False) (retK Try.prog Try.f14.results.toList K) [a0, b1, a2, b3, A1, i5, A3, A4, A5, A6, A7, A8, A9, C0, C1, C2, C3, C4, C5, C6, C7, C8, C9, D0, D1, D2] w) (by kernel_rfl : (cd Try.f14 [1, 1, 1]) = (cd Try.f14 [1, 1, 1]))) (leatref09_Same_P1_k h)
attribute [irreducible] leatref09_Same_P1 leatref09_Same_L1


theorem leatref09_Id_k {K : KV} {origin0 seq1 : Value} {w : World}
    (h : bin Try.prog BinOp.lss 3 false true origin0 (Value.int IntKind.i64 1) (fun A3 w =>
    gsel A3 false (fun k8 =>
    bin Try.prog BinOp.gtr 3 false true origin0 (Value.int IntKind.i64 6) (fun A6 w =>
    k8 [origin0, A6] w) w)
    (fun k => k [undef, undef] w) (fun us8 w =>
    pick A3 (Value.bool true) (gd us8 1) (fun A7 w =>
    gsel A7 false (fun k12 =>
    bin Try.prog BinOp.lss 33 false true seq1 (Value.int IntKind.u64 1) (fun C0 w =>
    k12 [seq1, C0] w) w)
    (fun k => k [undef, undef] w) (fun us12 w =>
    pick A7 (Value.bool true) (gd us12 1) (fun C1 w =>
    gsel C1 false (fun k16 =>
    bin Try.prog BinOp.geq 33 false true seq1 (Value.int IntKind.u64 1099511627776) (fun C4 w =>
    k16 [seq1, C4] w) w)
    (fun k => k [undef, undef] w) (fun us16 w =>
    pick C1 (Value.bool true) (gd us16 1) (fun C5 w =>
    cond C5
      (K (Value.int IntKind.u64 0) w)
      (conv Try.prog 3 33 origin0 (fun C7 w =>
    bin Try.prog BinOp.shl 33 false true C7 (Value.int IntKind.u64 40) (fun C8 w =>
    bin Try.prog BinOp.add 33 false false C8 seq1 (fun D0 w =>
    K D0 w) w) w) w)) w)) w)) w)) w) :
    cCode Try.prog (cd Try.f18 []) (retK Try.prog Try.f18.results.toList K) (fun _ _ _ => False) (retK Try.prog Try.f18.results.toList K) [origin0, seq1, undef, undef, undef, undef, undef, undef, undef, undef, undef, undef, undef, undef, undef, undef, undef, undef, undef, undef, undef, undef, undef, undef] w := Eq.mp (by kernel_rfl) h

theorem leatref09_Id_in {K : KV} {origin0 seq1 : Value} {w : World}
    (h : bin Try.prog BinOp.lss 3 false true origin0 (Value.int IntKind.i64 1) (fun A3 w =>
    gsel A3 false (fun k8 =>
    bin Try.prog BinOp.gtr 3 false true origin0 (Value.int IntKind.i64 6) (fun A6 w =>
    k8 [origin0, A6] w) w)
    (fun k => k [undef, undef] w) (fun us8 w =>
    pick A3 (Value.bool true) (gd us8 1) (fun A7 w =>
    gsel A7 false (fun k12 =>
    bin Try.prog BinOp.lss 33 false true seq1 (Value.int IntKind.u64 1) (fun C0 w =>
    k12 [seq1, C0] w) w)
    (fun k => k [undef, undef] w) (fun us12 w =>
    pick A7 (Value.bool true) (gd us12 1) (fun C1 w =>
    gsel C1 false (fun k16 =>
    bin Try.prog BinOp.geq 33 false true seq1 (Value.int IntKind.u64 1099511627776) (fun C4 w =>
    k16 [seq1, C4] w) w)
    (fun k => k [undef, undef] w) (fun us16 w =>
    pick C1 (Value.bool true) (gd us16 1) (fun C5 w =>
    cond C5
      (K (Value.int IntKind.u64 0) w)
      (conv Try.prog 3 33 origin0 (fun C7 w =>
    bin Try.prog BinOp.shl 33 false true C7 (Value.int IntKind.u64 40) (fun C8 w =>
    bin Try.prog BinOp.add 33 false false C8 seq1 (fun D0 w =>
    K D0 w) w) w) w)) w)) w)) w)) w) :
    Gives Try.prog 18 #[origin0, seq1] w K := enter' Try.func18 (by kernel_rfl) (Eq.mp (congrArg (fun c => cCode Try.prog c (retK Try.prog Try.f18.results.toList K) (fun _ _ _ => False) (retK Try.prog Try.f18.results.toList K) [origin0, seq1, undef, undef, undef, undef, undef, undef, undef, undef, undef, undef, undef, undef, undef, undef, undef, undef, undef, undef, undef, undef, undef, undef] w) (by kernel_rfl : (cd Try.f18 []) = (cd Try.f18 []))) (leatref09_Id_k h))
theorem leatref09_Id_go : isGo Try.prog 18 := ⟨_, Try.func18, by kernel_rfl, by kernel_rfl⟩

end Go.Proofs.Ytcieejlkdfdpiaa
