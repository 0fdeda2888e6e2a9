/- Written by program (gen.py): what the code of some functions asks, part by part; each text is checked by the kernel against the translation. -/
import Derived.Test.YtcieejlkdfdpiaaSh
import Derived.Test.YtcieejlkdfdpiaaChecked
namespace Go.Proofs.Ytcieejlkdfdpiaa
open Go.RowKit
set_option maxRecDepth 100000


theorem audit_New_k {K : KV} {w : World}
    (h : mkMap Try.prog 60 none (fun A0 w =>
    mkMap Try.prog 61 none (fun A1 w =>
    mkMap Try.prog 62 none (fun A2 w =>
    mkMap Try.prog 63 none (fun A3 w =>
    bld Try.prog 65 #[(0, A0), (1, A1), (2, A2), (3, A3)] (fun A4 w =>
    box Try.prog 65 A4 (fun A5 w =>
    K A5 w) w) w) w) w) w) w) :
    cCode Try.prog (cd Try.f7 []) (retK Try.prog Try.f7.results.toList K) (fun _ _ _ => False) (retK Try.prog Try.f7.results.toList K) [undef, undef, undef, undef, undef, undef, undef] w := Eq.mp (by kernel_rfl) h

theorem audit_New_in {K : KV} {w : World}
    (h : mkMap Try.prog 60 none (fun A0 w =>
    mkMap Try.prog 61 none (fun A1 w =>
    mkMap Try.prog 62 none (fun A2 w =>
    mkMap Try.prog 63 none (fun A3 w =>
    bld Try.prog 65 #[(0, A0), (1, A1), (2, A2), (3, A3)] (fun A4 w =>
    box Try.prog 65 A4 (fun A5 w =>
    K A5 w) w) w) w) w) w) w) :
    Gives Try.prog 7 #[] w K := enter' Try.func7 (by kernel_rfl) (Eq.mp (congrArg (fun c => cCode Try.prog c (retK Try.prog Try.f7.results.toList K) (fun _ _ _ => False) (retK Try.prog Try.f7.results.toList K) [undef, undef, undef, undef, undef, undef, undef] w) (by kernel_rfl : (cd Try.f7 []) = (cd Try.f7 []))) (audit_New_k h))
theorem audit_New_go : isGo Try.prog 7 := ⟨_, Try.func7, by kernel_rfl, by kernel_rfl⟩


theorem audit_within_k {K : KV} {x0 : Value} {w : World}
    (h : blt Try.prog Builtin.min #[2, 2] 2 #[false, true] #[x0, (Value.int IntKind.i64 1125899906842624)] (fun A3 w =>
    blt Try.prog Builtin.max #[2, 2] 2 #[true, false] #[(Value.int IntKind.i64 0), A3] (fun A4 w =>
    K A4 w) w) w) :
    cCode Try.prog (cd Try.f17 []) (retK Try.prog Try.f17.results.toList K) (fun _ _ _ => False) (retK Try.prog Try.f17.results.toList K) [x0, undef, undef, undef, undef, undef] w := Eq.mp (by kernel_rfl) h

theorem audit_within_in {K : KV} {x0 : Value} {w : World}
    (h : blt Try.prog Builtin.min #[2, 2] 2 #[false, true] #[x0, (Value.int IntKind.i64 1125899906842624)] (fun A3 w =>
    blt Try.prog Builtin.max #[2, 2] 2 #[true, false] #[(Value.int IntKind.i64 0), A3] (fun A4 w =>
    K A4 w) w) w) :
    Gives Try.prog 17 #[x0] w K := enter' Try.func17 (by kernel_rfl) (Eq.mp (congrArg (fun c => cCode Try.prog c (retK Try.prog Try.f17.results.toList K) (fun _ _ _ => False) (retK Try.prog Try.f17.results.toList K) [x0, undef, undef, undef, undef, undef] w) (by kernel_rfl : (cd Try.f17 []) = (cd Try.f17 []))) (audit_within_k h))
theorem audit_within_go : isGo Try.prog 17 := ⟨_, Try.func17, by kernel_rfl, by kernel_rfl⟩


theorem tree_Id_k {K : KV} {origin0 seq1 : Value} {w : World}
    (h : bin Try.prog BinOp.lss 3 false true origin0 (Value.int IntKind.i64 1) (fun A5 w =>
    gsel A5 false (fun k8 =>
    bin Try.prog BinOp.gtr 3 false true origin0 (Value.int IntKind.i64 6) (fun A8 w =>
    k8 [origin0, A8] w) w)
    (fun k => k [undef, undef] w) (fun us8 w =>
    pick A5 (Value.bool true) (gd us8 1) (fun A9 w =>
    gsel A9 false (fun k12 =>
    bin Try.prog BinOp.lss 33 false true seq1 (Value.int IntKind.u64 1) (fun C2 w =>
    k12 [seq1, C2] w) w)
    (fun k => k [undef, undef] w) (fun us12 w =>
    pick A9 (Value.bool true) (gd us12 1) (fun C3 w =>
    gsel C3 false (fun k16 =>
    bin Try.prog BinOp.geq 33 false true seq1 (Value.int IntKind.u64 1099511627776) (fun C6 w =>
    k16 [seq1, C6] w) w)
    (fun k => k [undef, undef] w) (fun us16 w =>
    pick C3 (Value.bool true) (gd us16 1) (fun C7 w =>
    cond C7
      (K (Value.int IntKind.u64 0) w)
      (conv Try.prog 3 33 origin0 (fun C9 w =>
    bin Try.prog BinOp.shl 33 false true C9 (Value.int IntKind.u64 40) (fun D0 w =>
    bin Try.prog BinOp.or 33 false false D0 seq1 (fun D2 w =>
    K D2 w) w) w) w)) w)) w)) w)) w) :
    cCode Try.prog (cd Try.f16 []) (retK Try.prog Try.f16.results.toList K) (fun _ _ _ => False) (retK Try.prog Try.f16.results.toList K) [origin0, seq1, undef, undef, undef, undef, undef, undef, undef, undef, undef, undef, undef, undef, undef, undef, undef, undef, undef, undef, undef, undef, undef, undef] w := Eq.mp (by kernel_rfl) h

theorem tree_Id_in {K : KV} {origin0 seq1 : Value} {w : World}
    (h : bin Try.prog BinOp.lss 3 false true origin0 (Value.int IntKind.i64 1) (fun A5 w =>
    gsel A5 false (fun k8 =>
    bin Try.prog BinOp.gtr 3 false true origin0 (Value.int IntKind.i64 6) (fun A8 w =>
    k8 [origin0, A8] w) w)
    (fun k => k [undef, undef] w) (fun us8 w =>
    pick A5 (Value.bool true) (gd us8 1) (fun A9 w =>
    gsel A9 false (fun k12 =>
    bin Try.prog BinOp.lss 33 false true seq1 (Value.int IntKind.u64 1) (fun C2 w =>
    k12 [seq1, C2] w) w)
    (fun k => k [undef, undef] w) (fun us12 w =>
    pick A9 (Value.bool true) (gd us12 1) (fun C3 w =>
    gsel C3 false (fun k16 =>
    bin Try.prog BinOp.geq 33 false true seq1 (Value.int IntKind.u64 1099511627776) (fun C6 w =>
    k16 [seq1, C6] w) w)
    (fun k => k [undef, undef] w) (fun us16 w =>
    pick C3 (Value.bool true) (gd us16 1) (fun C7 w =>
    cond C7
      (K (Value.int IntKind.u64 0) w)
      (conv Try.prog 3 33 origin0 (fun C9 w =>
    bin Try.prog BinOp.shl 33 false true C9 (Value.int IntKind.u64 40) (fun D0 w =>
    bin Try.prog BinOp.or 33 false false D0 seq1 (fun D2 w =>
    K D2 w) w) w) w)) w)) w)) w)) w) :
    Gives Try.prog 16 #[origin0, seq1] w K := enter' Try.func16 (by kernel_rfl) (Eq.mp (congrArg (fun c => cCode Try.prog c (retK Try.prog Try.f16.results.toList K) (fun _ _ _ => False) (retK Try.prog Try.f16.results.toList K) [origin0, seq1, undef, undef, undef, undef, undef, undef, undef, undef, undef, undef, undef, undef, undef, undef, undef, undef, undef, undef, undef, undef, undef, undef] w) (by kernel_rfl : (cd Try.f16 []) = (cd Try.f16 []))) (tree_Id_k h))
theorem tree_Id_go : isGo Try.prog 16 := ⟨_, Try.func16, by kernel_rfl, by kernel_rfl⟩

def audit_Audit_Say_A1 (K : KV) : KE := cCode Try.prog (cd Try.f8 [1, 1, 1, 0, 1, 0, 1]) (retK Try.prog Try.f8.results.toList K) (fun i => @Bool.rec (fun _ => KE) ((fun _ _ _ => False) i) (retK Try.prog Try.f8.results.toList K) (Nat.beq i 0)) (retK Try.prog Try.f8.results.toList K)
def audit_Audit_Say_A2 (K : KV) : KE := cCode Try.prog (cd Try.f8 [1, 1, 1, 0, 1, 1, 1]) (retK Try.prog Try.f8.results.toList K) (fun i => @Bool.rec (fun _ => KE) ((fun _ _ _ => False) i) (retK Try.prog Try.f8.results.toList K) (Nat.beq i 0)) (retK Try.prog Try.f8.results.toList K)
def audit_Audit_Say_A3 (K : KV) : KE := cCode Try.prog (cd Try.f8 [1, 1, 1, 0, 1, 1, 1, 1, 1, 0, 1, 1, 1]) (retK Try.prog Try.f8.results.toList K) (fun i => @Bool.rec (fun _ => KE) ((fun _ _ _ => False) i) (retK Try.prog Try.f8.results.toList K) (Nat.beq i 0)) (retK Try.prog Try.f8.results.toList K)
def audit_Audit_Say_A4 (K : KV) : KE := cCode Try.prog (cd Try.f8 [1, 1, 1, 0, 1, 1, 1, 1, 1, 1, 1]) (retK Try.prog Try.f8.results.toList K) (fun i => @Bool.rec (fun _ => KE) ((fun _ _ _ => False) i) (retK Try.prog Try.f8.results.toList K) (Nat.beq i 0)) (retK Try.prog Try.f8.results.toList K)
def audit_Audit_Say_P1 (K : KV) : KE := cCode Try.prog (cd Try.f8 [1, 1, 1, 0, 1, 1, 1, 1, 1, 0, 1, 1, 1, 1]) (retK Try.prog Try.f8.results.toList K) (fun i => @Bool.rec (fun _ => KE) ((fun _ _ _ => False) i) (retK Try.prog Try.f8.results.toList K) (Nat.beq i 0)) (retK Try.prog Try.f8.results.toList K)
def audit_Audit_Say_A5 (K : KV) : KE := cCode Try.prog (cd Try.f8 [1, 1, 1, 0, 1, 1, 1, 1, 1, 0, 1, 1, 1, 0, 1]) (audit_Audit_Say_P1 K) (fun i => @Bool.rec (fun _ => KE) ((fun _ _ _ => False) i) (retK Try.prog Try.f8.results.toList K) (Nat.beq i 0)) (retK Try.prog Try.f8.results.toList K)
theorem audit_Audit_Say_k {K : KV} (xc0 : Code) (xc1 : Code) {a0 who1 k_2 x3 : Value} {w : World}
    (h : box Try.prog 35 k_2 (fun k_6 w =>
    box Try.prog 42 x3 (fun x7 w =>
    bin Try.prog BinOp.eql 24 false true a0 (Value.pointer none) (fun C5 w =>
    gsel C5 false (fun k18 =>
    fldA Try.prog 42 x7 1 (fun C7 w =>
    ld Try.prog 40 C7 (fun C8 w =>
    bin Try.prog BinOp.neq 40 false true C8 (Value.int IntKind.i64 0) (fun C9 w =>
    k18 [C7, C8, C9, C9] w) w) w) w)
    (fun k => k [undef, undef, undef, undef] w) (fun us18 w =>
    gsel (gd us18 3) true (fun k22 =>
    fldA Try.prog 42 x7 1 (fun D1 w =>
    ld Try.prog 40 D1 (fun D2 w =>
    bin Try.prog BinOp.neq 40 false true D2 (Value.int IntKind.i64 8) (fun D3 w =>
    k22 [D1, D2, D3] w) w) w) w)
    (fun k => k [undef, undef, undef] w) (fun us22 w =>
    gsel C5 false (fun k25 =>
    pick (gd us18 3) (gd us22 2) (Value.bool false) (fun D4 w =>
    k25 [D4] w) w)
    (fun k => k [undef] w) (fun us25 w =>
    pick C5 (Value.bool true) (gd us25 0) (fun D5 w =>
    cond D5
      (K (Value.tuple #[]) w)
      (fldA Try.prog 35 k_6 0 (fun D6 w =>
    ld Try.prog 5 D6 (fun D7 w =>
    bin Try.prog BinOp.eql 5 false true D7 (Value.int IntKind.u8 1) (fun D9 w =>
    cond D9
      (fldA Try.prog 42 x7 0 (fun E0 w =>
      fldA Try.prog 39 E0 0 (fun E1 w =>
      ld Try.prog 3 E1 (fun E2 w =>
      fldA Try.prog 42 x7 0 (fun E3 w =>
      fldA Try.prog 39 E3 1 (fun E4 w =>
      ld Try.prog 33 E4 (fun E5 w =>
      call Try.prog 16 #[E2, E5] (fun E6 w =>
      (cCode Try.prog xc0 (retK Try.prog Try.f8.results.toList K) (fun i => @Bool.rec (fun _ => KE) ((fun _ _ _ => False) i) (retK Try.prog Try.f8.results.toList K) (Nat.beq i 0)) (retK Try.prog Try.f8.results.toList K)) (a0::who1::k_2::x3::undef::undef::k_6::x7::E6::undef::undef::undef::undef::undef::undef::a0::C5::C5::(gd us18 0)::(gd us18 1)::(gd us18 2)::(gd us18 3)::(gd us22 0)::(gd us22 1)::(gd us22 2)::(gd us25 0)::D5::D6::D7::D9::D9::E0::E1::E2::E3::E4::E5::E6::undef::undef::undef::undef::undef::undef::undef::undef::undef::undef::undef::undef::undef::undef::undef::undef::undef::undef::undef::undef::undef::undef::undef::undef::undef::undef::undef::undef::undef::undef::undef::undef::undef::undef::undef::undef::undef::undef::undef::undef::undef::undef::undef::undef::undef::undef::undef::undef::undef::undef::undef::undef::undef::undef::undef::undef::undef::undef::undef::undef::undef::undef::undef::undef::undef::undef::undef::undef::undef::undef::undef::undef::undef::undef::undef::undef::undef::undef::undef::undef::undef::undef::undef::undef::undef::undef::undef::undef::[]) w) w) w) w) w) w) w) w)
      (bin Try.prog BinOp.eql 5 false true D7 (Value.int IntKind.u8 2) (fun H4 w =>
      (cCode Try.prog xc1 (retK Try.prog Try.f8.results.toList K) (fun i => @Bool.rec (fun _ => KE) ((fun _ _ _ => False) i) (retK Try.prog Try.f8.results.toList K) (Nat.beq i 0)) (retK Try.prog Try.f8.results.toList K)) (a0::who1::k_2::x3::undef::undef::k_6::x7::undef::undef::undef::undef::undef::undef::undef::a0::C5::C5::(gd us18 0)::(gd us18 1)::(gd us18 2)::(gd us18 3)::(gd us22 0)::(gd us22 1)::(gd us22 2)::(gd us25 0)::D5::D6::D7::D9::D9::undef::undef::undef::undef::undef::undef::undef::undef::undef::undef::undef::undef::undef::undef::undef::undef::undef::undef::undef::undef::undef::undef::undef::undef::undef::undef::undef::undef::undef::undef::undef::undef::undef::H4::H4::undef::undef::undef::undef::undef::undef::undef::undef::undef::undef::undef::undef::undef::undef::undef::undef::undef::undef::undef::undef::undef::undef::undef::undef::undef::undef::undef::undef::undef::undef::undef::undef::undef::undef::undef::undef::undef::undef::undef::undef::undef::undef::undef::undef::undef::undef::undef::undef::undef::undef::undef::undef::undef::undef::undef::undef::undef::undef::undef::undef::[]) w) w)) w) w) w)) w)))) w) w) w) :
    cCode Try.prog (rep [1, 1, 1, 0, 1, 1, 1] xc1 (rep [1, 1, 1, 0, 1, 0, 1] xc0 (cd Try.f8 []))) (retK Try.prog Try.f8.results.toList K) (fun _ _ _ => False) (retK Try.prog Try.f8.results.toList K) (a0::who1::k_2::x3::undef::undef::undef::undef::undef::undef::undef::undef::undef::undef::undef::undef::undef::undef::undef::undef::undef::undef::undef::undef::undef::undef::undef::undef::undef::undef::undef::undef::undef::undef::undef::undef::undef::undef::undef::undef::undef::undef::undef::undef::undef::undef::undef::undef::undef::undef::undef::undef::undef::undef::undef::undef::undef::undef::undef::undef::undef::undef::undef::undef::undef::undef::undef::undef::undef::undef::undef::undef::undef::undef::undef::undef::undef::undef::undef::undef::undef::undef::undef::undef::undef::undef::undef::undef::undef::undef::undef::undef::undef::undef::undef::undef::undef::undef::undef::undef::undef::undef::undef::undef::undef::undef::undef::undef::undef::undef::undef::undef::undef::undef::undef::undef::undef::undef::undef::undef::undef::undef::undef::undef::undef::undef::[]) w := Eq.mp (by kernel_rfl) h

theorem audit_Audit_Say_in {K : KV} {a0 who1 k_2 x3 : Value} {w : World}
    (h : box Try.prog 35 k_2 (fun k_6 w =>
    box Try.prog 42 x3 (fun x7 w =>
    bin Try.prog BinOp.eql 24 false true a0 (Value.pointer none) (fun C5 w =>
    gsel C5 false (fun k18 =>
    fldA Try.prog 42 x7 1 (fun C7 w =>
    ld Try.prog 40 C7 (fun C8 w =>
    bin Try.prog BinOp.neq 40 false true C8 (Value.int IntKind.i64 0) (fun C9 w =>
    k18 [C7, C8, C9, C9] w) w) w) w)
    (fun k => k [undef, undef, undef, undef] w) (fun us18 w =>
    gsel (gd us18 3) true (fun k22 =>
    fldA Try.prog 42 x7 1 (fun D1 w =>
    ld Try.prog 40 D1 (fun D2 w =>
    bin Try.prog BinOp.neq 40 false true D2 (Value.int IntKind.i64 8) (fun D3 w =>
    k22 [D1, D2, D3] w) w) w) w)
    (fun k => k [undef, undef, undef] w) (fun us22 w =>
    gsel C5 false (fun k25 =>
    pick (gd us18 3) (gd us22 2) (Value.bool false) (fun D4 w =>
    k25 [D4] w) w)
    (fun k => k [undef] w) (fun us25 w =>
    pick C5 (Value.bool true) (gd us25 0) (fun D5 w =>
    cond D5
      (K (Value.tuple #[]) w)
      (fldA Try.prog 35 k_6 0 (fun D6 w =>
    ld Try.prog 5 D6 (fun D7 w =>
    bin Try.prog BinOp.eql 5 false true D7 (Value.int IntKind.u8 1) (fun D9 w =>
    cond D9
      (fldA Try.prog 42 x7 0 (fun E0 w =>
      fldA Try.prog 39 E0 0 (fun E1 w =>
      ld Try.prog 3 E1 (fun E2 w =>
      fldA Try.prog 42 x7 0 (fun E3 w =>
      fldA Try.prog 39 E3 1 (fun E4 w =>
      ld Try.prog 33 E4 (fun E5 w =>
      call Try.prog 16 #[E2, E5] (fun E6 w =>
      (audit_Audit_Say_A1 K) (a0::who1::k_2::x3::undef::undef::k_6::x7::E6::undef::undef::undef::undef::undef::undef::a0::C5::C5::(gd us18 0)::(gd us18 1)::(gd us18 2)::(gd us18 3)::(gd us22 0)::(gd us22 1)::(gd us22 2)::(gd us25 0)::D5::D6::D7::D9::D9::E0::E1::E2::E3::E4::E5::E6::undef::undef::undef::undef::undef::undef::undef::undef::undef::undef::undef::undef::undef::undef::undef::undef::undef::undef::undef::undef::undef::undef::undef::undef::undef::undef::undef::undef::undef::undef::undef::undef::undef::undef::undef::undef::undef::undef::undef::undef::undef::undef::undef::undef::undef::undef::undef::undef::undef::undef::undef::undef::undef::undef::undef::undef::undef::undef::undef::undef::undef::undef::undef::undef::undef::undef::undef::undef::undef::undef::undef::undef::undef::undef::undef::undef::undef::undef::undef::undef::undef::undef::undef::undef::undef::undef::undef::undef::[]) w) w) w) w) w) w) w) w)
      (bin Try.prog BinOp.eql 5 false true D7 (Value.int IntKind.u8 2) (fun H4 w =>
      (audit_Audit_Say_A2 K) (a0::who1::k_2::x3::undef::undef::k_6::x7::undef::undef::undef::undef::undef::undef::undef::a0::C5::C5::(gd us18 0)::(gd us18 1)::(gd us18 2)::(gd us18 3)::(gd us22 0)::(gd us22 1)::(gd us22 2)::(gd us25 0)::D5::D6::D7::D9::D9::undef::undef::undef::undef::undef::undef::undef::undef::undef::undef::undef::undef::undef::undef::undef::undef::undef::undef::undef::undef::undef::undef::undef::undef::undef::undef::undef::undef::undef::undef::undef::undef::undef::H4::H4::undef::undef::undef::undef::undef::undef::undef::undef::undef::undef::undef::undef::undef::undef::undef::undef::undef::undef::undef::undef::undef::undef::undef::undef::undef::undef::undef::undef::undef::undef::undef::undef::undef::undef::undef::undef::undef::undef::undef::undef::undef::undef::undef::undef::undef::undef::undef::undef::undef::undef::undef::undef::undef::undef::undef::undef::undef::undef::undef::undef::[]) w) w)) w) w) w)) w)))) w) w) w) :
    Gives Try.prog 8 #[a0, who1, k_2, x3] w K := enter' Try.func8 (by kernel_rfl) (Eq.mp (congrArg (fun c => cCode Try.prog c (retK Try.prog Try.f8.results.toList K) (fun _ _ _ => False) (retK Try.prog Try.f8.results.toList K) (a0::who1::k_2::x3::undef::undef::undef::undef::undef::undef::undef::undef::undef::undef::undef::undef::undef::undef::undef::undef::undef::undef::undef::undef::undef::undef::undef::undef::undef::undef::undef::undef::undef::undef::undef::undef::undef::undef::undef::undef::undef::undef::undef::undef::undef::undef::undef::undef::undef::undef::undef::undef::undef::undef::undef::undef::undef::undef::undef::undef::undef::undef::undef::undef::undef::undef::undef::undef::undef::undef::undef::undef::undef::undef::undef::undef::undef::undef::undef::undef::undef::undef::undef::undef::undef::undef::undef::undef::undef::undef::undef::undef::undef::undef::undef::undef::undef::undef::undef::undef::undef::undef::undef::undef::undef::undef::undef::undef::undef::undef::undef::undef::undef::undef::undef::undef::undef::undef::undef::undef::undef::undef::undef::undef::undef::undef::[]) w) (by kernel_rfl : (rep [1, 1, 1, 0, 1, 1, 1] (cd Try.f8 [1, 1, 1, 0, 1, 1, 1]) (rep [1, 1, 1, 0, 1, 0, 1] (cd Try.f8 [1, 1, 1, 0, 1, 0, 1]) (cd Try.f8 []))) = (cd Try.f8 []))) (audit_Audit_Say_k (cd Try.f8 [1, 1, 1, 0, 1, 0, 1]) (cd Try.f8 [1, 1, 1, 0, 1, 1, 1]) h))
theorem audit_Audit_Say_go : isGo Try.prog 8 := ⟨_, Try.func8, by kernel_rfl, by kernel_rfl⟩

section
variable {a0 who1 k_2 x3 a4 who5 k_6 x7 id8 A8 is10 q11 C1 is13 C3 C4 C5 C6 C7 C8 C9 D0 D1 D2 D3 D4 D5 D6 D7 D8 D9 E0 E1 E2 E3 E4 E5 E6 E7 E8 E9 F0 F1 F2 F3 F4 F5 F6 F7 F8 F9 G0 G1 G2 G3 G4 G5 G6 G7 G8 G9 H0 H1 H2 H3 H4 H5 H6 H7 H8 H9 I0 I1 I2 I3 I4 I5 I6 I7 I8 I9 J0 J1 J2 J3 J4 J5 J6 J7 J8 J9 L0 L1 L2 L3 L4 L5 L6 L7 L8 L9 M0 M1 M2 M3 M4 M5 M6 M7 M8 M9 N0 N1 N2 N3 N4 N5 N6 N7 N8 N9 O0 O1 O2 O3 O4 : Value}
theorem audit_Audit_Say_A1_k {K : KV} {w : World}
    (h : nilC a0 (fun E9 w =>
    fldA Try.prog 65 E9 0 (fun F0 w =>
    ld Try.prog 60 F0 (fun F1 w =>
    lkp Try.prog 60 F1 id8 true (fun F3 w =>
    ext Try.prog F3 0 (fun F4 w =>
    ext Try.prog F3 1 (fun F5 w =>
    alc Try.prog 68 (fun A8 w =>
    sto Try.prog 68 A8 F4 (fun _t w =>
    bin Try.prog BinOp.neq 33 false true id8 (Value.int IntKind.u64 0) (fun F7 w =>
    gsel F7 true (fun k50 =>
    un Try.prog UnOp.not F5 (fun G0 w =>
    k50 [F5, G0] w) w)
    (fun k => k [undef, undef] w) (fun us50 w =>
    pick F7 (gd us50 1) (Value.bool false) (fun G1 w =>
    cond G1
      (hReg (fun S w =>
      hld S (fun k w => nilC a0 k w) (fun G3 =>
      hld S (fun k w => fldA Try.prog 65 G3 0 k w) (fun G4 =>
      hld S (fun k w => ld Try.prog 60 G4 k w) (fun G5 =>
      hld S (fun k w => fldA Try.prog 35 k_6 1 k w) (fun G7 =>
      hld S (fun k w => ld Try.prog 33 G7 k w) (fun G8 =>
      hld S (fun k w => fldA Try.prog 35 k_6 3 k w) (fun G9 =>
      hld S (fun k w => ld Try.prog 2 G9 k w) (fun H0 =>
      call Try.prog 17 #[H0] (fun H1 w =>
      hSub S (fun S w =>
      hld S (fun k w => bld Try.prog 68 #[(0, G8), (1, H1)] k w) (fun H2 =>
      mUpd Try.prog 60 G5 id8 H2 (fun _t w =>
      K (Value.tuple #[]) w) w)) w) w)))))))) w.drew)
      (K (Value.tuple #[]) w)) w)) w) w) w) w) w) w) w) w) w) :
    cCode Try.prog (cd Try.f8 [1, 1, 1, 0, 1, 0, 1]) (retK Try.prog Try.f8.results.toList K) (fun i => @Bool.rec (fun _ => KE) ((fun _ _ _ => False) i) (retK Try.prog Try.f8.results.toList K) (Nat.beq i 0)) (retK Try.prog Try.f8.results.toList K) (a0::who1::k_2::x3::a4::who5::k_6::x7::id8::A8::is10::q11::C1::is13::C3::C4::C5::C6::C7::C8::C9::D0::D1::D2::D3::D4::D5::D6::D7::D8::D9::E0::E1::E2::E3::E4::E5::E6::E7::E8::E9::F0::F1::F2::F3::F4::F5::F6::F7::F8::F9::G0::G1::G2::G3::G4::G5::G6::G7::G8::G9::H0::H1::H2::H3::H4::H5::H6::H7::H8::H9::I0::I1::I2::I3::I4::I5::I6::I7::I8::I9::J0::J1::J2::J3::J4::J5::J6::J7::J8::J9::L0::L1::L2::L3::L4::L5::L6::L7::L8::L9::M0::M1::M2::M3::M4::M5::M6::M7::M8::M9::N0::N1::N2::N3::N4::N5::N6::N7::N8::N9::O0::O1::O2::O3::O4::[]) w := Eq.mp (by kernel_rfl) h

theorem audit_Audit_Say_A1_r {K : KV} {w : World}
    (h : nilC a0 (fun E9 w =>
    fldA Try.prog 65 E9 0 (fun F0 w =>
    ld Try.prog 60 F0 (fun F1 w =>
    lkp Try.prog 60 F1 id8 true (fun F3 w =>
    ext Try.prog F3 0 (fun F4 w =>
    ext Try.prog F3 1 (fun F5 w =>
    alc Try.prog 68 (fun A8 w =>
    sto Try.prog 68 A8 F4 (fun _t w =>
    bin Try.prog BinOp.neq 33 false true id8 (Value.int IntKind.u64 0) (fun F7 w =>
    gsel F7 true (fun k50 =>
    un Try.prog UnOp.not F5 (fun G0 w =>
    k50 [F5, G0] w) w)
    (fun k => k [undef, undef] w) (fun us50 w =>
    pick F7 (gd us50 1) (Value.bool false) (fun G1 w =>
    cond G1
      (hReg (fun S w =>
      hld S (fun k w => nilC a0 k w) (fun G3 =>
      hld S (fun k w => fldA Try.prog 65 G3 0 k w) (fun G4 =>
      hld S (fun k w => ld Try.prog 60 G4 k w) (fun G5 =>
      hld S (fun k w => fldA Try.prog 35 k_6 1 k w) (fun G7 =>
      hld S (fun k w => ld Try.prog 33 G7 k w) (fun G8 =>
      hld S (fun k w => fldA Try.prog 35 k_6 3 k w) (fun G9 =>
      hld S (fun k w => ld Try.prog 2 G9 k w) (fun H0 =>
      call Try.prog 17 #[H0] (fun H1 w =>
      hSub S (fun S w =>
      hld S (fun k w => bld Try.prog 68 #[(0, G8), (1, H1)] k w) (fun H2 =>
      mUpd Try.prog 60 G5 id8 H2 (fun _t w =>
      K (Value.tuple #[]) w) w)) w) w)))))))) w.drew)
      (K (Value.tuple #[]) w)) w)) w) w) w) w) w) w) w) w) w) :
    audit_Audit_Say_A1 K (a0::who1::k_2::x3::a4::who5::k_6::x7::id8::A8::is10::q11::C1::is13::C3::C4::C5::C6::C7::C8::C9::D0::D1::D2::D3::D4::D5::D6::D7::D8::D9::E0::E1::E2::E3::E4::E5::E6::E7::E8::E9::F0::F1::F2::F3::F4::F5::F6::F7::F8::F9::G0::G1::G2::G3::G4::G5::G6::G7::G8::G9::H0::H1::H2::H3::H4::H5::H6::H7::H8::H9::I0::I1::I2::I3::I4::I5::I6::I7::I8::I9::J0::J1::J2::J3::J4::J5::J6::J7::J8::J9::L0::L1::L2::L3::L4::L5::L6::L7::L8::L9::M0::M1::M2::M3::M4::M5::M6::M7::M8::M9::N0::N1::N2::N3::N4::N5::N6::N7::N8::N9::O0::O1::O2::O3::O4::[]) w := by
  delta audit_Audit_Say_A1
  exact Eq.mp (congrArg (fun c => cCode Try.prog c (retK Try.prog Try.f8.results.toList K) (fun i => @Bool.rec (fun _ => KE) ((fun _ _ _ => False) i) (retK Try.prog Try.f8.results.toList K) (Nat.beq i 0)) (retK Try.prog Try.f8.results.toList K) (a0::who1::k_2::x3::a4::who5::k_6::x7::id8::A8::is10::q11::C1::is13::C3::C4::C5::C6::C7::C8::C9::D0::D1::D2::D3::D4::D5::D6::D7::D8::D9::E0::E1::E2::E3::E4::E5::E6::E7::E8::E9::F0::F1::F2::F3::F4::F5::F6::F7::F8::F9::G0::G1::G2::G3::G4::G5::G6::G7::G8::G9::H0::H1::H2::H3::H4::H5::H6::H7::H8::H9::I0::I1::I2::I3::I4::I5::I6::I7::I8::I9::J0::J1::J2::J3::J4::J5::J6::J7::J8::J9::L0::L1::L2::L3::L4::L5::L6::L7::L8::L9::M0::M1::M2::M3::M4::M5::M6::M7::M8::M9::N0::N1::N2::N3::N4::N5::N6::N7::N8::N9::O0::O1::O2::O3::O4::[]) w) (by kernel_rfl : (cd Try.f8 [1, 1, 1, 0, 1, 0, 1]) = (cd Try.f8 [1, 1, 1, 0, 1, 0, 1]))) (audit_Audit_Say_A1_k h)

theorem audit_Audit_Say_A2_k {K : KV} (xc0 : Code) (xc1 : Code) {w : World}
    (h : cond H3
      (hReg (fun S w =>
      hld S (fun k w => nilC a0 k w) (fun H6 =>
      hld S (fun k w => fldA Try.prog 65 H6 1 k w) (fun H7 =>
      hld S (fun k w => ld Try.prog 61 H7 k w) (fun H8 =>
      hld S (fun k w => fldA Try.prog 35 k_6 1 k w) (fun H9 =>
      hld S (fun k w => ld Try.prog 33 H9 k w) (fun I0 =>
      hld S (fun k w => lkp Try.prog 61 H8 I0 false k w) (fun I1 =>
      hld S (fun k w => fldA Try.prog 35 k_6 3 k w) (fun I2 =>
      hld S (fun k w => ld Try.prog 2 I2 k w) (fun I3 =>
      call Try.prog 17 #[I3] (fun I4 w =>
      hSub S (fun S w =>
      hld (fun _ => True) (fun k w => bin Try.prog BinOp.add 2 false false I1 I4 k w) (fun I5 =>
      mUpd Try.prog 61 H8 I0 I5 (fun _t w =>
      K (Value.tuple #[]) w) w)) w) w))))))))) w.drew)
      (bin Try.prog BinOp.eql 5 false true D7 (Value.int IntKind.u8 3) (fun I7 w =>
      cond I7
        (fldA Try.prog 35 k_6 4 (fun I9 w =>
        ld Try.prog 33 I9 (fun J0 w =>
        bld Try.prog 72 #[(0, who1), (1, J0)] (fun J1 w =>
        alc Try.prog 72 (fun q11 w =>
        sto Try.prog 72 q11 J1 (fun _t w =>
        hReg (fun S w =>
        hld S (fun k w => nilC a0 k w) (fun J4 =>
        hld S (fun k w => fldA Try.prog 65 J4 2 k w) (fun J5 =>
        hld S (fun k w => ld Try.prog 62 J5 k w) (fun J6 =>
        hld S (fun k w => ld Try.prog 72 q11 k w) (fun J7 =>
        hld S (fun k w => lkp Try.prog 62 J6 J7 true k w) (fun J8 =>
        hld S (fun k w => ext Try.prog J8 0 k w) (fun J9 =>
        hld S (fun k w => ext Try.prog J8 1 k w) (fun L0 =>
        alc Try.prog 74 (fun C1 w =>
        hSub S (fun S w =>
        sto Try.prog 74 C1 J9 (fun _t w =>
        hSub S (fun S w =>
        gsel L0 false (fun k94 =>
        fldA Try.prog 42 x7 1 (fun L3 w =>
        ld Try.prog 40 L3 (fun L4 w =>
        bin Try.prog BinOp.neq 40 false true L4 (Value.int IntKind.i64 0) (fun L5 w =>
        k94 [L3, L4, L5] w) w) w) w)
        (fun k => k [undef, undef, undef] w) (fun us94 w =>
        pick L0 (Value.bool true) (gd us94 2) (fun L6 w =>
        cond L6
          (K (Value.tuple #[]) w)
          (fldA Try.prog 35 k_6 1 (fun L7 w =>
        ld Try.prog 33 L7 (fun L8 w =>
        fldA Try.prog 35 k_6 3 (fun L9 w =>
        ld Try.prog 2 L9 (fun M0 w =>
        bld Try.prog 74 #[(0, L8), (1, M0)] (fun M1 w =>
        alc Try.prog 74 (fun C3 w =>
        sto Try.prog 74 C3 M1 (fun _t w =>
        (cCode Try.prog xc0 (retK Try.prog Try.f8.results.toList K) (fun i => @Bool.rec (fun _ => KE) ((fun _ _ _ => False) i) (retK Try.prog Try.f8.results.toList K) (Nat.beq i 0)) (retK Try.prog Try.f8.results.toList K)) (a0::who1::k_2::x3::a4::who5::k_6::x7::id8::A8::is10::q11::C1::L0::C3::C4::C5::C6::C7::C8::C9::D0::D1::D2::D3::D4::D5::D6::D7::D8::D9::E0::E1::E2::E3::E4::E5::E6::E7::E8::E9::F0::F1::F2::F3::F4::F5::F6::F7::F8::F9::G0::G1::G2::G3::G4::G5::G6::G7::G8::G9::H0::H1::H2::H3::H4::H5::H6::H7::H8::H9::I0::I1::I2::I3::I4::I5::I7::I7::who1::I9::J0::J1::J8::a0::J4::J5::J6::J7::J8::J9::L0::L0::L0::(gd us94 0)::(gd us94 1)::(gd us94 2)::L6::L7::L8::L9::M0::M1::M2::M3::M4::M5::M6::M7::M8::M9::N0::N1::N2::N3::N4::N5::N6::N7::N8::N9::O0::O1::O2::O3::O4::[]) w) w) w) w) w) w) w) w)) w)) w) w) w) w)))))))) w.drew) w) w) w) w) w)
        (bin Try.prog BinOp.eql 5 false true D7 (Value.int IntKind.u8 4) (fun N6 w =>
        (cCode Try.prog xc1 (retK Try.prog Try.f8.results.toList K) (fun i => @Bool.rec (fun _ => KE) ((fun _ _ _ => False) i) (retK Try.prog Try.f8.results.toList K) (Nat.beq i 0)) (retK Try.prog Try.f8.results.toList K)) (a0::who1::k_2::x3::a4::who5::k_6::x7::id8::A8::is10::q11::C1::is13::C3::C4::C5::C6::C7::C8::C9::D0::D1::D2::D3::D4::D5::D6::D7::D8::D9::E0::E1::E2::E3::E4::E5::E6::E7::E8::E9::F0::F1::F2::F3::F4::F5::F6::F7::F8::F9::G0::G1::G2::G3::G4::G5::G6::G7::G8::G9::H0::H1::H2::H3::H4::H5::H6::H7::H8::H9::I0::I1::I2::I3::I4::I5::I7::I7::I8::I9::J0::J1::J2::J3::J4::J5::J6::J7::J8::J9::L0::L1::L2::L3::L4::L5::L6::L7::L8::L9::M0::M1::M2::M3::M4::M5::M6::M7::M8::M9::N0::N1::N2::N3::N4::N6::N6::N7::N8::N9::O0::O1::O2::O3::O4::[]) w) w)) w)) :
    cCode Try.prog (rep [1, 1, 1, 1] xc1 (rep [1, 1, 0, 1, 1, 1] xc0 (cd Try.f8 [1, 1, 1, 0, 1, 1, 1]))) (retK Try.prog Try.f8.results.toList K) (fun i => @Bool.rec (fun _ => KE) ((fun _ _ _ => False) i) (retK Try.prog Try.f8.results.toList K) (Nat.beq i 0)) (retK Try.prog Try.f8.results.toList K) (a0::who1::k_2::x3::a4::who5::k_6::x7::id8::A8::is10::q11::C1::is13::C3::C4::C5::C6::C7::C8::C9::D0::D1::D2::D3::D4::D5::D6::D7::D8::D9::E0::E1::E2::E3::E4::E5::E6::E7::E8::E9::F0::F1::F2::F3::F4::F5::F6::F7::F8::F9::G0::G1::G2::G3::G4::G5::G6::G7::G8::G9::H0::H1::H2::H3::H4::H5::H6::H7::H8::H9::I0::I1::I2::I3::I4::I5::I6::I7::I8::I9::J0::J1::J2::J3::J4::J5::J6::J7::J8::J9::L0::L1::L2::L3::L4::L5::L6::L7::L8::L9::M0::M1::M2::M3::M4::M5::M6::M7::M8::M9::N0::N1::N2::N3::N4::N5::N6::N7::N8::N9::O0::O1::O2::O3::O4::[]) w := Eq.mp (by kernel_rfl) h

theorem audit_Audit_Say_A2_r {K : KV} {w : World}
    (h : cond H3
      (hReg (fun S w =>
      hld S (fun k w => nilC a0 k w) (fun H6 =>
      hld S (fun k w => fldA Try.prog 65 H6 1 k w) (fun H7 =>
      hld S (fun k w => ld Try.prog 61 H7 k w) (fun H8 =>
      hld S (fun k w => fldA Try.prog 35 k_6 1 k w) (fun H9 =>
      hld S (fun k w => ld Try.prog 33 H9 k w) (fun I0 =>
      hld S (fun k w => lkp Try.prog 61 H8 I0 false k w) (fun I1 =>
      hld S (fun k w => fldA Try.prog 35 k_6 3 k w) (fun I2 =>
      hld S (fun k w => ld Try.prog 2 I2 k w) (fun I3 =>
      call Try.prog 17 #[I3] (fun I4 w =>
      hSub S (fun S w =>
      hld (fun _ => True) (fun k w => bin Try.prog BinOp.add 2 false false I1 I4 k w) (fun I5 =>
      mUpd Try.prog 61 H8 I0 I5 (fun _t w =>
      K (Value.tuple #[]) w) w)) w) w))))))))) w.drew)
      (bin Try.prog BinOp.eql 5 false true D7 (Value.int IntKind.u8 3) (fun I7 w =>
      cond I7
        (fldA Try.prog 35 k_6 4 (fun I9 w =>
        ld Try.prog 33 I9 (fun J0 w =>
        bld Try.prog 72 #[(0, who1), (1, J0)] (fun J1 w =>
        alc Try.prog 72 (fun q11 w =>
        sto Try.prog 72 q11 J1 (fun _t w =>
        hReg (fun S w =>
        hld S (fun k w => nilC a0 k w) (fun J4 =>
        hld S (fun k w => fldA Try.prog 65 J4 2 k w) (fun J5 =>
        hld S (fun k w => ld Try.prog 62 J5 k w) (fun J6 =>
        hld S (fun k w => ld Try.prog 72 q11 k w) (fun J7 =>
        hld S (fun k w => lkp Try.prog 62 J6 J7 true k w) (fun J8 =>
        hld S (fun k w => ext Try.prog J8 0 k w) (fun J9 =>
        hld S (fun k w => ext Try.prog J8 1 k w) (fun L0 =>
        alc Try.prog 74 (fun C1 w =>
        hSub S (fun S w =>
        sto Try.prog 74 C1 J9 (fun _t w =>
        hSub S (fun S w =>
        gsel L0 false (fun k94 =>
        fldA Try.prog 42 x7 1 (fun L3 w =>
        ld Try.prog 40 L3 (fun L4 w =>
        bin Try.prog BinOp.neq 40 false true L4 (Value.int IntKind.i64 0) (fun L5 w =>
        k94 [L3, L4, L5] w) w) w) w)
        (fun k => k [undef, undef, undef] w) (fun us94 w =>
        pick L0 (Value.bool true) (gd us94 2) (fun L6 w =>
        cond L6
          (K (Value.tuple #[]) w)
          (fldA Try.prog 35 k_6 1 (fun L7 w =>
        ld Try.prog 33 L7 (fun L8 w =>
        fldA Try.prog 35 k_6 3 (fun L9 w =>
        ld Try.prog 2 L9 (fun M0 w =>
        bld Try.prog 74 #[(0, L8), (1, M0)] (fun M1 w =>
        alc Try.prog 74 (fun C3 w =>
        sto Try.prog 74 C3 M1 (fun _t w =>
        (audit_Audit_Say_A3 K) (a0::who1::k_2::x3::a4::who5::k_6::x7::id8::A8::is10::q11::C1::L0::C3::C4::C5::C6::C7::C8::C9::D0::D1::D2::D3::D4::D5::D6::D7::D8::D9::E0::E1::E2::E3::E4::E5::E6::E7::E8::E9::F0::F1::F2::F3::F4::F5::F6::F7::F8::F9::G0::G1::G2::G3::G4::G5::G6::G7::G8::G9::H0::H1::H2::H3::H4::H5::H6::H7::H8::H9::I0::I1::I2::I3::I4::I5::I7::I7::who1::I9::J0::J1::J8::a0::J4::J5::J6::J7::J8::J9::L0::L0::L0::(gd us94 0)::(gd us94 1)::(gd us94 2)::L6::L7::L8::L9::M0::M1::M2::M3::M4::M5::M6::M7::M8::M9::N0::N1::N2::N3::N4::N5::N6::N7::N8::N9::O0::O1::O2::O3::O4::[]) w) w) w) w) w) w) w) w)) w)) w) w) w) w)))))))) w.drew) w) w) w) w) w)
        (bin Try.prog BinOp.eql 5 false true D7 (Value.int IntKind.u8 4) (fun N6 w =>
        (audit_Audit_Say_A4 K) (a0::who1::k_2::x3::a4::who5::k_6::x7::id8::A8::is10::q11::C1::is13::C3::C4::C5::C6::C7::C8::C9::D0::D1::D2::D3::D4::D5::D6::D7::D8::D9::E0::E1::E2::E3::E4::E5::E6::E7::E8::E9::F0::F1::F2::F3::F4::F5::F6::F7::F8::F9::G0::G1::G2::G3::G4::G5::G6::G7::G8::G9::H0::H1::H2::H3::H4::H5::H6::H7::H8::H9::I0::I1::I2::I3::I4::I5::I7::I7::I8::I9::J0::J1::J2::J3::J4::J5::J6::J7::J8::J9::L0::L1::L2::L3::L4::L5::L6::L7::L8::L9::M0::M1::M2::M3::M4::M5::M6::M7::M8::M9::N0::N1::N2::N3::N4::N6::N6::N7::N8::N9::O0::O1::O2::O3::O4::[]) w) w)) w)) :
    audit_Audit_Say_A2 K (a0::who1::k_2::x3::a4::who5::k_6::x7::id8::A8::is10::q11::C1::is13::C3::C4::C5::C6::C7::C8::C9::D0::D1::D2::D3::D4::D5::D6::D7::D8::D9::E0::E1::E2::E3::E4::E5::E6::E7::E8::E9::F0::F1::F2::F3::F4::F5::F6::F7::F8::F9::G0::G1::G2::G3::G4::G5::G6::G7::G8::G9::H0::H1::H2::H3::H4::H5::H6::H7::H8::H9::I0::I1::I2::I3::I4::I5::I6::I7::I8::I9::J0::J1::J2::J3::J4::J5::J6::J7::J8::J9::L0::L1::L2::L3::L4::L5::L6::L7::L8::L9::M0::M1::M2::M3::M4::M5::M6::M7::M8::M9::N0::N1::N2::N3::N4::N5::N6::N7::N8::N9::O0::O1::O2::O3::O4::[]) w := by
  delta audit_Audit_Say_A2
  exact Eq.mp (congrArg (fun c => cCode Try.prog c (retK Try.prog Try.f8.results.toList K) (fun i => @Bool.rec (fun _ => KE) ((fun _ _ _ => False) i) (retK Try.prog Try.f8.results.toList K) (Nat.beq i 0)) (retK Try.prog Try.f8.results.toList K) (a0::who1::k_2::x3::a4::who5::k_6::x7::id8::A8::is10::q11::C1::is13::C3::C4::C5::C6::C7::C8::C9::D0::D1::D2::D3::D4::D5::D6::D7::D8::D9::E0::E1::E2::E3::E4::E5::E6::E7::E8::E9::F0::F1::F2::F3::F4::F5::F6::F7::F8::F9::G0::G1::G2::G3::G4::G5::G6::G7::G8::G9::H0::H1::H2::H3::H4::H5::H6::H7::H8::H9::I0::I1::I2::I3::I4::I5::I6::I7::I8::I9::J0::J1::J2::J3::J4::J5::J6::J7::J8::J9::L0::L1::L2::L3::L4::L5::L6::L7::L8::L9::M0::M1::M2::M3::M4::M5::M6::M7::M8::M9::N0::N1::N2::N3::N4::N5::N6::N7::N8::N9::O0::O1::O2::O3::O4::[]) w) (by kernel_rfl : (rep [1, 1, 1, 1] (cd Try.f8 [1, 1, 1, 0, 1, 1, 1, 1, 1, 1, 1]) (rep [1, 1, 0, 1, 1, 1] (cd Try.f8 [1, 1, 1, 0, 1, 1, 1, 1, 1, 0, 1, 1, 1]) (cd Try.f8 [1, 1, 1, 0, 1, 1, 1]))) = (cd Try.f8 [1, 1, 1, 0, 1, 1, 1]))) (audit_Audit_Say_A2_k (cd Try.f8 [1, 1, 1, 0, 1, 1, 1, 1, 1, 0, 1, 1, 1]) (cd Try.f8 [1, 1, 1, 0, 1, 1, 1, 1, 1, 1, 1]) h)

theorem audit_Audit_Say_A3_k {K : KV} (xc0 : Code) {w : World}
    (h : hReg (fun S w =>
    hld S (fun k w => fldA Try.prog 74 C3 1 k w) (fun M2 =>
    hld S (fun k w => ld Try.prog 2 M2 k w) (fun M3 =>
    hld S (fun k w => fldA Try.prog 74 C3 1 k w) (fun M4 =>
    hld S (fun k w => ld Try.prog 2 M4 k w) (fun M5 =>
    call Try.prog 17 #[M5] (fun M6 w =>
    hSub S (fun S w =>
    hld S (fun k w => bin Try.prog BinOp.neq 2 false false M3 M6 k w) (fun M7 =>
    (cCode Try.prog xc0 (cCode Try.prog (cd Try.f8 [1, 1, 1, 0, 1, 1, 1, 1, 1, 0, 1, 1, 1, 1]) (retK Try.prog Try.f8.results.toList K) (fun i => @Bool.rec (fun _ => KE) ((fun _ _ _ => False) i) (retK Try.prog Try.f8.results.toList K) (Nat.beq i 0)) (retK Try.prog Try.f8.results.toList K)) (fun i => @Bool.rec (fun _ => KE) ((fun _ _ _ => False) i) (retK Try.prog Try.f8.results.toList K) (Nat.beq i 0)) (retK Try.prog Try.f8.results.toList K)) (a0::who1::k_2::x3::a4::who5::k_6::x7::id8::A8::is10::q11::C1::is13::C3::C4::C5::C6::C7::C8::C9::D0::D1::D2::D3::D4::D5::D6::D7::D8::D9::E0::E1::E2::E3::E4::E5::E6::E7::E8::E9::F0::F1::F2::F3::F4::F5::F6::F7::F8::F9::G0::G1::G2::G3::G4::G5::G6::G7::G8::G9::H0::H1::H2::H3::H4::H5::H6::H7::H8::H9::I0::I1::I2::I3::I4::I5::I6::I7::I8::I9::J0::J1::J2::J3::J4::J5::J6::J7::J8::J9::L0::L1::L2::L3::L4::L5::L6::L7::L8::L9::M0::M1::M2::M3::M4::M5::M6::M7::M8::M9::N0::N1::N2::N3::N4::N5::N6::N7::N8::N9::O0::O1::O2::O3::O4::[]) w)) w) w))))) w.drew) :
    cCode Try.prog (rep [0, 1] xc0 (cd Try.f8 [1, 1, 1, 0, 1, 1, 1, 1, 1, 0, 1, 1, 1])) (retK Try.prog Try.f8.results.toList K) (fun i => @Bool.rec (fun _ => KE) ((fun _ _ _ => False) i) (retK Try.prog Try.f8.results.toList K) (Nat.beq i 0)) (retK Try.prog Try.f8.results.toList K) (a0::who1::k_2::x3::a4::who5::k_6::x7::id8::A8::is10::q11::C1::is13::C3::C4::C5::C6::C7::C8::C9::D0::D1::D2::D3::D4::D5::D6::D7::D8::D9::E0::E1::E2::E3::E4::E5::E6::E7::E8::E9::F0::F1::F2::F3::F4::F5::F6::F7::F8::F9::G0::G1::G2::G3::G4::G5::G6::G7::G8::G9::H0::H1::H2::H3::H4::H5::H6::H7::H8::H9::I0::I1::I2::I3::I4::I5::I6::I7::I8::I9::J0::J1::J2::J3::J4::J5::J6::J7::J8::J9::L0::L1::L2::L3::L4::L5::L6::L7::L8::L9::M0::M1::M2::M3::M4::M5::M6::M7::M8::M9::N0::N1::N2::N3::N4::N5::N6::N7::N8::N9::O0::O1::O2::O3::O4::[]) w := Eq.mp (by kernel_rfl) h

theorem audit_Audit_Say_A3_r {K : KV} {w : World}
    (h : hReg (fun S w =>
    hld S (fun k w => fldA Try.prog 74 C3 1 k w) (fun M2 =>
    hld S (fun k w => ld Try.prog 2 M2 k w) (fun M3 =>
    hld S (fun k w => fldA Try.prog 74 C3 1 k w) (fun M4 =>
    hld S (fun k w => ld Try.prog 2 M4 k w) (fun M5 =>
    call Try.prog 17 #[M5] (fun M6 w =>
    hSub S (fun S w =>
    hld S (fun k w => bin Try.prog BinOp.neq 2 false false M3 M6 k w) (fun M7 =>
    (audit_Audit_Say_A5 K) (a0::who1::k_2::x3::a4::who5::k_6::x7::id8::A8::is10::q11::C1::is13::C3::C4::C5::C6::C7::C8::C9::D0::D1::D2::D3::D4::D5::D6::D7::D8::D9::E0::E1::E2::E3::E4::E5::E6::E7::E8::E9::F0::F1::F2::F3::F4::F5::F6::F7::F8::F9::G0::G1::G2::G3::G4::G5::G6::G7::G8::G9::H0::H1::H2::H3::H4::H5::H6::H7::H8::H9::I0::I1::I2::I3::I4::I5::I6::I7::I8::I9::J0::J1::J2::J3::J4::J5::J6::J7::J8::J9::L0::L1::L2::L3::L4::L5::L6::L7::L8::L9::M0::M1::M2::M3::M4::M5::M6::M7::M8::M9::N0::N1::N2::N3::N4::N5::N6::N7::N8::N9::O0::O1::O2::O3::O4::[]) w)) w) w))))) w.drew) :
    audit_Audit_Say_A3 K (a0::who1::k_2::x3::a4::who5::k_6::x7::id8::A8::is10::q11::C1::is13::C3::C4::C5::C6::C7::C8::C9::D0::D1::D2::D3::D4::D5::D6::D7::D8::D9::E0::E1::E2::E3::E4::E5::E6::E7::E8::E9::F0::F1::F2::F3::F4::F5::F6::F7::F8::F9::G0::G1::G2::G3::G4::G5::G6::G7::G8::G9::H0::H1::H2::H3::H4::H5::H6::H7::H8::H9::I0::I1::I2::I3::I4::I5::I6::I7::I8::I9::J0::J1::J2::J3::J4::J5::J6::J7::J8::J9::L0::L1::L2::L3::L4::L5::L6::L7::L8::L9::M0::M1::M2::M3::M4::M5::M6::M7::M8::M9::N0::N1::N2::N3::N4::N5::N6::N7::N8::N9::O0::O1::O2::O3::O4::[]) w := by
  delta audit_Audit_Say_A3
  exact Eq.mp (congrArg (fun c => cCode Try.prog c (retK Try.prog Try.f8.results.toList K) (fun i => @Bool.rec (fun _ => KE) ((fun _ _ _ => False) i) (retK Try.prog Try.f8.results.toList K) (Nat.beq i 0)) (retK Try.prog Try.f8.results.toList K) (a0::who1::k_2::x3::a4::who5::k_6::x7::id8::A8::is10::q11::C1::is13::C3::C4::C5::C6::C7::C8::C9::D0::D1::D2::D3::D4::D5::D6::D7::D8::D9::E0::E1::E2::E3::E4::E5::E6::E7::E8::E9::F0::F1::F2::F3::F4::F5::F6::F7::F8::F9::G0::G1::G2::G3::G4::G5::G6::G7::G8::G9::H0::H1::H2::H3::H4::H5::H6::H7::H8::H9::I0::I1::I2::I3::I4::I5::I6::I7::I8::I9::J0::J1::J2::J3::J4::J5::J6::J7::J8::J9::L0::L1::L2::L3::L4::L5::L6::L7::L8::L9::M0::M1::M2::M3::M4::M5::M6::M7::M8::M9::N0::N1::N2::N3::N4::N5::N6::N7::N8::N9::O0::O1::O2::O3::O4::[]) w) (by kernel_rfl : (rep [0, 1] (cd Try.f8 [1, 1, 1, 0, 1, 1, 1, 1, 1, 0, 1, 1, 1, 0, 1]) (cd Try.f8 [1, 1, 1, 0, 1, 1, 1, 1, 1, 0, 1, 1, 1])) = (cd Try.f8 [1, 1, 1, 0, 1, 1, 1, 1, 1, 0, 1, 1, 1]))) (audit_Audit_Say_A3_k (cd Try.f8 [1, 1, 1, 0, 1, 1, 1, 1, 1, 0, 1, 1, 1, 0, 1]) h)

theorem audit_Audit_Say_A4_k {K : KV} {w : World}
    (h : cond N5
      (hReg (fun S w =>
      hld S (fun k w => nilC a0 k w) (fun N8 =>
      hld S (fun k w => fldA Try.prog 65 N8 3 k w) (fun N9 =>
      hld S (fun k w => ld Try.prog 63 N9 k w) (fun O0 =>
      hld S (fun k w => fldA Try.prog 35 k_6 5 k w) (fun O2 =>
      hld S (fun k w => ld Try.prog 33 O2 k w) (fun O3 =>
      hld S (fun k w => bld Try.prog 72 #[(0, who1), (1, O3)] k w) (fun O4 =>
      mUpd Try.prog 63 O0 O4 (Value.bool true) (fun _t w =>
      K (Value.tuple #[]) w) w))))))) w.drew)
      (K (Value.tuple #[]) w)) :
    cCode Try.prog (cd Try.f8 [1, 1, 1, 0, 1, 1, 1, 1, 1, 1, 1]) (retK Try.prog Try.f8.results.toList K) (fun i => @Bool.rec (fun _ => KE) ((fun _ _ _ => False) i) (retK Try.prog Try.f8.results.toList K) (Nat.beq i 0)) (retK Try.prog Try.f8.results.toList K) (a0::who1::k_2::x3::a4::who5::k_6::x7::id8::A8::is10::q11::C1::is13::C3::C4::C5::C6::C7::C8::C9::D0::D1::D2::D3::D4::D5::D6::D7::D8::D9::E0::E1::E2::E3::E4::E5::E6::E7::E8::E9::F0::F1::F2::F3::F4::F5::F6::F7::F8::F9::G0::G1::G2::G3::G4::G5::G6::G7::G8::G9::H0::H1::H2::H3::H4::H5::H6::H7::H8::H9::I0::I1::I2::I3::I4::I5::I6::I7::I8::I9::J0::J1::J2::J3::J4::J5::J6::J7::J8::J9::L0::L1::L2::L3::L4::L5::L6::L7::L8::L9::M0::M1::M2::M3::M4::M5::M6::M7::M8::M9::N0::N1::N2::N3::N4::N5::N6::N7::N8::N9::O0::O1::O2::O3::O4::[]) w := Eq.mp (by kernel_rfl) h

theorem audit_Audit_Say_A4_r {K : KV} {w : World}
    (h : cond N5
      (hReg (fun S w =>
      hld S (fun k w => nilC a0 k w) (fun N8 =>
      hld S (fun k w => fldA Try.prog 65 N8 3 k w) (fun N9 =>
      hld S (fun k w => ld Try.prog 63 N9 k w) (fun O0 =>
      hld S (fun k w => fldA Try.prog 35 k_6 5 k w) (fun O2 =>
      hld S (fun k w => ld Try.prog 33 O2 k w) (fun O3 =>
      hld S (fun k w => bld Try.prog 72 #[(0, who1), (1, O3)] k w) (fun O4 =>
      mUpd Try.prog 63 O0 O4 (Value.bool true) (fun _t w =>
      K (Value.tuple #[]) w) w))))))) w.drew)
      (K (Value.tuple #[]) w)) :
    audit_Audit_Say_A4 K (a0::who1::k_2::x3::a4::who5::k_6::x7::id8::A8::is10::q11::C1::is13::C3::C4::C5::C6::C7::C8::C9::D0::D1::D2::D3::D4::D5::D6::D7::D8::D9::E0::E1::E2::E3::E4::E5::E6::E7::E8::E9::F0::F1::F2::F3::F4::F5::F6::F7::F8::F9::G0::G1::G2::G3::G4::G5::G6::G7::G8::G9::H0::H1::H2::H3::H4::H5::H6::H7::H8::H9::I0::I1::I2::I3::I4::I5::I6::I7::I8::I9::J0::J1::J2::J3::J4::J5::J6::J7::J8::J9::L0::L1::L2::L3::L4::L5::L6::L7::L8::L9::M0::M1::M2::M3::M4::M5::M6::M7::M8::M9::N0::N1::N2::N3::N4::N5::N6::N7::N8::N9::O0::O1::O2::O3::O4::[]) w := by
  delta audit_Audit_Say_A4
  exact Eq.mp (congrArg (fun c => cCode Try.prog c (retK Try.prog Try.f8.results.toList K) (fun i => @Bool.rec (fun _ => KE) ((fun _ _ _ => False) i) (retK Try.prog Try.f8.results.toList K) (Nat.beq i 0)) (retK Try.prog Try.f8.results.toList K) (a0::who1::k_2::x3::a4::who5::k_6::x7::id8::A8::is10::q11::C1::is13::C3::C4::C5::C6::C7::C8::C9::D0::D1::D2::D3::D4::D5::D6::D7::D8::D9::E0::E1::E2::E3::E4::E5::E6::E7::E8::E9::F0::F1::F2::F3::F4::F5::F6::F7::F8::F9::G0::G1::G2::G3::G4::G5::G6::G7::G8::G9::H0::H1::H2::H3::H4::H5::H6::H7::H8::H9::I0::I1::I2::I3::I4::I5::I6::I7::I8::I9::J0::J1::J2::J3::J4::J5::J6::J7::J8::J9::L0::L1::L2::L3::L4::L5::L6::L7::L8::L9::M0::M1::M2::M3::M4::M5::M6::M7::M8::M9::N0::N1::N2::N3::N4::N5::N6::N7::N8::N9::O0::O1::O2::O3::O4::[]) w) (by kernel_rfl : (cd Try.f8 [1, 1, 1, 0, 1, 1, 1, 1, 1, 1, 1]) = (cd Try.f8 [1, 1, 1, 0, 1, 1, 1, 1, 1, 1, 1]))) (audit_Audit_Say_A4_k h)

theorem audit_Audit_Say_A5_k {K : KV} (qc0 : KE) {w : World}
    (h : cond M7
      (fldA Try.prog 74 C3 1 (fun M8 w =>
      sto Try.prog 2 M8 (Value.int IntKind.i64 0) (fun _t w =>
      qc0 (a0::who1::k_2::x3::a4::who5::k_6::x7::id8::A8::is10::q11::C1::is13::C3::C4::C5::C6::C7::C8::C9::D0::D1::D2::D3::D4::D5::D6::D7::D8::D9::E0::E1::E2::E3::E4::E5::E6::E7::E8::E9::F0::F1::F2::F3::F4::F5::F6::F7::F8::F9::G0::G1::G2::G3::G4::G5::G6::G7::G8::G9::H0::H1::H2::H3::H4::H5::H6::H7::H8::H9::I0::I1::I2::I3::I4::I5::I6::I7::I8::I9::J0::J1::J2::J3::J4::J5::J6::J7::J8::J9::L0::L1::L2::L3::L4::L5::L6::L7::L8::L9::M0::M1::M2::M3::M4::M5::M6::M7::M8::M9::N0::N1::N2::N3::N4::N5::N6::N7::N8::N9::O0::O1::O2::O3::O4::[]) w) w) w)
      (qc0 (a0::who1::k_2::x3::a4::who5::k_6::x7::id8::A8::is10::q11::C1::is13::C3::C4::C5::C6::C7::C8::C9::D0::D1::D2::D3::D4::D5::D6::D7::D8::D9::E0::E1::E2::E3::E4::E5::E6::E7::E8::E9::F0::F1::F2::F3::F4::F5::F6::F7::F8::F9::G0::G1::G2::G3::G4::G5::G6::G7::G8::G9::H0::H1::H2::H3::H4::H5::H6::H7::H8::H9::I0::I1::I2::I3::I4::I5::I6::I7::I8::I9::J0::J1::J2::J3::J4::J5::J6::J7::J8::J9::L0::L1::L2::L3::L4::L5::L6::L7::L8::L9::M0::M1::M2::M3::M4::M5::M6::M7::M8::M9::N0::N1::N2::N3::N4::N5::N6::N7::N8::N9::O0::O1::O2::O3::O4::[]) w)) :
    cCode Try.prog (cd Try.f8 [1, 1, 1, 0, 1, 1, 1, 1, 1, 0, 1, 1, 1, 0, 1]) qc0 (fun i => @Bool.rec (fun _ => KE) ((fun _ _ _ => False) i) (retK Try.prog Try.f8.results.toList K) (Nat.beq i 0)) (retK Try.prog Try.f8.results.toList K) (a0::who1::k_2::x3::a4::who5::k_6::x7::id8::A8::is10::q11::C1::is13::C3::C4::C5::C6::C7::C8::C9::D0::D1::D2::D3::D4::D5::D6::D7::D8::D9::E0::E1::E2::E3::E4::E5::E6::E7::E8::E9::F0::F1::F2::F3::F4::F5::F6::F7::F8::F9::G0::G1::G2::G3::G4::G5::G6::G7::G8::G9::H0::H1::H2::H3::H4::H5::H6::H7::H8::H9::I0::I1::I2::I3::I4::I5::I6::I7::I8::I9::J0::J1::J2::J3::J4::J5::J6::J7::J8::J9::L0::L1::L2::L3::L4::L5::L6::L7::L8::L9::M0::M1::M2::M3::M4::M5::M6::M7::M8::M9::N0::N1::N2::N3::N4::N5::N6::N7::N8::N9::O0::O1::O2::O3::O4::[]) w := Eq.mp (by kernel_rfl) h

theorem audit_Audit_Say_A5_r {K : KV} {w : World}
    (h : cond M7
      (fldA Try.prog 74 C3 1 (fun M8 w =>
      sto Try.prog 2 M8 (Value.int IntKind.i64 0) (fun _t w =>
      (audit_Audit_Say_P1 K) (a0::who1::k_2::x3::a4::who5::k_6::x7::id8::A8::is10::q11::C1::is13::C3::C4::C5::C6::C7::C8::C9::D0::D1::D2::D3::D4::D5::D6::D7::D8::D9::E0::E1::E2::E3::E4::E5::E6::E7::E8::E9::F0::F1::F2::F3::F4::F5::F6::F7::F8::F9::G0::G1::G2::G3::G4::G5::G6::G7::G8::G9::H0::H1::H2::H3::H4::H5::H6::H7::H8::H9::I0::I1::I2::I3::I4::I5::I6::I7::I8::I9::J0::J1::J2::J3::J4::J5::J6::J7::J8::J9::L0::L1::L2::L3::L4::L5::L6::L7::L8::L9::M0::M1::M2::M3::M4::M5::M6::M7::M8::M9::N0::N1::N2::N3::N4::N5::N6::N7::N8::N9::O0::O1::O2::O3::O4::[]) w) w) w)
      ((audit_Audit_Say_P1 K) (a0::who1::k_2::x3::a4::who5::k_6::x7::id8::A8::is10::q11::C1::is13::C3::C4::C5::C6::C7::C8::C9::D0::D1::D2::D3::D4::D5::D6::D7::D8::D9::E0::E1::E2::E3::E4::E5::E6::E7::E8::E9::F0::F1::F2::F3::F4::F5::F6::F7::F8::F9::G0::G1::G2::G3::G4::G5::G6::G7::G8::G9::H0::H1::H2::H3::H4::H5::H6::H7::H8::H9::I0::I1::I2::I3::I4::I5::I6::I7::I8::I9::J0::J1::J2::J3::J4::J5::J6::J7::J8::J9::L0::L1::L2::L3::L4::L5::L6::L7::L8::L9::M0::M1::M2::M3::M4::M5::M6::M7::M8::M9::N0::N1::N2::N3::N4::N5::N6::N7::N8::N9::O0::O1::O2::O3::O4::[]) w)) :
    audit_Audit_Say_A5 K (a0::who1::k_2::x3::a4::who5::k_6::x7::id8::A8::is10::q11::C1::is13::C3::C4::C5::C6::C7::C8::C9::D0::D1::D2::D3::D4::D5::D6::D7::D8::D9::E0::E1::E2::E3::E4::E5::E6::E7::E8::E9::F0::F1::F2::F3::F4::F5::F6::F7::F8::F9::G0::G1::G2::G3::G4::G5::G6::G7::G8::G9::H0::H1::H2::H3::H4::H5::H6::H7::H8::H9::I0::I1::I2::I3::I4::I5::I6::I7::I8::I9::J0::J1::J2::J3::J4::J5::J6::J7::J8::J9::L0::L1::L2::L3::L4::L5::L6::L7::L8::L9::M0::M1::M2::M3::M4::M5::M6::M7::M8::M9::N0::N1::N2::N3::N4::N5::N6::N7::N8::N9::O0::O1::O2::O3::O4::[]) w := by
  delta audit_Audit_Say_A5
  exact Eq.mp (congrArg (fun c => cCode Try.prog c (audit_Audit_Say_P1 K) (fun i => @Bool.rec (fun _ => KE) ((fun _ _ _ => False) i) (retK Try.prog Try.f8.results.toList K) (Nat.beq i 0)) (retK Try.prog Try.f8.results.toList K) (a0::who1::k_2::x3::a4::who5::k_6::x7::id8::A8::is10::q11::C1::is13::C3::C4::C5::C6::C7::C8::C9::D0::D1::D2::D3::D4::D5::D6::D7::D8::D9::E0::E1::E2::E3::E4::E5::E6::E7::E8::E9::F0::F1::F2::F3::F4::F5::F6::F7::F8::F9::G0::G1::G2::G3::G4::G5::G6::G7::G8::G9::H0::H1::H2::H3::H4::H5::H6::H7::H8::H9::I0::I1::I2::I3::I4::I5::I6::I7::I8::I9::J0::J1::J2::J3::J4::J5::J6::J7::J8::J9::L0::L1::L2::L3::L4::L5::L6::L7::L8::L9::M0::M1::M2::M3::M4::M5::M6::M7::M8::M9::N0::N1::N2::N3::N4::N5::N6::N7::N8::N9::O0::O1::O2::O3::O4::[]) w) (by kernel_rfl : (cd Try.f8 [1, 1, 1, 0, 1, 1, 1, 1, 1, 0, 1, 1, 1, 0, 1]) = (cd Try.f8 [1, 1, 1, 0, 1, 1, 1, 1, 1, 0, 1, 1, 1, 0, 1]))) (audit_Audit_Say_A5_k (audit_Audit_Say_P1 K) h)

theorem audit_Audit_Say_P1_k {K : KV} {w : World}
    (h : hReg (fun S w =>
    hld S (fun k w => nilC a0 k w) (fun N0 =>
    hld S (fun k w => fldA Try.prog 65 N0 2 k w) (fun N1 =>
    hld S (fun k w => ld Try.prog 62 N1 k w) (fun N2 =>
    hld S (fun k w => ld Try.prog 72 q11 k w) (fun N3 =>
    hld S (fun k w => ld Try.prog 74 C3 k w) (fun N4 =>
    mUpd Try.prog 62 N2 N3 N4 (fun _t w =>
    K (Value.tuple #[]) w) w)))))) w.drew) :
    cCode Try.prog (cd Try.f8 [1, 1, 1, 0, 1, 1, 1, 1, 1, 0, 1, 1, 1, 1]) (retK Try.prog Try.f8.results.toList K) (fun i => @Bool.rec (fun _ => KE) ((fun _ _ _ => False) i) (retK Try.prog Try.f8.results.toList K) (Nat.beq i 0)) (retK Try.prog Try.f8.results.toList K) (a0::who1::k_2::x3::a4::who5::k_6::x7::id8::A8::is10::q11::C1::is13::C3::C4::C5::C6::C7::C8::C9::D0::D1::D2::D3::D4::D5::D6::D7::D8::D9::E0::E1::E2::E3::E4::E5::E6::E7::E8::E9::F0::F1::F2::F3::F4::F5::F6::F7::F8::F9::G0::G1::G2::G3::G4::G5::G6::G7::G8::G9::H0::H1::H2::H3::H4::H5::H6::H7::H8::H9::I0::I1::I2::I3::I4::I5::I6::I7::I8::I9::J0::J1::J2::J3::J4::J5::J6::J7::J8::J9::L0::L1::L2::L3::L4::L5::L6::L7::L8::L9::M0::M1::M2::M3::M4::M5::M6::M7::M8::M9::N0::N1::N2::N3::N4::N5::N6::N7::N8::N9::O0::O1::O2::O3::O4::[]) w := Eq.mp (by kernel_rfl) h

theorem audit_Audit_Say_P1_r {K : KV} {w : World}
    (h : hReg (fun S w =>
    hld S (fun k w => nilC a0 k w) (fun N0 =>
    hld S (fun k w => fldA Try.prog 65 N0 2 k w) (fun N1 =>
    hld S (fun k w => ld Try.prog 62 N1 k w) (fun N2 =>
    hld S (fun k w => ld Try.prog 72 q11 k w) (fun N3 =>
    hld S (fun k w => ld Try.prog 74 C3 k w) (fun N4 =>
    mUpd Try.prog 62 N2 N3 N4 (fun _t w =>
    K (Value.tuple #[]) w) w)))))) w.drew) :
    audit_Audit_Say_P1 K (a0::who1::k_2::x3::a4::who5::k_6::x7::id8::A8::is10::q11::C1::is13::C3::C4::C5::C6::C7::C8::C9::D0::D1::D2::D3::D4::D5::D6::D7::D8::D9::E0::E1::E2::E3::E4::E5::E6::E7::E8::E9::F0::F1::F2::F3::F4::F5::F6::F7::F8::F9::G0::G1::G2::G3::G4::G5::G6::G7::G8::G9::H0::H1::H2::H3::H4::H5::H6::H7::H8::H9::I0::I1::I2::I3::I4::I5::I6::I7::I8::I9::J0::J1::J2::J3::J4::J5::J6::J7::J8::J9::L0::L1::L2::L3::L4::L5::L6::L7::L8::L9::M0::M1::M2::M3::M4::M5::M6::M7::M8::M9::N0::N1::N2::N3::N4::N5::N6::N7::N8::N9::O0::O1::O2::O3::O4::[]) w := by
  delta audit_Audit_Say_P1
  exact Eq.mp (congrArg (fun c => cCode Try.prog c (retK Try.prog Try.f8.results.toList K) (fun i => @Bool.rec (fun _ => KE) ((fun _ _ _ => False) i) (retK Try.prog Try.f8.results.toList K) (Nat.beq i 0)) (retK Try.prog Try.f8.results.toList K) (a0::who1::k_2::x3::a4::who5::k_6::x7::id8::A8::is10::q11::C1::is13::C3::C4::C5::C6::C7::C8::C9::D0::D1::D2::D3::D4::D5::D6::D7::D8::D9::E0::E1::E2::E3::E4::E5::E6::E7::E8::E9::F0::F1::F2::F3::F4::F5::F6::F7::F8::F9::G0::G1::G2::G3::G4::G5::G6::G7::G8::G9::H0::H1::H2::H3::H4::H5::H6::H7::H8::H9::I0::I1::I2::I3::I4::I5::I6::I7::I8::I9::J0::J1::J2::J3::J4::J5::J6::J7::J8::J9::L0::L1::L2::L3::L4::L5::L6::L7::L8::L9::M0::M1::M2::M3::M4::M5::M6::M7::M8::M9::N0::N1::N2::N3::N4::N5::N6::N7::N8::N9::O0::O1::O2::O3::O4::[]) w) (by kernel_rfl : (cd Try.f8 [1, 1, 1, 0, 1, 1, 1, 1, 1, 0, 1, 1, 1, 1]) = (cd Try.f8 [1, 1, 1, 0, 1, 1, 1, 1, 1, 0, 1, 1, 1, 1]))) (audit_Audit_Say_P1_k h)
attribute [irreducible] audit_Audit_Say_A1 audit_Audit_Say_A2 audit_Audit_Say_A3 audit_Audit_Say_A4 audit_Audit_Say_P1 audit_Audit_Say_A5

def audit_Audit_below_P1 (K : KV) : KE := cCode Try.prog (cd Try.f21 [1, 1]) (retK Try.prog Try.f21.results.toList K) (fun _ _ _ => False) (retK Try.prog Try.f21.results.toList K)
def audit_Audit_below_A1 (K : KV) : KE := cCode Try.prog (cd Try.f21 [1, 0, 1]) (audit_Audit_below_P1 K) (fun _ _ _ => False) (retK Try.prog Try.f21.results.toList K)
def audit_Audit_below_L1 (K : KV) : KE := cCode Try.prog (cd Try.f21 [1, 0, 1, 0]) (audit_Audit_below_P1 K) (fun i => @Bool.rec (fun _ => KE) ((fun _ _ _ => False) i) (audit_Audit_below_P1 K) (Nat.beq i 0)) (retK Try.prog Try.f21.results.toList K)
end
theorem audit_Audit_below_k {K : KV} (xc0 : Code) {a0 id1 of2 : Value} {w : World}
    (h : (cCode Try.prog xc0 (cCode Try.prog (cd Try.f21 [1, 1]) (retK Try.prog Try.f21.results.toList K) (fun _ _ _ => False) (retK Try.prog Try.f21.results.toList K)) (fun _ _ _ => False) (retK Try.prog Try.f21.results.toList K)) [a0, id1, of2, undef, undef, undef, (Value.bool false), undef, undef, (Value.int IntKind.i64 0), undef, undef, undef, undef, undef, undef, undef, undef, undef, undef, undef, undef, undef, undef, undef, undef, undef, undef, undef, undef, undef, undef, undef] w) :
    cCode Try.prog (rep [1, 0, 1] xc0 (cd Try.f21 [])) (retK Try.prog Try.f21.results.toList K) (fun _ _ _ => False) (retK Try.prog Try.f21.results.toList K) [a0, id1, of2, undef, undef, undef, undef, undef, undef, undef, undef, undef, undef, undef, undef, undef, undef, undef, undef, undef, undef, undef, undef, undef, undef, undef, undef, undef, undef, undef, undef, undef, undef] w := Eq.mp (by kernel_rfl) h

theorem audit_Audit_below_in {K : KV} {a0 id1 of2 : Value} {w : World}
    (h : (audit_Audit_below_A1 K) [a0, id1, of2, undef, undef, undef, (Value.bool false), undef, undef, (Value.int IntKind.i64 0), undef, undef, undef, undef, undef, undef, undef, undef, undef, undef, undef, undef, undef, undef, undef, undef, undef, undef, undef, undef, undef, undef, undef] w) :
    Gives Try.prog 21 #[a0, id1, of2] w K := enter' Try.func21 (by kernel_rfl) (Eq.mp (congrArg (fun c => cCode Try.prog c (retK Try.prog Try.f21.results.toList K) (fun _ _ _ => False) (retK Try.prog Try.f21.results.toList K) [a0, id1, of2, undef, undef, undef, undef, undef, undef, undef, undef, undef, undef, undef, undef, undef, undef, undef, undef, undef, undef, undef, undef, undef, undef, undef, undef, undef, undef, undef, undef, undef, undef] w) (by kernel_rfl : (rep [1, 0, 1] (cd Try.f21 [1, 0, 1]) (cd Try.f21 [])) = (cd Try.f21 []))) (audit_Audit_below_k (cd Try.f21 [1, 0, 1]) h))
theorem audit_Audit_below_go : isGo Try.prog 21 := ⟨_, Try.func21, by kernel_rfl, by kernel_rfl⟩

theorem audit_Audit_below_A1_k {K : KV} (qc0 : KE) {a0 id1 of2 a3 id4 of5 A5 n7 is8 A8 A9 C0 C1 C2 C3 C4 C5 C6 C7 C8 C9 D0 D1 D2 D3 D4 D5 D6 D7 D8 D9 E0 E1 : Value} {w : World}
    (h : (cCode Try.prog (cd Try.f21 [1, 0, 1, 0]) qc0 (fun i => @Bool.rec (fun _ => KE) ((fun _ _ _ => False) i) qc0 (Nat.beq i 0)) (retK Try.prog Try.f21.results.toList K)) [a0, id1, of2, a3, id4, of5, A5, n7, is8, A8, A9, C0, C1, C2, C3, C4, C5, C6, C7, C8, C9, D0, D1, D2, D3, D4, D5, D6, D7, D8, D9, E0, E1] w) :
    cCode Try.prog (cd Try.f21 [1, 0, 1]) qc0 (fun _ _ _ => False) (retK Try.prog Try.f21.results.toList K) [a0, id1, of2, a3, id4, of5, A5, n7, is8, A8, A9, C0, C1, C2, C3, C4, C5, C6, C7, C8, C9, D0, D1, D2, D3, D4, D5, D6, D7, D8, D9, E0, E1] w := Eq.mp (by kernel_rfl) h

theorem audit_Audit_below_A1_r {K : KV} {a0 id1 of2 a3 id4 of5 A5 n7 is8 A8 A9 C0 C1 C2 C3 C4 C5 C6 C7 C8 C9 D0 D1 D2 D3 D4 D5 D6 D7 D8 D9 E0 E1 : Value} {w : World}
    (h : (audit_Audit_below_L1 K) [a0, id1, of2, a3, id4, of5, A5, n7, is8, A8, A9, C0, C1, C2, C3, C4, C5, C6, C7, C8, C9, D0, D1, D2, D3, D4, D5, D6, D7, D8, D9, E0, E1] w) :
    audit_Audit_below_A1 K [a0, id1, of2, a3, id4, of5, A5, n7, is8, A8, A9, C0, C1, C2, C3, C4, C5, C6, C7, C8, C9, D0, D1, D2, D3, D4, D5, D6, D7, D8, D9, E0, E1] w := by
  delta audit_Audit_below_A1
  exact Eq.mp (congrArg (fun c => cCode Try.prog c (audit_Audit_below_P1 K) (fun _ _ _ => False) (retK Try.prog Try.f21.results.toList K) [a0, id1, of2, a3, id4, of5, A5, n7, is8, A8, A9, C0, C1, C2, C3, C4, C5, C6, C7, C8, C9, D0, D1, D2, D3, D4, D5, D6, D7, D8, D9, E0, E1] w) (by kernel_rfl : (cd Try.f21 [1, 0, 1]) = (cd Try.f21 [1, 0, 1]))) (audit_Audit_below_A1_k (audit_Audit_below_P1 K) h)

theorem audit_Audit_below_L1_k {K : KV} (B1 : KE) (qc0 : KE) {a0 id1' of2 a3 id4 of5 A5 A8' D3' D4' D9 E0 E1 : Value} {dd : Nat → Value} {w : World}
    (h : bin Try.prog BinOp.lss 3 false true A8' (Value.int IntKind.i64 32) (fun A9 w =>
    cond A9
      (nilC a0 (fun C2 w =>
    fldA Try.prog 65 C2 0 (fun C3 w =>
    ld Try.prog 60 C3 (fun C4 w =>
    lkp Try.prog 60 C4 id1' true (fun C6 w =>
    ext Try.prog C6 0 (fun C7 w =>
    ext Try.prog C6 1 (fun C8 w =>
    alc Try.prog 68 (fun n7 w =>
    sto Try.prog 68 n7 C7 (fun _t w =>
    bin Try.prog BinOp.eql 33 false false id1' of2 (fun D1 w =>
    gsel D1 false (fun k24 =>
    un Try.prog UnOp.not C8 (fun D4 w =>
    k24 [C8, D4] w) w)
    (fun k => k [undef, undef] w) (fun us24 w =>
    pick D1 (Value.bool true) (gd us24 1) (fun D5 w =>
    cond D5
      (qc0 [a0, id1', of2, a3, id4, of5, A5, n7, C8, A8', A9, C6, a0, C2, C3, C4, id1', C6, C7, C8, id1', of2, D1, D1, (gd us24 0), (gd us24 1), D5, (dd 27), (dd 28), (dd 29), D9, E0, E1] w)
      (fldA Try.prog 68 n7 0 (fun D6 w =>
    ld Try.prog 33 D6 (fun D7 w =>
    bin Try.prog BinOp.add 3 false true A8' (Value.int IntKind.i64 1) (fun D8 w =>
    B1 [a0, D7, of2, a3, id4, of5, A5, n7, C8, D8, A9, C6, a0, C2, C3, C4, id1', C6, C7, C8, id1', of2, D1, D1, (gd us24 0), (gd us24 1), D5, D6, D7, D8, D9, E0, E1] w) w) w) w)) w)) w) w) w) w) w) w) w) w) w)
      (qc0 [a0, id1', of2, a3, id4, of5, A5, (dd 7), (dd 8), A8', A9, (dd 11), (dd 12), (dd 13), (dd 14), (dd 15), (dd 16), (dd 17), (dd 18), (dd 19), (dd 20), (dd 21), (dd 22), (dd 23), D3', D4', (dd 26), (dd 27), (dd 28), (dd 29), D9, E0, E1] w)) w) :
    cCode Try.prog (cd Try.f21 [1, 0, 1, 0, 0]) B1 (fun i => @Bool.rec (fun _ => KE) ((fun _ _ _ => False) i) qc0 (Nat.beq i 0)) (retK Try.prog Try.f21.results.toList K) [a0, id1', of2, a3, id4, of5, A5, (dd 7), (dd 8), A8', (dd 10), (dd 11), (dd 12), (dd 13), (dd 14), (dd 15), (dd 16), (dd 17), (dd 18), (dd 19), (dd 20), (dd 21), (dd 22), (dd 23), D3', D4', (dd 26), (dd 27), (dd 28), (dd 29), D9, E0, E1] w := Eq.mp (by kernel_rfl) h

theorem audit_Audit_below_L1_r {K : KV} {a0 id1 of2 a3 id4 of5 A5 n7 is8 A8 A9 C0 C1 C2 C3 C4 C5 C6 C7 C8 C9 D0 D1 D2 D3 D4 D5 D6 D7 D8 D9 E0 E1 : Value} {w : World} (Inv : Value → Value → Value → Value → World → Prop) (μ : Value → Value → Value → Value → World → Nat) (h0 : Inv id1 A8 D3 D4 w)
    (hs : ∀ (id1' A8' D3' D4' : Value) (dd : Nat → Value) (w : World) (m : Nat), Inv id1' A8' D3' D4' w → m = μ id1' A8' D3' D4' w →
    bin Try.prog BinOp.lss 3 false true A8' (Value.int IntKind.i64 32) (fun A9 w =>
    cond A9
      (nilC a0 (fun C2 w =>
    fldA Try.prog 65 C2 0 (fun C3 w =>
    ld Try.prog 60 C3 (fun C4 w =>
    lkp Try.prog 60 C4 id1' true (fun C6 w =>
    ext Try.prog C6 0 (fun C7 w =>
    ext Try.prog C6 1 (fun C8 w =>
    alc Try.prog 68 (fun n7 w =>
    sto Try.prog 68 n7 C7 (fun _t w =>
    bin Try.prog BinOp.eql 33 false false id1' of2 (fun D1 w =>
    gsel D1 false (fun k24 =>
    un Try.prog UnOp.not C8 (fun D4 w =>
    k24 [C8, D4] w) w)
    (fun k => k [undef, undef] w) (fun us24 w =>
    pick D1 (Value.bool true) (gd us24 1) (fun D5 w =>
    cond D5
      ((audit_Audit_below_P1 K) [a0, id1', of2, a3, id4, of5, A5, n7, C8, A8', A9, C6, a0, C2, C3, C4, id1', C6, C7, C8, id1', of2, D1, D1, (gd us24 0), (gd us24 1), D5, (dd 27), (dd 28), (dd 29), D9, E0, E1] w)
      (fldA Try.prog 68 n7 0 (fun D6 w =>
    ld Try.prog 33 D6 (fun D7 w =>
    bin Try.prog BinOp.add 3 false true A8' (Value.int IntKind.i64 1) (fun D8 w =>
    (Inv D7 D8 (gd us24 0) (gd us24 1) w ∧ μ D7 D8 (gd us24 0) (gd us24 1) w < m)) w) w) w)) w)) w) w) w) w) w) w) w) w) w)
      ((audit_Audit_below_P1 K) [a0, id1', of2, a3, id4, of5, A5, (dd 7), (dd 8), A8', A9, (dd 11), (dd 12), (dd 13), (dd 14), (dd 15), (dd 16), (dd 17), (dd 18), (dd 19), (dd 20), (dd 21), (dd 22), (dd 23), D3', D4', (dd 26), (dd 27), (dd 28), (dd 29), D9, E0, E1] w)) w) :
    audit_Audit_below_L1 K [a0, id1, of2, a3, id4, of5, A5, n7, is8, A8, A9, C0, C1, C2, C3, C4, C5, C6, C7, C8, C9, D0, D1, D2, D3, D4, D5, D6, D7, D8, D9, E0, E1] w := by
  refine loop_rule (cd Try.f21 [1, 0, 1, 0, 0]) [1, 7, 8, 9, 10, 11, 12, 13, 14, 15, 16, 17, 18, 19, 20, 21, 22, 23, 24, 25, 26, 27, 28, 29] (by kernel_rfl) (fun e2 w2 => Inv (gd e2 1) (gd e2 9) (gd e2 24) (gd e2 25) w2) (fun e2 w2 => μ (gd e2 1) (gd e2 9) (gd e2 24) (gd e2 25) w2) h0 ?_
  intro e' w' hI
  have h := hs (gd e' 1) (gd e' 9) (gd e' 24) (gd e' 25) (fun i => gd e' i) w' _ hI rfl
  have h2 : cCode Try.prog (cd Try.f21 [1, 0, 1, 0, 0]) (fun e2 w2 => Inv (gd e2 1) (gd e2 9) (gd e2 24) (gd e2 25) w2 ∧ μ (gd e2 1) (gd e2 9) (gd e2 24) (gd e2 25) w2 < μ (gd e' 1) (gd e' 9) (gd e' 24) (gd e' 25) w') (fun i => @Bool.rec (fun _ => KE) ((fun _ _ _ => False) i) (audit_Audit_below_P1 K) (Nat.beq i 0)) (retK Try.prog Try.f21.results.toList K) [a0, (gd e' 1), of2, a3, id4, of5, A5, (gd e' 7), (gd e' 8), (gd e' 9), (gd e' 10), (gd e' 11), (gd e' 12), (gd e' 13), (gd e' 14), (gd e' 15), (gd e' 16), (gd e' 17), (gd e' 18), (gd e' 19), (gd e' 20), (gd e' 21), (gd e' 22), (gd e' 23), (gd e' 24), (gd e' 25), (gd e' 26), (gd e' 27), (gd e' 28), (gd e' 29), D9, E0, E1] w' := audit_Audit_below_L1_k (fun e2 w2 => Inv (gd e2 1) (gd e2 9) (gd e2 24) (gd e2 25) w2 ∧ μ (gd e2 1) (gd e2 9) (gd e2 24) (gd e2 25) w2 < μ (gd e' 1) (gd e' 9) (gd e' 24) (gd e' 25) w') (audit_Audit_below_P1 K) (Eq.mp (by kernel_rfl) h)
  exact Eq.mp (by kernel_rfl) h2

theorem audit_Audit_below_P1_k {K : KV} {a0 id1 of2 a3 id4 of5 A5 n7 is8 A8 A9 C0 C1 C2 C3 C4 C5 C6 C7 C8 C9 D0 D1 D2 D3 D4 D5 D6 D7 D8 D9 E0 E1 : Value} {w : World}
    (h : bin Try.prog BinOp.eql 33 false false id1 of2 (fun E1 w =>
    K E1 w) w) :
    cCode Try.prog (cd Try.f21 [1, 1]) (retK Try.prog Try.f21.results.toList K) (fun _ _ _ => False) (retK Try.prog Try.f21.results.toList K) [a0, id1, of2, a3, id4, of5, A5, n7, is8, A8, A9, C0, C1, C2, C3, C4, C5, C6, C7, C8, C9, D0, D1, D2, D3, D4, D5, D6, D7, D8, D9, E0, E1] w := Eq.mp (by kernel_rfl) h

theorem audit_Audit_below_P1_r {K : KV} {a0 id1 of2 a3 id4 of5 A5 n7 is8 A8 A9 C0 C1 C2 C3 C4 C5 C6 C7 C8 C9 D0 D1 D2 D3 D4 D5 D6 D7 D8 D9 E0 E1 : Value} {w : World}
    (h : bin Try.prog BinOp.eql 33 false false id1 of2 (fun E1 w =>
    K E1 w) w) :
    audit_Audit_below_P1 K [a0, id1, of2, a3, id4, of5, A5, n7, is8, A8, A9, C0, C1, C2, C3, C4, C5, C6, C7, C8, C9, D0, D1, D2, D3, D4, D5, D6, D7, D8, D9, E0, E1] w := by
  delta audit_Audit_below_P1
  exact Eq.mp (congrArg (fun c => cCode Try.prog c (retK Try.prog Try.f21.results.toList K) (fun _ _ _ => False) (retK Try.prog Try.f21.results.toList K) [a0, id1, of2, a3, id4, of5, A5, n7, is8, A8, A9, C0, C1, C2, C3, C4, C5, C6, C7, C8, C9, D0, D1, D2, D3, D4, D5, D6, D7, D8, D9, E0, E1] w) (by kernel_rfl : (cd Try.f21 [1, 1]) = (cd Try.f21 [1, 1]))) (audit_Audit_below_P1_k h)
attribute [irreducible] audit_Audit_below_P1 audit_Audit_below_A1 audit_Audit_below_L1

def audit_Audit_Sums_P1 (K : KV) : KE := cCode Try.prog (cd Try.f10 [1, 1, 1, 1, 1]) (retK Try.prog Try.f10.results.toList K) (fun _ _ _ => False) (retK Try.prog Try.f10.results.toList K)
def audit_Audit_Sums_L1 (K : KV) : KE := cCode Try.prog (cd Try.f10 [1, 1, 1, 1, 0, 1, 0]) (audit_Audit_Sums_P1 K) (fun i => @Bool.rec (fun _ => KE) ((fun _ _ _ => False) i) (audit_Audit_Sums_P1 K) (Nat.beq i 0)) (retK Try.prog Try.f10.results.toList K)
theorem audit_Audit_Sums_k {K : KV} {a0 id1 : Value} {w : World}
    (h : bin Try.prog BinOp.eql 24 false true a0 (Value.pointer none) (fun C1 w =>
    cond C1
      (K (Value.tuple #[(Value.int IntKind.i64 0), (Value.int IntKind.i64 0), (Value.int IntKind.i64 2)]) w)
      (nilC a0 (fun C4 w =>
    fldA Try.prog 65 C4 0 (fun C5 w =>
    ld Try.prog 60 C5 (fun C6 w =>
    lkp Try.prog 60 C6 id1 true (fun C8 w =>
    ext Try.prog C8 0 (fun C9 w =>
    ext Try.prog C8 1 (fun D0 w =>
    alc Try.prog 68 (fun n7 w =>
    sto Try.prog 68 n7 C9 (fun _t w =>
    un Try.prog UnOp.not D0 (fun D2 w =>
    cond D2
      (K (Value.tuple #[(Value.int IntKind.i64 0), (Value.int IntKind.i64 0), (Value.int IntKind.i64 9)]) w)
      (nilC a0 (fun D4 w =>
    fldA Try.prog 65 D4 2 (fun D5 w =>
    ld Try.prog 62 D5 (fun D6 w =>
    rng Try.prog 62 D6 (fun D7 w =>
    (cCode Try.prog (cd Try.f10 [1, 1, 1, 1, 0, 1, 0]) (cCode Try.prog (cd Try.f10 [1, 1, 1, 1, 1]) (retK Try.prog Try.f10.results.toList K) (fun _ _ _ => False) (retK Try.prog Try.f10.results.toList K)) (fun i => @Bool.rec (fun _ => KE) ((fun _ _ _ => False) i) (cCode Try.prog (cd Try.f10 [1, 1, 1, 1, 1]) (retK Try.prog Try.f10.results.toList K) (fun _ _ _ => False) (retK Try.prog Try.f10.results.toList K)) (Nat.beq i 0)) (retK Try.prog Try.f10.results.toList K)) (a0::id1::undef::undef::(Value.int IntKind.i64 0)::(Value.int IntKind.i64 0)::(Value.int IntKind.i64 0)::n7::D0::undef::undef::a0::C1::C8::a0::C4::C5::C6::id1::C8::C9::D0::D0::D2::a0::D4::D5::D6::D7::undef::undef::undef::undef::undef::undef::undef::undef::undef::undef::undef::undef::undef::undef::undef::undef::undef::undef::undef::undef::undef::undef::undef::undef::undef::undef::undef::undef::undef::undef::undef::undef::undef::[]) w) w) w) w) w)) w) w) w) w) w) w) w) w) w)) w) :
    cCode Try.prog (cd Try.f10 []) (retK Try.prog Try.f10.results.toList K) (fun _ _ _ => False) (retK Try.prog Try.f10.results.toList K) (a0::id1::undef::undef::undef::undef::undef::undef::undef::undef::undef::undef::undef::undef::undef::undef::undef::undef::undef::undef::undef::undef::undef::undef::undef::undef::undef::undef::undef::undef::undef::undef::undef::undef::undef::undef::undef::undef::undef::undef::undef::undef::undef::undef::undef::undef::undef::undef::undef::undef::undef::undef::undef::undef::undef::undef::undef::undef::undef::undef::undef::undef::[]) w := Eq.mp (by kernel_rfl) h

theorem audit_Audit_Sums_in {K : KV} {a0 id1 : Value} {w : World}
    (h : bin Try.prog BinOp.eql 24 false true a0 (Value.pointer none) (fun C1 w =>
    cond C1
      (K (Value.tuple #[(Value.int IntKind.i64 0), (Value.int IntKind.i64 0), (Value.int IntKind.i64 2)]) w)
      (nilC a0 (fun C4 w =>
    fldA Try.prog 65 C4 0 (fun C5 w =>
    ld Try.prog 60 C5 (fun C6 w =>
    lkp Try.prog 60 C6 id1 true (fun C8 w =>
    ext Try.prog C8 0 (fun C9 w =>
    ext Try.prog C8 1 (fun D0 w =>
    alc Try.prog 68 (fun n7 w =>
    sto Try.prog 68 n7 C9 (fun _t w =>
    un Try.prog UnOp.not D0 (fun D2 w =>
    cond D2
      (K (Value.tuple #[(Value.int IntKind.i64 0), (Value.int IntKind.i64 0), (Value.int IntKind.i64 9)]) w)
      (nilC a0 (fun D4 w =>
    fldA Try.prog 65 D4 2 (fun D5 w =>
    ld Try.prog 62 D5 (fun D6 w =>
    rng Try.prog 62 D6 (fun D7 w =>
    (audit_Audit_Sums_L1 K) (a0::id1::undef::undef::(Value.int IntKind.i64 0)::(Value.int IntKind.i64 0)::(Value.int IntKind.i64 0)::n7::D0::undef::undef::a0::C1::C8::a0::C4::C5::C6::id1::C8::C9::D0::D0::D2::a0::D4::D5::D6::D7::undef::undef::undef::undef::undef::undef::undef::undef::undef::undef::undef::undef::undef::undef::undef::undef::undef::undef::undef::undef::undef::undef::undef::undef::undef::undef::undef::undef::undef::undef::undef::undef::undef::[]) w) w) w) w) w)) w) w) w) w) w) w) w) w) w)) w) :
    Gives Try.prog 10 #[a0, id1] w K := enter' Try.func10 (by kernel_rfl) (Eq.mp (congrArg (fun c => cCode Try.prog c (retK Try.prog Try.f10.results.toList K) (fun _ _ _ => False) (retK Try.prog Try.f10.results.toList K) (a0::id1::undef::undef::undef::undef::undef::undef::undef::undef::undef::undef::undef::undef::undef::undef::undef::undef::undef::undef::undef::undef::undef::undef::undef::undef::undef::undef::undef::undef::undef::undef::undef::undef::undef::undef::undef::undef::undef::undef::undef::undef::undef::undef::undef::undef::undef::undef::undef::undef::undef::undef::undef::undef::undef::undef::undef::undef::undef::undef::undef::undef::[]) w) (by kernel_rfl : (cd Try.f10 []) = (cd Try.f10 []))) (audit_Audit_Sums_k h))
theorem audit_Audit_Sums_go : isGo Try.prog 10 := ⟨_, Try.func10, by kernel_rfl, by kernel_rfl⟩

theorem audit_Audit_Sums_L1_k {K : KV} (B1 : KE) (qc0 : KE) {a0 id1 a2 id3 limit4 used5' e6 n7 is8 C0 C1 C2 C3 C4 C5 C6 C7 C8 C9 D0 D1 D2 D3 D4 D5 D6 D7 F1' F2' F3' F4' F5' G1 G2 G3 G4 G5 G6 G7 G8 G9 H0 : Value} {dd : Nat → Value} {w : World}
    (h : nxt Try.prog D7 false 0 (fun D8 w =>
    ext Try.prog D8 0 (fun D9 w =>
    cond D9
      (ent Try.prog D7 (fun E0 w =>
    ext Try.prog E0 0 (fun E1 w =>
    ext Try.prog E0 1 (fun E2 w =>
    alc Try.prog 72 (fun q9 w =>
    alc Try.prog 74 (fun A9 w =>
    sto Try.prog 72 q9 E1 (fun _t w =>
    sto Try.prog 74 A9 E2 (fun _t w =>
    hReg (fun S w =>
    hld S (fun k w => nilC a0 k w) (fun E4 =>
    hld S (fun k w => fldA Try.prog 65 E4 3 k w) (fun E5 =>
    hld S (fun k w => ld Try.prog 63 E5 k w) (fun E6 =>
    hld S (fun k w => ld Try.prog 72 q9 k w) (fun E7 =>
    hld S (fun k w => lkp Try.prog 63 E6 E7 false k w) (fun E8 =>
    hld S (fun k w => un Try.prog UnOp.not E8 k w) (fun E9 =>
    hG E9 true S (fun k w => k a0 w) (fun F1 =>
    hG E9 true S (fun k w => fldA Try.prog 74 A9 0 k w) (fun F2 =>
    hG E9 true S (fun k w => ld Try.prog 33 F2 k w) (fun F3 =>
    hG E9 true S (fun k w => k id1 w) (fun F4 =>
    xG E9 true (fun k w => call Try.prog 21 #[F1, F3, F4] k w) (fun F5 w =>
    hReg (fun S w =>
    hld S (fun k w => pick E9 F5 (Value.bool false) k w) (fun F6 =>
    cond F6
      (fldA Try.prog 74 A9 1 (fun F8 w =>
      ld Try.prog 2 F8 (fun F9 w =>
      bin Try.prog BinOp.add 2 false false used5' F9 (fun G0 w =>
      B1 (a0::id1::a2::id3::limit4::G0::e6::n7::is8::q9::A9::C0::C1::C2::C3::C4::C5::C6::C7::C8::C9::D0::D1::D2::D3::D4::D5::D6::D7::D8::D9::E0::E1::E2::a0::E4::E5::E6::E7::E8::E9::E9::F1::F2::F3::F4::F5::F6::used5'::F8::F9::G0::G1::G2::G3::G4::G5::G6::G7::G8::G9::H0::[]) w) w) w) w)
      (B1 (a0::id1::a2::id3::limit4::used5'::e6::n7::is8::q9::A9::C0::C1::C2::C3::C4::C5::C6::C7::C8::C9::D0::D1::D2::D3::D4::D5::D6::D7::D8::D9::E0::E1::E2::a0::E4::E5::E6::E7::E8::E9::E9::F1::F2::F3::F4::F5::F6::(dd 48)::(dd 49)::(dd 50)::(dd 51)::G1::G2::G3::G4::G5::G6::G7::G8::G9::H0::[]) w))) w) w))))))))))) w.drew) w) w) w) w) w) w) w)
      (qc0 (a0::id1::a2::id3::limit4::used5'::e6::n7::is8::(dd 9)::(dd 10)::C0::C1::C2::C3::C4::C5::C6::C7::C8::C9::D0::D1::D2::D3::D4::D5::D6::D7::D8::D9::(dd 31)::(dd 32)::(dd 33)::(dd 34)::(dd 35)::(dd 36)::(dd 37)::(dd 38)::(dd 39)::(dd 40)::(dd 41)::F1'::F2'::F3'::F4'::F5'::(dd 47)::(dd 48)::(dd 49)::(dd 50)::(dd 51)::G1::G2::G3::G4::G5::G6::G7::G8::G9::H0::[]) w)) w) w) :
    cCode Try.prog (cd Try.f10 [1, 1, 1, 1, 0, 1, 0, 0]) B1 (fun i => @Bool.rec (fun _ => KE) ((fun _ _ _ => False) i) qc0 (Nat.beq i 0)) (retK Try.prog Try.f10.results.toList K) (a0::id1::a2::id3::limit4::used5'::e6::n7::is8::(dd 9)::(dd 10)::C0::C1::C2::C3::C4::C5::C6::C7::C8::C9::D0::D1::D2::D3::D4::D5::D6::D7::(dd 29)::(dd 30)::(dd 31)::(dd 32)::(dd 33)::(dd 34)::(dd 35)::(dd 36)::(dd 37)::(dd 38)::(dd 39)::(dd 40)::(dd 41)::F1'::F2'::F3'::F4'::F5'::(dd 47)::(dd 48)::(dd 49)::(dd 50)::(dd 51)::G1::G2::G3::G4::G5::G6::G7::G8::G9::H0::[]) w := Eq.mp (by kernel_rfl) h

section
variable {a0 id1 a2 id3 limit4 used5 e6 n7 is8 q9 A9 C0 C1 C2 C3 C4 C5 C6 C7 C8 C9 D0 D1 D2 D3 D4 D5 D6 D7 D8 D9 E0 E1 E2 E3 E4 E5 E6 E7 E8 E9 F0 F1 F2 F3 F4 F5 F6 F7 F8 F9 G0 G1 G2 G3 G4 G5 G6 G7 G8 G9 H0 : Value}
theorem audit_Audit_Sums_L1_r {K : KV} {w : World} (Inv : Value → Value → Value → Value → Value → Value → World → Prop) (μ : Value → Value → Value → Value → Value → Value → World → Nat) (h0 : Inv used5 F1 F2 F3 F4 F5 w)
    (hs : ∀ (used5' F1' F2' F3' F4' F5' : Value) (dd : Nat → Value) (w : World) (m : Nat), Inv used5' F1' F2' F3' F4' F5' w → m = μ used5' F1' F2' F3' F4' F5' w →
    nxt Try.prog D7 false 0 (fun D8 w =>
    ext Try.prog D8 0 (fun D9 w =>
    cond D9
      (ent Try.prog D7 (fun E0 w =>
    ext Try.prog E0 0 (fun E1 w =>
    ext Try.prog E0 1 (fun E2 w =>
    alc Try.prog 72 (fun q9 w =>
    alc Try.prog 74 (fun A9 w =>
    sto Try.prog 72 q9 E1 (fun _t w =>
    sto Try.prog 74 A9 E2 (fun _t w =>
    hReg (fun S w =>
    hld S (fun k w => nilC a0 k w) (fun E4 =>
    hld S (fun k w => fldA Try.prog 65 E4 3 k w) (fun E5 =>
    hld S (fun k w => ld Try.prog 63 E5 k w) (fun E6 =>
    hld S (fun k w => ld Try.prog 72 q9 k w) (fun E7 =>
    hld S (fun k w => lkp Try.prog 63 E6 E7 false k w) (fun E8 =>
    hld S (fun k w => un Try.prog UnOp.not E8 k w) (fun E9 =>
    hG E9 true S (fun k w => k a0 w) (fun F1 =>
    hG E9 true S (fun k w => fldA Try.prog 74 A9 0 k w) (fun F2 =>
    hG E9 true S (fun k w => ld Try.prog 33 F2 k w) (fun F3 =>
    hG E9 true S (fun k w => k id1 w) (fun F4 =>
    xG E9 true (fun k w => call Try.prog 21 #[F1, F3, F4] k w) (fun F5 w =>
    hReg (fun S w =>
    hld S (fun k w => pick E9 F5 (Value.bool false) k w) (fun F6 =>
    cond F6
      (fldA Try.prog 74 A9 1 (fun F8 w =>
      ld Try.prog 2 F8 (fun F9 w =>
      bin Try.prog BinOp.add 2 false false used5' F9 (fun G0 w =>
      (Inv G0 F1 F2 F3 F4 F5 w ∧ μ G0 F1 F2 F3 F4 F5 w < m)) w) w) w)
      ((Inv used5' F1 F2 F3 F4 F5 w ∧ μ used5' F1 F2 F3 F4 F5 w < m)))) w) w))))))))))) w.drew) w) w) w) w) w) w) w)
      ((audit_Audit_Sums_P1 K) (a0::id1::a2::id3::limit4::used5'::e6::n7::is8::(dd 9)::(dd 10)::C0::C1::C2::C3::C4::C5::C6::C7::C8::C9::D0::D1::D2::D3::D4::D5::D6::D7::D8::D9::(dd 31)::(dd 32)::(dd 33)::(dd 34)::(dd 35)::(dd 36)::(dd 37)::(dd 38)::(dd 39)::(dd 40)::(dd 41)::F1'::F2'::F3'::F4'::F5'::(dd 47)::(dd 48)::(dd 49)::(dd 50)::(dd 51)::G1::G2::G3::G4::G5::G6::G7::G8::G9::H0::[]) w)) w) w) :
    audit_Audit_Sums_L1 K (a0::id1::a2::id3::limit4::used5::e6::n7::is8::q9::A9::C0::C1::C2::C3::C4::C5::C6::C7::C8::C9::D0::D1::D2::D3::D4::D5::D6::D7::D8::D9::E0::E1::E2::E3::E4::E5::E6::E7::E8::E9::F0::F1::F2::F3::F4::F5::F6::F7::F8::F9::G0::G1::G2::G3::G4::G5::G6::G7::G8::G9::H0::[]) w := by
  refine loop_rule (cd Try.f10 [1, 1, 1, 1, 0, 1, 0, 0]) [5, 9, 10, 29, 30, 31, 32, 33, 34, 35, 36, 37, 38, 39, 40, 41, 42, 43, 44, 45, 46, 47, 48, 49, 50, 51] (by kernel_rfl) (fun e2 w2 => Inv (gd e2 5) (gd e2 42) (gd e2 43) (gd e2 44) (gd e2 45) (gd e2 46) w2) (fun e2 w2 => μ (gd e2 5) (gd e2 42) (gd e2 43) (gd e2 44) (gd e2 45) (gd e2 46) w2) h0 ?_
  intro e' w' hI
  have h := hs (gd e' 5) (gd e' 42) (gd e' 43) (gd e' 44) (gd e' 45) (gd e' 46) (fun i => gd e' i) w' _ hI rfl
  have h2 : cCode Try.prog (cd Try.f10 [1, 1, 1, 1, 0, 1, 0, 0]) (fun e2 w2 => Inv (gd e2 5) (gd e2 42) (gd e2 43) (gd e2 44) (gd e2 45) (gd e2 46) w2 ∧ μ (gd e2 5) (gd e2 42) (gd e2 43) (gd e2 44) (gd e2 45) (gd e2 46) w2 < μ (gd e' 5) (gd e' 42) (gd e' 43) (gd e' 44) (gd e' 45) (gd e' 46) w') (fun i => @Bool.rec (fun _ => KE) ((fun _ _ _ => False) i) (audit_Audit_Sums_P1 K) (Nat.beq i 0)) (retK Try.prog Try.f10.results.toList K) (a0::id1::a2::id3::limit4::(gd e' 5)::e6::n7::is8::(gd e' 9)::(gd e' 10)::C0::C1::C2::C3::C4::C5::C6::C7::C8::C9::D0::D1::D2::D3::D4::D5::D6::D7::(gd e' 29)::(gd e' 30)::(gd e' 31)::(gd e' 32)::(gd e' 33)::(gd e' 34)::(gd e' 35)::(gd e' 36)::(gd e' 37)::(gd e' 38)::(gd e' 39)::(gd e' 40)::(gd e' 41)::(gd e' 42)::(gd e' 43)::(gd e' 44)::(gd e' 45)::(gd e' 46)::(gd e' 47)::(gd e' 48)::(gd e' 49)::(gd e' 50)::(gd e' 51)::G1::G2::G3::G4::G5::G6::G7::G8::G9::H0::[]) w' := audit_Audit_Sums_L1_k (fun e2 w2 => Inv (gd e2 5) (gd e2 42) (gd e2 43) (gd e2 44) (gd e2 45) (gd e2 46) w2 ∧ μ (gd e2 5) (gd e2 42) (gd e2 43) (gd e2 44) (gd e2 45) (gd e2 46) w2 < μ (gd e' 5) (gd e' 42) (gd e' 43) (gd e' 44) (gd e' 45) (gd e' 46) w') (audit_Audit_Sums_P1 K) (Eq.mp (by kernel_rfl) h)
  exact Eq.mp (by kernel_rfl) h2

theorem audit_Audit_Sums_P1_k {K : KV} {w : World}
    (h : (fun w =>
    sti (fun k w => fldA Try.prog 68 n7 1 k w) (fun G1 w =>
    sti (fun k w => ld Try.prog 2 G1 k w) (fun G2 w =>
    sti (fun k w => nilC a0 k w) (fun G4 w =>
    sti (fun k w => fldA Try.prog 65 G4 1 k w) (fun G5 w =>
    sti (fun k w => ld Try.prog 61 G5 k w) (fun G6 w =>
    sti (fun k w => lkp Try.prog 61 G6 id1 false k w) (fun G8 w =>
    sti (fun k w => bin Try.prog BinOp.add 2 false false G2 G8 k w) (fun G9 w =>
    K (Value.tuple #[G9, used5, (Value.int IntKind.i64 0)]) w) w) w) w) w) w) w) w) w.drew) :
    cCode Try.prog (cd Try.f10 [1, 1, 1, 1, 1]) (retK Try.prog Try.f10.results.toList K) (fun _ _ _ => False) (retK Try.prog Try.f10.results.toList K) (a0::id1::a2::id3::limit4::used5::e6::n7::is8::q9::A9::C0::C1::C2::C3::C4::C5::C6::C7::C8::C9::D0::D1::D2::D3::D4::D5::D6::D7::D8::D9::E0::E1::E2::E3::E4::E5::E6::E7::E8::E9::F0::F1::F2::F3::F4::F5::F6::F7::F8::F9::G0::G1::G2::G3::G4::G5::G6::G7::G8::G9::H0::[]) w := Eq.mp (by kernel_rfl) h

theorem audit_Audit_Sums_P1_r {K : KV} {w : World}
    (h : (fun w =>
    sti (fun k w => fldA Try.prog 68 n7 1 k w) (fun G1 w =>
    sti (fun k w => ld Try.prog 2 G1 k w) (fun G2 w =>
    sti (fun k w => nilC a0 k w) (fun G4 w =>
    sti (fun k w => fldA Try.prog 65 G4 1 k w) (fun G5 w =>
    sti (fun k w => ld Try.prog 61 G5 k w) (fun G6 w =>
    sti (fun k w => lkp Try.prog 61 G6 id1 false k w) (fun G8 w =>
    sti (fun k w => bin Try.prog BinOp.add 2 false false G2 G8 k w) (fun G9 w =>
    K (Value.tuple #[G9, used5, (Value.int IntKind.i64 0)]) w) w) w) w) w) w) w) w) w.drew) :
    audit_Audit_Sums_P1 K (a0::id1::a2::id3::limit4::used5::e6::n7::is8::q9::A9::C0::C1::C2::C3::C4::C5::C6::C7::C8::C9::D0::D1::D2::D3::D4::D5::D6::D7::D8::D9::E0::E1::E2::E3::E4::E5::E6::E7::E8::E9::F0::F1::F2::F3::F4::F5::F6::F7::F8::F9::G0::G1::G2::G3::G4::G5::G6::G7::G8::G9::H0::[]) w := by
  delta audit_Audit_Sums_P1
  exact Eq.mp (congrArg (fun c => cCode Try.prog c (retK Try.prog Try.f10.results.toList K) (fun _ _ _ => False) (retK Try.prog Try.f10.results.toList K) (a0::id1::a2::id3::limit4::used5::e6::n7::is8::q9::A9::C0::C1::C2::C3::C4::C5::C6::C7::C8::C9::D0::D1::D2::D3::D4::D5::D6::D7::D8::D9::E0::E1::E2::E3::E4::E5::E6::E7::E8::E9::F0::F1::F2::F3::F4::F5::F6::F7::F8::F9::G0::G1::G2::G3::G4::G5::G6::G7::G8::G9::H0::[]) w) (by kernel_rfl : (cd Try.f10 [1, 1, 1, 1, 1]) = (cd Try.f10 [1, 1, 1, 1, 1]))) (audit_Audit_Sums_P1_k h)
attribute [irreducible] audit_Audit_Sums_P1 audit_Audit_Sums_L1

def audit_Audit_Nodes_P1 (K : KV) : KE := cCode Try.prog (cd Try.f15 [1, 1, 1]) (retK Try.prog Try.f15.results.toList K) (fun _ _ _ => False) (retK Try.prog Try.f15.results.toList K)
def audit_Audit_Nodes_L1 (K : KV) : KE := cCode Try.prog (cd Try.f15 [1, 1, 0, 1, 0]) (audit_Audit_Nodes_P1 K) (fun i => @Bool.rec (fun _ => KE) ((fun _ _ _ => False) i) (audit_Audit_Nodes_P1 K) (Nat.beq i 0)) (retK Try.prog Try.f15.results.toList K)
end
theorem audit_Audit_Nodes_k {K : KV} {a0 : Value} {w : World}
    (h : bin Try.prog BinOp.eql 24 false true a0 (Value.pointer none) (fun A4 w =>
    cond A4
      (K (Value.slice none 0 0) w)
      (nilC a0 (fun A6 w =>
    fldA Try.prog 65 A6 0 (fun A7 w =>
    ld Try.prog 60 A7 (fun A8 w =>
    rng Try.prog 60 A8 (fun A9 w =>
    (cCode Try.prog (cd Try.f15 [1, 1, 0, 1, 0]) (cCode Try.prog (cd Try.f15 [1, 1, 1]) (retK Try.prog Try.f15.results.toList K) (fun _ _ _ => False) (retK Try.prog Try.f15.results.toList K)) (fun i => @Bool.rec (fun _ => KE) ((fun _ _ _ => False) i) (cCode Try.prog (cd Try.f15 [1, 1, 1]) (retK Try.prog Try.f15.results.toList K) (fun _ _ _ => False) (retK Try.prog Try.f15.results.toList K)) (Nat.beq i 0)) (retK Try.prog Try.f15.results.toList K)) [a0, undef, (Value.slice none 0 0), undef, a0, A4, a0, A6, A7, A8, A9, undef, undef, undef, undef, undef, undef, undef, undef, undef, undef, undef] w) w) w) w) w)) w) :
    cCode Try.prog (cd Try.f15 []) (retK Try.prog Try.f15.results.toList K) (fun _ _ _ => False) (retK Try.prog Try.f15.results.toList K) [a0, undef, undef, undef, undef, undef, undef, undef, undef, undef, undef, undef, undef, undef, undef, undef, undef, undef, undef, undef, undef, undef] w := Eq.mp (by kernel_rfl) h

theorem audit_Audit_Nodes_in {K : KV} {a0 : Value} {w : World}
    (h : bin Try.prog BinOp.eql 24 false true a0 (Value.pointer none) (fun A4 w =>
    cond A4
      (K (Value.slice none 0 0) w)
      (nilC a0 (fun A6 w =>
    fldA Try.prog 65 A6 0 (fun A7 w =>
    ld Try.prog 60 A7 (fun A8 w =>
    rng Try.prog 60 A8 (fun A9 w =>
    (audit_Audit_Nodes_L1 K) [a0, undef, (Value.slice none 0 0), undef, a0, A4, a0, A6, A7, A8, A9, undef, undef, undef, undef, undef, undef, undef, undef, undef, undef, undef] w) w) w) w) w)) w) :
    Gives Try.prog 15 #[a0] w K := enter' Try.func15 (by kernel_rfl) (Eq.mp (congrArg (fun c => cCode Try.prog c (retK Try.prog Try.f15.results.toList K) (fun _ _ _ => False) (retK Try.prog Try.f15.results.toList K) [a0, undef, undef, undef, undef, undef, undef, undef, undef, undef, undef, undef, undef, undef, undef, undef, undef, undef, undef, undef, undef, undef] w) (by kernel_rfl : (cd Try.f15 []) = (cd Try.f15 []))) (audit_Audit_Nodes_k h))
theorem audit_Audit_Nodes_go : isGo Try.prog 15 := ⟨_, Try.func15, by kernel_rfl, by kernel_rfl⟩

theorem audit_Audit_Nodes_L1_k {K : KV} (B1 : KE) (qc0 : KE) {a0 a1 l2' A3 A4 A5 A6 A7 A8 A9 C8 C9 D0 : Value} {dd : Nat → Value} {w : World}
    (h : nxt Try.prog A9 false 0 (fun C0 w =>
    ext Try.prog C0 0 (fun C1 w =>
    cond C1
      (ent Try.prog A9 (fun C2 w =>
    ext Try.prog C2 0 (fun C3 w =>
    bldS Try.prog 47 1 #[(0, C3)] (fun C6 w =>
    blt Try.prog Builtin.append #[47, 47] 47 #[false, false] #[l2', C6] (fun C7 w =>
    B1 [a0, a1, C7, C3, A3, A4, A5, A6, A7, A8, A9, C0, C1, C2, C3, l2', C3, C6, C7, C8, C9, D0] w) w) w) w) w)
      (qc0 [a0, a1, l2', (dd 3), A3, A4, A5, A6, A7, A8, A9, C0, C1, (dd 13), (dd 14), (dd 15), (dd 16), (dd 17), (dd 18), C8, C9, D0] w)) w) w) :
    cCode Try.prog (cd Try.f15 [1, 1, 0, 1, 0, 0]) B1 (fun i => @Bool.rec (fun _ => KE) ((fun _ _ _ => False) i) qc0 (Nat.beq i 0)) (retK Try.prog Try.f15.results.toList K) [a0, a1, l2', (dd 3), A3, A4, A5, A6, A7, A8, A9, (dd 11), (dd 12), (dd 13), (dd 14), (dd 15), (dd 16), (dd 17), (dd 18), C8, C9, D0] w := Eq.mp (by kernel_rfl) h

theorem audit_Audit_Nodes_L1_r {K : KV} {a0 a1 l2 id3 A3 A4 A5 A6 A7 A8 A9 C0 C1 C2 C3 C4 C5 C6 C7 C8 C9 D0 : Value} {w : World} (Inv : Value → World → Prop) (μ : Value → World → Nat) (h0 : Inv l2 w)
    (hs : ∀ (l2' : Value) (dd : Nat → Value) (w : World) (m : Nat), Inv l2' w → m = μ l2' w →
    nxt Try.prog A9 false 0 (fun C0 w =>
    ext Try.prog C0 0 (fun C1 w =>
    cond C1
      (ent Try.prog A9 (fun C2 w =>
    ext Try.prog C2 0 (fun C3 w =>
    bldS Try.prog 47 1 #[(0, C3)] (fun C6 w =>
    blt Try.prog Builtin.append #[47, 47] 47 #[false, false] #[l2', C6] (fun C7 w =>
    (Inv C7 w ∧ μ C7 w < m)) w) w) w) w)
      ((audit_Audit_Nodes_P1 K) [a0, a1, l2', (dd 3), A3, A4, A5, A6, A7, A8, A9, C0, C1, (dd 13), (dd 14), (dd 15), (dd 16), (dd 17), (dd 18), C8, C9, D0] w)) w) w) :
    audit_Audit_Nodes_L1 K [a0, a1, l2, id3, A3, A4, A5, A6, A7, A8, A9, C0, C1, C2, C3, C4, C5, C6, C7, C8, C9, D0] w := by
  refine loop_rule (cd Try.f15 [1, 1, 0, 1, 0, 0]) [2, 3, 11, 12, 13, 14, 15, 16, 17, 18] (by kernel_rfl) (fun e2 w2 => Inv (gd e2 2) w2) (fun e2 w2 => μ (gd e2 2) w2) h0 ?_
  intro e' w' hI
  have h := hs (gd e' 2) (fun i => gd e' i) w' _ hI rfl
  have h2 : cCode Try.prog (cd Try.f15 [1, 1, 0, 1, 0, 0]) (fun e2 w2 => Inv (gd e2 2) w2 ∧ μ (gd e2 2) w2 < μ (gd e' 2) w') (fun i => @Bool.rec (fun _ => KE) ((fun _ _ _ => False) i) (audit_Audit_Nodes_P1 K) (Nat.beq i 0)) (retK Try.prog Try.f15.results.toList K) [a0, a1, (gd e' 2), (gd e' 3), A3, A4, A5, A6, A7, A8, A9, (gd e' 11), (gd e' 12), (gd e' 13), (gd e' 14), (gd e' 15), (gd e' 16), (gd e' 17), (gd e' 18), C8, C9, D0] w' := audit_Audit_Nodes_L1_k (fun e2 w2 => Inv (gd e2 2) w2 ∧ μ (gd e2 2) w2 < μ (gd e' 2) w') (audit_Audit_Nodes_P1 K) (Eq.mp (by kernel_rfl) h)
  exact Eq.mp (by kernel_rfl) h2

theorem audit_Audit_Nodes_P1_k {K : KV} {a0 a1 l2 id3 A3 A4 A5 A6 A7 A8 A9 C0 C1 C2 C3 C4 C5 C6 C7 C8 C9 D0 : Value} {w : World}
    (h : call Try.prog 23 #[l2] (fun C9 w =>
    K l2 w) w) :
    cCode Try.prog (cd Try.f15 [1, 1, 1]) (retK Try.prog Try.f15.results.toList K) (fun _ _ _ => False) (retK Try.prog Try.f15.results.toList K) [a0, a1, l2, id3, A3, A4, A5, A6, A7, A8, A9, C0, C1, C2, C3, C4, C5, C6, C7, C8, C9, D0] w := Eq.mp (by kernel_rfl) h

theorem audit_Audit_Nodes_P1_r {K : KV} {a0 a1 l2 id3 A3 A4 A5 A6 A7 A8 A9 C0 C1 C2 C3 C4 C5 C6 C7 C8 C9 D0 : Value} {w : World}
    (h : call Try.prog 23 #[l2] (fun C9 w =>
    K l2 w) w) :
    audit_Audit_Nodes_P1 K [a0, a1, l2, id3, A3, A4, A5, A6, A7, A8, A9, C0, C1, C2, C3, C4, C5, C6, C7, C8, C9, D0] w := by
  delta audit_Audit_Nodes_P1
  exact Eq.mp (congrArg (fun c => cCode Try.prog c (retK Try.prog Try.f15.results.toList K) (fun _ _ _ => False) (retK Try.prog Try.f15.results.toList K) [a0, a1, l2, id3, A3, A4, A5, A6, A7, A8, A9, C0, C1, C2, C3, C4, C5, C6, C7, C8, C9, D0] w) (by kernel_rfl : (cd Try.f15 [1, 1, 1]) = (cd Try.f15 [1, 1, 1]))) (audit_Audit_Nodes_P1_k h)
attribute [irreducible] audit_Audit_Nodes_P1 audit_Audit_Nodes_L1

def audit_Audit_Bound_P1 (K : KV) : KE := cCode Try.prog (cd Try.f12 [1, 1]) (retK Try.prog Try.f12.results.toList K) (fun _ _ _ => False) (retK Try.prog Try.f12.results.toList K)
def audit_Audit_Bound_L1 (K : KV) : KE := cCode Try.prog (cd Try.f12 [1, 0, 1, 0]) (audit_Audit_Bound_P1 K) (fun i => @Bool.rec (fun _ => KE) ((fun _ _ _ => False) i) (audit_Audit_Bound_P1 K) (Nat.beq i 0)) (retK Try.prog Try.f12.results.toList K)
theorem audit_Audit_Bound_k {K : KV} {a0 : Value} {w : World}
    (h : call Try.prog 15 #[a0] (fun A8 w =>
    blt Try.prog Builtin.len #[47] 3 #[false] #[A8] (fun A9 w =>
    (cCode Try.prog (cd Try.f12 [1, 0, 1, 0]) (cCode Try.prog (cd Try.f12 [1, 1]) (retK Try.prog Try.f12.results.toList K) (fun _ _ _ => False) (retK Try.prog Try.f12.results.toList K)) (fun i => @Bool.rec (fun _ => KE) ((fun _ _ _ => False) i) (cCode Try.prog (cd Try.f12 [1, 1]) (retK Try.prog Try.f12.results.toList K) (fun _ _ _ => False) (retK Try.prog Try.f12.results.toList K)) (Nat.beq i 0)) (retK Try.prog Try.f12.results.toList K)) [a0, undef, (Value.bool false), undef, undef, undef, undef, undef, a0, A8, A9, (Value.int IntKind.i64 0), undef, undef, undef, undef, undef, undef, undef, undef, undef, undef, undef, undef, undef, undef] w) w) w) :
    cCode Try.prog (cd Try.f12 []) (retK Try.prog Try.f12.results.toList K) (fun _ _ _ => False) (retK Try.prog Try.f12.results.toList K) [a0, undef, undef, undef, undef, undef, undef, undef, undef, undef, undef, undef, undef, undef, undef, undef, undef, undef, undef, undef, undef, undef, undef, undef, undef, undef] w := Eq.mp (by kernel_rfl) h

theorem audit_Audit_Bound_in {K : KV} {a0 : Value} {w : World}
    (h : call Try.prog 15 #[a0] (fun A8 w =>
    blt Try.prog Builtin.len #[47] 3 #[false] #[A8] (fun A9 w =>
    (audit_Audit_Bound_L1 K) [a0, undef, (Value.bool false), undef, undef, undef, undef, undef, a0, A8, A9, (Value.int IntKind.i64 0), undef, undef, undef, undef, undef, undef, undef, undef, undef, undef, undef, undef, undef, undef] w) w) w) :
    Gives Try.prog 12 #[a0] w K := enter' Try.func12 (by kernel_rfl) (Eq.mp (congrArg (fun c => cCode Try.prog c (retK Try.prog Try.f12.results.toList K) (fun _ _ _ => False) (retK Try.prog Try.f12.results.toList K) [a0, undef, undef, undef, undef, undef, undef, undef, undef, undef, undef, undef, undef, undef, undef, undef, undef, undef, undef, undef, undef, undef, undef, undef, undef, undef] w) (by kernel_rfl : (cd Try.f12 []) = (cd Try.f12 []))) (audit_Audit_Bound_k h))
theorem audit_Audit_Bound_go : isGo Try.prog 12 := ⟨_, Try.func12, by kernel_rfl, by kernel_rfl⟩

theorem audit_Audit_Bound_L1_k {K : KV} (B1 : KE) (qc0 : KE) {a0 a1 A2 A7 A8 A9 C0' : Value} {dd : Nat → Value} {w : World}
    (h : bin Try.prog BinOp.lss 3 false false C0' A9 (fun C1 w =>
    cond C1
      (idxA Try.prog 47 A8 C0' (fun C2 w =>
    ld Try.prog 33 C2 (fun C3 w =>
    call Try.prog 10 #[a0, C3] (fun C7 w =>
    ext Try.prog C7 0 (fun C8 w =>
    ext Try.prog C7 1 (fun C9 w =>
    ext Try.prog C7 2 (fun D0 w =>
    bin Try.prog BinOp.gtr 2 false false C9 C8 (fun D3 w =>
    cond D3
      (K (Value.bool false) w)
      (bin Try.prog BinOp.add 3 false true C0' (Value.int IntKind.i64 1) (fun D4 w =>
    B1 [a0, a1, (dd 2), A2, C3, C8, C9, D0, A7, A8, A9, D4, C1, C2, C3, C7, a0, C3, C7, C8, C9, D0, C9, C8, D3, D4] w) w)) w) w) w) w) w) w) w)
      (qc0 [a0, a1, (dd 2), A2, (dd 4), (dd 5), (dd 6), (dd 7), A7, A8, A9, C0', C1, (dd 13), (dd 14), (dd 15), (dd 16), (dd 17), (dd 18), (dd 19), (dd 20), (dd 21), (dd 22), (dd 23), (dd 24), (dd 25)] w)) w) :
    cCode Try.prog (cd Try.f12 [1, 0, 1, 0, 0]) B1 (fun i => @Bool.rec (fun _ => KE) ((fun _ _ _ => False) i) qc0 (Nat.beq i 0)) (retK Try.prog Try.f12.results.toList K) [a0, a1, (dd 2), A2, (dd 4), (dd 5), (dd 6), (dd 7), A7, A8, A9, C0', (dd 12), (dd 13), (dd 14), (dd 15), (dd 16), (dd 17), (dd 18), (dd 19), (dd 20), (dd 21), (dd 22), (dd 23), (dd 24), (dd 25)] w := Eq.mp (by kernel_rfl) h

theorem audit_Audit_Bound_L1_r {K : KV} {a0 a1 A1 A2 id4 limit5 used6 A6 A7 A8 A9 C0 C1 C2 C3 C4 C5 C6 C7 C8 C9 D0 D1 D2 D3 D4 : Value} {w : World} (Inv : Value → World → Prop) (μ : Value → World → Nat) (h0 : Inv C0 w)
    (hs : ∀ (C0' : Value) (dd : Nat → Value) (w : World) (m : Nat), Inv C0' w → m = μ C0' w →
    bin Try.prog BinOp.lss 3 false false C0' A9 (fun C1 w =>
    cond C1
      (idxA Try.prog 47 A8 C0' (fun C2 w =>
    ld Try.prog 33 C2 (fun C3 w =>
    call Try.prog 10 #[a0, C3] (fun C7 w =>
    ext Try.prog C7 0 (fun C8 w =>
    ext Try.prog C7 1 (fun C9 w =>
    ext Try.prog C7 2 (fun D0 w =>
    bin Try.prog BinOp.gtr 2 false false C9 C8 (fun D3 w =>
    cond D3
      (K (Value.bool false) w)
      (bin Try.prog BinOp.add 3 false true C0' (Value.int IntKind.i64 1) (fun D4 w =>
    (Inv D4 w ∧ μ D4 w < m)) w)) w) w) w) w) w) w) w)
      ((audit_Audit_Bound_P1 K) [a0, a1, (dd 2), A2, (dd 4), (dd 5), (dd 6), (dd 7), A7, A8, A9, C0', C1, (dd 13), (dd 14), (dd 15), (dd 16), (dd 17), (dd 18), (dd 19), (dd 20), (dd 21), (dd 22), (dd 23), (dd 24), (dd 25)] w)) w) :
    audit_Audit_Bound_L1 K [a0, a1, A1, A2, id4, limit5, used6, A6, A7, A8, A9, C0, C1, C2, C3, C4, C5, C6, C7, C8, C9, D0, D1, D2, D3, D4] w := by
  refine loop_rule (cd Try.f12 [1, 0, 1, 0, 0]) [2, 4, 5, 6, 7, 11, 12, 13, 14, 15, 16, 17, 18, 19, 20, 21, 22, 23, 24, 25] (by kernel_rfl) (fun e2 w2 => Inv (gd e2 11) w2) (fun e2 w2 => μ (gd e2 11) w2) h0 ?_
  intro e' w' hI
  have h := hs (gd e' 11) (fun i => gd e' i) w' _ hI rfl
  have h2 : cCode Try.prog (cd Try.f12 [1, 0, 1, 0, 0]) (fun e2 w2 => Inv (gd e2 11) w2 ∧ μ (gd e2 11) w2 < μ (gd e' 11) w') (fun i => @Bool.rec (fun _ => KE) ((fun _ _ _ => False) i) (audit_Audit_Bound_P1 K) (Nat.beq i 0)) (retK Try.prog Try.f12.results.toList K) [a0, a1, (gd e' 2), A2, (gd e' 4), (gd e' 5), (gd e' 6), (gd e' 7), A7, A8, A9, (gd e' 11), (gd e' 12), (gd e' 13), (gd e' 14), (gd e' 15), (gd e' 16), (gd e' 17), (gd e' 18), (gd e' 19), (gd e' 20), (gd e' 21), (gd e' 22), (gd e' 23), (gd e' 24), (gd e' 25)] w' := audit_Audit_Bound_L1_k (fun e2 w2 => Inv (gd e2 11) w2 ∧ μ (gd e2 11) w2 < μ (gd e' 11) w') (audit_Audit_Bound_P1 K) (Eq.mp (by kernel_rfl) h)
  exact Eq.mp (by kernel_rfl) h2

theorem audit_Audit_Bound_P1_k {K : KV} {a0 a1 A1 A2 id4 limit5 used6 A6 A7 A8 A9 C0 C1 C2 C3 C4 C5 C6 C7 C8 C9 D0 D1 D2 D3 D4 : Value} {w : World}
    (h : K (Value.bool true) w) :
    cCode Try.prog (cd Try.f12 [1, 1]) (retK Try.prog Try.f12.results.toList K) (fun _ _ _ => False) (retK Try.prog Try.f12.results.toList K) [a0, a1, A1, A2, id4, limit5, used6, A6, A7, A8, A9, C0, C1, C2, C3, C4, C5, C6, C7, C8, C9, D0, D1, D2, D3, D4] w := Eq.mp (by kernel_rfl) h

theorem audit_Audit_Bound_P1_r {K : KV} {a0 a1 A1 A2 id4 limit5 used6 A6 A7 A8 A9 C0 C1 C2 C3 C4 C5 C6 C7 C8 C9 D0 D1 D2 D3 D4 : Value} {w : World}
    (h : K (Value.bool true) w) :
    audit_Audit_Bound_P1 K [a0, a1, A1, A2, id4, limit5, used6, A6, A7, A8, A9, C0, C1, C2, C3, C4, C5, C6, C7, C8, C9, D0, D1, D2, D3, D4] w := by
  delta audit_Audit_Bound_P1
  exact Eq.mp (congrArg (fun c => cCode Try.prog c (retK Try.prog Try.f12.results.toList K) (fun _ _ _ => False) (retK Try.prog Try.f12.results.toList K) [a0, a1, A1, A2, id4, limit5, used6, A6, A7, A8, A9, C0, C1, C2, C3, C4, C5, C6, C7, C8, C9, D0, D1, D2, D3, D4] w) (by kernel_rfl : (cd Try.f12 [1, 1]) = (cd Try.f12 [1, 1]))) (audit_Audit_Bound_P1_k h)
attribute [irreducible] audit_Audit_Bound_P1 audit_Audit_Bound_L1

end Go.Proofs.Ytcieejlkdfdpiaa
