/- Written by program (gen.py): what the code of some functions asks, part by part; each text is checked by the kernel against the translation. -/
import Derived.Test.YtcieejlkdfdpiaaSh
import Derived.Test.YtcieejlkdfdpiaaChecked
namespace Go.Proofs.Ytcieejlkdfdpiaa
open Go.RowKit
set_option maxRecDepth 100000


theorem leatlaw26_AuditNil_k {K : KV} {x0 : Value} {w : World}
    (h : box Try.prog 44 x0 (fun x1 w =>
    fldA Try.prog 44 x1 0 (fun t8 w =>
    ld Try.prog 3 t8 (fun t9 w =>
    fldA Try.prog 44 x1 1 (fun t10 w =>
    ld Try.prog 35 t10 (fun t11 w =>
    fldA Try.prog 44 x1 2 (fun t12 w =>
    ld Try.prog 42 t12 (fun t13 w =>
    call Try.prog 8 #[(Value.pointer none), t9, t11, t13] (fun t14 w =>
    fldA Try.prog 44 x1 1 (fun t17 w =>
    fldA Try.prog 35 t17 1 (fun t18 w =>
    ld Try.prog 33 t18 (fun t19 w =>
    call Try.prog 10 #[(Value.pointer none), t19] (fun t20 w =>
    ext Try.prog t20 0 (fun t21 w =>
    ext Try.prog t20 1 (fun t22 w =>
    ext Try.prog t20 2 (fun t23 w =>
    bin Try.prog BinOp.eql 40 false true t23 (Value.int IntKind.i64 2) (fun t25 w =>
    gsel t25 true (fun k27 =>
    call Try.prog 15 #[(Value.pointer none)] (fun t28 w =>
    blt Try.prog Builtin.len #[47] 3 #[false] #[t28] (fun t29 w =>
    bin Try.prog BinOp.eql 3 false true t29 (Value.int IntKind.i64 0) (fun t30 w =>
    k27 [(Value.pointer none), t28, t29, t30] w) w) w) w)
    (fun k => k [undef, undef, undef, undef] w) (fun us27 w =>
    pick t25 (gd us27 3) (Value.bool false) (fun t31 w =>
    gsel t31 true (fun k33 =>
    call Try.prog 12 #[(Value.pointer none)] (fun t34 w =>
    k33 [(Value.pointer none), t34] w) w)
    (fun k => k [undef, undef] w) (fun us33 w =>
    pick t31 (gd us33 1) (Value.bool false) (fun t35 w =>
    gsel t35 true (fun k37 =>
    call Try.prog 6 #[] (fun t37 w =>
    k37 [t37] w) w)
    (fun k => k [undef] w) (fun us37 w =>
    pick t35 (gd us37 0) (Value.bool false) (fun t38 w =>
    K t38 w) w)) w)) w)) w) w) w) w) w) w) w) w) w) w) w) w) w) w) w) w) :
    cCode Try.prog (cd Try.f4 []) (retK Try.prog Try.f4.results.toList K) (fun _ _ _ => False) (retK Try.prog Try.f4.results.toList K) [x0, undef, undef, undef, undef, undef, undef, undef, undef, undef, undef, undef, undef, undef, undef, undef, undef, undef, undef, undef, undef, undef, undef, undef, undef, undef, undef, undef, undef, undef, undef, undef, undef, undef, undef, undef, undef, undef, undef] w := Eq.mp (by kernel_rfl) h

theorem leatlaw26_AuditNil_in {K : KV} {x0 : Value} {w : World}
    (h : box Try.prog 44 x0 (fun x1 w =>
    fldA Try.prog 44 x1 0 (fun t8 w =>
    ld Try.prog 3 t8 (fun t9 w =>
    fldA Try.prog 44 x1 1 (fun t10 w =>
    ld Try.prog 35 t10 (fun t11 w =>
    fldA Try.prog 44 x1 2 (fun t12 w =>
    ld Try.prog 42 t12 (fun t13 w =>
    call Try.prog 8 #[(Value.pointer none), t9, t11, t13] (fun t14 w =>
    fldA Try.prog 44 x1 1 (fun t17 w =>
    fldA Try.prog 35 t17 1 (fun t18 w =>
    ld Try.prog 33 t18 (fun t19 w =>
    call Try.prog 10 #[(Value.pointer none), t19] (fun t20 w =>
    ext Try.prog t20 0 (fun t21 w =>
    ext Try.prog t20 1 (fun t22 w =>
    ext Try.prog t20 2 (fun t23 w =>
    bin Try.prog BinOp.eql 40 false true t23 (Value.int IntKind.i64 2) (fun t25 w =>
    gsel t25 true (fun k27 =>
    call Try.prog 15 #[(Value.pointer none)] (fun t28 w =>
    blt Try.prog Builtin.len #[47] 3 #[false] #[t28] (fun t29 w =>
    bin Try.prog BinOp.eql 3 false true t29 (Value.int IntKind.i64 0) (fun t30 w =>
    k27 [(Value.pointer none), t28, t29, t30] w) w) w) w)
    (fun k => k [undef, undef, undef, undef] w) (fun us27 w =>
    pick t25 (gd us27 3) (Value.bool false) (fun t31 w =>
    gsel t31 true (fun k33 =>
    call Try.prog 12 #[(Value.pointer none)] (fun t34 w =>
    k33 [(Value.pointer none), t34] w) w)
    (fun k => k [undef, undef] w) (fun us33 w =>
    pick t31 (gd us33 1) (Value.bool false) (fun t35 w =>
    gsel t35 true (fun k37 =>
    call Try.prog 6 #[] (fun t37 w =>
    k37 [t37] w) w)
    (fun k => k [undef] w) (fun us37 w =>
    pick t35 (gd us37 0) (Value.bool false) (fun t38 w =>
    K t38 w) w)) w)) w)) w) w) w) w) w) w) w) w) w) w) w) w) w) w) w) w) :
    Gives Try.prog 4 #[x0] w K := enter' Try.func4 (by kernel_rfl) (Eq.mp (congrArg (fun c => cCode Try.prog c (retK Try.prog Try.f4.results.toList K) (fun _ _ _ => False) (retK Try.prog Try.f4.results.toList K) [x0, undef, undef, undef, undef, undef, undef, undef, undef, undef, undef, undef, undef, undef, undef, undef, undef, undef, undef, undef, undef, undef, undef, undef, undef, undef, undef, undef, undef, undef, undef, undef, undef, undef, undef, undef, undef, undef, undef] w) (by kernel_rfl : (cd Try.f4 []) = (cd Try.f4 []))) (leatlaw26_AuditNil_k h))
theorem leatlaw26_AuditNil_go : isGo Try.prog 4 := ⟨_, Try.func4, by kernel_rfl, by kernel_rfl⟩

end Go.Proofs.Ytcieejlkdfdpiaa
