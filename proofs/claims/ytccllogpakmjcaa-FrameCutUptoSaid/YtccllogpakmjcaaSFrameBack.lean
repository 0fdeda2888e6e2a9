/- Written by program (gen.py): what the code of some functions asks, part by part; each text is checked by the kernel against the translation. -/
import Derived.Test.YtccllogpakmjcaaSh
import Derived.Test.YtccllogpakmjcaaChecked
namespace Go.Proofs.Ytccllogpakmjcaa
open Go.RowKit
set_option maxRecDepth 100000


theorem leatlaw03_FrameBack_k {K : KV} {b0 : Value} {w : World}
    (h : blt Try.prog Builtin.len #[22] 3 #[false] #[b0] (fun t8 w =>
    bin Try.prog BinOp.gtr 3 false true t8 (Value.int IntKind.i64 8192) (fun t9 w =>
    cond t9
      (call Try.prog 8 #[] (fun t10 w =>
      K t10 w) w)
      (call Try.prog 10 #[b0] (fun t13 w =>
    ext Try.prog t13 0 (fun t14 w =>
    ext Try.prog t13 1 (fun t15 w =>
    call Try.prog 16 #[(Value.slice none 0 0), t14] (fun t18 w =>
    ext Try.prog t18 0 (fun t19 w =>
    ext Try.prog t18 1 (fun t20 w =>
    hReg (fun S w =>
    hld S (fun k w => bin Try.prog BinOp.eql 36 false true t20 (Value.int IntKind.i64 0) k w) (fun t22 =>
    hG t22 true S (fun k w => k t15 w) (fun t24 =>
    hG t22 true S (fun k w => bin Try.prog BinOp.geq 3 false true t24 (Value.int IntKind.i64 0) k w) (fun t25 =>
    hld S (fun k w => pick t22 t25 (Value.bool false) k w) (fun t26 =>
    hG t26 true S (fun k w => k t15 w) (fun t28 =>
    hG t26 true S (fun k w => k b0 w) (fun t29 =>
    hG t26 true S (fun k w => blt Try.prog Builtin.len #[22] 3 #[false] #[t29] k w) (fun t30 =>
    hG t26 true S (fun k w => bin Try.prog BinOp.leq 3 false false t28 t30 k w) (fun t31 =>
    hld S (fun k w => pick t26 t31 (Value.bool false) k w) (fun t32 =>
    hG t32 true S (fun k w => k t19 w) (fun t34 =>
    hG t32 true S (fun k w => conv Try.prog 22 9 t34 k w) (fun t35 =>
    hG t32 true S (fun k w => k b0 w) (fun t36 =>
    hG t32 true S (fun k w => k t15 w) (fun t37 =>
    hG t32 true S (fun k w => k b0 w) (fun t39 =>
    hG t32 true S (fun k w => blt Try.prog Builtin.len #[22] 3 #[false] #[t39] k w) (fun t40 =>
    xG t32 true (fun k w => blt Try.prog Builtin.max #[3, 3] 3 #[false, true] #[t37, (Value.int IntKind.i64 0)] k w) (fun t38 w =>
    hSub S (fun S w =>
    xG t32 true (fun k w => blt Try.prog Builtin.min #[3, 3] 3 #[false, false] #[t38, t40] k w) (fun t41 w =>
    hSub S (fun S w =>
    hG t32 true S (fun k w => slc Try.prog 22 t36 none (some t41) none k w) (fun t42 =>
    hG t32 true S (fun k w => conv Try.prog 22 9 t42 k w) (fun t43 =>
    hG t32 true S (fun k w => bin Try.prog BinOp.eql 9 false false t35 t43 k w) (fun t44 =>
    hld S (fun k w => pick t32 t44 (Value.bool false) k w) (fun t45 =>
    xG t45 true (fun k w => call Try.prog 8 #[] k w) (fun t47 w =>
    hReg (fun S w =>
    hld S (fun k w => pick t45 t47 (Value.bool false) k w) (fun t48 =>
    K t48 w)) w) w))))) w) w) w) w)))))))))))))))) w.drew) w) w) w) w) w) w)) w) w) :
    cCode Try.prog (cd Try.f5 []) (retK Try.prog Try.f5.results.toList K) (fun _ _ _ => False) (retK Try.prog Try.f5.results.toList K) (b0 :: undef :: undef :: undef :: undef :: undef :: undef :: undef :: undef :: undef :: undef :: undef :: undef :: undef :: undef :: undef :: undef :: undef :: undef :: undef :: undef :: undef :: undef :: undef :: undef :: undef :: undef :: undef :: undef :: undef :: undef :: undef :: undef :: undef :: undef :: undef :: undef :: undef :: undef :: undef :: undef :: undef :: undef :: undef :: undef :: undef :: undef :: undef :: undef :: []) w := Eq.mp (by kernel_rfl) h

theorem leatlaw03_FrameBack_in {K : KV} {b0 : Value} {w : World}
    (h : blt Try.prog Builtin.len #[22] 3 #[false] #[b0] (fun t8 w =>
    bin Try.prog BinOp.gtr 3 false true t8 (Value.int IntKind.i64 8192) (fun t9 w =>
    cond t9
      (call Try.prog 8 #[] (fun t10 w =>
      K t10 w) w)
      (call Try.prog 10 #[b0] (fun t13 w =>
    ext Try.prog t13 0 (fun t14 w =>
    ext Try.prog t13 1 (fun t15 w =>
    call Try.prog 16 #[(Value.slice none 0 0), t14] (fun t18 w =>
    ext Try.prog t18 0 (fun t19 w =>
    ext Try.prog t18 1 (fun t20 w =>
    hReg (fun S w =>
    hld S (fun k w => bin Try.prog BinOp.eql 36 false true t20 (Value.int IntKind.i64 0) k w) (fun t22 =>
    hG t22 true S (fun k w => k t15 w) (fun t24 =>
    hG t22 true S (fun k w => bin Try.prog BinOp.geq 3 false true t24 (Value.int IntKind.i64 0) k w) (fun t25 =>
    hld S (fun k w => pick t22 t25 (Value.bool false) k w) (fun t26 =>
    hG t26 true S (fun k w => k t15 w) (fun t28 =>
    hG t26 true S (fun k w => k b0 w) (fun t29 =>
    hG t26 true S (fun k w => blt Try.prog Builtin.len #[22] 3 #[false] #[t29] k w) (fun t30 =>
    hG t26 true S (fun k w => bin Try.prog BinOp.leq 3 false false t28 t30 k w) (fun t31 =>
    hld S (fun k w => pick t26 t31 (Value.bool false) k w) (fun t32 =>
    hG t32 true S (fun k w => k t19 w) (fun t34 =>
    hG t32 true S (fun k w => conv Try.prog 22 9 t34 k w) (fun t35 =>
    hG t32 true S (fun k w => k b0 w) (fun t36 =>
    hG t32 true S (fun k w => k t15 w) (fun t37 =>
    hG t32 true S (fun k w => k b0 w) (fun t39 =>
    hG t32 true S (fun k w => blt Try.prog Builtin.len #[22] 3 #[false] #[t39] k w) (fun t40 =>
    xG t32 true (fun k w => blt Try.prog Builtin.max #[3, 3] 3 #[false, true] #[t37, (Value.int IntKind.i64 0)] k w) (fun t38 w =>
    hSub S (fun S w =>
    xG t32 true (fun k w => blt Try.prog Builtin.min #[3, 3] 3 #[false, false] #[t38, t40] k w) (fun t41 w =>
    hSub S (fun S w =>
    hG t32 true S (fun k w => slc Try.prog 22 t36 none (some t41) none k w) (fun t42 =>
    hG t32 true S (fun k w => conv Try.prog 22 9 t42 k w) (fun t43 =>
    hG t32 true S (fun k w => bin Try.prog BinOp.eql 9 false false t35 t43 k w) (fun t44 =>
    hld S (fun k w => pick t32 t44 (Value.bool false) k w) (fun t45 =>
    xG t45 true (fun k w => call Try.prog 8 #[] k w) (fun t47 w =>
    hReg (fun S w =>
    hld S (fun k w => pick t45 t47 (Value.bool false) k w) (fun t48 =>
    K t48 w)) w) w))))) w) w) w) w)))))))))))))))) w.drew) w) w) w) w) w) w)) w) w) :
    Gives Try.prog 5 #[b0] w K := enter' Try.func5 (by kernel_rfl) (Eq.mp (congrArg (fun c => cCode Try.prog c (retK Try.prog Try.f5.results.toList K) (fun _ _ _ => False) (retK Try.prog Try.f5.results.toList K) (b0 :: undef :: undef :: undef :: undef :: undef :: undef :: undef :: undef :: undef :: undef :: undef :: undef :: undef :: undef :: undef :: undef :: undef :: undef :: undef :: undef :: undef :: undef :: undef :: undef :: undef :: undef :: undef :: undef :: undef :: undef :: undef :: undef :: undef :: undef :: undef :: undef :: undef :: undef :: undef :: undef :: undef :: undef :: undef :: undef :: undef :: undef :: undef :: undef :: []) w) (by kernel_rfl : (cd Try.f5 []) = (cd Try.f5 []))) (leatlaw03_FrameBack_k (h : blt Try.prog Builtin.len #[22] 3 #[false] #[b0] (fun t8 w =>
    bin Try.prog BinOp.gtr 3 false true t8 (Value.int IntKind.i64 8192) (fun t9 w =>
    cond t9
      (call Try.prog 8 #[] (fun t10 w =>
      K t10 w) w)
      (call Try.prog 10 #[b0] (fun t13 w =>
    ext Try.prog t13 0 (fun t14 w =>
    ext Try.prog t13 1 (fun t15 w =>
    call Try.prog 16 #[(Value.slice none 0 0), t14] (fun t18 w =>
    ext Try.prog t18 0 (fun t19 w =>
    ext Try.prog t18 1 (fun t20 w =>
    hReg (fun S w =>
    hld S (fun k w => bin Try.prog BinOp.eql 36 false true t20 (Value.int IntKind.i64 0) k w) (fun t22 =>
    hG t22 true S (fun k w => k t15 w) (fun t24 =>
    hG t22 true S (fun k w => bin Try.prog BinOp.geq 3 false true t24 (Value.int IntKind.i64 0) k w) (fun t25 =>
    hld S (fun k w => pick t22 t25 (Value.bool false) k w) (fun t26 =>
    hG t26 true S (fun k w => k t15 w) (fun t28 =>
    hG t26 true S (fun k w => k b0 w) (fun t29 =>
    hG t26 true S (fun k w => blt Try.prog Builtin.len #[22] 3 #[false] #[t29] k w) (fun t30 =>
    hG t26 true S (fun k w => bin Try.prog BinOp.leq 3 false false t28 t30 k w) (fun t31 =>
    hld S (fun k w => pick t26 t31 (Value.bool false) k w) (fun t32 =>
    hG t32 true S (fun k w => k t19 w) (fun t34 =>
    hG t32 true S (fun k w => conv Try.prog 22 9 t34 k w) (fun t35 =>
    hG t32 true S (fun k w => k b0 w) (fun t36 =>
    hG t32 true S (fun k w => k t15 w) (fun t37 =>
    hG t32 true S (fun k w => k b0 w) (fun t39 =>
    hG t32 true S (fun k w => blt Try.prog Builtin.len #[22] 3 #[false] #[t39] k w) (fun t40 =>
    xG t32 true (fun k w => blt Try.prog Builtin.max #[3, 3] 3 #[false, true] #[t37, (Value.int IntKind.i64 0)] k w) (fun t38 w =>
    hSub S (fun S w =>
    xG t32 true (fun k w => blt Try.prog Builtin.min #[3, 3] 3 #[false, false] #[t38, t40] k w) (fun t41 w =>
    hSub S (fun S w =>
    hG t32 true S (fun k w => slc Try.prog 22 t36 none (some t41) none k w) (fun t42 =>
    hG t32 true S (fun k w => conv Try.prog 22 9 t42 k w) (fun t43 =>
    hG t32 true S (fun k w => bin Try.prog BinOp.eql 9 false false t35 t43 k w) (fun t44 =>
    hld S (fun k w => pick t32 t44 (Value.bool false) k w) (fun t45 =>
    xG t45 true (fun k w => call Try.prog 8 #[] k w) (fun t47 w =>
    hReg (fun S w =>
    hld S (fun k w => pick t45 t47 (Value.bool false) k w) (fun t48 =>
    K t48 w)) w) w))))) w) w) w) w)))))))))))))))) w.drew) w) w) w) w) w) w)) w) w)))
theorem leatlaw03_FrameBack_go : isGo Try.prog 5 := ⟨_, Try.func5, by kernel_rfl, by kernel_rfl⟩

end Go.Proofs.Ytccllogpakmjcaa
