/- Written by program (gen.py): what the code of some functions asks, part by part; each text is checked by the kernel against the translation. -/
import Derived.Test.YtfgllkdmifhelaaSLaw
namespace Go.Proofs.Ytfgllkdmifhelaa
open Go.RowKit
set_option maxRecDepth 100000

def leatlaw01_OctetNumbers_A1 (K : KV) : KE := cCode Try.prog (cd Try.f3 [1, 1, 1, 1, 1]) (retK Try.prog Try.f3.results.toList K) (fun _ _ _ => False) (retK Try.prog Try.f3.results.toList K)
theorem leatlaw01_OctetNumbers_k {K : KV} (x0 : Code) {b0 n1 at2 size3 : Value} {w : World}
    (h : blt Try.prog Builtin.len #[22] 3 #[false] #[b0] (fun t21 w =>
    bin Try.prog BinOp.gtr 3 false true t21 (Value.int IntKind.i64 4096) (fun t22 w =>
    cond t22
      (call Try.prog 8 #[] (fun t23 w =>
      K t23 w) w)
      (call Try.prog 9 #[b0] (fun t25 w =>
    call Try.prog 10 #[t25, n1, size3] (fun t30 w =>
    ext Try.prog t30 0 (fun t31 w =>
    ext Try.prog t30 1 (fun t32 w =>
    call Try.prog 11 #[b0, n1, size3] (fun t37 w =>
    ext Try.prog t37 0 (fun t38 w =>
    ext Try.prog t37 1 (fun t39 w =>
    (cCode Try.prog x0 (retK Try.prog Try.f3.results.toList K) (fun _ _ _ => False) (retK Try.prog Try.f3.results.toList K)) (b0 :: n1 :: at2 :: size3 :: undef :: undef :: undef :: undef :: (Value.bool false) :: t25 :: t31 :: t32 :: t38 :: t39 :: undef :: undef :: undef :: undef :: undef :: undef :: b0 :: t21 :: t22 :: undef :: b0 :: t25 :: t30 :: t25 :: n1 :: size3 :: t30 :: t31 :: t32 :: t37 :: b0 :: n1 :: size3 :: t37 :: t38 :: t39 :: undef :: undef :: undef :: undef :: undef :: undef :: undef :: undef :: undef :: undef :: undef :: undef :: undef :: undef :: undef :: undef :: undef :: undef :: undef :: undef :: undef :: undef :: undef :: undef :: undef :: undef :: undef :: undef :: undef :: undef :: undef :: undef :: undef :: undef :: undef :: undef :: undef :: undef :: undef :: undef :: undef :: undef :: undef :: undef :: undef :: undef :: undef :: undef :: undef :: []) w) w) w) w) w) w) w) w)) w) w) :
    cCode Try.prog (rep [1, 1, 1, 1, 1] x0 (cd Try.f3 [])) (retK Try.prog Try.f3.results.toList K) (fun _ _ _ => False) (retK Try.prog Try.f3.results.toList K) (b0 :: n1 :: at2 :: size3 :: undef :: undef :: undef :: undef :: undef :: undef :: undef :: undef :: undef :: undef :: undef :: undef :: undef :: undef :: undef :: undef :: undef :: undef :: undef :: undef :: undef :: undef :: undef :: undef :: undef :: undef :: undef :: undef :: undef :: undef :: undef :: undef :: undef :: undef :: undef :: undef :: undef :: undef :: undef :: undef :: undef :: undef :: undef :: undef :: undef :: undef :: undef :: undef :: undef :: undef :: undef :: undef :: undef :: undef :: undef :: undef :: undef :: undef :: undef :: undef :: undef :: undef :: undef :: undef :: undef :: undef :: undef :: undef :: undef :: undef :: undef :: undef :: undef :: undef :: undef :: undef :: undef :: undef :: undef :: undef :: undef :: undef :: undef :: undef :: undef :: []) w := Eq.mp (by kernel_rfl) h

theorem leatlaw01_OctetNumbers_in {K : KV} {b0 n1 at2 size3 : Value} {w : World}
    (h : blt Try.prog Builtin.len #[22] 3 #[false] #[b0] (fun t21 w =>
    bin Try.prog BinOp.gtr 3 false true t21 (Value.int IntKind.i64 4096) (fun t22 w =>
    cond t22
      (call Try.prog 8 #[] (fun t23 w =>
      K t23 w) w)
      (call Try.prog 9 #[b0] (fun t25 w =>
    call Try.prog 10 #[t25, n1, size3] (fun t30 w =>
    ext Try.prog t30 0 (fun t31 w =>
    ext Try.prog t30 1 (fun t32 w =>
    call Try.prog 11 #[b0, n1, size3] (fun t37 w =>
    ext Try.prog t37 0 (fun t38 w =>
    ext Try.prog t37 1 (fun t39 w =>
    (leatlaw01_OctetNumbers_A1 K) (b0 :: n1 :: at2 :: size3 :: undef :: undef :: undef :: undef :: (Value.bool false) :: t25 :: t31 :: t32 :: t38 :: t39 :: undef :: undef :: undef :: undef :: undef :: undef :: b0 :: t21 :: t22 :: undef :: b0 :: t25 :: t30 :: t25 :: n1 :: size3 :: t30 :: t31 :: t32 :: t37 :: b0 :: n1 :: size3 :: t37 :: t38 :: t39 :: undef :: undef :: undef :: undef :: undef :: undef :: undef :: undef :: undef :: undef :: undef :: undef :: undef :: undef :: undef :: undef :: undef :: undef :: undef :: undef :: undef :: undef :: undef :: undef :: undef :: undef :: undef :: undef :: undef :: undef :: undef :: undef :: undef :: undef :: undef :: undef :: undef :: undef :: undef :: undef :: undef :: undef :: undef :: undef :: undef :: undef :: undef :: undef :: undef :: []) w) w) w) w) w) w) w) w)) w) w) :
    Gives Try.prog 3 #[b0, n1, at2, size3] w K := enter' Try.func3 (by kernel_rfl) (Eq.mp (congrArg (fun c => cCode Try.prog c (retK Try.prog Try.f3.results.toList K) (fun _ _ _ => False) (retK Try.prog Try.f3.results.toList K) (b0 :: n1 :: at2 :: size3 :: undef :: undef :: undef :: undef :: undef :: undef :: undef :: undef :: undef :: undef :: undef :: undef :: undef :: undef :: undef :: undef :: undef :: undef :: undef :: undef :: undef :: undef :: undef :: undef :: undef :: undef :: undef :: undef :: undef :: undef :: undef :: undef :: undef :: undef :: undef :: undef :: undef :: undef :: undef :: undef :: undef :: undef :: undef :: undef :: undef :: undef :: undef :: undef :: undef :: undef :: undef :: undef :: undef :: undef :: undef :: undef :: undef :: undef :: undef :: undef :: undef :: undef :: undef :: undef :: undef :: undef :: undef :: undef :: undef :: undef :: undef :: undef :: undef :: undef :: undef :: undef :: undef :: undef :: undef :: undef :: undef :: undef :: undef :: undef :: undef :: []) w) (by kernel_rfl : (rep [1, 1, 1, 1, 1] (cd Try.f3 [1, 1, 1, 1, 1]) (cd Try.f3 [])) = (cd Try.f3 []))) (leatlaw01_OctetNumbers_k (cd Try.f3 [1, 1, 1, 1, 1]) (h : blt Try.prog Builtin.len #[22] 3 #[false] #[b0] (fun t21 w =>
    bin Try.prog BinOp.gtr 3 false true t21 (Value.int IntKind.i64 4096) (fun t22 w =>
    cond t22
      (call Try.prog 8 #[] (fun t23 w =>
      K t23 w) w)
      (call Try.prog 9 #[b0] (fun t25 w =>
    call Try.prog 10 #[t25, n1, size3] (fun t30 w =>
    ext Try.prog t30 0 (fun t31 w =>
    ext Try.prog t30 1 (fun t32 w =>
    call Try.prog 11 #[b0, n1, size3] (fun t37 w =>
    ext Try.prog t37 0 (fun t38 w =>
    ext Try.prog t37 1 (fun t39 w =>
    (leatlaw01_OctetNumbers_A1 K) (b0 :: n1 :: at2 :: size3 :: undef :: undef :: undef :: undef :: (Value.bool false) :: t25 :: t31 :: t32 :: t38 :: t39 :: undef :: undef :: undef :: undef :: undef :: undef :: b0 :: t21 :: t22 :: undef :: b0 :: t25 :: t30 :: t25 :: n1 :: size3 :: t30 :: t31 :: t32 :: t37 :: b0 :: n1 :: size3 :: t37 :: t38 :: t39 :: undef :: undef :: undef :: undef :: undef :: undef :: undef :: undef :: undef :: undef :: undef :: undef :: undef :: undef :: undef :: undef :: undef :: undef :: undef :: undef :: undef :: undef :: undef :: undef :: undef :: undef :: undef :: undef :: undef :: undef :: undef :: undef :: undef :: undef :: undef :: undef :: undef :: undef :: undef :: undef :: undef :: undef :: undef :: undef :: undef :: undef :: undef :: undef :: undef :: []) w) w) w) w) w) w) w) w)) w) w)))
theorem leatlaw01_OctetNumbers_go : isGo Try.prog 3 := ⟨_, Try.func3, by kernel_rfl, by kernel_rfl⟩

theorem leatlaw01_OctetNumbers_A1_k {K : KV} {b0 n1 at2 size3 b4 n5 at6 size7 t8 own9 c10 e11 d12 f13 x14 next15 g16 y17 to18 h19 t20 t21 t22 t23 t24 t25 t26 t27 t28 t29 t30 t31 t32 t33 t34 t35 t36 t37 t38 t39 t40 t41 t42 t43 t44 t45 t46 t47 t48 t49 t50 t51 t52 t53 t54 t55 t56 t57 t58 t59 t60 t61 t62 t63 t64 t65 t66 t67 t68 t69 t70 t71 t72 t73 t74 t75 t76 t77 t78 t79 t80 t81 t82 t83 t84 t85 t86 t87 t88 : Value} {w : World}
    (h : call Try.prog 12 #[own9, at2, size3] (fun t44 w =>
    ext Try.prog t44 0 (fun t45 w =>
    ext Try.prog t44 1 (fun t46 w =>
    ext Try.prog t44 2 (fun t47 w =>
    call Try.prog 13 #[b0, at2, size3] (fun t52 w =>
    ext Try.prog t52 0 (fun t53 w =>
    ext Try.prog t52 1 (fun t54 w =>
    ext Try.prog t52 2 (fun t55 w =>
    call Try.prog 14 #[own9, b0] (fun t58 w =>
    gsel t58 true (fun k60 =>
    conv Try.prog 22 9 c10 (fun t61 w =>
    conv Try.prog 22 9 d12 (fun t63 w =>
    bin Try.prog BinOp.eql 9 false false t61 t63 (fun t64 w =>
    k60 [c10, t61, d12, t63, t64] w) w) w) w)
    (fun k => k [undef, undef, undef, undef, undef] w) (fun us60 w =>
    pick t58 (gd us60 4) (Value.bool false) (fun t65 w =>
    gsel t65 true (fun k67 =>
    bin Try.prog BinOp.eql 26 false false e11 f13 (fun t69 w =>
    k67 [e11, f13, t69] w) w)
    (fun k => k [undef, undef, undef] w) (fun us67 w =>
    pick t65 (gd us67 2) (Value.bool false) (fun t70 w =>
    gsel t70 true (fun k72 =>
    bin Try.prog BinOp.eql 23 false false t45 t53 (fun t74 w =>
    k72 [t45, t53, t74] w) w)
    (fun k => k [undef, undef, undef] w) (fun us72 w =>
    pick t70 (gd us72 2) (Value.bool false) (fun t75 w =>
    gsel t75 true (fun k77 =>
    bin Try.prog BinOp.eql 3 false false t46 t54 (fun t79 w =>
    k77 [t46, t54, t79] w) w)
    (fun k => k [undef, undef, undef] w) (fun us77 w =>
    pick t75 (gd us77 2) (Value.bool false) (fun t80 w =>
    gsel t80 true (fun k82 =>
    bin Try.prog BinOp.eql 26 false false t47 t55 (fun t84 w =>
    k82 [t47, t55, t84] w) w)
    (fun k => k [undef, undef, undef] w) (fun us82 w =>
    pick t80 (gd us82 2) (Value.bool false) (fun t85 w =>
    gsel t85 true (fun k87 =>
    call Try.prog 8 #[] (fun t87 w =>
    k87 [t87] w) w)
    (fun k => k [undef] w) (fun us87 w =>
    pick t85 (gd us87 0) (Value.bool false) (fun t88 w =>
    K t88 w) w)) w)) w)) w)) w)) w)) w) w) w) w) w) w) w) w) w) :
    cCode Try.prog (cd Try.f3 [1, 1, 1, 1, 1]) (retK Try.prog Try.f3.results.toList K) (fun _ _ _ => False) (retK Try.prog Try.f3.results.toList K) (b0 :: n1 :: at2 :: size3 :: b4 :: n5 :: at6 :: size7 :: t8 :: own9 :: c10 :: e11 :: d12 :: f13 :: x14 :: next15 :: g16 :: y17 :: to18 :: h19 :: t20 :: t21 :: t22 :: t23 :: t24 :: t25 :: t26 :: t27 :: t28 :: t29 :: t30 :: t31 :: t32 :: t33 :: t34 :: t35 :: t36 :: t37 :: t38 :: t39 :: t40 :: t41 :: t42 :: t43 :: t44 :: t45 :: t46 :: t47 :: t48 :: t49 :: t50 :: t51 :: t52 :: t53 :: t54 :: t55 :: t56 :: t57 :: t58 :: t59 :: t60 :: t61 :: t62 :: t63 :: t64 :: t65 :: t66 :: t67 :: t68 :: t69 :: t70 :: t71 :: t72 :: t73 :: t74 :: t75 :: t76 :: t77 :: t78 :: t79 :: t80 :: t81 :: t82 :: t83 :: t84 :: t85 :: t86 :: t87 :: t88 :: []) w := Eq.mp (by kernel_rfl) h

theorem leatlaw01_OctetNumbers_A1_r {K : KV} {b0 n1 at2 size3 b4 n5 at6 size7 t8 own9 c10 e11 d12 f13 x14 next15 g16 y17 to18 h19 t20 t21 t22 t23 t24 t25 t26 t27 t28 t29 t30 t31 t32 t33 t34 t35 t36 t37 t38 t39 t40 t41 t42 t43 t44 t45 t46 t47 t48 t49 t50 t51 t52 t53 t54 t55 t56 t57 t58 t59 t60 t61 t62 t63 t64 t65 t66 t67 t68 t69 t70 t71 t72 t73 t74 t75 t76 t77 t78 t79 t80 t81 t82 t83 t84 t85 t86 t87 t88 : Value} {w : World}
    (h : call Try.prog 12 #[own9, at2, size3] (fun t44 w =>
    ext Try.prog t44 0 (fun t45 w =>
    ext Try.prog t44 1 (fun t46 w =>
    ext Try.prog t44 2 (fun t47 w =>
    call Try.prog 13 #[b0, at2, size3] (fun t52 w =>
    ext Try.prog t52 0 (fun t53 w =>
    ext Try.prog t52 1 (fun t54 w =>
    ext Try.prog t52 2 (fun t55 w =>
    call Try.prog 14 #[own9, b0] (fun t58 w =>
    gsel t58 true (fun k60 =>
    conv Try.prog 22 9 c10 (fun t61 w =>
    conv Try.prog 22 9 d12 (fun t63 w =>
    bin Try.prog BinOp.eql 9 false false t61 t63 (fun t64 w =>
    k60 [c10, t61, d12, t63, t64] w) w) w) w)
    (fun k => k [undef, undef, undef, undef, undef] w) (fun us60 w =>
    pick t58 (gd us60 4) (Value.bool false) (fun t65 w =>
    gsel t65 true (fun k67 =>
    bin Try.prog BinOp.eql 26 false false e11 f13 (fun t69 w =>
    k67 [e11, f13, t69] w) w)
    (fun k => k [undef, undef, undef] w) (fun us67 w =>
    pick t65 (gd us67 2) (Value.bool false) (fun t70 w =>
    gsel t70 true (fun k72 =>
    bin Try.prog BinOp.eql 23 false false t45 t53 (fun t74 w =>
    k72 [t45, t53, t74] w) w)
    (fun k => k [undef, undef, undef] w) (fun us72 w =>
    pick t70 (gd us72 2) (Value.bool false) (fun t75 w =>
    gsel t75 true (fun k77 =>
    bin Try.prog BinOp.eql 3 false false t46 t54 (fun t79 w =>
    k77 [t46, t54, t79] w) w)
    (fun k => k [undef, undef, undef] w) (fun us77 w =>
    pick t75 (gd us77 2) (Value.bool false) (fun t80 w =>
    gsel t80 true (fun k82 =>
    bin Try.prog BinOp.eql 26 false false t47 t55 (fun t84 w =>
    k82 [t47, t55, t84] w) w)
    (fun k => k [undef, undef, undef] w) (fun us82 w =>
    pick t80 (gd us82 2) (Value.bool false) (fun t85 w =>
    gsel t85 true (fun k87 =>
    call Try.prog 8 #[] (fun t87 w =>
    k87 [t87] w) w)
    (fun k => k [undef] w) (fun us87 w =>
    pick t85 (gd us87 0) (Value.bool false) (fun t88 w =>
    K t88 w) w)) w)) w)) w)) w)) w)) w) w) w) w) w) w) w) w) w) :
    leatlaw01_OctetNumbers_A1 K (b0 :: n1 :: at2 :: size3 :: b4 :: n5 :: at6 :: size7 :: t8 :: own9 :: c10 :: e11 :: d12 :: f13 :: x14 :: next15 :: g16 :: y17 :: to18 :: h19 :: t20 :: t21 :: t22 :: t23 :: t24 :: t25 :: t26 :: t27 :: t28 :: t29 :: t30 :: t31 :: t32 :: t33 :: t34 :: t35 :: t36 :: t37 :: t38 :: t39 :: t40 :: t41 :: t42 :: t43 :: t44 :: t45 :: t46 :: t47 :: t48 :: t49 :: t50 :: t51 :: t52 :: t53 :: t54 :: t55 :: t56 :: t57 :: t58 :: t59 :: t60 :: t61 :: t62 :: t63 :: t64 :: t65 :: t66 :: t67 :: t68 :: t69 :: t70 :: t71 :: t72 :: t73 :: t74 :: t75 :: t76 :: t77 :: t78 :: t79 :: t80 :: t81 :: t82 :: t83 :: t84 :: t85 :: t86 :: t87 :: t88 :: []) w := by
  delta leatlaw01_OctetNumbers_A1
  exact Eq.mp (congrArg (fun c => cCode Try.prog c (retK Try.prog Try.f3.results.toList K) (fun _ _ _ => False) (retK Try.prog Try.f3.results.toList K) (b0 :: n1 :: at2 :: size3 :: b4 :: n5 :: at6 :: size7 :: t8 :: own9 :: c10 :: e11 :: d12 :: f13 :: x14 :: next15 :: g16 :: y17 :: to18 :: h19 :: t20 :: t21 :: t22 :: t23 :: t24 :: t25 :: t26 :: t27 :: t28 :: t29 :: t30 :: t31 :: t32 :: t33 :: t34 :: t35 :: t36 :: t37 :: t38 :: t39 :: t40 :: t41 :: t42 :: t43 :: t44 :: t45 :: t46 :: t47 :: t48 :: t49 :: t50 :: t51 :: t52 :: t53 :: t54 :: t55 :: t56 :: t57 :: t58 :: t59 :: t60 :: t61 :: t62 :: t63 :: t64 :: t65 :: t66 :: t67 :: t68 :: t69 :: t70 :: t71 :: t72 :: t73 :: t74 :: t75 :: t76 :: t77 :: t78 :: t79 :: t80 :: t81 :: t82 :: t83 :: t84 :: t85 :: t86 :: t87 :: t88 :: []) w) (by kernel_rfl : (cd Try.f3 [1, 1, 1, 1, 1]) = (cd Try.f3 [1, 1, 1, 1, 1]))) (leatlaw01_OctetNumbers_A1_k h)
attribute [irreducible] leatlaw01_OctetNumbers_A1

end Go.Proofs.Ytfgllkdmifhelaa
