/- Written by program (gen.py): what the code of some functions asks, part by part; each text is checked by the kernel against the translation. -/
import Derived.Test.YtjkmblbonambjaaSh
import Derived.Test.YtjkmblbonambjaaChecked
namespace Go.Proofs.Ytjkmblbonambjaa
open Go.RowKit
set_option maxRecDepth 100000

def leatlaw05_works_A1 (K : KV) : KE := cCode Try.prog (cd Try.f20 [1, 1, 1, 1, 1]) (retK Try.prog Try.f20.results.toList K) (fun _ _ _ => False) (retK Try.prog Try.f20.results.toList K)
def leatlaw05_works_A2 (K : KV) : KE := cCode Try.prog (cd Try.f20 [1, 1, 1, 1, 1, 1, 1, 1, 1, 1]) (retK Try.prog Try.f20.results.toList K) (fun _ _ _ => False) (retK Try.prog Try.f20.results.toList K)
def leatlaw05_works_A3 (K : KV) : KE := cCode Try.prog (cd Try.f20 [1, 1, 1, 1, 1, 1, 1, 1, 1, 1, 1, 1, 1, 1]) (retK Try.prog Try.f20.results.toList K) (fun _ _ _ => False) (retK Try.prog Try.f20.results.toList K)
def leatlaw05_works_A4 (K : KV) : KE := cCode Try.prog (cd Try.f20 [1, 1, 1, 1, 1, 1, 1, 1, 1, 1, 1, 1, 1, 1, 1, 1, 1, 1, 1]) (retK Try.prog Try.f20.results.toList K) (fun _ _ _ => False) (retK Try.prog Try.f20.results.toList K)
theorem leatlaw05_works_k {K : KV} (x0 : Code) {w : World}
    (h : call Try.prog 11 #[] (fun t17 w =>
    call Try.prog 21 #[t17] (fun t20 w =>
    ext Try.prog t20 0 (fun t21 w =>
    ext Try.prog t20 1 (fun t22 w =>
    ext Try.prog t20 2 (fun t23 w =>
    bin Try.prog BinOp.neq 33 false true t23 (Value.int IntKind.i64 0) (fun t25 w =>
    gsel t25 false (fun k27 =>
    bin Try.prog BinOp.eql 49 false true t21 (Value.pointer none) (fun t28 w =>
    k27 [t21, t28] w) w)
    (fun k => k [undef, undef] w) (fun us27 w =>
    pick t25 (Value.bool true) (gd us27 1) (fun t29 w =>
    gsel t29 false (fun k31 =>
    blt Try.prog Builtin.len #[50] 3 #[false] #[t22] (fun t32 w =>
    bin Try.prog BinOp.neq 3 false true t32 (Value.int IntKind.i64 0) (fun t33 w =>
    k31 [t22, t32, t33] w) w) w)
    (fun k => k [undef, undef, undef] w) (fun us31 w =>
    pick t29 (Value.bool true) (gd us31 2) (fun t34 w =>
    cond t34
      (K (Value.bool false) w)
      (bldS Try.prog 29 1 #[(0, (Value.int IntKind.u8 97))] (fun t36 w =>
    conv Try.prog 29 29 t36 (fun t37 w =>
    bldS Try.prog 29 1 #[(0, (Value.int IntKind.u8 98))] (fun t38 w =>
    conv Try.prog 29 29 t38 (fun t39 w =>
    bldS Try.prog 50 2 #[(0, t37), (1, t39)] (fun t40 w =>
    call Try.prog 23 #[t21, t40] (fun t41 w =>
    (cCode Try.prog x0 (retK Try.prog Try.f20.results.toList K) (fun _ _ _ => False) (retK Try.prog Try.f20.results.toList K)) ((Value.bool false) :: t17 :: t21 :: t22 :: t23 :: t41 :: undef :: undef :: undef :: undef :: undef :: undef :: undef :: undef :: undef :: undef :: undef :: t17 :: t20 :: t17 :: t20 :: t21 :: t22 :: t23 :: t23 :: t25 :: t25 :: (gd us27 0) :: (gd us27 1) :: t29 :: t29 :: (gd us31 0) :: (gd us31 1) :: (gd us31 2) :: t34 :: t21 :: t36 :: t37 :: t38 :: t39 :: t40 :: t41 :: undef :: undef :: undef :: undef :: undef :: undef :: undef :: undef :: undef :: undef :: undef :: undef :: undef :: undef :: undef :: undef :: undef :: undef :: undef :: undef :: undef :: undef :: undef :: undef :: undef :: undef :: undef :: undef :: undef :: undef :: undef :: undef :: undef :: undef :: undef :: undef :: undef :: undef :: undef :: undef :: undef :: undef :: undef :: undef :: undef :: undef :: undef :: undef :: undef :: undef :: undef :: undef :: undef :: undef :: undef :: undef :: undef :: undef :: undef :: undef :: undef :: undef :: undef :: undef :: undef :: undef :: undef :: undef :: undef :: undef :: undef :: undef :: undef :: undef :: undef :: undef :: undef :: undef :: undef :: undef :: undef :: undef :: undef :: undef :: undef :: undef :: undef :: undef :: undef :: undef :: undef :: undef :: undef :: undef :: undef :: undef :: []) w) w) w) w) w) w) w)) w)) w)) w) w) w) w) w) w) :
    cCode Try.prog (rep [1, 1, 1, 1, 1] x0 (cd Try.f20 [])) (retK Try.prog Try.f20.results.toList K) (fun _ _ _ => False) (retK Try.prog Try.f20.results.toList K) (undef :: undef :: undef :: undef :: undef :: undef :: undef :: undef :: undef :: undef :: undef :: undef :: undef :: undef :: undef :: undef :: undef :: undef :: undef :: undef :: undef :: undef :: undef :: undef :: undef :: undef :: undef :: undef :: undef :: undef :: undef :: undef :: undef :: undef :: undef :: undef :: undef :: undef :: undef :: undef :: undef :: undef :: undef :: undef :: undef :: undef :: undef :: undef :: undef :: undef :: undef :: undef :: undef :: undef :: undef :: undef :: undef :: undef :: undef :: undef :: undef :: undef :: undef :: undef :: undef :: undef :: undef :: undef :: undef :: undef :: undef :: undef :: undef :: undef :: undef :: undef :: undef :: undef :: undef :: undef :: undef :: undef :: undef :: undef :: undef :: undef :: undef :: undef :: undef :: undef :: undef :: undef :: undef :: undef :: undef :: undef :: undef :: undef :: undef :: undef :: undef :: undef :: undef :: undef :: undef :: undef :: undef :: undef :: undef :: undef :: undef :: undef :: undef :: undef :: undef :: undef :: undef :: undef :: undef :: undef :: undef :: undef :: undef :: undef :: undef :: undef :: undef :: undef :: undef :: undef :: undef :: undef :: undef :: undef :: undef :: undef :: undef :: undef :: []) w := Eq.mp (by kernel_rfl) h

theorem leatlaw05_works_in {K : KV} {w : World}
    (h : call Try.prog 11 #[] (fun t17 w =>
    call Try.prog 21 #[t17] (fun t20 w =>
    ext Try.prog t20 0 (fun t21 w =>
    ext Try.prog t20 1 (fun t22 w =>
    ext Try.prog t20 2 (fun t23 w =>
    bin Try.prog BinOp.neq 33 false true t23 (Value.int IntKind.i64 0) (fun t25 w =>
    gsel t25 false (fun k27 =>
    bin Try.prog BinOp.eql 49 false true t21 (Value.pointer none) (fun t28 w =>
    k27 [t21, t28] w) w)
    (fun k => k [undef, undef] w) (fun us27 w =>
    pick t25 (Value.bool true) (gd us27 1) (fun t29 w =>
    gsel t29 false (fun k31 =>
    blt Try.prog Builtin.len #[50] 3 #[false] #[t22] (fun t32 w =>
    bin Try.prog BinOp.neq 3 false true t32 (Value.int IntKind.i64 0) (fun t33 w =>
    k31 [t22, t32, t33] w) w) w)
    (fun k => k [undef, undef, undef] w) (fun us31 w =>
    pick t29 (Value.bool true) (gd us31 2) (fun t34 w =>
    cond t34
      (K (Value.bool false) w)
      (bldS Try.prog 29 1 #[(0, (Value.int IntKind.u8 97))] (fun t36 w =>
    conv Try.prog 29 29 t36 (fun t37 w =>
    bldS Try.prog 29 1 #[(0, (Value.int IntKind.u8 98))] (fun t38 w =>
    conv Try.prog 29 29 t38 (fun t39 w =>
    bldS Try.prog 50 2 #[(0, t37), (1, t39)] (fun t40 w =>
    call Try.prog 23 #[t21, t40] (fun t41 w =>
    (leatlaw05_works_A1 K) ((Value.bool false) :: t17 :: t21 :: t22 :: t23 :: t41 :: undef :: undef :: undef :: undef :: undef :: undef :: undef :: undef :: undef :: undef :: undef :: t17 :: t20 :: t17 :: t20 :: t21 :: t22 :: t23 :: t23 :: t25 :: t25 :: (gd us27 0) :: (gd us27 1) :: t29 :: t29 :: (gd us31 0) :: (gd us31 1) :: (gd us31 2) :: t34 :: t21 :: t36 :: t37 :: t38 :: t39 :: t40 :: t41 :: undef :: undef :: undef :: undef :: undef :: undef :: undef :: undef :: undef :: undef :: undef :: undef :: undef :: undef :: undef :: undef :: undef :: undef :: undef :: undef :: undef :: undef :: undef :: undef :: undef :: undef :: undef :: undef :: undef :: undef :: undef :: undef :: undef :: undef :: undef :: undef :: undef :: undef :: undef :: undef :: undef :: undef :: undef :: undef :: undef :: undef :: undef :: undef :: undef :: undef :: undef :: undef :: undef :: undef :: undef :: undef :: undef :: undef :: undef :: undef :: undef :: undef :: undef :: undef :: undef :: undef :: undef :: undef :: undef :: undef :: undef :: undef :: undef :: undef :: undef :: undef :: undef :: undef :: undef :: undef :: undef :: undef :: undef :: undef :: undef :: undef :: undef :: undef :: undef :: undef :: undef :: undef :: undef :: undef :: undef :: undef :: []) w) w) w) w) w) w) w)) w)) w)) w) w) w) w) w) w) :
    Gives Try.prog 20 #[] w K := enter' Try.func20 (by kernel_rfl) (Eq.mp (congrArg (fun c => cCode Try.prog c (retK Try.prog Try.f20.results.toList K) (fun _ _ _ => False) (retK Try.prog Try.f20.results.toList K) (undef :: undef :: undef :: undef :: undef :: undef :: undef :: undef :: undef :: undef :: undef :: undef :: undef :: undef :: undef :: undef :: undef :: undef :: undef :: undef :: undef :: undef :: undef :: undef :: undef :: undef :: undef :: undef :: undef :: undef :: undef :: undef :: undef :: undef :: undef :: undef :: undef :: undef :: undef :: undef :: undef :: undef :: undef :: undef :: undef :: undef :: undef :: undef :: undef :: undef :: undef :: undef :: undef :: undef :: undef :: undef :: undef :: undef :: undef :: undef :: undef :: undef :: undef :: undef :: undef :: undef :: undef :: undef :: undef :: undef :: undef :: undef :: undef :: undef :: undef :: undef :: undef :: undef :: undef :: undef :: undef :: undef :: undef :: undef :: undef :: undef :: undef :: undef :: undef :: undef :: undef :: undef :: undef :: undef :: undef :: undef :: undef :: undef :: undef :: undef :: undef :: undef :: undef :: undef :: undef :: undef :: undef :: undef :: undef :: undef :: undef :: undef :: undef :: undef :: undef :: undef :: undef :: undef :: undef :: undef :: undef :: undef :: undef :: undef :: undef :: undef :: undef :: undef :: undef :: undef :: undef :: undef :: undef :: undef :: undef :: undef :: undef :: undef :: []) w) (by kernel_rfl : (rep [1, 1, 1, 1, 1] (cd Try.f20 [1, 1, 1, 1, 1]) (cd Try.f20 [])) = (cd Try.f20 []))) (leatlaw05_works_k (cd Try.f20 [1, 1, 1, 1, 1]) h))
theorem leatlaw05_works_go : isGo Try.prog 20 := ⟨_, Try.func20, by kernel_rfl, by kernel_rfl⟩

theorem leatlaw05_works_A1_k {K : KV} (x0 : Code) {t0 d1 j2 l3 e4 a5 t6 m7 t8 b9 broken10 n11 f12 c13 t14 o15 t16 t17 t18 t19 t20 t21 t22 t23 t24 t25 t26 t27 t28 t29 t30 t31 t32 t33 t34 t35 t36 t37 t38 t39 t40 t41 t42 t43 t44 t45 t46 t47 t48 t49 t50 t51 t52 t53 t54 t55 t56 t57 t58 t59 t60 t61 t62 t63 t64 t65 t66 t67 t68 t69 t70 t71 t72 t73 t74 t75 t76 t77 t78 t79 t80 t81 t82 t83 t84 t85 t86 t87 t88 t89 t90 t91 t92 t93 t94 t95 t96 t97 t98 t99 t100 t101 t102 t103 t104 t105 t106 t107 t108 t109 t110 t111 t112 t113 t114 t115 t116 t117 t118 t119 t120 t121 t122 t123 t124 t125 t126 t127 t128 t129 t130 t131 t132 t133 t134 t135 t136 t137 : Value} {w : World}
    (h : call Try.prog 21 #[d1] (fun t44 w =>
    ext Try.prog t44 0 (fun t45 w =>
    ext Try.prog t44 1 (fun t46 w =>
    ext Try.prog t44 2 (fun t47 w =>
    call Try.prog 11 #[] (fun t48 w =>
    call Try.prog 21 #[t48] (fun t51 w =>
    ext Try.prog t51 0 (fun t52 w =>
    ext Try.prog t51 1 (fun t53 w =>
    ext Try.prog t51 2 (fun t54 w =>
    bldS Try.prog 29 1 #[(0, (Value.int IntKind.u8 97))] (fun t56 w =>
    conv Try.prog 29 29 t56 (fun t57 w =>
    bldS Try.prog 50 1 #[(0, t57)] (fun t58 w =>
    call Try.prog 23 #[t52, t58] (fun t59 w =>
    call Try.prog 22 #[t48, (Value.int IntKind.i64 1)] (fun t61 w =>
    (cCode Try.prog x0 (retK Try.prog Try.f20.results.toList K) (fun _ _ _ => False) (retK Try.prog Try.f20.results.toList K)) (t0 :: t48 :: t52 :: l3 :: e4 :: a5 :: t45 :: t46 :: t47 :: b9 :: broken10 :: n11 :: f12 :: c13 :: t14 :: o15 :: t16 :: t17 :: t18 :: t19 :: t20 :: t21 :: t22 :: t23 :: t24 :: t25 :: t26 :: t27 :: t28 :: t29 :: t30 :: t31 :: t32 :: t33 :: t34 :: t35 :: t36 :: t37 :: t38 :: t39 :: t40 :: t41 :: t44 :: d1 :: t44 :: t45 :: t46 :: t47 :: t48 :: t51 :: t48 :: t51 :: t52 :: t53 :: t54 :: t52 :: t56 :: t57 :: t58 :: t59 :: t48 :: t61 :: t62 :: t63 :: t64 :: t65 :: t66 :: t67 :: t68 :: t69 :: t70 :: t71 :: t72 :: t73 :: t74 :: t75 :: t76 :: t77 :: t78 :: t79 :: t80 :: t81 :: t82 :: t83 :: t84 :: t85 :: t86 :: t87 :: t88 :: t89 :: t90 :: t91 :: t92 :: t93 :: t94 :: t95 :: t96 :: t97 :: t98 :: t99 :: t100 :: t101 :: t102 :: t103 :: t104 :: t105 :: t106 :: t107 :: t108 :: t109 :: t110 :: t111 :: t112 :: t113 :: t114 :: t115 :: t116 :: t117 :: t118 :: t119 :: t120 :: t121 :: t122 :: t123 :: t124 :: t125 :: t126 :: t127 :: t128 :: t129 :: t130 :: t131 :: t132 :: t133 :: t134 :: t135 :: t136 :: t137 :: []) w) w) w) w) w) w) w) w) w) w) w) w) w) w) w) :
    cCode Try.prog (rep [1, 1, 1, 1, 1] x0 (cd Try.f20 [1, 1, 1, 1, 1])) (retK Try.prog Try.f20.results.toList K) (fun _ _ _ => False) (retK Try.prog Try.f20.results.toList K) (t0 :: d1 :: j2 :: l3 :: e4 :: a5 :: t6 :: m7 :: t8 :: b9 :: broken10 :: n11 :: f12 :: c13 :: t14 :: o15 :: t16 :: t17 :: t18 :: t19 :: t20 :: t21 :: t22 :: t23 :: t24 :: t25 :: t26 :: t27 :: t28 :: t29 :: t30 :: t31 :: t32 :: t33 :: t34 :: t35 :: t36 :: t37 :: t38 :: t39 :: t40 :: t41 :: t42 :: t43 :: t44 :: t45 :: t46 :: t47 :: t48 :: t49 :: t50 :: t51 :: t52 :: t53 :: t54 :: t55 :: t56 :: t57 :: t58 :: t59 :: t60 :: t61 :: t62 :: t63 :: t64 :: t65 :: t66 :: t67 :: t68 :: t69 :: t70 :: t71 :: t72 :: t73 :: t74 :: t75 :: t76 :: t77 :: t78 :: t79 :: t80 :: t81 :: t82 :: t83 :: t84 :: t85 :: t86 :: t87 :: t88 :: t89 :: t90 :: t91 :: t92 :: t93 :: t94 :: t95 :: t96 :: t97 :: t98 :: t99 :: t100 :: t101 :: t102 :: t103 :: t104 :: t105 :: t106 :: t107 :: t108 :: t109 :: t110 :: t111 :: t112 :: t113 :: t114 :: t115 :: t116 :: t117 :: t118 :: t119 :: t120 :: t121 :: t122 :: t123 :: t124 :: t125 :: t126 :: t127 :: t128 :: t129 :: t130 :: t131 :: t132 :: t133 :: t134 :: t135 :: t136 :: t137 :: []) w := Eq.mp (by kernel_rfl) h

theorem leatlaw05_works_A1_r {K : KV} {t0 d1 j2 l3 e4 a5 t6 m7 t8 b9 broken10 n11 f12 c13 t14 o15 t16 t17 t18 t19 t20 t21 t22 t23 t24 t25 t26 t27 t28 t29 t30 t31 t32 t33 t34 t35 t36 t37 t38 t39 t40 t41 t42 t43 t44 t45 t46 t47 t48 t49 t50 t51 t52 t53 t54 t55 t56 t57 t58 t59 t60 t61 t62 t63 t64 t65 t66 t67 t68 t69 t70 t71 t72 t73 t74 t75 t76 t77 t78 t79 t80 t81 t82 t83 t84 t85 t86 t87 t88 t89 t90 t91 t92 t93 t94 t95 t96 t97 t98 t99 t100 t101 t102 t103 t104 t105 t106 t107 t108 t109 t110 t111 t112 t113 t114 t115 t116 t117 t118 t119 t120 t121 t122 t123 t124 t125 t126 t127 t128 t129 t130 t131 t132 t133 t134 t135 t136 t137 : Value} {w : World}
    (h : call Try.prog 21 #[d1] (fun t44 w =>
    ext Try.prog t44 0 (fun t45 w =>
    ext Try.prog t44 1 (fun t46 w =>
    ext Try.prog t44 2 (fun t47 w =>
    call Try.prog 11 #[] (fun t48 w =>
    call Try.prog 21 #[t48] (fun t51 w =>
    ext Try.prog t51 0 (fun t52 w =>
    ext Try.prog t51 1 (fun t53 w =>
    ext Try.prog t51 2 (fun t54 w =>
    bldS Try.prog 29 1 #[(0, (Value.int IntKind.u8 97))] (fun t56 w =>
    conv Try.prog 29 29 t56 (fun t57 w =>
    bldS Try.prog 50 1 #[(0, t57)] (fun t58 w =>
    call Try.prog 23 #[t52, t58] (fun t59 w =>
    call Try.prog 22 #[t48, (Value.int IntKind.i64 1)] (fun t61 w =>
    (leatlaw05_works_A2 K) (t0 :: t48 :: t52 :: l3 :: e4 :: a5 :: t45 :: t46 :: t47 :: b9 :: broken10 :: n11 :: f12 :: c13 :: t14 :: o15 :: t16 :: t17 :: t18 :: t19 :: t20 :: t21 :: t22 :: t23 :: t24 :: t25 :: t26 :: t27 :: t28 :: t29 :: t30 :: t31 :: t32 :: t33 :: t34 :: t35 :: t36 :: t37 :: t38 :: t39 :: t40 :: t41 :: t44 :: d1 :: t44 :: t45 :: t46 :: t47 :: t48 :: t51 :: t48 :: t51 :: t52 :: t53 :: t54 :: t52 :: t56 :: t57 :: t58 :: t59 :: t48 :: t61 :: t62 :: t63 :: t64 :: t65 :: t66 :: t67 :: t68 :: t69 :: t70 :: t71 :: t72 :: t73 :: t74 :: t75 :: t76 :: t77 :: t78 :: t79 :: t80 :: t81 :: t82 :: t83 :: t84 :: t85 :: t86 :: t87 :: t88 :: t89 :: t90 :: t91 :: t92 :: t93 :: t94 :: t95 :: t96 :: t97 :: t98 :: t99 :: t100 :: t101 :: t102 :: t103 :: t104 :: t105 :: t106 :: t107 :: t108 :: t109 :: t110 :: t111 :: t112 :: t113 :: t114 :: t115 :: t116 :: t117 :: t118 :: t119 :: t120 :: t121 :: t122 :: t123 :: t124 :: t125 :: t126 :: t127 :: t128 :: t129 :: t130 :: t131 :: t132 :: t133 :: t134 :: t135 :: t136 :: t137 :: []) w) w) w) w) w) w) w) w) w) w) w) w) w) w) w) :
    leatlaw05_works_A1 K (t0 :: d1 :: j2 :: l3 :: e4 :: a5 :: t6 :: m7 :: t8 :: b9 :: broken10 :: n11 :: f12 :: c13 :: t14 :: o15 :: t16 :: t17 :: t18 :: t19 :: t20 :: t21 :: t22 :: t23 :: t24 :: t25 :: t26 :: t27 :: t28 :: t29 :: t30 :: t31 :: t32 :: t33 :: t34 :: t35 :: t36 :: t37 :: t38 :: t39 :: t40 :: t41 :: t42 :: t43 :: t44 :: t45 :: t46 :: t47 :: t48 :: t49 :: t50 :: t51 :: t52 :: t53 :: t54 :: t55 :: t56 :: t57 :: t58 :: t59 :: t60 :: t61 :: t62 :: t63 :: t64 :: t65 :: t66 :: t67 :: t68 :: t69 :: t70 :: t71 :: t72 :: t73 :: t74 :: t75 :: t76 :: t77 :: t78 :: t79 :: t80 :: t81 :: t82 :: t83 :: t84 :: t85 :: t86 :: t87 :: t88 :: t89 :: t90 :: t91 :: t92 :: t93 :: t94 :: t95 :: t96 :: t97 :: t98 :: t99 :: t100 :: t101 :: t102 :: t103 :: t104 :: t105 :: t106 :: t107 :: t108 :: t109 :: t110 :: t111 :: t112 :: t113 :: t114 :: t115 :: t116 :: t117 :: t118 :: t119 :: t120 :: t121 :: t122 :: t123 :: t124 :: t125 :: t126 :: t127 :: t128 :: t129 :: t130 :: t131 :: t132 :: t133 :: t134 :: t135 :: t136 :: t137 :: []) w := by
  delta leatlaw05_works_A1
  exact Eq.mp (congrArg (fun c => cCode Try.prog c (retK Try.prog Try.f20.results.toList K) (fun _ _ _ => False) (retK Try.prog Try.f20.results.toList K) (t0 :: d1 :: j2 :: l3 :: e4 :: a5 :: t6 :: m7 :: t8 :: b9 :: broken10 :: n11 :: f12 :: c13 :: t14 :: o15 :: t16 :: t17 :: t18 :: t19 :: t20 :: t21 :: t22 :: t23 :: t24 :: t25 :: t26 :: t27 :: t28 :: t29 :: t30 :: t31 :: t32 :: t33 :: t34 :: t35 :: t36 :: t37 :: t38 :: t39 :: t40 :: t41 :: t42 :: t43 :: t44 :: t45 :: t46 :: t47 :: t48 :: t49 :: t50 :: t51 :: t52 :: t53 :: t54 :: t55 :: t56 :: t57 :: t58 :: t59 :: t60 :: t61 :: t62 :: t63 :: t64 :: t65 :: t66 :: t67 :: t68 :: t69 :: t70 :: t71 :: t72 :: t73 :: t74 :: t75 :: t76 :: t77 :: t78 :: t79 :: t80 :: t81 :: t82 :: t83 :: t84 :: t85 :: t86 :: t87 :: t88 :: t89 :: t90 :: t91 :: t92 :: t93 :: t94 :: t95 :: t96 :: t97 :: t98 :: t99 :: t100 :: t101 :: t102 :: t103 :: t104 :: t105 :: t106 :: t107 :: t108 :: t109 :: t110 :: t111 :: t112 :: t113 :: t114 :: t115 :: t116 :: t117 :: t118 :: t119 :: t120 :: t121 :: t122 :: t123 :: t124 :: t125 :: t126 :: t127 :: t128 :: t129 :: t130 :: t131 :: t132 :: t133 :: t134 :: t135 :: t136 :: t137 :: []) w) (by kernel_rfl : (rep [1, 1, 1, 1, 1] (cd Try.f20 [1, 1, 1, 1, 1, 1, 1, 1, 1, 1]) (cd Try.f20 [1, 1, 1, 1, 1])) = (cd Try.f20 [1, 1, 1, 1, 1]))) (leatlaw05_works_A1_k (cd Try.f20 [1, 1, 1, 1, 1, 1, 1, 1, 1, 1]) h)

theorem leatlaw05_works_A2_k {K : KV} (x0 : Code) {t0 d1 j2 l3 e4 a5 t6 m7 t8 b9 broken10 n11 f12 c13 t14 o15 t16 t17 t18 t19 t20 t21 t22 t23 t24 t25 t26 t27 t28 t29 t30 t31 t32 t33 t34 t35 t36 t37 t38 t39 t40 t41 t42 t43 t44 t45 t46 t47 t48 t49 t50 t51 t52 t53 t54 t55 t56 t57 t58 t59 t60 t61 t62 t63 t64 t65 t66 t67 t68 t69 t70 t71 t72 t73 t74 t75 t76 t77 t78 t79 t80 t81 t82 t83 t84 t85 t86 t87 t88 t89 t90 t91 t92 t93 t94 t95 t96 t97 t98 t99 t100 t101 t102 t103 t104 t105 t106 t107 t108 t109 t110 t111 t112 t113 t114 t115 t116 t117 t118 t119 t120 t121 t122 t123 t124 t125 t126 t127 t128 t129 t130 t131 t132 t133 t134 t135 t136 t137 : Value} {w : World}
    (h : bldS Try.prog 29 1 #[(0, (Value.int IntKind.u8 98))] (fun t63 w =>
    conv Try.prog 29 29 t63 (fun t64 w =>
    bldS Try.prog 50 1 #[(0, t64)] (fun t65 w =>
    call Try.prog 23 #[j2, t65] (fun t66 w =>
    call Try.prog 31 #[j2] (fun t68 w =>
    un Try.prog UnOp.not t68 (fun t69 w =>
    gsel t69 true (fun k71 =>
    call Try.prog 23 #[j2, (Value.slice none 0 0)] (fun t72 w =>
    bin Try.prog BinOp.eql 33 false true t72 (Value.int IntKind.i64 3) (fun t73 w =>
    k71 [j2, t72, t73] w) w) w)
    (fun k => k [undef, undef, undef] w) (fun us71 w =>
    pick t69 (gd us71 2) (Value.bool false) (fun t74 w =>
    bldS Try.prog 30 2 #[(0, (Value.int IntKind.i64 0)), (1, (Value.int IntKind.i64 8))] (fun t76 w =>
    call Try.prog 25 #[d1, t76] (fun t77 w =>
    call Try.prog 21 #[d1] (fun t80 w =>
    ext Try.prog t80 0 (fun t81 w =>
    ext Try.prog t80 1 (fun t82 w =>
    ext Try.prog t80 2 (fun t83 w =>
    (cCode Try.prog x0 (retK Try.prog Try.f20.results.toList K) (fun _ _ _ => False) (retK Try.prog Try.f20.results.toList K)) (t0 :: d1 :: t81 :: l3 :: e4 :: a5 :: t6 :: m7 :: t8 :: t66 :: t74 :: t82 :: t83 :: c13 :: t14 :: o15 :: t16 :: t17 :: t18 :: t19 :: t20 :: t21 :: t22 :: t23 :: t24 :: t25 :: t26 :: t27 :: t28 :: t29 :: t30 :: t31 :: t32 :: t33 :: t34 :: t35 :: t36 :: t37 :: t38 :: t39 :: t40 :: t41 :: t42 :: t43 :: t44 :: t45 :: t46 :: t47 :: t48 :: t49 :: t50 :: t51 :: t52 :: t53 :: t54 :: t55 :: t56 :: t57 :: t58 :: t59 :: t60 :: t61 :: j2 :: t63 :: t64 :: t65 :: t66 :: j2 :: t68 :: t69 :: t69 :: (gd us71 0) :: (gd us71 1) :: (gd us71 2) :: t74 :: d1 :: t76 :: t77 :: t80 :: d1 :: t80 :: t81 :: t82 :: t83 :: t84 :: t85 :: t86 :: t87 :: t88 :: t89 :: t90 :: t91 :: t92 :: t93 :: t94 :: t95 :: t96 :: t97 :: t98 :: t99 :: t100 :: t101 :: t102 :: t103 :: t104 :: t105 :: t106 :: t107 :: t108 :: t109 :: t110 :: t111 :: t112 :: t113 :: t114 :: t115 :: t116 :: t117 :: t118 :: t119 :: t120 :: t121 :: t122 :: t123 :: t124 :: t125 :: t126 :: t127 :: t128 :: t129 :: t130 :: t131 :: t132 :: t133 :: t134 :: t135 :: t136 :: t137 :: []) w) w) w) w) w) w) w) w)) w) w) w) w) w) w) :
    cCode Try.prog (rep [1, 1, 1, 1] x0 (cd Try.f20 [1, 1, 1, 1, 1, 1, 1, 1, 1, 1])) (retK Try.prog Try.f20.results.toList K) (fun _ _ _ => False) (retK Try.prog Try.f20.results.toList K) (t0 :: d1 :: j2 :: l3 :: e4 :: a5 :: t6 :: m7 :: t8 :: b9 :: broken10 :: n11 :: f12 :: c13 :: t14 :: o15 :: t16 :: t17 :: t18 :: t19 :: t20 :: t21 :: t22 :: t23 :: t24 :: t25 :: t26 :: t27 :: t28 :: t29 :: t30 :: t31 :: t32 :: t33 :: t34 :: t35 :: t36 :: t37 :: t38 :: t39 :: t40 :: t41 :: t42 :: t43 :: t44 :: t45 :: t46 :: t47 :: t48 :: t49 :: t50 :: t51 :: t52 :: t53 :: t54 :: t55 :: t56 :: t57 :: t58 :: t59 :: t60 :: t61 :: t62 :: t63 :: t64 :: t65 :: t66 :: t67 :: t68 :: t69 :: t70 :: t71 :: t72 :: t73 :: t74 :: t75 :: t76 :: t77 :: t78 :: t79 :: t80 :: t81 :: t82 :: t83 :: t84 :: t85 :: t86 :: t87 :: t88 :: t89 :: t90 :: t91 :: t92 :: t93 :: t94 :: t95 :: t96 :: t97 :: t98 :: t99 :: t100 :: t101 :: t102 :: t103 :: t104 :: t105 :: t106 :: t107 :: t108 :: t109 :: t110 :: t111 :: t112 :: t113 :: t114 :: t115 :: t116 :: t117 :: t118 :: t119 :: t120 :: t121 :: t122 :: t123 :: t124 :: t125 :: t126 :: t127 :: t128 :: t129 :: t130 :: t131 :: t132 :: t133 :: t134 :: t135 :: t136 :: t137 :: []) w := Eq.mp (by kernel_rfl) h

theorem leatlaw05_works_A2_r {K : KV} {t0 d1 j2 l3 e4 a5 t6 m7 t8 b9 broken10 n11 f12 c13 t14 o15 t16 t17 t18 t19 t20 t21 t22 t23 t24 t25 t26 t27 t28 t29 t30 t31 t32 t33 t34 t35 t36 t37 t38 t39 t40 t41 t42 t43 t44 t45 t46 t47 t48 t49 t50 t51 t52 t53 t54 t55 t56 t57 t58 t59 t60 t61 t62 t63 t64 t65 t66 t67 t68 t69 t70 t71 t72 t73 t74 t75 t76 t77 t78 t79 t80 t81 t82 t83 t84 t85 t86 t87 t88 t89 t90 t91 t92 t93 t94 t95 t96 t97 t98 t99 t100 t101 t102 t103 t104 t105 t106 t107 t108 t109 t110 t111 t112 t113 t114 t115 t116 t117 t118 t119 t120 t121 t122 t123 t124 t125 t126 t127 t128 t129 t130 t131 t132 t133 t134 t135 t136 t137 : Value} {w : World}
    (h : bldS Try.prog 29 1 #[(0, (Value.int IntKind.u8 98))] (fun t63 w =>
    conv Try.prog 29 29 t63 (fun t64 w =>
    bldS Try.prog 50 1 #[(0, t64)] (fun t65 w =>
    call Try.prog 23 #[j2, t65] (fun t66 w =>
    call Try.prog 31 #[j2] (fun t68 w =>
    un Try.prog UnOp.not t68 (fun t69 w =>
    gsel t69 true (fun k71 =>
    call Try.prog 23 #[j2, (Value.slice none 0 0)] (fun t72 w =>
    bin Try.prog BinOp.eql 33 false true t72 (Value.int IntKind.i64 3) (fun t73 w =>
    k71 [j2, t72, t73] w) w) w)
    (fun k => k [undef, undef, undef] w) (fun us71 w =>
    pick t69 (gd us71 2) (Value.bool false) (fun t74 w =>
    bldS Try.prog 30 2 #[(0, (Value.int IntKind.i64 0)), (1, (Value.int IntKind.i64 8))] (fun t76 w =>
    call Try.prog 25 #[d1, t76] (fun t77 w =>
    call Try.prog 21 #[d1] (fun t80 w =>
    ext Try.prog t80 0 (fun t81 w =>
    ext Try.prog t80 1 (fun t82 w =>
    ext Try.prog t80 2 (fun t83 w =>
    (leatlaw05_works_A3 K) (t0 :: d1 :: t81 :: l3 :: e4 :: a5 :: t6 :: m7 :: t8 :: t66 :: t74 :: t82 :: t83 :: c13 :: t14 :: o15 :: t16 :: t17 :: t18 :: t19 :: t20 :: t21 :: t22 :: t23 :: t24 :: t25 :: t26 :: t27 :: t28 :: t29 :: t30 :: t31 :: t32 :: t33 :: t34 :: t35 :: t36 :: t37 :: t38 :: t39 :: t40 :: t41 :: t42 :: t43 :: t44 :: t45 :: t46 :: t47 :: t48 :: t49 :: t50 :: t51 :: t52 :: t53 :: t54 :: t55 :: t56 :: t57 :: t58 :: t59 :: t60 :: t61 :: j2 :: t63 :: t64 :: t65 :: t66 :: j2 :: t68 :: t69 :: t69 :: (gd us71 0) :: (gd us71 1) :: (gd us71 2) :: t74 :: d1 :: t76 :: t77 :: t80 :: d1 :: t80 :: t81 :: t82 :: t83 :: t84 :: t85 :: t86 :: t87 :: t88 :: t89 :: t90 :: t91 :: t92 :: t93 :: t94 :: t95 :: t96 :: t97 :: t98 :: t99 :: t100 :: t101 :: t102 :: t103 :: t104 :: t105 :: t106 :: t107 :: t108 :: t109 :: t110 :: t111 :: t112 :: t113 :: t114 :: t115 :: t116 :: t117 :: t118 :: t119 :: t120 :: t121 :: t122 :: t123 :: t124 :: t125 :: t126 :: t127 :: t128 :: t129 :: t130 :: t131 :: t132 :: t133 :: t134 :: t135 :: t136 :: t137 :: []) w) w) w) w) w) w) w) w)) w) w) w) w) w) w) :
    leatlaw05_works_A2 K (t0 :: d1 :: j2 :: l3 :: e4 :: a5 :: t6 :: m7 :: t8 :: b9 :: broken10 :: n11 :: f12 :: c13 :: t14 :: o15 :: t16 :: t17 :: t18 :: t19 :: t20 :: t21 :: t22 :: t23 :: t24 :: t25 :: t26 :: t27 :: t28 :: t29 :: t30 :: t31 :: t32 :: t33 :: t34 :: t35 :: t36 :: t37 :: t38 :: t39 :: t40 :: t41 :: t42 :: t43 :: t44 :: t45 :: t46 :: t47 :: t48 :: t49 :: t50 :: t51 :: t52 :: t53 :: t54 :: t55 :: t56 :: t57 :: t58 :: t59 :: t60 :: t61 :: t62 :: t63 :: t64 :: t65 :: t66 :: t67 :: t68 :: t69 :: t70 :: t71 :: t72 :: t73 :: t74 :: t75 :: t76 :: t77 :: t78 :: t79 :: t80 :: t81 :: t82 :: t83 :: t84 :: t85 :: t86 :: t87 :: t88 :: t89 :: t90 :: t91 :: t92 :: t93 :: t94 :: t95 :: t96 :: t97 :: t98 :: t99 :: t100 :: t101 :: t102 :: t103 :: t104 :: t105 :: t106 :: t107 :: t108 :: t109 :: t110 :: t111 :: t112 :: t113 :: t114 :: t115 :: t116 :: t117 :: t118 :: t119 :: t120 :: t121 :: t122 :: t123 :: t124 :: t125 :: t126 :: t127 :: t128 :: t129 :: t130 :: t131 :: t132 :: t133 :: t134 :: t135 :: t136 :: t137 :: []) w := by
  delta leatlaw05_works_A2
  exact Eq.mp (congrArg (fun c => cCode Try.prog c (retK Try.prog Try.f20.results.toList K) (fun _ _ _ => False) (retK Try.prog Try.f20.results.toList K) (t0 :: d1 :: j2 :: l3 :: e4 :: a5 :: t6 :: m7 :: t8 :: b9 :: broken10 :: n11 :: f12 :: c13 :: t14 :: o15 :: t16 :: t17 :: t18 :: t19 :: t20 :: t21 :: t22 :: t23 :: t24 :: t25 :: t26 :: t27 :: t28 :: t29 :: t30 :: t31 :: t32 :: t33 :: t34 :: t35 :: t36 :: t37 :: t38 :: t39 :: t40 :: t41 :: t42 :: t43 :: t44 :: t45 :: t46 :: t47 :: t48 :: t49 :: t50 :: t51 :: t52 :: t53 :: t54 :: t55 :: t56 :: t57 :: t58 :: t59 :: t60 :: t61 :: t62 :: t63 :: t64 :: t65 :: t66 :: t67 :: t68 :: t69 :: t70 :: t71 :: t72 :: t73 :: t74 :: t75 :: t76 :: t77 :: t78 :: t79 :: t80 :: t81 :: t82 :: t83 :: t84 :: t85 :: t86 :: t87 :: t88 :: t89 :: t90 :: t91 :: t92 :: t93 :: t94 :: t95 :: t96 :: t97 :: t98 :: t99 :: t100 :: t101 :: t102 :: t103 :: t104 :: t105 :: t106 :: t107 :: t108 :: t109 :: t110 :: t111 :: t112 :: t113 :: t114 :: t115 :: t116 :: t117 :: t118 :: t119 :: t120 :: t121 :: t122 :: t123 :: t124 :: t125 :: t126 :: t127 :: t128 :: t129 :: t130 :: t131 :: t132 :: t133 :: t134 :: t135 :: t136 :: t137 :: []) w) (by kernel_rfl : (rep [1, 1, 1, 1] (cd Try.f20 [1, 1, 1, 1, 1, 1, 1, 1, 1, 1, 1, 1, 1, 1]) (cd Try.f20 [1, 1, 1, 1, 1, 1, 1, 1, 1, 1])) = (cd Try.f20 [1, 1, 1, 1, 1, 1, 1, 1, 1, 1]))) (leatlaw05_works_A2_k (cd Try.f20 [1, 1, 1, 1, 1, 1, 1, 1, 1, 1, 1, 1, 1, 1]) h)

theorem leatlaw05_works_A3_k {K : KV} (x0 : Code) {t0 d1 j2 l3 e4 a5 t6 m7 t8 b9 broken10 n11 f12 c13 t14 o15 t16 t17 t18 t19 t20 t21 t22 t23 t24 t25 t26 t27 t28 t29 t30 t31 t32 t33 t34 t35 t36 t37 t38 t39 t40 t41 t42 t43 t44 t45 t46 t47 t48 t49 t50 t51 t52 t53 t54 t55 t56 t57 t58 t59 t60 t61 t62 t63 t64 t65 t66 t67 t68 t69 t70 t71 t72 t73 t74 t75 t76 t77 t78 t79 t80 t81 t82 t83 t84 t85 t86 t87 t88 t89 t90 t91 t92 t93 t94 t95 t96 t97 t98 t99 t100 t101 t102 t103 t104 t105 t106 t107 t108 t109 t110 t111 t112 t113 t114 t115 t116 t117 t118 t119 t120 t121 t122 t123 t124 t125 t126 t127 t128 t129 t130 t131 t132 t133 t134 t135 t136 t137 : Value} {w : World}
    (h : bin Try.prog BinOp.neq 33 false true f12 (Value.int IntKind.i64 0) (fun t85 w =>
    gsel t85 false (fun k87 =>
    bin Try.prog BinOp.eql 49 false true j2 (Value.pointer none) (fun t88 w =>
    k87 [j2, t88] w) w)
    (fun k => k [undef, undef] w) (fun us87 w =>
    pick t85 (Value.bool true) (gd us87 1) (fun t89 w =>
    cond t89
      (K (Value.bool false) w)
      (call Try.prog 22 #[d1, (Value.int IntKind.i64 3)] (fun t91 w =>
    bldS Try.prog 29 1 #[(0, (Value.int IntKind.u8 122))] (fun t93 w =>
    conv Try.prog 29 29 t93 (fun t94 w =>
    bldS Try.prog 50 1 #[(0, t94)] (fun t95 w =>
    call Try.prog 24 #[j2, t95] (fun t96 w =>
    bldS Try.prog 30 1 #[(0, (Value.int IntKind.i64 1))] (fun t98 w =>
    call Try.prog 25 #[d1, t98] (fun t99 w =>
    call Try.prog 21 #[d1] (fun t102 w =>
    ext Try.prog t102 0 (fun t103 w =>
    ext Try.prog t102 1 (fun t104 w =>
    ext Try.prog t102 2 (fun t105 w =>
    (cCode Try.prog x0 (retK Try.prog Try.f20.results.toList K) (fun _ _ _ => False) (retK Try.prog Try.f20.results.toList K)) (t0 :: d1 :: j2 :: l3 :: e4 :: a5 :: t6 :: m7 :: t8 :: b9 :: broken10 :: n11 :: f12 :: t96 :: t103 :: t104 :: t105 :: t17 :: t18 :: t19 :: t20 :: t21 :: t22 :: t23 :: t24 :: t25 :: t26 :: t27 :: t28 :: t29 :: t30 :: t31 :: t32 :: t33 :: t34 :: t35 :: t36 :: t37 :: t38 :: t39 :: t40 :: t41 :: t42 :: t43 :: t44 :: t45 :: t46 :: t47 :: t48 :: t49 :: t50 :: t51 :: t52 :: t53 :: t54 :: t55 :: t56 :: t57 :: t58 :: t59 :: t60 :: t61 :: t62 :: t63 :: t64 :: t65 :: t66 :: t67 :: t68 :: t69 :: t70 :: t71 :: t72 :: t73 :: t74 :: t75 :: t76 :: t77 :: t78 :: t79 :: t80 :: t81 :: t82 :: t83 :: f12 :: t85 :: t85 :: (gd us87 0) :: (gd us87 1) :: t89 :: d1 :: t91 :: j2 :: t93 :: t94 :: t95 :: t96 :: d1 :: t98 :: t99 :: t102 :: d1 :: t102 :: t103 :: t104 :: t105 :: t106 :: t107 :: t108 :: t109 :: t110 :: t111 :: t112 :: t113 :: t114 :: t115 :: t116 :: t117 :: t118 :: t119 :: t120 :: t121 :: t122 :: t123 :: t124 :: t125 :: t126 :: t127 :: t128 :: t129 :: t130 :: t131 :: t132 :: t133 :: t134 :: t135 :: t136 :: t137 :: []) w) w) w) w) w) w) w) w) w) w) w) w)) w)) w) :
    cCode Try.prog (rep [1, 1, 1, 1, 1] x0 (cd Try.f20 [1, 1, 1, 1, 1, 1, 1, 1, 1, 1, 1, 1, 1, 1])) (retK Try.prog Try.f20.results.toList K) (fun _ _ _ => False) (retK Try.prog Try.f20.results.toList K) (t0 :: d1 :: j2 :: l3 :: e4 :: a5 :: t6 :: m7 :: t8 :: b9 :: broken10 :: n11 :: f12 :: c13 :: t14 :: o15 :: t16 :: t17 :: t18 :: t19 :: t20 :: t21 :: t22 :: t23 :: t24 :: t25 :: t26 :: t27 :: t28 :: t29 :: t30 :: t31 :: t32 :: t33 :: t34 :: t35 :: t36 :: t37 :: t38 :: t39 :: t40 :: t41 :: t42 :: t43 :: t44 :: t45 :: t46 :: t47 :: t48 :: t49 :: t50 :: t51 :: t52 :: t53 :: t54 :: t55 :: t56 :: t57 :: t58 :: t59 :: t60 :: t61 :: t62 :: t63 :: t64 :: t65 :: t66 :: t67 :: t68 :: t69 :: t70 :: t71 :: t72 :: t73 :: t74 :: t75 :: t76 :: t77 :: t78 :: t79 :: t80 :: t81 :: t82 :: t83 :: t84 :: t85 :: t86 :: t87 :: t88 :: t89 :: t90 :: t91 :: t92 :: t93 :: t94 :: t95 :: t96 :: t97 :: t98 :: t99 :: t100 :: t101 :: t102 :: t103 :: t104 :: t105 :: t106 :: t107 :: t108 :: t109 :: t110 :: t111 :: t112 :: t113 :: t114 :: t115 :: t116 :: t117 :: t118 :: t119 :: t120 :: t121 :: t122 :: t123 :: t124 :: t125 :: t126 :: t127 :: t128 :: t129 :: t130 :: t131 :: t132 :: t133 :: t134 :: t135 :: t136 :: t137 :: []) w := Eq.mp (by kernel_rfl) h

theorem leatlaw05_works_A3_r {K : KV} {t0 d1 j2 l3 e4 a5 t6 m7 t8 b9 broken10 n11 f12 c13 t14 o15 t16 t17 t18 t19 t20 t21 t22 t23 t24 t25 t26 t27 t28 t29 t30 t31 t32 t33 t34 t35 t36 t37 t38 t39 t40 t41 t42 t43 t44 t45 t46 t47 t48 t49 t50 t51 t52 t53 t54 t55 t56 t57 t58 t59 t60 t61 t62 t63 t64 t65 t66 t67 t68 t69 t70 t71 t72 t73 t74 t75 t76 t77 t78 t79 t80 t81 t82 t83 t84 t85 t86 t87 t88 t89 t90 t91 t92 t93 t94 t95 t96 t97 t98 t99 t100 t101 t102 t103 t104 t105 t106 t107 t108 t109 t110 t111 t112 t113 t114 t115 t116 t117 t118 t119 t120 t121 t122 t123 t124 t125 t126 t127 t128 t129 t130 t131 t132 t133 t134 t135 t136 t137 : Value} {w : World}
    (h : bin Try.prog BinOp.neq 33 false true f12 (Value.int IntKind.i64 0) (fun t85 w =>
    gsel t85 false (fun k87 =>
    bin Try.prog BinOp.eql 49 false true j2 (Value.pointer none) (fun t88 w =>
    k87 [j2, t88] w) w)
    (fun k => k [undef, undef] w) (fun us87 w =>
    pick t85 (Value.bool true) (gd us87 1) (fun t89 w =>
    cond t89
      (K (Value.bool false) w)
      (call Try.prog 22 #[d1, (Value.int IntKind.i64 3)] (fun t91 w =>
    bldS Try.prog 29 1 #[(0, (Value.int IntKind.u8 122))] (fun t93 w =>
    conv Try.prog 29 29 t93 (fun t94 w =>
    bldS Try.prog 50 1 #[(0, t94)] (fun t95 w =>
    call Try.prog 24 #[j2, t95] (fun t96 w =>
    bldS Try.prog 30 1 #[(0, (Value.int IntKind.i64 1))] (fun t98 w =>
    call Try.prog 25 #[d1, t98] (fun t99 w =>
    call Try.prog 21 #[d1] (fun t102 w =>
    ext Try.prog t102 0 (fun t103 w =>
    ext Try.prog t102 1 (fun t104 w =>
    ext Try.prog t102 2 (fun t105 w =>
    (leatlaw05_works_A4 K) (t0 :: d1 :: j2 :: l3 :: e4 :: a5 :: t6 :: m7 :: t8 :: b9 :: broken10 :: n11 :: f12 :: t96 :: t103 :: t104 :: t105 :: t17 :: t18 :: t19 :: t20 :: t21 :: t22 :: t23 :: t24 :: t25 :: t26 :: t27 :: t28 :: t29 :: t30 :: t31 :: t32 :: t33 :: t34 :: t35 :: t36 :: t37 :: t38 :: t39 :: t40 :: t41 :: t42 :: t43 :: t44 :: t45 :: t46 :: t47 :: t48 :: t49 :: t50 :: t51 :: t52 :: t53 :: t54 :: t55 :: t56 :: t57 :: t58 :: t59 :: t60 :: t61 :: t62 :: t63 :: t64 :: t65 :: t66 :: t67 :: t68 :: t69 :: t70 :: t71 :: t72 :: t73 :: t74 :: t75 :: t76 :: t77 :: t78 :: t79 :: t80 :: t81 :: t82 :: t83 :: f12 :: t85 :: t85 :: (gd us87 0) :: (gd us87 1) :: t89 :: d1 :: t91 :: j2 :: t93 :: t94 :: t95 :: t96 :: d1 :: t98 :: t99 :: t102 :: d1 :: t102 :: t103 :: t104 :: t105 :: t106 :: t107 :: t108 :: t109 :: t110 :: t111 :: t112 :: t113 :: t114 :: t115 :: t116 :: t117 :: t118 :: t119 :: t120 :: t121 :: t122 :: t123 :: t124 :: t125 :: t126 :: t127 :: t128 :: t129 :: t130 :: t131 :: t132 :: t133 :: t134 :: t135 :: t136 :: t137 :: []) w) w) w) w) w) w) w) w) w) w) w) w)) w)) w) :
    leatlaw05_works_A3 K (t0 :: d1 :: j2 :: l3 :: e4 :: a5 :: t6 :: m7 :: t8 :: b9 :: broken10 :: n11 :: f12 :: c13 :: t14 :: o15 :: t16 :: t17 :: t18 :: t19 :: t20 :: t21 :: t22 :: t23 :: t24 :: t25 :: t26 :: t27 :: t28 :: t29 :: t30 :: t31 :: t32 :: t33 :: t34 :: t35 :: t36 :: t37 :: t38 :: t39 :: t40 :: t41 :: t42 :: t43 :: t44 :: t45 :: t46 :: t47 :: t48 :: t49 :: t50 :: t51 :: t52 :: t53 :: t54 :: t55 :: t56 :: t57 :: t58 :: t59 :: t60 :: t61 :: t62 :: t63 :: t64 :: t65 :: t66 :: t67 :: t68 :: t69 :: t70 :: t71 :: t72 :: t73 :: t74 :: t75 :: t76 :: t77 :: t78 :: t79 :: t80 :: t81 :: t82 :: t83 :: t84 :: t85 :: t86 :: t87 :: t88 :: t89 :: t90 :: t91 :: t92 :: t93 :: t94 :: t95 :: t96 :: t97 :: t98 :: t99 :: t100 :: t101 :: t102 :: t103 :: t104 :: t105 :: t106 :: t107 :: t108 :: t109 :: t110 :: t111 :: t112 :: t113 :: t114 :: t115 :: t116 :: t117 :: t118 :: t119 :: t120 :: t121 :: t122 :: t123 :: t124 :: t125 :: t126 :: t127 :: t128 :: t129 :: t130 :: t131 :: t132 :: t133 :: t134 :: t135 :: t136 :: t137 :: []) w := by
  delta leatlaw05_works_A3
  exact Eq.mp (congrArg (fun c => cCode Try.prog c (retK Try.prog Try.f20.results.toList K) (fun _ _ _ => False) (retK Try.prog Try.f20.results.toList K) (t0 :: d1 :: j2 :: l3 :: e4 :: a5 :: t6 :: m7 :: t8 :: b9 :: broken10 :: n11 :: f12 :: c13 :: t14 :: o15 :: t16 :: t17 :: t18 :: t19 :: t20 :: t21 :: t22 :: t23 :: t24 :: t25 :: t26 :: t27 :: t28 :: t29 :: t30 :: t31 :: t32 :: t33 :: t34 :: t35 :: t36 :: t37 :: t38 :: t39 :: t40 :: t41 :: t42 :: t43 :: t44 :: t45 :: t46 :: t47 :: t48 :: t49 :: t50 :: t51 :: t52 :: t53 :: t54 :: t55 :: t56 :: t57 :: t58 :: t59 :: t60 :: t61 :: t62 :: t63 :: t64 :: t65 :: t66 :: t67 :: t68 :: t69 :: t70 :: t71 :: t72 :: t73 :: t74 :: t75 :: t76 :: t77 :: t78 :: t79 :: t80 :: t81 :: t82 :: t83 :: t84 :: t85 :: t86 :: t87 :: t88 :: t89 :: t90 :: t91 :: t92 :: t93 :: t94 :: t95 :: t96 :: t97 :: t98 :: t99 :: t100 :: t101 :: t102 :: t103 :: t104 :: t105 :: t106 :: t107 :: t108 :: t109 :: t110 :: t111 :: t112 :: t113 :: t114 :: t115 :: t116 :: t117 :: t118 :: t119 :: t120 :: t121 :: t122 :: t123 :: t124 :: t125 :: t126 :: t127 :: t128 :: t129 :: t130 :: t131 :: t132 :: t133 :: t134 :: t135 :: t136 :: t137 :: []) w) (by kernel_rfl : (rep [1, 1, 1, 1, 1] (cd Try.f20 [1, 1, 1, 1, 1, 1, 1, 1, 1, 1, 1, 1, 1, 1, 1, 1, 1, 1, 1]) (cd Try.f20 [1, 1, 1, 1, 1, 1, 1, 1, 1, 1, 1, 1, 1, 1])) = (cd Try.f20 [1, 1, 1, 1, 1, 1, 1, 1, 1, 1, 1, 1, 1, 1]))) (leatlaw05_works_A3_k (cd Try.f20 [1, 1, 1, 1, 1, 1, 1, 1, 1, 1, 1, 1, 1, 1, 1, 1, 1, 1, 1]) h)

theorem leatlaw05_works_A4_k {K : KV} {t0 d1 j2 l3 e4 a5 t6 m7 t8 b9 broken10 n11 f12 c13 t14 o15 t16 t17 t18 t19 t20 t21 t22 t23 t24 t25 t26 t27 t28 t29 t30 t31 t32 t33 t34 t35 t36 t37 t38 t39 t40 t41 t42 t43 t44 t45 t46 t47 t48 t49 t50 t51 t52 t53 t54 t55 t56 t57 t58 t59 t60 t61 t62 t63 t64 t65 t66 t67 t68 t69 t70 t71 t72 t73 t74 t75 t76 t77 t78 t79 t80 t81 t82 t83 t84 t85 t86 t87 t88 t89 t90 t91 t92 t93 t94 t95 t96 t97 t98 t99 t100 t101 t102 t103 t104 t105 t106 t107 t108 t109 t110 t111 t112 t113 t114 t115 t116 t117 t118 t119 t120 t121 t122 t123 t124 t125 t126 t127 t128 t129 t130 t131 t132 t133 t134 t135 t136 t137 : Value} {w : World}
    (h : bin Try.prog BinOp.eql 33 false true a5 (Value.int IntKind.i64 0) (fun t107 w =>
    gsel t107 true (fun k109 =>
    bldS Try.prog 29 1 #[(0, (Value.int IntKind.u8 97))] (fun t110 w =>
    bldS Try.prog 29 1 #[(0, (Value.int IntKind.u8 98))] (fun t111 w =>
    bldS Try.prog 50 2 #[(0, t110), (1, t111)] (fun t112 w =>
    call Try.prog 27 #[m7, t112] (fun t113 w =>
    k109 [m7, t110, t111, t112, t113] w) w) w) w) w)
    (fun k => k [undef, undef, undef, undef, undef] w) (fun us109 w =>
    pick t107 (gd us109 4) (Value.bool false) (fun t114 w =>
    gsel t114 true (fun k116 =>
    bin Try.prog BinOp.eql 33 false true b9 (Value.int IntKind.i64 8) (fun t117 w =>
    k116 [b9, t117] w) w)
    (fun k => k [undef, undef] w) (fun us116 w =>
    pick t114 (gd us116 1) (Value.bool false) (fun t118 w =>
    gsel t118 true (fun k120 =>
    k120 [broken10] w)
    (fun k => k [undef] w) (fun us120 w =>
    pick t118 (gd us120 0) (Value.bool false) (fun t121 w =>
    gsel t121 true (fun k123 =>
    bldS Try.prog 29 1 #[(0, (Value.int IntKind.u8 97))] (fun t124 w =>
    bldS Try.prog 50 1 #[(0, t124)] (fun t125 w =>
    call Try.prog 27 #[n11, t125] (fun t126 w =>
    k123 [n11, t124, t125, t126] w) w) w) w)
    (fun k => k [undef, undef, undef, undef] w) (fun us123 w =>
    pick t121 (gd us123 3) (Value.bool false) (fun t127 w =>
    gsel t127 true (fun k129 =>
    bin Try.prog BinOp.eql 33 false true c13 (Value.int IntKind.i64 8) (fun t130 w =>
    k129 [c13, t130] w) w)
    (fun k => k [undef, undef] w) (fun us129 w =>
    pick t127 (gd us129 1) (Value.bool false) (fun t131 w =>
    gsel t131 true (fun k133 =>
    bldS Try.prog 29 1 #[(0, (Value.int IntKind.u8 122))] (fun t134 w =>
    bldS Try.prog 50 1 #[(0, t134)] (fun t135 w =>
    call Try.prog 27 #[o15, t135] (fun t136 w =>
    k133 [o15, t134, t135, t136] w) w) w) w)
    (fun k => k [undef, undef, undef, undef] w) (fun us133 w =>
    pick t131 (gd us133 3) (Value.bool false) (fun t137 w =>
    K t137 w) w)) w)) w)) w)) w)) w)) w) :
    cCode Try.prog (cd Try.f20 [1, 1, 1, 1, 1, 1, 1, 1, 1, 1, 1, 1, 1, 1, 1, 1, 1, 1, 1]) (retK Try.prog Try.f20.results.toList K) (fun _ _ _ => False) (retK Try.prog Try.f20.results.toList K) (t0 :: d1 :: j2 :: l3 :: e4 :: a5 :: t6 :: m7 :: t8 :: b9 :: broken10 :: n11 :: f12 :: c13 :: t14 :: o15 :: t16 :: t17 :: t18 :: t19 :: t20 :: t21 :: t22 :: t23 :: t24 :: t25 :: t26 :: t27 :: t28 :: t29 :: t30 :: t31 :: t32 :: t33 :: t34 :: t35 :: t36 :: t37 :: t38 :: t39 :: t40 :: t41 :: t42 :: t43 :: t44 :: t45 :: t46 :: t47 :: t48 :: t49 :: t50 :: t51 :: t52 :: t53 :: t54 :: t55 :: t56 :: t57 :: t58 :: t59 :: t60 :: t61 :: t62 :: t63 :: t64 :: t65 :: t66 :: t67 :: t68 :: t69 :: t70 :: t71 :: t72 :: t73 :: t74 :: t75 :: t76 :: t77 :: t78 :: t79 :: t80 :: t81 :: t82 :: t83 :: t84 :: t85 :: t86 :: t87 :: t88 :: t89 :: t90 :: t91 :: t92 :: t93 :: t94 :: t95 :: t96 :: t97 :: t98 :: t99 :: t100 :: t101 :: t102 :: t103 :: t104 :: t105 :: t106 :: t107 :: t108 :: t109 :: t110 :: t111 :: t112 :: t113 :: t114 :: t115 :: t116 :: t117 :: t118 :: t119 :: t120 :: t121 :: t122 :: t123 :: t124 :: t125 :: t126 :: t127 :: t128 :: t129 :: t130 :: t131 :: t132 :: t133 :: t134 :: t135 :: t136 :: t137 :: []) w := Eq.mp (by kernel_rfl) h

theorem leatlaw05_works_A4_r {K : KV} {t0 d1 j2 l3 e4 a5 t6 m7 t8 b9 broken10 n11 f12 c13 t14 o15 t16 t17 t18 t19 t20 t21 t22 t23 t24 t25 t26 t27 t28 t29 t30 t31 t32 t33 t34 t35 t36 t37 t38 t39 t40 t41 t42 t43 t44 t45 t46 t47 t48 t49 t50 t51 t52 t53 t54 t55 t56 t57 t58 t59 t60 t61 t62 t63 t64 t65 t66 t67 t68 t69 t70 t71 t72 t73 t74 t75 t76 t77 t78 t79 t80 t81 t82 t83 t84 t85 t86 t87 t88 t89 t90 t91 t92 t93 t94 t95 t96 t97 t98 t99 t100 t101 t102 t103 t104 t105 t106 t107 t108 t109 t110 t111 t112 t113 t114 t115 t116 t117 t118 t119 t120 t121 t122 t123 t124 t125 t126 t127 t128 t129 t130 t131 t132 t133 t134 t135 t136 t137 : Value} {w : World}
    (h : bin Try.prog BinOp.eql 33 false true a5 (Value.int IntKind.i64 0) (fun t107 w =>
    gsel t107 true (fun k109 =>
    bldS Try.prog 29 1 #[(0, (Value.int IntKind.u8 97))] (fun t110 w =>
    bldS Try.prog 29 1 #[(0, (Value.int IntKind.u8 98))] (fun t111 w =>
    bldS Try.prog 50 2 #[(0, t110), (1, t111)] (fun t112 w =>
    call Try.prog 27 #[m7, t112] (fun t113 w =>
    k109 [m7, t110, t111, t112, t113] w) w) w) w) w)
    (fun k => k [undef, undef, undef, undef, undef] w) (fun us109 w =>
    pick t107 (gd us109 4) (Value.bool false) (fun t114 w =>
    gsel t114 true (fun k116 =>
    bin Try.prog BinOp.eql 33 false true b9 (Value.int IntKind.i64 8) (fun t117 w =>
    k116 [b9, t117] w) w)
    (fun k => k [undef, undef] w) (fun us116 w =>
    pick t114 (gd us116 1) (Value.bool false) (fun t118 w =>
    gsel t118 true (fun k120 =>
    k120 [broken10] w)
    (fun k => k [undef] w) (fun us120 w =>
    pick t118 (gd us120 0) (Value.bool false) (fun t121 w =>
    gsel t121 true (fun k123 =>
    bldS Try.prog 29 1 #[(0, (Value.int IntKind.u8 97))] (fun t124 w =>
    bldS Try.prog 50 1 #[(0, t124)] (fun t125 w =>
    call Try.prog 27 #[n11, t125] (fun t126 w =>
    k123 [n11, t124, t125, t126] w) w) w) w)
    (fun k => k [undef, undef, undef, undef] w) (fun us123 w =>
    pick t121 (gd us123 3) (Value.bool false) (fun t127 w =>
    gsel t127 true (fun k129 =>
    bin Try.prog BinOp.eql 33 false true c13 (Value.int IntKind.i64 8) (fun t130 w =>
    k129 [c13, t130] w) w)
    (fun k => k [undef, undef] w) (fun us129 w =>
    pick t127 (gd us129 1) (Value.bool false) (fun t131 w =>
    gsel t131 true (fun k133 =>
    bldS Try.prog 29 1 #[(0, (Value.int IntKind.u8 122))] (fun t134 w =>
    bldS Try.prog 50 1 #[(0, t134)] (fun t135 w =>
    call Try.prog 27 #[o15, t135] (fun t136 w =>
    k133 [o15, t134, t135, t136] w) w) w) w)
    (fun k => k [undef, undef, undef, undef] w) (fun us133 w =>
    pick t131 (gd us133 3) (Value.bool false) (fun t137 w =>
    K t137 w) w)) w)) w)) w)) w)) w)) w) :
    leatlaw05_works_A4 K (t0 :: d1 :: j2 :: l3 :: e4 :: a5 :: t6 :: m7 :: t8 :: b9 :: broken10 :: n11 :: f12 :: c13 :: t14 :: o15 :: t16 :: t17 :: t18 :: t19 :: t20 :: t21 :: t22 :: t23 :: t24 :: t25 :: t26 :: t27 :: t28 :: t29 :: t30 :: t31 :: t32 :: t33 :: t34 :: t35 :: t36 :: t37 :: t38 :: t39 :: t40 :: t41 :: t42 :: t43 :: t44 :: t45 :: t46 :: t47 :: t48 :: t49 :: t50 :: t51 :: t52 :: t53 :: t54 :: t55 :: t56 :: t57 :: t58 :: t59 :: t60 :: t61 :: t62 :: t63 :: t64 :: t65 :: t66 :: t67 :: t68 :: t69 :: t70 :: t71 :: t72 :: t73 :: t74 :: t75 :: t76 :: t77 :: t78 :: t79 :: t80 :: t81 :: t82 :: t83 :: t84 :: t85 :: t86 :: t87 :: t88 :: t89 :: t90 :: t91 :: t92 :: t93 :: t94 :: t95 :: t96 :: t97 :: t98 :: t99 :: t100 :: t101 :: t102 :: t103 :: t104 :: t105 :: t106 :: t107 :: t108 :: t109 :: t110 :: t111 :: t112 :: t113 :: t114 :: t115 :: t116 :: t117 :: t118 :: t119 :: t120 :: t121 :: t122 :: t123 :: t124 :: t125 :: t126 :: t127 :: t128 :: t129 :: t130 :: t131 :: t132 :: t133 :: t134 :: t135 :: t136 :: t137 :: []) w := by
  delta leatlaw05_works_A4
  exact Eq.mp (congrArg (fun c => cCode Try.prog c (retK Try.prog Try.f20.results.toList K) (fun _ _ _ => False) (retK Try.prog Try.f20.results.toList K) (t0 :: d1 :: j2 :: l3 :: e4 :: a5 :: t6 :: m7 :: t8 :: b9 :: broken10 :: n11 :: f12 :: c13 :: t14 :: o15 :: t16 :: t17 :: t18 :: t19 :: t20 :: t21 :: t22 :: t23 :: t24 :: t25 :: t26 :: t27 :: t28 :: t29 :: t30 :: t31 :: t32 :: t33 :: t34 :: t35 :: t36 :: t37 :: t38 :: t39 :: t40 :: t41 :: t42 :: t43 :: t44 :: t45 :: t46 :: t47 :: t48 :: t49 :: t50 :: t51 :: t52 :: t53 :: t54 :: t55 :: t56 :: t57 :: t58 :: t59 :: t60 :: t61 :: t62 :: t63 :: t64 :: t65 :: t66 :: t67 :: t68 :: t69 :: t70 :: t71 :: t72 :: t73 :: t74 :: t75 :: t76 :: t77 :: t78 :: t79 :: t80 :: t81 :: t82 :: t83 :: t84 :: t85 :: t86 :: t87 :: t88 :: t89 :: t90 :: t91 :: t92 :: t93 :: t94 :: t95 :: t96 :: t97 :: t98 :: t99 :: t100 :: t101 :: t102 :: t103 :: t104 :: t105 :: t106 :: t107 :: t108 :: t109 :: t110 :: t111 :: t112 :: t113 :: t114 :: t115 :: t116 :: t117 :: t118 :: t119 :: t120 :: t121 :: t122 :: t123 :: t124 :: t125 :: t126 :: t127 :: t128 :: t129 :: t130 :: t131 :: t132 :: t133 :: t134 :: t135 :: t136 :: t137 :: []) w) (by kernel_rfl : (cd Try.f20 [1, 1, 1, 1, 1, 1, 1, 1, 1, 1, 1, 1, 1, 1, 1, 1, 1, 1, 1]) = (cd Try.f20 [1, 1, 1, 1, 1, 1, 1, 1, 1, 1, 1, 1, 1, 1, 1, 1, 1, 1, 1]))) (leatlaw05_works_A4_k h)
attribute [irreducible] leatlaw05_works_A1 leatlaw05_works_A2 leatlaw05_works_A3 leatlaw05_works_A4

end Go.Proofs.Ytjkmblbonambjaa
