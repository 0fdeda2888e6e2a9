/- Written by program (gen.py): what the code of some functions asks, part by part; each text is checked by the kernel against the translation. -/
import Derived.Test.YtjkmblbonambjaaSh
import Derived.Test.YtjkmblbonambjaaChecked
namespace Go.Proofs.Ytjkmblbonambjaa
open Go.RowKit
set_option maxRecDepth 100000

def leatlaw04_works_A1 (K : KV) : KE := cCode Try.prog (cd Try.f10 [1, 1, 1, 1, 1, 1, 1, 1, 1]) (retK Try.prog Try.f10.results.toList K) (fun _ _ _ => False) (retK Try.prog Try.f10.results.toList K)
def leatlaw04_works_A2 (K : KV) : KE := cCode Try.prog (cd Try.f10 [1, 1, 1, 1, 1, 1, 1, 1, 1, 1, 1, 1, 1, 1, 1, 1]) (retK Try.prog Try.f10.results.toList K) (fun _ _ _ => False) (retK Try.prog Try.f10.results.toList K)
theorem leatlaw04_works_k {K : KV} (x0 : Code) {w : World}
    (h : call Try.prog 11 #[] (fun t16 w =>
    bin Try.prog BinOp.eql 25 false true t16 (Value.pointer none) (fun t18 w =>
    cond t18
      (K (Value.bool false) w)
      (bldS Try.prog 29 2 #[(0, (Value.int IntKind.u8 97)), (1, (Value.int IntKind.u8 98))] (fun t20 w =>
    conv Try.prog 29 29 t20 (fun t21 w =>
    call Try.prog 32 #[t16, (Value.int IntKind.i64 0), t21] (fun t22 w =>
    call Try.prog 33 #[t16] (fun t24 w =>
    bldS Try.prog 29 2 #[(0, (Value.int IntKind.u8 99)), (1, (Value.int IntKind.u8 100))] (fun t26 w =>
    conv Try.prog 29 29 t26 (fun t27 w =>
    call Try.prog 32 #[t16, (Value.int IntKind.i64 0), t27] (fun t28 w =>
    call Try.prog 16 #[t16] (fun t30 w =>
    call Try.prog 28 #[t16] (fun t32 w =>
    call Try.prog 15 #[t16] (fun t34 w =>
    (cCode Try.prog x0 (retK Try.prog Try.f10.results.toList K) (fun _ _ _ => False) (retK Try.prog Try.f10.results.toList K)) ((Value.bool false) :: t16 :: t22 :: t24 :: t28 :: t30 :: t34 :: undef :: undef :: undef :: undef :: undef :: undef :: undef :: undef :: undef :: t16 :: t16 :: t18 :: t16 :: t20 :: t21 :: t22 :: t16 :: t24 :: t16 :: t26 :: t27 :: t28 :: t16 :: t30 :: t16 :: t32 :: t16 :: t34 :: undef :: undef :: undef :: undef :: undef :: undef :: undef :: undef :: undef :: undef :: undef :: undef :: undef :: undef :: undef :: undef :: undef :: undef :: undef :: undef :: undef :: undef :: undef :: undef :: undef :: undef :: undef :: undef :: undef :: undef :: undef :: undef :: undef :: undef :: undef :: undef :: undef :: undef :: undef :: undef :: undef :: undef :: undef :: undef :: undef :: undef :: undef :: undef :: undef :: undef :: undef :: undef :: undef :: undef :: undef :: undef :: undef :: undef :: undef :: undef :: undef :: undef :: undef :: undef :: undef :: undef :: undef :: undef :: undef :: undef :: undef :: undef :: undef :: undef :: undef :: undef :: undef :: undef :: undef :: undef :: undef :: undef :: undef :: undef :: undef :: undef :: undef :: undef :: undef :: undef :: undef :: []) w) w) w) w) w) w) w) w) w) w) w)) w) w) :
    cCode Try.prog (rep [1, 1, 1, 1, 1, 1, 1, 1, 1] x0 (cd Try.f10 [])) (retK Try.prog Try.f10.results.toList K) (fun _ _ _ => False) (retK Try.prog Try.f10.results.toList K) (undef :: undef :: undef :: undef :: undef :: undef :: undef :: undef :: undef :: undef :: undef :: undef :: undef :: undef :: undef :: undef :: undef :: undef :: undef :: undef :: undef :: undef :: undef :: undef :: undef :: undef :: undef :: undef :: undef :: undef :: undef :: undef :: undef :: undef :: undef :: undef :: undef :: undef :: undef :: undef :: undef :: undef :: undef :: undef :: undef :: undef :: undef :: undef :: undef :: undef :: undef :: undef :: undef :: undef :: undef :: undef :: undef :: undef :: undef :: undef :: undef :: undef :: undef :: undef :: undef :: undef :: undef :: undef :: undef :: undef :: undef :: undef :: undef :: undef :: undef :: undef :: undef :: undef :: undef :: undef :: undef :: undef :: undef :: undef :: undef :: undef :: undef :: undef :: undef :: undef :: undef :: undef :: undef :: undef :: undef :: undef :: undef :: undef :: undef :: undef :: undef :: undef :: undef :: undef :: undef :: undef :: undef :: undef :: undef :: undef :: undef :: undef :: undef :: undef :: undef :: undef :: undef :: undef :: undef :: undef :: undef :: undef :: undef :: undef :: undef :: undef :: []) w := Eq.mp (by kernel_rfl) h

theorem leatlaw04_works_in {K : KV} {w : World}
    (h : call Try.prog 11 #[] (fun t16 w =>
    bin Try.prog BinOp.eql 25 false true t16 (Value.pointer none) (fun t18 w =>
    cond t18
      (K (Value.bool false) w)
      (bldS Try.prog 29 2 #[(0, (Value.int IntKind.u8 97)), (1, (Value.int IntKind.u8 98))] (fun t20 w =>
    conv Try.prog 29 29 t20 (fun t21 w =>
    call Try.prog 32 #[t16, (Value.int IntKind.i64 0), t21] (fun t22 w =>
    call Try.prog 33 #[t16] (fun t24 w =>
    bldS Try.prog 29 2 #[(0, (Value.int IntKind.u8 99)), (1, (Value.int IntKind.u8 100))] (fun t26 w =>
    conv Try.prog 29 29 t26 (fun t27 w =>
    call Try.prog 32 #[t16, (Value.int IntKind.i64 0), t27] (fun t28 w =>
    call Try.prog 16 #[t16] (fun t30 w =>
    call Try.prog 28 #[t16] (fun t32 w =>
    call Try.prog 15 #[t16] (fun t34 w =>
    (leatlaw04_works_A1 K) ((Value.bool false) :: t16 :: t22 :: t24 :: t28 :: t30 :: t34 :: undef :: undef :: undef :: undef :: undef :: undef :: undef :: undef :: undef :: t16 :: t16 :: t18 :: t16 :: t20 :: t21 :: t22 :: t16 :: t24 :: t16 :: t26 :: t27 :: t28 :: t16 :: t30 :: t16 :: t32 :: t16 :: t34 :: undef :: undef :: undef :: undef :: undef :: undef :: undef :: undef :: undef :: undef :: undef :: undef :: undef :: undef :: undef :: undef :: undef :: undef :: undef :: undef :: undef :: undef :: undef :: undef :: undef :: undef :: undef :: undef :: undef :: undef :: undef :: undef :: undef :: undef :: undef :: undef :: undef :: undef :: undef :: undef :: undef :: undef :: undef :: undef :: undef :: undef :: undef :: undef :: undef :: undef :: undef :: undef :: undef :: undef :: undef :: undef :: undef :: undef :: undef :: undef :: undef :: undef :: undef :: undef :: undef :: undef :: undef :: undef :: undef :: undef :: undef :: undef :: undef :: undef :: undef :: undef :: undef :: undef :: undef :: undef :: undef :: undef :: undef :: undef :: undef :: undef :: undef :: undef :: undef :: undef :: undef :: []) w) w) w) w) w) w) w) w) w) w) w)) w) w) :
    Gives Try.prog 10 #[] w K := enter' Try.func10 (by kernel_rfl) (Eq.mp (congrArg (fun c => cCode Try.prog c (retK Try.prog Try.f10.results.toList K) (fun _ _ _ => False) (retK Try.prog Try.f10.results.toList K) (undef :: undef :: undef :: undef :: undef :: undef :: undef :: undef :: undef :: undef :: undef :: undef :: undef :: undef :: undef :: undef :: undef :: undef :: undef :: undef :: undef :: undef :: undef :: undef :: undef :: undef :: undef :: undef :: undef :: undef :: undef :: undef :: undef :: undef :: undef :: undef :: undef :: undef :: undef :: undef :: undef :: undef :: undef :: undef :: undef :: undef :: undef :: undef :: undef :: undef :: undef :: undef :: undef :: undef :: undef :: undef :: undef :: undef :: undef :: undef :: undef :: undef :: undef :: undef :: undef :: undef :: undef :: undef :: undef :: undef :: undef :: undef :: undef :: undef :: undef :: undef :: undef :: undef :: undef :: undef :: undef :: undef :: undef :: undef :: undef :: undef :: undef :: undef :: undef :: undef :: undef :: undef :: undef :: undef :: undef :: undef :: undef :: undef :: undef :: undef :: undef :: undef :: undef :: undef :: undef :: undef :: undef :: undef :: undef :: undef :: undef :: undef :: undef :: undef :: undef :: undef :: undef :: undef :: undef :: undef :: undef :: undef :: undef :: undef :: undef :: undef :: []) w) (by kernel_rfl : (rep [1, 1, 1, 1, 1, 1, 1, 1, 1] (cd Try.f10 [1, 1, 1, 1, 1, 1, 1, 1, 1]) (cd Try.f10 [])) = (cd Try.f10 []))) (leatlaw04_works_k (cd Try.f10 [1, 1, 1, 1, 1, 1, 1, 1, 1]) h))
theorem leatlaw04_works_go : isGo Try.prog 10 := ⟨_, Try.func10, by kernel_rfl, by kernel_rfl⟩

theorem leatlaw04_works_A1_k {K : KV} (x0 : Code) {t0 d1 a2 b3 c4 n5 on6 e7 s8 f9 t10 t11 u_12 t13 g14 h15 t16 t17 t18 t19 t20 t21 t22 t23 t24 t25 t26 t27 t28 t29 t30 t31 t32 t33 t34 t35 t36 t37 t38 t39 t40 t41 t42 t43 t44 t45 t46 t47 t48 t49 t50 t51 t52 t53 t54 t55 t56 t57 t58 t59 t60 t61 t62 t63 t64 t65 t66 t67 t68 t69 t70 t71 t72 t73 t74 t75 t76 t77 t78 t79 t80 t81 t82 t83 t84 t85 t86 t87 t88 t89 t90 t91 t92 t93 t94 t95 t96 t97 t98 t99 t100 t101 t102 t103 t104 t105 t106 t107 t108 t109 t110 t111 t112 t113 t114 t115 t116 t117 t118 t119 t120 t121 t122 t123 t124 t125 : Value} {w : World}
    (h : bldS Try.prog 30 2 #[(0, (Value.int IntKind.i64 0)), (1, (Value.int IntKind.i64 1))] (fun t36 w =>
    call Try.prog 25 #[d1, t36] (fun t37 w =>
    call Try.prog 17 #[d1, (Value.int IntKind.i64 0)] (fun t40 w =>
    ext Try.prog t40 0 (fun t41 w =>
    ext Try.prog t40 1 (fun t42 w =>
    bldS Try.prog 29 1 #[(0, (Value.int IntKind.u8 120))] (fun t44 w =>
    conv Try.prog 29 29 t44 (fun t45 w =>
    call Try.prog 32 #[d1, (Value.int IntKind.i64 1), t45] (fun t46 w =>
    call Try.prog 34 #[d1] (fun t48 w =>
    call Try.prog 28 #[d1] (fun t50 w =>
    bldS Try.prog 30 1 #[(0, (Value.int IntKind.i64 1))] (fun t52 w =>
    call Try.prog 25 #[d1, t52] (fun t53 w =>
    call Try.prog 17 #[d1, (Value.int IntKind.i64 0)] (fun t56 w =>
    ext Try.prog t56 0 (fun t57 w =>
    ext Try.prog t56 1 (fun t58 w =>
    (cCode Try.prog x0 (retK Try.prog Try.f10.results.toList K) (fun _ _ _ => False) (retK Try.prog Try.f10.results.toList K)) (t0 :: d1 :: a2 :: b3 :: c4 :: n5 :: on6 :: t37 :: t41 :: t42 :: t57 :: t58 :: u_12 :: t13 :: g14 :: h15 :: t16 :: t17 :: t18 :: t19 :: t20 :: t21 :: t22 :: t23 :: t24 :: t25 :: t26 :: t27 :: t28 :: t29 :: t30 :: t31 :: t32 :: t33 :: t34 :: d1 :: t36 :: t37 :: t40 :: d1 :: t40 :: t41 :: t42 :: d1 :: t44 :: t45 :: t46 :: d1 :: t48 :: d1 :: t50 :: d1 :: t52 :: t53 :: t56 :: d1 :: t56 :: t57 :: t58 :: t59 :: t60 :: t61 :: t62 :: t63 :: t64 :: t65 :: t66 :: t67 :: t68 :: t69 :: t70 :: t71 :: t72 :: t73 :: t74 :: t75 :: t76 :: t77 :: t78 :: t79 :: t80 :: t81 :: t82 :: t83 :: t84 :: t85 :: t86 :: t87 :: t88 :: t89 :: t90 :: t91 :: t92 :: t93 :: t94 :: t95 :: t96 :: t97 :: t98 :: t99 :: t100 :: t101 :: t102 :: t103 :: t104 :: t105 :: t106 :: t107 :: t108 :: t109 :: t110 :: t111 :: t112 :: t113 :: t114 :: t115 :: t116 :: t117 :: t118 :: t119 :: t120 :: t121 :: t122 :: t123 :: t124 :: t125 :: []) w) w) w) w) w) w) w) w) w) w) w) w) w) w) w) w) :
    cCode Try.prog (rep [1, 1, 1, 1, 1, 1, 1] x0 (cd Try.f10 [1, 1, 1, 1, 1, 1, 1, 1, 1])) (retK Try.prog Try.f10.results.toList K) (fun _ _ _ => False) (retK Try.prog Try.f10.results.toList K) (t0 :: d1 :: a2 :: b3 :: c4 :: n5 :: on6 :: e7 :: s8 :: f9 :: t10 :: t11 :: u_12 :: t13 :: g14 :: h15 :: t16 :: t17 :: t18 :: t19 :: t20 :: t21 :: t22 :: t23 :: t24 :: t25 :: t26 :: t27 :: t28 :: t29 :: t30 :: t31 :: t32 :: t33 :: t34 :: t35 :: t36 :: t37 :: t38 :: t39 :: t40 :: t41 :: t42 :: t43 :: t44 :: t45 :: t46 :: t47 :: t48 :: t49 :: t50 :: t51 :: t52 :: t53 :: t54 :: t55 :: t56 :: t57 :: t58 :: t59 :: t60 :: t61 :: t62 :: t63 :: t64 :: t65 :: t66 :: t67 :: t68 :: t69 :: t70 :: t71 :: t72 :: t73 :: t74 :: t75 :: t76 :: t77 :: t78 :: t79 :: t80 :: t81 :: t82 :: t83 :: t84 :: t85 :: t86 :: t87 :: t88 :: t89 :: t90 :: t91 :: t92 :: t93 :: t94 :: t95 :: t96 :: t97 :: t98 :: t99 :: t100 :: t101 :: t102 :: t103 :: t104 :: t105 :: t106 :: t107 :: t108 :: t109 :: t110 :: t111 :: t112 :: t113 :: t114 :: t115 :: t116 :: t117 :: t118 :: t119 :: t120 :: t121 :: t122 :: t123 :: t124 :: t125 :: []) w := Eq.mp (by kernel_rfl) h

theorem leatlaw04_works_A1_r {K : KV} {t0 d1 a2 b3 c4 n5 on6 e7 s8 f9 t10 t11 u_12 t13 g14 h15 t16 t17 t18 t19 t20 t21 t22 t23 t24 t25 t26 t27 t28 t29 t30 t31 t32 t33 t34 t35 t36 t37 t38 t39 t40 t41 t42 t43 t44 t45 t46 t47 t48 t49 t50 t51 t52 t53 t54 t55 t56 t57 t58 t59 t60 t61 t62 t63 t64 t65 t66 t67 t68 t69 t70 t71 t72 t73 t74 t75 t76 t77 t78 t79 t80 t81 t82 t83 t84 t85 t86 t87 t88 t89 t90 t91 t92 t93 t94 t95 t96 t97 t98 t99 t100 t101 t102 t103 t104 t105 t106 t107 t108 t109 t110 t111 t112 t113 t114 t115 t116 t117 t118 t119 t120 t121 t122 t123 t124 t125 : Value} {w : World}
    (h : bldS Try.prog 30 2 #[(0, (Value.int IntKind.i64 0)), (1, (Value.int IntKind.i64 1))] (fun t36 w =>
    call Try.prog 25 #[d1, t36] (fun t37 w =>
    call Try.prog 17 #[d1, (Value.int IntKind.i64 0)] (fun t40 w =>
    ext Try.prog t40 0 (fun t41 w =>
    ext Try.prog t40 1 (fun t42 w =>
    bldS Try.prog 29 1 #[(0, (Value.int IntKind.u8 120))] (fun t44 w =>
    conv Try.prog 29 29 t44 (fun t45 w =>
    call Try.prog 32 #[d1, (Value.int IntKind.i64 1), t45] (fun t46 w =>
    call Try.prog 34 #[d1] (fun t48 w =>
    call Try.prog 28 #[d1] (fun t50 w =>
    bldS Try.prog 30 1 #[(0, (Value.int IntKind.i64 1))] (fun t52 w =>
    call Try.prog 25 #[d1, t52] (fun t53 w =>
    call Try.prog 17 #[d1, (Value.int IntKind.i64 0)] (fun t56 w =>
    ext Try.prog t56 0 (fun t57 w =>
    ext Try.prog t56 1 (fun t58 w =>
    (leatlaw04_works_A2 K) (t0 :: d1 :: a2 :: b3 :: c4 :: n5 :: on6 :: t37 :: t41 :: t42 :: t57 :: t58 :: u_12 :: t13 :: g14 :: h15 :: t16 :: t17 :: t18 :: t19 :: t20 :: t21 :: t22 :: t23 :: t24 :: t25 :: t26 :: t27 :: t28 :: t29 :: t30 :: t31 :: t32 :: t33 :: t34 :: d1 :: t36 :: t37 :: t40 :: d1 :: t40 :: t41 :: t42 :: d1 :: t44 :: t45 :: t46 :: d1 :: t48 :: d1 :: t50 :: d1 :: t52 :: t53 :: t56 :: d1 :: t56 :: t57 :: t58 :: t59 :: t60 :: t61 :: t62 :: t63 :: t64 :: t65 :: t66 :: t67 :: t68 :: t69 :: t70 :: t71 :: t72 :: t73 :: t74 :: t75 :: t76 :: t77 :: t78 :: t79 :: t80 :: t81 :: t82 :: t83 :: t84 :: t85 :: t86 :: t87 :: t88 :: t89 :: t90 :: t91 :: t92 :: t93 :: t94 :: t95 :: t96 :: t97 :: t98 :: t99 :: t100 :: t101 :: t102 :: t103 :: t104 :: t105 :: t106 :: t107 :: t108 :: t109 :: t110 :: t111 :: t112 :: t113 :: t114 :: t115 :: t116 :: t117 :: t118 :: t119 :: t120 :: t121 :: t122 :: t123 :: t124 :: t125 :: []) w) w) w) w) w) w) w) w) w) w) w) w) w) w) w) w) :
    leatlaw04_works_A1 K (t0 :: d1 :: a2 :: b3 :: c4 :: n5 :: on6 :: e7 :: s8 :: f9 :: t10 :: t11 :: u_12 :: t13 :: g14 :: h15 :: t16 :: t17 :: t18 :: t19 :: t20 :: t21 :: t22 :: t23 :: t24 :: t25 :: t26 :: t27 :: t28 :: t29 :: t30 :: t31 :: t32 :: t33 :: t34 :: t35 :: t36 :: t37 :: t38 :: t39 :: t40 :: t41 :: t42 :: t43 :: t44 :: t45 :: t46 :: t47 :: t48 :: t49 :: t50 :: t51 :: t52 :: t53 :: t54 :: t55 :: t56 :: t57 :: t58 :: t59 :: t60 :: t61 :: t62 :: t63 :: t64 :: t65 :: t66 :: t67 :: t68 :: t69 :: t70 :: t71 :: t72 :: t73 :: t74 :: t75 :: t76 :: t77 :: t78 :: t79 :: t80 :: t81 :: t82 :: t83 :: t84 :: t85 :: t86 :: t87 :: t88 :: t89 :: t90 :: t91 :: t92 :: t93 :: t94 :: t95 :: t96 :: t97 :: t98 :: t99 :: t100 :: t101 :: t102 :: t103 :: t104 :: t105 :: t106 :: t107 :: t108 :: t109 :: t110 :: t111 :: t112 :: t113 :: t114 :: t115 :: t116 :: t117 :: t118 :: t119 :: t120 :: t121 :: t122 :: t123 :: t124 :: t125 :: []) w := by
  delta leatlaw04_works_A1
  exact Eq.mp (congrArg (fun c => cCode Try.prog c (retK Try.prog Try.f10.results.toList K) (fun _ _ _ => False) (retK Try.prog Try.f10.results.toList K) (t0 :: d1 :: a2 :: b3 :: c4 :: n5 :: on6 :: e7 :: s8 :: f9 :: t10 :: t11 :: u_12 :: t13 :: g14 :: h15 :: t16 :: t17 :: t18 :: t19 :: t20 :: t21 :: t22 :: t23 :: t24 :: t25 :: t26 :: t27 :: t28 :: t29 :: t30 :: t31 :: t32 :: t33 :: t34 :: t35 :: t36 :: t37 :: t38 :: t39 :: t40 :: t41 :: t42 :: t43 :: t44 :: t45 :: t46 :: t47 :: t48 :: t49 :: t50 :: t51 :: t52 :: t53 :: t54 :: t55 :: t56 :: t57 :: t58 :: t59 :: t60 :: t61 :: t62 :: t63 :: t64 :: t65 :: t66 :: t67 :: t68 :: t69 :: t70 :: t71 :: t72 :: t73 :: t74 :: t75 :: t76 :: t77 :: t78 :: t79 :: t80 :: t81 :: t82 :: t83 :: t84 :: t85 :: t86 :: t87 :: t88 :: t89 :: t90 :: t91 :: t92 :: t93 :: t94 :: t95 :: t96 :: t97 :: t98 :: t99 :: t100 :: t101 :: t102 :: t103 :: t104 :: t105 :: t106 :: t107 :: t108 :: t109 :: t110 :: t111 :: t112 :: t113 :: t114 :: t115 :: t116 :: t117 :: t118 :: t119 :: t120 :: t121 :: t122 :: t123 :: t124 :: t125 :: []) w) (by kernel_rfl : (rep [1, 1, 1, 1, 1, 1, 1] (cd Try.f10 [1, 1, 1, 1, 1, 1, 1, 1, 1, 1, 1, 1, 1, 1, 1, 1]) (cd Try.f10 [1, 1, 1, 1, 1, 1, 1, 1, 1])) = (cd Try.f10 [1, 1, 1, 1, 1, 1, 1, 1, 1]))) (leatlaw04_works_A1_k (cd Try.f10 [1, 1, 1, 1, 1, 1, 1, 1, 1, 1, 1, 1, 1, 1, 1, 1]) h)

theorem leatlaw04_works_A2_k {K : KV} {t0 d1 a2 b3 c4 n5 on6 e7 s8 f9 t10 t11 u_12 t13 g14 h15 t16 t17 t18 t19 t20 t21 t22 t23 t24 t25 t26 t27 t28 t29 t30 t31 t32 t33 t34 t35 t36 t37 t38 t39 t40 t41 t42 t43 t44 t45 t46 t47 t48 t49 t50 t51 t52 t53 t54 t55 t56 t57 t58 t59 t60 t61 t62 t63 t64 t65 t66 t67 t68 t69 t70 t71 t72 t73 t74 t75 t76 t77 t78 t79 t80 t81 t82 t83 t84 t85 t86 t87 t88 t89 t90 t91 t92 t93 t94 t95 t96 t97 t98 t99 t100 t101 t102 t103 t104 t105 t106 t107 t108 t109 t110 t111 t112 t113 t114 t115 t116 t117 t118 t119 t120 t121 t122 t123 t124 t125 : Value} {w : World}
    (h : call Try.prog 17 #[d1, (Value.int IntKind.i64 1)] (fun t61 w =>
    ext Try.prog t61 0 (fun t62 w =>
    ext Try.prog t61 1 (fun t63 w =>
    call Try.prog 22 #[d1, (Value.int IntKind.i64 1)] (fun t65 w =>
    bldS Try.prog 29 1 #[(0, (Value.int IntKind.u8 97))] (fun t67 w =>
    conv Try.prog 29 29 t67 (fun t68 w =>
    call Try.prog 32 #[d1, (Value.int IntKind.i64 0), t68] (fun t69 w =>
    call Try.prog 33 #[d1] (fun t71 w =>
    bin Try.prog BinOp.eql 33 false true a2 (Value.int IntKind.i64 0) (fun t73 w =>
    gsel t73 true (fun k75 =>
    bin Try.prog BinOp.eql 33 false true b3 (Value.int IntKind.i64 0) (fun t76 w =>
    k75 [b3, t76] w) w)
    (fun k => k [undef, undef] w) (fun us75 w =>
    pick t73 (gd us75 1) (Value.bool false) (fun t77 w =>
    gsel t77 true (fun k79 =>
    bin Try.prog BinOp.eql 33 false true c4 (Value.int IntKind.i64 0) (fun t80 w =>
    k79 [c4, t80] w) w)
    (fun k => k [undef, undef] w) (fun us79 w =>
    pick t77 (gd us79 1) (Value.bool false) (fun t81 w =>
    gsel t81 true (fun k83 =>
    bin Try.prog BinOp.eql 3 false true n5 (Value.int IntKind.i64 1) (fun t84 w =>
    k83 [n5, t84] w) w)
    (fun k => k [undef, undef] w) (fun us83 w =>
    pick t81 (gd us83 1) (Value.bool false) (fun t85 w =>
    gsel t85 true (fun k87 =>
    un Try.prog UnOp.not on6 (fun t88 w =>
    k87 [on6, t88] w) w)
    (fun k => k [undef, undef] w) (fun us87 w =>
    pick t85 (gd us87 1) (Value.bool false) (fun t89 w =>
    gsel t89 true (fun k91 =>
    bin Try.prog BinOp.eql 33 false true e7 (Value.int IntKind.i64 0) (fun t92 w =>
    k91 [e7, t92] w) w)
    (fun k => k [undef, undef] w) (fun us91 w =>
    pick t89 (gd us91 1) (Value.bool false) (fun t93 w =>
    gsel t93 true (fun k95 =>
    conv Try.prog 29 9 s8 (fun t96 w =>
    bin Try.prog BinOp.eql 9 false true t96 (Value.string (bstr [97, 98, 99])) (fun t97 w =>
    k95 [s8, t96, t97] w) w) w)
    (fun k => k [undef, undef, undef] w) (fun us95 w =>
    pick t93 (gd us95 2) (Value.bool false) (fun t98 w =>
    gsel t98 true (fun k100 =>
    bin Try.prog BinOp.eql 33 false true f9 (Value.int IntKind.i64 0) (fun t101 w =>
    k100 [f9, t101] w) w)
    (fun k => k [undef, undef] w) (fun us100 w =>
    pick t98 (gd us100 1) (Value.bool false) (fun t102 w =>
    gsel t102 true (fun k104 =>
    conv Try.prog 29 9 t10 (fun t105 w =>
    bin Try.prog BinOp.eql 9 false true t105 (Value.string (bstr [97, 98, 99])) (fun t106 w =>
    k104 [t10, t105, t106] w) w) w)
    (fun k => k [undef, undef, undef] w) (fun us104 w =>
    pick t102 (gd us104 2) (Value.bool false) (fun t107 w =>
    gsel t107 true (fun k109 =>
    conv Try.prog 29 9 t62 (fun t110 w =>
    bin Try.prog BinOp.eql 9 false true t110 (Value.string (bstr [120])) (fun t111 w =>
    k109 [t62, t110, t111] w) w) w)
    (fun k => k [undef, undef, undef] w) (fun us109 w =>
    pick t107 (gd us109 2) (Value.bool false) (fun t112 w =>
    gsel t112 true (fun k114 =>
    bin Try.prog BinOp.eql 33 false true t69 (Value.int IntKind.i64 0) (fun t115 w =>
    k114 [t69, t115] w) w)
    (fun k => k [undef, undef] w) (fun us114 w =>
    pick t112 (gd us114 1) (Value.bool false) (fun t116 w =>
    gsel t116 true (fun k118 =>
    bin Try.prog BinOp.eql 33 false true t71 (Value.int IntKind.i64 8) (fun t119 w =>
    k118 [t71, t119] w) w)
    (fun k => k [undef, undef] w) (fun us118 w =>
    pick t116 (gd us118 1) (Value.bool false) (fun t120 w =>
    gsel t120 true (fun k122 =>
    call Try.prog 15 #[d1] (fun t123 w =>
    un Try.prog UnOp.not t123 (fun t124 w =>
    k122 [d1, t123, t124] w) w) w)
    (fun k => k [undef, undef, undef] w) (fun us122 w =>
    pick t120 (gd us122 2) (Value.bool false) (fun t125 w =>
    K t125 w) w)) w)) w)) w)) w)) w)) w)) w)) w)) w)) w)) w)) w) w) w) w) w) w) w) w) w) :
    cCode Try.prog (cd Try.f10 [1, 1, 1, 1, 1, 1, 1, 1, 1, 1, 1, 1, 1, 1, 1, 1]) (retK Try.prog Try.f10.results.toList K) (fun _ _ _ => False) (retK Try.prog Try.f10.results.toList K) (t0 :: d1 :: a2 :: b3 :: c4 :: n5 :: on6 :: e7 :: s8 :: f9 :: t10 :: t11 :: u_12 :: t13 :: g14 :: h15 :: t16 :: t17 :: t18 :: t19 :: t20 :: t21 :: t22 :: t23 :: t24 :: t25 :: t26 :: t27 :: t28 :: t29 :: t30 :: t31 :: t32 :: t33 :: t34 :: t35 :: t36 :: t37 :: t38 :: t39 :: t40 :: t41 :: t42 :: t43 :: t44 :: t45 :: t46 :: t47 :: t48 :: t49 :: t50 :: t51 :: t52 :: t53 :: t54 :: t55 :: t56 :: t57 :: t58 :: t59 :: t60 :: t61 :: t62 :: t63 :: t64 :: t65 :: t66 :: t67 :: t68 :: t69 :: t70 :: t71 :: t72 :: t73 :: t74 :: t75 :: t76 :: t77 :: t78 :: t79 :: t80 :: t81 :: t82 :: t83 :: t84 :: t85 :: t86 :: t87 :: t88 :: t89 :: t90 :: t91 :: t92 :: t93 :: t94 :: t95 :: t96 :: t97 :: t98 :: t99 :: t100 :: t101 :: t102 :: t103 :: t104 :: t105 :: t106 :: t107 :: t108 :: t109 :: t110 :: t111 :: t112 :: t113 :: t114 :: t115 :: t116 :: t117 :: t118 :: t119 :: t120 :: t121 :: t122 :: t123 :: t124 :: t125 :: []) w := Eq.mp (by kernel_rfl) h

theorem leatlaw04_works_A2_r {K : KV} {t0 d1 a2 b3 c4 n5 on6 e7 s8 f9 t10 t11 u_12 t13 g14 h15 t16 t17 t18 t19 t20 t21 t22 t23 t24 t25 t26 t27 t28 t29 t30 t31 t32 t33 t34 t35 t36 t37 t38 t39 t40 t41 t42 t43 t44 t45 t46 t47 t48 t49 t50 t51 t52 t53 t54 t55 t56 t57 t58 t59 t60 t61 t62 t63 t64 t65 t66 t67 t68 t69 t70 t71 t72 t73 t74 t75 t76 t77 t78 t79 t80 t81 t82 t83 t84 t85 t86 t87 t88 t89 t90 t91 t92 t93 t94 t95 t96 t97 t98 t99 t100 t101 t102 t103 t104 t105 t106 t107 t108 t109 t110 t111 t112 t113 t114 t115 t116 t117 t118 t119 t120 t121 t122 t123 t124 t125 : Value} {w : World}
    (h : call Try.prog 17 #[d1, (Value.int IntKind.i64 1)] (fun t61 w =>
    ext Try.prog t61 0 (fun t62 w =>
    ext Try.prog t61 1 (fun t63 w =>
    call Try.prog 22 #[d1, (Value.int IntKind.i64 1)] (fun t65 w =>
    bldS Try.prog 29 1 #[(0, (Value.int IntKind.u8 97))] (fun t67 w =>
    conv Try.prog 29 29 t67 (fun t68 w =>
    call Try.prog 32 #[d1, (Value.int IntKind.i64 0), t68] (fun t69 w =>
    call Try.prog 33 #[d1] (fun t71 w =>
    bin Try.prog BinOp.eql 33 false true a2 (Value.int IntKind.i64 0) (fun t73 w =>
    gsel t73 true (fun k75 =>
    bin Try.prog BinOp.eql 33 false true b3 (Value.int IntKind.i64 0) (fun t76 w =>
    k75 [b3, t76] w) w)
    (fun k => k [undef, undef] w) (fun us75 w =>
    pick t73 (gd us75 1) (Value.bool false) (fun t77 w =>
    gsel t77 true (fun k79 =>
    bin Try.prog BinOp.eql 33 false true c4 (Value.int IntKind.i64 0) (fun t80 w =>
    k79 [c4, t80] w) w)
    (fun k => k [undef, undef] w) (fun us79 w =>
    pick t77 (gd us79 1) (Value.bool false) (fun t81 w =>
    gsel t81 true (fun k83 =>
    bin Try.prog BinOp.eql 3 false true n5 (Value.int IntKind.i64 1) (fun t84 w =>
    k83 [n5, t84] w) w)
    (fun k => k [undef, undef] w) (fun us83 w =>
    pick t81 (gd us83 1) (Value.bool false) (fun t85 w =>
    gsel t85 true (fun k87 =>
    un Try.prog UnOp.not on6 (fun t88 w =>
    k87 [on6, t88] w) w)
    (fun k => k [undef, undef] w) (fun us87 w =>
    pick t85 (gd us87 1) (Value.bool false) (fun t89 w =>
    gsel t89 true (fun k91 =>
    bin Try.prog BinOp.eql 33 false true e7 (Value.int IntKind.i64 0) (fun t92 w =>
    k91 [e7, t92] w) w)
    (fun k => k [undef, undef] w) (fun us91 w =>
    pick t89 (gd us91 1) (Value.bool false) (fun t93 w =>
    gsel t93 true (fun k95 =>
    conv Try.prog 29 9 s8 (fun t96 w =>
    bin Try.prog BinOp.eql 9 false true t96 (Value.string (bstr [97, 98, 99])) (fun t97 w =>
    k95 [s8, t96, t97] w) w) w)
    (fun k => k [undef, undef, undef] w) (fun us95 w =>
    pick t93 (gd us95 2) (Value.bool false) (fun t98 w =>
    gsel t98 true (fun k100 =>
    bin Try.prog BinOp.eql 33 false true f9 (Value.int IntKind.i64 0) (fun t101 w =>
    k100 [f9, t101] w) w)
    (fun k => k [undef, undef] w) (fun us100 w =>
    pick t98 (gd us100 1) (Value.bool false) (fun t102 w =>
    gsel t102 true (fun k104 =>
    conv Try.prog 29 9 t10 (fun t105 w =>
    bin Try.prog BinOp.eql 9 false true t105 (Value.string (bstr [97, 98, 99])) (fun t106 w =>
    k104 [t10, t105, t106] w) w) w)
    (fun k => k [undef, undef, undef] w) (fun us104 w =>
    pick t102 (gd us104 2) (Value.bool false) (fun t107 w =>
    gsel t107 true (fun k109 =>
    conv Try.prog 29 9 t62 (fun t110 w =>
    bin Try.prog BinOp.eql 9 false true t110 (Value.string (bstr [120])) (fun t111 w =>
    k109 [t62, t110, t111] w) w) w)
    (fun k => k [undef, undef, undef] w) (fun us109 w =>
    pick t107 (gd us109 2) (Value.bool false) (fun t112 w =>
    gsel t112 true (fun k114 =>
    bin Try.prog BinOp.eql 33 false true t69 (Value.int IntKind.i64 0) (fun t115 w =>
    k114 [t69, t115] w) w)
    (fun k => k [undef, undef] w) (fun us114 w =>
    pick t112 (gd us114 1) (Value.bool false) (fun t116 w =>
    gsel t116 true (fun k118 =>
    bin Try.prog BinOp.eql 33 false true t71 (Value.int IntKind.i64 8) (fun t119 w =>
    k118 [t71, t119] w) w)
    (fun k => k [undef, undef] w) (fun us118 w =>
    pick t116 (gd us118 1) (Value.bool false) (fun t120 w =>
    gsel t120 true (fun k122 =>
    call Try.prog 15 #[d1] (fun t123 w =>
    un Try.prog UnOp.not t123 (fun t124 w =>
    k122 [d1, t123, t124] w) w) w)
    (fun k => k [undef, undef, undef] w) (fun us122 w =>
    pick t120 (gd us122 2) (Value.bool false) (fun t125 w =>
    K t125 w) w)) w)) w)) w)) w)) w)) w)) w)) w)) w)) w)) w)) w) w) w) w) w) w) w) w) w) :
    leatlaw04_works_A2 K (t0 :: d1 :: a2 :: b3 :: c4 :: n5 :: on6 :: e7 :: s8 :: f9 :: t10 :: t11 :: u_12 :: t13 :: g14 :: h15 :: t16 :: t17 :: t18 :: t19 :: t20 :: t21 :: t22 :: t23 :: t24 :: t25 :: t26 :: t27 :: t28 :: t29 :: t30 :: t31 :: t32 :: t33 :: t34 :: t35 :: t36 :: t37 :: t38 :: t39 :: t40 :: t41 :: t42 :: t43 :: t44 :: t45 :: t46 :: t47 :: t48 :: t49 :: t50 :: t51 :: t52 :: t53 :: t54 :: t55 :: t56 :: t57 :: t58 :: t59 :: t60 :: t61 :: t62 :: t63 :: t64 :: t65 :: t66 :: t67 :: t68 :: t69 :: t70 :: t71 :: t72 :: t73 :: t74 :: t75 :: t76 :: t77 :: t78 :: t79 :: t80 :: t81 :: t82 :: t83 :: t84 :: t85 :: t86 :: t87 :: t88 :: t89 :: t90 :: t91 :: t92 :: t93 :: t94 :: t95 :: t96 :: t97 :: t98 :: t99 :: t100 :: t101 :: t102 :: t103 :: t104 :: t105 :: t106 :: t107 :: t108 :: t109 :: t110 :: t111 :: t112 :: t113 :: t114 :: t115 :: t116 :: t117 :: t118 :: t119 :: t120 :: t121 :: t122 :: t123 :: t124 :: t125 :: []) w := by
  delta leatlaw04_works_A2
  exact Eq.mp (congrArg (fun c => cCode Try.prog c (retK Try.prog Try.f10.results.toList K) (fun _ _ _ => False) (retK Try.prog Try.f10.results.toList K) (t0 :: d1 :: a2 :: b3 :: c4 :: n5 :: on6 :: e7 :: s8 :: f9 :: t10 :: t11 :: u_12 :: t13 :: g14 :: h15 :: t16 :: t17 :: t18 :: t19 :: t20 :: t21 :: t22 :: t23 :: t24 :: t25 :: t26 :: t27 :: t28 :: t29 :: t30 :: t31 :: t32 :: t33 :: t34 :: t35 :: t36 :: t37 :: t38 :: t39 :: t40 :: t41 :: t42 :: t43 :: t44 :: t45 :: t46 :: t47 :: t48 :: t49 :: t50 :: t51 :: t52 :: t53 :: t54 :: t55 :: t56 :: t57 :: t58 :: t59 :: t60 :: t61 :: t62 :: t63 :: t64 :: t65 :: t66 :: t67 :: t68 :: t69 :: t70 :: t71 :: t72 :: t73 :: t74 :: t75 :: t76 :: t77 :: t78 :: t79 :: t80 :: t81 :: t82 :: t83 :: t84 :: t85 :: t86 :: t87 :: t88 :: t89 :: t90 :: t91 :: t92 :: t93 :: t94 :: t95 :: t96 :: t97 :: t98 :: t99 :: t100 :: t101 :: t102 :: t103 :: t104 :: t105 :: t106 :: t107 :: t108 :: t109 :: t110 :: t111 :: t112 :: t113 :: t114 :: t115 :: t116 :: t117 :: t118 :: t119 :: t120 :: t121 :: t122 :: t123 :: t124 :: t125 :: []) w) (by kernel_rfl : (cd Try.f10 [1, 1, 1, 1, 1, 1, 1, 1, 1, 1, 1, 1, 1, 1, 1, 1]) = (cd Try.f10 [1, 1, 1, 1, 1, 1, 1, 1, 1, 1, 1, 1, 1, 1, 1, 1]))) (leatlaw04_works_A2_k h)
attribute [irreducible] leatlaw04_works_A1 leatlaw04_works_A2

end Go.Proofs.Ytjkmblbonambjaa
