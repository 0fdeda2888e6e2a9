/- Written by program (gen.py): what the code of some functions asks, part by part; each text is checked by the kernel against the translation. -/
import Derived.Test.YtfgllkdmifhelaaSh
import Derived.Test.YtfgllkdmifhelaaChecked
namespace Go.Proofs.Ytfgllkdmifhelaa
open Go.RowKit
set_option maxRecDepth 100000

def leatlaw01_works_A1 (K : KV) : KE := cCode Try.prog (cd Try.f8 [1, 1, 1, 1, 1]) (retK Try.prog Try.f8.results.toList K) (fun _ _ _ => False) (retK Try.prog Try.f8.results.toList K)
def leatlaw01_works_A2 (K : KV) : KE := cCode Try.prog (cd Try.f8 [1, 1, 1, 1, 1, 1, 1, 1]) (retK Try.prog Try.f8.results.toList K) (fun _ _ _ => False) (retK Try.prog Try.f8.results.toList K)
theorem leatlaw01_works_k {K : KV} (x0 : Code) {w : World}
    (h : call Try.prog 10 #[(Value.slice none 0 0), (Value.int IntKind.u64 258), (Value.int IntKind.i64 2)] (fun t21 w =>
    ext Try.prog t21 0 (fun t22 w =>
    ext Try.prog t21 1 (fun t23 w =>
    call Try.prog 10 #[(Value.slice none 0 0), (Value.int IntKind.u64 258), (Value.int IntKind.i64 1)] (fun t25 w =>
    ext Try.prog t25 0 (fun t26 w =>
    ext Try.prog t25 1 (fun t27 w =>
    call Try.prog 10 #[(Value.slice none 0 0), (Value.int IntKind.u64 1), (Value.int IntKind.i64 3)] (fun t29 w =>
    ext Try.prog t29 0 (fun t30 w =>
    ext Try.prog t29 1 (fun t31 w =>
    bldS Try.prog 22 2 #[(0, (Value.int IntKind.u8 1)), (1, (Value.int IntKind.u8 2))] (fun t33 w =>
    call Try.prog 12 #[t33, (Value.int IntKind.i64 0), (Value.int IntKind.i64 2)] (fun t34 w =>
    ext Try.prog t34 0 (fun t35 w =>
    ext Try.prog t34 1 (fun t36 w =>
    ext Try.prog t34 2 (fun t37 w =>
    (cCode Try.prog x0 (retK Try.prog Try.f8.results.toList K) (fun _ _ _ => False) (retK Try.prog Try.f8.results.toList K)) ((Value.bool false) :: t22 :: t23 :: t26 :: t27 :: t30 :: t31 :: t35 :: t36 :: t37 :: undef :: undef :: undef :: undef :: undef :: undef :: undef :: undef :: undef :: undef :: t21 :: t21 :: t22 :: t23 :: t25 :: t25 :: t26 :: t27 :: t29 :: t29 :: t30 :: t31 :: t34 :: t33 :: t34 :: t35 :: t36 :: t37 :: undef :: undef :: undef :: undef :: undef :: undef :: undef :: undef :: undef :: undef :: undef :: undef :: undef :: undef :: undef :: undef :: undef :: undef :: undef :: undef :: undef :: undef :: undef :: undef :: undef :: undef :: undef :: undef :: undef :: undef :: undef :: undef :: undef :: undef :: undef :: undef :: undef :: undef :: undef :: undef :: undef :: undef :: undef :: undef :: undef :: undef :: undef :: undef :: undef :: undef :: undef :: undef :: undef :: undef :: undef :: undef :: undef :: undef :: undef :: undef :: undef :: undef :: undef :: undef :: undef :: undef :: undef :: undef :: undef :: undef :: undef :: undef :: undef :: undef :: undef :: undef :: undef :: undef :: undef :: undef :: undef :: undef :: undef :: undef :: undef :: undef :: undef :: []) w) w) w) w) w) w) w) w) w) w) w) w) w) w) w) :
    cCode Try.prog (rep [1, 1, 1, 1, 1] x0 (cd Try.f8 [])) (retK Try.prog Try.f8.results.toList K) (fun _ _ _ => False) (retK Try.prog Try.f8.results.toList K) (undef :: undef :: undef :: undef :: undef :: undef :: undef :: undef :: undef :: undef :: undef :: undef :: undef :: undef :: undef :: undef :: undef :: undef :: undef :: undef :: undef :: undef :: undef :: undef :: undef :: undef :: undef :: undef :: undef :: undef :: undef :: undef :: undef :: undef :: undef :: undef :: undef :: undef :: undef :: undef :: undef :: undef :: undef :: undef :: undef :: undef :: undef :: undef :: undef :: undef :: undef :: undef :: undef :: undef :: undef :: undef :: undef :: undef :: undef :: undef :: undef :: undef :: undef :: undef :: undef :: undef :: undef :: undef :: undef :: undef :: undef :: undef :: undef :: undef :: undef :: undef :: undef :: undef :: undef :: undef :: undef :: undef :: undef :: undef :: undef :: undef :: undef :: undef :: undef :: undef :: undef :: undef :: undef :: undef :: undef :: undef :: undef :: undef :: undef :: undef :: undef :: undef :: undef :: undef :: undef :: undef :: undef :: undef :: undef :: undef :: undef :: undef :: undef :: undef :: undef :: undef :: undef :: undef :: undef :: undef :: undef :: undef :: undef :: undef :: undef :: []) w := Eq.mp (by kernel_rfl) h

theorem leatlaw01_works_in {K : KV} {w : World}
    (h : call Try.prog 10 #[(Value.slice none 0 0), (Value.int IntKind.u64 258), (Value.int IntKind.i64 2)] (fun t21 w =>
    ext Try.prog t21 0 (fun t22 w =>
    ext Try.prog t21 1 (fun t23 w =>
    call Try.prog 10 #[(Value.slice none 0 0), (Value.int IntKind.u64 258), (Value.int IntKind.i64 1)] (fun t25 w =>
    ext Try.prog t25 0 (fun t26 w =>
    ext Try.prog t25 1 (fun t27 w =>
    call Try.prog 10 #[(Value.slice none 0 0), (Value.int IntKind.u64 1), (Value.int IntKind.i64 3)] (fun t29 w =>
    ext Try.prog t29 0 (fun t30 w =>
    ext Try.prog t29 1 (fun t31 w =>
    bldS Try.prog 22 2 #[(0, (Value.int IntKind.u8 1)), (1, (Value.int IntKind.u8 2))] (fun t33 w =>
    call Try.prog 12 #[t33, (Value.int IntKind.i64 0), (Value.int IntKind.i64 2)] (fun t34 w =>
    ext Try.prog t34 0 (fun t35 w =>
    ext Try.prog t34 1 (fun t36 w =>
    ext Try.prog t34 2 (fun t37 w =>
    (leatlaw01_works_A1 K) ((Value.bool false) :: t22 :: t23 :: t26 :: t27 :: t30 :: t31 :: t35 :: t36 :: t37 :: undef :: undef :: undef :: undef :: undef :: undef :: undef :: undef :: undef :: undef :: t21 :: t21 :: t22 :: t23 :: t25 :: t25 :: t26 :: t27 :: t29 :: t29 :: t30 :: t31 :: t34 :: t33 :: t34 :: t35 :: t36 :: t37 :: undef :: undef :: undef :: undef :: undef :: undef :: undef :: undef :: undef :: undef :: undef :: undef :: undef :: undef :: undef :: undef :: undef :: undef :: undef :: undef :: undef :: undef :: undef :: undef :: undef :: undef :: undef :: undef :: undef :: undef :: undef :: undef :: undef :: undef :: undef :: undef :: undef :: undef :: undef :: undef :: undef :: undef :: undef :: undef :: undef :: undef :: undef :: undef :: undef :: undef :: undef :: undef :: undef :: undef :: undef :: undef :: undef :: undef :: undef :: undef :: undef :: undef :: undef :: undef :: undef :: undef :: undef :: undef :: undef :: undef :: undef :: undef :: undef :: undef :: undef :: undef :: undef :: undef :: undef :: undef :: undef :: undef :: undef :: undef :: undef :: undef :: undef :: []) w) w) w) w) w) w) w) w) w) w) w) w) w) w) w) :
    Gives Try.prog 8 #[] w K := enter' Try.func8 (by kernel_rfl) (Eq.mp (congrArg (fun c => cCode Try.prog c (retK Try.prog Try.f8.results.toList K) (fun _ _ _ => False) (retK Try.prog Try.f8.results.toList K) (undef :: undef :: undef :: undef :: undef :: undef :: undef :: undef :: undef :: undef :: undef :: undef :: undef :: undef :: undef :: undef :: undef :: undef :: undef :: undef :: undef :: undef :: undef :: undef :: undef :: undef :: undef :: undef :: undef :: undef :: undef :: undef :: undef :: undef :: undef :: undef :: undef :: undef :: undef :: undef :: undef :: undef :: undef :: undef :: undef :: undef :: undef :: undef :: undef :: undef :: undef :: undef :: undef :: undef :: undef :: undef :: undef :: undef :: undef :: undef :: undef :: undef :: undef :: undef :: undef :: undef :: undef :: undef :: undef :: undef :: undef :: undef :: undef :: undef :: undef :: undef :: undef :: undef :: undef :: undef :: undef :: undef :: undef :: undef :: undef :: undef :: undef :: undef :: undef :: undef :: undef :: undef :: undef :: undef :: undef :: undef :: undef :: undef :: undef :: undef :: undef :: undef :: undef :: undef :: undef :: undef :: undef :: undef :: undef :: undef :: undef :: undef :: undef :: undef :: undef :: undef :: undef :: undef :: undef :: undef :: undef :: undef :: undef :: undef :: undef :: []) w) (by kernel_rfl : (rep [1, 1, 1, 1, 1] (cd Try.f8 [1, 1, 1, 1, 1]) (cd Try.f8 [])) = (cd Try.f8 []))) (leatlaw01_works_k (cd Try.f8 [1, 1, 1, 1, 1]) (h : call Try.prog 10 #[(Value.slice none 0 0), (Value.int IntKind.u64 258), (Value.int IntKind.i64 2)] (fun t21 w =>
    ext Try.prog t21 0 (fun t22 w =>
    ext Try.prog t21 1 (fun t23 w =>
    call Try.prog 10 #[(Value.slice none 0 0), (Value.int IntKind.u64 258), (Value.int IntKind.i64 1)] (fun t25 w =>
    ext Try.prog t25 0 (fun t26 w =>
    ext Try.prog t25 1 (fun t27 w =>
    call Try.prog 10 #[(Value.slice none 0 0), (Value.int IntKind.u64 1), (Value.int IntKind.i64 3)] (fun t29 w =>
    ext Try.prog t29 0 (fun t30 w =>
    ext Try.prog t29 1 (fun t31 w =>
    bldS Try.prog 22 2 #[(0, (Value.int IntKind.u8 1)), (1, (Value.int IntKind.u8 2))] (fun t33 w =>
    call Try.prog 12 #[t33, (Value.int IntKind.i64 0), (Value.int IntKind.i64 2)] (fun t34 w =>
    ext Try.prog t34 0 (fun t35 w =>
    ext Try.prog t34 1 (fun t36 w =>
    ext Try.prog t34 2 (fun t37 w =>
    (leatlaw01_works_A1 K) ((Value.bool false) :: t22 :: t23 :: t26 :: t27 :: t30 :: t31 :: t35 :: t36 :: t37 :: undef :: undef :: undef :: undef :: undef :: undef :: undef :: undef :: undef :: undef :: t21 :: t21 :: t22 :: t23 :: t25 :: t25 :: t26 :: t27 :: t29 :: t29 :: t30 :: t31 :: t34 :: t33 :: t34 :: t35 :: t36 :: t37 :: undef :: undef :: undef :: undef :: undef :: undef :: undef :: undef :: undef :: undef :: undef :: undef :: undef :: undef :: undef :: undef :: undef :: undef :: undef :: undef :: undef :: undef :: undef :: undef :: undef :: undef :: undef :: undef :: undef :: undef :: undef :: undef :: undef :: undef :: undef :: undef :: undef :: undef :: undef :: undef :: undef :: undef :: undef :: undef :: undef :: undef :: undef :: undef :: undef :: undef :: undef :: undef :: undef :: undef :: undef :: undef :: undef :: undef :: undef :: undef :: undef :: undef :: undef :: undef :: undef :: undef :: undef :: undef :: undef :: undef :: undef :: undef :: undef :: undef :: undef :: undef :: undef :: undef :: undef :: undef :: undef :: undef :: undef :: undef :: undef :: undef :: undef :: []) w) w) w) w) w) w) w) w) w) w) w) w) w) w) w)))
theorem leatlaw01_works_go : isGo Try.prog 8 := ⟨_, Try.func8, by kernel_rfl, by kernel_rfl⟩

theorem leatlaw01_works_A1_k {K : KV} (x0 : Code) {t0 a1 e2 t3 f4 t5 g6 n7 next8 h9 b10 i11 s12 end13 j14 t15 t16 k_17 l18 m19 t20 t21 t22 t23 t24 t25 t26 t27 t28 t29 t30 t31 t32 t33 t34 t35 t36 t37 t38 t39 t40 t41 t42 t43 t44 t45 t46 t47 t48 t49 t50 t51 t52 t53 t54 t55 t56 t57 t58 t59 t60 t61 t62 t63 t64 t65 t66 t67 t68 t69 t70 t71 t72 t73 t74 t75 t76 t77 t78 t79 t80 t81 t82 t83 t84 t85 t86 t87 t88 t89 t90 t91 t92 t93 t94 t95 t96 t97 t98 t99 t100 t101 t102 t103 t104 t105 t106 t107 t108 t109 t110 t111 t112 t113 t114 t115 t116 t117 t118 t119 t120 t121 t122 t123 t124 : Value} {w : World}
    (h : bldS Try.prog 22 2 #[(0, (Value.int IntKind.u8 97)), (1, (Value.int IntKind.u8 98))] (fun t39 w =>
    conv Try.prog 22 22 t39 (fun t40 w =>
    call Try.prog 17 #[(Value.slice none 0 0), t40] (fun t41 w =>
    ext Try.prog t41 0 (fun t42 w =>
    ext Try.prog t41 1 (fun t43 w =>
    call Try.prog 21 #[t42, (Value.int IntKind.i64 0), (Value.int IntKind.i64 2)] (fun t46 w =>
    ext Try.prog t46 0 (fun t47 w =>
    ext Try.prog t46 1 (fun t48 w =>
    ext Try.prog t46 2 (fun t49 w =>
    call Try.prog 21 #[t42, (Value.int IntKind.i64 0), (Value.int IntKind.i64 1)] (fun t52 w =>
    ext Try.prog t52 0 (fun t53 w =>
    ext Try.prog t52 1 (fun t54 w =>
    ext Try.prog t52 2 (fun t55 w =>
    (cCode Try.prog x0 (retK Try.prog Try.f8.results.toList K) (fun _ _ _ => False) (retK Try.prog Try.f8.results.toList K)) (t0 :: a1 :: e2 :: t3 :: f4 :: t5 :: g6 :: n7 :: next8 :: h9 :: t42 :: t43 :: t47 :: t48 :: t49 :: t53 :: t54 :: t55 :: l18 :: m19 :: t20 :: t21 :: t22 :: t23 :: t24 :: t25 :: t26 :: t27 :: t28 :: t29 :: t30 :: t31 :: t32 :: t33 :: t34 :: t35 :: t36 :: t37 :: t41 :: t39 :: t40 :: t41 :: t42 :: t43 :: t46 :: t42 :: t46 :: t47 :: t48 :: t49 :: t52 :: t42 :: t52 :: t53 :: t54 :: t55 :: t56 :: t57 :: t58 :: t59 :: t60 :: t61 :: t62 :: t63 :: t64 :: t65 :: t66 :: t67 :: t68 :: t69 :: t70 :: t71 :: t72 :: t73 :: t74 :: t75 :: t76 :: t77 :: t78 :: t79 :: t80 :: t81 :: t82 :: t83 :: t84 :: t85 :: t86 :: t87 :: t88 :: t89 :: t90 :: t91 :: t92 :: t93 :: t94 :: t95 :: t96 :: t97 :: t98 :: t99 :: t100 :: t101 :: t102 :: t103 :: t104 :: t105 :: t106 :: t107 :: t108 :: t109 :: t110 :: t111 :: t112 :: t113 :: t114 :: t115 :: t116 :: t117 :: t118 :: t119 :: t120 :: t121 :: t122 :: t123 :: t124 :: []) w) w) w) w) w) w) w) w) w) w) w) w) w) w) :
    cCode Try.prog (rep [1, 1, 1] x0 (cd Try.f8 [1, 1, 1, 1, 1])) (retK Try.prog Try.f8.results.toList K) (fun _ _ _ => False) (retK Try.prog Try.f8.results.toList K) (t0 :: a1 :: e2 :: t3 :: f4 :: t5 :: g6 :: n7 :: next8 :: h9 :: b10 :: i11 :: s12 :: end13 :: j14 :: t15 :: t16 :: k_17 :: l18 :: m19 :: t20 :: t21 :: t22 :: t23 :: t24 :: t25 :: t26 :: t27 :: t28 :: t29 :: t30 :: t31 :: t32 :: t33 :: t34 :: t35 :: t36 :: t37 :: t38 :: t39 :: t40 :: t41 :: t42 :: t43 :: t44 :: t45 :: t46 :: t47 :: t48 :: t49 :: t50 :: t51 :: t52 :: t53 :: t54 :: t55 :: t56 :: t57 :: t58 :: t59 :: t60 :: t61 :: t62 :: t63 :: t64 :: t65 :: t66 :: t67 :: t68 :: t69 :: t70 :: t71 :: t72 :: t73 :: t74 :: t75 :: t76 :: t77 :: t78 :: t79 :: t80 :: t81 :: t82 :: t83 :: t84 :: t85 :: t86 :: t87 :: t88 :: t89 :: t90 :: t91 :: t92 :: t93 :: t94 :: t95 :: t96 :: t97 :: t98 :: t99 :: t100 :: t101 :: t102 :: t103 :: t104 :: t105 :: t106 :: t107 :: t108 :: t109 :: t110 :: t111 :: t112 :: t113 :: t114 :: t115 :: t116 :: t117 :: t118 :: t119 :: t120 :: t121 :: t122 :: t123 :: t124 :: []) w := Eq.mp (by kernel_rfl) h

theorem leatlaw01_works_A1_r {K : KV} {t0 a1 e2 t3 f4 t5 g6 n7 next8 h9 b10 i11 s12 end13 j14 t15 t16 k_17 l18 m19 t20 t21 t22 t23 t24 t25 t26 t27 t28 t29 t30 t31 t32 t33 t34 t35 t36 t37 t38 t39 t40 t41 t42 t43 t44 t45 t46 t47 t48 t49 t50 t51 t52 t53 t54 t55 t56 t57 t58 t59 t60 t61 t62 t63 t64 t65 t66 t67 t68 t69 t70 t71 t72 t73 t74 t75 t76 t77 t78 t79 t80 t81 t82 t83 t84 t85 t86 t87 t88 t89 t90 t91 t92 t93 t94 t95 t96 t97 t98 t99 t100 t101 t102 t103 t104 t105 t106 t107 t108 t109 t110 t111 t112 t113 t114 t115 t116 t117 t118 t119 t120 t121 t122 t123 t124 : Value} {w : World}
    (h : bldS Try.prog 22 2 #[(0, (Value.int IntKind.u8 97)), (1, (Value.int IntKind.u8 98))] (fun t39 w =>
    conv Try.prog 22 22 t39 (fun t40 w =>
    call Try.prog 17 #[(Value.slice none 0 0), t40] (fun t41 w =>
    ext Try.prog t41 0 (fun t42 w =>
    ext Try.prog t41 1 (fun t43 w =>
    call Try.prog 21 #[t42, (Value.int IntKind.i64 0), (Value.int IntKind.i64 2)] (fun t46 w =>
    ext Try.prog t46 0 (fun t47 w =>
    ext Try.prog t46 1 (fun t48 w =>
    ext Try.prog t46 2 (fun t49 w =>
    call Try.prog 21 #[t42, (Value.int IntKind.i64 0), (Value.int IntKind.i64 1)] (fun t52 w =>
    ext Try.prog t52 0 (fun t53 w =>
    ext Try.prog t52 1 (fun t54 w =>
    ext Try.prog t52 2 (fun t55 w =>
    (leatlaw01_works_A2 K) (t0 :: a1 :: e2 :: t3 :: f4 :: t5 :: g6 :: n7 :: next8 :: h9 :: t42 :: t43 :: t47 :: t48 :: t49 :: t53 :: t54 :: t55 :: l18 :: m19 :: t20 :: t21 :: t22 :: t23 :: t24 :: t25 :: t26 :: t27 :: t28 :: t29 :: t30 :: t31 :: t32 :: t33 :: t34 :: t35 :: t36 :: t37 :: t41 :: t39 :: t40 :: t41 :: t42 :: t43 :: t46 :: t42 :: t46 :: t47 :: t48 :: t49 :: t52 :: t42 :: t52 :: t53 :: t54 :: t55 :: t56 :: t57 :: t58 :: t59 :: t60 :: t61 :: t62 :: t63 :: t64 :: t65 :: t66 :: t67 :: t68 :: t69 :: t70 :: t71 :: t72 :: t73 :: t74 :: t75 :: t76 :: t77 :: t78 :: t79 :: t80 :: t81 :: t82 :: t83 :: t84 :: t85 :: t86 :: t87 :: t88 :: t89 :: t90 :: t91 :: t92 :: t93 :: t94 :: t95 :: t96 :: t97 :: t98 :: t99 :: t100 :: t101 :: t102 :: t103 :: t104 :: t105 :: t106 :: t107 :: t108 :: t109 :: t110 :: t111 :: t112 :: t113 :: t114 :: t115 :: t116 :: t117 :: t118 :: t119 :: t120 :: t121 :: t122 :: t123 :: t124 :: []) w) w) w) w) w) w) w) w) w) w) w) w) w) w) :
    leatlaw01_works_A1 K (t0 :: a1 :: e2 :: t3 :: f4 :: t5 :: g6 :: n7 :: next8 :: h9 :: b10 :: i11 :: s12 :: end13 :: j14 :: t15 :: t16 :: k_17 :: l18 :: m19 :: t20 :: t21 :: t22 :: t23 :: t24 :: t25 :: t26 :: t27 :: t28 :: t29 :: t30 :: t31 :: t32 :: t33 :: t34 :: t35 :: t36 :: t37 :: t38 :: t39 :: t40 :: t41 :: t42 :: t43 :: t44 :: t45 :: t46 :: t47 :: t48 :: t49 :: t50 :: t51 :: t52 :: t53 :: t54 :: t55 :: t56 :: t57 :: t58 :: t59 :: t60 :: t61 :: t62 :: t63 :: t64 :: t65 :: t66 :: t67 :: t68 :: t69 :: t70 :: t71 :: t72 :: t73 :: t74 :: t75 :: t76 :: t77 :: t78 :: t79 :: t80 :: t81 :: t82 :: t83 :: t84 :: t85 :: t86 :: t87 :: t88 :: t89 :: t90 :: t91 :: t92 :: t93 :: t94 :: t95 :: t96 :: t97 :: t98 :: t99 :: t100 :: t101 :: t102 :: t103 :: t104 :: t105 :: t106 :: t107 :: t108 :: t109 :: t110 :: t111 :: t112 :: t113 :: t114 :: t115 :: t116 :: t117 :: t118 :: t119 :: t120 :: t121 :: t122 :: t123 :: t124 :: []) w := by
  delta leatlaw01_works_A1
  exact Eq.mp (congrArg (fun c => cCode Try.prog c (retK Try.prog Try.f8.results.toList K) (fun _ _ _ => False) (retK Try.prog Try.f8.results.toList K) (t0 :: a1 :: e2 :: t3 :: f4 :: t5 :: g6 :: n7 :: next8 :: h9 :: b10 :: i11 :: s12 :: end13 :: j14 :: t15 :: t16 :: k_17 :: l18 :: m19 :: t20 :: t21 :: t22 :: t23 :: t24 :: t25 :: t26 :: t27 :: t28 :: t29 :: t30 :: t31 :: t32 :: t33 :: t34 :: t35 :: t36 :: t37 :: t38 :: t39 :: t40 :: t41 :: t42 :: t43 :: t44 :: t45 :: t46 :: t47 :: t48 :: t49 :: t50 :: t51 :: t52 :: t53 :: t54 :: t55 :: t56 :: t57 :: t58 :: t59 :: t60 :: t61 :: t62 :: t63 :: t64 :: t65 :: t66 :: t67 :: t68 :: t69 :: t70 :: t71 :: t72 :: t73 :: t74 :: t75 :: t76 :: t77 :: t78 :: t79 :: t80 :: t81 :: t82 :: t83 :: t84 :: t85 :: t86 :: t87 :: t88 :: t89 :: t90 :: t91 :: t92 :: t93 :: t94 :: t95 :: t96 :: t97 :: t98 :: t99 :: t100 :: t101 :: t102 :: t103 :: t104 :: t105 :: t106 :: t107 :: t108 :: t109 :: t110 :: t111 :: t112 :: t113 :: t114 :: t115 :: t116 :: t117 :: t118 :: t119 :: t120 :: t121 :: t122 :: t123 :: t124 :: []) w) (by kernel_rfl : (rep [1, 1, 1] (cd Try.f8 [1, 1, 1, 1, 1, 1, 1, 1]) (cd Try.f8 [1, 1, 1, 1, 1])) = (cd Try.f8 [1, 1, 1, 1, 1]))) (leatlaw01_works_A1_k (cd Try.f8 [1, 1, 1, 1, 1, 1, 1, 1]) h)

theorem leatlaw01_works_A2_k {K : KV} {t0 a1 e2 t3 f4 t5 g6 n7 next8 h9 b10 i11 s12 end13 j14 t15 t16 k_17 l18 m19 t20 t21 t22 t23 t24 t25 t26 t27 t28 t29 t30 t31 t32 t33 t34 t35 t36 t37 t38 t39 t40 t41 t42 t43 t44 t45 t46 t47 t48 t49 t50 t51 t52 t53 t54 t55 t56 t57 t58 t59 t60 t61 t62 t63 t64 t65 t66 t67 t68 t69 t70 t71 t72 t73 t74 t75 t76 t77 t78 t79 t80 t81 t82 t83 t84 t85 t86 t87 t88 t89 t90 t91 t92 t93 t94 t95 t96 t97 t98 t99 t100 t101 t102 t103 t104 t105 t106 t107 t108 t109 t110 t111 t112 t113 t114 t115 t116 t117 t118 t119 t120 t121 t122 t123 t124 : Value} {w : World}
    (h : bldS Try.prog 22 1 #[(0, (Value.int IntKind.u8 97))] (fun t57 w =>
    conv Try.prog 22 22 t57 (fun t58 w =>
    bldS Try.prog 36 2 #[(0, t58), (1, (Value.slice none 0 0))] (fun t59 w =>
    call Try.prog 19 #[t59] (fun t60 w =>
    ext Try.prog t60 0 (fun t61 w =>
    ext Try.prog t60 1 (fun t62 w =>
    conv Try.prog 22 9 a1 (fun t64 w =>
    bin Try.prog BinOp.eql 9 false true t64 (Value.string (bstr [1, 2])) (fun t65 w =>
    gsel t65 true (fun k67 =>
    bin Try.prog BinOp.eql 26 false true e2 (Value.int IntKind.i64 0) (fun t68 w =>
    k67 [e2, t68] w) w)
    (fun k => k [undef, undef] w) (fun us67 w =>
    pick t65 (gd us67 1) (Value.bool false) (fun t69 w =>
    gsel t69 true (fun k71 =>
    bin Try.prog BinOp.eql 26 false true f4 (Value.int IntKind.i64 6) (fun t72 w =>
    k71 [f4, t72] w) w)
    (fun k => k [undef, undef] w) (fun us71 w =>
    pick t69 (gd us71 1) (Value.bool false) (fun t73 w =>
    gsel t73 true (fun k75 =>
    bin Try.prog BinOp.eql 26 false true g6 (Value.int IntKind.i64 1) (fun t76 w =>
    k75 [g6, t76] w) w)
    (fun k => k [undef, undef] w) (fun us75 w =>
    pick t73 (gd us75 1) (Value.bool false) (fun t77 w =>
    gsel t77 true (fun k79 =>
    bin Try.prog BinOp.eql 23 false true n7 (Value.int IntKind.u64 258) (fun t80 w =>
    k79 [n7, t80] w) w)
    (fun k => k [undef, undef] w) (fun us79 w =>
    pick t77 (gd us79 1) (Value.bool false) (fun t81 w =>
    gsel t81 true (fun k83 =>
    bin Try.prog BinOp.eql 3 false true next8 (Value.int IntKind.i64 2) (fun t84 w =>
    k83 [next8, t84] w) w)
    (fun k => k [undef, undef] w) (fun us83 w =>
    pick t81 (gd us83 1) (Value.bool false) (fun t85 w =>
    gsel t85 true (fun k87 =>
    bin Try.prog BinOp.eql 26 false true h9 (Value.int IntKind.i64 0) (fun t88 w =>
    k87 [h9, t88] w) w)
    (fun k => k [undef, undef] w) (fun us87 w =>
    pick t85 (gd us87 1) (Value.bool false) (fun t89 w =>
    gsel t89 true (fun k91 =>
    conv Try.prog 22 9 b10 (fun t92 w =>
    bin Try.prog BinOp.eql 9 false true t92 (Value.string (bstr [0, 0, 0, 2, 97, 98])) (fun t93 w =>
    k91 [b10, t92, t93] w) w) w)
    (fun k => k [undef, undef, undef] w) (fun us91 w =>
    pick t89 (gd us91 2) (Value.bool false) (fun t94 w =>
    gsel t94 true (fun k96 =>
    bin Try.prog BinOp.eql 26 false true i11 (Value.int IntKind.i64 0) (fun t97 w =>
    k96 [i11, t97] w) w)
    (fun k => k [undef, undef] w) (fun us96 w =>
    pick t94 (gd us96 1) (Value.bool false) (fun t98 w =>
    gsel t98 true (fun k100 =>
    conv Try.prog 22 9 s12 (fun t101 w =>
    bin Try.prog BinOp.eql 9 false true t101 (Value.string (bstr [97, 98])) (fun t102 w =>
    k100 [s12, t101, t102] w) w) w)
    (fun k => k [undef, undef, undef] w) (fun us100 w =>
    pick t98 (gd us100 2) (Value.bool false) (fun t103 w =>
    gsel t103 true (fun k105 =>
    bin Try.prog BinOp.eql 3 false true end13 (Value.int IntKind.i64 6) (fun t106 w =>
    k105 [end13, t106] w) w)
    (fun k => k [undef, undef] w) (fun us105 w =>
    pick t103 (gd us105 1) (Value.bool false) (fun t107 w =>
    gsel t107 true (fun k109 =>
    bin Try.prog BinOp.eql 26 false true j14 (Value.int IntKind.i64 0) (fun t110 w =>
    k109 [j14, t110] w) w)
    (fun k => k [undef, undef] w) (fun us109 w =>
    pick t107 (gd us109 1) (Value.bool false) (fun t111 w =>
    gsel t111 true (fun k113 =>
    bin Try.prog BinOp.eql 26 false true k_17 (Value.int IntKind.i64 6) (fun t114 w =>
    k113 [k_17, t114] w) w)
    (fun k => k [undef, undef] w) (fun us113 w =>
    pick t111 (gd us113 1) (Value.bool false) (fun t115 w =>
    gsel t115 true (fun k117 =>
    conv Try.prog 22 9 t61 (fun t118 w =>
    bin Try.prog BinOp.eql 9 false true t118 (Value.string (bstr [0, 0, 0, 1, 97, 0, 0, 0, 0])) (fun t119 w =>
    k117 [t61, t118, t119] w) w) w)
    (fun k => k [undef, undef, undef] w) (fun us117 w =>
    pick t115 (gd us117 2) (Value.bool false) (fun t120 w =>
    gsel t120 true (fun k122 =>
    bin Try.prog BinOp.eql 26 false true t62 (Value.int IntKind.i64 0) (fun t123 w =>
    k122 [t62, t123] w) w)
    (fun k => k [undef, undef] w) (fun us122 w =>
    pick t120 (gd us122 1) (Value.bool false) (fun t124 w =>
    K t124 w) w)) w)) w)) w)) w)) w)) w)) w)) w)) w)) w)) w)) w)) w)) w) w) w) w) w) w) w) w) :
    cCode Try.prog (cd Try.f8 [1, 1, 1, 1, 1, 1, 1, 1]) (retK Try.prog Try.f8.results.toList K) (fun _ _ _ => False) (retK Try.prog Try.f8.results.toList K) (t0 :: a1 :: e2 :: t3 :: f4 :: t5 :: g6 :: n7 :: next8 :: h9 :: b10 :: i11 :: s12 :: end13 :: j14 :: t15 :: t16 :: k_17 :: l18 :: m19 :: t20 :: t21 :: t22 :: t23 :: t24 :: t25 :: t26 :: t27 :: t28 :: t29 :: t30 :: t31 :: t32 :: t33 :: t34 :: t35 :: t36 :: t37 :: t38 :: t39 :: t40 :: t41 :: t42 :: t43 :: t44 :: t45 :: t46 :: t47 :: t48 :: t49 :: t50 :: t51 :: t52 :: t53 :: t54 :: t55 :: t56 :: t57 :: t58 :: t59 :: t60 :: t61 :: t62 :: t63 :: t64 :: t65 :: t66 :: t67 :: t68 :: t69 :: t70 :: t71 :: t72 :: t73 :: t74 :: t75 :: t76 :: t77 :: t78 :: t79 :: t80 :: t81 :: t82 :: t83 :: t84 :: t85 :: t86 :: t87 :: t88 :: t89 :: t90 :: t91 :: t92 :: t93 :: t94 :: t95 :: t96 :: t97 :: t98 :: t99 :: t100 :: t101 :: t102 :: t103 :: t104 :: t105 :: t106 :: t107 :: t108 :: t109 :: t110 :: t111 :: t112 :: t113 :: t114 :: t115 :: t116 :: t117 :: t118 :: t119 :: t120 :: t121 :: t122 :: t123 :: t124 :: []) w := Eq.mp (by kernel_rfl) h

theorem leatlaw01_works_A2_r {K : KV} {t0 a1 e2 t3 f4 t5 g6 n7 next8 h9 b10 i11 s12 end13 j14 t15 t16 k_17 l18 m19 t20 t21 t22 t23 t24 t25 t26 t27 t28 t29 t30 t31 t32 t33 t34 t35 t36 t37 t38 t39 t40 t41 t42 t43 t44 t45 t46 t47 t48 t49 t50 t51 t52 t53 t54 t55 t56 t57 t58 t59 t60 t61 t62 t63 t64 t65 t66 t67 t68 t69 t70 t71 t72 t73 t74 t75 t76 t77 t78 t79 t80 t81 t82 t83 t84 t85 t86 t87 t88 t89 t90 t91 t92 t93 t94 t95 t96 t97 t98 t99 t100 t101 t102 t103 t104 t105 t106 t107 t108 t109 t110 t111 t112 t113 t114 t115 t116 t117 t118 t119 t120 t121 t122 t123 t124 : Value} {w : World}
    (h : bldS Try.prog 22 1 #[(0, (Value.int IntKind.u8 97))] (fun t57 w =>
    conv Try.prog 22 22 t57 (fun t58 w =>
    bldS Try.prog 36 2 #[(0, t58), (1, (Value.slice none 0 0))] (fun t59 w =>
    call Try.prog 19 #[t59] (fun t60 w =>
    ext Try.prog t60 0 (fun t61 w =>
    ext Try.prog t60 1 (fun t62 w =>
    conv Try.prog 22 9 a1 (fun t64 w =>
    bin Try.prog BinOp.eql 9 false true t64 (Value.string (bstr [1, 2])) (fun t65 w =>
    gsel t65 true (fun k67 =>
    bin Try.prog BinOp.eql 26 false true e2 (Value.int IntKind.i64 0) (fun t68 w =>
    k67 [e2, t68] w) w)
    (fun k => k [undef, undef] w) (fun us67 w =>
    pick t65 (gd us67 1) (Value.bool false) (fun t69 w =>
    gsel t69 true (fun k71 =>
    bin Try.prog BinOp.eql 26 false true f4 (Value.int IntKind.i64 6) (fun t72 w =>
    k71 [f4, t72] w) w)
    (fun k => k [undef, undef] w) (fun us71 w =>
    pick t69 (gd us71 1) (Value.bool false) (fun t73 w =>
    gsel t73 true (fun k75 =>
    bin Try.prog BinOp.eql 26 false true g6 (Value.int IntKind.i64 1) (fun t76 w =>
    k75 [g6, t76] w) w)
    (fun k => k [undef, undef] w) (fun us75 w =>
    pick t73 (gd us75 1) (Value.bool false) (fun t77 w =>
    gsel t77 true (fun k79 =>
    bin Try.prog BinOp.eql 23 false true n7 (Value.int IntKind.u64 258) (fun t80 w =>
    k79 [n7, t80] w) w)
    (fun k => k [undef, undef] w) (fun us79 w =>
    pick t77 (gd us79 1) (Value.bool false) (fun t81 w =>
    gsel t81 true (fun k83 =>
    bin Try.prog BinOp.eql 3 false true next8 (Value.int IntKind.i64 2) (fun t84 w =>
    k83 [next8, t84] w) w)
    (fun k => k [undef, undef] w) (fun us83 w =>
    pick t81 (gd us83 1) (Value.bool false) (fun t85 w =>
    gsel t85 true (fun k87 =>
    bin Try.prog BinOp.eql 26 false true h9 (Value.int IntKind.i64 0) (fun t88 w =>
    k87 [h9, t88] w) w)
    (fun k => k [undef, undef] w) (fun us87 w =>
    pick t85 (gd us87 1) (Value.bool false) (fun t89 w =>
    gsel t89 true (fun k91 =>
    conv Try.prog 22 9 b10 (fun t92 w =>
    bin Try.prog BinOp.eql 9 false true t92 (Value.string (bstr [0, 0, 0, 2, 97, 98])) (fun t93 w =>
    k91 [b10, t92, t93] w) w) w)
    (fun k => k [undef, undef, undef] w) (fun us91 w =>
    pick t89 (gd us91 2) (Value.bool false) (fun t94 w =>
    gsel t94 true (fun k96 =>
    bin Try.prog BinOp.eql 26 false true i11 (Value.int IntKind.i64 0) (fun t97 w =>
    k96 [i11, t97] w) w)
    (fun k => k [undef, undef] w) (fun us96 w =>
    pick t94 (gd us96 1) (Value.bool false) (fun t98 w =>
    gsel t98 true (fun k100 =>
    conv Try.prog 22 9 s12 (fun t101 w =>
    bin Try.prog BinOp.eql 9 false true t101 (Value.string (bstr [97, 98])) (fun t102 w =>
    k100 [s12, t101, t102] w) w) w)
    (fun k => k [undef, undef, undef] w) (fun us100 w =>
    pick t98 (gd us100 2) (Value.bool false) (fun t103 w =>
    gsel t103 true (fun k105 =>
    bin Try.prog BinOp.eql 3 false true end13 (Value.int IntKind.i64 6) (fun t106 w =>
    k105 [end13, t106] w) w)
    (fun k => k [undef, undef] w) (fun us105 w =>
    pick t103 (gd us105 1) (Value.bool false) (fun t107 w =>
    gsel t107 true (fun k109 =>
    bin Try.prog BinOp.eql 26 false true j14 (Value.int IntKind.i64 0) (fun t110 w =>
    k109 [j14, t110] w) w)
    (fun k => k [undef, undef] w) (fun us109 w =>
    pick t107 (gd us109 1) (Value.bool false) (fun t111 w =>
    gsel t111 true (fun k113 =>
    bin Try.prog BinOp.eql 26 false true k_17 (Value.int IntKind.i64 6) (fun t114 w =>
    k113 [k_17, t114] w) w)
    (fun k => k [undef, undef] w) (fun us113 w =>
    pick t111 (gd us113 1) (Value.bool false) (fun t115 w =>
    gsel t115 true (fun k117 =>
    conv Try.prog 22 9 t61 (fun t118 w =>
    bin Try.prog BinOp.eql 9 false true t118 (Value.string (bstr [0, 0, 0, 1, 97, 0, 0, 0, 0])) (fun t119 w =>
    k117 [t61, t118, t119] w) w) w)
    (fun k => k [undef, undef, undef] w) (fun us117 w =>
    pick t115 (gd us117 2) (Value.bool false) (fun t120 w =>
    gsel t120 true (fun k122 =>
    bin Try.prog BinOp.eql 26 false true t62 (Value.int IntKind.i64 0) (fun t123 w =>
    k122 [t62, t123] w) w)
    (fun k => k [undef, undef] w) (fun us122 w =>
    pick t120 (gd us122 1) (Value.bool false) (fun t124 w =>
    K t124 w) w)) w)) w)) w)) w)) w)) w)) w)) w)) w)) w)) w)) w)) w)) w) w) w) w) w) w) w) w) :
    leatlaw01_works_A2 K (t0 :: a1 :: e2 :: t3 :: f4 :: t5 :: g6 :: n7 :: next8 :: h9 :: b10 :: i11 :: s12 :: end13 :: j14 :: t15 :: t16 :: k_17 :: l18 :: m19 :: t20 :: t21 :: t22 :: t23 :: t24 :: t25 :: t26 :: t27 :: t28 :: t29 :: t30 :: t31 :: t32 :: t33 :: t34 :: t35 :: t36 :: t37 :: t38 :: t39 :: t40 :: t41 :: t42 :: t43 :: t44 :: t45 :: t46 :: t47 :: t48 :: t49 :: t50 :: t51 :: t52 :: t53 :: t54 :: t55 :: t56 :: t57 :: t58 :: t59 :: t60 :: t61 :: t62 :: t63 :: t64 :: t65 :: t66 :: t67 :: t68 :: t69 :: t70 :: t71 :: t72 :: t73 :: t74 :: t75 :: t76 :: t77 :: t78 :: t79 :: t80 :: t81 :: t82 :: t83 :: t84 :: t85 :: t86 :: t87 :: t88 :: t89 :: t90 :: t91 :: t92 :: t93 :: t94 :: t95 :: t96 :: t97 :: t98 :: t99 :: t100 :: t101 :: t102 :: t103 :: t104 :: t105 :: t106 :: t107 :: t108 :: t109 :: t110 :: t111 :: t112 :: t113 :: t114 :: t115 :: t116 :: t117 :: t118 :: t119 :: t120 :: t121 :: t122 :: t123 :: t124 :: []) w := by
  delta leatlaw01_works_A2
  exact Eq.mp (congrArg (fun c => cCode Try.prog c (retK Try.prog Try.f8.results.toList K) (fun _ _ _ => False) (retK Try.prog Try.f8.results.toList K) (t0 :: a1 :: e2 :: t3 :: f4 :: t5 :: g6 :: n7 :: next8 :: h9 :: b10 :: i11 :: s12 :: end13 :: j14 :: t15 :: t16 :: k_17 :: l18 :: m19 :: t20 :: t21 :: t22 :: t23 :: t24 :: t25 :: t26 :: t27 :: t28 :: t29 :: t30 :: t31 :: t32 :: t33 :: t34 :: t35 :: t36 :: t37 :: t38 :: t39 :: t40 :: t41 :: t42 :: t43 :: t44 :: t45 :: t46 :: t47 :: t48 :: t49 :: t50 :: t51 :: t52 :: t53 :: t54 :: t55 :: t56 :: t57 :: t58 :: t59 :: t60 :: t61 :: t62 :: t63 :: t64 :: t65 :: t66 :: t67 :: t68 :: t69 :: t70 :: t71 :: t72 :: t73 :: t74 :: t75 :: t76 :: t77 :: t78 :: t79 :: t80 :: t81 :: t82 :: t83 :: t84 :: t85 :: t86 :: t87 :: t88 :: t89 :: t90 :: t91 :: t92 :: t93 :: t94 :: t95 :: t96 :: t97 :: t98 :: t99 :: t100 :: t101 :: t102 :: t103 :: t104 :: t105 :: t106 :: t107 :: t108 :: t109 :: t110 :: t111 :: t112 :: t113 :: t114 :: t115 :: t116 :: t117 :: t118 :: t119 :: t120 :: t121 :: t122 :: t123 :: t124 :: []) w) (by kernel_rfl : (cd Try.f8 [1, 1, 1, 1, 1, 1, 1, 1]) = (cd Try.f8 [1, 1, 1, 1, 1, 1, 1, 1]))) (leatlaw01_works_A2_k h)
attribute [irreducible] leatlaw01_works_A1 leatlaw01_works_A2


theorem leatlaw01_roomy_k {K : KV} {b0 : Value} {w : World}
    (h : blt Try.prog Builtin.len #[22] 3 #[false] #[b0] (fun t4 w =>
    bin Try.prog BinOp.add 3 false true t4 (Value.int IntKind.i64 64) (fun t5 w =>
    mkS Try.prog 22 (Value.int IntKind.i64 0) t5 (fun t6 w =>
    blt Try.prog Builtin.append #[22, 22] 22 #[false, false] #[t6, b0] (fun t8 w =>
    K t8 w) w) w) w) w) :
    cCode Try.prog (cd Try.f9 []) (retK Try.prog Try.f9.results.toList K) (fun _ _ _ => False) (retK Try.prog Try.f9.results.toList K) [b0, undef, undef, undef, undef, undef, undef, undef, undef] w := Eq.mp (by kernel_rfl) h

theorem leatlaw01_roomy_in {K : KV} {b0 : Value} {w : World}
    (h : blt Try.prog Builtin.len #[22] 3 #[false] #[b0] (fun t4 w =>
    bin Try.prog BinOp.add 3 false true t4 (Value.int IntKind.i64 64) (fun t5 w =>
    mkS Try.prog 22 (Value.int IntKind.i64 0) t5 (fun t6 w =>
    blt Try.prog Builtin.append #[22, 22] 22 #[false, false] #[t6, b0] (fun t8 w =>
    K t8 w) w) w) w) w) :
    Gives Try.prog 9 #[b0] w K := enter' Try.func9 (by kernel_rfl) (Eq.mp (congrArg (fun c => cCode Try.prog c (retK Try.prog Try.f9.results.toList K) (fun _ _ _ => False) (retK Try.prog Try.f9.results.toList K) [b0, undef, undef, undef, undef, undef, undef, undef, undef] w) (by kernel_rfl : (cd Try.f9 []) = (cd Try.f9 []))) (leatlaw01_roomy_k (h : blt Try.prog Builtin.len #[22] 3 #[false] #[b0] (fun t4 w =>
    bin Try.prog BinOp.add 3 false true t4 (Value.int IntKind.i64 64) (fun t5 w =>
    mkS Try.prog 22 (Value.int IntKind.i64 0) t5 (fun t6 w =>
    blt Try.prog Builtin.append #[22, 22] 22 #[false, false] #[t6, b0] (fun t8 w =>
    K t8 w) w) w) w) w)))
theorem leatlaw01_roomy_go : isGo Try.prog 9 := ⟨_, Try.func9, by kernel_rfl, by kernel_rfl⟩

def leatlaw01_kept_P1 (K : KV) : KE := cCode Try.prog (cd Try.f14 [1, 1, 1, 1]) (retK Try.prog Try.f14.results.toList K) (fun _ _ _ => False) (retK Try.prog Try.f14.results.toList K)
def leatlaw01_kept_L1 (K : KV) : KE := cCode Try.prog (cd Try.f14 [1, 1, 1, 0, 1, 0]) (leatlaw01_kept_P1 K) (fun i => @Bool.rec (fun _ => KE) ((fun _ _ _ => False) i) (leatlaw01_kept_P1 K) (Nat.beq i 0)) (retK Try.prog Try.f14.results.toList K)
theorem leatlaw01_kept_k {K : KV} {own0 b1 : Value} {w : World}
    (h : conv Try.prog 22 9 own0 (fun t8 w =>
    conv Try.prog 22 9 b1 (fun t10 w =>
    bin Try.prog BinOp.neq 9 false false t8 t10 (fun t11 w =>
    cond t11
      (K (Value.bool false) w)
      (blt Try.prog Builtin.len #[22] 3 #[false] #[b1] (fun t14 w =>
    bin Try.prog BinOp.add 3 false true t14 (Value.int IntKind.i64 64) (fun t15 w =>
    slc Try.prog 22 own0 none (some t15) none (fun t16 w =>
    blt Try.prog Builtin.len #[22] 3 #[false] #[b1] (fun t18 w =>
    (cCode Try.prog (cd Try.f14 [1, 1, 1, 0, 1, 0]) (cCode Try.prog (cd Try.f14 [1, 1, 1, 1]) (retK Try.prog Try.f14.results.toList K) (fun _ _ _ => False) (retK Try.prog Try.f14.results.toList K)) (fun i => @Bool.rec (fun _ => KE) ((fun _ _ _ => False) i) (cCode Try.prog (cd Try.f14 [1, 1, 1, 1]) (retK Try.prog Try.f14.results.toList K) (fun _ _ _ => False) (retK Try.prog Try.f14.results.toList K)) (Nat.beq i 0)) (retK Try.prog Try.f14.results.toList K)) [own0, b1, undef, undef, (Value.bool false), t16, t18, own0, t8, b1, t10, t11, own0, b1, t14, t15, t16, b1, t18, undef, undef, undef, undef, undef, undef, undef, undef, undef, undef, undef] w) w) w) w) w)) w) w) w) :
    cCode Try.prog (cd Try.f14 []) (retK Try.prog Try.f14.results.toList K) (fun _ _ _ => False) (retK Try.prog Try.f14.results.toList K) [own0, b1, undef, undef, undef, undef, undef, undef, undef, undef, undef, undef, undef, undef, undef, undef, undef, undef, undef, undef, undef, undef, undef, undef, undef, undef, undef, undef, undef, undef] w := Eq.mp (by kernel_rfl) h

theorem leatlaw01_kept_in {K : KV} {own0 b1 : Value} {w : World}
    (h : conv Try.prog 22 9 own0 (fun t8 w =>
    conv Try.prog 22 9 b1 (fun t10 w =>
    bin Try.prog BinOp.neq 9 false false t8 t10 (fun t11 w =>
    cond t11
      (K (Value.bool false) w)
      (blt Try.prog Builtin.len #[22] 3 #[false] #[b1] (fun t14 w =>
    bin Try.prog BinOp.add 3 false true t14 (Value.int IntKind.i64 64) (fun t15 w =>
    slc Try.prog 22 own0 none (some t15) none (fun t16 w =>
    blt Try.prog Builtin.len #[22] 3 #[false] #[b1] (fun t18 w =>
    (leatlaw01_kept_L1 K) [own0, b1, undef, undef, (Value.bool false), t16, t18, own0, t8, b1, t10, t11, own0, b1, t14, t15, t16, b1, t18, undef, undef, undef, undef, undef, undef, undef, undef, undef, undef, undef] w) w) w) w) w)) w) w) w) :
    Gives Try.prog 14 #[own0, b1] w K := enter' Try.func14 (by kernel_rfl) (Eq.mp (congrArg (fun c => cCode Try.prog c (retK Try.prog Try.f14.results.toList K) (fun _ _ _ => False) (retK Try.prog Try.f14.results.toList K) [own0, b1, undef, undef, undef, undef, undef, undef, undef, undef, undef, undef, undef, undef, undef, undef, undef, undef, undef, undef, undef, undef, undef, undef, undef, undef, undef, undef, undef, undef] w) (by kernel_rfl : (cd Try.f14 []) = (cd Try.f14 []))) (leatlaw01_kept_k (h : conv Try.prog 22 9 own0 (fun t8 w =>
    conv Try.prog 22 9 b1 (fun t10 w =>
    bin Try.prog BinOp.neq 9 false false t8 t10 (fun t11 w =>
    cond t11
      (K (Value.bool false) w)
      (blt Try.prog Builtin.len #[22] 3 #[false] #[b1] (fun t14 w =>
    bin Try.prog BinOp.add 3 false true t14 (Value.int IntKind.i64 64) (fun t15 w =>
    slc Try.prog 22 own0 none (some t15) none (fun t16 w =>
    blt Try.prog Builtin.len #[22] 3 #[false] #[b1] (fun t18 w =>
    (leatlaw01_kept_L1 K) [own0, b1, undef, undef, (Value.bool false), t16, t18, own0, t8, b1, t10, t11, own0, b1, t14, t15, t16, b1, t18, undef, undef, undef, undef, undef, undef, undef, undef, undef, undef, undef] w) w) w) w) w)) w) w) w)))
theorem leatlaw01_kept_go : isGo Try.prog 14 := ⟨_, Try.func14, by kernel_rfl, by kernel_rfl⟩

theorem leatlaw01_kept_L1_k {K : KV} (B1 : KE) (q0 : KE) {own0 b1 own2 b3 more5 i6' t7 t8 t9 t10 t11 t12 t13 t14 t15 t16 t17 t18 : Value} {dd : Nat → Value} {w : World}
    (h : blt Try.prog Builtin.len #[22] 3 #[false] #[more5] (fun t21 w =>
    bin Try.prog BinOp.lss 3 false false i6' t21 (fun t22 w =>
    cond t22
      (idxA Try.prog 22 more5 i6' (fun t27 w =>
    ld Try.prog 5 t27 (fun t28 w =>
    bin Try.prog BinOp.neq 5 false true t28 (Value.int IntKind.u8 0) (fun t29 w =>
    cond t29
      (K (Value.bool false) w)
      (bin Try.prog BinOp.add 3 false true i6' (Value.int IntKind.i64 1) (fun t24 w =>
    B1 [own0, b1, own2, b3, (dd 4), more5, t24, t7, t8, t9, t10, t11, t12, t13, t14, t15, t16, t17, t18, i6', more5, t21, t22, i6', t24, more5, i6', t27, t28, t29] w) w)) w) w) w)
      (q0 [own0, b1, own2, b3, (dd 4), more5, i6', t7, t8, t9, t10, t11, t12, t13, t14, t15, t16, t17, t18, i6', more5, t21, t22, (dd 23), (dd 24), (dd 25), (dd 26), (dd 27), (dd 28), (dd 29)] w)) w) w) :
    cCode Try.prog (cd Try.f14 [1, 1, 1, 0, 1, 0, 0]) B1 (fun i => @Bool.rec (fun _ => KE) ((fun _ _ _ => False) i) q0 (Nat.beq i 0)) (retK Try.prog Try.f14.results.toList K) [own0, b1, own2, b3, (dd 4), more5, i6', t7, t8, t9, t10, t11, t12, t13, t14, t15, t16, t17, t18, (dd 19), (dd 20), (dd 21), (dd 22), (dd 23), (dd 24), (dd 25), (dd 26), (dd 27), (dd 28), (dd 29)] w := Eq.mp (by kernel_rfl) h

theorem leatlaw01_kept_L1_r {K : KV} {own0 b1 own2 b3 t4 more5 i6 t7 t8 t9 t10 t11 t12 t13 t14 t15 t16 t17 t18 t19 t20 t21 t22 t23 t24 t25 t26 t27 t28 t29 : Value} {w : World} (Inv : Value → World → Prop) (μ : Value → World → Nat) (h0 : Inv i6 w)
    (hs : ∀ (i6' : Value) (dd : Nat → Value) (w : World) (m : Nat), Inv i6' w → m = μ i6' w →
    blt Try.prog Builtin.len #[22] 3 #[false] #[more5] (fun t21 w =>
    bin Try.prog BinOp.lss 3 false false i6' t21 (fun t22 w =>
    cond t22
      (idxA Try.prog 22 more5 i6' (fun t27 w =>
    ld Try.prog 5 t27 (fun t28 w =>
    bin Try.prog BinOp.neq 5 false true t28 (Value.int IntKind.u8 0) (fun t29 w =>
    cond t29
      (K (Value.bool false) w)
      (bin Try.prog BinOp.add 3 false true i6' (Value.int IntKind.i64 1) (fun t24 w =>
    (Inv t24 w ∧ μ t24 w < m)) w)) w) w) w)
      ((leatlaw01_kept_P1 K) [own0, b1, own2, b3, (dd 4), more5, i6', t7, t8, t9, t10, t11, t12, t13, t14, t15, t16, t17, t18, i6', more5, t21, t22, (dd 23), (dd 24), (dd 25), (dd 26), (dd 27), (dd 28), (dd 29)] w)) w) w) :
    leatlaw01_kept_L1 K [own0, b1, own2, b3, t4, more5, i6, t7, t8, t9, t10, t11, t12, t13, t14, t15, t16, t17, t18, t19, t20, t21, t22, t23, t24, t25, t26, t27, t28, t29] w := by
  refine loop_rule (cd Try.f14 [1, 1, 1, 0, 1, 0, 0]) [4, 6, 19, 20, 21, 22, 23, 24, 25, 26, 27, 28, 29] (by kernel_rfl) (fun e2 w2 => Inv (gd e2 6) w2) (fun e2 w2 => μ (gd e2 6) w2) h0 ?_
  intro e' w' hI
  have h := hs (gd e' 6) (fun i => gd e' i) w' _ hI rfl
  have h2 : cCode Try.prog (cd Try.f14 [1, 1, 1, 0, 1, 0, 0]) (fun e2 w2 => Inv (gd e2 6) w2 ∧ μ (gd e2 6) w2 < μ (gd e' 6) w') (fun i => @Bool.rec (fun _ => KE) ((fun _ _ _ => False) i) (leatlaw01_kept_P1 K) (Nat.beq i 0)) (retK Try.prog Try.f14.results.toList K) [own0, b1, own2, b3, (gd e' 4), more5, (gd e' 6), t7, t8, t9, t10, t11, t12, t13, t14, t15, t16, t17, t18, (gd e' 19), (gd e' 20), (gd e' 21), (gd e' 22), (gd e' 23), (gd e' 24), (gd e' 25), (gd e' 26), (gd e' 27), (gd e' 28), (gd e' 29)] w' := leatlaw01_kept_L1_k (fun e2 w2 => Inv (gd e2 6) w2 ∧ μ (gd e2 6) w2 < μ (gd e' 6) w') (leatlaw01_kept_P1 K) (Eq.mp (by kernel_rfl) h)
  exact Eq.mp (by kernel_rfl) h2

theorem leatlaw01_kept_P1_k {K : KV} {own0 b1 own2 b3 t4 more5 i6 t7 t8 t9 t10 t11 t12 t13 t14 t15 t16 t17 t18 t19 t20 t21 t22 t23 t24 t25 t26 t27 t28 t29 : Value} {w : World}
    (h : K (Value.bool true) w) :
    cCode Try.prog (cd Try.f14 [1, 1, 1, 1]) (retK Try.prog Try.f14.results.toList K) (fun _ _ _ => False) (retK Try.prog Try.f14.results.toList K) [own0, b1, own2, b3, t4, more5, i6, t7, t8, t9, t10, t11, t12, t13, t14, t15, t16, t17, t18, t19, t20, t21, t22, t23, t24, t25, t26, t27, t28, t29] w := Eq.mp (by kernel_rfl) h

theorem leatlaw01_kept_P1_r {K : KV} {own0 b1 own2 b3 t4 more5 i6 t7 t8 t9 t10 t11 t12 t13 t14 t15 t16 t17 t18 t19 t20 t21 t22 t23 t24 t25 t26 t27 t28 t29 : Value} {w : World}
    (h : K (Value.bool true) w) :
    leatlaw01_kept_P1 K [own0, b1, own2, b3, t4, more5, i6, t7, t8, t9, t10, t11, t12, t13, t14, t15, t16, t17, t18, t19, t20, t21, t22, t23, t24, t25, t26, t27, t28, t29] w := by
  delta leatlaw01_kept_P1
  exact Eq.mp (congrArg (fun c => cCode Try.prog c (retK Try.prog Try.f14.results.toList K) (fun _ _ _ => False) (retK Try.prog Try.f14.results.toList K) [own0, b1, own2, b3, t4, more5, i6, t7, t8, t9, t10, t11, t12, t13, t14, t15, t16, t17, t18, t19, t20, t21, t22, t23, t24, t25, t26, t27, t28, t29] w) (by kernel_rfl : (cd Try.f14 [1, 1, 1, 1]) = (cd Try.f14 [1, 1, 1, 1]))) (leatlaw01_kept_P1_k h)
attribute [irreducible] leatlaw01_kept_P1 leatlaw01_kept_L1

end Go.Proofs.Ytfgllkdmifhelaa
