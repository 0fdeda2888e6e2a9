/- Written by program (gen.py): what the code of some functions asks, part by part; each text is checked by the kernel against the translation. -/
import Derived.Test.YthmgiggmnbdnjaaSh
import Derived.Test.YthmgiggmnbdnjaaChecked
namespace Go.Proofs.Ythmgiggmnbdnjaa
open Go.RowKit
set_option maxRecDepth 100000

def leatlaw04_DiskRename_A1 (K : KV) : KE := cCode Try.prog (cd Try.f3 [1, 1, 1, 1, 1]) (retK Try.prog Try.f3.results.toList K) (fun _ _ _ => False) (retK Try.prog Try.f3.results.toList K)
def leatlaw04_DiskRename_P1 (K : KV) : KE := cCode Try.prog (cd Try.f3 [1, 1, 1, 1, 1, 1, 1, 1]) (retK Try.prog Try.f3.results.toList K) (fun _ _ _ => False) (retK Try.prog Try.f3.results.toList K)
def leatlaw04_DiskRename_A2 (K : KV) : KE := cCode Try.prog (cd Try.f3 [1, 1, 1, 1, 1, 1, 1, 0, 1]) (leatlaw04_DiskRename_P1 K) (fun _ _ _ => False) (retK Try.prog Try.f3.results.toList K)
def leatlaw04_DiskRename_A3 (K : KV) : KE := cCode Try.prog (cd Try.f3 [1, 1, 1, 1, 1, 1, 1, 1, 1, 1, 1, 1, 1]) (retK Try.prog Try.f3.results.toList K) (fun _ _ _ => False) (retK Try.prog Try.f3.results.toList K)
theorem leatlaw04_DiskRename_k {K : KV} (x0 : Code) {old0 fresh1 sync2 picks3 : Value} {w : World}
    (h : blt Try.prog Builtin.len #[22] 3 #[false] #[old0] (fun t22 w =>
    bin Try.prog BinOp.gtr 3 false true t22 (Value.int IntKind.i64 4096) (fun t23 w =>
    gsel t23 false (fun k25 =>
    blt Try.prog Builtin.len #[22] 3 #[false] #[fresh1] (fun t26 w =>
    bin Try.prog BinOp.gtr 3 false true t26 (Value.int IntKind.i64 4096) (fun t27 w =>
    k25 [fresh1, t26, t27] w) w) w)
    (fun k => k [undef, undef, undef] w) (fun us25 w =>
    pick t23 (Value.bool true) (gd us25 2) (fun t28 w =>
    gsel t28 false (fun k30 =>
    blt Try.prog Builtin.len #[23] 3 #[false] #[picks3] (fun t31 w =>
    bin Try.prog BinOp.gtr 3 false true t31 (Value.int IntKind.i64 5) (fun t32 w =>
    k30 [picks3, t31, t32] w) w) w)
    (fun k => k [undef, undef, undef] w) (fun us30 w =>
    pick t28 (Value.bool true) (gd us30 2) (fun t33 w =>
    cond t33
      (call Try.prog 9 #[] (fun t34 w =>
      K t34 w) w)
      (call Try.prog 10 #[] (fun t35 w =>
    call Try.prog 11 #[t35, (Value.int IntKind.i64 0), old0] (fun t38 w =>
    call Try.prog 11 #[t35, (Value.int IntKind.i64 1), fresh1] (fun t41 w =>
    (cCode Try.prog x0 (retK Try.prog Try.f3.results.toList K) (fun _ _ _ => False) (retK Try.prog Try.f3.results.toList K)) (old0 :: fresh1 :: sync2 :: picks3 :: undef :: undef :: undef :: undef :: (Value.bool false) :: t35 :: t38 :: t41 :: undef :: undef :: undef :: undef :: undef :: undef :: undef :: undef :: undef :: old0 :: t22 :: t23 :: t23 :: (gd us25 0) :: (gd us25 1) :: (gd us25 2) :: t28 :: t28 :: (gd us30 0) :: (gd us30 1) :: (gd us30 2) :: t33 :: undef :: t35 :: t35 :: old0 :: t38 :: t35 :: fresh1 :: t41 :: undef :: undef :: undef :: undef :: undef :: undef :: undef :: undef :: undef :: undef :: undef :: undef :: undef :: undef :: undef :: undef :: undef :: undef :: undef :: undef :: undef :: undef :: undef :: undef :: undef :: undef :: undef :: undef :: undef :: undef :: undef :: undef :: undef :: undef :: undef :: undef :: undef :: undef :: undef :: undef :: undef :: undef :: undef :: undef :: undef :: undef :: undef :: undef :: undef :: undef :: undef :: undef :: undef :: undef :: undef :: undef :: undef :: undef :: undef :: undef :: undef :: undef :: undef :: undef :: undef :: undef :: undef :: undef :: undef :: undef :: undef :: undef :: undef :: undef :: undef :: undef :: []) w) w) w) w)) w)) w)) w) w) :
    cCode Try.prog (rep [1, 1, 1, 1, 1] x0 (cd Try.f3 [])) (retK Try.prog Try.f3.results.toList K) (fun _ _ _ => False) (retK Try.prog Try.f3.results.toList K) (old0 :: fresh1 :: sync2 :: picks3 :: undef :: undef :: undef :: undef :: undef :: undef :: undef :: undef :: undef :: undef :: undef :: undef :: undef :: undef :: undef :: undef :: undef :: undef :: undef :: undef :: undef :: undef :: undef :: undef :: undef :: undef :: undef :: undef :: undef :: undef :: undef :: undef :: undef :: undef :: undef :: undef :: undef :: undef :: undef :: undef :: undef :: undef :: undef :: undef :: undef :: undef :: undef :: undef :: undef :: undef :: undef :: undef :: undef :: undef :: undef :: undef :: undef :: undef :: undef :: undef :: undef :: undef :: undef :: undef :: undef :: undef :: undef :: undef :: undef :: undef :: undef :: undef :: undef :: undef :: undef :: undef :: undef :: undef :: undef :: undef :: undef :: undef :: undef :: undef :: undef :: undef :: undef :: undef :: undef :: undef :: undef :: undef :: undef :: undef :: undef :: undef :: undef :: undef :: undef :: undef :: undef :: undef :: undef :: undef :: undef :: undef :: undef :: undef :: undef :: undef :: undef :: undef :: undef :: undef :: []) w := Eq.mp (by kernel_rfl) h

theorem leatlaw04_DiskRename_in {K : KV} {old0 fresh1 sync2 picks3 : Value} {w : World}
    (h : blt Try.prog Builtin.len #[22] 3 #[false] #[old0] (fun t22 w =>
    bin Try.prog BinOp.gtr 3 false true t22 (Value.int IntKind.i64 4096) (fun t23 w =>
    gsel t23 false (fun k25 =>
    blt Try.prog Builtin.len #[22] 3 #[false] #[fresh1] (fun t26 w =>
    bin Try.prog BinOp.gtr 3 false true t26 (Value.int IntKind.i64 4096) (fun t27 w =>
    k25 [fresh1, t26, t27] w) w) w)
    (fun k => k [undef, undef, undef] w) (fun us25 w =>
    pick t23 (Value.bool true) (gd us25 2) (fun t28 w =>
    gsel t28 false (fun k30 =>
    blt Try.prog Builtin.len #[23] 3 #[false] #[picks3] (fun t31 w =>
    bin Try.prog BinOp.gtr 3 false true t31 (Value.int IntKind.i64 5) (fun t32 w =>
    k30 [picks3, t31, t32] w) w) w)
    (fun k => k [undef, undef, undef] w) (fun us30 w =>
    pick t28 (Value.bool true) (gd us30 2) (fun t33 w =>
    cond t33
      (call Try.prog 9 #[] (fun t34 w =>
      K t34 w) w)
      (call Try.prog 10 #[] (fun t35 w =>
    call Try.prog 11 #[t35, (Value.int IntKind.i64 0), old0] (fun t38 w =>
    call Try.prog 11 #[t35, (Value.int IntKind.i64 1), fresh1] (fun t41 w =>
    (leatlaw04_DiskRename_A1 K) (old0 :: fresh1 :: sync2 :: picks3 :: undef :: undef :: undef :: undef :: (Value.bool false) :: t35 :: t38 :: t41 :: undef :: undef :: undef :: undef :: undef :: undef :: undef :: undef :: undef :: old0 :: t22 :: t23 :: t23 :: (gd us25 0) :: (gd us25 1) :: (gd us25 2) :: t28 :: t28 :: (gd us30 0) :: (gd us30 1) :: (gd us30 2) :: t33 :: undef :: t35 :: t35 :: old0 :: t38 :: t35 :: fresh1 :: t41 :: undef :: undef :: undef :: undef :: undef :: undef :: undef :: undef :: undef :: undef :: undef :: undef :: undef :: undef :: undef :: undef :: undef :: undef :: undef :: undef :: undef :: undef :: undef :: undef :: undef :: undef :: undef :: undef :: undef :: undef :: undef :: undef :: undef :: undef :: undef :: undef :: undef :: undef :: undef :: undef :: undef :: undef :: undef :: undef :: undef :: undef :: undef :: undef :: undef :: undef :: undef :: undef :: undef :: undef :: undef :: undef :: undef :: undef :: undef :: undef :: undef :: undef :: undef :: undef :: undef :: undef :: undef :: undef :: undef :: undef :: undef :: undef :: undef :: undef :: undef :: undef :: []) w) w) w) w)) w)) w)) w) w) :
    Gives Try.prog 3 #[old0, fresh1, sync2, picks3] w K := enter' Try.func3 (by kernel_rfl) (Eq.mp (congrArg (fun c => cCode Try.prog c (retK Try.prog Try.f3.results.toList K) (fun _ _ _ => False) (retK Try.prog Try.f3.results.toList K) (old0 :: fresh1 :: sync2 :: picks3 :: undef :: undef :: undef :: undef :: undef :: undef :: undef :: undef :: undef :: undef :: undef :: undef :: undef :: undef :: undef :: undef :: undef :: undef :: undef :: undef :: undef :: undef :: undef :: undef :: undef :: undef :: undef :: undef :: undef :: undef :: undef :: undef :: undef :: undef :: undef :: undef :: undef :: undef :: undef :: undef :: undef :: undef :: undef :: undef :: undef :: undef :: undef :: undef :: undef :: undef :: undef :: undef :: undef :: undef :: undef :: undef :: undef :: undef :: undef :: undef :: undef :: undef :: undef :: undef :: undef :: undef :: undef :: undef :: undef :: undef :: undef :: undef :: undef :: undef :: undef :: undef :: undef :: undef :: undef :: undef :: undef :: undef :: undef :: undef :: undef :: undef :: undef :: undef :: undef :: undef :: undef :: undef :: undef :: undef :: undef :: undef :: undef :: undef :: undef :: undef :: undef :: undef :: undef :: undef :: undef :: undef :: undef :: undef :: undef :: undef :: undef :: undef :: undef :: undef :: []) w) (by kernel_rfl : (rep [1, 1, 1, 1, 1] (cd Try.f3 [1, 1, 1, 1, 1]) (cd Try.f3 [])) = (cd Try.f3 []))) (leatlaw04_DiskRename_k (cd Try.f3 [1, 1, 1, 1, 1]) (h : blt Try.prog Builtin.len #[22] 3 #[false] #[old0] (fun t22 w =>
    bin Try.prog BinOp.gtr 3 false true t22 (Value.int IntKind.i64 4096) (fun t23 w =>
    gsel t23 false (fun k25 =>
    blt Try.prog Builtin.len #[22] 3 #[false] #[fresh1] (fun t26 w =>
    bin Try.prog BinOp.gtr 3 false true t26 (Value.int IntKind.i64 4096) (fun t27 w =>
    k25 [fresh1, t26, t27] w) w) w)
    (fun k => k [undef, undef, undef] w) (fun us25 w =>
    pick t23 (Value.bool true) (gd us25 2) (fun t28 w =>
    gsel t28 false (fun k30 =>
    blt Try.prog Builtin.len #[23] 3 #[false] #[picks3] (fun t31 w =>
    bin Try.prog BinOp.gtr 3 false true t31 (Value.int IntKind.i64 5) (fun t32 w =>
    k30 [picks3, t31, t32] w) w) w)
    (fun k => k [undef, undef, undef] w) (fun us30 w =>
    pick t28 (Value.bool true) (gd us30 2) (fun t33 w =>
    cond t33
      (call Try.prog 9 #[] (fun t34 w =>
      K t34 w) w)
      (call Try.prog 10 #[] (fun t35 w =>
    call Try.prog 11 #[t35, (Value.int IntKind.i64 0), old0] (fun t38 w =>
    call Try.prog 11 #[t35, (Value.int IntKind.i64 1), fresh1] (fun t41 w =>
    (leatlaw04_DiskRename_A1 K) (old0 :: fresh1 :: sync2 :: picks3 :: undef :: undef :: undef :: undef :: (Value.bool false) :: t35 :: t38 :: t41 :: undef :: undef :: undef :: undef :: undef :: undef :: undef :: undef :: undef :: old0 :: t22 :: t23 :: t23 :: (gd us25 0) :: (gd us25 1) :: (gd us25 2) :: t28 :: t28 :: (gd us30 0) :: (gd us30 1) :: (gd us30 2) :: t33 :: undef :: t35 :: t35 :: old0 :: t38 :: t35 :: fresh1 :: t41 :: undef :: undef :: undef :: undef :: undef :: undef :: undef :: undef :: undef :: undef :: undef :: undef :: undef :: undef :: undef :: undef :: undef :: undef :: undef :: undef :: undef :: undef :: undef :: undef :: undef :: undef :: undef :: undef :: undef :: undef :: undef :: undef :: undef :: undef :: undef :: undef :: undef :: undef :: undef :: undef :: undef :: undef :: undef :: undef :: undef :: undef :: undef :: undef :: undef :: undef :: undef :: undef :: undef :: undef :: undef :: undef :: undef :: undef :: undef :: undef :: undef :: undef :: undef :: undef :: undef :: undef :: undef :: undef :: undef :: undef :: undef :: undef :: undef :: undef :: undef :: undef :: []) w) w) w) w)) w)) w)) w) w)))
theorem leatlaw04_DiskRename_go : isGo Try.prog 3 := ⟨_, Try.func3, by kernel_rfl, by kernel_rfl⟩

theorem leatlaw04_DiskRename_A1_k {K : KV} (x0 : Code) {old0 fresh1 sync2 picks3 old4 fresh5 sync6 picks7 t8 d9 a10 b11 c12 e13 f14 s15 t16 t17 t18 made19 stands20 t21 t22 t23 t24 t25 t26 t27 t28 t29 t30 t31 t32 t33 t34 t35 t36 t37 t38 t39 t40 t41 t42 t43 t44 t45 t46 t47 t48 t49 t50 t51 t52 t53 t54 t55 t56 t57 t58 t59 t60 t61 t62 t63 t64 t65 t66 t67 t68 t69 t70 t71 t72 t73 t74 t75 t76 t77 t78 t79 t80 t81 t82 t83 t84 t85 t86 t87 t88 t89 t90 t91 t92 t93 t94 t95 t96 t97 t98 t99 t100 t101 t102 t103 t104 t105 t106 t107 t108 t109 t110 t111 t112 t113 t114 t115 t116 t117 : Value} {w : World}
    (h : call Try.prog 12 #[d9] (fun t43 w =>
    call Try.prog 13 #[d9] (fun t45 w =>
    (cCode Try.prog x0 (cCode Try.prog (cd Try.f3 [1, 1, 1, 1, 1, 1, 1, 1]) (retK Try.prog Try.f3.results.toList K) (fun _ _ _ => False) (retK Try.prog Try.f3.results.toList K)) (fun _ _ _ => False) (retK Try.prog Try.f3.results.toList K)) (old0 :: fresh1 :: sync2 :: picks3 :: old4 :: fresh5 :: sync6 :: picks7 :: t8 :: d9 :: a10 :: b11 :: t43 :: t45 :: f14 :: s15 :: t16 :: t17 :: t18 :: made19 :: stands20 :: t21 :: t22 :: t23 :: t24 :: t25 :: t26 :: t27 :: t28 :: t29 :: t30 :: t31 :: t32 :: t33 :: t34 :: t35 :: t36 :: t37 :: t38 :: t39 :: t40 :: t41 :: d9 :: t43 :: d9 :: t45 :: sync2 :: t47 :: t48 :: t49 :: t50 :: t51 :: t52 :: t53 :: t54 :: t55 :: t56 :: t57 :: t58 :: t59 :: t60 :: t61 :: t62 :: t63 :: t64 :: t65 :: t66 :: t67 :: t68 :: t69 :: t70 :: t71 :: t72 :: t73 :: t74 :: t75 :: t76 :: t77 :: t78 :: t79 :: t80 :: t81 :: t82 :: t83 :: t84 :: t85 :: t86 :: t87 :: t88 :: t89 :: t90 :: t91 :: t92 :: t93 :: t94 :: t95 :: t96 :: t97 :: t98 :: t99 :: t100 :: t101 :: t102 :: t103 :: t104 :: t105 :: t106 :: t107 :: t108 :: t109 :: t110 :: t111 :: t112 :: t113 :: t114 :: t115 :: t116 :: t117 :: []) w) w) w) :
    cCode Try.prog (rep [1, 1, 0, 1] x0 (cd Try.f3 [1, 1, 1, 1, 1])) (retK Try.prog Try.f3.results.toList K) (fun _ _ _ => False) (retK Try.prog Try.f3.results.toList K) (old0 :: fresh1 :: sync2 :: picks3 :: old4 :: fresh5 :: sync6 :: picks7 :: t8 :: d9 :: a10 :: b11 :: c12 :: e13 :: f14 :: s15 :: t16 :: t17 :: t18 :: made19 :: stands20 :: t21 :: t22 :: t23 :: t24 :: t25 :: t26 :: t27 :: t28 :: t29 :: t30 :: t31 :: t32 :: t33 :: t34 :: t35 :: t36 :: t37 :: t38 :: t39 :: t40 :: t41 :: t42 :: t43 :: t44 :: t45 :: t46 :: t47 :: t48 :: t49 :: t50 :: t51 :: t52 :: t53 :: t54 :: t55 :: t56 :: t57 :: t58 :: t59 :: t60 :: t61 :: t62 :: t63 :: t64 :: t65 :: t66 :: t67 :: t68 :: t69 :: t70 :: t71 :: t72 :: t73 :: t74 :: t75 :: t76 :: t77 :: t78 :: t79 :: t80 :: t81 :: t82 :: t83 :: t84 :: t85 :: t86 :: t87 :: t88 :: t89 :: t90 :: t91 :: t92 :: t93 :: t94 :: t95 :: t96 :: t97 :: t98 :: t99 :: t100 :: t101 :: t102 :: t103 :: t104 :: t105 :: t106 :: t107 :: t108 :: t109 :: t110 :: t111 :: t112 :: t113 :: t114 :: t115 :: t116 :: t117 :: []) w := Eq.mp (by kernel_rfl) h

theorem leatlaw04_DiskRename_A1_r {K : KV} {old0 fresh1 sync2 picks3 old4 fresh5 sync6 picks7 t8 d9 a10 b11 c12 e13 f14 s15 t16 t17 t18 made19 stands20 t21 t22 t23 t24 t25 t26 t27 t28 t29 t30 t31 t32 t33 t34 t35 t36 t37 t38 t39 t40 t41 t42 t43 t44 t45 t46 t47 t48 t49 t50 t51 t52 t53 t54 t55 t56 t57 t58 t59 t60 t61 t62 t63 t64 t65 t66 t67 t68 t69 t70 t71 t72 t73 t74 t75 t76 t77 t78 t79 t80 t81 t82 t83 t84 t85 t86 t87 t88 t89 t90 t91 t92 t93 t94 t95 t96 t97 t98 t99 t100 t101 t102 t103 t104 t105 t106 t107 t108 t109 t110 t111 t112 t113 t114 t115 t116 t117 : Value} {w : World}
    (h : call Try.prog 12 #[d9] (fun t43 w =>
    call Try.prog 13 #[d9] (fun t45 w =>
    (leatlaw04_DiskRename_A2 K) (old0 :: fresh1 :: sync2 :: picks3 :: old4 :: fresh5 :: sync6 :: picks7 :: t8 :: d9 :: a10 :: b11 :: t43 :: t45 :: f14 :: s15 :: t16 :: t17 :: t18 :: made19 :: stands20 :: t21 :: t22 :: t23 :: t24 :: t25 :: t26 :: t27 :: t28 :: t29 :: t30 :: t31 :: t32 :: t33 :: t34 :: t35 :: t36 :: t37 :: t38 :: t39 :: t40 :: t41 :: d9 :: t43 :: d9 :: t45 :: sync2 :: t47 :: t48 :: t49 :: t50 :: t51 :: t52 :: t53 :: t54 :: t55 :: t56 :: t57 :: t58 :: t59 :: t60 :: t61 :: t62 :: t63 :: t64 :: t65 :: t66 :: t67 :: t68 :: t69 :: t70 :: t71 :: t72 :: t73 :: t74 :: t75 :: t76 :: t77 :: t78 :: t79 :: t80 :: t81 :: t82 :: t83 :: t84 :: t85 :: t86 :: t87 :: t88 :: t89 :: t90 :: t91 :: t92 :: t93 :: t94 :: t95 :: t96 :: t97 :: t98 :: t99 :: t100 :: t101 :: t102 :: t103 :: t104 :: t105 :: t106 :: t107 :: t108 :: t109 :: t110 :: t111 :: t112 :: t113 :: t114 :: t115 :: t116 :: t117 :: []) w) w) w) :
    leatlaw04_DiskRename_A1 K (old0 :: fresh1 :: sync2 :: picks3 :: old4 :: fresh5 :: sync6 :: picks7 :: t8 :: d9 :: a10 :: b11 :: c12 :: e13 :: f14 :: s15 :: t16 :: t17 :: t18 :: made19 :: stands20 :: t21 :: t22 :: t23 :: t24 :: t25 :: t26 :: t27 :: t28 :: t29 :: t30 :: t31 :: t32 :: t33 :: t34 :: t35 :: t36 :: t37 :: t38 :: t39 :: t40 :: t41 :: t42 :: t43 :: t44 :: t45 :: t46 :: t47 :: t48 :: t49 :: t50 :: t51 :: t52 :: t53 :: t54 :: t55 :: t56 :: t57 :: t58 :: t59 :: t60 :: t61 :: t62 :: t63 :: t64 :: t65 :: t66 :: t67 :: t68 :: t69 :: t70 :: t71 :: t72 :: t73 :: t74 :: t75 :: t76 :: t77 :: t78 :: t79 :: t80 :: t81 :: t82 :: t83 :: t84 :: t85 :: t86 :: t87 :: t88 :: t89 :: t90 :: t91 :: t92 :: t93 :: t94 :: t95 :: t96 :: t97 :: t98 :: t99 :: t100 :: t101 :: t102 :: t103 :: t104 :: t105 :: t106 :: t107 :: t108 :: t109 :: t110 :: t111 :: t112 :: t113 :: t114 :: t115 :: t116 :: t117 :: []) w := by
  delta leatlaw04_DiskRename_A1
  exact Eq.mp (congrArg (fun c => cCode Try.prog c (retK Try.prog Try.f3.results.toList K) (fun _ _ _ => False) (retK Try.prog Try.f3.results.toList K) (old0 :: fresh1 :: sync2 :: picks3 :: old4 :: fresh5 :: sync6 :: picks7 :: t8 :: d9 :: a10 :: b11 :: c12 :: e13 :: f14 :: s15 :: t16 :: t17 :: t18 :: made19 :: stands20 :: t21 :: t22 :: t23 :: t24 :: t25 :: t26 :: t27 :: t28 :: t29 :: t30 :: t31 :: t32 :: t33 :: t34 :: t35 :: t36 :: t37 :: t38 :: t39 :: t40 :: t41 :: t42 :: t43 :: t44 :: t45 :: t46 :: t47 :: t48 :: t49 :: t50 :: t51 :: t52 :: t53 :: t54 :: t55 :: t56 :: t57 :: t58 :: t59 :: t60 :: t61 :: t62 :: t63 :: t64 :: t65 :: t66 :: t67 :: t68 :: t69 :: t70 :: t71 :: t72 :: t73 :: t74 :: t75 :: t76 :: t77 :: t78 :: t79 :: t80 :: t81 :: t82 :: t83 :: t84 :: t85 :: t86 :: t87 :: t88 :: t89 :: t90 :: t91 :: t92 :: t93 :: t94 :: t95 :: t96 :: t97 :: t98 :: t99 :: t100 :: t101 :: t102 :: t103 :: t104 :: t105 :: t106 :: t107 :: t108 :: t109 :: t110 :: t111 :: t112 :: t113 :: t114 :: t115 :: t116 :: t117 :: []) w) (by kernel_rfl : (rep [1, 1, 0, 1] (cd Try.f3 [1, 1, 1, 1, 1, 1, 1, 0, 1]) (cd Try.f3 [1, 1, 1, 1, 1])) = (cd Try.f3 [1, 1, 1, 1, 1]))) (leatlaw04_DiskRename_A1_k (cd Try.f3 [1, 1, 1, 1, 1, 1, 1, 0, 1]) h)

theorem leatlaw04_DiskRename_A2_k {K : KV} (q0 : KE) {old0 fresh1 sync2 picks3 old4 fresh5 sync6 picks7 t8 d9 a10 b11 c12 e13 f14 s15 t16 t17 t18 made19 stands20 t21 t22 t23 t24 t25 t26 t27 t28 t29 t30 t31 t32 t33 t34 t35 t36 t37 t38 t39 t40 t41 t42 t43 t44 t45 t46 t47 t48 t49 t50 t51 t52 t53 t54 t55 t56 t57 t58 t59 t60 t61 t62 t63 t64 t65 t66 t67 t68 t69 t70 t71 t72 t73 t74 t75 t76 t77 t78 t79 t80 t81 t82 t83 t84 t85 t86 t87 t88 t89 t90 t91 t92 t93 t94 t95 t96 t97 t98 t99 t100 t101 t102 t103 t104 t105 t106 t107 t108 t109 t110 t111 t112 t113 t114 t115 t116 t117 : Value} {w : World}
    (h : cond t46
      (call Try.prog 12 #[d9] (fun t48 w =>
      bin Try.prog BinOp.neq 27 false true t48 (Value.int IntKind.i64 0) (fun t49 w =>
      cond t49
        (K (Value.bool false) w)
        (q0 (old0 :: fresh1 :: sync2 :: picks3 :: old4 :: fresh5 :: sync6 :: picks7 :: t8 :: d9 :: a10 :: b11 :: c12 :: e13 :: f14 :: s15 :: t16 :: t17 :: t18 :: made19 :: stands20 :: t21 :: t22 :: t23 :: t24 :: t25 :: t26 :: t27 :: t28 :: t29 :: t30 :: t31 :: t32 :: t33 :: t34 :: t35 :: t36 :: t37 :: t38 :: t39 :: t40 :: t41 :: t42 :: t43 :: t44 :: t45 :: t46 :: d9 :: t48 :: t49 :: t50 :: t51 :: t52 :: t53 :: t54 :: t55 :: t56 :: t57 :: t58 :: t59 :: t60 :: t61 :: t62 :: t63 :: t64 :: t65 :: t66 :: t67 :: t68 :: t69 :: t70 :: t71 :: t72 :: t73 :: t74 :: t75 :: t76 :: t77 :: t78 :: t79 :: t80 :: t81 :: t82 :: t83 :: t84 :: t85 :: t86 :: t87 :: t88 :: t89 :: t90 :: t91 :: t92 :: t93 :: t94 :: t95 :: t96 :: t97 :: t98 :: t99 :: t100 :: t101 :: t102 :: t103 :: t104 :: t105 :: t106 :: t107 :: t108 :: t109 :: t110 :: t111 :: t112 :: t113 :: t114 :: t115 :: t116 :: t117 :: []) w)) w) w)
      (q0 (old0 :: fresh1 :: sync2 :: picks3 :: old4 :: fresh5 :: sync6 :: picks7 :: t8 :: d9 :: a10 :: b11 :: c12 :: e13 :: f14 :: s15 :: t16 :: t17 :: t18 :: made19 :: stands20 :: t21 :: t22 :: t23 :: t24 :: t25 :: t26 :: t27 :: t28 :: t29 :: t30 :: t31 :: t32 :: t33 :: t34 :: t35 :: t36 :: t37 :: t38 :: t39 :: t40 :: t41 :: t42 :: t43 :: t44 :: t45 :: t46 :: t47 :: t48 :: t49 :: t50 :: t51 :: t52 :: t53 :: t54 :: t55 :: t56 :: t57 :: t58 :: t59 :: t60 :: t61 :: t62 :: t63 :: t64 :: t65 :: t66 :: t67 :: t68 :: t69 :: t70 :: t71 :: t72 :: t73 :: t74 :: t75 :: t76 :: t77 :: t78 :: t79 :: t80 :: t81 :: t82 :: t83 :: t84 :: t85 :: t86 :: t87 :: t88 :: t89 :: t90 :: t91 :: t92 :: t93 :: t94 :: t95 :: t96 :: t97 :: t98 :: t99 :: t100 :: t101 :: t102 :: t103 :: t104 :: t105 :: t106 :: t107 :: t108 :: t109 :: t110 :: t111 :: t112 :: t113 :: t114 :: t115 :: t116 :: t117 :: []) w)) :
    cCode Try.prog (cd Try.f3 [1, 1, 1, 1, 1, 1, 1, 0, 1]) q0 (fun _ _ _ => False) (retK Try.prog Try.f3.results.toList K) (old0 :: fresh1 :: sync2 :: picks3 :: old4 :: fresh5 :: sync6 :: picks7 :: t8 :: d9 :: a10 :: b11 :: c12 :: e13 :: f14 :: s15 :: t16 :: t17 :: t18 :: made19 :: stands20 :: t21 :: t22 :: t23 :: t24 :: t25 :: t26 :: t27 :: t28 :: t29 :: t30 :: t31 :: t32 :: t33 :: t34 :: t35 :: t36 :: t37 :: t38 :: t39 :: t40 :: t41 :: t42 :: t43 :: t44 :: t45 :: t46 :: t47 :: t48 :: t49 :: t50 :: t51 :: t52 :: t53 :: t54 :: t55 :: t56 :: t57 :: t58 :: t59 :: t60 :: t61 :: t62 :: t63 :: t64 :: t65 :: t66 :: t67 :: t68 :: t69 :: t70 :: t71 :: t72 :: t73 :: t74 :: t75 :: t76 :: t77 :: t78 :: t79 :: t80 :: t81 :: t82 :: t83 :: t84 :: t85 :: t86 :: t87 :: t88 :: t89 :: t90 :: t91 :: t92 :: t93 :: t94 :: t95 :: t96 :: t97 :: t98 :: t99 :: t100 :: t101 :: t102 :: t103 :: t104 :: t105 :: t106 :: t107 :: t108 :: t109 :: t110 :: t111 :: t112 :: t113 :: t114 :: t115 :: t116 :: t117 :: []) w := Eq.mp (by kernel_rfl) h

theorem leatlaw04_DiskRename_A2_r {K : KV} {old0 fresh1 sync2 picks3 old4 fresh5 sync6 picks7 t8 d9 a10 b11 c12 e13 f14 s15 t16 t17 t18 made19 stands20 t21 t22 t23 t24 t25 t26 t27 t28 t29 t30 t31 t32 t33 t34 t35 t36 t37 t38 t39 t40 t41 t42 t43 t44 t45 t46 t47 t48 t49 t50 t51 t52 t53 t54 t55 t56 t57 t58 t59 t60 t61 t62 t63 t64 t65 t66 t67 t68 t69 t70 t71 t72 t73 t74 t75 t76 t77 t78 t79 t80 t81 t82 t83 t84 t85 t86 t87 t88 t89 t90 t91 t92 t93 t94 t95 t96 t97 t98 t99 t100 t101 t102 t103 t104 t105 t106 t107 t108 t109 t110 t111 t112 t113 t114 t115 t116 t117 : Value} {w : World}
    (h : cond t46
      (call Try.prog 12 #[d9] (fun t48 w =>
      bin Try.prog BinOp.neq 27 false true t48 (Value.int IntKind.i64 0) (fun t49 w =>
      cond t49
        (K (Value.bool false) w)
        ((leatlaw04_DiskRename_P1 K) (old0 :: fresh1 :: sync2 :: picks3 :: old4 :: fresh5 :: sync6 :: picks7 :: t8 :: d9 :: a10 :: b11 :: c12 :: e13 :: f14 :: s15 :: t16 :: t17 :: t18 :: made19 :: stands20 :: t21 :: t22 :: t23 :: t24 :: t25 :: t26 :: t27 :: t28 :: t29 :: t30 :: t31 :: t32 :: t33 :: t34 :: t35 :: t36 :: t37 :: t38 :: t39 :: t40 :: t41 :: t42 :: t43 :: t44 :: t45 :: t46 :: d9 :: t48 :: t49 :: t50 :: t51 :: t52 :: t53 :: t54 :: t55 :: t56 :: t57 :: t58 :: t59 :: t60 :: t61 :: t62 :: t63 :: t64 :: t65 :: t66 :: t67 :: t68 :: t69 :: t70 :: t71 :: t72 :: t73 :: t74 :: t75 :: t76 :: t77 :: t78 :: t79 :: t80 :: t81 :: t82 :: t83 :: t84 :: t85 :: t86 :: t87 :: t88 :: t89 :: t90 :: t91 :: t92 :: t93 :: t94 :: t95 :: t96 :: t97 :: t98 :: t99 :: t100 :: t101 :: t102 :: t103 :: t104 :: t105 :: t106 :: t107 :: t108 :: t109 :: t110 :: t111 :: t112 :: t113 :: t114 :: t115 :: t116 :: t117 :: []) w)) w) w)
      ((leatlaw04_DiskRename_P1 K) (old0 :: fresh1 :: sync2 :: picks3 :: old4 :: fresh5 :: sync6 :: picks7 :: t8 :: d9 :: a10 :: b11 :: c12 :: e13 :: f14 :: s15 :: t16 :: t17 :: t18 :: made19 :: stands20 :: t21 :: t22 :: t23 :: t24 :: t25 :: t26 :: t27 :: t28 :: t29 :: t30 :: t31 :: t32 :: t33 :: t34 :: t35 :: t36 :: t37 :: t38 :: t39 :: t40 :: t41 :: t42 :: t43 :: t44 :: t45 :: t46 :: t47 :: t48 :: t49 :: t50 :: t51 :: t52 :: t53 :: t54 :: t55 :: t56 :: t57 :: t58 :: t59 :: t60 :: t61 :: t62 :: t63 :: t64 :: t65 :: t66 :: t67 :: t68 :: t69 :: t70 :: t71 :: t72 :: t73 :: t74 :: t75 :: t76 :: t77 :: t78 :: t79 :: t80 :: t81 :: t82 :: t83 :: t84 :: t85 :: t86 :: t87 :: t88 :: t89 :: t90 :: t91 :: t92 :: t93 :: t94 :: t95 :: t96 :: t97 :: t98 :: t99 :: t100 :: t101 :: t102 :: t103 :: t104 :: t105 :: t106 :: t107 :: t108 :: t109 :: t110 :: t111 :: t112 :: t113 :: t114 :: t115 :: t116 :: t117 :: []) w)) :
    leatlaw04_DiskRename_A2 K (old0 :: fresh1 :: sync2 :: picks3 :: old4 :: fresh5 :: sync6 :: picks7 :: t8 :: d9 :: a10 :: b11 :: c12 :: e13 :: f14 :: s15 :: t16 :: t17 :: t18 :: made19 :: stands20 :: t21 :: t22 :: t23 :: t24 :: t25 :: t26 :: t27 :: t28 :: t29 :: t30 :: t31 :: t32 :: t33 :: t34 :: t35 :: t36 :: t37 :: t38 :: t39 :: t40 :: t41 :: t42 :: t43 :: t44 :: t45 :: t46 :: t47 :: t48 :: t49 :: t50 :: t51 :: t52 :: t53 :: t54 :: t55 :: t56 :: t57 :: t58 :: t59 :: t60 :: t61 :: t62 :: t63 :: t64 :: t65 :: t66 :: t67 :: t68 :: t69 :: t70 :: t71 :: t72 :: t73 :: t74 :: t75 :: t76 :: t77 :: t78 :: t79 :: t80 :: t81 :: t82 :: t83 :: t84 :: t85 :: t86 :: t87 :: t88 :: t89 :: t90 :: t91 :: t92 :: t93 :: t94 :: t95 :: t96 :: t97 :: t98 :: t99 :: t100 :: t101 :: t102 :: t103 :: t104 :: t105 :: t106 :: t107 :: t108 :: t109 :: t110 :: t111 :: t112 :: t113 :: t114 :: t115 :: t116 :: t117 :: []) w := by
  delta leatlaw04_DiskRename_A2
  exact Eq.mp (congrArg (fun c => cCode Try.prog c (leatlaw04_DiskRename_P1 K) (fun _ _ _ => False) (retK Try.prog Try.f3.results.toList K) (old0 :: fresh1 :: sync2 :: picks3 :: old4 :: fresh5 :: sync6 :: picks7 :: t8 :: d9 :: a10 :: b11 :: c12 :: e13 :: f14 :: s15 :: t16 :: t17 :: t18 :: made19 :: stands20 :: t21 :: t22 :: t23 :: t24 :: t25 :: t26 :: t27 :: t28 :: t29 :: t30 :: t31 :: t32 :: t33 :: t34 :: t35 :: t36 :: t37 :: t38 :: t39 :: t40 :: t41 :: t42 :: t43 :: t44 :: t45 :: t46 :: t47 :: t48 :: t49 :: t50 :: t51 :: t52 :: t53 :: t54 :: t55 :: t56 :: t57 :: t58 :: t59 :: t60 :: t61 :: t62 :: t63 :: t64 :: t65 :: t66 :: t67 :: t68 :: t69 :: t70 :: t71 :: t72 :: t73 :: t74 :: t75 :: t76 :: t77 :: t78 :: t79 :: t80 :: t81 :: t82 :: t83 :: t84 :: t85 :: t86 :: t87 :: t88 :: t89 :: t90 :: t91 :: t92 :: t93 :: t94 :: t95 :: t96 :: t97 :: t98 :: t99 :: t100 :: t101 :: t102 :: t103 :: t104 :: t105 :: t106 :: t107 :: t108 :: t109 :: t110 :: t111 :: t112 :: t113 :: t114 :: t115 :: t116 :: t117 :: []) w) (by kernel_rfl : (cd Try.f3 [1, 1, 1, 1, 1, 1, 1, 0, 1]) = (cd Try.f3 [1, 1, 1, 1, 1, 1, 1, 0, 1]))) (leatlaw04_DiskRename_A2_k (leatlaw04_DiskRename_P1 K) h)

theorem leatlaw04_DiskRename_P1_k {K : KV} (x0 : Code) {old0 fresh1 sync2 picks3 old4 fresh5 sync6 picks7 t8 d9 a10 b11 c12 e13 f14 s15 t16 t17 t18 made19 stands20 t21 t22 t23 t24 t25 t26 t27 t28 t29 t30 t31 t32 t33 t34 t35 t36 t37 t38 t39 t40 t41 t42 t43 t44 t45 t46 t47 t48 t49 t50 t51 t52 t53 t54 t55 t56 t57 t58 t59 t60 t61 t62 t63 t64 t65 t66 t67 t68 t69 t70 t71 t72 t73 t74 t75 t76 t77 t78 t79 t80 t81 t82 t83 t84 t85 t86 t87 t88 t89 t90 t91 t92 t93 t94 t95 t96 t97 t98 t99 t100 t101 t102 t103 t104 t105 t106 t107 t108 t109 t110 t111 t112 t113 t114 t115 t116 t117 : Value} {w : World}
    (h : call Try.prog 14 #[d9] (fun t51 w =>
    call Try.prog 15 #[d9, picks3] (fun t54 w =>
    call Try.prog 16 #[d9, (Value.int IntKind.i64 0)] (fun t57 w =>
    ext Try.prog t57 0 (fun t58 w =>
    ext Try.prog t57 1 (fun t59 w =>
    call Try.prog 16 #[d9, (Value.int IntKind.i64 1)] (fun t62 w =>
    ext Try.prog t62 0 (fun t63 w =>
    ext Try.prog t62 1 (fun t64 w =>
    conv Try.prog 22 9 t58 (fun t66 w =>
    conv Try.prog 22 9 fresh1 (fun t68 w =>
    bin Try.prog BinOp.eql 9 false false t66 t68 (fun t69 w =>
    gsel t69 true (fun k71 =>
    blt Try.prog Builtin.len #[22] 3 #[false] #[t63] (fun t72 w =>
    bin Try.prog BinOp.eql 3 false true t72 (Value.int IntKind.i64 0) (fun t73 w =>
    k71 [t63, t72, t73] w) w) w)
    (fun k => k [undef, undef, undef] w) (fun us71 w =>
    pick t69 (gd us71 2) (Value.bool false) (fun t74 w =>
    (cCode Try.prog x0 (retK Try.prog Try.f3.results.toList K) (fun _ _ _ => False) (retK Try.prog Try.f3.results.toList K)) (old0 :: fresh1 :: sync2 :: picks3 :: old4 :: fresh5 :: sync6 :: picks7 :: t8 :: d9 :: a10 :: b11 :: c12 :: e13 :: t54 :: t58 :: t59 :: t63 :: t64 :: t74 :: stands20 :: t21 :: t22 :: t23 :: t24 :: t25 :: t26 :: t27 :: t28 :: t29 :: t30 :: t31 :: t32 :: t33 :: t34 :: t35 :: t36 :: t37 :: t38 :: t39 :: t40 :: t41 :: t42 :: t43 :: t44 :: t45 :: t46 :: t47 :: t48 :: t49 :: d9 :: t51 :: d9 :: picks3 :: t54 :: t57 :: d9 :: t57 :: t58 :: t59 :: t62 :: d9 :: t62 :: t63 :: t64 :: t58 :: t66 :: fresh1 :: t68 :: t69 :: t69 :: (gd us71 0) :: (gd us71 1) :: (gd us71 2) :: t74 :: t75 :: t76 :: t77 :: t78 :: t79 :: t80 :: t81 :: t82 :: t83 :: t84 :: t85 :: t86 :: t87 :: t88 :: t89 :: t90 :: t91 :: t92 :: t93 :: t94 :: t95 :: t96 :: t97 :: t98 :: t99 :: t100 :: t101 :: t102 :: t103 :: t104 :: t105 :: t106 :: t107 :: t108 :: t109 :: t110 :: t111 :: t112 :: t113 :: t114 :: t115 :: t116 :: t117 :: []) w) w)) w) w) w) w) w) w) w) w) w) w) w) :
    cCode Try.prog (rep [1, 1, 1, 1, 1] x0 (cd Try.f3 [1, 1, 1, 1, 1, 1, 1, 1])) (retK Try.prog Try.f3.results.toList K) (fun _ _ _ => False) (retK Try.prog Try.f3.results.toList K) (old0 :: fresh1 :: sync2 :: picks3 :: old4 :: fresh5 :: sync6 :: picks7 :: t8 :: d9 :: a10 :: b11 :: c12 :: e13 :: f14 :: s15 :: t16 :: t17 :: t18 :: made19 :: stands20 :: t21 :: t22 :: t23 :: t24 :: t25 :: t26 :: t27 :: t28 :: t29 :: t30 :: t31 :: t32 :: t33 :: t34 :: t35 :: t36 :: t37 :: t38 :: t39 :: t40 :: t41 :: t42 :: t43 :: t44 :: t45 :: t46 :: t47 :: t48 :: t49 :: t50 :: t51 :: t52 :: t53 :: t54 :: t55 :: t56 :: t57 :: t58 :: t59 :: t60 :: t61 :: t62 :: t63 :: t64 :: t65 :: t66 :: t67 :: t68 :: t69 :: t70 :: t71 :: t72 :: t73 :: t74 :: t75 :: t76 :: t77 :: t78 :: t79 :: t80 :: t81 :: t82 :: t83 :: t84 :: t85 :: t86 :: t87 :: t88 :: t89 :: t90 :: t91 :: t92 :: t93 :: t94 :: t95 :: t96 :: t97 :: t98 :: t99 :: t100 :: t101 :: t102 :: t103 :: t104 :: t105 :: t106 :: t107 :: t108 :: t109 :: t110 :: t111 :: t112 :: t113 :: t114 :: t115 :: t116 :: t117 :: []) w := Eq.mp (by kernel_rfl) h

theorem leatlaw04_DiskRename_P1_r {K : KV} {old0 fresh1 sync2 picks3 old4 fresh5 sync6 picks7 t8 d9 a10 b11 c12 e13 f14 s15 t16 t17 t18 made19 stands20 t21 t22 t23 t24 t25 t26 t27 t28 t29 t30 t31 t32 t33 t34 t35 t36 t37 t38 t39 t40 t41 t42 t43 t44 t45 t46 t47 t48 t49 t50 t51 t52 t53 t54 t55 t56 t57 t58 t59 t60 t61 t62 t63 t64 t65 t66 t67 t68 t69 t70 t71 t72 t73 t74 t75 t76 t77 t78 t79 t80 t81 t82 t83 t84 t85 t86 t87 t88 t89 t90 t91 t92 t93 t94 t95 t96 t97 t98 t99 t100 t101 t102 t103 t104 t105 t106 t107 t108 t109 t110 t111 t112 t113 t114 t115 t116 t117 : Value} {w : World}
    (h : call Try.prog 14 #[d9] (fun t51 w =>
    call Try.prog 15 #[d9, picks3] (fun t54 w =>
    call Try.prog 16 #[d9, (Value.int IntKind.i64 0)] (fun t57 w =>
    ext Try.prog t57 0 (fun t58 w =>
    ext Try.prog t57 1 (fun t59 w =>
    call Try.prog 16 #[d9, (Value.int IntKind.i64 1)] (fun t62 w =>
    ext Try.prog t62 0 (fun t63 w =>
    ext Try.prog t62 1 (fun t64 w =>
    conv Try.prog 22 9 t58 (fun t66 w =>
    conv Try.prog 22 9 fresh1 (fun t68 w =>
    bin Try.prog BinOp.eql 9 false false t66 t68 (fun t69 w =>
    gsel t69 true (fun k71 =>
    blt Try.prog Builtin.len #[22] 3 #[false] #[t63] (fun t72 w =>
    bin Try.prog BinOp.eql 3 false true t72 (Value.int IntKind.i64 0) (fun t73 w =>
    k71 [t63, t72, t73] w) w) w)
    (fun k => k [undef, undef, undef] w) (fun us71 w =>
    pick t69 (gd us71 2) (Value.bool false) (fun t74 w =>
    (leatlaw04_DiskRename_A3 K) (old0 :: fresh1 :: sync2 :: picks3 :: old4 :: fresh5 :: sync6 :: picks7 :: t8 :: d9 :: a10 :: b11 :: c12 :: e13 :: t54 :: t58 :: t59 :: t63 :: t64 :: t74 :: stands20 :: t21 :: t22 :: t23 :: t24 :: t25 :: t26 :: t27 :: t28 :: t29 :: t30 :: t31 :: t32 :: t33 :: t34 :: t35 :: t36 :: t37 :: t38 :: t39 :: t40 :: t41 :: t42 :: t43 :: t44 :: t45 :: t46 :: t47 :: t48 :: t49 :: d9 :: t51 :: d9 :: picks3 :: t54 :: t57 :: d9 :: t57 :: t58 :: t59 :: t62 :: d9 :: t62 :: t63 :: t64 :: t58 :: t66 :: fresh1 :: t68 :: t69 :: t69 :: (gd us71 0) :: (gd us71 1) :: (gd us71 2) :: t74 :: t75 :: t76 :: t77 :: t78 :: t79 :: t80 :: t81 :: t82 :: t83 :: t84 :: t85 :: t86 :: t87 :: t88 :: t89 :: t90 :: t91 :: t92 :: t93 :: t94 :: t95 :: t96 :: t97 :: t98 :: t99 :: t100 :: t101 :: t102 :: t103 :: t104 :: t105 :: t106 :: t107 :: t108 :: t109 :: t110 :: t111 :: t112 :: t113 :: t114 :: t115 :: t116 :: t117 :: []) w) w)) w) w) w) w) w) w) w) w) w) w) w) :
    leatlaw04_DiskRename_P1 K (old0 :: fresh1 :: sync2 :: picks3 :: old4 :: fresh5 :: sync6 :: picks7 :: t8 :: d9 :: a10 :: b11 :: c12 :: e13 :: f14 :: s15 :: t16 :: t17 :: t18 :: made19 :: stands20 :: t21 :: t22 :: t23 :: t24 :: t25 :: t26 :: t27 :: t28 :: t29 :: t30 :: t31 :: t32 :: t33 :: t34 :: t35 :: t36 :: t37 :: t38 :: t39 :: t40 :: t41 :: t42 :: t43 :: t44 :: t45 :: t46 :: t47 :: t48 :: t49 :: t50 :: t51 :: t52 :: t53 :: t54 :: t55 :: t56 :: t57 :: t58 :: t59 :: t60 :: t61 :: t62 :: t63 :: t64 :: t65 :: t66 :: t67 :: t68 :: t69 :: t70 :: t71 :: t72 :: t73 :: t74 :: t75 :: t76 :: t77 :: t78 :: t79 :: t80 :: t81 :: t82 :: t83 :: t84 :: t85 :: t86 :: t87 :: t88 :: t89 :: t90 :: t91 :: t92 :: t93 :: t94 :: t95 :: t96 :: t97 :: t98 :: t99 :: t100 :: t101 :: t102 :: t103 :: t104 :: t105 :: t106 :: t107 :: t108 :: t109 :: t110 :: t111 :: t112 :: t113 :: t114 :: t115 :: t116 :: t117 :: []) w := by
  delta leatlaw04_DiskRename_P1
  exact Eq.mp (congrArg (fun c => cCode Try.prog c (retK Try.prog Try.f3.results.toList K) (fun _ _ _ => False) (retK Try.prog Try.f3.results.toList K) (old0 :: fresh1 :: sync2 :: picks3 :: old4 :: fresh5 :: sync6 :: picks7 :: t8 :: d9 :: a10 :: b11 :: c12 :: e13 :: f14 :: s15 :: t16 :: t17 :: t18 :: made19 :: stands20 :: t21 :: t22 :: t23 :: t24 :: t25 :: t26 :: t27 :: t28 :: t29 :: t30 :: t31 :: t32 :: t33 :: t34 :: t35 :: t36 :: t37 :: t38 :: t39 :: t40 :: t41 :: t42 :: t43 :: t44 :: t45 :: t46 :: t47 :: t48 :: t49 :: t50 :: t51 :: t52 :: t53 :: t54 :: t55 :: t56 :: t57 :: t58 :: t59 :: t60 :: t61 :: t62 :: t63 :: t64 :: t65 :: t66 :: t67 :: t68 :: t69 :: t70 :: t71 :: t72 :: t73 :: t74 :: t75 :: t76 :: t77 :: t78 :: t79 :: t80 :: t81 :: t82 :: t83 :: t84 :: t85 :: t86 :: t87 :: t88 :: t89 :: t90 :: t91 :: t92 :: t93 :: t94 :: t95 :: t96 :: t97 :: t98 :: t99 :: t100 :: t101 :: t102 :: t103 :: t104 :: t105 :: t106 :: t107 :: t108 :: t109 :: t110 :: t111 :: t112 :: t113 :: t114 :: t115 :: t116 :: t117 :: []) w) (by kernel_rfl : (rep [1, 1, 1, 1, 1] (cd Try.f3 [1, 1, 1, 1, 1, 1, 1, 1, 1, 1, 1, 1, 1]) (cd Try.f3 [1, 1, 1, 1, 1, 1, 1, 1])) = (cd Try.f3 [1, 1, 1, 1, 1, 1, 1, 1]))) (leatlaw04_DiskRename_P1_k (cd Try.f3 [1, 1, 1, 1, 1, 1, 1, 1, 1, 1, 1, 1, 1]) h)

theorem leatlaw04_DiskRename_A3_k {K : KV} {old0 fresh1 sync2 picks3 old4 fresh5 sync6 picks7 t8 d9 a10 b11 c12 e13 f14 s15 t16 t17 t18 made19 stands20 t21 t22 t23 t24 t25 t26 t27 t28 t29 t30 t31 t32 t33 t34 t35 t36 t37 t38 t39 t40 t41 t42 t43 t44 t45 t46 t47 t48 t49 t50 t51 t52 t53 t54 t55 t56 t57 t58 t59 t60 t61 t62 t63 t64 t65 t66 t67 t68 t69 t70 t71 t72 t73 t74 t75 t76 t77 t78 t79 t80 t81 t82 t83 t84 t85 t86 t87 t88 t89 t90 t91 t92 t93 t94 t95 t96 t97 t98 t99 t100 t101 t102 t103 t104 t105 t106 t107 t108 t109 t110 t111 t112 t113 t114 t115 t116 t117 : Value} {w : World}
    (h : conv Try.prog 22 9 s15 (fun t76 w =>
    conv Try.prog 22 9 old0 (fun t78 w =>
    bin Try.prog BinOp.eql 9 false false t76 t78 (fun t79 w =>
    gsel t79 true (fun k81 =>
    conv Try.prog 22 9 t17 (fun t82 w =>
    conv Try.prog 22 9 fresh1 (fun t84 w =>
    bin Try.prog BinOp.eql 9 false false t82 t84 (fun t85 w =>
    k81 [t17, t82, fresh1, t84, t85] w) w) w) w)
    (fun k => k [undef, undef, undef, undef, undef] w) (fun us81 w =>
    pick t79 (gd us81 4) (Value.bool false) (fun t86 w =>
    bin Try.prog BinOp.eql 27 false true a10 (Value.int IntKind.i64 0) (fun t88 w =>
    gsel t88 true (fun k90 =>
    bin Try.prog BinOp.eql 27 false true b11 (Value.int IntKind.i64 0) (fun t91 w =>
    k90 [b11, t91] w) w)
    (fun k => k [undef, undef] w) (fun us90 w =>
    pick t88 (gd us90 1) (Value.bool false) (fun t92 w =>
    gsel t92 true (fun k94 =>
    bin Try.prog BinOp.eql 27 false true c12 (Value.int IntKind.i64 0) (fun t95 w =>
    k94 [c12, t95] w) w)
    (fun k => k [undef, undef] w) (fun us94 w =>
    pick t92 (gd us94 1) (Value.bool false) (fun t96 w =>
    gsel t96 true (fun k98 =>
    bin Try.prog BinOp.eql 27 false true e13 (Value.int IntKind.i64 0) (fun t99 w =>
    k98 [e13, t99] w) w)
    (fun k => k [undef, undef] w) (fun us98 w =>
    pick t96 (gd us98 1) (Value.bool false) (fun t100 w =>
    gsel t100 true (fun k102 =>
    bin Try.prog BinOp.eql 27 false true f14 (Value.int IntKind.i64 0) (fun t103 w =>
    k102 [f14, t103] w) w)
    (fun k => k [undef, undef] w) (fun us102 w =>
    pick t100 (gd us102 1) (Value.bool false) (fun t104 w =>
    gsel t104 true (fun k106 =>
    k106 [made19, made19] w)
    (fun k => k [undef, undef] w) (fun us106 w =>
    gsel (gd us106 1) false (fun k108 =>
    un Try.prog UnOp.not sync2 (fun t109 w =>
    k108 [sync2, t109, t109] w) w)
    (fun k => k [undef, undef, undef] w) (fun us108 w =>
    gsel (gd us108 2) true (fun k111 =>
    k111 [t86] w)
    (fun k => k [undef] w) (fun us111 w =>
    gsel (gd us106 1) false (fun k112 =>
    pick (gd us108 2) (gd us111 0) (Value.bool false) (fun t112 w =>
    k112 [t112] w) w)
    (fun k => k [undef] w) (fun us112 w =>
    gsel t104 true (fun k113 =>
    pick (gd us106 1) (Value.bool true) (gd us112 0) (fun t113 w =>
    k113 [t113] w) w)
    (fun k => k [undef] w) (fun us113 w =>
    pick t104 (gd us113 0) (Value.bool false) (fun t114 w =>
    gsel t114 true (fun k116 =>
    call Try.prog 9 #[] (fun t116 w =>
    k116 [t116] w) w)
    (fun k => k [undef] w) (fun us116 w =>
    pick t114 (gd us116 0) (Value.bool false) (fun t117 w =>
    K t117 w) w)) w)))))) w)) w)) w)) w)) w) w)) w) w) w) :
    cCode Try.prog (cd Try.f3 [1, 1, 1, 1, 1, 1, 1, 1, 1, 1, 1, 1, 1]) (retK Try.prog Try.f3.results.toList K) (fun _ _ _ => False) (retK Try.prog Try.f3.results.toList K) (old0 :: fresh1 :: sync2 :: picks3 :: old4 :: fresh5 :: sync6 :: picks7 :: t8 :: d9 :: a10 :: b11 :: c12 :: e13 :: f14 :: s15 :: t16 :: t17 :: t18 :: made19 :: stands20 :: t21 :: t22 :: t23 :: t24 :: t25 :: t26 :: t27 :: t28 :: t29 :: t30 :: t31 :: t32 :: t33 :: t34 :: t35 :: t36 :: t37 :: t38 :: t39 :: t40 :: t41 :: t42 :: t43 :: t44 :: t45 :: t46 :: t47 :: t48 :: t49 :: t50 :: t51 :: t52 :: t53 :: t54 :: t55 :: t56 :: t57 :: t58 :: t59 :: t60 :: t61 :: t62 :: t63 :: t64 :: t65 :: t66 :: t67 :: t68 :: t69 :: t70 :: t71 :: t72 :: t73 :: t74 :: t75 :: t76 :: t77 :: t78 :: t79 :: t80 :: t81 :: t82 :: t83 :: t84 :: t85 :: t86 :: t87 :: t88 :: t89 :: t90 :: t91 :: t92 :: t93 :: t94 :: t95 :: t96 :: t97 :: t98 :: t99 :: t100 :: t101 :: t102 :: t103 :: t104 :: t105 :: t106 :: t107 :: t108 :: t109 :: t110 :: t111 :: t112 :: t113 :: t114 :: t115 :: t116 :: t117 :: []) w := Eq.mp (by kernel_rfl) h

theorem leatlaw04_DiskRename_A3_r {K : KV} {old0 fresh1 sync2 picks3 old4 fresh5 sync6 picks7 t8 d9 a10 b11 c12 e13 f14 s15 t16 t17 t18 made19 stands20 t21 t22 t23 t24 t25 t26 t27 t28 t29 t30 t31 t32 t33 t34 t35 t36 t37 t38 t39 t40 t41 t42 t43 t44 t45 t46 t47 t48 t49 t50 t51 t52 t53 t54 t55 t56 t57 t58 t59 t60 t61 t62 t63 t64 t65 t66 t67 t68 t69 t70 t71 t72 t73 t74 t75 t76 t77 t78 t79 t80 t81 t82 t83 t84 t85 t86 t87 t88 t89 t90 t91 t92 t93 t94 t95 t96 t97 t98 t99 t100 t101 t102 t103 t104 t105 t106 t107 t108 t109 t110 t111 t112 t113 t114 t115 t116 t117 : Value} {w : World}
    (h : conv Try.prog 22 9 s15 (fun t76 w =>
    conv Try.prog 22 9 old0 (fun t78 w =>
    bin Try.prog BinOp.eql 9 false false t76 t78 (fun t79 w =>
    gsel t79 true (fun k81 =>
    conv Try.prog 22 9 t17 (fun t82 w =>
    conv Try.prog 22 9 fresh1 (fun t84 w =>
    bin Try.prog BinOp.eql 9 false false t82 t84 (fun t85 w =>
    k81 [t17, t82, fresh1, t84, t85] w) w) w) w)
    (fun k => k [undef, undef, undef, undef, undef] w) (fun us81 w =>
    pick t79 (gd us81 4) (Value.bool false) (fun t86 w =>
    bin Try.prog BinOp.eql 27 false true a10 (Value.int IntKind.i64 0) (fun t88 w =>
    gsel t88 true (fun k90 =>
    bin Try.prog BinOp.eql 27 false true b11 (Value.int IntKind.i64 0) (fun t91 w =>
    k90 [b11, t91] w) w)
    (fun k => k [undef, undef] w) (fun us90 w =>
    pick t88 (gd us90 1) (Value.bool false) (fun t92 w =>
    gsel t92 true (fun k94 =>
    bin Try.prog BinOp.eql 27 false true c12 (Value.int IntKind.i64 0) (fun t95 w =>
    k94 [c12, t95] w) w)
    (fun k => k [undef, undef] w) (fun us94 w =>
    pick t92 (gd us94 1) (Value.bool false) (fun t96 w =>
    gsel t96 true (fun k98 =>
    bin Try.prog BinOp.eql 27 false true e13 (Value.int IntKind.i64 0) (fun t99 w =>
    k98 [e13, t99] w) w)
    (fun k => k [undef, undef] w) (fun us98 w =>
    pick t96 (gd us98 1) (Value.bool false) (fun t100 w =>
    gsel t100 true (fun k102 =>
    bin Try.prog BinOp.eql 27 false true f14 (Value.int IntKind.i64 0) (fun t103 w =>
    k102 [f14, t103] w) w)
    (fun k => k [undef, undef] w) (fun us102 w =>
    pick t100 (gd us102 1) (Value.bool false) (fun t104 w =>
    gsel t104 true (fun k106 =>
    k106 [made19, made19] w)
    (fun k => k [undef, undef] w) (fun us106 w =>
    gsel (gd us106 1) false (fun k108 =>
    un Try.prog UnOp.not sync2 (fun t109 w =>
    k108 [sync2, t109, t109] w) w)
    (fun k => k [undef, undef, undef] w) (fun us108 w =>
    gsel (gd us108 2) true (fun k111 =>
    k111 [t86] w)
    (fun k => k [undef] w) (fun us111 w =>
    gsel (gd us106 1) false (fun k112 =>
    pick (gd us108 2) (gd us111 0) (Value.bool false) (fun t112 w =>
    k112 [t112] w) w)
    (fun k => k [undef] w) (fun us112 w =>
    gsel t104 true (fun k113 =>
    pick (gd us106 1) (Value.bool true) (gd us112 0) (fun t113 w =>
    k113 [t113] w) w)
    (fun k => k [undef] w) (fun us113 w =>
    pick t104 (gd us113 0) (Value.bool false) (fun t114 w =>
    gsel t114 true (fun k116 =>
    call Try.prog 9 #[] (fun t116 w =>
    k116 [t116] w) w)
    (fun k => k [undef] w) (fun us116 w =>
    pick t114 (gd us116 0) (Value.bool false) (fun t117 w =>
    K t117 w) w)) w)))))) w)) w)) w)) w)) w) w)) w) w) w) :
    leatlaw04_DiskRename_A3 K (old0 :: fresh1 :: sync2 :: picks3 :: old4 :: fresh5 :: sync6 :: picks7 :: t8 :: d9 :: a10 :: b11 :: c12 :: e13 :: f14 :: s15 :: t16 :: t17 :: t18 :: made19 :: stands20 :: t21 :: t22 :: t23 :: t24 :: t25 :: t26 :: t27 :: t28 :: t29 :: t30 :: t31 :: t32 :: t33 :: t34 :: t35 :: t36 :: t37 :: t38 :: t39 :: t40 :: t41 :: t42 :: t43 :: t44 :: t45 :: t46 :: t47 :: t48 :: t49 :: t50 :: t51 :: t52 :: t53 :: t54 :: t55 :: t56 :: t57 :: t58 :: t59 :: t60 :: t61 :: t62 :: t63 :: t64 :: t65 :: t66 :: t67 :: t68 :: t69 :: t70 :: t71 :: t72 :: t73 :: t74 :: t75 :: t76 :: t77 :: t78 :: t79 :: t80 :: t81 :: t82 :: t83 :: t84 :: t85 :: t86 :: t87 :: t88 :: t89 :: t90 :: t91 :: t92 :: t93 :: t94 :: t95 :: t96 :: t97 :: t98 :: t99 :: t100 :: t101 :: t102 :: t103 :: t104 :: t105 :: t106 :: t107 :: t108 :: t109 :: t110 :: t111 :: t112 :: t113 :: t114 :: t115 :: t116 :: t117 :: []) w := by
  delta leatlaw04_DiskRename_A3
  exact Eq.mp (congrArg (fun c => cCode Try.prog c (retK Try.prog Try.f3.results.toList K) (fun _ _ _ => False) (retK Try.prog Try.f3.results.toList K) (old0 :: fresh1 :: sync2 :: picks3 :: old4 :: fresh5 :: sync6 :: picks7 :: t8 :: d9 :: a10 :: b11 :: c12 :: e13 :: f14 :: s15 :: t16 :: t17 :: t18 :: made19 :: stands20 :: t21 :: t22 :: t23 :: t24 :: t25 :: t26 :: t27 :: t28 :: t29 :: t30 :: t31 :: t32 :: t33 :: t34 :: t35 :: t36 :: t37 :: t38 :: t39 :: t40 :: t41 :: t42 :: t43 :: t44 :: t45 :: t46 :: t47 :: t48 :: t49 :: t50 :: t51 :: t52 :: t53 :: t54 :: t55 :: t56 :: t57 :: t58 :: t59 :: t60 :: t61 :: t62 :: t63 :: t64 :: t65 :: t66 :: t67 :: t68 :: t69 :: t70 :: t71 :: t72 :: t73 :: t74 :: t75 :: t76 :: t77 :: t78 :: t79 :: t80 :: t81 :: t82 :: t83 :: t84 :: t85 :: t86 :: t87 :: t88 :: t89 :: t90 :: t91 :: t92 :: t93 :: t94 :: t95 :: t96 :: t97 :: t98 :: t99 :: t100 :: t101 :: t102 :: t103 :: t104 :: t105 :: t106 :: t107 :: t108 :: t109 :: t110 :: t111 :: t112 :: t113 :: t114 :: t115 :: t116 :: t117 :: []) w) (by kernel_rfl : (cd Try.f3 [1, 1, 1, 1, 1, 1, 1, 1, 1, 1, 1, 1, 1]) = (cd Try.f3 [1, 1, 1, 1, 1, 1, 1, 1, 1, 1, 1, 1, 1]))) (leatlaw04_DiskRename_A3_k h)
attribute [irreducible] leatlaw04_DiskRename_A1 leatlaw04_DiskRename_P1 leatlaw04_DiskRename_A2 leatlaw04_DiskRename_A3

end Go.Proofs.Ythmgiggmnbdnjaa
