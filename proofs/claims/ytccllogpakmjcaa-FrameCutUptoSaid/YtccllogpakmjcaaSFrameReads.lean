/- Written by program (gen.py): what the code of some functions asks, part by part; each text is checked by the kernel against the translation. -/
import Derived.Test.YtccllogpakmjcaaSh
import Derived.Test.YtccllogpakmjcaaChecked
namespace Go.Proofs.Ytccllogpakmjcaa
open Go.RowKit
set_option maxRecDepth 100000

def leatlaw03_FrameReads_A1 (K : KV) : KE := cCode Try.prog (cd Try.f3 [1, 1, 1, 1, 1, 1, 1]) (retK Try.prog Try.f3.results.toList K) (fun _ _ _ => False) (retK Try.prog Try.f3.results.toList K)
def leatlaw03_FrameReads_P1 (K : KV) : KE := cCode Try.prog (cd Try.f3 [1, 1, 1, 1, 1, 1, 1, 1, 1]) (retK Try.prog Try.f3.results.toList K) (fun _ _ _ => False) (retK Try.prog Try.f3.results.toList K)
def leatlaw03_FrameReads_L1 (K : KV) : KE := cCode Try.prog (cd Try.f3 [1, 1, 1, 1, 1, 1, 1, 1, 0, 1, 0]) (leatlaw03_FrameReads_P1 K) (fun i => @Bool.rec (fun _ => KE) ((fun _ _ _ => False) i) (leatlaw03_FrameReads_P1 K) (Nat.beq i 0)) (retK Try.prog Try.f3.results.toList K)
def leatlaw03_FrameReads_P2 (K : KV) : KE := cCode Try.prog (cd Try.f3 [1, 1, 1, 1, 1, 1, 1, 1, 1, 1]) (retK Try.prog Try.f3.results.toList K) (fun _ _ _ => False) (retK Try.prog Try.f3.results.toList K)
def leatlaw03_FrameReads_L2 (K : KV) : KE := cCode Try.prog (cd Try.f3 [1, 1, 1, 1, 1, 1, 1, 1, 1, 0, 1, 0]) (leatlaw03_FrameReads_P2 K) (fun i => @Bool.rec (fun _ => KE) ((fun _ _ _ => False) i) (leatlaw03_FrameReads_P2 K) (Nat.beq i 2)) (retK Try.prog Try.f3.results.toList K)
def leatlaw03_FrameReads_A2 (K : KV) : KE := cCode Try.prog (cd Try.f3 [1, 1, 1, 1, 1, 1, 1, 1, 1, 1, 1, 1, 1, 1]) (retK Try.prog Try.f3.results.toList K) (fun _ _ _ => False) (retK Try.prog Try.f3.results.toList K)
theorem leatlaw03_FrameReads_k {K : KV} (x0 : Code) {b0 : Value} {w : World}
    (h : blt Try.prog Builtin.len #[22] 3 #[false] #[b0] (fun t17 w =>
    bin Try.prog BinOp.gtr 3 false true t17 (Value.int IntKind.i64 8192) (fun t18 w =>
    cond t18
      (call Try.prog 8 #[] (fun t19 w =>
      K t19 w) w)
      (bldS Try.prog 22 0 #[] (fun t20 w =>
    blt Try.prog Builtin.append #[22, 22] 22 #[false, false] #[t20, b0] (fun t22 w =>
    call Try.prog 9 #[t22] (fun t24 w =>
    bin Try.prog BinOp.eql 24 false true t24 (Value.pointer none) (fun t26 w =>
    cond t26
      (K (Value.bool false) w)
      (call Try.prog 10 #[t22] (fun t29 w =>
    ext Try.prog t29 0 (fun t30 w =>
    ext Try.prog t29 1 (fun t31 w =>
    call Try.prog 11 #[b0] (fun t34 w =>
    ext Try.prog t34 0 (fun t35 w =>
    ext Try.prog t34 1 (fun t36 w =>
    (cCode Try.prog x0 (retK Try.prog Try.f3.results.toList K) (fun _ _ _ => False) (retK Try.prog Try.f3.results.toList K)) (b0 :: undef :: (Value.bool false) :: t22 :: t24 :: t30 :: t31 :: t35 :: t36 :: undef :: undef :: undef :: undef :: undef :: undef :: undef :: b0 :: t17 :: t18 :: undef :: t20 :: b0 :: t22 :: t22 :: t24 :: t24 :: t26 :: t29 :: t22 :: t29 :: t30 :: t31 :: t34 :: b0 :: t34 :: t35 :: t36 :: undef :: undef :: undef :: undef :: undef :: undef :: undef :: undef :: undef :: undef :: undef :: undef :: undef :: undef :: undef :: undef :: undef :: undef :: undef :: undef :: undef :: undef :: undef :: undef :: undef :: undef :: undef :: undef :: undef :: undef :: undef :: undef :: undef :: undef :: undef :: undef :: undef :: undef :: undef :: undef :: undef :: undef :: undef :: undef :: undef :: undef :: undef :: undef :: undef :: undef :: undef :: undef :: undef :: undef :: undef :: undef :: undef :: undef :: undef :: undef :: undef :: undef :: undef :: undef :: undef :: undef :: undef :: undef :: undef :: undef :: undef :: undef :: undef :: undef :: undef :: undef :: undef :: undef :: undef :: undef :: undef :: undef :: undef :: []) w) w) w) w) w) w) w)) w) w) w) w)) w) w) :
    cCode Try.prog (rep [1, 1, 1, 1, 1, 1, 1] x0 (cd Try.f3 [])) (retK Try.prog Try.f3.results.toList K) (fun _ _ _ => False) (retK Try.prog Try.f3.results.toList K) (b0 :: undef :: undef :: undef :: undef :: undef :: undef :: undef :: undef :: undef :: undef :: undef :: undef :: undef :: undef :: undef :: undef :: undef :: undef :: undef :: undef :: undef :: undef :: undef :: undef :: undef :: undef :: undef :: undef :: undef :: undef :: undef :: undef :: undef :: undef :: undef :: undef :: undef :: undef :: undef :: undef :: undef :: undef :: undef :: undef :: undef :: undef :: undef :: undef :: undef :: undef :: undef :: undef :: undef :: undef :: undef :: undef :: undef :: undef :: undef :: undef :: undef :: undef :: undef :: undef :: undef :: undef :: undef :: undef :: undef :: undef :: undef :: undef :: undef :: undef :: undef :: undef :: undef :: undef :: undef :: undef :: undef :: undef :: undef :: undef :: undef :: undef :: undef :: undef :: undef :: undef :: undef :: undef :: undef :: undef :: undef :: undef :: undef :: undef :: undef :: undef :: undef :: undef :: undef :: undef :: undef :: undef :: undef :: undef :: undef :: undef :: undef :: undef :: undef :: undef :: undef :: undef :: undef :: undef :: undef :: []) w := Eq.mp (by kernel_rfl) h

theorem leatlaw03_FrameReads_in {K : KV} {b0 : Value} {w : World}
    (h : blt Try.prog Builtin.len #[22] 3 #[false] #[b0] (fun t17 w =>
    bin Try.prog BinOp.gtr 3 false true t17 (Value.int IntKind.i64 8192) (fun t18 w =>
    cond t18
      (call Try.prog 8 #[] (fun t19 w =>
      K t19 w) w)
      (bldS Try.prog 22 0 #[] (fun t20 w =>
    blt Try.prog Builtin.append #[22, 22] 22 #[false, false] #[t20, b0] (fun t22 w =>
    call Try.prog 9 #[t22] (fun t24 w =>
    bin Try.prog BinOp.eql 24 false true t24 (Value.pointer none) (fun t26 w =>
    cond t26
      (K (Value.bool false) w)
      (call Try.prog 10 #[t22] (fun t29 w =>
    ext Try.prog t29 0 (fun t30 w =>
    ext Try.prog t29 1 (fun t31 w =>
    call Try.prog 11 #[b0] (fun t34 w =>
    ext Try.prog t34 0 (fun t35 w =>
    ext Try.prog t34 1 (fun t36 w =>
    (leatlaw03_FrameReads_A1 K) (b0 :: undef :: (Value.bool false) :: t22 :: t24 :: t30 :: t31 :: t35 :: t36 :: undef :: undef :: undef :: undef :: undef :: undef :: undef :: b0 :: t17 :: t18 :: undef :: t20 :: b0 :: t22 :: t22 :: t24 :: t24 :: t26 :: t29 :: t22 :: t29 :: t30 :: t31 :: t34 :: b0 :: t34 :: t35 :: t36 :: undef :: undef :: undef :: undef :: undef :: undef :: undef :: undef :: undef :: undef :: undef :: undef :: undef :: undef :: undef :: undef :: undef :: undef :: undef :: undef :: undef :: undef :: undef :: undef :: undef :: undef :: undef :: undef :: undef :: undef :: undef :: undef :: undef :: undef :: undef :: undef :: undef :: undef :: undef :: undef :: undef :: undef :: undef :: undef :: undef :: undef :: undef :: undef :: undef :: undef :: undef :: undef :: undef :: undef :: undef :: undef :: undef :: undef :: undef :: undef :: undef :: undef :: undef :: undef :: undef :: undef :: undef :: undef :: undef :: undef :: undef :: undef :: undef :: undef :: undef :: undef :: undef :: undef :: undef :: undef :: undef :: undef :: undef :: []) w) w) w) w) w) w) w)) w) w) w) w)) w) w) :
    Gives Try.prog 3 #[b0] w K := enter' Try.func3 (by kernel_rfl) (Eq.mp (congrArg (fun c => cCode Try.prog c (retK Try.prog Try.f3.results.toList K) (fun _ _ _ => False) (retK Try.prog Try.f3.results.toList K) (b0 :: undef :: undef :: undef :: undef :: undef :: undef :: undef :: undef :: undef :: undef :: undef :: undef :: undef :: undef :: undef :: undef :: undef :: undef :: undef :: undef :: undef :: undef :: undef :: undef :: undef :: undef :: undef :: undef :: undef :: undef :: undef :: undef :: undef :: undef :: undef :: undef :: undef :: undef :: undef :: undef :: undef :: undef :: undef :: undef :: undef :: undef :: undef :: undef :: undef :: undef :: undef :: undef :: undef :: undef :: undef :: undef :: undef :: undef :: undef :: undef :: undef :: undef :: undef :: undef :: undef :: undef :: undef :: undef :: undef :: undef :: undef :: undef :: undef :: undef :: undef :: undef :: undef :: undef :: undef :: undef :: undef :: undef :: undef :: undef :: undef :: undef :: undef :: undef :: undef :: undef :: undef :: undef :: undef :: undef :: undef :: undef :: undef :: undef :: undef :: undef :: undef :: undef :: undef :: undef :: undef :: undef :: undef :: undef :: undef :: undef :: undef :: undef :: undef :: undef :: undef :: undef :: undef :: undef :: undef :: []) w) (by kernel_rfl : (rep [1, 1, 1, 1, 1, 1, 1] (cd Try.f3 [1, 1, 1, 1, 1, 1, 1]) (cd Try.f3 [])) = (cd Try.f3 []))) (leatlaw03_FrameReads_k (cd Try.f3 [1, 1, 1, 1, 1, 1, 1]) (h : blt Try.prog Builtin.len #[22] 3 #[false] #[b0] (fun t17 w =>
    bin Try.prog BinOp.gtr 3 false true t17 (Value.int IntKind.i64 8192) (fun t18 w =>
    cond t18
      (call Try.prog 8 #[] (fun t19 w =>
      K t19 w) w)
      (bldS Try.prog 22 0 #[] (fun t20 w =>
    blt Try.prog Builtin.append #[22, 22] 22 #[false, false] #[t20, b0] (fun t22 w =>
    call Try.prog 9 #[t22] (fun t24 w =>
    bin Try.prog BinOp.eql 24 false true t24 (Value.pointer none) (fun t26 w =>
    cond t26
      (K (Value.bool false) w)
      (call Try.prog 10 #[t22] (fun t29 w =>
    ext Try.prog t29 0 (fun t30 w =>
    ext Try.prog t29 1 (fun t31 w =>
    call Try.prog 11 #[b0] (fun t34 w =>
    ext Try.prog t34 0 (fun t35 w =>
    ext Try.prog t34 1 (fun t36 w =>
    (leatlaw03_FrameReads_A1 K) (b0 :: undef :: (Value.bool false) :: t22 :: t24 :: t30 :: t31 :: t35 :: t36 :: undef :: undef :: undef :: undef :: undef :: undef :: undef :: b0 :: t17 :: t18 :: undef :: t20 :: b0 :: t22 :: t22 :: t24 :: t24 :: t26 :: t29 :: t22 :: t29 :: t30 :: t31 :: t34 :: b0 :: t34 :: t35 :: t36 :: undef :: undef :: undef :: undef :: undef :: undef :: undef :: undef :: undef :: undef :: undef :: undef :: undef :: undef :: undef :: undef :: undef :: undef :: undef :: undef :: undef :: undef :: undef :: undef :: undef :: undef :: undef :: undef :: undef :: undef :: undef :: undef :: undef :: undef :: undef :: undef :: undef :: undef :: undef :: undef :: undef :: undef :: undef :: undef :: undef :: undef :: undef :: undef :: undef :: undef :: undef :: undef :: undef :: undef :: undef :: undef :: undef :: undef :: undef :: undef :: undef :: undef :: undef :: undef :: undef :: undef :: undef :: undef :: undef :: undef :: undef :: undef :: undef :: undef :: undef :: undef :: undef :: undef :: undef :: undef :: undef :: undef :: undef :: []) w) w) w) w) w) w) w)) w) w) w) w)) w) w)))
theorem leatlaw03_FrameReads_go : isGo Try.prog 3 := ⟨_, Try.func3, by kernel_rfl, by kernel_rfl⟩

theorem leatlaw03_FrameReads_A1_k {K : KV} {b0 b1 t2 own3 r4 l5 at6 m7 to8 i9 i10 s11 is12 s13 is14 none15 t16 t17 t18 t19 t20 t21 t22 t23 t24 t25 t26 t27 t28 t29 t30 t31 t32 t33 t34 t35 t36 t37 t38 t39 t40 t41 t42 t43 t44 t45 t46 t47 t48 t49 t50 t51 t52 t53 t54 t55 t56 t57 t58 t59 t60 t61 t62 t63 t64 t65 t66 t67 t68 t69 t70 t71 t72 t73 t74 t75 t76 t77 t78 t79 t80 t81 t82 t83 t84 t85 t86 t87 t88 t89 t90 t91 t92 t93 t94 t95 t96 t97 t98 t99 t100 t101 t102 t103 t104 t105 t106 t107 t108 t109 t110 t111 t112 t113 t114 t115 t116 t117 t118 t119 : Value} {w : World}
    (h : call Try.prog 12 #[l5, m7] (fun t39 w =>
    un Try.prog UnOp.not t39 (fun t40 w =>
    gsel t40 false (fun k42 =>
    bin Try.prog BinOp.neq 3 false false at6 to8 (fun t44 w =>
    k42 [at6, to8, t44] w) w)
    (fun k => k [undef, undef, undef] w) (fun us42 w =>
    pick t40 (Value.bool true) (gd us42 2) (fun t45 w =>
    cond t45
      (K (Value.bool false) w)
      ((cCode Try.prog (cd Try.f3 [1, 1, 1, 1, 1, 1, 1, 1, 0, 1, 0]) (cCode Try.prog (cd Try.f3 [1, 1, 1, 1, 1, 1, 1, 1, 1]) (retK Try.prog Try.f3.results.toList K) (fun _ _ _ => False) (retK Try.prog Try.f3.results.toList K)) (fun i => @Bool.rec (fun _ => KE) ((fun _ _ _ => False) i) (cCode Try.prog (cd Try.f3 [1, 1, 1, 1, 1, 1, 1, 1, 1]) (retK Try.prog Try.f3.results.toList K) (fun _ _ _ => False) (retK Try.prog Try.f3.results.toList K)) (Nat.beq i 0)) (retK Try.prog Try.f3.results.toList K)) (b0 :: b1 :: t2 :: own3 :: r4 :: l5 :: at6 :: m7 :: to8 :: (Value.int IntKind.i64 0) :: i10 :: s11 :: is12 :: s13 :: is14 :: none15 :: t16 :: t17 :: t18 :: t19 :: t20 :: t21 :: t22 :: t23 :: t24 :: t25 :: t26 :: t27 :: t28 :: t29 :: t30 :: t31 :: t32 :: t33 :: t34 :: t35 :: t36 :: l5 :: m7 :: t39 :: t40 :: t40 :: (gd us42 0) :: (gd us42 1) :: (gd us42 2) :: t45 :: t46 :: t47 :: t48 :: t49 :: t50 :: t51 :: t52 :: t53 :: t54 :: t55 :: t56 :: t57 :: t58 :: t59 :: t60 :: t61 :: t62 :: t63 :: t64 :: t65 :: t66 :: t67 :: t68 :: t69 :: t70 :: t71 :: t72 :: t73 :: t74 :: t75 :: t76 :: t77 :: t78 :: t79 :: t80 :: t81 :: t82 :: t83 :: t84 :: t85 :: t86 :: t87 :: t88 :: t89 :: t90 :: t91 :: t92 :: t93 :: t94 :: t95 :: t96 :: t97 :: t98 :: t99 :: t100 :: t101 :: t102 :: t103 :: t104 :: t105 :: t106 :: t107 :: t108 :: t109 :: t110 :: t111 :: t112 :: t113 :: t114 :: t115 :: t116 :: t117 :: t118 :: t119 :: []) w)) w)) w) w) :
    cCode Try.prog (cd Try.f3 [1, 1, 1, 1, 1, 1, 1]) (retK Try.prog Try.f3.results.toList K) (fun _ _ _ => False) (retK Try.prog Try.f3.results.toList K) (b0 :: b1 :: t2 :: own3 :: r4 :: l5 :: at6 :: m7 :: to8 :: i9 :: i10 :: s11 :: is12 :: s13 :: is14 :: none15 :: t16 :: t17 :: t18 :: t19 :: t20 :: t21 :: t22 :: t23 :: t24 :: t25 :: t26 :: t27 :: t28 :: t29 :: t30 :: t31 :: t32 :: t33 :: t34 :: t35 :: t36 :: t37 :: t38 :: t39 :: t40 :: t41 :: t42 :: t43 :: t44 :: t45 :: t46 :: t47 :: t48 :: t49 :: t50 :: t51 :: t52 :: t53 :: t54 :: t55 :: t56 :: t57 :: t58 :: t59 :: t60 :: t61 :: t62 :: t63 :: t64 :: t65 :: t66 :: t67 :: t68 :: t69 :: t70 :: t71 :: t72 :: t73 :: t74 :: t75 :: t76 :: t77 :: t78 :: t79 :: t80 :: t81 :: t82 :: t83 :: t84 :: t85 :: t86 :: t87 :: t88 :: t89 :: t90 :: t91 :: t92 :: t93 :: t94 :: t95 :: t96 :: t97 :: t98 :: t99 :: t100 :: t101 :: t102 :: t103 :: t104 :: t105 :: t106 :: t107 :: t108 :: t109 :: t110 :: t111 :: t112 :: t113 :: t114 :: t115 :: t116 :: t117 :: t118 :: t119 :: []) w := Eq.mp (by kernel_rfl) h

theorem leatlaw03_FrameReads_A1_r {K : KV} {b0 b1 t2 own3 r4 l5 at6 m7 to8 i9 i10 s11 is12 s13 is14 none15 t16 t17 t18 t19 t20 t21 t22 t23 t24 t25 t26 t27 t28 t29 t30 t31 t32 t33 t34 t35 t36 t37 t38 t39 t40 t41 t42 t43 t44 t45 t46 t47 t48 t49 t50 t51 t52 t53 t54 t55 t56 t57 t58 t59 t60 t61 t62 t63 t64 t65 t66 t67 t68 t69 t70 t71 t72 t73 t74 t75 t76 t77 t78 t79 t80 t81 t82 t83 t84 t85 t86 t87 t88 t89 t90 t91 t92 t93 t94 t95 t96 t97 t98 t99 t100 t101 t102 t103 t104 t105 t106 t107 t108 t109 t110 t111 t112 t113 t114 t115 t116 t117 t118 t119 : Value} {w : World}
    (h : call Try.prog 12 #[l5, m7] (fun t39 w =>
    un Try.prog UnOp.not t39 (fun t40 w =>
    gsel t40 false (fun k42 =>
    bin Try.prog BinOp.neq 3 false false at6 to8 (fun t44 w =>
    k42 [at6, to8, t44] w) w)
    (fun k => k [undef, undef, undef] w) (fun us42 w =>
    pick t40 (Value.bool true) (gd us42 2) (fun t45 w =>
    cond t45
      (K (Value.bool false) w)
      ((leatlaw03_FrameReads_L1 K) (b0 :: b1 :: t2 :: own3 :: r4 :: l5 :: at6 :: m7 :: to8 :: (Value.int IntKind.i64 0) :: i10 :: s11 :: is12 :: s13 :: is14 :: none15 :: t16 :: t17 :: t18 :: t19 :: t20 :: t21 :: t22 :: t23 :: t24 :: t25 :: t26 :: t27 :: t28 :: t29 :: t30 :: t31 :: t32 :: t33 :: t34 :: t35 :: t36 :: l5 :: m7 :: t39 :: t40 :: t40 :: (gd us42 0) :: (gd us42 1) :: (gd us42 2) :: t45 :: t46 :: t47 :: t48 :: t49 :: t50 :: t51 :: t52 :: t53 :: t54 :: t55 :: t56 :: t57 :: t58 :: t59 :: t60 :: t61 :: t62 :: t63 :: t64 :: t65 :: t66 :: t67 :: t68 :: t69 :: t70 :: t71 :: t72 :: t73 :: t74 :: t75 :: t76 :: t77 :: t78 :: t79 :: t80 :: t81 :: t82 :: t83 :: t84 :: t85 :: t86 :: t87 :: t88 :: t89 :: t90 :: t91 :: t92 :: t93 :: t94 :: t95 :: t96 :: t97 :: t98 :: t99 :: t100 :: t101 :: t102 :: t103 :: t104 :: t105 :: t106 :: t107 :: t108 :: t109 :: t110 :: t111 :: t112 :: t113 :: t114 :: t115 :: t116 :: t117 :: t118 :: t119 :: []) w)) w)) w) w) :
    leatlaw03_FrameReads_A1 K (b0 :: b1 :: t2 :: own3 :: r4 :: l5 :: at6 :: m7 :: to8 :: i9 :: i10 :: s11 :: is12 :: s13 :: is14 :: none15 :: t16 :: t17 :: t18 :: t19 :: t20 :: t21 :: t22 :: t23 :: t24 :: t25 :: t26 :: t27 :: t28 :: t29 :: t30 :: t31 :: t32 :: t33 :: t34 :: t35 :: t36 :: t37 :: t38 :: t39 :: t40 :: t41 :: t42 :: t43 :: t44 :: t45 :: t46 :: t47 :: t48 :: t49 :: t50 :: t51 :: t52 :: t53 :: t54 :: t55 :: t56 :: t57 :: t58 :: t59 :: t60 :: t61 :: t62 :: t63 :: t64 :: t65 :: t66 :: t67 :: t68 :: t69 :: t70 :: t71 :: t72 :: t73 :: t74 :: t75 :: t76 :: t77 :: t78 :: t79 :: t80 :: t81 :: t82 :: t83 :: t84 :: t85 :: t86 :: t87 :: t88 :: t89 :: t90 :: t91 :: t92 :: t93 :: t94 :: t95 :: t96 :: t97 :: t98 :: t99 :: t100 :: t101 :: t102 :: t103 :: t104 :: t105 :: t106 :: t107 :: t108 :: t109 :: t110 :: t111 :: t112 :: t113 :: t114 :: t115 :: t116 :: t117 :: t118 :: t119 :: []) w := by
  delta leatlaw03_FrameReads_A1
  exact Eq.mp (congrArg (fun c => cCode Try.prog c (retK Try.prog Try.f3.results.toList K) (fun _ _ _ => False) (retK Try.prog Try.f3.results.toList K) (b0 :: b1 :: t2 :: own3 :: r4 :: l5 :: at6 :: m7 :: to8 :: i9 :: i10 :: s11 :: is12 :: s13 :: is14 :: none15 :: t16 :: t17 :: t18 :: t19 :: t20 :: t21 :: t22 :: t23 :: t24 :: t25 :: t26 :: t27 :: t28 :: t29 :: t30 :: t31 :: t32 :: t33 :: t34 :: t35 :: t36 :: t37 :: t38 :: t39 :: t40 :: t41 :: t42 :: t43 :: t44 :: t45 :: t46 :: t47 :: t48 :: t49 :: t50 :: t51 :: t52 :: t53 :: t54 :: t55 :: t56 :: t57 :: t58 :: t59 :: t60 :: t61 :: t62 :: t63 :: t64 :: t65 :: t66 :: t67 :: t68 :: t69 :: t70 :: t71 :: t72 :: t73 :: t74 :: t75 :: t76 :: t77 :: t78 :: t79 :: t80 :: t81 :: t82 :: t83 :: t84 :: t85 :: t86 :: t87 :: t88 :: t89 :: t90 :: t91 :: t92 :: t93 :: t94 :: t95 :: t96 :: t97 :: t98 :: t99 :: t100 :: t101 :: t102 :: t103 :: t104 :: t105 :: t106 :: t107 :: t108 :: t109 :: t110 :: t111 :: t112 :: t113 :: t114 :: t115 :: t116 :: t117 :: t118 :: t119 :: []) w) (by kernel_rfl : (cd Try.f3 [1, 1, 1, 1, 1, 1, 1]) = (cd Try.f3 [1, 1, 1, 1, 1, 1, 1]))) (leatlaw03_FrameReads_A1_k h)

theorem leatlaw03_FrameReads_L1_k {K : KV} (B1 : KE) (q0 : KE) {b0 b1 t2 own3 r4 l5 at6 m7 to8 i9' i10 s11 is12 s13 is14 none15 t16 t17 t18 t19 t20 t21 t22 t23 t24 t25 t26 t27 t28 t29 t30 t31 t32 t33 t34 t35 t36 t37 t38 t39 t40 t41 t42 t43 t44 t45 t60 t61 t62 t63 t64 t65 t66 t67 t68 t69 t70 t71 t72 t73 t74 t75 t76 t77 t78 t79 t80 t81 t82 t83 t84 t85 t86 t87 t88 t89 t90 t91 t92 t93 t94 t95 t96 t97 t98 t99 t100 t101 t102 t103 t104 t105 t106 t107 t108 t109 t110 t111 t112 t113 t114 t115 t116 t117 t118 t119 : Value} {dd : Nat → Value} {w : World}
    (h : blt Try.prog Builtin.len #[22] 3 #[false] #[own3] (fun t48 w =>
    bin Try.prog BinOp.lss 3 false false i9' t48 (fun t49 w =>
    cond t49
      (idxA Try.prog 22 own3 i9' (fun t56 w =>
    ld Try.prog 5 t56 (fun t57 w =>
    bin Try.prog BinOp.xor 5 false true t57 (Value.int IntKind.u8 1) (fun t58 w =>
    idxA Try.prog 22 own3 i9' (fun t59 w =>
    sto Try.prog 5 t59 t58 (fun _t w =>
    bin Try.prog BinOp.add 3 false true i9' (Value.int IntKind.i64 1) (fun t51 w =>
    B1 (b0 :: b1 :: t2 :: own3 :: r4 :: l5 :: at6 :: m7 :: to8 :: t51 :: i10 :: s11 :: is12 :: s13 :: is14 :: none15 :: t16 :: t17 :: t18 :: t19 :: t20 :: t21 :: t22 :: t23 :: t24 :: t25 :: t26 :: t27 :: t28 :: t29 :: t30 :: t31 :: t32 :: t33 :: t34 :: t35 :: t36 :: t37 :: t38 :: t39 :: t40 :: t41 :: t42 :: t43 :: t44 :: t45 :: i9' :: own3 :: t48 :: t49 :: i9' :: t51 :: own3 :: i9' :: own3 :: i9' :: t56 :: t57 :: t58 :: t59 :: t60 :: t61 :: t62 :: t63 :: t64 :: t65 :: t66 :: t67 :: t68 :: t69 :: t70 :: t71 :: t72 :: t73 :: t74 :: t75 :: t76 :: t77 :: t78 :: t79 :: t80 :: t81 :: t82 :: t83 :: t84 :: t85 :: t86 :: t87 :: t88 :: t89 :: t90 :: t91 :: t92 :: t93 :: t94 :: t95 :: t96 :: t97 :: t98 :: t99 :: t100 :: t101 :: t102 :: t103 :: t104 :: t105 :: t106 :: t107 :: t108 :: t109 :: t110 :: t111 :: t112 :: t113 :: t114 :: t115 :: t116 :: t117 :: t118 :: t119 :: []) w) w) w) w) w) w) w)
      (q0 (b0 :: b1 :: t2 :: own3 :: r4 :: l5 :: at6 :: m7 :: to8 :: i9' :: i10 :: s11 :: is12 :: s13 :: is14 :: none15 :: t16 :: t17 :: t18 :: t19 :: t20 :: t21 :: t22 :: t23 :: t24 :: t25 :: t26 :: t27 :: t28 :: t29 :: t30 :: t31 :: t32 :: t33 :: t34 :: t35 :: t36 :: t37 :: t38 :: t39 :: t40 :: t41 :: t42 :: t43 :: t44 :: t45 :: i9' :: own3 :: t48 :: t49 :: (dd 50) :: (dd 51) :: (dd 52) :: (dd 53) :: (dd 54) :: (dd 55) :: (dd 56) :: (dd 57) :: (dd 58) :: (dd 59) :: t60 :: t61 :: t62 :: t63 :: t64 :: t65 :: t66 :: t67 :: t68 :: t69 :: t70 :: t71 :: t72 :: t73 :: t74 :: t75 :: t76 :: t77 :: t78 :: t79 :: t80 :: t81 :: t82 :: t83 :: t84 :: t85 :: t86 :: t87 :: t88 :: t89 :: t90 :: t91 :: t92 :: t93 :: t94 :: t95 :: t96 :: t97 :: t98 :: t99 :: t100 :: t101 :: t102 :: t103 :: t104 :: t105 :: t106 :: t107 :: t108 :: t109 :: t110 :: t111 :: t112 :: t113 :: t114 :: t115 :: t116 :: t117 :: t118 :: t119 :: []) w)) w) w) :
    cCode Try.prog (cd Try.f3 [1, 1, 1, 1, 1, 1, 1, 1, 0, 1, 0, 0]) B1 (fun i => @Bool.rec (fun _ => KE) ((fun _ _ _ => False) i) q0 (Nat.beq i 0)) (retK Try.prog Try.f3.results.toList K) (b0 :: b1 :: t2 :: own3 :: r4 :: l5 :: at6 :: m7 :: to8 :: i9' :: i10 :: s11 :: is12 :: s13 :: is14 :: none15 :: t16 :: t17 :: t18 :: t19 :: t20 :: t21 :: t22 :: t23 :: t24 :: t25 :: t26 :: t27 :: t28 :: t29 :: t30 :: t31 :: t32 :: t33 :: t34 :: t35 :: t36 :: t37 :: t38 :: t39 :: t40 :: t41 :: t42 :: t43 :: t44 :: t45 :: (dd 46) :: (dd 47) :: (dd 48) :: (dd 49) :: (dd 50) :: (dd 51) :: (dd 52) :: (dd 53) :: (dd 54) :: (dd 55) :: (dd 56) :: (dd 57) :: (dd 58) :: (dd 59) :: t60 :: t61 :: t62 :: t63 :: t64 :: t65 :: t66 :: t67 :: t68 :: t69 :: t70 :: t71 :: t72 :: t73 :: t74 :: t75 :: t76 :: t77 :: t78 :: t79 :: t80 :: t81 :: t82 :: t83 :: t84 :: t85 :: t86 :: t87 :: t88 :: t89 :: t90 :: t91 :: t92 :: t93 :: t94 :: t95 :: t96 :: t97 :: t98 :: t99 :: t100 :: t101 :: t102 :: t103 :: t104 :: t105 :: t106 :: t107 :: t108 :: t109 :: t110 :: t111 :: t112 :: t113 :: t114 :: t115 :: t116 :: t117 :: t118 :: t119 :: []) w := Eq.mp (by kernel_rfl) h

theorem leatlaw03_FrameReads_L1_r {K : KV} {b0 b1 t2 own3 r4 l5 at6 m7 to8 i9 i10 s11 is12 s13 is14 none15 t16 t17 t18 t19 t20 t21 t22 t23 t24 t25 t26 t27 t28 t29 t30 t31 t32 t33 t34 t35 t36 t37 t38 t39 t40 t41 t42 t43 t44 t45 t46 t47 t48 t49 t50 t51 t52 t53 t54 t55 t56 t57 t58 t59 t60 t61 t62 t63 t64 t65 t66 t67 t68 t69 t70 t71 t72 t73 t74 t75 t76 t77 t78 t79 t80 t81 t82 t83 t84 t85 t86 t87 t88 t89 t90 t91 t92 t93 t94 t95 t96 t97 t98 t99 t100 t101 t102 t103 t104 t105 t106 t107 t108 t109 t110 t111 t112 t113 t114 t115 t116 t117 t118 t119 : Value} {w : World} (Inv : Value → World → Prop) (μ : Value → World → Nat) (h0 : Inv i9 w)
    (hs : ∀ (i9' : Value) (dd : Nat → Value) (w : World) (m : Nat), Inv i9' w → m = μ i9' w →
    blt Try.prog Builtin.len #[22] 3 #[false] #[own3] (fun t48 w =>
    bin Try.prog BinOp.lss 3 false false i9' t48 (fun t49 w =>
    cond t49
      (idxA Try.prog 22 own3 i9' (fun t56 w =>
    ld Try.prog 5 t56 (fun t57 w =>
    bin Try.prog BinOp.xor 5 false true t57 (Value.int IntKind.u8 1) (fun t58 w =>
    idxA Try.prog 22 own3 i9' (fun t59 w =>
    sto Try.prog 5 t59 t58 (fun _t w =>
    bin Try.prog BinOp.add 3 false true i9' (Value.int IntKind.i64 1) (fun t51 w =>
    (Inv t51 w ∧ μ t51 w < m)) w) w) w) w) w) w)
      ((leatlaw03_FrameReads_P1 K) (b0 :: b1 :: t2 :: own3 :: r4 :: l5 :: at6 :: m7 :: to8 :: i9' :: i10 :: s11 :: is12 :: s13 :: is14 :: none15 :: t16 :: t17 :: t18 :: t19 :: t20 :: t21 :: t22 :: t23 :: t24 :: t25 :: t26 :: t27 :: t28 :: t29 :: t30 :: t31 :: t32 :: t33 :: t34 :: t35 :: t36 :: t37 :: t38 :: t39 :: t40 :: t41 :: t42 :: t43 :: t44 :: t45 :: i9' :: own3 :: t48 :: t49 :: (dd 50) :: (dd 51) :: (dd 52) :: (dd 53) :: (dd 54) :: (dd 55) :: (dd 56) :: (dd 57) :: (dd 58) :: (dd 59) :: t60 :: t61 :: t62 :: t63 :: t64 :: t65 :: t66 :: t67 :: t68 :: t69 :: t70 :: t71 :: t72 :: t73 :: t74 :: t75 :: t76 :: t77 :: t78 :: t79 :: t80 :: t81 :: t82 :: t83 :: t84 :: t85 :: t86 :: t87 :: t88 :: t89 :: t90 :: t91 :: t92 :: t93 :: t94 :: t95 :: t96 :: t97 :: t98 :: t99 :: t100 :: t101 :: t102 :: t103 :: t104 :: t105 :: t106 :: t107 :: t108 :: t109 :: t110 :: t111 :: t112 :: t113 :: t114 :: t115 :: t116 :: t117 :: t118 :: t119 :: []) w)) w) w) :
    leatlaw03_FrameReads_L1 K (b0 :: b1 :: t2 :: own3 :: r4 :: l5 :: at6 :: m7 :: to8 :: i9 :: i10 :: s11 :: is12 :: s13 :: is14 :: none15 :: t16 :: t17 :: t18 :: t19 :: t20 :: t21 :: t22 :: t23 :: t24 :: t25 :: t26 :: t27 :: t28 :: t29 :: t30 :: t31 :: t32 :: t33 :: t34 :: t35 :: t36 :: t37 :: t38 :: t39 :: t40 :: t41 :: t42 :: t43 :: t44 :: t45 :: t46 :: t47 :: t48 :: t49 :: t50 :: t51 :: t52 :: t53 :: t54 :: t55 :: t56 :: t57 :: t58 :: t59 :: t60 :: t61 :: t62 :: t63 :: t64 :: t65 :: t66 :: t67 :: t68 :: t69 :: t70 :: t71 :: t72 :: t73 :: t74 :: t75 :: t76 :: t77 :: t78 :: t79 :: t80 :: t81 :: t82 :: t83 :: t84 :: t85 :: t86 :: t87 :: t88 :: t89 :: t90 :: t91 :: t92 :: t93 :: t94 :: t95 :: t96 :: t97 :: t98 :: t99 :: t100 :: t101 :: t102 :: t103 :: t104 :: t105 :: t106 :: t107 :: t108 :: t109 :: t110 :: t111 :: t112 :: t113 :: t114 :: t115 :: t116 :: t117 :: t118 :: t119 :: []) w := by
  refine loop_rule (cd Try.f3 [1, 1, 1, 1, 1, 1, 1, 1, 0, 1, 0, 0]) [9, 46, 47, 48, 49, 50, 51, 52, 53, 54, 55, 56, 57, 58, 59] (by kernel_rfl) (fun e2 w2 => Inv (gd e2 9) w2) (fun e2 w2 => μ (gd e2 9) w2) h0 ?_
  intro e' w' hI
  have h := hs (gd e' 9) (fun i => gd e' i) w' _ hI rfl
  have h2 : cCode Try.prog (cd Try.f3 [1, 1, 1, 1, 1, 1, 1, 1, 0, 1, 0, 0]) (fun e2 w2 => Inv (gd e2 9) w2 ∧ μ (gd e2 9) w2 < μ (gd e' 9) w') (fun i => @Bool.rec (fun _ => KE) ((fun _ _ _ => False) i) (leatlaw03_FrameReads_P1 K) (Nat.beq i 0)) (retK Try.prog Try.f3.results.toList K) (b0 :: b1 :: t2 :: own3 :: r4 :: l5 :: at6 :: m7 :: to8 :: (gd e' 9) :: i10 :: s11 :: is12 :: s13 :: is14 :: none15 :: t16 :: t17 :: t18 :: t19 :: t20 :: t21 :: t22 :: t23 :: t24 :: t25 :: t26 :: t27 :: t28 :: t29 :: t30 :: t31 :: t32 :: t33 :: t34 :: t35 :: t36 :: t37 :: t38 :: t39 :: t40 :: t41 :: t42 :: t43 :: t44 :: t45 :: (gd e' 46) :: (gd e' 47) :: (gd e' 48) :: (gd e' 49) :: (gd e' 50) :: (gd e' 51) :: (gd e' 52) :: (gd e' 53) :: (gd e' 54) :: (gd e' 55) :: (gd e' 56) :: (gd e' 57) :: (gd e' 58) :: (gd e' 59) :: t60 :: t61 :: t62 :: t63 :: t64 :: t65 :: t66 :: t67 :: t68 :: t69 :: t70 :: t71 :: t72 :: t73 :: t74 :: t75 :: t76 :: t77 :: t78 :: t79 :: t80 :: t81 :: t82 :: t83 :: t84 :: t85 :: t86 :: t87 :: t88 :: t89 :: t90 :: t91 :: t92 :: t93 :: t94 :: t95 :: t96 :: t97 :: t98 :: t99 :: t100 :: t101 :: t102 :: t103 :: t104 :: t105 :: t106 :: t107 :: t108 :: t109 :: t110 :: t111 :: t112 :: t113 :: t114 :: t115 :: t116 :: t117 :: t118 :: t119 :: []) w' := leatlaw03_FrameReads_L1_k (fun e2 w2 => Inv (gd e2 9) w2 ∧ μ (gd e2 9) w2 < μ (gd e' 9) w') (leatlaw03_FrameReads_P1 K) (Eq.mp (by kernel_rfl) h)
  exact Eq.mp (by kernel_rfl) h2

theorem leatlaw03_FrameReads_P1_k {K : KV} {b0 b1 t2 own3 r4 l5 at6 m7 to8 i9 i10 s11 is12 s13 is14 none15 t16 t17 t18 t19 t20 t21 t22 t23 t24 t25 t26 t27 t28 t29 t30 t31 t32 t33 t34 t35 t36 t37 t38 t39 t40 t41 t42 t43 t44 t45 t46 t47 t48 t49 t50 t51 t52 t53 t54 t55 t56 t57 t58 t59 t60 t61 t62 t63 t64 t65 t66 t67 t68 t69 t70 t71 t72 t73 t74 t75 t76 t77 t78 t79 t80 t81 t82 t83 t84 t85 t86 t87 t88 t89 t90 t91 t92 t93 t94 t95 t96 t97 t98 t99 t100 t101 t102 t103 t104 t105 t106 t107 t108 t109 t110 t111 t112 t113 t114 t115 t116 t117 t118 t119 : Value} {w : World}
    (h : (cCode Try.prog (cd Try.f3 [1, 1, 1, 1, 1, 1, 1, 1, 1, 0, 1, 0]) (cCode Try.prog (cd Try.f3 [1, 1, 1, 1, 1, 1, 1, 1, 1, 1]) (retK Try.prog Try.f3.results.toList K) (fun _ _ _ => False) (retK Try.prog Try.f3.results.toList K)) (fun i => @Bool.rec (fun _ => KE) ((fun _ _ _ => False) i) (cCode Try.prog (cd Try.f3 [1, 1, 1, 1, 1, 1, 1, 1, 1, 1]) (retK Try.prog Try.f3.results.toList K) (fun _ _ _ => False) (retK Try.prog Try.f3.results.toList K)) (Nat.beq i 2)) (retK Try.prog Try.f3.results.toList K)) (b0 :: b1 :: t2 :: own3 :: r4 :: l5 :: at6 :: m7 :: to8 :: i9 :: (Value.int IntKind.i64 0) :: s11 :: is12 :: s13 :: is14 :: none15 :: t16 :: t17 :: t18 :: t19 :: t20 :: t21 :: t22 :: t23 :: t24 :: t25 :: t26 :: t27 :: t28 :: t29 :: t30 :: t31 :: t32 :: t33 :: t34 :: t35 :: t36 :: t37 :: t38 :: t39 :: t40 :: t41 :: t42 :: t43 :: t44 :: t45 :: t46 :: t47 :: t48 :: t49 :: t50 :: t51 :: t52 :: t53 :: t54 :: t55 :: t56 :: t57 :: t58 :: t59 :: t60 :: t61 :: t62 :: t63 :: t64 :: t65 :: t66 :: t67 :: t68 :: t69 :: t70 :: t71 :: t72 :: t73 :: t74 :: t75 :: t76 :: t77 :: t78 :: t79 :: t80 :: t81 :: t82 :: t83 :: t84 :: t85 :: t86 :: t87 :: t88 :: t89 :: t90 :: t91 :: t92 :: t93 :: t94 :: t95 :: t96 :: t97 :: t98 :: t99 :: t100 :: t101 :: t102 :: t103 :: t104 :: t105 :: t106 :: t107 :: t108 :: t109 :: t110 :: t111 :: t112 :: t113 :: t114 :: t115 :: t116 :: t117 :: t118 :: t119 :: []) w) :
    cCode Try.prog (cd Try.f3 [1, 1, 1, 1, 1, 1, 1, 1, 1]) (retK Try.prog Try.f3.results.toList K) (fun _ _ _ => False) (retK Try.prog Try.f3.results.toList K) (b0 :: b1 :: t2 :: own3 :: r4 :: l5 :: at6 :: m7 :: to8 :: i9 :: i10 :: s11 :: is12 :: s13 :: is14 :: none15 :: t16 :: t17 :: t18 :: t19 :: t20 :: t21 :: t22 :: t23 :: t24 :: t25 :: t26 :: t27 :: t28 :: t29 :: t30 :: t31 :: t32 :: t33 :: t34 :: t35 :: t36 :: t37 :: t38 :: t39 :: t40 :: t41 :: t42 :: t43 :: t44 :: t45 :: t46 :: t47 :: t48 :: t49 :: t50 :: t51 :: t52 :: t53 :: t54 :: t55 :: t56 :: t57 :: t58 :: t59 :: t60 :: t61 :: t62 :: t63 :: t64 :: t65 :: t66 :: t67 :: t68 :: t69 :: t70 :: t71 :: t72 :: t73 :: t74 :: t75 :: t76 :: t77 :: t78 :: t79 :: t80 :: t81 :: t82 :: t83 :: t84 :: t85 :: t86 :: t87 :: t88 :: t89 :: t90 :: t91 :: t92 :: t93 :: t94 :: t95 :: t96 :: t97 :: t98 :: t99 :: t100 :: t101 :: t102 :: t103 :: t104 :: t105 :: t106 :: t107 :: t108 :: t109 :: t110 :: t111 :: t112 :: t113 :: t114 :: t115 :: t116 :: t117 :: t118 :: t119 :: []) w := Eq.mp (by kernel_rfl) h

theorem leatlaw03_FrameReads_P1_r {K : KV} {b0 b1 t2 own3 r4 l5 at6 m7 to8 i9 i10 s11 is12 s13 is14 none15 t16 t17 t18 t19 t20 t21 t22 t23 t24 t25 t26 t27 t28 t29 t30 t31 t32 t33 t34 t35 t36 t37 t38 t39 t40 t41 t42 t43 t44 t45 t46 t47 t48 t49 t50 t51 t52 t53 t54 t55 t56 t57 t58 t59 t60 t61 t62 t63 t64 t65 t66 t67 t68 t69 t70 t71 t72 t73 t74 t75 t76 t77 t78 t79 t80 t81 t82 t83 t84 t85 t86 t87 t88 t89 t90 t91 t92 t93 t94 t95 t96 t97 t98 t99 t100 t101 t102 t103 t104 t105 t106 t107 t108 t109 t110 t111 t112 t113 t114 t115 t116 t117 t118 t119 : Value} {w : World}
    (h : (leatlaw03_FrameReads_L2 K) (b0 :: b1 :: t2 :: own3 :: r4 :: l5 :: at6 :: m7 :: to8 :: i9 :: (Value.int IntKind.i64 0) :: s11 :: is12 :: s13 :: is14 :: none15 :: t16 :: t17 :: t18 :: t19 :: t20 :: t21 :: t22 :: t23 :: t24 :: t25 :: t26 :: t27 :: t28 :: t29 :: t30 :: t31 :: t32 :: t33 :: t34 :: t35 :: t36 :: t37 :: t38 :: t39 :: t40 :: t41 :: t42 :: t43 :: t44 :: t45 :: t46 :: t47 :: t48 :: t49 :: t50 :: t51 :: t52 :: t53 :: t54 :: t55 :: t56 :: t57 :: t58 :: t59 :: t60 :: t61 :: t62 :: t63 :: t64 :: t65 :: t66 :: t67 :: t68 :: t69 :: t70 :: t71 :: t72 :: t73 :: t74 :: t75 :: t76 :: t77 :: t78 :: t79 :: t80 :: t81 :: t82 :: t83 :: t84 :: t85 :: t86 :: t87 :: t88 :: t89 :: t90 :: t91 :: t92 :: t93 :: t94 :: t95 :: t96 :: t97 :: t98 :: t99 :: t100 :: t101 :: t102 :: t103 :: t104 :: t105 :: t106 :: t107 :: t108 :: t109 :: t110 :: t111 :: t112 :: t113 :: t114 :: t115 :: t116 :: t117 :: t118 :: t119 :: []) w) :
    leatlaw03_FrameReads_P1 K (b0 :: b1 :: t2 :: own3 :: r4 :: l5 :: at6 :: m7 :: to8 :: i9 :: i10 :: s11 :: is12 :: s13 :: is14 :: none15 :: t16 :: t17 :: t18 :: t19 :: t20 :: t21 :: t22 :: t23 :: t24 :: t25 :: t26 :: t27 :: t28 :: t29 :: t30 :: t31 :: t32 :: t33 :: t34 :: t35 :: t36 :: t37 :: t38 :: t39 :: t40 :: t41 :: t42 :: t43 :: t44 :: t45 :: t46 :: t47 :: t48 :: t49 :: t50 :: t51 :: t52 :: t53 :: t54 :: t55 :: t56 :: t57 :: t58 :: t59 :: t60 :: t61 :: t62 :: t63 :: t64 :: t65 :: t66 :: t67 :: t68 :: t69 :: t70 :: t71 :: t72 :: t73 :: t74 :: t75 :: t76 :: t77 :: t78 :: t79 :: t80 :: t81 :: t82 :: t83 :: t84 :: t85 :: t86 :: t87 :: t88 :: t89 :: t90 :: t91 :: t92 :: t93 :: t94 :: t95 :: t96 :: t97 :: t98 :: t99 :: t100 :: t101 :: t102 :: t103 :: t104 :: t105 :: t106 :: t107 :: t108 :: t109 :: t110 :: t111 :: t112 :: t113 :: t114 :: t115 :: t116 :: t117 :: t118 :: t119 :: []) w := by
  delta leatlaw03_FrameReads_P1
  exact Eq.mp (congrArg (fun c => cCode Try.prog c (retK Try.prog Try.f3.results.toList K) (fun _ _ _ => False) (retK Try.prog Try.f3.results.toList K) (b0 :: b1 :: t2 :: own3 :: r4 :: l5 :: at6 :: m7 :: to8 :: i9 :: i10 :: s11 :: is12 :: s13 :: is14 :: none15 :: t16 :: t17 :: t18 :: t19 :: t20 :: t21 :: t22 :: t23 :: t24 :: t25 :: t26 :: t27 :: t28 :: t29 :: t30 :: t31 :: t32 :: t33 :: t34 :: t35 :: t36 :: t37 :: t38 :: t39 :: t40 :: t41 :: t42 :: t43 :: t44 :: t45 :: t46 :: t47 :: t48 :: t49 :: t50 :: t51 :: t52 :: t53 :: t54 :: t55 :: t56 :: t57 :: t58 :: t59 :: t60 :: t61 :: t62 :: t63 :: t64 :: t65 :: t66 :: t67 :: t68 :: t69 :: t70 :: t71 :: t72 :: t73 :: t74 :: t75 :: t76 :: t77 :: t78 :: t79 :: t80 :: t81 :: t82 :: t83 :: t84 :: t85 :: t86 :: t87 :: t88 :: t89 :: t90 :: t91 :: t92 :: t93 :: t94 :: t95 :: t96 :: t97 :: t98 :: t99 :: t100 :: t101 :: t102 :: t103 :: t104 :: t105 :: t106 :: t107 :: t108 :: t109 :: t110 :: t111 :: t112 :: t113 :: t114 :: t115 :: t116 :: t117 :: t118 :: t119 :: []) w) (by kernel_rfl : (cd Try.f3 [1, 1, 1, 1, 1, 1, 1, 1, 1]) = (cd Try.f3 [1, 1, 1, 1, 1, 1, 1, 1, 1]))) (leatlaw03_FrameReads_P1_k h)

theorem leatlaw03_FrameReads_L2_k {K : KV} (B1 : KE) (q0 : KE) {b0 b1 own3 r4 l5 at6 m7 to8 i9 i10' s13 is14 none15 t16 t17 t18 t19 t20 t21 t22 t23 t24 t25 t26 t27 t28 t29 t30 t31 t32 t33 t34 t35 t36 t37 t38 t39 t40 t41 t42 t43 t44 t45 t46 t47 t48 t49 t50 t51 t52 t53 t54 t55 t56 t57 t58 t59 t74' t75' t76' t77' t78' t79' t80' t81' t83 t84 t85 t86 t87 t88 t89 t90 t91 t92 t93 t94 t95 t96 t97 t98 t99 t100 t101 t102 t103 t104 t105 t106 t107 t108 t109 t110 t111 t112 t113 t114 t115 t116 t117 t118 t119 : Value} {dd : Nat → Value} {w : World}
    (h : blt Try.prog Builtin.len #[26] 3 #[false] #[m7] (fun t62 w =>
    bin Try.prog BinOp.lss 3 false false i10' t62 (fun t63 w =>
    cond t63
      (call Try.prog 13 #[r4] (fun t68 w =>
    ext Try.prog t68 0 (fun t69 w =>
    ext Try.prog t68 1 (fun t70 w =>
    (fun w =>
    sti (fun k w => un Try.prog UnOp.not t70 k w) (fun t72 w =>
    gsel t72 false (fun k74 =>
    sti (fun k w => conv Try.prog 22 9 t69 k w) (fun t75 w =>
    sti (fun k w => idxA Try.prog 26 m7 i10' k w) (fun t78 w =>
    sti (fun k w => ld Try.prog 22 t78 k w) (fun t79 w =>
    sti (fun k w => conv Try.prog 22 9 t79 k w) (fun t80 w =>
    sti (fun k w => bin Try.prog BinOp.neq 9 false false t75 t80 k w) (fun t81 w =>
    k74 [t69, t75, m7, i10', t78, t79, t80, t81] w) w) w) w) w) w)
    (fun k => k [undef, undef, undef, undef, undef, undef, undef, undef] w) (fun us74 w =>
    sti (fun k w => pick t72 (Value.bool true) (gd us74 7) k w) (fun t82 w =>
    cond t82
      (K (Value.bool false) w)
      (bin Try.prog BinOp.add 3 false true i10' (Value.int IntKind.i64 1) (fun t65 w =>
    B1 (b0 :: b1 :: (dd 2) :: own3 :: r4 :: l5 :: at6 :: m7 :: to8 :: i9 :: t65 :: t69 :: t70 :: s13 :: is14 :: none15 :: t16 :: t17 :: t18 :: t19 :: t20 :: t21 :: t22 :: t23 :: t24 :: t25 :: t26 :: t27 :: t28 :: t29 :: t30 :: t31 :: t32 :: t33 :: t34 :: t35 :: t36 :: t37 :: t38 :: t39 :: t40 :: t41 :: t42 :: t43 :: t44 :: t45 :: t46 :: t47 :: t48 :: t49 :: t50 :: t51 :: t52 :: t53 :: t54 :: t55 :: t56 :: t57 :: t58 :: t59 :: i10' :: m7 :: t62 :: t63 :: i10' :: t65 :: t68 :: r4 :: t68 :: t69 :: t70 :: t70 :: t72 :: t72 :: (gd us74 0) :: (gd us74 1) :: (gd us74 2) :: (gd us74 3) :: (gd us74 4) :: (gd us74 5) :: (gd us74 6) :: (gd us74 7) :: t82 :: t83 :: t84 :: t85 :: t86 :: t87 :: t88 :: t89 :: t90 :: t91 :: t92 :: t93 :: t94 :: t95 :: t96 :: t97 :: t98 :: t99 :: t100 :: t101 :: t102 :: t103 :: t104 :: t105 :: t106 :: t107 :: t108 :: t109 :: t110 :: t111 :: t112 :: t113 :: t114 :: t115 :: t116 :: t117 :: t118 :: t119 :: []) w) w)) w)) w) w.drew) w) w) w)
      (q0 (b0 :: b1 :: (dd 2) :: own3 :: r4 :: l5 :: at6 :: m7 :: to8 :: i9 :: i10' :: (dd 11) :: (dd 12) :: s13 :: is14 :: none15 :: t16 :: t17 :: t18 :: t19 :: t20 :: t21 :: t22 :: t23 :: t24 :: t25 :: t26 :: t27 :: t28 :: t29 :: t30 :: t31 :: t32 :: t33 :: t34 :: t35 :: t36 :: t37 :: t38 :: t39 :: t40 :: t41 :: t42 :: t43 :: t44 :: t45 :: t46 :: t47 :: t48 :: t49 :: t50 :: t51 :: t52 :: t53 :: t54 :: t55 :: t56 :: t57 :: t58 :: t59 :: i10' :: m7 :: t62 :: t63 :: (dd 64) :: (dd 65) :: (dd 66) :: (dd 67) :: (dd 68) :: (dd 69) :: (dd 70) :: (dd 71) :: (dd 72) :: (dd 73) :: t74' :: t75' :: t76' :: t77' :: t78' :: t79' :: t80' :: t81' :: (dd 82) :: t83 :: t84 :: t85 :: t86 :: t87 :: t88 :: t89 :: t90 :: t91 :: t92 :: t93 :: t94 :: t95 :: t96 :: t97 :: t98 :: t99 :: t100 :: t101 :: t102 :: t103 :: t104 :: t105 :: t106 :: t107 :: t108 :: t109 :: t110 :: t111 :: t112 :: t113 :: t114 :: t115 :: t116 :: t117 :: t118 :: t119 :: []) w)) w) w) :
    cCode Try.prog (cd Try.f3 [1, 1, 1, 1, 1, 1, 1, 1, 1, 0, 1, 0, 0]) B1 (fun i => @Bool.rec (fun _ => KE) ((fun _ _ _ => False) i) q0 (Nat.beq i 2)) (retK Try.prog Try.f3.results.toList K) (b0 :: b1 :: (dd 2) :: own3 :: r4 :: l5 :: at6 :: m7 :: to8 :: i9 :: i10' :: (dd 11) :: (dd 12) :: s13 :: is14 :: none15 :: t16 :: t17 :: t18 :: t19 :: t20 :: t21 :: t22 :: t23 :: t24 :: t25 :: t26 :: t27 :: t28 :: t29 :: t30 :: t31 :: t32 :: t33 :: t34 :: t35 :: t36 :: t37 :: t38 :: t39 :: t40 :: t41 :: t42 :: t43 :: t44 :: t45 :: t46 :: t47 :: t48 :: t49 :: t50 :: t51 :: t52 :: t53 :: t54 :: t55 :: t56 :: t57 :: t58 :: t59 :: (dd 60) :: (dd 61) :: (dd 62) :: (dd 63) :: (dd 64) :: (dd 65) :: (dd 66) :: (dd 67) :: (dd 68) :: (dd 69) :: (dd 70) :: (dd 71) :: (dd 72) :: (dd 73) :: t74' :: t75' :: t76' :: t77' :: t78' :: t79' :: t80' :: t81' :: (dd 82) :: t83 :: t84 :: t85 :: t86 :: t87 :: t88 :: t89 :: t90 :: t91 :: t92 :: t93 :: t94 :: t95 :: t96 :: t97 :: t98 :: t99 :: t100 :: t101 :: t102 :: t103 :: t104 :: t105 :: t106 :: t107 :: t108 :: t109 :: t110 :: t111 :: t112 :: t113 :: t114 :: t115 :: t116 :: t117 :: t118 :: t119 :: []) w := Eq.mp (by kernel_rfl) h

theorem leatlaw03_FrameReads_L2_r {K : KV} {b0 b1 t2 own3 r4 l5 at6 m7 to8 i9 i10 s11 is12 s13 is14 none15 t16 t17 t18 t19 t20 t21 t22 t23 t24 t25 t26 t27 t28 t29 t30 t31 t32 t33 t34 t35 t36 t37 t38 t39 t40 t41 t42 t43 t44 t45 t46 t47 t48 t49 t50 t51 t52 t53 t54 t55 t56 t57 t58 t59 t60 t61 t62 t63 t64 t65 t66 t67 t68 t69 t70 t71 t72 t73 t74 t75 t76 t77 t78 t79 t80 t81 t82 t83 t84 t85 t86 t87 t88 t89 t90 t91 t92 t93 t94 t95 t96 t97 t98 t99 t100 t101 t102 t103 t104 t105 t106 t107 t108 t109 t110 t111 t112 t113 t114 t115 t116 t117 t118 t119 : Value} {w : World} (Inv : Value → Value → Value → Value → Value → Value → Value → Value → Value → World → Prop) (μ : Value → Value → Value → Value → Value → Value → Value → Value → Value → World → Nat) (h0 : Inv i10 t74 t75 t76 t77 t78 t79 t80 t81 w)
    (hs : ∀ (i10' t74' t75' t76' t77' t78' t79' t80' t81' : Value) (dd : Nat → Value) (w : World) (m : Nat), Inv i10' t74' t75' t76' t77' t78' t79' t80' t81' w → m = μ i10' t74' t75' t76' t77' t78' t79' t80' t81' w →
    blt Try.prog Builtin.len #[26] 3 #[false] #[m7] (fun t62 w =>
    bin Try.prog BinOp.lss 3 false false i10' t62 (fun t63 w =>
    cond t63
      (call Try.prog 13 #[r4] (fun t68 w =>
    ext Try.prog t68 0 (fun t69 w =>
    ext Try.prog t68 1 (fun t70 w =>
    (fun w =>
    sti (fun k w => un Try.prog UnOp.not t70 k w) (fun t72 w =>
    gsel t72 false (fun k74 =>
    sti (fun k w => conv Try.prog 22 9 t69 k w) (fun t75 w =>
    sti (fun k w => idxA Try.prog 26 m7 i10' k w) (fun t78 w =>
    sti (fun k w => ld Try.prog 22 t78 k w) (fun t79 w =>
    sti (fun k w => conv Try.prog 22 9 t79 k w) (fun t80 w =>
    sti (fun k w => bin Try.prog BinOp.neq 9 false false t75 t80 k w) (fun t81 w =>
    k74 [t69, t75, m7, i10', t78, t79, t80, t81] w) w) w) w) w) w)
    (fun k => k [undef, undef, undef, undef, undef, undef, undef, undef] w) (fun us74 w =>
    sti (fun k w => pick t72 (Value.bool true) (gd us74 7) k w) (fun t82 w =>
    cond t82
      (K (Value.bool false) w)
      (bin Try.prog BinOp.add 3 false true i10' (Value.int IntKind.i64 1) (fun t65 w =>
    (Inv t65 (gd us74 0) (gd us74 1) (gd us74 2) (gd us74 3) (gd us74 4) (gd us74 5) (gd us74 6) (gd us74 7) w ∧ μ t65 (gd us74 0) (gd us74 1) (gd us74 2) (gd us74 3) (gd us74 4) (gd us74 5) (gd us74 6) (gd us74 7) w < m)) w)) w)) w) w.drew) w) w) w)
      ((leatlaw03_FrameReads_P2 K) (b0 :: b1 :: (dd 2) :: own3 :: r4 :: l5 :: at6 :: m7 :: to8 :: i9 :: i10' :: (dd 11) :: (dd 12) :: s13 :: is14 :: none15 :: t16 :: t17 :: t18 :: t19 :: t20 :: t21 :: t22 :: t23 :: t24 :: t25 :: t26 :: t27 :: t28 :: t29 :: t30 :: t31 :: t32 :: t33 :: t34 :: t35 :: t36 :: t37 :: t38 :: t39 :: t40 :: t41 :: t42 :: t43 :: t44 :: t45 :: t46 :: t47 :: t48 :: t49 :: t50 :: t51 :: t52 :: t53 :: t54 :: t55 :: t56 :: t57 :: t58 :: t59 :: i10' :: m7 :: t62 :: t63 :: (dd 64) :: (dd 65) :: (dd 66) :: (dd 67) :: (dd 68) :: (dd 69) :: (dd 70) :: (dd 71) :: (dd 72) :: (dd 73) :: t74' :: t75' :: t76' :: t77' :: t78' :: t79' :: t80' :: t81' :: (dd 82) :: t83 :: t84 :: t85 :: t86 :: t87 :: t88 :: t89 :: t90 :: t91 :: t92 :: t93 :: t94 :: t95 :: t96 :: t97 :: t98 :: t99 :: t100 :: t101 :: t102 :: t103 :: t104 :: t105 :: t106 :: t107 :: t108 :: t109 :: t110 :: t111 :: t112 :: t113 :: t114 :: t115 :: t116 :: t117 :: t118 :: t119 :: []) w)) w) w) :
    leatlaw03_FrameReads_L2 K (b0 :: b1 :: t2 :: own3 :: r4 :: l5 :: at6 :: m7 :: to8 :: i9 :: i10 :: s11 :: is12 :: s13 :: is14 :: none15 :: t16 :: t17 :: t18 :: t19 :: t20 :: t21 :: t22 :: t23 :: t24 :: t25 :: t26 :: t27 :: t28 :: t29 :: t30 :: t31 :: t32 :: t33 :: t34 :: t35 :: t36 :: t37 :: t38 :: t39 :: t40 :: t41 :: t42 :: t43 :: t44 :: t45 :: t46 :: t47 :: t48 :: t49 :: t50 :: t51 :: t52 :: t53 :: t54 :: t55 :: t56 :: t57 :: t58 :: t59 :: t60 :: t61 :: t62 :: t63 :: t64 :: t65 :: t66 :: t67 :: t68 :: t69 :: t70 :: t71 :: t72 :: t73 :: t74 :: t75 :: t76 :: t77 :: t78 :: t79 :: t80 :: t81 :: t82 :: t83 :: t84 :: t85 :: t86 :: t87 :: t88 :: t89 :: t90 :: t91 :: t92 :: t93 :: t94 :: t95 :: t96 :: t97 :: t98 :: t99 :: t100 :: t101 :: t102 :: t103 :: t104 :: t105 :: t106 :: t107 :: t108 :: t109 :: t110 :: t111 :: t112 :: t113 :: t114 :: t115 :: t116 :: t117 :: t118 :: t119 :: []) w := by
  refine loop_rule (cd Try.f3 [1, 1, 1, 1, 1, 1, 1, 1, 1, 0, 1, 0, 0]) [2, 10, 11, 12, 60, 61, 62, 63, 64, 65, 66, 67, 68, 69, 70, 71, 72, 73, 74, 75, 76, 77, 78, 79, 80, 81, 82] (by kernel_rfl) (fun e2 w2 => Inv (gd e2 10) (gd e2 74) (gd e2 75) (gd e2 76) (gd e2 77) (gd e2 78) (gd e2 79) (gd e2 80) (gd e2 81) w2) (fun e2 w2 => μ (gd e2 10) (gd e2 74) (gd e2 75) (gd e2 76) (gd e2 77) (gd e2 78) (gd e2 79) (gd e2 80) (gd e2 81) w2) h0 ?_
  intro e' w' hI
  have h := hs (gd e' 10) (gd e' 74) (gd e' 75) (gd e' 76) (gd e' 77) (gd e' 78) (gd e' 79) (gd e' 80) (gd e' 81) (fun i => gd e' i) w' _ hI rfl
  have h2 : cCode Try.prog (cd Try.f3 [1, 1, 1, 1, 1, 1, 1, 1, 1, 0, 1, 0, 0]) (fun e2 w2 => Inv (gd e2 10) (gd e2 74) (gd e2 75) (gd e2 76) (gd e2 77) (gd e2 78) (gd e2 79) (gd e2 80) (gd e2 81) w2 ∧ μ (gd e2 10) (gd e2 74) (gd e2 75) (gd e2 76) (gd e2 77) (gd e2 78) (gd e2 79) (gd e2 80) (gd e2 81) w2 < μ (gd e' 10) (gd e' 74) (gd e' 75) (gd e' 76) (gd e' 77) (gd e' 78) (gd e' 79) (gd e' 80) (gd e' 81) w') (fun i => @Bool.rec (fun _ => KE) ((fun _ _ _ => False) i) (leatlaw03_FrameReads_P2 K) (Nat.beq i 2)) (retK Try.prog Try.f3.results.toList K) (b0 :: b1 :: (gd e' 2) :: own3 :: r4 :: l5 :: at6 :: m7 :: to8 :: i9 :: (gd e' 10) :: (gd e' 11) :: (gd e' 12) :: s13 :: is14 :: none15 :: t16 :: t17 :: t18 :: t19 :: t20 :: t21 :: t22 :: t23 :: t24 :: t25 :: t26 :: t27 :: t28 :: t29 :: t30 :: t31 :: t32 :: t33 :: t34 :: t35 :: t36 :: t37 :: t38 :: t39 :: t40 :: t41 :: t42 :: t43 :: t44 :: t45 :: t46 :: t47 :: t48 :: t49 :: t50 :: t51 :: t52 :: t53 :: t54 :: t55 :: t56 :: t57 :: t58 :: t59 :: (gd e' 60) :: (gd e' 61) :: (gd e' 62) :: (gd e' 63) :: (gd e' 64) :: (gd e' 65) :: (gd e' 66) :: (gd e' 67) :: (gd e' 68) :: (gd e' 69) :: (gd e' 70) :: (gd e' 71) :: (gd e' 72) :: (gd e' 73) :: (gd e' 74) :: (gd e' 75) :: (gd e' 76) :: (gd e' 77) :: (gd e' 78) :: (gd e' 79) :: (gd e' 80) :: (gd e' 81) :: (gd e' 82) :: t83 :: t84 :: t85 :: t86 :: t87 :: t88 :: t89 :: t90 :: t91 :: t92 :: t93 :: t94 :: t95 :: t96 :: t97 :: t98 :: t99 :: t100 :: t101 :: t102 :: t103 :: t104 :: t105 :: t106 :: t107 :: t108 :: t109 :: t110 :: t111 :: t112 :: t113 :: t114 :: t115 :: t116 :: t117 :: t118 :: t119 :: []) w' := leatlaw03_FrameReads_L2_k (fun e2 w2 => Inv (gd e2 10) (gd e2 74) (gd e2 75) (gd e2 76) (gd e2 77) (gd e2 78) (gd e2 79) (gd e2 80) (gd e2 81) w2 ∧ μ (gd e2 10) (gd e2 74) (gd e2 75) (gd e2 76) (gd e2 77) (gd e2 78) (gd e2 79) (gd e2 80) (gd e2 81) w2 < μ (gd e' 10) (gd e' 74) (gd e' 75) (gd e' 76) (gd e' 77) (gd e' 78) (gd e' 79) (gd e' 80) (gd e' 81) w') (leatlaw03_FrameReads_P2 K) (Eq.mp (by kernel_rfl) h)
  exact Eq.mp (by kernel_rfl) h2

theorem leatlaw03_FrameReads_P2_k {K : KV} (x0 : Code) {b0 b1 t2 own3 r4 l5 at6 m7 to8 i9 i10 s11 is12 s13 is14 none15 t16 t17 t18 t19 t20 t21 t22 t23 t24 t25 t26 t27 t28 t29 t30 t31 t32 t33 t34 t35 t36 t37 t38 t39 t40 t41 t42 t43 t44 t45 t46 t47 t48 t49 t50 t51 t52 t53 t54 t55 t56 t57 t58 t59 t60 t61 t62 t63 t64 t65 t66 t67 t68 t69 t70 t71 t72 t73 t74 t75 t76 t77 t78 t79 t80 t81 t82 t83 t84 t85 t86 t87 t88 t89 t90 t91 t92 t93 t94 t95 t96 t97 t98 t99 t100 t101 t102 t103 t104 t105 t106 t107 t108 t109 t110 t111 t112 t113 t114 t115 t116 t117 t118 t119 : Value} {w : World}
    (h : call Try.prog 13 #[r4] (fun t85 w =>
    ext Try.prog t85 0 (fun t86 w =>
    ext Try.prog t85 1 (fun t87 w =>
    gsel t87 false (fun k90 =>
    blt Try.prog Builtin.len #[22] 3 #[false] #[t86] (fun t91 w =>
    bin Try.prog BinOp.gtr 3 false true t91 (Value.int IntKind.i64 0) (fun t92 w =>
    k90 [t86, t91, t92] w) w) w)
    (fun k => k [undef, undef, undef] w) (fun us90 w =>
    pick t87 (Value.bool true) (gd us90 2) (fun t93 w =>
    gsel t93 false (fun k95 =>
    call Try.prog 14 #[r4] (fun t96 w =>
    bin Try.prog BinOp.neq 3 false false t96 to8 (fun t98 w =>
    k95 [r4, t96, to8, t98] w) w) w)
    (fun k => k [undef, undef, undef, undef] w) (fun us95 w =>
    pick t93 (Value.bool true) (gd us95 3) (fun t99 w =>
    cond t99
      (K (Value.bool false) w)
      (call Try.prog 13 #[(Value.pointer none)] (fun t102 w =>
    ext Try.prog t102 0 (fun t103 w =>
    ext Try.prog t102 1 (fun t104 w =>
    (cCode Try.prog x0 (retK Try.prog Try.f3.results.toList K) (fun _ _ _ => False) (retK Try.prog Try.f3.results.toList K)) (b0 :: b1 :: t2 :: own3 :: r4 :: l5 :: at6 :: m7 :: to8 :: i9 :: i10 :: s11 :: is12 :: t103 :: t104 :: (Value.pointer none) :: t16 :: t17 :: t18 :: t19 :: t20 :: t21 :: t22 :: t23 :: t24 :: t25 :: t26 :: t27 :: t28 :: t29 :: t30 :: t31 :: t32 :: t33 :: t34 :: t35 :: t36 :: t37 :: t38 :: t39 :: t40 :: t41 :: t42 :: t43 :: t44 :: t45 :: t46 :: t47 :: t48 :: t49 :: t50 :: t51 :: t52 :: t53 :: t54 :: t55 :: t56 :: t57 :: t58 :: t59 :: t60 :: t61 :: t62 :: t63 :: t64 :: t65 :: t66 :: t67 :: t68 :: t69 :: t70 :: t71 :: t72 :: t73 :: t74 :: t75 :: t76 :: t77 :: t78 :: t79 :: t80 :: t81 :: t82 :: t85 :: r4 :: t85 :: t86 :: t87 :: t87 :: t87 :: (gd us90 0) :: (gd us90 1) :: (gd us90 2) :: t93 :: t93 :: (gd us95 0) :: (gd us95 1) :: (gd us95 2) :: (gd us95 3) :: t99 :: t102 :: (Value.pointer none) :: t102 :: t103 :: t104 :: t105 :: t106 :: t107 :: t108 :: t109 :: t110 :: t111 :: t112 :: t113 :: t114 :: t115 :: t116 :: t117 :: t118 :: t119 :: []) w) w) w) w)) w)) w)) w) w) w) :
    cCode Try.prog (rep [1, 1, 1, 1] x0 (cd Try.f3 [1, 1, 1, 1, 1, 1, 1, 1, 1, 1])) (retK Try.prog Try.f3.results.toList K) (fun _ _ _ => False) (retK Try.prog Try.f3.results.toList K) (b0 :: b1 :: t2 :: own3 :: r4 :: l5 :: at6 :: m7 :: to8 :: i9 :: i10 :: s11 :: is12 :: s13 :: is14 :: none15 :: t16 :: t17 :: t18 :: t19 :: t20 :: t21 :: t22 :: t23 :: t24 :: t25 :: t26 :: t27 :: t28 :: t29 :: t30 :: t31 :: t32 :: t33 :: t34 :: t35 :: t36 :: t37 :: t38 :: t39 :: t40 :: t41 :: t42 :: t43 :: t44 :: t45 :: t46 :: t47 :: t48 :: t49 :: t50 :: t51 :: t52 :: t53 :: t54 :: t55 :: t56 :: t57 :: t58 :: t59 :: t60 :: t61 :: t62 :: t63 :: t64 :: t65 :: t66 :: t67 :: t68 :: t69 :: t70 :: t71 :: t72 :: t73 :: t74 :: t75 :: t76 :: t77 :: t78 :: t79 :: t80 :: t81 :: t82 :: t83 :: t84 :: t85 :: t86 :: t87 :: t88 :: t89 :: t90 :: t91 :: t92 :: t93 :: t94 :: t95 :: t96 :: t97 :: t98 :: t99 :: t100 :: t101 :: t102 :: t103 :: t104 :: t105 :: t106 :: t107 :: t108 :: t109 :: t110 :: t111 :: t112 :: t113 :: t114 :: t115 :: t116 :: t117 :: t118 :: t119 :: []) w := Eq.mp (by kernel_rfl) h

theorem leatlaw03_FrameReads_P2_r {K : KV} {b0 b1 t2 own3 r4 l5 at6 m7 to8 i9 i10 s11 is12 s13 is14 none15 t16 t17 t18 t19 t20 t21 t22 t23 t24 t25 t26 t27 t28 t29 t30 t31 t32 t33 t34 t35 t36 t37 t38 t39 t40 t41 t42 t43 t44 t45 t46 t47 t48 t49 t50 t51 t52 t53 t54 t55 t56 t57 t58 t59 t60 t61 t62 t63 t64 t65 t66 t67 t68 t69 t70 t71 t72 t73 t74 t75 t76 t77 t78 t79 t80 t81 t82 t83 t84 t85 t86 t87 t88 t89 t90 t91 t92 t93 t94 t95 t96 t97 t98 t99 t100 t101 t102 t103 t104 t105 t106 t107 t108 t109 t110 t111 t112 t113 t114 t115 t116 t117 t118 t119 : Value} {w : World}
    (h : call Try.prog 13 #[r4] (fun t85 w =>
    ext Try.prog t85 0 (fun t86 w =>
    ext Try.prog t85 1 (fun t87 w =>
    gsel t87 false (fun k90 =>
    blt Try.prog Builtin.len #[22] 3 #[false] #[t86] (fun t91 w =>
    bin Try.prog BinOp.gtr 3 false true t91 (Value.int IntKind.i64 0) (fun t92 w =>
    k90 [t86, t91, t92] w) w) w)
    (fun k => k [undef, undef, undef] w) (fun us90 w =>
    pick t87 (Value.bool true) (gd us90 2) (fun t93 w =>
    gsel t93 false (fun k95 =>
    call Try.prog 14 #[r4] (fun t96 w =>
    bin Try.prog BinOp.neq 3 false false t96 to8 (fun t98 w =>
    k95 [r4, t96, to8, t98] w) w) w)
    (fun k => k [undef, undef, undef, undef] w) (fun us95 w =>
    pick t93 (Value.bool true) (gd us95 3) (fun t99 w =>
    cond t99
      (K (Value.bool false) w)
      (call Try.prog 13 #[(Value.pointer none)] (fun t102 w =>
    ext Try.prog t102 0 (fun t103 w =>
    ext Try.prog t102 1 (fun t104 w =>
    (leatlaw03_FrameReads_A2 K) (b0 :: b1 :: t2 :: own3 :: r4 :: l5 :: at6 :: m7 :: to8 :: i9 :: i10 :: s11 :: is12 :: t103 :: t104 :: (Value.pointer none) :: t16 :: t17 :: t18 :: t19 :: t20 :: t21 :: t22 :: t23 :: t24 :: t25 :: t26 :: t27 :: t28 :: t29 :: t30 :: t31 :: t32 :: t33 :: t34 :: t35 :: t36 :: t37 :: t38 :: t39 :: t40 :: t41 :: t42 :: t43 :: t44 :: t45 :: t46 :: t47 :: t48 :: t49 :: t50 :: t51 :: t52 :: t53 :: t54 :: t55 :: t56 :: t57 :: t58 :: t59 :: t60 :: t61 :: t62 :: t63 :: t64 :: t65 :: t66 :: t67 :: t68 :: t69 :: t70 :: t71 :: t72 :: t73 :: t74 :: t75 :: t76 :: t77 :: t78 :: t79 :: t80 :: t81 :: t82 :: t85 :: r4 :: t85 :: t86 :: t87 :: t87 :: t87 :: (gd us90 0) :: (gd us90 1) :: (gd us90 2) :: t93 :: t93 :: (gd us95 0) :: (gd us95 1) :: (gd us95 2) :: (gd us95 3) :: t99 :: t102 :: (Value.pointer none) :: t102 :: t103 :: t104 :: t105 :: t106 :: t107 :: t108 :: t109 :: t110 :: t111 :: t112 :: t113 :: t114 :: t115 :: t116 :: t117 :: t118 :: t119 :: []) w) w) w) w)) w)) w)) w) w) w) :
    leatlaw03_FrameReads_P2 K (b0 :: b1 :: t2 :: own3 :: r4 :: l5 :: at6 :: m7 :: to8 :: i9 :: i10 :: s11 :: is12 :: s13 :: is14 :: none15 :: t16 :: t17 :: t18 :: t19 :: t20 :: t21 :: t22 :: t23 :: t24 :: t25 :: t26 :: t27 :: t28 :: t29 :: t30 :: t31 :: t32 :: t33 :: t34 :: t35 :: t36 :: t37 :: t38 :: t39 :: t40 :: t41 :: t42 :: t43 :: t44 :: t45 :: t46 :: t47 :: t48 :: t49 :: t50 :: t51 :: t52 :: t53 :: t54 :: t55 :: t56 :: t57 :: t58 :: t59 :: t60 :: t61 :: t62 :: t63 :: t64 :: t65 :: t66 :: t67 :: t68 :: t69 :: t70 :: t71 :: t72 :: t73 :: t74 :: t75 :: t76 :: t77 :: t78 :: t79 :: t80 :: t81 :: t82 :: t83 :: t84 :: t85 :: t86 :: t87 :: t88 :: t89 :: t90 :: t91 :: t92 :: t93 :: t94 :: t95 :: t96 :: t97 :: t98 :: t99 :: t100 :: t101 :: t102 :: t103 :: t104 :: t105 :: t106 :: t107 :: t108 :: t109 :: t110 :: t111 :: t112 :: t113 :: t114 :: t115 :: t116 :: t117 :: t118 :: t119 :: []) w := by
  delta leatlaw03_FrameReads_P2
  exact Eq.mp (congrArg (fun c => cCode Try.prog c (retK Try.prog Try.f3.results.toList K) (fun _ _ _ => False) (retK Try.prog Try.f3.results.toList K) (b0 :: b1 :: t2 :: own3 :: r4 :: l5 :: at6 :: m7 :: to8 :: i9 :: i10 :: s11 :: is12 :: s13 :: is14 :: none15 :: t16 :: t17 :: t18 :: t19 :: t20 :: t21 :: t22 :: t23 :: t24 :: t25 :: t26 :: t27 :: t28 :: t29 :: t30 :: t31 :: t32 :: t33 :: t34 :: t35 :: t36 :: t37 :: t38 :: t39 :: t40 :: t41 :: t42 :: t43 :: t44 :: t45 :: t46 :: t47 :: t48 :: t49 :: t50 :: t51 :: t52 :: t53 :: t54 :: t55 :: t56 :: t57 :: t58 :: t59 :: t60 :: t61 :: t62 :: t63 :: t64 :: t65 :: t66 :: t67 :: t68 :: t69 :: t70 :: t71 :: t72 :: t73 :: t74 :: t75 :: t76 :: t77 :: t78 :: t79 :: t80 :: t81 :: t82 :: t83 :: t84 :: t85 :: t86 :: t87 :: t88 :: t89 :: t90 :: t91 :: t92 :: t93 :: t94 :: t95 :: t96 :: t97 :: t98 :: t99 :: t100 :: t101 :: t102 :: t103 :: t104 :: t105 :: t106 :: t107 :: t108 :: t109 :: t110 :: t111 :: t112 :: t113 :: t114 :: t115 :: t116 :: t117 :: t118 :: t119 :: []) w) (by kernel_rfl : (rep [1, 1, 1, 1] (cd Try.f3 [1, 1, 1, 1, 1, 1, 1, 1, 1, 1, 1, 1, 1, 1]) (cd Try.f3 [1, 1, 1, 1, 1, 1, 1, 1, 1, 1])) = (cd Try.f3 [1, 1, 1, 1, 1, 1, 1, 1, 1, 1]))) (leatlaw03_FrameReads_P2_k (cd Try.f3 [1, 1, 1, 1, 1, 1, 1, 1, 1, 1, 1, 1, 1, 1]) h)

theorem leatlaw03_FrameReads_A2_k {K : KV} {b0 b1 t2 own3 r4 l5 at6 m7 to8 i9 i10 s11 is12 s13 is14 none15 t16 t17 t18 t19 t20 t21 t22 t23 t24 t25 t26 t27 t28 t29 t30 t31 t32 t33 t34 t35 t36 t37 t38 t39 t40 t41 t42 t43 t44 t45 t46 t47 t48 t49 t50 t51 t52 t53 t54 t55 t56 t57 t58 t59 t60 t61 t62 t63 t64 t65 t66 t67 t68 t69 t70 t71 t72 t73 t74 t75 t76 t77 t78 t79 t80 t81 t82 t83 t84 t85 t86 t87 t88 t89 t90 t91 t92 t93 t94 t95 t96 t97 t98 t99 t100 t101 t102 t103 t104 t105 t106 t107 t108 t109 t110 t111 t112 t113 t114 t115 t116 t117 t118 t119 : Value} {w : World}
    (h : un Try.prog UnOp.not is14 (fun t106 w =>
    gsel t106 true (fun k108 =>
    blt Try.prog Builtin.len #[22] 3 #[false] #[s13] (fun t109 w =>
    bin Try.prog BinOp.eql 3 false true t109 (Value.int IntKind.i64 0) (fun t110 w =>
    k108 [s13, t109, t110] w) w) w)
    (fun k => k [undef, undef, undef] w) (fun us108 w =>
    pick t106 (gd us108 2) (Value.bool false) (fun t111 w =>
    gsel t111 true (fun k113 =>
    call Try.prog 14 #[none15] (fun t114 w =>
    bin Try.prog BinOp.eql 3 false true t114 (Value.int IntKind.i64 0) (fun t115 w =>
    k113 [none15, t114, t115] w) w) w)
    (fun k => k [undef, undef, undef] w) (fun us113 w =>
    pick t111 (gd us113 2) (Value.bool false) (fun t116 w =>
    gsel t116 true (fun k118 =>
    call Try.prog 8 #[] (fun t118 w =>
    k118 [t118] w) w)
    (fun k => k [undef] w) (fun us118 w =>
    pick t116 (gd us118 0) (Value.bool false) (fun t119 w =>
    K t119 w) w)) w)) w)) w) :
    cCode Try.prog (cd Try.f3 [1, 1, 1, 1, 1, 1, 1, 1, 1, 1, 1, 1, 1, 1]) (retK Try.prog Try.f3.results.toList K) (fun _ _ _ => False) (retK Try.prog Try.f3.results.toList K) (b0 :: b1 :: t2 :: own3 :: r4 :: l5 :: at6 :: m7 :: to8 :: i9 :: i10 :: s11 :: is12 :: s13 :: is14 :: none15 :: t16 :: t17 :: t18 :: t19 :: t20 :: t21 :: t22 :: t23 :: t24 :: t25 :: t26 :: t27 :: t28 :: t29 :: t30 :: t31 :: t32 :: t33 :: t34 :: t35 :: t36 :: t37 :: t38 :: t39 :: t40 :: t41 :: t42 :: t43 :: t44 :: t45 :: t46 :: t47 :: t48 :: t49 :: t50 :: t51 :: t52 :: t53 :: t54 :: t55 :: t56 :: t57 :: t58 :: t59 :: t60 :: t61 :: t62 :: t63 :: t64 :: t65 :: t66 :: t67 :: t68 :: t69 :: t70 :: t71 :: t72 :: t73 :: t74 :: t75 :: t76 :: t77 :: t78 :: t79 :: t80 :: t81 :: t82 :: t83 :: t84 :: t85 :: t86 :: t87 :: t88 :: t89 :: t90 :: t91 :: t92 :: t93 :: t94 :: t95 :: t96 :: t97 :: t98 :: t99 :: t100 :: t101 :: t102 :: t103 :: t104 :: t105 :: t106 :: t107 :: t108 :: t109 :: t110 :: t111 :: t112 :: t113 :: t114 :: t115 :: t116 :: t117 :: t118 :: t119 :: []) w := Eq.mp (by kernel_rfl) h

theorem leatlaw03_FrameReads_A2_r {K : KV} {b0 b1 t2 own3 r4 l5 at6 m7 to8 i9 i10 s11 is12 s13 is14 none15 t16 t17 t18 t19 t20 t21 t22 t23 t24 t25 t26 t27 t28 t29 t30 t31 t32 t33 t34 t35 t36 t37 t38 t39 t40 t41 t42 t43 t44 t45 t46 t47 t48 t49 t50 t51 t52 t53 t54 t55 t56 t57 t58 t59 t60 t61 t62 t63 t64 t65 t66 t67 t68 t69 t70 t71 t72 t73 t74 t75 t76 t77 t78 t79 t80 t81 t82 t83 t84 t85 t86 t87 t88 t89 t90 t91 t92 t93 t94 t95 t96 t97 t98 t99 t100 t101 t102 t103 t104 t105 t106 t107 t108 t109 t110 t111 t112 t113 t114 t115 t116 t117 t118 t119 : Value} {w : World}
    (h : un Try.prog UnOp.not is14 (fun t106 w =>
    gsel t106 true (fun k108 =>
    blt Try.prog Builtin.len #[22] 3 #[false] #[s13] (fun t109 w =>
    bin Try.prog BinOp.eql 3 false true t109 (Value.int IntKind.i64 0) (fun t110 w =>
    k108 [s13, t109, t110] w) w) w)
    (fun k => k [undef, undef, undef] w) (fun us108 w =>
    pick t106 (gd us108 2) (Value.bool false) (fun t111 w =>
    gsel t111 true (fun k113 =>
    call Try.prog 14 #[none15] (fun t114 w =>
    bin Try.prog BinOp.eql 3 false true t114 (Value.int IntKind.i64 0) (fun t115 w =>
    k113 [none15, t114, t115] w) w) w)
    (fun k => k [undef, undef, undef] w) (fun us113 w =>
    pick t111 (gd us113 2) (Value.bool false) (fun t116 w =>
    gsel t116 true (fun k118 =>
    call Try.prog 8 #[] (fun t118 w =>
    k118 [t118] w) w)
    (fun k => k [undef] w) (fun us118 w =>
    pick t116 (gd us118 0) (Value.bool false) (fun t119 w =>
    K t119 w) w)) w)) w)) w) :
    leatlaw03_FrameReads_A2 K (b0 :: b1 :: t2 :: own3 :: r4 :: l5 :: at6 :: m7 :: to8 :: i9 :: i10 :: s11 :: is12 :: s13 :: is14 :: none15 :: t16 :: t17 :: t18 :: t19 :: t20 :: t21 :: t22 :: t23 :: t24 :: t25 :: t26 :: t27 :: t28 :: t29 :: t30 :: t31 :: t32 :: t33 :: t34 :: t35 :: t36 :: t37 :: t38 :: t39 :: t40 :: t41 :: t42 :: t43 :: t44 :: t45 :: t46 :: t47 :: t48 :: t49 :: t50 :: t51 :: t52 :: t53 :: t54 :: t55 :: t56 :: t57 :: t58 :: t59 :: t60 :: t61 :: t62 :: t63 :: t64 :: t65 :: t66 :: t67 :: t68 :: t69 :: t70 :: t71 :: t72 :: t73 :: t74 :: t75 :: t76 :: t77 :: t78 :: t79 :: t80 :: t81 :: t82 :: t83 :: t84 :: t85 :: t86 :: t87 :: t88 :: t89 :: t90 :: t91 :: t92 :: t93 :: t94 :: t95 :: t96 :: t97 :: t98 :: t99 :: t100 :: t101 :: t102 :: t103 :: t104 :: t105 :: t106 :: t107 :: t108 :: t109 :: t110 :: t111 :: t112 :: t113 :: t114 :: t115 :: t116 :: t117 :: t118 :: t119 :: []) w := by
  delta leatlaw03_FrameReads_A2
  exact Eq.mp (congrArg (fun c => cCode Try.prog c (retK Try.prog Try.f3.results.toList K) (fun _ _ _ => False) (retK Try.prog Try.f3.results.toList K) (b0 :: b1 :: t2 :: own3 :: r4 :: l5 :: at6 :: m7 :: to8 :: i9 :: i10 :: s11 :: is12 :: s13 :: is14 :: none15 :: t16 :: t17 :: t18 :: t19 :: t20 :: t21 :: t22 :: t23 :: t24 :: t25 :: t26 :: t27 :: t28 :: t29 :: t30 :: t31 :: t32 :: t33 :: t34 :: t35 :: t36 :: t37 :: t38 :: t39 :: t40 :: t41 :: t42 :: t43 :: t44 :: t45 :: t46 :: t47 :: t48 :: t49 :: t50 :: t51 :: t52 :: t53 :: t54 :: t55 :: t56 :: t57 :: t58 :: t59 :: t60 :: t61 :: t62 :: t63 :: t64 :: t65 :: t66 :: t67 :: t68 :: t69 :: t70 :: t71 :: t72 :: t73 :: t74 :: t75 :: t76 :: t77 :: t78 :: t79 :: t80 :: t81 :: t82 :: t83 :: t84 :: t85 :: t86 :: t87 :: t88 :: t89 :: t90 :: t91 :: t92 :: t93 :: t94 :: t95 :: t96 :: t97 :: t98 :: t99 :: t100 :: t101 :: t102 :: t103 :: t104 :: t105 :: t106 :: t107 :: t108 :: t109 :: t110 :: t111 :: t112 :: t113 :: t114 :: t115 :: t116 :: t117 :: t118 :: t119 :: []) w) (by kernel_rfl : (cd Try.f3 [1, 1, 1, 1, 1, 1, 1, 1, 1, 1, 1, 1, 1, 1]) = (cd Try.f3 [1, 1, 1, 1, 1, 1, 1, 1, 1, 1, 1, 1, 1, 1]))) (leatlaw03_FrameReads_A2_k h)
attribute [irreducible] leatlaw03_FrameReads_A1 leatlaw03_FrameReads_P1 leatlaw03_FrameReads_L1 leatlaw03_FrameReads_P2 leatlaw03_FrameReads_L2 leatlaw03_FrameReads_A2

end Go.Proofs.Ytccllogpakmjcaa
