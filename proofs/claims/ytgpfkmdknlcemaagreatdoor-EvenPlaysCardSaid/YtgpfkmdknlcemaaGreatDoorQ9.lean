/- Laid together: LGo LGp LGq SR11w LGr LGs LGt LGu LGv LGw LGx LGy. -/
import Derived.Test.YtgpfkmdknlcemaaGreatDoorQ8
import Derived.Test.YtgpfkmdknlcemaaGreatDoorQ2
namespace Go.Proofs.YtgpfkmdknlcemaaGreatDoor
set_option maxRecDepth 100000
open Go.RowKit
theorem Ij {e:EV} (h:io e=true):0≤e.a∧e.a≤1125899906842624:=by
 unfold io at h
 simp only [Bool.and_eq_true,decide_eq_true_eq] at h
 obtain ⟨_,_,_,_,_,h1,h2⟩:=h
 unfold fdE at h2
 have ha : ¬ (e.k=1∨e.k=2∨e.k=3∨e.k=5)→e.a=0:=fun hk=>by
  have:=congrArg EV.a h1
  unfold jy at this
  simp only at this
  rw [if_neg hk] at this
  exact this
 by_cases k1:e.k=1
 ·rw [if_pos k1] at h2; simp only [Bool.and_eq_true,decide_eq_true_eq] at h2; omega
 rw [if_neg k1] at h2
 by_cases k2:e.k=2
 ·rw [if_pos k2] at h2; unfold smE at h2; simp only [Bool.and_eq_true,decide_eq_true_eq] at h2; omega
 rw [if_neg k2] at h2
 by_cases k3:e.k=3
 ·rw [if_pos k3] at h2; unfold smE at h2; simp only [Bool.and_eq_true,decide_eq_true_eq] at h2; omega
 rw [if_neg k3] at h2
 by_cases k4:e.k=4
 ·have:=ha (by omega); omega
 rw [if_neg k4] at h2
 by_cases k5:e.k=5
 ·rw [if_pos k5] at h2; unfold smE at h2; simp only [Bool.and_eq_true,decide_eq_true_eq] at h2; omega
 ·have:=ha (by omega); omega
theorem Ik {e:EV} (h:io e=true) (hk:e.k=6):1≤e.t∧e.t≤6:=by
 unfold io at h
 simp only [Bool.and_eq_true,decide_eq_true_eq] at h
 obtain ⟨_,_,_,_,_,h1,h2⟩:=h
 unfold fdE at h2
 rw [if_neg (by omega),if_neg (by omega),if_neg (by omega),if_neg (by omega),if_neg (by omega),if_pos hk] at h2
 unfold otE f6 at h2
 simp only [Bool.and_eq_true,decide_eq_true_eq] at h2
 exact h2.1
theorem Do {A:List Int} {i j x:Int} (h:A.length=54):((lC A i j x).1).length=54:=by
 unfold lC
 split
 ·rfl
 split
 ·rfl
 split
 ·rfl
 split
 ·rfl
 unfold tx
 split
 ·rfl
 ·simp [h]
attribute [local irreducible] bin un conv call bl blt slc aa fld af idx lkp bL bP eSt rng nxt ent ext alc box bld aJ ld sto aj bm mkS ifc pick rdy wts au sti cond aH Gives ac aW bA cOp
section
variable {w:World} {K:KV} {B p:Nat} {l:LG}
theorem LM.setI {w':World} {k:Nat} {b:Bool} (h:LM w B p l) (hk:k < 6) (hcl:blk w' p 79 ((lgC l).set k (.bool b))) (o:Oth p w w'):LM w' B p { l with s := { l.s with I:=l.s.I.set k b } } :=
 have kp:Keep [79] B w w':=o.keep h.cl (by simp) h.lo
 { h with
  i6:=by show (l.s.I.set k b).length=6; rw [List.length_set]; exact h.i6
  cl:=by rw [← zt h.i6 h.l6 h.v6 hk]; exact hcl
  nd:=bO h.nd kp (by decide)
  gr:=bO h.gr kp (by decide)
  tm:=h.tm.keep kp (by decide) (by decide)
  rq:=fun k hk' => (h.rq k hk').imp fun a=>Exists.imp fun c hh=>⟨hh.1,bO hh.2 kp (by decide)⟩ }
theorem LM.setL {w':World} {k:Nat} {b:Bool} (h:LM w B p l) (hk:k < 6) (hcl:blk w' p 79 ((lgC l).set (6+k) (.bool b))) (o:Oth p w w'):LM w' B p { l with s := { l.s with L:=l.s.L.set k b } } :=
 have kp:Keep [79] B w w':=o.keep h.cl (by simp) h.lo
 { h with
  l6:=by show (l.s.L.set k b).length=6; rw [List.length_set]; exact h.l6
  cl:=by rw [← Fh h.i6 h.l6 h.v6 hk]; exact hcl
  nd:=bO h.nd kp (by decide)
  gr:=bO h.gr kp (by decide)
  tm:=h.tm.keep kp (by decide) (by decide)
  rq:=fun k hk' => (h.rq k hk').imp fun a=>Exists.imp fun c hh=>⟨hh.1,bO hh.2 kp (by decide)⟩ }
theorem LM.setV {w':World} {k:Nat} {x:Int} (h:LM w B p l) (hk:k < 6) (hcl:blk w' p 79 ((lgC l).set (12+k) (u6 x))) (o:Oth p w w'):LM w' B p { l with s := { l.s with V:=l.s.V.set k x } } :=
 have kp:Keep [79] B w w':=o.keep h.cl (by simp) h.lo
 { h with
  v6:=by show (l.s.V.set k x).length=6; rw [List.length_set]; exact h.v6
  cl:=by rw [← Fi h.i6 h.l6 h.v6 hk]; exact hcl
  nd:=bO h.nd kp (by decide)
  gr:=bO h.gr kp (by decide)
  tm:=h.tm.keep kp (by decide) (by decide)
  rq:=fun k hk' => (h.rq k hk').imp fun a=>Exists.imp fun c hh=>⟨hh.1,bO hh.2 kp (by decide)⟩ }
theorem Jq {i g o q:Nat} {x:ND} {v:Int} {cur:List Value} (hl:LM w B p l) (hx:l.s.nodes[i]? = some x) (hq:q < 54) (op:Opn w B 38 56 l.s.nodes.length l.s.nc g cur (l.s.nodes.flatMap ndE)) (ha:l.s.na=some ⟨g,0,none⟩) (ho:o=i * 56+(2+q))
  (h:∀ w',LM w' B p (pS l i { x with A:=x.A.set q v })→Oth g w w'→K undef w'):sto Tryz.prog 2 (.pointer (some ⟨g,o,none⟩)) (iv v) K w:=by
 have hi:i < l.s.nodes.length:=(List.getElem?_eq_some_iff.1 hx).1
 have h1:(i+1) * 56≤l.s.nodes.length * 56:=Nat.mul_le_mul_right _ hi
 have h2:l.s.nodes.length * 56≤l.s.nc * 56:=Nat.mul_le_mul_right _ op.nc
 rw [Nat.succ_mul] at h1
 have hcl:=op.len
 have hxA:=hl.A54 x (List.mem_of_getElem? hx)
 subst ho
 refine eD (fun _=>by kernel_rfl) op.blk (by omega) rfl fun w' hb o' => ?_
 have hset:=op.set1 (x' := { x with A:=x.A.set q v }) cZ rfl hx (show 2+q < 56 by omega) (Bg hxA hq v) hb
 have hk:Keep mB B w w':=o'.keep op.blk (by simp) op.lo
 have hlen:(l.s.nodes.set i { x with A:=x.A.set q v }).length=l.s.nodes.length:=List.length_set ..
 refine h w' (hl.nodes' (N:=l.s.nodes.set i { x with A:=x.A.set q v }) (a:=l.s.na) (c:=l.s.nc) hk (by decide) (by decide) (by decide) (by decide) ?_ ?_ ?_) o'
 ·rw [← pU hl.i6 hl.l6 hl.v6,hlen]
  have:(lgC l).set 18 (.slice l.s.na l.s.nodes.length l.s.nc)=lgC l:=by
   have:=hl.cN
   obtain ⟨hh,he⟩:=List.getElem?_eq_some_iff.1 this
   conv=>lhs; rw [← he]
   exact List.set_getElem_self hh
  rw [this]
  exact o'.blk hl.cl (fun hh=>hl.cl.ne op.blk (by decide) hh)
 ·rw [hlen,ha]
  exact Opn.own hset
 ·intro y hy
  rcases List.mem_or_eq_of_mem_set hy with hh | hh
  ·exact hl.A54 y hh
  ·rw [hh]; show (x.A.set q v).length=54; rw [List.length_set]; exact hxA
end
end Go.Proofs.YtgpfkmdknlcemaaGreatDoor
namespace Go.Proofs.YtgpfkmdknlcemaaGreatDoor
set_option maxRecDepth 100000
open Go.RowKit
attribute [local irreducible] bin un conv call bl blt slc aa fld af idx lkp bL bP eSt rng nxt ent ext alc box bld aJ ld sto aj bm mkS ifc pick rdy wts au sti cond aH Gives ac aW bA cOp
section
variable {w:World} {K:KV} {B p:Nat} {l:LG}
theorem Bd {l0 e1 l2 e3 t4 k_5 k_6 r7 f8 t9 t10 t11 t12 t13 t14 t15 t16 t17 t18 t19 t20 t21 t22 t23 t24 t25 t26 t27 t28 t29 t30 t31 t32 t33 t34 t35 t36 t37 t38 t39 t40 t41 t42 t43 t44 t45 t46 t47 t48 t49 t50 t51 t52 t53 t54 t55 t56 t57 t58 t59 t60 t61 t62 t63 t64 t65 t66 t67 t68 t69 t70 t71 t72 t73 t74 t75 t76 t77 t78 t79 t80 t81 t82 t83 t84 t85 t86 t87 t88 t89 t90 t91 t92 t93 t94 t95 t96 t97 t98 t99 t100 t101 t102 t103 t104 t105 t106 t107 t108 t109 t110 t111 t112 t113 t114 t115 t116 t117 t118 t119 t120 t121 t122 t123 t124 t125 t126 t127 t128 t129 t130 t131 t132 t133 t134 t135 t136 t137 t138 t139 t140 t141 t142 t143 t144 t145 t146 t147 t148 t149 t150 t151:Value} {m i rb:Nat} {x:ND} {A':List Int} {f:Int} (hl:LM w B p l) (hg:GI l m) (hB:B≤w.heap.size) (hx:l.s.nodes[i]? = some x) (hA':A'.length=54) (hr:blk w rb 36 (A'.map iv))
  (q0:l0=.pointer (some ⟨p,0,none⟩)) (q6:k_6=.int .i64 (i:Nat)) (q7:r7=.pointer (some ⟨rb,0,none⟩)) (q8:f8=.int .i64 f)
  (bad:∀ w' (v:Int),v≠0→Below B w w'→K (.int .i64 v) w') (good:∀ w' l',LM w' B p l'→GI l' (m+1)→l'.s.V=l.s.V→Below B w w'→K (.int .i64 0) w'):da K ((l0::e1::l2::e3::t4::k_5::k_6::r7::f8::t9::t10::t11::t12::t13::t14::t15::t16::t17::t18::t19::t20::t21::t22::t23::t24::t25::t26::t27::t28::t29::t30::t31::t32::t33::t34::t35::t36::t37::t38::t39::t40::t41::t42::t43::t44::t45::t46::t47::t48::t49::t50::t51::t52::t53::t54::t55::t56::t57::t58::t59::t60::t61::t62::t63::t64::t65::t66::t67::t68::t69::t70::t71::t72::t73::t74::t75::t76::t77::t78::t79::t80::t81::t82::t83::t84::t85::t86::t87::t88::t89::t90::t91::t92::t93::t94::t95::t96::t97::t98::t99::t100::t101::t102::t103::t104::t105::t106::t107::t108::t109::t110::t111::t112::t113::t114::t115::t116::t117::t118::t119::t120::t121::t122::t123::t124::t125::t126::t127::t128::t129::t130::t131::t132::t133::t134::t135::t136::t137::t138::t139::t140::t141::t142::t143::t144::t145::t146::t147::t148::t149::t150::t151::[])) w:=by
 subst q0 q6 q7 q8
 refine mJ ?_
 refine dn ?_
 by_cases hf:f≠0
 ·exact ai hf (bad w f hf (Below.refl _ _))
 refine ag hf ?_
 have hl:=hl.drew
 have hr:=hr.drew
 have hi:i < l.s.nodes.length:=(List.getElem?_eq_some_iff.1 hx).1
 obtain ⟨g,cur,ha,op⟩:=aZ hl.nd (by omega)
 refine a8 (fun _=>ak) ?_
 refine a8 (fun _=>aA) ?_
 refine a8 (fun _=>aU) ?_
 refine a8 (v:=.slice l.s.na l.s.nodes.length l.s.nc) (fun _=>ld1 (fun _=>by kernel_rfl) hl.cl hl.cN) ?_
 refine a8 (v:=.agg (A'.map iv).toArray) (fun _=>ldA (n:=54) (vs:=A'.map iv) Tryz.underlying36 rfl (by kernel_rfl) hr (by rw [List.drop_zero,List.take_of_length_le (by simp [hA'])]) (by simp [hA'])) ?_
 refine a8 (v:=.pointer (some ⟨g,i * 56,none⟩)) (fun _=>gQ ha Tryz.underlying27 (fun _=>by kernel_rfl) hi) ?_
 refine a8 (fun _=>fP) ?_
 refine Ct hl hx hA' op ha rfl fun w' hl' o' => ?_
 refine dM ?_
 have hs:SL l (pS l i { x with A:=A' }):=(SL.refl l).set hx rfl
 exact good w' _ hl' ((hs.gi hg).mono (by omega)) rfl (bN (Below.refl _ w).drew o' op.lo)
set_option maxHeartbeats 4000000 in
theorem GZ {e:EV} {m:Nat} (hl:LM w B p l) (hg:GI l m) (hm:m≤900) (hB:B≤w.heap.size) (hmay:io e=true)
  (bad:∀ w' (v:Int),v≠0→Below B w w'→K (.int .i64 v) w') (good:∀ w' l',LM w' B p l'→GI l' (m+1)→l'.s.V=l.s.V→Below B w w'→K (.int .i64 0) w'):call Tryz.prog 55 #[.pointer (some ⟨p,0,none⟩),.agg (evC e).toArray] K w:=by
 obtain ⟨ho1,ho6,hs1,hs2⟩:=vW hmay
 have hea:=Ij hmay
 obtain ⟨q,hq⟩:∃ q:Nat,q=(e.o - 1).toNat:=⟨_,rfl⟩
 have hq6:q < 6:=by omega
 have hnn:=hg.nn
 refine aE nI (nH ?_)
 refine bh fun w1 he b1 s1 => ?_
 have he:blk w1 w.heap.size 54 (evC e):=by simpa [Value.cells] using he
 have hl1:=hl.fresh b1
 have B1:Below B w w1:=b1.mono hB
 have s1':B≤w1.heap.size:=Nat.le_trans hB B1.size
 have bad1:∀ w' (v:Int),v≠0→Below B w1 w'→K (.int .i64 v) w':=fun w' v hv b=>bad w' v hv (B1.trans b)
 have good1:∀ w' l',LM w' B p l'→GI l' (m+1)→l'.s.V=l.s.V→Below B w1 w'→K (.int .i64 0) w':=fun w' l' h1 h2 h3 b=>good w' l' h1 h2 h3 (B1.trans b)
 refine iU ?_
 refine ld1 (v:=kv8 e.k) (fun _=>by kernel_rfl) he rfl ?_
 refine mH ?_
 refine aN ?_
 by_cases k1:e.k=1
 ·refine ai k1 ?_
  refine ldA (n:=14) (vs:=evC e) Tryz.underlying54 rfl (by kernel_rfl) he rfl rfl ?_
  exact ES hl1 hg hm s1' ⟨ho1,ho6⟩ ⟨hs1,hs2⟩ bad1 good1
 refine ag k1 ?_
 refine aN ?_
 by_cases k2:e.k=2
 ·refine ai k2 ?_
  refine dU ?_
  refine ld1 (v:=u6 e.n) (fun _=>by kernel_rfl) he rfl ?_
  refine tq hl1 (by omega) ?_
  refine aD ?_
  by_cases hv:fdN l.s.nodes e.n < 0
  ·exact ai hv (bad1 w1 9 (by decide) (Below.refl _ _))
  refine ag hv ?_
  obtain ⟨i,hfd,hi⟩:∃ i:Nat,fdN l.s.nodes e.n=i∧i < l.s.nodes.length:=by
   unfold fdN at hv ⊢
   split at hv
   ·rename_i hh; exact ⟨posN l.s.nodes e.n,by rw [if_pos hh],hh⟩
   ·omega
  rw [hfd]
  have hl2:=hl1.drew
  have he2:=he.drew
  have hx:l.s.nodes[i]? = some l.s.nodes[i]:=List.getElem?_eq_getElem hi
  generalize l.s.nodes[i]=x at hx
  have hxA:=hl1.A54 x (List.mem_of_getElem? hx)
  obtain ⟨g,cur,ha,op⟩:=aZ hl2.nd (by omega)
  have hcq:cur[i * 56+2+0+q]? = some (iv (nA x.A q)):=by
   have:=op.cell cZ rfl hx (show 2+q < 56 by omega)
   rw [show i * 56+2+0+q=i * 56+(2+q) by omega,this,vx hxA]
   unfold ndC
   rw [show 2+q=(q+1)+1 by omega,List.getElem?_cons_succ,List.getElem?_cons_succ]
   exact pn (by omega)
  refine a8 (fun _=>ak) ?_
  refine a8 (fun _=>aA) ?_
  refine a8 (fun _=>aU) ?_
  refine a8 (v:=.slice l.s.na l.s.nodes.length l.s.nc) (fun _=>ld1 (fun _=>by kernel_rfl) hl2.cl hl2.cN) ?_
  refine a8 (fun _=>cC) ?_
  refine a8 (v:=iv e.o) (fun _=>ld1 (fun _=>by kernel_rfl) he2 rfl) ?_
  refine a8 (v:=.int .i64 ((q:Nat):Int)) (fun K hK=>bo (by omega) (by omega) (by rw [show (e.o - 1)=(q:Nat) by omega]; exact hK)) ?_
  refine a8 (v:=.pointer (some ⟨g,i * 56,none⟩)) (fun _=>gQ ha Tryz.underlying27 (fun _=>by kernel_rfl) hi) ?_
  refine a8 (fun _=>fP) ?_
  refine a8 (fun _=>qm) ?_
  refine a8 (fun _=>ixR rfl hq6) ?_
  refine a8 (v:=iv (nA x.A q)) (fun _=>ld1 (fun _=>by kernel_rfl) op.blk hcq) ?_
  refine a8 (fun _=>cS) ?_
  refine a8 (v:=iv e.a) (fun _=>ld1 (fun _=>by kernel_rfl) he2 rfl) ?_
  refine a8 (fun _=>fC) ?_
  refine a8 (fun _=>cD) ?_
  refine kw (fun hd => ?_) (fun hd => ?_)
  ·exact bad1 _ 6 (by decide) (Below.refl _ w1).drew
  have hl3:=hl2.drew
  have he3:=he2.drew
  have op3:Opn w1.drew.drew B 38 56 l.s.nodes.length l.s.nc g cur (l.s.nodes.flatMap ndE):=⟨op.blk,op.lo,op.nc,op.cm,op.len,op.take,op.xl⟩
  refine a8 (fun _=>ak) ?_
  refine a8 (fun _=>aA) ?_
  refine a8 (fun _=>aU) ?_
  refine a8 (v:=.slice l.s.na l.s.nodes.length l.s.nc) (fun _=>ld1 (fun _=>by kernel_rfl) hl3.cl hl3.cN) ?_
  refine a8 (fun _=>cC) ?_
  refine a8 (v:=iv e.o) (fun _=>ld1 (fun _=>by kernel_rfl) he3 rfl) ?_
  refine a8 (v:=.int .i64 ((q:Nat):Int)) (fun K hK=>bo (by omega) (by omega) (by rw [show (e.o - 1)=(q:Nat) by omega]; exact hK)) ?_
  refine a8 (v:=.pointer (some ⟨g,i * 56,none⟩)) (fun _=>gQ ha Tryz.underlying27 (fun _=>by kernel_rfl) hi) ?_
  refine a8 (fun _=>fP) ?_
  refine a8 (fun _=>qm) ?_
  refine a8 (fun _=>ixR rfl hq6) ?_
  refine a8 (v:=iv (nA x.A q)) (fun _=>ld1 (fun _=>by kernel_rfl) op3.blk hcq) ?_
  refine a8 (fun _=>cS) ?_
  refine a8 (v:=iv e.a) (fun _=>ld1 (fun _=>by kernel_rfl) he3 rfl) ?_
  refine a8 (fun _=>fC) ?_
  refine a8 (v:=.pointer (some ⟨g,i * 56,none⟩)) (fun _=>gQ ha Tryz.underlying27 (fun _=>by kernel_rfl) hi) ?_
  refine a8 (fun _=>fP) ?_
  refine a8 (fun _=>qm) ?_
  refine a8 (fun _=>ixR rfl hq6) ?_
  refine Jq (q:=q) hl3 hx (by omega) op3 ha (by omega) fun w' hl' o' => ?_
  refine dM ?_
  have hs:SL l _:=(SL.refl l).set (x' := { x with A:=x.A.set q (IntKind.i64.wrap (nA x.A q+e.a)) }) hx rfl
  exact good1 w' _ hl' ((hs.gi hg).mono (by omega)) rfl (bN (Below.refl _ w1).drew.drew o' op3.lo)
 refine ag k2 ?_
 refine aN ?_
 refine mI ?_
 by_cases k3:e.k=3
 ·refine ai k3 ?_
  refine ldA (n:=14) (vs:=evC e) Tryz.underlying54 rfl (by kernel_rfl) he rfl rfl ?_
  exact EY hl1 hg hm s1' ⟨ho1,ho6⟩ (by omega) bad1 good1
 refine ag k3 ?_
 refine aN ?_
 by_cases k4:e.k=4
 ·refine ai k4 ?_
  refine ldA (n:=14) (vs:=evC e) Tryz.underlying54 rfl (by kernel_rfl) he rfl rfl ?_
  exact Fc hl1 hg hm s1' ⟨ho1,ho6⟩ bad1 good1
 refine ag k4 ?_
 refine aN ?_
 by_cases k5:e.k=5
 ·refine ai k5 ?_
  refine dU ?_
  refine ld1 (v:=u6 e.n) (fun _=>by kernel_rfl) he rfl ?_
  refine tq hl1 (by omega) ?_
  refine aD ?_
  by_cases hv:fdN l.s.nodes e.n < 0
  ·exact ai hv (bad1 w1 9 (by decide) (Below.refl _ _))
  refine ag hv ?_
  obtain ⟨i,hfd,hi⟩:∃ i:Nat,fdN l.s.nodes e.n=i∧i < l.s.nodes.length:=by
   unfold fdN at hv ⊢
   split at hv
   ·rename_i hh; exact ⟨posN l.s.nodes e.n,by rw [if_pos hh],hh⟩
   ·omega
  rw [hfd]
  have hl2:=hl1.drew
  have he2:=he.drew
  have bad2:∀ (v:Int),v≠0→K (.int .i64 v) w1.drew:=fun v hv=>bad1 _ v hv (Below.refl _ w1).drew
  refine a8 (fun _=>fa) ?_
  refine a8 (v:=iv e.t) (fun _=>ld1 (fun _=>by kernel_rfl) he2 rfl) ?_
  refine a8 (fun _=>aD) ?_
  by_cases t1:e.t < 1
  ·refine de t1 ?_
   refine a8 (fun _=>bp t1) ?_
   refine d8 ?_
   refine a8 (fun _=>bI) ?_
   exact aR (bad2 10 (by decide))
  refine cE t1 ?_
  refine a8 (fun _=>fa) ?_
  refine a8 (v:=iv e.t) (fun _=>ld1 (fun _=>by kernel_rfl) he2 rfl) ?_
  refine a8 (fun _=>cD) ?_
  refine a8 (fun _=>bt t1) ?_
  by_cases t2:6 < e.t
  ·refine de t2 ?_
   refine a8 (fun _=>bp t2) ?_
   exact aR (bad2 10 (by decide))
  refine cE t2 ?_
  obtain ⟨u,hu⟩:∃ u:Nat,u=(e.t - 1).toNat:=⟨_,rfl⟩
  have hu6:u < 6:=by omega
  refine a8 (fun _=>fa) ?_
  refine a8 (v:=iv e.t) (fun _=>ld1 (fun _=>by kernel_rfl) he2 rfl) ?_
  refine a8 (v:=.int .i64 ((u:Nat):Int)) (fun K hK=>bo (by omega) (by omega) (by rw [show (e.t - 1)=(u:Nat) by omega]; exact hK)) ?_
  refine a8 (fun _=>ak) ?_
  refine a8 (fun _=>aA) ?_
  refine a8 (fun _=>kX) ?_
  refine a8 (fun _=>ixB rfl hu6) ?_
  refine a8 (v:=.bool (l.s.I.getD u false)) (fun _=>ld1 (fun _=>by kernel_rfl) hl2.cl (by rw [show 0+0+0+u=u by omega]; exact hl2.cI hu6)) ?_
  refine a8 (fun _=>cU) ?_
  refine a8 (fun _=>bt t2) ?_
  refine kw (fun hd => ?_) (fun hd => ?_)
  ·exact bad2 10 (by decide)
  have hl2:=hl2.drew
  have he2:=he2.drew
  have hx:l.s.nodes[i]? = some l.s.nodes[i]:=List.getElem?_eq_getElem hi
  generalize l.s.nodes[i]=x at hx
  have hxA:=hl1.A54 x (List.mem_of_getElem? hx)
  obtain ⟨gn,cn,han,opn⟩:=aZ hl2.nd (by omega)
  have hcut:(cn.drop (i * 56+2)).take 54=x.A.map iv:=by
   have:=opn.elem cZ rfl hx
   rw [← List.drop_drop]
   have h3:((cn.drop (i * 56)).take 56).drop 2=((cn.drop (i * 56)).drop 2).take 54:=by rw [List.drop_take]
   rw [← h3,this]
   unfold ndE
   rw [rV hxA]
   rfl
  refine aC (fun z=>blk z p 79 (lgC l)∧blk z gn 38 cn∧blk z w.heap.size 54 (evC e)) ⟨hl2.cl,opn.blk,he2⟩ ?_
  refine ab (fun z hz _=>ak) ?_
  refine ab (fun z hz _=>aA) ?_
  refine ab (fun z hz _=>aU) ?_
  refine ab (v:=.slice l.s.na l.s.nodes.length l.s.nc) (fun z hz _=>ld1 (fun _=>by kernel_rfl) hz.1 hl2.cN) ?_
  refine ab (v:=.pointer (some ⟨gn,i * 56,none⟩)) (fun z hz _=>gQ han Tryz.underlying27 (fun _=>by kernel_rfl) hi) ?_
  refine ab (fun z hz _=>fP) ?_
  refine ab (v:=.agg (x.A.map iv).toArray) (fun z hz _=>ldA (n:=54) (vs:=x.A.map iv) Tryz.underlying36 rfl (by kernel_rfl) hz.2.1 hcut (by simp [hxA])) ?_
  refine ab (fun z hz _=>cC) ?_
  refine ab (v:=iv e.o) (fun z hz _=>ld1 (fun _=>by kernel_rfl) hz.2.2 rfl) ?_
  refine ab (fun z hz _=>fa) ?_
  refine ab (v:=iv e.t) (fun z hz _=>ld1 (fun _=>by kernel_rfl) hz.2.2 rfl) ?_
  refine ab (fun z hz _=>cS) ?_
  refine ab (v:=iv e.a) (fun z hz _=>ld1 (fun _=>by kernel_rfl) hz.2.2 rfl) ?_
  have hAl:((lC x.A e.o e.t e.a).1).length=54:=Do hxA
  have D2:Below B w1 w1.drew.drew:=(Below.refl _ w1).drew.drew
  refine ⟨?_, ?_⟩
  ·refine zN hxA (by omega) fun w3 b3 => ?_
   refine aC (fun _=>True) trivial ?_
   refine ab (fun z hz _=>fy) ?_
   refine ab (fun z hz _=>fz) ?_
   refine cH (z:=.agg (z54.map iv).toArray) (by kernel_rfl) fun w4 h4 b4 s4 => ?_
   have h4:blk w4 w3.heap.size 36 (z54.map iv):=by simpa [Value.cells] using h4
   refine bn trivial ?_
   refine eM (n:=54) (vs:=(lC x.A e.o e.t e.a).1.map iv) (by kernel_rfl) (by simp [hAl]) h4 (by show 0+54≤54; omega) (nj _) fun w5 h5 o5 => ?_
   refine bn trivial ?_
   have hh5:blk w5 w3.heap.size 36 ((lC x.A e.o e.t e.a).1.map iv):=by
    rw [List.take_zero,List.nil_append,List.drop_of_length_le (by show 54≤0+54; omega),List.append_nil] at h5
    exact h5
   have B5:Below w1.drew.drew.heap.size w1.drew.drew w5:=b3.trans (bN (b4.mono b3.size) o5 b3.size)
   have B5':Below B w1 w5:=D2.trans (B5.mono s1')
   exact Bd (hl2.fresh B5) hg (Nat.le_trans s1' B5'.size) hx hAl hh5 rfl rfl rfl rfl (fun w' v hv b=>bad1 w' v hv (B5'.trans b)) (fun w' l' h1 h2 h3 b=>good1 w' l' h1 h2 h3 (B5'.trans b))
  ·refine cH (z:=.agg (z54.map iv).toArray) (by kernel_rfl) fun w3 h3 b3 s3 => ?_
   have h3:blk w3 w1.drew.drew.heap.size 36 (z54.map iv):=by simpa [Value.cells] using h3
   refine bn ⟨ae b3 hl2.cl hl2.cl.lt,ae b3 opn.blk opn.blk.lt,ae b3 he2 he2.lt⟩ ?_
   refine zN hxA (by omega) fun w4 b4 => ?_
   have h4:=ae b4 h3 h3.lt
   refine aC (fun _=>True) trivial ?_
   refine ab (fun z hz _=>fy) ?_
   refine ab (fun z hz _=>fz) ?_
   refine eM (n:=54) (vs:=(lC x.A e.o e.t e.a).1.map iv) (by kernel_rfl) (by simp [hAl]) h4 (by show 0+54≤54; omega) (nj _) fun w5 h5 o5 => ?_
   refine bn trivial ?_
   have hh5:blk w5 w1.drew.drew.heap.size 36 ((lC x.A e.o e.t e.a).1.map iv):=by
    rw [List.take_zero,List.nil_append,List.drop_of_length_le (by show 54≤0+54; omega),List.append_nil] at h5
    exact h5
   have B5:Below w1.drew.drew.heap.size w1.drew.drew w5:=bN (b3.trans (b4.mono b3.size)) o5 (Nat.le_refl _)
   have B5':Below B w1 w5:=D2.trans (B5.mono s1')
   exact Bd (hl2.fresh B5) hg (Nat.le_trans s1' B5'.size) hx hAl hh5 rfl rfl rfl rfl (fun w' v hv b=>bad1 w' v hv (B5'.trans b)) (fun w' l' h1 h2 h3 b=>good1 w' l' h1 h2 h3 (B5'.trans b))
 refine ag k5 ?_
 refine aN ?_
 refine mK ?_
 have hl2:=hl1.drew
 have he2:=he.drew
 have D1:Below B w1 w1.drew:=(Below.refl _ w1).drew
 have same:∀ (l':LG),l'.T=l.T→l'.s.nodes=l.s.nodes→l'.G=l.G→l'.R=l.R→l'.s.V=l.s.V→GI l' (m+1):=fun l' e1 e2 e3 e4 e5 =>
  GI.mono ⟨by rw [e1]; exact hg.tk,by rw [e1,e2]; exact hg.nt,by rw [e2]; exact hg.nn,by rw [e3]; exact hg.gn,by rw [e1]; exact hg.tn,by rw [e4]; exact hg.rn,by rw [e5]; exact hg.vb,by rw [e3]; exact hg.gr⟩ (Nat.le_succ m)
 by_cases k6:e.k=6
 ·refine ai k6 ?_
  obtain ⟨t1,t2⟩:=Ik hmay k6
  obtain ⟨u,hu⟩:∃ u:Nat,u=(e.t - 1).toNat:=⟨_,rfl⟩
  have hu6:u < 6:=by omega
  refine a8 (fun _=>fa) ?_
  refine a8 (v:=iv e.t) (fun _=>ld1 (fun _=>by kernel_rfl) he2 rfl) ?_
  refine a8 (v:=.int .i64 ((u:Nat):Int)) (fun K hK=>bo (by omega) (by omega) (by rw [show (e.t - 1)=(u:Nat) by omega]; exact hK)) ?_
  refine a8 (fun _=>ak) ?_
  refine a8 (fun _=>aA) ?_
  refine a8 (fun _=>kX) ?_
  refine a8 (fun _=>ixB rfl hu6) ?_
  refine eD (fun _=>by kernel_rfl) hl2.cl (by rw [hl2.ll]; omega) rfl fun w3 hc3 o3 => ?_
  rw [show 0+0+0+u=u by omega] at hc3
  refine dM ?_
  exact good1 w3 _ (hl2.setI hu6 hc3 o3) (same _ rfl rfl rfl rfl rfl) rfl (bN D1 o3 hl2.lo)
 refine ag k6 ?_
 refine aN ?_
 by_cases k7:e.k=7
 ·refine ai k7 ?_
  refine a8 (fun _=>cC) ?_
  refine a8 (v:=iv e.o) (fun _=>ld1 (fun _=>by kernel_rfl) he2 rfl) ?_
  refine a8 (v:=.int .i64 ((q:Nat):Int)) (fun K hK=>bo (by omega) (by omega) (by rw [show (e.o - 1)=(q:Nat) by omega]; exact hK)) ?_
  refine a8 (fun _=>ak) ?_
  refine a8 (fun _=>aA) ?_
  refine a8 (fun _=>pX) ?_
  refine a8 (fun _=>ixB rfl hq6) ?_
  refine eD (fun _=>by kernel_rfl) hl2.cl (by rw [hl2.ll]; omega) rfl fun w3 hc3 o3 => ?_
  rw [show 0+0+6+q=6+q by omega] at hc3
  refine dM ?_
  exact good1 w3 _ (hl2.setL hq6 hc3 o3) (same _ rfl rfl rfl rfl rfl) rfl (bN D1 o3 hl2.lo)
 refine ag k7 ?_
 refine dM ?_
 exact good1 w1 l hl1 (hg.mono (by omega)) rfl (Below.refl _ _)
end
end Go.Proofs.YtgpfkmdknlcemaaGreatDoor
namespace Go.Proofs.YtgpfkmdknlcemaaGreatDoor
set_option maxRecDepth 100000
open Go.RowKit
def sV (V:List Int):Nat:=(V.getD 0 0+V.getD 1 0+V.getD 2 0+V.getD 3 0+V.getD 4 0+V.getD 5 0).toNat
theorem Il {V:List Int} (h:V.length=6) (h0:∀ k,k < 6→0≤V.getD k 0) {k:Nat} (hk:k < 6):sV (V.set k (V.getD k 0+1))=sV V+1:=by
 obtain ⟨a,b,c,d,e,f,rfl⟩:=pV h
 have p0:=h0 0 (by omega)
 have p1:=h0 1 (by omega)
 have p2:=h0 2 (by omega)
 have p3:=h0 3 (by omega)
 have p4:=h0 4 (by omega)
 have p5:=h0 5 (by omega)
 simp only [List.getD_cons_zero,List.getD_cons_succ] at p0 p1 p2 p3 p4 p5
 match k,hk with
 | 0,_=>simp [sV]; omega
 | 1,_=>simp [sV]; omega
 | 2,_=>simp [sV]; omega
 | 3,_=>simp [sV]; omega
 | 4,_=>simp [sV]; omega
 | 5,_=>simp [sV]; omega
def apV (V V':List Int) (e:EV) (f:Int):Prop:=(f≠0∧V'=V)∨(f=0∧1≤e.o∧e.o≤6∧e.s=V.getD (e.o - 1).toNat 0+1∧V'=V.set (e.o - 1).toNat e.s)
attribute [local irreducible] bin un conv call bl blt slc aa fld af idx lkp bL bP eSt rng nxt ent ext alc box bld aJ ld sto aj bm mkS ifc pick rdy wts au sti cond aH Gives ac aW bA cOp
section
variable {w:World} {K:KV} {B p:Nat} {l:LG}
set_option maxHeartbeats 4000000 in
theorem zk {e:EV} (hl:LM w B p l) (hg:GI l (sV l.s.V)) (hm:sV l.s.V≤900)
  (h:∀ w' B' p' l' (f:Int),LM w' B' p' l'→GI l' (sV l'.s.V)→apV l.s.V l'.s.V e f→Below w.heap.size w w'→K (.tuple #[.pointer (some ⟨p',0,none⟩),.int .i64 f]) w'):call Tryz.prog 36 #[.pointer (some ⟨p,0,none⟩),.agg (evC e).toArray] K w:=by
 refine aE mS (mR ?_)
 refine bh fun w1 he b1 s1 => ?_
 have he:blk w1 w.heap.size 54 (evC e):=by simpa [Value.cells] using he
 have hl1:=hl.fresh b1
 have no:∀ w' (f:Int),f≠0→Below w.heap.size w w'→K (.tuple #[.pointer (some ⟨p,0,none⟩),.int .i64 f]) w':=fun w' f hf b=>h w' B p l f (hl.fresh b) hg (.inl ⟨hf,rfl⟩) b
 refine ldA (n:=14) (vs:=evC e) Tryz.underlying54 rfl (by kernel_rfl) he rfl rfl <|CI fun w2 b2 => ?_
 have B2:Below w.heap.size w w2:=b1.trans (b2.mono b1.size)
 have he2:=ae b2 he he.lt
 have hl2:=hl.fresh B2
 refine cU ?_
 cases hmay:io e with
 | false=>exact aR (no w2 1 (by decide) B2)
 | true =>
 refine cW ?_
 obtain ⟨ho1,ho6,hs1,hs2⟩:=vW hmay
 obtain ⟨q,hq⟩:∃ q:Nat,q=(e.o - 1).toNat:=⟨_,rfl⟩
 have hq6:q < 6:=by omega
 refine aC (fun y=>blk y p 79 (lgC l)∧blk y w.heap.size 54 (evC e)) ⟨hl2.cl.drew,he2.drew⟩ <|ab (fun y hy _=>ak) <|ab (fun y hy _=>aA) <|ab (fun y hy _=>iK) <|ab (v:=.agg (l.s.V.map u6).toArray) (fun y hy _=>ldA (n:=6) (vs:=l.s.V.map u6) Tryz.underlying26 rfl (by kernel_rfl) hy.1 hl2.cutV (by simp [hl2.v6])) <|ab (v:=.agg (evC e).toArray) (fun y hy _=>ldA (n:=14) (vs:=evC e) Tryz.underlying54 rfl (by kernel_rfl) hy.2 rfl rfl) <|IF hl2.v6 fun w3 b3 => ?_
 have B3:Below w.heap.size w w3:=B2.drew.trans (b3.mono B2.size)
 have he3:=ae b3 he2.drew he2.drew.lt
 have hl3:=hl.fresh B3
 refine kw (fun hd => ?_) (fun hd => ?_)
 ·exact no w3 14 (by decide) B3
 refine aC (fun y=>blk y p 79 (lgC l)∧blk y w.heap.size 54 (evC e)) ⟨hl3.cl.drew,he3.drew⟩ <|ab (fun y hy _=>ak) <|ab (fun y hy _=>aA) <|ab (fun y hy _=>iK) <|ab (v:=.agg (l.s.V.map u6).toArray) (fun y hy _=>ldA (n:=6) (vs:=l.s.V.map u6) Tryz.underlying26 rfl (by kernel_rfl) hy.1 hl3.cutV (by simp [hl3.v6])) <|ab (v:=.agg (evC e).toArray) (fun y hy _=>ldA (n:=14) (vs:=evC e) Tryz.underlying54 rfl (by kernel_rfl) hy.2 rfl rfl) <|Hy hl3.v6 (fun k hk=>⟨(hg.vb k hk).1,by have:=(hg.vb k hk).2; omega⟩) fun w4 b4 => ?_
 have B4:Below w.heap.size w w4:=B3.drew.trans (b4.mono B3.size)
 have he4:=ae b4 he3.drew he3.drew.lt
 have hl4:=hl.fresh B4
 refine aC (fun _=>True) trivial <|ab (fun y hy _=>cU) ?_
 cases hrd:nO l.s.V e with
 | false=>exact aR (no w4 13 (by decide) B4)
 | true =>
 refine cW ?_
 have hseq:e.s=l.s.V.getD q 0+1:=by
  unfold nO at hrd
  simp only [Bool.and_eq_true,decide_eq_true_eq] at hrd
  rw [hq]; exact hrd.2.1
 refine cC <|ld1 (v:=iv e.o) (fun _=>by kernel_rfl) he4 rfl <|bo (by omega) (by omega) ?_
 have eq:e.o - 1=(q:Nat):=by omega
 rw [eq]
 refine lK <|ak <|aA <|kX <|ixB rfl hq6 <|ld1 (v:=.bool (l.s.I.getD q false)) (fun _=>by kernel_rfl) hl4.cl (by rw [show 0+0+0+q=q by omega]; exact hl4.cI hq6) <|cU ?_
 cases hI:l.s.I.getD q false with
 | false =>
  refine d8 <|bI ?_
  exact aR (no w4 10 (by decide) B4)
 | true =>
 refine jH <|ak <|aA <|pX <|ixB rfl hq6 <|ld1 (v:=.bool (l.s.L.getD q false)) (fun _=>by kernel_rfl) hl4.cl (by rw [show 0+0+6+q=6+q by omega]; exact hl4.cL hq6) <|fe ?_
 refine kw (fun hd => ?_) (fun hd => ?_)
 ·exact no w4 10 (by decide) B4
 refine Hi hl4 hg (by omega) fun w5 p5 l5 hl5 hg5 b5 eI eL eV => ?_
 have B5:Below w.heap.size w w5:=B4.trans (b5.mono B4.size)
 have he5:=ae b5 he4 he4.lt
 refine ldA (n:=14) (vs:=evC e) Tryz.underlying54 rfl (by kernel_rfl) he5 rfl rfl ?_
 refine GZ hl5 hg5 hm b5.size hmay (fun w6 v hv b6 => ?_) (fun w6 l6 hl6 hg6 eV6 b6 => ?_)
 ·refine iF <|dn <|ai hv ?_
  exact no w6 v hv (B5.trans (b6.mono B4.size))
 ·refine iF <|dn <|ag (by omega) ?_
  have hl6:=hl6.drew
  have B6:Below w.heap.size w w6.drew:=(B5.trans (b6.mono B4.size)).drew
  have hV6:l6.s.V.getD q 0=l.s.V.getD q 0:=by rw [eV6,eV]
  have hvb:=hg.vb q hq6
  refine a8 (fun _=>ak) <|a8 (fun _=>aA) <|a8 (fun _=>iK) <|a8 (fun _=>ixV rfl hq6) <|a8 (v:=u6 (l6.s.V.getD q 0)) (fun _=>ld1 (fun _=>by kernel_rfl) hl6.cl (by rw [show 0+0+12+q=12+q by omega]; exact hl6.cV hq6)) <|a8 (v:=u6 e.s) (fun K hK=>fC (by rw [kU,hV6, ← hseq,show e.s % 18446744073709551616=e.s by omega]; exact hK)) <|a8 (fun _=>ak) <|a8 (fun _=>aA) <|a8 (fun _=>iK) <|a8 (fun _=>ixV rfl hq6) ?_
  refine eD (fun _=>by kernel_rfl) hl6.cl (by rw [hl6.ll]; omega) rfl fun w7 hc7 o7 => ?_
  rw [show 0+0+12+q=12+q by omega] at hc7
  have hl7:=hl6.setV hq6 hc7 o7
  have eV7:l6.s.V=l.s.V:=eV6.trans eV
  have hsum:sV (l6.s.V.set q e.s)=sV l.s.V+1:=by
   rw [eV7,hseq]
   exact Il hl.v6 (fun k hk=>(hg.vb k hk).1) hq6
  refine h w7 _ p5 _ 0 hl7 ?_ ?_ (bN B6 o7 (Nat.le_trans B4.size hl6.lo))
  ·show GI _ (sV (l6.s.V.set q e.s))
   rw [hsum]
   refine ⟨hg6.tk,hg6.nt,hg6.nn,hg6.gn,hg6.tn,hg6.rn,fun k hk => ?_,hg6.gr⟩
   show 0≤(l6.s.V.set q e.s).getD k 0∧(l6.s.V.set q e.s).getD k 0 < 1099511627776
   rw [kR (by rw [hl6.v6]; exact hq6)]
   split
   ·omega
   ·exact hg6.vb k hk
  ·refine .inr ⟨rfl,ho1,ho6,by rw [← hq]; exact hseq, ?_⟩
   show l6.s.V.set q e.s=l.s.V.set (e.o - 1).toNat e.s
   rw [eV7,hq]
end
end Go.Proofs.YtgpfkmdknlcemaaGreatDoor
namespace Go.Proofs.YtgpfkmdknlcemaaGreatDoor
open Go.RowKit
set_option maxRecDepth 100000
def dc (K:KV):KE:=ac Q (cd Tryz.f18 [1,1,1]) (rk Tryz.f18 K) xf (rk Tryz.f18 K)
def gq (K:KV):KE:=ac Q (cd Tryz.f18 [1,1,0,1,0]) (dc K) (xx xf (dc K) 0) (rk Tryz.f18 K)
theorem p8 {K:KV} {n0:Value} {w:World}
  (h:bld Q 47 #[] (fun A3=>box Q 47 A3 fun A4=>gq K [n0,undef,Value.pointer none,A4,ci 0,undef,undef,A3,A4,undef,undef,undef,undef,undef,undef,undef,undef,undef,undef,undef,undef,undef,undef,undef,undef,undef,undef,undef,undef,undef]) w) :
  Gives Q 18 #[n0] w K:=by
 refine aK Tryz.func18 (by kernel_rfl) ?_
 revert h
 delta gq dc
 exact fun h=>Eq.mp (by kernel_rfl) h
theorem p9:bD Q 18:=⟨_,Tryz.func18,by kernel_rfl,by kernel_rfl⟩
theorem oo {K:KV} {n0 n1 A0 w_3 i4 l5 A2 A3 A4 A5 A6 A7 A8 A9 C0 C1 C2 C3 C4 C5 C6 C7 C8 C9 D0 D1 D2 D3 D4 D5:Value} {w:World} (Inv:Value→World→Prop) (μ:Value→World→Nat) (h0:Inv i4 w)
  (hs:∀ (i4':Value) (dd:Nat→Value) (w:World) (m:Nat),Inv i4' w→m=μ i4' w →
  bin Q BinOp.lss 3 false false i4' n0 (fun A7 w=>cond A7 (call Q 33 #[n0] (fun C2=>ext Q C2 0 fun C3=>ext Q C2 1 fun _=>aj w_3 fun C7=>aa Q 47 C7 0 fun C8=>ld Q 44 C8 fun C9=>aJ Q 44 1 #[(0,C3)] fun D1=>blt Q Builtin.append #[44,44] 44 #[false,false] #[C9,D1] fun D2=>aj w_3 fun D3=>aa Q 47 D3 0 fun D4=>sto Q 44 D4 D2 fun _=>bin Q BinOp.add 3 false true i4' (ci 1) fun A9 w=>(Inv A9 w)∧((μ A9 w)<m)) w) (dc K [n0,n1,A0,w_3,i4',dd 5,dd 6,A3,A4,i4',n0,A7,dd 12,dd 13,dd 14,dd 15,dd 16,dd 17,dd 18,dd 19,dd 20,dd 21,dd 22,dd 23,dd 24,dd 25,dd 26,dd 27,dd 28,D5] w)) w) :
  gq K [n0,n1,A0,w_3,i4,l5,A2,A3,A4,A5,A6,A7,A8,A9,C0,C1,C2,C3,C4,C5,C6,C7,C8,C9,D0,D1,D2,D3,D4,D5] w:=by
 refine aB (cd Tryz.f18 [1,1,0,1,0,0]) [4,5,6,9,10,11,12,13,14,15,16,17,18,19,20,21,22,23,24,25,26,27,28] (by kernel_rfl) (fun e2 w2=>Inv (gd e2 4) w2) (fun e2 w2=>μ (gd e2 4) w2) h0 ?_
 intro e' w' hI
 have h:=hs (gd e' 4) (fun i=>gd e' i) w' _ hI rfl
 revert h
 generalize (dc K)=qc0
 exact fun h=>Eq.mp (by kernel_rfl) h
theorem oq {K:KV} {n0 n1 A0 w_3 i4 l5 A2 A3 A4 A5 A6 A7 A8 A9 C0 C1 C2 C3 C4 C5 C6 C7 C8 C9 D0 D1 D2 D3 D4 D5:Value} {w:World}
  (h:K w_3 w) :
  dc K [n0,n1,A0,w_3,i4,l5,A2,A3,A4,A5,A6,A7,A8,A9,C0,C1,C2,C3,C4,C5,C6,C7,C8,C9,D0,D1,D2,D3,D4,D5] w:=by
 delta dc
 revert h
 exact fun h=>Eq.mp (by kernel_rfl) h
attribute [irreducible] dc gq
def aQ (K:KV):KE:=ac Q (cd Tryz.f34 [1,1]) (rk Tryz.f34 K) xf (rk Tryz.f34 K)
def hF (K:KV):KE:=ac Q (cd Tryz.f34 [1,0,1,0]) (aQ K) (xx xf (aQ K) 0) (rk Tryz.f34 K)
def bC (K:KV) (B1:KE):KE:=ac Q (cd Tryz.f34 [1,0,1,0,0,1,1]) B1 (xx xf (aQ K) 0) (rk Tryz.f34 K)
def bM (K:KV) (B1:KE):KE:=ac Q (cd Tryz.f34 [1,0,1,0,0,1,0,0,1,1]) (bC K B1) (xx (xx xf (aQ K) 0) (bC K B1) 1) (rk Tryz.f34 K)
def fV (K:KV) (B1:KE):KE:=ac Q (cd Tryz.f34 [1,0,1,0,0,1,0,0,1,0,1,0]) (bM K B1) (xx (xx (xx xf (aQ K) 0) (bC K B1) 1) (bM K B1) 2) (rk Tryz.f34 K)
def dC (K:KV) (B1:KE) (B2:KE):KE:=ac Q (cd Tryz.f34 [1,0,1,0,0,1,0,0,1,0,1,0,0,1,1]) B2 (xx (xx (xx xf (aQ K) 0) (bC K B1) 1) (bM K B1) 2) (rk Tryz.f34 K)
def fW (K:KV) (B1:KE) (B2:KE):KE:=ac Q (cd Tryz.f34 [1,0,1,0,0,1,0,0,1,0,1,0,0,1,0]) (dC K B1 B2) (xx (xx (xx xf (aQ K) 0) (bC K B1) 1) (bM K B1) 2) (rk Tryz.f34 K)
theorem rQ {K:KV} {l0 all1 most2:Value} {w:World}
  (h:box Q 26 most2 (fun most5=>hF K (l0::all1::most2::undef::undef::most5::(Value.pointer none)::(ci 0)::undef::undef::undef::undef::undef::undef::undef::undef::undef::undef::undef::undef::undef::undef::undef::undef::undef::undef::undef::undef::undef::undef::undef::undef::undef::undef::undef::undef::undef::undef::undef::undef::undef::undef::undef::undef::undef::undef::undef::undef::undef::undef::undef::undef::undef::undef::undef::undef::undef::undef::undef::[])) w) :
  Gives Q 34 #[l0,all1,most2] w K:=by
 refine aK Tryz.func34 (by kernel_rfl) ?_
 revert h
 delta hF aQ
 exact fun h=>Eq.mp (by kernel_rfl) h
theorem rR:bD Q 34:=⟨_,Tryz.func34,by kernel_rfl,by kernel_rfl⟩
section
variable {l0 all1 most2 l3 all4 most5 A2 round7 was8 i9 A6 A7 A8 A9 C0 C1 C2 C3 C4 C5 C6 C7 C8 C9 D0 D1 D2 D3 D4 D5 D6 D7 D8 D9 E0 E1 E2 E3 E4 E5 E6 E7 E8 E9 F0 F1 F2 F3 F4 F5 F6 F7 F8 F9 G0 G1 G2 G3 G4:Value}
theorem pK {K:KV} {w:World} (Inv:Value→Value→World→Prop) (μ:Value→Value→World→Nat) (h0:Inv l0 round7 w)
  (hs:∀ (l0' round7':Value) (dd:Nat→Value) (w:World) (m:Nat),Inv l0' round7' w→m=μ l0' round7' w →
  blt Q Builtin.len #[45] 3 #[false] #[all1] (fun A8=>bin Q BinOp.leq 3 false false round7' A8 fun A9 w=>cond A9 (aj l0' (fun C3=>aa Q 79 C3 0 fun C4=>aa Q 30 C4 2 fun C5=>ld Q 26 C5 fun C6=>alc Q 26 fun was8=>sto Q 26 was8 C6 fun _=>fV K (fun e2 w2=>(Inv (gd e2 0) (gd e2 7) w2)∧((μ (gd e2 0) (gd e2 7) w2)<m)) (l0'::all1::most2::l3::all4::most5::(dd 6)::round7'::was8::(ci 0)::round7'::all1::A8::A9::(dd 14)::(dd 15)::l0'::C3::C4::C5::C6::(dd 21)::(dd 22)::(dd 23)::(dd 24)::(dd 25)::(dd 26)::(dd 27)::(dd 28)::(dd 29)::(dd 30)::(dd 31)::(dd 32)::(dd 33)::(dd 34)::(dd 35)::(dd 36)::(dd 37)::(dd 38)::(dd 39)::(dd 40)::(dd 41)::(dd 42)::(dd 43)::(dd 44)::(dd 45)::(dd 46)::(dd 47)::(dd 48)::(dd 49)::(dd 50)::(dd 51)::(dd 52)::(dd 53)::(dd 54)::(dd 55)::(dd 56)::(dd 57)::G4::[])) w) (aQ K (l0'::all1::most2::l3::all4::most5::(dd 6)::round7'::(dd 8)::(dd 9)::round7'::all1::A8::A9::(dd 14)::(dd 15)::(dd 16)::(dd 17)::(dd 18)::(dd 19)::(dd 20)::(dd 21)::(dd 22)::(dd 23)::(dd 24)::(dd 25)::(dd 26)::(dd 27)::(dd 28)::(dd 29)::(dd 30)::(dd 31)::(dd 32)::(dd 33)::(dd 34)::(dd 35)::(dd 36)::(dd 37)::(dd 38)::(dd 39)::(dd 40)::(dd 41)::(dd 42)::(dd 43)::(dd 44)::(dd 45)::(dd 46)::(dd 47)::(dd 48)::(dd 49)::(dd 50)::(dd 51)::(dd 52)::(dd 53)::(dd 54)::(dd 55)::(dd 56)::(dd 57)::G4::[]) w)) w) :
  hF K (l0::all1::most2::l3::all4::most5::A2::round7::was8::i9::A6::A7::A8::A9::C0::C1::C2::C3::C4::C5::C6::C7::C8::C9::D0::D1::D2::D3::D4::D5::D6::D7::D8::D9::E0::E1::E2::E3::E4::E5::E6::E7::E8::E9::F0::F1::F2::F3::F4::F5::F6::F7::F8::F9::G0::G1::G2::G3::G4::[]) w:=by
 refine aB (cd Tryz.f34 [1,0,1,0,0]) [0,6,7,8,9,10,11,12,13,14,15,16,17,18,19,20,21,22,23,24,25,26,27,28,29,30,31,32,33,34,35,36,37,38,39,40,41,42,43,44,45,46,47,48,49,50,51,52,53,54,55,56,57] (by kernel_rfl) (fun e2 w2=>Inv (gd e2 0) (gd e2 7) w2) (fun e2 w2=>μ (gd e2 0) (gd e2 7) w2) h0 ?_
 intro e' w' hI
 have h:=hs (gd e' 0) (gd e' 7) (fun i=>gd e' i) w' _ hI rfl
 revert h
 delta fV bM bC
 generalize (aQ K)=qc0
 exact fun h=>Eq.mp (by kernel_rfl) h
theorem pL {K:KV} {B1:KE} {w:World} (Inv:Value→Value→World→Prop) (μ:Value→Value→World→Nat) (h0:Inv l0 i9 w)
  (hs:∀ (l0' i9':Value) (dd:Nat→Value) (w:World) (m:Nat),Inv l0' i9' w→m=μ l0' i9' w →
  blt Q Builtin.len #[45] 3 #[false] #[all1] (fun C9=>bin Q BinOp.lss 3 false false i9' C9 fun D0 w=>cond D0 (fW K B1 (fun e2 w2=>(Inv (gd e2 0) (gd e2 9) w2)∧((μ (gd e2 0) (gd e2 9) w2)<m)) (l0'::all1::most2::l3::all4::most5::A2::round7::was8::i9'::A6::A7::A8::A9::C0::C1::C2::C3::C4::C5::C6::i9'::all1::C9::D0::(dd 25)::(dd 26)::(dd 27)::(dd 28)::(dd 29)::(dd 30)::(dd 31)::(dd 32)::(dd 33)::(dd 34)::(dd 35)::(dd 36)::(dd 37)::(dd 38)::(dd 39)::(dd 40)::(dd 41)::(dd 42)::(dd 43)::(dd 44)::(dd 45)::(dd 46)::(dd 47)::(dd 48)::(dd 49)::F6::F7::F8::F9::G0::G1::G2::G3::G4::[]) w) (bM K B1 (l0'::all1::most2::l3::all4::most5::A2::round7::was8::i9'::A6::A7::A8::A9::C0::C1::C2::C3::C4::C5::C6::i9'::all1::C9::D0::(dd 25)::(dd 26)::(dd 27)::(dd 28)::(dd 29)::(dd 30)::(dd 31)::(dd 32)::(dd 33)::(dd 34)::(dd 35)::(dd 36)::(dd 37)::(dd 38)::(dd 39)::(dd 40)::(dd 41)::(dd 42)::(dd 43)::(dd 44)::(dd 45)::(dd 46)::(dd 47)::(dd 48)::(dd 49)::F6::F7::F8::F9::G0::G1::G2::G3::G4::[]) w)) w) :
  fV K B1 (l0::all1::most2::l3::all4::most5::A2::round7::was8::i9::A6::A7::A8::A9::C0::C1::C2::C3::C4::C5::C6::C7::C8::C9::D0::D1::D2::D3::D4::D5::D6::D7::D8::D9::E0::E1::E2::E3::E4::E5::E6::E7::E8::E9::F0::F1::F2::F3::F4::F5::F6::F7::F8::F9::G0::G1::G2::G3::G4::[]) w:=by
 refine aB (cd Tryz.f34 [1,0,1,0,0,1,0,0,1,0,1,0,0]) [0,9,21,22,23,24,25,26,27,28,29,30,31,32,33,34,35,36,37,38,39,40,41,42,43,44,45,46,47,48,49] (by kernel_rfl) (fun e2 w2=>Inv (gd e2 0) (gd e2 9) w2) (fun e2 w2=>μ (gd e2 0) (gd e2 9) w2) h0 ?_
 intro e' w' hI
 have h:=hs (gd e' 0) (gd e' 9) (fun i=>gd e' i) w' _ hI rfl
 refine Eq.mp (congrArg (fun c=>ac Q c _ _ _ _ w') (by kernel_rfl:(rep [1,0] (cd Tryz.f34 [1,0,1,0,0,1,0,0,1,0,1,0,0,1,0]) (cd Tryz.f34 [1,0,1,0,0,1,0,0,1,0,1,0,0]))=(cd Tryz.f34 [1,0,1,0,0,1,0,0,1,0,1,0,0]))) ?_
 revert h
 delta fW dC
 generalize (cd Tryz.f34 [1,0,1,0,0,1,0,0,1,0,1,0,0,1,0])=xc0
 generalize (aQ K)=qc0
 generalize (bC K B1)=qc1
 generalize (bM K B1)=qc2
 exact fun h=>Eq.mp (by kernel_rfl) h
theorem pM {K:KV} {w:World}
  (h:K l0 w) :
  aQ K (l0::all1::most2::l3::all4::most5::A2::round7::was8::i9::A6::A7::A8::A9::C0::C1::C2::C3::C4::C5::C6::C7::C8::C9::D0::D1::D2::D3::D4::D5::D6::D7::D8::D9::E0::E1::E2::E3::E4::E5::E6::E7::E8::E9::F0::F1::F2::F3::F4::F5::F6::F7::F8::F9::G0::G1::G2::G3::G4::[]) w:=by
 delta aQ
 revert h
 exact fun h=>Eq.mp (by kernel_rfl) h
theorem pN {K:KV} {B1:KE} {B2:KE} {w:World}
  (h:sti (af Q 45 all1 i9) (fun D5=>sti (aa Q 54 D5 1) fun D6=>sti (ld Q 24 D6) fun D7=>sti (af Q 45 all1 i9) fun E0=>sti (aa Q 54 E0 0) fun E1=>sti (ld Q 3 E1) fun E2=>sti (bin Q BinOp.sub 3 false true E2 (ci 1)) fun E3=>sti (af Q 26 most5 E3) fun E4=>sti (ld Q 24 E4) fun E5=>sti (bin Q BinOp.leq 24 false false D7 E5) fun E6 w=>cond E6 (af Q 45 all1 i9 (fun F1=>ld Q 54 F1 fun F2=>call Q 36 #[l0,F2] fun F3=>ext Q F3 0 fun F4=>ext Q F3 1 fun F5=>dC K B1 B2 (F4::all1::most2::l3::all4::most5::A2::round7::was8::i9::A6::A7::A8::A9::C0::C1::C2::C3::C4::C5::C6::C7::C8::C9::D0::D1::D2::all1::i9::D5::D6::D7::all1::i9::E0::E1::E2::E3::E4::E5::E6::F3::l0::all1::i9::F1::F2::F3::F4::F5::F6::F7::F8::F9::G0::G1::G2::G3::G4::[])) w) (dC K B1 B2 (l0::all1::most2::l3::all4::most5::A2::round7::was8::i9::A6::A7::A8::A9::C0::C1::C2::C3::C4::C5::C6::C7::C8::C9::D0::D1::D2::all1::i9::D5::D6::D7::all1::i9::E0::E1::E2::E3::E4::E5::E6::E7::E8::E9::F0::F1::F2::F3::F4::F5::F6::F7::F8::F9::G0::G1::G2::G3::G4::[]) w)) w.drew) :
  fW K B1 B2 (l0::all1::most2::l3::all4::most5::A2::round7::was8::i9::A6::A7::A8::A9::C0::C1::C2::C3::C4::C5::C6::C7::C8::C9::D0::D1::D2::D3::D4::D5::D6::D7::D8::D9::E0::E1::E2::E3::E4::E5::E6::E7::E8::E9::F0::F1::F2::F3::F4::F5::F6::F7::F8::F9::G0::G1::G2::G3::G4::[]) w:=by
 delta fW
 revert h
 generalize (dC K B1 B2)=qc0
 generalize (aQ K)=qc1
 generalize (bC K B1)=qc2
 generalize (bM K B1)=qc3
 exact fun h=>Eq.mp (by kernel_rfl) h
theorem pO {K:KV} {B1:KE} {w:World}
  (h:sti (aj l0) (fun F7=>sti (aa Q 79 F7 0) fun F8=>sti (aa Q 30 F8 2) fun F9=>sti (ld Q 26 F9) fun G0=>sti (ld Q 26 was8) fun G1=>sti (bin Q BinOp.eql 26 false false G0 G1) fun G2 w=>cond G2 (K l0 w) (bC K B1 (l0::all1::most2::l3::all4::most5::A2::round7::was8::i9::A6::A7::A8::A9::C0::C1::C2::C3::C4::C5::C6::C7::C8::C9::D0::D1::D2::D3::D4::D5::D6::D7::D8::D9::E0::E1::E2::E3::E4::E5::E6::E7::E8::E9::F0::F1::F2::F3::F4::F5::l0::F7::F8::F9::G0::G1::G2::G3::G4::[]) w)) w.drew) :
  bM K B1 (l0::all1::most2::l3::all4::most5::A2::round7::was8::i9::A6::A7::A8::A9::C0::C1::C2::C3::C4::C5::C6::C7::C8::C9::D0::D1::D2::D3::D4::D5::D6::D7::D8::D9::E0::E1::E2::E3::E4::E5::E6::E7::E8::E9::F0::F1::F2::F3::F4::F5::F6::F7::F8::F9::G0::G1::G2::G3::G4::[]) w:=by
 delta bM
 revert h
 generalize (bC K B1)=qc0
 generalize (aQ K)=qc1
 exact fun h=>Eq.mp (by kernel_rfl) h
theorem ku {K:KV} {B1:KE} {B2:KE} {w:World}
  (h:bin Q BinOp.add 3 false true i9 (ci 1) (fun D2=>B2 (l0::all1::most2::l3::all4::most5::A2::round7::was8::D2::A6::A7::A8::A9::C0::C1::C2::C3::C4::C5::C6::C7::C8::C9::D0::i9::D2::D3::D4::D5::D6::D7::D8::D9::E0::E1::E2::E3::E4::E5::E6::E7::E8::E9::F0::F1::F2::F3::F4::F5::F6::F7::F8::F9::G0::G1::G2::G3::G4::[])) w) :
  dC K B1 B2 (l0::all1::most2::l3::all4::most5::A2::round7::was8::i9::A6::A7::A8::A9::C0::C1::C2::C3::C4::C5::C6::C7::C8::C9::D0::D1::D2::D3::D4::D5::D6::D7::D8::D9::E0::E1::E2::E3::E4::E5::E6::E7::E8::E9::F0::F1::F2::F3::F4::F5::F6::F7::F8::F9::G0::G1::G2::G3::G4::[]) w:=by
 delta dC
 revert h
 generalize (aQ K)=qc0
 generalize (bC K B1)=qc1
 generalize (bM K B1)=qc2
 exact fun h=>Eq.mp (by kernel_rfl) h
theorem pP {K:KV} {B1:KE} {w:World}
  (h:bin Q BinOp.add 3 false true round7 (ci 1) (fun C1=>B1 (l0::all1::most2::l3::all4::most5::A2::C1::was8::i9::A6::A7::A8::A9::round7::C1::C2::C3::C4::C5::C6::C7::C8::C9::D0::D1::D2::D3::D4::D5::D6::D7::D8::D9::E0::E1::E2::E3::E4::E5::E6::E7::E8::E9::F0::F1::F2::F3::F4::F5::F6::F7::F8::F9::G0::G1::G2::G3::G4::[])) w) :
  bC K B1 (l0::all1::most2::l3::all4::most5::A2::round7::was8::i9::A6::A7::A8::A9::C0::C1::C2::C3::C4::C5::C6::C7::C8::C9::D0::D1::D2::D3::D4::D5::D6::D7::D8::D9::E0::E1::E2::E3::E4::E5::E6::E7::E8::E9::F0::F1::F2::F3::F4::F5::F6::F7::F8::F9::G0::G1::G2::G3::G4::[]) w:=by
 delta bC
 revert h
 generalize (aQ K)=qc0
 exact fun h=>Eq.mp (by kernel_rfl) h
attribute [irreducible] aQ hF bC bM fV dC fW
def dw (K:KV):KE:=ac Q (cd Tryz.f35 [1,1,1,1]) (rk Tryz.f35 K) xf (rk Tryz.f35 K)
def bK (K:KV):KE:=ac Q (cd Tryz.f35 [1,1,1,1,1,1]) (rk Tryz.f35 K) xf (rk Tryz.f35 K)
def er (K:KV):KE:=ac Q (cd Tryz.f35 [1,1,1,1,1,0,1]) (bK K) xf (rk Tryz.f35 K)
def aw (K:KV):KE:=ac Q (cd Tryz.f35 [1,1,1,1,1,1,1]) (rk Tryz.f35 K) xf (rk Tryz.f35 K)
def et (K:KV):KE:=ac Q (cd Tryz.f35 [1,1,1,1,1,1,0,1]) (aw K) xf (rk Tryz.f35 K)
def cw (K:KV):KE:=ac Q (cd Tryz.f35 [1,1,1,1,1,1,0,1,0,1,0,1]) (aw K) (xx xf (aw K) 0) (rk Tryz.f35 K)
def eu (K:KV):KE:=ac Q (cd Tryz.f35 [1,1,1,1,1,1,0,1,0,1,0,0,1]) (cw K) (xx xf (aw K) 0) (rk Tryz.f35 K)
def ew (K:KV):KE:=ac Q (cd Tryz.f35 [1,1,1,1,1,1,0,1,0,1,1,1,1,1,1,1,1,1]) (aw K) (xx xf (aw K) 0) (rk Tryz.f35 K)
end
theorem nw {K:KV} {w_0 x1:Value} {w:World}
  (h:box Q 74 x1 (fun x3=>alc Q 54 fun A1 w=>sti (aa Q 74 x3 0) (fun A5=>sti (ld Q 5 A5) fun A6=>sti (conv Q 5 3 A6) fun A7=>sti (aj w_0) fun A9=>sti (aa Q 47 A9 0) fun C0=>sti (ld Q 44 C0) fun C1=>sti (blt Q Builtin.len #[44] 3 #[false] #[C1]) fun C2=>sti (bin Q BinOp.rem 3 false false A7 C2) fun C3=>aj w_0 fun C5=>aa Q 47 C5 0 fun C6=>ld Q 44 C6 fun C7=>af Q 44 C7 C3 fun C9=>ld Q 80 C9 fun D0 w=>aX (fun S w=>hld (fun _=>True) (bin Q BinOp.add 3 false true C3 (ci 1)) fun D2=>hld S (aj D0) fun D5=>hld S (aa Q 79 D5 0) fun D6=>hld S (aa Q 30 D6 2) fun D7=>hld S (af Q 26 D7 C3) fun D8=>hld S (ld Q 24 D8) fun D9=>hld (fun _=>True) (bin Q BinOp.add 24 false true D9 (cu 1)) fun E0=>hld S (aj D0) fun E2=>hld S (aa Q 79 E2 0) fun E3=>hld S (aa Q 30 E3 2) fun E4=>hld S (ld Q 26 E4) fun E5=>hld S (aa Q 74 x3 3) fun E6=>hld S (ld Q 5 E6) fun E7=>hld S (bin Q BinOp.rem 5 false true E7 (cb 7)) fun E8=>hld (fun _=>True) (bin Q BinOp.add 5 true false (cb 1) E8) fun E9=>hld S (bld Q 54 #[(0,D2),(1,E0),(2,E5),(3,E9)]) fun F0=>alc Q 54 (fun e7=>dB S fun _=>sto Q 54 e7 F0 fun _=>dw K (w_0::x1::undef::x3::A1::C3::D0::e7::undef::A5::A6::A7::w_0::A9::C0::C1::C2::C3::w_0::C5::C6::C7::C3::C9::D0::C3::D2::D0::C3::D5::D6::D7::D8::D9::E0::D0::E2::E3::E4::E5::E6::E7::E8::E9::F0::undef::undef::undef::undef::undef::undef::undef::undef::undef::undef::undef::undef::undef::undef::undef::undef::undef::undef::undef::undef::undef::undef::undef::undef::undef::undef::undef::undef::undef::undef::undef::undef::undef::undef::undef::undef::undef::undef::undef::undef::undef::undef::undef::undef::undef::undef::undef::undef::undef::undef::undef::undef::undef::undef::undef::undef::undef::undef::undef::undef::undef::undef::undef::undef::undef::undef::undef::undef::undef::undef::undef::undef::undef::undef::undef::undef::undef::undef::undef::undef::undef::undef::undef::undef::undef::undef::undef::undef::undef::undef::undef::undef::undef::undef::undef::undef::undef::undef::[])) w) w.drew) w.drew) w) :
  Gives Q 35 #[w_0,x1] w K:=by
 refine aK Tryz.func35 (by kernel_rfl) <|Eq.mp (congrArg (fun c=>ac Q c _ _ _ _ w) (by kernel_rfl:(rep [1,1,1,1] (cd Tryz.f35 [1,1,1,1]) (cd Tryz.f35 []))=(cd Tryz.f35 []))) ?_
 revert h
 delta dw
 generalize (cd Tryz.f35 [1,1,1,1])=xc0
 exact fun h=>Eq.mp (by kernel_rfl) h
theorem nx:bD Q 35:=⟨_,Tryz.func35,by kernel_rfl,by kernel_rfl⟩
section
variable {w_0 x1 w_2 x3 A1 o5 l6 e7 node8 A5 A6 A7 A8 A9 C0 C1 C2 C3 C4 C5 C6 C7 C8 C9 D0 D1 D2 D3 D4 D5 D6 D7 D8 D9 E0 E1 E2 E3 E4 E5 E6 E7 E8 E9 F0 F1 F2 F3 F4 F5 F6 F7 F8 F9 G0 G1 G2 G3 G4 G5 G6 G7 G8 G9 H0 H1 H2 H3 H4 H5 H6 H7 H8 H9 I0 I1 I2 I3 I4 I5 I6 I7 I8 I9 J0 J1 J2 J3 J4 J5 J6 J7 J8 J9 L0 L1 L2 L3 L4 L5 L6 L7 L8 L9 M0 M1 M2 M3 M4 M5 M6 M7 M8 M9 N0 N1 N2 N3 N4 N5 N6 N7 N8 N9 O0 O1 O2 O3 O4 O5 O6 O7 O8 O9 P0 P1 P2 P3 P4 P5 P6 P7 P8:Value}
theorem mr {K:KV} {w:World}
  (h:aj l6 (fun F2=>aa Q 79 F2 0 fun F3=>aa Q 30 F3 3 fun F4=>ld Q 27 F4 fun F5=>blt Q Builtin.len #[27] 3 #[false] #[F5] fun F6=>bin Q BinOp.gtr 3 false true F6 (ci 0) fun F7=>er K (w_0::x1::w_2::x3::A1::o5::l6::e7::(cu 0)::A5::A6::A7::A8::A9::C0::C1::C2::C3::C4::C5::C6::C7::C8::C9::D0::D1::D2::D3::D4::D5::D6::D7::D8::D9::E0::E1::E2::E3::E4::E5::E6::E7::E8::E9::F0::l6::F2::F3::F4::F5::F6::F7::F8::F9::G0::G1::G2::G3::G4::G5::G6::G7::G8::G9::H0::H1::H2::H3::H4::H5::H6::H7::H8::H9::I0::I1::I2::I3::I4::I5::I6::I7::I8::I9::J0::J1::J2::J3::J4::J5::J6::J7::J8::J9::L0::L1::L2::L3::L4::L5::L6::L7::L8::L9::M0::M1::M2::M3::M4::M5::M6::M7::M8::M9::N0::N1::N2::N3::N4::N5::N6::N7::N8::N9::O0::O1::O2::O3::O4::O5::O6::O7::O8::O9::P0::P1::P2::P3::P4::P5::P6::P7::P8::[])) w) :
  dw K (w_0::x1::w_2::x3::A1::o5::l6::e7::node8::A5::A6::A7::A8::A9::C0::C1::C2::C3::C4::C5::C6::C7::C8::C9::D0::D1::D2::D3::D4::D5::D6::D7::D8::D9::E0::E1::E2::E3::E4::E5::E6::E7::E8::E9::F0::F1::F2::F3::F4::F5::F6::F7::F8::F9::G0::G1::G2::G3::G4::G5::G6::G7::G8::G9::H0::H1::H2::H3::H4::H5::H6::H7::H8::H9::I0::I1::I2::I3::I4::I5::I6::I7::I8::I9::J0::J1::J2::J3::J4::J5::J6::J7::J8::J9::L0::L1::L2::L3::L4::L5::L6::L7::L8::L9::M0::M1::M2::M3::M4::M5::M6::M7::M8::M9::N0::N1::N2::N3::N4::N5::N6::N7::N8::N9::O0::O1::O2::O3::O4::O5::O6::O7::O8::O9::P0::P1::P2::P3::P4::P5::P6::P7::P8::[]) w:=by
 delta dw
 refine Eq.mp (congrArg (fun c=>ac Q c _ _ _ _ w) (by kernel_rfl:(rep [1,0,1] (cd Tryz.f35 [1,1,1,1,1,0,1]) (cd Tryz.f35 [1,1,1,1]))=(cd Tryz.f35 [1,1,1,1]))) ?_
 revert h
 delta er bK
 generalize (cd Tryz.f35 [1,1,1,1,1,0,1])=xc0
 exact fun h=>Eq.mp (by kernel_rfl) h
theorem ms {K:KV} {w:World}
  (h:cond F7 (sti (aj l6) (fun F9=>sti (aa Q 79 F9 0) fun G0=>sti (aa Q 30 G0 3) fun G1=>sti (ld Q 27 G1) fun G2=>sti (aa Q 74 x3 4) fun G3=>sti (ld Q 5 G3) fun G4=>sti (conv Q 5 3 G4) fun G5=>sti (aj l6) fun G7=>sti (aa Q 79 G7 0) fun G8=>sti (aa Q 30 G8 3) fun G9=>sti (ld Q 27 G9) fun H0=>sti (blt Q Builtin.len #[27] 3 #[false] #[H0]) fun H1=>sti (bin Q BinOp.rem 3 false false G5 H1) fun H2=>sti (af Q 27 G2 H2) fun H3=>sti (aa Q 38 H3 0) fun H4=>sti (ld Q 24 H4) fun H5=>bK K (w_0::x1::w_2::x3::A1::o5::l6::e7::H5::A5::A6::A7::A8::A9::C0::C1::C2::C3::C4::C5::C6::C7::C8::C9::D0::D1::D2::D3::D4::D5::D6::D7::D8::D9::E0::E1::E2::E3::E4::E5::E6::E7::E8::E9::F0::F1::F2::F3::F4::F5::F6::F7::l6::F9::G0::G1::G2::G3::G4::G5::l6::G7::G8::G9::H0::H1::H2::H3::H4::H5::H6::H7::H8::H9::I0::I1::I2::I3::I4::I5::I6::I7::I8::I9::J0::J1::J2::J3::J4::J5::J6::J7::J8::J9::L0::L1::L2::L3::L4::L5::L6::L7::L8::L9::M0::M1::M2::M3::M4::M5::M6::M7::M8::M9::N0::N1::N2::N3::N4::N5::N6::N7::N8::N9::O0::O1::O2::O3::O4::O5::O6::O7::O8::O9::P0::P1::P2::P3::P4::P5::P6::P7::P8::[])) w.drew) (bK K (w_0::x1::w_2::x3::A1::o5::l6::e7::node8::A5::A6::A7::A8::A9::C0::C1::C2::C3::C4::C5::C6::C7::C8::C9::D0::D1::D2::D3::D4::D5::D6::D7::D8::D9::E0::E1::E2::E3::E4::E5::E6::E7::E8::E9::F0::F1::F2::F3::F4::F5::F6::F7::F8::F9::G0::G1::G2::G3::G4::G5::G6::G7::G8::G9::H0::H1::H2::H3::H4::H5::H6::H7::H8::H9::I0::I1::I2::I3::I4::I5::I6::I7::I8::I9::J0::J1::J2::J3::J4::J5::J6::J7::J8::J9::L0::L1::L2::L3::L4::L5::L6::L7::L8::L9::M0::M1::M2::M3::M4::M5::M6::M7::M8::M9::N0::N1::N2::N3::N4::N5::N6::N7::N8::N9::O0::O1::O2::O3::O4::O5::O6::O7::O8::O9::P0::P1::P2::P3::P4::P5::P6::P7::P8::[]) w)) :
  er K (w_0::x1::w_2::x3::A1::o5::l6::e7::node8::A5::A6::A7::A8::A9::C0::C1::C2::C3::C4::C5::C6::C7::C8::C9::D0::D1::D2::D3::D4::D5::D6::D7::D8::D9::E0::E1::E2::E3::E4::E5::E6::E7::E8::E9::F0::F1::F2::F3::F4::F5::F6::F7::F8::F9::G0::G1::G2::G3::G4::G5::G6::G7::G8::G9::H0::H1::H2::H3::H4::H5::H6::H7::H8::H9::I0::I1::I2::I3::I4::I5::I6::I7::I8::I9::J0::J1::J2::J3::J4::J5::J6::J7::J8::J9::L0::L1::L2::L3::L4::L5::L6::L7::L8::L9::M0::M1::M2::M3::M4::M5::M6::M7::M8::M9::N0::N1::N2::N3::N4::N5::N6::N7::N8::N9::O0::O1::O2::O3::O4::O5::O6::O7::O8::O9::P0::P1::P2::P3::P4::P5::P6::P7::P8::[]) w:=by
 delta er
 revert h
 generalize (bK K)=qc0
 exact fun h=>Eq.mp (by kernel_rfl) h
theorem mt {K:KV} {w:World}
  (h:aa Q 54 e7 3 (fun H6=>ld Q 5 H6 fun H7=>et K (w_0::x1::w_2::x3::A1::o5::l6::e7::node8::A5::A6::A7::A8::A9::C0::C1::C2::C3::C4::C5::C6::C7::C8::C9::D0::D1::D2::D3::D4::D5::D6::D7::D8::D9::E0::E1::E2::E3::E4::E5::E6::E7::E8::E9::F0::F1::F2::F3::F4::F5::F6::F7::F8::F9::G0::G1::G2::G3::G4::G5::G6::G7::G8::G9::H0::H1::H2::H3::H4::H5::H6::H7::H8::H9::I0::I1::I2::I3::I4::I5::I6::I7::I8::I9::J0::J1::J2::J3::J4::J5::J6::J7::J8::J9::L0::L1::L2::L3::L4::L5::L6::L7::L8::L9::M0::M1::M2::M3::M4::M5::M6::M7::M8::M9::N0::N1::N2::N3::N4::N5::N6::N7::N8::N9::O0::O1::O2::O3::O4::O5::O6::O7::O8::O9::P0::P1::P2::P3::P4::P5::P6::P7::P8::[])) w) :
  bK K (w_0::x1::w_2::x3::A1::o5::l6::e7::node8::A5::A6::A7::A8::A9::C0::C1::C2::C3::C4::C5::C6::C7::C8::C9::D0::D1::D2::D3::D4::D5::D6::D7::D8::D9::E0::E1::E2::E3::E4::E5::E6::E7::E8::E9::F0::F1::F2::F3::F4::F5::F6::F7::F8::F9::G0::G1::G2::G3::G4::G5::G6::G7::G8::G9::H0::H1::H2::H3::H4::H5::H6::H7::H8::H9::I0::I1::I2::I3::I4::I5::I6::I7::I8::I9::J0::J1::J2::J3::J4::J5::J6::J7::J8::J9::L0::L1::L2::L3::L4::L5::L6::L7::L8::L9::M0::M1::M2::M3::M4::M5::M6::M7::M8::M9::N0::N1::N2::N3::N4::N5::N6::N7::N8::N9::O0::O1::O2::O3::O4::O5::O6::O7::O8::O9::P0::P1::P2::P3::P4::P5::P6::P7::P8::[]) w:=by
 delta bK
 refine Eq.mp (congrArg (fun c=>ac Q c _ _ _ _ w) (by kernel_rfl:(rep [0,1] (cd Tryz.f35 [1,1,1,1,1,1,0,1]) (cd Tryz.f35 [1,1,1,1,1,1]))=(cd Tryz.f35 [1,1,1,1,1,1]))) ?_
 revert h
 delta et aw
 generalize (cd Tryz.f35 [1,1,1,1,1,1,0,1])=xc0
 exact fun h=>Eq.mp (by kernel_rfl) h
theorem mw {K:KV} {w:World}
  (h:bin Q BinOp.eql 5 false true H7 (cb 1) (fun H9 w=>cond H9 (aa Q 74 x3 4 (fun I0=>ld Q 5 I0 fun I1=>bin Q BinOp.rem 5 false true I1 (cb 2) fun I2=>bin Q BinOp.eql 5 false true I2 (cb 1) fun I3=>eu K (w_0::x1::w_2::x3::A1::o5::l6::e7::node8::A5::A6::A7::A8::A9::C0::C1::C2::C3::C4::C5::C6::C7::C8::C9::D0::D1::D2::D3::D4::D5::D6::D7::D8::D9::E0::E1::E2::E3::E4::E5::E6::E7::E8::E9::F0::F1::F2::F3::F4::F5::F6::F7::F8::F9::G0::G1::G2::G3::G4::G5::G6::G7::G8::G9::H0::H1::H2::H3::H4::H5::H6::H7::H9::H9::I0::I1::I2::I3::I4::I5::I6::I7::I8::I9::J0::J1::J2::J3::J4::J5::J6::J7::J8::J9::L0::L1::L2::L3::L4::L5::L6::L7::L8::L9::M0::M1::M2::M3::M4::M5::M6::M7::M8::M9::N0::N1::N2::N3::N4::N5::N6::N7::N8::N9::O0::O1::O2::O3::O4::O5::O6::O7::O8::O9::P0::P1::P2::P3::P4::P5::P6::P7::P8::[])) w) (bin Q BinOp.eql 5 false true H7 (cb 2) (fun J1 w=>cond J1 (aa Q 54 e7 4 (fun J3=>sto Q 24 J3 node8 fun _=>aa Q 74 x3 6 fun J4=>ld Q 72 J4 fun J5=>conv Q 72 2 J5 fun J6=>bin Q BinOp.add 2 false true J6 (ci 1) fun J7=>aa Q 54 e7 6 fun J8=>sto Q 2 J8 J7 fun _=>aw K (w_0::x1::w_2::x3::A1::o5::l6::e7::node8::A5::A6::A7::A8::A9::C0::C1::C2::C3::C4::C5::C6::C7::C8::C9::D0::D1::D2::D3::D4::D5::D6::D7::D8::D9::E0::E1::E2::E3::E4::E5::E6::E7::E8::E9::F0::F1::F2::F3::F4::F5::F6::F7::F8::F9::G0::G1::G2::G3::G4::G5::G6::G7::G8::G9::H0::H1::H2::H3::H4::H5::H6::H7::H9::H9::I0::I1::I2::I3::I4::I5::I6::I7::I8::I9::J1::J1::node8::J3::J4::J5::J6::J7::J8::J9::L0::L1::L2::L3::L4::L5::L6::L7::L8::L9::M0::M1::M2::M3::M4::M5::M6::M7::M8::M9::N0::N1::N2::N3::N4::N5::N6::N7::N8::N9::O0::O1::O2::O3::O4::O5::O6::O7::O8::O9::P0::P1::P2::P3::P4::P5::P6::P7::P8::[])) w) (bin Q BinOp.eql 5 false true H7 (cb 3) (fun L0 w=>cond L0 (aa Q 54 e7 4 (fun L2=>sto Q 24 L2 node8 fun _=>aa Q 74 x3 6 fun L3=>ld Q 72 L3 fun L4=>conv Q 72 2 L4 fun L5=>bin Q BinOp.add 2 false true L5 (ci 1) fun L6=>aa Q 54 e7 6 fun L7=>sto Q 2 L7 L6 fun _=>aa Q 74 x3 7 fun L8=>ld Q 5 L8 fun L9=>conv Q 5 24 L9 fun M0=>bin Q BinOp.add 24 false true M0 (cu 1) fun M1=>aa Q 54 e7 7 fun M2=>sto Q 24 M2 M1 fun _=>aw K (w_0::x1::w_2::x3::A1::o5::l6::e7::node8::A5::A6::A7::A8::A9::C0::C1::C2::C3::C4::C5::C6::C7::C8::C9::D0::D1::D2::D3::D4::D5::D6::D7::D8::D9::E0::E1::E2::E3::E4::E5::E6::E7::E8::E9::F0::F1::F2::F3::F4::F5::F6::F7::F8::F9::G0::G1::G2::G3::G4::G5::G6::G7::G8::G9::H0::H1::H2::H3::H4::H5::H6::H7::H9::H9::I0::I1::I2::I3::I4::I5::I6::I7::I8::I9::J1::J1::J2::J3::J4::J5::J6::J7::J8::L0::L0::node8::L2::L3::L4::L5::L6::L7::L8::L9::M0::M1::M2::M3::M4::M5::M6::M7::M8::M9::N0::N1::N2::N3::N4::N5::N6::N7::N8::N9::O0::O1::O2::O3::O4::O5::O6::O7::O8::O9::P0::P1::P2::P3::P4::P5::P6::P7::P8::[])) w) (bin Q BinOp.eql 5 false true H7 (cb 4) (fun M4 w=>cond M4 (aa Q 74 x3 7 (fun M5=>ld Q 5 M5 fun M6=>conv Q 5 24 M6 fun M7=>bin Q BinOp.add 24 false true M7 (cu 1) fun M8=>aa Q 54 e7 7 fun M9=>sto Q 24 M9 M8 fun _=>aa Q 74 x3 8 fun N0=>ld Q 5 N0 fun N1=>conv Q 5 24 N1 fun N2=>bin Q BinOp.add 24 false true N2 (cu 1) fun N3=>aa Q 54 e7 8 fun N4=>sto Q 24 N4 N3 fun _=>aw K (w_0::x1::w_2::x3::A1::o5::l6::e7::node8::A5::A6::A7::A8::A9::C0::C1::C2::C3::C4::C5::C6::C7::C8::C9::D0::D1::D2::D3::D4::D5::D6::D7::D8::D9::E0::E1::E2::E3::E4::E5::E6::E7::E8::E9::F0::F1::F2::F3::F4::F5::F6::F7::F8::F9::G0::G1::G2::G3::G4::G5::G6::G7::G8::G9::H0::H1::H2::H3::H4::H5::H6::H7::H9::H9::I0::I1::I2::I3::I4::I5::I6::I7::I8::I9::J1::J1::J2::J3::J4::J5::J6::J7::J8::L0::L0::L1::L2::L3::L4::L5::L6::L7::L8::L9::M0::M1::M2::M4::M4::M5::M6::M7::M8::M9::N0::N1::N2::N3::N4::N5::N6::N7::N8::N9::O0::O1::O2::O3::O4::O5::O6::O7::O8::O9::P0::P1::P2::P3::P4::P5::P6::P7::P8::[])) w) (bin Q BinOp.eql 5 false true H7 (cb 5) (fun N6=>ew K (w_0::x1::w_2::x3::A1::o5::l6::e7::node8::A5::A6::A7::A8::A9::C0::C1::C2::C3::C4::C5::C6::C7::C8::C9::D0::D1::D2::D3::D4::D5::D6::D7::D8::D9::E0::E1::E2::E3::E4::E5::E6::E7::E8::E9::F0::F1::F2::F3::F4::F5::F6::F7::F8::F9::G0::G1::G2::G3::G4::G5::G6::G7::G8::G9::H0::H1::H2::H3::H4::H5::H6::H7::H9::H9::I0::I1::I2::I3::I4::I5::I6::I7::I8::I9::J1::J1::J2::J3::J4::J5::J6::J7::J8::L0::L0::L1::L2::L3::L4::L5::L6::L7::L8::L9::M0::M1::M2::M4::M4::M5::M6::M7::M8::M9::N0::N1::N2::N3::N4::N6::N6::N7::N8::N9::O0::O1::O2::O3::O4::O5::O6::O7::O8::O9::P0::P1::P2::P3::P4::P5::P6::P7::P8::[])) w)) w)) w)) w)) w) :
  et K (w_0::x1::w_2::x3::A1::o5::l6::e7::node8::A5::A6::A7::A8::A9::C0::C1::C2::C3::C4::C5::C6::C7::C8::C9::D0::D1::D2::D3::D4::D5::D6::D7::D8::D9::E0::E1::E2::E3::E4::E5::E6::E7::E8::E9::F0::F1::F2::F3::F4::F5::F6::F7::F8::F9::G0::G1::G2::G3::G4::G5::G6::G7::G8::G9::H0::H1::H2::H3::H4::H5::H6::H7::H8::H9::I0::I1::I2::I3::I4::I5::I6::I7::I8::I9::J0::J1::J2::J3::J4::J5::J6::J7::J8::J9::L0::L1::L2::L3::L4::L5::L6::L7::L8::L9::M0::M1::M2::M3::M4::M5::M6::M7::M8::M9::N0::N1::N2::N3::N4::N5::N6::N7::N8::N9::O0::O1::O2::O3::O4::O5::O6::O7::O8::O9::P0::P1::P2::P3::P4::P5::P6::P7::P8::[]) w:=by
 delta et
 refine Eq.mp (congrArg (fun c=>ac Q c _ _ _ _ w) (by kernel_rfl:(rep [0,1,1,1,1,1,1,1,1,1] (cd Tryz.f35 [1,1,1,1,1,1,0,1,0,1,1,1,1,1,1,1,1,1]) (rep [0,1,0,0,1] (cd Tryz.f35 [1,1,1,1,1,1,0,1,0,1,0,0,1]) (cd Tryz.f35 [1,1,1,1,1,1,0,1])))=(cd Tryz.f35 [1,1,1,1,1,1,0,1]))) ?_
 revert h
 delta ew eu cw
 generalize (cd Tryz.f35 [1,1,1,1,1,1,0,1,0,1,0,0,1])=xc0
 generalize (cd Tryz.f35 [1,1,1,1,1,1,0,1,0,1,1,1,1,1,1,1,1,1])=xc1
 generalize (aw K)=qc0
 exact fun h=>Eq.mp (by kernel_rfl) h
theorem my {K:KV} {w:World}
  (h:cond I3 (aa Q 54 e7 4 (fun I5=>sto Q 24 I5 node8 fun _=>cw K (w_0::x1::w_2::x3::A1::o5::l6::e7::node8::A5::A6::A7::A8::A9::C0::C1::C2::C3::C4::C5::C6::C7::C8::C9::D0::D1::D2::D3::D4::D5::D6::D7::D8::D9::E0::E1::E2::E3::E4::E5::E6::E7::E8::E9::F0::F1::F2::F3::F4::F5::F6::F7::F8::F9::G0::G1::G2::G3::G4::G5::G6::G7::G8::G9::H0::H1::H2::H3::H4::H5::H6::H7::H8::H9::I0::I1::I2::I3::node8::I5::I6::I7::I8::I9::J0::J1::J2::J3::J4::J5::J6::J7::J8::J9::L0::L1::L2::L3::L4::L5::L6::L7::L8::L9::M0::M1::M2::M3::M4::M5::M6::M7::M8::M9::N0::N1::N2::N3::N4::N5::N6::N7::N8::N9::O0::O1::O2::O3::O4::O5::O6::O7::O8::O9::P0::P1::P2::P3::P4::P5::P6::P7::P8::[])) w) (cw K (w_0::x1::w_2::x3::A1::o5::l6::e7::node8::A5::A6::A7::A8::A9::C0::C1::C2::C3::C4::C5::C6::C7::C8::C9::D0::D1::D2::D3::D4::D5::D6::D7::D8::D9::E0::E1::E2::E3::E4::E5::E6::E7::E8::E9::F0::F1::F2::F3::F4::F5::F6::F7::F8::F9::G0::G1::G2::G3::G4::G5::G6::G7::G8::G9::H0::H1::H2::H3::H4::H5::H6::H7::H8::H9::I0::I1::I2::I3::I4::I5::I6::I7::I8::I9::J0::J1::J2::J3::J4::J5::J6::J7::J8::J9::L0::L1::L2::L3::L4::L5::L6::L7::L8::L9::M0::M1::M2::M3::M4::M5::M6::M7::M8::M9::N0::N1::N2::N3::N4::N5::N6::N7::N8::N9::O0::O1::O2::O3::O4::O5::O6::O7::O8::O9::P0::P1::P2::P3::P4::P5::P6::P7::P8::[]) w)) :
  eu K (w_0::x1::w_2::x3::A1::o5::l6::e7::node8::A5::A6::A7::A8::A9::C0::C1::C2::C3::C4::C5::C6::C7::C8::C9::D0::D1::D2::D3::D4::D5::D6::D7::D8::D9::E0::E1::E2::E3::E4::E5::E6::E7::E8::E9::F0::F1::F2::F3::F4::F5::F6::F7::F8::F9::G0::G1::G2::G3::G4::G5::G6::G7::G8::G9::H0::H1::H2::H3::H4::H5::H6::H7::H8::H9::I0::I1::I2::I3::I4::I5::I6::I7::I8::I9::J0::J1::J2::J3::J4::J5::J6::J7::J8::J9::L0::L1::L2::L3::L4::L5::L6::L7::L8::L9::M0::M1::M2::M3::M4::M5::M6::M7::M8::M9::N0::N1::N2::N3::N4::N5::N6::N7::N8::N9::O0::O1::O2::O3::O4::O5::O6::O7::O8::O9::P0::P1::P2::P3::P4::P5::P6::P7::P8::[]) w:=by
 delta eu
 revert h
 generalize (cw K)=qc0
 generalize (aw K)=qc1
 exact fun h=>Eq.mp (by kernel_rfl) h
theorem mz {K:KV} {w:World}
  (h:ld Q 54 e7 (fun P8=>sto Q 54 A1 P8 fun _=>aH Q [(some 54,A1)] K) w) :
  aw K (w_0::x1::w_2::x3::A1::o5::l6::e7::node8::A5::A6::A7::A8::A9::C0::C1::C2::C3::C4::C5::C6::C7::C8::C9::D0::D1::D2::D3::D4::D5::D6::D7::D8::D9::E0::E1::E2::E3::E4::E5::E6::E7::E8::E9::F0::F1::F2::F3::F4::F5::F6::F7::F8::F9::G0::G1::G2::G3::G4::G5::G6::G7::G8::G9::H0::H1::H2::H3::H4::H5::H6::H7::H8::H9::I0::I1::I2::I3::I4::I5::I6::I7::I8::I9::J0::J1::J2::J3::J4::J5::J6::J7::J8::J9::L0::L1::L2::L3::L4::L5::L6::L7::L8::L9::M0::M1::M2::M3::M4::M5::M6::M7::M8::M9::N0::N1::N2::N3::N4::N5::N6::N7::N8::N9::O0::O1::O2::O3::O4::O5::O6::O7::O8::O9::P0::P1::P2::P3::P4::P5::P6::P7::P8::[]) w:=by
 delta aw
 revert h
 exact fun h=>Eq.mp (by kernel_rfl) h
theorem mA {K:KV} {w:World}
  (h:cond N5 (aa Q 54 e7 4 (fun N8=>sto Q 24 N8 node8 fun _=>aa Q 74 x3 6 fun N9=>ld Q 72 N9 fun O0=>conv Q 72 2 O0 fun O1=>bin Q BinOp.add 2 false true O1 (ci 1) fun O2=>aa Q 54 e7 6 fun O3=>sto Q 2 O3 O2 fun _=>aa Q 74 x3 5 fun O4=>ld Q 5 O4 fun O5=>conv Q 5 3 O5 fun O6=>bin Q BinOp.rem 3 false true O6 (ci 6) fun O7=>bin Q BinOp.add 3 true false (ci 1) O7 fun O8=>aa Q 54 e7 5 fun O9=>sto Q 3 O9 O8 fun _=>aw K (w_0::x1::w_2::x3::A1::o5::l6::e7::node8::A5::A6::A7::A8::A9::C0::C1::C2::C3::C4::C5::C6::C7::C8::C9::D0::D1::D2::D3::D4::D5::D6::D7::D8::D9::E0::E1::E2::E3::E4::E5::E6::E7::E8::E9::F0::F1::F2::F3::F4::F5::F6::F7::F8::F9::G0::G1::G2::G3::G4::G5::G6::G7::G8::G9::H0::H1::H2::H3::H4::H5::H6::H7::H8::H9::I0::I1::I2::I3::I4::I5::I6::I7::I8::I9::J0::J1::J2::J3::J4::J5::J6::J7::J8::J9::L0::L1::L2::L3::L4::L5::L6::L7::L8::L9::M0::M1::M2::M3::M4::M5::M6::M7::M8::M9::N0::N1::N2::N3::N4::N5::N6::node8::N8::N9::O0::O1::O2::O3::O4::O5::O6::O7::O8::O9::P0::P1::P2::P3::P4::P5::P6::P7::P8::[])) w) (bin Q BinOp.eql 5 false true H7 (cb 6) (fun P1 w=>cond P1 (aa Q 74 x3 5 (fun P2=>ld Q 5 P2 fun P3=>conv Q 5 3 P3 fun P4=>bin Q BinOp.rem 3 false true P4 (ci 6) fun P5=>bin Q BinOp.add 3 true false (ci 1) P5 fun P6=>aa Q 54 e7 5 fun P7=>sto Q 3 P7 P6 fun _=>aw K (w_0::x1::w_2::x3::A1::o5::l6::e7::node8::A5::A6::A7::A8::A9::C0::C1::C2::C3::C4::C5::C6::C7::C8::C9::D0::D1::D2::D3::D4::D5::D6::D7::D8::D9::E0::E1::E2::E3::E4::E5::E6::E7::E8::E9::F0::F1::F2::F3::F4::F5::F6::F7::F8::F9::G0::G1::G2::G3::G4::G5::G6::G7::G8::G9::H0::H1::H2::H3::H4::H5::H6::H7::H8::H9::I0::I1::I2::I3::I4::I5::I6::I7::I8::I9::J0::J1::J2::J3::J4::J5::J6::J7::J8::J9::L0::L1::L2::L3::L4::L5::L6::L7::L8::L9::M0::M1::M2::M3::M4::M5::M6::M7::M8::M9::N0::N1::N2::N3::N4::N5::N6::N7::N8::N9::O0::O1::O2::O3::O4::O5::O6::O7::O8::O9::P1::P1::P2::P3::P4::P5::P6::P7::P8::[])) w) (aw K (w_0::x1::w_2::x3::A1::o5::l6::e7::node8::A5::A6::A7::A8::A9::C0::C1::C2::C3::C4::C5::C6::C7::C8::C9::D0::D1::D2::D3::D4::D5::D6::D7::D8::D9::E0::E1::E2::E3::E4::E5::E6::E7::E8::E9::F0::F1::F2::F3::F4::F5::F6::F7::F8::F9::G0::G1::G2::G3::G4::G5::G6::G7::G8::G9::H0::H1::H2::H3::H4::H5::H6::H7::H8::H9::I0::I1::I2::I3::I4::I5::I6::I7::I8::I9::J0::J1::J2::J3::J4::J5::J6::J7::J8::J9::L0::L1::L2::L3::L4::L5::L6::L7::L8::L9::M0::M1::M2::M3::M4::M5::M6::M7::M8::M9::N0::N1::N2::N3::N4::N5::N6::N7::N8::N9::O0::O1::O2::O3::O4::O5::O6::O7::O8::O9::P1::P1::P2::P3::P4::P5::P6::P7::P8::[]) w)) w)) :
  ew K (w_0::x1::w_2::x3::A1::o5::l6::e7::node8::A5::A6::A7::A8::A9::C0::C1::C2::C3::C4::C5::C6::C7::C8::C9::D0::D1::D2::D3::D4::D5::D6::D7::D8::D9::E0::E1::E2::E3::E4::E5::E6::E7::E8::E9::F0::F1::F2::F3::F4::F5::F6::F7::F8::F9::G0::G1::G2::G3::G4::G5::G6::G7::G8::G9::H0::H1::H2::H3::H4::H5::H6::H7::H8::H9::I0::I1::I2::I3::I4::I5::I6::I7::I8::I9::J0::J1::J2::J3::J4::J5::J6::J7::J8::J9::L0::L1::L2::L3::L4::L5::L6::L7::L8::L9::M0::M1::M2::M3::M4::M5::M6::M7::M8::M9::N0::N1::N2::N3::N4::N5::N6::N7::N8::N9::O0::O1::O2::O3::O4::O5::O6::O7::O8::O9::P0::P1::P2::P3::P4::P5::P6::P7::P8::[]) w:=by
 delta ew
 revert h
 generalize (aw K)=qc0
 exact fun h=>Eq.mp (by kernel_rfl) h
theorem j4 {K:KV} {w:World}
  (h:aa Q 74 x3 6 (fun I6=>ld Q 72 I6 fun I7=>conv Q 72 2 I7 fun I8=>aa Q 54 e7 6 fun I9=>sto Q 2 I9 I8 fun _=>aw K (w_0::x1::w_2::x3::A1::o5::l6::e7::node8::A5::A6::A7::A8::A9::C0::C1::C2::C3::C4::C5::C6::C7::C8::C9::D0::D1::D2::D3::D4::D5::D6::D7::D8::D9::E0::E1::E2::E3::E4::E5::E6::E7::E8::E9::F0::F1::F2::F3::F4::F5::F6::F7::F8::F9::G0::G1::G2::G3::G4::G5::G6::G7::G8::G9::H0::H1::H2::H3::H4::H5::H6::H7::H8::H9::I0::I1::I2::I3::I4::I5::I6::I7::I8::I9::J0::J1::J2::J3::J4::J5::J6::J7::J8::J9::L0::L1::L2::L3::L4::L5::L6::L7::L8::L9::M0::M1::M2::M3::M4::M5::M6::M7::M8::M9::N0::N1::N2::N3::N4::N5::N6::N7::N8::N9::O0::O1::O2::O3::O4::O5::O6::O7::O8::O9::P0::P1::P2::P3::P4::P5::P6::P7::P8::[])) w) :
  cw K (w_0::x1::w_2::x3::A1::o5::l6::e7::node8::A5::A6::A7::A8::A9::C0::C1::C2::C3::C4::C5::C6::C7::C8::C9::D0::D1::D2::D3::D4::D5::D6::D7::D8::D9::E0::E1::E2::E3::E4::E5::E6::E7::E8::E9::F0::F1::F2::F3::F4::F5::F6::F7::F8::F9::G0::G1::G2::G3::G4::G5::G6::G7::G8::G9::H0::H1::H2::H3::H4::H5::H6::H7::H8::H9::I0::I1::I2::I3::I4::I5::I6::I7::I8::I9::J0::J1::J2::J3::J4::J5::J6::J7::J8::J9::L0::L1::L2::L3::L4::L5::L6::L7::L8::L9::M0::M1::M2::M3::M4::M5::M6::M7::M8::M9::N0::N1::N2::N3::N4::N5::N6::N7::N8::N9::O0::O1::O2::O3::O4::O5::O6::O7::O8::O9::P0::P1::P2::P3::P4::P5::P6::P7::P8::[]) w:=by
 delta cw
 revert h
 generalize (aw K)=qc0
 exact fun h=>Eq.mp (by kernel_rfl) h
attribute [irreducible] dw bK er aw et cw eu ew
def eg (K:KV):KE:=ac Q (cd Tryz.f19 [1,1,1,1]) (rk Tryz.f19 K) xf (rk Tryz.f19 K)
def en (K:KV):KE:=ac Q (cd Tryz.f19 [1,1,1,1,1,1,1]) (rk Tryz.f19 K) xf (rk Tryz.f19 K)
end
theorem pa {K:KV} {w_0 x1:Value} {w:World}
  (h:box Q 74 x1 (fun x3=>alc Q 54 fun A1 w=>sti (aa Q 74 x3 0) (fun A5=>sti (ld Q 5 A5) fun A6=>sti (conv Q 5 3 A6) fun A7=>sti (aj w_0) fun A9=>sti (aa Q 47 A9 0) fun C0=>sti (ld Q 44 C0) fun C1=>sti (blt Q Builtin.len #[44] 3 #[false] #[C1]) fun C2=>sti (bin Q BinOp.rem 3 false false A7 C2) fun C3=>aa Q 74 x3 1 fun C4=>ld Q 4 C4 fun C5 w=>cond C5 (aX (fun S w=>hld S (aj w_0) fun C7=>hld S (aa Q 47 C7 0) fun C8=>hld S (ld Q 44 C8) fun C9=>hld S (aj w_0) fun D2=>hld S (aa Q 47 D2 0) fun D3=>hld S (ld Q 44 D3) fun D4=>hld S (af Q 44 D4 C3) fun D6=>hld S (ld Q 80 D6) fun D7=>hld S (aj w_0) fun D9=>hld S (aa Q 47 D9 1) fun E0=>hld S (ld Q 45 E0) fun E1=>hld S (aj w_0) fun E3=>hld S (aa Q 47 E3 0) fun E4=>hld S (ld Q 44 E4) fun E5=>hld S (aa Q 74 x3 2) fun E6=>hld S (ld Q 5 E6) fun E7=>hld S (conv Q 5 3 E7) fun E8=>hld S (aj w_0) fun F0=>hld S (aa Q 47 F0 0) fun F1=>hld S (ld Q 44 F1) fun F2=>hld S (blt Q Builtin.len #[44] 3 #[false] #[F2]) fun F3=>hld S (bin Q BinOp.rem 3 false false E8 F3) fun F4=>hld S (af Q 44 E5 F4) fun F5=>hld S (ld Q 80 F5) fun F6=>hld S (aj F6) fun F7=>hld S (aa Q 79 F7 0) fun F8=>hld S (aa Q 30 F8 2) fun F9=>hld S (ld Q 26 F9) fun G0=>call Q 34 #[D7,E1,G0] (fun G1=>dB S fun S w=>hld S (af Q 44 C9 C3) fun G2=>sto Q 80 G2 G1 (fun _=>bld Q 54 #[] fun G3=>sto Q 54 A1 G3 fun _=>aH Q [(some 54,A1)] K) w) w) w.drew) (ld Q 74 x3 (fun G5=>call Q 35 #[w_0,G5] fun G6=>alc Q 54 fun e6=>sto Q 54 e6 G6 fun _=>eg K (w_0::x1::undef::x3::A1::C3::e6::undef::undef::A5::A6::A7::w_0::A9::C0::C1::C2::C3::C4::C5::undef::undef::undef::undef::undef::undef::undef::undef::undef::undef::undef::undef::undef::undef::undef::undef::undef::undef::undef::undef::undef::undef::undef::undef::undef::undef::undef::undef::undef::undef::undef::undef::undef::undef::undef::undef::undef::undef::w_0::G5::G6::undef::undef::undef::undef::undef::undef::undef::undef::undef::undef::undef::undef::undef::undef::undef::undef::undef::undef::undef::undef::undef::undef::undef::undef::undef::undef::undef::undef::undef::undef::undef::undef::undef::[])) w)) w.drew) w) :
  Gives Q 19 #[w_0,x1] w K:=by
 refine aK Tryz.func19 (by kernel_rfl) <|Eq.mp (congrArg (fun c=>ac Q c _ _ _ _ w) (by kernel_rfl:(rep [1,1,1,1] (cd Tryz.f19 [1,1,1,1]) (cd Tryz.f19 []))=(cd Tryz.f19 []))) ?_
 revert h
 delta eg
 generalize (cd Tryz.f19 [1,1,1,1])=xc0
 exact fun h=>Eq.mp (by kernel_rfl) h
theorem pb:bD Q 19:=⟨_,Tryz.func19,by kernel_rfl,by kernel_rfl⟩
section
variable {w_0 x1 w_2 x3 A1 o5 e6 l7 f8 A5 A6 A7 A8 A9 C0 C1 C2 C3 C4 C5 C6 C7 C8 C9 D0 D1 D2 D3 D4 D5 D6 D7 D8 D9 E0 E1 E2 E3 E4 E5 E6 E7 E8 E9 F0 F1 F2 F3 F4 F5 F6 F7 F8 F9 G0 G1 G2 G3 G4 G5 G6 G7 G8 G9 H0 H1 H2 H3 H4 H5 H6 H7 H8 H9 I0 I1 I2 I3 I4 I5 I6 I7 I8 I9 J0 J1 J2 J3 J4 J5 J6 J7 J8 J9:Value}
theorem ot {K:KV} {w:World}
  (h:aX (fun S w=>hld S (aj w_0) fun G9=>hld S (aa Q 47 G9 0) fun H0=>hld S (ld Q 44 H0) fun H1=>hld S (af Q 44 H1 o5) fun H3=>hld S (ld Q 80 H3) fun H4=>hld S (ld Q 54 e6) fun H5=>call Q 36 #[H4,H5] (fun H6=>aX fun S w=>hld S (ext Q H6 0) fun H7=>hld S (ext Q H6 1) fun H8=>bin Q BinOp.neq 49 false true H8 (ci 0) (fun I0 w=>cond I0 (bld Q 54 #[] (fun I1=>sto Q 54 A1 I1 fun _=>aH Q [(some 54,A1)] K) w) (aj w_0 (fun I3=>aa Q 47 I3 0 fun I4=>ld Q 44 I4 fun I5=>af Q 44 I5 o5 fun I8=>sto Q 80 I8 H7 fun _=>en K (w_0::x1::w_2::x3::A1::o5::e6::H7::H8::A5::A6::A7::A8::A9::C0::C1::C2::C3::C4::C5::C6::C7::C8::C9::D0::D1::D2::D3::D4::D5::D6::D7::D8::D9::E0::E1::E2::E3::E4::E5::E6::E7::E8::E9::F0::F1::F2::F3::F4::F5::F6::F7::F8::F9::G0::G1::G2::G3::G4::G5::G6::H6::w_0::G9::H0::H1::o5::H3::H4::H5::H6::H7::H8::H8::I0::I1::w_0::I3::I4::I5::o5::H7::I8::I9::J0::J1::J2::J3::J4::J5::J6::J7::J8::J9::[])) w)) w) w) w.drew) :
  eg K (w_0::x1::w_2::x3::A1::o5::e6::l7::f8::A5::A6::A7::A8::A9::C0::C1::C2::C3::C4::C5::C6::C7::C8::C9::D0::D1::D2::D3::D4::D5::D6::D7::D8::D9::E0::E1::E2::E3::E4::E5::E6::E7::E8::E9::F0::F1::F2::F3::F4::F5::F6::F7::F8::F9::G0::G1::G2::G3::G4::G5::G6::G7::G8::G9::H0::H1::H2::H3::H4::H5::H6::H7::H8::H9::I0::I1::I2::I3::I4::I5::I6::I7::I8::I9::J0::J1::J2::J3::J4::J5::J6::J7::J8::J9::[]) w:=by
 delta eg
 refine Eq.mp (congrArg (fun c=>ac Q c _ _ _ _ w) (by kernel_rfl:(rep [1,1,1] (cd Tryz.f19 [1,1,1,1,1,1,1]) (cd Tryz.f19 [1,1,1,1]))=(cd Tryz.f19 [1,1,1,1]))) ?_
 revert h
 delta en
 generalize (cd Tryz.f19 [1,1,1,1,1,1,1])=xc0
 exact fun h=>Eq.mp (by kernel_rfl) h
theorem ou {K:KV} {w:World}
  (h:aX (fun S w=>hld S (aj w_0) fun J1=>hld S (aa Q 47 J1 1) fun J2=>hld S (ld Q 45 J2) fun J3=>hld S (ld Q 54 e6) fun J4=>aJ Q 45 1 #[(0,J4)] (fun J5=>dB S fun _=>blt Q Builtin.append #[45,45] 45 #[false,false] #[J3,J5] fun J6=>aX fun S w=>hld S (aj w_0) fun J7=>hld S (aa Q 47 J7 1) fun J8=>sto Q 45 J8 J6 (fun _=>ld Q 54 e6 fun J9=>sto Q 54 A1 J9 fun _=>aH Q [(some 54,A1)] K) w) w) w.drew) :
  en K (w_0::x1::w_2::x3::A1::o5::e6::l7::f8::A5::A6::A7::A8::A9::C0::C1::C2::C3::C4::C5::C6::C7::C8::C9::D0::D1::D2::D3::D4::D5::D6::D7::D8::D9::E0::E1::E2::E3::E4::E5::E6::E7::E8::E9::F0::F1::F2::F3::F4::F5::F6::F7::F8::F9::G0::G1::G2::G3::G4::G5::G6::G7::G8::G9::H0::H1::H2::H3::H4::H5::H6::H7::H8::H9::I0::I1::I2::I3::I4::I5::I6::I7::I8::I9::J0::J1::J2::J3::J4::J5::J6::J7::J8::J9::[]) w:=by
 delta en
 revert h
 exact fun h=>Eq.mp (by kernel_rfl) h
attribute [irreducible] eg en
end
end Go.Proofs.YtgpfkmdknlcemaaGreatDoor
namespace Go.Proofs.YtgpfkmdknlcemaaGreatDoor
set_option maxRecDepth 100000
open Go.RowKit
structure LC (w:World) (p:Nat) (l:LG) (C:Nat→Int):Prop where
 lm:∃ B,LM w B p l
 gi:GI l (sV l.s.V)
 le:∀ k,k < 6→l.s.V.getD k 0≤C k
theorem LC.fresh {w w':World} {p:Nat} {l:LG} {C:Nat→Int} (h:LC w p l C) (hb:Below w.heap.size w w'):LC w' p l C:=⟨h.lm.imp fun _ hh=>hh.fresh hb,h.gi,h.le⟩
theorem LC.sum {w:World} {p:Nat} {l:LG} {C:Nat→Int} (h:LC w p l C) (hC:C 0+C 1+C 2+C 3+C 4+C 5≤900):sV l.s.V≤900:=by
 have h0:=h.le 0 (by omega)
 have h1:=h.le 1 (by omega)
 have h2:=h.le 2 (by omega)
 have h3:=h.le 3 (by omega)
 have h4:=h.le 4 (by omega)
 have h5:=h.le 5 (by omega)
 unfold sV
 omega
theorem Im {V V':List Int} {e:EV} {f:Int} {C:Nat→Int} (hV:V.length=6) (h:apV V V' e f) (hle:∀ k,k < 6→V.getD k 0≤C k) (he:e.s≤C (e.o - 1).toNat):∀ k,k < 6→V'.getD k 0≤C k:=by
 rcases h with ⟨_,rfl⟩ | ⟨_,h1,h6,_,rfl⟩
 ·exact hle
 ·intro k hk
  rw [kR (by omega)]
  split
  ·rename_i hh; rw [← hh]; exact he
  ·exact hle k hk
def EC (E:List EV) (C:Nat→Int):Prop := ∀ e ∈ E,1≤e.o∧e.o≤6∧e.s≤C (e.o - 1).toNat
theorem pe (e:EV):(evC e).length=14:=rfl
attribute [local irreducible] bin un conv call bl blt slc aa fld af idx lkp bL bP eSt rng nxt ent ext alc box bld aJ ld sto aj bm mkS ifc pick rdy wts au sti cond aH Gives ac aW bA cOp
section
variable {w:World} {K:KV}
theorem EK {l0 all1 most2 l3 all4 most5 t6 round7 was8 i9 t10 t11 t12 t13 t14 t15 t16 t17 t18 t19 t20 t21 t22 t23 t24 t25 t26 t27 t28 t29 t30 t31 t32 t33 t34 t35 t36 t37 t38 t39 t40 t41 t42 t43 t44 t45 t46 t47 t48 t49 t50 t51 t52 t53 t54 t55 t56 t57 t58:Value} {B1:KE} {w0:World} {p r mb wb n c Ba:Nat} {a:Option Addr} {l:LG} {C:Nat→Int} {E:List EV} {M W:List Int} (hl:LC w p l C) (hC:C 0+C 1+C 2+C 3+C 4+C 5≤900) (hE:EC E C) (hn:E.length=n) (hn2:n≤100000) (hM:M.length=6) (hW:W.length=6) (hr:r≤100000)
  (row:w.ownsRow Ba 54 14 (.slice a n c) n (E.flatMap evC)) (hmb:blk w mb 26 (M.map u6)) (hwb:blk w wb 26 (W.map u6)) (bel:Below w0.heap.size w0 w)
  (q0:l0=.pointer (some ⟨p,0,none⟩)) (q1:all1=.slice a n c) (q5:most5=.pointer (some ⟨mb,0,none⟩)) (q7:round7=.int .i64 (r:Nat)) (q8:was8=.pointer (some ⟨wb,0,none⟩)) (q9:i9=.int .i64 0)
  (hB1:∀ (e:List Value) (w':World) p' l',gd e 0=.pointer (some ⟨p',0,none⟩)→gd e 7=.int .i64 ((r+1:Nat):Int)→LC w' p' l' C→w'.ownsRow Ba 54 14 (.slice a n c) n (E.flatMap evC)→blk w' mb 26 (M.map u6)→Below w0.heap.size w0 w'→B1 e w')
  (hK:∀ (w':World) p' l',LC w' p' l' C→Below w0.heap.size w0 w'→K (.pointer (some ⟨p',0,none⟩)) w'):fV K B1 ((l0::all1::most2::l3::all4::most5::t6::round7::was8::i9::t10::t11::t12::t13::t14::t15::t16::t17::t18::t19::t20::t21::t22::t23::t24::t25::t26::t27::t28::t29::t30::t31::t32::t33::t34::t35::t36::t37::t38::t39::t40::t41::t42::t43::t44::t45::t46::t47::t48::t49::t50::t51::t52::t53::t54::t55::t56::t57::t58::[])) w:=by
 subst q0 q1 q5 q7 q8 q9
 refine pL (Inv:=fun lv i wr => ∃ (k p':Nat) (l':LG),lv=.pointer (some ⟨p',0,none⟩)∧i=.int .i64 (k:Nat)∧k≤n∧LC wr p' l' C∧wr.ownsRow Ba 54 14 (.slice a n c) n (E.flatMap evC)∧blk wr mb 26 (M.map u6)∧blk wr wb 26 (W.map u6)∧Below w0.heap.size w0 wr) (μ:=fun _ i _=>n - (intOf i).toNat) ⟨0,p,l,rfl,rfl,by omega,hl,row,hmb,hwb,bel⟩ ?_
 rintro _ _ dd w1 mm ⟨k,p1,l1,rfl,rfl,hk,hl1,row1,hmb1,hwb1,bel1⟩ hmm
 refine aI Tryz.underlying45 ?_
 refine aD ?_
 by_cases hkn:k < n
 ·refine ai (by omega) ?_
  refine pN ?_
  have hx:E[k]? = some E[k]:=List.getElem?_eq_getElem (by omega)
  generalize E[k]=e at hx
  obtain ⟨e1,e6,es⟩:=hE e (List.mem_of_getElem? hx)
  obtain ⟨q,hq⟩:∃ q:Nat,q=(e.o - 1).toNat:=⟨_,rfl⟩
  have hl2:=hl1.fresh (Below.refl _ w1).drew
  have row2:w1.drew.ownsRow Ba 54 14 (.slice a n c) n (E.flatMap evC):=row1
  have hmb2:=hmb1.drew
  have hwb2:=hwb1.drew
  have bel2:=bel1.drew
  obtain ⟨g,cur,ha,op⟩:=aZ row2 (by omega)
  have c1:cur[k * 14+1]? = some (u6 e.s):=op.cell pe hn hx (show 1 < 14 by omega)
  have c0:cur[k * 14+0]? = some (iv e.o):=op.cell pe hn hx (show 0 < 14 by omega)
  refine a8 (v:=.pointer (some ⟨g,k * 14,none⟩)) (fun _=>gQ ha Tryz.underlying45 (fun _=>by kernel_rfl) hkn) ?_
  refine a8 (fun _=>jA) ?_
  refine a8 (v:=u6 e.s) (fun _=>ld1 (fun _=>by kernel_rfl) op.blk c1) ?_
  refine a8 (v:=.pointer (some ⟨g,k * 14,none⟩)) (fun _=>gQ ha Tryz.underlying45 (fun _=>by kernel_rfl) hkn) ?_
  refine a8 (fun _=>cC) ?_
  refine a8 (v:=iv e.o) (fun _=>ld1 (fun _=>by kernel_rfl) op.blk c0) ?_
  refine a8 (v:=.int .i64 ((q:Nat):Int)) (fun K hK=>bo (by omega) (by omega) (by rw [show (e.o - 1)=(q:Nat) by omega]; exact hK)) ?_
  refine a8 (fun _=>ixV rfl (by omega)) ?_
  refine a8 (v:=u6 (M.getD q 0)) (fun _=>ld1 (fun _=>by kernel_rfl) hmb2 (by rw [Nat.zero_add]; exact CJ (by omega))) ?_
  refine a8 (fun _=>fB) ?_
  refine kw (fun hd => ?_) (fun hd => ?_)
  ·refine GD (enc:=evC) (s:=14) Tryz.underlying45 (fun _=>by kernel_rfl) Tryz.underlying54 rfl (by kernel_rfl) pe row2 hn hx fun _ => ?_
   obtain ⟨B,hlm⟩:=hl2.lm
   refine zk hlm hl2.gi (hl2.sum hC) fun w3 B3 p3 l3 f hl3 hg3 hap b3 => ?_
   refine fy ?_
   refine fz ?_
   refine ku ?_
   refine aF (by omega) (by omega) ?_
   refine ⟨⟨k+1,p3,l3,rfl,congrArg (Value.int .i64) (by push_cast; rfl),by omega,⟨⟨B3,hl3⟩,hg3,Im hlm.v6 hap hl2.le es⟩,bj row2 fun b hb=>b3.block b (World.ownsRow.lt row2 b hb).2,ae b3 hmb2 hmb2.lt,ae b3 hwb2 hwb2.lt,bel2.trans (b3.mono bel2.size)⟩, ?_⟩
   rw [hmm]; show n - ((k:Int)+1).toNat < n - (k:Int).toNat; omega
  ·refine ku ?_
   refine aF (by omega) (by omega) ?_
   refine ⟨⟨k+1,p1,l1,rfl,congrArg (Value.int .i64) (by push_cast; rfl),by omega,hl2,row2,hmb2,hwb2,bel2⟩, ?_⟩
   rw [hmm]; show n - ((k:Int)+1).toNat < n - (k:Int).toNat; omega
 ·refine ag (by omega) ?_
  refine pO ?_
  have hl2:=hl1.fresh (Below.refl _ w1).drew
  obtain ⟨B,hlm⟩:=hl2.lm
  have hwb2:=hwb1.drew
  refine a8 (fun _=>ak) ?_
  refine a8 (fun _=>aA) ?_
  refine a8 (fun _=>iK) ?_
  refine a8 (v:=.agg (l1.s.V.map u6).toArray) (fun _=>ldA (n:=6) (vs:=l1.s.V.map u6) Tryz.underlying26 rfl (by kernel_rfl) hlm.cl hlm.cutV (by simp [hlm.v6])) ?_
  refine a8 (v:=.agg (W.map u6).toArray) (fun _=>ldA (n:=6) (vs:=W.map u6) Tryz.underlying26 rfl (by kernel_rfl) hwb2 (cutV hW) (by simp [hW])) ?_
  obtain ⟨v0,v1,v2,v3,v4,v5,hV6⟩:=pV hlm.v6
  obtain ⟨u0,u1,u2,u3,u4,u5,hW6⟩:=pV hW
  refine a8 (v:=.bool (decide (l1.s.V=W))) (fun K hK=>by
   rw [hV6,hW6] at hK ⊢
   refine BC 3 (by omega) (by kernel_rfl) (by kernel_rfl) (by kernel_rfl) (by kernel_rfl) fun r hr => ?_
   have hin:List.map u6 [v0,v1,v2,v3,v4,v5]=List.map u6 [u0,u1,u2,u3,u4,u5]↔[v0,v1,v2,v3,v4,v5]=[u0,u1,u2,u3,u4,u5]:=by simp [u6]
   have:r=decide ([v0,v1,v2,v3,v4,v5]=[u0,u1,u2,u3,u4,u5]):=Bool.eq_iff_iff.2 ((hr.trans hin).trans decide_eq_true_iff.symm)
   rw [this]; exact hK) ?_
  refine kw (fun hd => ?_) (fun hd => ?_)
  ·exact hK _ p1 l1 hl2 bel1.drew
  ·refine pP ?_
   refine aF (by omega) (by omega) ?_
   exact hB1 _ _ p1 l1 rfl (congrArg (Value.int .i64) (by push_cast; rfl)) hl2 row1 hmb1.drew bel1.drew
end
end Go.Proofs.YtgpfkmdknlcemaaGreatDoor
namespace Go.Proofs.YtgpfkmdknlcemaaGreatDoor
set_option maxRecDepth 100000
open Go.RowKit
attribute [local irreducible] bin un conv call bl blt slc aa fld af idx lkp bL bP eSt rng nxt ent ext alc box bld aJ ld sto aj bm mkS ifc pick rdy wts au sti cond aH Gives ac aW bA cOp
section
variable {w:World} {K:KV}
set_option maxHeartbeats 1000000 in
theorem Hc {p n c Ba:Nat} {a:Option Addr} {l:LG} {C:Nat→Int} {E:List EV} {M:List Int} (hl:LC w p l C) (hC:C 0+C 1+C 2+C 3+C 4+C 5≤900) (hE:EC E C) (hn:E.length=n) (hn2:n≤90000) (hM:M.length=6)
  (row:w.ownsRow Ba 54 14 (.slice a n c) n (E.flatMap evC))
  (h:∀ (w':World) p' l',LC w' p' l' C→Below w.heap.size w w'→K (.pointer (some ⟨p',0,none⟩)) w'):call Tryz.prog 34 #[.pointer (some ⟨p,0,none⟩),.slice a n c,.agg (M.map u6).toArray] K w:=by
 refine aE rR (rQ ?_)
 refine bh fun w1 hmb b1 s1 => ?_
 have hmb:blk w1 w.heap.size 26 (M.map u6):=by simpa [Value.cells] using hmb
 refine pK (Inv:=fun lv rv wr => ∃ (r p':Nat) (l':LG),lv=.pointer (some ⟨p',0,none⟩)∧rv=.int .i64 (r:Nat)∧r≤n+1∧LC wr p' l' C∧wr.ownsRow Ba 54 14 (.slice a n c) n (E.flatMap evC)∧blk wr w.heap.size 26 (M.map u6)∧Below w.heap.size w wr) (μ:=fun _ rv _=>n+1 - (intOf rv).toNat) ⟨0,p,l,rfl,rfl,by omega,hl.fresh b1,bj row fun b hb=>b1.block b (World.ownsRow.lt row b hb).2,hmb,b1⟩ ?_
 rintro _ _ dd w2 mm ⟨r,p2,l2,rfl,rfl,hr,hl2,row2,hmb2,bel2⟩ hmm
 refine aI Tryz.underlying45 <|fB ?_
 by_cases hrn:r≤n
 ·refine ai (by omega) ?_
  obtain ⟨B,hlm⟩:=hl2.lm
  refine ak <|aA <|iK <|ldA (n:=6) (vs:=l2.s.V.map u6) Tryz.underlying26 rfl (by kernel_rfl) hlm.cl hlm.cutV (by simp [hlm.v6]) <|cH (z:=.agg (([0,0,0,0,0,0]:List Int).map u6).toArray) (by kernel_rfl) fun w3 h3 b3 s3 => ?_
  have h3:blk w3 w2.heap.size 26 (([0,0,0,0,0,0]:List Int).map u6):=by simpa [Value.cells] using h3
  refine eM (n:=6) (vs:=l2.s.V.map u6) (by kernel_rfl) (by simp [hlm.v6]) h3 (by show 0+6≤6; omega) (by simp [u6,Value.oneCell']) fun w4 h4 o4 => ?_
  have h4:blk w4 w2.heap.size 26 (l2.s.V.map u6):=by
   rw [List.take_zero,List.nil_append,List.drop_of_length_le (by show 6≤0+6; omega),List.append_nil] at h4
   exact h4
  have B4:Below w2.heap.size w2 w4:=bN b3 o4 (Nat.le_refl _)
  refine EK (w0:=w) (r:=r) (hl2.fresh B4) hC hE hn (by omega) hM hlm.v6 (by omega) (bj row2 fun b hb=>B4.block b (World.ownsRow.lt row2 b hb).2) (ae B4 hmb2 hmb2.lt) h4 (bel2.trans (B4.mono bel2.size)) rfl rfl rfl rfl rfl rfl ?_ ?_
  ·intro e w' p' l' g0 g7 hl' row' hmb' bel'
   refine ⟨⟨r+1,p',l',g0,g7,by omega,hl',row',hmb',bel'⟩, ?_⟩
   rw [g7,hmm]
   show n+1 - (((r+1:Nat):Int)).toNat < n+1 - ((r:Nat):Int).toNat
   omega
  ·intro w' p' l' hl' bel'
   exact h w' p' l' hl' bel'
 ·refine ag (by omega) <|pM ?_
  exact h w2 p2 l2 hl2 bel2
end
def ptC (x:Nat × LG):List Value:=[.pointer (some ⟨x.1,0,none⟩)]
theorem kQ (x:Nat × LG):(ptC x).length=1:=rfl
structure WM (w:World) (Bw g:Nat) (L:List (Nat × LG)) (E:List EV) (C:Nat→Int):Prop where
 row:∃ la lc ea ec,blk w g 47 [.slice la L.length lc,.slice ea E.length ec]∧w.ownsRow Bw 80 1 (.slice la L.length lc) L.length (L.flatMap ptC)∧w.ownsRow Bw 54 14 (.slice ea E.length ec) E.length (E.flatMap evC)
 lo:Bw≤g
 led:∀ x ∈ L,LC w x.1 x.2 C
 pos:0 < L.length∧L.length≤6
 ev:EC E C
 sum:C 0+C 1+C 2+C 3+C 4+C 5=E.length
 c0:∀ k,k < 6→0≤C k
theorem WM.fresh {w w':World} {Bw g:Nat} {L:List (Nat × LG)} {E:List EV} {C:Nat→Int} (h:WM w Bw g L E C) (hb:Below w.heap.size w w'):WM w' Bw g L E C:=by
 obtain ⟨la,lc,ea,ec,h1,h2,h3⟩:=h.row
 exact { h with
  row:=⟨la,lc,ea,ec,ae hb h1 h1.lt,bj h2 fun b hb' => hb.block b (World.ownsRow.lt h2 b hb').2,bj h3 fun b hb' => hb.block b (World.ownsRow.lt h3 b hb').2⟩
  led:=fun x hx=>(h.led x hx).fresh hb }
end Go.Proofs.YtgpfkmdknlcemaaGreatDoor
namespace Go.Proofs.YtgpfkmdknlcemaaGreatDoor
set_option maxRecDepth 100000
open Go.RowKit
abbrev pQ:List TypeId:=[47,80,54]
theorem LM.keepW {w w':World} {B B' p:Nat} {l:LG} (h:LM w B p l) (hk:Keep pQ B' w w'):LM w' B p l :=
 { h with
  cl:=hk.blk h.cl (.inr (by decide))
  nd:=bO h.nd hk (by decide)
  gr:=bO h.gr hk (by decide)
  tm:=h.tm.keep hk (by decide) (by decide)
  rq:=fun k hk' => (h.rq k hk').imp fun a=>Exists.imp fun c hh=>⟨hh.1,bO hh.2 hk (by decide)⟩ }
theorem LC.keepW {w w':World} {B' p:Nat} {l:LG} {C:Nat→Int} (h:LC w p l C) (hk:Keep pQ B' w w'):LC w' p l C:=⟨h.lm.imp fun _ hh=>hh.keepW hk,h.gi,h.le⟩
theorem fN {w:World} {K:KV} {b o:Nat} (h:K (.pointer (some ⟨b,o+0,none⟩)) w):aa Tryz.prog 47 (.pointer (some ⟨b,o,none⟩)) 0 K w:=aq (by kernel_rfl) h
theorem uD {w:World} {K:KV} {b o:Nat} (h:K (.pointer (some ⟨b,o+1,none⟩)) w):aa Tryz.prog 47 (.pointer (some ⟨b,o,none⟩)) 1 K w:=aq (by kernel_rfl) h
attribute [local irreducible] bin un conv call bl blt slc aa fld af idx lkp bL bP eSt rng nxt ent ext alc box bld aJ ld sto aj bm mkS ifc pick rdy wts au sti cond aH Gives ac aW bA cOp
section
variable {w:World} {K:KV}
theorem EL:(Tryz.prog.info? 80).map (fun i=>(i.zero,i.size,i.bytes))=some (some (.pointer none),1,8):=by kernel_rfl
theorem JS {l:LG} (hg:GI l 0) {w:World} {p B:Nat} (hl:LM w B p l) (h0:l.s.V=List.replicate 6 0):LC w p l fun _=>0:=by
 have e:∀ k,l.s.V.getD k 0=0:=by
  intro k
  rw [h0,List.getD_eq_getElem?_getD,List.getElem?_replicate]
  split <;> rfl
 exact ⟨⟨B,hl⟩,hg.mono (by omega),fun k _=>by rw [e]; exact Int.le_refl _⟩
set_option maxHeartbeats 1000000 in
theorem Cr {n:Nat} (h1:1≤n) (h6:n≤6) (h:∀ (w':World) g L,WM w' w.heap.size g L [] (fun _=>0)→L.length=n→Below w.heap.size w w'→K (.pointer (some ⟨g,0,none⟩)) w'):call Tryz.prog 18 #[.int .i64 (n:Nat)] K w:=by
 refine aE p9 (p8 ?_)
 refine eE (vs:=[fu,fu]) (by kernel_rfl) ?_
 refine bh fun w1 hw b1 s1 => ?_
 have hw:blk w1 w.heap.size 47 [fu,fu]:=by simpa [Value.cells] using hw
 refine oo (Inv:=fun i wr => ∃ (L:List (Nat × LG)) (la:Option Addr) (lc:Nat),i=.int .i64 (L.length:Nat)∧L.length≤n∧blk wr w.heap.size 47 [.slice la L.length lc,fu]∧wr.ownsRow w.heap.size 80 1 (.slice la L.length lc) L.length (L.flatMap ptC)∧(∀ x ∈ L,LC wr x.1 x.2 fun _=>0)∧Below w.heap.size w wr) (μ:=fun i _=>n - (intOf i).toNat) ⟨[],none,0,rfl,by simp,hw,World.ownsRow_nil _ _ _ _,by simp,b1⟩ ?_
 rintro _ dd w2 mm ⟨L,la,lc,rfl,hL,hw2,row2,led2,bel2⟩ hmm
 refine aD ?_
 by_cases hLn:L.length < n
 ·refine ai (by omega) ?_
  refine Ir h1 h6 fun w3 p l hl hg hV b3 => ?_
  refine fy ?_
  refine fz ?_
  have hw3:=ae b3 hw2 hw2.lt
  have row3:=bj row2 fun b hb=>b3.block b (World.ownsRow.lt row2 b hb).2
  have bel3:=bel2.trans (b3.mono bel2.size)
  refine ak ?_
  refine fN ?_
  refine ld1 (v:=.slice la L.length lc) (fun _=>by kernel_rfl) hw3 rfl ?_
  refine hH (vs:=[.pointer (some ⟨p,0,none⟩)]) Tryz.underlying44 (s:=1) (by kernel_rfl) (by kernel_rfl) (by omega) rfl (by simp) (by simp) (by simp) (by simp [Value.cells]) fun w4 h4 b4 s4 => ?_
  have h4:blk w4 w3.heap.size 80 (ptC (p,l)):=by simpa [Value.cells,ptC] using h4
  have row4:=bj row3 fun b hb=>b4.block b (World.ownsRow.lt row3 b hb).2
  have hw4:=ae b4 hw3 hw3.lt
  have bel4:=bel3.trans (b4.mono bel3.size)
  obtain ⟨ii,hi',hz,hsz,hby⟩:=info_parts EL
  refine ka (base:=w.heap.size) (enc:=ptC) (x:=(p,l)) Tryz.underlying44 hi' hz hsz hby rfl (by omega) kQ row4 h4 (by simp [ptC,Value.oneCell']) (by omega) (by omega) bel4.size fun a5 c5 w5 row5 hgr b5 _ => ?_
  have hw5:=dv hw4 row4 (by decide) hgr
  refine ak ?_
  refine fN ?_
  refine eD (fun _=>by kernel_rfl) hw5 (by simp) rfl fun w6 hw6 o6 => ?_
  have hw6:blk w6 w.heap.size 47 [.slice a5 (L.length+1) c5,fu]:=hw6
  refine aF (by omega) (by omega) ?_
  have hlen:(L++[(p,l)]).length=L.length+1:=by simp
  have k6:Keep pQ w.heap.size w4 w6:=(Keep.grown hgr row4 (by simp) (Nat.le_refl _)).trans (o6.keep hw5 (by simp) (Nat.le_refl _))
  refine ⟨⟨L++[(p,l)],a5,c5,by rw [hlen]; exact congrArg (Value.int .i64) (by push_cast; rfl),by omega,by rw [hlen]; exact hw6,by rw [hlen]; exact bR row5 hw5 (by decide) o6, ?_,bN (bel4.trans b5) o6 (Nat.le_refl _)⟩, ?_⟩
  ·intro x hx
   rcases List.mem_append.1 hx with hh | hh
   ·exact (((led2 x hh).fresh b3).fresh b4).keepW k6
   ·rw [List.mem_singleton.1 hh]
    exact ((JS hg hl hV).fresh b4).keepW k6
  ·rw [hmm]; show n - ((L.length:Int)+1).toNat < n - ((L.length:Nat):Int).toNat; omega
 ·refine ag (by omega) ?_
  refine oq ?_
  refine h w2 _ L ⟨⟨la,lc,none,0,hw2,row2,World.ownsRow_nil _ _ _ _⟩,Nat.le_refl _,led2,by omega,fun e he=>absurd he (by simp),rfl,fun _ _=>Int.le_refl _⟩ (by omega) bel2
end
end Go.Proofs.YtgpfkmdknlcemaaGreatDoor
namespace Go.Proofs.YtgpfkmdknlcemaaGreatDoor
set_option maxRecDepth 100000
open Go.RowKit
structure AC where
 who:Int
 meet:Bool
 other:Int
 kind:Int
 node:Int
 to:Int
 am:Int
 req:Int
 of':Int
def acC (x:AC):List Value:=[kv8 x.who,.bool x.meet,kv8 x.other,kv8 x.kind,kv8 x.node,kv8 x.to,.int .u16 x.am,kv8 x.req,kv8 x.of']
def uE (x:AC):Prop:=(0≤x.who∧x.who≤255)∧(0≤x.other∧x.other≤255)∧(0≤x.node∧x.node≤255)
theorem zl {w:World} {K:KV} {b o:Nat} (h:K (.pointer (some ⟨b,o+0,none⟩)) w):aa Tryz.prog 74 (.pointer (some ⟨b,o,none⟩)) 0 K w:=aq (by kernel_rfl) h
theorem EM {w:World} {K:KV} {b o:Nat} (h:K (.pointer (some ⟨b,o+1,none⟩)) w):aa Tryz.prog 74 (.pointer (some ⟨b,o,none⟩)) 1 K w:=aq (by kernel_rfl) h
theorem EN {w:World} {K:KV} {b o:Nat} (h:K (.pointer (some ⟨b,o+2,none⟩)) w):aa Tryz.prog 74 (.pointer (some ⟨b,o,none⟩)) 2 K w:=aq (by kernel_rfl) h
theorem EO {w:World} {K:KV} {b o:Nat} (h:K (.pointer (some ⟨b,o+3,none⟩)) w):aa Tryz.prog 74 (.pointer (some ⟨b,o,none⟩)) 3 K w:=aq (by kernel_rfl) h
theorem zm {w:World} {K:KV} {b o:Nat} (h:K (.pointer (some ⟨b,o+4,none⟩)) w):aa Tryz.prog 74 (.pointer (some ⟨b,o,none⟩)) 4 K w:=aq (by kernel_rfl) h
theorem zn {w:World} {K:KV} {b o:Nat} (h:K (.pointer (some ⟨b,o+5,none⟩)) w):aa Tryz.prog 74 (.pointer (some ⟨b,o,none⟩)) 5 K w:=aq (by kernel_rfl) h
theorem ny {w:World} {K:KV} {b o:Nat} (h:K (.pointer (some ⟨b,o+6,none⟩)) w):aa Tryz.prog 74 (.pointer (some ⟨b,o,none⟩)) 6 K w:=aq (by kernel_rfl) h
theorem zo {w:World} {K:KV} {b o:Nat} (h:K (.pointer (some ⟨b,o+7,none⟩)) w):aa Tryz.prog 74 (.pointer (some ⟨b,o,none⟩)) 7 K w:=aq (by kernel_rfl) h
theorem EP {w:World} {K:KV} {b o:Nat} (h:K (.pointer (some ⟨b,o+8,none⟩)) w):aa Tryz.prog 74 (.pointer (some ⟨b,o,none⟩)) 8 K w:=aq (by kernel_rfl) h
attribute [local irreducible] bin un conv call bl blt slc aa fld af idx lkp bL bP eSt rng nxt ent ext alc box bld aJ ld sto aj bm mkS ifc pick rdy wts au sti cond aH Gives ac aW bA cOp
section
variable {w:World} {K:KV}
structure EVS (w0 w:World) (x:AC) (o:Int) (e:EV) (xb tb eb:Nat):Prop where
 x3:blk w xb 74 (acC x)
 t4:∃ zs:List Value,blk w tb 54 zs∧zs.length=14
 ev:blk w eb 54 (evC e)
 eo:e.o=o
 bel:Below w0.heap.size w0 w
 lo:w0.heap.size≤tb∧w0.heap.size≤eb∧tb≠eb
theorem EVS.st {w0:World} {x:AC} {o:Int} {e e':EV} {xb tb eb k:Nat} {t:TypeId} {v:Value} (g:EVS w0 w x o e xb tb eb) (hv:v.oneCell'=true) (hs:∀ w,(sizeOf t).run Tryz.prog w=.ok 1 w) (hk:k < 14) (he:(evC e).set k v=evC e') (ho:e'.o=e.o)
  (h:∀ w',EVS w0 w' x o e' xb tb eb→K undef w'):sto Tryz.prog t (.pointer (some ⟨eb,k,none⟩)) v K w:=by
 obtain ⟨zs,hz,hzl⟩:=g.t4
 refine eD hs g.ev hk hv fun w1 h1 o1 => ?_
 rw [he] at h1
 exact h w1 ⟨o1.blk g.x3 (fun hh=>g.x3.ne g.ev (by decide) hh),⟨zs,o1.blk hz g.lo.2.2,hzl⟩,h1,ho.trans g.eo,bN g.bel o1 g.lo.2.1,g.lo⟩
theorem oF {w_0 x1 w_2 x3 t4 o5 l6 e7 node8 t9 t10 t11 t12 t13 t14 t15 t16 t17 t18 t19 t20 t21 t22 t23 t24 t25 t26 t27 t28 t29 t30 t31 t32 t33 t34 t35 t36 t37 t38 t39 t40 t41 t42 t43 t44 t45 t46 t47 t48 t49 t50 t51 t52 t53 t54 t55 t56 t57 t58 t59 t60 t61 t62 t63 t64 t65 t66 t67 t68 t69 t70 t71 t72 t73 t74 t75 t76 t77 t78 t79 t80 t81 t82 t83 t84 t85 t86 t87 t88 t89 t90 t91 t92 t93 t94 t95 t96 t97 t98 t99 t100 t101 t102 t103 t104 t105 t106 t107 t108 t109 t110 t111 t112 t113 t114 t115 t116 t117 t118 t119 t120 t121 t122 t123 t124 t125 t126 t127 t128 t129 t130 t131 t132 t133 t134 t135 t136 t137 t138 t139 t140 t141 t142:Value} {w0:World} {x:AC} {o:Int} {e:EV} {xb tb eb:Nat} (g:EVS w0 w x o e xb tb eb) (q4:t4=.pointer (some ⟨tb,0,none⟩)) (q7:e7=.pointer (some ⟨eb,0,none⟩))
  (h:∀ w' e',e'.o=o→Below w0.heap.size w0 w'→K (.agg (evC e').toArray) w'):aw K ((w_0::x1::w_2::x3::t4::o5::l6::e7::node8::t9::t10::t11::t12::t13::t14::t15::t16::t17::t18::t19::t20::t21::t22::t23::t24::t25::t26::t27::t28::t29::t30::t31::t32::t33::t34::t35::t36::t37::t38::t39::t40::t41::t42::t43::t44::t45::t46::t47::t48::t49::t50::t51::t52::t53::t54::t55::t56::t57::t58::t59::t60::t61::t62::t63::t64::t65::t66::t67::t68::t69::t70::t71::t72::t73::t74::t75::t76::t77::t78::t79::t80::t81::t82::t83::t84::t85::t86::t87::t88::t89::t90::t91::t92::t93::t94::t95::t96::t97::t98::t99::t100::t101::t102::t103::t104::t105::t106::t107::t108::t109::t110::t111::t112::t113::t114::t115::t116::t117::t118::t119::t120::t121::t122::t123::t124::t125::t126::t127::t128::t129::t130::t131::t132::t133::t134::t135::t136::t137::t138::t139::t140::t141::t142::[])) w:=by
 subst q4 q7
 refine mz ?_
 refine ldA (n:=14) (vs:=evC e) Tryz.underlying54 rfl (by kernel_rfl) g.ev rfl rfl ?_
 obtain ⟨zs,hz,hzl⟩:=g.t4
 refine eM (n:=14) (vs:=evC e) (by kernel_rfl) rfl hz (by omega) (ln _) fun w1 h1 o1 => ?_
 refine CH (vs:=evC e) Tryz.underlying54 rfl (by kernel_rfl) h1 (by rw [List.take_zero,List.nil_append,List.drop_of_length_le (by omega),List.append_nil]) ?_
 exact h w1 e g.eo (bN g.bel o1 g.lo.1)
set_option maxHeartbeats 4000000 in
theorem Gv {w_0 x1 w_2 x3 t4 o5 l6 e7 node8 t9 t10 t11 t12 t13 t14 t15 t16 t17 t18 t19 t20 t21 t22 t23 t24 t25 t26 t27 t28 t29 t30 t31 t32 t33 t34 t35 t36 t37 t38 t39 t40 t41 t42 t43 t44 t45 t46 t47 t48 t49 t50 t51 t52 t53 t54 t55 t56 t57 t58 t59 t60 t61 t62 t63 t64 t65 t66 t67 t68 t69 t70 t71 t72 t73 t74 t75 t76 t77 t78 t79 t80 t81 t82 t83 t84 t85 t86 t87 t88 t89 t90 t91 t92 t93 t94 t95 t96 t97 t98 t99 t100 t101 t102 t103 t104 t105 t106 t107 t108 t109 t110 t111 t112 t113 t114 t115 t116 t117 t118 t119 t120 t121 t122 t123 t124 t125 t126 t127 t128 t129 t130 t131 t132 t133 t134 t135 t136 t137 t138 t139 t140 t141 t142:Value} {w0:World} {x:AC} {o nd:Int} {e:EV} {xb tb eb:Nat} (g:EVS w0 w x o e xb tb eb) (q3:x3=.pointer (some ⟨xb,0,none⟩)) (q4:t4=.pointer (some ⟨tb,0,none⟩)) (q7:e7=.pointer (some ⟨eb,0,none⟩)) (q8:node8=u6 nd) (hok:uE x)
  (h:∀ w' e',e'.o=o→Below w0.heap.size w0 w'→K (.agg (evC e').toArray) w'):bK K ((w_0::x1::w_2::x3::t4::o5::l6::e7::node8::t9::t10::t11::t12::t13::t14::t15::t16::t17::t18::t19::t20::t21::t22::t23::t24::t25::t26::t27::t28::t29::t30::t31::t32::t33::t34::t35::t36::t37::t38::t39::t40::t41::t42::t43::t44::t45::t46::t47::t48::t49::t50::t51::t52::t53::t54::t55::t56::t57::t58::t59::t60::t61::t62::t63::t64::t65::t66::t67::t68::t69::t70::t71::t72::t73::t74::t75::t76::t77::t78::t79::t80::t81::t82::t83::t84::t85::t86::t87::t88::t89::t90::t91::t92::t93::t94::t95::t96::t97::t98::t99::t100::t101::t102::t103::t104::t105::t106::t107::t108::t109::t110::t111::t112::t113::t114::t115::t116::t117::t118::t119::t120::t121::t122::t123::t124::t125::t126::t127::t128::t129::t130::t131::t132::t133::t134::t135::t136::t137::t138::t139::t140::t141::t142::[])) w:=by
 subst q3 q4 q7 q8
 refine mt ?_
 refine iU ?_
 refine ld1 (v:=kv8 e.k) (fun _=>by kernel_rfl) g.ev rfl ?_
 refine mw ?_
 refine aN ?_
 by_cases k1:e.k=1
 ·refine ai k1 ?_
  refine zm ?_
  refine ld1 (v:=kv8 x.node) (fun _=>by kernel_rfl) g.x3 rfl ?_
  refine kV (by omega) ?_
  refine aN ?_
  refine my ?_
  refine kw (fun hd => ?_) (fun hd => ?_)
  ·refine dU ?_
   refine g.st (e' := { e with n:=nd }) rfl (fun _=>by kernel_rfl) (by decide) rfl rfl fun wx g => ?_
   refine j4 ?_
   refine ny ?_
   refine ld1 (v:=.int .u16 x.am) (fun _=>by kernel_rfl) g.x3 rfl ?_
   refine dy Tryz.underlying72 Tryz.underlying2 ?_
   refine cS ?_
   refine g.st (e' := { ({ e with n:=nd }:EV) with a:=IntKind.i64.wrap x.am }) rfl (fun _=>by kernel_rfl) (by decide) rfl rfl fun wx g => ?_
   exact oF g rfl rfl h
  ·refine j4 ?_
   refine ny ?_
   refine ld1 (v:=.int .u16 x.am) (fun _=>by kernel_rfl) g.x3 rfl ?_
   refine dy Tryz.underlying72 Tryz.underlying2 ?_
   refine cS ?_
   refine g.st (e' := { e with a:=IntKind.i64.wrap x.am }) rfl (fun _=>by kernel_rfl) (by decide) rfl rfl fun wx g => ?_
   exact oF g rfl rfl h
 refine ag k1 ?_
 refine aN ?_
 by_cases k2:e.k=2
 ·refine ai k2 ?_
  refine dU ?_
  refine g.st (e' := { e with n:=nd }) rfl (fun _=>by kernel_rfl) (by decide) rfl rfl fun wx g => ?_
  refine ny ?_
  refine ld1 (v:=.int .u16 x.am) (fun _=>by kernel_rfl) g.x3 rfl ?_
  refine dy Tryz.underlying72 Tryz.underlying2 ?_
  refine fC ?_
  refine cS ?_
  refine g.st (e' := { ({ e with n:=nd }:EV) with a:=IntKind.i64.wrap (IntKind.i64.wrap x.am+1) }) rfl (fun _=>by kernel_rfl) (by decide) rfl rfl fun wx g => ?_
  exact oF g rfl rfl h
 refine ag k2 ?_
 refine aN ?_
 by_cases k3:e.k=3
 ·refine ai k3 ?_
  refine dU ?_
  refine g.st (e' := { e with n:=nd }) rfl (fun _=>by kernel_rfl) (by decide) rfl rfl fun wx g => ?_
  refine ny ?_
  refine ld1 (v:=.int .u16 x.am) (fun _=>by kernel_rfl) g.x3 rfl ?_
  refine dy Tryz.underlying72 Tryz.underlying2 ?_
  refine fC ?_
  refine cS ?_
  refine g.st (e' := { ({ e with n:=nd }:EV) with a:=IntKind.i64.wrap (IntKind.i64.wrap x.am+1) }) rfl (fun _=>by kernel_rfl) (by decide) rfl rfl fun wx g => ?_
  refine zo ?_
  refine ld1 (v:=kv8 x.req) (fun _=>by kernel_rfl) g.x3 rfl ?_
  refine dy Tryz.underlying5 Tryz.underlying24 ?_
  refine fC ?_
  refine fb ?_
  refine g.st (e' := { ({ ({ e with n:=nd }:EV) with a:=IntKind.i64.wrap (IntKind.i64.wrap x.am+1) }:EV) with r:=IntKind.u64.wrap (IntKind.u64.wrap x.req+1) }) rfl (fun _=>by kernel_rfl) (by decide) rfl rfl fun wx g => ?_
  exact oF g rfl rfl h
 refine ag k3 ?_
 refine aN ?_
 by_cases k4:e.k=4
 ·refine ai k4 ?_
  refine zo ?_
  refine ld1 (v:=kv8 x.req) (fun _=>by kernel_rfl) g.x3 rfl ?_
  refine dy Tryz.underlying5 Tryz.underlying24 ?_
  refine fC ?_
  refine fb ?_
  refine g.st (e' := { e with r:=IntKind.u64.wrap (IntKind.u64.wrap x.req+1) }) rfl (fun _=>by kernel_rfl) (by decide) rfl rfl fun wx g => ?_
  refine EP ?_
  refine ld1 (v:=kv8 x.of') (fun _=>by kernel_rfl) g.x3 rfl ?_
  refine dy Tryz.underlying5 Tryz.underlying24 ?_
  refine fC ?_
  refine lq ?_
  refine g.st (e' := { ({ e with r:=IntKind.u64.wrap (IntKind.u64.wrap x.req+1) }:EV) with f:=IntKind.u64.wrap (IntKind.u64.wrap x.of'+1) }) rfl (fun _=>by kernel_rfl) (by decide) rfl rfl fun wx g => ?_
  exact oF g rfl rfl h
 refine ag k4 ?_
 refine aN ?_
 refine mA ?_
 by_cases k5:e.k=5
 ·refine ai k5 ?_
  refine dU ?_
  refine g.st (e' := { e with n:=nd }) rfl (fun _=>by kernel_rfl) (by decide) rfl rfl fun wx g => ?_
  refine ny ?_
  refine ld1 (v:=.int .u16 x.am) (fun _=>by kernel_rfl) g.x3 rfl ?_
  refine dy Tryz.underlying72 Tryz.underlying2 ?_
  refine fC ?_
  refine cS ?_
  refine g.st (e' := { ({ e with n:=nd }:EV) with a:=IntKind.i64.wrap (IntKind.i64.wrap x.am+1) }) rfl (fun _=>by kernel_rfl) (by decide) rfl rfl fun wx g => ?_
  refine zn ?_
  refine ld1 (v:=kv8 x.to) (fun _=>by kernel_rfl) g.x3 rfl ?_
  refine dy Tryz.underlying5 Tryz.underlying3 ?_
  refine kV (by omega) ?_
  refine fC ?_
  refine fa ?_
  refine g.st (e' := { ({ ({ e with n:=nd }:EV) with a:=IntKind.i64.wrap (IntKind.i64.wrap x.am+1) }:EV) with t:=IntKind.i64.wrap (1+(IntKind.i64.wrap x.to).tmod 6) }) rfl (fun _=>by kernel_rfl) (by decide) rfl rfl fun wx g => ?_
  exact oF g rfl rfl h
 refine ag k5 ?_
 refine aN ?_
 by_cases k6:e.k=6
 ·refine ai k6 ?_
  refine zn ?_
  refine ld1 (v:=kv8 x.to) (fun _=>by kernel_rfl) g.x3 rfl ?_
  refine dy Tryz.underlying5 Tryz.underlying3 ?_
  refine kV (by omega) ?_
  refine fC ?_
  refine fa ?_
  refine g.st (e' := { e with t:=IntKind.i64.wrap (1+(IntKind.i64.wrap x.to).tmod 6) }) rfl (fun _=>by kernel_rfl) (by decide) rfl rfl fun wx g => ?_
  exact oF g rfl rfl h
 refine ag k6 ?_
 exact oF g rfl rfl h
end
end Go.Proofs.YtgpfkmdknlcemaaGreatDoor
namespace Go.Proofs.YtgpfkmdknlcemaaGreatDoor
set_option maxRecDepth 100000
open Go.RowKit
attribute [local irreducible] bin un conv call bl blt slc aa fld af idx lkp bL bP eSt rng nxt ent ext alc box bld aJ ld sto aj bm mkS ifc pick rdy wts au sti cond aH Gives ac aW bA cOp
section
variable {w:World} {K:KV}
theorem Jr {w_0 x1 w_2 x3 t4 o5 l6 e7 node8 t9 t10 t11 t12 t13 t14 t15 t16 t17 t18 t19 t20 t21 t22 t23 t24 t25 t26 t27 t28 t29 t30 t31 t32 t33 t34 t35 t36 t37 t38 t39 t40 t41 t42 t43 t44 t45 t46 t47 t48 t49 t50 t51 t52 t53 t54 t55 t56 t57 t58 t59 t60 t61 t62 t63 t64 t65 t66 t67 t68 t69 t70 t71 t72 t73 t74 t75 t76 t77 t78 t79 t80 t81 t82 t83 t84 t85 t86 t87 t88 t89 t90 t91 t92 t93 t94 t95 t96 t97 t98 t99 t100 t101 t102 t103 t104 t105 t106 t107 t108 t109 t110 t111 t112 t113 t114 t115 t116 t117 t118 t119 t120 t121 t122 t123 t124 t125 t126 t127 t128 t129 t130 t131 t132 t133 t134 t135 t136 t137 t138 t139 t140 t141 t142:Value} {w0:World} {x:AC} {o:Int} {e:EV} {xb tb eb p:Nat} {l:LG} {C:Nat→Int} (g:EVS w0 w x o e xb tb eb) (hl:LC w p l C) (hsum:C 0+C 1+C 2+C 3+C 4+C 5≤900) (q6:l6=.pointer (some ⟨p,0,none⟩)) (q3:x3=.pointer (some ⟨xb,0,none⟩)) (q4:t4=.pointer (some ⟨tb,0,none⟩)) (q7:e7=.pointer (some ⟨eb,0,none⟩)) (hok:uE x)
  (h:∀ w' e',e'.o=o→Below w0.heap.size w0 w'→K (.agg (evC e').toArray) w'):dw K ((w_0::x1::w_2::x3::t4::o5::l6::e7::node8::t9::t10::t11::t12::t13::t14::t15::t16::t17::t18::t19::t20::t21::t22::t23::t24::t25::t26::t27::t28::t29::t30::t31::t32::t33::t34::t35::t36::t37::t38::t39::t40::t41::t42::t43::t44::t45::t46::t47::t48::t49::t50::t51::t52::t53::t54::t55::t56::t57::t58::t59::t60::t61::t62::t63::t64::t65::t66::t67::t68::t69::t70::t71::t72::t73::t74::t75::t76::t77::t78::t79::t80::t81::t82::t83::t84::t85::t86::t87::t88::t89::t90::t91::t92::t93::t94::t95::t96::t97::t98::t99::t100::t101::t102::t103::t104::t105::t106::t107::t108::t109::t110::t111::t112::t113::t114::t115::t116::t117::t118::t119::t120::t121::t122::t123::t124::t125::t126::t127::t128::t129::t130::t131::t132::t133::t134::t135::t136::t137::t138::t139::t140::t141::t142::[])) w:=by
 subst q3 q4 q7 q6
 obtain ⟨B,hlm⟩:=hl.lm
 have hnn:=hl.gi.nn
 have hs:=hl.sum hsum
 refine mr <|ak <|aA <|aU <|ld1 (v:=.slice l.s.na l.s.nodes.length l.s.nc) (fun _=>by kernel_rfl) hlm.cl hlm.cN <|aI Tryz.underlying27 <|cD <|ms ?_
 by_cases h0:(0:Int) < (l.s.nodes.length:Nat)
 ·refine ai h0 ?_
  have hlm:=hlm.drew
  have g:EVS w0 w.drew x o e xb tb eb:=⟨g.x3.drew,g.t4,g.ev.drew,g.eo,g.bel.drew,g.lo⟩
  obtain ⟨i,hi⟩:∃ i:Nat,i=(x.node % (l.s.nodes.length:Nat)).toNat:=⟨_,rfl⟩
  have hm0:0≤x.node % ((l.s.nodes.length:Nat):Int):=Int.emod_nonneg _ (by omega)
  have hm1:x.node % ((l.s.nodes.length:Nat):Int) < (l.s.nodes.length:Nat):=Int.emod_lt_of_pos _ h0
  have hii:i < l.s.nodes.length:=by omega
  have hx:l.s.nodes[i]? = some l.s.nodes[i]:=List.getElem?_eq_getElem hii
  generalize l.s.nodes[i]=y at hx
  obtain ⟨gn,cur,ha,op⟩:=aZ hlm.nd (by omega)
  have c0:cur[i * 56+0]? = some (u6 y.id):=op.cell cZ rfl hx (show 0 < 56 by omega)
  refine a8 (fun _=>ak) <|a8 (fun _=>aA) <|a8 (fun _=>aU) <|a8 (v:=.slice l.s.na l.s.nodes.length l.s.nc) (fun _=>ld1 (fun _=>by kernel_rfl) hlm.cl hlm.cN) <|a8 (fun _=>zm) <|a8 (v:=kv8 x.node) (fun _=>ld1 (fun _=>by kernel_rfl) g.x3 rfl) <|a8 (v:=.int .i64 x.node) (fun K hK=>dy Tryz.underlying5 Tryz.underlying3 (by rw [f5 (by have:=hok.2.2; omega) (by have:=hok.2.2; omega)]; exact hK)) <|a8 (fun _=>ak) <|a8 (fun _=>aA) <|a8 (fun _=>aU) ?_
  refine a8 (v:=.slice l.s.na l.s.nodes.length l.s.nc) (fun _=>ld1 (fun _=>by kernel_rfl) hlm.cl hlm.cN) <|a8 (fun _=>aI Tryz.underlying27) <|a8 (v:=.int .i64 ((i:Nat):Int)) (fun K hK=>ma hok.2.2.1 h0 (by rw [show x.node % ((l.s.nodes.length:Nat):Int)=(i:Nat) by omega]; exact hK)) <|a8 (v:=.pointer (some ⟨gn,i * 56,none⟩)) (fun _=>gQ ha Tryz.underlying27 (fun _=>by kernel_rfl) hii) <|a8 (fun _=>gC) <|a8 (v:=u6 y.id) (fun _=>ld1 (fun _=>by kernel_rfl) op.blk c0) ?_
  exact Gv g rfl rfl rfl rfl hok h
 ·refine ag h0 ?_
  exact Gv (nd:=0) g rfl rfl rfl rfl hok h
set_option maxHeartbeats 2000000 in
theorem Hd {Bw g:Nat} {L:List (Nat × LG)} {E:List EV} {C:Nat→Int} {x:AC} (hw:WM w Bw g L E C) (hn:E.length≤900) (hok:uE x)
  (h:∀ w' e,e.o=x.who % (L.length:Nat)+1→Below w.heap.size w w'→K (.agg (evC e).toArray) w'):call Tryz.prog 35 #[.pointer (some ⟨g,0,none⟩),.agg (acC x).toArray] K w:=by
 refine aE nx (nw ?_)
 refine bh fun w1 hx1 b1 s1 => ?_
 have hx1:blk w1 w.heap.size 74 (acC x):=by simpa [Value.cells] using hx1
 refine cH (z:=.agg (evC ⟨0,0,0,0,0,0,0,0,0,0,0,0,0,0⟩).toArray) (by kernel_rfl) fun w2 ht2 b2 s2 => ?_
 have ht2:blk w2 w1.heap.size 54 (evC ⟨0,0,0,0,0,0,0,0,0,0,0,0,0,0⟩):=by simpa [Value.cells] using ht2
 rw [s1] at ht2 ⊢
 have hx2:=(ae b2 hx1 hx1.lt).drew
 have ht2:=ht2.drew
 have bb2:Below w.heap.size w w2.drew:=(b1.trans (b2.mono (by omega))).drew
 have hw2:=hw.fresh bb2
 obtain ⟨la,lc,ea,ec,hwb,hrow,_⟩:=hw2.row
 have hp:=hw.pos
 obtain ⟨i,hi⟩:∃ i:Nat,i=(x.who % (L.length:Nat)).toNat:=⟨_,rfl⟩
 have hm0:0≤x.who % ((L.length:Nat):Int):=Int.emod_nonneg _ (by omega)
 have hm1:x.who % ((L.length:Nat):Int) < (L.length:Nat):=Int.emod_lt_of_pos _ (by omega)
 have hii:i < L.length:=by omega
 have hil:L[i]? = some L[i]:=List.getElem?_eq_getElem hii
 generalize L[i]=pl at hil
 have hled:=hw2.led pl (List.mem_of_getElem? hil)
 obtain ⟨B,hlm⟩:=hled.lm
 obtain ⟨gl,cur,ha,op⟩:=aZ hrow (by omega)
 have c0:cur[i * 1]? = some (.pointer (some ⟨pl.1,0,none⟩)):=by
  have:=op.cell kQ rfl hil (show 0 < 1 by omega)
  simpa [ptC] using this
 refine a8 (fun _=>zl) <|a8 (v:=kv8 x.who) (fun _=>ld1 (fun _=>by kernel_rfl) hx2 rfl) <|a8 (v:=.int .i64 x.who) (fun K hK=>dy Tryz.underlying5 Tryz.underlying3 (by rw [f5 (by have:=hok.1; omega) (by have:=hok.1; omega)]; exact hK)) <|a8 (fun _=>ak) <|a8 (fun _=>fN) <|a8 (v:=.slice la L.length lc) (fun _=>ld1 (fun _=>by kernel_rfl) hwb rfl) <|a8 (fun _=>aI Tryz.underlying44) <|a8 (v:=.int .i64 ((i:Nat):Int)) (fun K hK=>ma hok.1.1 (by omega) (by rw [show x.who % ((L.length:Nat):Int)=(i:Nat) by omega]; exact hK)) <|ak <|fN ?_
 refine ld1 (v:=.slice la L.length lc) (fun _=>by kernel_rfl) hwb rfl <|gQ (s:=1) ha Tryz.underlying44 (fun _=>by kernel_rfl) hii <|ld1 (v:=.pointer (some ⟨pl.1,0,none⟩)) (fun _=>by kernel_rfl) op.blk c0 ?_
 have hlm:=hlm.drew
 have hx3:=hx2.drew
 obtain ⟨v0,v1,v2,v3,v4,v5,hV6⟩:=pV hlm.v6
 have hi6:i < 6:=by omega
 refine aC (fun y=>blk y pl.1 79 (lgC pl.2)∧blk y w.heap.size 74 (acC x)) ⟨hlm.cl,hx3⟩ <|ab (v:=.int .i64 ((i:Nat)+1:Int)) (fun y hy _=>aF (by omega) (by omega)) <|ab (fun y hy _=>ak) <|ab (fun y hy _=>aA) <|ab (fun y hy _=>iK) <|ab (fun y hy _=>ixV rfl hi6) <|ab (v:=u6 (pl.2.s.V.getD i 0)) (fun y hy _=>ld1 (fun _=>by kernel_rfl) hy.1 (by rw [show 0+0+12+i=12+i by omega]; exact hlm.cV hi6)) <|ab (fun y hy _=>fC) <|ab (fun y hy _=>ak) <|ab (fun y hy _=>aA) ?_
 refine ab (fun y hy _=>iK) <|ab (v:=.agg (([v0,v1,v2,v3,v4,v5]:List Int).map u6).toArray) (fun y hy _=>ldA (n:=6) (vs:=([v0,v1,v2,v3,v4,v5]:List Int).map u6) Tryz.underlying26 rfl (by kernel_rfl) hy.1 (by rw [← hV6]; exact hlm.cutV) rfl) <|ab (fun y hy _=>EO) <|ab (v:=kv8 x.kind) (fun y hy _=>ld1 (fun _=>by kernel_rfl) hy.2 rfl) <|ab (fun y hy _=>kV (by omega)) <|ab (fun y hy _=>fC) <|ab (v:=.agg (evC ⟨(i:Nat)+1,IntKind.u64.wrap (pl.2.s.V.getD i 0+1),v0,v1,v2,v3,v4,v5,IntKind.u8.wrap (1+x.kind.tmod 7),0,0,0,0,0⟩).toArray) (fun y hy _=>eE (by kernel_rfl)) <|cH (z:=.agg (evC ⟨0,0,0,0,0,0,0,0,0,0,0,0,0,0⟩).toArray) (by kernel_rfl) fun w3 h3 b3 s3 => ?_
 have h3:blk w3 w2.drew.drew.heap.size 54 (evC ⟨0,0,0,0,0,0,0,0,0,0,0,0,0,0⟩):=by simpa [Value.cells] using h3
 refine bn ⟨ae b3 hlm.cl hlm.cl.lt,ae b3 hx3 hx3.lt⟩ <|eM (n:=14) (vs:=evC ⟨(i:Nat)+1,IntKind.u64.wrap (pl.2.s.V.getD i 0+1),v0,v1,v2,v3,v4,v5,IntKind.u8.wrap (1+x.kind.tmod 7),0,0,0,0,0⟩) (by kernel_rfl) rfl h3 (by show 0+14≤14; omega) (ln _) fun w4 h4 o4 => ?_
 have h4:blk w4 w2.drew.drew.heap.size 54 (evC ⟨(i:Nat)+1,IntKind.u64.wrap (pl.2.s.V.getD i 0+1),v0,v1,v2,v3,v4,v5,IntKind.u8.wrap (1+x.kind.tmod 7),0,0,0,0,0⟩):=h4
 have B4:Below w2.drew.drew.heap.size w2.drew.drew w4:=bN b3 o4 (Nat.le_refl _)
 have bel4:Below w.heap.size w w4:=bb2.drew.trans (B4.mono bb2.size)
 have sz:w2.drew.drew.heap.size=w.heap.size+2:=by show w2.heap.size=_; omega
 have gg:EVS w w4 x ((i:Nat)+1) ⟨(i:Nat)+1,IntKind.u64.wrap (pl.2.s.V.getD i 0+1),v0,v1,v2,v3,v4,v5,IntKind.u8.wrap (1+x.kind.tmod 7),0,0,0,0,0⟩ w.heap.size (w.heap.size+1) w2.drew.drew.heap.size :=
  ⟨ae B4 hx3 hx3.lt,⟨_,ae B4 ht2.drew ht2.drew.lt,rfl⟩,h4,rfl,bel4,⟨by omega,by omega,by omega⟩⟩
 have hled4:=(hw.led pl (List.mem_of_getElem? hil)).fresh bel4
 refine Jr gg hled4 (by rw [hw.sum]; omega) rfl rfl rfl rfl hok fun w' e' he' b' => h w' e' ?_ b'
 rw [he']; omega
end
end Go.Proofs.YtgpfkmdknlcemaaGreatDoor
namespace Go.Proofs.YtgpfkmdknlcemaaGreatDoor
set_option maxRecDepth 100000
open Go.RowKit
theorem LC.up {w:World} {p:Nat} {l:LG} {C C':Nat→Int} (h:LC w p l C) (hC:∀ k,k < 6→C k≤C' k):LC w p l C':=⟨h.lm,h.gi,fun k hk=>Int.le_trans (h.le k hk) (hC k hk)⟩
attribute [local irreducible] bin un conv call bl blt slc aa fld af idx lkp bL bP eSt rng nxt ent ext alc box bld aJ ld sto aj bm mkS ifc pick rdy wts au sti cond aH Gives ac aW bA cOp
section
variable {w:World} {K:KV}
theorem Gw {Bw g gl lc i o p':Nat} {L:List (Nat × LG)} {l':LG} {C:Nat→Int} {cur:List Value} {ea:Option Addr} {n ec:Nat} {xs:List Value} (hwb:blk w g 47 [.slice (some ⟨gl,0,none⟩) L.length lc,.slice ea n ec]) (op:Opn w Bw 80 1 L.length lc gl cur (L.flatMap ptC)) (hev:w.ownsRow Bw 54 14 (.slice ea n ec) n xs)
  (hled:∀ x ∈ L,LC w x.1 x.2 C) (hl':LC w p' l' C) (hi:i < L.length) (ho:o=i * 1)
  (h:∀ w',blk w' g 47 [.slice (some ⟨gl,0,none⟩) (L.set i (p',l')).length lc,.slice ea n ec]→w'.ownsRow Bw 80 1 (.slice (some ⟨gl,0,none⟩) (L.set i (p',l')).length lc) (L.set i (p',l')).length ((L.set i (p',l')).flatMap ptC)→w'.ownsRow Bw 54 14 (.slice ea n ec) n xs →
   (∀ x ∈ L.set i (p',l'),LC w' x.1 x.2 C)→Keep pQ Bw w w'→Oth gl w w'→K undef w'):sto Tryz.prog 80 (.pointer (some ⟨gl,o,none⟩)) (.pointer (some ⟨p',0,none⟩)) K w:=by
 subst ho
 have hx:L[i]? = some L[i]:=List.getElem?_eq_getElem hi
 have h2:L.length * 1≤lc * 1:=Nat.mul_le_mul_right _ op.nc
 have hcl:=op.len
 refine eD (fun _=>by kernel_rfl) op.blk (by omega) rfl fun w' hb o' => ?_
 have hset:=op.set1 (x':=(p',l')) (v:=.pointer (some ⟨p',0,none⟩)) (j:=0) kQ rfl hx (by omega) rfl (by simpa using hb)
 have hk:Keep pQ Bw w w':=o'.keep op.blk (by simp) op.lo
 have hlen:(L.set i (p',l')).length=L.length:=List.length_set ..
 refine h w' (by rw [hlen]; exact o'.blk hwb (fun hh=>hwb.ne op.blk (by decide) hh)) (by rw [hlen]; exact Opn.own hset) (bR hev op.blk (by decide) o') (fun x hxm => ?_) hk o'
 rcases List.mem_or_eq_of_mem_set hxm with hh | hh
 ·exact (hled x hh).keepW hk
 ·rw [hh]; exact hl'.keepW hk
end
end Go.Proofs.YtgpfkmdknlcemaaGreatDoor
namespace Go.Proofs.YtgpfkmdknlcemaaGreatDoor
set_option maxRecDepth 100000
open Go.RowKit
attribute [local irreducible] bin un conv call bl blt slc aa fld af idx lkp bL bP eSt rng nxt ent ext alc box bld aJ ld sto aj bm mkS ifc pick rdy wts au sti cond aH Gives ac aW bA cOp
section
variable {w:World} {K:KV}
theorem He:(Tryz.prog.info? 54).map (fun i=>(i.zero,i.size,i.bytes))=some (some (.agg (evC ⟨0,0,0,0,0,0,0,0,0,0,0,0,0,0⟩).toArray),14,112):=by kernel_rfl
theorem Cs {tb:Nat} {e:EV} {zs:List Value} (hz:blk w tb 54 zs) (hzl:zs.length=14) (h:∀ w',Oth tb w w'→K (.agg (evC e).toArray) w') :
  sto Tryz.prog 54 (.pointer (some ⟨tb,0,none⟩)) (.agg (evC e).toArray) (fun _t w=>aH Tryz.prog [(some 54,.pointer (some ⟨tb,0,none⟩))] K w) w:=by
 refine eM (n:=14) (vs:=evC e) (by kernel_rfl) rfl hz (by omega) (ln _) fun w1 h1 o1 => ?_
 refine CH (vs:=evC e) Tryz.underlying54 rfl (by kernel_rfl) h1 (by rw [List.take_zero,List.nil_append,List.drop_of_length_le (by omega),List.append_nil]) ?_
 exact h w1 o1
set_option maxHeartbeats 2000000 in
theorem Js {w_0 x1 w_2 x3 t4 o5 e6 l7 f8 t9 t10 t11 t12 t13 t14 t15 t16 t17 t18 t19 t20 t21 t22 t23 t24 t25 t26 t27 t28 t29 t30 t31 t32 t33 t34 t35 t36 t37 t38 t39 t40 t41 t42 t43 t44 t45 t46 t47 t48 t49 t50 t51 t52 t53 t54 t55 t56 t57 t58 t59 t60 t61 t62 t63 t64 t65 t66 t67 t68 t69 t70 t71 t72 t73 t74 t75 t76 t77 t78 t79 t80 t81 t82 t83 t84 t85 t86 t87 t88 t89 t90 t91 t92 t93:Value} {Bw g gl lc ec tb eb:Nat} {ea:Option Addr} {L:List (Nat × LG)} {E:List EV} {C:Nat→Int} {e:EV} {zs:List Value} (hwb:blk w g 47 [.slice (some ⟨gl,0,none⟩) L.length lc,.slice ea E.length ec]) (hrow:w.ownsRow Bw 80 1 (.slice (some ⟨gl,0,none⟩) L.length lc) L.length (L.flatMap ptC)) (hev:w.ownsRow Bw 54 14 (.slice ea E.length ec) E.length (E.flatMap evC))
  (hled:∀ x ∈ L,LC w x.1 x.2 C) (hEC:EC E C) (he:1≤e.o∧e.o≤6∧e.s≤C (e.o - 1).toNat) (hsum:C 0+C 1+C 2+C 3+C 4+C 5=(E.length:Nat)+1) (hc0:∀ k,k < 6→0≤C k) (hpos:0 < L.length∧L.length≤6) (hn:E.length≤900) (hB:Bw≤w.heap.size) (hg:Bw≤g)
  (heb:blk w eb 54 (evC e)) (hz:blk w tb 54 zs) (hzl:zs.length=14) (hbE:∀ k,(Value.slice ea E.length ec).ownBlock=some k→k≠eb∧k≠tb) (hte:tb≠eb) (htB:Bw≤tb)
  (q0:w_0=.pointer (some ⟨g,0,none⟩)) (q4:t4=.pointer (some ⟨tb,0,none⟩)) (q6:e6=.pointer (some ⟨eb,0,none⟩))
  (h:∀ w',WM w' Bw g L (E++[e]) C→Below Bw w w'→K (.agg (evC e).toArray) w'):en K ((w_0::x1::w_2::x3::t4::o5::e6::l7::f8::t9::t10::t11::t12::t13::t14::t15::t16::t17::t18::t19::t20::t21::t22::t23::t24::t25::t26::t27::t28::t29::t30::t31::t32::t33::t34::t35::t36::t37::t38::t39::t40::t41::t42::t43::t44::t45::t46::t47::t48::t49::t50::t51::t52::t53::t54::t55::t56::t57::t58::t59::t60::t61::t62::t63::t64::t65::t66::t67::t68::t69::t70::t71::t72::t73::t74::t75::t76::t77::t78::t79::t80::t81::t82::t83::t84::t85::t86::t87::t88::t89::t90::t91::t92::t93::[])) w:=by
 subst q0 q4 q6
 refine ou <|aC (fun y=>blk y g 47 [.slice (some ⟨gl,0,none⟩) L.length lc,.slice ea E.length ec]∧blk y eb 54 (evC e)) ⟨hwb.drew,heb.drew⟩ <|ab (fun y hy _=>ak) <|ab (fun y hy _=>uD) <|ab (v:=.slice ea E.length ec) (fun y hy _=>ld1 (fun _=>by kernel_rfl) hy.1 rfl) <|ab (v:=.agg (evC e).toArray) (fun y hy _=>ldA (n:=14) (vs:=evC e) Tryz.underlying54 rfl (by kernel_rfl) hy.2 rfl rfl) <|hH (vs:=[.agg (evC e).toArray]) Tryz.underlying45 (s:=14) (by kernel_rfl) (by kernel_rfl) (by omega) rfl (by simp) (by simp) (by simp) (by simp [Value.cells,pe]) fun w2 h2 b2 s2 => ?_
 have h2:blk w2 w.drew.heap.size 54 (evC e):=by simpa [Value.cells] using h2
 have hwb2:=ae b2 hwb.drew hwb.drew.lt
 have heb2:=ae b2 heb.drew heb.drew.lt
 have hz2:=ae b2 hz.drew hz.drew.lt
 have hrow2:w2.ownsRow Bw 80 1 (.slice (some ⟨gl,0,none⟩) L.length lc) L.length (L.flatMap ptC):=bj hrow fun b hb=>b2.block b (World.ownsRow.lt hrow b hb).2
 have hev2:w2.ownsRow Bw 54 14 (.slice ea E.length ec) E.length (E.flatMap evC):=bj hev fun b hb=>b2.block b (World.ownsRow.lt hev b hb).2
 have D:Below w.heap.size w w2:=(Below.refl _ w).drew.trans b2
 have hled2:∀ x ∈ L,LC w2 x.1 x.2 C:=fun x hx=>(hled x hx).fresh D
 refine bn ⟨hwb2,heb2⟩ ?_
 obtain ⟨ii,hi',hzz,hsz,hby⟩:=info_parts He
 refine ka (base:=Bw) (x:=e) Tryz.underlying45 hi' hzz hsz hby rfl (by omega) pe hev2 h2 (ln _) (by omega) (by omega) (Nat.le_trans hB D.size) fun a3 c3 w3 hev3 hgr b3 hob => ?_
 have hwb3:=dv hwb2 hev2 (by decide) hgr
 have hrow3:=gh hrow2 hev2 (by decide) hgr
 have heb3:blk w3 eb 54 (evC e):=by
  unfold Go.Proofs.YtgpfkmdknlcemaaGreatDoor.blk
  rw [hgr.block _ heb2.lt (fun hh=>(hbE eb hh.symm).1 rfl)]
  exact heb2
 have hz3:blk w3 tb 54 zs:=by
  unfold Go.Proofs.YtgpfkmdknlcemaaGreatDoor.blk
  rw [hgr.block _ hz2.lt (fun hh=>(hbE tb hh.symm).2 rfl)]
  exact hz2
 have k3:Keep pQ Bw w2 w3:=Keep.grown hgr hev2 (by simp) (Nat.le_refl _)
 refine aC (fun _=>True) trivial <|ab (fun y hy _=>ak) <|ab (fun y hy _=>uD) <|eD (fun _=>by kernel_rfl) hwb3 (by simp) rfl fun w4 hwb4 o4 => ?_
 have hwb4:blk w4 g 47 [.slice (some ⟨gl,0,none⟩) L.length lc,.slice a3 (E.length+1) c3]:=hwb4
 have heb4:blk w4 eb 54 (evC e):=o4.blk heb3 (fun hh=>heb3.ne hwb3 (by decide) hh)
 have hz4:blk w4 tb 54 zs:=o4.blk hz3 (fun hh=>hz3.ne hwb3 (by decide) hh)
 have k4:Keep pQ Bw w2 w4:=k3.trans (o4.keep hwb3 (by simp) hg)
 refine ldA (n:=14) (vs:=evC e) Tryz.underlying54 rfl (by kernel_rfl) heb4 rfl rfl ?_
 have hnt:∀ k,(Value.slice a3 (E.length+1) c3).ownBlock=some k→k≠tb:=by
  intro k hk
  rcases hob with hh | hh
  ·rw [hh] at hk; exact (hbE k hk).2
  ·rw [hh] at hk; cases hk; have:=hz2.lt; omega
 refine Cs hz4 hzl fun w5 o5 => ?_
 have k5:Keep pQ Bw w2 w5:=k4.trans (o5.keep hz4 (by simp) htB)
 have hev4:=bR hev3 hwb3 (by decide) o4
 have hlen:(E++[e]).length=E.length+1:=by simp
 refine h w5 ⟨⟨some ⟨gl,0,none⟩,lc,a3,c3,by rw [hlen]; exact o5.blk hwb4 (fun hh=>hwb4.ne hz4 (by decide) hh),bR (bR hrow3 hwb3 (by decide) o4) hz4 (by decide) o5,by rw [hlen]; exact bj hev4 fun k hk=>o5.other k (hnt k hk)⟩,hg,fun x hx=>(hled2 x hx).keepW k5,hpos, ?_,by rw [hlen,hsum]; push_cast; rfl,hc0⟩ ((D.mono hB).trans (k5.below (Nat.le_trans hB D.size)))
 intro y hy
 rcases List.mem_append.1 hy with hh | hh
 ·exact hEC y hh
 ·rw [List.mem_singleton.1 hh]; exact he
end
end Go.Proofs.YtgpfkmdknlcemaaGreatDoor
namespace Go.Proofs.YtgpfkmdknlcemaaGreatDoor
set_option maxRecDepth 100000
open Go.RowKit
def upC (C:Nat→Int) (i:Nat):Nat→Int:=fun k=>if k=i then C k+1 else C k
theorem vw {C:Nat→Int} {i:Nat}:∀ k,k < 6→C k≤upC C i k:=by intro k _; unfold upC; split <;> omega
theorem Hf {C:Nat→Int} {i:Nat} (hi:i < 6):upC C i 0+upC C i 1+upC C i 2+upC C i 3+upC C i 4+upC C i 5=C 0+C 1+C 2+C 3+C 4+C 5+1:=by
 match i,hi with
 | 0,_=>simp [upC]; omega
 | 1,_=>simp [upC]; omega
 | 2,_=>simp [upC]; omega
 | 3,_=>simp [upC]; omega
 | 4,_=>simp [upC]; omega
 | 5,_=>simp [upC]; omega
theorem WM.oth {w w':World} {Bw g tb:Nat} {L:List (Nat × LG)} {E:List EV} {C:Nat→Int} {zs:List Value} (h:WM w Bw g L E C) (hz:blk w tb 54 zs) (htB:Bw≤tb) (hd:∀ (ea:Option Addr) (ec:Nat) la lc,blk w g 47 [.slice la L.length lc,.slice ea E.length ec]→(Value.slice ea E.length ec).ownBlock≠some tb) (o:Oth tb w w'):WM w' Bw g L E C:=by
 obtain ⟨la,lc,ea,ec,h1,h2,h3⟩:=h.row
 exact { h with
  row:=⟨la,lc,ea,ec,o.blk h1 (fun hh=>h1.ne hz (by decide) hh),bR h2 hz (by decide) o,bj h3 fun k hk=>o.other k (fun hh=>hd ea ec la lc h1 (by rw [hk,hh]))⟩
  led:=fun x hx=>(h.led x hx).keepW (o.keep (T:=pQ) hz (by simp) htB) }
attribute [local irreducible] bin un conv call bl blt slc aa fld af idx lkp bL bP eSt rng nxt ent ext alc box bld aJ ld sto aj bm mkS ifc pick rdy wts au sti cond aH Gives ac aW bA cOp
section
variable {w:World} {K:KV}
set_option maxHeartbeats 2000000 in
theorem Jt {w_0 x1 w_2 x3 t4 o5 e6 l7 f8 t9 t10 t11 t12 t13 t14 t15 t16 t17 t18 t19 t20 t21 t22 t23 t24 t25 t26 t27 t28 t29 t30 t31 t32 t33 t34 t35 t36 t37 t38 t39 t40 t41 t42 t43 t44 t45 t46 t47 t48 t49 t50 t51 t52 t53 t54 t55 t56 t57 t58 t59 t60 t61 t62 t63 t64 t65 t66 t67 t68 t69 t70 t71 t72 t73 t74 t75 t76 t77 t78 t79 t80 t81 t82 t83 t84 t85 t86 t87 t88 t89 t90 t91 t92 t93:Value} {w0:World} {Bw g tb eb i:Nat} {L:List (Nat × LG)} {E:List EV} {C:Nat→Int} {e:EV} {zs:List Value} (h0:WM w0 Bw g L E C) (bel:Below w0.heap.size w0 w) (hBw:Bw≤w0.heap.size) (ht0:w0.heap.size≤tb) (he0:w0.heap.size≤eb) (hte:tb≠eb) (hn:E.length≤800) (hi:i < L.length) (heo:e.o=(i:Nat)+1)
  (heb:blk w eb 54 (evC e)) (hz:blk w tb 54 zs) (hzl:zs.length=14)
  (q0:w_0=.pointer (some ⟨g,0,none⟩)) (q4:t4=.pointer (some ⟨tb,0,none⟩)) (q5:o5=.int .i64 (i:Nat)) (q6:e6=.pointer (some ⟨eb,0,none⟩))
  (h:∀ w' L' E' C' e',WM w' Bw g L' E' C'→L'.length=L.length→E'.length≤E.length+1→Below Bw w0 w'→K (.agg (evC e').toArray) w'):eg K ((w_0::x1::w_2::x3::t4::o5::e6::l7::f8::t9::t10::t11::t12::t13::t14::t15::t16::t17::t18::t19::t20::t21::t22::t23::t24::t25::t26::t27::t28::t29::t30::t31::t32::t33::t34::t35::t36::t37::t38::t39::t40::t41::t42::t43::t44::t45::t46::t47::t48::t49::t50::t51::t52::t53::t54::t55::t56::t57::t58::t59::t60::t61::t62::t63::t64::t65::t66::t67::t68::t69::t70::t71::t72::t73::t74::t75::t76::t77::t78::t79::t80::t81::t82::t83::t84::t85::t86::t87::t88::t89::t90::t91::t92::t93::[])) w:=by
 subst q0 q4 q5 q6
 have hpos:=h0.pos
 have hi6:i < 6:=by omega
 refine ot ?_
 have hw1:=(h0.fresh bel).fresh (Below.refl _ w).drew
 obtain ⟨la,lc,ea,ec,g1,g2,g3⟩:=h0.row
 have bel1:=bel.drew
 have r1:=ae bel1 g1 g1.lt
 have r2:w.drew.ownsRow Bw 80 1 (.slice la L.length lc) L.length (L.flatMap ptC):=bj g2 fun k hk=>bel1.block k (World.ownsRow.lt g2 k hk).2
 have r3:w.drew.ownsRow Bw 54 14 (.slice ea E.length ec) E.length (E.flatMap evC):=bj g3 fun k hk=>bel1.block k (World.ownsRow.lt g3 k hk).2
 have hbE:∀ k,(Value.slice ea E.length ec).ownBlock=some k→k < w0.heap.size:=fun k hk=>(World.ownsRow.lt g3 k hk).2
 obtain ⟨gl,cur,rfl,op⟩:=aZ r2 (by omega)
 have hil:L[i]? = some L[i]:=List.getElem?_eq_getElem hi
 generalize L[i]=pl at hil
 have hled:=hw1.led pl (List.mem_of_getElem? hil)
 obtain ⟨B,hlm⟩:=hled.lm
 have c0:cur[i * 1]? = some (.pointer (some ⟨pl.1,0,none⟩)):=by
  have:=op.cell kQ rfl hil (show 0 < 1 by omega)
  simpa [ptC] using this
 refine aC (fun y=>blk y g 47 [.slice (some ⟨gl,0,none⟩) L.length lc,.slice ea E.length ec]∧blk y gl 80 cur∧blk y eb 54 (evC e)) ⟨r1,op.blk,heb.drew⟩ <|ab (fun y hy _=>ak) <|ab (fun y hy _=>fN) <|ab (v:=.slice (some ⟨gl,0,none⟩) L.length lc) (fun y hy _=>ld1 (fun _=>by kernel_rfl) hy.1 rfl) <|ab (v:=.pointer (some ⟨gl,i * 1,none⟩)) (fun y hy _=>gQ (s:=1) rfl Tryz.underlying44 (fun _=>by kernel_rfl) hi) <|ab (v:=.pointer (some ⟨pl.1,0,none⟩)) (fun y hy _=>ld1 (fun _=>by kernel_rfl) hy.2.1 c0) <|ab (v:=.agg (evC e).toArray) (fun y hy _=>ldA (n:=14) (vs:=evC e) Tryz.underlying54 rfl (by kernel_rfl) hy.2.2 rfl rfl) <|zk hlm hled.gi (hled.sum (by rw [h0.sum]; omega)) fun w2 B2 p2 l2 f hl2 hg2 hap b2 => ?_
 have bel2:Below w0.heap.size w0 w2:=bel1.trans (b2.mono bel1.size)
 have hw2:=h0.fresh bel2
 have heb2:=ae b2 heb.drew heb.drew.lt
 have hz2:=ae b2 hz.drew hz.drew.lt
 refine aC (fun _=>True) trivial <|ab (fun y hy _=>fy) <|ab (fun y hy _=>fz) <|dn ?_
 by_cases hf:f≠0
 ·refine ai hf <|eE (vs:=evC ⟨0,0,0,0,0,0,0,0,0,0,0,0,0,0⟩) (by kernel_rfl) <|Cs hz2 hzl fun w3 o3 => ?_
  refine h w3 L E C _ (hw2.oth hz2 (Nat.le_trans hBw ht0) (fun ea' ec' la' lc' hb hh => ?_) o3) rfl (by omega) (bN (bel2.mono hBw) o3 (Nat.le_trans hBw ht0))
  have e1:=ae bel2 g1 g1.lt
  unfold Go.Proofs.YtgpfkmdknlcemaaGreatDoor.blk at e1 hb
  rw [e1] at hb
  simp only [Option.some.injEq,Obj.cells.injEq,Array.mk.injEq,List.cons.injEq,Value.slice.injEq] at hb
  obtain ⟨⟨_,⟨rfl,_,rfl⟩,_⟩,_⟩:=hb
  have:=hbE tb hh
  omega
 refine ag hf ?_
 have hf:f=0:=by simpa using hf
 obtain ⟨o1,o6,os,oV⟩:1≤e.o∧e.o≤6∧e.s=pl.2.s.V.getD (e.o - 1).toNat 0+1∧l2.s.V=pl.2.s.V.set (e.o - 1).toNat e.s:=by
  rcases hap with ⟨hh,_⟩ | ⟨_,a,b,c,d⟩
  ·exact absurd hf hh
  ·exact ⟨a,b,c,d⟩
 have ei:(e.o - 1).toNat=i:=by omega
 rw [ei] at os oV
 have hes:e.s≤upC C i i:=by
  have:=hled.le i hi6
  unfold upC; rw [if_pos rfl]; omega
 have hl2':LC w2 p2 l2 (upC C i):=⟨⟨B2,hl2⟩,hg2,fun k hk=>by
  rw [oV,kR (by rw [hlm.v6]; exact hi6)]
  split
  ·rename_i hh; rw [← hh]; exact hes
  ·exact Int.le_trans (hled.le k hk) (vw k hk)⟩
 have r1':=ae bel2 g1 g1.lt
 have r2':w2.ownsRow Bw 80 1 (.slice (some ⟨gl,0,none⟩) L.length lc) L.length (L.flatMap ptC):=bj g2 fun k hk=>bel2.block k (World.ownsRow.lt g2 k hk).2
 have r3':w2.ownsRow Bw 54 14 (.slice ea E.length ec) E.length (E.flatMap evC):=bj g3 fun k hk=>bel2.block k (World.ownsRow.lt g3 k hk).2
 refine ak <|fN <|ld1 (v:=.slice (some ⟨gl,0,none⟩) L.length lc) (fun _=>by kernel_rfl) r1' rfl <|gQ (s:=1) rfl Tryz.underlying44 (fun _=>by kernel_rfl) hi ?_
 obtain ⟨gl2,cur2,hgl,op2⟩:=aZ r2' (by omega)
 cases hgl
 refine Gw r1' op2 r3' (fun x hx=>(hw2.led x hx).up vw) hl2' hi rfl fun w3 s1 s2 s3 s4 k3 o3 => ?_
 have hlen:(L.set i (p2,l2)).length=L.length:=List.length_set ..
 have hebn:eb≠gl:=fun hh=>absurd (zU heb2 (hh ▸ op2.blk)) (by decide)
 have htbn:tb≠gl:=fun hh=>absurd (zU hz2 (hh ▸ op2.blk)) (by decide)
 have sw2:Bw≤w2.heap.size:=Nat.le_trans hBw bel2.size
 have B3:Below Bw w0 w3:=(bel2.mono hBw).trans (k3.below sw2)
 refine Js s1 s2 s3 s4 (fun y hy=>⟨(h0.ev y hy).1,(h0.ev y hy).2.1, ?_⟩) ⟨o1,o6,by rw [ei]; exact hes⟩ (by rw [Hf hi6,h0.sum]) (fun k hk=>Int.le_trans (h0.c0 k hk) (vw k hk)) (by rw [hlen]; exact hpos) (by omega) (Nat.le_trans hBw B3.size) h0.lo (o3.blk heb2 hebn) (o3.blk hz2 htbn) hzl (fun k hk=>⟨by have:=hbE k hk; omega,by have:=hbE k hk; omega⟩) hte (Nat.le_trans hBw ht0) rfl rfl rfl fun w' hw b=>h w' _ _ _ _ hw hlen (by simp) (B3.trans b)
 have h6:=h0.ev y hy
 exact Int.le_trans h6.2.2 (vw _ (by omega))
end
end Go.Proofs.YtgpfkmdknlcemaaGreatDoor
