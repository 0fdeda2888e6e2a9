/- Laid together: LGd LGe LGf LGg LGh LGi LGj LGk LGl LGm LGn. -/
import Derived.Test.YtgpfkmdknlcemaaGreatDoorQ7
namespace Go.Proofs.YtgpfkmdknlcemaaGreatDoor
set_option maxRecDepth 100000
open Go.RowKit
theorem pR {α:Type} {enc:α→List Value} (h:∀ x, ∀ v ∈ enc x,v.oneCell'=true) (L:List α):∀ v ∈ L.flatMap enc,v.oneCell'=true:=by
 intro v hv
 obtain ⟨x,_,hx⟩:=List.mem_flatMap.1 hv
 exact h x v hx
attribute [local irreducible] bin un conv call bl blt slc aa fld af idx lkp bL bP eSt rng nxt ent ext alc box bld aJ ld sto aj bm mkS ifc pick rdy wts au sti cond aH Gives ac aW bA cOp
section
variable {w:World} {K:KV} {B p:Nat} {l:LG}
theorem Be:(Tryz.prog.info? 38).map (fun i=>(i.zero,i.size,i.bytes))=some (some (.agg (ndE ⟨0,0,z54⟩).toArray),56,448):=by kernel_rfl
theorem Bf:(Tryz.prog.info? 100).map (fun i=>(i.zero,i.size,i.bytes))=some (some (.agg (grC ⟨0,0,0,0,0⟩).toArray),5,40):=by kernel_rfl
theorem zp (x:Int):∀ v ∈ uC x,v.oneCell'=true:=by simp [uC,u6,Value.oneCell']
structure CP (w0 w:World) (l m:LG) (p k:Nat):Prop where
 i6:m.s.I.length=6
 l6:m.s.L.length=6
 v6:m.s.V.length=6
 q6:m.q.length=6
 R:m.R=l.R
 cl:blk w p 79 (lgC m)
 lo:w0.heap.size≤p
 gv:m.s.gv=.slice m.ga m.G.length m.gc
 nd:w.ownsRow w0.heap.size 38 56 (.slice m.s.na m.s.nodes.length m.s.nc) m.s.nodes.length (m.s.nodes.flatMap ndE)
 gr:w.ownsRow w0.heap.size 100 5 (.slice m.ga m.G.length m.gc) m.G.length (m.G.flatMap grC)
 tm:TM w w0.heap.size m.t m.T
 rq:∀ j,j < k→∃ a c,m.q[j]? = some (.slice a (l.R.getD j []).length c)∧w.ownsRow w0.heap.size 24 1 (.slice a (l.R.getD j []).length c) (l.R.getD j []).length ((l.R.getD j []).flatMap uC)
 nq:∀ j,j < 6→k≤j→m.q[j]? = some fu
 ne:∀ (j k:Nat) (v v':Value) (b:Nat),j≠k→m.q[j]? = some v→m.q[k]? = some v'→v.ownBlock=some b→v'.ownBlock≠some b
 bel:Below w0.heap.size w0 w
theorem CP.drew {w0:World} {m:LG} {k:Nat} (h:CP w0 w l m p k):CP w0 w.drew l m p k :=
 { h with
  bel:=h.bel.drew
  cl:=h.cl.drew
  tm:=h.tm.fresh (Below.refl _ w).drew
  nd:=bj h.nd fun _ _=>rfl
  gr:=bj h.gr fun _ _=>rfl
  rq:=fun j hj=>(h.rq j hj).imp fun a=>Exists.imp fun c hh=>⟨hh.1,bj hh.2 fun _ _=>rfl⟩ }
set_option maxHeartbeats 4000000 in
theorem Hg {w0:World} {m:LG} {l0 l1 t2 m3 i4 t5 t6 t7 t8 t9 t10 t11 t12 t13 t14 t15 t16 t17 t18 t19 t20 t21 t22 t23 t24 t25 t26 t27 t28 t29 t30 t31 t32 t33 t34 t35 t36 t37 t38 t39 t40 t41 t42 t43 t44 t45 t46 t47 t48 t49 t50 t51 t52 t53 t54 t55 t56 t57 t58 t59 t60 t61 t62 t63 t64 t65 t66 t67 t68 t69 t70 t71 t72 t73 t74 t75 t76 t77 t78:Value} (hl:LM w0 B p l) (hr:∀ k,k < 6→(l.R.getD k []).length≤1000000) {pm:Nat} (hc:CP w0 w l m pm 0) (hA:∀ x ∈ m.s.nodes,x.A.length=54)
  (q0:l0=.pointer (some ⟨p,0,none⟩)) (q3:m3=.pointer (some ⟨pm,0,none⟩)) (q4:i4=.int .i64 0)
  (h:∀ w' m',LM w' w0.heap.size pm m'→Below w0.heap.size w0 w'→m'.s.I=m.s.I→m'.s.L=m.s.L→m'.s.V=m.s.V→m'.s.nodes=m.s.nodes→m'.G=m.G→m'.T=m.T→m'.R=l.R→K (.pointer (some ⟨pm,0,none⟩)) w'):ez K ((l0::l1::t2::m3::i4::t5::t6::t7::t8::t9::t10::t11::t12::t13::t14::t15::t16::t17::t18::t19::t20::t21::t22::t23::t24::t25::t26::t27::t28::t29::t30::t31::t32::t33::t34::t35::t36::t37::t38::t39::t40::t41::t42::t43::t44::t45::t46::t47::t48::t49::t50::t51::t52::t53::t54::t55::t56::t57::t58::t59::t60::t61::t62::t63::t64::t65::t66::t67::t68::t69::t70::t71::t72::t73::t74::t75::t76::t77::t78::[])) w:=by
 subst q0 q3 q4
 refine mD (Inv:=fun i wr => ∃ (k:Nat) (m':LG),i=.int .i64 (k:Nat)∧k≤6∧CP w0 wr l m' pm k∧m'.s.I=m.s.I∧m'.s.L=m.s.L∧m'.s.V=m.s.V∧m'.s.nodes=m.s.nodes∧m'.G=m.G∧m'.T=m.T) (μ:=fun i _=>6 - (intOf i).toNat) ⟨0,m,rfl,by omega,hc,rfl,rfl,rfl,rfl,rfl,rfl⟩ ?_
 rintro _ dd w1 mm ⟨k,m',rfl,hk,c1,e1,e2,e3,e4,e5,e6⟩ hm
 refine aD ?_
 by_cases hk6:k < 6
 ·refine ai (by omega) ?_
  have c1:=c1.drew
  have hl1:LM w1.drew B p l:=hl.fresh c1.bel
  obtain ⟨a,c,hq,hrow⟩:=hl1.rq k hk6
  have hcq:(lgC l)[0+21+k]? = some (.slice a (l.R.getD k []).length c):=by rw [Nat.zero_add]; exact hl1.cQ.trans hq
  have hnq:=c1.nq k hk6 (Nat.le_refl _)
  have hcn:(lgC m')[0+21+k]? = some fu:=by
   rw [Nat.zero_add]
   unfold lgC
   have hs:(saC m'.s).length=20:=by simp [saC,c1.i6,c1.l6,c1.v6]
   rw [List.getElem?_append_right (by omega),hs,show 21+k - 20=k+1 by omega,List.getElem?_cons_succ]
   exact hnq
  have hrk:=hr k hk6
  generalize hrs:l.R.getD k []=rs at hrow hq hcq hrk
  refine aC (fun x=>blk x pm 79 (lgC m')∧blk x p 79 (lgC l)) ⟨c1.cl,hl1.cl⟩ ?_
  refine ab (fun x hx _=>ak) ?_
  refine ab (fun x hx _=>iJ) ?_
  refine ab (fun x hx _=>ixQ rfl hk6) ?_
  refine ab (v:=fu) (fun x hx _=>ld1 (fun _=>by kernel_rfl) hx.1 hcn) ?_
  refine ab (fun x hx _=>ak) ?_
  refine ab (fun x hx _=>iJ) ?_
  refine ab (fun x hx _=>ixQ rfl hk6) ?_
  refine ab (v:=.slice a rs.length c) (fun x hx _=>ld1 (fun _=>by kernel_rfl) hx.2 hcq) ?_
  refine ab (fun x hx _=>ak) ?_
  refine ab (fun x hx _=>iJ) ?_
  obtain ⟨ii,hi',hz,hsz,hby⟩:=info_parts oJ
  refine yR (base:=w0.heap.size) (av:=none) (s:=1) Tryz.underlying76 hi' hz hsz hby rfl (by omega) (World.ownsRow_nil _ _ _ _) hrow (pR zp _) (by omega) (by omega) c1.bel.size fun a' c' w2 hown hg b2 hob => ?_
  have B2:Below w1.drew.heap.size w1.drew w2:=ce hg (Nat.le_refl _) (fun k hk=>by cases hk)
  have hc2:=ae B2 c1.cl c1.cl.lt
  refine bn ⟨hc2,ae B2 hl1.cl hl1.cl.lt⟩ ?_
  refine ab (fun x hx _=>ixQ rfl hk6) ?_
  have hs27:(lgC m').length=27:=tt c1.i6 c1.l6 c1.v6 c1.q6
  refine eD (fun _=>by kernel_rfl) hc2 (by omega) rfl fun w3 hc3 o3 => ?_
  refine aF (by omega) (by omega) ?_
  rw [show 0+21+k=21+k by omega,zu c1.i6 c1.l6 c1.v6] at hc3
  have hql:∀ j,(m'.q.set k (.slice a' rs.length c'))[j]? = if k=j then some (.slice a' rs.length c') else m'.q[j]? := by
   intro j
   rw [List.getElem?_set]
   by_cases hkj:k=j
   ·subst hkj; simp [c1.q6,hk6]
   ·simp [hkj]
  have hold:∀ (j:Nat) (v:Value) (b:Nat),m'.q[j]? = some v→v.ownBlock=some b→b < w1.drew.heap.size:=by
   intro j v b hj hb
   have hj6:j < 6:=by rw [← c1.q6]; exact (List.getElem?_eq_some_iff.1 hj).1
   by_cases hjk:j < k
   ·obtain ⟨a2,c2,hq2,hr2⟩:=c1.rq j hjk
    rw [hj] at hq2
    cases hq2
    exact (World.ownsRow.lt hr2 b hb).2
   ·rw [c1.nq j hj6 (by omega)] at hj
    cases hj
    cases hb
  have hnew:∀ b,(Value.slice a' rs.length c').ownBlock=some b→b=w1.drew.heap.size:=by
   intro b hb
   rcases hob with h1 | h1
   ·rw [h1] at hb; cases hb
   ·rw [h1] at hb; cases hb; rfl
  refine ⟨⟨k+1, { m' with q:=m'.q.set k (.slice a' rs.length c') },congrArg (Value.int .i64) (by push_cast; rfl),by omega, ?_,e1,e2,e3,e4,e5,e6⟩,by rw [hm]; show 6 - ((k:Int)+1).toNat < 6 - (k:Int).toNat; omega⟩
  exact {
   i6:=c1.i6
   l6:=c1.l6
   v6:=c1.v6
   q6:=by rw [List.length_set]; exact c1.q6
   R:=c1.R
   cl:=hc3
   lo:=c1.lo
   gv:=c1.gv
   nd:=bR (bj c1.nd fun q hq=>B2.block q (World.ownsRow.lt c1.nd q hq).2) hc2 (by decide) o3
   gr:=bR (bj c1.gr fun q hq=>B2.block q (World.ownsRow.lt c1.gr q hq).2) hc2 (by decide) o3
   tm:=(c1.tm.fresh B2).keep (o3.keep (T:=[79]) (B:=w0.heap.size) hc2 (by simp) c1.lo) (by decide) (by decide)
   rq:=fun j hj=>by
    show ∃ a c,(m'.q.set k (.slice a' rs.length c'))[j]? = _∧_
    rw [hql]
    by_cases hkj:k=j
    ·subst hkj
     rw [if_pos rfl,hrs]
     exact ⟨a',c',rfl,bR hown hc2 (by decide) o3⟩
    ·rw [if_neg hkj]
     obtain ⟨a2,c2,hq2,hr2⟩:=c1.rq j (by omega)
     exact ⟨a2,c2,hq2,bR (bj hr2 fun q hq=>B2.block q (World.ownsRow.lt hr2 q hq).2) hc2 (by decide) o3⟩
   nq:=fun j hj6 hkj=>by
    show (m'.q.set k (.slice a' rs.length c'))[j]? = _
    rw [hql,if_neg (by omega)]
    exact c1.nq j hj6 (by omega)
   ne:=fun i j v v' b hij hi hj hb=>by
    replace hi:(m'.q.set k (.slice a' rs.length c'))[i]? = some v:=hi
    replace hj:(m'.q.set k (.slice a' rs.length c'))[j]? = some v':=hj
    rw [hql] at hi hj
    by_cases hki:k=i
    ·rw [if_pos hki] at hi
     cases hi
     have hb':=hnew b hb
     by_cases hkj:k=j
     ·omega
     ·rw [if_neg hkj] at hj
      intro hh
      have:=hold j v' b hj hh
      omega
    ·rw [if_neg hki] at hi
     by_cases hkj:k=j
     ·rw [if_pos hkj] at hj
      cases hj
      intro hh
      have h1:=hnew b hh
      have:=hold i v b hi hb
      omega
     ·rw [if_neg hkj] at hj
      exact c1.ne i j v v' b hij hi hj hb
   bel:=bN (c1.bel.trans (B2.mono c1.bel.size)) o3 c1.lo }
 ·refine ag (by omega) ?_
  have hk6:k=6:=by omega
  subst hk6
  refine mE ?_
  refine h w1 m' ?_ c1.bel e1 e2 e3 e4 e5 e6 c1.R
  exact {
   i6:=c1.i6
   l6:=c1.l6
   v6:=c1.v6
   q6:=c1.q6
   r6:=by rw [c1.R]; exact hl.r6
   A54:=by rw [e4]; exact hA
   cl:=c1.cl
   lo:=c1.lo
   gv:=c1.gv
   nd:=c1.nd
   gr:=c1.gr
   tm:=c1.tm
   rq:=by rw [c1.R]; exact c1.rq
   ne:=c1.ne }
end
end Go.Proofs.YtgpfkmdknlcemaaGreatDoor
namespace Go.Proofs.YtgpfkmdknlcemaaGreatDoor
set_option maxRecDepth 100000
open Go.RowKit
attribute [local irreducible] bin un conv call bl blt slc aa fld af idx lkp bL bP eSt rng nxt ent ext alc box bld aJ ld sto aj bm mkS ifc pick rdy wts au sti cond aH Gives ac aW bA cOp
section
variable {w:World} {K:KV} {B p:Nat} {l:LG}
theorem Hh {w0:World} {m:LG} {l0 l1 t2 m3 i4 t5 t6 t7 t8 t9 t10 t11 t12 t13 t14 t15 t16 t17 t18 t19 t20 t21 t22 t23 t24 t25 t26 t27 t28 t29 t30 t31 t32 t33 t34 t35 t36 t37 t38 t39 t40 t41 t42 t43 t44 t45 t46 t47 t48 t49 t50 t51 t52 t53 t54 t55 t56 t57 t58 t59 t60 t61 t62 t63 t64 t65 t66 t67 t68 t69 t70 t71 t72 t73 t74 t75 t76 t77 t78:Value} (hl:LM w0 B p l) (hr:∀ k,k < 6→(l.R.getD k []).length≤1000000) (ht:l.T.length≤1000000) {pm:Nat} (hc:CP w0 w l m pm 0) (hA:∀ x ∈ m.s.nodes,x.A.length=54) (hmT:m.T=[]) (hb:blk w m.t 140 [fu])
  (q0:l0=.pointer (some ⟨p,0,none⟩)) (q3:m3=.pointer (some ⟨pm,0,none⟩))
  (h:∀ w' m',LM w' w0.heap.size pm m'→Below w0.heap.size w0 w'→m'.s.I=m.s.I→m'.s.L=m.s.L→m'.s.V=m.s.V→m'.s.nodes=m.s.nodes→m'.G=m.G→m'.T=l.T→m'.R=l.R→K (.pointer (some ⟨pm,0,none⟩)) w'):dx K ((l0::l1::t2::m3::i4::t5::t6::t7::t8::t9::t10::t11::t12::t13::t14::t15::t16::t17::t18::t19::t20::t21::t22::t23::t24::t25::t26::t27::t28::t29::t30::t31::t32::t33::t34::t35::t36::t37::t38::t39::t40::t41::t42::t43::t44::t45::t46::t47::t48::t49::t50::t51::t52::t53::t54::t55::t56::t57::t58::t59::t60::t61::t62::t63::t64::t65::t66::t67::t68::t69::t70::t71::t72::t73::t74::t75::t76::t77::t78::[])) w:=by
 subst q0 q3
 refine mC ?_
 have hc:=hc.drew
 have hb:blk w.drew m.t 140 [fu]:=hb.drew
 have hl1:LM w.drew B p l:=hl.fresh hc.bel
 obtain ⟨a,c,htb,hrow⟩:=hl1.tm.row
 have hct:(lgC m)[20]? = some (.pointer (some ⟨m.t,0,none⟩)):=by
  have hs:(saC m.s).length=20:=by simp [saC,hc.i6,hc.l6,hc.v6]
  unfold lgC
  rw [List.getElem?_append_right (by omega),hs]
  rfl
 refine aC (fun x=>blk x pm 79 (lgC m)∧blk x p 79 (lgC l)∧blk x m.t 140 [fu]∧blk x l.t 140 [.slice a l.T.length c]) ⟨hc.cl,hl1.cl,hb,htb⟩ <|ab (fun x hx _=>ak) <|ab (fun x hx _=>kT) <|ab (v:=.pointer (some ⟨m.t,0,none⟩)) (fun x hx _=>ld1 (fun _=>by kernel_rfl) hx.1 hct) <|ab (fun x hx _=>ak) <|ab (fun x hx _=>kT) <|ab (v:=.pointer (some ⟨m.t,0,none⟩)) (fun x hx _=>ld1 (fun _=>by kernel_rfl) hx.1 hct) <|ab (fun x hx _=>ak) <|ab (fun x hx _=>eR) <|ab (v:=fu) (fun x hx _=>ld1 (fun _=>by kernel_rfl) hx.2.2.1 rfl) ?_
 refine ab (fun x hx _=>ak) <|ab (fun x hx _=>kT) <|ab (v:=.pointer (some ⟨l.t,0,none⟩)) (fun x hx _=>ld1 (fun _=>by kernel_rfl) hx.2.1 hl1.cT) <|ab (fun x hx _=>ak) <|ab (fun x hx _=>eR) <|ab (v:=.slice a l.T.length c) (fun x hx _=>ld1 (fun _=>by kernel_rfl) hx.2.2.2 rfl) ?_
 obtain ⟨ii,hi',hz,hsz,hby⟩:=info_parts zK
 refine yR (base:=w0.heap.size) (av:=none) (s:=2) Tryz.underlying138 hi' hz hsz hby rfl (by omega) (World.ownsRow_nil _ _ _ _) hrow (pR tz _) (by omega) (by omega) hc.bel.size fun a' c' w2 hown hg b2 hob => ?_
 have B2:Below w.drew.heap.size w.drew w2:=ce hg (Nat.le_refl _) (fun k hk=>by cases hk)
 have hb2:=ae B2 hb hb.lt
 refine bn ⟨ae B2 hc.cl hc.cl.lt,ae B2 hl1.cl hl1.cl.lt,hb2,ae B2 htb htb.lt⟩ <|ab (fun x hx _=>ak) <|ab (fun x hx _=>eR) <|eD (fun _=>by kernel_rfl) hb2 (by simp) rfl fun w3 hb3 o3 => ?_
 have hb3:blk w3 m.t 140 [.slice a' l.T.length c']:=hb3
 have c3:CP w0 w3 l { m with T:=l.T } pm 0 := {
   i6:=hc.i6
   l6:=hc.l6
   v6:=hc.v6
   q6:=hc.q6
   R:=hc.R
   cl:=o3.blk (ae B2 hc.cl hc.cl.lt) (fun hh=>hc.cl.ne hb (by decide) hh)
   lo:=hc.lo
   gv:=hc.gv
   nd:=bR (bj hc.nd fun q hq=>B2.block q (World.ownsRow.lt hc.nd q hq).2) hb2 (by decide) o3
   gr:=bR (bj hc.gr fun q hq=>B2.block q (World.ownsRow.lt hc.gr q hq).2) hb2 (by decide) o3
   tm:=⟨⟨a',c',hb3,bR hown hb2 (by decide) o3⟩,hc.tm.lo⟩
   rq:=fun j hj=>absurd hj (by omega)
   nq:=hc.nq
   ne:=hc.ne
   bel:=bN (hc.bel.trans (B2.mono hc.bel.size)) o3 hc.tm.lo }
 exact Hg hl hr c3 hA rfl rfl rfl h
set_option maxHeartbeats 4000000 in
theorem Hi {m:Nat} (hl:LM w B p l) (hg:GI l m) (hm:m≤100000)
  (h:∀ w' p' l',LM w' w.heap.size p' l'→GI l' m→Below w.heap.size w w'→l'.s.I=l.s.I→l'.s.L=l.s.L→l'.s.V=l.s.V→K (.pointer (some ⟨p',0,none⟩)) w'):call Tryz.prog 54 #[.pointer (some ⟨p,0,none⟩)] K w:=by
 refine aE nD (nC ?_)
 have hnn:=hg.nn
 have hgn:=hg.gn
 have htn:=hg.tn
 refine ak <|aA <|ldA (n:=20) (vs:=saC l.s) Tryz.underlying30 rfl (by kernel_rfl) hl.cl hl.cutS hl.sl <|eE (vs:=[fu]) (by kernel_rfl) <|bh fun w1 ht b1 s1 => ?_
 have ht:blk w1 w.heap.size 140 [fu]:=by simpa [Value.cells] using ht
 obtain ⟨i0,i1,i2,i3,i4,i5,hI⟩:=pV hl.i6
 obtain ⟨x0,x1,x2,x3,x4,x5,hL⟩:=pV hl.l6
 obtain ⟨v0,v1,v2,v3,v4,v5,hV⟩:=pV hl.v6
 let l1:LG := { l with T:=[],t:=w.heap.size,q:=uI }
 have hl1:lgC l1=[.bool i0,.bool i1,.bool i2,.bool i3,.bool i4,.bool i5,.bool x0,.bool x1,.bool x2,.bool x3,.bool x4,.bool x5,.int .u64 v0,.int .u64 v1,.int .u64 v2,.int .u64 v3,.int .u64 v4,.int .u64 v5,.slice l.s.na l.s.nodes.length l.s.nc,.slice l.ga l.G.length l.gc,.pointer (some ⟨w.heap.size,0,none⟩),fu,fu,fu,fu,fu,fu]:=by
  show saC l.s++_=_
  unfold saC
  rw [hI,hL,hV,hl.gv]
  rfl
 have hs1:saC l.s=[.bool i0,.bool i1,.bool i2,.bool i3,.bool i4,.bool i5,.bool x0,.bool x1,.bool x2,.bool x3,.bool x4,.bool x5,.int .u64 v0,.int .u64 v1,.int .u64 v2,.int .u64 v3,.int .u64 v4,.int .u64 v5,.slice l.s.na l.s.nodes.length l.s.nc,.slice l.ga l.G.length l.gc]:=by
  unfold saC
  rw [hI,hL,hV,hl.gv]
  rfl
 refine eE (vs:=lgC l1) (by rw [hl1,hs1]; kernel_rfl) <|bh fun w2 hc b2 s2 => ?_
 have hc:blk w2 w1.heap.size 79 (lgC l1):=by
  rw [hl1] at hc ⊢
  simpa [Value.cells] using hc
 rw [s1] at hc ⊢
 have ht2:=ae b2 ht ht.lt
 have bb2:Below w.heap.size w w2:=b1.trans (b2.mono (by omega))
 obtain ⟨in1,hn1,hnz,hnsz,hnby⟩:=info_parts Be
 refine Ds (base:=w.heap.size) Tryz.underlying27 hn1 hnsz bb2.size fun w3 hd3 b3 => ?_
 have bb3:=bb2.trans (b3.mono bb2.size)
 have hl3:=hl.fresh bb3
 have hc3:=ae b3 hc hc.lt
 have ht3:=ae b3 ht2 ht2.lt
 refine ak <|aA <|aU <|ld1 (v:=.slice l.s.na l.s.nodes.length l.s.nc) (fun _=>by kernel_rfl) hl3.cl hl3.cN <|yR (base:=w.heap.size) (s:=56) Tryz.underlying27 hn1 hnz hnsz hnby rfl (by omega) hd3 hl3.nd (pR pf _) (by omega) (by omega) bb3.size fun a4 c4 w4 hn4 hg4 b4 _ => ?_
 have bb4:=bb3.trans b4
 have hc4:=dv hc3 hd3 (by decide) hg4
 have ht4:=dv ht3 hd3 (by decide) hg4
 refine ak <|aA <|aU <|eD (fun _=>by kernel_rfl) hc4 (by rw [tt (l:=l1) hl.i6 hl.l6 hl.v6 rfl]; omega) rfl fun w5 hc5 o5 => ?_
 have hc5:blk w5 (w.heap.size+1) 79 (lgC { l1 with s := { l1.s with nodes:=l.s.nodes,na:=a4,nc:=c4 } }):=by rw [← pU (l:=l1) hl.i6 hl.l6 hl.v6]; exact hc5
 have bb5:=bN bb4 o5 (by omega)
 have ht5:=o5.blk ht4 (by omega)
 have hn5:=bR hn4 hc4 (by decide) o5
 obtain ⟨ig1,hg1,hgz,hgsz,hgby⟩:=info_parts Bf
 refine Ds (base:=w.heap.size) Tryz.underlying28 hg1 hgsz bb5.size fun w6 hd6 b6 => ?_
 have bb6:=bb5.trans (b6.mono bb5.size)
 have hl6:=hl.fresh bb6
 have hc6:=ae b6 hc5 hc5.lt
 have ht6:=ae b6 ht5 ht5.lt
 have hn6:=bj hn5 fun q hq=>b6.block q (World.ownsRow.lt hn5 q hq).2
 refine ak <|aA <|dA <|ld1 (v:=.slice l.ga l.G.length l.gc) (fun _=>by kernel_rfl) hl6.cl hl6.cG <|yR (base:=w.heap.size) (s:=5) Tryz.underlying28 hg1 hgz hgsz hgby rfl (by omega) hd6 hl6.gr (pR nm _) (by omega) (by omega) bb6.size fun a7 c7 w7 hg7 hg7' b7 _ => ?_
 have bb7:=bb6.trans b7
 have hc7:=dv hc6 hd6 (by decide) hg7'
 have ht7:=dv ht6 hd6 (by decide) hg7'
 have hn7:=gh hn6 hd6 (by decide) hg7'
 refine ak <|aA <|dA <|eD (fun _=>by kernel_rfl) hc7 (by rw [tt (l := { l1 with s := { l1.s with nodes:=l.s.nodes,na:=a4,nc:=c4 } }) hl.i6 hl.l6 hl.v6 rfl]; omega) rfl fun w8 hc8 o8 => ?_
 have ht8:blk w8 w.heap.size 140 [fu]:=o8.blk ht7 (by omega)
 let l8:LG := { l1 with s := { l1.s with nodes:=l.s.nodes,na:=a4,nc:=c4,gv:=.slice a7 l.G.length c7 },ga:=a7,gc:=c7 }
 have hc8:blk w8 (w.heap.size+1) 79 (lgC l8):=by
  have e:=uH (l := { l1 with s := { l1.s with nodes:=l.s.nodes,na:=a4,nc:=c4 } }) hl.i6 hl.l6 hl.v6 l.G a7 c7
  exact e ▸ hc8
 have hcp:CP w w8 l l8 (w.heap.size+1) 0 := {
   i6:=hl.i6
   l6:=hl.l6
   v6:=hl.v6
   q6:=rfl
   R:=rfl
   cl:=hc8
   lo:=by omega
   gv:=rfl
   nd:=bR hn7 hc7 (by decide) o8
   gr:=bR hg7 hc7 (by decide) o8
   tm:=⟨⟨none,0,ht8,World.ownsRow_nil _ _ _ _⟩,Nat.le_refl _⟩
   rq:=fun j hj=>absurd hj (by omega)
   nq:=fun j hj _=>by
    show uI[j]? = some fu
    unfold uI
    rw [List.getElem?_replicate,if_pos hj]
   ne:=fun j k v v' b hjk hj hk hb=>by
    rw [Bk hj] at hb
    cases hb
   bel:=bN bb7 o8 (by omega) }
 refine Hh hl (fun k hk=>Nat.le_trans (hg.rn k hk) (by omega)) (by omega) hcp hl.A54 rfl ht8 rfl rfl fun w' l' hm' hb' e1 e2 e3 e4 e5 e6 e7 => ?_
 refine h w' _ l' hm' ?_ hb' e1 e2 e3
 exact ⟨by rw [e6]; exact hg.tk,by rw [e6,e4]; exact hg.nt,by rw [e4]; exact hg.nn,by rw [e5]; exact hg.gn,by rw [e6]; exact hg.tn,by rw [e7]; exact hg.rn,by rw [e3]; exact hg.vb,by rw [e5]; exact hg.gr⟩
end
end Go.Proofs.YtgpfkmdknlcemaaGreatDoor
namespace Go.Proofs.YtgpfkmdknlcemaaGreatDoor
set_option maxRecDepth 100000
open Go.RowKit
theorem LM.drew {w:World} {B p:Nat} {l:LG} (h:LM w B p l):LM w.drew B p l:=h.fresh (Below.refl _ w).drew
theorem LM.nodes' {w w':World} {B p:Nat} {l:LG} {Ts:List TypeId} {N:List ND} {a:Option Addr} {c:Nat} (h:LM w B p l) (hk:Keep Ts B w w') (h1:100 ∉ Ts) (h2:140 ∉ Ts) (h3:199 ∉ Ts) (h4:24 ∉ Ts)
  (hcl:blk w' p 79 (lgC { l with s := { l.s with nodes:=N,na:=a,nc:=c } })) (hnd:w'.ownsRow B 38 56 (.slice a N.length c) N.length (N.flatMap ndE)) (hA:∀ x ∈ N,x.A.length=54):LM w' B p { l with s := { l.s with nodes:=N,na:=a,nc:=c } } :=
 { h with
  A54:=hA
  cl:=hcl
  nd:=hnd
  gr:=bO h.gr hk h1
  tm:=h.tm.keep hk h2 h3
  rq:=fun k hk' => (h.rq k hk').imp fun a=>Exists.imp fun c hh=>⟨hh.1,bO hh.2 hk h4⟩ }
theorem LM.tree' {w w':World} {B p:Nat} {l:LG} {T:List (Int × Int)} (h:LM w B p l) (hk:Keep qj B w w') (ht:TM w' B l.t T):LM w' B p { l with T:=T } :=
 { h with
  cl:=hk.blk h.cl (.inr (by decide))
  nd:=bO h.nd hk (by decide)
  gr:=bO h.gr hk (by decide)
  tm:=ht
  rq:=fun k hk' => (h.rq k hk').imp fun a=>Exists.imp fun c hh=>⟨hh.1,bO hh.2 hk (by decide)⟩ }
abbrev mB:List TypeId:=[79,38]
theorem Bg {x:ND} (h:x.A.length=54) {k:Nat} (hk:k < 54) (v:Int):(ndE x).set (2+k) (iv v)=ndE { x with A:=x.A.set k v }:=by
 rw [vx h,vx (by simpa using h)]
 unfold ndC
 rw [show 2+k=(k+1)+1 by omega,List.set_cons_succ,List.set_cons_succ,List.map_set]
attribute [local irreducible] bin un conv call bl blt slc aa fld af idx lkp bL bP eSt rng nxt ent ext alc box bld aJ ld sto aj bm mkS ifc pick rdy wts au sti cond aH Gives ac aW bA cOp
section
variable {w:World} {K:KV} {B p:Nat} {l:LG}
set_option maxHeartbeats 4000000 in
theorem EQ {l0 e1 l2 e3 t4 own5 i6 id7 f8 n9 at10 t11 t12 t13 t14 t15 t16 t17 t18 t19 t20 t21 t22 t23 t24 t25 t26 t27 t28 t29 t30 t31 t32 t33 t34 t35 t36 t37 t38 t39 t40 t41 t42 t43 t44 t45 t46 t47 t48 t49 t50 t51 t52 t53 t54 t55 t56 t57 t58 t59 t60 t61 t62 t63 t64 t65 t66 t67 t68 t69 t70 t71 t72 t73 t74 t75 t76 t77 t78 t79 t80 t81 t82 t83 t84 t85 t86 t87 t88 t89 t90 t91 t92 t93 t94 t95 t96 t97 t98 t99 t100 t101 t102 t103 t104 t105 t106 t107 t108 t109 t110 t111 t112 t113 t114 t115 t116 t117 t118 t119 t120 t121 t122 t123 t124 t125 t126 t127 t128 t129 t130 t131:Value} {e:EV} {id:Int} {eb nb:Nat} (hl:LM w B p l) (hN:l.s.nodes.length≤1000) (hB:B≤w.heap.size) (ho:1≤e.o∧e.o≤6) (he:blk w eb 54 (evC e)) (hn:blk w nb 38 (ndE ⟨id,e.n,z54⟩)) (hnB:B≤nb) (hnn:∀ k,(Value.slice l.s.na l.s.nodes.length l.s.nc).ownBlock=some k→k < nb)
  (q0:l0=.pointer (some ⟨p,0,none⟩)) (q3:e3=.pointer (some ⟨eb,0,none⟩)) (q7:id7=.int .u64 id) (q9:n9=.pointer (some ⟨nb,0,none⟩))
  (good:∀ w' l',LM w' B p l'→l'.T=l.T→l'.G=l.G→l'.R=l.R→l'.s.V=l.s.V→(∃ i x,x.id=id∧l'.s.nodes=ee l.s.nodes i x)→Keep mB B w w'→K (.int .i64 0) w'):dm K ((l0::e1::l2::e3::t4::own5::i6::id7::f8::n9::at10::t11::t12::t13::t14::t15::t16::t17::t18::t19::t20::t21::t22::t23::t24::t25::t26::t27::t28::t29::t30::t31::t32::t33::t34::t35::t36::t37::t38::t39::t40::t41::t42::t43::t44::t45::t46::t47::t48::t49::t50::t51::t52::t53::t54::t55::t56::t57::t58::t59::t60::t61::t62::t63::t64::t65::t66::t67::t68::t69::t70::t71::t72::t73::t74::t75::t76::t77::t78::t79::t80::t81::t82::t83::t84::t85::t86::t87::t88::t89::t90::t91::t92::t93::t94::t95::t96::t97::t98::t99::t100::t101::t102::t103::t104::t105::t106::t107::t108::t109::t110::t111::t112::t113::t114::t115::t116::t117::t118::t119::t120::t121::t122::t123::t124::t125::t126::t127::t128::t129::t130::t131::[])) w:=by
 subst q0 q3 q7 q9
 refine lP <|cC <|ld1 (v:=iv e.o) (fun _=>by kernel_rfl) he rfl <|bo (by omega) (by omega) <|cS <|ld1 (v:=iv e.a) (fun _=>by kernel_rfl) he rfl ?_
 obtain ⟨q,hq⟩:∃ q:Nat,q=(e.o - 1).toNat:=⟨_,rfl⟩
 have hq6:q < 6:=by omega
 refine fP <|qm <|ixR (k:=q) (by omega) hq6 <|eD (fun _=>by kernel_rfl) hn (by rw [cZ]; omega) rfl fun w1 hn1 o1 => ?_
 rw [show 0+2+0+q=2+q by omega,Bg (by rfl) (by omega)] at hn1
 generalize hx:(⟨id,e.n,z54.set q e.a⟩:ND)=x at hn1
 have hxA:x.A.length=54:=by rw [← hx]; show (z54.set q e.a).length=54; rw [List.length_set]; rfl
 have hxid:x.id=id:=by rw [← hx]
 have k1:Keep mB B w w1:=o1.keep hn (by simp) hnB
 have hcl1:blk w1 p 79 (lgC l):=o1.blk hl.cl (fun hh=>hl.cl.ne hn (by decide) hh)
 have hnd1:w1.ownsRow B 38 56 (.slice l.s.na l.s.nodes.length l.s.nc) l.s.nodes.length (l.s.nodes.flatMap ndE):=bj hl.nd fun k hk=>o1.other k (by have:=hnn k hk; omega)
 refine ak <|aA <|aU <|ld1 (v:=.slice l.s.na l.s.nodes.length l.s.nc) (fun _=>by kernel_rfl) hcl1 hl.cN <|aI Tryz.underlying27 <|aC (fun y=>blk y p 79 (lgC l)∧blk y nb 38 (ndE x)) ⟨hcl1.drew,hn1.drew⟩ <|ab (fun y hy _=>ak) <|ab (fun y hy _=>aA) <|ab (fun y hy _=>aU) <|ab (v:=.slice l.s.na l.s.nodes.length l.s.nc) (fun y hy _=>ld1 (fun _=>by kernel_rfl) hy.1 hl.cN) ?_
 refine ab (v:=.agg (ndE x).toArray) (fun y hy _=>ldA (n:=56) (vs:=ndE x) Tryz.underlying38 rfl (by kernel_rfl) hy.2 (by rw [List.drop_zero,List.take_of_length_le (by rw [cZ]; omega)]) (cZ x)) <|hH (vs:=[.agg (ndE x).toArray]) Tryz.underlying27 (s:=56) (by kernel_rfl) (by kernel_rfl) (by omega) rfl (by simp) (by simp) (by simp) (by simp [Value.cells,cZ]) fun w2 h2 b2 s2 => ?_
 have h2:blk w2 w1.drew.heap.size 38 (ndE x):=by simpa [Value.cells] using h2
 have hcl2:blk w2 p 79 (lgC l):=ae b2 hcl1.drew hcl1.drew.lt
 have hnb2:blk w2 nb 38 (ndE x):=ae b2 hn1.drew hn1.drew.lt
 have hnd2:=bj hnd1 fun q hq=>b2.block q (World.ownsRow.lt hnd1 q hq).2
 have k2:Keep mB B w w2:=k1.drew.trans (Keep.of b2)
 refine bn ⟨hcl2,hnb2⟩ ?_
 obtain ⟨ii,hi',hz,hsz,hby⟩:=info_parts Be
 have hs2:B≤w2.heap.size:=Nat.le_trans hB k2.size
 refine ka (base:=B) (x:=x) Tryz.underlying27 hi' hz hsz hby rfl (by omega) cZ hnd2 h2 (pf _) (by omega) (by omega) hs2 fun a3 c3 w3 hnd3 hgr b3 hob => ?_
 have k3:Keep mB B w w3:=k2.trans (Keep.grown hgr hnd2 (by simp) (Nat.le_refl _))
 have hcl3:blk w3 p 79 (lgC l):=dv hcl2 hnd2 (by decide) hgr
 have hnb3:blk w3 nb 38 (ndE x):=by
  unfold Go.Proofs.YtgpfkmdknlcemaaGreatDoor.blk
  rw [hgr.block nb hnb2.lt (fun hh=>by have:=hnn nb hh.symm; omega)]
  exact hnb2
 have hnb3':∀ k,(Value.slice a3 (l.s.nodes.length+1) c3).ownBlock=some k→k≠nb:=by
  intro k hk
  rcases hob with hh | hh
  ·rw [hh] at hk; have:=hnn k hk; omega
  ·rw [hh] at hk; cases hk; have:=hnb2.lt; omega
 refine aC (fun _=>True) trivial <|ab (fun y hy _=>ak) <|ab (fun y hy _=>aA) <|ab (fun y hy _=>aU) <|eD (fun _=>by kernel_rfl) hcl3 (by rw [hl.ll]; omega) rfl fun w4 hcl4 o4 => ?_
 have hnd4:=bR hnd3 hcl3 (by decide) o4
 rw [← zF] at hnd4
 have hnb4:blk w4 nb 38 (ndE x):=o4.blk hnb3 (fun hh=>hnb3.ne hcl3 (by decide) hh)
 have k4:Keep mB B w w4:=k3.trans (o4.keep hcl3 (by simp) hl.lo)
 have hcl4:blk w4 p 79 ((lgC l).set 18 (.slice a3 (l.s.nodes.length+1) c3)):=hcl4
 generalize hcells:(lgC l).set 18 (.slice a3 (l.s.nodes.length+1) c3)=cells at hcl4
 have hc18:cells[0+0+18]? = some (.slice a3 (l.s.nodes.length+1) c3):=by rw [← hcells,List.getElem?_set_self (by rw [hl.ll]; omega)]
 refine lQ ?_
 refine lR (Inv:=fun atv _ _ _ _ _ _ _ _ _ _ _ _ wr => ∃ (k:Nat) (z:ND),atv=.int .i64 (k:Nat)∧k≤l.s.nodes.length∧z.A.length=54∧blk wr p 79 cells∧blk wr nb 38 (ndE x) ∧
   wr.ownsRow B 38 56 (.slice a3 (l.s.nodes.length+1) c3) (l.s.nodes.length+1) ((ee l.s.nodes k z).flatMap ndE)∧Keep mB B w wr)
  (μ:=fun atv _ _ _ _ _ _ _ _ _ _ _ _ _=>(intOf atv).toNat) ⟨l.s.nodes.length,x,rfl,Nat.le_refl _,hxA,hcl4,hnb4,hnd4,k4⟩ ?_
 rintro _ _ _ _ _ _ _ _ _ _ _ _ _ dd w5 mm ⟨k,z,rfl,hk,hzA,hcl5,hnb5,hnd5,k5⟩ hm
 have fin:∀ {l0 e1 l2 e3 t4 own5 i6 id7 f8 n9 at10 t11 t12 t13 t14 t15 t16 t17 t18 t19 t20 t21 t22 t23 t24 t25 t26 t27 t28 t29 t30 t31 t32 t33 t34 t35 t36 t37 t38 t39 t40 t41 t42 t43 t44 t45 t46 t47 t48 t49 t50 t51 t52 t53 t54 t55 t56 t57 t58 t59 t60 t61 t62 t63 t64 t65 t66 t67 t68 t69 t70 t71 t72 t73 t74 t75 t76 t77 t78 t79 t80 t81 t82 t83 t84 t85 t86 t87 t88 t89 t90 t91 t92 t93 t94 t95 t96 t97 t98 t99 t100 t101 t102 t103 t104 t105 t106 t107 t108 t109 t110 t111 t112 t113 t114 t115 t116 t117 t118 t119 t120 t121 t122 t123 t124 t125 t126 t127 t128 t129 t130 t131:Value} {w5:World},l0=.pointer (some ⟨p,0,none⟩)→n9=.pointer (some ⟨nb,0,none⟩)→at10=.int .i64 (k:Nat)→blk w5 p 79 cells→blk w5 nb 38 (ndE x) →
   w5.ownsRow B 38 56 (.slice a3 (l.s.nodes.length+1) c3) (l.s.nodes.length+1) ((ee l.s.nodes k z).flatMap ndE)→Keep mB B w w5→bH K ((l0::e1::l2::e3::t4::own5::i6::id7::f8::n9::at10::t11::t12::t13::t14::t15::t16::t17::t18::t19::t20::t21::t22::t23::t24::t25::t26::t27::t28::t29::t30::t31::t32::t33::t34::t35::t36::t37::t38::t39::t40::t41::t42::t43::t44::t45::t46::t47::t48::t49::t50::t51::t52::t53::t54::t55::t56::t57::t58::t59::t60::t61::t62::t63::t64::t65::t66::t67::t68::t69::t70::t71::t72::t73::t74::t75::t76::t77::t78::t79::t80::t81::t82::t83::t84::t85::t86::t87::t88::t89::t90::t91::t92::t93::t94::t95::t96::t97::t98::t99::t100::t101::t102::t103::t104::t105::t106::t107::t108::t109::t110::t111::t112::t113::t114::t115::t116::t117::t118::t119::t120::t121::t122::t123::t124::t125::t126::t127::t128::t129::t130::t131::[])) w5:=by
  intro l0 e1 l2 e3 t4 own5 i6 id7 f8 n9 at10 t11 t12 t13 t14 t15 t16 t17 t18 t19 t20 t21 t22 t23 t24 t25 t26 t27 t28 t29 t30 t31 t32 t33 t34 t35 t36 t37 t38 t39 t40 t41 t42 t43 t44 t45 t46 t47 t48 t49 t50 t51 t52 t53 t54 t55 t56 t57 t58 t59 t60 t61 t62 t63 t64 t65 t66 t67 t68 t69 t70 t71 t72 t73 t74 t75 t76 t77 t78 t79 t80 t81 t82 t83 t84 t85 t86 t87 t88 t89 t90 t91 t92 t93 t94 t95 t96 t97 t98 t99 t100 t101 t102 t103 t104 t105 t106 t107 t108 t109 t110 t111 t112 t113 t114 t115 t116 t117 t118 t119 t120 t121 t122 t123 t124 t125 t126 t127 t128 t129 t130 t131 w5 q1 q2 q3 hcl6 hnb6 hnd6 k6
  subst q1 q2 q3
  refine lS ?_
  have hcl6:=hcl6.drew
  have hnb6:=hnb6.drew
  have hnd6:w5.drew.ownsRow B 38 56 (.slice a3 (l.s.nodes.length+1) c3) (l.s.nodes.length+1) ((ee l.s.nodes k z).flatMap ndE):=hnd6
  refine a8 (fun _=>ak) <|a8 (fun _=>aA) <|a8 (fun _=>aU) <|a8 (v:=.slice a3 (l.s.nodes.length+1) c3) (fun _=>ld1 (fun _=>by kernel_rfl) hcl6 hc18) <|a8 (v:=.agg (ndE x).toArray) (fun _=>ldA (n:=56) (vs:=ndE x) Tryz.underlying38 rfl (by kernel_rfl) hnb6 (by rw [List.drop_zero,List.take_of_length_le (by rw [cZ]; omega)]) (cZ x)) ?_
  obtain ⟨g,cur,rfl,op⟩:=aZ hnd6 (by omega)
  refine a8 (v:=.pointer (some ⟨g,0+((k:Nat):Int).toNat * 56,none⟩)) (fun _=>bJ Tryz.underlying27 (s:=56) (fun _=>by kernel_rfl) (by omega) (by omega)) <|op.sto cZ fA (by omega) (by kernel_rfl) (pf _) fun w7 o7 hnd7 => ?_
  rw [qf hk] at hnd7
  have k7:Keep mB B w w7:=k6.drew.trans (o7.keep op.blk (by simp) op.lo)
  have hcl7:blk w7 p 79 cells:=o7.blk hcl6 (fun hh=>hcl6.ne op.blk (by decide) hh)
  have hlen:(ee l.s.nodes k x).length=l.s.nodes.length+1:=fA
  refine good w7 { l with s := { l.s with nodes:=ee l.s.nodes k x,na:=some ⟨g,0,none⟩,nc:=c3 } } (hl.nodes' k7 (by decide) (by decide) (by decide) (by decide) ?_ ?_ ?_) rfl rfl rfl rfl ⟨k,x,hxid,rfl⟩ k7
  ·rw [← pU hl.i6 hl.l6 hl.v6,hlen,hcells]; exact hcl7
  ·rw [hlen]; exact hnd7
  ·intro y hy
   rcases iR.1 hy with e | e
   ·rw [e]; exact hxA
   ·exact hl.A54 y e
 refine cD ?_
 by_cases hk0:(0:Int) < (k:Nat)
 ·refine dz hk0 ?_
  obtain ⟨k,rfl⟩:=Nat.exists_eq_succ_of_ne_zero (show k≠0 by omega)
  have ek:((k.succ:Nat):Int) - 1=(k:Nat):=by omega
  have hkn:k < l.s.nodes.length:=by omega
  have hy:l.s.nodes[k]? = some l.s.nodes[k]:=List.getElem?_eq_getElem hkn
  generalize l.s.nodes[k]=y at hy
  have hpre:(ee l.s.nodes k.succ z)[k]? = some y:=by have:=zE (L:=l.s.nodes) (z:=z) (show 0 < k.succ by omega) hk; rw [Nat.succ_sub_one] at this; rw [this]; exact hy
  obtain ⟨g,cur,rfl,op⟩:=aZ hnd5 (by omega)
  refine ak <|aA <|aU <|ld1 (v:=.slice (some ⟨g,0,none⟩) (l.s.nodes.length+1) c3) (fun _=>by kernel_rfl) hcl5 hc18 <|bo (by omega) (by omega) ?_
  rw [ek]
  refine bJ Tryz.underlying27 (s:=56) (fun _=>by kernel_rfl) (by omega) (by omega) <|gC <|ld1 (v:=u6 y.id) (fun _=>by kernel_rfl) op.blk (by rw [Int.toNat_natCast,Nat.zero_add]; exact op.cell cZ fA hpre (show 0 < 56 by omega)) <|cD <|bp hk0 ?_
  by_cases hgt:id < y.id
  ·refine ai hgt ?_
   have hcl5:=hcl5.drew
   have hnb5:=hnb5.drew
   have opd:Opn w5.drew B 38 56 (l.s.nodes.length+1) c3 g cur ((ee l.s.nodes k.succ z).flatMap ndE):=⟨op.blk,op.lo,op.nc,op.cm,op.len,op.take,op.xl⟩
   refine a8 (fun _=>ak) <|a8 (fun _=>aA) <|a8 (fun _=>aU) <|a8 (v:=.slice (some ⟨g,0,none⟩) (l.s.nodes.length+1) c3) (fun _=>ld1 (fun _=>by kernel_rfl) hcl5 hc18) <|a8 (fun _=>ak) <|a8 (fun _=>aA) <|a8 (fun _=>aU) <|a8 (v:=.slice (some ⟨g,0,none⟩) (l.s.nodes.length+1) c3) (fun _=>ld1 (fun _=>by kernel_rfl) hcl5 hc18) <|a8 (v:=.int .i64 (k:Nat)) (fun K hK=>bo (by omega) (by omega) (by rw [ek]; exact hK)) <|a8 (v:=.pointer (some ⟨g,0+((k:Nat):Int).toNat * 56,none⟩)) (fun _=>bJ Tryz.underlying27 (s:=56) (fun _=>by kernel_rfl) (by omega) (by omega)) ?_
   refine a8 (v:=.agg (ndE y).toArray) (fun _=>ldA (n:=56) (vs:=ndE y) Tryz.underlying38 rfl (by kernel_rfl) opd.blk (by rw [Int.toNat_natCast,Nat.zero_add]; exact opd.elem cZ fA hpre) (cZ y)) <|a8 (v:=.pointer (some ⟨g,0+((k.succ:Nat):Int).toNat * 56,none⟩)) (fun _=>bJ Tryz.underlying27 (s:=56) (fun _=>by kernel_rfl) (by omega) (by omega)) <|opd.sto cZ fA (by omega) (by kernel_rfl) (pf _) fun w6 o6 hnd6 => ?_
   rw [qf hk] at hnd6
   have hsh:ee l.s.nodes k.succ y=ee l.s.nodes k y:=by have:=vX (L:=l.s.nodes) (x:=y) (show 0 < k.succ by omega) (by rw [Nat.succ_sub_one]; exact hy); rwa [Nat.succ_sub_one] at this
   rw [hsh] at hnd6
   refine bo (by omega) (by omega) ?_
   have hgn:g≠nb:=by
    have:(Value.slice (some ⟨g,0,none⟩) (l.s.nodes.length+1) c3).ownBlock=some g:=rfl
    exact hnb3' g this
   refine ⟨⟨k,y,congrArg (Value.int .i64) ek,by omega,hl.A54 y (List.mem_of_getElem? hy),o6.blk hcl5 (fun hh=>hcl5.ne opd.blk (by decide) hh),o6.blk hnb5 (by omega),hnd6,k5.drew.trans (o6.keep opd.blk (by simp) opd.lo)⟩,by rw [hm]; show (((k.succ:Nat):Int) - 1).toNat < ((k.succ:Nat):Int).toNat; omega⟩
  ·refine ag hgt ?_
   exact fin rfl rfl rfl hcl5 hnb5 hnd5 k5
 ·have:k=0:=by omega
  subst this
  refine eK hk0 <|bt hk0 <|cW ?_
  exact fin rfl rfl rfl hcl5 hnb5 hnd5 k5
end
end Go.Proofs.YtgpfkmdknlcemaaGreatDoor
namespace Go.Proofs.YtgpfkmdknlcemaaGreatDoor
set_option maxRecDepth 100000
open Go.RowKit
theorem LM.nn {w:World} {B p:Nat} {l:LG} (h:LM w B p l):∀ k,(Value.slice l.s.na l.s.nodes.length l.s.nc).ownBlock=some k→k < w.heap.size:=fun k hk=>(World.ownsRow.lt h.nd k hk).2
theorem Hj {T:List (Int × Int)} {id par:Int} (h:(qh T id par).2=0):id≠0∧ef T id=false∧(par=0∨ef T par=true)∧T.length < 32∧(qh T id par).1=ee T (nP (gtI id) T T.length) (id,par):=by
 unfold qh at h ⊢
 by_cases h1:id=0
 ·rw [if_pos h1] at h; simp at h
 rw [if_neg h1] at h ⊢
 by_cases h2:ef T id=true
 ·rw [if_pos h2] at h; simp at h
 rw [if_neg h2] at h ⊢
 by_cases h3:par≠0∧ef T par=false
 ·rw [if_pos h3] at h; simp at h
 rw [if_neg h3] at h ⊢
 by_cases h4:32≤T.length∨4≤(fq T par).length
 ·rw [if_pos h4] at h; simp at h
 rw [if_neg h4]
 refine ⟨h1,by simpa using h2, ?_,by omega,rfl⟩
 by_cases hp:par=0
 ·exact .inl hp
 ·refine .inr ?_
  cases hq:ef T par with
  | true=>rfl
  | false=>exact absurd ⟨hp,hq⟩ h3
attribute [local irreducible] bin un conv call bl blt slc aa fld af idx lkp bL bP eSt rng nxt ent ext alc box bld aJ ld sto aj bm mkS ifc pick rdy wts au sti cond aH Gives ac aW bA cOp
section
variable {w:World} {K:KV} {B p:Nat} {l:LG}
set_option maxHeartbeats 2000000 in
theorem ER {l0 e1 l2 e3 t4 own5 i6 id7 f8 n9 at10 t11 t12 t13 t14 t15 t16 t17 t18 t19 t20 t21 t22 t23 t24 t25 t26 t27 t28 t29 t30 t31 t32 t33 t34 t35 t36 t37 t38 t39 t40 t41 t42 t43 t44 t45 t46 t47 t48 t49 t50 t51 t52 t53 t54 t55 t56 t57 t58 t59 t60 t61 t62 t63 t64 t65 t66 t67 t68 t69 t70 t71 t72 t73 t74 t75 t76 t77 t78 t79 t80 t81 t82 t83 t84 t85 t86 t87 t88 t89 t90 t91 t92 t93 t94 t95 t96 t97 t98 t99 t100 t101 t102 t103 t104 t105 t106 t107 t108 t109 t110 t111 t112 t113 t114 t115 t116 t117 t118 t119 t120 t121 t122 t123 t124 t125 t126 t127 t128 t129 t130 t131:Value} {e:EV} {m eb:Nat} {c:Int} (hl:LM w B p l) (hg:GI l m) (hm:m≤900) (hB:B≤w.heap.size) (ho:1≤e.o∧e.o≤6) (hs:1≤e.s∧e.s < 1099511627776) (he:blk w eb 54 (evC e))
  (q0:l0=.pointer (some ⟨p,0,none⟩)) (q3:e3=.pointer (some ⟨eb,0,none⟩)) (q5:own5=.int .i64 c)
  (bad:∀ w' (v:Int),v≠0→Below B w w'→K (.int .i64 v) w') (good:∀ w' l',LM w' B p l'→GI l' (m+1)→l'.s.V=l.s.V→Below B w w'→K (.int .i64 0) w'):aP K ((l0::e1::l2::e3::t4::own5::i6::id7::f8::n9::at10::t11::t12::t13::t14::t15::t16::t17::t18::t19::t20::t21::t22::t23::t24::t25::t26::t27::t28::t29::t30::t31::t32::t33::t34::t35::t36::t37::t38::t39::t40::t41::t42::t43::t44::t45::t46::t47::t48::t49::t50::t51::t52::t53::t54::t55::t56::t57::t58::t59::t60::t61::t62::t63::t64::t65::t66::t67::t68::t69::t70::t71::t72::t73::t74::t75::t76::t77::t78::t79::t80::t81::t82::t83::t84::t85::t86::t87::t88::t89::t90::t91::t92::t93::t94::t95::t96::t97::t98::t99::t100::t101::t102::t103::t104::t105::t106::t107::t108::t109::t110::t111::t112::t113::t114::t115::t116::t117::t118::t119::t120::t121::t122::t123::t124::t125::t126::t127::t128::t129::t130::t131::[])) w:=by
 subst q0 q3 q5
 obtain ⟨⟨rk,htk⟩,hnt,hnn,hgn,htn,hrn,hvb,hgr⟩:=hg
 refine lO <|dI ?_
 by_cases hc:c ≥ 5
 ·refine de hc <|bp hc <|aR ?_
  exact bad w 6 (by decide) (Below.refl _ _)
 refine cE hc <|cS <|ld1 (v:=iv e.a) (fun _=>by kernel_rfl) he rfl <|cD <|bt hc ?_
 by_cases ha:140737488355328 < e.a
 ·refine ai ha ?_
  exact bad w 6 (by decide) (Below.refl _ _)
 refine ag ha <|cC <|ld1 (v:=iv e.o) (fun _=>by kernel_rfl) he rfl <|jA <|ld1 (v:=u6 e.s) (fun _=>by kernel_rfl) he rfl <|JD (by omega) (by omega) ?_
 rw [if_neg (by omega)]
 generalize e.o * 1099511627776+e.s=id
 refine aC (fun y=>blk y p 79 (lgC l)∧blk y eb 54 (evC e)) ⟨hl.cl.drew,he.drew⟩ <|ab (fun y hy _=>ak) <|ab (fun y hy _=>kT) <|ab (v:=.pointer (some ⟨l.t,0,none⟩)) (fun y hy _=>ld1 (fun _=>by kernel_rfl) hy.1 hl.cT) <|ab (fun y hy _=>dU) <|ab (v:=u6 e.n) (fun y hy _=>ld1 (fun _=>by kernel_rfl) hy.2 rfl) <|ID htk hl.drew.tm (by omega) hB fun w2 ht2 k2 => ?_
 have hl2:LM w2 B p { l with T:=(qh l.T id e.n).1 }:=hl.drew.tree' k2 ht2
 have he2:blk w2 eb 54 (evC e):=k2.blk he.drew (.inr (by decide))
 have B2:Below B w w2:=(k2.undrew).below hB
 have s2:B≤w2.heap.size:=Nat.le_trans hB k2.size
 refine aC (fun _=>True) trivial <|dn ?_
 by_cases hf:(qh l.T id e.n).2≠0
 ·refine ai hf ?_
  exact bad w2 _ hf B2
 refine ag hf ?_
 have hf:(qh l.T id e.n).2=0:=by simpa using hf
 obtain ⟨f0,f1,f2,f3,f4⟩:=Hj hf
 refine dU <|ld1 (v:=u6 e.n) (fun _=>by kernel_rfl) he2 rfl <|eE (vs:=ndE ⟨id,e.n,z54⟩) (by kernel_rfl) <|cH (z:=.agg (ndE ⟨0,0,z54⟩).toArray) (by kernel_rfl) fun w3 h3 b3 s3 => ?_
 have h3:blk w3 w2.heap.size 38 (ndE ⟨0,0,z54⟩):=by simpa [Value.cells] using h3
 refine eM (n:=56) (vs:=ndE ⟨id,e.n,z54⟩) (by kernel_rfl) (cZ _) h3 (by rw [cZ]; omega) (pf _) fun w4 h4 o4 => ?_
 have h4:blk w4 w2.heap.size 38 (ndE ⟨id,e.n,z54⟩):=by
  rw [List.take_zero,List.nil_append,List.drop_of_length_le (by rw [cZ]; omega),List.append_nil] at h4
  exact h4
 have B4:Below w2.heap.size w2 w4:=bN b3 o4 (Nat.le_refl _)
 have hl4:=hl2.fresh B4
 have he4:=ae B4 he2 he2.lt
 have B4':Below B w w4:=B2.trans (B4.mono s2)
 refine EQ hl4 (by show l.s.nodes.length≤1000; omega) (Nat.le_trans s2 B4.size) ho he4 h4 s2 (fun k hk=>hl2.nn k hk) rfl rfl rfl rfl fun w5 l5 hl5 e1 e2 e3 e4 ⟨i,x,ex,e5⟩ k5 => ?_
 refine good w5 l5 hl5 ?_ e4 (B4'.trans (k5.below (Nat.le_trans s2 B4.size)))
 have e1:l5.T=ee l.T (nP (gtI id) l.T l.T.length) (id,e.n):=e1.trans f4
 have e5:l5.s.nodes=ee l.s.nodes i x:=e5
 refine ⟨by rw [e1]; exact ⟨_,htk.add f0 f1 f2 _⟩, ?_,by rw [e5,fA]; omega,by rw [e2]; show l.G.length≤m+1; omega,by rw [e1,fA]; omega,fun k hk=>by rw [e3]; exact Nat.le_trans (hrn k hk) (by omega),fun k hk=>by rw [e4]; exact hvb k hk,by rw [e2]; exact hgr⟩
 intro y hy
 rw [e1] at hy
 rw [e5]
 rcases iR.1 hy with hh | hh
 ·exact ⟨x,iR.2 (.inl rfl),by rw [hh,ex]⟩
 ·obtain ⟨z,hz,hz2⟩:=hnt y hh
  exact ⟨z,iR.2 (.inr hz),hz2⟩
set_option maxHeartbeats 2000000 in
theorem ES {e:EV} {m:Nat} (hl:LM w B p l) (hg:GI l m) (hm:m≤900) (hB:B≤w.heap.size) (ho:1≤e.o∧e.o≤6) (hs:1≤e.s∧e.s < 1099511627776)
  (bad:∀ w' (v:Int),v≠0→Below B w w'→K (.int .i64 v) w') (good:∀ w' l',LM w' B p l'→GI l' (m+1)→l'.s.V=l.s.V→Below B w w'→K (.int .i64 0) w'):call Tryz.prog 80 #[.pointer (some ⟨p,0,none⟩),.agg (evC e).toArray] K w:=by
 refine aE mU (mT ?_)
 refine bh fun w1 he b1 s1 => ?_
 have he:blk w1 w.heap.size 54 (evC e):=by simpa [Value.cells] using he
 have hl1:=hl.fresh b1
 have hnn:=hg.nn
 have B1:Below B w w1:=b1.mono hB
 refine lM (Inv:=fun own i wr => ∃ (k:Nat) (c:Int),i=.int .i64 (k:Nat)∧k≤l.s.nodes.length∧own=.int .i64 c∧0≤c∧c≤k∧LM wr B p l∧blk wr w.heap.size 54 (evC e)∧Below B w wr) (μ:=fun _ i _=>l.s.nodes.length - (intOf i).toNat) ⟨0,0,rfl,by omega,rfl,by omega,by omega,hl1,he,B1⟩ ?_
 rintro _ _ dd w2 mm ⟨k,c,rfl,hk,rfl,c0,ck,hl2,he2,B2⟩ hmm
 refine ak <|aA <|aU <|ld1 (v:=.slice l.s.na l.s.nodes.length l.s.nc) (fun _=>by kernel_rfl) hl2.cl hl2.cN <|aI Tryz.underlying27 <|aD ?_
 by_cases hkn:k < l.s.nodes.length
 ·refine ai (by omega) <|lN ?_
  have hl3:=hl2.drew
  have he3:=he2.drew
  have B3:=B2.drew
  have hx:l.s.nodes[k]? = some l.s.nodes[k]:=List.getElem?_eq_getElem hkn
  generalize l.s.nodes[k]=x at hx
  obtain ⟨g,cur,ha,op⟩:=aZ hl3.nd (by omega)
  refine a8 (fun _=>ak) <|a8 (fun _=>aA) <|a8 (fun _=>aU) <|a8 (v:=.slice l.s.na l.s.nodes.length l.s.nc) (fun _=>ld1 (fun _=>by kernel_rfl) hl3.cl hl3.cN) <|a8 (v:=.pointer (some ⟨g,k * 56,none⟩)) (fun _=>gQ ha Tryz.underlying27 (fun _=>by kernel_rfl) hkn) <|a8 (fun _=>gC) <|a8 (v:=u6 x.id) (fun _=>ld1 (fun _=>by kernel_rfl) op.blk (op.cell cZ rfl hx (show 0 < 56 by omega))) <|a8 (fun _=>Hl (by omega)) <|a8 (fun _=>cC) <|a8 (v:=iv e.o) (fun _=>ld1 (fun _=>by kernel_rfl) he3 rfl) ?_
  refine a8 (fun _=>dy Tryz.underlying3 Tryz.underlying24) <|a8 (fun _=>aN) ?_
  refine kw (fun hd => ?_) (fun hd => ?_)
  ·refine aF (by omega) (by omega) <|iG <|aF (by omega) (by omega) ?_
   exact ⟨⟨k+1,c+1,congrArg (Value.int .i64) (by push_cast; rfl),by omega,rfl,by omega,by omega,hl3,he3,B3⟩,by rw [hmm]; show l.s.nodes.length - ((k:Int)+1).toNat < l.s.nodes.length - (k:Int).toNat; omega⟩
  ·refine iG <|aF (by omega) (by omega) ?_
   exact ⟨⟨k+1,c,congrArg (Value.int .i64) (by push_cast; rfl),by omega,rfl,by omega,by omega,hl3,he3,B3⟩,by rw [hmm]; show l.s.nodes.length - ((k:Int)+1).toNat < l.s.nodes.length - (k:Int).toNat; omega⟩
 ·refine ag (by omega) ?_
  exact ER hl2 hg hm (Nat.le_trans hB B2.size) ho hs he2 rfl rfl rfl (fun w' v hv b=>bad w' v hv (B2.trans b)) (fun w' l' h1 h2 h3 b=>good w' l' h1 h2 h3 (B2.trans b))
end
end Go.Proofs.YtgpfkmdknlcemaaGreatDoor
namespace Go.Proofs.YtgpfkmdknlcemaaGreatDoor
set_option maxRecDepth 100000
open Go.RowKit
theorem Dp {A:List Int} {i x:Int} (h:A.length=54):((lA A i x).1).length=54:=by
 unfold lA
 split
 ·rfl
 split
 ·rfl
 unfold tx
 split
 ·rfl
 ·simp [h]
theorem Bh {L:List ND} {id:Int} (h:∃ y ∈ L,y.id=id):∃ x,L[posN L id]? = some x∧posN L id < L.length:=by
 obtain ⟨y,hy,e⟩:=h
 have:posN L id < L.length:=by
  unfold posN
  exact List.findIdx_lt_length_of_exists ⟨y,hy,by simp [e]⟩
 exact ⟨_,List.getElem?_eq_getElem this,this⟩
def pS (l:LG) (i:Nat) (x:ND):LG := { l with s := { l.s with nodes:=l.s.nodes.set i x } }
theorem Dq {l:LG} {i:Nat} {x x':ND} (hx:l.s.nodes[i]? = some x) (h:x'.id=x.id):(pS l i x').s.nodes.map (·.id)=l.s.nodes.map (·.id):=by
 show (l.s.nodes.set i x').map (·.id)=_
 rw [List.map_set,h]
 apply List.ext_getElem?
 intro j
 rw [List.getElem?_set]
 by_cases hij:i=j
 ·subst hij
  rw [if_pos rfl,List.getElem?_map,hx]
  have:=(List.getElem?_eq_some_iff.1 hx).1
  simp [this]
 ·rw [if_neg hij]
section
variable {w:World} {K:KV} {B p:Nat} {l:LG}
theorem Ct {i g o:Nat} {x:ND} {A':List Int} {cur:List Value} (hl:LM w B p l) (hx:l.s.nodes[i]? = some x) (hA':A'.length=54) (op:Opn w B 38 56 l.s.nodes.length l.s.nc g cur (l.s.nodes.flatMap ndE)) (ha:l.s.na=some ⟨g,0,none⟩) (ho:o=i * 56+2)
  (h:∀ w',LM w' B p (pS l i { x with A:=A' })→Oth g w w'→K undef w'):sto Tryz.prog 36 (.pointer (some ⟨g,o,none⟩)) (.agg (A'.map iv).toArray) K w:=by
 have hi:i < l.s.nodes.length:=(List.getElem?_eq_some_iff.1 hx).1
 have h1:(i+1) * 56≤l.s.nodes.length * 56:=Nat.mul_le_mul_right _ hi
 have h2:l.s.nodes.length * 56≤l.s.nc * 56:=Nat.mul_le_mul_right _ op.nc
 rw [Nat.succ_mul] at h1
 have hcl:=op.len
 have hel:=op.elem cZ rfl hx
 refine eM (n:=54) (vs:=A'.map iv) (by kernel_rfl) (by simp [hA']) op.blk (by omega) (nj _) fun w' hb o' => ?_
 have e2:(cur.drop (i * 56)).take 2=[u6 x.id,u6 x.par]:=by
  have:(cur.drop (i * 56)).take 2=((cur.drop (i * 56)).take 56).take 2:=by rw [List.take_take]; rfl
  rw [this,hel]; rfl
 have e3:cur.take o++A'.map iv++cur.drop (o+54)=cur.take (i * 56)++ndE { x with A:=A' }++cur.drop (i * 56+56):=by
  rw [ho,List.take_add,e2,show i * 56+2+54=i * 56+56 by omega]
  have:ndE { x with A:=A' } = u6 x.id::u6 x.par::A'.map iv:=by
   unfold ndE
   rw [rV (x := { x with A:=A' }) hA']
  rw [this]
  simp
 rw [e3] at hb
 have hset:=op.set (x := { x with A:=A' }) cZ rfl hi hb
 have hk:Keep mB B w w':=o'.keep op.blk (by simp) op.lo
 have hlen:(l.s.nodes.set i { x with A:=A' }).length=l.s.nodes.length:=List.length_set ..
 refine h w' (hl.nodes' (N:=l.s.nodes.set i { x with A:=A' }) (a:=l.s.na) (c:=l.s.nc) hk (by decide) (by decide) (by decide) (by decide) ?_ ?_ ?_) o'
 ·rw [← pU hl.i6 hl.l6 hl.v6,hlen]
  have:(lgC l).set 18 (.slice l.s.na l.s.nodes.length l.s.nc)=lgC l:=by
   have:=hl.cN
   obtain ⟨hh,he⟩:=List.getElem?_eq_some_iff.1 this
   conv=>lhs; rw [← he]
   exact List.set_getElem_self hh
  rw [this]
  exact o'.blk hl.cl (fun hh=>hl.cl.ne op.blk (by decide) hh)
 ·rw [hlen,ha]
  exact Opn.own hset
 ·intro y hy
  rcases List.mem_or_eq_of_mem_set hy with hh | hh
  ·exact hl.A54 y hh
  ·rw [hh]; exact hA'
end
structure SL (l l':LG):Prop where
 T:l'.T=l.T
 G:l'.G=l.G
 R:l'.R=l.R
 V:l'.s.V=l.s.V
 ids:l'.s.nodes.map (·.id)=l.s.nodes.map (·.id)
theorem SL.refl (l:LG):SL l l:=⟨rfl,rfl,rfl,rfl,rfl⟩
theorem SL.set {l l':LG} {i:Nat} {x x':ND} (h:SL l l') (hx:l'.s.nodes[i]? = some x) (h2:x'.id=x.id):SL l (pS l' i x'):=⟨h.T,h.G,h.R,h.V,(Dq hx h2).trans h.ids⟩
theorem SL.len {l l':LG} (h:SL l l'):l'.s.nodes.length=l.s.nodes.length:=by have:=congrArg List.length h.ids; simpa using this
theorem SL.ex {l l':LG} (h:SL l l') {id:Int} (he:∃ y ∈ l.s.nodes,y.id=id):∃ y ∈ l'.s.nodes,y.id=id:=by
 obtain ⟨y,hy,e⟩:=he
 have:id ∈ l.s.nodes.map (·.id):=List.mem_map.2 ⟨y,hy,e⟩
 rw [← h.ids] at this
 obtain ⟨z,hz,e2⟩:=List.mem_map.1 this
 exact ⟨z,hz,e2⟩
theorem SL.gi {l l':LG} (h:SL l l') {m:Nat} (hg:GI l m):GI l' m :=
 ⟨by rw [h.T]; exact hg.tk,by rw [h.T]; exact fun x hx=>h.ex (hg.nt x hx),by rw [h.len]; exact hg.nn,by rw [h.G]; exact hg.gn,by rw [h.T]; exact hg.tn,by rw [h.R]; exact hg.rn,by rw [h.V]; exact hg.vb,by rw [h.G]; exact hg.gr⟩
theorem Bi {l:LG} {m:Nat} (hg:GI l m) {id y:Int} (h:y ∈ fq l.T id):∃ z ∈ l.s.nodes,z.id=y:=by
 obtain ⟨x,hx,e⟩:=l9.1 (yl (T:=l.T) _ id y h)
 obtain ⟨z,hz,e2⟩:=hg.nt x hx
 exact ⟨z,hz,by rw [e2,e]⟩
attribute [local irreducible] bin un conv call bl blt slc aa fld af idx lkp bL bP eSt rng nxt ent ext alc box bld aJ ld sto aj bm mkS ifc pick rdy wts au sti cond aH Gives ac aW bA cOp
section
variable {w:World} {K:KV} {B p:Nat} {l:LG}
theorem ET {l0 e1 l2 e3 t4 p5 i6 k_7 r8 f9 g10 at11 t12 t13 t14 t15 t16 t17 t18 t19 t20 t21 t22 t23 t24 t25 t26 t27 t28 t29 t30 t31 t32 t33 t34 t35 t36 t37 t38 t39 t40 t41 t42 t43 t44 t45 t46 t47 t48 t49 t50 t51 t52 t53 t54 t55 t56 t57 t58 t59 t60 t61 t62 t63 t64 t65 t66 t67 t68 t69 t70 t71 t72 t73 t74 t75 t76 t77 t78 t79 t80 t81 t82 t83 t84 t85 t86 t87 t88 t89 t90 t91 t92 t93 t94 t95 t96 t97 t98 t99 t100 t101 t102 t103 t104 t105 t106 t107 t108 t109 t110 t111 t112 t113 t114 t115 t116 t117 t118 t119 t120 t121 t122 t123 t124 t125 t126 t127 t128 t129 t130 t131 t132 t133 t134 t135 t136 t137 t138 t139 t140 t141 t142 t143 t144 t145 t146 t147 t148 t149 t150 t151 t152 t153 t154 t155 t156 t157 t158 t159 t160 t161 t162 t163 t164 t165 t166 t167 t168 t169 t170 t171 t172 t173 t174 t175 t176 t177 t178 t179 t180 t181 t182 t183 t184 t185 t186 t187:Value} {B1:KE} {i rb j:Nat} {x:ND} {A':List Int} {f:Int} (hl:LM w B p l) (hx:l.s.nodes[i]? = some x) (hA':A'.length=54) (hr:blk w rb 36 (A'.map iv)) (hj:j≤1000000)
  (q0:l0=.pointer (some ⟨p,0,none⟩)) (q6:i6=.int .i64 (j:Nat)) (q7:k_7=.int .i64 (i:Nat)) (q8:r8=.pointer (some ⟨rb,0,none⟩)) (q9:f9=.int .i64 f)
  (bad:∀ w' (v:Int),v≠0→Below B w w'→K (.int .i64 v) w')
  (hB1:∀ (e:List Value) (w':World),gd e 6=.int .i64 ((j+1:Nat):Int)→LM w' B p (pS l i { x with A:=A' })→Keep mB B w w'→B1 e w'):bY K B1 ((l0::e1::l2::e3::t4::p5::i6::k_7::r8::f9::g10::at11::t12::t13::t14::t15::t16::t17::t18::t19::t20::t21::t22::t23::t24::t25::t26::t27::t28::t29::t30::t31::t32::t33::t34::t35::t36::t37::t38::t39::t40::t41::t42::t43::t44::t45::t46::t47::t48::t49::t50::t51::t52::t53::t54::t55::t56::t57::t58::t59::t60::t61::t62::t63::t64::t65::t66::t67::t68::t69::t70::t71::t72::t73::t74::t75::t76::t77::t78::t79::t80::t81::t82::t83::t84::t85::t86::t87::t88::t89::t90::t91::t92::t93::t94::t95::t96::t97::t98::t99::t100::t101::t102::t103::t104::t105::t106::t107::t108::t109::t110::t111::t112::t113::t114::t115::t116::t117::t118::t119::t120::t121::t122::t123::t124::t125::t126::t127::t128::t129::t130::t131::t132::t133::t134::t135::t136::t137::t138::t139::t140::t141::t142::t143::t144::t145::t146::t147::t148::t149::t150::t151::t152::t153::t154::t155::t156::t157::t158::t159::t160::t161::t162::t163::t164::t165::t166::t167::t168::t169::t170::t171::t172::t173::t174::t175::t176::t177::t178::t179::t180::t181::t182::t183::t184::t185::t186::t187::[])) w:=by
 subst q0 q6 q7 q8 q9
 refine lU ?_
 refine dn ?_
 by_cases hf:f≠0
 ·exact ai hf (bad w f hf (Below.refl _ _))
 refine ag hf ?_
 have hl:=hl.drew
 have hr:=hr.drew
 have hi:i < l.s.nodes.length:=(List.getElem?_eq_some_iff.1 hx).1
 obtain ⟨g,cur,ha,op⟩:=aZ hl.nd (by omega)
 refine a8 (fun _=>ak) ?_
 refine a8 (fun _=>aA) ?_
 refine a8 (fun _=>aU) ?_
 refine a8 (v:=.slice l.s.na l.s.nodes.length l.s.nc) (fun _=>ld1 (fun _=>by kernel_rfl) hl.cl hl.cN) ?_
 refine a8 (v:=.agg (A'.map iv).toArray) (fun _=>ldA (n:=54) (vs:=A'.map iv) Tryz.underlying36 rfl (by kernel_rfl) hr (by rw [List.drop_zero,List.take_of_length_le (by simp [hA'])]) (by simp [hA'])) ?_
 refine a8 (v:=.pointer (some ⟨g,i * 56,none⟩)) (fun _=>gQ ha Tryz.underlying27 (fun _=>by kernel_rfl) hi) ?_
 refine a8 (fun _=>fP) ?_
 refine Ct hl hx hA' op ha rfl fun w' hl' o' => ?_
 refine lW ?_
 refine aF (by omega) (by omega) ?_
 exact hB1 _ _ (congrArg (Value.int .i64) (by push_cast; rfl)) hl' ((Keep.of (B:=B) (Below.refl _ w).drew).trans (o'.keep op.blk (by simp) op.lo))
set_option maxHeartbeats 4000000 in
theorem EU {l0 e1 l2 e3 t4 p5 i6 k_7 r8 f9 g10 at11 t12 t13 t14 t15 t16 t17 t18 t19 t20 t21 t22 t23 t24 t25 t26 t27 t28 t29 t30 t31 t32 t33 t34 t35 t36 t37 t38 t39 t40 t41 t42 t43 t44 t45 t46 t47 t48 t49 t50 t51 t52 t53 t54 t55 t56 t57 t58 t59 t60 t61 t62 t63 t64 t65 t66 t67 t68 t69 t70 t71 t72 t73 t74 t75 t76 t77 t78 t79 t80 t81 t82 t83 t84 t85 t86 t87 t88 t89 t90 t91 t92 t93 t94 t95 t96 t97 t98 t99 t100 t101 t102 t103 t104 t105 t106 t107 t108 t109 t110 t111 t112 t113 t114 t115 t116 t117 t118 t119 t120 t121 t122 t123 t124 t125 t126 t127 t128 t129 t130 t131 t132 t133 t134 t135 t136 t137 t138 t139 t140 t141 t142 t143 t144 t145 t146 t147 t148 t149 t150 t151 t152 t153 t154 t155 t156 t157 t158 t159 t160 t161 t162 t163 t164 t165 t166 t167 t168 t169 t170 t171 t172 t173 t174 t175 t176 t177 t178 t179 t180 t181 t182 t183 t184 t185 t186 t187:Value} {e:EV} {P:List Int} {a:Option Addr} {m c eb Bp:Nat} (hl:LM w B p l) (hg:GI l m) (hm:m≤900) (hB:B≤w.heap.size) (ha : -9223372036854775808≤e.a∧e.a≤9223372036854775807) (he:blk w eb 54 (evC e))
  (hP:w.ownsRow Bp 24 1 (.slice a P.length c) P.length (P.map u6)) (hPl:P.length≤100000) (hPn:∀ y ∈ P, ∃ z ∈ l.s.nodes,z.id=y)
  (q0:l0=.pointer (some ⟨p,0,none⟩)) (q3:e3=.pointer (some ⟨eb,0,none⟩)) (q5:p5=.slice a P.length c) (q6:i6=.int .i64 0)
  (bad:∀ w' (v:Int),v≠0→Below B w w'→K (.int .i64 v) w')
  (hP1:∀ {l0 e1 l2 e3 t4 p5 i6 k_7 r8 f9 g10 at11 t12 t13 t14 t15 t16 t17 t18 t19 t20 t21 t22 t23 t24 t25 t26 t27 t28 t29 t30 t31 t32 t33 t34 t35 t36 t37 t38 t39 t40 t41 t42 t43 t44 t45 t46 t47 t48 t49 t50 t51 t52 t53 t54 t55 t56 t57 t58 t59 t60 t61 t62 t63 t64 t65 t66 t67 t68 t69 t70 t71 t72 t73 t74 t75 t76 t77 t78 t79 t80 t81 t82 t83 t84 t85 t86 t87 t88 t89 t90 t91 t92 t93 t94 t95 t96 t97 t98 t99 t100 t101 t102 t103 t104 t105 t106 t107 t108 t109 t110 t111 t112 t113 t114 t115 t116 t117 t118 t119 t120 t121 t122 t123 t124 t125 t126 t127 t128 t129 t130 t131 t132 t133 t134 t135 t136 t137 t138 t139 t140 t141 t142 t143 t144 t145 t146 t147 t148 t149 t150 t151 t152 t153 t154 t155 t156 t157 t158 t159 t160 t161 t162 t163 t164 t165 t166 t167 t168 t169 t170 t171 t172 t173 t174 t175 t176 t177 t178 t179 t180 t181 t182 t183 t184 t185 t186 t187:Value} {w':World} {l':LG},l0=.pointer (some ⟨p,0,none⟩)→e3=.pointer (some ⟨eb,0,none⟩)→LM w' B p l'→SL l l'→blk w' eb 54 (evC e)→Below B w w'→aL K ((l0::e1::l2::e3::t4::p5::i6::k_7::r8::f9::g10::at11::t12::t13::t14::t15::t16::t17::t18::t19::t20::t21::t22::t23::t24::t25::t26::t27::t28::t29::t30::t31::t32::t33::t34::t35::t36::t37::t38::t39::t40::t41::t42::t43::t44::t45::t46::t47::t48::t49::t50::t51::t52::t53::t54::t55::t56::t57::t58::t59::t60::t61::t62::t63::t64::t65::t66::t67::t68::t69::t70::t71::t72::t73::t74::t75::t76::t77::t78::t79::t80::t81::t82::t83::t84::t85::t86::t87::t88::t89::t90::t91::t92::t93::t94::t95::t96::t97::t98::t99::t100::t101::t102::t103::t104::t105::t106::t107::t108::t109::t110::t111::t112::t113::t114::t115::t116::t117::t118::t119::t120::t121::t122::t123::t124::t125::t126::t127::t128::t129::t130::t131::t132::t133::t134::t135::t136::t137::t138::t139::t140::t141::t142::t143::t144::t145::t146::t147::t148::t149::t150::t151::t152::t153::t154::t155::t156::t157::t158::t159::t160::t161::t162::t163::t164::t165::t166::t167::t168::t169::t170::t171::t172::t173::t174::t175::t176::t177::t178::t179::t180::t181::t182::t183::t184::t185::t186::t187::[])) w'):dX K ((l0::e1::l2::e3::t4::p5::i6::k_7::r8::f9::g10::at11::t12::t13::t14::t15::t16::t17::t18::t19::t20::t21::t22::t23::t24::t25::t26::t27::t28::t29::t30::t31::t32::t33::t34::t35::t36::t37::t38::t39::t40::t41::t42::t43::t44::t45::t46::t47::t48::t49::t50::t51::t52::t53::t54::t55::t56::t57::t58::t59::t60::t61::t62::t63::t64::t65::t66::t67::t68::t69::t70::t71::t72::t73::t74::t75::t76::t77::t78::t79::t80::t81::t82::t83::t84::t85::t86::t87::t88::t89::t90::t91::t92::t93::t94::t95::t96::t97::t98::t99::t100::t101::t102::t103::t104::t105::t106::t107::t108::t109::t110::t111::t112::t113::t114::t115::t116::t117::t118::t119::t120::t121::t122::t123::t124::t125::t126::t127::t128::t129::t130::t131::t132::t133::t134::t135::t136::t137::t138::t139::t140::t141::t142::t143::t144::t145::t146::t147::t148::t149::t150::t151::t152::t153::t154::t155::t156::t157::t158::t159::t160::t161::t162::t163::t164::t165::t166::t167::t168::t169::t170::t171::t172::t173::t174::t175::t176::t177::t178::t179::t180::t181::t182::t183::t184::t185::t186::t187::[])) w:=by
 subst q0 q3 q5 q6
 refine lT (Inv:=fun i wr => ∃ (k:Nat) (l':LG),i=.int .i64 (k:Nat)∧k≤P.length∧LM wr B p l'∧SL l l'∧blk wr eb 54 (evC e)∧wr.ownsRow Bp 24 1 (.slice a P.length c) P.length (P.map u6)∧Below B w wr) (μ:=fun i _=>P.length - (intOf i).toNat) ⟨0,l,rfl,by omega,hl,SL.refl l,he,hP,Below.refl _ _⟩ ?_
 rintro _ dd w1 mm ⟨k,l',rfl,hk,hl1,hs1,he1,hP1',B1⟩ hmm
 refine aI Tryz.underlying76 ?_
 refine aD ?_
 by_cases hkn:k < P.length
 ·refine ai (by omega) ?_
  have hy:P[k]? = some P[k]:=List.getElem?_eq_getElem hkn
  generalize P[k]=y at hy
  obtain ⟨g,cur,rfl,op⟩:=aZ hP1' (by omega)
  refine bJ Tryz.underlying76 (s:=1) (fun _=>by kernel_rfl) (by omega) (by omega) ?_
  refine ld1 (v:=u6 y) (fun _=>by kernel_rfl) op.blk (by
   have h0:(P.map u6)=P.flatMap uC:=(xy P).symm
   have op2:Opn w1 Bp 24 1 P.length c g cur (P.flatMap uC):=h0 ▸ op
   have:=op2.cell (enc:=uC) (s:=1) (j:=0) (fun _=>rfl) rfl hy (by omega)
   rw [Int.toNat_natCast,Nat.zero_add]; exact this) ?_
  have hnn:=hg.nn
  refine tq hl1 (by rw [hs1.len]; omega) ?_
  obtain ⟨x,hx,hpl⟩:=Bh (hs1.ex (hPn y (List.mem_of_getElem? hy)))
  have hfd:fdN l'.s.nodes y=(posN l'.s.nodes y:Nat):=by unfold fdN; rw [if_pos hpl]
  rw [hfd]
  generalize posN l'.s.nodes y=i at hx hpl
  have hl2:=hl1.drew
  have he2:=he1.drew
  have hxA:x.A.length=54:=hl1.A54 x (List.mem_of_getElem? hx)
  obtain ⟨gn,cn,han,opn⟩:=aZ hl2.nd (by omega)
  have hcut:(cn.drop (i * 56+2)).take 54=x.A.map iv:=by
   have:=opn.elem cZ rfl hx
   rw [show i * 56+2=i * 56+2 from rfl, ← List.drop_drop]
   have h3:((cn.drop (i * 56)).take 56).drop 2=((cn.drop (i * 56)).drop 2).take 54:=by rw [List.drop_take]
   rw [← h3,this]
   unfold ndE
   rw [rV hxA]
   rfl
  refine aC (fun z=>blk z p 79 (lgC l')∧blk z gn 38 cn∧blk z eb 54 (evC e)) ⟨hl2.cl,opn.blk,he2⟩ ?_
  refine ab (fun z hz _=>ak) ?_
  refine ab (fun z hz _=>aA) ?_
  refine ab (fun z hz _=>aU) ?_
  refine ab (v:=.slice l'.s.na l'.s.nodes.length l'.s.nc) (fun z hz _=>ld1 (fun _=>by kernel_rfl) hz.1 hl2.cN) ?_
  refine ab (v:=.pointer (some ⟨gn,i * 56,none⟩)) (fun z hz _=>gQ han Tryz.underlying27 (fun _=>by kernel_rfl) hpl) ?_
  refine ab (fun z hz _=>fP) ?_
  refine ab (v:=.agg (x.A.map iv).toArray) (fun z hz _=>ldA (n:=54) (vs:=x.A.map iv) Tryz.underlying36 rfl (by kernel_rfl) hz.2.1 hcut (by simp [hxA])) ?_
  refine ab (fun z hz _=>cC) ?_
  refine ab (v:=iv e.o) (fun z hz _=>ld1 (fun _=>by kernel_rfl) hz.2.2 rfl) ?_
  refine ab (fun z hz _=>cS) ?_
  refine ab (v:=iv e.a) (fun z hz _=>ld1 (fun _=>by kernel_rfl) hz.2.2 rfl) ?_
  have s1:B≤w1.drew.heap.size:=Nat.le_trans hB B1.size
  have hAl:((lA x.A e.o e.a).1).length=54:=Dp hxA
  have hP2:w1.drew.ownsRow Bp 24 1 (.slice (some ⟨g,0,none⟩) P.length c) P.length (P.map u6):=bj hP1' fun _ _=>rfl
  have key:∀ {l0 e1 l2 e3 t4 p5 i6 k_7 r8 f9 g10 at11 t12 t13 t14 t15 t16 t17 t18 t19 t20 t21 t22 t23 t24 t25 t26 t27 t28 t29 t30 t31 t32 t33 t34 t35 t36 t37 t38 t39 t40 t41 t42 t43 t44 t45 t46 t47 t48 t49 t50 t51 t52 t53 t54 t55 t56 t57 t58 t59 t60 t61 t62 t63 t64 t65 t66 t67 t68 t69 t70 t71 t72 t73 t74 t75 t76 t77 t78 t79 t80 t81 t82 t83 t84 t85 t86 t87 t88 t89 t90 t91 t92 t93 t94 t95 t96 t97 t98 t99 t100 t101 t102 t103 t104 t105 t106 t107 t108 t109 t110 t111 t112 t113 t114 t115 t116 t117 t118 t119 t120 t121 t122 t123 t124 t125 t126 t127 t128 t129 t130 t131 t132 t133 t134 t135 t136 t137 t138 t139 t140 t141 t142 t143 t144 t145 t146 t147 t148 t149 t150 t151 t152 t153 t154 t155 t156 t157 t158 t159 t160 t161 t162 t163 t164 t165 t166 t167 t168 t169 t170 t171 t172 t173 t174 t175 t176 t177 t178 t179 t180 t181 t182 t183 t184 t185 t186 t187:Value} {w3:World} {rb:Nat},l0=.pointer (some ⟨p,0,none⟩)→i6=.int .i64 (k:Nat)→k_7=.int .i64 (i:Nat)→r8=.pointer (some ⟨rb,0,none⟩)→f9=.int .i64 (lA x.A e.o e.a).2→blk w3 rb 36 ((lA x.A e.o e.a).1.map iv)→Below w1.drew.heap.size w1.drew w3 →
    bY K (fun e2 w2=>(∃ (k:Nat) (l':LG),gd e2 6=.int .i64 (k:Nat)∧k≤P.length∧LM w2 B p l'∧SL l l'∧blk w2 eb 54 (evC e)∧w2.ownsRow Bp 24 1 (.slice (some ⟨g,0,none⟩) P.length c) P.length (P.map u6)∧Below B w w2)∧P.length - (intOf (gd e2 6)).toNat < mm) ((l0::e1::l2::e3::t4::p5::i6::k_7::r8::f9::g10::at11::t12::t13::t14::t15::t16::t17::t18::t19::t20::t21::t22::t23::t24::t25::t26::t27::t28::t29::t30::t31::t32::t33::t34::t35::t36::t37::t38::t39::t40::t41::t42::t43::t44::t45::t46::t47::t48::t49::t50::t51::t52::t53::t54::t55::t56::t57::t58::t59::t60::t61::t62::t63::t64::t65::t66::t67::t68::t69::t70::t71::t72::t73::t74::t75::t76::t77::t78::t79::t80::t81::t82::t83::t84::t85::t86::t87::t88::t89::t90::t91::t92::t93::t94::t95::t96::t97::t98::t99::t100::t101::t102::t103::t104::t105::t106::t107::t108::t109::t110::t111::t112::t113::t114::t115::t116::t117::t118::t119::t120::t121::t122::t123::t124::t125::t126::t127::t128::t129::t130::t131::t132::t133::t134::t135::t136::t137::t138::t139::t140::t141::t142::t143::t144::t145::t146::t147::t148::t149::t150::t151::t152::t153::t154::t155::t156::t157::t158::t159::t160::t161::t162::t163::t164::t165::t166::t167::t168::t169::t170::t171::t172::t173::t174::t175::t176::t177::t178::t179::t180::t181::t182::t183::t184::t185::t186::t187::[])) w3:=by
   intro l0 e1 l2 e3 t4 p5 i6 k_7 r8 f9 g10 at11 t12 t13 t14 t15 t16 t17 t18 t19 t20 t21 t22 t23 t24 t25 t26 t27 t28 t29 t30 t31 t32 t33 t34 t35 t36 t37 t38 t39 t40 t41 t42 t43 t44 t45 t46 t47 t48 t49 t50 t51 t52 t53 t54 t55 t56 t57 t58 t59 t60 t61 t62 t63 t64 t65 t66 t67 t68 t69 t70 t71 t72 t73 t74 t75 t76 t77 t78 t79 t80 t81 t82 t83 t84 t85 t86 t87 t88 t89 t90 t91 t92 t93 t94 t95 t96 t97 t98 t99 t100 t101 t102 t103 t104 t105 t106 t107 t108 t109 t110 t111 t112 t113 t114 t115 t116 t117 t118 t119 t120 t121 t122 t123 t124 t125 t126 t127 t128 t129 t130 t131 t132 t133 t134 t135 t136 t137 t138 t139 t140 t141 t142 t143 t144 t145 t146 t147 t148 t149 t150 t151 t152 t153 t154 t155 t156 t157 t158 t159 t160 t161 t162 t163 t164 t165 t166 t167 t168 t169 t170 t171 t172 t173 t174 t175 t176 t177 t178 t179 t180 t181 t182 t183 t184 t185 t186 t187 w3 rb q0 q6 q7 q8 q9 hrb b3
   have B3:Below B w w3:=B1.drew.trans (b3.mono s1)
   have hl3:=hl2.fresh b3
   refine ET hl3 hx hAl hrb (by omega) q0 q6 q7 q8 q9 (fun w' v hv b=>bad w' v hv (B3.trans b)) fun e2 w' hg6 hl4 k4 => ?_
   have s3:B≤w3.heap.size:=Nat.le_trans s1 b3.size
   refine ⟨⟨k+1,_,hg6,by omega,hl4,hs1.set hx rfl,k4.blk (ae b3 he2 he2.lt) (.inr (by decide)),bO (bj hP2 fun q hq=>b3.block q (World.ownsRow.lt hP2 q hq).2) k4 (by decide),B3.trans (k4.below s3)⟩, ?_⟩
   rw [hg6,hmm]
   show P.length - (((k+1:Nat):Int)).toNat < P.length - (k:Int).toNat
   omega
  refine ⟨?_, ?_⟩
  ·refine zL hxA ha fun w3 b3 => ?_
   refine aC (fun _=>True) trivial ?_
   refine ab (fun z hz _=>fy) ?_
   refine ab (fun z hz _=>fz) ?_
   refine cH (z:=.agg (z54.map iv).toArray) (by kernel_rfl) fun w4 h4 b4 s4 => ?_
   have h4:blk w4 w3.heap.size 36 (z54.map iv):=by simpa [Value.cells] using h4
   refine bn trivial ?_
   refine eM (n:=54) (vs:=(lA x.A e.o e.a).1.map iv) (by kernel_rfl) (by simp [hAl]) h4 (by show 0+54≤54; omega) (nj _) fun w5 h5 o5 => ?_
   refine bn trivial ?_
   refine key rfl rfl rfl rfl rfl (by
    rw [List.take_zero,List.nil_append,List.drop_of_length_le (by show 54≤0+54; omega),List.append_nil] at h5
    exact h5) (b3.trans (bN (b4.mono b3.size) o5 b3.size))
  ·refine cH (z:=.agg (z54.map iv).toArray) (by kernel_rfl) fun w3 h3 b3 s3 => ?_
   have h3:blk w3 w1.drew.heap.size 36 (z54.map iv):=by simpa [Value.cells] using h3
   refine bn ⟨ae b3 hl2.cl hl2.cl.lt,ae b3 opn.blk opn.blk.lt,ae b3 he2 he2.lt⟩ ?_
   refine zL hxA ha fun w4 b4 => ?_
   have h4:=ae b4 h3 h3.lt
   refine aC (fun _=>True) trivial ?_
   refine ab (fun z hz _=>fy) ?_
   refine ab (fun z hz _=>fz) ?_
   refine eM (n:=54) (vs:=(lA x.A e.o e.a).1.map iv) (by kernel_rfl) (by simp [hAl]) h4 (by show 0+54≤54; omega) (nj _) fun w5 h5 o5 => ?_
   refine bn trivial ?_
   refine key rfl rfl rfl rfl rfl (by
    rw [List.take_zero,List.nil_append,List.drop_of_length_le (by show 54≤0+54; omega),List.append_nil] at h5
    exact h5) (bN (b3.trans (b4.mono b3.size)) o5 (Nat.le_refl _))
 ·refine ag (by omega) ?_
  exact hP1 rfl rfl hl1 hs1 he1 B1
end
end Go.Proofs.YtgpfkmdknlcemaaGreatDoor
namespace Go.Proofs.YtgpfkmdknlcemaaGreatDoor
set_option maxRecDepth 100000
open Go.RowKit
theorem LM.grants' {w w':World} {B p:Nat} {l:LG} {Ts:List TypeId} {G:List GR} {a:Option Addr} {c:Nat} (h:LM w B p l) (hk:Keep Ts B w w') (h1:38 ∉ Ts) (h2:140 ∉ Ts) (h3:199 ∉ Ts) (h4:24 ∉ Ts)
  (hcl:blk w' p 79 (lgC { l with s := { l.s with gv:=.slice a G.length c },G:=G,ga:=a,gc:=c })) (hgr:w'.ownsRow B 100 5 (.slice a G.length c) G.length (G.flatMap grC)):LM w' B p { l with s := { l.s with gv:=.slice a G.length c },G:=G,ga:=a,gc:=c } :=
 { h with
  cl:=hcl
  gv:=rfl
  nd:=bO h.nd hk h1
  gr:=hgr
  tm:=h.tm.keep hk h2 h3
  rq:=fun k hk' => (h.rq k hk').imp fun a=>Exists.imp fun c hh=>⟨hh.1,bO hh.2 hk h4⟩ }
theorem kR {α:Type} {L:List α} {j k:Nat} {x d:α} (hj:j < L.length):(L.set j x).getD k d=if j=k then x else L.getD k d:=by
 rw [List.getD_eq_getElem?_getD,List.getElem?_set,List.getD_eq_getElem?_getD]
 by_cases hjk:j=k
 ·subst hjk; simp [hj]
 ·simp [hjk]
theorem LM.req' {w w1 w2:World} {B p j:Nat} {l:LG} {a a':Option Addr} {c c':Nat} {x:Int} (h:LM w B p l) (hj:j < 6) (hq:l.q[j]? = some (.slice a (l.R.getD j []).length c))
  (hg:w.grownBy w1 (Value.slice a (l.R.getD j []).length c).ownBlock) (hr:w1.ownsRow B 24 1 (.slice a' ((l.R.getD j []).length+1) c') ((l.R.getD j []).length+1) ((l.R.getD j []++[x]).flatMap uC))
  (hob:(Value.slice a' ((l.R.getD j []).length+1) c').ownBlock=(Value.slice a (l.R.getD j []).length c).ownBlock∨(Value.slice a' ((l.R.getD j []).length+1) c').ownBlock=some w.heap.size)
  (hcl:blk w2 p 79 ((lgC l).set (21+j) (.slice a' ((l.R.getD j []).length+1) c'))) (o:Oth p w1 w2) :
  LM w2 B p { l with q:=l.q.set j (.slice a' ((l.R.getD j []).length+1) c'),R:=l.R.set j (l.R.getD j []++[x]) }:=by
 obtain ⟨a0,c0,hq0,hr0⟩:=h.rq j hj
 rw [hq] at hq0
 cases hq0
 have hcl1:blk w1 p 79 (lgC l):=dv h.cl hr0 (by decide) hg
 have hql:∀ k,(l.q.set j (.slice a' ((l.R.getD j []).length+1) c'))[k]? = if j=k then some (.slice a' ((l.R.getD j []).length+1) c') else l.q[k]? := by
  intro k
  rw [List.getElem?_set]
  by_cases hjk:j=k
  ·subst hjk; simp [h.q6,hj]
  ·simp [hjk]
 have hold:∀ (k:Nat) (v:Value) (b:Nat),l.q[k]? = some v→v.ownBlock=some b→b < w.heap.size:=by
  intro k v b hk hb
  have hk6:k < 6:=by rw [← h.q6]; exact (List.getElem?_eq_some_iff.1 hk).1
  obtain ⟨a2,c2,hq2,hr2⟩:=h.rq k hk6
  rw [hk] at hq2
  cases hq2
  exact (World.ownsRow.lt hr2 b hb).2
 have hsep:∀ (k:Nat) (v:Value) (b:Nat),j≠k→l.q[k]? = some v→v.ownBlock=some b→(Value.slice a' ((l.R.getD j []).length+1) c').ownBlock≠some b:=by
  intro k v b hjk hk hb hh
  rcases hob with h1 | h1
  ·rw [h1] at hh
   exact h.ne j k _ _ b hjk hq hk hh hb
  ·rw [h1] at hh
   cases hh
   have:=hold k v _ hk hb
   omega
 exact {
  i6:=h.i6
  l6:=h.l6
  v6:=h.v6
  q6:=by show (l.q.set _ _).length=6; rw [List.length_set]; exact h.q6
  r6:=by show (l.R.set _ _).length=6; rw [List.length_set]; exact h.r6
  A54:=h.A54
  cl:=by rw [← zu h.i6 h.l6 h.v6 (l := { l with R:=l.R.set j (l.R.getD j []++[x]) })]; exact hcl
  lo:=h.lo
  gv:=h.gv
  nd:=bR (gh h.nd hr0 (by decide) hg) hcl1 (by decide) o
  gr:=bR (gh h.gr hr0 (by decide) hg) hcl1 (by decide) o
  tm:=by
   obtain ⟨ta,tc,tb,tr⟩:=h.tm.row
   have tb1:=dv tb hr0 (by decide) hg
   exact ⟨⟨ta,tc,o.blk tb1 (fun hh=>tb1.ne hcl1 (by decide) hh),bR (gh tr hr0 (by decide) hg) hcl1 (by decide) o⟩,h.tm.lo⟩
  rq:=fun k hk=>by
   show ∃ a c,(l.q.set j _)[k]? = some (.slice a ((l.R.set j _).getD k []).length c)∧_
   rw [hql,kR (by rw [h.r6]; exact hj)]
   by_cases hjk:j=k
   ·subst hjk
    rw [if_pos rfl,if_pos rfl]
    have hlen:(l.R.getD j []++[x]).length=(l.R.getD j []).length+1:=by simp
    rw [hlen]
    exact ⟨a',c',rfl,bR hr hcl1 (by decide) o⟩
   ·rw [if_neg hjk,if_neg hjk]
    obtain ⟨a2,c2,hq2,hr2⟩:=h.rq k hk
    refine ⟨a2,c2,hq2,bR (bj hr2 fun b hb=>hg.block b (World.ownsRow.lt hr2 b hb).2 (fun hh => ?_)) hcl1 (by decide) o⟩
    exact h.ne j k _ _ b hjk hq hq2 hh.symm hb
  ne:=fun i k v v' b hik hi hk hb=>by
   replace hi:(l.q.set j _)[i]? = some v:=hi
   replace hk:(l.q.set j _)[k]? = some v':=hk
   rw [hql] at hi hk
   by_cases hji:j=i
   ·rw [if_pos hji] at hi
    cases hi
    by_cases hjk:j=k
    ·omega
    ·rw [if_neg hjk] at hk
     intro hh
     exact hsep k v' b hjk hk hh hb
   ·rw [if_neg hji] at hi
    by_cases hjk:j=k
    ·rw [if_pos hjk] at hk
     cases hk
     exact hsep i v b hji hi hb
    ·rw [if_neg hjk] at hk
     exact h.ne i k v v' b hik hi hk hb }
end Go.Proofs.YtgpfkmdknlcemaaGreatDoor
namespace Go.Proofs.YtgpfkmdknlcemaaGreatDoor
set_option maxRecDepth 100000
open Go.RowKit
abbrev tj (G:List GR):Prop := ∀ x ∈ G, -9223372036854775808≤x.a∧x.a≤9223372036854775807
abbrev rS:List TypeId:=[79,100]
theorem tp {G:List GR} {i:Nat} {x:GR} (h:tj G) (hx : -9223372036854775808≤x.a∧x.a≤9223372036854775807):tj (G.set i x):=fun y hy=>by
 rcases List.mem_or_eq_of_mem_set hy with hh | hh
 ·exact h y hh
 ·rw [hh]; exact hx
attribute [local irreducible] bin un conv call bl blt slc aa fld af idx lkp bL bP eSt rng nxt ent ext alc box bld aJ ld sto aj bm mkS ifc pick rdy wts au sti cond aH Gives ac aW bA cOp
section
variable {w:World} {K:KV} {B p:Nat} {l:LG}
set_option maxHeartbeats 2000000 in
theorem EW {l0 e1 l2 e3 t4 p5 i6 k_7 r8 f9 g10 at11 t12 t13 t14 t15 t16 t17 t18 t19 t20 t21 t22 t23 t24 t25 t26 t27 t28 t29 t30 t31 t32 t33 t34 t35 t36 t37 t38 t39 t40 t41 t42 t43 t44 t45 t46 t47 t48 t49 t50 t51 t52 t53 t54 t55 t56 t57 t58 t59 t60 t61 t62 t63 t64 t65 t66 t67 t68 t69 t70 t71 t72 t73 t74 t75 t76 t77 t78 t79 t80 t81 t82 t83 t84 t85 t86 t87 t88 t89 t90 t91 t92 t93 t94 t95 t96 t97 t98 t99 t100 t101 t102 t103 t104 t105 t106 t107 t108 t109 t110 t111 t112 t113 t114 t115 t116 t117 t118 t119 t120 t121 t122 t123 t124 t125 t126 t127 t128 t129 t130 t131 t132 t133 t134 t135 t136 t137 t138 t139 t140 t141 t142 t143 t144 t145 t146 t147 t148 t149 t150 t151 t152 t153 t154 t155 t156 t157 t158 t159 t160 t161 t162 t163 t164 t165 t166 t167 t168 t169 t170 t171 t172 t173 t174 t175 t176 t177 t178 t179 t180 t181 t182 t183 t184 t185 t186 t187:Value} {w0:World} {e:EV} {G:List GR} {x:GR} {a:Option Addr} {m n c k eb gb:Nat} (hl0:LM w0 B p l) (hg:GI l m) (hm:m≤900) (kp:Keep rS B w0 w) (hB:B≤w0.heap.size) (ho:1≤e.o∧e.o≤6) (he:blk w eb 54 (evC e)) (hgb:blk w gb 100 (grC x))
  (hn:n=l.G.length+1) (hG:G.length=n) (hrG:tj G) (hrx : -9223372036854775808≤x.a∧x.a≤9223372036854775807) (hk:k < n)
  (hcl:blk w p 79 ((lgC l).set 19 (.slice a n c))) (hrow:w.ownsRow B 100 5 (.slice a n c) n (G.flatMap grC))
  (q0:l0=.pointer (some ⟨p,0,none⟩)) (q3:e3=.pointer (some ⟨eb,0,none⟩)) (q10:g10=.pointer (some ⟨gb,0,none⟩)) (q11:at11=.int .i64 (k:Nat))
  (good:∀ w' l',LM w' B p l'→GI l' (m+1)→l'.s.V=l.s.V→Below B w0 w'→K (.int .i64 0) w'):bx K ((l0::e1::l2::e3::t4::p5::i6::k_7::r8::f9::g10::at11::t12::t13::t14::t15::t16::t17::t18::t19::t20::t21::t22::t23::t24::t25::t26::t27::t28::t29::t30::t31::t32::t33::t34::t35::t36::t37::t38::t39::t40::t41::t42::t43::t44::t45::t46::t47::t48::t49::t50::t51::t52::t53::t54::t55::t56::t57::t58::t59::t60::t61::t62::t63::t64::t65::t66::t67::t68::t69::t70::t71::t72::t73::t74::t75::t76::t77::t78::t79::t80::t81::t82::t83::t84::t85::t86::t87::t88::t89::t90::t91::t92::t93::t94::t95::t96::t97::t98::t99::t100::t101::t102::t103::t104::t105::t106::t107::t108::t109::t110::t111::t112::t113::t114::t115::t116::t117::t118::t119::t120::t121::t122::t123::t124::t125::t126::t127::t128::t129::t130::t131::t132::t133::t134::t135::t136::t137::t138::t139::t140::t141::t142::t143::t144::t145::t146::t147::t148::t149::t150::t151::t152::t153::t154::t155::t156::t157::t158::t159::t160::t161::t162::t163::t164::t165::t166::t167::t168::t169::t170::t171::t172::t173::t174::t175::t176::t177::t178::t179::t180::t181::t182::t183::t184::t185::t186::t187::[])) w:=by
 subst q0 q3 q10 q11 hn
 refine lZ ?_
 have hcl:=hcl.drew
 have he:=he.drew
 have hgb:=hgb.drew
 have hrow:w.drew.ownsRow B 100 5 (.slice a (l.G.length+1) c) (l.G.length+1) (G.flatMap grC):=hrow
 have kp:=kp.drew
 have hc19:((lgC l).set 19 (.slice a (l.G.length+1) c))[0+0+19]? = some (.slice a (l.G.length+1) c):=by rw [List.getElem?_set_self (by rw [hl0.ll]; omega)]
 refine a8 (fun _=>ak) <|a8 (fun _=>aA) <|a8 (fun _=>dA) <|a8 (v:=.slice a (l.G.length+1) c) (fun _=>ld1 (fun _=>by kernel_rfl) hcl hc19) <|a8 (v:=.agg (grC x).toArray) (fun _=>ldA (n:=5) (vs:=grC x) Tryz.underlying100 rfl (by kernel_rfl) hgb rfl rfl) ?_
 obtain ⟨g,cur,rfl,op⟩:=aZ hrow (by omega)
 refine a8 (v:=.pointer (some ⟨g,0+((k:Nat):Int).toNat * 5,none⟩)) (fun _=>bJ Tryz.underlying28 (s:=5) (fun _=>by kernel_rfl) (by omega) (by omega)) <|op.sto fO hG (by omega) (by kernel_rfl) (nm _) fun w2 o2 hrow2 => ?_
 have k2:Keep rS B w0 w2:=kp.trans (o2.keep op.blk (by simp) op.lo)
 have hcl2:blk w2 p 79 ((lgC l).set 19 (.slice (some ⟨g,0,none⟩) (l.G.length+1) c)):=o2.blk hcl (fun hh=>hcl.ne op.blk (by decide) hh)
 have he2:blk w2 eb 54 (evC e):=o2.blk he (fun hh=>he.ne op.blk (by decide) hh)
 have hlen:(G.set k x).length=l.G.length+1:=by rw [List.length_set,hG]
 have hl2:LM w2 B p { l with s := { l.s with gv:=.slice (some ⟨g,0,none⟩) (G.set k x).length c },G:=G.set k x,ga:=some ⟨g,0,none⟩,gc:=c } :=
  hl0.grants' k2 (by decide) (by decide) (by decide) (by decide) (by rw [← uH hl0.i6 hl0.l6 hl0.v6,hlen]; exact hcl2) (by rw [hlen]; exact hrow2)
 have B2:Below B w0 w2:=k2.below hB
 generalize hl2e:({ l with s := { l.s with gv:=.slice (some ⟨g,0,none⟩) (G.set k x).length c },G:=G.set k x,ga:=some ⟨g,0,none⟩,gc:=c }:LG)=l2 at hl2
 have r1:l2.T=l.T:=by rw [← hl2e]
 have r2:l2.R=l.R:=by rw [← hl2e]
 have r3:l2.s.V=l.s.V:=by rw [← hl2e]
 have r4:l2.s.nodes=l.s.nodes:=by rw [← hl2e]
 have r5:l2.G=G.set k x:=by rw [← hl2e]
 obtain ⟨j,hj⟩:∃ j:Nat,j=(e.o - 1).toNat:=⟨_,rfl⟩
 have hj6:j < 6:=by omega
 have hl3:=hl2.drew
 obtain ⟨qa,qc,hq,hqr⟩:=hl3.rq j hj6
 have hcq:(lgC l2)[0+21+j]? = some (.slice qa (l2.R.getD j []).length qc):=by rw [Nat.zero_add]; exact hl3.cQ.trans hq
 have hrn:=hg.rn j hj6
 rw [← r2] at hrn
 refine aC (fun z=>blk z p 79 (lgC l2)∧blk z eb 54 (evC e)) ⟨hl3.cl,he2.drew⟩ <|ab (fun z hz _=>cC) <|ab (v:=iv e.o) (fun z hz _=>ld1 (fun _=>by kernel_rfl) hz.2 rfl) <|ab (v:=.int .i64 ((j:Nat):Int)) (fun z hz K hK=>bo (by omega) (by omega) (by rw [show (e.o - 1)=(j:Nat) by omega]; exact hK)) <|ab (fun z hz _=>cC) <|ab (v:=iv e.o) (fun z hz _=>ld1 (fun _=>by kernel_rfl) hz.2 rfl) <|ab (v:=.int .i64 ((j:Nat):Int)) (fun z hz K hK=>bo (by omega) (by omega) (by rw [show (e.o - 1)=(j:Nat) by omega]; exact hK)) <|ab (fun z hz _=>ak) <|ab (fun z hz _=>iJ) <|ab (fun z hz _=>ixQ rfl hj6) ?_
 refine ab (v:=.slice qa (l2.R.getD j []).length qc) (fun z hz _=>ld1 (fun _=>by kernel_rfl) hz.1 hcq) <|ab (fun z hz _=>fb) <|ab (v:=u6 e.r) (fun z hz _=>ld1 (fun _=>by kernel_rfl) hz.2 rfl) <|ab (fun z hz _=>ak) <|ab (fun z hz _=>iJ) <|hH (vs:=[u6 e.r]) Tryz.underlying76 (s:=1) (by kernel_rfl) (by kernel_rfl) (by omega) rfl (by simp) (by simp) (by simp) (by simp [Value.cells,u6]) fun w4 h4 b4 s4 => ?_
 have h4:blk w4 w2.drew.heap.size 24 (uC e.r):=by simpa [Value.cells,u6,uC] using h4
 have hl4:=hl3.fresh b4
 have B4:Below B w0 w4:=B2.drew.trans (b4.mono (Nat.le_trans hB B2.size))
 refine bn ⟨hl4.cl,ae b4 he2.drew he2.drew.lt⟩ ?_
 have hqr4:=bj hqr fun b hb=>b4.block b (World.ownsRow.lt hqr b hb).2
 obtain ⟨ii,hi',hz,hsz,hby⟩:=info_parts oJ
 refine ka (base:=B) (enc:=uC) (x:=e.r) Tryz.underlying76 hi' hz hsz hby rfl (by omega) (fun _=>rfl) hqr4 h4 (zp _) (by omega) (by omega) (Nat.le_trans hB B4.size) fun a5 c5 w5 hr5 hg5 b5 hob5 => ?_
 have hcl5:=dv hl4.cl hqr4 (by decide) hg5
 have he5:blk w5 eb 54 (evC e):=dv (ae b4 he2.drew he2.drew.lt) hqr4 (by decide) hg5
 refine bn ⟨hcl5,he5⟩ <|ab (fun z hz _=>ixQ rfl hj6) <|eD (fun _=>by kernel_rfl) hcl5 (by rw [hl4.ll]; omega) rfl fun w6 hcl6 o6 => ?_
 rw [show 0+21+j=21+j by omega] at hcl6
 have hl6:=hl4.req' hj6 hq hg5 hr5 hob5 hcl6 o6
 refine good w6 _ hl6 ?_ r3 (B4.trans (bN b5 o6 hl0.lo))
 refine ⟨by show ∃ rk,TK l2.T rk; rw [r1]; exact hg.tk,by show ∀ x ∈ l2.T, ∃ y ∈ l2.s.nodes,y.id=x.1; rw [r1,r4]; exact hg.nt,by show l2.s.nodes.length≤_; rw [r4]; exact Nat.le_trans hg.nn (by omega), ?_,by show l2.T.length≤_; rw [r1]; exact Nat.le_trans hg.tn (by omega),fun i hi => ?_,by show ∀ k,k < 6→0≤l2.s.V.getD k 0∧l2.s.V.getD k 0 < 1099511627776; rw [r3]; exact hg.vb, ?_⟩
 ·show l2.G.length≤_
  rw [r5,hlen]; have:=hg.gn; omega
 ·show ((l2.R.set j (l2.R.getD j []++[e.r])).getD i []).length≤m+1
  rw [kR (by rw [hl2.r6]; exact hj6)]
  split
  ·rw [List.length_append]; show (l2.R.getD j []).length+1≤m+1; omega
  ·rw [r2]; have:=hg.rn i hi; omega
 ·show tj l2.G
  rw [r5]; exact tp hrG hrx
end
end Go.Proofs.YtgpfkmdknlcemaaGreatDoor
namespace Go.Proofs.YtgpfkmdknlcemaaGreatDoor
set_option maxRecDepth 100000
open Go.RowKit
theorem LM.gn {w:World} {B p:Nat} {l:LG} (h:LM w B p l):∀ k,(Value.slice l.ga l.G.length l.gc).ownBlock=some k→k < w.heap.size:=fun k hk=>(World.ownsRow.lt h.gr k hk).2
attribute [local irreducible] bin un conv call bl blt slc aa fld af idx lkp bL bP eSt rng nxt ent ext alc box bld aJ ld sto aj bm mkS ifc pick rdy wts au sti cond aH Gives ac aW bA cOp
section
variable {w:World} {K:KV} {B p:Nat} {l:LG}
set_option maxHeartbeats 4000000 in
theorem EX {l0 e1 l2 e3 t4 p5 i6 k_7 r8 f9 g10 at11 t12 t13 t14 t15 t16 t17 t18 t19 t20 t21 t22 t23 t24 t25 t26 t27 t28 t29 t30 t31 t32 t33 t34 t35 t36 t37 t38 t39 t40 t41 t42 t43 t44 t45 t46 t47 t48 t49 t50 t51 t52 t53 t54 t55 t56 t57 t58 t59 t60 t61 t62 t63 t64 t65 t66 t67 t68 t69 t70 t71 t72 t73 t74 t75 t76 t77 t78 t79 t80 t81 t82 t83 t84 t85 t86 t87 t88 t89 t90 t91 t92 t93 t94 t95 t96 t97 t98 t99 t100 t101 t102 t103 t104 t105 t106 t107 t108 t109 t110 t111 t112 t113 t114 t115 t116 t117 t118 t119 t120 t121 t122 t123 t124 t125 t126 t127 t128 t129 t130 t131 t132 t133 t134 t135 t136 t137 t138 t139 t140 t141 t142 t143 t144 t145 t146 t147 t148 t149 t150 t151 t152 t153 t154 t155 t156 t157 t158 t159 t160 t161 t162 t163 t164 t165 t166 t167 t168 t169 t170 t171 t172 t173 t174 t175 t176 t177 t178 t179 t180 t181 t182 t183 t184 t185 t186 t187:Value} {e:EV} {m eb:Nat} (hl:LM w B p l) (hg:GI l m) (hm:m≤900) (hB:B≤w.heap.size) (ho:1≤e.o∧e.o≤6) (hea : -9223372036854775808≤e.a∧e.a≤9223372036854775807) (he:blk w eb 54 (evC e))
  (q0:l0=.pointer (some ⟨p,0,none⟩)) (q3:e3=.pointer (some ⟨eb,0,none⟩))
  (good:∀ w' l',LM w' B p l'→GI l' (m+1)→l'.s.V=l.s.V→Below B w w'→K (.int .i64 0) w'):aL K ((l0::e1::l2::e3::t4::p5::i6::k_7::r8::f9::g10::at11::t12::t13::t14::t15::t16::t17::t18::t19::t20::t21::t22::t23::t24::t25::t26::t27::t28::t29::t30::t31::t32::t33::t34::t35::t36::t37::t38::t39::t40::t41::t42::t43::t44::t45::t46::t47::t48::t49::t50::t51::t52::t53::t54::t55::t56::t57::t58::t59::t60::t61::t62::t63::t64::t65::t66::t67::t68::t69::t70::t71::t72::t73::t74::t75::t76::t77::t78::t79::t80::t81::t82::t83::t84::t85::t86::t87::t88::t89::t90::t91::t92::t93::t94::t95::t96::t97::t98::t99::t100::t101::t102::t103::t104::t105::t106::t107::t108::t109::t110::t111::t112::t113::t114::t115::t116::t117::t118::t119::t120::t121::t122::t123::t124::t125::t126::t127::t128::t129::t130::t131::t132::t133::t134::t135::t136::t137::t138::t139::t140::t141::t142::t143::t144::t145::t146::t147::t148::t149::t150::t151::t152::t153::t154::t155::t156::t157::t158::t159::t160::t161::t162::t163::t164::t165::t166::t167::t168::t169::t170::t171::t172::t173::t174::t175::t176::t177::t178::t179::t180::t181::t182::t183::t184::t185::t186::t187::[])) w:=by
 subst q0 q3
 refine lV ?_
 refine cC ?_
 refine ld1 (v:=iv e.o) (fun _=>by kernel_rfl) he rfl ?_
 refine fb ?_
 refine ld1 (v:=u6 e.r) (fun _=>by kernel_rfl) he rfl ?_
 refine dU ?_
 refine ld1 (v:=u6 e.n) (fun _=>by kernel_rfl) he rfl ?_
 refine cS ?_
 refine ld1 (v:=iv e.a) (fun _=>by kernel_rfl) he rfl ?_
 refine eE (vs:=grC ⟨e.o,e.r,e.n,e.a,0⟩) (by kernel_rfl) ?_
 refine cH (z:=.agg (grC ⟨0,0,0,0,0⟩).toArray) (by kernel_rfl) fun w1 h1 b1 s1 => ?_
 have h1:blk w1 w.heap.size 100 (grC ⟨0,0,0,0,0⟩):=by simpa [Value.cells] using h1
 refine eM (n:=5) (vs:=grC ⟨e.o,e.r,e.n,e.a,0⟩) (by kernel_rfl) rfl h1 (by show 0+5≤5; omega) (nm _) fun w2 h2 o2 => ?_
 have h2:blk w2 w.heap.size 100 (grC ⟨e.o,e.r,e.n,e.a,0⟩):=h2
 generalize hx:(⟨e.o,e.r,e.n,e.a,0⟩:GR)=x at h2
 have hxa:x.a=e.a:=by rw [← hx]
 have B2':Below w.heap.size w w2:=bN b1 o2 (Nat.le_refl _)
 have hl2:=hl.fresh B2'
 have he2:=ae B2' he he.lt
 have B2:Below B w w2:=B2'.mono hB
 have s2:B≤w2.heap.size:=Nat.le_trans hB B2.size
 have hgn:=hg.gn
 refine ak ?_
 refine aA ?_
 refine dA ?_
 refine ld1 (v:=.slice l.ga l.G.length l.gc) (fun _=>by kernel_rfl) hl2.cl hl2.cG ?_
 refine aI Tryz.underlying28 ?_
 refine aC (fun y=>blk y p 79 (lgC l)∧blk y w.heap.size 100 (grC x)) ⟨hl2.cl.drew,h2.drew⟩ ?_
 refine ab (fun y hy _=>ak) ?_
 refine ab (fun y hy _=>aA) ?_
 refine ab (fun y hy _=>dA) ?_
 refine ab (v:=.slice l.ga l.G.length l.gc) (fun y hy _=>ld1 (fun _=>by kernel_rfl) hy.1 hl2.cG) ?_
 refine ab (v:=.agg (grC x).toArray) (fun y hy _=>ldA (n:=5) (vs:=grC x) Tryz.underlying100 rfl (by kernel_rfl) hy.2 rfl rfl) ?_
 refine hH (vs:=[.agg (grC x).toArray]) Tryz.underlying28 (s:=5) (by kernel_rfl) (by kernel_rfl) (by omega) rfl (by simp) (by simp) (by simp) (by simp [Value.cells,fO]) fun w3 h3 b3 s3 => ?_
 have h3:blk w3 w2.drew.heap.size 100 (grC x):=by simpa [Value.cells] using h3
 have hl3:=hl2.drew.fresh b3
 have he3:=ae b3 he2.drew he2.drew.lt
 have hgb3:=ae b3 h2.drew h2.drew.lt
 have B3:Below B w2 w3:=(Below.refl B w2).drew.trans (b3.mono s2)
 have k3:Keep rS B w2 w3:=(Keep.of (B:=B) (Below.refl _ w2).drew).trans (Keep.of b3)
 refine bn ⟨hl3.cl,hgb3⟩ ?_
 obtain ⟨ii,hi',hz,hsz,hby⟩:=info_parts Bf
 have s3':B≤w3.heap.size:=Nat.le_trans s2 B3.size
 refine ka (base:=B) (x:=x) Tryz.underlying28 hi' hz hsz hby rfl (by omega) fO hl3.gr h3 (nm _) (by omega) (by omega) s3' fun a4 c4 w4 hr4 hgr b4 hob => ?_
 have k4:Keep rS B w2 w4:=k3.trans (Keep.grown hgr hl3.gr (by simp) (Nat.le_refl _))
 have hcl4:blk w4 p 79 (lgC l):=dv hl3.cl hl3.gr (by decide) hgr
 have he4:blk w4 eb 54 (evC e):=dv he3 hl3.gr (by decide) hgr
 have hgb4:blk w4 w.heap.size 100 (grC x):=by
  unfold Go.Proofs.YtgpfkmdknlcemaaGreatDoor.blk
  rw [hgr.block _ hgb3.lt (fun hh=>by have:=hl.gn _ hh.symm; omega)]
  exact hgb3
 have hnb4:∀ k,(Value.slice a4 (l.G.length+1) c4).ownBlock=some k→k≠w.heap.size:=by
  intro k hk
  rcases hob with hh | hh
  ·rw [hh] at hk; have:=hl.gn k hk; omega
  ·rw [hh] at hk; cases hk; have:=hgb3.lt; omega
 refine aC (fun _=>True) trivial ?_
 refine ab (fun y hy _=>ak) ?_
 refine ab (fun y hy _=>aA) ?_
 refine ab (fun y hy _=>dA) ?_
 refine eD (fun _=>by kernel_rfl) hcl4 (by rw [hl.ll]; omega) rfl fun w5 hcl5 o5 => ?_
 have hr5:=bR hr4 hcl4 (by decide) o5
 have hgb5:blk w5 w.heap.size 100 (grC x):=o5.blk hgb4 (fun hh=>hgb4.ne hcl4 (by decide) hh)
 have he5:blk w5 eb 54 (evC e):=o5.blk he4 (fun hh=>he4.ne hcl4 (by decide) hh)
 have k5:Keep rS B w2 w5:=k4.trans (o5.keep hcl4 (by simp) hl.lo)
 have hcl5:blk w5 p 79 ((lgC l).set 19 (.slice a4 (l.G.length+1) c4)):=hcl5
 have hc19:((lgC l).set 19 (.slice a4 (l.G.length+1) c4))[0+0+19]? = some (.slice a4 (l.G.length+1) c4):=by rw [List.getElem?_set_self (by rw [hl.ll]; omega)]
 have hxr : -9223372036854775808≤x.a∧x.a≤9223372036854775807:=by rw [hxa]; exact hea
 refine lX ?_
 refine lY (Inv:=fun atv _ _ _ _ _ _ _ _ _ _ _ _ _ _ _ _ _ _ _ _ _ _ _ _ _ _ _ _ _ _ _ _ _ _ _ _ _ _ _ _ _ _ _ wr => ∃ (k:Nat) (G:List GR),atv=.int .i64 (k:Nat)∧k≤l.G.length∧G.length=l.G.length+1∧tj G∧blk wr p 79 ((lgC l).set 19 (.slice a4 (l.G.length+1) c4))∧blk wr w.heap.size 100 (grC x)∧blk wr eb 54 (evC e) ∧
   wr.ownsRow B 100 5 (.slice a4 (l.G.length+1) c4) (l.G.length+1) (G.flatMap grC)∧Keep rS B w2 wr)
  (μ:=fun atv _ _ _ _ _ _ _ _ _ _ _ _ _ _ _ _ _ _ _ _ _ _ _ _ _ _ _ _ _ _ _ _ _ _ _ _ _ _ _ _ _ _ _ _=>(intOf atv).toNat) ⟨l.G.length,l.G++[x],rfl,Nat.le_refl _,by simp,fun y hy=>by
   rcases List.mem_append.1 hy with hh | hh
   ·exact hg.gr y hh
   ·rw [List.mem_singleton.1 hh]; exact hxr,hcl5,hgb5,he5,hr5,k5⟩ ?_
 rintro _ _ _ _ _ _ _ _ _ _ _ _ _ _ _ _ _ _ _ _ _ _ _ _ _ _ _ _ _ _ _ _ _ _ _ _ _ _ _ _ _ _ _ _ dd w6 mm ⟨k,G,rfl,hk,hG,hrG,hcl6,hgb6,he6,hr6,k6⟩ hmm
 have hcl6:=hcl6.drew
 have hgb6:=hgb6.drew
 have he6:=he6.drew
 have hr6:w6.drew.ownsRow B 100 5 (.slice a4 (l.G.length+1) c4) (l.G.length+1) (G.flatMap grC):=hr6
 have k6:=k6.drew
 have fin:∀ {l0 e1 l2 e3 t4 p5 i6 k_7 r8 f9 g10 at11 t12 t13 t14 t15 t16 t17 t18 t19 t20 t21 t22 t23 t24 t25 t26 t27 t28 t29 t30 t31 t32 t33 t34 t35 t36 t37 t38 t39 t40 t41 t42 t43 t44 t45 t46 t47 t48 t49 t50 t51 t52 t53 t54 t55 t56 t57 t58 t59 t60 t61 t62 t63 t64 t65 t66 t67 t68 t69 t70 t71 t72 t73 t74 t75 t76 t77 t78 t79 t80 t81 t82 t83 t84 t85 t86 t87 t88 t89 t90 t91 t92 t93 t94 t95 t96 t97 t98 t99 t100 t101 t102 t103 t104 t105 t106 t107 t108 t109 t110 t111 t112 t113 t114 t115 t116 t117 t118 t119 t120 t121 t122 t123 t124 t125 t126 t127 t128 t129 t130 t131 t132 t133 t134 t135 t136 t137 t138 t139 t140 t141 t142 t143 t144 t145 t146 t147 t148 t149 t150 t151 t152 t153 t154 t155 t156 t157 t158 t159 t160 t161 t162 t163 t164 t165 t166 t167 t168 t169 t170 t171 t172 t173 t174 t175 t176 t177 t178 t179 t180 t181 t182 t183 t184 t185 t186 t187:Value},l0=.pointer (some ⟨p,0,none⟩)→e3=.pointer (some ⟨eb,0,none⟩)→g10=.pointer (some ⟨w.heap.size,0,none⟩)→at11=.int .i64 (k:Nat)→bx K ((l0::e1::l2::e3::t4::p5::i6::k_7::r8::f9::g10::at11::t12::t13::t14::t15::t16::t17::t18::t19::t20::t21::t22::t23::t24::t25::t26::t27::t28::t29::t30::t31::t32::t33::t34::t35::t36::t37::t38::t39::t40::t41::t42::t43::t44::t45::t46::t47::t48::t49::t50::t51::t52::t53::t54::t55::t56::t57::t58::t59::t60::t61::t62::t63::t64::t65::t66::t67::t68::t69::t70::t71::t72::t73::t74::t75::t76::t77::t78::t79::t80::t81::t82::t83::t84::t85::t86::t87::t88::t89::t90::t91::t92::t93::t94::t95::t96::t97::t98::t99::t100::t101::t102::t103::t104::t105::t106::t107::t108::t109::t110::t111::t112::t113::t114::t115::t116::t117::t118::t119::t120::t121::t122::t123::t124::t125::t126::t127::t128::t129::t130::t131::t132::t133::t134::t135::t136::t137::t138::t139::t140::t141::t142::t143::t144::t145::t146::t147::t148::t149::t150::t151::t152::t153::t154::t155::t156::t157::t158::t159::t160::t161::t162::t163::t164::t165::t166::t167::t168::t169::t170::t171::t172::t173::t174::t175::t176::t177::t178::t179::t180::t181::t182::t183::t184::t185::t186::t187::[])) w6.drew:=by
  intro l0 e1 l2 e3 t4 p5 i6 k_7 r8 f9 g10 at11 t12 t13 t14 t15 t16 t17 t18 t19 t20 t21 t22 t23 t24 t25 t26 t27 t28 t29 t30 t31 t32 t33 t34 t35 t36 t37 t38 t39 t40 t41 t42 t43 t44 t45 t46 t47 t48 t49 t50 t51 t52 t53 t54 t55 t56 t57 t58 t59 t60 t61 t62 t63 t64 t65 t66 t67 t68 t69 t70 t71 t72 t73 t74 t75 t76 t77 t78 t79 t80 t81 t82 t83 t84 t85 t86 t87 t88 t89 t90 t91 t92 t93 t94 t95 t96 t97 t98 t99 t100 t101 t102 t103 t104 t105 t106 t107 t108 t109 t110 t111 t112 t113 t114 t115 t116 t117 t118 t119 t120 t121 t122 t123 t124 t125 t126 t127 t128 t129 t130 t131 t132 t133 t134 t135 t136 t137 t138 t139 t140 t141 t142 t143 t144 t145 t146 t147 t148 t149 t150 t151 t152 t153 t154 t155 t156 t157 t158 t159 t160 t161 t162 t163 t164 t165 t166 t167 t168 t169 t170 t171 t172 t173 t174 t175 t176 t177 t178 t179 t180 t181 t182 t183 t184 t185 t186 t187 q1 q2 q3 q4
  exact EW hl2 hg hm k6 s2 ho he6 hgb6 rfl hG hrG hxr (by omega) hcl6 hr6 q1 q2 q3 q4 fun w' l' h1 h2 h3 h4=>good w' l' h1 h2 h3 (B2.trans h4)
 refine a8 (fun _=>cD) ?_
 by_cases hk0:(0:Int) < (k:Nat)
 ·refine dz hk0 ?_
  obtain ⟨k,rfl⟩:=Nat.exists_eq_succ_of_ne_zero (show k≠0 by omega)
  have ek:((k.succ:Nat):Int) - 1=(k:Nat):=by omega
  have hy:G[k]? = some G[k]:=List.getElem?_eq_getElem (by omega)
  generalize G[k]=y at hy
  obtain ⟨g,cur,rfl,op⟩:=aZ hr6 (by omega)
  have c0:cur[0+((k:Nat):Int).toNat * 5+0]? = some (iv y.o):=by rw [Int.toNat_natCast,Nat.zero_add]; exact op.cell fO hG hy (show 0 < 5 by omega)
  have c1:cur[0+((k:Nat):Int).toNat * 5+1]? = some (u6 y.q):=by rw [Int.toNat_natCast,Nat.zero_add]; exact op.cell fO hG hy (show 1 < 5 by omega)
  have hgn':g≠w.heap.size:=hnb4 g rfl
  have opd:Opn w6.drew.drew B 100 5 (l.G.length+1) c4 g cur (G.flatMap grC):=⟨op.blk,op.lo,op.nc,op.cm,op.len,op.take,op.xl⟩
  refine a8 (fun _=>ak) ?_
  refine a8 (fun _=>aA) ?_
  refine a8 (fun _=>dA) ?_
  refine a8 (v:=.slice (some ⟨g,0,none⟩) (l.G.length+1) c4) (fun _=>ld1 (fun _=>by kernel_rfl) hcl6 hc19) ?_
  refine a8 (v:=.int .i64 (k:Nat)) (fun K hK=>bo (by omega) (by omega) (by rw [ek]; exact hK)) ?_
  refine a8 (v:=.pointer (some ⟨g,0+((k:Nat):Int).toNat * 5,none⟩)) (fun _=>bJ Tryz.underlying28 (s:=5) (fun _=>by kernel_rfl) (by omega) (by omega)) ?_
  refine a8 (fun _=>pT) ?_
  refine a8 (v:=iv y.o) (fun _=>ld1 (fun _=>by kernel_rfl) op.blk c0) ?_
  refine a8 (fun _=>pT) ?_
  refine a8 (v:=iv x.o) (fun _=>ld1 (fun _=>by kernel_rfl) hgb6 rfl) ?_
  refine a8 (fun _=>cD) ?_
  by_cases h1:x.o < y.o
  ·refine de h1 ?_
   refine vE ?_
   refine de h1 ?_
   refine dz hk0 ?_
   refine a8 (fun _=>bp h1) ?_
   refine a8 (fun _=>bp hk0) ?_
   refine aR ?_
   refine a8 (fun _=>ak) ?_
   refine a8 (fun _=>aA) ?_
   refine a8 (fun _=>dA) ?_
   refine a8 (v:=.slice (some ⟨g,0,none⟩) (l.G.length+1) c4) (fun _=>ld1 (fun _=>by kernel_rfl) hcl6.drew hc19) ?_
   refine a8 (fun _=>ak) ?_
   refine a8 (fun _=>aA) ?_
   refine a8 (fun _=>dA) ?_
   refine a8 (v:=.slice (some ⟨g,0,none⟩) (l.G.length+1) c4) (fun _=>ld1 (fun _=>by kernel_rfl) hcl6.drew hc19) ?_
   refine a8 (v:=.int .i64 (k:Nat)) (fun K hK=>bo (by omega) (by omega) (by rw [ek]; exact hK)) ?_
   refine a8 (v:=.pointer (some ⟨g,0+((k:Nat):Int).toNat * 5,none⟩)) (fun _=>bJ Tryz.underlying28 (s:=5) (fun _=>by kernel_rfl) (by omega) (by omega)) ?_
   refine a8 (v:=.agg (grC y).toArray) (fun _=>ldA (n:=5) (vs:=grC y) Tryz.underlying100 rfl (by kernel_rfl) opd.blk (by rw [Int.toNat_natCast,Nat.zero_add]; exact opd.elem fO hG hy) rfl) ?_
   refine a8 (v:=.pointer (some ⟨g,0+((k.succ:Nat):Int).toNat * 5,none⟩)) (fun _=>bJ Tryz.underlying28 (s:=5) (fun _=>by kernel_rfl) (by omega) (by omega)) ?_
   refine opd.sto fO hG (by omega) (by kernel_rfl) (nm _) fun w7 o7 hr7 => ?_
   refine bo (by omega) (by omega) ?_
   exact ⟨⟨k,_,congrArg (Value.int .i64) ek,by omega,by rw [List.length_set,hG],tp hrG (hrG y (List.mem_of_getElem? hy)),o7.blk hcl6.drew (fun hh=>hcl6.drew.ne opd.blk (by decide) hh),o7.blk hgb6.drew (by omega),o7.blk he6.drew (fun hh=>he6.drew.ne opd.blk (by decide) hh),hr7,k6.drew.trans (o7.keep opd.blk (by simp) opd.lo)⟩,by rw [hmm]; show (((k.succ:Nat):Int) - 1).toNat < ((k.succ:Nat):Int).toNat; omega⟩
  ·refine cE h1 ?_
   refine a8 (fun _=>ak) ?_
   refine a8 (fun _=>aA) ?_
   refine a8 (fun _=>dA) ?_
   refine a8 (v:=.slice (some ⟨g,0,none⟩) (l.G.length+1) c4) (fun _=>ld1 (fun _=>by kernel_rfl) hcl6 hc19) ?_
   refine a8 (v:=.int .i64 (k:Nat)) (fun K hK=>bo (by omega) (by omega) (by rw [ek]; exact hK)) ?_
   refine a8 (v:=.pointer (some ⟨g,0+((k:Nat):Int).toNat * 5,none⟩)) (fun _=>bJ Tryz.underlying28 (s:=5) (fun _=>by kernel_rfl) (by omega) (by omega)) ?_
   refine a8 (fun _=>pT) ?_
   refine a8 (v:=iv y.o) (fun _=>ld1 (fun _=>by kernel_rfl) op.blk c0) ?_
   refine a8 (fun _=>pT) ?_
   refine a8 (v:=iv x.o) (fun _=>ld1 (fun _=>by kernel_rfl) hgb6 rfl) ?_
   refine a8 (fun _=>aN) ?_
   by_cases h2:y.o=x.o
   ·refine dz h2 ?_
    refine a8 (fun _=>ak) ?_
    refine a8 (fun _=>aA) ?_
    refine a8 (fun _=>dA) ?_
    refine a8 (v:=.slice (some ⟨g,0,none⟩) (l.G.length+1) c4) (fun _=>ld1 (fun _=>by kernel_rfl) hcl6 hc19) ?_
    refine a8 (v:=.int .i64 (k:Nat)) (fun K hK=>bo (by omega) (by omega) (by rw [ek]; exact hK)) ?_
    refine a8 (v:=.pointer (some ⟨g,0+((k:Nat):Int).toNat * 5,none⟩)) (fun _=>bJ Tryz.underlying28 (s:=5) (fun _=>by kernel_rfl) (by omega) (by omega)) ?_
    refine a8 (fun _=>zq) ?_
    refine a8 (v:=u6 y.q) (fun _=>ld1 (fun _=>by kernel_rfl) op.blk c1) ?_
    refine a8 (fun _=>zq) ?_
    refine a8 (v:=u6 x.q) (fun _=>ld1 (fun _=>by kernel_rfl) hgb6 rfl) ?_
    refine a8 (fun _=>cD) ?_
    refine cE h1 ?_
    refine a8 (fun _=>bp h2) ?_
    refine dz hk0 ?_
    refine a8 (fun _=>bt h1) ?_
    refine a8 (fun _=>bp hk0) ?_
    by_cases h3:x.q < y.q
    ·refine ai h3 ?_
     refine a8 (fun _=>ak) ?_
     refine a8 (fun _=>aA) ?_
     refine a8 (fun _=>dA) ?_
     refine a8 (v:=.slice (some ⟨g,0,none⟩) (l.G.length+1) c4) (fun _=>ld1 (fun _=>by kernel_rfl) hcl6.drew hc19) ?_
     refine a8 (fun _=>ak) ?_
     refine a8 (fun _=>aA) ?_
     refine a8 (fun _=>dA) ?_
     refine a8 (v:=.slice (some ⟨g,0,none⟩) (l.G.length+1) c4) (fun _=>ld1 (fun _=>by kernel_rfl) hcl6.drew hc19) ?_
     refine a8 (v:=.int .i64 (k:Nat)) (fun K hK=>bo (by omega) (by omega) (by rw [ek]; exact hK)) ?_
     refine a8 (v:=.pointer (some ⟨g,0+((k:Nat):Int).toNat * 5,none⟩)) (fun _=>bJ Tryz.underlying28 (s:=5) (fun _=>by kernel_rfl) (by omega) (by omega)) ?_
     refine a8 (v:=.agg (grC y).toArray) (fun _=>ldA (n:=5) (vs:=grC y) Tryz.underlying100 rfl (by kernel_rfl) opd.blk (by rw [Int.toNat_natCast,Nat.zero_add]; exact opd.elem fO hG hy) rfl) ?_
     refine a8 (v:=.pointer (some ⟨g,0+((k.succ:Nat):Int).toNat * 5,none⟩)) (fun _=>bJ Tryz.underlying28 (s:=5) (fun _=>by kernel_rfl) (by omega) (by omega)) ?_
     refine opd.sto fO hG (by omega) (by kernel_rfl) (nm _) fun w7 o7 hr7 => ?_
     refine bo (by omega) (by omega) ?_
     exact ⟨⟨k,_,congrArg (Value.int .i64) ek,by omega,by rw [List.length_set,hG],tp hrG (hrG y (List.mem_of_getElem? hy)),o7.blk hcl6.drew (fun hh=>hcl6.drew.ne opd.blk (by decide) hh),o7.blk hgb6.drew (by omega),o7.blk he6.drew (fun hh=>he6.drew.ne opd.blk (by decide) hh),hr7,k6.drew.trans (o7.keep opd.blk (by simp) opd.lo)⟩,by rw [hmm]; show (((k.succ:Nat):Int) - 1).toNat < ((k.succ:Nat):Int).toNat; omega⟩
    ·refine ag h3 ?_
     exact fin rfl rfl rfl rfl
   ·refine eK h2 ?_
    refine cE h1 ?_
    refine a8 (fun _=>bt h2) ?_
    refine dz hk0 ?_
    refine a8 (fun _=>bt h1) ?_
    refine a8 (fun _=>bp hk0) ?_
    refine cW ?_
    exact fin rfl rfl rfl rfl
 ·have:k=0:=by omega
  subst this
  refine eK hk0 ?_
  refine vE ?_
  refine vE ?_
  refine vE ?_
  refine eK hk0 ?_
  refine a8 (fun _=>bt hk0) ?_
  refine cW ?_
  exact fin rfl rfl rfl rfl
end
end Go.Proofs.YtgpfkmdknlcemaaGreatDoor
namespace Go.Proofs.YtgpfkmdknlcemaaGreatDoor
set_option maxRecDepth 100000
open Go.RowKit
attribute [local irreducible] bin un conv call bl blt slc aa fld af idx lkp bL bP eSt rng nxt ent ext alc box bld aJ ld sto aj bm mkS ifc pick rdy wts au sti cond aH Gives ac aW bA cOp
section
variable {w:World} {K:KV} {B p:Nat} {l:LG}
set_option maxHeartbeats 2000000 in
theorem EY {e:EV} {m:Nat} (hl:LM w B p l) (hg:GI l m) (hm:m≤900) (hB:B≤w.heap.size) (ho:1≤e.o∧e.o≤6) (hea : -9223372036854775808≤e.a∧e.a≤9223372036854775807)
  (bad:∀ w' (v:Int),v≠0→Below B w w'→K (.int .i64 v) w') (good:∀ w' l',LM w' B p l'→GI l' (m+1)→l'.s.V=l.s.V→Below B w w'→K (.int .i64 0) w'):call Tryz.prog 82 #[.pointer (some ⟨p,0,none⟩),.agg (evC e).toArray] K w:=by
 refine aE mW (mV ?_)
 refine bh fun w1 he b1 s1 => ?_
 have he:blk w1 w.heap.size 54 (evC e):=by simpa [Value.cells] using he
 have hl1:=hl.fresh b1
 have B1:Below B w w1:=b1.mono hB
 have s1':B≤w1.heap.size:=Nat.le_trans hB B1.size
 have hrn:=hg.rn
 have htn:=hg.tn
 refine cC <|ld1 (v:=iv e.o) (fun _=>by kernel_rfl) he rfl <|fb <|ld1 (v:=u6 e.r) (fun _=>by kernel_rfl) he rfl <|zr hl1 ho (fun k hk=>Nat.le_trans (hrn k hk) (by omega)) fun b => ?_
 cases b with
 | true=>exact aR (bad w1 14 (by decide) B1)
 | false =>
  refine cW ?_
  obtain ⟨rk,htk⟩:=hg.tk
  refine aC (fun y=>blk y p 79 (lgC l)∧blk y w.heap.size 54 (evC e)) ⟨hl1.cl.drew,he.drew⟩ <|ab (fun y hy _=>ak) <|ab (fun y hy _=>kT) <|ab (v:=.pointer (some ⟨l.t,0,none⟩)) (fun y hy _=>ld1 (fun _=>by kernel_rfl) hy.1 hl1.cT) <|ab (fun y hy _=>dU) <|ab (v:=u6 e.n) (fun y hy _=>ld1 (fun _=>by kernel_rfl) hy.2 rfl) <|tA htk hl1.drew.tm (by omega) fun w2 a c hP b2 => ?_
  have hl2:=hl1.drew.fresh b2
  have he2:=ae b2 he.drew he.drew.lt
  have B2:Below B w w2:=B1.drew.trans (b2.mono s1')
  refine aC (fun _=>True) trivial <|aI Tryz.underlying76 <|aN ?_
  have hpl:(fq l.T e.n).length≤100000:=by
   have:=oI (T:=l.T) (l.T.length+1) e.n
   unfold fq; omega
  by_cases h0:((fq l.T e.n).length:Int)=0
  ·exact ai h0 (bad w2 9 (by decide) B2)
  refine ag h0 <|EU (P:=fq l.T e.n) hl2 hg hm (Nat.le_trans hB B2.size) hea he2 hP hpl (fun y hy=>Bi hg hy) rfl rfl rfl rfl (fun w' v hv b=>bad w' v hv (B2.trans b)) ?_
  intro l0 e1 l2 e3 t4 p5 i6 k_7 r8 f9 g10 at11 t12 t13 t14 t15 t16 t17 t18 t19 t20 t21 t22 t23 t24 t25 t26 t27 t28 t29 t30 t31 t32 t33 t34 t35 t36 t37 t38 t39 t40 t41 t42 t43 t44 t45 t46 t47 t48 t49 t50 t51 t52 t53 t54 t55 t56 t57 t58 t59 t60 t61 t62 t63 t64 t65 t66 t67 t68 t69 t70 t71 t72 t73 t74 t75 t76 t77 t78 t79 t80 t81 t82 t83 t84 t85 t86 t87 t88 t89 t90 t91 t92 t93 t94 t95 t96 t97 t98 t99 t100 t101 t102 t103 t104 t105 t106 t107 t108 t109 t110 t111 t112 t113 t114 t115 t116 t117 t118 t119 t120 t121 t122 t123 t124 t125 t126 t127 t128 t129 t130 t131 t132 t133 t134 t135 t136 t137 t138 t139 t140 t141 t142 t143 t144 t145 t146 t147 t148 t149 t150 t151 t152 t153 t154 t155 t156 t157 t158 t159 t160 t161 t162 t163 t164 t165 t166 t167 t168 t169 t170 t171 t172 t173 t174 t175 t176 t177 t178 t179 t180 t181 t182 t183 t184 t185 t186 t187 w3 l3 q0 q3 hl3 hs3 he3 B3
  have B3':=B2.trans B3
  exact EX hl3 (hs3.gi hg) hm (Nat.le_trans hB B3'.size) ho hea he3 q0 q3 fun w' l' h1 h2 h3 h4=>good w' l' h1 h2 (h3.trans hs3.V) (B3'.trans h4)
end
end Go.Proofs.YtgpfkmdknlcemaaGreatDoor
namespace Go.Proofs.YtgpfkmdknlcemaaGreatDoor
set_option maxRecDepth 100000
open Go.RowKit
theorem Dr {A:List Int} {i x:Int} (h:A.length=54):((lB A i x).1).length=54:=by
 unfold lB
 split
 ·rfl
 split
 ·rfl
 ·simp [h]
attribute [local irreducible] bin un conv call bl blt slc aa fld af idx lkp bL bP eSt rng nxt ent ext alc box bld aJ ld sto aj bm mkS ifc pick rdy wts au sti cond aH Gives ac aW bA cOp
section
variable {w:World} {K:KV} {B p:Nat} {l:LG}
theorem EZ {l0 e1 l2 e3 t4 k_5 p6 i7 n8 r9 f10 t11 t12 t13 t14 t15 t16 t17 t18 t19 t20 t21 t22 t23 t24 t25 t26 t27 t28 t29 t30 t31 t32 t33 t34 t35 t36 t37 t38 t39 t40 t41 t42 t43 t44 t45 t46 t47 t48 t49 t50 t51 t52 t53 t54 t55 t56 t57 t58 t59 t60 t61 t62 t63 t64 t65 t66 t67 t68 t69 t70 t71 t72 t73 t74 t75 t76 t77 t78 t79 t80 t81 t82 t83 t84 t85 t86 t87 t88 t89 t90 t91 t92 t93 t94 t95 t96 t97 t98 t99 t100 t101 t102 t103 t104 t105 t106 t107 t108 t109 t110 t111 t112 t113 t114 t115 t116 t117 t118 t119 t120 t121 t122 t123 t124 t125 t126 t127:Value} {B1:KE} {i rb j:Nat} {x:ND} {A':List Int} {f:Int} (hl:LM w B p l) (hx:l.s.nodes[i]? = some x) (hA':A'.length=54) (hr:blk w rb 36 (A'.map iv)) (hj:j≤1000000)
  (q0:l0=.pointer (some ⟨p,0,none⟩)) (q6:i7=.int .i64 (j:Nat)) (q7:n8=.int .i64 (i:Nat)) (q8:r9=.pointer (some ⟨rb,0,none⟩)) (q9:f10=.int .i64 f)
  (bad:∀ w' (v:Int),v≠0→Below B w w'→K (.int .i64 v) w')
  (hB1:∀ (e:List Value) (w':World),gd e 7=.int .i64 ((j+1:Nat):Int)→LM w' B p (pS l i { x with A:=A' })→Keep mB B w w'→B1 e w'):ca K B1 ((l0::e1::l2::e3::t4::k_5::p6::i7::n8::r9::f10::t11::t12::t13::t14::t15::t16::t17::t18::t19::t20::t21::t22::t23::t24::t25::t26::t27::t28::t29::t30::t31::t32::t33::t34::t35::t36::t37::t38::t39::t40::t41::t42::t43::t44::t45::t46::t47::t48::t49::t50::t51::t52::t53::t54::t55::t56::t57::t58::t59::t60::t61::t62::t63::t64::t65::t66::t67::t68::t69::t70::t71::t72::t73::t74::t75::t76::t77::t78::t79::t80::t81::t82::t83::t84::t85::t86::t87::t88::t89::t90::t91::t92::t93::t94::t95::t96::t97::t98::t99::t100::t101::t102::t103::t104::t105::t106::t107::t108::t109::t110::t111::t112::t113::t114::t115::t116::t117::t118::t119::t120::t121::t122::t123::t124::t125::t126::t127::[])) w:=by
 subst q0 q6 q7 q8 q9
 refine m5 ?_
 refine dn ?_
 by_cases hf:f≠0
 ·exact ai hf (bad w f hf (Below.refl _ _))
 refine ag hf ?_
 have hl:=hl.drew
 have hr:=hr.drew
 have hi:i < l.s.nodes.length:=(List.getElem?_eq_some_iff.1 hx).1
 obtain ⟨g,cur,ha,op⟩:=aZ hl.nd (by omega)
 refine a8 (fun _=>ak) ?_
 refine a8 (fun _=>aA) ?_
 refine a8 (fun _=>aU) ?_
 refine a8 (v:=.slice l.s.na l.s.nodes.length l.s.nc) (fun _=>ld1 (fun _=>by kernel_rfl) hl.cl hl.cN) ?_
 refine a8 (v:=.agg (A'.map iv).toArray) (fun _=>ldA (n:=54) (vs:=A'.map iv) Tryz.underlying36 rfl (by kernel_rfl) hr (by rw [List.drop_zero,List.take_of_length_le (by simp [hA'])]) (by simp [hA'])) ?_
 refine a8 (v:=.pointer (some ⟨g,i * 56,none⟩)) (fun _=>gQ ha Tryz.underlying27 (fun _=>by kernel_rfl) hi) ?_
 refine a8 (fun _=>fP) ?_
 refine Ct hl hx hA' op ha rfl fun w' hl' o' => ?_
 refine m8 ?_
 refine aF (by omega) (by omega) ?_
 exact hB1 _ _ (congrArg (Value.int .i64) (by push_cast; rfl)) hl' ((Keep.of (B:=B) (Below.refl _ w).drew).trans (o'.keep op.blk (by simp) op.lo))
set_option maxHeartbeats 4000000 in
theorem Fa {l0 e1 l2 e3 t4 k_5 p6 i7 n8 r9 f10 t11 t12 t13 t14 t15 t16 t17 t18 t19 t20 t21 t22 t23 t24 t25 t26 t27 t28 t29 t30 t31 t32 t33 t34 t35 t36 t37 t38 t39 t40 t41 t42 t43 t44 t45 t46 t47 t48 t49 t50 t51 t52 t53 t54 t55 t56 t57 t58 t59 t60 t61 t62 t63 t64 t65 t66 t67 t68 t69 t70 t71 t72 t73 t74 t75 t76 t77 t78 t79 t80 t81 t82 t83 t84 t85 t86 t87 t88 t89 t90 t91 t92 t93 t94 t95 t96 t97 t98 t99 t100 t101 t102 t103 t104 t105 t106 t107 t108 t109 t110 t111 t112 t113 t114 t115 t116 t117 t118 t119 t120 t121 t122 t123 t124 t125 t126 t127:Value} {e:EV} {P:List Int} {a:Option Addr} {m c eb Bp:Nat} (hl:LM w B p l) (hg:GI l m) (hm:m≤900) (hB:B≤w.heap.size) {k5:Nat} {gx:GR} (hgx:l.G[k5]? = some gx) (ha : -9223372036854775808≤gx.a∧gx.a≤9223372036854775807) (he:blk w eb 54 (evC e))
  (hP:w.ownsRow Bp 24 1 (.slice a P.length c) P.length (P.map u6)) (hPl:P.length≤100000) (hPn:∀ y ∈ P, ∃ z ∈ l.s.nodes,z.id=y)
  (q0:l0=.pointer (some ⟨p,0,none⟩)) (q3:e3=.pointer (some ⟨eb,0,none⟩)) (qk:k_5=.int .i64 (k5:Nat)) (q5:p6=.slice a P.length c) (q6:i7=.int .i64 0)
  (bad:∀ w' (v:Int),v≠0→Below B w w'→K (.int .i64 v) w')
  (hP1:∀ {l0 e1 l2 e3 t4 k_5 p6 i7 n8 r9 f10 t11 t12 t13 t14 t15 t16 t17 t18 t19 t20 t21 t22 t23 t24 t25 t26 t27 t28 t29 t30 t31 t32 t33 t34 t35 t36 t37 t38 t39 t40 t41 t42 t43 t44 t45 t46 t47 t48 t49 t50 t51 t52 t53 t54 t55 t56 t57 t58 t59 t60 t61 t62 t63 t64 t65 t66 t67 t68 t69 t70 t71 t72 t73 t74 t75 t76 t77 t78 t79 t80 t81 t82 t83 t84 t85 t86 t87 t88 t89 t90 t91 t92 t93 t94 t95 t96 t97 t98 t99 t100 t101 t102 t103 t104 t105 t106 t107 t108 t109 t110 t111 t112 t113 t114 t115 t116 t117 t118 t119 t120 t121 t122 t123 t124 t125 t126 t127:Value} {w':World} {l':LG},l0=.pointer (some ⟨p,0,none⟩)→e3=.pointer (some ⟨eb,0,none⟩)→k_5=.int .i64 (k5:Nat)→LM w' B p l'→SL l l'→blk w' eb 54 (evC e)→Below B w w'→aM K ((l0::e1::l2::e3::t4::k_5::p6::i7::n8::r9::f10::t11::t12::t13::t14::t15::t16::t17::t18::t19::t20::t21::t22::t23::t24::t25::t26::t27::t28::t29::t30::t31::t32::t33::t34::t35::t36::t37::t38::t39::t40::t41::t42::t43::t44::t45::t46::t47::t48::t49::t50::t51::t52::t53::t54::t55::t56::t57::t58::t59::t60::t61::t62::t63::t64::t65::t66::t67::t68::t69::t70::t71::t72::t73::t74::t75::t76::t77::t78::t79::t80::t81::t82::t83::t84::t85::t86::t87::t88::t89::t90::t91::t92::t93::t94::t95::t96::t97::t98::t99::t100::t101::t102::t103::t104::t105::t106::t107::t108::t109::t110::t111::t112::t113::t114::t115::t116::t117::t118::t119::t120::t121::t122::t123::t124::t125::t126::t127::[])) w'):ed K ((l0::e1::l2::e3::t4::k_5::p6::i7::n8::r9::f10::t11::t12::t13::t14::t15::t16::t17::t18::t19::t20::t21::t22::t23::t24::t25::t26::t27::t28::t29::t30::t31::t32::t33::t34::t35::t36::t37::t38::t39::t40::t41::t42::t43::t44::t45::t46::t47::t48::t49::t50::t51::t52::t53::t54::t55::t56::t57::t58::t59::t60::t61::t62::t63::t64::t65::t66::t67::t68::t69::t70::t71::t72::t73::t74::t75::t76::t77::t78::t79::t80::t81::t82::t83::t84::t85::t86::t87::t88::t89::t90::t91::t92::t93::t94::t95::t96::t97::t98::t99::t100::t101::t102::t103::t104::t105::t106::t107::t108::t109::t110::t111::t112::t113::t114::t115::t116::t117::t118::t119::t120::t121::t122::t123::t124::t125::t126::t127::[])) w:=by
 subst q0 q3 qk q5 q6
 refine m4 (Inv:=fun i wr => ∃ (k:Nat) (l':LG),i=.int .i64 (k:Nat)∧k≤P.length∧LM wr B p l'∧SL l l'∧blk wr eb 54 (evC e)∧wr.ownsRow Bp 24 1 (.slice a P.length c) P.length (P.map u6)∧Below B w wr) (μ:=fun i _=>P.length - (intOf i).toNat) ⟨0,l,rfl,by omega,hl,SL.refl l,he,hP,Below.refl _ _⟩ ?_
 rintro _ dd w1 mm ⟨k,l',rfl,hk,hl1,hs1,he1,hP1',B1⟩ hmm
 refine aI Tryz.underlying76 ?_
 refine aD ?_
 by_cases hkn:k < P.length
 ·refine ai (by omega) ?_
  have hy:P[k]? = some P[k]:=List.getElem?_eq_getElem hkn
  generalize P[k]=y at hy
  obtain ⟨g,cur,rfl,op⟩:=aZ hP1' (by omega)
  refine bJ Tryz.underlying76 (s:=1) (fun _=>by kernel_rfl) (by omega) (by omega) ?_
  refine ld1 (v:=u6 y) (fun _=>by kernel_rfl) op.blk (by
   have h0:(P.map u6)=P.flatMap uC:=(xy P).symm
   have op2:Opn w1 Bp 24 1 P.length c g cur (P.flatMap uC):=h0 ▸ op
   have:=op2.cell (enc:=uC) (s:=1) (j:=0) (fun _=>rfl) rfl hy (by omega)
   rw [Int.toNat_natCast,Nat.zero_add]; exact this) ?_
  have hnn:=hg.nn
  refine tq hl1 (by rw [hs1.len]; omega) ?_
  obtain ⟨x,hx,hpl⟩:=Bh (hs1.ex (hPn y (List.mem_of_getElem? hy)))
  have hfd:fdN l'.s.nodes y=(posN l'.s.nodes y:Nat):=by unfold fdN; rw [if_pos hpl]
  rw [hfd]
  generalize posN l'.s.nodes y=i at hx hpl
  have hl2:=hl1.drew
  have he2:=he1.drew
  have hxA:x.A.length=54:=hl1.A54 x (List.mem_of_getElem? hx)
  obtain ⟨gn,cn,han,opn⟩:=aZ hl2.nd (by omega)
  have hgx2:l'.G[k5]? = some gx:=by rw [hs1.G]; exact hgx
  have hk5:k5 < l'.G.length:=(List.getElem?_eq_some_iff.1 hgx2).1
  obtain ⟨gg,cg,hag,opg⟩:=aZ hl2.gr (by omega)
  have hcg:cg[k5 * 5+3]? = some (iv gx.a):=opg.cell fO rfl hgx2 (show 3 < 5 by omega)
  have hcut:(cn.drop (i * 56+2)).take 54=x.A.map iv:=by
   have:=opn.elem cZ rfl hx
   rw [show i * 56+2=i * 56+2 from rfl, ← List.drop_drop]
   have h3:((cn.drop (i * 56)).take 56).drop 2=((cn.drop (i * 56)).drop 2).take 54:=by rw [List.drop_take]
   rw [← h3,this]
   unfold ndE
   rw [rV hxA]
   rfl
  refine aC (fun z=>blk z p 79 (lgC l')∧blk z gn 38 cn∧blk z eb 54 (evC e)∧blk z gg 100 cg) ⟨hl2.cl,opn.blk,he2,opg.blk⟩ ?_
  refine ab (fun z hz _=>ak) ?_
  refine ab (fun z hz _=>aA) ?_
  refine ab (fun z hz _=>aU) ?_
  refine ab (v:=.slice l'.s.na l'.s.nodes.length l'.s.nc) (fun z hz _=>ld1 (fun _=>by kernel_rfl) hz.1 hl2.cN) ?_
  refine ab (v:=.pointer (some ⟨gn,i * 56,none⟩)) (fun z hz _=>gQ han Tryz.underlying27 (fun _=>by kernel_rfl) hpl) ?_
  refine ab (fun z hz _=>fP) ?_
  refine ab (v:=.agg (x.A.map iv).toArray) (fun z hz _=>ldA (n:=54) (vs:=x.A.map iv) Tryz.underlying36 rfl (by kernel_rfl) hz.2.1 hcut (by simp [hxA])) ?_
  refine ab (fun z hz _=>cC) ?_
  refine ab (v:=iv e.o) (fun z hz _=>ld1 (fun _=>by kernel_rfl) hz.2.2.1 rfl) ?_
  refine ab (fun z hz _=>ak) ?_
  refine ab (fun z hz _=>aA) ?_
  refine ab (fun z hz _=>dA) ?_
  refine ab (v:=.slice l'.ga l'.G.length l'.gc) (fun z hz _=>ld1 (fun _=>by kernel_rfl) hz.1 hl2.cG) ?_
  refine ab (v:=.pointer (some ⟨gg,k5 * 5,none⟩)) (fun z hz _=>gQ hag Tryz.underlying28 (fun _=>by kernel_rfl) hk5) ?_
  refine ab (fun z hz _=>Fe) ?_
  refine ab (v:=iv gx.a) (fun z hz _=>ld1 (fun _=>by kernel_rfl) hz.2.2.2 hcg) ?_
  have s1:B≤w1.drew.heap.size:=Nat.le_trans hB B1.size
  have hAl:((lB x.A e.o gx.a).1).length=54:=Dr hxA
  have hP2:w1.drew.ownsRow Bp 24 1 (.slice (some ⟨g,0,none⟩) P.length c) P.length (P.map u6):=bj hP1' fun _ _=>rfl
  have key:∀ {l0 e1 l2 e3 t4 k_5 p6 i7 n8 r9 f10 t11 t12 t13 t14 t15 t16 t17 t18 t19 t20 t21 t22 t23 t24 t25 t26 t27 t28 t29 t30 t31 t32 t33 t34 t35 t36 t37 t38 t39 t40 t41 t42 t43 t44 t45 t46 t47 t48 t49 t50 t51 t52 t53 t54 t55 t56 t57 t58 t59 t60 t61 t62 t63 t64 t65 t66 t67 t68 t69 t70 t71 t72 t73 t74 t75 t76 t77 t78 t79 t80 t81 t82 t83 t84 t85 t86 t87 t88 t89 t90 t91 t92 t93 t94 t95 t96 t97 t98 t99 t100 t101 t102 t103 t104 t105 t106 t107 t108 t109 t110 t111 t112 t113 t114 t115 t116 t117 t118 t119 t120 t121 t122 t123 t124 t125 t126 t127:Value} {w3:World} {rb:Nat},l0=.pointer (some ⟨p,0,none⟩)→i7=.int .i64 (k:Nat)→n8=.int .i64 (i:Nat)→r9=.pointer (some ⟨rb,0,none⟩)→f10=.int .i64 (lB x.A e.o gx.a).2→blk w3 rb 36 ((lB x.A e.o gx.a).1.map iv)→Below w1.drew.heap.size w1.drew w3 →
    ca K (fun e2 w2=>(∃ (k:Nat) (l':LG),gd e2 7=.int .i64 (k:Nat)∧k≤P.length∧LM w2 B p l'∧SL l l'∧blk w2 eb 54 (evC e)∧w2.ownsRow Bp 24 1 (.slice (some ⟨g,0,none⟩) P.length c) P.length (P.map u6)∧Below B w w2)∧P.length - (intOf (gd e2 7)).toNat < mm) ((l0::e1::l2::e3::t4::k_5::p6::i7::n8::r9::f10::t11::t12::t13::t14::t15::t16::t17::t18::t19::t20::t21::t22::t23::t24::t25::t26::t27::t28::t29::t30::t31::t32::t33::t34::t35::t36::t37::t38::t39::t40::t41::t42::t43::t44::t45::t46::t47::t48::t49::t50::t51::t52::t53::t54::t55::t56::t57::t58::t59::t60::t61::t62::t63::t64::t65::t66::t67::t68::t69::t70::t71::t72::t73::t74::t75::t76::t77::t78::t79::t80::t81::t82::t83::t84::t85::t86::t87::t88::t89::t90::t91::t92::t93::t94::t95::t96::t97::t98::t99::t100::t101::t102::t103::t104::t105::t106::t107::t108::t109::t110::t111::t112::t113::t114::t115::t116::t117::t118::t119::t120::t121::t122::t123::t124::t125::t126::t127::[])) w3:=by
   intro l0 e1 l2 e3 t4 k_5 p6 i7 n8 r9 f10 t11 t12 t13 t14 t15 t16 t17 t18 t19 t20 t21 t22 t23 t24 t25 t26 t27 t28 t29 t30 t31 t32 t33 t34 t35 t36 t37 t38 t39 t40 t41 t42 t43 t44 t45 t46 t47 t48 t49 t50 t51 t52 t53 t54 t55 t56 t57 t58 t59 t60 t61 t62 t63 t64 t65 t66 t67 t68 t69 t70 t71 t72 t73 t74 t75 t76 t77 t78 t79 t80 t81 t82 t83 t84 t85 t86 t87 t88 t89 t90 t91 t92 t93 t94 t95 t96 t97 t98 t99 t100 t101 t102 t103 t104 t105 t106 t107 t108 t109 t110 t111 t112 t113 t114 t115 t116 t117 t118 t119 t120 t121 t122 t123 t124 t125 t126 t127 w3 rb q0 q6 q7 q8 q9 hrb b3
   have B3:Below B w w3:=B1.drew.trans (b3.mono s1)
   have hl3:=hl2.fresh b3
   refine EZ hl3 hx hAl hrb (by omega) q0 q6 q7 q8 q9 (fun w' v hv b=>bad w' v hv (B3.trans b)) fun e2 w' hg6 hl4 k4 => ?_
   have s3:B≤w3.heap.size:=Nat.le_trans s1 b3.size
   refine ⟨⟨k+1,_,hg6,by omega,hl4,hs1.set hx rfl,k4.blk (ae b3 he2 he2.lt) (.inr (by decide)),bO (bj hP2 fun q hq=>b3.block q (World.ownsRow.lt hP2 q hq).2) k4 (by decide),B3.trans (k4.below s3)⟩, ?_⟩
   rw [hg6,hmm]
   show P.length - (((k+1:Nat):Int)).toNat < P.length - (k:Int).toNat
   omega
  refine ⟨?_, ?_⟩
  ·refine zM hxA ha fun w3 b3 => ?_
   refine aC (fun _=>True) trivial ?_
   refine ab (fun z hz _=>fy) ?_
   refine ab (fun z hz _=>fz) ?_
   refine cH (z:=.agg (z54.map iv).toArray) (by kernel_rfl) fun w4 h4 b4 s4 => ?_
   have h4:blk w4 w3.heap.size 36 (z54.map iv):=by simpa [Value.cells] using h4
   refine bn trivial ?_
   refine eM (n:=54) (vs:=(lB x.A e.o gx.a).1.map iv) (by kernel_rfl) (by simp [hAl]) h4 (by show 0+54≤54; omega) (nj _) fun w5 h5 o5 => ?_
   refine bn trivial ?_
   refine key rfl rfl rfl rfl rfl (by
    rw [List.take_zero,List.nil_append,List.drop_of_length_le (by show 54≤0+54; omega),List.append_nil] at h5
    exact h5) (b3.trans (bN (b4.mono b3.size) o5 b3.size))
  ·refine cH (z:=.agg (z54.map iv).toArray) (by kernel_rfl) fun w3 h3 b3 s3 => ?_
   have h3:blk w3 w1.drew.heap.size 36 (z54.map iv):=by simpa [Value.cells] using h3
   refine bn ⟨ae b3 hl2.cl hl2.cl.lt,ae b3 opn.blk opn.blk.lt,ae b3 he2 he2.lt,ae b3 opg.blk opg.blk.lt⟩ ?_
   refine zM hxA ha fun w4 b4 => ?_
   have h4:=ae b4 h3 h3.lt
   refine aC (fun _=>True) trivial ?_
   refine ab (fun z hz _=>fy) ?_
   refine ab (fun z hz _=>fz) ?_
   refine eM (n:=54) (vs:=(lB x.A e.o gx.a).1.map iv) (by kernel_rfl) (by simp [hAl]) h4 (by show 0+54≤54; omega) (nj _) fun w5 h5 o5 => ?_
   refine bn trivial ?_
   refine key rfl rfl rfl rfl rfl (by
    rw [List.take_zero,List.nil_append,List.drop_of_length_le (by show 54≤0+54; omega),List.append_nil] at h5
    exact h5) (bN (b3.trans (b4.mono b3.size)) o5 (Nat.le_refl _))
 ·refine ag (by omega) ?_
  exact hP1 rfl rfl rfl hl1 hs1 he1 B1
end
end Go.Proofs.YtgpfkmdknlcemaaGreatDoor
namespace Go.Proofs.YtgpfkmdknlcemaaGreatDoor
set_option maxRecDepth 100000
open Go.RowKit
def Gx (l:LG) (i:Nat) (x:GR):LG := { l with s := { l.s with gv:=.slice l.ga (l.G.set i x).length l.gc },G:=l.G.set i x }
attribute [local irreducible] bin un conv call bl blt slc aa fld af idx lkp bL bP eSt rng nxt ent ext alc box bld aJ ld sto aj bm mkS ifc pick rdy wts au sti cond aH Gives ac aW bA cOp
section
variable {w:World} {K:KV} {B p:Nat} {l:LG}
theorem Ju {i g o:Nat} {x:GR} {r:Int} {cur:List Value} (hl:LM w B p l) (hx:l.G[i]? = some x) (op:Opn w B 100 5 l.G.length l.gc g cur (l.G.flatMap grC)) (ha:l.ga=some ⟨g,0,none⟩) (ho:o=i * 5+4)
  (h:∀ w',LM w' B p (Gx l i { x with b:=r })→Oth g w w'→K undef w'):sto Tryz.prog 24 (.pointer (some ⟨g,o,none⟩)) (u6 r) K w:=by
 have hi:i < l.G.length:=(List.getElem?_eq_some_iff.1 hx).1
 have h1:(i+1) * 5≤l.G.length * 5:=Nat.mul_le_mul_right _ hi
 have h2:l.G.length * 5≤l.gc * 5:=Nat.mul_le_mul_right _ op.nc
 rw [Nat.succ_mul] at h1
 have hcl:=op.len
 subst ho
 refine eD (fun _=>by kernel_rfl) op.blk (by omega) rfl fun w' hb o' => ?_
 have hset:=op.set1 (x' := { x with b:=r }) (v:=u6 r) fO rfl hx (show 4 < 5 by omega) rfl hb
 have hk:Keep rS B w w':=o'.keep op.blk (by simp) op.lo
 have hlen:(l.G.set i { x with b:=r }).length=l.G.length:=List.length_set ..
 refine h w' (hl.grants' (G:=l.G.set i { x with b:=r }) (a:=l.ga) (c:=l.gc) hk (by decide) (by decide) (by decide) (by decide) ?_ ?_) o'
 ·rw [← uH hl.i6 hl.l6 hl.v6,hlen]
  have:(lgC l).set 19 (.slice l.ga l.G.length l.gc)=lgC l:=by
   have:=hl.cG
   obtain ⟨hh,he⟩:=List.getElem?_eq_some_iff.1 this
   conv=>lhs; rw [← he]
   exact List.set_getElem_self hh
  rw [this]
  exact o'.blk hl.cl (fun hh=>hl.cl.ne op.blk (by decide) hh)
 ·rw [hlen,ha]
  exact Opn.own hset
set_option maxHeartbeats 2000000 in
theorem Fb {l0 e1 l2 e3 t4 k_5 p6 i7 n8 r9 f10 t11 t12 t13 t14 t15 t16 t17 t18 t19 t20 t21 t22 t23 t24 t25 t26 t27 t28 t29 t30 t31 t32 t33 t34 t35 t36 t37 t38 t39 t40 t41 t42 t43 t44 t45 t46 t47 t48 t49 t50 t51 t52 t53 t54 t55 t56 t57 t58 t59 t60 t61 t62 t63 t64 t65 t66 t67 t68 t69 t70 t71 t72 t73 t74 t75 t76 t77 t78 t79 t80 t81 t82 t83 t84 t85 t86 t87 t88 t89 t90 t91 t92 t93 t94 t95 t96 t97 t98 t99 t100 t101 t102 t103 t104 t105 t106 t107 t108 t109 t110 t111 t112 t113 t114 t115 t116 t117 t118 t119 t120 t121 t122 t123 t124 t125 t126 t127:Value} {e:EV} {m eb k5:Nat} {gx:GR} (hl:LM w B p l) (hg:GI l m) (hm:m≤900) (hB:B≤w.heap.size) (ho:1≤e.o∧e.o≤6) (hgx:l.G[k5]? = some gx) (he:blk w eb 54 (evC e))
  (q0:l0=.pointer (some ⟨p,0,none⟩)) (q3:e3=.pointer (some ⟨eb,0,none⟩)) (qk:k_5=.int .i64 (k5:Nat))
  (good:∀ w' l',LM w' B p l'→GI l' (m+1)→l'.s.V=l.s.V→Below B w w'→K (.int .i64 0) w'):aM K ((l0::e1::l2::e3::t4::k_5::p6::i7::n8::r9::f10::t11::t12::t13::t14::t15::t16::t17::t18::t19::t20::t21::t22::t23::t24::t25::t26::t27::t28::t29::t30::t31::t32::t33::t34::t35::t36::t37::t38::t39::t40::t41::t42::t43::t44::t45::t46::t47::t48::t49::t50::t51::t52::t53::t54::t55::t56::t57::t58::t59::t60::t61::t62::t63::t64::t65::t66::t67::t68::t69::t70::t71::t72::t73::t74::t75::t76::t77::t78::t79::t80::t81::t82::t83::t84::t85::t86::t87::t88::t89::t90::t91::t92::t93::t94::t95::t96::t97::t98::t99::t100::t101::t102::t103::t104::t105::t106::t107::t108::t109::t110::t111::t112::t113::t114::t115::t116::t117::t118::t119::t120::t121::t122::t123::t124::t125::t126::t127::[])) w:=by
 subst q0 q3 qk
 refine m6 ?_
 have hl:=hl.drew
 have he:=he.drew
 have hk5:k5 < l.G.length:=(List.getElem?_eq_some_iff.1 hgx).1
 obtain ⟨g,cur,ha,op⟩:=aZ hl.gr (by omega)
 refine a8 (fun _=>ak) <|a8 (fun _=>aA) <|a8 (fun _=>dA) <|a8 (v:=.slice l.ga l.G.length l.gc) (fun _=>ld1 (fun _=>by kernel_rfl) hl.cl hl.cG) <|a8 (fun _=>fb) <|a8 (v:=u6 e.r) (fun _=>ld1 (fun _=>by kernel_rfl) he rfl) <|a8 (v:=.pointer (some ⟨g,k5 * 5,none⟩)) (fun _=>gQ ha Tryz.underlying28 (fun _=>by kernel_rfl) hk5) <|a8 (fun _=>Ff) <|Ju hl hgx op ha rfl fun w2 hl2 o2 => ?_
 have k2:Keep rS B w w2:=(Keep.of (B:=B) (Below.refl _ w).drew).trans (o2.keep op.blk (by simp) op.lo)
 have B2:Below B w w2:=k2.below hB
 have he2:blk w2 eb 54 (evC e):=o2.blk he (fun hh=>he.ne op.blk (by decide) hh)
 generalize hl2e:Gx l k5 { gx with b:=e.r } = l2 at hl2
 have r1:l2.T=l.T:=by rw [← hl2e]; rfl
 have r2:l2.R=l.R:=by rw [← hl2e]; rfl
 have r3:l2.s.V=l.s.V:=by rw [← hl2e]; rfl
 have r4:l2.s.nodes=l.s.nodes:=by rw [← hl2e]; rfl
 have r5:l2.G=l.G.set k5 { gx with b:=e.r }:=by rw [← hl2e]; rfl
 obtain ⟨j,hj⟩:∃ j:Nat,j=(e.o - 1).toNat:=⟨_,rfl⟩
 have hj6:j < 6:=by omega
 have hl3:=hl2.drew
 obtain ⟨qa,qc,hq,hqr⟩:=hl3.rq j hj6
 have hcq:(lgC l2)[0+21+j]? = some (.slice qa (l2.R.getD j []).length qc):=by rw [Nat.zero_add]; exact hl3.cQ.trans hq
 have hrn:=hg.rn j hj6
 rw [← r2] at hrn
 refine aC (fun z=>blk z p 79 (lgC l2)∧blk z eb 54 (evC e)) ⟨hl3.cl,he2.drew⟩ <|ab (fun z hz _=>cC) <|ab (v:=iv e.o) (fun z hz _=>ld1 (fun _=>by kernel_rfl) hz.2 rfl) <|ab (v:=.int .i64 ((j:Nat):Int)) (fun z hz K hK=>bo (by omega) (by omega) (by rw [show (e.o - 1)=(j:Nat) by omega]; exact hK)) <|ab (fun z hz _=>cC) <|ab (v:=iv e.o) (fun z hz _=>ld1 (fun _=>by kernel_rfl) hz.2 rfl) <|ab (v:=.int .i64 ((j:Nat):Int)) (fun z hz K hK=>bo (by omega) (by omega) (by rw [show (e.o - 1)=(j:Nat) by omega]; exact hK)) <|ab (fun z hz _=>ak) <|ab (fun z hz _=>iJ) <|ab (fun z hz _=>ixQ rfl hj6) ?_
 refine ab (v:=.slice qa (l2.R.getD j []).length qc) (fun z hz _=>ld1 (fun _=>by kernel_rfl) hz.1 hcq) <|ab (fun z hz _=>fb) <|ab (v:=u6 e.r) (fun z hz _=>ld1 (fun _=>by kernel_rfl) hz.2 rfl) <|ab (fun z hz _=>ak) <|ab (fun z hz _=>iJ) <|hH (vs:=[u6 e.r]) Tryz.underlying76 (s:=1) (by kernel_rfl) (by kernel_rfl) (by omega) rfl (by simp) (by simp) (by simp) (by simp [Value.cells,u6]) fun w4 h4 b4 s4 => ?_
 have h4:blk w4 w2.drew.heap.size 24 (uC e.r):=by simpa [Value.cells,u6,uC] using h4
 have hl4:=hl3.fresh b4
 have B4:Below B w w4:=B2.drew.trans (b4.mono (Nat.le_trans hB B2.size))
 refine bn ⟨hl4.cl,ae b4 he2.drew he2.drew.lt⟩ ?_
 have hqr4:=bj hqr fun b hb=>b4.block b (World.ownsRow.lt hqr b hb).2
 obtain ⟨ii,hi',hz,hsz,hby⟩:=info_parts oJ
 refine ka (base:=B) (enc:=uC) (x:=e.r) Tryz.underlying76 hi' hz hsz hby rfl (by omega) (fun _=>rfl) hqr4 h4 (zp _) (by omega) (by omega) (Nat.le_trans hB B4.size) fun a5 c5 w5 hr5 hg5 b5 hob5 => ?_
 have hcl5:=dv hl4.cl hqr4 (by decide) hg5
 have he5:blk w5 eb 54 (evC e):=dv (ae b4 he2.drew he2.drew.lt) hqr4 (by decide) hg5
 refine bn ⟨hcl5,he5⟩ <|ab (fun z hz _=>ixQ rfl hj6) <|eD (fun _=>by kernel_rfl) hcl5 (by rw [hl4.ll]; omega) rfl fun w6 hcl6 o6 => ?_
 rw [show 0+21+j=21+j by omega] at hcl6
 have hl6:=hl4.req' hj6 hq hg5 hr5 hob5 hcl6 o6
 refine good w6 _ hl6 ?_ r3 (B4.trans (bN b5 o6 hl.lo))
 refine ⟨by show ∃ rk,TK l2.T rk; rw [r1]; exact hg.tk,by show ∀ x ∈ l2.T, ∃ y ∈ l2.s.nodes,y.id=x.1; rw [r1,r4]; exact hg.nt,by show l2.s.nodes.length≤_; rw [r4]; exact Nat.le_trans hg.nn (by omega), ?_,by show l2.T.length≤_; rw [r1]; exact Nat.le_trans hg.tn (by omega),fun i hi => ?_,by show ∀ k,k < 6→0≤l2.s.V.getD k 0∧l2.s.V.getD k 0 < 1099511627776; rw [r3]; exact hg.vb, ?_⟩
 ·show l2.G.length≤_
  rw [r5,List.length_set]; have:=hg.gn; omega
 ·show ((l2.R.set j (l2.R.getD j []++[e.r])).getD i []).length≤m+1
  rw [kR (by rw [hl2.r6]; exact hj6)]
  split
  ·rw [List.length_append]; show (l2.R.getD j []).length+1≤m+1; omega
  ·rw [r2]; have:=hg.rn i hi; omega
 ·show tj l2.G
  rw [r5]; exact tp hg.gr (hg.gr gx (List.mem_of_getElem? hgx))
set_option maxHeartbeats 2000000 in
theorem Fc {e:EV} {m:Nat} (hl:LM w B p l) (hg:GI l m) (hm:m≤900) (hB:B≤w.heap.size) (ho:1≤e.o∧e.o≤6)
  (bad:∀ w' (v:Int),v≠0→Below B w w'→K (.int .i64 v) w') (good:∀ w' l',LM w' B p l'→GI l' (m+1)→l'.s.V=l.s.V→Below B w w'→K (.int .i64 0) w'):call Tryz.prog 83 #[.pointer (some ⟨p,0,none⟩),.agg (evC e).toArray] K w:=by
 refine aE mY (mX ?_)
 refine bh fun w1 he b1 s1 => ?_
 have he:blk w1 w.heap.size 54 (evC e):=by simpa [Value.cells] using he
 have hl1:=hl.fresh b1
 have B1:Below B w w1:=b1.mono hB
 have s1':B≤w1.heap.size:=Nat.le_trans hB B1.size
 have hrn:=hg.rn
 have htn:=hg.tn
 have hgn:=hg.gn
 refine cC ?_
 refine ld1 (v:=iv e.o) (fun _=>by kernel_rfl) he rfl ?_
 refine fb ?_
 refine ld1 (v:=u6 e.r) (fun _=>by kernel_rfl) he rfl ?_
 refine zr hl1 ho (fun k hk=>Nat.le_trans (hrn k hk) (by omega)) fun b => ?_
 cases b with
 | true=>exact aR (bad w1 14 (by decide) B1)
 | false =>
  refine cW ?_
  refine cC ?_
  refine ld1 (v:=iv e.o) (fun _=>by kernel_rfl) he rfl ?_
  refine lq ?_
  refine ld1 (v:=u6 e.f) (fun _=>by kernel_rfl) he rfl ?_
  refine Fg hl1 (by omega) fun v hv => ?_
  refine aD ?_
  by_cases hv0:v < 0
  ·refine de hv0 ?_
   refine bp hv0 ?_
   refine aR ?_
   exact bad w1 12 (by decide) B1
  refine cE hv0 ?_
  obtain ⟨k5,rfl,hk5⟩:∃ k:Nat,v=k∧k < l.G.length:=hv.resolve_left hv0
  have hgx:l.G[k5]? = some l.G[k5]:=List.getElem?_eq_getElem hk5
  generalize l.G[k5]=gx at hgx
  refine ak ?_
  refine aA ?_
  refine dA ?_
  refine ld1 (v:=.slice l.ga l.G.length l.gc) (fun _=>by kernel_rfl) hl1.cl hl1.cG ?_
  refine rd3 (enc:=grC) (s:=5) (f':=4) (v:=u6 gx.b) Tryz.underlying28 (fun _=>by kernel_rfl) fO (fun _=>by kernel_rfl) (by kernel_rfl) (by omega) hl1.gr rfl hgx rfl fun _ _ => ?_
  refine dn ?_
  refine bt hv0 ?_
  by_cases hby:gx.b≠0
  ·exact ai hby (bad w1 12 (by decide) B1)
  refine ag hby ?_
  obtain ⟨rk,htk⟩:=hg.tk
  obtain ⟨gg,cg,hag,opg⟩:=aZ hl1.drew.gr (by omega)
  have hcg:cg[k5 * 5+2]? = some (u6 gx.n):=opg.cell fO rfl hgx (show 2 < 5 by omega)
  refine aC (fun y=>blk y p 79 (lgC l)∧blk y gg 100 cg) ⟨hl1.cl.drew,opg.blk⟩ ?_
  refine ab (fun y hy _=>ak) ?_
  refine ab (fun y hy _=>kT) ?_
  refine ab (v:=.pointer (some ⟨l.t,0,none⟩)) (fun y hy _=>ld1 (fun _=>by kernel_rfl) hy.1 hl1.cT) ?_
  refine ab (fun y hy _=>ak) ?_
  refine ab (fun y hy _=>aA) ?_
  refine ab (fun y hy _=>dA) ?_
  refine ab (v:=.slice l.ga l.G.length l.gc) (fun y hy _=>ld1 (fun _=>by kernel_rfl) hy.1 hl1.cG) ?_
  refine ab (v:=.pointer (some ⟨gg,k5 * 5,none⟩)) (fun z hz _=>gQ hag Tryz.underlying28 (fun _=>by kernel_rfl) hk5) ?_
  refine ab (fun z hz _=>Fd) ?_
  refine ab (v:=u6 gx.n) (fun z hz _=>ld1 (fun _=>by kernel_rfl) hz.2 hcg) ?_
  refine tA htk hl1.drew.tm (by omega) fun w2 a c hP b2 => ?_
  have hl2:=hl1.drew.fresh b2
  have he2:=ae b2 he.drew he.drew.lt
  have B2:Below B w w2:=B1.drew.trans (b2.mono s1')
  refine aC (fun _=>True) trivial ?_
  refine m0 ?_
  have hpl:(fq l.T gx.n).length≤100000:=by
   have:=oI (T:=l.T) (l.T.length+1) gx.n
   unfold fq; omega
  refine Fa (P:=fq l.T gx.n) hl2 hg hm (Nat.le_trans hB B2.size) hgx (hg.gr gx (List.mem_of_getElem? hgx)) he2 hP hpl (fun y hy=>Bi hg hy) rfl rfl rfl rfl rfl (fun w' v hv b=>bad w' v hv (B2.trans b)) ?_
  intro l0 e1 l2 e3 t4 k_5 p6 i7 n8 r9 f10 t11 t12 t13 t14 t15 t16 t17 t18 t19 t20 t21 t22 t23 t24 t25 t26 t27 t28 t29 t30 t31 t32 t33 t34 t35 t36 t37 t38 t39 t40 t41 t42 t43 t44 t45 t46 t47 t48 t49 t50 t51 t52 t53 t54 t55 t56 t57 t58 t59 t60 t61 t62 t63 t64 t65 t66 t67 t68 t69 t70 t71 t72 t73 t74 t75 t76 t77 t78 t79 t80 t81 t82 t83 t84 t85 t86 t87 t88 t89 t90 t91 t92 t93 t94 t95 t96 t97 t98 t99 t100 t101 t102 t103 t104 t105 t106 t107 t108 t109 t110 t111 t112 t113 t114 t115 t116 t117 t118 t119 t120 t121 t122 t123 t124 t125 t126 t127 w3 l3 q0 q3 qk hl3 hs3 he3 B3
  have B3':=B2.trans B3
  exact Fb hl3 (hs3.gi hg) hm (Nat.le_trans hB B3'.size) ho (by rw [hs3.G]; exact hgx) he3 q0 q3 qk fun w' l' h1 h2 h3 h4=>good w' l' h1 h2 (h3.trans hs3.V) (B3'.trans h4)
end
end Go.Proofs.YtgpfkmdknlcemaaGreatDoor
