import Derived.Test.YtkbhfjljieopoaaGreatDoorQ12
import Derived.Test.YtkbhfjljieopoaaGreatDoorQ7
namespace Go.Proofs.YtkbhfjljieopoaaGreatDoor
set_option maxRecDepth 100000
set_option maxHeartbeats 4000000
open Go.Proofs.Tryz
variable {w w' w0:World}{K:KV}{zf dd:Nat→Value}{b c n k o B i g p m s j z d eb Bw f cp hi:Nat}{x r v:Int}{A xs:List Int}{B1:KE}{a av:Option Addr}{E t e:TypeId}{cs:List Value}{P:Program}{T L:List (Int×Int)}{C:Nat→Int}{Y1 Z1 U2 V2 W2 X2 Y2 Z2 U3 V3 W3 X3 Y3 Z3 j4 U4 V4 W4 X4 Y4 Z4 U5 V5 W5 X5 Y5 Z5 K6 T6 U6 V6 W6 X6 Y6 Z6 u7 B7 K7 T7 U7 V7 W7 X7 Y7 Z7 y8 B8 K8 T8 U8 V8 W8 X8 Y8:Value}
section
attribute [local irreducible] bin un conv call bY blt slc af fld aV idx lkp dO gY eSt rng nxt ent ext alc box bld bT ld sto aU dE mkS ifc pick rdy wts aI sti cond bp Gives ae fh fT cOp
open Go.RowKit
section
variable {w:World}{K:KV}{B p:Nat}{l:LG}
theorem QB {e:EV}{id:Int}(hl:LM w B p l)(hs:l.s.nodes.Pairwise (·.id < ·.id))(hN:l.s.nodes.length≤1000)(hB:B≤w.heap.size)(ho:1≤e.o∧e.o≤6)(he:blk w eb 54 (evC e))(hn:blk w b 52 (ndE ⟨id,e.n,z54⟩))(ca:B≤b)(bk:∀k,(Value.slice l.s.na l.s.nodes.length l.s.nc).ownBlock=some k→k<b)(q0:Y1=.pointer (some ⟨p,0,none⟩))(q3:V2=.pointer (some ⟨eb,0,none⟩))(q7:Y2=.int .u64 id)(q9:U3=.pointer (some ⟨b,0,none⟩))(am:∀w' l',LM w' B p l'→l'.T=l.T→toP l'={toP l with N:=dN ⟨id,e.n,z54.set (e.o-1).toNat e.a⟩ l.s.nodes}→Keep yd B w w'→K (.int .i64 0) w'):iJ K ((bl Y1 Z1 U2 V2 W2 X2 Y2 Z2 U3 V3 W3 X3 Y3 Z3 j4 U4 V4 W4 X4 Y4 Z4 U5 V5 W5 X5 zf)) w:=by
 subst q0 q3 q7 q9;refine xI <|bD <|lK (v:=iv e.o) he rfl <|bh (by omega) (by omega) <|dT <|lK (v:=iv e.a) he rfl ?_;obtain⟨q,hq⟩:∃q:Nat,q=(e.o-1).toNat:=⟨_,rfl⟩
 have ce:q<6:=by omega
 refine qb <|sx <|ixR (k:=q) (by omega) ce ?_;refine eB (fun _=>by kernel_rfl) hn (by rw[fC];omega) rfl fun w1 an o1=>?_;rw[show 0+2+0+q=2+q by omega,NQ (by rfl) (by omega)]at an;rw[←hq]at am;generalize hx:(⟨id,e.n,z54.set q e.a⟩:ND)=x at an am;have b5:x.A.length=54:=by rw[←hx];show (z54.set q e.a).length=54;rw[List.length_set];rfl
 have bb:x.id=id:=by rw[←hx]
 have k1:Keep yd B w w1:=o1.keep hn (by simp) ca;have X:blk w1 p 123 (lgC l):=o1.blk hl.cl (fun hh=>hl.cl.ne hn (by decide) hh);have a6:w1.ownsRow B 52 56 (.slice l.s.na l.s.nodes.length l.s.nc) l.s.nodes.length (l.s.nodes.flatMap ndE):=cJ hl.nd fun k hk=>o1.other k (by have:=bk k hk;omega)
 refine ai <|bq <|eA <|lK (v:=.slice l.s.na l.s.nodes.length l.s.nc) X hl.cN <|bj underlying42 <|aw (fun y=>blk y p 123 (lgC l)∧blk y b 52 (ndE x)) ⟨X.drew,an.drew⟩ <|ab (fun y u _=>ai) <|ab (fun y u _=>bq) <|ab (fun y u _=>eA) <|ab (v:=.slice l.s.na l.s.nodes.length l.s.nc) (fun y u _=>lK u.1 hl.cN) <|ab (v:=.agg (ndE x).toArray) (fun y u _=>ldA (n:=56) (vs:=ndE x) underlying52 rfl (by kernel_rfl) u.2 (by rw[List.drop_zero,List.take_of_length_le (by rw[fC];omega)]) (fC x)) ?_
 refine mY (vs:=[.agg (ndE x).toArray]) underlying42 (s:=56) (by kernel_rfl) (by kernel_rfl) (by omega) rfl (by simp) (by simp) (by simp) (by simp[Value.cells,fC]) fun w2 h2 b2 s2=>?_;have h2:blk w2 w1.drew.heap.size 52 (ndE x):=by simpa[Value.cells]using h2
 have a0:blk w2 p 123 (lgC l):=ac b2 X.drew X.drew.lt;have ag:blk w2 b 52 (ndE x):=ac b2 an.drew an.drew.lt;have ar:=cJ a6 fun q hq=>b2.block q (World.ownsRow.lt a6 q hq).2;have k2:Keep yd B w w2:=k1.drew.trans (Keep.of b2);refine aE ⟨a0,ag⟩ ?_;obtain⟨ii,b7,hz,cj,b6⟩:=info_parts NG;have cg:B≤w2.heap.size:=Nat.le_trans hB k2.size
 refine tf (base:=B) (x:=x) underlying42 b7 hz cj b6 rfl (by omega) fC ar h2 (zD _) (by omega) (by omega) cg fun a3 M w3 b4 be b3 cc=>?_;have k3:Keep yd B w w3:=k2.trans (Keep.grown be ar (by simp) (Nat.le_refl _));have Z:blk w3 p 123 (lgC l):=fL a0 ar (by decide) be;have a4:blk w3 b 52 (ndE x):=by
  unfold Go.Proofs.YtkbhfjljieopoaaGreatDoor.blk;rw[be.block b ag.lt (fun hh=>by have:=bk b hh.symm;omega)];exact ag
 have bi:∀k,(Value.slice a3 (l.s.nodes.length+1) M).ownBlock=some k→k≠b:=by
  intro k hk;rcases cc with hh|hh
  ·rw[hh]at hk;have:=bk k hk;omega
  ·rw[hh]at hk;cases hk;have:=ag.lt;omega
 refine aw (fun _=>True) trivial <|ab (fun y u _=>ai) <|ab (fun y u _=>bq) <|ab (fun y u _=>eA) ?_;refine eB (fun _=>by kernel_rfl) Z (by rw[hl.ll];omega) rfl fun w4 ad o4=>?_;have a7:=eZ b4 Z (by decide) o4;rw[←insA_end]at a7;have b0:blk w4 b 52 (ndE x):=o4.blk a4 (fun hh=>a4.ne Z (by decide) hh);have k4:Keep yd B w w4:=k3.trans (o4.keep Z (by simp) hl.lo)
 have ad:blk w4 p 123 ((lgC l).set 18 (.slice a3 (l.s.nodes.length+1) M)):=ad;generalize U:(lgC l).set 18 (.slice a3 (l.s.nodes.length+1) M)=cells at ad;have O:cells[0+0+18]? = some (.slice a3 (l.s.nodes.length+1) M):=by rw[←U,List.getElem?_set_self (by rw[hl.ll];omega)]
 refine xJ ?_;refine xL (Inv:=fun bd _ _ _ _ _ _ _ _ _ _ _ _ wr=>∃(k:Nat) (z:ND),bd=.int .i64 (k:Nat)∧k≤l.s.nodes.length∧(∀y,l.s.nodes[k]? = some y→id<y.id)∧z.A.length=54∧blk wr p 123 cells∧blk wr b 52 (ndE x) ∧
   wr.ownsRow B 52 56 (.slice a3 (l.s.nodes.length+1) M) (l.s.nodes.length+1) ((fl l.s.nodes k z).flatMap ndE)∧Keep yd B w wr)
  (μ:=fun bd _ _ _ _ _ _ _ _ _ _ _ _ _=>(intOf bd).toNat) ⟨l.s.nodes.length,x,rfl,Nat.le_refl _,(fun y u=>by rw[List.getElem?_eq_none (Nat.le_refl _)]at u;cases u),b5,ad,b0,a7,k4⟩ ?_
 rintro _ _ _ _ _ _ _ _ _ _ _ _ _ dd w5 mm ⟨k,z,rfl,hk,ck,cp,h,J,av,k5⟩ hm;have bt:∀{Y1 Z1 U2 V2 W2 X2 Y2 Z2 U3 V3 W3 X3 Y3 Z3 j4 U4 V4 W4 X4 Y4 Z4 U5 V5 W5 X5:Value} {zf:Nat→Value} {w5:World},(∀y,0<k→l.s.nodes[k-1]? = some y→¬id<y.id)→Y1=.pointer (some ⟨p,0,none⟩)→U3=.pointer (some ⟨b,0,none⟩)→V3=.int .i64 (k:Nat)→blk w5 p 123 cells→blk w5 b 52 (ndE x) →
   w5.ownsRow B 52 56 (.slice a3 (l.s.nodes.length+1) M) (l.s.nodes.length+1) ((fl l.s.nodes k z).flatMap ndE)→Keep yd B w w5→eJ K ((bl Y1 Z1 U2 V2 W2 X2 Y2 Z2 U3 V3 W3 X3 Y3 Z3 j4 U4 V4 W4 X4 Y4 Z4 U5 V5 W5 X5 zf)) w5:=by
  intro Y1 Z1 U2 V2 W2 X2 Y2 Z2 U3 V3 W3 X3 Y3 Z3 j4 U4 V4 W4 X4 Y4 Z4 U5 V5 W5 X5 zf w5 b9 q1 q2 q3 I ap j k6;subst q1 q2 q3;refine xN ?_;have I:=I.drew;have ap:=ap.drew;have j:w5.drew.ownsRow B 52 56 (.slice a3 (l.s.nodes.length+1) M) (l.s.nodes.length+1) ((fl l.s.nodes k z).flatMap ndE):=j
  refine aa (fun _=>ai) <|aa (fun _=>bq) <|aa (fun _=>eA) <|aa (v:=.slice a3 (l.s.nodes.length+1) M) (fun _=>lK I O) <|aa (v:=.agg (ndE x).toArray) (fun _=>ldA (n:=56) (vs:=ndE x) underlying52 rfl (by kernel_rfl) ap (by rw[List.drop_zero,List.take_of_length_le (by rw[fC];omega)]) (fC x)) ?_;obtain⟨g,bs,rfl,op⟩:=cq j (by omega)
  refine aa (v:=.pointer (some ⟨g,0+((k:Nat):Int).toNat*56,none⟩)) (fun _=>dJ underlying42 (s:=56) (fun _=>by kernel_rfl) (by omega) (by omega)) ?_;refine op.sto fC ou (by omega) (by kernel_rfl) (zD _) fun w7 o7 a8=>?_;rw[wJ hk]at a8;have k7:Keep yd B w w7:=k6.drew.trans (o7.keep op.blk (by simp) op.lo);have bW:blk w7 p 123 cells:=o7.blk I (fun hh=>I.ne op.blk (by decide) hh)
  have a2:(fl l.s.nodes k x).length=l.s.nodes.length+1:=ou;refine am w7 {l with s:={l.s with nodes:=fl l.s.nodes k x,na:=some ⟨g,0,none⟩,nc:=M} } (hl.nodes' k7 (by decide) (by decide) (by decide) (by decide) ?_ ?_ ?_) rfl ?_ k7
  ·rw[←Dy hl.i6 hl.l6 hl.v6,a2,U];exact bW
  ·rw[a2];exact a8
  ·intro y u;rcases sH.1 u with e|e
   ·rw[e];exact b5
   ·exact hl.A54 y e
  ·rw[LP (x:=x) hs hk (by rw[bb];exact b9) (by rw[bb];exact ck)];rfl
 refine de ?_;by_cases aS:(0:Int)<(k:Nat)
 ·refine dD aS ?_;obtain⟨k,rfl⟩:=Nat.exists_eq_succ_of_ne_zero (show k≠0 by omega);have ek:((k.succ:Nat):Int)-1=(k:Nat):=by omega
  have b8:k<l.s.nodes.length:=by omega
  have u:l.s.nodes[k]? = some l.s.nodes[k]:=List.getElem?_eq_getElem b8;generalize l.s.nodes[k]=y at u;have a9:(fl l.s.nodes k.succ z)[k]? = some y:=by have:=Hi (L:=l.s.nodes) (z:=z) (show 0<k.succ by omega) hk;rw[Nat.succ_sub_one]at this;rw[this];exact u
  obtain⟨g,bs,rfl,op⟩:=cq av (by omega);refine ai <|bq <|eA <|lK (v:=.slice (some ⟨g,0,none⟩) (l.s.nodes.length+1) M) h O <|bh (by omega) (by omega) ?_;rw[ek];refine dJ underlying42 (s:=56) (fun _=>by kernel_rfl) (by omega) (by omega) <|GZ <|lK (v:=u6 y.id) op.blk (by rw[Int.toNat_natCast,Nat.zero_add];exact op.cell fC ou a9 (show 0<56 by omega)) <|de <|bO aS ?_;by_cases az:id<y.id
  ·refine ax az ?_;have h:=h.drew;have J:=J.drew;have al:Opn w5.drew B 52 56 (l.s.nodes.length+1) M g bs ((fl l.s.nodes k.succ z).flatMap ndE):=⟨op.blk,op.lo,op.nc,op.cm,op.len,op.take,op.xl⟩
   refine aa (fun _=>ai) <|aa (fun _=>bq) <|aa (fun _=>eA) <|aa (v:=.slice (some ⟨g,0,none⟩) (l.s.nodes.length+1) M) (fun _=>lK h O) <|aa (fun _=>ai) <|aa (fun _=>bq) <|aa (fun _=>eA) <|aa (v:=.slice (some ⟨g,0,none⟩) (l.s.nodes.length+1) M) (fun _=>lK h O) <|aa (v:=.int .i64 (k:Nat)) (fun K d=>bh (by omega) (by omega) (by rw[ek];exact d)) <|aa (v:=.pointer (some ⟨g,0+((k:Nat):Int).toNat*56,none⟩)) (fun _=>dJ underlying42 (s:=56) (fun _=>by kernel_rfl) (by omega) (by omega)) <|aa (v:=.agg (ndE y).toArray) (fun _=>ldA (n:=56) (vs:=ndE y) underlying52 rfl (by kernel_rfl) al.blk (by rw[Int.toNat_natCast,Nat.zero_add];exact al.elem fC ou a9) (fC y)) <|aa (v:=.pointer (some ⟨g,0+((k.succ:Nat):Int).toNat*56,none⟩)) (fun _=>dJ underlying42 (s:=56) (fun _=>by kernel_rfl) (by omega) (by omega)) ?_
   refine al.sto fC ou (by omega) (by kernel_rfl) (zD _) fun w6 o6 j=>?_;rw[wJ hk]at j;have ch:fl l.s.nodes k.succ y=fl l.s.nodes k y:=by have:=Dk (L:=l.s.nodes) (x:=y) (show 0<k.succ by omega) (by rw[Nat.succ_sub_one];exact u);rwa[Nat.succ_sub_one]at this
   rw[ch]at j;refine bh (by omega) (by omega) ?_;have cn:g≠b:=by
    have:(Value.slice (some ⟨g,0,none⟩) (l.s.nodes.length+1) M).ownBlock=some g:=rfl
    exact bi g this
   refine⟨⟨k,y,congrArg (Value.int .i64) ek,by omega,(fun z hz=>by rw[u]at hz;cases hz;exact az),hl.A54 y (List.mem_of_getElem? u),o6.blk h (fun hh=>h.ne al.blk (by decide) hh),o6.blk J (by omega),j,k5.drew.trans (o6.keep al.blk (by simp) al.lo)⟩,by rw[hm];show (((k.succ:Nat):Int)-1).toNat<((k.succ:Nat):Int).toNat;omega⟩
  ·refine aq az ?_;exact bt (fun z _ hz=>by rw[Nat.succ_sub_one,u]at hz;cases hz;exact az) rfl rfl rfl h J av k5
 ·have:k=0:=by omega
  subst this;refine dY aS <|bw aS <|aO ?_;exact bt (fun z h0=>absurd h0 (by omega)) rfl rfl rfl h J av k5
theorem QC {e:EV}(hl:LM w B p l)(M:XI l m)(ad:e.k=1)(aS:dK e=true)(a3:ey l.s.V e=true)(hB:B≤w.heap.size)(ho:1≤e.o∧e.o≤6)(hs:1≤e.s∧e.s<1099511627776)(X:blk w eb 54 (evC e))(q0:Y1=.pointer (some ⟨p,0,none⟩))(q3:V2=.pointer (some ⟨eb,0,none⟩))(q5:W2=.int .i64 (gP l.s.nodes e.o:Nat))(d:∀w',eU e (toP l)≠0→Below B w w'→K (.int .i64 (eU e (toP l))) w')(U:∀w' l',eU e (toP l)=0→LM w' B p l'→toP l'=su e (toP l)→l'.T=tr l'.s.nodes→Below B w w'→K (.int .i64 0) w'):cA K ((bl Y1 Z1 U2 V2 W2 X2 Y2 Z2 U3 V3 W3 X3 Y3 Z3 j4 U4 V4 W4 X4 Y4 Z4 U5 V5 W5 X5 zf)) w:=by
 subst q0 q3 q5;obtain⟨rk,az⟩:=M.tk;have a2:=M.n30;have a4:=M.tl;have j:eU e (toP l)=if 5≤gP l.s.nodes e.o∨M47<e.a then 6 else (iX l.T (idE e) e.n).2:=by rw[M.t];unfold eU;rw[if_pos ad];rfl
 refine xM <|bM ?_;generalize a0:gP l.s.nodes e.o=c at *;by_cases hc:(c:Int)≥5
 ·refine jy hc <|bO hc <|bu ?_;rw[if_pos (.inl (by omega))]at j;rw[j]at d;exact d w (by decide) (Below.refl _ _)
 refine dX hc <|dT <|lK (v:=iv e.a) X rfl <|de <|bw hc ?_;by_cases ha:140737488355328<e.a
 ·refine ax ha ?_;rw[if_pos (.inr ha)]at j;rw[j]at d;exact d w (by decide) (Below.refl _ _)
 refine aq ha <|bD <|lK (v:=iv e.o) X rfl <|iZ <|lK (v:=u6 e.s) X rfl <|Wi (by omega) (by omega) ?_;rw[if_neg (by omega)];rw[if_neg (fun hh=>hh.elim (fun h=>by omega) ha)]at j;have an:e.o*1099511627776+e.s=idE e:=rfl;rw[an];have Z:su e (toP l)={toP l with N:=dN ⟨idE e,e.n,z54.set (e.o-1).toNat e.a⟩ l.s.nodes}:=by
  unfold su nop gop nO nP kZ;rw[if_pos ad,if_neg (by omega),if_neg (by omega),if_neg (by omega),if_neg (by omega),if_neg (by omega)];rfl
 generalize idE e=id at *;refine aw (fun y=>blk y p 123 (lgC l)∧blk y eb 54 (evC e)) ⟨hl.cl.drew,X.drew⟩ <|ab (fun y O _=>ai) <|ab (fun y O _=>wC) <|ab (v:=.pointer (some ⟨l.t,0,none⟩)) (fun y O _=>lK O.1 hl.cT) <|ab (fun y O _=>eW) <|ab (v:=u6 e.n) (fun y O _=>lK O.2 rfl) ?_;refine Vx az hl.drew.tm (by omega) hB fun w2 av k2=>?_
 have ag:LM w2 B p {l with T:=(iX l.T id e.n).1}:=hl.drew.tree' k2 av;have I:blk w2 eb 54 (evC e):=k2.blk X.drew (.inr (by decide));have B2:Below B w w2:=(k2.undrew).below hB;have s2:B≤w2.heap.size:=Nat.le_trans hB k2.size;refine aw (fun _=>True) trivial <|bN ?_;by_cases J:(iX l.T id e.n).2≠0
 ·refine ax J ?_;rw[j]at d;exact d w2 J B2
 refine aq J ?_;have J:(iX l.T id e.n).2=0:=by simpa using J
 have j:=j.trans J;obtain⟨f0,f1,f2,f3,f4⟩:=SQ J;refine eW <|lK (v:=u6 e.n) I rfl <|eT (vs:=ndE ⟨id,e.n,z54⟩) (by kernel_rfl) ?_;refine dZ (z:=.agg (ndE ⟨0,0,z54⟩).toArray) (by kernel_rfl) fun w3 h3 b3 s3=>?_;have h3:blk w3 w2.heap.size 52 (ndE ⟨0,0,z54⟩):=by simpa[Value.cells]using h3
 refine jP (n:=56) (vs:=ndE ⟨id,e.n,z54⟩) (by kernel_rfl) (fC _) h3 (by rw[fC];omega) (zD _) fun w4 h4 o4=>?_;have h4:blk w4 w2.heap.size 52 (ndE ⟨id,e.n,z54⟩):=by
  rw[List.take_zero,List.nil_append,List.drop_of_length_le (by rw[fC];omega),List.append_nil]at h4;exact h4
 have B4:Below w2.heap.size w2 w4:=bG b3 o4 (Nat.le_refl _);have ap:=ag.fresh B4;have am:=ac B4 I I.lt;have al:Below B w w4:=B2.trans (B4.mono s2);refine QB ap M.pi.srt (by show l.s.nodes.length≤1000;omega) (Nat.le_trans s2 B4.size) ho am h4 s2 (fun k hk=>ag.nn k hk) rfl rfl rfl rfl fun w5 l5 ar Z1 e2 k5=>?_
 refine U w5 l5 j ar (by rw[Z];exact e2) ?_ (al.trans (k5.below (Nat.le_trans s2 B4.size)));have Z1:l5.T=fl l.T (oG (gtI id) l.T l.T.length) (id,e.n):=Z1.trans f4;have V2:l5.s.nodes=dN ⟨id,e.n,z54.set (e.o-1).toNat e.a⟩ l.s.nodes:=congrArg PL.N e2;rw[Z1,V2,M.t];exact Uk (x:=⟨id,e.n,z54.set (e.o-1).toNat e.a⟩) M.pi.srt
theorem Ss {e:EV}(hl:LM w B p l)(hg:XI l m)(ag:e.k=1)(U:dK e=true)(an:ey l.s.V e=true)(hB:B≤w.heap.size)(ho:1≤e.o∧e.o≤6)(hs:1≤e.s∧e.s<1099511627776)(ad:∀w',eU e (toP l)≠0→Below B w w'→K (.int .i64 (eU e (toP l))) w')(J:∀w' l',eU e (toP l)=0→LM w' B p l'→toP l'=su e (toP l)→l'.T=tr l'.s.nodes→Below B w w'→K (.int .i64 0) w'):call Tryz.prog 118 #[.pointer (some ⟨p,0,none⟩),.agg (evC e).toArray] K w:=by
 refine aj (goK func118) (yR ?_);refine cv fun w1 he b1 s1=>?_;have he:blk w1 w.heap.size 54 (evC e):=by simpa[Value.cells]using he
 have am:=hl.fresh b1;have av:=hg.n30;have B1:Below B w w1:=b1.mono hB;refine xK (Inv:=fun ap i wr=>∃(k:Nat) (c:Nat),i=.int .i64 (k:Nat)∧k≤l.s.nodes.length∧ap=.int .i64 (c:Nat)∧c=gP (l.s.nodes.take k) e.o∧c≤k∧LM wr B p l∧blk wr w.heap.size 54 (evC e)∧Below B w wr) (μ:=fun _ i _=>l.s.nodes.length-(intOf i).toNat) ⟨0,0,rfl,by omega,rfl,rfl,by omega,am,he,B1⟩ ?_
 rintro _ _ dd w2 mm ⟨k,c,rfl,hk,rfl,c0,ck,j,M,B2⟩ X;refine ai <|bq <|eA <|lK (v:=.slice l.s.na l.s.nodes.length l.s.nc) j.cl j.cN <|bj underlying42 <|aM ?_;by_cases O:k<l.s.nodes.length
 ·refine ax (by omega) <|xH ?_;have h:=j.drew;have I:=M.drew;have B3:=B2.drew;have Z:l.s.nodes[k]? = some l.s.nodes[k]:=List.getElem?_eq_getElem O;generalize l.s.nodes[k]=x at Z;obtain⟨g,ar,ha,op⟩:=cq h.nd (by omega)
  refine aa (fun _=>ai) <|aa (fun _=>bq) <|aa (fun _=>eA) <|aa (v:=.slice l.s.na l.s.nodes.length l.s.nc) (fun _=>lK h.cl h.cN) <|aa (v:=.pointer (some ⟨g,k*56,none⟩)) (fun _=>pj ha underlying42 (fun _=>by kernel_rfl) O) <|aa (fun _=>GZ) <|aa (v:=u6 x.id) (fun _=>lK op.blk (op.cell fC rfl Z (show 0<56 by omega))) <|aa (fun _=>Np (by omega)) <|aa (fun _=>bD) <|aa (v:=iv e.o) (fun _=>lK I rfl) <|aa (fun _=>dS underlying3 underlying31) <|aa (fun _=>bg) ?_
  have u:x.id.fdiv (2 ^ min (Int.toNat 40) IntKind.u64.bits)=IntKind.u64.wrap e.o↔x.id / M40=e.o:=by
   rw[gF,show e.o%18446744073709551616=e.o by omega,show (2:Int) ^ min (Int.toNat 40) IntKind.u64.bits=M40 from by decide,Int.fdiv_eq_ediv_of_nonneg _ (by decide)]
  refine vl (fun hd=>?_) (fun hd=>?_)
  ·refine aW (by omega) (by omega) <|qQ <|aW (by omega) (by omega) ?_;exact⟨⟨k+1,c+1,ivS,by omega,ivS,by rw[Ml Z, ←c0,if_pos (u.1 (of_decide_eq_true hd))],by omega,h,I,B3⟩,by rw[X];show l.s.nodes.length-((k:Int)+1).toNat<l.s.nodes.length-(k:Int).toNat;omega⟩
  ·refine qQ <|aW (by omega) (by omega) ?_;exact⟨⟨k+1,c,ivS,by omega,rfl,by rw[Ml Z, ←c0,if_neg (fun hh=>of_decide_eq_false hd (u.2 hh)),Nat.add_zero],by omega,h,I,B3⟩,by rw[X];show l.s.nodes.length-((k:Int)+1).toNat<l.s.nodes.length-(k:Int).toNat;omega⟩
 ·refine aq (by omega) ?_;have al:k=l.s.nodes.length:=by omega
  rw[al,List.take_length]at c0;exact QC j hg ag U an (Nat.le_trans hB B2.size) ho hs M rfl rfl (by rw[c0]) (fun w' hv b=>ad w' hv (B2.trans b)) (fun w' l' h1 h2 h3 h4 b=>J w' l' h1 h2 h3 h4 (B2.trans b))
end
structure BL (l l':LG) (ids:List Int) (c:Nat) (a:Int):Prop where
 T:l'.T=l.T
 P:toP l'={toP l with N:=l.s.nodes.map (dR ids c a)}
section
variable {l l':LG}{ids:List Int}{c:Nat}{a:Int}
theorem BL.refl (l:LG):BL l l [] c a:=⟨rfl,by rw[GL];rfl⟩
theorem BL.N (h:BL l l' ids c a):l'.s.nodes=l.s.nodes.map (dR ids c a):=congrArg PL.N h.P
theorem BL.G (h:BL l l' ids c a):l'.G=l.G:=congrArg PL.G h.P
theorem BL.R (h:BL l l' ids c a):l'.R=l.R:=congrArg PL.R h.P
theorem BL.len (h:BL l l' ids c a):l'.s.nodes.length=l.s.nodes.length:=by rw[h.N,List.length_map]
theorem BL.has (h:BL l l' ids c a){id:Int}:bU l'.s.nodes id=bU l.s.nodes id:=by rw[h.N];exact Hf fun y=>(gV y).1
theorem BL.tr (h:BL l l' ids c a)(d:l.T=tr l.s.nodes):l'.T=Go.Proofs.YtkbhfjljieopoaaGreatDoor.tr l'.s.nodes:=by rw[h.T,d,h.N];exact(FB fun y=>gV y).symm
theorem BL.next {P:List Int}{x:ND}{y:Int}{f:List Int→Int}(h:BL l l' (P.take k) c a)(X:l.s.nodes.Pairwise (·.id < ·.id))(hd:P.Nodup)(u:P[k]? = some y)(Z:l'.s.nodes[i]? = some x)(J:x.id=y):l.s.nodes[i]? = some x∧(∀{A':List Int},A'=x.A.set c (nA x.A c+a)→BL l (BB l' i {x with A:=A'}) (P.take (k+1)) c a)∧lf f l.s.nodes (P.drop k)=if f x.A≠0 then f x.A else lf f l.s.nodes (P.drop (k+1)):=by
 subst J;have U:k<P.length:=(List.getElem?_eq_some_iff.1 u).1;have hn:x.id∉P.take k:=fun hm=>by
  obtain⟨j,I⟩:=List.getElem?_of_mem hm;rw[List.getElem?_take]at I;split at I
  ·rename_i M
   have:=DP hd I u M
   exact this rfl
  ·cases I
 rw[h.N]at Z;obtain⟨O,h2⟩:=Lm X Z hn;refine⟨O,fun {A'} e=>⟨h.T,?_⟩,?_⟩
 ·subst e;rw[List.take_add_one,u,Option.toList_some, ←h2, ←h.N];have d:=h.P;unfold toP at d ⊢;simp only[PL.mk.injEq]at d ⊢;exact⟨d.1,d.2.1,d.2.2.1,rfl,d.2.2.2.2.1,d.2.2.2.2.2⟩
 ·have e0:P.drop k=x.id::P.drop (k+1):=by
   rw[List.drop_eq_getElem_cons U];rw[List.getElem?_eq_getElem U,Option.some.injEq]at u;rw[u]
  rw[e0,lf,te X (List.mem_of_getElem? O)]
end
section
variable {w:World}{K:KV}{B p:Nat}{l:LG}
theorem QD {x:ND}{f:Int}(u:LM w B p l)(hx:l.s.nodes[i]? = some x)(h:xs.length=54)(U:blk w b 50 (xs.map iv))(hj:j≤1000000)(q0:Y1=.pointer (some ⟨p,0,none⟩))(q6:X2=.int .i64 (j:Nat))(q7:Y2=.int .i64 (i:Nat))(q8:Z2=.pointer (some ⟨b,0,none⟩))(q9:U3=.int .i64 f)(J:∀w',f≠0→Below B w w'→K (.int .i64 f) w')(M:∀(e:List Value) (w':World),f=0→gd e 6=.int .i64 ((j+1:Nat):Int)→LM w' B p (BB l i {x with A:=xs})→Keep yd B w w'→B1 e w'):fz K B1 ((aZ Y1 Z1 U2 V2 W2 X2 Y2 Z2 U3 V3 W3 X3 Y3 Z3 j4 U4 V4 W4 X4 Y4 Z4 U5 V5 W5 X5 Y5 Z5 K6 T6 U6 V6 W6 X6 Y6 Z6 u7 B7 K7 T7 U7 V7 W7 X7 Y7 Z7 y8 B8 K8 T8 U8 V8 W8 X8 Y8 zf)) w:=by
 subst q0 q6 q7 q8 q9;refine xO <|bN ?_;by_cases I:f≠0
 ·exact ax I (J w I (Below.refl _ _))
 refine aq I ?_;have u:=u.drew;have U:=U.drew;have hi:i<l.s.nodes.length:=(List.getElem?_eq_some_iff.1 hx).1;obtain⟨g,ad,Z,X⟩:=cq u.nd (by omega)
 refine aa (fun _=>ai) <|aa (fun _=>bq) <|aa (fun _=>eA) <|aa (v:=.slice l.s.na l.s.nodes.length l.s.nc) (fun _=>lK u.cl u.cN) <|aa (v:=.agg (xs.map iv).toArray) (fun _=>ldA (n:=54) (vs:=xs.map iv) underlying50 rfl (by kernel_rfl) U (by rw[List.drop_zero,List.take_of_length_le (by simp[h])]) (by simp[h])) <|aa (v:=.pointer (some ⟨g,i*56,none⟩)) (fun _=>pj Z underlying42 (fun _=>by kernel_rfl) hi) <|aa (fun _=>qb) ?_
 refine Pb u hx h X Z rfl fun w' O o'=>?_;refine xT <|aW (by omega) (by omega) ?_;exact M _ _ (by simpa using I) (ivS) O ((Keep.of (B:=B) (Below.refl _ w).drew).trans (o'.keep X.blk (by simp) X.lo))
theorem QE {e:EV}{P:List Int}(hl:LM w B p l)(hg:XI l m)(hB:B≤w.heap.size)(ha : -9223372036854775808≤e.a∧e.a≤9223372036854775807)(he:blk w eb 54 (evC e))(hP:w.ownsRow d 31 1 (.slice a P.length c) P.length (P.map u6))(b5:P.length≤100000)(a9:∀y∈P,bU l.s.nodes y=true)(a8:P.Nodup)(q0:Y1=.pointer (some ⟨p,0,none⟩))(q3:V2=.pointer (some ⟨eb,0,none⟩))(q5:W2=.slice a P.length c)(q6:X2=.int .i64 0)(ap:∀w',lf (fun A=>(iO A e.o e.a).2) l.s.nodes P≠0→Below B w w'→K (.int .i64 (lf (fun A=>(iO A e.o e.a).2) l.s.nodes P)) w')(a7:∀{Y1 Z1 U2 V2 W2 X2 Y2 Z2 U3 V3 W3 X3 Y3 Z3 j4 U4 V4 W4 X4 Y4 Z4 U5 V5 W5 X5 Y5 Z5 K6 T6 U6 V6 W6 X6 Y6 Z6 u7 B7 K7 T7 U7 V7 W7 X7 Y7 Z7 y8 B8 K8 T8 U8 V8 W8 X8 Y8:Value} {zf:Nat→Value} {w':World} {l':LG},Y1=.pointer (some ⟨p,0,none⟩)→V2=.pointer (some ⟨eb,0,none⟩)→LM w' B p l'→BL l l' P (6+e.q) e.a→lf (fun A=>(iO A e.o e.a).2) l.s.nodes P=0→blk w' eb 54 (evC e)→Below B w w'→bS K ((aZ Y1 Z1 U2 V2 W2 X2 Y2 Z2 U3 V3 W3 X3 Y3 Z3 j4 U4 V4 W4 X4 Y4 Z4 U5 V5 W5 X5 Y5 Z5 K6 T6 U6 V6 W6 X6 Y6 Z6 u7 B7 K7 T7 U7 V7 W7 X7 Y7 Z7 y8 B8 K8 T8 U8 V8 W8 X8 Y8 zf)) w'):kg K ((aZ Y1 Z1 U2 V2 W2 X2 Y2 Z2 U3 V3 W3 X3 Y3 Z3 j4 U4 V4 W4 X4 Y4 Z4 U5 V5 W5 X5 Y5 Z5 K6 T6 U6 V6 W6 X6 Y6 Z6 u7 B7 K7 T7 U7 V7 W7 X7 Y7 Z7 y8 B8 K8 T8 U8 V8 W8 X8 Y8 zf)) w:=by
 subst q0 q3 q5 q6
 refine xQ (Inv:=fun i wr=>∃(k:Nat) (l':LG),i=.int .i64 (k:Nat)∧k≤P.length∧LM wr B p l'∧BL l l' (P.take k) (6+e.q) e.a∧lf (fun A=>(iO A e.o e.a).2) l.s.nodes P=lf (fun A=>(iO A e.o e.a).2) l.s.nodes (P.drop k)∧blk wr eb 54 (evC e)∧wr.ownsRow d 31 1 (.slice a P.length c) P.length (P.map u6)∧Below B w wr) (μ:=fun i _=>P.length-(intOf i).toNat) ⟨0,l,rfl,by omega,hl,BL.refl l,rfl,he,hP,Below.refl _ _⟩ ?_
 rintro _ dd w1 mm ⟨k,l',rfl,hk,Z,U,am,az,ag,B1⟩ bt;refine bj underlying120 <|aM ?_;by_cases bi:k<P.length
 ·refine ax (by omega) ?_;have hy:P[k]? = some P[k]:=List.getElem?_eq_getElem bi;generalize P[k]=y at hy;obtain⟨g,a6,rfl,op⟩:=cq ag (by omega);refine dJ underlying120 (s:=1) (fun _=>by kernel_rfl) (by omega) (by omega) ?_;refine lK (v:=u6 y) op.blk (by
   have h0:(P.map u6)=P.flatMap uC:=(Gi P).symm;have b0:Opn w1 d 31 1 P.length c g a6 (P.flatMap uC):=h0 ▸ op
   have:=b0.cell (enc:=uC) (s:=1) (j:=0) (fun _=>rfl) rfl hy (by omega)
   rw[Int.toNat_natCast,Nat.zero_add];exact this) ?_
  have b6:=hg.n30;refine FX Z (by rw[U.len];omega) ?_;obtain⟨x,hx,an,a3⟩:=Gc (N:=l'.s.nodes) (id:=y) (by rw[U.has];exact a9 y (List.mem_of_getElem? hy));have bd:fdN l'.s.nodes y=(posN l'.s.nodes y:Nat):=by unfold fdN;rw[if_pos an]
  rw[bd];generalize posN l'.s.nodes y=i at hx an;obtain⟨b7,a2,J⟩:=U.next hg.pi.srt a8 hy hx a3 (f:=fun A=>(iO A e.o e.a).2)
  have J:=am.trans J;have M:=Z.drew;have O:=az.drew;have X:x.A.length=54:=Z.A54 x (List.mem_of_getElem? hx);obtain⟨gn,cn,bb,ad⟩:=cq M.nd (by omega);have av:(cn.drop (i*56+2)).take 54=x.A.map iv:=by
   have:=ad.elem fC rfl hx
   rw[show i*56+2=i*56+2 from rfl, ←List.drop_drop];have h3:((cn.drop (i*56)).take 56).drop 2=((cn.drop (i*56)).drop 2).take 54:=by rw[List.drop_take]
   rw[←h3,this];unfold ndE;rw[Cy X];rfl
  refine aw (fun z=>blk z p 123 (lgC l')∧blk z gn 52 cn∧blk z eb 54 (evC e)) ⟨M.cl,ad.blk,O⟩ <|ab (fun z u _=>ai) <|ab (fun z u _=>bq) <|ab (fun z u _=>eA) <|ab (v:=.slice l'.s.na l'.s.nodes.length l'.s.nc) (fun z u _=>lK u.1 M.cN) <|ab (v:=.pointer (some ⟨gn,i*56,none⟩)) (fun z u _=>pj bb underlying42 (fun _=>by kernel_rfl) an) <|ab (fun z u _=>qb) <|ab (v:=.agg (x.A.map iv).toArray) (fun z u _=>ldA (n:=54) (vs:=x.A.map iv) underlying50 rfl (by kernel_rfl) u.2.1 av (by simp[X])) <|ab (fun z u _=>bD) <|ab (v:=iv e.o) (fun z u _=>lK u.2.2 rfl) <|ab (fun z u _=>dT) <|ab (v:=iv e.a) (fun z u _=>lK u.2.2 rfl) ?_
  have s1:B≤w1.drew.heap.size:=Nat.le_trans hB B1.size;have al:((iO x.A e.o e.a).1).length=54:=Qu X;have be:=MN (A:=x.A) (o:=e.o) (a:=e.a);have ar:w1.drew.ownsRow d 31 1 (.slice (some ⟨g,0,none⟩) P.length c) P.length (P.map u6):=cJ ag fun _ _=>rfl
  have a4:∀{Y1 Z1 U2 V2 W2 X2 Y2 Z2 U3 V3 W3 X3 Y3 Z3 j4 U4 V4 W4 X4 Y4 Z4 U5 V5 W5 X5 Y5 Z5 K6 T6 U6 V6 W6 X6 Y6 Z6 u7 B7 K7 T7 U7 V7 W7 X7 Y7 Z7 y8 B8 K8 T8 U8 V8 W8 X8 Y8:Value} {zf:Nat→Value} {w3:World} {rb:Nat},Y1=.pointer (some ⟨p,0,none⟩)→X2=.int .i64 (k:Nat)→Y2=.int .i64 (i:Nat)→Z2=.pointer (some ⟨rb,0,none⟩)→U3=.int .i64 (iO x.A e.o e.a).2→blk w3 rb 50 ((iO x.A e.o e.a).1.map iv)→Below w1.drew.heap.size w1.drew w3 →
    fz K (fun e2 w2=>(∃(k:Nat) (l':LG),gd e2 6=.int .i64 (k:Nat)∧k≤P.length∧LM w2 B p l'∧BL l l' (P.take k) (6+e.q) e.a∧lf (fun A=>(iO A e.o e.a).2) l.s.nodes P=lf (fun A=>(iO A e.o e.a).2) l.s.nodes (P.drop k)∧blk w2 eb 54 (evC e)∧w2.ownsRow d 31 1 (.slice (some ⟨g,0,none⟩) P.length c) P.length (P.map u6)∧Below B w w2)∧P.length-(intOf (gd e2 6)).toNat<mm) ((aZ Y1 Z1 U2 V2 W2 X2 Y2 Z2 U3 V3 W3 X3 Y3 Z3 j4 U4 V4 W4 X4 Y4 Z4 U5 V5 W5 X5 Y5 Z5 K6 T6 U6 V6 W6 X6 Y6 Z6 u7 B7 K7 T7 U7 V7 W7 X7 Y7 Z7 y8 B8 K8 T8 U8 V8 W8 X8 Y8 zf)) w3:=by
   intro Y1 Z1 U2 V2 W2 X2 Y2 Z2 U3 V3 W3 X3 Y3 Z3 j4 U4 V4 W4 X4 Y4 Z4 U5 V5 W5 X5 Y5 Z5 K6 T6 U6 V6 W6 X6 Y6 Z6 u7 B7 K7 T7 U7 V7 W7 X7 Y7 Z7 y8 B8 K8 T8 U8 V8 W8 X8 Y8 zf w3 rb q0 q6 q7 q8 q9 bW I;have B3:Below B w w3:=B1.drew.trans (I.mono s1);have bk:=M.fresh I;refine QD bk hx al bW (by omega) q0 q6 q7 q8 q9 (fun w' hv b=>by
    rw[if_pos hv]at J;rw[J]at ap;exact ap w' hv (B3.trans b)) fun e2 w' hf aS bs k4=>?_
   rw[if_neg (by simpa using hf)]at J;have s3:B≤w3.heap.size:=Nat.le_trans s1 I.size;refine⟨⟨k+1,_,aS,by omega,bs,a2 (by rw[be hf];rfl),J,k4.blk (ac I O O.lt) (.inr (by decide)),ff (cJ ar fun q hq=>I.block q (World.ownsRow.lt ar q hq).2) k4 (by decide),B3.trans (k4.below s3)⟩,?_⟩;rw[aS,bt];show P.length-(((k+1:Nat):Int)).toNat<P.length-(k:Int).toNat;omega
  refine⟨?_,?_⟩
  ·refine My X ha fun w3 I=>?_;refine aw (fun _=>True) trivial <|ab (fun z u _=>cZ) <|ab (fun z u _=>db) ?_;refine dZ (z:=.agg (z54.map iv).toArray) (by kernel_rfl) fun w4 h4 b4 s4=>?_;have h4:blk w4 w3.heap.size 50 (z54.map iv):=by simpa[Value.cells]using h4
   refine aE trivial ?_;refine jP (n:=54) (vs:=(iO x.A e.o e.a).1.map iv) (by kernel_rfl) (by simp[al]) h4 (by show 0+54≤54;omega) (vA _) fun w5 h5 o5=>?_;refine aE trivial ?_;refine a4 rfl rfl rfl rfl rfl (by
    rw[List.take_zero,List.nil_append,List.drop_of_length_le (by show 54≤0+54;omega),List.append_nil]at h5;exact h5) (I.trans (bG (b4.mono I.size) o5 I.size))
  ·refine dZ (z:=.agg (z54.map iv).toArray) (by kernel_rfl) fun w3 h3 I s3=>?_;have h3:blk w3 w1.drew.heap.size 50 (z54.map iv):=by simpa[Value.cells]using h3
   refine aE ⟨ac I M.cl M.cl.lt,ac I ad.blk ad.blk.lt,ac I O O.lt⟩ ?_;refine My X ha fun w4 b4=>?_;have h4:=ac b4 h3 h3.lt;refine aw (fun _=>True) trivial <|ab (fun z u _=>cZ) <|ab (fun z u _=>db) ?_;refine jP (n:=54) (vs:=(iO x.A e.o e.a).1.map iv) (by kernel_rfl) (by simp[al]) h4 (by show 0+54≤54;omega) (vA _) fun w5 h5 o5=>?_;refine aE trivial ?_
   refine a4 rfl rfl rfl rfl rfl (by
    rw[List.take_zero,List.nil_append,List.drop_of_length_le (by show 54≤0+54;omega),List.append_nil]at h5;exact h5) (bG (I.trans (b4.mono I.size)) o5 (Nat.le_refl _))
 ·refine aq (by omega) ?_;have a0:k=P.length:=by omega
  rw[a0,List.take_length]at U;rw[a0,List.drop_length]at am;exact a7 rfl rfl Z U am az B1
end
section
variable {w:World}{K:KV}{B p:Nat}{l:LG}
theorem QG {e:EV}{G:List GR}{x:GR}(u:LM w0 B p l)(a4:∀k,k<6→(l.R.getD k []).length≤m)(hm:m≤900)(kp:Keep Ew B w0 w)(hB:B≤w0.heap.size)(ho:1≤e.o∧e.o≤6)(he:blk w eb 54 (evC e))(ap:blk w o 126 (grC x))(hn:n=l.G.length+1)(hG:G.length=n)(a6:G.set k x=iS x l.G)(hk:k<n)(I:blk w p 123 ((lgC l).set 19 (.slice a n c)))(X:w.ownsRow B 126 5 (.slice a n c) n (G.flatMap grC))(q0:Y1=.pointer (some ⟨p,0,none⟩))(q3:V2=.pointer (some ⟨eb,0,none⟩))(bs:V3=.pointer (some ⟨o,0,none⟩))(bt:W3=.int .i64 (k:Nat))(av:∀w' l',LM w' B p l'→toP l'={toP l with G:=iS x l.G,R:=l.R.set (e.o-1).toNat (l.R.getD (e.o-1).toNat []++[e.r])}→l'.T=l.T→Below B w0 w'→K (.int .i64 0) w'):dQ K ((aZ Y1 Z1 U2 V2 W2 X2 Y2 Z2 U3 V3 W3 X3 Y3 Z3 j4 U4 V4 W4 X4 Y4 Z4 U5 V5 W5 X5 Y5 Z5 K6 T6 U6 V6 W6 X6 Y6 Z6 u7 B7 K7 T7 U7 V7 W7 X7 Y7 Z7 y8 B8 K8 T8 U8 V8 W8 X8 Y8 zf)) w:=by
 subst q0 q3 bs bt hn;refine xU ?_;have I:=I.drew;have he:=he.drew;have ap:=ap.drew;have X:w.drew.ownsRow B 126 5 (.slice a (l.G.length+1) c) (l.G.length+1) (G.flatMap grC):=X;have kp:=kp.drew;have az:((lgC l).set 19 (.slice a (l.G.length+1) c))[0+0+19]? = some (.slice a (l.G.length+1) c):=by rw[List.getElem?_set_self (by rw[u.ll];omega)]
 refine aa (fun _=>ai) <|aa (fun _=>bq) <|aa (fun _=>fj) <|aa (v:=.slice a (l.G.length+1) c) (fun _=>lK I az) <|aa (v:=.agg (grC x).toArray) (fun _=>ldA (n:=5) (vs:=grC x) underlying126 rfl (by kernel_rfl) ap rfl rfl) ?_;obtain⟨g,bW,rfl,op⟩:=cq X (by omega)
 refine aa (v:=.pointer (some ⟨g,0+((k:Nat):Int).toNat*5,none⟩)) (fun _=>dJ underlying43 (s:=5) (fun _=>by kernel_rfl) (by omega) (by omega)) ?_;refine op.sto iI hG (by omega) (by kernel_rfl) (rJ _) fun w2 o2 ar=>?_;have k2:Keep Ew B w0 w2:=kp.trans (o2.keep op.blk (by simp) op.lo)
 have aS:blk w2 p 123 ((lgC l).set 19 (.slice (some ⟨g,0,none⟩) (l.G.length+1) c)):=o2.blk I (fun hh=>I.ne op.blk (by decide) hh);have J:blk w2 eb 54 (evC e):=o2.blk he (fun hh=>he.ne op.blk (by decide) hh);have am:(G.set k x).length=l.G.length+1:=by rw[List.length_set,hG]
 have a0:LM w2 B p {l with s:={l.s with gv:=.slice (some ⟨g,0,none⟩) (G.set k x).length c},G:=G.set k x,ga:=some ⟨g,0,none⟩,gc:=c} :=
  u.grants' k2 (by decide) (by decide) (by decide) (by decide) (by rw[←Hs u.i6 u.l6 u.v6,am];exact aS) (by rw[am];exact ar)
 have B2:Below B w0 w2:=k2.below hB;generalize O:({l with s:={l.s with gv:=.slice (some ⟨g,0,none⟩) (G.set k x).length c},G:=G.set k x,ga:=some ⟨g,0,none⟩,gc:=c}:LG)=U2 at a0;have r1:U2.T=l.T:=by rw[←O]
 have r2:U2.R=l.R:=by rw[←O]
 have r5:toP U2={toP l with G:=iS x l.G}:=by rw[←O, ←a6];rfl
 obtain⟨j,hj⟩:∃j:Nat,j=(e.o-1).toNat:=⟨_,rfl⟩
 have M:j<6:=by omega
 have Z:=a0.drew;obtain⟨qa,qc,hq,a3⟩:=Z.rq j M;have a8:(lgC U2)[0+21+j]? = some (.slice qa (U2.R.getD j []).length qc):=by rw[Nat.zero_add];exact Z.cQ.trans hq
 have bi:=a4 j M;rw[←r2]at bi
 refine aw (fun z=>blk z p 123 (lgC U2)∧blk z eb 54 (evC e)) ⟨Z.cl,J.drew⟩ <|ab (fun z h _=>bD) <|ab (v:=iv e.o) (fun z h _=>lK h.2 rfl) <|ab (v:=.int .i64 ((j:Nat):Int)) (fun z h K d=>bh (by omega) (by omega) (by rw[show (e.o-1)=(j:Nat)by omega];exact d)) <|ab (fun z h _=>bD) <|ab (v:=iv e.o) (fun z h _=>lK h.2 rfl) <|ab (v:=.int .i64 ((j:Nat):Int)) (fun z h K d=>bh (by omega) (by omega) (by rw[show (e.o-1)=(j:Nat)by omega];exact d)) <|ab (fun z h _=>ai) <|ab (fun z h _=>qS) <|ab (fun z h _=>ixQ rfl M) <|ab (v:=.slice qa (U2.R.getD j []).length qc) (fun z h _=>lK h.1 a8) <|ab (fun z h _=>ic) <|ab (v:=u6 e.r) (fun z h _=>lK h.2 rfl) <|ab (fun z h _=>ai) <|ab (fun z h _=>qS) ?_
 refine mY (vs:=[u6 e.r]) underlying120 (s:=1) (by kernel_rfl) (by kernel_rfl) (by omega) rfl (by simp) (by simp) (by simp) (by simp[Value.cells,u6]) fun w4 h4 b4 s4=>?_;have h4:blk w4 w2.drew.heap.size 31 (uC e.r):=by simpa[Value.cells,u6,uC]using h4
 have ad:=Z.fresh b4;have B4:Below B w0 w4:=B2.drew.trans (b4.mono (Nat.le_trans hB B2.size));refine aE ⟨ad.cl,ac b4 J.drew J.drew.lt⟩ ?_;have U:=cJ a3 fun b hb=>b4.block b (World.ownsRow.lt a3 b hb).2;obtain⟨ii,bb,h,bk,a7⟩:=info_parts Bv
 refine tf (base:=B) (enc:=uC) (x:=e.r) underlying120 bb h bk a7 rfl (by omega) (fun _=>rfl) U h4 (MQ _) (by omega) (by omega) (Nat.le_trans hB B4.size) fun a5 c5 w5 be an b5 a2=>?_;have ag:=fL ad.cl U (by decide) an;have a9:blk w5 eb 54 (evC e):=fL (ac b4 J.drew J.drew.lt) U (by decide) an;refine aE ⟨ag,a9⟩ <|ab (fun z h _=>ixQ rfl M) ?_
 refine eB (fun _=>by kernel_rfl) ag (by rw[ad.ll];omega) rfl fun w6 al o6=>?_;rw[show 0+21+j=21+j by omega]at al;have bd:=ad.req' M hq an be a2 al o6;refine av w6 _ bd ?_ r1 (B4.trans (bG b5 o6 u.lo));have e6:∀(q:List Value) (R:List (List Int)),toP {U2 with q:=q,R:=R} = {toP U2 with R:=R}:=fun _ _=>rfl;rw[e6,r5,r2,hj]
theorem QF {e:EV}(hl:LM w B p l)(b7:l.G.Pairwise ltG)(cp:l.G.length≤m)(bt:∀k,k<6→(l.R.getD k []).length≤m)(hm:m≤900)(hB:B≤w.heap.size)(ho:1≤e.o∧e.o≤6)(cn : -9223372036854775808≤e.a∧e.a≤9223372036854775807)(he:blk w eb 54 (evC e))(q0:Y1=.pointer (some ⟨p,0,none⟩))(q3:V2=.pointer (some ⟨eb,0,none⟩))(av:∀w' l',LM w' B p l'→toP l'={toP l with G:=iS ⟨e.o,e.r,e.n,e.a,0⟩ l.G,R:=l.R.set (e.o-1).toNat (l.R.getD (e.o-1).toNat []++[e.r])}→l'.T=l.T→Below B w w'→K (.int .i64 0) w'):bS K ((aZ Y1 Z1 U2 V2 W2 X2 Y2 Z2 U3 V3 W3 X3 Y3 Z3 j4 U4 V4 W4 X4 Y4 Z4 U5 V5 W5 X5 Y5 Z5 K6 T6 U6 V6 W6 X6 Y6 Z6 u7 B7 K7 T7 U7 V7 W7 X7 Y7 Z7 y8 B8 K8 T8 U8 V8 W8 X8 Y8 zf)) w:=by
 subst q0 q3;refine xS <|bD <|lK (v:=iv e.o) he rfl <|ic <|lK (v:=u6 e.r) he rfl <|eW <|lK (v:=u6 e.n) he rfl <|dT <|lK (v:=iv e.a) he rfl <|eT (vs:=grC ⟨e.o,e.r,e.n,e.a,0⟩) (by kernel_rfl) ?_;refine dZ (z:=.agg (grC ⟨0,0,0,0,0⟩).toArray) (by kernel_rfl) fun w1 U b1 s1=>?_;have U:blk w1 w.heap.size 126 (grC ⟨0,0,0,0,0⟩):=by simpa[Value.cells]using U
 refine jP (n:=5) (vs:=grC ⟨e.o,e.r,e.n,e.a,0⟩) (by kernel_rfl) rfl U (by show 0+5≤5;omega) (rJ _) fun w2 h2 o2=>?_;have h2:blk w2 w.heap.size 126 (grC ⟨e.o,e.r,e.n,e.a,0⟩):=h2;generalize hx:(⟨e.o,e.r,e.n,e.a,0⟩:GR)=x at h2 av;have cs:x.a=e.a:=by rw[←hx]
 have a2:Below w.heap.size w w2:=bG b1 o2 (Nat.le_refl _);have al:=hl.fresh a2;have bd:=ac a2 he he.lt;have B2:Below B w w2:=a2.mono hB;have s2:B≤w2.heap.size:=Nat.le_trans hB B2.size
 refine ai <|bq <|fj <|lK (v:=.slice l.ga l.G.length l.gc) al.cl al.cG <|bj underlying43 <|aw (fun y=>blk y p 123 (lgC l)∧blk y w.heap.size 126 (grC x)) ⟨al.cl.drew,h2.drew⟩ <|ab (fun y O _=>ai) <|ab (fun y O _=>bq) <|ab (fun y O _=>fj) <|ab (v:=.slice l.ga l.G.length l.gc) (fun y O _=>lK O.1 al.cG) <|ab (v:=.agg (grC x).toArray) (fun y O _=>ldA (n:=5) (vs:=grC x) underlying126 rfl (by kernel_rfl) O.2 rfl rfl) ?_
 refine mY (vs:=[.agg (grC x).toArray]) underlying43 (s:=5) (by kernel_rfl) (by kernel_rfl) (by omega) rfl (by simp) (by simp) (by simp) (by simp[Value.cells,iI]) fun w3 h3 b3 s3=>?_;have h3:blk w3 w2.drew.heap.size 126 (grC x):=by simpa[Value.cells]using h3
 have am:=al.drew.fresh b3;have b5:=ac b3 bd.drew bd.drew.lt;have ag:=ac b3 h2.drew h2.drew.lt;have B3:Below B w2 w3:=(Below.refl B w2).drew.trans (b3.mono s2);have k3:Keep Ew B w2 w3:=(Keep.of (B:=B) (Below.refl _ w2).drew).trans (Keep.of b3);refine aE ⟨am.cl,ag⟩ ?_;obtain⟨ii,b8,hz,cg,b0⟩:=info_parts NF;have cj:B≤w3.heap.size:=Nat.le_trans s2 B3.size
 refine tf (base:=B) (x:=x) underlying43 b8 hz cg b0 rfl (by omega) iI am.gr h3 (rJ _) (by omega) (by omega) cj fun a4 Z w4 cc ap b4 ca=>?_;have k4:Keep Ew B w2 w4:=k3.trans (Keep.grown ap am.gr (by simp) (Nat.le_refl _));have X:blk w4 p 123 (lgC l):=fL am.cl am.gr (by decide) ap;have be:blk w4 eb 54 (evC e):=fL b5 am.gr (by decide) ap
 have az:blk w4 w.heap.size 126 (grC x):=by
  unfold Go.Proofs.YtkbhfjljieopoaaGreatDoor.blk;rw[ap.block _ ag.lt (fun I=>by have:=hl.gn _ I.symm;omega)];exact ag
 have bs:∀k,(Value.slice a4 (l.G.length+1) Z).ownBlock=some k→k≠w.heap.size:=by
  intro k hk;rcases ca with I|I
  ·rw[I]at hk;have:=hl.gn k hk;omega
  ·rw[I]at hk;cases hk;have:=ag.lt;omega
 refine aw (fun _=>True) trivial <|ab (fun y O _=>ai) <|ab (fun y O _=>bq) <|ab (fun y O _=>fj) ?_;refine eB (fun _=>by kernel_rfl) X (by rw[hl.ll];omega) rfl fun w5 an o5=>?_;have ce:=eZ cc X (by decide) o5;have bi:blk w5 w.heap.size 126 (grC x):=o5.blk az (fun I=>az.ne X (by decide) I);have b6:blk w5 eb 54 (evC e):=o5.blk be (fun I=>be.ne X (by decide) I)
 have k5:Keep Ew B w2 w5:=k4.trans (o5.keep X (by simp) hl.lo);have an:blk w5 p 123 ((lgC l).set 19 (.slice a4 (l.G.length+1) Z)):=an;have J:((lgC l).set 19 (.slice a4 (l.G.length+1) Z))[0+0+19]? = some (.slice a4 (l.G.length+1) Z):=by rw[List.getElem?_set_self (by rw[hl.ll];omega)]
 refine xP ?_;refine xR (Inv:=fun a3 _ _ _ _ _ _ _ _ _ _ _ _ _ _ _ _ _ _ _ _ _ _ _ _ _ _ _ _ _ _ _ _ _ _ _ _ _ _ _ _ _ _ _ wr=>∃(k:Nat) (G:List GR),a3=.int .i64 (k:Nat)∧k≤l.G.length∧G.length=l.G.length+1∧(∃z,G=fl l.G k z)∧(∀y,l.G[k]? = some y→ltG x y)∧blk wr p 123 ((lgC l).set 19 (.slice a4 (l.G.length+1) Z))∧blk wr w.heap.size 126 (grC x)∧blk wr eb 54 (evC e) ∧
   wr.ownsRow B 126 5 (.slice a4 (l.G.length+1) Z) (l.G.length+1) (G.flatMap grC)∧Keep Ew B w2 wr)
  (μ:=fun a3 _ _ _ _ _ _ _ _ _ _ _ _ _ _ _ _ _ _ _ _ _ _ _ _ _ _ _ _ _ _ _ _ _ _ _ _ _ _ _ _ _ _ _ _=>(intOf a3).toNat) ⟨l.G.length,l.G++[x],rfl,Nat.le_refl _,by simp,⟨x,insA_end.symm⟩,(fun y O=>by rw[List.getElem?_eq_none (Nat.le_refl _)]at O;cases O),an,bi,b6,ce,k5⟩ ?_
 rintro _ _ _ _ _ _ _ _ _ _ _ _ _ _ _ _ _ _ _ _ _ _ _ _ _ _ _ _ _ _ _ _ _ _ _ _ _ _ _ _ _ _ _ _ dd w6 mm ⟨k,G,rfl,hk,hG,⟨z,a8⟩,ch,h,u,ad,ar,k6⟩ bk;have h:=h.drew;have u:=u.drew;have ad:=ad.drew;have ar:w6.drew.ownsRow B 126 5 (.slice a4 (l.G.length+1) Z) (l.G.length+1) (G.flatMap grC):=ar;have k6:=k6.drew
 have a7:∀{Y1 Z1 U2 V2 W2 X2 Y2 Z2 U3 V3 W3 X3 Y3 Z3 j4 U4 V4 W4 X4 Y4 Z4 U5 V5 W5 X5 Y5 Z5 K6 T6 U6 V6 W6 X6 Y6 Z6 u7 B7 K7 T7 U7 V7 W7 X7 Y7 Z7 y8 B8 K8 T8 U8 V8 W8 X8 Y8:Value} {zf:Nat→Value},(∀y,0<k→l.G[k-1]? = some y→¬ltG x y)→Y1=.pointer (some ⟨p,0,none⟩)→V2=.pointer (some ⟨eb,0,none⟩)→V3=.pointer (some ⟨w.heap.size,0,none⟩)→W3=.int .i64 (k:Nat)→dQ K ((aZ Y1 Z1 U2 V2 W2 X2 Y2 Z2 U3 V3 W3 X3 Y3 Z3 j4 U4 V4 W4 X4 Y4 Z4 U5 V5 W5 X5 Y5 Z5 K6 T6 U6 V6 W6 X6 Y6 Z6 u7 B7 K7 T7 U7 V7 W7 X7 Y7 Z7 y8 B8 K8 T8 U8 V8 W8 X8 Y8 zf)) w6.drew:=by
  intro Y1 Z1 U2 V2 W2 X2 Y2 Z2 U3 V3 W3 X3 Y3 Z3 j4 U4 V4 W4 X4 Y4 Z4 U5 V5 W5 X5 Y5 Z5 K6 T6 U6 V6 W6 X6 Y6 Z6 u7 B7 K7 T7 U7 V7 W7 X7 Y7 Z7 y8 B8 K8 T8 U8 V8 W8 X8 Y8 zf b9 q1 q2 q3 q4;exact QG al bt hm k6 s2 ho ad u rfl hG (by rw[a8,wJ hk,Rv b7 hk b9 ch]) (by omega) h ar q1 q2 q3 q4 fun w' l' U h2 h3 h4=>av w' l' U h2 h3 (B2.trans h4)
 refine aa (fun _=>de) ?_;by_cases M:(0:Int)<(k:Nat)
 ·refine dD M ?_;obtain⟨k,rfl⟩:=Nat.exists_eq_succ_of_ne_zero (show k≠0 by omega);have ek:((k.succ:Nat):Int)-1=(k:Nat):=by omega
  have O:G[k]? = some G[k]:=List.getElem?_eq_getElem (by omega);generalize G[k]=y at O;have bb:l.G[k]? = some y:=by
   have:=Hi (L:=l.G) (z:=z) (show 0<k.succ by omega) hk
   rw[Nat.succ_sub_one]at this;rw[←this, ←a8];exact O
  have bW:G.set k.succ y=fl l.G k y:=by
   have:=Dk (L:=l.G) (x:=y) (show 0<k.succ by omega) (by rw[Nat.succ_sub_one];exact bb)
   rw[Nat.succ_sub_one]at this;rw[a8,wJ hk,this]
  have aS:¬ltG x y→∀z,0<k.succ→l.G[k.succ-1]? = some z→¬ltG x z:=fun hn z _ hz=>by rw[Nat.succ_sub_one,bb]at hz;cases hz;exact hn
  have a0:ltG x y→∀z,l.G[k]? = some z→ltG x z:=fun hn z hz=>by rw[bb]at hz;cases hz;exact hn
  obtain⟨g,a6,rfl,op⟩:=cq ar (by omega);have c0:a6[0+((k:Nat):Int).toNat*5+0]? = some (iv y.o):=by rw[Int.toNat_natCast,Nat.zero_add];exact op.cell iI hG O (show 0<5 by omega)
  have c1:a6[0+((k:Nat):Int).toNat*5+1]? = some (u6 y.q):=by rw[Int.toNat_natCast,Nat.zero_add];exact op.cell iI hG O (show 1<5 by omega)
  have ck:g≠w.heap.size:=bs g rfl;have j:Opn w6.drew.drew B 126 5 (l.G.length+1) Z g a6 (G.flatMap grC):=⟨op.blk,op.lo,op.nc,op.cm,op.len,op.take,op.xl⟩
  refine aa (fun _=>ai) <|aa (fun _=>bq) <|aa (fun _=>fj) <|aa (v:=.slice (some ⟨g,0,none⟩) (l.G.length+1) Z) (fun _=>lK h J) <|aa (v:=.int .i64 (k:Nat)) (fun K d=>bh (by omega) (by omega) (by rw[ek];exact d)) <|aa (v:=.pointer (some ⟨g,0+((k:Nat):Int).toNat*5,none⟩)) (fun _=>dJ underlying43 (s:=5) (fun _=>by kernel_rfl) (by omega) (by omega)) <|aa (fun _=>wA) <|aa (v:=iv y.o) (fun _=>lK op.blk c0) <|aa (fun _=>wA) <|aa (v:=iv x.o) (fun _=>lK u rfl) <|aa (fun _=>de) ?_
  by_cases U:x.o<y.o
  ·refine jy U <|IA <|jy U <|dD M <|aa (fun _=>bO U) <|aa (fun _=>bO M) <|bu <|aa (fun _=>ai) <|aa (fun _=>bq) <|aa (fun _=>fj) <|aa (v:=.slice (some ⟨g,0,none⟩) (l.G.length+1) Z) (fun _=>lK h.drew J) <|aa (fun _=>ai) <|aa (fun _=>bq) <|aa (fun _=>fj) <|aa (v:=.slice (some ⟨g,0,none⟩) (l.G.length+1) Z) (fun _=>lK h.drew J) <|aa (v:=.int .i64 (k:Nat)) (fun K d=>bh (by omega) (by omega) (by rw[ek];exact d)) ?_
   refine aa (v:=.pointer (some ⟨g,0+((k:Nat):Int).toNat*5,none⟩)) (fun _=>dJ underlying43 (s:=5) (fun _=>by kernel_rfl) (by omega) (by omega)) <|aa (v:=.agg (grC y).toArray) (fun _=>ldA (n:=5) (vs:=grC y) underlying126 rfl (by kernel_rfl) j.blk (by rw[Int.toNat_natCast,Nat.zero_add];exact j.elem iI hG O) rfl) <|aa (v:=.pointer (some ⟨g,0+((k.succ:Nat):Int).toNat*5,none⟩)) (fun _=>dJ underlying43 (s:=5) (fun _=>by kernel_rfl) (by omega) (by omega)) ?_
   refine j.sto iI hG (by omega) (by kernel_rfl) (rJ _) fun w7 o7 a9=>?_;refine bh (by omega) (by omega) ?_
   exact⟨⟨k,_,congrArg (Value.int .i64) ek,by omega,by rw[List.length_set,hG],⟨y,bW⟩,a0 (.inl U),o7.blk h.drew (fun I=>h.drew.ne j.blk (by decide) I),o7.blk u.drew (by omega),o7.blk ad.drew (fun I=>ad.drew.ne j.blk (by decide) I),a9,k6.drew.trans (o7.keep j.blk (by simp) j.lo)⟩,by rw[bk];show (((k.succ:Nat):Int)-1).toNat<((k.succ:Nat):Int).toNat;omega⟩
  ·refine dX U <|aa (fun _=>ai) <|aa (fun _=>bq) <|aa (fun _=>fj) <|aa (v:=.slice (some ⟨g,0,none⟩) (l.G.length+1) Z) (fun _=>lK h J) <|aa (v:=.int .i64 (k:Nat)) (fun K d=>bh (by omega) (by omega) (by rw[ek];exact d)) <|aa (v:=.pointer (some ⟨g,0+((k:Nat):Int).toNat*5,none⟩)) (fun _=>dJ underlying43 (s:=5) (fun _=>by kernel_rfl) (by omega) (by omega)) <|aa (fun _=>wA) <|aa (v:=iv y.o) (fun _=>lK op.blk c0) <|aa (fun _=>wA) <|aa (v:=iv x.o) (fun _=>lK u rfl) <|aa (fun _=>bg) ?_
   by_cases h2:y.o=x.o
   ·refine dD h2 <|aa (fun _=>ai) <|aa (fun _=>bq) <|aa (fun _=>fj) <|aa (v:=.slice (some ⟨g,0,none⟩) (l.G.length+1) Z) (fun _=>lK h J) <|aa (v:=.int .i64 (k:Nat)) (fun K d=>bh (by omega) (by omega) (by rw[ek];exact d)) <|aa (v:=.pointer (some ⟨g,0+((k:Nat):Int).toNat*5,none⟩)) (fun _=>dJ underlying43 (s:=5) (fun _=>by kernel_rfl) (by omega) (by omega)) <|aa (fun _=>CX) <|aa (v:=u6 y.q) (fun _=>lK op.blk c1) <|aa (fun _=>CX) <|aa (v:=u6 x.q) (fun _=>lK u rfl) <|aa (fun _=>de) <|dX U <|aa (fun _=>bO h2) <|dD M <|aa (fun _=>bw U) ?_
    refine aa (fun _=>bO M) ?_;by_cases h3:x.q<y.q
    ·refine ax h3 <|aa (fun _=>ai) <|aa (fun _=>bq) <|aa (fun _=>fj) <|aa (v:=.slice (some ⟨g,0,none⟩) (l.G.length+1) Z) (fun _=>lK h.drew J) <|aa (fun _=>ai) <|aa (fun _=>bq) <|aa (fun _=>fj) <|aa (v:=.slice (some ⟨g,0,none⟩) (l.G.length+1) Z) (fun _=>lK h.drew J) <|aa (v:=.int .i64 (k:Nat)) (fun K d=>bh (by omega) (by omega) (by rw[ek];exact d)) <|aa (v:=.pointer (some ⟨g,0+((k:Nat):Int).toNat*5,none⟩)) (fun _=>dJ underlying43 (s:=5) (fun _=>by kernel_rfl) (by omega) (by omega)) <|aa (v:=.agg (grC y).toArray) (fun _=>ldA (n:=5) (vs:=grC y) underlying126 rfl (by kernel_rfl) j.blk (by rw[Int.toNat_natCast,Nat.zero_add];exact j.elem iI hG O) rfl) <|aa (v:=.pointer (some ⟨g,0+((k.succ:Nat):Int).toNat*5,none⟩)) (fun _=>dJ underlying43 (s:=5) (fun _=>by kernel_rfl) (by omega) (by omega)) ?_
     refine j.sto iI hG (by omega) (by kernel_rfl) (rJ _) fun w7 o7 a9=>?_;refine bh (by omega) (by omega) ?_
     exact⟨⟨k,_,congrArg (Value.int .i64) ek,by omega,by rw[List.length_set,hG],⟨y,bW⟩,a0 (.inr ⟨h2.symm,h3⟩),o7.blk h.drew (fun I=>h.drew.ne j.blk (by decide) I),o7.blk u.drew (by omega),o7.blk ad.drew (fun I=>ad.drew.ne j.blk (by decide) I),a9,k6.drew.trans (o7.keep j.blk (by simp) j.lo)⟩,by rw[bk];show (((k.succ:Nat):Int)-1).toNat<((k.succ:Nat):Int).toNat;omega⟩
    ·refine aq h3 ?_;exact a7 (aS fun I=>I.elim U fun I=>h3 I.2) rfl rfl rfl  rfl
   ·refine dY h2 <|dX U <|aa (fun _=>bw h2) <|dD M <|aa (fun _=>bw U) <|aa (fun _=>bO M) <|aO ?_;exact a7 (aS fun I=>I.elim U fun I=>h2 I.1.symm) rfl rfl rfl  rfl
 ·have:k=0:=by omega
  subst this;refine dY M <|IA <|IA <|IA <|dY M <|aa (fun _=>bw M) <|aO ?_;exact a7 (fun y h0=>absurd h0 (by omega)) rfl rfl rfl  rfl
theorem Su {e:EV}(hl:LM w B p l)(j:XI l m)(J:e.k=3)(hm:m≤900)(hB:B≤w.heap.size)(ho:1≤e.o∧e.o≤6)(ad : -9223372036854775808≤e.a∧e.a≤9223372036854775807)(h:∀w',eU e (toP l)≠0→Below B w w'→K (.int .i64 (eU e (toP l))) w')(Z:∀w' l',eU e (toP l)=0→LM w' B p l'→toP l'=su e (toP l)→l'.T=tr l'.s.nodes→Below B w w'→K (.int .i64 0) w'):call Tryz.prog 120 #[.pointer (some ⟨p,0,none⟩),.agg (evC e).toArray] K w:=by
 refine aj (goK func120) (yS ?_);refine cv fun w1 U b1 s1=>?_;have U:blk w1 w.heap.size 54 (evC e):=by simpa[Value.cells]using U
 have u:=hl.fresh b1;have B1:Below B w w1:=b1.mono hB;have a0:B≤w1.heap.size:=Nat.le_trans hB B1.size;have av:=j.rn;have c3:=j.tl;have M:eU e (toP l)=if jB l.R e.q e.r=true then 14 else if bU l.s.nodes e.n=false then 9 else lf (fun A=>(iO A e.o e.a).2) l.s.nodes (di l.s.nodes e.n):=by unfold eU;rw[if_neg (by omega),if_neg (by omega),if_pos J];rfl
 have ar:dh l.T e.n=di l.s.nodes e.n:=by rw[j.t];rfl
 refine bD <|lK (v:=iv e.o) U rfl <|ic <|lK (v:=u6 e.r) U rfl <|MW u ho (fun k hk=>Nat.le_trans (av k hk) (by omega)) ?_;cases hb:jB l.R (e.o-1).toNat e.r with
 | true =>
  rw[if_pos (show jB l.R e.q e.r=true from hb)]at M;rw[M]at h;exact bu (h w1 (by decide) B1)
 | false =>
  rw[if_neg (show ¬jB l.R e.q e.r=true from by rw[show jB l.R e.q e.r=false from hb];simp)]at M;refine aO ?_;obtain⟨rk,az⟩:=j.tk
  refine aw (fun y=>blk y p 123 (lgC l)∧blk y w.heap.size 54 (evC e)) ⟨u.cl.drew,U.drew⟩ <|ab (fun y O _=>ai) <|ab (fun y O _=>wC) <|ab (v:=.pointer (some ⟨l.t,0,none⟩)) (fun y O _=>lK O.1 u.cT) <|ab (fun y O _=>eW) <|ab (v:=u6 e.n) (fun y O _=>lK O.2 rfl) ?_;refine Gf az u.drew.tm (by omega) fun w2 a c hP b2=>?_;rw[ar]at hP ⊢;have an:=u.drew.fresh b2
  have al:=ac b2 U.drew U.drew.lt;have B2:Below B w w2:=B1.drew.trans (b2.mono a0);refine aw (fun _=>True) trivial <|bj underlying120 <|bg ?_;have c2:(di l.s.nodes e.n).length≤4∨(di l.s.nodes e.n).length=0:=by
   cases hh:bU l.s.nodes e.n with
   | true =>
    obtain⟨x,hx,aS⟩:=pR hh;rw[←aS];exact .inl (j.pi.dep x hx)
   | false=>exact .inr (HE.2 hh)
  by_cases h0:((di l.s.nodes e.n).length:Int)=0
  ·rw[if_pos (HE.1 (by omega))]at M;rw[M]at h;exact ax h0 (h w2 (by decide) B2)
  rw[if_neg (fun hh=>h0 (by rw[HE.2 hh];rfl))]at M;rw[M]at h;refine aq h0 <|QE (P:=di l.s.nodes e.n) an j (Nat.le_trans hB B2.size) ad al hP (by omega) (fun y O=>mR O) (Mp j.pi.tk) rfl rfl rfl rfl (fun w' hv b=>h w' hv (B2.trans b)) ?_
  intro l0 e1 l2 e3 p5 i6 c4 r8 f9 c1 a2 c5 a3 a4 a6 a7 a8 a9 bb bd be bi bk bs bt bW b0 b3 b4 b5 b6 b7 b8 b9 ca cc ce cg ch cj ck cm cn cp cs cD cG cI cL cO cQ cR cV cX zf w3 l3 q0 q3 ap d ag am B3;have X:=B2.trans B3
  refine QF (m:=m) ap (by rw[d.G];exact j.pi.gs) (by rw[d.G];exact j.gn) (by rw[d.R];exact j.rn) hm (Nat.le_trans hB X.size) ho ad am q0 q3 fun w' l' h1 h2 h3 h4=>Z w' l' (M.trans ag) h1 ?_ ?_ (X.trans h4)
  ·rw[h2,d.P,d.G,d.R];unfold su nop gop nO nP kZ;rw[if_neg (by omega),if_neg (by omega),if_pos J,if_pos J,if_neg (by omega),if_neg (by omega),if_pos (.inl J)];rfl
  ·rw[h3,d.tr j.t];exact congrArg (fun s=>tr (PL.N s)) h2.symm
end
section
variable {w:World}{K:KV}{B p:Nat}{l:LG}
theorem Qy {x:ND}{f:Int}(u:LM w B p l)(hx:l.s.nodes[i]? = some x)(h:xs.length=54)(U:blk w b 50 (xs.map iv))(hj:j≤1000000)(q0:Y1=.pointer (some ⟨p,0,none⟩))(q6:Y2=.int .i64 (j:Nat))(q7:Z2=.int .i64 (i:Nat))(q8:U3=.pointer (some ⟨b,0,none⟩))(q9:V3=.int .i64 f)(J:∀w',f≠0→Below B w w'→K (.int .i64 f) w')(M:∀(e:List Value) (w':World),f=0→gd e 7=.int .i64 ((j+1:Nat):Int)→LM w' B p (BB l i {x with A:=xs})→Keep yd B w w'→B1 e w'):fu K B1 ((bx Y1 Z1 U2 V2 W2 X2 Y2 Z2 U3 V3 zf)) w:=by
 subst q0 q6 q7 q8 q9;refine xA <|bN ?_;by_cases I:f≠0
 ·exact ax I (J w I (Below.refl _ _))
 refine aq I ?_;have u:=u.drew;have U:=U.drew;have hi:i<l.s.nodes.length:=(List.getElem?_eq_some_iff.1 hx).1;obtain⟨g,ad,Z,X⟩:=cq u.nd (by omega)
 refine aa (fun _=>ai) <|aa (fun _=>bq) <|aa (fun _=>eA) <|aa (v:=.slice l.s.na l.s.nodes.length l.s.nc) (fun _=>lK u.cl u.cN) <|aa (v:=.agg (xs.map iv).toArray) (fun _=>ldA (n:=54) (vs:=xs.map iv) underlying50 rfl (by kernel_rfl) U (by rw[List.drop_zero,List.take_of_length_le (by simp[h])]) (by simp[h])) <|aa (v:=.pointer (some ⟨g,i*56,none⟩)) (fun _=>pj Z underlying42 (fun _=>by kernel_rfl) hi) <|aa (fun _=>qb) ?_
 refine Pb u hx h X Z rfl fun w' O o'=>?_;refine xD <|aW (by omega) (by omega) ?_;exact M _ _ (by simpa using I) (ivS) O ((Keep.of (B:=B) (Below.refl _ w).drew).trans (o'.keep X.blk (by simp) X.lo))
theorem Qz {e:EV}{P:List Int}(hl:LM w B p l)(hg:XI l m)(hB:B≤w.heap.size){gx:GR}(bt:l.G[Bw]? = some gx)(ha : -9223372036854775808≤gx.a∧gx.a≤9223372036854775807)(he:blk w eb 54 (evC e))(hP:w.ownsRow d 31 1 (.slice a P.length c) P.length (P.map u6))(cc:P.length≤100000)(bd:∀y∈P,bU l.s.nodes y=true)(bb:P.Nodup)(q0:Y1=.pointer (some ⟨p,0,none⟩))(q3:V2=.pointer (some ⟨eb,0,none⟩))(qk:W2=.int .i64 (Bw:Nat))(q5:X2=.slice a P.length c)(q6:Y2=.int .i64 0)(av:∀w',lf (fun A=>(iH A e.o gx.a).2) l.s.nodes P≠0→Below B w w'→K (.int .i64 (lf (fun A=>(iH A e.o gx.a).2) l.s.nodes P)) w')(a9:∀{Y1 Z1 U2 V2 W2 X2 Y2 Z2 U3 V3:Value} {zf:Nat→Value} {w':World} {l':LG},Y1=.pointer (some ⟨p,0,none⟩)→V2=.pointer (some ⟨eb,0,none⟩)→W2=.int .i64 (Bw:Nat)→LM w' B p l'→BL l l' P (12+e.q) gx.a→lf (fun A=>(iH A e.o gx.a).2) l.s.nodes P=0→blk w' eb 54 (evC e)→Below B w w'→bR K ((bx Y1 Z1 U2 V2 W2 X2 Y2 Z2 U3 V3 zf)) w'):kb K ((bx Y1 Z1 U2 V2 W2 X2 Y2 Z2 U3 V3 zf)) w:=by
 subst q0 q3 qk q5 q6
 refine xB (Inv:=fun i wr=>∃(k:Nat) (l':LG),i=.int .i64 (k:Nat)∧k≤P.length∧LM wr B p l'∧BL l l' (P.take k) (12+e.q) gx.a∧lf (fun A=>(iH A e.o gx.a).2) l.s.nodes P=lf (fun A=>(iH A e.o gx.a).2) l.s.nodes (P.drop k)∧blk wr eb 54 (evC e)∧wr.ownsRow d 31 1 (.slice a P.length c) P.length (P.map u6)∧Below B w wr) (μ:=fun i _=>P.length-(intOf i).toNat) ⟨0,l,rfl,by omega,hl,BL.refl l,rfl,he,hP,Below.refl _ _⟩ ?_
 rintro _ dd w1 mm ⟨k,l',rfl,hk,Z,O,ap,a0,al,B1⟩ b8;refine bj underlying120 <|aM ?_;by_cases b5:k<P.length
 ·refine ax (by omega) ?_;have hy:P[k]? = some P[k]:=List.getElem?_eq_getElem b5;generalize P[k]=y at hy;obtain⟨g,a8,rfl,op⟩:=cq al (by omega);refine dJ underlying120 (s:=1) (fun _=>by kernel_rfl) (by omega) (by omega) ?_;refine lK (v:=u6 y) op.blk (by
   have h0:(P.map u6)=P.flatMap uC:=(Gi P).symm;have ca:Opn w1 d 31 1 P.length c g a8 (P.flatMap uC):=h0 ▸ op
   have:=ca.cell (enc:=uC) (s:=1) (j:=0) (fun _=>rfl) rfl hy (by omega)
   rw[Int.toNat_natCast,Nat.zero_add];exact this) ?_
  have ce:=hg.n30;refine FX Z (by rw[O.len];omega) ?_;obtain⟨x,hx,ar,a6⟩:=Gc (N:=l'.s.nodes) (id:=y) (by rw[O.has];exact bd y (List.mem_of_getElem? hy));have bs:fdN l'.s.nodes y=(posN l'.s.nodes y:Nat):=by unfold fdN;rw[if_pos ar]
  rw[bs];generalize posN l'.s.nodes y=i at hx ar;obtain⟨ch,a4,M⟩:=O.next hg.pi.srt bb hy hx a6 (f:=(fun A=>(iH A e.o gx.a).2))
  have M:=ap.trans M;have I:=Z.drew;have U:=a0.drew;have X:x.A.length=54:=Z.A54 x (List.mem_of_getElem? hx);obtain⟨gn,cn,bi,ag⟩:=cq I.nd (by omega);have am:l'.G[Bw]? = some gx:=by rw[O.G];exact bt
  have b0:Bw<l'.G.length:=(List.getElem?_eq_some_iff.1 am).1;obtain⟨gg,cg,be,ad⟩:=cq I.gr (by omega);have bk:cg[Bw*5+3]? = some (iv gx.a):=ad.cell iI rfl am (show 3<5 by omega);have aS:(cn.drop (i*56+2)).take 54=x.A.map iv:=by
   have:=ag.elem fC rfl hx
   rw[show i*56+2=i*56+2 from rfl, ←List.drop_drop];have h3:((cn.drop (i*56)).take 56).drop 2=((cn.drop (i*56)).drop 2).take 54:=by rw[List.drop_take]
   rw[←h3,this];unfold ndE;rw[Cy X];rfl
  refine aw (fun z=>blk z p 123 (lgC l')∧blk z gn 52 cn∧blk z eb 54 (evC e)∧blk z gg 126 cg) ⟨I.cl,ag.blk,U,ad.blk⟩ <|ab (fun z u _=>ai) <|ab (fun z u _=>bq) <|ab (fun z u _=>eA) <|ab (v:=.slice l'.s.na l'.s.nodes.length l'.s.nc) (fun z u _=>lK u.1 I.cN) <|ab (v:=.pointer (some ⟨gn,i*56,none⟩)) (fun z u _=>pj bi underlying42 (fun _=>by kernel_rfl) ar) <|ab (fun z u _=>qb) <|ab (v:=.agg (x.A.map iv).toArray) (fun z u _=>ldA (n:=54) (vs:=x.A.map iv) underlying50 rfl (by kernel_rfl) u.2.1 aS (by simp[X])) <|ab (fun z u _=>bD) <|ab (v:=iv e.o) (fun z u _=>lK u.2.2.1 rfl) <|ab (fun z u _=>ai) <|ab (fun z u _=>bq) <|ab (fun z u _=>fj) <|ab (v:=.slice l'.ga l'.G.length l'.gc) (fun z u _=>lK u.1 I.cG) <|ab (v:=.pointer (some ⟨gg,Bw*5,none⟩)) (fun z u _=>pj be underlying43 (fun _=>by kernel_rfl) b0) <|ab (fun z u _=>Ly) ?_
  refine ab (v:=iv gx.a) (fun z u _=>lK u.2.2.2 bk) ?_;have s1:B≤w1.drew.heap.size:=Nat.le_trans hB B1.size;have an:((iH x.A e.o gx.a).1).length=54:=Ps X;have bW:=LH (A:=x.A) (o:=e.o) (a:=gx.a);have az:w1.drew.ownsRow d 31 1 (.slice (some ⟨g,0,none⟩) P.length c) P.length (P.map u6):=cJ al fun _ _=>rfl
  have a7:∀{Y1 Z1 U2 V2 W2 X2 Y2 Z2 U3 V3:Value} {zf:Nat→Value} {w3:World} {rb:Nat},Y1=.pointer (some ⟨p,0,none⟩)→Y2=.int .i64 (k:Nat)→Z2=.int .i64 (i:Nat)→U3=.pointer (some ⟨rb,0,none⟩)→V3=.int .i64 (iH x.A e.o gx.a).2→blk w3 rb 50 ((iH x.A e.o gx.a).1.map iv)→Below w1.drew.heap.size w1.drew w3 →
    fu K (fun e2 w2=>(∃(k:Nat) (l':LG),gd e2 7=.int .i64 (k:Nat)∧k≤P.length∧LM w2 B p l'∧BL l l' (P.take k) (12+e.q) gx.a∧lf (fun A=>(iH A e.o gx.a).2) l.s.nodes P=lf (fun A=>(iH A e.o gx.a).2) l.s.nodes (P.drop k)∧blk w2 eb 54 (evC e)∧w2.ownsRow d 31 1 (.slice (some ⟨g,0,none⟩) P.length c) P.length (P.map u6)∧Below B w w2)∧P.length-(intOf (gd e2 7)).toNat<mm) ((bx Y1 Z1 U2 V2 W2 X2 Y2 Z2 U3 V3 zf)) w3:=by
   intro Y1 Z1 U2 V2 W2 X2 Y2 Z2 U3 V3 zf w3 rb q0 q6 q7 q8 q9 b9 J;have B3:Below B w w3:=B1.drew.trans (J.mono s1);have b6:=I.fresh J;refine Qy b6 hx an b9 (by omega) q0 q6 q7 q8 q9 (fun w' hv b=>by
    rw[if_pos hv]at M;rw[M]at av;exact av w' hv (B3.trans b)) fun e2 w' hf a2 b7 k4=>?_
   rw[if_neg (by simpa using hf)]at M;have s3:B≤w3.heap.size:=Nat.le_trans s1 J.size;refine⟨⟨k+1,_,a2,by omega,b7,a4 (by rw[bW hf];rfl),M,k4.blk (ac J U U.lt) (.inr (by decide)),ff (cJ az fun q hq=>J.block q (World.ownsRow.lt az q hq).2) k4 (by decide),B3.trans (k4.below s3)⟩,?_⟩;rw[a2,b8];show P.length-(((k+1:Nat):Int)).toNat<P.length-(k:Int).toNat;omega
  refine⟨?_,?_⟩
  ·refine Mw X ha fun w3 J=>?_;refine aw (fun _=>True) trivial <|ab (fun z u _=>cZ) <|ab (fun z u _=>db) ?_;refine dZ (z:=.agg (z54.map iv).toArray) (by kernel_rfl) fun w4 h4 b4 s4=>?_;have h4:blk w4 w3.heap.size 50 (z54.map iv):=by simpa[Value.cells]using h4
   refine aE trivial ?_;refine jP (n:=54) (vs:=(iH x.A e.o gx.a).1.map iv) (by kernel_rfl) (by simp[an]) h4 (by show 0+54≤54;omega) (vA _) fun w5 h5 o5=>?_;refine aE trivial ?_;refine a7 rfl rfl rfl rfl rfl (by
    rw[List.take_zero,List.nil_append,List.drop_of_length_le (by show 54≤0+54;omega),List.append_nil]at h5;exact h5) (J.trans (bG (b4.mono J.size) o5 J.size))
  ·refine dZ (z:=.agg (z54.map iv).toArray) (by kernel_rfl) fun w3 h3 J s3=>?_;have h3:blk w3 w1.drew.heap.size 50 (z54.map iv):=by simpa[Value.cells]using h3
   refine aE ⟨ac J I.cl I.cl.lt,ac J ag.blk ag.blk.lt,ac J U U.lt,ac J ad.blk ad.blk.lt⟩ ?_;refine Mw X ha fun w4 b4=>?_;have h4:=ac b4 h3 h3.lt;refine aw (fun _=>True) trivial <|ab (fun z u _=>cZ) <|ab (fun z u _=>db) ?_;refine jP (n:=54) (vs:=(iH x.A e.o gx.a).1.map iv) (by kernel_rfl) (by simp[an]) h4 (by show 0+54≤54;omega) (vA _) fun w5 h5 o5=>?_;refine aE trivial ?_
   refine a7 rfl rfl rfl rfl rfl (by
    rw[List.take_zero,List.nil_append,List.drop_of_length_le (by show 54≤0+54;omega),List.append_nil]at h5;exact h5) (bG (J.trans (b4.mono J.size)) o5 (Nat.le_refl _))
 ·refine aq (by omega) ?_;have a3:k=P.length:=by omega
  rw[a3,List.take_length]at O;rw[a3,List.drop_length]at ap;exact a9 rfl rfl rfl Z O ap a0 B1
theorem QA {e:EV}{gx:GR}(hl:LM w B p l)(a0:l.G.Pairwise ltG)(ar:∀k,k<6→(l.R.getD k []).length≤m)(hm:m≤900)(hB:B≤w.heap.size)(ho:1≤e.o∧e.o≤6)(ag:l.G[c]? = some gx)(he:blk w eb 54 (evC e))(q0:Y1=.pointer (some ⟨p,0,none⟩))(q3:V2=.pointer (some ⟨eb,0,none⟩))(qk:W2=.int .i64 (c:Nat))(al:∀w' l',LM w' B p l'→toP l'={toP l with G:=l.G.map (nD gx.o gx.q e.r),R:=l.R.set (e.o-1).toNat (l.R.getD (e.o-1).toNat []++[e.r])}→l'.T=l.T→Below B w w'→K (.int .i64 0) w'):bR K ((bx Y1 Z1 U2 V2 W2 X2 Y2 Z2 U3 V3 zf)) w:=by
 subst q0 q3 qk;refine xC ?_;have hl:=hl.drew;have he:=he.drew;have a3:c<l.G.length:=(List.getElem?_eq_some_iff.1 ag).1;obtain⟨g,a9,ha,op⟩:=cq hl.gr (by omega)
 refine aa (fun _=>ai) <|aa (fun _=>bq) <|aa (fun _=>fj) <|aa (v:=.slice l.ga l.G.length l.gc) (fun _=>lK hl.cl hl.cG) <|aa (fun _=>ic) <|aa (v:=u6 e.r) (fun _=>lK he rfl) <|aa (v:=.pointer (some ⟨g,c*5,none⟩)) (fun _=>pj ha underlying43 (fun _=>by kernel_rfl) a3) <|aa (fun _=>GP) ?_;refine Wo hl ag op ha rfl fun w2 am o2=>?_
 have k2:Keep Ew B w w2:=(Keep.of (B:=B) (Below.refl _ w).drew).trans (o2.keep op.blk (by simp) op.lo);have B2:Below B w w2:=k2.below hB;have u:blk w2 eb 54 (evC e):=o2.blk he (fun hh=>he.ne op.blk (by decide) hh);generalize J:SI l c {gx with b:=e.r} = U2 at am;have r1:U2.T=l.T:=by rw[←J];rfl
 have r2:U2.R=l.R:=by rw[←J];rfl
 have r5:toP U2={toP l with G:=l.G.map (nD gx.o gx.q e.r)}:=by rw[←J, ←So a0 ag];rfl
 obtain⟨j,hj⟩:∃j:Nat,j=(e.o-1).toNat:=⟨_,rfl⟩
 have I:j<6:=by omega
 have O:=am.drew;obtain⟨qa,qc,hq,ap⟩:=O.rq j I;have az:(lgC U2)[0+21+j]? = some (.slice qa (U2.R.getD j []).length qc):=by rw[Nat.zero_add];exact O.cQ.trans hq
 have a7:=ar j I;rw[←r2]at a7
 refine aw (fun z=>blk z p 123 (lgC U2)∧blk z eb 54 (evC e)) ⟨O.cl,u.drew⟩ <|ab (fun z h _=>bD) <|ab (v:=iv e.o) (fun z h _=>lK h.2 rfl) <|ab (v:=.int .i64 ((j:Nat):Int)) (fun z h K d=>bh (by omega) (by omega) (by rw[show (e.o-1)=(j:Nat)by omega];exact d)) <|ab (fun z h _=>bD) <|ab (v:=iv e.o) (fun z h _=>lK h.2 rfl) <|ab (v:=.int .i64 ((j:Nat):Int)) (fun z h K d=>bh (by omega) (by omega) (by rw[show (e.o-1)=(j:Nat)by omega];exact d)) <|ab (fun z h _=>ai) <|ab (fun z h _=>qS) <|ab (fun z h _=>ixQ rfl I) <|ab (v:=.slice qa (U2.R.getD j []).length qc) (fun z h _=>lK h.1 az) <|ab (fun z h _=>ic) <|ab (v:=u6 e.r) (fun z h _=>lK h.2 rfl) <|ab (fun z h _=>ai) <|ab (fun z h _=>qS) ?_
 refine mY (vs:=[u6 e.r]) underlying120 (s:=1) (by kernel_rfl) (by kernel_rfl) (by omega) rfl (by simp) (by simp) (by simp) (by simp[Value.cells,u6]) fun w4 h4 b4 s4=>?_;have h4:blk w4 w2.drew.heap.size 31 (uC e.r):=by simpa[Value.cells,u6,uC]using h4
 have U:=O.fresh b4;have B4:Below B w w4:=B2.drew.trans (b4.mono (Nat.le_trans hB B2.size));refine aE ⟨U.cl,ac b4 u.drew u.drew.lt⟩ ?_;have M:=cJ ap fun b hb=>b4.block b (World.ownsRow.lt ap b hb).2;obtain⟨ii,a2,h,a8,av⟩:=info_parts Bv
 refine tf (base:=B) (enc:=uC) (x:=e.r) underlying120 a2 h a8 av rfl (by omega) (fun _=>rfl) M h4 (MQ _) (by omega) (by omega) (Nat.le_trans hB B4.size) fun a5 c5 w5 a6 ad b5 an=>?_;have X:=fL U.cl M (by decide) ad;have aS:blk w5 eb 54 (evC e):=fL (ac b4 u.drew u.drew.lt) M (by decide) ad;refine aE ⟨X,aS⟩ <|ab (fun z h _=>ixQ rfl I) ?_
 refine eB (fun _=>by kernel_rfl) X (by rw[U.ll];omega) rfl fun w6 Z o6=>?_;rw[show 0+21+j=21+j by omega]at Z;have a4:=U.req' I hq ad a6 an Z o6;refine al w6 _ a4 ?_ r1 (B4.trans (bG b5 o6 hl.lo));have e6:∀(q:List Value) (R:List (List Int)),toP {U2 with q:=q,R:=R} = {toP U2 with R:=R}:=fun _ _=>rfl;rw[e6,r5,r2,hj]
theorem Sq {e:EV}(hl:LM w B p l)(M:XI l m)(Z:e.k=4)(hm:m≤900)(hB:B≤w.heap.size)(ho:1≤e.o∧e.o≤6)(j:∀w',eU e (toP l)≠0→Below B w w'→K (.int .i64 (eU e (toP l))) w')(ag:∀w' l',eU e (toP l)=0→LM w' B p l'→toP l'=su e (toP l)→l'.T=tr l'.s.nodes→Below B w w'→K (.int .i64 0) w'):call Tryz.prog 121 #[.pointer (some ⟨p,0,none⟩),.agg (evC e).toArray] K w:=by
 refine aj (goK func121) (yP ?_);refine cv fun w1 he b1 s1=>?_;have he:blk w1 w.heap.size 54 (evC e):=by simpa[Value.cells]using he
 have d:=hl.fresh b1;have B1:Below B w w1:=b1.mono hB;have bt:B≤w1.heap.size:=Nat.le_trans hB B1.size;have bi:=M.rn;have b6:=M.tl
 have J:eU e (toP l)=if jB l.R e.q e.r=true then 14 else match iQ l.G e.o e.f with|none=>12|some g=>if g.b≠0 then 12 else lf (fun A=>(iH A e.o g.a).2) l.s.nodes (di l.s.nodes g.n):=by unfold eU;rw[if_neg (by omega),if_neg (by omega),if_neg (by omega),if_pos Z];rfl
 have b4:=M.gn;refine bD <|lK (v:=iv e.o) he rfl <|ic <|lK (v:=u6 e.r) he rfl <|MW d ho (fun k hk=>Nat.le_trans (bi k hk) (by omega)) ?_;cases hb:jB l.R (e.o-1).toNat e.r with
 | true =>
  rw[if_pos (show jB l.R e.q e.r=true from hb)]at J;rw[J]at j;exact bu (j w1 (by decide) B1)
 | false =>
  rw[if_neg (show ¬jB l.R e.q e.r=true from by rw[show jB l.R e.q e.r=false from hb];simp)]at J;refine aO <|bD <|lK (v:=iv e.o) he rfl <|pZ <|lK (v:=u6 e.f) he rfl ?_;refine Sr d (by omega) (fun bb=>?_) fun k5 gx O I=>?_
  ·rw[bb]at J;replace J:eU e (toP l)=12:=J;rw[J]at j;refine aM <|jy (by omega) <|bO (by omega) <|bu ?_;exact j w1 (by decide) B1
  rw[I]at J;refine aM ?_;have am : ¬((k5:Nat):Int)<0:=by omega
  refine dX am ?_;have a7:k5<l.G.length:=(List.getElem?_eq_some_iff.1 O).1;refine ai <|bq <|fj <|lK (v:=.slice l.ga l.G.length l.gc) d.cl d.cG ?_;refine rd3 (enc:=grC) (s:=5) (f':=4) (v:=u6 gx.b) underlying43 (fun _=>by kernel_rfl) iI (fun _=>by kernel_rfl) (by kernel_rfl) (by omega) d.gr rfl O rfl fun _ _=>?_;refine bN <|bw am ?_;by_cases X:gx.b≠0
  ·simp only[if_pos X]at J;rw[J]at j;exact ax X (j w1 (by decide) B1)
  simp only[if_neg X]at J;rw[J]at j;obtain⟨a3,a4,a6⟩:=sC I;obtain⟨a2,b3,ap,_⟩:=M.pi.gk gx a3;have be:dh l.T gx.n=di l.s.nodes gx.n:=by rw[M.t];rfl
  have al:bU l.s.nodes gx.n=true:=a2;refine aq X ?_;obtain⟨rk,bk⟩:=M.tk;obtain⟨gg,cg,av,an⟩:=cq d.drew.gr (by omega);have az:cg[k5*5+2]? = some (u6 gx.n):=an.cell iI rfl O (show 2<5 by omega)
  refine aw (fun y=>blk y p 123 (lgC l)∧blk y gg 126 cg) ⟨d.cl.drew,an.blk⟩ <|ab (fun y U _=>ai) <|ab (fun y U _=>wC) <|ab (v:=.pointer (some ⟨l.t,0,none⟩)) (fun y U _=>lK U.1 d.cT) <|ab (fun y U _=>ai) <|ab (fun y U _=>bq) <|ab (fun y U _=>fj) <|ab (v:=.slice l.ga l.G.length l.gc) (fun y U _=>lK U.1 d.cG) <|ab (v:=.pointer (some ⟨gg,k5*5,none⟩)) (fun z hz _=>pj av underlying43 (fun _=>by kernel_rfl) a7) <|ab (fun z hz _=>Lx) <|ab (v:=u6 gx.n) (fun z hz _=>lK hz.2 az) ?_
  refine Gf bk d.drew.tm (by omega) fun w2 a c hP b2=>?_;rw[be]at hP ⊢;have a8:=d.drew.fresh b2;have aS:=ac b2 he.drew he.drew.lt;have B2:Below B w w2:=B1.drew.trans (b2.mono bt);refine aw (fun _=>True) trivial <|xz ?_;have b5:(di l.s.nodes gx.n).length≤4:=by
   obtain⟨x,hx,bs⟩:=pR al;rw[←bs];exact M.pi.dep x hx
  have bW:gx.a≤1125899906842624:=ap;refine Qz (P:=di l.s.nodes gx.n) a8 M (Nat.le_trans hB B2.size) O (by omega) aS hP (by omega) (fun y U=>mR U) (Mp M.pi.tk) rfl rfl rfl rfl rfl (fun w' hv b=>j w' hv (B2.trans b)) ?_;intro l0 e1 l2 e3 b7 p6 i7 n8 r9 b0 zf w3 l3 q0 q3 qk a9 u ar a0 B3;have ad:=B2.trans B3
  refine QA (m:=m) a9 (by rw[u.G];exact M.pi.gs) (by rw[u.R];exact M.rn) hm (Nat.le_trans hB ad.size) ho (by rw[u.G];exact O) a0 q0 q3 qk fun w' l' h1 h2 h3 h4=>ag w' l' (J.trans ar) h1 ?_ ?_ (ad.trans h4)
  ·have bd:gOf (toP l) e=gx:=by unfold gOf;rw[show iQ (toP l).G e.o e.f=some gx from I];rfl
   rw[h2,u.P,u.G,u.R,a4,a6];unfold su nop gop nO nP kZ;rw[bd,if_neg (by omega),if_neg (by omega),if_neg (by omega),if_pos Z,if_neg (by omega),if_pos Z,if_neg (by omega),if_neg (by omega),if_pos (.inr Z)];rfl
  ·rw[h3,u.tr M.t];exact congrArg (fun s=>tr (PL.N s)) h2.symm
end
theorem Ll {N:List ND}{x:ND}(d:N.Pairwise (·.id < ·.id))(h:N[i]? = some x):N.set i {x with A:=x.A.set c (nA x.A c+v)} = N.map (dR [x.id] c v):=by
 have:=(Lm (ids:=[]) (c:=c) (v:=v) d (by rw[GL];exact h) (by simp)).2
 rw[GL]at this;exact this
section
variable {w:World}{K:KV}{B p:Nat}{l:LG}
theorem MX {x:ND}{f:Int}(j:LM w B p l)(hB:B≤w.heap.size)(X:l.s.nodes[i]? = some x)(h:xs.length=54)(O:blk w b 50 (xs.map iv))(q0:Y1=.pointer (some ⟨p,0,none⟩))(q6:X2=.int .i64 (i:Nat))(q7:Y2=.pointer (some ⟨b,0,none⟩))(q8:Z2=.int .i64 f)(J:∀w',f≠0→Below B w w'→K (.int .i64 f) w')(u:∀w',f=0→LM w' B p (BB l i {x with A:=xs})→Below B w w'→K (.int .i64 0) w'):gR K ((bI Y1 Z1 U2 V2 W2 X2 Y2 Z2 U3 V3 W3 X3 Y3 Z3 j4 U4 V4 W4 X4 Y4 Z4 U5 V5 W5 zf)) w:=by
 subst q0 q6 q7 q8;refine yl <|bN ?_;by_cases I:f≠0
 ·exact ax I (J w I (Below.refl _ _))
 refine aq I ?_;have j:=j.drew;have O:=O.drew;have hi:i<l.s.nodes.length:=(List.getElem?_eq_some_iff.1 X).1;obtain⟨g,ad,U,Z⟩:=cq j.nd (by omega)
 refine aa (fun _=>ai) <|aa (fun _=>bq) <|aa (fun _=>eA) <|aa (v:=.slice l.s.na l.s.nodes.length l.s.nc) (fun _=>lK j.cl j.cN) <|aa (v:=.agg (xs.map iv).toArray) (fun _=>ldA (n:=54) (vs:=xs.map iv) underlying50 rfl (by kernel_rfl) O (by rw[List.drop_zero,List.take_of_length_le (by simp[h])]) (by simp[h])) <|aa (v:=.pointer (some ⟨g,i*56,none⟩)) (fun _=>pj U underlying42 (fun _=>by kernel_rfl) hi) <|aa (fun _=>qb) ?_
 refine Pb j X h Z U rfl fun w' M o'=>?_;refine jO ?_;exact u w' (by simpa using I) M (bG (Below.refl _ w).drew o' Z.lo)
theorem Us {e:EV}(hl:LM w B p l)(hg:XI l m)(hm:m≤900)(hB:B≤w.heap.size)(Z:dK e=true)(b8:ey l.s.V e=true)(b5:∀w',eU e (toP l)≠0→Below B w w'→K (.int .i64 (eU e (toP l))) w')(bi:∀w' l',eU e (toP l)=0→LM w' B p l'→toP l'=su e (toP l)→l'.T=tr l'.s.nodes→Below B w w'→K (.int .i64 0) w'):call Tryz.prog 87 #[.pointer (some ⟨p,0,none⟩),.agg (evC e).toArray] K w:=by
 obtain⟨a6,a7,b9,ca⟩:=gC Z;have cc:=Vj Z;obtain⟨q,hq⟩:∃q:Nat,q=(e.o-1).toNat:=⟨_,rfl⟩
 have al:q<6:=by omega
 have cg:=hg.n30;have a8:e.q=q:=hq.symm;refine aj (goK func87) (Ab ?_);refine cv fun w1 he b1 s1=>?_;have he:blk w1 w.heap.size 54 (evC e):=by simpa[Value.cells]using he
 have U:=hl.fresh b1;have B1:Below B w w1:=b1.mono hB;have an:B≤w1.heap.size:=Nat.le_trans hB B1.size;have j:∀w',eU e (toP l)≠0→Below B w1 w'→K (.int .i64 (eU e (toP l))) w':=fun w' hv b=>b5 w' hv (B1.trans b);have J:∀w' l',eU e (toP l)=0→LM w' B p l'→toP l'=su e (toP l)→l'.T=tr l'.s.nodes→Below B w1 w'→K (.int .i64 0) w':=fun w' l' h0 h1 h2 h3 b=>bi w' l' h0 h1 h2 h3 (B1.trans b)
 refine ns <|lK (v:=kv8 e.k) he rfl <|yj <|bg ?_;by_cases k1:e.k=1
 ·refine ax k1 <|ldA (n:=14) (vs:=evC e) underlying54 rfl (by kernel_rfl) he rfl rfl ?_;exact Ss U hg k1 Z b8 an ⟨a6,a7⟩ ⟨b9,ca⟩ j J
 refine aq k1 <|bg ?_;by_cases k2:e.k=2
 ·refine ax k2 ?_;have O:eU e (toP l)=if bU (toP l).N e.n=false then 9 else if M47<nA (aN (toP l).N e.n) e.q+e.a then 6 else 0:=by unfold eU;rw[if_neg k1,if_pos k2]
  refine eW <|lK (v:=u6 e.n) he rfl <|FX U (by omega) ?_;cases hh:bU l.s.nodes e.n with
  | false =>
   rw[if_pos (show bU (toP l).N e.n=false from hh)]at O;rw[O]at j;rw[Pr hh];refine aM ?_;exact ax (by omega) (j w1 (by decide) (Below.refl _ _))
  | true =>
  rw[if_neg (show ¬bU (toP l).N e.n=false from by rw[show bU (toP l).N e.n=true from hh];simp)]at O;obtain⟨x,hx,hi,ad⟩:=Gc hh;have a2:fdN l.s.nodes e.n=(posN l.s.nodes e.n:Nat):=by unfold fdN;rw[if_pos hi]
  rw[a2];generalize posN l.s.nodes e.n=i at hx hi;have a0:aN (toP l).N e.n=x.A:=by rw[←ad];exact te hg.pi.srt (List.mem_of_getElem? hx)
  rw[a0,a8]at O;refine aM <|aq (by omega) ?_;have h:=U.drew;have M:=he.drew;have am:=U.A54 x (List.mem_of_getElem? hx);obtain⟨g,bd,ha,op⟩:=cq h.nd (by omega);have b0:=hg.pi.may x (List.mem_of_getElem? hx);have ce:=(uP.1 b0.1).g q al;have bW:=b0.2 q al;have a9:IntKind.i64.wrap (nA x.A q+e.a)=nA x.A q+e.a:=eK (by simp only[M47]at bW;omega) (by simp only[M47]at bW;omega)
  have bk:bd[i*56+2+0+q]? = some (iv (nA x.A q)):=by
   have:=op.cell fC rfl hx (show 2+q<56 by omega)
   rw[show i*56+2+0+q=i*56+(2+q)by omega,this,Cx am];unfold ndC;rw[show 2+q=(q+1)+1 by omega,List.getElem?_cons_succ,List.getElem?_cons_succ];exact qF (by omega)
  refine aa (fun _=>ai) <|aa (fun _=>bq) <|aa (fun _=>eA) <|aa (v:=.slice l.s.na l.s.nodes.length l.s.nc) (fun _=>lK h.cl h.cN) <|aa (fun _=>bD) <|aa (v:=iv e.o) (fun _=>lK M rfl) <|aa (v:=.int .i64 ((q:Nat):Int)) (fun K d=>bh (by omega) (by omega) (by rw[show (e.o-1)=(q:Nat)by omega];exact d)) <|aa (v:=.pointer (some ⟨g,i*56,none⟩)) (fun _=>pj ha underlying42 (fun _=>by kernel_rfl) hi) <|aa (fun _=>qb) <|aa (fun _=>sx) <|aa (fun _=>ixR rfl al) <|aa (v:=iv (nA x.A q)) (fun _=>lK op.blk bk) <|aa (fun _=>dT) <|aa (v:=iv e.a) (fun _=>lK M rfl) <|aa (fun _=>jS) <|aa (fun _=>de) ?_
  refine vl (fun hd=>?_) (fun hd=>?_)
  ·rw[a9]at hd;rw[if_pos (of_decide_eq_true hd)]at O;rw[O]at j;exact j _ (by decide) (Below.refl _ w1).drew
  rw[a9]at hd;rw[if_neg (of_decide_eq_false hd)]at O;have a4:=h.drew;have bt:=M.drew;have bb:Opn w1.drew.drew B 52 56 l.s.nodes.length l.s.nc g bd (l.s.nodes.flatMap ndE):=⟨op.blk,op.lo,op.nc,op.cm,op.len,op.take,op.xl⟩
  refine aa (fun _=>ai) <|aa (fun _=>bq) <|aa (fun _=>eA) <|aa (v:=.slice l.s.na l.s.nodes.length l.s.nc) (fun _=>lK a4.cl a4.cN) <|aa (fun _=>bD) <|aa (v:=iv e.o) (fun _=>lK bt rfl) <|aa (v:=.int .i64 ((q:Nat):Int)) (fun K d=>bh (by omega) (by omega) (by rw[show (e.o-1)=(q:Nat)by omega];exact d)) <|aa (v:=.pointer (some ⟨g,i*56,none⟩)) (fun _=>pj ha underlying42 (fun _=>by kernel_rfl) hi) <|aa (fun _=>qb) <|aa (fun _=>sx) <|aa (fun _=>ixR rfl al) <|aa (v:=iv (nA x.A q)) (fun _=>lK bb.blk bk) <|aa (fun _=>dT) <|aa (v:=iv e.a) (fun _=>lK bt rfl) <|aa (fun _=>jS) <|aa (v:=.pointer (some ⟨g,i*56,none⟩)) (fun _=>pj ha underlying42 (fun _=>by kernel_rfl) hi) ?_
  refine aa (fun _=>qb) <|aa (fun _=>sx) <|aa (fun _=>ixR rfl al) ?_;refine Wp (q:=q) a4 hx (by omega) bb ha (by omega) fun w' ar o'=>?_;refine jO ?_;rw[a9]at ar;have hN:=Ll (N:=l.s.nodes) (c:=q) (v:=e.a) hg.pi.srt hx;have hP:toP (BB l i {x with A:=x.A.set q (nA x.A q+e.a)})=su e (toP l):=by
   have:su e (toP l)={toP l with N:=l.s.nodes.map (dR [e.n] q e.a)}:=by
    unfold su nop gop nO nP kZ;rw[if_neg k1,if_pos k2,if_neg (by omega),if_neg (by omega),if_neg (by omega),if_neg (by omega),if_neg (by omega),a8];rfl
   rw[this, ←ad, ←hN];rfl
  refine J w' _ O ar hP ?_ (bG (Below.refl _ w1).drew.drew o' bb.lo);show l.T=tr (l.s.nodes.set i _);rw[hN,FB fun y=>gV y];exact hg.t
 refine aq k2 <|bg <|yk ?_;by_cases k3:e.k=3
 ·refine ax k3 <|ldA (n:=14) (vs:=evC e) underlying54 rfl (by kernel_rfl) he rfl rfl ?_;exact Su U hg k3 hm an ⟨a6,a7⟩ (by omega) j J
 refine aq k3 <|bg ?_;by_cases k4:e.k=4
 ·refine ax k4 <|ldA (n:=14) (vs:=evC e) underlying54 rfl (by kernel_rfl) he rfl rfl ?_;exact Sq U hg k4 hm an ⟨a6,a7⟩ j J
 refine aq k4 <|bg ?_;by_cases k5:e.k=5
 ·refine ax k5 ?_;have O:eU e (toP l)=if bU (toP l).N e.n=false then 9 else if (toP l).I.getD (e.t-1).toNat false=false then 10 else (kQ (aN (toP l).N e.n) e.o e.t e.a).2:=by unfold eU;rw[if_neg k1,if_neg k2,if_neg k3,if_neg k4,if_pos k5]
  have hT:1≤e.t∧e.t≤6:=by have:=qC Z;omega
  refine eW <|lK (v:=u6 e.n) he rfl <|FX U (by omega) ?_;cases hh:bU l.s.nodes e.n with
  | false =>
   rw[if_pos (show bU (toP l).N e.n=false from hh)]at O;rw[O]at j;rw[Pr hh];refine aM ?_;exact ax (by omega) (j w1 (by decide) (Below.refl _ _))
  | true =>
  rw[if_neg (show ¬bU (toP l).N e.n=false from by rw[show bU (toP l).N e.n=true from hh];simp)]at O;obtain⟨x,hx,hi,ad⟩:=Gc hh;have a2:fdN l.s.nodes e.n=(posN l.s.nodes e.n:Nat):=by unfold fdN;rw[if_pos hi]
  rw[a2];generalize posN l.s.nodes e.n=i at hx hi;have a0:aN (toP l).N e.n=x.A:=by rw[←ad];exact te hg.pi.srt (List.mem_of_getElem? hx)
  rw[a0]at O;refine aM <|aq (by omega) ?_;have h:=U.drew;have M:=he.drew;refine aa (fun _=>iD) <|aa (v:=iv e.t) (fun _=>lK M rfl) <|aa (fun _=>aM) ?_;have t1 : ¬e.t<1:=by omega
  refine dX t1 <|aa (fun _=>iD) <|aa (v:=iv e.t) (fun _=>lK M rfl) <|aa (fun _=>de) <|aa (fun _=>bw t1) ?_;have t2 : ¬6<e.t:=by omega
  refine dX t2 ?_;obtain⟨u,hu⟩:∃u:Nat,u=(e.t-1).toNat:=⟨_,rfl⟩
  have av:u<6:=by omega
  refine aa (fun _=>iD) <|aa (v:=iv e.t) (fun _=>lK M rfl) <|aa (v:=.int .i64 ((u:Nat):Int)) (fun K d=>bh (by omega) (by omega) (by rw[show (e.t-1)=(u:Nat)by omega];exact d)) <|aa (fun _=>ai) <|aa (fun _=>bq) <|aa (fun _=>uO) <|aa (fun _=>ixB rfl av) <|aa (v:=.bool (l.s.I.getD u false)) (fun _=>lK h.cl (by rw[show 0+0+0+u=u by omega];exact h.cI av)) <|aa (fun _=>dB) <|aa (fun _=>bw t2) ?_
  refine vl (fun hd=>?_) (fun hd=>?_)
  ·rw[if_pos (show (toP l).I.getD (e.t-1).toNat false=false from by rw[←hu];show l.s.I.getD u false=false;simpa using hd)]at O;rw[O]at j;exact j _ (by decide) (Below.refl _ w1).drew
  rw[if_neg (show ¬(toP l).I.getD (e.t-1).toNat false=false from by rw[←hu];show ¬l.s.I.getD u false=false;simpa using hd)]at O;rw[O]at j;have h:=h.drew;have M:=M.drew;have am:=U.A54 x (List.mem_of_getElem? hx);obtain⟨gn,cn,b6,aS⟩:=cq h.nd (by omega);have bs:(cn.drop (i*56+2)).take 54=x.A.map iv:=by
   have:=aS.elem fC rfl hx
   rw[←List.drop_drop];have h3:((cn.drop (i*56)).take 56).drop 2=((cn.drop (i*56)).drop 2).take 54:=by rw[List.drop_take]
   rw[←h3,this];unfold ndE;rw[Cy am];rfl
  refine aw (fun z=>blk z p 123 (lgC l)∧blk z gn 52 cn∧blk z w.heap.size 54 (evC e)) ⟨h.cl,aS.blk,M⟩ <|ab (fun z X _=>ai) <|ab (fun z X _=>bq) <|ab (fun z X _=>eA) <|ab (v:=.slice l.s.na l.s.nodes.length l.s.nc) (fun z X _=>lK X.1 h.cN) <|ab (v:=.pointer (some ⟨gn,i*56,none⟩)) (fun z X _=>pj b6 underlying42 (fun _=>by kernel_rfl) hi) <|ab (fun z X _=>qb) <|ab (v:=.agg (x.A.map iv).toArray) (fun z X _=>ldA (n:=54) (vs:=x.A.map iv) underlying50 rfl (by kernel_rfl) X.2.1 bs (by simp[am])) <|ab (fun z X _=>bD) <|ab (v:=iv e.o) (fun z X _=>lK X.2.2 rfl) <|ab (fun z X _=>iD) <|ab (v:=iv e.t) (fun z X _=>lK X.2.2 rfl) <|ab (fun z X _=>dT) <|ab (v:=iv e.a) (fun z X _=>lK X.2.2 rfl) ?_
  have az:((kQ x.A e.o e.t e.a).1).length=54:=PU am;have b7:=Mf (A:=x.A) (o:=e.o) (t:=e.t) (a:=e.a);have be:(kQ x.A e.o e.t e.a).2=0→∀w',LM w' B p (BB l i {x with A:=(kQ x.A e.o e.t e.a).1})→Below B w1 w'→K (.int .i64 0) w':=fun h0 w' ar b=>by
   rw[b7 h0]at ar;have hN:=Ll (N:=l.s.nodes) (c:=18+6*(e.o-1).toNat+(e.t-1).toNat) (v:=e.a) hg.pi.srt hx;refine J w' _ (O.trans h0) ar ?_ ?_ b
   ·have:su e (toP l)={toP l with N:=l.s.nodes.map (dR [e.n] (18+6*(e.o-1).toNat+(e.t-1).toNat) e.a)}:=by
     unfold su nop gop nO nP kZ;rw[if_neg k1,if_neg k2,if_neg k3,if_neg k4,if_pos k5,if_neg k3,if_neg k4,if_neg (by omega),if_neg (by omega),if_neg (by omega)];rfl
    rw[this, ←ad, ←hN];rfl
   ·show l.T=tr (l.s.nodes.set i _);rw[hN,FB fun y=>gV y];exact hg.t
  have D2:Below B w1 w1.drew.drew:=(Below.refl _ w1).drew.drew;refine⟨?_,?_⟩
  ·refine Mx am (by omega) fun w3 b3=>?_;refine aw (fun _=>True) trivial <|ab (fun z X _=>cZ) <|ab (fun z X _=>db) ?_;refine dZ (z:=.agg (z54.map iv).toArray) (by kernel_rfl) fun w4 h4 b4 s4=>?_;have h4:blk w4 w3.heap.size 50 (z54.map iv):=by simpa[Value.cells]using h4
   refine aE trivial ?_;refine jP (n:=54) (vs:=(kQ x.A e.o e.t e.a).1.map iv) (by kernel_rfl) (by simp[az]) h4 (by show 0+54≤54;omega) (vA _) fun w5 h5 o5=>?_;refine aE trivial ?_;have a3:blk w5 w3.heap.size 50 ((kQ x.A e.o e.t e.a).1.map iv):=by
    rw[List.take_zero,List.nil_append,List.drop_of_length_le (by show 54≤0+54;omega),List.append_nil]at h5;exact h5
   have B5:Below w1.drew.drew.heap.size w1.drew.drew w5:=b3.trans (bG (b4.mono b3.size) o5 b3.size);have ag:Below B w1 w5:=D2.trans (B5.mono an);exact MX (h.fresh B5) (Nat.le_trans an ag.size) hx az a3 rfl rfl rfl rfl (fun w' hv b=>j w' hv (ag.trans b)) (fun w' h0 h1 b=>be h0 w' h1 (ag.trans b))
  ·refine dZ (z:=.agg (z54.map iv).toArray) (by kernel_rfl) fun w3 h3 b3 s3=>?_;have h3:blk w3 w1.drew.drew.heap.size 50 (z54.map iv):=by simpa[Value.cells]using h3
   refine aE ⟨ac b3 h.cl h.cl.lt,ac b3 aS.blk aS.blk.lt,ac b3 M M.lt⟩ ?_;refine Mx am (by omega) fun w4 b4=>?_;have h4:=ac b4 h3 h3.lt;refine aw (fun _=>True) trivial <|ab (fun z X _=>cZ) <|ab (fun z X _=>db) ?_;refine jP (n:=54) (vs:=(kQ x.A e.o e.t e.a).1.map iv) (by kernel_rfl) (by simp[az]) h4 (by show 0+54≤54;omega) (vA _) fun w5 h5 o5=>?_;refine aE trivial ?_
   have a3:blk w5 w1.drew.drew.heap.size 50 ((kQ x.A e.o e.t e.a).1.map iv):=by
    rw[List.take_zero,List.nil_append,List.drop_of_length_le (by show 54≤0+54;omega),List.append_nil]at h5;exact h5
   have B5:Below w1.drew.drew.heap.size w1.drew.drew w5:=bG (b3.trans (b4.mono b3.size)) o5 (Nat.le_refl _);have ag:Below B w1 w5:=D2.trans (B5.mono an);exact MX (h.fresh B5) (Nat.le_trans an ag.size) hx az a3 rfl rfl rfl rfl (fun w' hv b=>j w' hv (ag.trans b)) (fun w' h0 h1 b=>be h0 w' h1 (ag.trans b))
 refine aq k5 <|bg <|ym ?_;have h:=U.drew;have M:=he.drew;have D1:Below B w1 w1.drew:=(Below.refl _ w1).drew;have O:eU e (toP l)=0:=by unfold eU;rw[if_neg k1,if_neg k2,if_neg k3,if_neg k4,if_neg k5]
 have hF:su e (toP l)={toP l with I:=nO e l.s.I,L:=nP e l.s.L}:=by
  unfold su nop gop kZ;rw[if_neg k1,if_neg k2,if_neg k3,if_neg k4,if_neg k5,if_neg k3,if_neg k4,if_neg (by omega)];rfl
 by_cases k6:e.k=6
 ·refine ax k6 ?_;obtain⟨t1,t2⟩:=Vk Z k6;obtain⟨u,hu⟩:∃u:Nat,u=(e.t-1).toNat:=⟨_,rfl⟩
  have av:u<6:=by omega
  refine aa (fun _=>iD) <|aa (v:=iv e.t) (fun _=>lK M rfl) <|aa (v:=.int .i64 ((u:Nat):Int)) (fun K d=>bh (by omega) (by omega) (by rw[show (e.t-1)=(u:Nat)by omega];exact d)) <|aa (fun _=>ai) <|aa (fun _=>bq) <|aa (fun _=>uO) <|aa (fun _=>ixB rfl av) ?_;refine eB (fun _=>by kernel_rfl) h.cl (by rw[h.ll];omega) rfl fun w3 ap o3=>?_;rw[show 0+0+0+u=u by omega]at ap;refine jO ?_
  exact J w3 _ O (h.setI av ap o3) (by rw[hF];unfold nO nP;rw[if_pos k6,if_neg (by omega), ←hu];rfl) hg.t (bG D1 o3 h.lo)
 refine aq k6 <|bg ?_;by_cases k7:e.k=7
 ·refine ax k7 <|aa (fun _=>bD) <|aa (v:=iv e.o) (fun _=>lK M rfl) <|aa (v:=.int .i64 ((q:Nat):Int)) (fun K d=>bh (by omega) (by omega) (by rw[show (e.o-1)=(q:Nat)by omega];exact d)) <|aa (fun _=>ai) <|aa (fun _=>bq) <|aa (fun _=>zR) <|aa (fun _=>ixB rfl al) ?_;refine eB (fun _=>by kernel_rfl) h.cl (by rw[h.ll];omega) rfl fun w3 ap o3=>?_;rw[show 0+0+6+q=6+q by omega]at ap;refine jO ?_
  exact J w3 _ O (h.setL al ap o3) (by rw[hF];unfold nO nP;rw[if_neg k6,if_pos k7,a8];rfl) hg.t (bG D1 o3 h.lo)
 refine aq k7 <|jO ?_;exact absurd (qC Z) (by omega)
end
theorem LO {x:GR}:∀{G:List GR},(iS x G).length=G.length+1
 | []=>rfl
 | y::G=>by
  unfold iS;split
  ·rfl
  ·rw[List.length_cons,LO];rfl
theorem XI.apply {l l':LG}{e:EV}(h:XI l (sV l.s.V))(d:toP l'=jL e (toP l))(M:l'.T=tr l'.s.nodes):XI l' (sV l'.s.V):=by
 unfold jL at d;split at d
 ·rename_i Z;have ok:=(vc h.pi).1 Z;have I:=(qe ok.may).1;have j:l'.s.V=ED e l.s.V:=congrArg PL.V d;have O:l'.G=(gop e).ap l.G:=congrArg PL.G d;have X:l'.R=kZ e l.R:=congrArg PL.R d;have J:sV l'.s.V=sV l.s.V+1:=by
   rw[j];exact Vy h.pi.v6 (fun k u=>(h.pi.vb k u).1) I
  refine⟨d ▸ h.pi.eff ok,M,?_,fun k u=>?_⟩
  ·rw[J,O]
   have:=h.gn
   cases gop e with
   | ins x=>show (iS x l.G).length≤_;rw[LO];omega
   | upd o q b=>show (l.G.map _).length≤_;rw[List.length_map];omega
   | non=>show l.G.length≤_;omega
  ·rw[J,X]
   have:=h.rn k u
   unfold kZ;split
   ·rw[Bu (by rw[show l.R.length=6 from h.pi.r6];exact I)];split
    ·rename_i hh;subst hh;rw[List.length_append];show (l.R.getD e.q []).length+1≤_;omega
    ·omega
   ·omega
 ·have j:l'.s.V=l.s.V:=congrArg PL.V d;have U:l'.s.nodes=l.s.nodes:=congrArg PL.N d;rw[j];exact h.eq d (by rw[M,U,h.t])
section
variable {w:World}{K:KV}{B p:Nat}{l:LG}
theorem Ie {e:EV}(hl:LM w B p l)(hg:XI l (sV l.s.V))(hm:sV l.s.V≤900)(h:∀w' B' p' l',LM w' B' p' l'→XI l' (sV l'.s.V)→toP l'=jL e (toP l)→Below w.heap.size w w'→K (.tuple #[.pointer (some ⟨p',0,none⟩),.int .i64 (np e (toP l))]) w'):call Tryz.prog 48 #[.pointer (some ⟨p,0,none⟩),.agg (evC e).toArray] K w:=by
 refine aj (goK func48) (yN ?_);refine cv fun w1 he b1 s1=>?_;have he:blk w1 w.heap.size 54 (evC e):=by simpa[Value.cells]using he
 have be:=hl.fresh b1;have no:∀w',np e (toP l)≠0→Below w.heap.size w w'→K (.tuple #[.pointer (some ⟨p,0,none⟩),.int .i64 (np e (toP l))]) w':=fun w' hf b=>h w' B p l (hl.fresh b) hg (by unfold jL;rw[if_neg hf]) b;have am:=hg.pi.vb;refine ldA (n:=14) (vs:=evC e) underlying54 rfl (by kernel_rfl) he rfl rfl ?_;refine OA fun w2 b2=>?_;have B2:Below w.heap.size w w2:=b1.trans (b2.mono b1.size)
 have ar:=ac b2 he he.lt;have ag:=hl.fresh B2;refine dB ?_;cases j:dK e with
 | false =>
  rw[show np e (toP l)=1 from by unfold np;rw[if_pos j]]at no;exact bu (no w2 (by decide) B2)
 | true =>
 refine aO ?_;obtain⟨bi,bk,bs,bt⟩:=gC j;obtain⟨q,hq⟩:∃q:Nat,q=(e.o-1).toNat:=⟨_,rfl⟩
 have J:q<6:=by omega
 refine aw (fun y=>blk y p 123 (lgC l)∧blk y w.heap.size 54 (evC e)) ⟨ag.cl.drew,ar.drew⟩ <|ab (fun y M _=>ai) <|ab (fun y M _=>bq) <|ab (fun y M _=>ot) <|ab (v:=.agg (l.s.V.map u6).toArray) (fun y M _=>ldA (n:=6) (vs:=l.s.V.map u6) underlying35 rfl (by kernel_rfl) M.1 ag.cutV (by simp[ag.v6])) <|ab (v:=.agg (evC e).toArray) (fun y M _=>ldA (n:=14) (vs:=evC e) underlying54 rfl (by kernel_rfl) M.2 rfl rfl) ?_
 refine V9 ag.v6 fun w3 b3=>?_;have B3:Below w.heap.size w w3:=B2.drew.trans (b3.mono B2.size);have av:=ac b3 ar.drew ar.drew.lt;have al:=hl.fresh B3;refine vl (fun hd=>?_) (fun hd=>?_)
 ·rw[show np e (toP l)=14 from by unfold np;rw[if_neg (by rw[j];simp),if_pos (show nH (toP l).V e=true from hd)]]at no;exact no w3 (by decide) B3
 have X:nH (toP l).V e=false:=hd
 refine aw (fun y=>blk y p 123 (lgC l)∧blk y w.heap.size 54 (evC e)) ⟨al.cl.drew,av.drew⟩ <|ab (fun y M _=>ai) <|ab (fun y M _=>bq) <|ab (fun y M _=>ot) <|ab (v:=.agg (l.s.V.map u6).toArray) (fun y M _=>ldA (n:=6) (vs:=l.s.V.map u6) underlying35 rfl (by kernel_rfl) M.1 al.cutV (by simp[al.v6])) <|ab (v:=.agg (evC e).toArray) (fun y M _=>ldA (n:=14) (vs:=evC e) underlying54 rfl (by kernel_rfl) M.2 rfl rfl) ?_
 refine TW al.v6 (fun k hk=>⟨(am k hk).1,Int.lt_trans (am k hk).2 (by decide)⟩) fun w4 b4=>?_;have B4:Below w.heap.size w w4:=B3.drew.trans (b4.mono B3.size);have az:=ac b4 av.drew av.drew.lt;have U:=hl.fresh B4;refine aw (fun _=>True) trivial <|ab (fun y M _=>dB) ?_;cases O:ey l.s.V e with
 | false =>
  rw[show np e (toP l)=13 from by unfold np;rw[if_neg (by rw[j];simp),if_neg (by rw[X];simp),if_pos (show ey (toP l).V e=false from O)]]at no;exact bu (no w4 (by decide) B4)
 | true =>
 refine aO ?_;have hE:np e (toP l)=if l.s.I.getD q false=false∨l.s.L.getD q false=true then 10 else eU e (toP l):=by
  unfold np;rw[if_neg (by rw[j];simp),if_neg (by rw[X];simp),if_neg (by rw[show ey (toP l).V e=true from O];simp),hq];rfl
 have an:e.s=l.s.V.getD q 0+1:=by
  unfold ey at O;simp only[Bool.and_eq_true,decide_eq_true_eq]at O;rw[hq];exact O.2.1
 refine bD <|lK (v:=iv e.o) az rfl <|bh (by omega) (by omega) ?_;have eq:e.o-1=(q:Nat):=by omega
 rw[eq];refine xu <|ai <|bq <|uO <|ixB rfl J <|lK (v:=.bool (l.s.I.getD q false)) U.cl (by rw[show 0+0+0+q=q by omega];exact U.cI J) <|dB ?_;cases hI:l.s.I.getD q false with
 | false =>
  refine fV <|bX ?_;rw[if_pos (.inl hI)]at hE;rw[hE]at no;exact bu (no w4 (by decide) B4)
 | true =>
 refine lR <|ai <|bq <|zR <|ixB rfl J <|lK (v:=.bool (l.s.L.getD q false)) U.cl (by rw[show 0+0+6+q=6+q by omega];exact U.cL J) <|ex ?_;refine vl (fun hd=>?_) (fun hd=>?_)
 ·rw[if_pos (.inr hd)]at hE;rw[hE]at no;exact no w4 (by decide) B4
 rw[if_neg (fun hh=>hh.elim (fun h1=>by rw[hI]at h1;cases h1) fun h1=>by rw[hd]at h1;cases h1)]at hE;refine Ur U hg (by omega) fun w5 p5 l5 bb ad a4 b5=>?_;have a9:=hg.eq ad a4;have aS:l5.s.V=l.s.V:=congrArg PL.V ad;have B5:Below w.heap.size w w5:=B4.trans (b5.mono B4.size);have a8:=ac b5 az az.lt;refine ldA (n:=14) (vs:=evC e) underlying54 rfl (by kernel_rfl) a8 rfl rfl ?_
 refine Us bb a9 hm b5.size j (by rw[aS];exact O) (fun w6 hv b6=>?_) (fun w6 Z h0 u ap a6 b6=>?_)
 ·refine qP <|bN <|ax hv ?_;rw[ad]at hv ⊢;rw[←hE]at hv ⊢;exact no w6 hv (B5.trans (b6.mono B4.size))
 ·refine qP <|bN <|aq (by omega) ?_;have u:=u.drew;have B6:Below w.heap.size w w6.drew:=(B5.trans (b6.mono B4.size)).drew;have a0:Z.s.V=l.s.V:=(congrArg PL.V ap).trans aS;have a7:Z.s.V.getD q 0=l.s.V.getD q 0:=by rw[a0]
  rw[ad]at ap h0;refine aa (fun _=>ai) <|aa (fun _=>bq) <|aa (fun _=>ot) <|aa (fun _=>ixV rfl J) <|aa (v:=u6 (Z.s.V.getD q 0)) (fun _=>lK u.cl (by rw[show 0+0+12+q=12+q by omega];exact u.cV J)) <|aa (v:=u6 e.s) (fun K d=>jS (by rw[gF,a7, ←an,show e.s%18446744073709551616=e.s by omega];exact d)) <|aa (fun _=>ai) <|aa (fun _=>bq) <|aa (fun _=>ot) <|aa (fun _=>ixV rfl J) ?_
  refine eB (fun _=>by kernel_rfl) u.cl (by rw[u.ll];omega) rfl fun w7 a3 o7=>?_;rw[show 0+0+12+q=12+q by omega]at a3;have bd:=u.setV J a3 o7;rw[h0]at hE;rw[hE]at h;have a2:toP {Z with s:={Z.s with V:=Z.s.V.set q e.s} } = jL e (toP l):=by
   unfold jL;rw[if_pos hE];have e1:toP {Z with s:={Z.s with V:=Z.s.V.set q e.s} } = {toP Z with V:=Z.s.V.set q e.s}:=rfl;rw[e1,ap,a0,an,hq];rfl
  exact h w7 _ p5 _ bd (hg.apply a2 a6) a2 (bG B6 o7 (Nat.le_trans B4.size u.lo))
end
structure LC (w:World) (p:Nat) (l:LG) (C:Nat→Int):Prop where
 lm:∃B,LM w B p l
 xi:XI l (sV l.s.V)
 le:∀k,k<6→l.s.V.getD k 0≤C k
theorem LC.fresh {l:LG}(h:LC w p l C)(d:Below w.heap.size w w'):LC w' p l C:=⟨h.lm.imp fun _ j=>j.fresh d,h.xi,h.le⟩
theorem LC.sum {l:LG}(h:LC w p l C)(O:C 0+C 1+C 2+C 3+C 4+C 5≤900):sV l.s.V≤900:=by
 have d:=h.le 0 (by omega);have j:=h.le 1 (by omega);have u:=h.le 2 (by omega);have I:=h.le 3 (by omega);have J:=h.le 4 (by omega);have M:=h.le 5 (by omega);unfold sV;omega
structure KL (w:World) (p:Nat) (l:LG) (C:Nat→Int) (n:Nat) (E:List EV) (l0:LG):Prop where
 lc:LC w p l C
 lk:LK n E (toP l)
 gr:∀k,l0.s.V.getD k 0≤l.s.V.getD k 0
theorem KL.fresh {l l0:LG}{E:List EV}(h:KL w p l C n E l0)(d:Below w.heap.size w w'):KL w' p l C n E l0:=⟨h.lc.fresh d,h.lk,h.gr⟩
theorem KL.apply {l l' l0:LG}{E:List EV}{e:EV}(h:KL w p l C n E l0)(X:HistL n E)(U:e∈E)(hs:e.s≤C (e.o-1).toNat)(J:LM w' B b l')(M:XI l' (sV l'.s.V))(j:toP l'=jL e (toP l)):KL w' b l' C n E l0:=by
 have I:LK n E (toP l'):=by rw[j];exact h.lk.apply X U
 unfold jL at j;split at j
 ·rename_i O;have ok:=(vc h.lc.xi.pi).1 O;have a:=after h.lc.xi.pi ok;have d:l'.s.V=(eff e (toP l)).V:=congrArg PL.V j;have Z:=(nB ok.rdy).1;refine⟨⟨⟨B,J⟩,M,fun k I=>?_⟩,I,fun k=>?_⟩
  ·rw[d];by_cases u:k=e.q
   ·subst u;rw[a.Ve, ←Z];exact hs
   ·rw[a.V _ u];exact h.lc.le k I
  ·rw[d]
   have:=h.gr k
   by_cases u:k=e.q
   ·subst u;rw[a.Ve];show l0.s.V.getD e.q 0≤l.s.V.getD e.q 0+1;omega
   ·rw[a.V _ u];exact this
 ·have d:l'.s.V=l.s.V:=congrArg PL.V j;exact⟨⟨⟨B,J⟩,M,by rw[d];exact h.lc.le⟩,I,by rw[d];exact h.gr⟩
def EC (E:List EV)(C:Nat→Int):Prop:=∀e∈E,1≤e.o∧e.o≤6∧e.s≤C (e.o-1).toNat
theorem vd (e:EV):(evC e).length=14:=rfl
theorem Rz {r:Nat}{l:LG}{lz:LG}{E:List EV}{W:List Int}(hh:HistL z E)(hl:KL w p l C z E lz)(hC:C 0+C 1+C 2+C 3+C 4+C 5≤900)(hE:EC E C)(hn:E.length=n)(a8:n≤100000)(hM:A.length=6)(hW:W.length=6)(hr:r≤100000)(a7:w.ownsRow j 54 14 (.slice a n c) n (E.flatMap evC))(a4:blk w o 35 (A.map u6))(a6:blk w m 35 (W.map u6))(ap:Below w0.heap.size w0 w)(q0:Y1=.pointer (some ⟨p,0,none⟩))(q1:Z1=.slice a n c)(q5:U2=.pointer (some ⟨o,0,none⟩))(q7:V2=.int .i64 (r:Nat))(q8:W2=.pointer (some ⟨m,0,none⟩))(q9:X2=.int .i64 0)(ar:∀(e:List Value) (w':World) p' l',gd e 0=.pointer (some ⟨p',0,none⟩)→gd e 7=.int .i64 ((r+1:Nat):Int)→KL w' p' l' C z E lz→w'.ownsRow j 54 14 (.slice a n c) n (E.flatMap evC)→blk w' o 35 (A.map u6)→Below w0.heap.size w0 w'→B1 e w')(d:∀(w':World) p' l',KL w' p' l' C z E lz→Below w0.heap.size w0 w'→K (.pointer (some ⟨p',0,none⟩)) w'):nS K B1 ((dc Y1 Z1 U2 V2 W2 X2 zf)) w:=by
 subst q0 q1 q5 q7 q8 q9;refine Du (Inv:=fun lv i wr=>∃(k p':Nat) (l':LG),lv=.pointer (some ⟨p',0,none⟩)∧i=.int .i64 (k:Nat)∧k≤n∧KL wr p' l' C z E lz∧wr.ownsRow j 54 14 (.slice a n c) n (E.flatMap evC)∧blk wr o 35 (A.map u6)∧blk wr m 35 (W.map u6)∧Below w0.heap.size w0 wr) (μ:=fun _ i _=>n-(intOf i).toNat) ⟨0,p,l,rfl,rfl,by omega,hl,a7,a4,a6,ap⟩ ?_
 rintro _ _ dd w1 mm ⟨k,p1,l1,rfl,rfl,hk,am,ad,X,Z,O⟩ an;refine bj underlying36 <|aM ?_;by_cases al:k<n
 ·refine ax (by omega) <|Ds ?_;have hx:E[k]? = some E[k]:=List.getElem?_eq_getElem (by omega);generalize E[k]=e at hx;obtain⟨e1,e6,es⟩:=hE e (List.mem_of_getElem? hx);obtain⟨q,hq⟩:∃q:Nat,q=(e.o-1).toNat:=⟨_,rfl⟩
  have h:=am.fresh (Below.refl _ w1).drew;have I:w1.drew.ownsRow j 54 14 (.slice a n c) n (E.flatMap evC):=ad;have J:=X.drew;have u:=Z.drew;have U:=O.drew;obtain⟨g,ag,ha,op⟩:=cq I (by omega);have c1:ag[k*14+1]? = some (u6 e.s):=op.cell vd hn hx (show 1<14 by omega);have c0:ag[k*14+0]? = some (iv e.o):=op.cell vd hn hx (show 0<14 by omega)
  refine aa (v:=.pointer (some ⟨g,k*14,none⟩)) (fun _=>pj ha underlying36 (fun _=>by kernel_rfl) al) <|aa (fun _=>iZ) <|aa (v:=u6 e.s) (fun _=>lK op.blk c1) <|aa (v:=.pointer (some ⟨g,k*14,none⟩)) (fun _=>pj ha underlying36 (fun _=>by kernel_rfl) al) <|aa (fun _=>bD) <|aa (v:=iv e.o) (fun _=>lK op.blk c0) <|aa (v:=.int .i64 ((q:Nat):Int)) (fun K d=>bh (by omega) (by omega) (by rw[show (e.o-1)=(q:Nat)by omega];exact d)) <|aa (fun _=>ixV rfl (by omega)) <|aa (v:=u6 (A.getD q 0)) (fun _=>lK J (by rw[Nat.zero_add];exact Ot (by omega))) <|aa (fun _=>fU) ?_
  refine vl (fun hd=>?_) (fun hd=>?_)
  ·refine Ge (enc:=evC) (s:=14) underlying36 (fun _=>by kernel_rfl) underlying54 rfl (by kernel_rfl) vd I hn hx fun _=>?_;obtain⟨B,M⟩:=h.lc.lm;refine Ie M h.lc.xi (h.lc.sum hC) fun w3 B3 p3 l3 a3 a0 aS b3=>?_;refine cZ <|db <|vn <|aW (by omega) (by omega) ?_
   refine⟨⟨k+1,p3,l3,rfl,ivS,by omega,h.apply hh (List.mem_of_getElem? hx) es a3 a0 aS,cJ I fun b hb=>b3.block b (World.ownsRow.lt I b hb).2,ac b3 J J.lt,ac b3 u u.lt,U.trans (b3.mono U.size)⟩,?_⟩;rw[an];show n-((k:Int)+1).toNat<n-(k:Int).toNat;omega
  ·refine vn <|aW (by omega) (by omega) ?_;refine⟨⟨k+1,p1,l1,rfl,ivS,by omega,h,I,J,u,U⟩,?_⟩;rw[an];show n-((k:Int)+1).toNat<n-(k:Int).toNat;omega
 ·refine aq (by omega) <|Dx ?_;have h:=am.fresh (Below.refl _ w1).drew;obtain⟨B,M⟩:=h.lc.lm;have u:=Z.drew
  refine aa (fun _=>ai) <|aa (fun _=>bq) <|aa (fun _=>ot) <|aa (v:=.agg (l1.s.V.map u6).toArray) (fun _=>ldA (n:=6) (vs:=l1.s.V.map u6) underlying35 rfl (by kernel_rfl) M.cl M.cutV (by simp[M.v6])) <|aa (v:=.agg (W.map u6).toArray) (fun _=>ldA (n:=6) (vs:=W.map u6) underlying35 rfl (by kernel_rfl) u (cutV hW) (by simp[hW])) ?_;obtain⟨v0,v1,v2,v3,v4,v5,av⟩:=rU M.v6
  obtain⟨u0,u1,u2,u3,u4,u5,az⟩:=rU hW;refine aa (v:=.bool (decide (l1.s.V=W))) (fun K d=>by
   rw[av,az]at d ⊢;refine Cf 3 (by omega) (by kernel_rfl) (by kernel_rfl) (by kernel_rfl) (by kernel_rfl) fun r hr=>?_;have a2:List.map u6 [v0,v1,v2,v3,v4,v5]=List.map u6 [u0,u1,u2,u3,u4,u5]↔[v0,v1,v2,v3,v4,v5]=[u0,u1,u2,u3,u4,u5]:=by simp[u6]
   have:r=decide ([v0,v1,v2,v3,v4,v5]=[u0,u1,u2,u3,u4,u5]):=Bool.eq_iff_iff.2 ((hr.trans a2).trans decide_eq_true_iff.symm)
   rw[this];exact d) ?_
  refine vl (fun hd=>?_) (fun hd=>?_)
  ·exact d _ p1 l1 h O.drew
  ·refine Dw <|aW (by omega) (by omega) ?_;exact ar _ _ p1 l1 rfl (ivS) h ad X.drew O.drew
theorem Tx {l:LG}{E:List EV}(hh:HistL o E)(al:LC w p l C)(am:LK o E (toP l))(hC:C 0+C 1+C 2+C 3+C 4+C 5≤900)(hE:EC E C)(hn:E.length=n)(ap:n≤90000)(hM:A.length=6)(ad:w.ownsRow k 54 14 (.slice a n c) n (E.flatMap evC))(h:∀(w':World) I l',KL w' I l' C o E l→Below w.heap.size w w'→K (.pointer (some ⟨I,0,none⟩)) w'):call Tryz.prog 46 #[.pointer (some ⟨p,0,none⟩),.slice a n c,.agg (A.map u6).toArray] K w:=by
 refine aj (goK func46) (Fj ?_);have hl:KL w p l C o E l:=⟨al,am,fun _=>Int.le_refl _⟩
 refine cv fun w1 X b1 s1=>?_;have X:blk w1 w.heap.size 35 (A.map u6):=by simpa[Value.cells]using X
 refine Dt (Inv:=fun lv rv wr=>∃(r I:Nat) (l':LG),lv=.pointer (some ⟨I,0,none⟩)∧rv=.int .i64 (r:Nat)∧r≤n+1∧KL wr I l' C o E l∧wr.ownsRow k 54 14 (.slice a n c) n (E.flatMap evC)∧blk wr w.heap.size 35 (A.map u6)∧Below w.heap.size w wr) (μ:=fun _ rv _=>n+1-(intOf rv).toNat) ⟨0,p,l,rfl,rfl,by omega,hl.fresh b1,cJ ad fun b hb=>b1.block b (World.ownsRow.lt ad b hb).2,X,b1⟩ ?_
 rintro _ _ dd w2 mm ⟨r,p2,l2,rfl,rfl,hr,U,M,J,j⟩ an;refine bj underlying36 <|fU ?_;by_cases ar:r≤n
 ·refine ax (by omega) ?_;obtain⟨B,u⟩:=U.lc.lm;refine ai <|bq <|ot <|ldA (n:=6) (vs:=l2.s.V.map u6) underlying35 rfl (by kernel_rfl) u.cl u.cutV (by simp[u.v6]) ?_;refine dZ (z:=.agg (([0,0,0,0,0,0]:List Int).map u6).toArray) (by kernel_rfl) fun w3 h3 b3 s3=>?_;have h3:blk w3 w2.heap.size 35 (([0,0,0,0,0,0]:List Int).map u6):=by simpa[Value.cells]using h3
  refine jP (n:=6) (vs:=l2.s.V.map u6) (by kernel_rfl) (by simp[u.v6]) h3 (by show 0+6≤6;omega) (by simp[u6,Value.oneCell']) fun w4 h4 o4=>?_;have h4:blk w4 w2.heap.size 35 (l2.s.V.map u6):=by
   rw[List.take_zero,List.nil_append,List.drop_of_length_le (by show 6≤0+6;omega),List.append_nil]at h4;exact h4
  have B4:Below w2.heap.size w2 w4:=bG b3 o4 (Nat.le_refl _);refine Rz (w0:=w) (r:=r) hh (U.fresh B4) hC hE hn (by omega) hM u.v6 (by omega) (cJ M fun b hb=>B4.block b (World.ownsRow.lt M b hb).2) (ac B4 J J.lt) h4 (j.trans (B4.mono j.size)) rfl rfl rfl rfl rfl rfl ?_ ?_
  ·intro e w' I l' g0 g7 O ag Z d;refine⟨⟨r+1,I,l',g0,g7,by omega,O,ag,Z,d⟩,?_⟩;rw[g7,an];show n+1-(((r+1:Nat):Int)).toNat<n+1-((r:Nat):Int).toNat;omega
  ·intro w' I l' O d;exact h w' I l' O d
 ·refine aq (by omega) <|Dv ?_;exact h w2 p2 l2 U j
def ptC (x:Nat×LG):List Value:=[.pointer (some ⟨x.1,0,none⟩)]
theorem zF (x:Nat×LG):(ptC x).length=1:=rfl
structure WM (w:World) (Bw g:Nat) (L:List (Nat×LG)) (E:List EV) (C:Nat→Int):Prop where
 row:∃la lc ea ec,blk w g 74 [.slice la L.length lc,.slice ea E.length ec]∧w.ownsRow Bw 115 1 (.slice la L.length lc) L.length (L.flatMap ptC)∧w.ownsRow Bw 54 14 (.slice ea E.length ec) E.length (E.flatMap evC)
 lo:Bw≤g
 led:∀x∈L,LC w x.1 x.2 C
 pos:0<L.length∧L.length≤6
 ev:EC E C
 sum:C 0+C 1+C 2+C 3+C 4+C 5=E.length
 c0:∀k,k<6→0≤C k
 wp:WP L.length (L.map fun x=>toP x.2) E
 own:∀k x,L[k]? = some x→x.2.s.V.getD k 0=C k
 am:∀e∈E,e.a≤65536
theorem WM.fresh {L:List (Nat×LG)}{E:List EV}(h:WM w Bw g L E C)(j:Below w.heap.size w w'):WM w' Bw g L E C:=by
 obtain⟨X,Z,M,O,u,I,J⟩:=h.row;exact {h with
  row:=⟨X,Z,M,O,ac j u u.lt,cJ I fun b d => j.block b (World.ownsRow.lt I b d).2,cJ J fun b d => j.block b (World.ownsRow.lt J b d).2⟩
  led:=fun x U=>(h.led x U).fresh j}
abbrev CO :List TypeId:=[74,115,54]
theorem LM.keepW {l:LG}(h:LM w B p l)(d:Keep CO b w w'):LM w' B p l :=
 {h with
  cl:=d.blk h.cl (.inr (by decide))
  nd:=ff h.nd d (by decide)
  gr:=ff h.gr d (by decide)
  tm:=h.tm.keep d (by decide) (by decide)
  rq:=fun k j => (h.rq k j).imp fun a=>Exists.imp fun c u=>⟨u.1,ff u.2 d (by decide)⟩}
theorem LC.keepW {l:LG}(h:LC w p l C)(j:Keep CO b w w'):LC w' p l C:=⟨h.lm.imp fun _ d=>d.keepW j,h.xi,h.le⟩
theorem oM (h:K (.pointer (some ⟨b,o+0,none⟩)) w):af Tryz.prog 74 (.pointer (some ⟨b,o,none⟩)) 0 K w:=aK (by kernel_rfl) h
theorem mD (h:K (.pointer (some ⟨b,o+1,none⟩)) w):af Tryz.prog 74 (.pointer (some ⟨b,o,none⟩)) 1 K w:=aK (by kernel_rfl) h
theorem Ru :(Tryz.prog.info? 115).map (fun i=>(i.zero,i.size,i.bytes))=some (some (.pointer none),1,8):=by kernel_rfl
theorem RP {l:LG}(I:LM w B p l)(h:l=lg0 l.t (iN n)):LC w p l (fun _=>0)∧toP l=pl0 n:=by
 have d:toP l=pl0 n:=by rw[h];rfl
 have e:∀k,l.s.V.getD k 0=0:=by
  intro k
  have:l.s.V=List.replicate 6 0:=congrArg PL.V d
  rw[this,List.getD_eq_getElem?_getD,List.getElem?_replicate];split<;>rfl
 have j:l.R=List.replicate 6 []:=congrArg PL.R d;refine⟨⟨⟨B,I⟩,⟨d ▸ rh n,by rw[h];rfl,by rw[h];exact Nat.zero_le _,fun k u=>?_⟩,fun k _=>by rw[e];exact Int.le_refl _⟩,d⟩;rw[j,List.getD_eq_getElem?_getD,List.getElem?_replicate,if_pos u];exact Nat.zero_le _
theorem OC (h1:1≤n)(h6:n≤6)(h:∀(w':World) g L,WM w' w.heap.size g L [] (fun _=>0)→L.length=n→Below w.heap.size w w'→K (.pointer (some ⟨g,0,none⟩)) w'):call Tryz.prog 15 #[.int .i64 (n:Nat)] K w:=by
 refine aj (goK func15) (Ct ?_);refine eT (vs:=[my,my]) (by kernel_rfl) ?_;refine cv fun w1 hw b1 s1=>?_;have hw:blk w1 w.heap.size 74 [my,my]:=by simpa[Value.cells]using hw
 refine AX (Inv:=fun i wr=>∃(L:List (Nat×LG)) (la:Option Addr) (lc:Nat),i=.int .i64 (L.length:Nat)∧L.length≤n∧blk wr w.heap.size 74 [.slice la L.length lc,my]∧wr.ownsRow w.heap.size 115 1 (.slice la L.length lc) L.length (L.flatMap ptC)∧(∀x∈L,(LC wr x.1 x.2 fun _=>0)∧toP x.2=pl0 n)∧Below w.heap.size w wr) (μ:=fun i _=>n-(intOf i).toNat) ⟨[],none,0,rfl,by simp,hw,World.ownsRow_nil _ _ _ _,by simp,b1⟩ ?_
 rintro _ dd w2 mm ⟨L,la,lc,rfl,hL,Z,J,d,u⟩ az;refine aM ?_;by_cases a2:L.length<n
 ·refine ax (by omega) ?_;refine PN h1 h6 fun w3 p l hl _ _ hV b3=>?_;refine cZ <|db ?_;have ad:=ac b3 Z Z.lt;have X:=cJ J fun b hb=>b3.block b (World.ownsRow.lt J b hb).2;have O:=u.trans (b3.mono u.size);refine ai <|oM <|lK (v:=.slice la L.length lc) ad rfl ?_
  refine mY (vs:=[.pointer (some ⟨p,0,none⟩)]) underlying72 (s:=1) (by kernel_rfl) (by kernel_rfl) (by omega) rfl (by simp) (by simp) (by simp) (by simp[Value.cells]) fun w4 h4 b4 s4=>?_;have h4:blk w4 w3.heap.size 115 (ptC (p,l)):=by simpa[Value.cells,ptC]using h4
  have M:=cJ X fun b hb=>b4.block b (World.ownsRow.lt X b hb).2;have a0:=ac b4 ad ad.lt;have U:=O.trans (b4.mono O.size);obtain⟨ii,av,hz,aS,ar⟩:=info_parts Ru;refine tf (base:=w.heap.size) (enc:=ptC) (x:=(p,l)) underlying72 av hz aS ar rfl (by omega) zF M h4 (by simp[ptC,Value.oneCell']) (by omega) (by omega) U.size fun a5 c5 w5 ap am b5 _=>?_
  have ag:=fL a0 M (by decide) am;refine ai <|oM ?_;refine eB (fun _=>by kernel_rfl) ag (by simp) rfl fun w6 al o6=>?_;have al:blk w6 w.heap.size 74 [.slice a5 (L.length+1) c5,my]:=al;refine aW (by omega) (by omega) ?_;have I:(L++[(p,l)]).length=L.length+1:=by simp
  have k6:Keep CO w.heap.size w4 w6:=(Keep.grown am M (by simp) (Nat.le_refl _)).trans (o6.keep ag (by simp) (Nat.le_refl _));refine⟨⟨L++[(p,l)],a5,c5,by rw[I];exact ivS,by omega,by rw[I];exact al,by rw[I];exact eZ ap ag (by decide) o6,?_,bG (U.trans b5) o6 (Nat.le_refl _)⟩,?_⟩
  ·intro x hx;rcases List.mem_append.1 hx with hh|hh
   ·exact⟨(((d x hh).1.fresh b3).fresh b4).keepW k6,(d x hh).2⟩
   ·rw[List.mem_singleton.1 hh];exact⟨((RP hl hV).1.fresh b4).keepW k6,(RP hl hV).2⟩
  ·rw[az];show n-((L.length:Int)+1).toNat<n-((L.length:Nat):Int).toNat;omega
 ·refine aq (by omega) <|AY ?_;have j:L.length=n:=by omega
  have an:(L.map fun x=>toP x.2)=List.replicate n (pl0 n):=by
   rw[←j];refine List.eq_replicate_iff.2 ⟨by simp,fun y hy=>?_⟩;obtain⟨x,hx,rfl⟩:=List.mem_map.1 hy;rw[j];exact(d x hx).2
  refine h w2 _ L ⟨⟨la,lc,none,0,Z,J,World.ownsRow_nil _ _ _ _⟩,Nat.le_refl _,fun x hx=>(d x hx).1,by omega,fun e he=>absurd he (by simp),rfl,fun _ _=>Int.le_refl _,by rw[an,j];exact WP.zero n n,fun k x hx=>?_,by simp⟩ j u;have hP:=(d x (List.mem_of_getElem? hx)).2
  have:x.2.s.V=List.replicate 6 0:=congrArg PL.V hP
  rw[this,List.getD_eq_getElem?_getD,List.getElem?_replicate];split<;>rfl
end
end Go.Proofs.YtkbhfjljieopoaaGreatDoor
