import Derived.Test.YtkfgimlaijifaaaGreatDoorQ9
import Derived.Shelf.SlSortCmp.NoneTotal
import Derived.Shelf.SlGeneric
import Derived.Ground.SlsfProg
import Derived.Test.YtkfgimlaijifaaaGreatDoorQ2
import Derived.Test.YtkfgimlaijifaaaGreatDoorQ3
import Derived.Test.YtkfgimlaijifaaaGreatDoorQ8
import Derived.Test.YtkfgimlaijifaaaGreatDoorQ7
import Derived.Test.YtkfgimlaijifaaaGreatDoorQ1
namespace Go.Proofs.YtkfgimlaijifaaaGreatDoor
set_option maxRecDepth 100000
set_option maxHeartbeats 4000000
open Go.Proofs.Tryz
variable {w w' w0:World}{K:KV}{zf:Nat→Value}{b c n o k B i p g m j s z c2 eb f d D B2 hi:Nat}{a av a2:Option Addr}{x r v:Int}{A:List Int}{E t e:TypeId}{cs xs vs:List Value}{B1:KE}{P:Program}{T L:List (Int×Int)}{C:Nat→Int}{cx cy:Bool}{F:List Nat}{V0 W0 X0 Y0 Z0 H1 I1 J1 M1:Value}
section
attribute [local irreducible] bin un conv call aZ blt slc ai fld aL idx lkp cP eP eSt rng nxt ent ext alc box bld bg ld sto aJ cr mkS ifc pick rdy wts aG sti cond aV Gives ah dy dP cOp
section
open Go.RowKit
theorem LM.drew {l:LG}(h:LM w B p l):LM w.drew B p l:=h.fresh (Below.refl _ w).drew
theorem LM.nodes' {l:LG}{Ts:List TypeId}{N:List ND}(h:LM w B p l)(u:Keep Ts B w w')(M:121∉Ts)(O:127∉Ts)(U:300∉Ts)(Z:31∉Ts)(j:blk w' p 90 (lgC {l with s:={l.s with nodes:=N,na:=a,nc:=c} }))(I:w'.ownsRow B 79 56 (.slice a N.length c) N.length (N.flatMap ndE))(hA:∀x∈N,x.A.length=54):LM w' B p {l with s:={l.s with nodes:=N,na:=a,nc:=c} } :=
 {h with
  A54:=hA
  cl:=j
  nd:=I
  gr:=gh h.gr u M
  tm:=h.tm.keep u O U
  rq:=fun k C => (h.rq k C).imp fun a=>Exists.imp fun c J=>⟨J.1,gh J.2 u Z⟩}
theorem LM.tree' {l:LG}(h:LM w B p l)(j:Keep Iv B w w')(I:TM w' B l.t T):LM w' B p {l with T:=T} :=
 {h with
  cl:=j.blk h.cl (.inr dc)
  nd:=gh h.nd j dc
  gr:=gh h.gr j dc
  tm:=I
  rq:=fun k u => (h.rq k u).imp fun a=>Exists.imp fun c C=>⟨C.1,gh C.2 j dc⟩}
abbrev CG :List TypeId:=[90,79]
theorem VK {x:ND}(h:x.A.length=54)(j:k<54)(v:Int):(ndE x).set (2+k) (iv v)=ndE {x with A:=x.A.set k v}:=by
 rw[LF h,LF (by simpa using h)];unfold ndC;rw[show 2+k=(k+1)+1 by omega,List.set_cons_succ,List.set_cons_succ,List.map_set]
section
variable {w:World}{K:KV}{B p:Nat}{l:LG}
theorem za4 {e:EV}{id:Int}(hl:LM w B p l)(hN:l.s.nodes.length≤1000)(hB:B≤w.heap.size)(ho:1≤e.o∧e.o≤6)(he:blk w eb 35 (evC e))(hn:blk w b 79 (ndE ⟨id,e.n,z54⟩))(b5:B≤b)(a9:∀k,(Value.slice l.s.na l.s.nodes.length l.s.nc).ownBlock=some k→k<b)(q0:V0=pA p 0)(q3:W0=pA eb 0)(q7:X0=.int .u64 id)(q9:Y0=pA b 0)(be:∀w' l',LM w' B p l'→l'.T=l.T→l'.G=l.G→l'.R=l.R→l'.s.V=l.s.V→(∃i x,x.id=id∧l'.s.nodes=gu l.s.nodes i x)→Keep CG B w w'→K (ci 0) w'):iJ K ((pS V0 W0 X0 Y0 zf)) w:=by
 subst q0 q3 q7 q9;refine BY <|bw <|lK (v:=iv e.o) he rfl <|ba oo oo <|du <|lK (v:=iv e.a) he rfl ?_;obtain⟨q,hq⟩:∃q:Nat,q=(e.o-1).toNat:=⟨_,rfl⟩
 have b7:q<6:=by omega
 refine se <|vG <|ixR (k:=q) oo b7 ?_;refine cB kf hn (by rw[fR];omega) rfl fun w1 am o1=>?_;rw[show 0+2+0+q=2+q by omega,VK (by rfl) oo]at am;generalize hx:(⟨id,e.n,z54.set q e.a⟩:ND)=x at am;have bq:x.A.length=54:=by rw[←hx];show (z54.set q e.a).length=54;rw[List.length_set];rfl
 have bs:x.id=id:=by rw[←hx]
 have k1:Keep CG B w w1:=o1.keep hn sm b5;have Z:blk w1 p 90 (lgC l):=o1.blk hl.cl (fun hh=>hl.cl.ne hn dc hh);have a1:w1.ownsRow B 79 56 (.slice l.s.na l.s.nodes.length l.s.nc) l.s.nodes.length (l.s.nodes.flatMap ndE):=cD hl.nd fun k hk=>o1.other k (by have:=a9 k hk;omega)
 refine aj <|bf <|dS <|lK (v:=.slice l.s.na l.s.nodes.length l.s.nc) Z hl.cN <|bh underlying55 <|au (fun y=>blk y p 90 (lgC l)∧blk y b 79 (ndE x)) ⟨Z.drew,am.drew⟩ <|ab (fun y J _=>aj) <|ab (fun y J _=>bf) <|ab (fun y J _=>dS) <|ab (v:=.slice l.s.na l.s.nodes.length l.s.nc) (fun y J _=>lK J.1 hl.cN) <|ab (v:=.agg (ndE x).toArray) (fun y J _=>ldA (n:=56) (vs:=ndE x) underlying79 rfl kr J.2 (by rw[List.drop_zero,tL (by rw[fR];omega)]) (fR x)) ?_
 refine oG (vs:=[.agg (ndE x).toArray]) underlying55 (s:=56) kr kr oo rfl sm sm sm (by simp[Value.cells,fR]) fun w2 h2 b2 s2=>?_;have h2:=cZ h2
 have az:blk w2 p 90 (lgC l):=ae b2 Z.drew Z.drew.lt;have af:blk w2 b 79 (ndE x):=ae b2 am.drew am.drew.lt;have ap:=cD a1 fun q hq=>b2.block q (World.ownsRow.lt a1 q hq).2;have k2:Keep CG B w w2:=k1.drew.trans (Keep.of b2);refine aC ⟨az,af⟩ ?_;obtain⟨ii,b0,hz,ca,bt⟩:=info_parts Vw;have b8:B≤w2.heap.size:=Nat.le_trans hB k2.size
 refine uP (base:=B) (x:=x) underlying55 b0 hz ca bt rfl oo fR ap h2 (Eo _) oo oo b8 fun a3 M w3 bp a7 b3 b6=>?_;have k3:Keep CG B w w3:=k2.trans (Keep.grown a7 ap sm oA);have aa:blk w3 p 90 (lgC l):=fJ az ap dc a7;have a0:blk w3 b 79 (ndE x):=by
  unfold Go.Proofs.YtkfgimlaijifaaaGreatDoor.blk;rw[a7.block b af.lt (fun hh=>by have:=a9 b hh.symm;omega)];exact af
 have a8:∀k,(Value.slice a3 (l.s.nodes.length+1) M).ownBlock=some k→k≠b:=by
  intro k hk;rcases b6 with hh|hh
  ·rw[hh]at hk;have:=a9 k hk;omega
  ·rw[hh]at hk;cases hk;have:=af.lt;omega
 refine au (fun _=>True) trivial <|ab (fun y J _=>aj) <|ab (fun y J _=>bf) <|ab (fun y J _=>dS) ?_;refine cB kf aa (by rw[hl.ll];omega) rfl fun w4 ad o4=>?_;have a2:=eM bp aa dc o4;rw[←Ty]at a2;have bn:blk w4 b 79 (ndE x):=o4.blk a0 (fun hh=>a0.ne aa dc hh);have k4:Keep CG B w w4:=k3.trans (o4.keep aa sm hl.lo)
 have ad:blk w4 p 90 ((lgC l).set 18 (.slice a3 (l.s.nodes.length+1) M)):=ad;generalize U:(lgC l).set 18 (.slice a3 (l.s.nodes.length+1) M)=cells at ad;have O:cells[0+0+18]? = some (.slice a3 (l.s.nodes.length+1) M):=by rw[←U,List.getElem?_set_self (by rw[hl.ll];omega)]
 refine BZ ?_;refine Cb (Inv:=fun a6 wr=>∃(k:Nat) (z:ND),a6=ci (k:Nat)∧k≤l.s.nodes.length∧z.A.length=54∧blk wr p 90 cells∧blk wr b 79 (ndE x) ∧
   wr.ownsRow B 79 56 (.slice a3 (l.s.nodes.length+1) M) (l.s.nodes.length+1) ((gu l.s.nodes k z).flatMap ndE)∧Keep CG B w wr)
  (μ:=fun a6 _=>(intOf a6).toNat) ⟨l.s.nodes.length,x,rfl,Nat.le_refl _,bq,ad,bn,a2,k4⟩ ?_
 rintro _ dd w5 mm ⟨k,z,rfl,hk,ce,j,I,ar,k5⟩ hm;have bd:∀{V0 Y0 al:Value} {zf:Nat→Value} {w5:World},V0=pA p 0→Y0=pA b 0→al=ci (k:Nat)→blk w5 p 90 cells→blk w5 b 79 (ndE x) →
   w5.ownsRow B 79 56 (.slice a3 (l.s.nodes.length+1) M) (l.s.nodes.length+1) ((gu l.s.nodes k z).flatMap ndE)→Keep CG B w w5→dZ K ((pT V0 Y0 al zf)) w5:=by
  intro V0 Y0 al zf w5 q1 q2 q3 C an u k6;subst q1 q2 q3;refine Cd ?_;have C:=C.drew;have an:=an.drew;have u:w5.drew.ownsRow B 79 56 (.slice a3 (l.s.nodes.length+1) M) (l.s.nodes.length+1) ((gu l.s.nodes k z).flatMap ndE):=u
  refine ac (fun _=>aj) <|ac (fun _=>bf) <|ac (fun _=>dS) <|ac (v:=.slice a3 (l.s.nodes.length+1) M) (fun _=>lK C O) <|ac (v:=.agg (ndE x).toArray) (fun _=>ldA (n:=56) (vs:=ndE x) underlying79 rfl kr an (by rw[List.drop_zero,tL (by rw[fR];omega)]) (fR x)) ?_;obtain⟨g,bb,rfl,op⟩:=d9 u oo
  refine ac (v:=pA g (0+((k:Nat):Int).toNat*56)) (fun _=>dQ underlying55 (s:=56) kf oo oo) ?_;refine op.sto fR ns oo kr (Eo _) fun w7 o7 a4=>?_;rw[J7 hk]at a4;have k7:Keep CG B w w7:=k6.drew.trans (o7.keep op.blk sm op.lo);have bi:blk w7 p 90 cells:=o7.blk C (fun hh=>C.ne op.blk dc hh)
  have aS:(gu l.s.nodes k x).length=l.s.nodes.length+1:=ns;refine be w7 {l with s:={l.s with nodes:=gu l.s.nodes k x,na:=some ⟨g,0,none⟩,nc:=M} } (hl.nodes' k7 dc dc dc dc ?_ ?_ ?_) rfl rfl rfl rfl ⟨k,x,bs,rfl⟩ k7
  ·rw[←Jk hl.i6 hl.l6 hl.v6,aS,U];exact bi
  ·rw[aS];exact a4
  ·intro y J;rcases pD.1 J with e|e
   ·rw[e];exact bq
   ·exact hl.A54 y e
 refine bO ?_;by_cases av:(0:Int)<(k:Nat)
 ·refine cU av ?_;obtain⟨k,rfl⟩:=Nat.exists_eq_succ_of_ne_zero (show k≠0 by omega);have ek:((k.succ:Nat):Int)-1=(k:Nat):=by omega
  have b4:k<l.s.nodes.length:=by omega
  have J:l.s.nodes[k]? = some l.s.nodes[k]:=gE b4;generalize l.s.nodes[k]=y at J;have a5:(gu l.s.nodes k.succ z)[k]? = some y:=by have:=Tz (L:=l.s.nodes) (z:=z) (show 0<k.succ by omega) hk;rw[Nat.succ_sub_one]at this;rw[this];exact J
  obtain⟨g,bb,rfl,op⟩:=d9 ar oo;refine aj <|bf <|dS <|lK (v:=.slice (some ⟨g,0,none⟩) (l.s.nodes.length+1) M) j O <|ba oo oo ?_;rw[ek];refine dQ underlying55 (s:=56) kf oo oo <|NY <|lK (v:=u6 y.id) op.blk (by rw[Int.toNat_natCast,Nat.zero_add];exact op.cell fR ns a5 (show 0<56 by omega)) <|bO <|bA av ?_;by_cases bk:id<y.id
  ·refine ax bk ?_;have j:=j.drew;have I:=I.drew;have ag:Opn w5.drew B 79 56 (l.s.nodes.length+1) M g bb ((gu l.s.nodes k.succ z).flatMap ndE):=⟨op.blk,op.lo,op.nc,op.cm,op.len,op.take,op.xl⟩
   refine ac (fun _=>aj) <|ac (fun _=>bf) <|ac (fun _=>dS) <|ac (v:=.slice (some ⟨g,0,none⟩) (l.s.nodes.length+1) M) (fun _=>lK j O) <|ac (fun _=>aj) <|ac (fun _=>bf) <|ac (fun _=>dS) <|ac (v:=.slice (some ⟨g,0,none⟩) (l.s.nodes.length+1) M) (fun _=>lK j O) <|ac (v:=ci (k:Nat)) (fun K h=>ba oo oo (by rw[ek];exact h)) <|ac (v:=pA g (0+((k:Nat):Int).toNat*56)) (fun _=>dQ underlying55 (s:=56) kf oo oo) <|ac (v:=.agg (ndE y).toArray) (fun _=>ldA (n:=56) (vs:=ndE y) underlying79 rfl kr ag.blk (by rw[Int.toNat_natCast,Nat.zero_add];exact ag.elem fR ns a5) (fR y)) <|ac (v:=pA g (0+((k.succ:Nat):Int).toNat*56)) (fun _=>dQ underlying55 (s:=56) kf oo oo) ?_
   refine ag.sto fR ns oo kr (Eo _) fun w6 o6 u=>?_;rw[J7 hk]at u;have b9:gu l.s.nodes k.succ y=gu l.s.nodes k y:=by have:=PO (L:=l.s.nodes) (x:=y) (show 0<k.succ by omega) (by rw[Nat.succ_sub_one];exact J);rwa[Nat.succ_sub_one]at this
   rw[b9]at u;refine ba oo oo ?_;have cc:g≠b:=by
    have:(Value.slice (some ⟨g,0,none⟩) (l.s.nodes.length+1) M).ownBlock=some g:=rfl
    exact a8 g this
   refine⟨⟨k,y,congrArg (Value.int .i64) ek,by omega,hl.A54 y (mO J),o6.blk j (fun hh=>j.ne ag.blk dc hh),o6.blk I oo,u,k5.drew.trans (o6.keep ag.blk sm ag.lo)⟩,by rw[hm];show (((k.succ:Nat):Int)-1).toNat<((k.succ:Nat):Int).toNat;omega⟩
  ·refine ao bk ?_;exact bd rfl rfl rfl j I ar k5
 ·have:k=0:=by omega
  subst this;refine eB av <|bj av <|aF ?_;exact bd rfl rfl rfl j I ar k5
end
theorem LM.nn {l:LG}(h:LM w B p l):∀k,(Value.slice l.s.na l.s.nodes.length l.s.nc).ownBlock=some k→k<w.heap.size:=fun k j=>(World.ownsRow.lt h.nd k j).2
theorem zbk {id par:Int}(h:(jm T id par).2=0):id≠0∧bS T id=false∧(par=0∨bS T par=true)∧T.length<32∧(jm T id par).1=gu T (yy (gtI id) T T.length) (id,par):=by
 unfold jm at h ⊢;by_cases j:id=0
 ·rw[if_pos j]at h;simp at h
 rw[if_neg j]at h ⊢;by_cases u:bS T id=true
 ·rw[if_pos u]at h;simp at h
 rw[if_neg u]at h ⊢;by_cases C:par≠0∧bS T par=false
 ·rw[if_pos C]at h;simp at h
 rw[if_neg C]at h ⊢;by_cases I:32≤T.length∨4≤(cC T par).length
 ·rw[if_pos I]at h;simp at h
 rw[if_neg I];refine⟨j,by simpa using u,?_,by omega,rfl⟩;by_cases J:par=0
 ·exact .inl J
 ·refine .inr ?_;cases M:bS T par with
  | true=>rfl
  | false=>exact absurd ⟨J,M⟩ C
section
variable {w:World}{K:KV}{B p:Nat}{l:LG}
theorem za5 {e:EV}{c:Int}(hl:LM w B p l)(hg:GI l m)(hm:m≤900)(hB:B≤w.heap.size)(ho:1≤e.o∧e.o≤6)(hs:1≤e.s∧e.s<1099511627776)(O:blk w eb 35 (evC e))(q0:V0=pA p 0)(q3:W0=pA eb 0)(q5:X0=ci c)(u:∀w' (v:Int),v≠0→Below B w w'→K (ci v) w')(M:∀w' l',LM w' B p l'→GI l' (m+1)→l'.s.V=l.s.V→Below B w w'→K (ci 0) w'):cq K ((pR V0 W0 X0 zf)) w:=by
 subst q0 q3 q5;obtain⟨⟨rk,ad⟩,ar,a2,a1,a3,av,aS,al,am⟩:=hg;refine Cc <|bI ?_;by_cases hc:c≥5
 ·refine iq hc <|bA hc <|aT ?_;exact u w 6 dc (Below.refl _ _)
 refine dt hc <|du <|lK (v:=iv e.a) O rfl <|bO <|bj hc ?_;by_cases ha:140737488355328<e.a
 ·refine ax ha ?_;exact u w 6 dc (Below.refl _ _)
 refine ao ha <|bw <|lK (v:=iv e.o) O rfl <|gN <|lK (v:=u6 e.s) O rfl <|zeQ oo oo ?_;rw[if_neg oo];have Z:0≤e.o*1099511627776+e.s∧e.o*1099511627776+e.s<18446744073709551616:=by omega
 generalize e.o*1099511627776+e.s=id at Z ⊢;refine au (fun y=>blk y p 90 (lgC l)∧blk y eb 35 (evC e)) ⟨hl.cl.drew,O.drew⟩ <|ab (fun y h _=>aj) <|ab (fun y h _=>AP) <|ab (v:=pA l.t 0) (fun y h _=>lK h.1 hl.cT) <|ab (fun y h _=>dR) <|ab (v:=u6 e.n) (fun y h _=>lK h.2 rfl) ?_;refine zdT ad hl.drew.tm oo hB fun w2 az k2=>?_
 have aa:LM w2 B p {l with T:=(jm l.T id e.n).1}:=hl.drew.tree' k2 az;have C:blk w2 eb 35 (evC e):=k2.blk O.drew (.inr dc);have B2:Below B w w2:=(k2.undrew).below hB;have s2:B≤w2.heap.size:=Nat.le_trans hB k2.size;refine au (fun _=>True) trivial <|aX ?_;by_cases I:(jm l.T id e.n).2≠0
 ·refine ax I ?_;exact u w2 _ I B2
 refine ao I ?_;have I:(jm l.T id e.n).2=0:=by simpa using I
 obtain⟨f0,f1,f2,f3,f4⟩:=zbk I;refine dR <|lK (v:=u6 e.n) C rfl <|dl (vs:=ndE ⟨id,e.n,z54⟩) kr ?_;refine df (z:=.agg (ndE ⟨0,0,z54⟩).toArray) kr fun w3 h3 b3 s3=>?_;have h3:=cZ h3
 refine ip (n:=56) (vs:=ndE ⟨id,e.n,z54⟩) kr (fR _) h3 (by rw[fR];omega) (Eo _) fun w4 h4 o4=>?_;have h4:blk w4 w2.heap.size 79 (ndE ⟨id,e.n,z54⟩):=by
  rw[List.take_zero,List.nil_append,List.drop_of_length_le (by rw[fR];omega),List.append_nil]at h4;exact h4
 have B4:Below w2.heap.size w2 w4:=bE b3 o4 oA;have an:=aa.fresh B4;have ag:=ae B4 C C.lt;have af:Below B w w4:=B2.trans (B4.mono s2);refine za4 an (by show l.s.nodes.length≤1000;omega) (Nat.le_trans s2 B4.size) ho ag h4 s2 (fun k hk=>aa.nn k hk) rfl rfl rfl rfl fun w5 l5 ap e1 e2 W0 e4 ⟨i,x,ex,J⟩ k5=>?_
 refine M w5 l5 ap ?_ e4 (af.trans (k5.below (Nat.le_trans s2 B4.size)));have e1:l5.T=gu l.T (yy (gtI id) l.T l.T.length) (id,e.n):=e1.trans f4;have J:l5.s.nodes=gu l.s.nodes i x:=J
 refine⟨by rw[e1];exact⟨_,ad.add f0 f1 f2 _⟩,?_,by rw[J,ns];omega,by rw[e2];show l.G.length≤m+1;omega,by rw[e1,ns];omega,fun k hk=>by rw[W0];exact Nat.le_trans (av k hk) oo,fun k hk=>by rw[e4];exact aS k hk,by rw[e2];exact al,fun y h=>?_⟩
 rotate_left
 ·rw[J]at h;rcases pD.1 h with rfl|U
  ·rw[ex];exact Z
  ·exact am y U
 intro y h;rw[e1]at h;rw[J];rcases pD.1 h with U|U
 ·exact⟨x,pD.2 (.inl rfl),by rw[U,ex]⟩
 ·obtain⟨z,hz,a0⟩:=ar y U;exact⟨z,pD.2 (.inr hz),a0⟩
theorem za0 {e:EV}(hl:LM w B p l)(hg:GI l m)(hm:m≤900)(hB:B≤w.heap.size)(ho:1≤e.o∧e.o≤6)(hs:1≤e.s∧e.s<1099511627776)(U:∀w' (v:Int),v≠0→Below B w w'→K (ci v) w')(I:∀w' l',LM w' B p l'→GI l' (m+1)→l'.s.V=l.s.V→Below B w w'→K (ci 0) w'):call Q 88 #[pA p 0,.agg (evC e).toArray] K w:=by
 refine ak (goK func88) (DU ?_);refine br fun w1 Z b1 s1=>?_;have Z:=cZ Z
 have aa:=hl.fresh b1;have ag:=hg.nn;have B1:Below B w w1:=b1.mono hB;refine Ca (Inv:=fun ad i wr=>∃(k:Nat) (c:Int),i=ci (k:Nat)∧k≤l.s.nodes.length∧ad=ci c∧0≤c∧c≤k∧LM wr B p l∧blk wr w.heap.size 35 (evC e)∧Below B w wr) (μ:=fun _ i _=>l.s.nodes.length-(intOf i).toNat) ⟨0,0,rfl,by omega,rfl,by omega,by omega,aa,Z,B1⟩ ?_;rintro _ _ dd w2 mm ⟨k,c,rfl,hk,rfl,c0,ck,u,J,B2⟩ O
 refine aj <|bf <|dS <|lK (v:=.slice l.s.na l.s.nodes.length l.s.nc) u.cl u.cN <|bh underlying55 <|aK ?_;by_cases M:k<l.s.nodes.length
 ·refine ax oo <|BX ?_;have j:=u.drew;have C:=J.drew;have B3:=B2.drew;have hx:l.s.nodes[k]? = some l.s.nodes[k]:=gE M;generalize l.s.nodes[k]=x at hx;obtain⟨g,af,ha,op⟩:=d9 j.nd oo
  refine ac (fun _=>aj) <|ac (fun _=>bf) <|ac (fun _=>dS) <|ac (v:=.slice l.s.na l.s.nodes.length l.s.nc) (fun _=>lK j.cl j.cN) <|ac (v:=pA g (k*56)) (fun _=>qV ha underlying55 kf M) <|ac (fun _=>NY) <|ac (v:=u6 x.id) (fun _=>lK op.blk (op.cell fR rfl hx (show 0<56 by omega))) <|ac (fun _=>Ek oo) <|ac (fun _=>bw) <|ac (v:=iv e.o) (fun _=>lK C rfl) <|ac (fun _=>bX underlying3 underlying31) <|ac (fun _=>aO) ?_
  refine ze (fun hd=>?_) (fun hd=>?_)
  ·refine aM oo oo <|tJ <|aM oo oo ?_;exact⟨⟨k+1,c+1,ivS,by omega,rfl,by omega,by omega,j,C,B3⟩,by rw[O];show l.s.nodes.length-((k:Int)+1).toNat<l.s.nodes.length-(k:Int).toNat;omega⟩
  ·refine tJ <|aM oo oo ?_;exact⟨⟨k+1,c,ivS,by omega,rfl,by omega,by omega,j,C,B3⟩,by rw[O];show l.s.nodes.length-((k:Int)+1).toNat<l.s.nodes.length-(k:Int).toNat;omega⟩
 ·refine ao oo ?_;exact za5 u hg hm (Nat.le_trans hB B2.size) ho hs J rfl rfl rfl (fun w' v hv b=>U w' v hv (B2.trans b)) (fun w' l' h1 h2 h3 b=>I w' l' h1 h2 h3 (B2.trans b))
end
end
section
open Go.RowKit Go.ChangeMaps
theorem zcV {l k:List Int}(u:l.Perm k)(h:l.Pairwise (· < ·))(j:k.Pairwise (· < ·)):l=k :=
 List.Perm.eq_of_pairwise (le:=(· < ·)) (fun a b _ _ h j=>by omega) h j u
theorem Ii (t:STA):saC t=(t.I.map .bool++t.L.map .bool++t.V.map (.int .u64))++[.slice t.na t.nodes.length t.nc,t.gv]:=rfl
theorem zcv {t:STA}(h:t.I.length=6)(j:t.L.length=6)(u:t.V.length=6){N:List ND}(C:N.length=n):(saC t).set 18 (.slice a n c)=saC {t with nodes:=N,na:=a,nc:=c}:=by
 subst C;rw[Ii,show (18:Nat)=18+0 by omega,uw (n:=18) (by simp[h,j,u])];rfl
theorem zcw {t:STA}(h:t.I.length=6)(j:t.L.length=6)(u:t.V.length=6){v:Value}:(saC t).set 19 v=saC {t with gv:=v}:=by
 rw[Ii,show (19:Nat)=18+1 by omega,uw (n:=18) (by simp[h,j,u])];rfl
theorem MC {t:STA}(h:t.I.length=6)(j:t.L.length=6)(u:t.V.length=6):(saC t)[18]? = some (.slice t.na t.nodes.length t.nc):=by
 rw[Ii,show (18:Nat)=18+0 by omega,iT (n:=18) (by simp[h,j,u])];rfl
theorem VY {t:STA}(h:t.I.length=6)(j:t.L.length=6)(u:t.V.length=6):(saC t)[19]? = some t.gv:=by
 rw[Ii,show (19:Nat)=18+1 by omega,iT (n:=18) (by simp[h,j,u])];rfl
theorem tu {t:STA}(h:t.I.length=6)(j:t.L.length=6)(u:t.V.length=6):(saC t).length=20:=by simp[saC,h,j,u]
theorem NR.own {L:List ND}(h:w.ownsRow B 79 56 (.slice a n c) n (L.flatMap ndE))(M:L.length=n)(Z:∀x∈L,x.A.length=54):NR w a n c L:=by
 refine⟨M,?_,?_,Z,?_⟩
 ·rcases h.2 with⟨h1,h2⟩|⟨g,cap,C,hv,_,_,hn,_⟩
  ·omega
  ·simp only[Value.slice.injEq]at hv;omega
 ·intro h0;obtain⟨g,C,I,_⟩:=d9 h h0;exact⟨g,0,I⟩
 ·intro i x U b o I j u O;have hi:i<n:=by rw[←M];exact(gS U).1
  obtain⟨g,C,J,op⟩:=d9 h oo;rw[J]at I;cases I;rw[←LF (Z x (mO U))]at O;have hj:j<56:=by rw[←fR x];exact(gS O).1
  rw[op.blk.cell,Nat.zero_add,op.cell fR M U hj];exact O
structure SO (w:World) (B:Nat) (s:PL) (t:STA) (ga:Option Addr) (gc:Nat):Prop where
 eI:t.I=s.I
 eL:t.L=s.L
 eV:t.V=s.V
 eN:t.nodes=s.N
 gv:t.gv=.slice ga s.G.length gc
 nd:w.ownsRow B 79 56 (.slice t.na s.N.length t.nc) s.N.length (s.N.flatMap ndE)
 gr:w.ownsRow B 121 5 (.slice ga s.G.length gc) s.G.length (s.G.flatMap grC)
theorem SO.sk {s:PL}{t:STA}(h:SO w B s t a b)(hi:PI s):SK w t:=by
 have U:=hi.len30;obtain⟨I,L,V,j,na,nc,Z⟩:=t;obtain⟨e1,u,C,J,M,O,h2⟩:=h;simp only at e1 u C J M O;subst e1 u C J M;exact⟨hi.i6,hi.l6,hi.v6,NR.own O rfl hi.A54,by show s.N.length≤_;omega,rfl⟩
theorem XK :(Tryz.prog.info? 79).map (fun i=>(i.zero,i.size,i.bytes))=some (some (.agg (ndE ⟨0,0,[]⟩).toArray),56,448):=by kernel_rfl
theorem YX {x:ND}(h:x.A.length=54):Tryz.prog.built 79 [(0,u6 x.id),(1,u6 x.par),(2,rgV x.A)]=some (ndE x).toArray:=by
 unfold rgV;rw[←Ic h]
 kernel_rfl
theorem Xm {I L:List Bool}{V:List Int}(h:I.length=6)(j:L.length=6)(u:V.length=6):Tryz.prog.built 58 [(0,.agg (I.map .bool).toArray),(1,.agg (L.map .bool).toArray),(2,.agg (vCs V).toArray)]=some (saC ⟨I,L,V,[],none,0,.slice none 0 0⟩).toArray:=by
 obtain⟨_,_,_,_,_,_,rfl⟩:=sR h;obtain⟨_,_,_,_,_,_,rfl⟩:=sR j;obtain⟨_,_,_,_,_,_,rfl⟩:=sR u
 kernel_rfl
theorem Rr {t:STA}(j:t.gv.oneCell'=true):∀v∈saC t,v.oneCell'=true:=by
 intro v h;unfold saC at h;simp only[List.mem_append,List.mem_map,List.mem_cons,List.not_mem_nil,or_false]at h;rcases h with((⟨_,_,rfl⟩|⟨_,_,rfl⟩)|⟨_,_,rfl⟩)|(rfl|rfl)
 ·rfl
 ·rfl
 ·rfl
 ·rfl
 ·exact j
section
variable {w:World}{K:KV}{q:LB}{s:PL}
theorem PM.ldI (h:PM w q s)(j:K (.agg (s.I.map .bool).toArray) w):ld Q 54 (pA q.p (0+0)) K w:=by
 refine ldA (n:=6) (vs:=s.I.map .bool) underlying54 rfl kr h.b ?_ (by simp[h.i6]) j;unfold plC;rw[Nat.zero_add,List.drop_zero,List.take_append_of_le_length (by simp[h.i6]),tL (by simp[h.i6])]
theorem PM.ldL (h:PM w q s)(j:K (.agg (s.L.map .bool).toArray) w):ld Q 54 (pA q.p (0+6)) K w:=by
 refine ldA (n:=6) (vs:=s.L.map .bool) underlying54 rfl kr h.b ?_ (by simp[h.l6]) j;unfold plC;rw[Nat.zero_add,show (6:Nat)=(s.I.map Value.bool).length by simp[h.i6],List.drop_left',List.take_append_of_le_length (by simp[h.i6,h.l6]),tL (by simp[h.i6,h.l6])];rfl
theorem zap (h:PM w q s)(hi:PI s)(hP:∀{l0 s2:Value} {zf:Nat→Value} (w':World) M O,l0=pB q.p→s2=pB w.heap.size→blk w' w.heap.size 58 (saC ⟨s.I,s.L,s.V,s.N,M,O,.slice none 0 0⟩)→w'.ownsRow (w.heap.size+1) 79 56 (.slice M s.N.length O) s.N.length (s.N.flatMap ndE)→Below w.heap.size w w'→fA K ((sf l0 s2 zf)) w'):call Q 76 #[pB q.p] K w:=by
 have bk:=h.lt;have bd:=hi.len30;refine ak (goK func76) (Hj ?_);refine df (z:=.agg (saC ⟨List.replicate 6 false,List.replicate 6 false,List.replicate 6 0,[],none,0,.slice none 0 0⟩).toArray) kr fun w1 z1 b1 s1=>HG (aF ?_);have z1:=cZ z1
 have p1:=(h.below b1).drew;have z1:=z1.drew;have b1:=b1.drew;refine ac (fun _=>aj) (ac (fun _=>EI) (ac (fun _=>p1.ldI) ?_));refine ac (fun _=>aj) (ac (fun _=>NO) (ac (fun _=>p1.ldL) ?_));refine ac (fun _=>aj) (ac (fun _=>AQ) (ac (fun _=>p1.ldV) ?_));refine ac (fun _=>dl (vs:=saC ⟨s.I,s.L,s.V,[],none,0,.slice none 0 0⟩) (Xm hi.i6 hi.l6 hi.v6)) ?_
 refine ip (n:=20) kr (tu hi.i6 hi.l6 hi.v6) z1 (by simp[saC]) (Rr rfl) fun w2 z2 o2=>?_;have z2:blk w2 w.heap.size 58 (saC ⟨s.I,s.L,s.V,[],none,0,.slice none 0 0⟩):=by
  rw[List.take_zero,List.nil_append,List.drop_of_length_le (by simp[saC]),List.append_nil]at z2;exact z2
 have b2:=bE b1 o2 oA;have p2:=h.below b2;refine aj (AS (lK (v:=pB q.t) p2.b (by rw[Nat.zero_add];exact p2.c18) ?_));refine VP p2.tm (by rw[Ry];omega) fun w3 a c ids ad a7 a3 b3=>bh underlying87 ?_;have aa:ids=s.N.map (·.id):=by
  refine zcV ?_ a7 ?_
  ·have e:(tr s.N).map (·.1)=s.N.map (·.id):=by unfold tr;rw[List.map_map];rfl
   rw[←e];exact ad
  ·exact List.pairwise_map.2 hi.srt
 have be:ids.length=s.N.length:=by rw[aa,List.length_map]
 have z3:=ae b3 z2 z2.lt;have af:=b2.trans (b3.mono b2.size);have bn:=z3.lt;obtain⟨ii,a2,hz,ar,a1⟩:=info_parts XK
 refine Fq (Inv:=fun i wr=>∃(k:Nat) (M:Option Addr) (O:Nat),i=iv (k:Nat)∧k≤ids.length∧blk wr w.heap.size 58 (saC ⟨s.I,s.L,s.V,s.N.take k,M,O,.slice none 0 0⟩)∧wr.ownsRow (w.heap.size+1) 79 56 (.slice M k O) k ((s.N.take k).flatMap ndE)∧IdR wr w2.heap.size a c ids∧Below w.heap.size w wr)
  (μ:=fun i _=>ids.length-(intOf i).toNat) ⟨0,none,0,rfl,Nat.zero_le _,z3,World.ownsRow_nil _ _ _ _,a3,af⟩ ?_
 rintro _ dd w4 m ⟨k,M,O,rfl,bi,z4,r4,av,J⟩ hm;refine aK ?_;by_cases U:k<ids.length
 ·have a4:k<s.N.length:=by omega
  have hx:s.N[k]? = some s.N[k]:=gE a4;generalize s.N[k]=x at hx;have Z:x∈s.N:=mO hx;have an:ids[k]=x.id:=by
   have:ids[k]? = some x.id:=by rw[aa,List.getElem?_map,hx];rfl
   rw[gE U]at this;exact Option.some.inj this
  have a8:(s.N.take k).length=k:=by rw[List.length_take];omega
  refine ax oo (av.at2 U fun pt=>?_);rw[an];have hT:bS (tr s.N) x.id=true:=by rw[kW];exact oh.2 ⟨x,Z,rfl⟩
  have ap:el (tr s.N) x.id=x.par:=Ig (RA hi.srt) (List.mem_map.2 ⟨x,Z,rfl⟩);have hA:aN s.N x.id=x.A:=wC hi.srt Z;have p4:=(h.below J).drew;have z4:=z4.drew;have aS:(saC ⟨s.I,s.L,s.V,s.N.take k,M,O,.slice none 0 0⟩)[18]? = some (.slice M k O):=by rw[MC hi.i6 hi.l6 hi.v6];show some (Value.slice M (s.N.take k).length O)=_;rw[a8]
  refine au (fun u=>blk u w.heap.size 58 (saC ⟨s.I,s.L,s.V,s.N.take k,M,O,.slice none 0 0⟩)∧PM u q s) ⟨z4,p4⟩ ?_;refine ab (fun u C _=>dS) (ab (fun u C _=>lK (v:=.slice M k O) C.1 (by rw[Nat.zero_add];exact aS)) ?_);refine ab (fun u C _=>aj) (ab (fun u C _=>NP) (ab (fun u C _=>lK (v:=.map (some q.pm)) C.2.b (by rw[Nat.zero_add];exact C.2.c19)) (ab (fun u C _=>C.2.par_l hi hT) ?_)))
  refine ab (fun u C _=>aj) (ab (fun u C _=>vF) (ab (fun u C _=>lK (v:=.map (some q.rm)) C.2.b (by rw[Nat.zero_add];exact C.2.c20)) (ab (fun u C _=>C.2.rg_l hi) ?_)));rw[ap,hA];refine ab (fun u C _=>dl (vs:=ndE x) (YX (hi.A54 x Z))) ?_
  refine oG (vs:=[.agg (ndE x).toArray]) underlying55 (s:=56) kr kr oo rfl sm sm sm (by simp[Value.cells,fR]) fun w5 k5 b5 s5=>?_;have k5:=cZ k5
  have z5:=ae b5 z4 z4.lt;have p5:=p4.below b5;have az:w4.drew.ownsRow (w.heap.size+1) 79 56 (.slice M k O) k ((s.N.take k).flatMap ndE):=r4;have r5:=cD az fun g hg=>b5.block g (World.ownsRow.lt az g hg).2;have a9:=(av.below (Below.refl _ w4).drew).below b5;have ag:=J.drew.trans (b5.mono J.drew.size);refine aC ⟨z5,p5⟩ ?_
  refine uP (base:=w.heap.size+1) (enc:=ndE) (x:=x) underlying55 a2 hz ar a1 rfl oo fR r5 k5 (Eo x) oo oo (by have:=z5.lt;omega) fun a6 c6 w6 r6 am b6 _=>?_;have z6:=fJ z5 r5 dc am;have bb:IdR w6 w2.heap.size a c ids:=a9.imp fun g cs _ hb=>fJ hb r5 dc am;have al:=ag.trans (b6.mono oo)
  refine au (fun _=>True) trivial (ab (fun u C _=>dS) ?_);refine cB kf z6 (by rw[tu hi.i6 hi.l6 hi.v6];omega) rfl fun w7 z7 o7=>aM oo oo ?_;have a0:s.N.take (k+1)=s.N.take k++[x]:=by rw[List.take_add_one,hx];rfl
  rw[Nat.zero_add,zcv hi.i6 hi.l6 hi.v6 (N:=s.N.take (k+1)) (by rw[List.length_take];omega)]at z7;refine⟨⟨k+1,a6,c6,ivS,U,z7,by rw[a0];exact eM r6 z6 dc o7,bb.imp fun g cs _ hb=>o7.blk hb fun e=>?_,bE al o7 oA⟩,by rw[hm];show ids.length-((k:Int)+1).toNat<ids.length-(k:Int).toNat;omega⟩;subst e;exact absurd (xv hb z6) dc
 ·have a5:k=s.N.length:=by omega
  subst a5;rw[List.take_length]at z4 r4;exact ao oo (hP w4 M O rfl rfl z4 r4 J)
end
end
end
end Go.Proofs.YtkfgimlaijifaaaGreatDoor
namespace Go.Proofs
open Go.Shelf
def Tryz.sortGr_ren :Go.Shelf.Ren:=⟨fun|6=>129|15=>178|14=>177|28=>218|29=>219|20=>210|21=>211|22=>212|23=>213|24=>214|25=>215|26=>216|27=>217|46=>231|47=>232|48=>233|49=>234|50=>235|57=>261|n=>n,fun|22=>56|24=>121|25=>241|3=>3|39=>251|0=>0|53=>302|55=>31|4=>4|46=>324|45=>323|50=>328|5=>5|9=>9|66=>339|70=>343|76=>362|77=>363|n=>n,fun|n=>n⟩
theorem Tryz.sortGr : Go.Proofs.SlLaysF0.n6 Tryz.prog Tryz.sortGr_ren := {
  mixed := by kernel_rfl
  f6 := ⟨Tryz.f129.name, by decide, Tryz.func129.trans (congrArg some (by kernel_rfl))⟩
  f14 := ⟨Tryz.f177.name, by decide, Tryz.func177.trans (congrArg some (by kernel_rfl))⟩
  f15 := Tryz.func178.trans (congrArg some (by kernel_rfl))
  f20 := ⟨Tryz.f210.name, by decide, Tryz.func210.trans (congrArg some (by kernel_rfl))⟩
  f21 := ⟨Tryz.f211.name, by decide, Tryz.func211.trans (congrArg some (by kernel_rfl))⟩
  f22 := ⟨Tryz.f212.name, by decide, Tryz.func212.trans (congrArg some (by kernel_rfl))⟩
  f23 := ⟨Tryz.f213.name, by decide, Tryz.func213.trans (congrArg some (by kernel_rfl))⟩
  f24 := ⟨Tryz.f214.name, by decide, Tryz.func214.trans (congrArg some (by kernel_rfl))⟩
  f25 := ⟨Tryz.f215.name, by decide, Tryz.func215.trans (congrArg some (by kernel_rfl))⟩
  f26 := ⟨Tryz.f216.name, by decide, Tryz.func216.trans (congrArg some (by kernel_rfl))⟩
  f27 := ⟨Tryz.f217.name, by decide, Tryz.func217.trans (congrArg some (by kernel_rfl))⟩
  f28 := Tryz.func218.trans (congrArg some (by kernel_rfl))
  f29 := Tryz.func219.trans (congrArg some (by kernel_rfl))
  f46 := ⟨Tryz.f231.name, by decide, Tryz.func231.trans (congrArg some (by kernel_rfl))⟩
  f47 := Tryz.func232.trans (congrArg some (by kernel_rfl))
  f48 := Tryz.func233.trans (congrArg some (by kernel_rfl))
  f49 := ⟨Tryz.f234.name, by decide, Tryz.func234.trans (congrArg some (by kernel_rfl))⟩
  f50 := ⟨Tryz.f235.name, by decide, Tryz.func235.trans (congrArg some (by kernel_rfl))⟩
  f57 := ⟨Tryz.f261.name, by decide, Tryz.func261.trans (congrArg some (by kernel_rfl))⟩
  t0 := Tryz.underlying0
  a0 := Tryz.isAgg0
  z0 := Tryz.sizeOf0
  v0 := Tryz.zeroValue0
  t3 := Tryz.underlying3
  a3 := Tryz.isAgg3
  z3 := Tryz.sizeOf3
  v3 := Tryz.zeroValue3
  t4 := Tryz.underlying4
  a4 := Tryz.isAgg4
  z4 := Tryz.sizeOf4
  v4 := Tryz.zeroValue4
  t5 := Tryz.underlying5
  a5 := Tryz.isAgg5
  z5 := Tryz.sizeOf5
  v5 := Tryz.zeroValue5
  t9 := Tryz.underlying9
  a9 := Tryz.isAgg9
  z9 := Tryz.sizeOf9
  v9 := Tryz.zeroValue9
  t22 := Tryz.underlying56
  a22 := Tryz.isAgg56
  z22 := Tryz.sizeOf56
  v22 := Tryz.zeroValue56
  t25 := Tryz.underlying241
  a25 := Tryz.isAgg241
  z25 := Tryz.sizeOf241
  v25 := Tryz.zeroValue241
  t39 := Tryz.underlying251
  a39 := Tryz.isAgg251
  z39 := Tryz.sizeOf251
  v39 := Tryz.zeroValue251
  t45 := Tryz.underlying323
  a45 := Tryz.isAgg323
  z45 := Tryz.sizeOf323
  v45 := Tryz.zeroValue323
  t46 := Tryz.underlying324
  a46 := Tryz.isAgg324
  z46 := Tryz.sizeOf324
  v46 := Tryz.zeroValue324
  t50 := Tryz.underlying328
  a50 := Tryz.isAgg328
  z50 := Tryz.sizeOf328
  v50 := Tryz.zeroValue328
  t53 := Tryz.underlying302
  a53 := Tryz.isAgg302
  z53 := Tryz.sizeOf302
  v53 := Tryz.zeroValue302
  t55 := Tryz.underlying31
  a55 := Tryz.isAgg31
  z55 := Tryz.sizeOf31
  v55 := Tryz.zeroValue31
  t66 := Tryz.underlying339
  a66 := Tryz.isAgg339
  z66 := Tryz.sizeOf339
  v66 := Tryz.zeroValue339
  t70 := Tryz.underlying343
  a70 := Tryz.isAgg343
  z70 := Tryz.sizeOf343
  v70 := Tryz.zeroValue343
  t76 := Tryz.underlying362
  a76 := Tryz.isAgg362
  z76 := Tryz.sizeOf362
  v76 := Tryz.zeroValue362
  t77 := Tryz.underlying363
  a77 := Tryz.isAgg363
  z77 := Tryz.sizeOf363
  v77 := Tryz.zeroValue363 }
end Go.Proofs
namespace Go.Proofs.YtkfgimlaijifaaaGreatDoor
variable {w w' w0:World}{K:KV}{zf:Nat→Value}{b c n o k B i p g m j s z c2 eb f d D B2 hi:Nat}{a av a2:Option Addr}{x r v:Int}{A:List Int}{E t e:TypeId}{cs xs vs:List Value}{B1:KE}{P:Program}{T L:List (Int×Int)}{C:Nat→Int}{cx cy:Bool}{F:List Nat}{V0 W0 X0 Y0 Z0 H1 I1 J1 M1:Value}
set_option maxRecDepth 100000
open Go.Proofs.Tryz
section
open Go.RowKit
def JN (zero3 t6 t7 t8:Value)(zf:Nat→Value):List Value:=zT zf 0 3 (zero3::zf 4::zf 5::t6::t7::t8::zT zf 9 9 ([]))
def JO (zero3:Value)(zf:Nat→Value):List Value:=zT zf 0 3 (zero3::zT zf 4 14 ([]))
def nI (K:KV):KE:=kZ f131 [1,1,1] K
def yj (K:KV):KE:=ah Q (cd f131 (b1 58)) (nI K) (xx xf (nI K) 0) (rk f131 K)
theorem Sl (h:lN 23 V0 (fun X0=>yj K (JN (ci 0) V0 X0 (ci 0) (zV (zV zu 0 [V0]) 2 [ci 0]))) w):Gives Q 131 #[V0] w K:=by
 refine aq func131 kr ?_;revert h;delta yj nI;exact mpF
theorem Pn (Inv:Value→World→Prop)(μ:Value→World→Nat)(U:Inv Y0 w)(Z:∀(j:Value) (O:Nat→Value) (w:World) (m:Nat),Inv j w→m=μ j w →
  lS j X0 (fun M w=>cond M (aL Q 23 W0 j (fun J=>ld Q 3 J fun u=>bF .neq 3 u V0 fun t14 w=>cond t14 (K u w) (nC j (fun C w=>(Inv C w)∧((μ C w)<m)) w)) w) (nI K (JO V0 (zV O 6 [W0,X0,j,M])) w)) w):yj K (JN V0 W0 X0 Y0 zf) w:=by
 refine aI (cd f131 (b1 116)) (zr [(2,1),(5,1),(8,9)]) kr (vP [8] Inv) (vQ [8] μ) U ?_;intro e' w' hI;have h:=Z _ (zM zf (gd e') (zr [(2,1),(5,1),(8,9)])) w' _ hI rfl;revert h;generalize (nI K)=qc0;exact mpF
theorem Po (h:K V0 w):nI K (JO V0 zf) w:=by
 delta nI;exact mpK h
attribute [irreducible] nI yj
theorem KF (h:call Q 179 #[V0] (fun I=>call Q 179 #[W0] fun j w=>cond I (cond j (K (ci 0) w) (K (ci (-1)) w)) (cond j (K (ci 1) w) (lS V0 W0 (fun u w=>cond u (K (ci (-1)) w) (bF .gtr 3 V0 W0 (fun C w=>cond C (K (ci 1) w) (K (ci 0) w)) w)) w))) w):Gives Q 132 #[V0,W0] w K:=by
 refine aq func132 kr ?_;exact mpK h
theorem Hx (h:call Q 180 #[V0] (fun I=>call Q 180 #[W0] fun j w=>cond I (cond j (K (ci 0) w) (K (ci (-1)) w)) (cond j (K (ci 1) w) (bF .lss 31 V0 W0 (fun u w=>cond u (K (ci (-1)) w) (bF .gtr 31 V0 W0 (fun C w=>cond C (K (ci 1) w) (K (ci 0) w)) w)) w))) w):Gives Q 133 #[V0,W0] w K:=by
 refine aq func133 kr ?_;exact mpK h
theorem NA (h:bF .neq 3 V0 V0 K w):Gives Q 179 #[V0] w K:=by
 refine aq func179 kr ?_;exact mpK h
end
section
attribute [local irreducible] bin un conv call aZ blt slc ai fld aL idx lkp cP eP eSt rng nxt ent ext alc box bld bg ld sto aJ cr mkS ifc pick rdy wts aG sti cond aV Gives ah dy dP cOp
section
open Go.RowKit
def xm (x y:Int):Int:=if x<y then -1 else if y<x then 1 else 0
def QA (x y:GR):Int:=if xm x.o y.o≠0 then xm x.o y.o else xm x.q y.q
theorem Mh {x y:GR}:Go.Proofs.ltOf QA x y=decide (ltG x y):=by
 rw[Bool.eq_iff_iff,decide_eq_true_eq];unfold Go.Proofs.ltOf QA xm ltG;rw[decide_eq_true_eq];split<;>split<;>(try split)<;>omega
theorem zff :Go.Sort.SWO (Go.Proofs.ltOf QA) where
 irrefl x:=by rw[Mh];unfold ltG;simp
 trans x y z h k:=by rw[Mh,decide_eq_true_eq]at *; unfold ltG at *; omega
 ntrans x y z h k:=by rw[Mh,decide_eq_false_iff_not]at *; unfold ltG at *; omega
section
variable {w:World}{K:KV}
theorem zb7 (h:K (.bool false) w):call Q 179 #[ci x] K w:=by
 refine ak (goK func179) (NA ?_);refine aX ?_;rw[decide_eq_false sm];exact h
theorem zb8 (h:K (.bool false) w):call Q 180 #[.int .u64 x] K w:=by
 refine ak (goK func180) (AB ?_);refine aX ?_;rw[decide_eq_false sm];exact h
theorem zel {y:Int}(h:K (ci (xm x y)) w):call Q 132 #[ci x,ci y] K w:=by
 refine ak (goK func132) (KF (zb7 (zb7 (aF (aF ?_)))));refine aK ?_;by_cases j:x<y
 ·rw[show xm x y = -1 from if_pos j]at h;exact ax j h
 ·refine ao j (bO ?_);by_cases u:y<x
  ·rw[show xm x y=1 from(if_neg j).trans (if_pos u)]at h;exact ax u h
  ·rw[show xm x y=0 from(if_neg j).trans (if_neg u)]at h;exact ao u h
theorem zem {y:Int}(h:K (ci (xm x y)) w):call Q 133 #[.int .u64 x,.int .u64 y] K w:=by
 refine ak (goK func133) (Hx (zb8 (zb8 (aF (aF ?_)))));refine aK ?_;by_cases j:x<y
 ·rw[show xm x y = -1 from if_pos j]at h;exact ax j h
 ·refine ao j (bO ?_);by_cases u:y<x
  ·rw[show xm x y=1 from(if_neg j).trans (if_pos u)]at h;exact ax u h
  ·rw[show xm x y=0 from(if_neg j).trans (if_neg u)]at h;exact ao u h
theorem zd3 {y:Int}(C:blk w g 3 [iv x,iv y])(h:K (ci (if x≠0 then x else y)) w):call Q 131 #[.slice (some ⟨g,0,none⟩) 2 2] K w:=by
 refine ak (goK func131) (Sl ?_);refine bh underlying23 <|Pn (Inv:=fun i wr=>wr=w∧(i=ci 0∨i=ci 1∧x=0∨i=ci 2∧x=0∧y=0)) (μ:=fun i _=>2-(intOf i).toNat) ⟨rfl,.inl rfl⟩ ?_;rintro _ M O m ⟨rfl,rfl|⟨rfl,u⟩|⟨rfl,u,J⟩⟩ I
 ·refine aK (ax dc ?_);refine dQ underlying23 (s:=1) kf oo oo ?_;refine lK (v:=iv x) C rfl (aX ?_);by_cases j:x≠0
  ·rw[if_pos j]at h;exact ax j h
  ·refine ao j (aM oo oo ⟨⟨rfl,.inr (.inl ⟨rfl,by simpa using j⟩)⟩,by rw[I];decide⟩)
 ·refine aK (ax dc ?_);refine dQ underlying23 (s:=1) kf oo oo ?_;refine lK (v:=iv y) C rfl (aX ?_);rw[if_neg (by simp[u])]at h;by_cases j:y≠0
  ·exact ax j h
  ·refine ao j (aM oo oo ⟨⟨rfl,.inr (.inr ⟨rfl,u,by simpa using j⟩)⟩,by rw[I];decide⟩)
 ·refine aK (ao dc ?_);refine Po ?_;rw[if_neg (by simp[u]),J]at h;exact h
theorem Xn {v:Value}(h:K (pA w.heap.size 0) (w.alloc (.cells v.cells t))):box P t v K w:=by
 unfold box;exact ey (by simp[Instr.box,newVar,newRow]) h
theorem zbp {y:Int}(h:K (.slice (some ⟨w.heap.size,0,none⟩) 2 2) (w.alloc (.cells #[iv x,iv y] 3))):bg Q 23 2 #[(0,iv x),(1,iv y)] K w:=by
 unfold bg;obtain⟨i,hi,u,j⟩:∃i,Tryz.prog.info? 3=some i∧i.zero=some (ci 0)∧i.size=1:=⟨_,rfl,by kernel_rfl,by kernel_rfl⟩
 refine ey (run_buildSlice w _ _ 2 _ #[iv x,iv y] i _ underlying23 hi u (by rw[j];decide) (by rw[j];decide) ?_) h;rw[j];refine(Go.Great.fill_whole (s:=1) oo [iv x,iv y] _ (by simp[iv,Value.cells]) sm).trans ?_;simp[iv,Value.cells]
theorem zek (x y:GR)(W:World):Calls Q 130 (#[.agg (grC x).toArray,.agg (grC y).toArray]++#[]) W fun e w' => e=.returned (ci (QA x y))∧∃q os',w'=Go.Sort.grow (W.drewN q) os':=by
 have C:Gives Q 130 #[.agg (grC x).toArray,.agg (grC y).toArray] W fun v w' => v=ci (QA x y)∧∃q os',w'=Go.Sort.grow (W.drewN q) os':=by
  refine Fp ?_;refine Xn (Xn ?_);generalize e1:W.alloc (.cells (Value.agg (grC x).toArray).cells 121)=w1;have J:blk w1 W.heap.size 121 (grC x):=by
   rw[←e1];unfold Go.Proofs.YtkfgimlaijifaaaGreatDoor.blk;rw[heap_alloc_new];rfl
  generalize I:w1.alloc (.cells (Value.agg (grC y).toArray).cells 121)=w2;have M:blk w2.drew w1.heap.size 121 (grC y):=by
   rw[←I];unfold Go.Proofs.YtkfgimlaijifaaaGreatDoor.blk;show (w1.alloc _).heap[_]? = _;rw[heap_alloc_new];rfl
  have b1:blk w2.drew W.heap.size 121 (grC x):=by
   rw[←I];exact(ae (cM (World.grownBy_alloc _ _ none) oA (fun k U=>by cases U)) J J.lt).drew
  refine au (fun u=>blk u W.heap.size 121 (grC x)∧blk u w1.heap.size 121 (grC y)) ⟨b1,M⟩ ?_;refine ab (fun u j _=>AN) (ab (fun u j _=>lK (v:=iv x.o) j.1 rfl) ?_);refine ab (fun u j _=>AN) (ab (fun u j _=>lK (v:=iv y.o) j.2 rfl) ?_);refine ab (fun u j _=>IL) (ab (fun u j _=>lK (v:=u6 x.q) j.1 rfl) ?_);refine ab (fun u j _=>IL) (ab (fun u j _=>lK (v:=u6 y.q) j.2 rfl) ?_)
  refine zel (aC ⟨b1,M⟩ (zem (au (fun _=>True) trivial (zbp ?_))));refine au (fun _=>True) trivial (zd3 (x:=xm x.o y.o) (y:=xm x.q y.q) ?_ (au (fun _=>True) trivial ⟨rfl,1,#[.cells (Value.agg (grC x).toArray).cells 121,.cells (Value.agg (grC y).toArray).cells 121,.cells #[iv (xm x.o y.o),iv (xm x.q y.q)] 3],?_⟩))
  ·unfold Go.Proofs.YtkfgimlaijifaaaGreatDoor.blk;rw[heap_alloc_new]
  ·rw[←I, ←e1];unfold Go.Sort.grow World.drewN World.drew World.alloc;simp only[Array.push_eq_append,Array.append_assoc,List.append_toArray,List.cons_append,List.nil_append]
 rw[show (#[.agg (grC x).toArray,.agg (grC y).toArray]++#[]:Array Value)=#[.agg (grC x).toArray,.agg (grC y).toArray]from rfl];unfold Gives at C;exact Calls.mono C fun _ _ ⟨v,O,Z,hw⟩=>⟨by rw[O,Z],hw⟩
instance:Inhabited GR:=⟨⟨0,0,0,0,0⟩⟩
open Go.Sort in
theorem SZ {G:List GR}(u:G.length=n)(M:n*5≤cs.length):putCells id 0 (flatK grC 5 G.toArray) cs.toArray=(G.flatMap grC++cs.drop (n*5)).toArray:=by
 have hF:(flatK grC 5 G.toArray).size=n*5:=by rw[size_flatK];simp[u]
 have h:(G.flatMap grC).length=n*5:=by rw[IS iG,u]
 apply Array.ext_getElem?;intro k;unfold putCells;rw[Array.getElem?_mapIdx,hF,List.getElem?_toArray,List.getElem?_toArray];by_cases I:k<n*5
 ·have j:k<cs.length:=by omega
  have hi:k / 5<G.length:=by omega
  rw[gE j,Option.map_some,if_pos ⟨Nat.zero_le _,by omega⟩,List.getElem?_append_left oo,Nat.sub_zero,get_flatK _ _ _ _ (by simp[u];exact I)];have J:G[k / 5]? = some G[k / 5]:=gE hi
  have:=Ml iG G (k / 5) _ (k%5) J (Nat.mod_lt _ oo)
  rw[show k / 5*5+k%5=k by omega]at this;rw[this];have C:k%5<(grC G[k / 5]).length:=Nat.mod_lt _ dc;rw[gE C];simp[hi,C]
 ·rw[List.getElem?_append_right oo,h,List.getElem?_drop,show n*5+(k-n*5)=k by omega];cases O:cs[k]? with
  | none=>rfl
  | some v=>rw[Option.map_some,if_neg oo]
open Go.Sort in
theorem UD {G G':List GR}{os:Array Obj}(h:Opn w B 121 5 n c g cs (G.flatMap grC))(I:G'.length=n):Opn (sortWorldK grC 5 w g 0 m G'.toArray os) B 121 5 n c g (G'.flatMap grC++cs.drop (n*5)) (G'.flatMap grC)∧w.grownBy (sortWorldK grC 5 w g 0 m G'.toArray os) (some g):=by
 have M:n*5≤cs.length:=by rw[h.len];exact Nat.mul_le_mul_right _ h.nc
 have u:(G'.flatMap grC).length=n*5:=by rw[IS iG,I]
 have O:=h.blk.lt;have J:(sortWorldK grC 5 w g 0 m G'.toArray os).heap[g]? = some (.cells (G'.flatMap grC++cs.drop (n*5)).toArray 121):=by
  show (w.heap.modify g (onCells (putCells id 0 (flatK grC 5 G'.toArray)))++os)[g]? = _;have j:=h.blk;unfold Go.Proofs.YtkfgimlaijifaaaGreatDoor.blk at j;rw[Array.getElem?_append_left (by simpa using O),Array.getElem?_modify,if_pos rfl,j,Option.map_some];unfold onCells;simp only;rw[SZ I M]
 refine⟨⟨J,h.lo,h.nc,h.cm,?_,?_,?_⟩,⟨rfl,rfl,rfl,?_,fun k U C=>?_⟩⟩
 ·rw[List.length_append,u,List.length_drop,h.len]
  have:=h.len
  omega
 ·rw[List.take_append_of_le_length oo,tL oo]
 ·exact u
 ·show w.heap.size≤(w.heap.modify g _++os).size;simp
 ·show (w.heap.modify g _++os)[k]? = _;rw[Array.getElem?_append_left (by simpa using U),Array.getElem?_modify,if_neg (fun e=>C (by rw[e]))]
open Go.Sort in
theorem zcA {G:List GR}(hr:w.ownsRow B 121 5 (.slice a n c) n (G.flatMap grC))(hl:G.length=n)(hn:n<4611686018427387904)(h:∀(w':World) (G':List GR),G'.Perm G→G'.Pairwise (fun x y=>¬ltG y x)→w'.ownsRow B 121 5 (.slice a n c) n (G'.flatMap grC)→w.grownBy w' (Value.slice a n c).ownBlock→K (.tuple #[]) w'):call Q 129 #[.slice a n c,.func (.func 130) #[] #[]] K w:=by
 have U:Li Q 129:=⟨_,func129,by kernel_rfl,by kernel_rfl⟩
 refine ak U ?_;unfold Gives;by_cases h0:n=0
 ·subst h0;have hG:G=[]:=List.eq_nil_of_length_eq_zero hl;subst hG;have I:=AnyF.slices_SortFunc_none Tryz.sortGr a c (.func (.func 130) #[] #[]) w;change Calls Q 129 _ _ _ at I;refine Calls.mono I fun e w' O=>?_;obtain⟨rfl,rfl⟩:=O;exact⟨_,rfl,h _ [] (List.Perm.refl _) List.Pairwise.nil hr ⟨rfl,rfl,rfl,Nat.le_refl _,fun _ _ _=>rfl⟩⟩
 ·obtain⟨g,aa,rfl,M⟩:=d9 hr oo;subst hl;have hH:HoldsK grC 5 w g 0 G.toArray:=by
   intro j C;rw[size_flatK]at C;have C:j<G.length*5:=by simpa using C
   have hi:j / 5<G.length:=by omega
   have hx:G[j / 5]? = some G[j / 5]:=gE hi;have h5:j%5<(grC G[j / 5]).length:=Nat.mod_lt _ dc;refine⟨?_,?_⟩
   ·rw[M.blk.cell,Nat.zero_add,get_flatK _ _ _ _ (by simpa using C)]
    have:=M.cell iG rfl hx (Nat.mod_lt j (show 0<5 by omega))
    rw[show j / 5*5+j%5=j by omega]at this;rw[this,gE h5];simp[hi,h5]
   ·have J:=M.blk;unfold Go.Proofs.YtkfgimlaijifaaaGreatDoor.blk at J;unfold World.frozen?;rw[J];rfl
  have I:=AnyQ.slices_SortFunc Tryz.sortGr 5 (by intro W;kernel_rfl) (by intro W;kernel_rfl) grC iG uF QA zff 130 #[] g 0 c G.toArray w
   (enters_of func130 kr rfl) (fun m os dk _ x y=>zek x y _) hH M.blk.lt (by simpa using hn)
  change Calls Q 129 _ _ _ at I;rw[List.size_toArray]at I;refine Calls.mono I fun e w' O=>?_;obtain⟨rfl,d',m,os,hp,hs,rfl⟩:=O;have hd:d'.toList.toArray=d':=rfl;have u:d'.toList.length=G.length:=by
   have:=hp.1
   simpa using this
  rw[←hd];obtain⟨o2,g2⟩:=UD (m:=m) (os:=os) M (G':=d'.toList) u;refine⟨_,rfl,h _ d'.toList ?_ ?_ o2.own g2⟩
  ·have h2:=hp.2.2;have e1:d'.extract 0 G.length=d':=by rw[←u];simp
   have e2:G.toArray.extract 0 G.length=G.toArray:=by simp
   rw[e1,e2]at h2;exact h2
  ·rw[List.pairwise_iff_getElem];intro i j hi C Z
   have:=hs i j (Nat.zero_le _) Z (by rw[←u];exact C)
   rw[Mh,decide_eq_false_iff_not]at this;have ei:d'[i]! = d'.toList[i]:=by simp[show i<d'.size by simpa using hi]
   have ej:d'[j]! = d'.toList[j]:=by simp[show j<d'.size by simpa using C]
   rw[ei,ej]at this;exact this
end
theorem ZJ :(Tryz.prog.info? 121).map (fun i=>(i.zero,i.size,i.bytes))=some (some (.agg (grC ⟨0,0,0,0,0⟩).toArray),5,40):=by kernel_rfl
theorem YD {G G':List GR}(I:G.Pairwise ltG)(U:G'.Perm G)(h:G'.Pairwise fun x y=>¬ltG y x):G'=G:=by
 have hu:∀x∈G,∀y∈G,¬ltG x y→¬ltG y x→x=y:=by
  intro x hx y hy u C;obtain⟨i,hi⟩:=List.getElem?_of_mem hx;obtain⟨j,hj⟩:=List.getElem?_of_mem hy;obtain⟨O,rfl⟩:=gS hi;obtain⟨a2,rfl⟩:=gS hj;rcases Nat.lt_trichotomy i j with e|e|e
  ·exact absurd (List.pairwise_iff_getElem.1 I i j O a2 e) u
  ·subst e;rfl
  ·exact absurd (List.pairwise_iff_getElem.1 I j i a2 O e) C
 refine List.Perm.eq_of_pairwise (le:=fun x y=>¬ltG y x) (fun a b Z hb u C=>hu a (U.mem_iff.1 Z) b hb C u) h (I.imp fun {x y} J M=>zc3 (XQ J M)) U
section
variable {w:World}{K:KV}{q:LB}{s:PL}
theorem Uf (h:PM w q s)(hi:PI s)(hn:s.G.length≤1000000)(hK:∀w' t ga gc,SO w' (w.heap.size+1) s t ga gc→Below w.heap.size w w'→K (.agg (saC t).toArray) w'):call Q 76 #[pB q.p] K w:=by
 have bq:=h.lt;refine zap h hi ?_;intro l0 s2 zf w1 O U q0 q1 z1 n1 C;subst q0 q1;have p1:=h.below C;obtain⟨m,hm,u⟩:=p1.gm;refine Fs ?_;refine aj (IM (lK (v:=.map (some q.gm)) p1.b (by rw[Nat.zero_add];exact p1.c27) (LW underlying185 hm fun w2 az b2 s2=>?_)));have hz:=z1.lt;have cG:q.gm<w.heap.size:=bq _ (by simp[LB.l]);have z2:=ae b2 z1 z1.lt
 have n2:=cD n1 fun k j=>b2.block k (World.ownsRow.lt n1 k j).2;have aS:=C.trans (b2.mono C.size);have ar:(m.map (·.1)).Nodup:=az.nodup.2.1;have bs:m.length=s.G.length:=by rw[u.length_eq];unfold grL;rw[List.length_map]
 generalize hr:w1.heap.size=r at az s2;obtain⟨ii,bp,b6,b4,bn⟩:=info_parts ZJ;refine Fr (Inv:=fun wr=>∃(D:List ((Int×Int)×GR)) (ga:Option Addr) (gc:Nat),IT rqV grV wr r q.gm m (D.map (·.1))∧(∀x∈D,x∈m)∧blk wr w.heap.size 58 (saC ⟨s.I,s.L,s.V,s.N,O,U,.slice ga D.length gc⟩) ∧
   wr.ownsRow (r+1) 121 5 (.slice ga D.length gc) D.length ((D.map (·.2)).flatMap grC)∧wr.ownsRow (w.heap.size+1) 79 56 (.slice O s.N.length U) s.N.length (s.N.flatMap ndE)∧Below w.heap.size w wr∧r+1≤wr.heap.size) (μ:=fun wr=>lG wr q.gm r)
  ⟨[],none,0,az,by simp,z2,World.ownsRow_nil _ _ _ _,n2,aS,by omega⟩ ?_
 rintro dd w3 mu ⟨D,ga,gc,J,hD,z3,r3,n3,aa,cg⟩ bt;have a5:(D.map (·.1)).Nodup:=J.nodup.1;have cp:D.length≤s.G.length:=by
  have:=Cr a5 J.nodup.2.2
  simpa[bs]using this
 refine LH J oo (fun a7=>?_) fun id v w4 al cI Z be o4 cm=>?_
 ·refine rG rfl (aF ?_);refine Ft ?_;have bi:D.Perm m:=by
   have nd1:D.Nodup:=(List.pairwise_map.1 a5).imp fun av e=>av (by rw[e]);have ca:m.Nodup:=(List.pairwise_map.1 ar).imp fun av e=>av (by rw[e]);refine(List.perm_ext_iff_of_nodup nd1 ca).2 fun x=>⟨hD x,fun hx=>?_⟩
   obtain⟨y,hy,e⟩:=List.mem_map.1 (a7 x.1 (List.mem_map.2 ⟨x,hx,rfl⟩));have h1:=sh (x:=x.1) (v:=x.2) ar hx;have h2:=sh (x:=y.1) (v:=y.2) ar (hD y hy);rw[e,h1]at h2
   have:x=y:=Prod.ext e.symm (Option.some.inj h2)
   rw[this];exact hy
  have a6:(D.map (·.2)).Perm s.G:=by
   have:=(bi.trans u).map (·.2)
   have e:(grL s.G).map (·.2)=s.G:=by unfold grL;rw[List.map_map];exact List.map_id _
   rw[e]at this;exact this
  have a4:D.length=s.G.length:=by have:=a6.length_eq;rwa[List.length_map]at this
  have am:(saC ⟨s.I,s.L,s.V,s.N,O,U,.slice ga D.length gc⟩)[19]? = some (.slice ga D.length gc):=by
   rw[Ii,show (19:Nat)=18+1 by omega,List.getElem?_append_right (by simp[hi.i6,hi.l6,hi.v6])];simp[hi.i6,hi.l6,hi.v6]
  refine eT (lK (v:=.slice ga D.length gc) z3 (by rw[Nat.zero_add];exact am) ?_);refine zcA r3 (by rw[List.length_map]) oo fun w5 G' b0 b3 r5 an=>?_;have bk:G'=s.G:=YD hi.gs (b0.trans a6) b3;subst bk;have z5:=fJ z3 r3 dc an;have n5:=wj n3 r3 dc an
  have a0:Below w.heap.size w w5:=aa.trans (cM an oo fun k j=>by have:=(World.ownsRow.lt r3 k j).1;omega);rw[a4]at z5 r5;have a9:((saC ⟨s.I,s.L,s.V,s.N,O,U,.slice ga s.G.length gc⟩).drop 0).take 20=saC ⟨s.I,s.L,s.V,s.N,O,U,.slice ga s.G.length gc⟩:=by
   rw[List.drop_zero,tL (by rw[tu hi.i6 hi.l6 hi.v6];omega)]
  refine ldA (n:=20) (vs:=saC ⟨s.I,s.L,s.V,s.N,O,U,.slice ga s.G.length gc⟩) underlying58 rfl kr z5 a9 (tu hi.i6 hi.l6 hi.v6) ?_;refine ip (n:=20) (vs:=saC ⟨s.I,s.L,s.V,s.N,O,U,.slice ga s.G.length gc⟩) kr (tu hi.i6 hi.l6 hi.v6) z5 (by rw[tu hi.i6 hi.l6 hi.v6];omega) (Rr rfl) fun w6 z6 o6=>?_
  refine SN (vs:=saC ⟨s.I,s.L,s.V,s.N,O,U,.slice ga s.G.length gc⟩) underlying58 rfl (by rw[tu hi.i6 hi.l6 hi.v6];kernel_rfl) z6 (by rw[List.take_zero,List.nil_append,List.drop_of_length_le (by rw[tu hi.i6 hi.l6 hi.v6];omega),List.append_nil]) ?_;have r6:=eM r5 z5 dc o6
  refine hK w6 _ ga gc ⟨rfl,rfl,rfl,rfl,rfl,eM n5 z5 dc o6,⟨r6.1,r6.2.imp id fun⟨g,cap,a3,a,b,c⟩=>⟨g,cap,a3,a,by omega,c⟩⟩⟩ (bE a0 o6 oA)
 ·have hv:(id,v)∈grL s.G:=u.mem_iff.1 al;obtain⟨g0,cs,e1⟩:=List.mem_map.1 hv;simp only[Prod.mk.injEq]at e1;obtain⟨rfl,rfl⟩:=e1;have cl:D.length<s.G.length:=by
   have h1:(D.map (·.1)++[(g0.o,g0.q)]).Nodup:=Z.nodup.1
   have:=Cr h1 Z.nodup.2.2
   simp only[List.length_append,List.length_map,List.length_singleton]at this;omega
  refine rG rfl (aT (Pr be (bv ?_)));have cL:=J.lt;have z4:=o4.blk z3 oo;have r4:=cD r3 fun k j=>o4.other k (by have:=(World.ownsRow.lt r3 k j).1;omega);have n4:w4.ownsRow (w.heap.size+1) 79 56 (.slice O s.N.length U) s.N.length (s.N.flatMap ndE):=cD n3 fun k j=>o4.other k (fun e=>by
   obtain⟨⟨a3,hc⟩,_⟩:=If n3 j;subst e;obtain⟨es,c,ce,cn,c0,_,hh,_⟩:=J;unfold Go.Proofs.YtkfgimlaijifaaaGreatDoor.blk at hc;rw[hc]at hh;cases hh)
  have ad:=bE aa o4 oo;have ch:r+1≤w4.heap.size:=by rw[o4.size];exact cg
  refine df (z:=.agg (grC ⟨0,0,0,0,0⟩).toArray) kr fun w5 g5 b5 s5=>?_;have g5:=cZ g5
  refine ip (n:=5) (vs:=grC g0) kr rfl g5 (by show 0+5≤5;omega) (uF _) fun w6 g6 o6=>?_;have g6:blk w6 w4.heap.size 121 (grC g0):=g6;have B6:Below w4.heap.size w4 w6:=bE b5 o6 oA;have z6:=ae B6 z4 z4.lt;have r6:=cD r4 fun k j=>B6.block k (World.ownsRow.lt r4 k j).2;have n6:=cD n4 fun k j=>B6.block k (World.ownsRow.lt n4 k j).2;have bb:=Z.below B6
  have af:=ad.trans (B6.mono ad.size);have cj:=Nat.le_trans ch B6.size;have am:(saC ⟨s.I,s.L,s.V,s.N,O,U,.slice ga D.length gc⟩)[19]? = some (.slice ga D.length gc):=by
   rw[Ii,show (19:Nat)=18+1 by omega,List.getElem?_append_right (by simp[hi.i6,hi.l6,hi.v6])];simp[hi.i6,hi.l6,hi.v6]
  refine eT (lK (v:=.slice ga D.length gc) z6 (by rw[Nat.zero_add];exact am) ?_);refine ldA (n:=5) (vs:=grC g0) underlying121 rfl kr g6 rfl rfl ?_;refine oG (vs:=[.agg (grC g0).toArray]) underlying56 (s:=5) kr kr oo rfl sm sm sm (by simp[Value.cells,iG]) fun w7 g7 b7 s7=>?_
  have g7:=cZ g7
  have z7:=ae b7 z6 z6.lt;have r7:=cD r6 fun k j=>b7.block k (World.ownsRow.lt r6 k j).2;have n7:=cD n6 fun k j=>b7.block k (World.ownsRow.lt n6 k j).2;have M:=bb.below b7;have a1:=af.trans (b7.mono af.size);have bd:=Nat.le_trans cj b7.size
  refine uP (base:=r+1) (enc:=grC) (x:=g0) underlying56 bp b6 b4 bn rfl oo iG r7 g7 (uF _) oo oo bd fun a8 c8 w8 r8 ap b8 _=>?_;have z8:=fJ z7 r7 dc ap;have n8:=wj n7 r7 dc ap;have k8:∀k,k<r+1→k<w7.heap.size→w8.heap[k]? = w7.heap[k]? := fun k j hl=>ap.block k hl fun e=>by have:=(World.ownsRow.lt r7 k e.symm).1;omega
  have b9:=M.kept (k8 _ oo M.lt.2) (k8 _ oo M.lt.1);have a2:=a1.trans (b8.mono oo);refine eT (cB kf z8 (by rw[tu hi.i6 hi.l6 hi.v6];omega) rfl fun w9 z9 o9=>?_);rw[Nat.zero_add,zcw hi.i6 hi.l6 hi.v6]at z9;have ck:=Nat.le_trans bd b8.size;have ag:(D++[((g0.o,g0.q),g0)]).length=D.length+1:=by simp
  refine⟨⟨D++[((g0.o,g0.q),g0)],a8,c8,?_,?_,by rw[ag];exact z9,?_,eM n8 z8 dc o9,bE a2 o9 oA,by rw[o9.size];exact ck⟩,?_⟩
  ·rw[List.map_append];exact b9.kept (o9.other _ oo) (o9.other _ oo)
  ·intro x hx;rcases List.mem_append.1 hx with hh|hh
   ·exact hD x hh
   ·rw[mS hh];exact al
  ·rw[ag,List.map_append,List.flatMap_append];have e2:([((g0.o,g0.q),g0)].map (fun x:(Int×Int)×GR=>x.2)).flatMap grC=grC g0:=by simp
   rw[e2];have cc:w8.ownsRow (r+1) 121 5 (.slice a8 (D.length+1) c8) (D.length+1) ((D.map (·.2)).flatMap grC++grC g0):=by
    have:=r8
    rw[List.flatMap_append]at this;simpa using this
   exact eM cc z8 dc o9
  ·rw[bt];have e1:lG w9 q.gm r=lG w8 q.gm r:=wI (o9.other _ oo) (o9.other _ oo);have e2:lG w8 q.gm r=lG w7 q.gm r:=wI (k8 _ oo M.lt.2) (k8 _ oo M.lt.1);have e3:lG w7 q.gm r=lG w6 q.gm r:=Nv bb b7;have e4:lG w6 q.gm r=lG w4 q.gm r:=Nv Z B6;omega
end
end
end
section
open Go.RowKit
theorem So (h:cr Q 200 none (fun j=>bld Q 202 #[(0,j)] fun t2=>box Q 202 t2 K) w):Gives Q 54 #[] w K:=by
 refine aq func54 kr ?_;exact mpK h
def xw (is1 l4 t13:Value)(zf:Nat→Value):List Value:=zf 0::is1::zf 2::zf 3::l4::zT zf 5 8 (t13::zT zf 14 14 ([]))
def xy (l4:Value)(zf:Nat→Value):List Value:=zT zf 0 4 (l4::zT zf 5 23 ([]))
def gA (K:KV):KE:=kZ f134 [1,1,1] K
def oH (K:KV):KE:=ah Q (cd f134 (b1 58)) (gA K) (xx xf (gA K) 0) (rk f134 K)
theorem H8 (h:bT .eql 141 W0 (.pointer none) (fun I w=>cond I (K cN w) (aJ W0 (fun j=>ai Q 202 j 0 fun u=>ld Q 200 u fun C=>rng Q 200 C fun X0=>oH K (xw V0 cN X0 (zV (zV zu 0 [W0]) 7 [W0,I,W0,j,u,C]))) w)) w):Gives Q 134 #[W0,V0] w K:=by
 refine aq func134 kr ?_;revert h;delta oH gA;exact mpF
theorem Ez (Inv:Value→World→Prop)(μ:Value→World→Nat)(U:Inv W0 w)(Z:∀(j:Value) (O:Nat→Value) (w:World) (m:Nat),Inv j w→m=μ j w →
  nxt Q X0 false 0 (fun t14=>ext Q t14 0 fun t15 w=>cond t15 (ent Q X0 (fun I=>ext Q I 1 fun u=>aZ Q V0 #[u] fun J w=>cond J (bg Q 242 1 #[(0,u)] (fun M=>blt Q .append #[242,242] 242 #[false,false] #[j,M] fun t24 w=>(Inv t24 w)∧((μ t24 w)<m)) w) ((Inv j w)∧((μ j w)<m))) w) (gA K (xy j (zV (zV O 1 [V0]) 13 [X0,t14,t15])) w)) w):oH K (xw V0 W0 X0 zf) w:=by
 refine aI (cd f134 (b1 116)) (zr [(4,1),(6,1),(14,11)]) kr (vP [4] Inv) (vQ [4] μ) U ?_;intro e' w' hI;have h:=Z _ (zM zf (gd e') (zr [(4,1),(6,1),(14,11)])) w' _ hI rfl;revert h;generalize (gA K)=qc0;exact mpF
theorem EA (h:call Q 181 #[W0,.func (.func 182) #[] #[]] (fun _=>K W0) w):gA K (xy W0 zf) w:=by
 delta gA;exact mpK h
attribute [irreducible] gA oH
def yM (out2 t6 t7 t8:Value)(zf:Nat→Value):List Value:=zf 0::zf 1::out2::zT zf 3 3 (t6::t7::t8::zT zf 9 12 ([]))
def yN (out2:Value)(zf:Nat→Value):List Value:=zf 0::zf 1::out2::zT zf 3 18 ([])
def gT (K:KV):KE:=kZ f77 [1,1] K
def pb (K:KV):KE:=ah Q (cd f77 [1,0,1,0]) (gT K) (xx xf (gT K) 0) (rk f77 K)
theorem HA (h:call Q 134 #[V0,.func (.func 135) #[] #[]] (fun W0=>lN 242 W0 fun X0=>pb K (yM cN W0 X0 (ci 0) (zV (zV zu 0 [V0]) 5 [V0]))) w):Gives Q 77 #[V0] w K:=by
 refine aq func77 kr ?_;revert h;delta pb gT;exact mpF
theorem G9 (Inv:Value→Value→World→Prop)(μ:Value→Value→World→Nat)(h0:Inv V0 Y0 w)(hs:∀(j u:Value) (dd:Nat→Value) (w:World) (m:Nat),Inv j u w→m=μ j u w →
  lS u X0 (fun t9 w=>cond t9 (aL Q 242 W0 u (fun M=>ld Q 231 M fun O=>aJ O fun t14=>ai Q 233 t14 0 fun t15=>ld Q 170 t15 fun U=>bg Q 62 1 #[(0,U)] fun Z=>blt Q .append #[62,62] 62 #[false,false] #[j,Z] fun I=>nC u fun J w=>(Inv I J w)∧((μ I J w)<m)) w) (gT K (yN j (zV dd 6 [W0,X0,u,t9])) w)) w):pb K (yM V0 W0 X0 Y0 zf) w:=by
 refine aI (cd f77 (b1 52)) (zr [(2,1),(4,1),(8,12)]) kr (vP [2,8] Inv) (vQ [2,8] μ) h0 ?_;intro e' w' hI;have h:=hs _ _ (zM zf (gd e') (zr [(2,1),(4,1),(8,12)])) w' _ hI rfl;revert h;generalize (gT K)=qc0;exact mpF
theorem Ga (h:K V0 w):gT K (yN V0 zf) w:=by
 delta gT;exact mpK h
attribute [irreducible] gT pb
theorem Ri (h:call Q 50 #[V0] (fun A6=>ext Q A6 0 fun A7=>ext Q A6 1 fun A8=>bT .neq 40 A8 (ci 0) fun C0 w=>aG C0 false (fun C=>bT .lss 3 W0 (ci 1) (fun C3=>C [W0,C3]) w) (fun k=>k [uu,uu] w) fun j=>pick C0 cT (gd j 1) fun C4 w=>aG C4 false (fun I=>bT .gtr 3 W0 (ci 6) (fun C7=>I [W0,C7]) w) (fun k=>k [uu,uu] w) fun u=>pick C4 cT (gd u 1) fun C8 w=>cond C8 (K (.tuple #[.pointer none,ci 1]) w) (call Q 51 #[] (fun D1=>call Q 52 #[] fun D2=>call Q 53 #[] fun D3=>call Q 54 #[] fun D4=>bld Q 144 #[(0,W0),(1,A7),(2,D1),(3,D2),(4,D3),(5,D4)] fun D5=>box Q 144 D5 fun D6=>K (.tuple #[D6,ci 0])) w)) w):Gives Q 28 #[V0,W0] w K:=by
 refine aq func28 kr ?_;exact mpK h
theorem wn (h:box Q 35 W0 (fun j w=>aE (fun S w=>hN S V0 fun A3=>hF S 144 A3 1 fun A4=>hL S 132 A4 fun A5=>hL S 35 j fun A6=>call Q 107 #[A5,A6] (fun A7=>aE fun _=>bT .neq 40 A7 (ci 0) fun A9 w=>cond A9 (K A7 w) (aE (fun S w=>hN S V0 fun C2=>hF S 144 C2 2 fun C3=>hL S 135 C3 fun C4=>hL S 35 j fun C5=>call Q 108 #[C4,C5] (fun _=>K (ci 0)) w) w.drew)) w) w.drew) w):Gives Q 66 #[V0,W0] w K:=by
 refine aq func66 kr ?_;exact mpK h
def aA (r0 m3 fresh4 e6 e7 is8 A6 A7 A8:Value)(zf:Nat→Value):List Value:=r0::zf 1::zf 2::m3::fresh4::zf 5::e6::e7::is8::zf 9::A6::A7::A8::zT zf 13 52 ([])
def eE (K:KV):KE:=kZ f69 [1,1] K
def oT (K:KV):KE:=ah Q (cd f69 [1,0,1,0]) (eE K) (xx xf (eE K) 0) (rk f69 K)
def bC (K:KV):KE:=kZ f69 [1,1,1] K
def jr (K:KV):KE:=ah Q (cd f69 (b1 58)) (bC K) (xx xf (bC K) 2) (rk f69 K)
def eF (K:KV)(B1:KE):KE:=kY f69 (b1 467) B1 (xx xf (bC K) 2) K
def lE (K:KV)(B1:KE):KE:=ah Q (cd f69 (b1 466)) (eF K B1) (xx xf (bC K) 2) (rk f69 K)
abbrev ut (K:KV)(hA0:KE)(r0 m1:Value)(w:World):Prop :=
  box Q 49 m1 (fun m3=>ai Q 49 m3 4 fun A5=>ld Q 44 A5 fun A6=>lN 44 A6 fun A7=>hA0 (aA r0 m3 cN uu uu uu A6 A7 (ci 0) (zV (zV zu 1 [m1]) 9 [A5]))) w
theorem Di (h:ut K (ah Q (cd f69 [1,0,1,0]) (ah Q (cd f69 [1,1]) (rk f69 K) (fun _ _ _=>False) (rk f69 K)) (fun i=>@Bool.rec (fun _=>KE) ((fun _ _ _=>False) i) (ah Q (cd f69 [1,1]) (rk f69 K) (fun _ _ _=>False) (rk f69 K)) (Nat.beq i 0)) (rk f69 K)) V0 W0 w):ah Q (cd f69 []) (rk f69 K) xf (rk f69 K) (aA V0 uu uu uu uu uu uu uu uu (zV zu 1 [W0])) w:=Eq.mp kr h
theorem Cw {K:KV}{V0 m1:Value}{w:World}(h:ut K (oT K) V0 m1 w):Gives Q 69 #[V0,m1] w K:=aq func69 (by kernel_rfl) (Eq.mp (congrArg (fun c=>ah Q c (rk f69 K) xf (rk f69 K) (aA V0 uu uu uu uu uu uu uu uu (zV zu 1 [m1])) w) (by kernel_rfl:(cd f69 [])=(cd f69 []))) (Di h))
theorem Al (B1:KE)(j:KE)(h:lS M1 J1 (fun A9 w=>cond A9 (aL Q 44 I1 M1 (fun C0=>ld Q 35 C0 fun C1=>alc Q 35 fun Y0=>sto Q 35 Y0 C1 fun _ w=>aE (fun S w=>hN S V0 fun C3=>hF S 144 C3 3 fun C4=>hL S 137 C4 fun C5=>hN S V0 fun C7=>hF S 144 C7 1 fun C8=>hL S 132 C8 fun C9=>hL S 35 Y0 fun D1=>call Q 116 #[C9] (fun D0=>aU S fun _=>call Q 115 #[C5,D0,D1] fun D2=>nC M1 fun D3=>B1 (aA V0 W0 X0 Y0 Z0 H1 I1 J1 D3 (zV zf 13 [A9,C0,C1,V0,C3,C4,C5,V0,C7,C8,C9,D0,D1,D2,D3]))) w) w.drew) w) (j (aA V0 W0 X0 (zf 6) Z0 H1 I1 J1 M1 (zV zf 13 [A9])) w)) w):ah Q (cd f69 (b1 52)) B1 (xx xf j 0) (rk f69 K) (aA V0 W0 X0 (zf 6) Z0 H1 I1 J1 M1 zf) w:=Eq.mp kr h
theorem Am (Inv:Value→World→Prop)(μ:Value→World→Nat)(I:Inv M1 w)(M:∀(j:Value) (C:Nat→Value) (w:World) (m:Nat),Inv j w→m=μ j w →
  lS j J1 (fun A9 w=>cond A9 (aL Q 44 I1 j (fun C0=>ld Q 35 C0 fun C1=>alc Q 35 fun Y0=>sto Q 35 Y0 C1 fun _ w=>aE (fun S w=>hN S V0 fun C3=>hF S 144 C3 3 fun C4=>hL S 137 C4 fun C5=>hN S V0 fun C7=>hF S 144 C7 1 fun C8=>hL S 132 C8 fun C9=>hL S 35 Y0 fun D1=>call Q 116 #[C9] (fun D0=>aU S fun _=>call Q 115 #[C5,D0,D1] fun _=>nC j fun D3 w=>(Inv D3 w)∧((μ D3 w)<m)) w) w.drew) w) (eE K (aA V0 W0 X0 (C 6) Z0 H1 I1 J1 j (zV C 13 [A9])) w)) w):oT K (aA V0 W0 X0 Y0 Z0 H1 I1 J1 M1 zf) w:=by
 refine aI (cd f69 (b1 52)) (zr [(6,1),(12,16)]) kr (vP [12] Inv) (vQ [12] μ) I ?_;intro e' w' hI;have h:=M _ (zM zf (gd e') (zr [(6,1),(12,16)])) w' _ hI rfl
 have J:ah Q (cd f69 (b1 52)) (fun u w2=>Inv (gd u 12) w2∧μ (gd u 12) w2<μ (gd e' 12) w') (xx xf (eE K) 0) (rk f69 K) (aA V0 W0 X0 (gd e' 6) Z0 H1 I1 J1 (gd e' 12) (zM zf (gd e') (zr [(6,1),(12,16)]))) w':=Al (fun u w2=>Inv (gd u 12) w2∧μ (gd u 12) w2<μ (gd e' 12) w') (eE K) (Eq.mp kr h);exact Eq.mp kr J
abbrev sv (K:KV)(hA0:KE)(V0 W0 X0 Y0 Z0 H1 I1 J1 M1:Value)(zf:Nat→Value)(w:World):Prop :=
  aE (fun S w=>hN S V0 fun D6=>hF S 144 D6 3 fun D7=>hL S 137 D7 fun D8=>hN S V0 fun D9=>hF S 144 D9 1 fun E0=>hL S 132 E0 fun E1=>(call Q 116 #[E1] (fun E2=>aU S fun S w=>(call Q 117 #[D8,E2] (fun E3=>aE fun S w=>hld S (ext Q E3 0) fun E4=>hld S (ext Q E3 1) fun E5=>alc Q 35 (fun Z0=>aU S fun S=>sto Q 35 Z0 E4 fun _=>aU S fun _=>hA0 (aA V0 W0 X0 Y0 Z0 E5 I1 J1 M1 (zV zf 28 [E3,V0,D6,D7,D8,V0,D9,E0,E1,E2,E3,E4,E5]))) w) w)∧(alc Q 35 (fun Z0=>aU S fun _=>call Q 117 #[D8,E2] fun E3=>aE fun S w=>hld S (ext Q E3 0) fun E4=>hld S (ext Q E3 1) fun E5=>sto Q 35 Z0 E4 (fun _=>aU S fun _=>hA0 (aA V0 W0 X0 Y0 Z0 E5 I1 J1 M1 (zV zf 28 [E3,V0,D6,D7,D8,V0,D9,E0,E1,E2,E3,E4,E5]))) w) w)) w)∧(alc Q 35 (fun Z0=>aU S fun S=>call Q 116 #[E1] fun E2=>aU S fun _=>call Q 117 #[D8,E2] fun E3=>aE fun S w=>hld S (ext Q E3 0) fun E4=>hld S (ext Q E3 1) fun E5=>sto Q 35 Z0 E4 (fun _=>aU S fun _=>hA0 (aA V0 W0 X0 Y0 Z0 E5 I1 J1 M1 (zV zf 28 [E3,V0,D6,D7,D8,V0,D9,E0,E1,E2,E3,E4,E5]))) w) w)) w.drew
theorem Aq (h:sv K (ah Q (cd f69 (b1 58)) (ah Q (cd f69 [1,1,1]) (rk f69 K) (fun _ _ _=>False) (rk f69 K)) (fun i=>@Bool.rec (fun _=>KE) ((fun _ _ _=>False) i) (ah Q (cd f69 [1,1,1]) (rk f69 K) (fun _ _ _=>False) (rk f69 K)) (Nat.beq i 2)) (rk f69 K)) V0 W0 X0 Y0 Z0 H1 I1 J1 M1 zf w):ah Q (cd f69 [1,1]) (rk f69 K) xf (rk f69 K) (aA V0 W0 X0 Y0 Z0 H1 I1 J1 M1 zf) w:=Eq.mp kr h
theorem Ar (h:sv K (jr K) V0 W0 X0 Y0 Z0 H1 I1 J1 M1 zf w):eE K (aA V0 W0 X0 Y0 Z0 H1 I1 J1 M1 zf) w:=by
 delta eE
 exact Eq.mp (congrArg (fun c=>ah Q c (rk f69 K) xf (rk f69 K) (aA V0 W0 X0 Y0 Z0 H1 I1 J1 M1 zf) w) (by kernel_rfl:(cd f69 [1,1])=(cd f69 [1,1]))) (Aq h)
theorem Ao (B1:KE)(j:KE)(u:Code)(h:cond H1 (ah Q u (ah Q (cd f69 (b1 467)) B1 (fun i=>@Bool.rec (fun _=>KE) ((fun _ _ _=>False) i) j (Nat.beq i 2)) (rk f69 K)) (fun i=>@Bool.rec (fun _=>KE) ((fun _ _ _=>False) i) j (Nat.beq i 2)) (rk f69 K) (aA V0 W0 X0 Y0 Z0 H1 I1 J1 M1 (zV zf 41 [H1])) w) (j (aA V0 W0 X0 Y0 Z0 H1 I1 J1 M1 (zV zf 41 [H1])) w)):ah Q (rep [1,0] u (cd f69 (b1 116))) B1 (xx xf j 2) (rk f69 K) (aA V0 W0 X0 Y0 Z0 H1 I1 J1 M1 zf) w:=Eq.mp kr h
theorem Ap (Inv:vI 3)(μ:vM 3)(M:Inv X0 Z0 H1 w)(U:∀(j I C:Value) (J:Nat→Value) (w:World) (m:Nat),Inv j I C w→m=μ j I C w →
  cond C (lE K (fun u w2=>(Inv (gd u 4) (gd u 7) (gd u 8) w2)∧((μ (gd u 4) (gd u 7) (gd u 8) w2)<m)) (aA V0 W0 j Y0 I C I1 J1 M1 (zV J 41 [C])) w) (bC K (aA V0 W0 j Y0 I C I1 J1 M1 (zV J 41 [C])) w)):jr K (aA V0 W0 X0 Y0 Z0 H1 I1 J1 M1 zf) w:=by
 refine aI (cd f69 (b1 116)) (zr [(4,1),(7,2),(41,23)]) kr (vP [4,7,8] Inv) (vQ [4,7,8] μ) M ?_;intro e' w' hI;have h:=U _ _ _ (zM zf (gd e') (zr [(4,1),(7,2),(41,23)])) w' _ hI rfl
 have O:ah Q (rep [1,0] (cd f69 (b1 466)) (cd f69 (b1 116))) (fun u w2=>Inv (gd u 4) (gd u 7) (gd u 8) w2∧μ (gd u 4) (gd u 7) (gd u 8) w2<μ (gd e' 4) (gd e' 7) (gd e' 8) w') (xx xf (bC K) 2) (rk f69 K) (aA V0 W0 (gd e' 4) Y0 (gd e' 7) (gd e' 8) I1 J1 M1 (zM zf (gd e') (zr [(4,1),(7,2),(41,23)]))) w':=Ao (fun u w2=>Inv (gd u 4) (gd u 7) (gd u 8) w2∧μ (gd u 4) (gd u 7) (gd u 8) w2<μ (gd e' 4) (gd e' 7) (gd e' 8) w') (bC K) (cd f69 (b1 466)) (Eq.mp kr h)
 exact Eq.mp kr O
abbrev su (K:KV)(B1:KE)(hA0:KE)(V0 W0 X0 Y0 Z0 H1 I1 J1 M1:Value)(zf:Nat→Value)(w:World):Prop :=
  ld Q 35 Z0 (fun F9=>call Q 66 #[V0,F9] fun G0=>bT .eql 40 G0 (ci 0) fun G1 w=>cond G1 (ld Q 35 Z0 (fun G2=>bg Q 44 1 #[(0,G2)] fun G3=>blt Q .append #[44,44] 44 #[false,false] #[X0,G3] fun G4=>hA0 (aA V0 W0 G4 Y0 Z0 H1 I1 J1 M1 (zV zf 55 [V0,F9,G0,G1,X0,G2,G3,G4]))) w) (hA0 (aA V0 W0 X0 Y0 Z0 H1 I1 J1 M1 (zV zf 55 [V0,F9,G0,G1])) w)) w
theorem Aj (B1:KE)(j:KE)(u:KE)(h:su K B1 j V0 W0 X0 Y0 Z0 H1 I1 J1 M1 zf w):ah Q (cd f69 (b1 466)) j (xx xf u 2) (rk f69 K) (aA V0 W0 X0 Y0 Z0 H1 I1 J1 M1 zf) w:=Eq.mp kr h
theorem Ak {B1:KE}(h:su K B1 (eF K B1) V0 W0 X0 Y0 Z0 H1 I1 J1 M1 zf w):lE K B1 (aA V0 W0 X0 Y0 Z0 H1 I1 J1 M1 zf) w:=by
 delta lE
 exact Eq.mp (congrArg (fun c=>ah Q c (eF K B1) (xx xf (bC K) 2) (rk f69 K) (aA V0 W0 X0 Y0 Z0 H1 I1 J1 M1 zf) w) (by kernel_rfl:(cd f69 (b1 466))=(cd f69 (b1 466)))) (Aj B1 (eF K B1) (bC K) h)
abbrev sx (K:KV)(V0 W0 X0 Y0 Z0 H1 I1 J1 M1:Value)(zf:Nat→Value)(w:World):Prop :=
  K X0 w
theorem As (h:sx K V0 W0 X0 Y0 Z0 H1 I1 J1 M1 zf w):ah Q (cd f69 [1,1,1]) (rk f69 K) xf (rk f69 K) (aA V0 W0 X0 Y0 Z0 H1 I1 J1 M1 zf) w:=Eq.mp kr h
theorem At (h:sx K V0 W0 X0 Y0 Z0 H1 I1 J1 M1 zf w):bC K (aA V0 W0 X0 Y0 Z0 H1 I1 J1 M1 zf) w:=by
 delta bC
 exact Eq.mp (congrArg (fun c=>ah Q c (rk f69 K) xf (rk f69 K) (aA V0 W0 X0 Y0 Z0 H1 I1 J1 M1 zf) w) (by kernel_rfl:(cd f69 [1,1,1])=(cd f69 [1,1,1]))) (As h)
abbrev sA (K:KV)(B1:KE)(V0 W0 X0 Y0 Z0 H1 I1 J1 M1:Value)(zf:Nat→Value)(w:World):Prop :=
  ld Q 35 Z0 (fun G5=>alc Q 35 fun Z0=>sto Q 35 Z0 G5 fun _ w=>aE (fun S w=>hN S V0 fun E9=>hF S 144 E9 3 fun F0=>hL S 137 F0 fun F1=>hN S V0 fun F2=>hF S 144 F2 1 fun F3=>hL S 132 F3 fun F4=>call Q 116 #[F4] (fun F5=>aU S fun _=>call Q 117 #[F1,F5] fun F6=>aE fun S w=>hld S (ext Q F6 0) fun F7=>hld S (ext Q F6 1) fun F8=>sto Q 35 Z0 F7 (fun _=>aU S fun _=>B1 (aA V0 W0 X0 Y0 Z0 F8 I1 J1 M1 (zV (zV zf 42 [F6,V0,E9,F0,F1,V0,F2,F3,F4,F5,F6,F7,F8]) 63 [G5]))) w) w) w.drew) w
theorem Au (B1:KE)(j:KE)(h:sA K B1 V0 W0 X0 Y0 Z0 H1 I1 J1 M1 zf w):ah Q (cd f69 (b1 467)) B1 (xx xf j 2) (rk f69 K) (aA V0 W0 X0 Y0 Z0 H1 I1 J1 M1 zf) w:=Eq.mp kr h
theorem Av {B1:KE}(h:sA K B1 V0 W0 X0 Y0 Z0 H1 I1 J1 M1 zf w):eF K B1 (aA V0 W0 X0 Y0 Z0 H1 I1 J1 M1 zf) w:=by
 delta eF
 exact Eq.mp (congrArg (fun c=>ah Q c B1 (xx xf (bC K) 2) (rk f69 K) (aA V0 W0 X0 Y0 Z0 H1 I1 J1 M1 zf) w) (by kernel_rfl:(cd f69 (b1 467))=(cd f69 (b1 467)))) (Au B1 (bC K) h)
attribute [irreducible] eE oT bC jr eF lE
def iD (r0 m4 e7 A8:Value)(zf:Nat→Value):List Value:=r0::zT zf 1 3 (m4::zf 5::zf 6::e7::zT zf 8 4 (A8::zT zf 13 31 ([])))
def dU (K:KV):KE:=kZ f34 [1,1] K
def gj (K:KV):KE:=kY f34 (b1 103) (dU K) (xx xf (dU K) 0) K
def lh (K:KV):KE:=ah Q (cd f34 (b1 205)) (gj K) (xx xf (dU K) 0) (rk f34 K)
theorem Gz {K:KV}{V0 m1 now2:Value}{w:World}(h:box Q 49 m1 (fun W0=>bT .eql 98 V0 (.pointer none) fun A7 w=>cond A7 (K (.tuple #[cN,ci 2]) w) (ld Q 49 W0 (fun A9=>call Q 67 #[A9] fun C0=>un Q .not C0 fun C1=>lh K (iD V0 W0 (ci 0) C1 (zV (zV (zV (zV zu 1 [m1,now2]) 6 [cN]) 9 [A7,V0,A7]) 13 [A9,C0,C1]))) w)) w):Gives Q 34 #[V0,m1,now2] w K:=by
 refine aq func34 (by kernel_rfl) ?_
 refine Eq.mp (congrArg (fun c=>ah Q c _ _ _ _ w) (by kernel_rfl:(rep (b1 205) (cd f34 (b1 205)) (cd f34 []))=(cd f34 []))) ?_
 revert h
 delta lh dU gj
 generalize (cd f34 (b1 205))=xc0
 exact mpF
theorem Ec (h:cond Y0 (gj K (iD V0 W0 X0 Y0 zf) w) (sF 49 W0 2 (fun C2=>sL 3 C2 fun C3=>sN V0 fun C5=>sF 144 C5 0 fun C6=>sL 3 C6 fun C7=>sti (bF .neq 3 C3 C7) fun C8=>gj K (iD V0 W0 X0 C8 (zV zf 16 [C2,C3,V0,C5,C6,C7,C8]))) w.drew)):lh K (iD V0 W0 X0 Y0 zf) w:=by
 delta lh;revert h;generalize (gj K)=qc0;generalize (dU K)=qc1;exact mpF
theorem Ee (h:cond Y0 (K (.tuple #[cN,ci 1]) w) (dU K (iD V0 W0 X0 Y0 zf) w)):gj K (iD V0 W0 X0 Y0 zf) w:=by
 delta gj;revert h;generalize (dU K)=qc0;exact mpF
theorem Ed (h:aE (fun S w=>hN S V0 fun D0=>hF S 144 D0 4 fun D1=>hL S 139 D1 fun D2=>hF S 49 W0 1 fun D3=>hL S 3 D3 fun D4=>hF S 49 W0 3 fun D5=>hL S 33 D5 fun D6=>call Q 68 #[D2,D4,D6] (fun _=>cr Q 160 none fun D8=>cP Q 160 D8 (cb 1) (.func (.func 69) #[V0] #[]) fun _=>cP Q 160 D8 (cb 2) (.func (.func 70) #[V0] #[]) fun _=>ai Q 49 W0 0 fun E4=>ld Q 5 E4 fun E5=>lkp Q 160 D8 E5 false fun E6=>ld Q 49 W0 fun E7=>aZ Q E6 #[E7] fun E8=>K (.tuple #[E8,ci 0])) w) w.drew):dU K (iD V0 W0 X0 Y0 zf) w:=by
 delta dU;exact mpK h
attribute [irreducible] dU gj lh
theorem FS (h:alc Q 58 (fun A0=>bT .eql 98 V0 (.pointer none) fun A1 w=>cond A1 (bld Q 58 #[] (fun A2=>sto Q 58 A0 A2 fun _=>aV Q [(some 58,A0)] K) w) (aJ V0 (fun A3=>ai Q 144 A3 1 fun A4=>ld Q 132 A4 fun A5=>call Q 76 #[A5] fun A6=>sto Q 58 A0 A6 fun _=>aV Q [(some 58,A0)] K) w)) w):Gives Q 38 #[V0] w K:=by
 refine aq func38 kr ?_;exact mpK h
end
section
attribute [local irreducible] bin un conv call aZ blt slc ai fld aL idx lkp cP eP eSt rng nxt ent ext alc box bld bg ld sto aJ cr mkS ifc pick rdy wts aG sti cond aV Gives ah dy dP cOp
section
open Go.RowKit Go.ChangeMaps
theorem Ch.add {a b c:World}(h:Ch F a b)(k:Below a.heap.size b c):Ch F a c :=
 ⟨k.os.trans h.os,k.tape.trans h.tape,k.output.trans h.output,Nat.le_trans h.size k.size,fun x j u=>(k.block x j).trans (h.block x j u)⟩
theorem Vt :(Tryz.prog.info? 35).map (fun i=>(i.zero,i.size,i.bytes))=some (some (.agg (evC ⟨0,0,0,0,0,0,0,0,0,0,0,0,0,0⟩).toArray),14,112):=by kernel_rfl
def pE (R:List jl):List (List (EV×Int)):=R.map (·.it)
structure RpB where
 p:Nat
 q:LB
 g:Nat
 h:Nat
 m:Nat
 e:Nat
 d:Nat
def RpF (R:RpB)(Rw:List jl):List Nat:=R.q.wv++(R.g::lrB Rw++[R.m,R.e])
theorem fQ {R:RpB}{Rw:List jl}:k∈RpF R Rw↔k∈R.q.wv∨k=R.g∨k∈lrB Rw∨k=R.m∨k=R.e:=by simp[RpF,or_assoc]
structure RpM (w:World) (R:RpB) (i:Nat) (l:PL) (W:HM) (Rw:List jl) (c:Int) (L:List (List Int)):Prop where
 b:blk w R.p 144 [iv (i:Nat),pB R.q.p,pB R.g,pB R.h,pB R.e,pB R.d]
 pm:PM w R.q l
 g:LoM w R.g Rw l.V c
 h:HoM w R.h R.m W
 e:GoM w R.e L
 pq:R.p∉R.q.l
 gq:∀k∈R.g::lrB Rw,k∉R.q.l
 hq:R.h∉R.q.l
 mq:R.m∉R.q.l
 eq:R.e∉R.q.l
 few:∀r∈Rw,(r.it.length:Int)≤c
 c0:0≤c
theorem ZO {R:List jl}{e:EV}{c:Int}{r:jl}{a:Option Nat}{cap:Nat}(h:R[e.q]? = some r):pE (R.set e.q ⟨a,cap,r.it++[(e,c)]⟩)=Ew (pE R) e c:=by
 unfold pE Ew;rw[List.map_set,List.getD_eq_getElem?_getD,List.getElem?_map,h];rfl
theorem HoM.mb' {q:Nat}{W:HM}(h:HoM w p m W)(j:blk w q E cs):q≠m:=fun e=>by
 obtain⟨es,c,u⟩:=h.mb;unfold blk at j;rw[e,u.heap]at j;cases j
theorem LoM.ty {R:List jl}{V:List Int}{c:Int}(h:LoM w g R V c)(j:blk w k E cs)(C:E≠274):k∉lrB R:=fun J=>by
 obtain⟨i,r,M,e⟩:=h.in J;obtain⟨u,I⟩:=h.cur M e;unfold blk at j;rw[I]at j;simp only[Option.some.injEq,Obj.cells.injEq]at j;exact C j.2.1.symm
section
variable {w w':World}{R:RpB}{i:Nat}{l:PL}{W:HM}{Rw:List jl}{c:Int}{L:List (List Int)}
theorem RpM.below (h:RpM w R i l W Rw c L)(j:Below w.heap.size w w'):RpM w' R i l W Rw c L :=
 {h with b:=ae j h.b h.b.lt,pm:=h.pm.below j,g:=h.g.below j,h:=h.h.below j,e:=h.e.below j}
theorem RpM.lt (h:RpM w R i l W Rw c L):∀k∈RpF R Rw,k<w.heap.size:=fun k j=>by
 rcases fQ.1 j with j|rfl|j|rfl|rfl
 ·exact h.pm.lt k (LB.wl k j)
 ·exact h.g.b.lt
 ·exact h.g.lt k (List.mem_cons_of_mem _ j)
 ·exact h.h.lt.2
 ·exact h.e.b.lt
theorem RpM.ml (h:RpM w R i l W Rw c L):R.m∉lrB Rw:=fun I=>by
 obtain⟨j,r,M,e⟩:=h.g.in I;obtain⟨C,u⟩:=h.g.cur M e;obtain⟨es,O,J⟩:=h.h.mb;rw[J.heap]at u;cases u
theorem RpM.out (h:RpM w R i l W Rw c L)(u:blk w k E cs)(C:E≠274)(I:E≠193)(J:E≠199)(M:k∉R.q.l):k∉RpF R Rw:=fun j=>by
 rcases fQ.1 j with j|rfl|j|rfl|rfl
 ·exact M (LB.wl k j)
 ·exact absurd rfl (u.ne h.g.b I)
 ·exact h.g.ty u C j
 ·exact h.h.mb' u rfl
 ·exact absurd rfl (u.ne h.e.b J)
theorem RpM.wq (h:RpM w R i l W Rw c L)(u:k∉R.q.l):k∉R.q.wv:=fun j=>u (LB.wl k j)
theorem RpM.setH {W':HM}(h:RpM w R i l W Rw c L)(u:Ch [R.m] w w')(C:HoM w' R.h R.m W'):RpM w' R i l W' Rw c L :=
 have n:∀k,k≠R.m→k∉[R.m]:=fun k j C=>j (mS C)
 {h with
  b:=h.b.ch u (n _ (h.h.mb' h.b))
  pm:=h.pm.ch u fun k j=>n k fun e=>h.mq (e ▸ j)
  g:=h.g.ch u fun k j=>n k fun e=>(List.mem_cons.1 j).elim (fun e' => h.h.mb' h.g.b (e'.symm.trans e)) fun j=>h.ml (e ▸ j)
  h:=C
  e:=h.e.ch u (n _ (h.h.mb' h.e.b))}
theorem RpM.setE {L':List (List Int)}(h:RpM w R i l W Rw c L)(u:Ch [R.e] w w')(C:GoM w' R.e L'):RpM w' R i l W Rw c L' :=
 have n:∀k,k≠R.e→k∉[R.e]:=fun k j C=>j (mS C)
 {h with
  b:=h.b.ch u (n _ (h.b.ne h.e.b dc))
  pm:=h.pm.ch u fun k j=>n k fun e=>h.eq (e ▸ j)
  g:=h.g.ch u fun k j=>n k fun e=>(List.mem_cons.1 j).elim (fun e' => h.g.b.ne h.e.b dc (e'.symm.trans e)) fun j=>h.g.ty h.e.b dc (e ▸ j)
  h:=h.h.ch u (n _ (h.h.b.ne h.e.b dc)) (n _ (h.h.mb' h.e.b).symm)
  e:=C}
theorem RpM.sub1 (h:RpM w R i l W Rw c L)(j:Ch [R.m] w w'):Ch (RpF R Rw) w w':=j.mono fun k u=>fQ.2 (by rw[mS u];simp)
theorem RpM.sub2 (h:RpM w R i l W Rw c L)(j:Ch [R.e] w w'):Ch (RpF R Rw) w w':=j.mono fun k u=>fQ.2 (by rw[mS u];simp)
end
theorem Tn (h:K (pA b (o+0)) w):ai Q 144 (pA b o) 0 K w:=aH kr h
theorem yv (h:K (pA b (o+1)) w):ai Q 144 (pA b o) 1 K w:=aH kr h
theorem To (h:K (pA b (o+2)) w):ai Q 144 (pA b o) 2 K w:=aH kr h
theorem NZ (h:K (pA b (o+3)) w):ai Q 144 (pA b o) 3 K w:=aH kr h
theorem Zn (h:K (pA b (o+4)) w):ai Q 144 (pA b o) 4 K w:=aH kr h
theorem Zo (h:K (pA b (o+5)) w):ai Q 144 (pA b o) 5 K w:=aH kr h
section
variable {w:World}{K:KV}{R:RpB}{i:Nat}{l:PL}{W:HM}{Rw:List jl}{c:Int}{L:List (List Int)}{e:EV}
theorem HH (h:K (.bool false) w):bin Q .eql 98 cx cy (pB b) (.pointer none) K w :=
 gy (by unfold eqG eqGuard;rfl) kr h
theorem Yr {x:World}(h:RpM w0 R i l W Rw c L)(hi:PI l)(hm:eX l.V e=true)(U:bJ e=true)(hc:c<1000000)(p2:PM x R.q (eff e l))(c2:Ch R.q.wv w0 x)(hK:∀w' Rw',RpM w' R i (eff e l) W Rw' (c+1) L→Ch (R.g::lrB Rw) x w'→(∀k∈lrB Rw',k∈lrB Rw∨x.heap.size≤k)→pE Rw'=Ew (pE Rw) e c→K (ci 0) w'):call Q 108 #[pB R.g,evV e] K x:=by
 obtain⟨ag,ho⟩:=sj U;have Z:∀k,k∉R.q.l→k∉R.q.wv:=fun k u=>h.wq u;have af:=h.pm.lt;have z2:=h.b.ch c2 (Z _ h.pq);have g2:=h.g.ch c2 fun k u=>Z _ (h.gq k u);have o2:=h.h.ch c2 (Z _ h.hq) (Z _ h.mq);have f2:=h.e.ch c2 (Z _ h.eq);have ad:e.q<Rw.length:=by rw[g2.l6];exact ag
 have hr:Rw[e.q]? = some Rw[e.q]:=gE ad;generalize Rw[e.q]=r at hr;have al:=h.few r (mO hr);have aa:=h.c0;have am:=c2.size;refine zdH g2 hr hm (fun k u=>(hi.vb k u).1) ⟨aa,by omega⟩ oo fun w3 a' O g3 n3 M=>?_;have hV:l.V.set e.q e.s=(eff e l).V:=by
  show _=l.V.set e.q (l.V.getD e.q 0+1);rw[(wm hm).1]
 rw[hV]at g3;have I:∀{k:Nat},k∉lrB Rw→k≠R.g→k∉R.g::lrB Rw:=fun h1 h2 C=>(List.mem_cons.1 C).elim h2 h1;have J:∀k∈lrB (Rw.set e.q ⟨a',O,r.it++[(e,c)]⟩),k∈lrB Rw∨x.heap.size≤k:=fun k u=>by
  obtain⟨r',j,e'⟩:=List.mem_filterMap.1 u;rcases List.mem_or_eq_of_mem_set j with j|rfl
  ·exact .inl (List.mem_filterMap.2 ⟨r',j,e'⟩)
  ·rcases n3 k e' with C|C
   ·exact .inl (List.mem_filterMap.2 ⟨r,mO hr,C⟩)
   ·exact .inr C
 refine hK w3 _ ⟨z2.ch M (I (h.g.ty h.b dc) (h.b.ne h.g.b dc)),p2.ch M fun k u C=>h.gq k C u,g3,o2.ch M (I (h.g.ty h.h.b dc) (h.h.b.ne h.g.b dc)) (I h.ml (h.h.mb' h.g.b).symm),f2.ch M (I (h.g.ty h.e.b dc) (h.e.b.ne h.g.b dc)),h.pq,fun k u=>?_,h.hq,h.mq,h.eq,fun r' j=>?_,by omega⟩ M J (ZO hr)
 ·rcases List.mem_cons.1 u with rfl|u
  ·exact h.gq _ sm
  ·rcases J k u with C|C
   ·exact h.gq k (List.mem_cons_of_mem _ C)
   ·exact fun hq=>by have:=af k hq;omega
 ·rcases List.mem_or_eq_of_mem_set j with j|rfl
  ·have:=h.few r' j;omega
  ·simp;omega
theorem Uj (h:RpM w R i l W Rw c L)(hi:PI l)(hm:eX l.V e=true)(O:oN e l=0)(hc:c<1000000)(j:∀w' u,RpM w' R i (eff e l) W u (c+1) L→Ch (RpF R Rw) w w'→(∀k∈lrB u,k∈lrB Rw∨w.heap.size≤k)→pE u=Ew (pE Rw) e c→K (ci 0) w'):call Q 66 #[pB R.p,evV e] K w:=by
 have J:bJ e=true:=((qi hi).1 O).may;refine ak (goK func66) (wn (yk fun M e1 b1 s1=>?_));have h1:=h.below b1;refine au (fun x=>blk x R.p 144 [iv (i:Nat),pB R.q.p,pB R.g,pB R.h,pB R.e,pB R.d]∧blk x w.heap.size 35 (evC e)) ⟨h1.b.drew,e1.drew⟩ ?_;refine ab (fun x d _ j=>aj j) (ab (fun x d _ j=>yv j) (ab (v:=pB R.q.p) (fun x d _ j=>lK d.1 rfl j) (ab (fun x d _ j=>dT d.2 j) ?_)))
 have C:=h1.below (Below.refl _ M).drew;refine Ox C.pm hi fun w2 p2 c2=>?_;rw[O];rw[show lJ e l=eff e l by unfold lJ;rw[if_pos O]]at p2;have U:=h.pm.lt;have z2:=C.b.ch c2 (C.wq h.pq);have e2:=e1.drew.ch c2 (C.wq fun hh=>by have:=U _ hh;omega);refine au (fun _=>True) trivial (aX (ao sm ?_))
 refine au (fun x=>blk x R.p 144 [iv (i:Nat),pB R.q.p,pB R.g,pB R.h,pB R.e,pB R.d]∧blk x w.heap.size 35 (evC e)) ⟨z2.drew,e2.drew⟩ ?_;refine ab (fun x d _ j=>aj j) (ab (fun x d _ j=>To j) (ab (v:=pB R.g) (fun x d _ j=>lK d.1 rfl j) (ab (fun x d _ j=>dT d.2 j) ?_)));have I:=c2.add (Below.refl _ w2).drew;have aa:=c2.size;have d1:M.drew.heap.size=M.heap.size:=rfl
 have d2:w2.drew.heap.size=w2.heap.size:=rfl;refine Yr C hi hm J hc p2.drew I fun w3 u h3 c3 n3 i3=>j w3 u h3 ?_ (fun k hk=>(n3 k hk).imp id fun hh=>by omega) i3;have a1:Ch (RpF R Rw) w M.drew:=Ch.of_below b1.drew;have a3:Ch (RpF R Rw) w w2.drew:=a1.trans I fun x Z=>.inl (fQ.2 (.inl Z))
 exact a3.trans c3 fun x Z=>.inl (fQ.2 ((List.mem_cons.1 Z).elim (fun h=>.inr (.inl h)) fun h=>.inr (.inr (.inl h))))
end
end
end
section
def QD (W:HM):Option EV→HM
 | none=>W
 | some e=>u9 W (nu e)
structure HK (V:List Int) (W:HM):Prop where
 key:∀p∈W,p.1=nu p.2
 may:∀p∈W,bJ p.2=true
 nd:(W.map (·.1)).Nodup
 new:∀p∈W,V.getD p.2.q 0<p.2.s
 few:W.length≤64
section
variable {V:List Int}{W W':HM}{l l':PL}{e:EV}{F:List EV}{n c:Nat}{E:List EV}
theorem HK.nil :HK V []:=⟨by simp,by simp,by simp,by simp,by simp⟩
theorem HK.late (h:HK V W):∀x∈W,qQ V x.2=false:=fun x j=>by
 refine Bool.eq_false_iff.2 fun u=>?_
 have:=(GQ (h.may x j)).1 u
 have:=h.new x j
 omega
theorem HK.put (h:HK V W):HK V (LP V W e):=by
 unfold LP;split
 ·rename_i U;obtain⟨J,I,Z,M⟩:=U;have u:∀p∈W++[(nu e,e)],p∈W∨p=(nu e,e):=fun p j=>(List.mem_append.1 j).imp id mS;refine⟨fun p j=>(u p j).elim (h.key p) fun e=>by rw[e],fun p j=>(u p j).elim (h.may p) fun e=>by rw[e];exact J,?_,fun p j=>(u p j).elim (h.new p) fun e'=>?_,by rw[List.length_append,List.length_singleton];omega⟩
  ·rw[List.map_append,List.nodup_append];refine⟨h.nd,by simp,fun a O b C=>?_⟩;simp only[List.map_cons,List.map_nil,List.mem_singleton]at C;subst C;exact fun e' => wh.1 Z (e' ▸ O)
  ·have : ¬e.s≤V.getD e.q 0:=fun hh=>by rw[(GQ J).2 hh]at I;cases I
   rw[e'];show V.getD e.q 0<e.s;omega
 ·exact h
theorem HK.puts :∀{L:List EV} {W:HM},HK V W→HK V (nX V W L)
 | [],_,h=>h
 | e::L,_,h=>HK.puts (L:=L) (h.put (e:=e))
theorem HK.step (h:HK l.V W)(hi:PI l)(hn:eK l.V W 6=some e):bJ e=true∧eX l.V e=true∧(u9 W (nu e)).length+1=W.length∧HK (lJ e l).V (u9 W (nu e)):=by
 obtain⟨hr,i,aa,O⟩:=Eb (Nat.le_refl 6) hn;have C:=yB O;have hk:=h.key _ C;have U:=h.may _ C;have J:dK W (nu e)=some e:=by rw[←hk];exact O
 have hl:=za8 h.nd J;obtain⟨h1,h2⟩:=wm hr;refine⟨U,hr,hl,fun p u=>h.key p (I9.1 u).1,fun p u=>h.may p (I9.1 u).1,PZ h.nd,fun p u=>?_,by have:=h.few;omega⟩;obtain⟨u,I⟩:=I9.1 u;have j:=h.new p u;unfold lJ;split
 ·rename_i h0;have hv:=congrFun (XL hi ((qi hi).1 h0)) p.2.q;unfold kV upD at hv;rw[hv];split
  ·rename_i Z;have M:=h.may p u;rw[h.key p u]at I
   have:p.2.s≠e.s:=fun hs=>I (by rw[XN M,XN U,Z,hs])
   rw[Z]at j;omega
  ·exact j
 ·exact j
inductive DG (l:PL) (W:HM):PL→HM→List EV→Prop
 | nil:DG l W l W []
 | snoc {l':PL} {W':HM} {F:List EV} {e:EV}:DG l W l' W' F→eK l'.V W' 6=some e→DG l W (lJ e l') (u9 W' (nu e)) (if oN e l'=0 then F++[e]else F)
theorem DG.inv (h:DG l W l' W' F)(hi:PI l)(hk:HK l.V W):PI l'∧HK l'.V W'∧W'.length+F.length≤W.length∧okL eff OK l F∧l'=qY eff l F∧∀e∈F,bJ e=true∧∃p∈W,p.2=e:=by
 have sub:∀{l':PL} {W':HM} {F:List EV},DG l W l' W' F→∀p∈W',p∈W:=fun h=>by
  induction h with
  | nil=>exact fun _ h=>h
  | snoc h hn ih=>exact fun p hp=>ih p (I9.1 hp).1
 induction h with
 | nil=>exact⟨hi,hk,Nat.le_refl _,trivial,rfl,by simp⟩
 | @snoc l' W' F e hd hn ih =>
  obtain⟨C,i2,i3,J,I,M⟩:=ih;obtain⟨hm,hr,hl,u⟩:=i2.step C hn;refine⟨SU C,u,?_,?_,?_,?_⟩
  ·split
   ·rw[List.length_append,List.length_singleton];omega
   ·omega
  ·split
   ·rename_i O;refine Ie.2 ⟨J,?_,trivial⟩;rw[←I];exact(qi C).1 O
   ·exact J
  ·unfold lJ;split
   ·rw[JD, ←I];rfl
   ·exact I
  ·have U:∃p∈W,p.2=e:=by
    obtain⟨_,i,_,Z⟩:=Eb (Nat.le_refl 6) hn;exact⟨_,sub hd _ (yB Z),rfl⟩
   split
   ·intro x j;rcases List.mem_append.1 j with j|j
    ·exact M x j
    ·rw[mS j];exact⟨hm,U⟩
   ·exact M
end
end
section
attribute [local irreducible] bin un conv call aZ blt slc ai fld aL idx lkp cP eP eSt rng nxt ent ext alc box bld bg ld sto aJ cr mkS ifc pick rdy wts aG sti cond aV Gives ah dy dP cOp
section
open Go.RowKit Go.ChangeMaps
def bN :Value→Nat
 | .bool true=>1
 | _=>0
def mapN (w:World)(m:Nat):Nat:=match w.heap[m]? with|some (.map es _)=>es.size|_=>0
theorem HoM.mapN {W:HM}(h:HoM w p m W):Go.Proofs.YtkfgimlaijifaaaGreatDoor.mapN w m=W.length:=by
 obtain⟨es,c,j⟩:=h.mb;unfold Go.Proofs.YtkfgimlaijifaaaGreatDoor.mapN;rw[j.heap];exact j.len
theorem VR.ch {L:List EV}(h:VR w a n c L)(J:Ch F w w')(hF:∀b o,a=some ⟨b,o,none⟩→b∉F):VR w' a n c L :=
 ⟨h.len,h.some_,fun i x O b o I j u M=>by
  have:=h.cell i x O b o I j u M
  have C:=World.block_lt_of_cell? w _ this;rw[World.cell?_of_block (J.block b C (hF b o I))];exact this⟩
theorem VR.nm {L:List EV}(h:VR w a n c L)(j:0<n){es:Array MapEntry}(I:w.heap[m]? = some (.map es k)):∀b o,a=some ⟨b,o,none⟩→b≠m:=fun b o u e=>by
 have C:0<L.length:=by rw[h.len];exact j
 have:=h.cell 0 L[0] (gE C) b o u 0 _ rfl
 subst e;simp[World.cell?,I]at this
section
variable {w w':World}{R:RpB}{i:Nat}{l:PL}{W:HM}{Rw:List jl}{c:Int}{L:List (List Int)}{B:Nat}
theorem blk.kp (h:blk w k E cs)(j:w'.heap[k]? = w.heap[k]?):blk w' k E cs:=by unfold Go.Proofs.YtkfgimlaijifaaaGreatDoor.blk at *; rw[j];exact h
theorem RpM.keep (h:RpM w R i l W Rw c L)(j:∀k,k=R.p∨k=R.h∨k∈R.q.l∨k∈RpF R Rw→w'.heap[k]? = w.heap[k]?):RpM w' R i l W Rw c L :=
 {h with
  b:=h.b.kp (j _ (.inl rfl))
  pm:=h.pm.keep fun k u _=>j k (.inr (.inr (.inl u)))
  g:=h.g.keep fun k u=>j k (.inr (.inr (.inr (fQ.2 ((List.mem_cons.1 u).elim (fun e=>.inr (.inl e)) fun e=>.inr (.inr (.inl e)))))))
  h:=⟨h.h.b.kp (j _ (.inr (.inl rfl))),h.h.mb.kept (j _ (.inr (.inr (.inr (fQ.2 sm)))))⟩
  e:=⟨h.e.b.kp (j _ (.inr (.inr (.inr (fQ.2 sm))))),h.e.l6,h.e.v6⟩}
theorem RpM.neE (h:RpM w R i l W Rw c L)(C:∀k∈R.q.l,k<B)(u:blk w z 35 cs)(J:B≤z):∀k,k=R.p∨k=R.h∨k∈R.q.l∨k∈RpF R Rw→k≠z:=fun k j e=>by
 subst e;rcases j with rfl|rfl|j|j
 ·exact absurd rfl (u.ne h.b dc)
 ·exact absurd rfl (u.ne h.h.b dc)
 ·have:=C _ j;omega
 ·exact h.out u dc dc dc (fun I=>by have:=C _ I;omega) j
theorem RpM.othE (h:RpM w R i l W Rw c L)(C:∀k∈R.q.l,k<B)(I:blk w z 35 cs)(j:B≤z)(o:Oth z w w'):RpM w' R i l W Rw c L :=
 h.keep fun k u=>o.other k (h.neE C I j k u)
theorem RpM.grow (h:RpM w R i l W Rw c L)(M:∀k∈R.q.l,k<B){v:Value}(O:w.ownsRow B 35 14 v n xs)(C:w.grownBy w' v.ownBlock):RpM w' R i l W Rw c L:=by
 have U:∀k,k=R.p∨k=R.h∨k∈R.q.l∨k∈RpF R Rw→some k≠v.ownBlock:=fun k j e=>by
  rcases O.2 with⟨I,_⟩|⟨g,cap,u,I,J,C,_⟩
  ·rw[I]at e;cases e
  ·rw[I]at e;simp only[Value.ownBlock,Option.some.injEq]at e;exact h.neE M (show blk w g 35 u.toList by unfold blk;rw[C]) J k j e
 refine h.keep fun k j=>C.block k ?_ (U k j);rcases j with rfl|rfl|j|j
 ·exact h.b.lt
 ·exact h.h.b.lt
 ·exact h.pm.lt k j
 ·exact h.lt k j
theorem RpM.row (h:RpM w R i l W Rw c L)(U:∀k∈R.q.l,k<B){v:Value}(C:w.ownsRow B 35 14 v n xs)(J:Ch (RpF R Rw) w w'):w'.ownsRow B 35 14 v n xs:=by
 refine cD C fun k j=>J.block k (World.ownsRow.lt C k j).2 ?_;rcases C.2 with⟨I,_⟩|⟨g,cap,u,I,Z,M,_⟩
 ·rw[I]at j;cases j
 ·rw[I]at j;simp only[Value.ownBlock,Option.some.injEq]at j;subst j;exact h.out (show blk w g 35 u.toList by unfold blk;rw[M]) dc dc dc fun O=>by have:=U _ O;omega
theorem RpM.ev (h:RpM w R i l W Rw c L)(I:∀k∈R.q.l,k<B){e:EV}(j:blk w z 35 (evC e))(J:B≤z)(u:Ch (RpF R Rw) w w'):blk w' z 35 (evC e) :=
 j.ch u (h.out j dc dc dc fun C=>by have:=I _ C;omega)
end
section
variable {w:World}{K:KV}{R:RpB}{i:Nat}{l:PL}{W:HM}{Rw:List jl}{c:Int}{L:List (List Int)}{e:EV}{n ct:Nat}{E:List EV}
theorem J6 (h:HoM w p m W)(hi:PI l)(C:HK l.V W)(u:∀w',HoM w' p m (QD W (eK l.V W 6))→Ch [m] w w'→K (.tuple #[evV ((eK l.V W 6).getD evZ),.bool (eK l.V W 6).isSome]) w'):call Q 117 #[pB p,.agg (vCs l.V).toArray] K w:=by
 refine zbN h hi.v6 (fun k M=>hi.vb k M) (fun x O=>C.key x O) C.late (fun j w' b=>?_) fun e j w' J I=>?_
 ·have:=u w' (by rw[j];exact h.below b) (Ch.of_below b)
  rwa[j]at this
 ·have:=u w' (by rw[j];exact J) I
  rwa[j]at this
def rsI (w0:World)(R:RpB)(i:Nat)(l:PL)(W:HM)(Rw Rw0:List jl)(c:Int)(L:List (List Int))(fr e7 is8:Value)(wr:World):Prop :=
 ∃(l1:PL) (W1:HM) (F:List EV) (fa:Option Addr) (fc:Nat) (Rw1:List jl) (z:Nat),fr=.slice fa F.length fc∧e7=pB z∧is8=.bool (eK l1.V W1 6).isSome∧DG l W l1 W1 F ∧
   RpM wr R i l1 (QD W1 (eK l1.V W1 6)) Rw1 (c+(F.length:Nat)) L∧blk wr z 35 (evC ((eK l1.V W1 6).getD evZ))∧w0.heap.size≤z∧wr.ownsRow w0.heap.size 35 14 (.slice fa F.length fc) F.length (F.flatMap evC)∧Ch (RpF R Rw0) w0 wr∧(∀k∈lrB Rw1,k∈lrB Rw0∨w0.heap.size≤k)∧(Value.slice fa F.length fc).ownBlock≠some z∧pE Rw1=GC (pE Rw) c F
theorem zbd {u C:List jl}{O:PL}{W2:HM}{F2:List EV}{e:EV}(hi:PI O)(J:HK O.V W2)(hq:∀k∈R.q.l,k<w0.heap.size)(h4:RpM w R i O W2 C (c+(F2.length:Nat)) L)(al:blk w b 35 (evC e))(r4:w.ownsRow w0.heap.size 35 14 (.slice a F2.length n) F2.length (F2.flatMap evC))(Z:Ch (RpF R u) w0 w)(af:∀k∈lrB C,k∈lrB u∨w0.heap.size≤k)(hd:DG l W O W2 F2)(it:pE C=GC (pE Rw) c F2)(hB:∀fr z is am w',rsI w0 R i l W Rw u c L fr z is w'→mapN w' R.m+bN is<W2.length+1→B1 (aA (pB R.p) V0 fr W0 z is Y0 Z0 H1 am) w'):eF K B1 (aA (pB R.p) V0 (.slice a F2.length n) W0 (pB b) X0 Y0 Z0 H1 zf) w:=by
 have ap:=Z.size;refine Av (dT al (jT fun w5 z5 b5 s5=>iU (e':=e) z5 fun w6 z6 o6=>?_));have I:Below w.heap.size w w6:=aR b5 o6 (Nat.le_refl _);have h6:=h4.below I;have an:=I.size;have ar:w.heap.size<w6.heap.size:=z6.lt;refine au (fun x=>blk x R.p 144 [iv (i:Nat),pB R.q.p,pB R.g,pB R.h,pB R.e,pB R.d]) h6.b.drew ?_
 refine ab (fun x d _ j=>aj j) (ab (fun x d _ j=>NZ j) (ab (v:=pB R.h) (fun x d _ j=>lK d rfl j) ?_));refine ab (fun x d _ j=>aj j) (ab (fun x d _ j=>yv j) (ab (v:=pB R.q.p) (fun x d _ j=>lK d rfl j) ?_));have aa:=h6.below (Below.refl _ w6).drew;refine FP aa.pm fun w7 b7=>?_;have U:=aa.below b7;have M:Below w6.heap.size w6 w7:=(Below.refl _ w6).drew.trans b7
 have z7:=ae M z6 z6.lt;refine aC U.b ?_;refine J6 U.h hi J fun w8 ag c8=>?_;have h8:=U.setH c8 ag;refine au (fun _=>True) trivial (ab (fun x _ _ j=>bu j) (ab (fun x _ _ j=>bv j) ?_));have z8:blk w8 w.heap.size 35 (evC e):=z7.ch c8 fun hh=>U.h.mb' z7 (List.mem_singleton.1 hh);refine iU (e':=(eK O.V W2 6).getD evZ) z8 fun w9 z9 o9=>?_;refine aC trivial ?_
 have r6:=cD r4 fun k J=>I.block k (World.ownsRow.lt r4 k J).2;have r7:=cD r6 fun k J=>M.block k (World.ownsRow.lt r6 k J).2;have r8:=U.row hq r7 (U.sub1 c8);have r9:=cD r8 (w':=w9) fun k J=>o9.other k fun e' => by have:=(World.ownsRow.lt r4 k J).2;omega
 have ad:Ch (RpF R u) w0 w9:=(((Z.add (I.mono (by omega))).add (M.mono (by omega))).trans c8 fun x hx=>.inl (fQ.2 (by rw[List.mem_singleton.1 hx];simp))).add (aR (Below.refl _ w8) o9 (by omega));have h9:=h8.othE hq z8 (by omega) o9;refine hB _ _ _ _ w9 ⟨O,W2,F2,a,n,C,w.heap.size,rfl,rfl,rfl,hd,h9,z9,by omega,r9,ad,af,(fun e'=>?_),it⟩ ?_
 ·have:=(World.ownsRow.lt r4 _ e').2
  omega
 ·rw[h9.h.mapN];cases hn:eK O.V W2 6 with
  | none=>exact Nat.lt_succ_self _
  | some f =>
   have:=(J.step hi hn).2.2.1
   show (u9 W2 (nu f)).length+1<_;omega
theorem Yl (h:RpM w R i l W Rw c L)(hi:PI l)(I:oN e l≠0)(u:∀w',RpM w' R i l W Rw c L→Ch (RpF R Rw) w w'→K (ci (oN e l)) w'):call Q 66 #[pB R.p,evV e] K w:=by
 refine ak (goK func66) (wn (yk fun O e1 b1 s1=>?_));have J:=h.below b1;refine au (fun x=>blk x R.p 144 [iv (i:Nat),pB R.q.p,pB R.g,pB R.h,pB R.e,pB R.d]∧blk x w.heap.size 35 (evC e)) ⟨J.b.drew,e1.drew⟩ ?_;refine ab (fun x d _ u=>aj u) (ab (fun x d _ u=>yv u) (ab (v:=pB R.q.p) (fun x d _ u=>lK d.1 rfl u) (ab (fun x d _ u=>dT d.2 u) ?_)));have j:=J.below (Below.refl _ O).drew
 refine Ox j.pm hi fun w2 M c2=>?_;rw[show lJ e l=l by unfold lJ;rw[if_neg I]]at M;have n:∀k,k∉R.q.l→k∉R.q.wv:=fun k C Z=>C (LB.wl k Z);have r2:RpM w2 R i l W Rw c L:={j with
  b:=j.b.ch c2 (n _ h.pq)
  pm:=M
  g:=j.g.ch c2 fun k C=>n _ (h.gq k C)
  h:=j.h.ch c2 (n _ h.hq) (n _ h.mq)
  e:=j.e.ch c2 (n _ h.eq)}
 refine au (fun _=>True) trivial (aX (ax I (u w2 r2 ?_)));have U:Ch (RpF R Rw) w O.drew:=Ch.of_below b1.drew;exact U.trans c2 fun x hx=>.inl (fQ.2 (.inl hx))
theorem zeR {j:List jl}(hi:PI l)(hr:HK l.V W)(hc:c+100≤1000000)(hq:∀k∈R.q.l,k<w0.heap.size)(h:RpM w R i l (QD W (eK l.V W 6)) Rw c L)(hz:blk w z 35 (evC ((eK l.V W 6).getD evZ)))(zz:w0.heap.size≤z)(a5:Ch (RpF R j) w0 w)(hB:∀k∈lrB Rw,k∈lrB j∨w0.heap.size≤k)(hK:∀w' l' W' aa F fa fc,RpM w' R i l' W' aa (c+(F.length:Nat)) L→DG l W l' W' F→eK l'.V W' 6=none→w'.ownsRow w0.heap.size 35 14 (.slice fa F.length fc) F.length (F.flatMap evC)→Ch (RpF R j) w0 w'→(∀k∈lrB aa,k∈lrB j∨w0.heap.size≤k)→pE aa=GC (pE Rw) c F→K (.slice fa F.length fc) w'):jr K (aA (pB R.p) V0 (.slice none 0 0) W0 (pB z) (.bool (eK l.V W 6).isSome) X0 Y0 Z0 zf) w:=by
 refine Ap (Inv:=rsI w0 R i l W Rw j c L) (μ:=fun _ _ be wr=>mapN wr R.m+bN be)
  ⟨l,W,[],none,0,Rw,z,rfl,rfl,rfl,.nil,by rw[List.length_nil];simpa using h,hz,zz,World.ownsRow_nil _ _ _ _,a5,hB,(fun e=>by cases e),rfl⟩ ?_
 rintro _ _ _ dd w1 mu ⟨Z,W1,F,fa,fc,ad,z1,rfl,rfl,rfl,hd,I,C,aS,am,M,O,ar,al⟩ U;obtain⟨i1,i2,i3,_⟩:=hd.inv hi hr;have bp:=hr.few;cases hn:eK Z.V W1 6 with
 | none =>
  rw[hn]at I;exact aF (At (hK w1 Z W1 ad F fa fc I hd hn am M O al))
 | some e =>
  rw[hn]at I C;obtain⟨bq,a8,hg,hs⟩:=i2.step i1 hn;have U:mu=(u9 W1 (nu e)).length+1:=by
   rw[U,I.h.mapN,hn];rfl
  have C:blk w1 z1 35 (evC e):=C;have I:RpM w1 R i Z (u9 W1 (nu e)) ad (c+(F.length:Nat)) L:=I;have u:=hd.snoc hn;have p2:PI (lJ e Z):=SU i1;have bs:=M.size;have sub:∀x∈RpF R ad,x∈RpF R j∨w0.heap.size≤x:=fun x J=>by
   rcases fQ.1 J with J|J|J|J
   ·exact .inl (fQ.2 (.inl J))
   ·exact .inl (fQ.2 (.inr (.inl J)))
   ·exact(O x J).imp (fun J=>fQ.2 (.inr (.inr (.inl J)))) id
   ·exact .inl (fQ.2 (.inr (.inr (.inr J))))
  refine aT (Ak (dT C ?_));by_cases h0:oN e Z=0
  ·rw[if_pos h0]at u;rw[show lJ e Z=eff e Z by unfold lJ;rw[if_pos h0]]at u p2 hs;refine Uj I i1 a8 h0 oo fun w2 a0 h2 c2 n2 bi=>aO (ax rfl ?_);have ag:=I.ev hq C aS c2;have az:=I.row hq am c2;have bk:=c2.size;refine dT ag (oG [evV e] underlying44 (s:=14) kr kr oo rfl sm dc rfl (by
    intro v hv;rw[mS hv];rfl) fun w3 e3 b3 s3=>?_)
   have e3:blk w3 w2.heap.size 35 (evC e):=by simpa[Value.cells,evV]using e3
   have h3:=h2.below b3;have av:=ae b3 ag ag.lt;have an:=cD az fun k hk=>b3.block k (World.ownsRow.lt az k hk).2;obtain⟨ii,a6,bb,a9,a4⟩:=info_parts Vt;refine uP (enc:=evC) (x:=e) underlying44 a6 bb a9 a4 rfl oo (fun _=>rfl) an e3 (sY _) oo oo oo fun a' c' w4 r4 g4 b4 k4=>?_;have bt:=b3.size;have h4:=h3.grow hq an g4;have a7:=World.ownsRow.lt an
   have a1:Below w0.heap.size w3 w4:=cM g4 oo fun k hk=>(a7 k hk).1;have a2:Ch (RpF R j) w0 w4:=((M.trans c2 sub).add (b3.mono oo)).add a1;have a3:∀k∈lrB a0,k∈lrB j∨w0.heap.size≤k:=fun k hk=>(n2 k hk).elim (fun hk=>O k hk) fun hk=>.inr oo;have bd:blk w4 z1 35 (evC e):=av.kp (g4.block z1 av.lt fun e' => ar e'.symm)
   have ap:(F++[e]).length=F.length+1:=by simp
   rw[←ap]at r4 ⊢;rw[show c+(F.length:Nat)+1=c+((F++[e]).length:Nat)by rw[ap];omega]at h4;refine zbd p2 hs hq h4 bd r4 a2 a3 u (by rw[bi,al,P8]) fun fr z is bn w' hI af=>⟨hI,by rw[U];exact af⟩
  ·rw[if_neg h0]at u;rw[show lJ e Z=Z by unfold lJ;rw[if_neg h0]]at u p2 hs;refine Yl I i1 h0 fun w2 h2 c2=>aO (ao h0 ?_);have bk:=c2.size;refine zbd p2 hs hq h2 (I.ev hq C aS c2) (I.row hq am c2) (M.trans c2 sub) O u al fun fr z is bn w' hI af=>⟨hI,by rw[U];exact af⟩
end
section
variable {w:World}{K:KV}{R:RpB}{i:Nat}{l:PL}{W:HM}{Rw:List jl}{c:Int}{L:List (List Int)}{e:EV}{n ct:Nat}{E:List EV}
theorem zcu {E1:List EV}{f t:Int}{V:List Int}(h:RpM w R i l W Rw c L)(hi:PI l)(hr:HK l.V W)(hc:c+100≤1000000)(hv:VR w a k B E1)(hk:k≤16)(hV:V.length=6)(u:∀w' l' W' ad F fa fc,RpM w' R i l' W' ad (c+(F.length:Nat)) L→DG l (nX l.V W E1) l' W' F→eK l'.V W' 6=none→w'.ownsRow w.heap.size 35 14 (.slice fa F.length fc) F.length (F.flatMap evC)→Ch (RpF R Rw) w w'→(∀k∈lrB ad,k∈lrB Rw∨w.heap.size≤k)→pE ad=GC (pE Rw) c F→K (.slice fa F.length fc) w'):call Q 69 #[pB R.p,.agg (mgC 1 f t V (.slice a k B) 0 0).toArray] K w:=by
 have hq:=h.pm.lt;have a3:(Value.agg (mgC 1 f t V (.slice a k B) 0 0).toArray).cells.toList=mgC 1 f t V (.slice a k B) 0 0:=by simp[Value.cells]
 have c9:(mgC 1 f t V (.slice a k B) 0 0)[9]? = some (.slice a k B):=by
  unfold mgC;rw[show 9=3+6 by rfl,iT (n:=3) rfl,show 6=6+0 by rfl,iT (n:=6) (by rw[bo,hV])];rfl
 refine ak (goK func69) (Cw (br fun w1 m1 b1 s1=>?_));rw[a3]at m1;refine NW (lK (v:=.slice a k B) m1 c9 (bh underlying44 ?_));have h1:=h.below b1;refine Am (Inv:=fun j wr=>∃q:Nat,j=iv (q:Nat)∧q≤k∧RpM wr R i l (nX l.V W (E1.take q)) Rw c L∧Ch [R.m] w wr) (μ:=fun j _=>k-(intOf j).toNat)
  ⟨0,rfl,Nat.zero_le _,by rw[List.take_zero];exact h1,Ch.of_below b1⟩ ?_
 rintro _ dd w2 mu ⟨q,rfl,bi,h2,c2⟩ a9;have be:=hv.len;have J:HK l.V (nX l.V W (E1.take q)):=hr.puts;have a7:=J.few;refine aK ?_;by_cases az:q<k
 ·have a6:q<E1.length:=by rw[hv.len];exact az
  have U:E1[q]? = some E1[q]:=gE a6;have aa:E1.take (q+1)=E1.take q++[E1[q]]:=by rw[List.take_add_one,U];rfl
  generalize E1[q]=x at U aa;obtain⟨b,o,ha⟩:=hv.some_ oo;obtain⟨es,cl,a8⟩:=h.h.mb;have bd:VR w2 a k B E1:=hv.ch c2 fun b o ha hh=>hv.nm oo a8.heap b o ha (mS hh);subst ha;refine ax oo (dQ underlying44 (s:=14) kf oo oo ?_);rw[Int.toNat_natCast];refine WA bd rfl U (jT fun w3 z3 O s3=>iU (e':=x) z3 fun w4 z4 o4=>?_)
  have an:Below w2.heap.size w2 w4:=aR O o4 oA;have M:=h2.below an;refine au (fun y=>blk y R.p 144 [iv (i:Nat),pB R.q.p,pB R.g,pB R.h,pB R.e,pB R.d]∧blk y w2.heap.size 35 (evC x)) ⟨M.b.drew,z4.drew⟩ ?_;refine ab (fun y d _ u=>aj u) (ab (fun y d _ u=>NZ u) (ab (v:=pB R.h) (fun y d _ u=>lK d.1 rfl u) ?_))
  refine ab (fun y d _ u=>aj u) (ab (fun y d _ u=>yv u) (ab (v:=pB R.q.p) (fun y d _ u=>lK d.1 rfl u) (ab (fun y d _ u=>dT d.2 u) ?_)));have av:=M.below (Below.refl _ w4).drew;refine FP av.pm fun w5 b5=>?_;have ap:Below w4.heap.size w4 w5:=(Below.refl _ w4).drew.trans b5;have h5:=av.below b5
  refine aC ⟨h5.b,ae ap z4 z4.lt⟩ <|zdm h5.h hi.v6 oo fun w6 _ a5 c6=>aM oo oo ?_;have h6:=h5.setH c6 a5;refine⟨⟨q+1,congrArg iv (by push_cast;rfl),az,?_,?_⟩,by rw[a9];show k-((q:Int)+1).toNat<k-(q:Int).toNat;omega⟩
  ·rw[aa];unfold nX;rw[List.foldl_append];exact h6
  ·have a1:=c2.add (an.mono c2.size);have a2:=a1.add (ap.mono a1.size);exact a2.trans c6 fun x U=>.inl U
 ·have bb:q=k:=by omega
  subst bb;have aa:E1.take q=E1:=by rw[←hv.len];exact List.take_length
  rw[aa]at h2 J a7;refine ao oo (Ar ?_);have bn:=c2.size;have aS:Ch (RpF R Rw) w w2:=h.sub1 c2;have bk:∀k∈R.q.l,k<w.heap.size:=hq;refine au (fun y=>blk y R.p 144 [iv (i:Nat),pB R.q.p,pB R.g,pB R.h,pB R.e,pB R.d]) h2.b.drew ?_;refine ab (fun y d _ u=>aj u) (ab (fun y d _ u=>NZ u) (ab (v:=pB R.h) (fun y d _ u=>lK d rfl u) ?_))
  refine ab (fun y d _ u=>aj u) (ab (fun y d _ u=>yv u) (ab (v:=pB R.q.p) (fun y d _ u=>lK d rfl u) ?_));have I:=h2.below (Below.refl _ w2).drew;have C:Ch (RpF R Rw) w w2.drew:=aS.add (Below.refl _ w2).drew
  -- the last step,whatever the order
  have ag:∀{wr:World} {z:Nat} {zf:Nat→Value} {e6:Value},RpM wr R i l (QD (nX l.V W E1) (eK l.V (nX l.V W E1) 6)) Rw c L→blk wr z 35 (evC ((eK l.V (nX l.V W E1) 6).getD evZ))→w.heap.size≤z→Ch (RpF R Rw) w wr →
    jr K (aA (pB R.p) (pB w.heap.size) (.slice none 0 0) e6 (pB z) (.bool (eK l.V (nX l.V W E1) 6).isSome) (.slice a q B) (iv (q:Nat)) (iv (q:Nat)) zf) wr:=fun ha hb hz a0 =>
   zeR hi J hc hq ha hb hz a0 (fun k hk=>.inl hk) u
  have am:∀{wr w':World} {z:Nat},RpM wr R i l (QD (nX l.V W E1) (eK l.V (nX l.V W E1) 6)) Rw c L→blk wr z 35 (evC evZ)→w.heap.size≤z→Oth z wr w'→RpM w' R i l (QD (nX l.V W E1) (eK l.V (nX l.V W E1) 6)) Rw c L:=fun ha hb hz o=>ha.othE hq hb hz o;refine⟨?_,?_⟩
  ·refine FP I.pm fun w3 O=>aC (I.below O).b ⟨?_,?_⟩
   ·have Z:=I.below O;have c3:=C.add (O.mono C.size);refine J6 Z.h hi J fun w4 a4 c4=>?_;have M:=Z.setH c4 a4;have ar:=c3.trans c4 fun x U=>.inl (fQ.2 (by rw[mS U];simp));refine au (fun _=>True) trivial (ab (fun x _ _ u=>bu u) (ab (fun x _ _ u=>bv u) ?_))
    refine jT fun w5 z5 b5 s5=>aC trivial (iU (e':=(eK l.V (nX l.V W E1) 6).getD evZ) z5 fun w6 z6 o6=>aC trivial ?_);have s4:=ar.size;exact ag (am (M.below b5) z5 s4 o6) z6 s4 ((ar.add (b5.mono s4)).add (aR (Below.refl _ w5) o6 s4))
   ·have Z:=I.below O;have c3:=C.add (O.mono C.size);refine jT fun w4 z4 b4 s4=>aC (Z.below b4).b ?_;have M:=Z.below b4;have s3:=c3.size;have c4:=c3.add (b4.mono s3);refine J6 M.h hi J fun w5 al c5=>?_;have h5:=M.setH c5 al;have z5:=z4.ch c5 fun hh=>M.h.mb' z4 (mS hh);have af:=c4.trans c5 fun x U=>.inl (fQ.2 (by rw[mS U];simp))
    refine au (fun _=>True) trivial (ab (fun x _ _ u=>bu u) (ab (fun x _ _ u=>bv u) ?_));refine iU (e':=(eK l.V (nX l.V W E1) 6).getD evZ) z5 fun w6 z6 o6=>aC trivial ?_;exact ag (am h5 z5 s3 o6) z6 s3 (af.add (aR (Below.refl _ w5) o6 s3))
  ·refine jT fun w3 z3 O s3=>aC (I.below O).b ?_;have Z:=I.below O;have c3:=C.add (O.mono C.size);have s2:=C.size;refine FP Z.pm fun w4 b4=>aC (Z.below b4).b ?_;have M:=Z.below b4;have z4:=ae b4 z3 z3.lt;have c4:=c3.add (b4.mono c3.size);refine J6 M.h hi J fun w5 al c5=>?_;have h5:=M.setH c5 al;have z5:=z4.ch c5 fun hh=>M.h.mb' z4 (mS hh)
   have af:=c4.trans c5 fun x U=>.inl (fQ.2 (by rw[mS U];simp));refine au (fun _=>True) trivial (ab (fun x _ _ u=>bu u) (ab (fun x _ _ u=>bv u) ?_));refine iU (e':=(eK l.V (nX l.V W E1) 6).getD evZ) z5 fun w6 z6 o6=>aC trivial ?_;exact ag (am h5 z5 s2 o6) z6 s2 (af.add (aR (Below.refl _ w5) o6 s2))
theorem u8K :Ev Q 5 (Value.int .u8):=TD underlying5
end
abbrev lr0 :List jl:=List.replicate 6 ⟨none,0,[]⟩
abbrev gp0 :List (List Int):=List.replicate 6 (List.replicate 6 0)
theorem SO.oth {s:PL}{t:STA}(h:SO w B s t a b)(o:Oth z w w')(u:z<B):SO w' B s t a b :=
 {h with
  nd:=cD h.nd fun k j=>o.other k fun e=>by have:=(World.ownsRow.lt h.nd k j).1;omega
  gr:=cD h.gr fun k j=>o.other k fun e=>by have:=(World.ownsRow.lt h.gr k j).1;omega}
theorem SO.fresh {s:PL}{t:STA}(h:SO w B s t a c)(b:Below w.heap.size w w'):SO w' B s t a c :=
 {h with
  nd:=cD h.nd fun k j=>b.block k (World.ownsRow.lt h.nd k j).2
  gr:=cD h.gr fun k j=>b.block k (World.ownsRow.lt h.gr k j).2}
def pV :Option Nat→Value
 | some b=>pB b
 | none=>.pointer none
structure DmM (w:World) (d m:Nat):Prop where
 b:blk w d 202 [.map (some m)]
 mb:MB u6 pV w m []
theorem DmM.below (h:DmM w d m)(j:Below w.heap.size w w'):DmM w' d m:=⟨ae j h.b h.b.lt,h.mb.below j⟩
section
variable {w:World}{K:KV}{R:RpB}{i:Nat}{l:PL}{W:HM}{Rw:List jl}{c:Int}{L:List (List Int)}
theorem zat (h:RpM w R i l W Rw c L)(hi:PI l)(hn:l.G.length≤1000000)(J:∀w' t ga gc,SO w' (w.heap.size+2) l t ga gc→Below w.heap.size w w'→K (.agg (saC t).toArray) w'):call Q 38 #[pB R.p] K w:=by
 refine ak (goK func38) (FS ?_);refine df (z:=.agg (saC ⟨List.replicate 6 false,List.replicate 6 false,List.replicate 6 0,[],none,0,.slice none 0 0⟩).toArray) kr fun w1 j b1 s1=>?_;have j:=cZ j
 generalize M:saC ⟨List.replicate 6 false,List.replicate 6 false,List.replicate 6 0,[],none,0,.slice none 0 0⟩=zs at j;have aa:zs.length=20:=by rw[←M];rfl
 have Z:=h.below b1;refine HH (aF (aj (yv (lK (v:=pB R.q.p) Z.b rfl ?_))));refine Uf Z.pm hi hn fun w2 t ga gc u U=>?_;have h2:=ae U j j.lt;have hl:(saC t).length=20:=tu (by rw[u.eI];exact hi.i6) (by rw[u.eL];exact hi.l6) (by rw[u.eV];exact hi.v6);have O:∀v∈saC t,v.oneCell'=true:=by
  intro v I;unfold saC at I;rw[u.gv]at I;simp only[List.mem_append,List.mem_map,List.mem_cons,List.not_mem_nil,or_false]at I;rcases I with((⟨_,_,rfl⟩|⟨_,_,rfl⟩)|⟨_,_,rfl⟩)|(rfl|rfl)<;>rfl
 refine ip (n:=20) (vs:=saC t) kr hl h2 oo O fun w3 h3 o3=>?_;rw[List.take_zero,List.nil_append,List.drop_of_length_le oo,List.append_nil]at h3;refine Cx (v:=.agg (saC t).toArray) (fun _ J=>ldA (n:=20) (vs:=saC t) underlying58 rfl kr h3 (by rw[List.drop_zero,tL oo]) hl J) ?_;have C:=u.oth o3 oo;rw[s1]at C
 exact J w3 t ga gc C (aR (b1.trans (U.mono b1.size)) o3 oA)
theorem zd7 (u:∀w',DmM w' (w.heap.size+1) w.heap.size→Below w.heap.size w w'→w'.heap.size=w.heap.size+2→K (pB (w.heap.size+1)) w'):call Q 54 #[] K w:=by
 refine ak (goK func54) (So (ub underlying200 rfl u6 pV fun M C b1 I=>dl (vs:=[.map (some w.heap.size)]) kr (br fun w2 j h J=>?_)));rw[I]at j ⊢;exact u w2 ⟨by simpa[Value.cells]using j,C.below h⟩ (b1.trans (h.mono b1.size)) oo
end
end
end
section
structure RS where
 l:PL
 A:List EV
 P:List (List Int)
structure MW (k:Nat) (E:List EV) (S:Nat→RS):Prop where
 hist:Wg k E
 noj:noJ E
 few:∀e∈E,e.q<k
 lk:∀i,i<k→LK k E (S i).l
 own:∀i,i<k→∀e∈E,e.q=i→e.s≤(S i).l.V.getD i 0
 app:∀i,i<k→zf1 E (S i).A (S i).l
 kn:∀i j,i<k→j<k→∀v,(S i).P[j]? = some v→∀q,v.getD q 0≤(S j).l.V.getD q 0
/-! ## Messages -/
structure MG where
 k:Int
 f:Nat
 t:Nat
 V:List Int
 n:Int
 a:Int
 L:List EV
structure MgOK (k:Nat) (E:List EV) (S:Nat→RS) (m:MG):Prop where
 ft:m.f<k∧m.t<k∧m.f≠m.t
 v6:m.V.length=6
 le:∀q,m.V.getD q 0≤(S m.f).l.V.getD q 0
 is:(m.k=1∧m.n=0∧m.a=0∧m.L.length≤16∧∃P,ChE E P m.L∧∀q,P.getD q 0≤(S m.t).l.V.getD q 0)∨(m.k=2∧m.L=[]∧m.n≠0∧1≤m.a∧m.a≤1125899906842624)
/-! ## Round by round -/
structure RdI (k:Nat) (E:List EV) (S:Nat→RS) (a b:Nat) (D:Nat→Nat→Prop):Prop where
 ra:∀j,j<k→min E.length a≤cnE E (S j).l.V
 rb:∀o j,o<k→j<k→o≠j→∀v,(S o).P[j]? = some v→min E.length b≤cnE E v
 rc:∀o j,o<k→j<k→o≠j→D o j→min E.length (b+1)≤cnE E (S j).l.V∨∀f∈E,f.q=o→f.s≤(S j).l.V.getD o 0
 rd:∀o j,o<k→j<k→o≠j→D o j→∀v,(S j).P[o]? = some v→min E.length a≤cnE E v
end
end Go.Proofs.YtkfgimlaijifaaaGreatDoor
