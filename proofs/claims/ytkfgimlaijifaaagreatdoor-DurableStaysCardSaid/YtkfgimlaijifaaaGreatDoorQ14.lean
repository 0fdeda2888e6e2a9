import Derived.Test.YtkfgimlaijifaaaGreatDoorQ13
import Derived.Test.YtkfgimlaijifaaaGreatDoorQ2
import Derived.Test.YtkfgimlaijifaaaGreatDoorQ12
namespace Go.Proofs.YtkfgimlaijifaaaGreatDoor
set_option maxRecDepth 100000
set_option maxHeartbeats 4000000
open Go.Proofs.Tryz
variable {w w' w0:World}{K:KV}{zf:Nat→Value}{b c n o k B i p g m j s z eb f d D B2 Bw B' tb hi:Nat}{a av a2:Option Addr}{x r v:Int}{A M0:List Int}{E t e:TypeId}{cs xs vs:List Value}{B1 L0:KE}{P:Program}{T L:List (Int×Int)}{C:Nat→Int}{V0 W0 X0 Y0 Z0 H1 I1 J1 M1:Value}
section
attribute [local irreducible] bin un conv call aZ blt slc ai fld aL idx lkp cP eP eSt rng nxt ent ext alc box bld bg ld sto aJ cr mkS ifc pick rdy wts aG sti cond aV Gives ah dy dP cOp
section
open Go.RowKit
def zbe (l:LG)(i:Nat)(x:GR):LG:={l with s:={l.s with gv:=.slice l.ga (l.G.set i x).length l.gc},G:=l.G.set i x}
section
variable {w:World}{K:KV}{B p:Nat}{l:LG}
theorem zeV {x:GR}(u:LM w B p l)(O:l.G[i]? = some x)(C:Opn w B 121 5 l.G.length l.gc g cs (l.G.flatMap grC))(Z:l.ga=some ⟨g,0,none⟩)(ho:o=i*5+4)(h:∀w',LM w' B p (zbe l i {x with b:=r})→Oth g w w'→K undef w'):sto Q 31 (pA g o) (u6 r) K w:=by
 have hi:i<l.G.length:=(gS O).1;have U:(i+1)*5≤l.G.length*5:=Nat.mul_le_mul_right _ hi;have h2:l.G.length*5≤l.gc*5:=Nat.mul_le_mul_right _ C.nc;rw[Nat.succ_mul]at U;have aa:=C.len;subst ho;refine cB kf C.blk oo rfl fun w' hb M=>?_;have I:=C.set1 (x':={x with b:=r}) (v:=u6 r) iG rfl O (show 4<5 by omega) rfl hb
 have hk:Keep Ky B w w':=M.keep C.blk sm C.lo;have j:(l.G.set i {x with b:=r}).length=l.G.length:=List.length_set ..;refine h w' (u.grants' (G:=l.G.set i {x with b:=r}) (a:=l.ga) (c:=l.gc) hk dc dc dc dc ?_ ?_) M
 ·rw[←Ok u.i6 u.l6 u.v6,j]
  have:(lgC l).set 19 (.slice l.ga l.G.length l.gc)=lgC l:=by
   have:=u.cG
   obtain⟨J,he⟩:=gS this
   conv=>lhs;rw[←he]
   exact List.set_getElem_self J
  rw[this];exact M.blk u.cl (fun J=>u.cl.ne C.blk dc J)
 ·rw[j,Z];exact Opn.own I
theorem Zz {e:EV}{gx:GR}(hl:LM w B p l)(M:GI l m)(hm:m≤900)(hB:B≤w.heap.size)(ho:1≤e.o∧e.o≤6)(ag:l.G[c]? = some gx)(he:blk w eb 35 (evC e))(q0:V0=pA p 0)(q3:W0=pA eb 0)(qk:X0=ci (c:Nat))(am:∀w' l',LM w' B p l'→GI l' (m+1)→l'.s.V=l.s.V→Below B w w'→K (ci 0) w'):bL K ((mP V0 W0 X0 zf)) w:=by
 subst q0 q3 qk;refine BT ?_;have hl:=hl.drew;have he:=he.drew;have a0:c<l.G.length:=(gS ag).1;obtain⟨g,a6,ha,op⟩:=d9 hl.gr oo
 refine ac (fun _=>aj) <|ac (fun _=>bf) <|ac (fun _=>eT) <|ac (v:=.slice l.ga l.G.length l.gc) (fun _=>lK hl.cl hl.cG) <|ac (fun _=>gw) <|ac (v:=u6 e.r) (fun _=>lK he rfl) <|ac (v:=pA g (c*5)) (fun _=>qV ha underlying56 kf a0) <|ac (fun _=>NN) ?_;refine zeV hl ag op ha rfl fun w2 al o2=>?_
 have k2:Keep Ky B w w2:=(Keep.of (B:=B) (Below.refl _ w).drew).trans (o2.keep op.blk sm op.lo);have B2:Below B w w2:=k2.below hB;have J:blk w2 eb 35 (evC e):=o2.blk he (fun hh=>he.ne op.blk dc hh);generalize C:zbe l c {gx with b:=e.r} = l2 at al;have r1:l2.T=l.T:=by rw[←C];rfl
 have r2:l2.R=l.R:=by rw[←C];rfl
 have r3:l2.s.V=l.s.V:=by rw[←C];rfl
 have r4:l2.s.nodes=l.s.nodes:=by rw[←C];rfl
 have r5:l2.G=l.G.set c {gx with b:=e.r}:=by rw[←C];rfl
 obtain⟨j,hj⟩:∃j:Nat,j=(e.o-1).toNat:=⟨_,rfl⟩
 have I:j<6:=by omega
 have U:=al.drew;obtain⟨qa,qc,hq,ap⟩:=U.rq j I;have av:(lgC l2)[0+21+j]? = some (.slice qa (l2.R.getD j []).length qc):=by rw[Nat.zero_add];exact U.cQ.trans hq
 have a3:=M.rn j I;rw[←r2]at a3
 refine au (fun z=>blk z p 90 (lgC l2)∧blk z eb 35 (evC e)) ⟨U.cl,J.drew⟩ <|ab (fun z u _=>bw) <|ab (v:=iv e.o) (fun z u _=>lK u.2 rfl) <|ab (v:=ci ((j:Nat):Int)) (fun z u K h=>ba oo oo (by rw[show (e.o-1)=(j:Nat)by omega];exact h)) <|ab (fun z u _=>bw) <|ab (v:=iv e.o) (fun z u _=>lK u.2 rfl) <|ab (v:=ci ((j:Nat):Int)) (fun z u K h=>ba oo oo (by rw[show (e.o-1)=(j:Nat)by omega];exact h)) <|ab (fun z u _=>aj) <|ab (fun z u _=>tS) <|ab (fun z u _=>ixQ rfl I) <|ab (v:=.slice qa (l2.R.getD j []).length qc) (fun z u _=>lK u.1 av) <|ab (fun z u _=>gw) <|ab (v:=u6 e.r) (fun z u _=>lK u.2 rfl) <|ab (fun z u _=>aj) <|ab (fun z u _=>tS) ?_
 refine oG (vs:=[u6 e.r]) underlying87 (s:=1) kr kr oo rfl sm sm sm (by simp[Value.cells,u6]) fun w4 h4 b4 s4=>?_;have h4:blk w4 w2.drew.heap.size 31 (uC e.r):=by simpa[Value.cells,u6,uC]using h4
 have Z:=U.fresh b4;have B4:Below B w w4:=B2.drew.trans (b4.mono (Nat.le_trans hB B2.size));refine aC ⟨Z.cl,ae b4 J.drew J.drew.lt⟩ ?_;have O:=cD ap fun b hb=>b4.block b (World.ownsRow.lt ap b hb).2;obtain⟨ii,aS,u,a4,ar⟩:=info_parts GL
 refine uP (base:=B) (enc:=uC) (x:=e.r) underlying87 aS u a4 ar rfl oo (fun _=>rfl) O h4 (Uz _) oo oo (Nat.le_trans hB B4.size) fun a5 c5 w5 a2 af b5 an=>?_;have aa:=fJ Z.cl O dc af;have az:blk w5 eb 35 (evC e):=fJ (ae b4 J.drew J.drew.lt) O dc af;refine aC ⟨aa,az⟩ <|ab (fun z u _=>ixQ rfl I) ?_
 refine cB kf aa (by rw[Z.ll];omega) rfl fun w6 ad o6=>?_;rw[show 0+21+j=21+j by omega]at ad;have a1:=Z.req' I hq af a2 an ad o6;refine am w6 _ a1 ?_ r3 (B4.trans (bE b5 o6 hl.lo))
 refine⟨by show ∃rk,TK l2.T rk;rw[r1];exact M.tk,by show ∀x∈l2.T,∃y∈l2.s.nodes,y.id=x.1;rw[r1,r4];exact M.nt,by show l2.s.nodes.length≤_;rw[r4];exact Nat.le_trans M.nn oo,?_,by show l2.T.length≤_;rw[r1];exact Nat.le_trans M.tn oo,fun i hi=>?_,by show ∀k,k<6→0≤l2.s.V.getD k 0∧l2.s.V.getD k 0<1099511627776;rw[r3];exact M.vb,?_,by show ∀y∈l2.s.nodes,_;rw[r4];exact M.ib⟩
 ·show l2.G.length≤_;rw[r5,List.length_set];have:=M.gn;omega
 ·show ((l2.R.set j (l2.R.getD j []++[e.r])).getD i []).length≤m+1;rw[GK (by rw[al.r6];exact I)];split
  ·rw[List.length_append];show (l2.R.getD j []).length+1≤m+1;omega
  ·rw[r2];have:=M.rn i hi;omega
 ·show Mx l2.G;rw[r5];exact My M.gr (M.gr gx (mO ag))
theorem ZV {e:EV}(hl:LM w B p l)(O:GI l m)(hm:m≤900)(hB:B≤w.heap.size)(ho:1≤e.o∧e.o≤6)(J:∀w' (v:Int),v≠0→Below B w w'→K (ci v) w')(aa:∀w' l',LM w' B p l'→GI l' (m+1)→l'.s.V=l.s.V→Below B w w'→K (ci 0) w'):call Q 91 #[pA p 0,.agg (evC e).toArray] K w:=by
 refine ak (goK func91) (DS ?_);refine br fun w1 M b1 s1=>?_;have M:=cZ M
 have h:=hl.fresh b1;have B1:Below B w w1:=b1.mono hB;have a1:B≤w1.heap.size:=Nat.le_trans hB B1.size;have aS:=O.rn;have a3:=O.tn;have a2:=O.gn;refine bw <|lK (v:=iv e.o) M rfl <|gw <|lK (v:=u6 e.r) M rfl ?_;refine TI h ho (fun k hk=>Nat.le_trans (aS k hk) oo) fun b=>?_;cases b with
 | true=>exact aT (J w1 14 dc B1)
 | false =>
  refine aF <|bw <|lK (v:=iv e.o) M rfl <|py <|lK (v:=u6 e.f) M rfl ?_;refine ZY h oo fun v hv=>?_;refine aK ?_;by_cases C:v<0
  ·refine iq C <|bA C <|aT ?_;exact J w1 12 dc B1
  refine dt C ?_;obtain⟨k5,rfl,af⟩:∃k:Nat,v=k∧k<l.G.length:=hv.resolve_left C;have u:l.G[k5]? = some l.G[k5]:=gE af;generalize l.G[k5]=gx at u;refine aj <|bf <|eT <|lK (v:=.slice l.ga l.G.length l.gc) h.cl h.cG ?_
  refine rd3 (enc:=grC) (s:=5) (f':=4) (v:=u6 gx.b) underlying56 kf iG kf kr oo h.gr rfl u rfl fun _ _=>?_;refine aX <|bj C ?_;by_cases ad:gx.b≠0
  ·exact ax ad (J w1 12 dc B1)
  refine ao ad ?_;obtain⟨rk,a0⟩:=O.tk;obtain⟨gg,cg,al,ag⟩:=d9 h.drew.gr oo;have am:cg[k5*5+2]? = some (u6 gx.n):=ag.cell iG rfl u (show 2<5 by omega)
  refine au (fun y=>blk y p 90 (lgC l)∧blk y gg 121 cg) ⟨h.cl.drew,ag.blk⟩ <|ab (fun y I _=>aj) <|ab (fun y I _=>AP) <|ab (v:=pA l.t 0) (fun y I _=>lK I.1 h.cT) <|ab (fun y I _=>aj) <|ab (fun y I _=>bf) <|ab (fun y I _=>eT) <|ab (v:=.slice l.ga l.G.length l.gc) (fun y I _=>lK I.1 h.cG) <|ab (v:=pA gg (k5*5)) (fun z hz _=>qV al underlying56 kf af) <|ab (fun z hz _=>Ti) <|ab (v:=u6 gx.n) (fun z hz _=>lK hz.2 am) ?_
  refine Mz a0 h.drew.tm oo fun w2 a c hP b2=>?_;have ar:=h.drew.fresh b2;have an:=ae b2 M.drew M.drew.lt;have B2:Below B w w2:=B1.drew.trans (b2.mono a1);refine au (fun _=>True) trivial <|BQ ?_;have az:(cC l.T gx.n).length≤100000:=by
   have:=GT (T:=l.T) (l.T.length+1) gx.n
   unfold cC;omega
  refine Zy (P:=cC l.T gx.n) ar O hm (Nat.le_trans hB B2.size) u (O.gr gx (mO u)) an hP az (fun y I=>VM O I) rfl rfl rfl rfl rfl (fun w' v hv b=>J w' v hv (B2.trans b)) ?_;intro l0 e3 a4 zf w3 l3 q0 q3 qk av U ap B3;have Z:=B2.trans B3
  exact Zz av (U.gi O) hm (Nat.le_trans hB Z.size) ho (by rw[U.G];exact u) ap q0 q3 qk fun w' l' h1 h2 h3 h4=>aa w' l' h1 h2 (h3.trans U.V) (Z.trans h4)
end
theorem zdC {e:EV}(h:bJ e=true):0≤e.a∧e.a≤1125899906842624:=by
 unfold bJ at h;simp only[Bool.and_eq_true,decide_eq_true_eq]at h;obtain⟨_,_,_,_,_,M,j⟩:=h;unfold fdE at j;have u : ¬(e.k=1∨e.k=2∨e.k=3∨e.k=5)→e.a=0:=fun O=>by
  have:=congrArg EV.a M
  unfold ni at this;simp only at this;rw[if_neg O]at this;exact this
 by_cases C:e.k=1
 ·rw[if_pos C]at j;simp only[Bool.and_eq_true,decide_eq_true_eq]at j;omega
 rw[if_neg C]at j;by_cases I:e.k=2
 ·rw[if_pos I]at j;unfold smE at j;simp only[Bool.and_eq_true,decide_eq_true_eq]at j;omega
 rw[if_neg I]at j;by_cases J:e.k=3
 ·rw[if_pos J]at j;unfold smE at j;simp only[Bool.and_eq_true,decide_eq_true_eq]at j;omega
 rw[if_neg J]at j;by_cases U:e.k=4
 ·have:=u oo;omega
 rw[if_neg U]at j;by_cases Z:e.k=5
 ·rw[if_pos Z]at j;unfold smE at j;simp only[Bool.and_eq_true,decide_eq_true_eq]at j;omega
 ·have:=u oo;omega
theorem zdD {e:EV}(h:bJ e=true)(u:e.k=6):1≤e.t∧e.t≤6:=by
 unfold bJ at h;simp only[Bool.and_eq_true,decide_eq_true_eq]at h;obtain⟨_,_,_,_,_,C,j⟩:=h;unfold fdE at j;rw[if_neg oo,if_neg oo,if_neg oo,if_neg oo,if_neg oo,if_pos u]at j;unfold otE bG at j;simp only[Bool.and_eq_true,decide_eq_true_eq]at j;exact j.1
theorem XX {i j:Int}(h:A.length=54):((mX A i j x).1).length=54:=by
 unfold mX;split
 ·rfl
 split
 ·rfl
 split
 ·rfl
 split
 ·rfl
 unfold vk;split
 ·rfl
 ·simp[h]
section
variable {w:World}{K:KV}{B p:Nat}{l:LG}
theorem LM.setI {b:Bool}(h:LM w B p l)(M:k<6)(u:blk w' p 90 ((lgC l).set k (.bool b)))(o:Oth p w w'):LM w' B p {l with s:={l.s with I:=l.s.I.set k b} } :=
 have j:Keep [90] B w w':=o.keep h.cl sm h.lo
 {h with
  i6:=by show (l.s.I.set k b).length=6;rw[List.length_set];exact h.i6
  cl:=by rw[←TL h.i6 h.l6 h.v6 M];exact u
  nd:=gh h.nd j dc
  gr:=gh h.gr j dc
  tm:=h.tm.keep j dc dc
  rq:=fun k C => (h.rq k C).imp fun a=>Exists.imp fun c J=>⟨J.1,gh J.2 j dc⟩}
theorem LM.setL {b:Bool}(h:LM w B p l)(J:k<6)(u:blk w' p 90 ((lgC l).set (6+k) (.bool b)))(o:Oth p w w'):LM w' B p {l with s:={l.s with L:=l.s.L.set k b} } :=
 have j:Keep [90] B w w':=o.keep h.cl sm h.lo
 {h with
  l6:=by show (l.s.L.set k b).length=6;rw[List.length_set];exact h.l6
  cl:=by rw[←ZW h.i6 h.l6 h.v6 J];exact u
  nd:=gh h.nd j dc
  gr:=gh h.gr j dc
  tm:=h.tm.keep j dc dc
  rq:=fun k C => (h.rq k C).imp fun a=>Exists.imp fun c I=>⟨I.1,gh I.2 j dc⟩}
theorem LM.setV (h:LM w B p l)(J:k<6)(u:blk w' p 90 ((lgC l).set (12+k) (u6 x)))(o:Oth p w w'):LM w' B p {l with s:={l.s with V:=l.s.V.set k x} } :=
 have j:Keep [90] B w w':=o.keep h.cl sm h.lo
 {h with
  v6:=by show (l.s.V.set k x).length=6;rw[List.length_set];exact h.v6
  cl:=by rw[←ZX h.i6 h.l6 h.v6 J];exact u
  nd:=gh h.nd j dc
  gr:=gh h.gr j dc
  tm:=h.tm.keep j dc dc
  rq:=fun k C => (h.rq k C).imp fun a=>Exists.imp fun c I=>⟨I.1,gh I.2 j dc⟩}
theorem zeW {q:Nat}{x:ND}(j:LM w B p l)(O:l.s.nodes[i]? = some x)(hq:q<54)(I:Opn w B 79 56 l.s.nodes.length l.s.nc g cs (l.s.nodes.flatMap ndE))(ha:l.s.na=some ⟨g,0,none⟩)(ho:o=i*56+(2+q))(h:∀w',LM w' B p (JF l i {x with A:=x.A.set q v})→Oth g w w'→K undef w'):sto Q 2 (pA g o) (iv v) K w:=by
 have hi:i<l.s.nodes.length:=(gS O).1;have Z:(i+1)*56≤l.s.nodes.length*56:=Nat.mul_le_mul_right _ hi;have h2:l.s.nodes.length*56≤l.s.nc*56:=Nat.mul_le_mul_right _ I.nc;rw[Nat.succ_mul]at Z;have aa:=I.len;have M:=j.A54 x (mO O);subst ho;refine cB kf I.blk oo rfl fun w' hb U=>?_
 have J:=I.set1 (x':={x with A:=x.A.set q v}) fR rfl O (show 2+q<56 by omega) (VK M hq v) hb;have hk:Keep CG B w w':=U.keep I.blk sm I.lo;have u:(l.s.nodes.set i {x with A:=x.A.set q v}).length=l.s.nodes.length:=List.length_set ..
 refine h w' (j.nodes' (N:=l.s.nodes.set i {x with A:=x.A.set q v}) (a:=l.s.na) (c:=l.s.nc) hk dc dc dc dc ?_ ?_ ?_) U
 ·rw[←Jk j.i6 j.l6 j.v6,u]
  have:(lgC l).set 18 (.slice l.s.na l.s.nodes.length l.s.nc)=lgC l:=by
   have:=j.cN
   obtain⟨C,he⟩:=gS this
   conv=>lhs;rw[←he]
   exact List.set_getElem_self C
  rw[this];exact U.blk j.cl (fun C=>j.cl.ne I.blk dc C)
 ·rw[u,ha];exact Opn.own J
 ·intro y hy;rcases List.mem_or_eq_of_mem_set hy with C|C
  ·exact j.A54 y C
  ·rw[C];show (x.A.set q v).length=54;rw[List.length_set];exact M
end
section
variable {w:World}{K:KV}{B p:Nat}{l:LG}
theorem Vg {x:ND}{f:Int}(u:LM w B p l)(hg:GI l m)(hB:B≤w.heap.size)(U:l.s.nodes[i]? = some x)(j:M0.length=54)(O:blk w b 77 (M0.map iv))(q0:V0=pA p 0)(q6:W0=ci (i:Nat))(q7:X0=pA b 0)(q8:Y0=ci f)(I:∀w' (v:Int),v≠0→Below B w w'→K (ci v) w')(C:∀w' l',LM w' B p l'→GI l' (m+1)→l'.s.V=l.s.V→Below B w w'→K (ci 0) w'):gP K ((ny V0 W0 X0 Y0 zf)) w:=by
 subst q0 q6 q7 q8;refine CO <|aX ?_;by_cases J:f≠0
 ·exact ax J (I w f J (Below.refl _ _))
 refine ao J ?_;have u:=u.drew;have O:=O.drew;have hi:i<l.s.nodes.length:=(gS U).1;obtain⟨g,aa,Z,op⟩:=d9 u.nd oo
 refine ac (fun _=>aj) <|ac (fun _=>bf) <|ac (fun _=>dS) <|ac (v:=.slice l.s.na l.s.nodes.length l.s.nc) (fun _=>lK u.cl u.cN) <|ac (v:=.agg (M0.map iv).toArray) (fun _=>ldA (n:=54) (vs:=M0.map iv) underlying77 rfl kr O (by rw[List.drop_zero,tL (by simp[j])]) (by simp[j])) <|ac (v:=pA g (i*56)) (fun _=>qV Z underlying55 kf hi) <|ac (fun _=>se) ?_
 refine Xa u U j op Z rfl fun w' M o'=>?_;refine jF ?_;have hs:SL l (JF l i {x with A:=M0}):=(SL.refl l).set U rfl;exact C w' _ M ((hs.gi hg).mono oo) rfl (bE (Below.refl _ w).drew o' op.lo)
theorem zbZ {e:EV}(hl:LM w B p l)(Z:GI l m)(hm:m≤900)(hB:B≤w.heap.size)(am:bJ e=true)(bb:∀w' (v:Int),v≠0→Below B w w'→K (ci v) w')(a6:∀w' l',LM w' B p l'→GI l' (m+1)→l'.s.V=l.s.V→Below B w w'→K (ci 0) w'):call Q 49 #[pA p 0,.agg (evC e).toArray] K w:=by
 obtain⟨a2,a3,bi,bk⟩:=gW am;have bn:=zdC am;obtain⟨q,hq⟩:∃q:Nat,q=(e.o-1).toNat:=⟨_,rfl⟩
 have an:q<6:=by omega
 have bp:=Z.nn;refine ak (goK func49) (Fj ?_);refine br fun w1 he b1 s1=>?_;have he:=cZ he
 have O:=hl.fresh b1;have B1:Below B w w1:=b1.mono hB;have af:B≤w1.heap.size:=Nat.le_trans hB B1.size;have M:∀w' (v:Int),v≠0→Below B w1 w'→K (ci v) w':=fun w' v hv b=>bb w' v hv (B1.trans b);have C:∀w' l',LM w' B p l'→GI l' (m+1)→l'.s.V=l.s.V→Below B w1 w'→K (ci 0) w':=fun w' l' h1 h2 h3 b=>a6 w' l' h1 h2 h3 (B1.trans b);refine mh <|lK (v:=kv8 e.k) he rfl <|CM <|aO ?_
 by_cases k1:e.k=1
 ·refine ax k1 <|ldA (n:=14) (vs:=evC e) underlying35 rfl kr he rfl rfl ?_;exact za0 O Z hm af ⟨a2,a3⟩ ⟨bi,bk⟩ M C
 refine ao k1 <|aO ?_;by_cases k2:e.k=2
 ·refine ax k2 <|dR <|lK (v:=u6 e.n) he rfl <|Ms O oo <|aK ?_;by_cases hv:fdN l.s.nodes e.n<0
  ·exact ax hv (M w1 9 dc (Below.refl _ _))
  refine ao hv ?_;obtain⟨i,aS,hi⟩:∃i:Nat,fdN l.s.nodes e.n=i∧i<l.s.nodes.length:=by
   unfold fdN at hv ⊢;split at hv
   ·rename_i hh;exact⟨posN l.s.nodes e.n,by rw[if_pos hh],hh⟩
   ·omega
  rw[aS];have j:=O.drew;have J:=he.drew;have hx:l.s.nodes[i]? = some l.s.nodes[i]:=gE hi;generalize l.s.nodes[i]=x at hx;have ad:=O.A54 x (mO hx);obtain⟨g,a5,ha,op⟩:=d9 j.nd oo;have a7:a5[i*56+2+0+q]? = some (iv (nA x.A q)):=by
   have:=op.cell fR rfl hx (show 2+q<56 by omega)
   rw[show i*56+2+0+q=i*56+(2+q)by omega,this,LF ad];unfold ndC;rw[show 2+q=(q+1)+1 by omega,List.getElem?_cons_succ,List.getElem?_cons_succ];exact ti oo
  refine ac (fun _=>aj) <|ac (fun _=>bf) <|ac (fun _=>dS) <|ac (v:=.slice l.s.na l.s.nodes.length l.s.nc) (fun _=>lK j.cl j.cN) <|ac (fun _=>bw) <|ac (v:=iv e.o) (fun _=>lK J rfl) <|ac (v:=ci ((q:Nat):Int)) (fun K h=>ba oo oo (by rw[show (e.o-1)=(q:Nat)by omega];exact h)) <|ac (v:=pA g (i*56)) (fun _=>qV ha underlying55 kf hi) <|ac (fun _=>se) <|ac (fun _=>vG) <|ac (fun _=>ixR rfl an) <|ac (v:=iv (nA x.A q)) (fun _=>lK op.blk a7) <|ac (fun _=>du) <|ac (v:=iv e.a) (fun _=>lK J rfl) <|ac (fun _=>iW) <|ac (fun _=>bO) ?_
  refine ze (fun hd=>?_) (fun hd=>?_)
  ·exact M _ 6 dc (Below.refl _ w1).drew
  have a1:=j.drew;have a9:=J.drew;have a4:Opn w1.drew.drew B 79 56 l.s.nodes.length l.s.nc g a5 (l.s.nodes.flatMap ndE):=⟨op.blk,op.lo,op.nc,op.cm,op.len,op.take,op.xl⟩
  refine ac (fun _=>aj) <|ac (fun _=>bf) <|ac (fun _=>dS) <|ac (v:=.slice l.s.na l.s.nodes.length l.s.nc) (fun _=>lK a1.cl a1.cN) <|ac (fun _=>bw) <|ac (v:=iv e.o) (fun _=>lK a9 rfl) <|ac (v:=ci ((q:Nat):Int)) (fun K h=>ba oo oo (by rw[show (e.o-1)=(q:Nat)by omega];exact h)) <|ac (v:=pA g (i*56)) (fun _=>qV ha underlying55 kf hi) <|ac (fun _=>se) <|ac (fun _=>vG) <|ac (fun _=>ixR rfl an) <|ac (v:=iv (nA x.A q)) (fun _=>lK a4.blk a7) <|ac (fun _=>du) <|ac (v:=iv e.a) (fun _=>lK a9 rfl) <|ac (fun _=>iW) <|ac (v:=pA g (i*56)) (fun _=>qV ha underlying55 kf hi) ?_
  refine ac (fun _=>se) <|ac (fun _=>vG) <|ac (fun _=>ixR rfl an) ?_;refine zeW (q:=q) a1 hx oo a4 ha oo fun w' be o'=>?_;refine jF ?_;have hs:SL l _:=(SL.refl l).set (x':={x with A:=x.A.set q (IntKind.i64.wrap (nA x.A q+e.a))}) hx rfl;exact C w' _ be ((hs.gi Z).mono oo) rfl (bE (Below.refl _ w1).drew.drew o' a4.lo)
 refine ao k2 <|aO <|CN ?_;by_cases k3:e.k=3
 ·refine ax k3 <|ldA (n:=14) (vs:=evC e) underlying35 rfl kr he rfl rfl ?_;exact za2 O Z hm af ⟨a2,a3⟩ oo M C
 refine ao k3 <|aO ?_;by_cases k4:e.k=4
 ·refine ax k4 <|ldA (n:=14) (vs:=evC e) underlying35 rfl kr he rfl rfl ?_;exact ZV O Z hm af ⟨a2,a3⟩ M C
 refine ao k4 <|aO ?_;by_cases k5:e.k=5
 ·refine ax k5 <|dR <|lK (v:=u6 e.n) he rfl <|Ms O oo <|aK ?_;by_cases hv:fdN l.s.nodes e.n<0
  ·exact ax hv (M w1 9 dc (Below.refl _ _))
  refine ao hv ?_;obtain⟨i,aS,hi⟩:∃i:Nat,fdN l.s.nodes e.n=i∧i<l.s.nodes.length:=by
   unfold fdN at hv ⊢;split at hv
   ·rename_i hh;exact⟨posN l.s.nodes e.n,by rw[if_pos hh],hh⟩
   ·omega
  rw[aS];have j:=O.drew;have J:=he.drew;have ag:∀(v:Int),v≠0→K (ci v) w1.drew:=fun v hv=>M _ v hv (Below.refl _ w1).drew;refine ac (fun _=>gO) <|ac (v:=iv e.t) (fun _=>lK J rfl) <|ac (fun _=>aK) ?_;by_cases t1:e.t<1
  ·refine iq t1 <|ac (fun _=>bA t1) <|eA <|ac (fun _=>cz) ?_;exact aT (ag 10 dc)
  refine dt t1 <|ac (fun _=>gO) <|ac (v:=iv e.t) (fun _=>lK J rfl) <|ac (fun _=>bO) <|ac (fun _=>bj t1) ?_;by_cases t2:6<e.t
  ·refine iq t2 <|ac (fun _=>bA t2) ?_;exact aT (ag 10 dc)
  refine dt t2 ?_;obtain⟨u,hu⟩:∃u:Nat,u=(e.t-1).toNat:=⟨_,rfl⟩
  have ap:u<6:=by omega
  refine ac (fun _=>gO) <|ac (v:=iv e.t) (fun _=>lK J rfl) <|ac (v:=ci ((u:Nat):Int)) (fun K h=>ba oo oo (by rw[show (e.t-1)=(u:Nat)by omega];exact h)) <|ac (fun _=>aj) <|ac (fun _=>bf) <|ac (fun _=>AU) <|ac (fun _=>ixB rfl ap) <|ac (v:=.bool (l.s.I.getD u false)) (fun _=>lK j.cl (by rw[show 0+0+0+u=u by omega];exact j.cI ap)) <|ac (fun _=>bK) <|ac (fun _=>bj t2) ?_
  refine ze (fun hd=>?_) (fun hd=>?_)
  ·exact ag 10 dc
  have j:=j.drew;have J:=J.drew;have hx:l.s.nodes[i]? = some l.s.nodes[i]:=gE hi;generalize l.s.nodes[i]=x at hx;have ad:=O.A54 x (mO hx);obtain⟨gn,cn,bd,av⟩:=d9 j.nd oo;have a8:(cn.drop (i*56+2)).take 54=x.A.map iv:=by
   have:=av.elem fR rfl hx
   rw[←List.drop_drop];have h3:((cn.drop (i*56)).take 56).drop 2=((cn.drop (i*56)).drop 2).take 54:=by rw[List.drop_take]
   rw[←h3,this];unfold ndE;rw[Ic ad];rfl
  refine au (fun z=>blk z p 90 (lgC l)∧blk z gn 79 cn∧blk z w.heap.size 35 (evC e)) ⟨j.cl,av.blk,J⟩ <|ab (fun z U _=>aj) <|ab (fun z U _=>bf) <|ab (fun z U _=>dS) <|ab (v:=.slice l.s.na l.s.nodes.length l.s.nc) (fun z U _=>lK U.1 j.cN) <|ab (v:=pA gn (i*56)) (fun z U _=>qV bd underlying55 kf hi) <|ab (fun z U _=>se) <|ab (v:=.agg (x.A.map iv).toArray) (fun z U _=>ldA (n:=54) (vs:=x.A.map iv) underlying77 rfl kr U.2.1 a8 (by simp[ad])) <|ab (fun z U _=>bw) <|ab (v:=iv e.o) (fun z U _=>lK U.2.2 rfl) <|ab (fun z U _=>gO) <|ab (v:=iv e.t) (fun z U _=>lK U.2.2 rfl) <|ab (fun z U _=>du) <|ab (v:=iv e.a) (fun z U _=>lK U.2.2 rfl) ?_
  have ar:((mX x.A e.o e.t e.a).1).length=54:=XX ad;have D2:Below B w1 w1.drew.drew:=(Below.refl _ w1).drew.drew;refine⟨?_,?_⟩
  ·refine Uh ad oo fun w3 b3=>?_;refine au (fun _=>True) trivial <|ab (fun z U _=>bu) <|ab (fun z U _=>bv) ?_;refine df (z:=.agg (z54.map iv).toArray) kr fun w4 h4 b4 s4=>?_;have h4:=cZ h4
   refine aC trivial ?_;refine ip (n:=54) (vs:=(mX x.A e.o e.t e.a).1.map iv) kr (by simp[ar]) h4 (by show 0+54≤54;omega) (zX _) fun w5 h5 o5=>?_;refine aC trivial ?_;have a0:blk w5 w3.heap.size 77 ((mX x.A e.o e.t e.a).1.map iv):=by
    rw[List.take_zero,List.nil_append,List.drop_of_length_le (by show 54≤0+54;omega),List.append_nil]at h5;exact h5
   have B5:Below w1.drew.drew.heap.size w1.drew.drew w5:=b3.trans (bE (b4.mono b3.size) o5 b3.size);have aa:Below B w1 w5:=D2.trans (B5.mono af);exact Vg (j.fresh B5) Z (Nat.le_trans af aa.size) hx ar a0 rfl rfl rfl rfl (fun w' v hv b=>M w' v hv (aa.trans b)) (fun w' l' h1 h2 h3 b=>C w' l' h1 h2 h3 (aa.trans b))
  ·refine df (z:=.agg (z54.map iv).toArray) kr fun w3 h3 b3 s3=>?_;have h3:=cZ h3
   refine aC ⟨ae b3 j.cl j.cl.lt,ae b3 av.blk av.blk.lt,ae b3 J J.lt⟩ ?_;refine Uh ad oo fun w4 b4=>?_;have h4:=ae b4 h3 h3.lt;refine au (fun _=>True) trivial <|ab (fun z U _=>bu) <|ab (fun z U _=>bv) ?_;refine ip (n:=54) (vs:=(mX x.A e.o e.t e.a).1.map iv) kr (by simp[ar]) h4 (by show 0+54≤54;omega) (zX _) fun w5 h5 o5=>?_;refine aC trivial ?_
   have a0:blk w5 w1.drew.drew.heap.size 77 ((mX x.A e.o e.t e.a).1.map iv):=by
    rw[List.take_zero,List.nil_append,List.drop_of_length_le (by show 54≤0+54;omega),List.append_nil]at h5;exact h5
   have B5:Below w1.drew.drew.heap.size w1.drew.drew w5:=bE (b3.trans (b4.mono b3.size)) o5 oA;have aa:Below B w1 w5:=D2.trans (B5.mono af);exact Vg (j.fresh B5) Z (Nat.le_trans af aa.size) hx ar a0 rfl rfl rfl rfl (fun w' v hv b=>M w' v hv (aa.trans b)) (fun w' l' h1 h2 h3 b=>C w' l' h1 h2 h3 (aa.trans b))
 refine ao k5 <|aO <|CQ ?_;have j:=O.drew;have J:=he.drew;have D1:Below B w1 w1.drew:=(Below.refl _ w1).drew;have az:∀(l':LG),l'.T=l.T→l'.s.nodes=l.s.nodes→l'.G=l.G→l'.R=l.R→l'.s.V=l.s.V→GI l' (m+1):=fun l' e1 e2 e3 e4 e5 =>
  GI.mono ⟨by rw[e1];exact Z.tk,by rw[e1,e2];exact Z.nt,by rw[e2];exact Z.nn,by rw[e3];exact Z.gn,by rw[e1];exact Z.tn,by rw[e4];exact Z.rn,by rw[e5];exact Z.vb,by rw[e3];exact Z.gr,by rw[e2];exact Z.ib⟩ (Nat.le_succ m)
 by_cases k6:e.k=6
 ·refine ax k6 ?_;obtain⟨t1,t2⟩:=zdD am k6;obtain⟨u,hu⟩:∃u:Nat,u=(e.t-1).toNat:=⟨_,rfl⟩
  have ap:u<6:=by omega
  refine ac (fun _=>gO) <|ac (v:=iv e.t) (fun _=>lK J rfl) <|ac (v:=ci ((u:Nat):Int)) (fun K h=>ba oo oo (by rw[show (e.t-1)=(u:Nat)by omega];exact h)) <|ac (fun _=>aj) <|ac (fun _=>bf) <|ac (fun _=>AU) <|ac (fun _=>ixB rfl ap) ?_;refine cB kf j.cl (by rw[j.ll];omega) rfl fun w3 al o3=>?_;rw[show 0+0+0+u=u by omega]at al;refine jF ?_
  exact C w3 _ (j.setI ap al o3) (az _ rfl rfl rfl rfl rfl) rfl (bE D1 o3 j.lo)
 refine ao k6 <|aO ?_;by_cases k7:e.k=7
 ·refine ax k7 <|ac (fun _=>bw) <|ac (v:=iv e.o) (fun _=>lK J rfl) <|ac (v:=ci ((q:Nat):Int)) (fun K h=>ba oo oo (by rw[show (e.o-1)=(q:Nat)by omega];exact h)) <|ac (fun _=>aj) <|ac (fun _=>bf) <|ac (fun _=>IQ) <|ac (fun _=>ixB rfl an) ?_;refine cB kf j.cl (by rw[j.ll];omega) rfl fun w3 al o3=>?_;rw[show 0+0+6+q=6+q by omega]at al;refine jF ?_
  exact C w3 _ (j.setL an al o3) (az _ rfl rfl rfl rfl rfl) rfl (bE D1 o3 j.lo)
 refine ao k7 <|jF ?_;exact C w1 l O (Z.mono oo) rfl (Below.refl _ _)
end
def sV (V:List Int):Nat:=(V.getD 0 0+V.getD 1 0+V.getD 2 0+V.getD 3 0+V.getD 4 0+V.getD 5 0).toNat
theorem zdX {V:List Int}(h:V.length=6)(j:∀k,k<6→0≤V.getD k 0)(u:k<6):sV (V.set k (V.getD k 0+1))=sV V+1:=by
 obtain⟨a,b,c,d,e,f,rfl⟩:=sR h;have C:=j 0 oo;have I:=j 1 oo;have J:=j 2 oo;have M:=j 3 oo;have O:=j 4 oo;have U:=j 5 oo;simp only[List.getD_cons_zero,List.getD_cons_succ]at C I J M O U
 match k,u with
 | 0,_=>simp[sV];omega
 | 1,_=>simp[sV];omega
 | 2,_=>simp[sV];omega
 | 3,_=>simp[sV];omega
 | 4,_=>simp[sV];omega
 | 5,_=>simp[sV];omega
def apV (V V':List Int)(e:EV)(f:Int):Prop:=(f≠0∧V'=V)∨(f=0∧bJ e=true∧1≤e.o∧e.o≤6∧e.s=V.getD (e.o-1).toNat 0+1∧V'=V.set (e.o-1).toNat e.s)
section
variable {w:World}{K:KV}{B p:Nat}{l:LG}
theorem TH {e:EV}(hl:LM w B p l)(hg:GI l (sV l.s.V))(hm:sV l.s.V≤900)(h:∀w' B' p' l' (f:Int),LM w' B' p' l'→GI l' (sV l'.s.V)→apV l.s.V l'.s.V e f→Below w.heap.size w w'→K (.tuple #[pA p' 0,ci f]) w'):call Q 27 #[pA p 0,.agg (evC e).toArray] K w:=by
 refine ak (goK func27) (DP ?_);refine br fun w1 he b1 s1=>?_;have he:=cZ he
 have a5:=hl.fresh b1;have no:∀w' (f:Int),f≠0→Below w.heap.size w w'→K (.tuple #[pA p 0,ci f]) w':=fun w' f hf b=>h w' B p l f (hl.fresh b) hg (.inl ⟨hf,rfl⟩) b;refine ldA (n:=14) (vs:=evC e) underlying35 rfl kr he rfl rfl ?_;refine WB fun w2 b2=>?_;have B2:Below w.heap.size w w2:=b1.trans (b2.mono b1.size);have af:=ae b2 he he.lt;have aa:=hl.fresh B2
 refine bK ?_;cases U:bJ e with
 | false=>exact aT (no w2 1 dc B2)
 | true =>
 refine aF ?_;obtain⟨a3,a4,a6,a7⟩:=gW U;obtain⟨q,hq⟩:∃q:Nat,q=(e.o-1).toNat:=⟨_,rfl⟩
 have u:q<6:=by omega
 refine au (fun y=>blk y p 90 (lgC l)∧blk y w.heap.size 35 (evC e)) ⟨aa.cl.drew,af.drew⟩ <|ab (fun y M _=>aj) <|ab (fun y M _=>bf) <|ab (fun y M _=>qo) <|ab (v:=.agg (l.s.V.map u6).toArray) (fun y M _=>ldA (n:=6) (vs:=l.s.V.map u6) underlying33 rfl kr M.1 aa.cutV (by simp[aa.v6])) <|ab (v:=.agg (evC e).toArray) (fun y M _=>ldA (n:=14) (vs:=evC e) underlying35 rfl kr M.2 rfl rfl) ?_
 refine zds aa.v6 fun w3 b3=>?_;have B3:Below w.heap.size w w3:=B2.drew.trans (b3.mono B2.size);have ag:=ae b3 af.drew af.drew.lt;have ad:=hl.fresh B3;refine ze (fun hd=>?_) (fun hd=>?_)
 ·exact no w3 14 dc B3
 refine au (fun y=>blk y p 90 (lgC l)∧blk y w.heap.size 35 (evC e)) ⟨ad.cl.drew,ag.drew⟩ <|ab (fun y M _=>aj) <|ab (fun y M _=>bf) <|ab (fun y M _=>qo) <|ab (v:=.agg (l.s.V.map u6).toArray) (fun y M _=>ldA (n:=6) (vs:=l.s.V.map u6) underlying33 rfl kr M.1 ad.cutV (by simp[ad.v6])) <|ab (v:=.agg (evC e).toArray) (fun y M _=>ldA (n:=14) (vs:=evC e) underlying35 rfl kr M.2 rfl rfl) ?_
 refine zcr ad.v6 (fun k hk=>⟨(hg.vb k hk).1,by have:=(hg.vb k hk).2;omega⟩) fun w4 b4=>?_;have B4:Below w.heap.size w w4:=B3.drew.trans (b4.mono B3.size);have al:=ae b4 ag.drew ag.drew.lt;have O:=hl.fresh B4;refine au (fun _=>True) trivial <|ab (fun y M _=>bK) ?_;cases am:eX l.s.V e with
 | false=>exact aT (no w4 13 dc B4)
 | true =>
 refine aF ?_;have Z:e.s=l.s.V.getD q 0+1:=by
  unfold eX at am;simp only[Bool.and_eq_true,decide_eq_true_eq]at am;rw[hq];exact am.2.1
 refine bw <|lK (v:=iv e.o) al rfl <|ba oo oo ?_;have eq:e.o-1=(q:Nat):=by omega
 rw[eq];refine BM <|aj <|bf <|AU <|ixB rfl u <|lK (v:=.bool (l.s.I.getD q false)) O.cl (by rw[show 0+0+0+q=q by omega];exact O.cI u) <|bK ?_;cases hI:l.s.I.getD q false with
 | false =>
  refine eA <|cz ?_;exact aT (no w4 10 dc B4)
 | true =>
 refine iZ <|aj <|bf <|IQ <|ixB rfl u <|lK (v:=.bool (l.s.L.getD q false)) O.cl (by rw[show 0+0+6+q=6+q by omega];exact O.cL u) <|dh ?_;refine ze (fun hd=>?_) (fun hd=>?_)
 ·exact no w4 10 dc B4
 refine zbW O hg oo fun w5 p5 l5 a1 a0 b5 eI eL eV=>?_;have B5:Below w.heap.size w w5:=B4.trans (b5.mono B4.size);have aS:=ae b5 al al.lt;refine ldA (n:=14) (vs:=evC e) underlying35 rfl kr aS rfl rfl ?_;refine zbZ a1 a0 hm b5.size U (fun w6 v hv b6=>?_) (fun w6 l6 J C an b6=>?_)
 ·refine tI <|aX <|ax hv ?_;exact no w6 v hv (B5.trans (b6.mono B4.size))
 ·refine tI <|aX <|ao oo ?_;have J:=J.drew;have B6:Below w.heap.size w w6.drew:=(B5.trans (b6.mono B4.size)).drew;have az:l6.s.V.getD q 0=l.s.V.getD q 0:=by rw[an,eV]
  have a8:=hg.vb q u;refine ac (fun _=>aj) <|ac (fun _=>bf) <|ac (fun _=>qo) <|ac (fun _=>ixV rfl u) <|ac (v:=u6 (l6.s.V.getD q 0)) (fun _=>lK J.cl (by rw[show 0+0+12+q=12+q by omega];exact J.cV u)) <|ac (v:=u6 e.s) (fun K j=>iW (by rw[eu,az, ←Z,show e.s%18446744073709551616=e.s by omega];exact j)) <|ac (fun _=>aj) <|ac (fun _=>bf) <|ac (fun _=>qo) <|ac (fun _=>ixV rfl u) ?_
  refine cB kf J.cl (by rw[J.ll];omega) rfl fun w7 ar o7=>?_;rw[show 0+0+12+q=12+q by omega]at ar;have a2:=J.setV u ar o7;have ap:l6.s.V=l.s.V:=an.trans eV;have av:sV (l6.s.V.set q e.s)=sV l.s.V+1:=by
   rw[ap,Z];exact zdX hl.v6 (fun k hk=>(hg.vb k hk).1) u
  refine h w7 _ p5 _ 0 a2 ?_ ?_ (bE B6 o7 (Nat.le_trans B4.size J.lo))
  ·show GI _ (sV (l6.s.V.set q e.s));rw[av];refine⟨C.tk,C.nt,C.nn,C.gn,C.tn,C.rn,fun k hk=>?_,C.gr,C.ib⟩;show 0≤(l6.s.V.set q e.s).getD k 0∧(l6.s.V.set q e.s).getD k 0<1099511627776;rw[GK (by rw[J.v6];exact u)];split
   ·omega
   ·exact C.vb k hk
  ·refine .inr ⟨rfl,U,a3,a4,by rw[←hq];exact Z,?_⟩;show l6.s.V.set q e.s=l.s.V.set (e.o-1).toNat e.s;rw[ap,hq]
end
end
end
section
open Go.RowKit
def yT (n0 w_3 i4:Value)(zf:Nat→Value):List Value:=n0::zf 1::zf 2::w_3::i4::zT zf 5 25 ([])
def yU (w_3:Value)(zf:Nat→Value):List Value:=zT zf 0 3 (w_3::zT zf 4 26 ([]))
def gU (K:KV):KE:=kZ f7 [1,1,1] K
def pf (K:KV):KE:=ah Q (cd f7 (b1 58)) (gU K) (xx xf (gU K) 0) (rk f7 K)
theorem I6 (h:bld Q 46 #[] (fun t7=>box Q 46 t7 fun j=>pf K (yT V0 j (ci 0) (zV (zV zu 2 [.pointer none]) 7 [t7,j]))) w):Gives Q 7 #[V0] w K:=by
 refine aq func7 kr ?_;revert h;delta pf gU;exact mpF
theorem Gn (Inv:Value→World→Prop)(μ:Value→World→Nat)(h0:Inv X0 w)(hs:∀(j:Value) (dd:Nat→Value) (w:World) (m:Nat),Inv j w→m=μ j w →
  lS j V0 (fun u w=>cond u (call Q 24 #[V0] (fun C=>ext Q C 0 fun J=>ext Q C 1 fun _=>aJ W0 fun M=>ai Q 46 M 0 fun O=>ld Q 43 O fun U=>bg Q 43 1 #[(0,J)] fun Z=>blt Q .append #[43,43] 43 #[false,false] #[U,Z] fun aa=>aJ W0 fun ad=>ai Q 46 ad 0 fun af=>sto Q 43 af aa fun _=>nC j fun t13 w=>(Inv t13 w)∧((μ t13 w)<m)) w) (gU K (yU W0 (zV (zV (zV dd 0 [V0]) 4 [j]) 9 [j,V0,u])) w)) w):pf K (yT V0 W0 X0 zf) w:=by
 refine aI (cd f7 (b1 116)) (zr [(4,3),(9,20)]) kr (vP [4] Inv) (vQ [4] μ) h0 ?_;intro e' w' hI;have h:=hs _ (zM zf (gd e') (zr [(4,3),(9,20)])) w' _ hI rfl;revert h;generalize (gU K)=qc0;exact mpF
theorem Gp (h:K W0 w):gU K (yU W0 zf) w:=by
 delta gU;exact mpK h
attribute [irreducible] gU pf
def oQ (l0 all1 most5 round7:Value)(zf:Nat→Value):List Value:=l0::all1::zT zf 2 3 (most5::zf 6::round7::zT zf 8 51 ([]))
def iw (l0 all1 most5 round7 was8 i9:Value)(zf:Nat→Value):List Value:=l0::all1::zT zf 2 3 (most5::zf 6::round7::was8::i9::zT zf 10 49 ([]))
def Cm (l0:Value)(zf:Nat→Value):List Value:=l0::zT zf 1 58 ([])
def Cn (l0 all1 most5 round7 was8:Value)(zf:Nat→Value):List Value:=l0::all1::zT zf 2 3 (most5::zf 6::round7::was8::zT zf 9 50 ([]))
def cw (K:KV):KE:=kZ f25 [1,1] K
def rL (K:KV):KE:=ah Q (cd f25 [1,0,1,0]) (cw K) (xx xf (cw K) 0) (rk f25 K)
def dJ (K:KV)(B1:KE):KE:=kY f25 (b1 211) B1 (xx xf (cw K) 0) K
def eQ (K:KV)(B1:KE):KE:=kY f25 (b1 1683) (dJ K B1) (xx (xx xf (cw K) 0) (dJ K B1) 1) K
def oR (K:KV)(B1:KE):KE:=ah Q (cd f25 (b1 6730)) (eQ K B1) (xx (xx (xx xf (cw K) 0) (dJ K B1) 1) (eQ K B1) 2) (rk f25 K)
def jq (K:KV)(B1:KE)(B2:KE):KE:=kY f25 (b1 53843) B2 (xx (xx (xx xf (cw K) 0) (dJ K B1) 1) (eQ K B1) 2) K
def oP (K:KV)(B1:KE)(B2:KE):KE:=ah Q (cd f25 (b1 53842)) (jq K B1 B2) (xx (xx (xx xf (cw K) 0) (dJ K B1) 1) (eQ K B1) 2) (rk f25 K)
theorem LD (h:box Q 33 Y0 (fun X0=>rL K (oQ V0 W0 X0 (ci 0) (zV (zV zu 2 [Y0]) 6 [.pointer none]))) w):Gives Q 25 #[V0,W0,Y0] w K:=by
 refine aq func25 kr ?_;revert h;delta rL cw;exact mpF
theorem Jf (Inv:Value→Value→World→Prop)(μ:Value→Value→World→Nat)(h0:Inv V0 Y0 w)(hs:∀(u j:Value) (Z:Nat→Value) (w:World) (m:Nat),Inv u j w→m=μ u j w →
  lN 44 W0 (fun I=>bF .leq 3 j I fun t13 w=>cond t13 (aJ u (fun J=>ai Q 90 J 0 fun M=>ai Q 58 M 2 fun O=>ld Q 33 O fun U=>alc Q 33 fun Z0=>sto Q 33 Z0 U fun _=>oR K (fun C w2=>(Inv (gd C 0) (gd C 7) w2)∧((μ (gd C 0) (gd C 7) w2)<m)) (iw u W0 X0 j Z0 (ci 0) (zV (zV Z 10 [j,W0,I,t13]) 16 [u,J,M,O,U]))) w) (cw K (Cm u (zV (zV (zV (zV Z 1 [W0]) 5 [X0]) 7 [j]) 10 [j,W0,I,t13])) w)) w):rL K (oQ V0 W0 X0 Y0 zf) w:=by
 refine aI (cd f25 (b1 52)) (zr [(0,1),(6,52)]) kr (vP [0,7] Inv) (vQ [0,7] μ) h0 ?_;intro e' w' hI;have h:=hs _ _ (zM zf (gd e') (zr [(0,1),(6,52)])) w' _ hI rfl;revert h;delta oR eQ dJ;generalize (cw K)=qc0;exact mpF
theorem Jg {B1:KE}(Inv:Value→Value→World→Prop)(μ:Value→Value→World→Nat)(h0:Inv V0 H1 w)(hs:∀(l0' i9':Value) (dd:Nat→Value) (w:World) (m:Nat),Inv l0' i9' w→m=μ l0' i9' w →
  lN 44 W0 (fun t23=>lS i9' t23 fun t24 w=>cond t24 (oP K B1 (fun e2 w2=>(Inv (gd e2 0) (gd e2 9) w2)∧((μ (gd e2 0) (gd e2 9) w2)<m)) (iw l0' W0 X0 Y0 Z0 i9' (zV dd 21 [i9',W0,t23,t24])) w) (eQ K B1 (Cn l0' W0 X0 Y0 Z0 (zV (zV dd 9 [i9']) 21 [i9',W0,t23,t24])) w)) w):oR K B1 (iw V0 W0 X0 Y0 Z0 H1 zf) w:=by
 refine aI (cd f25 (b1 13460)) (zr [(0,1),(9,1),(21,29)]) (by kernel_rfl) (vP [0,9] Inv) (vQ [0,9] μ) h0 ?_
 intro e' w' hI
 have h:=hs _ _ (zM zf (gd e') (zr [(0,1),(9,1),(21,29)])) w' _ hI rfl
 refine Eq.mp (congrArg (fun c=>ah Q c _ _ _ _ w') (by kernel_rfl:(rep [1,0] (cd f25 (b1 53842)) (cd f25 (b1 13460)))=(cd f25 (b1 13460)))) ?_
 revert h
 delta oP jq
 generalize (cd f25 (b1 53842))=xc0
 generalize (cw K)=qc0
 generalize (dJ K B1)=qc1
 generalize (eQ K B1)=qc2
 exact mpF
theorem Jh (h:K V0 w):cw K (Cm V0 zf) w:=by
 delta cw;exact mpK h
theorem Je (h:sI 44 W0 H1 (fun u=>sF 35 u 1 fun C=>sL 31 C fun I=>sI 44 W0 H1 fun J=>sF 35 J 0 fun M=>sL 3 M fun O=>sti (bT .sub 3 O (ci 1)) fun U=>sI 33 X0 U fun Z=>sL 31 Z fun aa=>sti (bF .leq 31 I aa) fun ad w=>cond ad (aL Q 44 W0 H1 (fun af=>ld Q 35 af fun ag=>call Q 27 #[V0,ag] fun j=>ext Q j 0 fun al=>ext Q j 1 fun am=>jq K B1 L0 (iw al W0 X0 Y0 Z0 H1 (zV zf 27 [W0,H1,u,C,I,W0,H1,J,M,O,U,Z,aa,ad,j,V0,W0,H1,af,ag,j,al,am]))) w) (jq K B1 L0 (iw V0 W0 X0 Y0 Z0 H1 (zV zf 27 [W0,H1,u,C,I,W0,H1,J,M,O,U,Z,aa,ad])) w)) w.drew):oP K B1 L0 (iw V0 W0 X0 Y0 Z0 H1 zf) w:=by
 delta oP;revert h;generalize (jq K B1 L0)=qc0;generalize (cw K)=qc1;generalize (dJ K B1)=qc2;generalize (eQ K B1)=qc3;exact mpF
theorem Jj (h:sN V0 (fun j=>sF 90 j 0 fun u=>sF 58 u 2 fun C=>sL 33 C fun I=>sL 33 Z0 fun J=>sti (bF .eql 33 I J) fun M w=>cond M (K V0 w) (dJ K B1 (oQ V0 W0 X0 Y0 (zV (zV zf 8 [Z0]) 50 [V0,j,u,C,I,J,M])) w)) w.drew):eQ K B1 (Cn V0 W0 X0 Y0 Z0 zf) w:=by
 delta eQ;revert h;generalize (dJ K B1)=qc0;generalize (cw K)=qc1;exact mpF
theorem zB (h:nC H1 (fun j=>L0 (iw V0 W0 X0 Y0 Z0 j (zV zf 25 [H1,j]))) w):jq K B1 L0 (iw V0 W0 X0 Y0 Z0 H1 zf) w:=by
 delta jq;revert h;generalize (cw K)=qc0;generalize (dJ K B1)=qc1;generalize (eQ K B1)=qc2;exact mpF
theorem Ji (h:nC Y0 (fun t15=>B1 (oQ V0 W0 X0 t15 (zV zf 14 [Y0,t15]))) w):dJ K B1 (oQ V0 W0 X0 Y0 zf) w:=by
 delta dJ;revert h;generalize (cw K)=qc0;exact mpF
attribute [irreducible] cw rL dJ eQ oR jq oP
def qB (x3 t4 l6 e7:Value)(zf:Nat→Value):List Value:=zT zf 0 3 (x3::t4::zf 5::l6::e7::zT zf 8 135 ([]))
def vU (x3 t4 l6 e7 node8 t51:Value)(zf:Nat→Value):List Value:=zT zf 0 3 (x3::t4::zf 5::l6::e7::node8::zT zf 9 42 (t51::zT zf 52 91 ([])))
def nD (x3 t4 e7 node8:Value)(zf:Nat→Value):List Value:=zT zf 0 3 (x3::t4::zf 5::zf 6::e7::node8::zT zf 9 134 ([]))
def vV (x3 t4 e7 node8 t71:Value)(zf:Nat→Value):List Value:=zT zf 0 3 (x3::t4::zf 5::zf 6::e7::node8::zT zf 9 62 (t71::zT zf 72 71 ([])))
def vW (x3 t4 e7 node8 t77:Value)(zf:Nat→Value):List Value:=zT zf 0 3 (x3::t4::zf 5::zf 6::e7::node8::zT zf 9 68 (t77::zT zf 78 65 ([])))
def eH (t4 e7:Value)(zf:Nat→Value):List Value:=zT zf 0 4 (t4::zf 5::zf 6::e7::zT zf 8 135 ([]))
def vX (x3 t4 e7 node8 t71 t119:Value)(zf:Nat→Value):List Value:=zT zf 0 3 (x3::t4::zf 5::zf 6::e7::node8::zT zf 9 62 (t71::zT zf 72 47 (t119::zT zf 120 23 ([]))))
def qC (x3 t4 e7:Value)(zf:Nat→Value):List Value:=zT zf 0 3 (x3::t4::zf 5::zf 6::e7::zT zf 8 135 ([]))
def jd (K:KV):KE:=ah Q (cd f26 [1,1,1,1]) (rk f26 K) xf (rk f26 K)
def eJ (K:KV):KE:=kZ f26 (b1 127) K
def kH (K:KV):KE:=ah Q (cd f26 (b1 253)) (eJ K) xf (rk f26 K)
def aY (K:KV):KE:=kZ f26 (b1 255) K
def kI (K:KV):KE:=ah Q (cd f26 (b1 509)) (aY K) xf (rk f26 K)
def fM (K:KV):KE:=kY f26 (b1 8149) (aY K) (xx xf (aY K) 0) K
def kJ (K:KV):KE:=ah Q (cd f26 (b1 16297)) (fM K) (xx xf (aY K) 0) (rk f26 K)
def kK (K:KV):KE:=ah Q (cd f26 (b1 521727)) (aY K) (xx xf (aY K) 0) (rk f26 K)
theorem Fo {K:KV}{w_0 x1:Value}{w:World}(h:box Q 30 x1 (fun V0=>alc Q 35 fun W0 w=>sF 30 V0 0 (fun t9=>sL 5 t9 fun t10=>sti (conv Q 5 3 t10) fun t11=>sN w_0 fun t13=>sF 46 t13 0 fun t14=>sL 43 t14 fun t15=>sti (blt Q .len #[43] 3 #[false] #[t15]) fun t16=>sti (bF .rem 3 t11 t16) fun t17=>aJ w_0 fun t19=>ai Q 46 t19 0 fun t20=>ld Q 43 t20 fun t21=>aL Q 43 t21 t17 fun t23=>ld Q 82 t23 fun t24 w=>aE (fun S w=>hld (fun _=>True) (bT .add 3 t17 (ci 1)) fun t26=>hN S t24 fun t29=>hF S 90 t29 0 fun t30=>hF S 58 t30 2 fun t31=>hI S 33 t31 t17 fun t32=>hL S 31 t32 fun t33=>hld (fun _=>True) (bT .add 31 t33 (cu 1)) fun t34=>hN S t24 fun t36=>hF S 90 t36 0 fun t37=>hF S 58 t37 2 fun t38=>hL S 33 t38 fun t39=>hF S 30 V0 3 fun t40=>hL S 5 t40 fun t41=>hld S (bT .rem 5 t41 (cb 7)) fun t42=>hld (fun _=>True) (bin Q .add 5 true false (cb 1) t42) fun t43=>hld S (bld Q 35 #[(0,t26),(1,t34),(2,t39),(3,t43)]) fun t44=>alc Q 35 (fun Y0=>aU S fun _=>sto Q 35 Y0 t44 fun _=>jd K (qB V0 W0 t24 Y0 (zV (zV (zV zu 0 [w_0,x1]) 5 [t17]) 9 [t9,t10,t11,w_0,t13,t14,t15,t16,t17,w_0,t19,t20,t21,t17,t23,t24,t17,t26,t24,t17,t29,t30,t31,t32,t33,t34,t24,t36,t37,t38,t39,t40,t41,t42,t43,t44]))) w) w.drew) w.drew) w):Gives Q 26 #[w_0,x1] w K:=by
 refine aq func26 (by kernel_rfl) ?_
 refine Eq.mp (congrArg (fun c=>ah Q c _ _ _ _ w) (by kernel_rfl:(rep [1,1,1,1] (cd f26 [1,1,1,1]) (cd f26 []))=(cd f26 []))) ?_
 revert h
 delta jd
 generalize (cd f26 [1,1,1,1])=xc0
 exact mpF
theorem CT {K:KV}{V0 W0 X0 Y0:Value}{zf:Nat→Value}{w:World}(h:aJ X0 (fun t46=>ai Q 90 t46 0 fun t47=>ai Q 58 t47 3 fun t48=>ld Q 55 t48 fun t49=>lN 55 t49 fun t50=>bT .gtr 3 t50 (ci 0) fun H1=>kH K (vU V0 W0 X0 Y0 (cu 0) H1 (zV zf 45 [X0,t46,t47,t48,t49,t50]))) w):jd K (qB V0 W0 X0 Y0 zf) w:=by
 delta jd
 refine Eq.mp (congrArg (fun c=>ah Q c _ _ _ _ w) (by kernel_rfl:(rep [1,0,1] (cd f26 (b1 253)) (cd f26 [1,1,1,1]))=(cd f26 [1,1,1,1]))) ?_
 revert h
 delta kH eJ
 generalize (cd f26 (b1 253))=xc0
 exact mpF
theorem CU (h:cond H1 (sN X0 (fun j=>sF 90 j 0 fun u=>sF 58 u 3 fun C=>sL 55 C fun I=>sF 30 V0 4 fun J=>sL 5 J fun M=>sti (conv Q 5 3 M) fun O=>sN X0 fun U=>sF 90 U 0 fun Z=>sF 58 Z 3 fun aa=>sL 55 aa fun ad=>sti (blt Q .len #[55] 3 #[false] #[ad]) fun af=>sti (bF .rem 3 O af) fun ag=>sI 55 I ag fun al=>sF 79 al 0 fun am=>sL 31 am fun an=>eJ K (nD V0 W0 Y0 an (zV (zV zf 6 [X0]) 51 [H1,X0,j,u,C,I,J,M,O,X0,U,Z,aa,ad,af,ag,al,am,an]))) w.drew) (eJ K (nD V0 W0 Y0 Z0 (zV (zV zf 6 [X0]) 51 [H1])) w)):kH K (vU V0 W0 X0 Y0 Z0 H1 zf) w:=by
 delta kH;revert h;generalize (eJ K)=qc0;exact mpF
theorem CY {K:KV}{V0 W0 Y0 Z0:Value}{zf:Nat→Value}{w:World}(h:ai Q 35 Y0 3 (fun t70=>ld Q 5 t70 fun I1=>kI K (vV V0 W0 Y0 Z0 I1 (zV zf 70 [t70]))) w):eJ K (nD V0 W0 Y0 Z0 zf) w:=by
 delta eJ
 refine Eq.mp (congrArg (fun c=>ah Q c _ _ _ _ w) (by kernel_rfl:(rep [0,1] (cd f26 (b1 509)) (cd f26 (b1 127)))=(cd f26 (b1 127)))) ?_
 revert h
 delta kI aY
 generalize (cd f26 (b1 509))=xc0
 exact mpF
theorem CV (h:bT .eql 5 I1 (cb 1) (fun t73 w=>cond t73 (ai Q 30 V0 4 (fun t74=>ld Q 5 t74 fun t75=>bT .rem 5 t75 (cb 2) fun t76=>bT .eql 5 t76 (cb 1) fun J1=>kJ K (vW V0 W0 Y0 Z0 J1 (zV zf 71 [I1,t73,t73,t74,t75,t76]))) w) (bT .eql 5 I1 (cb 2) (fun t85 w=>cond t85 (ai Q 35 Y0 4 (fun t87=>sto Q 31 t87 Z0 fun _=>ai Q 30 V0 6 fun t88=>ld Q 28 t88 fun t89=>conv Q 28 2 t89 fun t90=>bT .add 2 t90 (ci 1) fun t91=>ai Q 35 Y0 6 fun t92=>sto Q 2 t92 t91 fun _=>aY K (eH W0 Y0 (zV (zV (zV (zV zf 3 [V0]) 8 [Z0]) 71 [I1,t73,t73]) 84 [t85,t85,Z0,t87,t88,t89,t90,t91,t92]))) w) (bT .eql 5 I1 (cb 3) (fun t94 w=>cond t94 (ai Q 35 Y0 4 (fun t96=>sto Q 31 t96 Z0 fun _=>ai Q 30 V0 6 fun t97=>ld Q 28 t97 fun t98=>conv Q 28 2 t98 fun t99=>bT .add 2 t99 (ci 1) fun t100=>ai Q 35 Y0 6 fun t101=>sto Q 2 t101 t100 fun _=>ai Q 30 V0 7 fun t102=>ld Q 5 t102 fun t103=>conv Q 5 31 t103 fun t104=>bT .add 31 t104 (cu 1) fun t105=>ai Q 35 Y0 7 fun t106=>sto Q 31 t106 t105 fun _=>aY K (eH W0 Y0 (zV (zV (zV (zV (zV zf 3 [V0]) 8 [Z0]) 71 [I1,t73,t73]) 84 [t85,t85]) 93 [t94,t94,Z0,t96,t97,t98,t99,t100,t101,t102,t103,t104,t105,t106]))) w) (bT .eql 5 I1 (cb 4) (fun t108 w=>cond t108 (ai Q 30 V0 7 (fun t109=>ld Q 5 t109 fun t110=>conv Q 5 31 t110 fun t111=>bT .add 31 t111 (cu 1) fun t112=>ai Q 35 Y0 7 fun t113=>sto Q 31 t113 t112 fun _=>ai Q 30 V0 8 fun t114=>ld Q 5 t114 fun t115=>conv Q 5 31 t115 fun t116=>bT .add 31 t116 (cu 1) fun t117=>ai Q 35 Y0 8 fun t118=>sto Q 31 t118 t117 fun _=>aY K (eH W0 Y0 (zV (zV (zV (zV (zV (zV zf 3 [V0]) 8 [Z0]) 71 [I1,t73,t73]) 84 [t85,t85]) 93 [t94,t94]) 107 [t108,t108,t109,t110,t111,t112,t113,t114,t115,t116,t117,t118]))) w) (bT .eql 5 I1 (cb 5) (fun t120=>kK K (vX V0 W0 Y0 Z0 I1 t120 (zV (zV (zV (zV (zV zf 72 [t73,t73]) 84 [t85,t85]) 93 [t94,t94]) 107 [t108,t108]) 120 [t120]))) w)) w)) w)) w)) w):kI K (vV V0 W0 Y0 Z0 I1 zf) w:=by
 delta kI
 refine Eq.mp (congrArg (fun c=>ah Q c _ _ _ _ w) (by kernel_rfl:(rep (b1 1535) (cd f26 (b1 521727)) (rep (b1 41) (cd f26 (b1 16297)) (cd f26 (b1 509))))=(cd f26 (b1 509)))) ?_
 revert h
 delta kK kJ fM
 generalize (cd f26 (b1 16297))=xc0
 generalize (cd f26 (b1 521727))=xc1
 generalize (aY K)=qc0
 exact mpF
theorem CW (h:cond J1 (ai Q 35 Y0 4 (fun j=>sto Q 31 j Z0 fun _=>fM K (qC V0 W0 Y0 (zV (zV zf 8 [Z0]) 77 [J1,Z0,j]))) w) (fM K (qC V0 W0 Y0 (zV (zV zf 8 [Z0]) 77 [J1])) w)):kJ K (vW V0 W0 Y0 Z0 J1 zf) w:=by
 delta kJ;revert h;generalize (fM K)=qc0;generalize (aY K)=qc1;exact mpF
theorem CZ (h:ld Q 35 Y0 (fun j=>sto Q 35 W0 j fun _=>aV Q [(some 35,W0)] K) w):aY K (eH W0 Y0 zf) w:=by
 delta aY;exact mpK h
theorem CX (h:cond M1 (ai Q 35 Y0 4 (fun u=>sto Q 31 u Z0 fun _=>ai Q 30 V0 6 fun C=>ld Q 28 C fun I=>conv Q 28 2 I fun J=>bT .add 2 J (ci 1) fun M=>ai Q 35 Y0 6 fun O=>sto Q 2 O M fun _=>ai Q 30 V0 5 fun U=>ld Q 5 U fun Z=>conv Q 5 3 Z fun aa=>bT .rem 3 aa (ci 6) fun ad=>bin Q .add 3 true false (ci 1) ad fun af=>ai Q 35 Y0 5 fun ag=>sto Q 3 ag af fun _=>aY K (eH W0 Y0 (zV (zV (zV (zV (zV zf 3 [V0]) 8 [Z0]) 71 [I1]) 119 [M1]) 121 [Z0,u,C,I,J,M,O,U,Z,aa,ad,af,ag]))) w) (bT .eql 5 I1 (cb 6) (fun j w=>cond j (ai Q 30 V0 5 (fun al=>ld Q 5 al fun am=>conv Q 5 3 am fun an=>bT .rem 3 an (ci 6) fun ap=>bin Q .add 3 true false (ci 1) ap fun ar=>ai Q 35 Y0 5 fun av=>sto Q 3 av ar fun _=>aY K (eH W0 Y0 (zV (zV (zV (zV (zV zf 3 [V0]) 8 [Z0]) 71 [I1]) 119 [M1]) 134 [j,j,al,am,an,ap,ar,av]))) w) (aY K (eH W0 Y0 (zV (zV (zV (zV (zV zf 3 [V0]) 8 [Z0]) 71 [I1]) 119 [M1]) 134 [j,j])) w)) w)):kK K (vX V0 W0 Y0 Z0 I1 M1 zf) w:=by
 delta kK;revert h;generalize (aY K)=qc0;exact mpF
theorem uk (h:ai Q 30 V0 6 (fun j=>ld Q 28 j fun u=>conv Q 28 2 u fun C=>ai Q 35 Y0 6 fun I=>sto Q 2 I C fun _=>aY K (eH W0 Y0 (zV (zV zf 3 [V0]) 80 [j,u,C,I]))) w):fM K (qC V0 W0 Y0 zf) w:=by
 delta fM;revert h;generalize (aY K)=qc0;exact mpF
attribute [irreducible] jd eJ kH aY kI fM kJ kK
def te (w_0 t4 o5 e6:Value)(zf:Nat→Value):List Value:=w_0::zT zf 1 3 (t4::o5::e6::zT zf 7 87 ([]))
def tf (w_0 t4 e6:Value)(zf:Nat→Value):List Value:=w_0::zT zf 1 3 (t4::zf 5::e6::zT zf 7 87 ([]))
def kq (K:KV):KE:=ah Q (cd f8 [1,1,1,1]) (rk f8 K) xf (rk f8 K)
def ks (K:KV):KE:=ah Q (cd f8 (b1 255)) (rk f8 K) xf (rk f8 K)
theorem I7 {K:KV}{V0 x1:Value}{w:World}(h:box Q 30 x1 (fun x3=>alc Q 35 fun W0 w=>sF 30 x3 0 (fun t9=>sL 5 t9 fun t10=>sti (conv Q 5 3 t10) fun t11=>sN V0 fun t13=>sF 46 t13 0 fun t14=>sL 43 t14 fun t15=>sti (blt Q .len #[43] 3 #[false] #[t15]) fun t16=>sti (bF .rem 3 t11 t16) fun t17=>ai Q 30 x3 1 fun t18=>ld Q 4 t18 fun t19 w=>cond t19 (aE (fun S w=>hN S V0 fun t21=>hF S 46 t21 0 fun t22=>hL S 43 t22 fun t23=>hN S V0 fun t26=>hF S 46 t26 0 fun t27=>hL S 43 t27 fun t28=>hI S 43 t28 t17 fun t30=>hL S 82 t30 fun t31=>hN S V0 fun t33=>hF S 46 t33 1 fun t34=>hL S 44 t34 fun t35=>hN S V0 fun t37=>hF S 46 t37 0 fun t38=>hL S 43 t38 fun t39=>hF S 30 x3 2 fun t40=>hL S 5 t40 fun t41=>hld S (conv Q 5 3 t41) fun t42=>hN S V0 fun t44=>hF S 46 t44 0 fun t45=>hL S 43 t45 fun t46=>hld S (blt Q .len #[43] 3 #[false] #[t46]) fun t47=>hld S (bF .rem 3 t42 t47) fun t48=>hI S 43 t39 t48 fun t49=>hL S 82 t49 fun t50=>hN S t50 fun t51=>hF S 90 t51 0 fun t52=>hF S 58 t52 2 fun t53=>hL S 33 t53 fun t54=>call Q 25 #[t31,t35,t54] (fun t55=>aU S fun S w=>hI S 43 t23 t17 fun t56=>sto Q 82 t56 t55 (fun _=>bld Q 35 #[] fun t57=>sto Q 35 W0 t57 fun _=>aV Q [(some 35,W0)] K) w) w) w.drew) (ld Q 30 x3 (fun t59=>call Q 26 #[V0,t59] fun t60=>alc Q 35 fun Y0=>sto Q 35 Y0 t60 fun _=>kq K (te V0 W0 t17 Y0 (zV (zV (zV (zV zu 1 [x1]) 3 [x3]) 9 [t9,t10,t11,V0,t13,t14,t15,t16,t17,t18,t19]) 58 [V0,t59,t60]))) w)) w.drew) w):Gives Q 8 #[V0,x1] w K:=by
 refine aq func8 (by kernel_rfl) ?_
 refine Eq.mp (congrArg (fun c=>ah Q c _ _ _ _ w) (by kernel_rfl:(rep [1,1,1,1] (cd f8 [1,1,1,1]) (cd f8 []))=(cd f8 []))) ?_
 revert h
 delta kq
 generalize (cd f8 [1,1,1,1])=xc0
 exact mpF
theorem Gq (h:aE (fun S w=>hN S V0 fun t63=>hF S 46 t63 0 fun t64=>hL S 43 t64 fun t65=>hI S 43 t65 X0 fun t67=>hL S 82 t67 fun t68=>hL S 35 Y0 fun t69=>call Q 27 #[t68,t69] (fun t70=>aE fun S w=>hld S (ext Q t70 0) fun t71=>hld S (ext Q t70 1) fun t72=>bT .neq 40 t72 (ci 0) (fun t74 w=>cond t74 (bld Q 35 #[] (fun t75=>sto Q 35 W0 t75 fun _=>aV Q [(some 35,W0)] K) w) (aJ V0 (fun t77=>ai Q 46 t77 0 fun t78=>ld Q 43 t78 fun t79=>aL Q 43 t79 X0 fun t82=>sto Q 82 t82 t71 fun _=>ks K (tf V0 W0 Y0 (zV (zV (zV (zV zf 5 [X0]) 7 [t71,t72]) 61 [t70,V0,t63,t64,t65,X0,t67,t68,t69,t70,t71,t72,t72,t74]) 76 [V0,t77,t78,t79,X0,t71,t82]))) w)) w) w) w.drew):kq K (te V0 W0 X0 Y0 zf) w:=by
 delta kq
 refine Eq.mp (congrArg (fun c=>ah Q c _ _ _ _ w) (by kernel_rfl:(rep [1,1,1] (cd f8 (b1 255)) (cd f8 [1,1,1,1]))=(cd f8 [1,1,1,1]))) ?_
 revert h
 delta ks
 generalize (cd f8 (b1 255))=xc0
 exact mpF
theorem Gr (h:aE (fun S w=>hN S V0 fun j=>hF S 46 j 1 fun u=>hL S 44 u fun C=>hL S 35 Y0 fun I=>bg Q 44 1 #[(0,I)] (fun J=>aU S fun _=>blt Q .append #[44,44] 44 #[false,false] #[C,J] fun M=>aE fun S w=>hN S V0 fun O=>hF S 46 O 1 fun U=>sto Q 44 U M (fun _=>ld Q 35 Y0 fun Z=>sto Q 35 W0 Z fun _=>aV Q [(some 35,W0)] K) w) w) w.drew):ks K (tf V0 W0 Y0 zf) w:=by
 delta ks;exact mpK h
attribute [irreducible] kq ks
end
section
attribute [local irreducible] bin un conv call aZ blt slc ai fld aL idx lkp cP eP eSt rng nxt ent ext alc box bld bg ld sto aJ cr mkS ifc pick rdy wts aG sti cond aV Gives ah dy dP cOp
section
open Go.RowKit
structure LC (w:World) (p:Nat) (l:LG) (C:Nat→Int):Prop where
 lm:∃B,LM w B p l
 gi:GI l (sV l.s.V)
 le:∀k,k<6→l.s.V.getD k 0≤C k
theorem LC.fresh {l:LG}(h:LC w p l C)(j:Below w.heap.size w w'):LC w' p l C:=⟨h.lm.imp fun _ u=>u.fresh j,h.gi,h.le⟩
theorem LC.sum {l:LG}(h:LC w p l C)(U:C 0+C 1+C 2+C 3+C 4+C 5≤900):sV l.s.V≤900:=by
 have j:=h.le 0 oo;have u:=h.le 1 oo;have I:=h.le 2 oo;have J:=h.le 3 oo;have M:=h.le 4 oo;have O:=h.le 5 oo;unfold sV;omega
theorem zcT {V:List Int}{e:EV}{f:Int}(U:V.length=6)(h:apV V A e f)(j:∀k,k<6→V.getD k 0≤C k)(u:e.s≤C (e.o-1).toNat):∀k,k<6→A.getD k 0≤C k:=by
 rcases h with⟨_,rfl⟩|⟨_,_,M,O,_,rfl⟩
 ·exact j
 ·intro k J;rw[pC oo];split
  ·rename_i I;rw[I];exact u
  ·exact j k J
def EC (E:List EV)(C:Nat→Int):Prop:=∀e∈E,1≤e.o∧e.o≤6∧e.s≤C (e.o-1).toNat
theorem HJ (e:EV):(evC e).length=14:=rfl
theorem ZS {r:Nat}{l:LG}{E:List EV}{W:List Int}(hl:LC w p l C)(hC:C 0+C 1+C 2+C 3+C 4+C 5≤900)(hE:EC E C)(hn:E.length=n)(a6:n≤100000)(hM:A.length=6)(hW:W.length=6)(hr:r≤100000)(a5:w.ownsRow j 35 14 (.slice a n c) n (E.flatMap evC))(a3:blk w o 33 (A.map u6))(a4:blk w m 33 (W.map u6))(ap:Below w0.heap.size w0 w)(q0:V0=pA p 0)(q1:W0=.slice a n c)(q5:X0=pA o 0)(q7:Y0=ci (r:Nat))(q8:Z0=pA m 0)(q9:H1=ci 0)(ar:∀(e:List Value) (w':World) p' l',gd e 0=pA p' 0→gd e 7=ci ((r+1:Nat):Int)→LC w' p' l' C→w'.ownsRow j 35 14 (.slice a n c) n (E.flatMap evC)→blk w' o 33 (A.map u6)→Below w0.heap.size w0 w'→B1 e w')(h:∀(w':World) p' l',LC w' p' l' C→Below w0.heap.size w0 w'→K (pA p' 0) w'):oR K B1 ((iw V0 W0 X0 Y0 Z0 H1 zf)) w:=by
 subst q0 q1 q5 q7 q8 q9;refine Jg (Inv:=fun lv i wr=>∃(k p':Nat) (l':LG),lv=pA p' 0∧i=ci (k:Nat)∧k≤n∧LC wr p' l' C∧wr.ownsRow j 35 14 (.slice a n c) n (E.flatMap evC)∧blk wr o 33 (A.map u6)∧blk wr m 33 (W.map u6)∧Below w0.heap.size w0 wr) (μ:=fun _ i _=>n-(intOf i).toNat) ⟨0,p,l,rfl,rfl,by omega,hl,a5,a3,a4,ap⟩ ?_
 rintro _ _ dd w1 mm ⟨k,p1,l1,rfl,rfl,hk,am,af,aa,ad,U⟩ an;refine bh underlying44 <|aK ?_;by_cases al:k<n
 ·refine ax oo <|Je ?_;have hx:E[k]? = some E[k]:=gE oo;generalize E[k]=e at hx;obtain⟨e1,e6,es⟩:=hE e (mO hx);obtain⟨q,hq⟩:∃q:Nat,q=(e.o-1).toNat:=⟨_,rfl⟩
  have u:=am.fresh (Below.refl _ w1).drew;have J:w1.drew.ownsRow j 35 14 (.slice a n c) n (E.flatMap evC):=af;have O:=aa.drew;have I:=ad.drew;have Z:=U.drew;obtain⟨g,ag,ha,op⟩:=d9 J oo;have c1:ag[k*14+1]? = some (u6 e.s):=op.cell HJ hn hx (show 1<14 by omega);have c0:ag[k*14+0]? = some (iv e.o):=op.cell HJ hn hx (show 0<14 by omega)
  refine ac (v:=pA g (k*14)) (fun _=>qV ha underlying44 kf al) <|ac (fun _=>gN) <|ac (v:=u6 e.s) (fun _=>lK op.blk c1) <|ac (v:=pA g (k*14)) (fun _=>qV ha underlying44 kf al) <|ac (fun _=>bw) <|ac (v:=iv e.o) (fun _=>lK op.blk c0) <|ac (v:=ci ((q:Nat):Int)) (fun K h=>ba oo oo (by rw[show (e.o-1)=(q:Nat)by omega];exact h)) <|ac (fun _=>ixV rfl oo) <|ac (v:=u6 (A.getD q 0)) (fun _=>lK O (by rw[Nat.zero_add];exact Wn oo)) <|ac (fun _=>gJ) ?_
  refine ze (fun hd=>?_) (fun hd=>?_)
  ·refine zeN (enc:=evC) (s:=14) underlying44 kf underlying35 rfl kr HJ J hn hx fun _=>?_;obtain⟨B,M⟩:=u.lm;refine TH M u.gi (u.sum hC) fun w3 B3 p3 l3 f a2 a0 aS b3=>?_;refine bu <|bv <|zB <|aM oo oo ?_
   refine⟨⟨k+1,p3,l3,rfl,ivS,by omega,⟨⟨B3,a2⟩,a0,zcT M.v6 aS u.le es⟩,cD J fun b hb=>b3.block b (World.ownsRow.lt J b hb).2,ae b3 O O.lt,ae b3 I I.lt,Z.trans (b3.mono Z.size)⟩,?_⟩;rw[an];show n-((k:Int)+1).toNat<n-(k:Int).toNat;omega
  ·refine zB <|aM oo oo ?_;refine⟨⟨k+1,p1,l1,rfl,ivS,by omega,u,J,O,I,Z⟩,?_⟩;rw[an];show n-((k:Int)+1).toNat<n-(k:Int).toNat;omega
 ·refine ao oo <|Jj ?_;have u:=am.fresh (Below.refl _ w1).drew;obtain⟨B,M⟩:=u.lm;have I:=ad.drew
  refine ac (fun _=>aj) <|ac (fun _=>bf) <|ac (fun _=>qo) <|ac (v:=.agg (l1.s.V.map u6).toArray) (fun _=>ldA (n:=6) (vs:=l1.s.V.map u6) underlying33 rfl kr M.cl M.cutV (by simp[M.v6])) <|ac (v:=.agg (W.map u6).toArray) (fun _=>ldA (n:=6) (vs:=W.map u6) underlying33 rfl kr I (cutV hW) (by simp[hW])) ?_;obtain⟨v0,v1,v2,v3,v4,v5,av⟩:=sR M.v6
  obtain⟨u0,u1,u2,u3,u4,u5,az⟩:=sR hW;refine ac (v:=.bool (decide (l1.s.V=W))) (fun K h=>by
   rw[av,az]at h ⊢;refine Hw 3 oo kr kr kr kr fun r hr=>?_;have a1:List.map u6 [v0,v1,v2,v3,v4,v5]=List.map u6 [u0,u1,u2,u3,u4,u5]↔[v0,v1,v2,v3,v4,v5]=[u0,u1,u2,u3,u4,u5]:=by simp[u6]
   have:r=decide ([v0,v1,v2,v3,v4,v5]=[u0,u1,u2,u3,u4,u5]):=Bool.eq_iff_iff.2 ((hr.trans a1).trans decide_eq_true_iff.symm)
   rw[this];exact h) ?_
  refine ze (fun hd=>?_) (fun hd=>?_)
  ·exact h _ p1 l1 u U.drew
  ·refine Ji <|aM oo oo ?_;exact ar _ _ p1 l1 rfl (ivS) u af aa.drew U.drew
theorem zc0 {l:LG}{E:List EV}(hl:LC w p l C)(hC:C 0+C 1+C 2+C 3+C 4+C 5≤900)(hE:EC E C)(hn:E.length=n)(am:n≤90000)(hM:A.length=6)(af:w.ownsRow o 35 14 (.slice a n c) n (E.flatMap evC))(h:∀(w':World) J l',LC w' J l' C→Below w.heap.size w w'→K (pA J 0) w'):call Q 25 #[pA p 0,.slice a n c,.agg (A.map u6).toArray] K w:=by
 refine ak (goK func25) (LD ?_);refine br fun w1 aa b1 s1=>?_;have aa:=cZ aa
 refine Jf (Inv:=fun lv rv wr=>∃(r J:Nat) (l':LG),lv=pA J 0∧rv=ci (r:Nat)∧r≤n+1∧LC wr J l' C∧wr.ownsRow o 35 14 (.slice a n c) n (E.flatMap evC)∧blk wr w.heap.size 33 (A.map u6)∧Below w.heap.size w wr) (μ:=fun _ rv _=>n+1-(intOf rv).toNat) ⟨0,p,l,rfl,rfl,by omega,hl.fresh b1,cD af fun b hb=>b1.block b (World.ownsRow.lt af b hb).2,aa,b1⟩ ?_
 rintro _ _ dd w2 mm ⟨r,p2,l2,rfl,rfl,hr,Z,O,M,u⟩ al;refine bh underlying44 <|gJ ?_;by_cases an:r≤n
 ·refine ax oo ?_;obtain⟨B,I⟩:=Z.lm;refine aj <|bf <|qo <|ldA (n:=6) (vs:=l2.s.V.map u6) underlying33 rfl kr I.cl I.cutV (by simp[I.v6]) ?_;refine df (z:=.agg (([0,0,0,0,0,0]:List Int).map u6).toArray) kr fun w3 h3 b3 s3=>?_;have h3:=cZ h3
  refine ip (n:=6) (vs:=l2.s.V.map u6) kr (by simp[I.v6]) h3 (by show 0+6≤6;omega) (by simp[u6,Value.oneCell']) fun w4 h4 o4=>?_;have h4:blk w4 w2.heap.size 33 (l2.s.V.map u6):=by
   rw[List.take_zero,List.nil_append,List.drop_of_length_le (by show 6≤0+6;omega),List.append_nil]at h4;exact h4
  have B4:Below w2.heap.size w2 w4:=bE b3 o4 oA;refine ZS (w0:=w) (r:=r) (Z.fresh B4) hC hE hn oo hM I.v6 oo (cD O fun b hb=>B4.block b (World.ownsRow.lt O b hb).2) (ae B4 M M.lt) h4 (u.trans (B4.mono u.size)) rfl rfl rfl rfl rfl rfl ?_ ?_
  ·intro e w' J l' g0 g7 U ag ad j;refine⟨⟨r+1,J,l',g0,g7,by omega,U,ag,ad,j⟩,?_⟩;rw[g7,al];show n+1-(((r+1:Nat):Int)).toNat<n+1-((r:Nat):Int).toNat;omega
  ·intro w' J l' U j;exact h w' J l' U j
 ·refine ao oo <|Jh ?_;exact h w2 p2 l2 Z u
def ptC (x:Nat×LG):List Value:=[pA x.1 0]
theorem Es (x:Nat×LG):(ptC x).length=1:=rfl
structure WM (w:World) (Bw g:Nat) (L:List (Nat×LG)) (E:List EV) (C:Nat→Int):Prop where
 row:∃la lc ea ec,blk w g 46 [.slice la L.length lc,.slice ea E.length ec]∧w.ownsRow Bw 82 1 (.slice la L.length lc) L.length (L.flatMap ptC)∧w.ownsRow Bw 35 14 (.slice ea E.length ec) E.length (E.flatMap evC)
 lo:Bw≤g
 led:∀x∈L,LC w x.1 x.2 C
 pos:0<L.length∧L.length≤6
 ev:EC E C
 sum:C 0+C 1+C 2+C 3+C 4+C 5=E.length
 c0:∀k,k<6→0≤C k
theorem WM.fresh {L:List (Nat×LG)}{E:List EV}(h:WM w Bw g L E C)(u:Below w.heap.size w w'):WM w' Bw g L E C:=by
 obtain⟨la,lc,O,U,I,J,M⟩:=h.row;exact {h with
  row:=⟨la,lc,O,U,ae u I I.lt,cD J fun b j => u.block b (World.ownsRow.lt J b j).2,cD M fun b j => u.block b (World.ownsRow.lt M b j).2⟩
  led:=fun x Z=>(h.led x Z).fresh u}
abbrev Iw :List TypeId:=[46,82,35]
theorem LM.keepW {l:LG}(h:LM w B p l)(j:Keep Iw B' w w'):LM w' B p l :=
 {h with
  cl:=j.blk h.cl (.inr dc)
  nd:=gh h.nd j dc
  gr:=gh h.gr j dc
  tm:=h.tm.keep j dc dc
  rq:=fun k u => (h.rq k u).imp fun a=>Exists.imp fun c C=>⟨C.1,gh C.2 j dc⟩}
theorem LC.keepW {l:LG}(h:LC w p l C)(u:Keep Iw B' w w'):LC w' p l C:=⟨h.lm.imp fun _ j=>j.keepW u,h.gi,h.le⟩
theorem qp (h:K (pA b (o+0)) w):ai Q 46 (pA b o) 0 K w:=aH kr h
theorem EK (h:K (pA b (o+1)) w):ai Q 46 (pA b o) 1 K w:=aH kr h
theorem ZL :(Tryz.prog.info? 82).map (fun i=>(i.zero,i.size,i.bytes))=some (some (.pointer none),1,8):=by kernel_rfl
theorem zfd {l:LG}(j:GI l 0)(u:LM w B p l)(h:l.s.V=List.replicate 6 0):LC w p l fun _=>0:=by
 have e:∀k,l.s.V.getD k 0=0:=by
  intro k;rw[h,List.getD_eq_getElem?_getD,List.getElem?_replicate];split<;>rfl
 exact⟨⟨B,u⟩,j.mono oo,fun k _=>by rw[e];exact Int.le_refl _⟩
theorem WD (h1:1≤n)(h6:n≤6)(h:∀(w':World) g L,WM w' w.heap.size g L [] (fun _=>0)→L.length=n→Below w.heap.size w w'→K (pA g 0) w'):call Q 7 #[ci (n:Nat)] K w:=by
 refine ak (goK func7) (I6 ?_);refine dl (vs:=[nh,nh]) kr ?_;refine br fun w1 hw b1 s1=>?_;have hw:=cZ hw
 refine Gn (Inv:=fun i wr=>∃(L:List (Nat×LG)) (la:Option Addr) (lc:Nat),i=ci (L.length:Nat)∧L.length≤n∧blk wr w.heap.size 46 [.slice la L.length lc,nh]∧wr.ownsRow w.heap.size 82 1 (.slice la L.length lc) L.length (L.flatMap ptC)∧(∀x∈L,LC wr x.1 x.2 fun _=>0)∧Below w.heap.size w wr) (μ:=fun i _=>n-(intOf i).toNat) ⟨[],none,0,rfl,by simp,hw,World.ownsRow_nil _ _ _ _,by simp,b1⟩ ?_
 rintro _ dd w2 mm ⟨L,la,lc,rfl,hL,Z,C,O,j⟩ ap;refine aK ?_;by_cases az:L.length<n
 ·refine ax oo ?_;refine zdz h1 h6 fun w3 p l hl hg hV _ b3=>?_;refine bu <|bv ?_;have aa:=ae b3 Z Z.lt;have U:=cD C fun b hb=>b3.block b (World.ownsRow.lt C b hb).2;have J:=j.trans (b3.mono j.size);refine aj <|qp <|lK (v:=.slice la L.length lc) aa rfl ?_
  refine oG (vs:=[pA p 0]) underlying43 (s:=1) kr kr oo rfl sm sm sm (by simp[Value.cells]) fun w4 h4 b4 s4=>?_;have h4:blk w4 w3.heap.size 82 (ptC (p,l)):=by simpa[Value.cells,ptC]using h4
  have I:=cD U fun b hb=>b4.block b (World.ownsRow.lt U b hb).2;have av:=ae b4 aa aa.lt;have M:=J.trans (b4.mono J.size);obtain⟨ii,an,hz,ar,am⟩:=info_parts ZL;refine uP (base:=w.heap.size) (enc:=ptC) (x:=(p,l)) underlying43 an hz ar am rfl oo Es I h4 (by simp[ptC,Value.oneCell']) oo oo M.size fun a5 c5 w5 al ag b5 _=>?_
  have ad:=fJ av I dc ag;refine aj <|qp ?_;refine cB kf ad sm rfl fun w6 af o6=>?_;have af:blk w6 w.heap.size 46 [.slice a5 (L.length+1) c5,nh]:=af;refine aM oo oo ?_;have u:(L++[(p,l)]).length=L.length+1:=by simp
  have k6:Keep Iw w.heap.size w4 w6:=(Keep.grown ag I sm oA).trans (o6.keep ad sm oA);refine⟨⟨L++[(p,l)],a5,c5,by rw[u];exact ivS,by omega,by rw[u];exact af,by rw[u];exact eM al ad dc o6,?_,bE (M.trans b5) o6 oA⟩,?_⟩
  ·intro x hx;rcases List.mem_append.1 hx with hh|hh
   ·exact(((O x hh).fresh b3).fresh b4).keepW k6
   ·rw[mS hh];exact((zfd hg hl hV).fresh b4).keepW k6
  ·rw[ap];show n-((L.length:Int)+1).toNat<n-((L.length:Nat):Int).toNat;omega
 ·refine ao oo <|Gp ?_;refine h w2 _ L ⟨⟨la,lc,none,0,Z,C,World.ownsRow_nil _ _ _ _⟩,Nat.le_refl _,O,by omega,fun e he=>absurd he sm,rfl,fun _ _=>Int.le_refl _⟩ oo j
structure AC where
 who:Int
 meet:Bool
 other:Int
 kind:Int
 node:Int
 to:Int
 am:Int
 req:Int
 of':Int
def acC (x:AC):List Value:=[kv8 x.who,.bool x.meet,kv8 x.other,kv8 x.kind,kv8 x.node,kv8 x.to,.int .u16 x.am,kv8 x.req,kv8 x.of']
def LJ (x:AC):Prop:=(0≤x.who∧x.who≤255)∧(0≤x.other∧x.other≤255)∧(0≤x.node∧x.node≤255)
theorem IJ (h:K (pA b (o+0)) w):ai Q 30 (pA b o) 0 K w:=aH kr h
theorem Zb (h:K (pA b (o+1)) w):ai Q 30 (pA b o) 1 K w:=aH kr h
theorem Zc (h:K (pA b (o+2)) w):ai Q 30 (pA b o) 2 K w:=aH kr h
theorem NL (h:K (pA b (o+3)) w):ai Q 30 (pA b o) 3 K w:=aH kr h
theorem Td (h:K (pA b (o+4)) w):ai Q 30 (pA b o) 4 K w:=aH kr h
theorem Te (h:K (pA b (o+5)) w):ai Q 30 (pA b o) 5 K w:=aH kr h
theorem EH (h:K (pA b (o+6)) w):ai Q 30 (pA b o) 6 K w:=aH kr h
theorem Tf (h:K (pA b (o+7)) w):ai Q 30 (pA b o) 7 K w:=aH kr h
theorem Zd (h:K (pA b (o+8)) w):ai Q 30 (pA b o) 8 K w:=aH kr h
section
variable {w:World}{K:KV}
structure QC (o:EV→Prop) (nd:Int):Prop where
 n:∀{e:EV},o e→o {e with n:=nd}
 a:∀{e:EV} {v:Int},o e→o {e with a:=v}
 t:∀{e:EV} {v:Int},o e→o {e with t:=v}
 r:∀{e:EV} {v:Int},o e→o {e with r:=IntKind.u64.wrap v}
 f:∀{e:EV} {v:Int},o e→o {e with f:=IntKind.u64.wrap v}
structure EVS (w0 w:World) (x:AC) (o:EV→Prop) (e:EV) (xb tb eb:Nat):Prop where
 x3:blk w xb 30 (acC x)
 t4:∃zs:List Value,blk w tb 35 zs∧zs.length=14
 ev:blk w eb 35 (evC e)
 eo:o e
 bel:Below w0.heap.size w0 w
 lo:w0.heap.size≤tb∧w0.heap.size≤eb∧tb≠eb
theorem EVS.st {x:AC}{o:EV→Prop}{e e':EV}{v:Value}(g:EVS w0 w x o e b tb eb)(Z:v.oneCell'=true)(U:∀w,(sizeOf t).run Q w=.ok 1 w)(M:k<14)(I:(evC e).set k v=evC e')(O:o e→o e')(h:∀w',EVS w0 w' x o e' b tb eb→K undef w'):sto Q t (pA eb k) v K w:=by
 obtain⟨zs,hz,j⟩:=g.t4;refine cB U g.ev M Z fun w1 C u=>?_;rw[I]at C;exact h w1 ⟨u.blk g.x3 (fun J=>g.x3.ne g.ev dc J),⟨zs,u.blk hz g.lo.2.2,j⟩,C,O g.eo,bE g.bel u g.lo.2.1,g.lo⟩
theorem GG {x:AC}{o:EV→Prop}{e:EV}(g:EVS w0 w x o e b tb eb)(J:V0=pA tb 0)(M:W0=pA eb 0)(h:∀w' e',o e'→Below w0.heap.size w0 w'→K (.agg (evC e').toArray) w'):aY K ((eH V0 W0 zf)) w:=by
 subst J M;refine CZ <|ldA (n:=14) (vs:=evC e) underlying35 rfl kr g.ev rfl rfl ?_;obtain⟨U,u,C⟩:=g.t4;refine ip (n:=14) (vs:=evC e) kr rfl u oo (sY _) fun O j I=>?_;refine SN (vs:=evC e) underlying35 rfl kr j (by rw[List.take_zero,List.nil_append,List.drop_of_length_le oo,List.append_nil]) ?_;exact h O e g.eo (bE g.bel I g.lo.1)
theorem zaS {x:AC}{o:EV→Prop}{nd:Int}{e:EV}(g:EVS w0 w x o e b tb eb)(q3:V0=pA b 0)(q4:W0=pA tb 0)(q7:X0=pA eb 0)(q8:Y0=u6 nd)(aa:LJ x)(j:QC o nd)(h:∀w' e',o e'→Below w0.heap.size w0 w'→K (.agg (evC e').toArray) w'):eJ K ((nD V0 W0 X0 Y0 zf)) w:=by
 subst q3 q4 q7 q8;refine CY <|mh <|lK (v:=kv8 e.k) g.ev rfl <|CV <|aO ?_;by_cases C:e.k=1
 ·refine ax C <|Td <|lK (v:=kv8 x.node) g.x3 rfl <|AJ oo <|aO <|CW ?_;refine ze (fun Z=>?_) (fun Z=>?_)
  ·refine dR ?_;refine g.st (e':={e with n:=nd}) rfl kf dc rfl j.n fun u g=>?_;refine uk <|EH <|lK (v:=.int .u16 x.am) g.x3 rfl <|bX underlying28 underlying2 <|du ?_;refine g.st (e':={ ({e with n:=nd}:EV)with a:=IntKind.i64.wrap x.am}) rfl kf dc rfl j.a fun u g=>?_;exact GG g rfl rfl h
  ·refine uk <|EH <|lK (v:=.int .u16 x.am) g.x3 rfl <|bX underlying28 underlying2 <|du ?_;refine g.st (e':={e with a:=IntKind.i64.wrap x.am}) rfl kf dc rfl j.a fun u g=>?_;exact GG g rfl rfl h
 refine ao C <|aO ?_;by_cases I:e.k=2
 ·refine ax I <|dR ?_;refine g.st (e':={e with n:=nd}) rfl kf dc rfl j.n fun u g=>?_;refine EH <|lK (v:=.int .u16 x.am) g.x3 rfl <|bX underlying28 underlying2 <|iW <|du ?_;refine g.st (e':={ ({e with n:=nd}:EV)with a:=IntKind.i64.wrap (IntKind.i64.wrap x.am+1)}) rfl kf dc rfl j.a fun u g=>?_;exact GG g rfl rfl h
 refine ao I <|aO ?_;by_cases J:e.k=3
 ·refine ax J <|dR ?_;refine g.st (e':={e with n:=nd}) rfl kf dc rfl j.n fun u g=>?_;refine EH <|lK (v:=.int .u16 x.am) g.x3 rfl <|bX underlying28 underlying2 <|iW <|du ?_;refine g.st (e':={ ({e with n:=nd}:EV)with a:=IntKind.i64.wrap (IntKind.i64.wrap x.am+1)}) rfl kf dc rfl j.a fun u g=>?_
  refine Tf <|lK (v:=kv8 x.req) g.x3 rfl <|bX underlying5 underlying31 <|iW <|gw ?_;refine g.st (e':={ ({ ({e with n:=nd}:EV)with a:=IntKind.i64.wrap (IntKind.i64.wrap x.am+1)}:EV)with r:=IntKind.u64.wrap (IntKind.u64.wrap x.req+1)}) rfl kf dc rfl j.r fun u g=>?_;exact GG g rfl rfl h
 refine ao J <|aO ?_;by_cases M:e.k=4
 ·refine ax M <|Tf <|lK (v:=kv8 x.req) g.x3 rfl <|bX underlying5 underlying31 <|iW <|gw ?_;refine g.st (e':={e with r:=IntKind.u64.wrap (IntKind.u64.wrap x.req+1)}) rfl kf dc rfl j.r fun u g=>?_;refine Zd <|lK (v:=kv8 x.of') g.x3 rfl <|bX underlying5 underlying31 <|iW <|py ?_
  refine g.st (e':={ ({e with r:=IntKind.u64.wrap (IntKind.u64.wrap x.req+1)}:EV)with f:=IntKind.u64.wrap (IntKind.u64.wrap x.of'+1)}) rfl kf dc rfl j.f fun u g=>?_;exact GG g rfl rfl h
 refine ao M <|aO <|CX ?_;by_cases O:e.k=5
 ·refine ax O <|dR ?_;refine g.st (e':={e with n:=nd}) rfl kf dc rfl j.n fun u g=>?_;refine EH <|lK (v:=.int .u16 x.am) g.x3 rfl <|bX underlying28 underlying2 <|iW <|du ?_;refine g.st (e':={ ({e with n:=nd}:EV)with a:=IntKind.i64.wrap (IntKind.i64.wrap x.am+1)}) rfl kf dc rfl j.a fun u g=>?_
  refine Te <|lK (v:=kv8 x.to) g.x3 rfl <|bX underlying5 underlying3 <|AJ oo <|iW <|gO ?_;refine g.st (e':={ ({ ({e with n:=nd}:EV)with a:=IntKind.i64.wrap (IntKind.i64.wrap x.am+1)}:EV)with t:=IntKind.i64.wrap (1+(IntKind.i64.wrap x.to).tmod 6)}) rfl kf dc rfl j.t fun u g=>?_;exact GG g rfl rfl h
 refine ao O <|aO ?_;by_cases U:e.k=6
 ·refine ax U <|Te <|lK (v:=kv8 x.to) g.x3 rfl <|bX underlying5 underlying3 <|AJ oo <|iW <|gO ?_;refine g.st (e':={e with t:=IntKind.i64.wrap (1+(IntKind.i64.wrap x.to).tmod 6)}) rfl kf dc rfl j.t fun u g=>?_;exact GG g rfl rfl h
 refine ao U ?_;exact GG g rfl rfl h
end
theorem zet {x:AC}{o:EV→Prop}{e:EV}{l:LG}(g:EVS w0 w x o e b tb eb)(U:LC w p l C)(M:C 0+C 1+C 2+C 3+C 4+C 5≤900)(hc:∀nd:Int,0≤nd→nd<18446744073709551616→QC o nd)(q6:X0=pA p 0)(q3:V0=pA b 0)(q4:W0=pA tb 0)(q7:Y0=pA eb 0)(I:LJ x)(h:∀w' e',o e'→Below w0.heap.size w0 w'→K (.agg (evC e').toArray) w'):jd K ((qB V0 W0 X0 Y0 zf)) w:=by
 subst q3 q4 q7 q6;obtain⟨B,u⟩:=U.lm;have af:=U.gi.nn;have hs:=U.sum M;refine CT <|aj <|bf <|dS <|lK (v:=.slice l.s.na l.s.nodes.length l.s.nc) u.cl u.cN <|bh underlying55 <|bO <|CU ?_;by_cases O:(0:Int)<(l.s.nodes.length:Nat)
 ·refine ax O ?_;have u:=u.drew;have g:EVS w0 w.drew x o e b tb eb:=⟨g.x3.drew,g.t4,g.ev.drew,g.eo,g.bel.drew,g.lo⟩
  obtain⟨i,hi⟩:∃i:Nat,i=(x.node%(l.s.nodes.length:Nat)).toNat:=⟨_,rfl⟩
  have aa:0≤x.node%((l.s.nodes.length:Nat):Int):=Int.emod_nonneg _ oo;have ad:x.node%((l.s.nodes.length:Nat):Int)<(l.s.nodes.length:Nat):=Int.emod_lt_of_pos _ O;have J:i<l.s.nodes.length:=by omega
  have hx:l.s.nodes[i]? = some l.s.nodes[i]:=gE J;generalize l.s.nodes[i]=y at hx;obtain⟨gn,Z,ha,op⟩:=d9 u.nd oo;have c0:Z[i*56+0]? = some (u6 y.id):=op.cell fR rfl hx (show 0<56 by omega)
  refine ac (fun _=>aj) <|ac (fun _=>bf) <|ac (fun _=>dS) <|ac (v:=.slice l.s.na l.s.nodes.length l.s.nc) (fun _=>lK u.cl u.cN) <|ac (fun _=>Td) <|ac (v:=kv8 x.node) (fun _=>lK g.x3 rfl) <|ac (v:=ci x.node) (fun K j=>bX underlying5 underlying3 (by rw[eU (by have:=I.2.2;omega) (by have:=I.2.2;omega)];exact j)) <|ac (fun _=>aj) <|ac (fun _=>bf) <|ac (fun _=>dS) <|ac (v:=.slice l.s.na l.s.nodes.length l.s.nc) (fun _=>lK u.cl u.cN) <|ac (fun _=>bh underlying55) <|ac (v:=ci ((i:Nat):Int)) (fun K j=>Ct I.2.2.1 O (by rw[show x.node%((l.s.nodes.length:Nat):Int)=(i:Nat)by omega];exact j)) <|ac (v:=pA gn (i*56)) (fun _=>qV ha underlying55 kf J) <|ac (fun _=>NY) <|ac (v:=u6 y.id) (fun _=>lK op.blk c0) ?_
  obtain⟨i0,i1⟩:=U.gi.ib y (mO hx);exact zaS g rfl rfl rfl rfl I (hc _ i0 i1) h
 ·refine ao O ?_;exact zaS (nd:=0) g rfl rfl rfl rfl I (hc 0 oo oo) h
theorem z64 :0≤(0:Int)∧(0:Int)<M64:=by decide
def evQ (x:AC)(n:Nat)(e:EV):Prop:=e.o=x.who%(n:Nat)+1∧e.k=IntKind.u8.wrap (1+x.kind.tmod 7)∧uJ e
theorem zdc {x:AC}{nd:Int}(j:0≤nd)(u:nd<18446744073709551616):QC (evQ x n) nd :=
 have w:∀v:Int,0≤IntKind.u64.wrap v∧IntKind.u64.wrap v<18446744073709551616:=fun v=>by rw[eu];omega
 ⟨fun h=>⟨h.1,h.2.1,h.2.2.d,⟨j,u⟩,h.2.2.r,h.2.2.f⟩,fun h=>⟨h.1,h.2.1,h.2.2.d,h.2.2.n,h.2.2.r,h.2.2.f⟩,fun h=>⟨h.1,h.2.1,h.2.2.d,h.2.2.n,h.2.2.r,h.2.2.f⟩,fun h=>⟨h.1,h.2.1,h.2.2.d,h.2.2.n,w _,h.2.2.f⟩,fun h=>⟨h.1,h.2.1,h.2.2.d,h.2.2.n,h.2.2.r,w _⟩⟩
theorem zbF {L:List (Nat×LG)}{E:List EV}{x:AC}(hw:WM w Bw g L E C)(hn:E.length≤900)(U:LJ x)(h:∀w' e,evQ x L.length e→Below w.heap.size w w'→K (.agg (evC e).toArray) w'):call Q 26 #[pA g 0,.agg (acC x).toArray] K w:=by
 refine ak (goK func26) (Fo ?_);refine br fun w1 Z b1 s1=>?_;have Z:=cZ Z
 refine df (z:=.agg (evC ⟨0,0,0,0,0,0,0,0,0,0,0,0,0,0⟩).toArray) kr fun w2 J b2 s2=>?_;have J:=cZ J
 rw[s1]at J ⊢;have az:=(ae b2 Z Z.lt).drew;have J:=J.drew;have af:Below w.heap.size w w2.drew:=(b1.trans (b2.mono oo)).drew;have ar:=hw.fresh af;obtain⟨la,lc,ea,ec,av,ap,_⟩:=ar.row;have hp:=hw.pos;obtain⟨i,hi⟩:∃i:Nat,i=(x.who%(L.length:Nat)).toNat:=⟨_,rfl⟩
 have a1:0≤x.who%((L.length:Nat):Int):=Int.emod_nonneg _ oo;have a2:x.who%((L.length:Nat):Int)<(L.length:Nat):=Int.emod_lt_of_pos _ oo;have an:i<L.length:=by omega
 have O:L[i]? = some L[i]:=gE an;generalize L[i]=pl at O;have ad:=ar.led pl (mO O);obtain⟨B,u⟩:=ad.lm;obtain⟨gl,aS,ha,op⟩:=d9 ap oo;have c0:aS[i*1]? = some (pA pl.1 0):=by
  have:=op.cell Es rfl O (show 0<1 by omega)
  simpa[ptC]using this
 refine ac (fun _=>IJ) <|ac (v:=kv8 x.who) (fun _=>lK az rfl) <|ac (v:=ci x.who) (fun K j=>bX underlying5 underlying3 (by rw[eU (by have:=U.1;omega) (by have:=U.1;omega)];exact j)) <|ac (fun _=>aj) <|ac (fun _=>qp) <|ac (v:=.slice la L.length lc) (fun _=>lK av rfl) <|ac (fun _=>bh underlying43) <|ac (v:=ci ((i:Nat):Int)) (fun K j=>Ct U.1.1 oo (by rw[show x.who%((L.length:Nat):Int)=(i:Nat)by omega];exact j)) <|aj <|qp <|lK (v:=.slice la L.length lc) av rfl <|qV (s:=1) ha underlying43 kf an <|lK (v:=pA pl.1 0) op.blk c0 ?_
 have u:=u.drew;have M:=az.drew;obtain⟨v0,v1,v2,v3,v4,v5,al⟩:=sR u.v6;have am:i<6:=by omega
 refine au (fun y=>blk y pl.1 90 (lgC pl.2)∧blk y w.heap.size 30 (acC x)) ⟨u.cl,M⟩ <|ab (v:=ci ((i:Nat)+1:Int)) (fun y I _=>aM oo oo) <|ab (fun y I _=>aj) <|ab (fun y I _=>bf) <|ab (fun y I _=>qo) <|ab (fun y I _=>ixV rfl am) <|ab (v:=u6 (pl.2.s.V.getD i 0)) (fun y I _=>lK I.1 (by rw[show 0+0+12+i=12+i by omega];exact u.cV am)) <|ab (fun y I _=>iW) <|ab (fun y I _=>aj) <|ab (fun y I _=>bf) <|ab (fun y I _=>qo) <|ab (v:=.agg (([v0,v1,v2,v3,v4,v5]:List Int).map u6).toArray) (fun y I _=>ldA (n:=6) (vs:=([v0,v1,v2,v3,v4,v5]:List Int).map u6) underlying33 rfl kr I.1 (by rw[←al];exact u.cutV) rfl) <|ab (fun y I _=>NL) <|ab (v:=kv8 x.kind) (fun y I _=>lK I.2 rfl) <|ab (fun y I _=>AJ oo) <|ab (fun y I _=>iW) ?_
 refine ab (v:=.agg (evC ⟨(i:Nat)+1,IntKind.u64.wrap (pl.2.s.V.getD i 0+1),v0,v1,v2,v3,v4,v5,IntKind.u8.wrap (1+x.kind.tmod 7),0,0,0,0,0⟩).toArray) (fun y I _=>dl kr) ?_;refine df (z:=.agg (evC ⟨0,0,0,0,0,0,0,0,0,0,0,0,0,0⟩).toArray) kr fun w3 h3 b3 s3=>?_;have h3:=cZ h3
 refine aC ⟨ae b3 u.cl u.cl.lt,ae b3 M M.lt⟩ ?_;refine ip (n:=14) (vs:=evC ⟨(i:Nat)+1,IntKind.u64.wrap (pl.2.s.V.getD i 0+1),v0,v1,v2,v3,v4,v5,IntKind.u8.wrap (1+x.kind.tmod 7),0,0,0,0,0⟩) kr rfl h3 (by show 0+14≤14;omega) (sY _) fun w4 h4 o4=>?_
 have h4:blk w4 w2.drew.drew.heap.size 35 (evC ⟨(i:Nat)+1,IntKind.u64.wrap (pl.2.s.V.getD i 0+1),v0,v1,v2,v3,v4,v5,IntKind.u8.wrap (1+x.kind.tmod 7),0,0,0,0,0⟩):=h4;have B4:Below w2.drew.drew.heap.size w2.drew.drew w4:=bE b3 o4 oA;have aa:Below w.heap.size w w4:=af.drew.trans (B4.mono af.size);have sz:w2.drew.drew.heap.size=w.heap.size+2:=by show w2.heap.size=_;omega
 have a0:∀v∈[v0,v1,v2,v3,v4,v5],0≤v:=fun v hv=>by
  rw[←al]at hv;obtain⟨k,hk,rfl⟩:=List.mem_iff_getElem.1 hv
  have:=(ad.gi.vb k (by have:=u.v6;omega)).1
  rwa[List.getD_eq_getElem?_getD,gE hk]at this
 have gg:EVS w w4 x (evQ x L.length) ⟨(i:Nat)+1,IntKind.u64.wrap (pl.2.s.V.getD i 0+1),v0,v1,v2,v3,v4,v5,IntKind.u8.wrap (1+x.kind.tmod 7),0,0,0,0,0⟩ w.heap.size (w.heap.size+1) w2.drew.drew.heap.size :=
  ⟨ae B4 M M.lt,⟨_,ae B4 J.drew J.drew.lt,rfl⟩,h4,⟨by show ((i:Nat):Int)+1=_;omega,rfl,a0,z64,z64,z64⟩,aa,⟨by omega,by omega,by omega⟩⟩
 have ag:=(hw.led pl (mO O)).fresh aa;exact zet gg ag (by rw[hw.sum];omega) (fun nd h0 h1=>zdc h0 h1) rfl rfl rfl rfl U h
theorem LC.up {l:LG}{C':Nat→Int}(h:LC w p l C)(u:∀k,k<6→C k≤C' k):LC w p l C':=⟨h.lm,h.gi,fun k j=>Int.le_trans (h.le k j) (u k j)⟩
theorem zbg {L:List (Nat×LG)}{l':LG}(U:blk w g 46 [.slice (some ⟨b,0,none⟩) L.length c,.slice a n B])(I:Opn w Bw 82 1 L.length c b cs (L.flatMap ptC))(aa:w.ownsRow Bw 35 14 (.slice a n B) n xs)(M:∀x∈L,LC w x.1 x.2 C)(ad:LC w k l' C)(hi:i<L.length)(ho:o=i*1)(h:∀w',blk w' g 46 [.slice (some ⟨b,0,none⟩) (L.set i (k,l')).length c,.slice a n B]→w'.ownsRow Bw 82 1 (.slice (some ⟨b,0,none⟩) (L.set i (k,l')).length c) (L.set i (k,l')).length ((L.set i (k,l')).flatMap ptC)→w'.ownsRow Bw 35 14 (.slice a n B) n xs →
   (∀x∈L.set i (k,l'),LC w' x.1 x.2 C)→Keep Iw Bw w w'→Oth b w w'→K undef w'):sto Q 82 (pA b o) (pA k 0) K w:=by
 subst ho;have hx:L[i]? = some L[i]:=gE hi;have h2:L.length*1≤c*1:=Nat.mul_le_mul_right _ I.nc;have ag:=I.len;refine cB kf I.blk oo rfl fun w' hb Z=>?_;have O:=I.set1 (x':=(k,l')) (v:=pA k 0) (j:=0) Es rfl hx oo rfl (by simpa using hb);have hk:Keep Iw Bw w w':=Z.keep I.blk sm I.lo
 have u:(L.set i (k,l')).length=L.length:=List.length_set ..;refine h w' (by rw[u];exact Z.blk U (fun J=>U.ne I.blk dc J)) (by rw[u];exact Opn.own O) (eM aa I.blk dc Z) (fun x af=>?_) hk Z;rcases List.mem_or_eq_of_mem_set af with J|J
 ·exact(M x J).keepW hk
 ·rw[J];exact ad.keepW hk
theorem ZI :(Tryz.prog.info? 35).map (fun i=>(i.zero,i.size,i.bytes))=some (some (.agg (evC ⟨0,0,0,0,0,0,0,0,0,0,0,0,0,0⟩).toArray),14,112):=by kernel_rfl
theorem WO {e:EV}(u:blk w tb 35 cs)(C:cs.length=14)(h:∀w',Oth tb w w'→K (.agg (evC e).toArray) w'):sto Q 35 (pA tb 0) (.agg (evC e).toArray) (fun _t w=>aV Q [(some 35,pA tb 0)] K w) w:=by
 refine ip (n:=14) (vs:=evC e) kr rfl u oo (sY _) fun J j I=>?_;refine SN (vs:=evC e) underlying35 rfl kr j (by rw[List.take_zero,List.nil_append,List.drop_of_length_le oo,List.append_nil]) ?_;exact h J I
theorem zer {L:List (Nat×LG)}{E:List EV}{e:EV}(av:blk w g 46 [.slice (some ⟨c,0,none⟩) L.length o,.slice a E.length B])(af:w.ownsRow Bw 82 1 (.slice (some ⟨c,0,none⟩) L.length o) L.length (L.flatMap ptC))(a0:w.ownsRow Bw 35 14 (.slice a E.length B) E.length (E.flatMap evC))(a4:∀x∈L,LC w x.1 x.2 C)(a8:EC E C)(he:1≤e.o∧e.o≤6∧e.s≤C (e.o-1).toNat)(a6:C 0+C 1+C 2+C 3+C 4+C 5=(E.length:Nat)+1)(bb:∀k,k<6→0≤C k)(a5:0<L.length∧L.length≤6)(hn:E.length≤900)(hB:Bw≤w.heap.size)(hg:Bw≤g)(am:blk w eb 35 (evC e))(hz:blk w tb 35 cs)(bp:cs.length=14)(al:∀k,(Value.slice a E.length B).ownBlock=some k→k≠eb∧k≠tb)(bs:tb≠eb)(bn:Bw≤tb)(q0:V0=pA g 0)(q4:W0=pA tb 0)(q6:X0=pA eb 0)(h:∀w',WM w' Bw g L (E++[e]) C→Below Bw w w'→K (.agg (evC e).toArray) w'):ks K ((tf V0 W0 X0 zf)) w:=by
 subst q0 q4 q6;refine Gr <|au (fun y=>blk y g 46 [.slice (some ⟨c,0,none⟩) L.length o,.slice a E.length B]∧blk y eb 35 (evC e)) ⟨av.drew,am.drew⟩ <|ab (fun y hy _=>aj) <|ab (fun y hy _=>EK) <|ab (v:=.slice a E.length B) (fun y hy _=>lK hy.1 rfl) <|ab (v:=.agg (evC e).toArray) (fun y hy _=>ldA (n:=14) (vs:=evC e) underlying35 rfl kr hy.2 rfl rfl) ?_
 refine oG (vs:=[.agg (evC e).toArray]) underlying44 (s:=14) kr kr oo rfl sm sm sm (by simp[Value.cells,HJ]) fun w2 h2 b2 s2=>?_;have h2:=cZ h2
 have ag:=ae b2 av.drew av.drew.lt;have O:=ae b2 am.drew am.drew.lt;have az:=ae b2 hz.drew hz.drew.lt;have ap:w2.ownsRow Bw 82 1 (.slice (some ⟨c,0,none⟩) L.length o) L.length (L.flatMap ptC):=cD af fun b hb=>b2.block b (World.ownsRow.lt af b hb).2
 have I:w2.ownsRow Bw 35 14 (.slice a E.length B) E.length (E.flatMap evC):=cD a0 fun b hb=>b2.block b (World.ownsRow.lt a0 b hb).2;have D:Below w.heap.size w w2:=(Below.refl _ w).drew.trans b2;have an:∀x∈L,LC w2 x.1 x.2 C:=fun x hx=>(a4 x hx).fresh D;refine aC ⟨ag,O⟩ ?_;obtain⟨ii,bd,bq,bk,a9⟩:=info_parts ZI
 refine uP (base:=Bw) (x:=e) underlying44 bd bq bk a9 rfl oo HJ I h2 (sY _) oo oo (Nat.le_trans hB D.size) fun a3 c3 w3 a1 U b3 bi=>?_;have j:=fJ ag I dc U;have ar:=wj ap I dc U;have ad:blk w3 eb 35 (evC e):=by
  unfold Go.Proofs.YtkfgimlaijifaaaGreatDoor.blk;rw[U.block _ O.lt (fun u=>(al eb u.symm).1 rfl)];exact O
 have a7:blk w3 tb 35 cs:=by
  unfold Go.Proofs.YtkfgimlaijifaaaGreatDoor.blk;rw[U.block _ az.lt (fun u=>(al tb u.symm).2 rfl)];exact az
 have k3:Keep Iw Bw w2 w3:=Keep.grown U I sm oA;refine au (fun _=>True) trivial <|ab (fun y hy _=>aj) <|ab (fun y hy _=>EK) ?_;refine cB kf j sm rfl fun w4 J o4=>?_;have J:blk w4 g 46 [.slice (some ⟨c,0,none⟩) L.length o,.slice a3 (E.length+1) c3]:=J;have aS:blk w4 eb 35 (evC e):=o4.blk ad (fun u=>ad.ne j dc u)
 have aa:blk w4 tb 35 cs:=o4.blk a7 (fun u=>a7.ne j dc u);have k4:Keep Iw Bw w2 w4:=k3.trans (o4.keep j sm hg);refine ldA (n:=14) (vs:=evC e) underlying35 rfl kr aS rfl rfl ?_;have be:∀k,(Value.slice a3 (E.length+1) c3).ownBlock=some k→k≠tb:=by
  intro k hk;rcases bi with u|u
  ·rw[u]at hk;exact(al k hk).2
  ·rw[u]at hk;cases hk;have:=az.lt;omega
 refine WO aa bp fun w5 o5=>?_;have k5:Keep Iw Bw w2 w5:=k4.trans (o5.keep aa sm bn);have a2:=eM a1 j dc o4;have Z:(E++[e]).length=E.length+1:=by simp
 refine h w5 ⟨⟨some ⟨c,0,none⟩,o,a3,c3,by rw[Z];exact o5.blk J (fun u=>J.ne aa dc u),eM (eM ar j dc o4) aa dc o5,by rw[Z];exact cD a2 fun k hk=>o5.other k (be k hk)⟩,hg,fun x hx=>(an x hx).keepW k5,a5,?_,by rw[Z,a6];push_cast;rfl,bb⟩ ((D.mono hB).trans (k5.below (Nat.le_trans hB D.size)));intro y hy
 rcases List.mem_append.1 hy with u|u
 ·exact a8 y u
 ·rw[mS u];exact he
def upC (C:Nat→Int)(i:Nat):Nat→Int:=fun k=>if k=i then C k+1 else C k
theorem Qs :∀k,k<6→C k≤upC C i k:=by intro k _;unfold upC;split<;>omega
theorem zcG (hi:i<6):upC C i 0+upC C i 1+upC C i 2+upC C i 3+upC C i 4+upC C i 5=C 0+C 1+C 2+C 3+C 4+C 5+1:=by
 match i,hi with
 | 0,_=>simp[upC];omega
 | 1,_=>simp[upC];omega
 | 2,_=>simp[upC];omega
 | 3,_=>simp[upC];omega
 | 4,_=>simp[upC];omega
 | 5,_=>simp[upC];omega
theorem WM.oth {L:List (Nat×LG)}{E:List EV}(h:WM w Bw g L E C)(Z:blk w tb 35 cs)(U:Bw≤tb)(hd:∀(j:Option Addr) (u:Nat) I J,blk w g 46 [.slice I L.length J,.slice j E.length u]→(Value.slice j E.length u).ownBlock≠some tb)(o:Oth tb w w'):WM w' Bw g L E C:=by
 obtain⟨I,J,j,u,M,h2,h3⟩:=h.row;exact {h with
  row:=⟨I,J,j,u,o.blk M (fun O=>M.ne Z dc O),eM h2 Z dc o,cD h3 fun k hk=>o.other k (fun O=>hd j u I J M (by rw[hk,O]))⟩
  led:=fun x hx=>(h.led x hx).keepW (o.keep (T:=Iw) Z sm U)}
theorem zeq {L:List (Nat×LG)}{E:List EV}{e:EV}(Z:WM w0 Bw g L E C)(av:Below w0.heap.size w0 w)(M:Bw≤w0.heap.size)(ap:w0.heap.size≤tb)(b4:w0.heap.size≤eb)(bi:tb≠eb)(hn:E.length≤800)(hi:i<L.length)(b5:e.o=(i:Nat)+1)(al:blk w eb 35 (evC e))(hz:blk w tb 35 cs)(a7:cs.length=14)(q0:V0=pA g 0)(q4:W0=pA tb 0)(q5:X0=ci (i:Nat))(q6:Y0=pA eb 0)(h:∀w' L' E' C' e',WM w' Bw g L' E' C'→L'.length=L.length→E'.length≤E.length+1→(E'=E∨bJ e=true∧E'=E++[e])→Below Bw w0 w'→K (.agg (evC e').toArray) w'):kq K ((te V0 W0 X0 Y0 zf)) w:=by
 subst q0 q4 q5 q6;have a4:=Z.pos;have am:i<6:=by omega
 refine Gq ?_;have bk:=(Z.fresh av).fresh (Below.refl _ w).drew;obtain⟨la,lc,ea,ec,g1,g2,g3⟩:=Z.row;have I:=av.drew;have r1:=ae I g1 g1.lt;have r2:w.drew.ownsRow Bw 82 1 (.slice la L.length lc) L.length (L.flatMap ptC):=cD g2 fun k u=>I.block k (World.ownsRow.lt g2 k u).2
 have r3:w.drew.ownsRow Bw 35 14 (.slice ea E.length ec) E.length (E.flatMap evC):=cD g3 fun k u=>I.block k (World.ownsRow.lt g3 k u).2;have ag:∀k,(Value.slice ea E.length ec).ownBlock=some k→k<w0.heap.size:=fun k u=>(World.ownsRow.lt g3 k u).2;obtain⟨gl,az,rfl,op⟩:=d9 r2 oo;have an:L[i]? = some L[i]:=gE hi;generalize L[i]=pl at an
 have J:=bk.led pl (mO an);obtain⟨B,a2⟩:=J.lm;have c0:az[i*1]? = some (pA pl.1 0):=by
  have:=op.cell Es rfl an (show 0<1 by omega)
  simpa[ptC]using this
 refine au (fun y=>blk y g 46 [.slice (some ⟨gl,0,none⟩) L.length lc,.slice ea E.length ec]∧blk y gl 82 az∧blk y eb 35 (evC e)) ⟨r1,op.blk,al.drew⟩ <|ab (fun y U _=>aj) <|ab (fun y U _=>qp) <|ab (v:=.slice (some ⟨gl,0,none⟩) L.length lc) (fun y U _=>lK U.1 rfl) <|ab (v:=pA gl (i*1)) (fun y U _=>qV (s:=1) rfl underlying43 kf hi) <|ab (v:=pA pl.1 0) (fun y U _=>lK U.2.1 c0) <|ab (v:=.agg (evC e).toArray) (fun y U _=>ldA (n:=14) (vs:=evC e) underlying35 rfl kr U.2.2 rfl rfl) ?_
 refine TH a2 J.gi (J.sum (by rw[Z.sum];omega)) fun w2 B2 p2 l2 f be bb a9 b2=>?_;have j:Below w0.heap.size w0 w2:=I.trans (b2.mono I.size);have a6:=Z.fresh j;have ad:=ae b2 al.drew al.drew.lt;have aa:=ae b2 hz.drew hz.drew.lt;refine au (fun _=>True) trivial <|ab (fun y U _=>bu) <|ab (fun y U _=>bv) <|aX ?_;by_cases hf:f≠0
 ·refine ax hf <|dl (vs:=evC ⟨0,0,0,0,0,0,0,0,0,0,0,0,0,0⟩) kr ?_;refine WO aa a7 fun w3 o3=>?_;refine h w3 L E C _ (a6.oth aa (Nat.le_trans M ap) (fun bt b0 b6 b7 hb hh=>?_) o3) rfl oo (.inl rfl) (bE (j.mono M) o3 (Nat.le_trans M ap));have e1:=ae j g1 g1.lt;unfold Go.Proofs.YtkfgimlaijifaaaGreatDoor.blk at e1 hb;rw[e1]at hb
  simp only[Option.some.injEq,Obj.cells.injEq,Array.mk.injEq,List.cons.injEq,Value.slice.injEq]at hb;obtain⟨⟨_,⟨rfl,_,rfl⟩,_⟩,_⟩:=hb
  have:=ag tb hh
  omega
 refine ao hf ?_;have hf:f=0:=by simpa using hf
 obtain⟨a3,o1,o6,os,oV⟩:bJ e=true∧1≤e.o∧e.o≤6∧e.s=pl.2.s.V.getD (e.o-1).toNat 0+1∧l2.s.V=pl.2.s.V.set (e.o-1).toNat e.s:=by
  rcases a9 with⟨hh,_⟩|⟨_,a⟩
  ·exact absurd hf hh
  ·exact a
 have ei:(e.o-1).toNat=i:=by omega
 rw[ei]at os oV;have a0:e.s≤upC C i i:=by
  have:=J.le i am
  unfold upC;rw[if_pos rfl];omega
 have a1:LC w2 p2 l2 (upC C i):=⟨⟨B2,be⟩,bb,fun k u=>by
  rw[oV,pC (by rw[a2.v6];exact am)];split
  ·rename_i hh;rw[hh];exact a0
  ·exact Int.le_trans (J.le k u) (Qs k u)⟩
 have a8:=ae j g1 g1.lt;have bn:w2.ownsRow Bw 82 1 (.slice (some ⟨gl,0,none⟩) L.length lc) L.length (L.flatMap ptC):=cD g2 fun k u=>j.block k (World.ownsRow.lt g2 k u).2;have bp:w2.ownsRow Bw 35 14 (.slice ea E.length ec) E.length (E.flatMap evC):=cD g3 fun k u=>j.block k (World.ownsRow.lt g3 k u).2
 refine aj <|qp <|lK (v:=.slice (some ⟨gl,0,none⟩) L.length lc) a8 rfl <|qV (s:=1) rfl underlying43 kf hi ?_;obtain⟨b3,bs,bd,ar⟩:=d9 bn oo;cases bd;refine zbg a8 ar bp (fun x hx=>(a6.led x hx).up Qs) a1 hi rfl fun w3 s1 s2 s3 s4 k3 o3=>?_;have af:(L.set i (p2,l2)).length=L.length:=List.length_set ..
 have aS:eb≠gl:=fun hh=>absurd (xv ad (hh ▸ ar.blk)) dc;have a5:tb≠gl:=fun hh=>absurd (xv aa (hh ▸ ar.blk)) dc;have bq:Bw≤w2.heap.size:=Nat.le_trans M j.size;have B3:Below Bw w0 w3:=(j.mono M).trans (k3.below bq)
 refine zer s1 s2 s3 s4 (fun y U=>⟨(Z.ev y U).1,(Z.ev y U).2.1,?_⟩) ⟨o1,o6,by rw[ei];exact a0⟩ (by rw[zcG am,Z.sum]) (fun k u=>Int.le_trans (Z.c0 k u) (Qs k u)) (by rw[af];exact a4) oo (Nat.le_trans M B3.size) Z.lo (o3.blk ad aS) (o3.blk aa a5) a7 (fun k u=>⟨by have:=ag k u;omega,by have:=ag k u;omega⟩) bi (Nat.le_trans M ap) rfl rfl rfl fun w' hw b=>h w' _ _ _ _ hw af sm (.inr ⟨a3,rfl⟩) (B3.trans b)
 have h6:=Z.ev y U;exact Int.le_trans h6.2.2 (Qs _ oo)
theorem zf6 {L:List (Nat×LG)}{E:List EV}{x:AC}(h0:WM w Bw g L E C)(aS:Bw≤w.heap.size)(hn:E.length≤800)(Z:LJ x)(h:∀w' L' E' C' e',WM w' Bw g L' E' C'→L'.length=L.length→E'.length≤E.length+1→(E'=E∨∃e,evQ x L.length e∧bJ e=true∧E'=E++[e])→Below Bw w w'→K (.agg (evC e').toArray) w'):call Q 8 #[pA g 0,.agg (acC x).toArray] K w:=by
 refine ak (goK func8) (I7 ?_);refine br fun w1 ap b1 s1=>?_;have ap:=cZ ap
 refine df (z:=.agg (evC ⟨0,0,0,0,0,0,0,0,0,0,0,0,0,0⟩).toArray) kr fun w2 O b2 s2=>?_;have O:=cZ O
 rw[s1]at O ⊢;have ar:=(ae b2 ap ap.lt).drew;have O:=O.drew;have ag:Below w.heap.size w w2.drew:=(b1.trans (b2.mono oo)).drew;have bb:=h0.fresh ag;obtain⟨la,lc,ea,ec,J,af,aa⟩:=bb.row;obtain⟨cs,cI,b9,cc,g1,g2,g3⟩:=h0.row;have hp:=h0.pos;obtain⟨i,hi⟩:∃i:Nat,i=(x.who%(L.length:Nat)).toNat:=⟨_,rfl⟩
 have cn:0≤x.who%((L.length:Nat):Int):=Int.emod_nonneg _ oo;have cp:x.who%((L.length:Nat):Int)<(L.length:Nat):=Int.emod_lt_of_pos _ oo;have ad:i<L.length:=by omega
 refine ac (fun _=>IJ) <|ac (v:=kv8 x.who) (fun _=>lK ar rfl) <|ac (v:=ci x.who) (fun K u=>bX underlying5 underlying3 (by rw[eU (by have:=Z.1;omega) (by have:=Z.1;omega)];exact u)) <|ac (fun _=>aj) <|ac (fun _=>qp) <|ac (v:=.slice la L.length lc) (fun _=>lK J rfl) <|ac (fun _=>bh underlying43) <|ac (v:=ci ((i:Nat):Int)) (fun K u=>Ct Z.1.1 oo (by rw[show x.who%((L.length:Nat):Int)=(i:Nat)by omega];exact u)) <|Zb <|lK (v:=.bool x.meet) ar rfl ?_
 refine ze (fun hd=>?_) (fun hd=>?_)
 ·obtain⟨j,hj⟩:∃j:Nat,j=(x.other%(L.length:Nat)).toNat:=⟨_,rfl⟩
  have cg:0≤x.other%((L.length:Nat):Int):=Int.emod_nonneg _ oo;have ch:x.other%((L.length:Nat):Int)<(L.length:Nat):=Int.emod_lt_of_pos _ oo;have bi:j<L.length:=by omega
  have a0:L[i]? = some L[i]:=gE ad;generalize L[i]=pl at a0;have a6:L[j]? = some L[j]:=gE bi;generalize L[j]=ql at a6;have J:=J.drew;have bd:=ar.drew;have bk:=bb.fresh (Below.refl _ w2.drew).drew;have af:w2.drew.drew.ownsRow Bw 82 1 (.slice la L.length lc) L.length (L.flatMap ptC):=af
  have aa:w2.drew.drew.ownsRow Bw 35 14 (.slice ea E.length ec) E.length (E.flatMap evC):=aa;have U:=ag.drew;have a7:=bk.led pl (mO a0);have a8:=bk.led ql (mO a6);obtain⟨Bj,M⟩:=a8.lm;obtain⟨gl,al,rfl,op⟩:=d9 af oo;have bq:al[i*1]? = some (pA pl.1 0):=by
   have:=op.cell Es rfl a0 (show 0<1 by omega)
   simpa[ptC]using this
  have cj:al[j*1]? = some (pA ql.1 0):=by
   have:=op.cell Es rfl a6 (show 0<1 by omega)
   simpa[ptC]using this
  refine au (fun y=>blk y g 46 [.slice (some ⟨gl,0,none⟩) L.length lc,.slice ea E.length ec]∧blk y gl 82 al∧blk y w.heap.size 30 (acC x)∧blk y ql.1 90 (lgC ql.2)) ⟨J,op.blk,bd,M.cl⟩ <|ab (fun y I _=>aj) <|ab (fun y I _=>qp) <|ab (v:=.slice (some ⟨gl,0,none⟩) L.length lc) (fun y I _=>lK I.1 rfl) <|ab (fun y I _=>aj) <|ab (fun y I _=>qp) <|ab (v:=.slice (some ⟨gl,0,none⟩) L.length lc) (fun y I _=>lK I.1 rfl) <|ab (v:=pA gl (i*1)) (fun y I _=>qV (s:=1) rfl underlying43 kf ad) <|ab (v:=pA pl.1 0) (fun y I _=>lK I.2.1 bq) <|ab (fun y I _=>aj) <|ab (fun y I _=>EK) <|ab (v:=.slice ea E.length ec) (fun y I _=>lK I.1 rfl) <|ab (fun y I _=>aj) <|ab (fun y I _=>qp) <|ab (v:=.slice (some ⟨gl,0,none⟩) L.length lc) (fun y I _=>lK I.1 rfl) <|ab (fun y I _=>Zc) ?_
  refine ab (v:=kv8 x.other) (fun y I _=>lK I.2.2.1 rfl) <|ab (v:=ci x.other) (fun y I K u=>bX underlying5 underlying3 (by rw[eU (by have:=Z.2.1;omega) (by have:=Z.2.1;omega)];exact u)) <|ab (fun y I _=>aj) <|ab (fun y I _=>qp) <|ab (v:=.slice (some ⟨gl,0,none⟩) L.length lc) (fun y I _=>lK I.1 rfl) <|ab (fun y I _=>bh underlying43) <|ab (v:=ci ((j:Nat):Int)) (fun y I K u=>Ct Z.2.1.1 oo (by rw[show x.other%((L.length:Nat):Int)=(j:Nat)by omega];exact u)) <|ab (v:=pA gl (j*1)) (fun y I _=>qV (s:=1) rfl underlying43 kf bi) <|ab (v:=pA ql.1 0) (fun y I _=>lK I.2.1 cj) <|ab (fun y I _=>aj) <|ab (fun y I _=>bf) <|ab (fun y I _=>qo) <|ab (v:=.agg (ql.2.s.V.map u6).toArray) (fun y I _=>ldA (n:=6) (vs:=ql.2.s.V.map u6) underlying33 rfl kr I.2.2.2 M.cutV (by simp[M.v6])) ?_
  refine zc0 a7 (by rw[h0.sum];omega) h0.ev rfl oo M.v6 aa fun w4 p4 l4 bs b4=>?_;have az:Below w.heap.size w w4:=U.trans (b4.mono U.size);have b0:=h0.fresh az;refine aC ⟨ae b4 J J.lt,ae b4 op.blk op.blk.lt,ae b4 bd bd.lt,ae b4 M.cl M.cl.lt⟩ <|ab (v:=pA gl (i*1)) (fun y I _=>qV (s:=1) rfl underlying43 kf ad) ?_
  have bn:Opn w4 Bw 82 1 L.length lc gl al (L.flatMap ptC):=⟨ae b4 op.blk op.blk.lt,op.lo,op.nc,op.cm,op.len,op.take,op.xl⟩
  have am:=ae b4 O.drew O.drew.lt;refine zbg (ae b4 J J.lt) bn (cD aa fun k hk=>b4.block k (World.ownsRow.lt aa k hk).2) b0.led bs ad rfl fun w5 be b6 b7 b8 k5 o5=>?_;have av:(L.set i (p4,l4)).length=L.length:=List.length_set ..;have bt:w.heap.size+1≠gl:=fun hh=>absurd (xv am (hh ▸ bn.blk)) dc;have an:=o5.blk am bt
  have b5:WM w5 Bw g (L.set i (p4,l4)) E C:=⟨⟨_,_,_,_,be,b6,b7⟩,h0.lo,b8,by rw[av];exact hp,h0.ev,h0.sum,h0.c0⟩
  have B5:Below Bw w w5:=(az.mono aS).trans (k5.below (Nat.le_trans aS az.size));refine dl (vs:=evC ⟨0,0,0,0,0,0,0,0,0,0,0,0,0,0⟩) kr ?_;refine WO an rfl fun w6 o6=>?_;refine h w6 _ E C _ (b5.oth an oo (fun ca ce cG cL hb hh=>?_) o6) av oo (.inl rfl) (bE B5 o6 oo);unfold Go.Proofs.YtkfgimlaijifaaaGreatDoor.blk at hb be;rw[be]at hb
  simp only[Option.some.injEq,Obj.cells.injEq,Array.mk.injEq,List.cons.injEq,Value.slice.injEq]at hb;obtain⟨⟨_,⟨rfl,_,rfl⟩,_⟩,_⟩:=hb;have e1:=ae U g1 g1.lt;unfold Go.Proofs.YtkfgimlaijifaaaGreatDoor.blk at e1 J;rw[e1]at J;simp only[Option.some.injEq,Obj.cells.injEq,Array.mk.injEq,List.cons.injEq,Value.slice.injEq]at J;obtain⟨⟨_,⟨rfl,_,rfl⟩,_⟩,_⟩:=J
  have:=(World.ownsRow.lt g3 _ hh).2
  omega
 ·refine ldA (n:=9) (vs:=acC x) underlying30 rfl kr ar rfl rfl ?_;refine zbF bb oo Z fun w3 e he b3=>?_;have U:Below w.heap.size w w3:=ag.trans (b3.mono ag.size);refine df (z:=.agg (evC ⟨0,0,0,0,0,0,0,0,0,0,0,0,0,0⟩).toArray) kr fun w4 h4 b4 s4=>?_;have h4:=cZ h4
  refine ip (n:=14) (vs:=evC e) kr rfl h4 (by show 0+14≤14;omega) (sY _) fun w5 h5 o5=>?_;have h5:blk w5 w3.heap.size 35 (evC e):=h5;have a9:=ae b3 O O.lt;have am:=ae b4 a9 a9.lt;have ck:=a9.lt;have an:=o5.blk am oo;have bp:Below w.heap.size w w5:=U.trans (bE (b4.mono U.size) o5 U.size)
  exact zeq h0 bp aS oo U.size oo hn ad (by rw[he.1];omega) h5 an rfl rfl rfl rfl rfl fun w' L' E' C' e' a1 a2 a3 a4 a5=>h w' L' E' C' e' a1 a2 a3 (a4.imp id fun a=>⟨e,he,a⟩) a5
structure AR (w:World) (a:Option Addr) (n c:Nat) (X:List AC):Prop where
 len:X.length=n
 some_:0<n→∃b o,a=some ⟨b,o,none⟩
 cell:∀(i:Nat) (x:AC),X[i]? = some x→∀b o,a=some ⟨b,o,none⟩→∀(j:Nat) (u:Value),(acC x)[j]? = some u→w.cell? ⟨b,o+i*9+j,none⟩=some u
 ok:∀x∈X,LJ x
theorem AR.bel {X:List AC}(h:AR w a n c X)(M:Below B w w')(I:w.heap.size≤B):AR w' a n c X :=
 ⟨h.len,h.some_,fun i x U b o J j u O=>by
  have:=h.cell i x U b o J j u O
  have C:=World.block_lt_of_cell? w _ this;rw[M.cell (p:=⟨b,o+i*9+j,none⟩) (Nat.lt_of_lt_of_le C I)];exact this,h.ok⟩
theorem zfa {X:List AC}{x:AC}(h:AR w a n c X)(I:a=some ⟨b,o,none⟩)(M:X[i]? = some x)(C:K (.agg (acC x).toArray) w):ld Q 30 (pA b (o+i*9)) K w :=
 PS (run_loadVar_mid w b (o+i*9) 30 (acC x) _ (fun j u J=>h.cell i x M b o I j u J) underlying30 rfl kr) C
end
end
end Go.Proofs.YtkfgimlaijifaaaGreatDoor
