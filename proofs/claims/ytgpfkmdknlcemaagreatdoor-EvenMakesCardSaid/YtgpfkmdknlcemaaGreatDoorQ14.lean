import Derived.Test.YtgpfkmdknlcemaaGreatDoorQ13
import Derived.Test.YtgpfkmdknlcemaaGreatDoorQ8
import Derived.Test.YtgpfkmdknlcemaaGreatDoorQ2
import Derived.Test.YtgpfkmdknlcemaaGreatDoorQ9
import Derived.Test.YtgpfkmdknlcemaaGreatDoorQ7
namespace Go.Proofs.YtgpfkmdknlcemaaGreatDoor
set_option maxRecDepth 100000
set_option maxHeartbeats 4000000
open Go.Proofs.Tryz
section
attribute [local irreducible] bin un conv call dC blt slc ai fld aU idx lkp eX jl eSt rng nxt ent ext alc box bld dl ld sto bo eS mkS ifc pick rdy wts aJ sti cond bM Gives ae fU gX cOp
section
open Go.RowKit
theorem JJ {N:List ND}{c i:Nat}{v:Int}{x:ND}(d:N.Pairwise (·.id < ·.id))(h:N[i]? = some x):N.set i {x with A:=x.A.set c (nA x.A c+v)} = N.map (dN [x.id] c v):=by
 have:=(JU (ids:=[]) (c:=c) (v:=v) d (by rw[vf];exact h) (by simp)).2
 rw[vf]at this;exact this
section
variable {w:World}{K:KV}{B p:Nat}{l:LG}
theorem JK {l0 e1 l2 e3 k_5 k_6 r7 f8 ad an M al am R ap av U ag I ar az X V j:Value}{zf:Nat→Value}{i rb:Nat}{x:ND}{A':List Int}{f:Int}(h:LM w B p l)(hB:B≤w.heap.size)(hx:l.s.nodes[i]? = some x)(d:A'.length=54)(hr:blk w rb 36 (A'.map iv))(q0:l0=.pointer (some ⟨p,0,none⟩))(q6:k_6=.int .i64 (i:Nat))(q7:r7=.pointer (some ⟨rb,0,none⟩))(q8:f8=.int .i64 f)(Z:∀w',f≠0→Below B w w'→K (.int .i64 f) w')(u:∀w',f=0→LM w' B p (zS l i {x with A:=A'})→Below B w w'→K (.int .i64 0) w'):gE K ((bQ l0 e1 l2 e3 k_5 k_6 r7 f8 ad an M al am R ap av U ag I ar az X V j zf)) w:=by
 subst q0 q6 q7 q8;refine wZ <|cW ?_;by_cases C:f≠0
 ·exact ay C (Z w C (Below.refl _ _))
 refine au C ?_;have h:=h.drew;have hr:=hr.drew;have hi:i<l.s.nodes.length:=(List.getElem?_eq_some_iff.1 hx).1;obtain⟨g,aS,ha,op⟩:=cY h.nd (by omega)
 refine aa (fun _=>aw) <|aa (fun _=>bq) <|aa (fun _=>dV) <|aa (v:=.slice l.s.na l.s.nodes.length l.s.nc) (fun _=>lK h.cl h.cN) <|aa (v:=.agg (A'.map iv).toArray) (fun _=>ldA (n:=54) (vs:=A'.map iv) underlying36 rfl (by kernel_rfl) hr (by rw[List.drop_zero,List.take_of_length_le (by simp[d])]) (by simp[d])) <|aa (v:=.pointer (some ⟨g,i*56,none⟩)) (fun _=>nK ha underlying27 (fun _=>by kernel_rfl) hi) <|aa (fun _=>ob) ?_
 refine Nf h hx d op ha rfl fun w' J o'=>?_;refine jo ?_;exact u w' (by simpa using C) J (bA (Below.refl _ w).drew o' op.lo)
theorem RY {e:EV}{m:Nat}(hl:LM w B p l)(hg:XI l m)(hm:m≤900)(hB:B≤w.heap.size)(U:eE e=true)(b8:gY l.s.V e=true)(b0:∀w',eM e (toP l)≠0→Below B w w'→K (.int .i64 (eM e (toP l))) w')(bW:∀w' l',eM e (toP l)=0→LM w' B p l'→toP l'=qZ e (toP l)→l'.T=tr l'.s.nodes→Below B w w'→K (.int .i64 0) w'):call Tryz.prog 55 #[.pointer (some ⟨p,0,none⟩),.agg (evC e).toArray] K w:=by
 obtain⟨a6,a4,b7,b6⟩:=gJ U;have ce:=TR U;obtain⟨q,hq⟩:∃q:Nat,q=(e.o-1).toNat:=⟨_,rfl⟩
 have am:q<6:=by omega
 have cc:=hg.n30;have a8:e.q=q:=hq.symm;refine aB (goK func55) (yS ?_);refine dc fun w1 he b1 s1=>?_;have he:blk w1 w.heap.size 54 (evC e):=by simpa[Value.cells]using he
 have R:=hl.fresh b1;have B1:Below B w w1:=b1.mono hB;have al:B≤w1.heap.size:=Nat.le_trans hB B1.size;have h:∀w',eM e (toP l)≠0→Below B w1 w'→K (.int .i64 (eM e (toP l))) w':=fun w' hv b=>b0 w' hv (B1.trans b);have C:∀w' l',eM e (toP l)=0→LM w' B p l'→toP l'=qZ e (toP l)→l'.T=tr l'.s.nodes→Below B w1 w'→K (.int .i64 0) w':=fun w' l' h0 h1 h2 h3 b=>bW w' l' h0 h1 h2 h3 (B1.trans b)
 refine mP <|lK (v:=kv8 e.k) he rfl <|wX <|bm ?_;by_cases k1:e.k=1
 ·refine ay k1 <|ldA (n:=14) (vs:=evC e) underlying54 rfl (by kernel_rfl) he rfl rfl ?_;exact PZ R hg k1 U b8 al ⟨a6,a4⟩ ⟨b7,b6⟩ h C
 refine au k1 <|bm ?_;by_cases k2:e.k=2
 ·refine ay k2 ?_;have M:eM e (toP l)=if bL (toP l).N e.n=false then 9 else if M47<nA (aN (toP l).N e.n) e.q+e.a then 6 else 0:=by unfold eM;rw[if_neg k1,if_pos k2]
  refine eO <|lK (v:=u6 e.n) he rfl <|DW R (by omega) ?_;cases hh:bL l.s.nodes e.n with
  | false =>
   rw[if_pos (show bL (toP l).N e.n=false from hh)]at M;rw[M]at h;rw[NY hh];refine aV ?_;exact ay (by omega) (h w1 (by decide) (Below.refl _ _))
  | true =>
  rw[if_neg (show ¬bL (toP l).N e.n=false from by rw[show bL (toP l).N e.n=true from hh];simp)]at M;obtain⟨x,Z,hi,X⟩:=DU hh;have a2:fdN l.s.nodes e.n=(posN l.s.nodes e.n:Nat):=by unfold fdN;rw[if_pos hi]
  rw[a2];generalize posN l.s.nodes e.n=i at Z hi;have a0:aN (toP l).N e.n=x.A:=by rw[←X];exact oN hg.pi.srt (List.mem_of_getElem? Z)
  rw[a0,a8]at M;refine aV <|au (by omega) ?_;have d:=R.drew;have j:=he.drew;have ag:=R.A54 x (List.mem_of_getElem? Z);obtain⟨g,be,ha,op⟩:=cY d.nd (by omega);have bt:=hg.pi.may x (List.mem_of_getElem? Z);have ca:=(kx.1 bt.1).g q am;have bi:=bt.2 q am;have a3:IntKind.i64.wrap (nA x.A q+e.a)=nA x.A q+e.a:=dP (by simp only[M47]at bi;omega) (by simp only[M47]at bi;omega)
  have bk:be[i*56+2+0+q]? = some (iv (nA x.A q)):=by
   have:=op.cell eZ rfl Z (show 2+q<56 by omega)
   rw[show i*56+2+0+q=i*56+(2+q)by omega,this,CL ag];unfold ndC;rw[show 2+q=(q+1)+1 by omega,List.getElem?_cons_succ,List.getElem?_cons_succ];exact pF (by omega)
  refine aa (fun _=>aw) <|aa (fun _=>bq) <|aa (fun _=>dV) <|aa (v:=.slice l.s.na l.s.nodes.length l.s.nc) (fun _=>lK d.cl d.cN) <|aa (fun _=>bS) <|aa (v:=iv e.o) (fun _=>lK j rfl) <|aa (v:=.int .i64 ((q:Nat):Int)) (fun K hK=>bg (by omega) (by omega) (by rw[show (e.o-1)=(q:Nat)by omega];exact hK)) <|aa (v:=.pointer (some ⟨g,i*56,none⟩)) (fun _=>nK ha underlying27 (fun _=>by kernel_rfl) hi) <|aa (fun _=>ob) <|aa (fun _=>rt) <|aa (fun _=>ixR rfl am) <|aa (v:=iv (nA x.A q)) (fun _=>lK op.blk bk) <|aa (fun _=>dQ) <|aa (v:=iv e.a) (fun _=>lK j rfl) <|aa (fun _=>kf) <|aa (fun _=>cB) ?_
  refine ui (fun hd=>?_) (fun hd=>?_)
  ·rw[a3]at hd;rw[if_pos (of_decide_eq_true hd)]at M;rw[M]at h;exact h _ (by decide) (Below.refl _ w1).drew
  rw[a3]at hd;rw[if_neg (of_decide_eq_false hd)]at M;have a9:=d.drew;have bb:=j.drew;have a7:Opn w1.drew.drew B 38 56 l.s.nodes.length l.s.nc g be (l.s.nodes.flatMap ndE):=⟨op.blk,op.lo,op.nc,op.cm,op.len,op.take,op.xl⟩
  refine aa (fun _=>aw) <|aa (fun _=>bq) <|aa (fun _=>dV) <|aa (v:=.slice l.s.na l.s.nodes.length l.s.nc) (fun _=>lK a9.cl a9.cN) <|aa (fun _=>bS) <|aa (v:=iv e.o) (fun _=>lK bb rfl) <|aa (v:=.int .i64 ((q:Nat):Int)) (fun K hK=>bg (by omega) (by omega) (by rw[show (e.o-1)=(q:Nat)by omega];exact hK)) <|aa (v:=.pointer (some ⟨g,i*56,none⟩)) (fun _=>nK ha underlying27 (fun _=>by kernel_rfl) hi) <|aa (fun _=>ob) <|aa (fun _=>rt) <|aa (fun _=>ixR rfl am) <|aa (v:=iv (nA x.A q)) (fun _=>lK a7.blk bk) <|aa (fun _=>dQ) <|aa (v:=iv e.a) (fun _=>lK bb rfl) <|aa (fun _=>kf) <|aa (v:=.pointer (some ⟨g,i*56,none⟩)) (fun _=>nK ha underlying27 (fun _=>by kernel_rfl) hi) ?_
  refine aa (fun _=>ob) <|aa (fun _=>rt) <|aa (fun _=>ixR rfl am) ?_;refine V5 (q:=q) a9 Z (by omega) a7 ha (by omega) fun w' ap o'=>?_;refine jo ?_;rw[a3]at ap;have hN:=JJ (N:=l.s.nodes) (c:=q) (v:=e.a) hg.pi.srt Z;have hP:toP (zS l i {x with A:=x.A.set q (nA x.A q+e.a)})=qZ e (toP l):=by
   have:qZ e (toP l)={toP l with N:=l.s.nodes.map (dN [e.n] q e.a)}:=by
    unfold qZ nop gop mG mH kw;rw[if_neg k1,if_pos k2,if_neg (by omega),if_neg (by omega),if_neg (by omega),if_neg (by omega),if_neg (by omega),a8];rfl
   rw[this, ←X, ←hN];rfl
  refine C w' _ M ap hP ?_ (bA (Below.refl _ w1).drew.drew o' a7.lo);show l.T=tr (l.s.nodes.set i _);rw[hN,AF fun y=>gu y];exact hg.t
 refine au k2 <|bm <|wY ?_;by_cases k3:e.k=3
 ·refine ay k3 <|ldA (n:=14) (vs:=evC e) underlying54 rfl (by kernel_rfl) he rfl rfl ?_;exact Qa R hg k3 hm al ⟨a6,a4⟩ (by omega) h C
 refine au k3 <|bm ?_;by_cases k4:e.k=4
 ·refine ay k4 <|ldA (n:=14) (vs:=evC e) underlying54 rfl (by kernel_rfl) he rfl rfl ?_;exact Qb R hg k4 hm al ⟨a6,a4⟩ h C
 refine au k4 <|bm ?_;by_cases k5:e.k=5
 ·refine ay k5 ?_;have M:eM e (toP l)=if bL (toP l).N e.n=false then 9 else if (toP l).I.getD (e.t-1).toNat false=false then 10 else (kh (aN (toP l).N e.n) e.o e.t e.a).2:=by unfold eM;rw[if_neg k1,if_neg k2,if_neg k3,if_neg k4,if_pos k5]
  have hT:1≤e.t∧e.t≤6:=by have:=pE U;omega
  refine eO <|lK (v:=u6 e.n) he rfl <|DW R (by omega) ?_;cases hh:bL l.s.nodes e.n with
  | false =>
   rw[if_pos (show bL (toP l).N e.n=false from hh)]at M;rw[M]at h;rw[NY hh];refine aV ?_;exact ay (by omega) (h w1 (by decide) (Below.refl _ _))
  | true =>
  rw[if_neg (show ¬bL (toP l).N e.n=false from by rw[show bL (toP l).N e.n=true from hh];simp)]at M;obtain⟨x,Z,hi,X⟩:=DU hh;have a2:fdN l.s.nodes e.n=(posN l.s.nodes e.n:Nat):=by unfold fdN;rw[if_pos hi]
  rw[a2];generalize posN l.s.nodes e.n=i at Z hi;have a0:aN (toP l).N e.n=x.A:=by rw[←X];exact oN hg.pi.srt (List.mem_of_getElem? Z)
  rw[a0]at M;refine aV <|au (by omega) ?_;have d:=R.drew;have j:=he.drew;refine aa (fun _=>ic) <|aa (v:=iv e.t) (fun _=>lK j rfl) <|aa (fun _=>aV) ?_;have t1 : ¬e.t<1:=by omega
  refine dZ t1 <|aa (fun _=>ic) <|aa (v:=iv e.t) (fun _=>lK j rfl) <|aa (fun _=>cB) <|aa (fun _=>bE t1) ?_;have t2 : ¬6<e.t:=by omega
  refine dZ t2 ?_;obtain⟨u,hu⟩:∃u:Nat,u=(e.t-1).toNat:=⟨_,rfl⟩
  have ar:u<6:=by omega
  refine aa (fun _=>ic) <|aa (v:=iv e.t) (fun _=>lK j rfl) <|aa (v:=.int .i64 ((u:Nat):Int)) (fun K hK=>bg (by omega) (by omega) (by rw[show (e.t-1)=(u:Nat)by omega];exact hK)) <|aa (fun _=>aw) <|aa (fun _=>bq) <|aa (fun _=>yr) <|aa (fun _=>ixB rfl ar) <|aa (v:=.bool (l.s.I.getD u false)) (fun _=>lK d.cl (by rw[show 0+0+0+u=u by omega];exact d.cI ar)) <|aa (fun _=>eh) <|aa (fun _=>bE t2) ?_
  refine ui (fun hd=>?_) (fun hd=>?_)
  ·rw[if_pos (show (toP l).I.getD (e.t-1).toNat false=false from by rw[←hu];show l.s.I.getD u false=false;simpa using hd)]at M;rw[M]at h;exact h _ (by decide) (Below.refl _ w1).drew
  rw[if_neg (show ¬(toP l).I.getD (e.t-1).toNat false=false from by rw[←hu];show ¬l.s.I.getD u false=false;simpa using hd)]at M;rw[M]at h;have d:=d.drew;have j:=j.drew;have ag:=R.A54 x (List.mem_of_getElem? Z);obtain⟨gn,cn,b9,av⟩:=cY d.nd (by omega);have bd:(cn.drop (i*56+2)).take 54=x.A.map iv:=by
   have:=av.elem eZ rfl Z
   rw[←List.drop_drop];have h3:((cn.drop (i*56)).take 56).drop 2=((cn.drop (i*56)).drop 2).take 54:=by rw[List.drop_take]
   rw[←h3,this];unfold ndE;rw[Ay ag];rfl
  refine aE (fun z=>blk z p 79 (lgC l)∧blk z gn 38 cn∧blk z w.heap.size 54 (evC e)) ⟨d.cl,av.blk,j⟩ <|ab (fun z J _=>aw) <|ab (fun z J _=>bq) <|ab (fun z J _=>dV) <|ab (v:=.slice l.s.na l.s.nodes.length l.s.nc) (fun z J _=>lK J.1 d.cN) <|ab (v:=.pointer (some ⟨gn,i*56,none⟩)) (fun z J _=>nK b9 underlying27 (fun _=>by kernel_rfl) hi) <|ab (fun z J _=>ob) <|ab (v:=.agg (x.A.map iv).toArray) (fun z J _=>ldA (n:=54) (vs:=x.A.map iv) underlying36 rfl (by kernel_rfl) J.2.1 bd (by simp[ag])) <|ab (fun z J _=>bS) <|ab (v:=iv e.o) (fun z J _=>lK J.2.2 rfl) <|ab (fun z J _=>ic) <|ab (v:=iv e.t) (fun z J _=>lK J.2.2 rfl) <|ab (fun z J _=>dQ) <|ab (v:=iv e.a) (fun z J _=>lK J.2.2 rfl) ?_
  have az:((kh x.A e.o e.t e.a).1).length=54:=NU ag;have b5:=KI (A:=x.A) (o:=e.o) (t:=e.t) (a:=e.a);have bv:(kh x.A e.o e.t e.a).2=0→∀w',LM w' B p (zS l i {x with A:=(kh x.A e.o e.t e.a).1})→Below B w1 w'→K (.int .i64 0) w':=fun h0 w' ap b=>by
   rw[b5 h0]at ap;have hN:=JJ (N:=l.s.nodes) (c:=18+6*(e.o-1).toNat+(e.t-1).toNat) (v:=e.a) hg.pi.srt Z;refine C w' _ (M.trans h0) ap ?_ ?_ b
   ·have:qZ e (toP l)={toP l with N:=l.s.nodes.map (dN [e.n] (18+6*(e.o-1).toNat+(e.t-1).toNat) e.a)}:=by
     unfold qZ nop gop mG mH kw;rw[if_neg k1,if_neg k2,if_neg k3,if_neg k4,if_pos k5,if_neg k3,if_neg k4,if_neg (by omega),if_neg (by omega),if_neg (by omega)];rfl
    rw[this, ←X, ←hN];rfl
   ·show l.T=tr (l.s.nodes.set i _);rw[hN,AF fun y=>gu y];exact hg.t
  have D2:Below B w1 w1.drew.drew:=(Below.refl _ w1).drew.drew;refine⟨?_,?_⟩
  ·refine KY ag (by omega) fun w3 b3=>?_;refine aE (fun _=>True) trivial <|ab (fun z J _=>eB) <|ab (fun z J _=>eC) ?_;refine dH (z:=.agg (z54.map iv).toArray) (by kernel_rfl) fun w4 h4 b4 s4=>?_;have h4:blk w4 w3.heap.size 36 (z54.map iv):=by simpa[Value.cells]using h4
   refine aO trivial ?_;refine iz (n:=54) (vs:=(kh x.A e.o e.t e.a).1.map iv) (by kernel_rfl) (by simp[az]) h4 (by show 0+54≤54;omega) (uB _) fun w5 h5 o5=>?_;refine aO trivial ?_;have aS:blk w5 w3.heap.size 36 ((kh x.A e.o e.t e.a).1.map iv):=by
    rw[List.take_zero,List.nil_append,List.drop_of_length_le (by show 54≤0+54;omega),List.append_nil]at h5;exact h5
   have B5:Below w1.drew.drew.heap.size w1.drew.drew w5:=b3.trans (bA (b4.mono b3.size) o5 b3.size);have ad:Below B w1 w5:=D2.trans (B5.mono al);exact JK (d.fresh B5) (Nat.le_trans al ad.size) Z az aS rfl rfl rfl rfl (fun w' hv b=>h w' hv (ad.trans b)) (fun w' h0 h1 b=>bv h0 w' h1 (ad.trans b))
  ·refine dH (z:=.agg (z54.map iv).toArray) (by kernel_rfl) fun w3 h3 b3 s3=>?_;have h3:blk w3 w1.drew.drew.heap.size 36 (z54.map iv):=by simpa[Value.cells]using h3
   refine aO ⟨af b3 d.cl d.cl.lt,af b3 av.blk av.blk.lt,af b3 j j.lt⟩ ?_;refine KY ag (by omega) fun w4 b4=>?_;have h4:=af b4 h3 h3.lt;refine aE (fun _=>True) trivial <|ab (fun z J _=>eB) <|ab (fun z J _=>eC) ?_;refine iz (n:=54) (vs:=(kh x.A e.o e.t e.a).1.map iv) (by kernel_rfl) (by simp[az]) h4 (by show 0+54≤54;omega) (uB _) fun w5 h5 o5=>?_;refine aO trivial ?_
   have aS:blk w5 w1.drew.drew.heap.size 36 ((kh x.A e.o e.t e.a).1.map iv):=by
    rw[List.take_zero,List.nil_append,List.drop_of_length_le (by show 54≤0+54;omega),List.append_nil]at h5;exact h5
   have B5:Below w1.drew.drew.heap.size w1.drew.drew w5:=bA (b3.trans (b4.mono b3.size)) o5 (Nat.le_refl _);have ad:Below B w1 w5:=D2.trans (B5.mono al);exact JK (d.fresh B5) (Nat.le_trans al ad.size) Z az aS rfl rfl rfl rfl (fun w' hv b=>h w' hv (ad.trans b)) (fun w' h0 h1 b=>bv h0 w' h1 (ad.trans b))
 refine au k5 <|bm <|xa ?_;have d:=R.drew;have j:=he.drew;have D1:Below B w1 w1.drew:=(Below.refl _ w1).drew;have M:eM e (toP l)=0:=by unfold eM;rw[if_neg k1,if_neg k2,if_neg k3,if_neg k4,if_neg k5]
 have hF:qZ e (toP l)={toP l with I:=mG e l.s.I,L:=mH e l.s.L}:=by
  unfold qZ nop gop kw;rw[if_neg k1,if_neg k2,if_neg k3,if_neg k4,if_neg k5,if_neg k3,if_neg k4,if_neg (by omega)];rfl
 by_cases k6:e.k=6
 ·refine ay k6 ?_;obtain⟨t1,t2⟩:=TS U k6;obtain⟨u,hu⟩:∃u:Nat,u=(e.t-1).toNat:=⟨_,rfl⟩
  have ar:u<6:=by omega
  refine aa (fun _=>ic) <|aa (v:=iv e.t) (fun _=>lK j rfl) <|aa (v:=.int .i64 ((u:Nat):Int)) (fun K hK=>bg (by omega) (by omega) (by rw[show (e.t-1)=(u:Nat)by omega];exact hK)) <|aa (fun _=>aw) <|aa (fun _=>bq) <|aa (fun _=>yr) <|aa (fun _=>ixB rfl ar) ?_;refine dY (fun _=>by kernel_rfl) d.cl (by rw[d.ll];omega) rfl fun w3 an o3=>?_;rw[show 0+0+0+u=u by omega]at an;refine jo ?_
  exact C w3 _ M (d.setI ar an o3) (by rw[hF];unfold mG mH;rw[if_pos k6,if_neg (by omega), ←hu];rfl) hg.t (bA D1 o3 d.lo)
 refine au k6 <|bm ?_;by_cases k7:e.k=7
 ·refine ay k7 <|aa (fun _=>bS) <|aa (v:=iv e.o) (fun _=>lK j rfl) <|aa (v:=.int .i64 ((q:Nat):Int)) (fun K hK=>bg (by omega) (by omega) (by rw[show (e.o-1)=(q:Nat)by omega];exact hK)) <|aa (fun _=>aw) <|aa (fun _=>bq) <|aa (fun _=>FU) <|aa (fun _=>ixB rfl am) ?_;refine dY (fun _=>by kernel_rfl) d.cl (by rw[d.ll];omega) rfl fun w3 an o3=>?_;rw[show 0+0+6+q=6+q by omega]at an;refine jo ?_
  exact C w3 _ M (d.setL am an o3) (by rw[hF];unfold mG mH;rw[if_neg k6,if_pos k7,a8];rfl) hg.t (bA D1 o3 d.lo)
 refine au k7 <|jo ?_;exact absurd (pE U) (by omega)
end
end
section
open Go.RowKit
theorem EQ {x:GR}:∀{G:List GR},(ib x G).length=G.length+1
 | []=>rfl
 | y::G=>by
  unfold ib;split
  ·rfl
  ·rw[List.length_cons,EQ];rfl
theorem XI.apply {l l':LG}{e:EV}(h:XI l (sV l.s.V))(d:toP l'=ln e (toP l))(C:l'.T=tr l'.s.nodes):XI l' (sV l'.s.V):=by
 unfold ln at d;split at d
 ·rename_i h0;have ok:=(tV h.pi).1 h0;have J:=(pY ok.may).1;have u:l'.s.V=Df e l.s.V:=congrArg PL.V d;have U:l'.G=(gop e).ap l.G:=congrArg PL.G d;have X:l'.R=kw e l.R:=congrArg PL.R d;have I:sV l'.s.V=sV l.s.V+1:=by
   rw[u];exact TT h.pi.v6 (fun k j=>(h.pi.vb k j).1) J
  refine⟨d ▸ h.pi.eff ok,C,?_,fun k j=>?_⟩
  ·rw[I,U]
   have:=h.gn
   cases gop e with
   | ins x=>show (ib x l.G).length≤_;rw[EQ];omega
   | upd o q b=>show (l.G.map _).length≤_;rw[List.length_map];omega
   | non=>show l.G.length≤_;omega
  ·rw[I,X]
   have:=h.rn k j
   unfold kw;split
   ·rw[zU (by rw[show l.R.length=6 from h.pi.r6];exact J)];split
    ·rename_i hh;subst hh;rw[List.length_append];show (l.R.getD e.q []).length+1≤_;omega
    ·omega
   ·omega
 ·have u:l'.s.V=l.s.V:=congrArg PL.V d;have M:l'.s.nodes=l.s.nodes:=congrArg PL.N d;rw[u];exact h.eq d (by rw[C,M,h.t])
section
variable {w:World}{K:KV}{B p:Nat}{l:LG}
theorem JL {e:EV}(hl:LM w B p l)(hg:XI l (sV l.s.V))(hm:sV l.s.V≤900)(h:∀w' B' p' l',LM w' B' p' l'→XI l' (sV l'.s.V)→toP l'=ln e (toP l)→Below w.heap.size w w'→K (.tuple #[.pointer (some ⟨p',0,none⟩),.int .i64 (nM e (toP l))]) w'):call Tryz.prog 36 #[.pointer (some ⟨p,0,none⟩),.agg (evC e).toArray] K w:=by
 refine aB (goK func36) (xH ?_);refine dc fun w1 he b1 s1=>?_;have he:blk w1 w.heap.size 54 (evC e):=by simpa[Value.cells]using he
 have bt:=hl.fresh b1;have M:∀w',nM e (toP l)≠0→Below w.heap.size w w'→K (.tuple #[.pointer (some ⟨p,0,none⟩),.int .i64 (nM e (toP l))]) w':=fun w' hf b=>h w' B p l (hl.fresh b) hg (by unfold ln;rw[if_neg hf]) b;have al:=hg.pi.vb;refine ldA (n:=14) (vs:=evC e) underlying54 rfl (by kernel_rfl) he rfl rfl ?_;refine NF fun w2 b2=>?_;have B2:Below w.heap.size w w2:=b1.trans (b2.mono b1.size)
 have ar:=af b2 he he.lt;have X:=hl.fresh B2;refine eh ?_;cases d:eE e with
 | false =>
  rw[show nM e (toP l)=1 from by unfold nM;rw[if_pos d]]at M;exact bu (M w2 (by decide) B2)
 | true =>
 refine bw ?_;obtain⟨bi,be,bk,bd⟩:=gJ d;obtain⟨q,hq⟩:∃q:Nat,q=(e.o-1).toNat:=⟨_,rfl⟩
 have u:q<6:=by omega
 refine aE (fun y=>blk y p 79 (lgC l)∧blk y w.heap.size 54 (evC e)) ⟨X.cl.drew,ar.drew⟩ <|ab (fun y C _=>aw) <|ab (fun y C _=>bq) <|ab (fun y C _=>qf) <|ab (v:=.agg (l.s.V.map u6).toArray) (fun y C _=>ldA (n:=6) (vs:=l.s.V.map u6) underlying26 rfl (by kernel_rfl) C.1 X.cutV (by simp[X.v6])) <|ab (v:=.agg (evC e).toArray) (fun y C _=>ldA (n:=14) (vs:=evC e) underlying54 rfl (by kernel_rfl) C.2 rfl rfl) ?_
 refine TU X.v6 fun w3 b3=>?_;have B3:Below w.heap.size w w3:=B2.drew.trans (b3.mono B2.size);have an:=af b3 ar.drew ar.drew.lt;have ag:=hl.fresh B3;refine ui (fun hd=>?_) (fun hd=>?_)
 ·rw[show nM e (toP l)=14 from by unfold nM;rw[if_neg (by rw[d];simp),if_pos (show tt (toP l).V e=true from hd)]]at M;exact M w3 (by decide) B3
 have U:tt (toP l).V e=false:=hd
 refine aE (fun y=>blk y p 79 (lgC l)∧blk y w.heap.size 54 (evC e)) ⟨ag.cl.drew,an.drew⟩ <|ab (fun y C _=>aw) <|ab (fun y C _=>bq) <|ab (fun y C _=>qf) <|ab (v:=.agg (l.s.V.map u6).toArray) (fun y C _=>ldA (n:=6) (vs:=l.s.V.map u6) underlying26 rfl (by kernel_rfl) C.1 ag.cutV (by simp[ag.v6])) <|ab (v:=.agg (evC e).toArray) (fun y C _=>ldA (n:=14) (vs:=evC e) underlying54 rfl (by kernel_rfl) C.2 rfl rfl) ?_
 refine Sm ag.v6 (fun k hk=>⟨(al k hk).1,Int.lt_trans (al k hk).2 (by decide)⟩) fun w4 b4=>?_;have B4:Below w.heap.size w w4:=B3.drew.trans (b4.mono B3.size);have av:=af b4 an.drew an.drew.lt;have R:=hl.fresh B4;refine aE (fun _=>True) trivial <|ab (fun y C _=>eh) ?_;cases J:gY l.s.V e with
 | false =>
  rw[show nM e (toP l)=13 from by unfold nM;rw[if_neg (by rw[d];simp),if_neg (by rw[U];simp),if_pos (show gY (toP l).V e=false from J)]]at M;exact bu (M w4 (by decide) B4)
 | true =>
 refine bw ?_;have Z:nM e (toP l)=if l.s.I.getD q false=false∨l.s.L.getD q false=true then 10 else eM e (toP l):=by
  unfold nM;rw[if_neg (by rw[d];simp),if_neg (by rw[U];simp),if_neg (by rw[show gY (toP l).V e=true from J];simp),hq];rfl
 have am:e.s=l.s.V.getD q 0+1:=by
  unfold gY at J;simp only[Bool.and_eq_true,decide_eq_true_eq]at J;rw[hq];exact J.2.1
 refine bS <|lK (v:=iv e.o) av rfl <|bg (by omega) (by omega) ?_;have eq:e.o-1=(q:Nat):=by omega
 rw[eq];refine wh <|aw <|bq <|yr <|ixB rfl u <|lK (v:=.bool (l.s.I.getD q false)) R.cl (by rw[show 0+0+0+q=q by omega];exact R.cI u) <|eh ?_;cases hI:l.s.I.getD q false with
 | false =>
  refine fK <|db ?_;rw[if_pos (.inl hI)]at Z;rw[Z]at M;exact bu (M w4 (by decide) B4)
 | true =>
 refine nR <|aw <|bq <|FU <|ixB rfl u <|lK (v:=.bool (l.s.L.getD q false)) R.cl (by rw[show 0+0+6+q=6+q by omega];exact R.cL u) <|fm ?_;refine ui (fun hd=>?_) (fun hd=>?_)
 ·rw[if_pos (.inr hd)]at Z;rw[Z]at M;exact M w4 (by decide) B4
 rw[if_neg (fun hh=>hh.elim (fun h1=>by rw[hI]at h1;cases h1) fun h1=>by rw[hd]at h1;cases h1)]at Z;refine Sg R hg (by omega) fun w5 p5 l5 a8 ad a3 b5=>?_;have a9:=hg.eq ad a3;have aS:l5.s.V=l.s.V:=congrArg PL.V ad;have B5:Below w.heap.size w w5:=B4.trans (b5.mono B4.size);have a4:=af b5 av av.lt;refine ldA (n:=14) (vs:=evC e) underlying54 rfl (by kernel_rfl) a4 rfl rfl ?_
 refine RY a8 a9 hm b5.size d (by rw[aS];exact J) (fun w6 hv b6=>?_) (fun w6 l6 h0 j ap bb b6=>?_)
 ·refine pN <|cW <|ay hv ?_;rw[ad]at hv ⊢;rw[←Z]at hv ⊢;exact M w6 hv (B5.trans (b6.mono B4.size))
 ·refine pN <|cW <|au (by omega) ?_;have j:=j.drew;have B6:Below w.heap.size w w6.drew:=(B5.trans (b6.mono B4.size)).drew;have az:l6.s.V=l.s.V:=(congrArg PL.V ap).trans aS;have a7:l6.s.V.getD q 0=l.s.V.getD q 0:=by rw[az]
  rw[ad]at ap h0;refine aa (fun _=>aw) <|aa (fun _=>bq) <|aa (fun _=>qf) <|aa (fun _=>ixV rfl u) <|aa (v:=u6 (l6.s.V.getD q 0)) (fun _=>lK j.cl (by rw[show 0+0+12+q=12+q by omega];exact j.cV u)) <|aa (v:=u6 e.s) (fun K hK=>kf (by rw[hZ,a7, ←am,show e.s%18446744073709551616=e.s by omega];exact hK)) <|aa (fun _=>aw) <|aa (fun _=>bq) <|aa (fun _=>qf) <|aa (fun _=>ixV rfl u) ?_
  refine dY (fun _=>by kernel_rfl) j.cl (by rw[j.ll];omega) rfl fun w7 a2 o7=>?_;rw[show 0+0+12+q=12+q by omega]at a2;have a6:=j.setV u a2 o7;rw[h0]at Z;rw[Z]at h;have a0:toP {l6 with s:={l6.s with V:=l6.s.V.set q e.s} } = ln e (toP l):=by
   unfold ln;rw[if_pos Z];have e1:toP {l6 with s:={l6.s with V:=l6.s.V.set q e.s} } = {toP l6 with V:=l6.s.V.set q e.s}:=rfl;rw[e1,ap,az,am,hq];rfl
  exact h w7 _ p5 _ a6 (hg.apply a0 bb) a0 (bA B6 o7 (Nat.le_trans B4.size j.lo))
end
end
section
open Go.RowKit
structure LC (w:World) (p:Nat) (l:LG) (C:Nat→Int):Prop where
 lm:∃B,LM w B p l
 xi:XI l (sV l.s.V)
 le:∀k,k<6→l.s.V.getD k 0≤C k
theorem LC.fresh {w w':World}{p:Nat}{l:LG}{C:Nat→Int}(h:LC w p l C)(d:Below w.heap.size w w'):LC w' p l C:=⟨h.lm.imp fun _ hh=>hh.fresh d,h.xi,h.le⟩
theorem LC.sum {w:World}{p:Nat}{l:LG}{C:Nat→Int}(h:LC w p l C)(I:C 0+C 1+C 2+C 3+C 4+C 5≤900):sV l.s.V≤900:=by
 have h0:=h.le 0 (by omega);have J:=h.le 1 (by omega);have u:=h.le 2 (by omega);have d:=h.le 3 (by omega);have j:=h.le 4 (by omega);have M:=h.le 5 (by omega);unfold sV;omega
structure KL (w:World) (p:Nat) (l:LG) (C:Nat→Int) (n:Nat) (E:List EV) (l0:LG):Prop where
 lc:LC w p l C
 lk:LK n E (toP l)
 gr:∀k,l0.s.V.getD k 0≤l.s.V.getD k 0
theorem KL.fresh {w w':World}{p:Nat}{l l0:LG}{C:Nat→Int}{n:Nat}{E:List EV}(h:KL w p l C n E l0)(d:Below w.heap.size w w'):KL w' p l C n E l0:=⟨h.lc.fresh d,h.lk,h.gr⟩
theorem KL.apply {w w':World}{p J B:Nat}{l l' l0:LG}{C:Nat→Int}{n:Nat}{E:List EV}{e:EV}(h:KL w p l C n E l0)(hh:HistL n E)(X:e∈E)(U:e.s≤C (e.o-1).toNat)(R:LM w' B J l')(M:XI l' (sV l'.s.V))(j:toP l'=ln e (toP l)):KL w' J l' C n E l0:=by
 have I:LK n E (toP l'):=by rw[j];exact h.lk.apply hh X
 unfold ln at j;split at j
 ·rename_i h0;have ok:=(tV h.lc.xi.pi).1 h0;have a:=after h.lc.xi.pi ok;have d:l'.s.V=(eff e (toP l)).V:=congrArg PL.V j;have Z:=(pX ok.rdy).1;refine⟨⟨⟨B,R⟩,M,fun k I=>?_⟩,I,fun k=>?_⟩
  ·rw[d];by_cases u:k=e.q
   ·subst u;rw[a.Ve, ←Z];exact U
   ·rw[a.V _ u];exact h.lc.le k I
  ·rw[d]
   have:=h.gr k
   by_cases u:k=e.q
   ·subst u;rw[a.Ve];show l0.s.V.getD e.q 0≤l.s.V.getD e.q 0+1;omega
   ·rw[a.V _ u];exact this
 ·have d:l'.s.V=l.s.V:=congrArg PL.V j;exact⟨⟨⟨B,R⟩,M,by rw[d];exact h.lc.le⟩,I,by rw[d];exact h.gr⟩
def EC (E:List EV)(C:Nat→Int):Prop:=∀e∈E,1≤e.o∧e.o≤6∧e.s≤C (e.o-1).toNat
theorem xN (e:EV):(evC e).length=14:=rfl
section
variable {w:World}{K:KV}
theorem PH {l0 jp lP lb od i9:Value}{zf:Nat→Value}{B1:KE}{w0:World}{p r mb wb n c Ba:Nat}{a:Option Addr}{l:LG}{C:Nat→Int}{n0:Nat}{lz:LG}{E:List EV}{M W:List Int}(hh:HistL n0 E)(hl:KL w p l C n0 E lz)(hC:C 0+C 1+C 2+C 3+C 4+C 5≤900)(hE:EC E C)(hn:E.length=n)(a8:n≤100000)(hM:M.length=6)(hW:W.length=6)(hr:r≤100000)(a3:w.ownsRow Ba 54 14 (.slice a n c) n (E.flatMap evC))(ap:blk w mb 26 (M.map u6))(a4:blk w wb 26 (W.map u6))(a6:Below w0.heap.size w0 w)(q0:l0=.pointer (some ⟨p,0,none⟩))(q1:jp=.slice a n c)(q5:lP=.pointer (some ⟨mb,0,none⟩))(q7:lb=.int .i64 (r:Nat))(q8:od=.pointer (some ⟨wb,0,none⟩))(q9:i9=.int .i64 0)(az:∀(e:List Value) (w':World) U l',gd e 0=.pointer (some ⟨U,0,none⟩)→gd e 7=.int .i64 ((r+1:Nat):Int)→KL w' U l' C n0 E lz→w'.ownsRow Ba 54 14 (.slice a n c) n (E.flatMap evC)→blk w' mb 26 (M.map u6)→Below w0.heap.size w0 w'→B1 e w')(hK:∀(w':World) U l',KL w' U l' C n0 E lz→Below w0.heap.size w0 w'→K (.pointer (some ⟨U,0,none⟩)) w'):nj K B1 ((cZ l0 jp lP lb od i9 zf)) w:=by
 subst q0 q1 q5 q7 q8 q9;refine Co (Inv:=fun lv i wr=>∃(k U:Nat) (l':LG),lv=.pointer (some ⟨U,0,none⟩)∧i=.int .i64 (k:Nat)∧k≤n∧KL wr U l' C n0 E lz∧wr.ownsRow Ba 54 14 (.slice a n c) n (E.flatMap evC)∧blk wr mb 26 (M.map u6)∧blk wr wb 26 (W.map u6)∧Below w0.heap.size w0 wr) (μ:=fun _ i _=>n-(intOf i).toNat) ⟨0,p,l,rfl,rfl,by omega,hl,a3,ap,a4,a6⟩ ?_
 rintro _ _ dd w1 mm ⟨k,p1,l1,rfl,rfl,hk,al,ad,Z,X,R⟩ an;refine bx underlying45 <|aV ?_;by_cases am:k<n
 ·refine ay (by omega) <|Cq ?_;have hx:E[k]? = some E[k]:=List.getElem?_eq_getElem (by omega);generalize E[k]=e at hx;obtain⟨e1,e6,es⟩:=hE e (List.mem_of_getElem? hx);obtain⟨q,hq⟩:∃q:Nat,q=(e.o-1).toNat:=⟨_,rfl⟩
  have d:=al.fresh (Below.refl _ w1).drew;have j:w1.drew.ownsRow Ba 54 14 (.slice a n c) n (E.flatMap evC):=ad;have u:=Z.drew;have h:=X.drew;have J:=R.drew;obtain⟨g,ag,ha,op⟩:=cY j (by omega);have c1:ag[k*14+1]? = some (u6 e.s):=op.cell xN hn hx (show 1<14 by omega);have c0:ag[k*14+0]? = some (iv e.o):=op.cell xN hn hx (show 0<14 by omega)
  refine aa (v:=.pointer (some ⟨g,k*14,none⟩)) (fun _=>nK ha underlying45 (fun _=>by kernel_rfl) am) <|aa (fun _=>lh) <|aa (v:=u6 e.s) (fun _=>lK op.blk c1) <|aa (v:=.pointer (some ⟨g,k*14,none⟩)) (fun _=>nK ha underlying45 (fun _=>by kernel_rfl) am) <|aa (fun _=>bS) <|aa (v:=iv e.o) (fun _=>lK op.blk c0) <|aa (v:=.int .i64 ((q:Nat):Int)) (fun K hK=>bg (by omega) (by omega) (by rw[show (e.o-1)=(q:Nat)by omega];exact hK)) <|aa (fun _=>ixV rfl (by omega)) <|aa (v:=u6 (M.getD q 0)) (fun _=>lK u (by rw[Nat.zero_add];exact K0 (by omega))) <|aa (fun _=>ir) ?_
  refine ui (fun hd=>?_) (fun hd=>?_)
  ·refine JD (enc:=evC) (s:=14) underlying45 (fun _=>by kernel_rfl) underlying54 rfl (by kernel_rfl) xN j hn hx fun _=>?_;obtain⟨B,I⟩:=d.lc.lm;refine JL I d.lc.xi (d.lc.sum hC) fun w3 B3 p3 l3 a7 av a0 b3=>?_;refine eB <|eC <|uT <|aR (by omega) (by omega) ?_
   refine⟨⟨k+1,p3,l3,rfl,ivS,by omega,d.apply hh (List.mem_of_getElem? hx) es a7 av a0,di j fun b hb=>b3.block b (World.ownsRow.lt j b hb).2,af b3 u u.lt,af b3 h h.lt,J.trans (b3.mono J.size)⟩,?_⟩;rw[an];show n-((k:Int)+1).toNat<n-(k:Int).toNat;omega
  ·refine uT <|aR (by omega) (by omega) ?_;refine⟨⟨k+1,p1,l1,rfl,ivS,by omega,d,j,u,h,J⟩,?_⟩;rw[an];show n-((k:Int)+1).toNat<n-(k:Int).toNat;omega
 ·refine au (by omega) <|Cr ?_;have d:=al.fresh (Below.refl _ w1).drew;obtain⟨B,I⟩:=d.lc.lm;have h:=X.drew
  refine aa (fun _=>aw) <|aa (fun _=>bq) <|aa (fun _=>qf) <|aa (v:=.agg (l1.s.V.map u6).toArray) (fun _=>ldA (n:=6) (vs:=l1.s.V.map u6) underlying26 rfl (by kernel_rfl) I.cl I.cutV (by simp[I.v6])) <|aa (v:=.agg (W.map u6).toArray) (fun _=>ldA (n:=6) (vs:=W.map u6) underlying26 rfl (by kernel_rfl) h (cutV hW) (by simp[hW])) ?_;obtain⟨v0,v1,v2,v3,v4,v5,a2⟩:=ud I.v6
  obtain⟨u0,u1,u2,u3,u4,u5,aS⟩:=ud hW;refine aa (v:=.bool (decide (l1.s.V=W))) (fun K hK=>by
   rw[a2,aS]at hK ⊢;refine xW 3 (by omega) (by kernel_rfl) (by kernel_rfl) (by kernel_rfl) (by kernel_rfl) fun r hr=>?_;have ar:List.map u6 [v0,v1,v2,v3,v4,v5]=List.map u6 [u0,u1,u2,u3,u4,u5]↔[v0,v1,v2,v3,v4,v5]=[u0,u1,u2,u3,u4,u5]:=by simp[u6]
   have:r=decide ([v0,v1,v2,v3,v4,v5]=[u0,u1,u2,u3,u4,u5]):=Bool.eq_iff_iff.2 ((hr.trans ar).trans decide_eq_true_iff.symm)
   rw[this];exact hK) ?_
  refine ui (fun hd=>?_) (fun hd=>?_)
  ·exact hK _ p1 l1 d R.drew
  ·refine Cs <|aR (by omega) (by omega) ?_;exact az _ _ p1 l1 rfl (ivS) d ad Z.drew R.drew
end
end
section
open Go.RowKit
section
variable {w:World}{K:KV}
theorem RZ {p n c Ba:Nat}{a:Option Addr}{l:LG}{C:Nat→Int}{n0:Nat}{E:List EV}{M:List Int}(hh:HistL n0 E)(ap:LC w p l C)(am:LK n0 E (toP l))(hC:C 0+C 1+C 2+C 3+C 4+C 5≤900)(hE:EC E C)(hn:E.length=n)(av:n≤90000)(hM:M.length=6)(ag:w.ownsRow Ba 54 14 (.slice a n c) n (E.flatMap evC))(h:∀(w':World) I l',KL w' I l' C n0 E l→Below w.heap.size w w'→K (.pointer (some ⟨I,0,none⟩)) w'):call Tryz.prog 34 #[.pointer (some ⟨p,0,none⟩),.slice a n c,.agg (M.map u6).toArray] K w:=by
 refine aB (goK func34) (DR ?_);have hl:KL w p l C n0 E l:=⟨ap,am,fun _=>Int.le_refl _⟩
 refine dc fun w1 Z b1 s1=>?_;have Z:blk w1 w.heap.size 26 (M.map u6):=by simpa[Value.cells]using Z
 refine Cn (Inv:=fun lv rv wr=>∃(r I:Nat) (l':LG),lv=.pointer (some ⟨I,0,none⟩)∧rv=.int .i64 (r:Nat)∧r≤n+1∧KL wr I l' C n0 E l∧wr.ownsRow Ba 54 14 (.slice a n c) n (E.flatMap evC)∧blk wr w.heap.size 26 (M.map u6)∧Below w.heap.size w wr) (μ:=fun _ rv _=>n+1-(intOf rv).toNat) ⟨0,p,l,rfl,rfl,by omega,hl.fresh b1,di ag fun b hb=>b1.block b (World.ownsRow.lt ag b hb).2,Z,b1⟩ ?_
 rintro _ _ dd w2 mm ⟨r,p2,l2,rfl,rfl,hr,X,R,J,u⟩ an;refine bx underlying45 <|ir ?_;by_cases ar:r≤n
 ·refine ay (by omega) ?_;obtain⟨B,j⟩:=X.lc.lm;refine aw <|bq <|qf <|ldA (n:=6) (vs:=l2.s.V.map u6) underlying26 rfl (by kernel_rfl) j.cl j.cutV (by simp[j.v6]) ?_;refine dH (z:=.agg (([0,0,0,0,0,0]:List Int).map u6).toArray) (by kernel_rfl) fun w3 h3 b3 s3=>?_;have h3:blk w3 w2.heap.size 26 (([0,0,0,0,0,0]:List Int).map u6):=by simpa[Value.cells]using h3
  refine iz (n:=6) (vs:=l2.s.V.map u6) (by kernel_rfl) (by simp[j.v6]) h3 (by show 0+6≤6;omega) (by simp[u6,Value.oneCell']) fun w4 h4 o4=>?_;have h4:blk w4 w2.heap.size 26 (l2.s.V.map u6):=by
   rw[List.take_zero,List.nil_append,List.drop_of_length_le (by show 6≤0+6;omega),List.append_nil]at h4;exact h4
  have B4:Below w2.heap.size w2 w4:=bA b3 o4 (Nat.le_refl _);refine PH (w0:=w) (r:=r) hh (X.fresh B4) hC hE hn (by omega) hM j.v6 (by omega) (di R fun b hb=>B4.block b (World.ownsRow.lt R b hb).2) (af B4 J J.lt) h4 (u.trans (B4.mono u.size)) rfl rfl rfl rfl rfl rfl ?_ ?_
  ·intro e w' I l' g0 g7 U al ad d;refine⟨⟨r+1,I,l',g0,g7,by omega,U,al,ad,d⟩,?_⟩;rw[g7,an];show n+1-(((r+1:Nat):Int)).toNat<n+1-((r:Nat):Int).toNat;omega
  ·intro w' I l' U d;exact h w' I l' U d
 ·refine au (by omega) <|Cp ?_;exact h w2 p2 l2 X u
end
def ptC (x:Nat×LG):List Value:=[.pointer (some ⟨x.1,0,none⟩)]
theorem ve (x:Nat×LG):(ptC x).length=1:=rfl
structure WM (w:World) (Bw g:Nat) (L:List (Nat×LG)) (E:List EV) (C:Nat→Int):Prop where
 row:∃la lc ea ec,blk w g 47 [.slice la L.length lc,.slice ea E.length ec]∧w.ownsRow Bw 80 1 (.slice la L.length lc) L.length (L.flatMap ptC)∧w.ownsRow Bw 54 14 (.slice ea E.length ec) E.length (E.flatMap evC)
 lo:Bw≤g
 led:∀x∈L,LC w x.1 x.2 C
 pos:0<L.length∧L.length≤6
 ev:EC E C
 sum:C 0+C 1+C 2+C 3+C 4+C 5=E.length
 c0:∀k,k<6→0≤C k
 wp:WP L.length (L.map fun x=>toP x.2) E
 own:∀k x,L[k]? = some x→x.2.s.V.getD k 0=C k
 am:∀e∈E,e.a≤65536
theorem WM.fresh {w w':World}{Bw g:Nat}{L:List (Nat×LG)}{E:List EV}{C:Nat→Int}(h:WM w Bw g L E C)(j:Below w.heap.size w w'):WM w' Bw g L E C:=by
 obtain⟨M,X,R,U,J,I,u⟩:=h.row;exact {h with
  row:=⟨M,X,R,U,af j J J.lt,di I fun b d => j.block b (World.ownsRow.lt I b d).2,di u fun b d => j.block b (World.ownsRow.lt u b d).2⟩
  led:=fun x V=>(h.led x V).fresh j}
end
section
open Go.RowKit
abbrev Be :List TypeId:=[47,80,54]
theorem LM.keepW {w w':World}{B B' p:Nat}{l:LG}(h:LM w B p l)(d:Keep Be B' w w'):LM w' B p l :=
 {h with
  cl:=d.blk h.cl (.inr (by decide))
  nd:=dW h.nd d (by decide)
  gr:=dW h.gr d (by decide)
  tm:=h.tm.keep d (by decide) (by decide)
  rq:=fun k j => (h.rq k j).imp fun a=>Exists.imp fun c hh=>⟨hh.1,dW hh.2 d (by decide)⟩}
theorem LC.keepW {w w':World}{B' p:Nat}{l:LG}{C:Nat→Int}(h:LC w p l C)(d:Keep Be B' w w'):LC w' p l C:=⟨h.lm.imp fun _ hh=>hh.keepW d,h.xi,h.le⟩
theorem lV {w:World}{K:KV}{b o:Nat}(h:K (.pointer (some ⟨b,o+0,none⟩)) w):ai Tryz.prog 47 (.pointer (some ⟨b,o,none⟩)) 0 K w:=aM (by kernel_rfl) h
theorem xX {w:World}{K:KV}{b o:Nat}(h:K (.pointer (some ⟨b,o+1,none⟩)) w):ai Tryz.prog 47 (.pointer (some ⟨b,o,none⟩)) 1 K w:=aM (by kernel_rfl) h
section
variable {w:World}{K:KV}
theorem PJ :(Tryz.prog.info? 80).map (fun i=>(i.zero,i.size,i.bytes))=some (some (.pointer none),1,8):=by kernel_rfl
theorem TO {l:LG}{n:Nat}{w:World}{p B:Nat}(u:LM w B p l)(h0:l=lg0 l.t (iN n)):LC w p l (fun _=>0)∧toP l=pl0 n:=by
 have d:toP l=pl0 n:=by rw[h0];rfl
 have e:∀k,l.s.V.getD k 0=0:=by
  intro k
  have:l.s.V=List.replicate 6 0:=congrArg PL.V d
  rw[this,List.getD_eq_getElem?_getD,List.getElem?_replicate];split<;>rfl
 have j:l.R=List.replicate 6 []:=congrArg PL.R d;refine⟨⟨⟨B,u⟩,⟨d ▸ zZ n,by rw[h0];rfl,by rw[h0];exact Nat.zero_le _,fun k h=>?_⟩,fun k _=>by rw[e];exact Int.le_refl _⟩,d⟩;rw[j,List.getD_eq_getElem?_getD,List.getElem?_replicate,if_pos h];exact Nat.zero_le _
theorem Nc {n:Nat}(h1:1≤n)(h6:n≤6)(h:∀(w':World) g L,WM w' w.heap.size g L [] (fun _=>0)→L.length=n→Below w.heap.size w w'→K (.pointer (some ⟨g,0,none⟩)) w'):call Tryz.prog 18 #[.int .i64 (n:Nat)] K w:=by
 refine aB (goK func18) (AZ ?_);refine fS (vs:=[lQ,lQ]) (by kernel_rfl) ?_;refine dc fun w1 hw b1 s1=>?_;have hw:blk w1 w.heap.size 47 [lQ,lQ]:=by simpa[Value.cells]using hw
 refine zK (Inv:=fun i wr=>∃(L:List (Nat×LG)) (la:Option Addr) (lc:Nat),i=.int .i64 (L.length:Nat)∧L.length≤n∧blk wr w.heap.size 47 [.slice la L.length lc,lQ]∧wr.ownsRow w.heap.size 80 1 (.slice la L.length lc) L.length (L.flatMap ptC)∧(∀x∈L,(LC wr x.1 x.2 fun _=>0)∧toP x.2=pl0 n)∧Below w.heap.size w wr) (μ:=fun i _=>n-(intOf i).toNat) ⟨[],none,0,rfl,by simp,hw,World.ownsRow_nil _ _ _ _,by simp,b1⟩ ?_
 rintro _ dd w2 mm ⟨L,la,lc,rfl,hL,al,J,d,C⟩ a0;refine aV ?_;by_cases a2:L.length<n
 ·refine ay (by omega) ?_;refine TZ h1 h6 fun w3 p l hl _ _ hV b3=>?_;refine eB <|eC ?_;have ag:=af b3 al al.lt;have M:=di J fun b hb=>b3.block b (World.ownsRow.lt J b hb).2;have R:=C.trans (b3.mono C.size);refine aw <|lV <|lK (v:=.slice la L.length lc) ag rfl ?_
  refine oe (vs:=[.pointer (some ⟨p,0,none⟩)]) underlying44 (s:=1) (by kernel_rfl) (by kernel_rfl) (by omega) rfl (by simp) (by simp) (by simp) (by simp[Value.cells]) fun w4 h4 b4 s4=>?_;have h4:blk w4 w3.heap.size 80 (ptC (p,l)):=by simpa[Value.cells,ptC]using h4
  have u:=di M fun b hb=>b4.block b (World.ownsRow.lt M b hb).2;have aS:=af b4 ag ag.lt;have U:=R.trans (b4.mono R.size);obtain⟨ii,ar,hz,av,az⟩:=info_parts PJ;refine rU (base:=w.heap.size) (enc:=ptC) (x:=(p,l)) underlying44 ar hz av az rfl (by omega) ve u h4 (by simp[ptC,Value.oneCell']) (by omega) (by omega) U.size fun a5 c5 w5 ap am b5 _=>?_
  have X:=eT aS u (by decide) am;refine aw <|lV ?_;refine dY (fun _=>by kernel_rfl) X (by simp) rfl fun w6 ad o6=>?_;have ad:blk w6 w.heap.size 47 [.slice a5 (L.length+1) c5,lQ]:=ad;refine aR (by omega) (by omega) ?_;have I:(L++[(p,l)]).length=L.length+1:=by simp
  have k6:Keep Be w.heap.size w4 w6:=(Keep.grown am u (by simp) (Nat.le_refl _)).trans (o6.keep X (by simp) (Nat.le_refl _));refine⟨⟨L++[(p,l)],a5,c5,by rw[I];exact ivS,by omega,by rw[I];exact ad,by rw[I];exact dJ ap X (by decide) o6,?_,bA (U.trans b5) o6 (Nat.le_refl _)⟩,?_⟩
  ·intro x Z;rcases List.mem_append.1 Z with hh|hh
   ·exact⟨(((d x hh).1.fresh b3).fresh b4).keepW k6,(d x hh).2⟩
   ·rw[List.mem_singleton.1 hh];exact⟨((TO hl hV).1.fresh b4).keepW k6,(TO hl hV).2⟩
  ·rw[a0];show n-((L.length:Int)+1).toNat<n-((L.length:Nat):Int).toNat;omega
 ·refine au (by omega) <|zL ?_;have j:L.length=n:=by omega
  have an:(L.map fun x=>toP x.2)=List.replicate n (pl0 n):=by
   rw[←j];refine List.eq_replicate_iff.2 ⟨by simp,fun y hy=>?_⟩;obtain⟨x,Z,rfl⟩:=List.mem_map.1 hy;rw[j];exact(d x Z).2
  refine h w2 _ L ⟨⟨la,lc,none,0,al,J,World.ownsRow_nil _ _ _ _⟩,Nat.le_refl _,fun x Z=>(d x Z).1,by omega,fun e he=>absurd he (by simp),rfl,fun _ _=>Int.le_refl _,by rw[an,j];exact WP.zero n n,fun k x Z=>?_,by simp⟩ j C;have hP:=(d x (List.mem_of_getElem? Z)).2
  have:x.2.s.V=List.replicate 6 0:=congrArg PL.V hP
  rw[this,List.getD_eq_getElem?_getD,List.getElem?_replicate];split<;>rfl
end
end
section
open Go.RowKit
structure AC where
 who:Int
 meet:Bool
 other:Int
 kind:Int
 node:Int
 to:Int
 am:Int
 req:Int
 of':Int
def acC (x:AC):List Value:=[kv8 x.who,.bool x.meet,kv8 x.other,kv8 x.kind,kv8 x.node,kv8 x.to,.int .u16 x.am,kv8 x.req,kv8 x.of']
def ER (x:AC):Prop:=(0≤x.who∧x.who≤255)∧(0≤x.other∧x.other≤255)∧(0≤x.node∧x.node≤255)∧(0≤x.am∧x.am≤65535)
def evB (b e:EV):Prop:=e.o=b.o∧e.s=b.s∧e.V=b.V∧0≤e.a∧e.a≤65536
theorem amA {a:Int}(h:0≤a∧a≤65535):0≤IntKind.i64.wrap a∧IntKind.i64.wrap a≤65536:=by rw[dP (by omega) (by omega)];omega
theorem amB {a:Int}(h:0≤a∧a≤65535):0≤IntKind.i64.wrap (IntKind.i64.wrap a+1)∧IntKind.i64.wrap (IntKind.i64.wrap a+1)≤65536:=by rw[dP (n:=a) (by omega) (by omega),dP (by omega) (by omega)];omega
theorem JM {w:World}{K:KV}{b o:Nat}(h:K (.pointer (some ⟨b,o+0,none⟩)) w):ai Tryz.prog 74 (.pointer (some ⟨b,o,none⟩)) 0 K w:=aM (by kernel_rfl) h
theorem PK {w:World}{K:KV}{b o:Nat}(h:K (.pointer (some ⟨b,o+1,none⟩)) w):ai Tryz.prog 74 (.pointer (some ⟨b,o,none⟩)) 1 K w:=aM (by kernel_rfl) h
theorem PN {w:World}{K:KV}{b o:Nat}(h:K (.pointer (some ⟨b,o+2,none⟩)) w):ai Tryz.prog 74 (.pointer (some ⟨b,o,none⟩)) 2 K w:=aM (by kernel_rfl) h
theorem PO {w:World}{K:KV}{b o:Nat}(h:K (.pointer (some ⟨b,o+3,none⟩)) w):ai Tryz.prog 74 (.pointer (some ⟨b,o,none⟩)) 3 K w:=aM (by kernel_rfl) h
theorem JN {w:World}{K:KV}{b o:Nat}(h:K (.pointer (some ⟨b,o+4,none⟩)) w):ai Tryz.prog 74 (.pointer (some ⟨b,o,none⟩)) 4 K w:=aM (by kernel_rfl) h
theorem JO {w:World}{K:KV}{b o:Nat}(h:K (.pointer (some ⟨b,o+5,none⟩)) w):ai Tryz.prog 74 (.pointer (some ⟨b,o,none⟩)) 5 K w:=aM (by kernel_rfl) h
theorem xY {w:World}{K:KV}{b o:Nat}(h:K (.pointer (some ⟨b,o+6,none⟩)) w):ai Tryz.prog 74 (.pointer (some ⟨b,o,none⟩)) 6 K w:=aM (by kernel_rfl) h
theorem JP {w:World}{K:KV}{b o:Nat}(h:K (.pointer (some ⟨b,o+7,none⟩)) w):ai Tryz.prog 74 (.pointer (some ⟨b,o,none⟩)) 7 K w:=aM (by kernel_rfl) h
theorem PP {w:World}{K:KV}{b o:Nat}(h:K (.pointer (some ⟨b,o+8,none⟩)) w):ai Tryz.prog 74 (.pointer (some ⟨b,o,none⟩)) 8 K w:=aM (by kernel_rfl) h
section
variable {w:World}{K:KV}
structure EVS (w0 w:World) (x:AC) (b e:EV) (xb tb eb:Nat):Prop where
 x3:blk w xb 74 (acC x)
 t4:∃zs:List Value,blk w tb 54 zs∧zs.length=14
 ev:blk w eb 54 (evC e)
 eo:evB b e
 bel:Below w0.heap.size w0 w
 lo:w0.heap.size≤tb∧w0.heap.size≤eb∧tb≠eb
theorem EVS.st {w0:World}{x:AC}{b e e':EV}{J I C k:Nat}{t:TypeId}{v:Value}(g:EVS w0 w x b e J I C)(hv:v.oneCell'=true)(U:∀w,(sizeOf t).run Tryz.prog w=.ok 1 w)(hk:k<14)(X:(evC e).set k v=evC e')(d:e'.o=e.o∧e'.s=e.s∧e'.V=e.V)(ha:0≤e'.a∧e'.a≤65536)(h:∀w',EVS w0 w' x b e' J I C→K undef w'):sto Tryz.prog t (.pointer (some ⟨C,k,none⟩)) v K w:=by
 obtain⟨zs,R,u⟩:=g.t4;refine dY U g.ev hk hv fun Z M j=>?_;rw[X]at M;exact h Z ⟨j.blk g.x3 (fun hh=>g.x3.ne g.ev (by decide) hh),⟨zs,j.blk R g.lo.2.2,u⟩,M,⟨d.1.trans g.eo.1,d.2.1.trans g.eo.2.1,d.2.2.trans g.eo.2.2.1,ha⟩,bA g.bel j g.lo.2.1,g.lo⟩
theorem zQ {w_0 x3 I o5 l6 e7 gw j C u d:Value}{zf:Nat→Value}{w0:World}{x:AC}{b e:EV}{Z J M:Nat}(g:EVS w0 w x b e Z J M)(q4:I=.pointer (some ⟨J,0,none⟩))(q7:e7=.pointer (some ⟨M,0,none⟩))(h:∀w' e',evB b e'→Below w0.heap.size w0 w'→K (.agg (evC e').toArray) w'):bf K ((aT w_0 x3 I o5 l6 e7 gw j C u d zf)) w:=by
 subst q4 q7;refine xj <|ldA (n:=14) (vs:=evC e) underlying54 rfl (by kernel_rfl) g.ev rfl rfl ?_;obtain⟨zs,R,V⟩:=g.t4;refine iz (n:=14) (vs:=evC e) (by kernel_rfl) rfl R (by omega) (vw _) fun X h1 U=>?_;refine JF (vs:=evC e) underlying54 rfl (by kernel_rfl) h1 (by rw[List.take_zero,List.nil_append,List.drop_of_length_le (by omega),List.append_nil]) ?_;exact h X e g.eo (bA g.bel U g.lo.1)
theorem RD {w_0 x3 M o5 l6 e7 gw C I J u:Value}{zf:Nat→Value}{w0:World}{x:AC}{nd:Int}{b e:EV}{xb R X:Nat}(g:EVS w0 w x b e xb R X)(q3:x3=.pointer (some ⟨xb,0,none⟩))(q4:M=.pointer (some ⟨R,0,none⟩))(q7:e7=.pointer (some ⟨X,0,none⟩))(q8:gw=u6 nd)(j:ER x)(h:∀w' e',evB b e'→Below w0.heap.size w0 w'→K (.agg (evC e').toArray) w'):eQ K ((aT w_0 x3 M o5 l6 e7 gw C I J u zf)) w:=by
 subst q3 q4 q7 q8;refine xe <|mP <|lK (v:=kv8 e.k) g.ev rfl <|xg <|bm ?_;by_cases k1:e.k=1
 ·refine ay k1 <|JN <|lK (v:=kv8 x.node) g.x3 rfl <|xT (by omega) <|bm <|xh ?_;refine ui (fun hd=>?_) (fun hd=>?_)
  ·refine eO ?_;refine g.st (e':={e with n:=nd}) rfl (fun _=>by kernel_rfl) (by decide) rfl ⟨rfl,rfl,rfl⟩ g.eo.2.2.2 fun d g=>?_;refine qB <|xY <|lK (v:=.int .u16 x.am) g.x3 rfl <|eK underlying72 underlying2 <|dQ ?_;refine g.st (e':={ ({e with n:=nd}:EV)with a:=IntKind.i64.wrap x.am}) rfl (fun _=>by kernel_rfl) (by decide) rfl ⟨rfl,rfl,rfl⟩ (amA j.2.2.2) fun d g=>?_;exact zQ g rfl rfl h
  ·refine qB <|xY <|lK (v:=.int .u16 x.am) g.x3 rfl <|eK underlying72 underlying2 <|dQ ?_;refine g.st (e':={e with a:=IntKind.i64.wrap x.am}) rfl (fun _=>by kernel_rfl) (by decide) rfl ⟨rfl,rfl,rfl⟩ (amA j.2.2.2) fun d g=>?_;exact zQ g rfl rfl h
 refine au k1 <|bm ?_;by_cases k2:e.k=2
 ·refine ay k2 <|eO ?_;refine g.st (e':={e with n:=nd}) rfl (fun _=>by kernel_rfl) (by decide) rfl ⟨rfl,rfl,rfl⟩ g.eo.2.2.2 fun d g=>?_;refine xY <|lK (v:=.int .u16 x.am) g.x3 rfl <|eK underlying72 underlying2 <|kf <|dQ ?_;refine g.st (e':={ ({e with n:=nd}:EV)with a:=IntKind.i64.wrap (IntKind.i64.wrap x.am+1)}) rfl (fun _=>by kernel_rfl) (by decide) rfl ⟨rfl,rfl,rfl⟩ (amB j.2.2.2) fun d g=>?_
  exact zQ g rfl rfl h
 refine au k2 <|bm ?_;by_cases V:e.k=3
 ·refine ay V <|eO ?_;refine g.st (e':={e with n:=nd}) rfl (fun _=>by kernel_rfl) (by decide) rfl ⟨rfl,rfl,rfl⟩ g.eo.2.2.2 fun d g=>?_;refine xY <|lK (v:=.int .u16 x.am) g.x3 rfl <|eK underlying72 underlying2 <|kf <|dQ ?_;refine g.st (e':={ ({e with n:=nd}:EV)with a:=IntKind.i64.wrap (IntKind.i64.wrap x.am+1)}) rfl (fun _=>by kernel_rfl) (by decide) rfl ⟨rfl,rfl,rfl⟩ (amB j.2.2.2) fun d g=>?_
  refine JP <|lK (v:=kv8 x.req) g.x3 rfl <|eK underlying5 underlying24 <|kf <|gS ?_;refine g.st (e':={ ({ ({e with n:=nd}:EV)with a:=IntKind.i64.wrap (IntKind.i64.wrap x.am+1)}:EV)with r:=IntKind.u64.wrap (IntKind.u64.wrap x.req+1)}) rfl (fun _=>by kernel_rfl) (by decide) rfl ⟨rfl,rfl,rfl⟩ g.eo.2.2.2 fun d g=>?_;exact zQ g rfl rfl h
 refine au V <|bm ?_;by_cases U:e.k=4
 ·refine ay U <|JP <|lK (v:=kv8 x.req) g.x3 rfl <|eK underlying5 underlying24 <|kf <|gS ?_;refine g.st (e':={e with r:=IntKind.u64.wrap (IntKind.u64.wrap x.req+1)}) rfl (fun _=>by kernel_rfl) (by decide) rfl ⟨rfl,rfl,rfl⟩ g.eo.2.2.2 fun d g=>?_;refine PP <|lK (v:=kv8 x.of') g.x3 rfl <|eK underlying5 underlying24 <|kf <|po ?_
  refine g.st (e':={ ({e with r:=IntKind.u64.wrap (IntKind.u64.wrap x.req+1)}:EV)with f:=IntKind.u64.wrap (IntKind.u64.wrap x.of'+1)}) rfl (fun _=>by kernel_rfl) (by decide) rfl ⟨rfl,rfl,rfl⟩ g.eo.2.2.2 fun d g=>?_;exact zQ g rfl rfl h
 refine au U <|bm <|xk ?_;by_cases Z:e.k=5
 ·refine ay Z <|eO ?_;refine g.st (e':={e with n:=nd}) rfl (fun _=>by kernel_rfl) (by decide) rfl ⟨rfl,rfl,rfl⟩ g.eo.2.2.2 fun d g=>?_;refine xY <|lK (v:=.int .u16 x.am) g.x3 rfl <|eK underlying72 underlying2 <|kf <|dQ ?_;refine g.st (e':={ ({e with n:=nd}:EV)with a:=IntKind.i64.wrap (IntKind.i64.wrap x.am+1)}) rfl (fun _=>by kernel_rfl) (by decide) rfl ⟨rfl,rfl,rfl⟩ (amB j.2.2.2) fun d g=>?_
  refine JO <|lK (v:=kv8 x.to) g.x3 rfl <|eK underlying5 underlying3 <|xT (by omega) <|kf <|ic ?_;refine g.st (e':={ ({ ({e with n:=nd}:EV)with a:=IntKind.i64.wrap (IntKind.i64.wrap x.am+1)}:EV)with t:=IntKind.i64.wrap (1+(IntKind.i64.wrap x.to).tmod 6)}) rfl (fun _=>by kernel_rfl) (by decide) rfl ⟨rfl,rfl,rfl⟩ g.eo.2.2.2 fun d g=>?_;exact zQ g rfl rfl h
 refine au Z <|bm ?_;by_cases k6:e.k=6
 ·refine ay k6 <|JO <|lK (v:=kv8 x.to) g.x3 rfl <|eK underlying5 underlying3 <|xT (by omega) <|kf <|ic ?_;refine g.st (e':={e with t:=IntKind.i64.wrap (1+(IntKind.i64.wrap x.to).tmod 6)}) rfl (fun _=>by kernel_rfl) (by decide) rfl ⟨rfl,rfl,rfl⟩ g.eo.2.2.2 fun d g=>?_;exact zQ g rfl rfl h
 refine au k6 ?_;exact zQ g rfl rfl h
end
end
section
open Go.RowKit
section
variable {w:World}{K:KV}
theorem UX {w_0 x3 t4 o5 l6 e7 gw R Z ad u:Value}{zf:Nat→Value}{w0:World}{x:AC}{b e:EV}{X M eb p:Nat}{l:LG}{C:Nat→Int}(g:EVS w0 w x b e X M eb)(V:LC w p l C)(J:C 0+C 1+C 2+C 3+C 4+C 5≤900)(q6:l6=.pointer (some ⟨p,0,none⟩))(q3:x3=.pointer (some ⟨X,0,none⟩))(q4:t4=.pointer (some ⟨M,0,none⟩))(q7:e7=.pointer (some ⟨eb,0,none⟩))(j:ER x)(h:∀w' e',evB b e'→Below w0.heap.size w0 w'→K (.agg (evC e').toArray) w'):iI K ((aT w_0 x3 t4 o5 l6 e7 gw R Z ad u zf)) w:=by
 subst q3 q4 q7 q6;obtain⟨B,d⟩:=V.lm;have am:=V.xi.n30;have hs:=V.sum J;refine xc <|aw <|bq <|dV <|lK (v:=.slice l.s.na l.s.nodes.length l.s.nc) d.cl d.cN <|bx underlying27 <|cB <|xd ?_;by_cases h0:(0:Int)<(l.s.nodes.length:Nat)
 ·refine ay h0 ?_;have d:=d.drew;have g:EVS w0 w.drew x b e X M eb:=⟨g.x3.drew,g.t4,g.ev.drew,g.eo,g.bel.drew,g.lo⟩
  obtain⟨i,hi⟩:∃i:Nat,i=(x.node%(l.s.nodes.length:Nat)).toNat:=⟨_,rfl⟩
  have ag:0≤x.node%((l.s.nodes.length:Nat):Int):=Int.emod_nonneg _ (by omega);have al:x.node%((l.s.nodes.length:Nat):Int)<(l.s.nodes.length:Nat):=Int.emod_lt_of_pos _ h0;have I:i<l.s.nodes.length:=by omega
  have hx:l.s.nodes[i]? = some l.s.nodes[i]:=List.getElem?_eq_getElem I;generalize l.s.nodes[i]=y at hx;obtain⟨gn,U,ha,op⟩:=cY d.nd (by omega);have c0:U[i*56+0]? = some (u6 y.id):=op.cell eZ rfl hx (show 0<56 by omega)
  refine aa (fun _=>aw) <|aa (fun _=>bq) <|aa (fun _=>dV) <|aa (v:=.slice l.s.na l.s.nodes.length l.s.nc) (fun _=>lK d.cl d.cN) <|aa (fun _=>JN) <|aa (v:=kv8 x.node) (fun _=>lK g.x3 rfl) <|aa (v:=.int .i64 x.node) (fun K hK=>eK underlying5 underlying3 (by rw[dP (by have:=j.2.2.1;omega) (by have:=j.2.2.1;omega)];exact hK)) <|aa (fun _=>aw) <|aa (fun _=>bq) <|aa (fun _=>dV) <|aa (v:=.slice l.s.na l.s.nodes.length l.s.nc) (fun _=>lK d.cl d.cN) <|aa (fun _=>bx underlying27) <|aa (v:=.int .i64 ((i:Nat):Int)) (fun K hK=>yc j.2.2.1.1 h0 (by rw[show x.node%((l.s.nodes.length:Nat):Int)=(i:Nat)by omega];exact hK)) <|aa (v:=.pointer (some ⟨gn,i*56,none⟩)) (fun _=>nK ha underlying27 (fun _=>by kernel_rfl) I) <|aa (fun _=>tT) <|aa (v:=u6 y.id) (fun _=>lK op.blk c0) ?_
  exact RD g rfl rfl rfl rfl j h
 ·refine au h0 ?_;exact RD (nd:=0) g rfl rfl rfl rfl j h
theorem Sa {Bw g:Nat}{L:List (Nat×LG)}{E:List EV}{C:Nat→Int}{x:AC}(hw:WM w Bw g L E C)(hn:E.length≤900)(R:ER x)(h:∀(w':World) (e:EV) (i:Nat) (d:Nat×LG),(i:Int)=x.who%(L.length:Nat)→L[i]? = some d→e.o=i+1→e.s=d.2.s.V.getD i 0+1→e.V=d.2.s.V→0≤e.a∧e.a≤65536→Below w.heap.size w w'→K (.agg (evC e).toArray) w'):call Tryz.prog 35 #[.pointer (some ⟨g,0,none⟩),.agg (acC x).toArray] K w:=by
 refine aB (goK func35) (yT ?_);refine dc fun w1 U b1 s1=>?_;have U:blk w1 w.heap.size 74 (acC x):=by simpa[Value.cells]using U
 refine dH (z:=.agg (evC ⟨0,0,0,0,0,0,0,0,0,0,0,0,0,0⟩).toArray) (by kernel_rfl) fun X I b2 s2=>?_;have I:blk X w1.heap.size 54 (evC ⟨0,0,0,0,0,0,0,0,0,0,0,0,0,0⟩):=by simpa[Value.cells]using I
 rw[s1]at I ⊢;have ar:=(af b2 U U.lt).drew;have I:=I.drew;have an:Below w.heap.size w X.drew:=(b1.trans (b2.mono (by omega))).drew;have a0:=hw.fresh an;obtain⟨la,lc,ea,ec,aS,ap,_⟩:=a0.row;have hp:=hw.pos;obtain⟨i,hi⟩:∃i:Nat,i=(x.who%(L.length:Nat)).toNat:=⟨_,rfl⟩
 have a3:0≤x.who%((L.length:Nat):Int):=Int.emod_nonneg _ (by omega);have a6:x.who%((L.length:Nat):Int)<(L.length:Nat):=Int.emod_lt_of_pos _ (by omega);have az:i<L.length:=by omega
 have J:L[i]? = some L[i]:=List.getElem?_eq_getElem az;generalize L[i]=d at J;have ag:=a0.led d (List.mem_of_getElem? J);obtain⟨B,u⟩:=ag.lm;obtain⟨gl,a2,ha,op⟩:=cY ap (by omega);have c0:a2[i*1]? = some (.pointer (some ⟨d.1,0,none⟩)):=by
  have:=op.cell ve rfl J (show 0<1 by omega)
  simpa[ptC]using this
 refine aa (fun _=>JM) <|aa (v:=kv8 x.who) (fun _=>lK ar rfl) <|aa (v:=.int .i64 x.who) (fun K hK=>eK underlying5 underlying3 (by rw[dP (by have:=R.1;omega) (by have:=R.1;omega)];exact hK)) <|aa (fun _=>aw) <|aa (fun _=>lV) <|aa (v:=.slice la L.length lc) (fun _=>lK aS rfl) <|aa (fun _=>bx underlying44) <|aa (v:=.int .i64 ((i:Nat):Int)) (fun K hK=>yc R.1.1 (by omega) (by rw[show x.who%((L.length:Nat):Int)=(i:Nat)by omega];exact hK)) <|aw <|lV <|lK (v:=.slice la L.length lc) aS rfl <|nK (s:=1) ha underlying44 (fun _=>by kernel_rfl) az <|lK (v:=.pointer (some ⟨d.1,0,none⟩)) op.blk c0 ?_
 have u:=u.drew;have M:=ar.drew;obtain⟨v0,v1,v2,v3,v4,v5,av⟩:=ud u.v6;have am:i<6:=by omega
 refine aE (fun y=>blk y d.1 79 (lgC d.2)∧blk y w.heap.size 74 (acC x)) ⟨u.cl,M⟩ <|ab (v:=.int .i64 ((i:Nat)+1:Int)) (fun y j _=>aR (by omega) (by omega)) <|ab (fun y j _=>aw) <|ab (fun y j _=>bq) <|ab (fun y j _=>qf) <|ab (fun y j _=>ixV rfl am) <|ab (v:=u6 (d.2.s.V.getD i 0)) (fun y j _=>lK j.1 (by rw[show 0+0+12+i=12+i by omega];exact u.cV am)) <|ab (fun y j _=>kf) <|ab (fun y j _=>aw) <|ab (fun y j _=>bq) <|ab (fun y j _=>qf) <|ab (v:=.agg (([v0,v1,v2,v3,v4,v5]:List Int).map u6).toArray) (fun y j _=>ldA (n:=6) (vs:=([v0,v1,v2,v3,v4,v5]:List Int).map u6) underlying26 rfl (by kernel_rfl) j.1 (by rw[←av];exact u.cutV) rfl) <|ab (fun y j _=>PO) <|ab (v:=kv8 x.kind) (fun y j _=>lK j.2 rfl) <|ab (fun y j _=>xT (by omega)) <|ab (fun y j _=>kf) ?_
 refine ab (v:=.agg (evC ⟨(i:Nat)+1,IntKind.u64.wrap (d.2.s.V.getD i 0+1),v0,v1,v2,v3,v4,v5,IntKind.u8.wrap (1+x.kind.tmod 7),0,0,0,0,0⟩).toArray) (fun y j _=>fS (by kernel_rfl)) ?_;refine dH (z:=.agg (evC ⟨0,0,0,0,0,0,0,0,0,0,0,0,0,0⟩).toArray) (by kernel_rfl) fun w3 h3 b3 s3=>?_;have h3:blk w3 X.drew.drew.heap.size 54 (evC ⟨0,0,0,0,0,0,0,0,0,0,0,0,0,0⟩):=by simpa[Value.cells]using h3
 refine aO ⟨af b3 u.cl u.cl.lt,af b3 M M.lt⟩ ?_;refine iz (n:=14) (vs:=evC ⟨(i:Nat)+1,IntKind.u64.wrap (d.2.s.V.getD i 0+1),v0,v1,v2,v3,v4,v5,IntKind.u8.wrap (1+x.kind.tmod 7),0,0,0,0,0⟩) (by kernel_rfl) rfl h3 (by show 0+14≤14;omega) (vw _) fun w4 h4 o4=>?_
 have h4:blk w4 X.drew.drew.heap.size 54 (evC ⟨(i:Nat)+1,IntKind.u64.wrap (d.2.s.V.getD i 0+1),v0,v1,v2,v3,v4,v5,IntKind.u8.wrap (1+x.kind.tmod 7),0,0,0,0,0⟩):=h4;have B4:Below X.drew.drew.heap.size X.drew.drew w4:=bA b3 o4 (Nat.le_refl _);have ad:Below w.heap.size w w4:=an.drew.trans (B4.mono an.size);have sz:X.drew.drew.heap.size=w.heap.size+2:=by show X.heap.size=_;omega
 have gg:EVS w w4 x ⟨(i:Nat)+1,IntKind.u64.wrap (d.2.s.V.getD i 0+1),v0,v1,v2,v3,v4,v5,IntKind.u8.wrap (1+x.kind.tmod 7),0,0,0,0,0⟩ ⟨(i:Nat)+1,IntKind.u64.wrap (d.2.s.V.getD i 0+1),v0,v1,v2,v3,v4,v5,IntKind.u8.wrap (1+x.kind.tmod 7),0,0,0,0,0⟩ w.heap.size (w.heap.size+1) X.drew.drew.heap.size :=
  ⟨af B4 M M.lt,⟨_,af B4 I.drew I.drew.lt,rfl⟩,h4,⟨rfl,rfl,rfl,Int.le_refl _,show (0:Int)≤65536 by decide⟩,ad,⟨by omega,by omega,by omega⟩⟩
 have al:=(hw.led d (List.mem_of_getElem? J)).fresh ad;refine UX gg al (by rw[hw.sum];omega) rfl rfl rfl rfl R fun w' e' Z b' => h w' e' i d (by omega) J Z.1 ?_ (Z.2.2.1.trans av.symm) Z.2.2.2 b';have hv:=ag.xi.pi.vb i am;have a7:d.2.s.V.getD i 0<1099511627776:=hv.2;have a4:0≤d.2.s.V.getD i 0:=hv.1;rw[Z.2.1];show IntKind.u64.wrap (d.2.s.V.getD i 0+1)=_
 rw[hZ];omega
end
end
section
open Go.RowKit
theorem LC.up {w:World}{p:Nat}{l:LG}{C C':Nat→Int}(h:LC w p l C)(j:∀k,k<6→C k≤C' k):LC w p l C':=⟨h.lm,h.xi,fun k d=>Int.le_trans (h.le k d) (j k d)⟩
section
variable {w:World}{K:KV}
theorem RE {Bw g J M i o d:Nat}{L:List (Nat×LG)}{l':LG}{C:Nat→Int}{ag:List Value}{Z:Option Addr}{n ec:Nat}{xs:List Value}(R:blk w g 47 [.slice (some ⟨J,0,none⟩) L.length M,.slice Z n ec])(I:Opn w Bw 80 1 L.length M J ag (L.flatMap ptC))(al:w.ownsRow Bw 54 14 (.slice Z n ec) n xs)(V:∀x∈L,LC w x.1 x.2 C)(ad:LC w d l' C)(hi:i<L.length)(ho:o=i*1)(h:∀w',blk w' g 47 [.slice (some ⟨J,0,none⟩) (L.set i (d,l')).length M,.slice Z n ec]→w'.ownsRow Bw 80 1 (.slice (some ⟨J,0,none⟩) (L.set i (d,l')).length M) (L.set i (d,l')).length ((L.set i (d,l')).flatMap ptC)→w'.ownsRow Bw 54 14 (.slice Z n ec) n xs →
   (∀x∈L.set i (d,l'),LC w' x.1 x.2 C)→Keep Be Bw w w'→Oth J w w'→K undef w'):sto Tryz.prog 80 (.pointer (some ⟨J,o,none⟩)) (.pointer (some ⟨d,0,none⟩)) K w:=by
 subst ho;have hx:L[i]? = some L[i]:=List.getElem?_eq_getElem hi;have h2:L.length*1≤M*1:=Nat.mul_le_mul_right _ I.nc;have an:=I.len;refine dY (fun _=>by kernel_rfl) I.blk (by omega) rfl fun w' hb X=>?_;have U:=I.set1 (x':=(d,l')) (v:=.pointer (some ⟨d,0,none⟩)) (j:=0) ve rfl hx (by omega) rfl (by simpa using hb);have hk:Keep Be Bw w w':=X.keep I.blk (by simp) I.lo
 have u:(L.set i (d,l')).length=L.length:=List.length_set ..;refine h w' (by rw[u];exact X.blk R (fun hh=>R.ne I.blk (by decide) hh)) (by rw[u];exact Opn.own U) (dJ al I.blk (by decide) X) (fun x am=>?_) hk X;rcases List.mem_or_eq_of_mem_set am with hh|hh
 ·exact(V x hh).keepW hk
 ·rw[hh];exact ad.keepW hk
end
end
section
open Go.RowKit
section
variable {w:World}{K:KV}
theorem Sb :(Tryz.prog.info? 54).map (fun i=>(i.zero,i.size,i.bytes))=some (some (.agg (evC ⟨0,0,0,0,0,0,0,0,0,0,0,0,0,0⟩).toArray),14,112):=by kernel_rfl
theorem Nd {d:Nat}{e:EV}{j:List Value}(u:blk w d 54 j)(J:j.length=14)(h:∀w',Oth d w w'→K (.agg (evC e).toArray) w'):sto Tryz.prog 54 (.pointer (some ⟨d,0,none⟩)) (.agg (evC e).toArray) (fun _t w=>bM Tryz.prog [(some 54,.pointer (some ⟨d,0,none⟩))] K w) w:=by
 refine iz (n:=14) (vs:=evC e) (by kernel_rfl) rfl u (by omega) (vw _) fun M I C=>?_;refine JF (vs:=evC e) underlying54 rfl (by kernel_rfl) I (by rw[List.take_zero,List.nil_append,List.drop_of_length_le (by omega),List.append_nil]) ?_;exact h M C
theorem UY {w_0 x3 t4 o5 e6 f8:Value}{zf:Nat→Value}{Bw g gl lc ec tb X:Nat}{ea:Option Addr}{L:List (Nat×LG)}{E:List EV}{C:Nat→Int}{e:EV}{zs:List Value}(ap:blk w g 47 [.slice (some ⟨gl,0,none⟩) L.length lc,.slice ea E.length ec])(ad:w.ownsRow Bw 80 1 (.slice (some ⟨gl,0,none⟩) L.length lc) L.length (L.flatMap ptC))(a4:w.ownsRow Bw 54 14 (.slice ea E.length ec) E.length (E.flatMap evC))(a9:∀x∈L,LC w x.1 x.2 C)(b7:EC E C)(he:1≤e.o∧e.o≤6∧e.s≤C (e.o-1).toNat)(a8:C 0+C 1+C 2+C 3+C 4+C 5=(E.length:Nat)+1)(bt:∀k,k<6→0≤C k)(a7:0<L.length∧L.length≤6)(b6:WP L.length (L.map fun x=>toP x.2) (E++[e]))(a2:∀(k:Nat) x,L[k]? = some x→x.2.s.V.getD k 0=C k)(bd:∀y∈E++[e],y.a≤65536)(hn:E.length≤900)(hB:Bw≤w.heap.size)(hg:Bw≤g)(az:blk w X 54 (evC e))(hz:blk w tb 54 zs)(b0:zs.length=14)(al:∀k,(Value.slice ea E.length ec).ownBlock=some k→k≠X∧k≠tb)(b8:tb≠X)(bi:Bw≤tb)(q0:w_0=.pointer (some ⟨g,0,none⟩))(q4:t4=.pointer (some ⟨tb,0,none⟩))(q6:e6=.pointer (some ⟨X,0,none⟩))(h:∀w',WM w' Bw g L (E++[e]) C→Below Bw w w'→K (.agg (evC e).toArray) w'):jH K ((km w_0 x3 t4 o5 e6 f8 zf)) w:=by
 subst q0 q4 q6;refine zO <|aE (fun y=>blk y g 47 [.slice (some ⟨gl,0,none⟩) L.length lc,.slice ea E.length ec]∧blk y X 54 (evC e)) ⟨ap.drew,az.drew⟩ <|ab (fun y R _=>aw) <|ab (fun y R _=>xX) <|ab (v:=.slice ea E.length ec) (fun y R _=>lK R.1 rfl) <|ab (v:=.agg (evC e).toArray) (fun y R _=>ldA (n:=14) (vs:=evC e) underlying54 rfl (by kernel_rfl) R.2 rfl rfl) ?_
 refine oe (vs:=[.agg (evC e).toArray]) underlying45 (s:=14) (by kernel_rfl) (by kernel_rfl) (by omega) rfl (by simp) (by simp) (by simp) (by simp[Value.cells,xN]) fun w2 h2 b2 s2=>?_;have h2:blk w2 w.drew.heap.size 54 (evC e):=by simpa[Value.cells]using h2
 have ag:=af b2 ap.drew ap.drew.lt;have M:=af b2 az.drew az.drew.lt;have av:=af b2 hz.drew hz.drew.lt;have am:w2.ownsRow Bw 80 1 (.slice (some ⟨gl,0,none⟩) L.length lc) L.length (L.flatMap ptC):=di ad fun b hb=>b2.block b (World.ownsRow.lt ad b hb).2
 have j:w2.ownsRow Bw 54 14 (.slice ea E.length ec) E.length (E.flatMap evC):=di a4 fun b hb=>b2.block b (World.ownsRow.lt a4 b hb).2;have D:Below w.heap.size w w2:=(Below.refl _ w).drew.trans b2;have an:∀x∈L,LC w2 x.1 x.2 C:=fun x hx=>(a9 x hx).fresh D;refine aO ⟨ag,M⟩ ?_;obtain⟨ii,be,b4,bk,bW⟩:=info_parts Sb
 refine rU (base:=Bw) (x:=e) underlying45 be b4 bk bW rfl (by omega) xN j h2 (vw _) (by omega) (by omega) (Nat.le_trans hB D.size) fun a3 c3 w3 bb J b3 bv=>?_;have d:=eT ag j (by decide) J;have ar:=oI am j (by decide) J;have Z:blk w3 X 54 (evC e):=by
  unfold Go.Proofs.YtgpfkmdknlcemaaGreatDoor.blk;rw[J.block _ M.lt (fun hh=>(al X hh.symm).1 rfl)];exact M
 have a6:blk w3 tb 54 zs:=by
  unfold Go.Proofs.YtgpfkmdknlcemaaGreatDoor.blk;rw[J.block _ av.lt (fun hh=>(al tb hh.symm).2 rfl)];exact av
 have k3:Keep Be Bw w2 w3:=Keep.grown J j (by simp) (Nat.le_refl _);refine aE (fun _=>True) trivial <|ab (fun y R _=>aw) <|ab (fun y R _=>xX) ?_;refine dY (fun _=>by kernel_rfl) d (by simp) rfl fun w4 u o4=>?_;have u:blk w4 g 47 [.slice (some ⟨gl,0,none⟩) L.length lc,.slice a3 (E.length+1) c3]:=u;have aS:blk w4 X 54 (evC e):=o4.blk Z (fun hh=>Z.ne d (by decide) hh)
 have U:blk w4 tb 54 zs:=o4.blk a6 (fun hh=>a6.ne d (by decide) hh);have k4:Keep Be Bw w2 w4:=k3.trans (o4.keep d (by simp) hg);refine ldA (n:=14) (vs:=evC e) underlying54 rfl (by kernel_rfl) aS rfl rfl ?_;have b5:∀k,(Value.slice a3 (E.length+1) c3).ownBlock=some k→k≠tb:=by
  intro k hk;rcases bv with hh|hh
  ·rw[hh]at hk;exact(al k hk).2
  ·rw[hh]at hk;cases hk;have:=av.lt;omega
 refine Nd U b0 fun w5 o5=>?_;have k5:Keep Be Bw w2 w5:=k4.trans (o5.keep U (by simp) bi);have a0:=dJ bb d (by decide) o4;have I:(E++[e]).length=E.length+1:=by simp
 refine h w5 ⟨⟨some ⟨gl,0,none⟩,lc,a3,c3,by rw[I];exact o5.blk u (fun hh=>u.ne U (by decide) hh),dJ (dJ ar d (by decide) o4) U (by decide) o5,by rw[I];exact di a0 fun k hk=>o5.other k (b5 k hk)⟩,hg,fun x hx=>(an x hx).keepW k5,a7,?_,by rw[I,a8];push_cast;rfl,bt,b6,a2,bd⟩ ((D.mono hB).trans (k5.below (Nat.le_trans hB D.size)));intro y R
 rcases List.mem_append.1 R with hh|hh
 ·exact b7 y hh
 ·rw[List.mem_singleton.1 hh];exact he
end
end
section
open Go.RowKit
def upC (C:Nat→Int)(i:Nat):Nat→Int:=fun k=>if k=i then C k+1 else C k
theorem Gj {C:Nat→Int}{i:Nat}:∀k,k<6→C k≤upC C i k:=by intro k _;unfold upC;split<;>omega
theorem Sc {C:Nat→Int}{i:Nat}(hi:i<6):upC C i 0+upC C i 1+upC C i 2+upC C i 3+upC C i 4+upC C i 5=C 0+C 1+C 2+C 3+C 4+C 5+1:=by
 match i,hi with
 | 0,_=>simp[upC];omega
 | 1,_=>simp[upC];omega
 | 2,_=>simp[upC];omega
 | 3,_=>simp[upC];omega
 | 4,_=>simp[upC];omega
 | 5,_=>simp[upC];omega
theorem WM.oth {w w':World}{Bw g I:Nat}{L:List (Nat×LG)}{E:List EV}{C:Nat→Int}{zs:List Value}(h:WM w Bw g L E C)(M:blk w I 54 zs)(U:Bw≤I)(V:∀(d:Option Addr) (j:Nat) u J,blk w g 47 [.slice u L.length J,.slice d E.length j]→(Value.slice d E.length j).ownBlock≠some I)(o:Oth I w w'):WM w' Bw g L E C:=by
 obtain⟨u,J,d,j,R,Z,X⟩:=h.row;exact {h with
  row:=⟨u,J,d,j,o.blk R (fun hh=>R.ne M (by decide) hh),dJ Z M (by decide) o,di X fun k hk=>o.other k (fun hh=>V d j u J R (by rw[hk,hh]))⟩
  led:=fun x hx=>(h.led x hx).keepW (o.keep (T:=Be) M (by simp) U)}
section
variable {w:World}{K:KV}
theorem UZ {w_0 x3 t4 o5 e6 f8:Value}{zf:Nat→Value}{w0:World}{Bw g tb eb i:Nat}{L:List (Nat×LG)}{E:List EV}{C:Nat→Int}{e:EV}{zs:List Value}(h0:WM w0 Bw g L E C)(bi:Below w0.heap.size w0 w)(M:Bw≤w0.heap.size)(ap:w0.heap.size≤tb)(cc:w0.heap.size≤eb)(b9:tb≠eb)(hn:E.length≤800)(hi:i<L.length)(cj:e.o=(i:Nat)+1){R:Nat×LG}(ad:L[i]? = some R)(bd:e.s=R.2.s.V.getD i 0+1)(b0:e.V=R.2.s.V)(b7:0≤e.a∧e.a≤65536)(az:blk w eb 54 (evC e))(hz:blk w tb 54 zs)(a6:zs.length=14)(q0:w_0=.pointer (some ⟨g,0,none⟩))(q4:t4=.pointer (some ⟨tb,0,none⟩))(q5:o5=.int .i64 (i:Nat))(q6:e6=.pointer (some ⟨eb,0,none⟩))(h:∀w' L' E' C' e',WM w' Bw g L' E' C'→L'.length=L.length→E'.length≤E.length+1→Below Bw w0 w'→K (.agg (evC e').toArray) w'):jG K ((km w_0 x3 t4 o5 e6 f8 zf)) w:=by
 subst q0 q4 q5 q6;have a4:=h0.pos;have X:i<6:=by omega
 refine zN ?_;have b4:=(h0.fresh bi).fresh (Below.refl _ w).drew;obtain⟨la,lc,ea,ec,g1,g2,g3⟩:=h0.row;have I:=bi.drew;have r1:=af I g1 g1.lt;have r2:w.drew.ownsRow Bw 80 1 (.slice la L.length lc) L.length (L.flatMap ptC):=di g2 fun k u=>I.block k (World.ownsRow.lt g2 k u).2
 have r3:w.drew.ownsRow Bw 54 14 (.slice ea E.length ec) E.length (E.flatMap evC):=di g3 fun k u=>I.block k (World.ownsRow.lt g3 k u).2;have an:∀k,(Value.slice ea E.length ec).ownBlock=some k→k<w0.heap.size:=fun k u=>(World.ownsRow.lt g3 k u).2;obtain⟨gl,a7,rfl,op⟩:=cY r2 (by omega);have j:=b4.led R (List.mem_of_getElem? ad);obtain⟨B,ar⟩:=j.lm
 have c0:a7[i*1]? = some (.pointer (some ⟨R.1,0,none⟩)):=by
  have:=op.cell ve rfl ad (show 0<1 by omega)
  simpa[ptC]using this
 refine aE (fun y=>blk y g 47 [.slice (some ⟨gl,0,none⟩) L.length lc,.slice ea E.length ec]∧blk y gl 80 a7∧blk y eb 54 (evC e)) ⟨r1,op.blk,az.drew⟩ <|ab (fun y J _=>aw) <|ab (fun y J _=>lV) <|ab (v:=.slice (some ⟨gl,0,none⟩) L.length lc) (fun y J _=>lK J.1 rfl) <|ab (v:=.pointer (some ⟨gl,i*1,none⟩)) (fun y J _=>nK (s:=1) rfl underlying44 (fun _=>by kernel_rfl) hi) <|ab (v:=.pointer (some ⟨R.1,0,none⟩)) (fun y J _=>lK J.2.1 c0) <|ab (v:=.agg (evC e).toArray) (fun y J _=>ldA (n:=14) (vs:=evC e) underlying54 rfl (by kernel_rfl) J.2.2 rfl rfl) ?_
 refine JL ar j.xi (j.sum (by rw[h0.sum];omega)) fun w2 B2 p2 l2 bk bt Z b2=>?_;have d:Below w0.heap.size w0 w2:=I.trans (b2.mono I.size);have be:=h0.fresh d;have al:=af b2 az.drew az.drew.lt;have ag:=af b2 hz.drew hz.drew.lt;refine aE (fun _=>True) trivial <|ab (fun y J _=>eB) <|ab (fun y J _=>eC) <|cW ?_;by_cases hf:nM e (toP R.2)≠0
 ·refine ay hf <|fS (vs:=evC ⟨0,0,0,0,0,0,0,0,0,0,0,0,0,0⟩) (by kernel_rfl) ?_;refine Nd ag a6 fun w3 o3=>?_;refine h w3 L E C _ (be.oth ag (Nat.le_trans M ap) (fun cg ch cl ck hb hh=>?_) o3) rfl (by omega) (bA (d.mono M) o3 (Nat.le_trans M ap));have e1:=af d g1 g1.lt;unfold Go.Proofs.YtgpfkmdknlcemaaGreatDoor.blk at e1 hb;rw[e1]at hb
  simp only[Option.some.injEq,Obj.cells.injEq,Array.mk.injEq,List.cons.injEq,Value.slice.injEq]at hb;obtain⟨⟨_,⟨rfl,_,rfl⟩,_⟩,_⟩:=hb
  have:=an tb hh
  omega
 refine au hf ?_;have hf:nM e (toP R.2)=0:=by simpa using hf
 have ok:=(tV j.xi.pi).1 hf;unfold ln at Z;rw[if_pos hf]at Z;have o1:=(gJ ok.may).1;have o6:=(gJ ok.may).2.1;have ei:(e.o-1).toNat=i:=by omega
 have eq:e.q=i:=ei;have os:=bd;have oV:l2.s.V=R.2.s.V.set i e.s:=by
  have:l2.s.V=Df e R.2.s.V:=congrArg PL.V Z
  rw[this];unfold Df;rw[eq,os]
 have a9:e.s≤upC C i i:=by
  have:=j.le i X
  unfold upC;rw[if_pos rfl];omega
 have a8:LC w2 p2 l2 (upC C i):=⟨⟨B2,bk⟩,bt,fun k u=>by
  rw[oV,zU (by rw[ar.v6];exact X)];split
  ·rename_i hh;rw[←hh];exact a9
  ·exact Int.le_trans (j.le k u) (Gj k u)⟩
 have a3:=af d g1 g1.lt;have b6:w2.ownsRow Bw 80 1 (.slice (some ⟨gl,0,none⟩) L.length lc) L.length (L.flatMap ptC):=di g2 fun k u=>d.block k (World.ownsRow.lt g2 k u).2;have b5:w2.ownsRow Bw 54 14 (.slice ea E.length ec) E.length (E.flatMap evC):=di g3 fun k u=>d.block k (World.ownsRow.lt g3 k u).2
 refine aw <|lV <|lK (v:=.slice (some ⟨gl,0,none⟩) L.length lc) a3 rfl <|nK (s:=1) rfl underlying44 (fun _=>by kernel_rfl) hi ?_;obtain⟨ce,ca,bW,aS⟩:=cY b6 (by omega);cases bW;refine RE a3 aS b5 (fun x hx=>(be.led x hx).up Gj) a8 hi rfl fun w3 s1 s2 s3 s4 k3 o3=>?_;have U:(L.set i (p2,l2)).length=L.length:=List.length_set ..
 have bb:eb≠gl:=fun hh=>absurd (sJ al (hh ▸ aS.blk)) (by decide);have a2:tb≠gl:=fun hh=>absurd (sJ ag (hh ▸ aS.blk)) (by decide);have b3:Bw≤w2.heap.size:=Nat.le_trans M d.size;have B3:Below Bw w0 w3:=(d.mono M).trans (k3.below b3);have b8:WP (L.set i (p2,l2)).length ((L.set i (p2,l2)).map fun x=>toP x.2) (E++[e]):=by
  rw[U,List.map_set];have hm:=h0.wp.make (i:=i) (l:=toP R.2) (e:=e) (by rw[List.getElem?_map,ad];rfl) ok eq fun k _=>by rw[b0];rfl
  rw[←Z]at hm;exact hm
 have a0:∀(k:Nat) x,(L.set i (p2,l2))[k]? = some x→x.2.s.V.getD k 0=upC C i k:=fun k x hx=>by
  rw[List.getElem?_set]at hx;by_cases av:i=k
  ·subst av;rw[if_pos rfl,if_pos hi]at hx;cases hx;rw[oV,zU (by rw[ar.v6];exact X),if_pos rfl,os,h0.own i R ad];unfold upC;rw[if_pos rfl]
  ·rw[if_neg av]at hx;rw[h0.own k x hx];unfold upC;rw[if_neg (fun hh=>av hh.symm)]
 have bv:∀y∈E++[e],y.a≤65536:=fun y J=>by
  rcases List.mem_append.1 J with hh|hh
  ·exact h0.am y hh
  ·rw[List.mem_singleton.1 hh];exact b7.2
 refine UY s1 s2 s3 s4 (fun y J=>⟨(h0.ev y J).1,(h0.ev y J).2.1,?_⟩) ⟨o1,o6,by rw[ei];exact a9⟩ (by rw[Sc X,h0.sum]) (fun k u=>Int.le_trans (h0.c0 k u) (Gj k u)) (by rw[U];exact a4) b8 a0 bv (by omega) (Nat.le_trans M B3.size) h0.lo (o3.blk al bb) (o3.blk ag a2) a6 (fun k u=>⟨by have:=an k u;omega,by have:=an k u;omega⟩) b9 (Nat.le_trans M ap) rfl rfl rfl fun w' hw b=>h w' _ _ _ _ hw U (by simp) (B3.trans b)
 have h6:=h0.ev y J;exact Int.le_trans h6.2.2 (Gj _ (by omega))
end
end
section
open Go.RowKit
section
variable {w:World}{K:KV}
theorem Vw {Bw g:Nat}{L:List (Nat×LG)}{E:List EV}{C:Nat→Int}{x:AC}(h0:WM w Bw g L E C)(a8:Bw≤w.heap.size)(hn:E.length≤800)(R:ER x)(h:∀w' L' E' C' e',WM w' Bw g L' E' C'→L'.length=L.length→E'.length≤E.length+1→Below Bw w w'→K (.agg (evC e').toArray) w'):call Tryz.prog 19 #[.pointer (some ⟨g,0,none⟩),.agg (acC x).toArray] K w:=by
 refine aB (goK func19) (Bb ?_);refine dc fun w1 ap b1 s1=>?_;have ap:blk w1 w.heap.size 74 (acC x):=by simpa[Value.cells]using ap
 refine dH (z:=.agg (evC ⟨0,0,0,0,0,0,0,0,0,0,0,0,0,0⟩).toArray) (by kernel_rfl) fun w2 J b2 s2=>?_;have J:blk w2 w1.heap.size 54 (evC ⟨0,0,0,0,0,0,0,0,0,0,0,0,0,0⟩):=by simpa[Value.cells]using J
 rw[s1]at J ⊢;have aS:=(af b2 ap ap.lt).drew;have J:=J.drew;have ar:Below w.heap.size w w2.drew:=(b1.trans (b2.mono (by omega))).drew;have a3:=h0.fresh ar;obtain⟨la,lc,ea,ec,u,ag,ad⟩:=a3.row;obtain⟨c3,cQ,cI,cL,g1,g2,g3⟩:=h0.row;have hp:=h0.pos;obtain⟨i,hi⟩:∃i:Nat,i=(x.who%(L.length:Nat)).toNat:=⟨_,rfl⟩
 have cX:0≤x.who%((L.length:Nat):Int):=Int.emod_nonneg _ (by omega);have c1:x.who%((L.length:Nat):Int)<(L.length:Nat):=Int.emod_lt_of_pos _ (by omega);have U:i<L.length:=by omega
 refine aa (fun _=>JM) <|aa (v:=kv8 x.who) (fun _=>lK aS rfl) <|aa (v:=.int .i64 x.who) (fun K hK=>eK underlying5 underlying3 (by rw[dP (by have:=R.1;omega) (by have:=R.1;omega)];exact hK)) <|aa (fun _=>aw) <|aa (fun _=>lV) <|aa (v:=.slice la L.length lc) (fun _=>lK u rfl) <|aa (fun _=>bx underlying44) <|aa (v:=.int .i64 ((i:Nat):Int)) (fun K hK=>yc R.1.1 (by omega) (by rw[show x.who%((L.length:Nat):Int)=(i:Nat)by omega];exact hK)) <|PK <|lK (v:=.bool x.meet) aS rfl ?_
 refine ui (fun hd=>?_) (fun hd=>?_)
 ·obtain⟨j,hj⟩:∃j:Nat,j=(x.other%(L.length:Nat)).toNat:=⟨_,rfl⟩
  have cp:0≤x.other%((L.length:Nat):Int):=Int.emod_nonneg _ (by omega);have cG:x.other%((L.length:Nat):Int)<(L.length:Nat):=Int.emod_lt_of_pos _ (by omega);have bi:j<L.length:=by omega
  have Z:L[i]? = some L[i]:=List.getElem?_eq_getElem U;generalize L[i]=pl at Z;have a6:L[j]? = some L[j]:=List.getElem?_eq_getElem bi;generalize L[j]=ql at a6;have u:=u.drew;have bb:=aS.drew;have bd:=a3.fresh (Below.refl _ w2.drew).drew;have ag:w2.drew.drew.ownsRow Bw 80 1 (.slice la L.length lc) L.length (L.flatMap ptC):=ag
  have ad:w2.drew.drew.ownsRow Bw 54 14 (.slice ea E.length ec) E.length (E.flatMap evC):=ad;have M:=ar.drew;have a7:=bd.led pl (List.mem_of_getElem? Z);have a4:=bd.led ql (List.mem_of_getElem? a6);obtain⟨Bj,I⟩:=a4.lm;obtain⟨gl,av,rfl,op⟩:=cY ag (by omega);have ci:av[i*1]? = some (.pointer (some ⟨pl.1,0,none⟩)):=by
   have:=op.cell ve rfl Z (show 0<1 by omega)
   simpa[ptC]using this
  have cj:av[j*1]? = some (.pointer (some ⟨ql.1,0,none⟩)):=by
   have:=op.cell ve rfl a6 (show 0<1 by omega)
   simpa[ptC]using this
  refine aE (fun y=>blk y g 47 [.slice (some ⟨gl,0,none⟩) L.length lc,.slice ea E.length ec]∧blk y gl 80 av∧blk y w.heap.size 74 (acC x)∧blk y ql.1 79 (lgC ql.2)) ⟨u,op.blk,bb,I.cl⟩ <|ab (fun y d _=>aw) <|ab (fun y d _=>lV) <|ab (v:=.slice (some ⟨gl,0,none⟩) L.length lc) (fun y d _=>lK d.1 rfl) <|ab (fun y d _=>aw) <|ab (fun y d _=>lV) <|ab (v:=.slice (some ⟨gl,0,none⟩) L.length lc) (fun y d _=>lK d.1 rfl) <|ab (v:=.pointer (some ⟨gl,i*1,none⟩)) (fun y d _=>nK (s:=1) rfl underlying44 (fun _=>by kernel_rfl) U) <|ab (v:=.pointer (some ⟨pl.1,0,none⟩)) (fun y d _=>lK d.2.1 ci) <|ab (fun y d _=>aw) <|ab (fun y d _=>xX) <|ab (v:=.slice ea E.length ec) (fun y d _=>lK d.1 rfl) <|ab (fun y d _=>aw) <|ab (fun y d _=>lV) <|ab (v:=.slice (some ⟨gl,0,none⟩) L.length lc) (fun y d _=>lK d.1 rfl) <|ab (fun y d _=>PN) ?_
  refine ab (v:=kv8 x.other) (fun y d _=>lK d.2.2.1 rfl) <|ab (v:=.int .i64 x.other) (fun y d K hK=>eK underlying5 underlying3 (by rw[dP (by have:=R.2.1;omega) (by have:=R.2.1;omega)];exact hK)) <|ab (fun y d _=>aw) <|ab (fun y d _=>lV) <|ab (v:=.slice (some ⟨gl,0,none⟩) L.length lc) (fun y d _=>lK d.1 rfl) <|ab (fun y d _=>bx underlying44) <|ab (v:=.int .i64 ((j:Nat):Int)) (fun y d K hK=>yc R.2.1.1 (by omega) (by rw[show x.other%((L.length:Nat):Int)=(j:Nat)by omega];exact hK)) <|ab (v:=.pointer (some ⟨gl,j*1,none⟩)) (fun y d _=>nK (s:=1) rfl underlying44 (fun _=>by kernel_rfl) bi) <|ab (v:=.pointer (some ⟨ql.1,0,none⟩)) (fun y d _=>lK d.2.1 cj) <|ab (fun y d _=>aw) <|ab (fun y d _=>bq) <|ab (fun y d _=>qf) <|ab (v:=.agg (ql.2.s.V.map u6).toArray) (fun y d _=>ldA (n:=6) (vs:=ql.2.s.V.map u6) underlying26 rfl (by kernel_rfl) d.2.2.2 I.cutV (by simp[I.v6])) ?_
  refine RZ h0.wp.hist a7 (h0.wp.lk _ (List.mem_map.2 ⟨pl,List.mem_of_getElem? Z,rfl⟩)) (by rw[h0.sum];omega) h0.ev rfl (by omega) I.v6 ad fun w4 p4 l4 X b4=>?_;have a0:Below w.heap.size w w4:=M.trans (b4.mono M.size);have cc:=h0.fresh a0
  refine aO ⟨af b4 u u.lt,af b4 op.blk op.blk.lt,af b4 bb bb.lt,af b4 I.cl I.cl.lt⟩ <|ab (v:=.pointer (some ⟨gl,i*1,none⟩)) (fun y d _=>nK (s:=1) rfl underlying44 (fun _=>by kernel_rfl) U) ?_;have bt:Opn w4 Bw 80 1 L.length lc gl av (L.flatMap ptC):=⟨af b4 op.blk op.blk.lt,op.lo,op.nc,op.cm,op.len,op.take,op.xl⟩
  have az:=af b4 J.drew J.drew.lt;refine RE (af b4 u u.lt) bt (di ad fun k hk=>b4.block k (World.ownsRow.lt ad k hk).2) cc.led X.lc U rfl fun w5 a2 b9 b6 ce k5 o5=>?_;have al:(L.set i (p4,l4)).length=L.length:=List.length_set ..;have ca:w.heap.size+1≠gl:=fun hh=>absurd (sJ az (hh ▸ bt.blk)) (by decide);have an:=o5.blk az ca;have b0:i<6:=by omega
  have b7:WP (L.set i (p4,l4)).length ((L.set i (p4,l4)).map fun x=>toP x.2) E:=by
   rw[al,List.map_set];refine h0.wp.learn (l:=toP pl.2) (by rw[List.getElem?_map,Z];rfl) X.lk X.gr fun k m hm=>?_;rw[List.getElem?_map]at hm;cases hx:L[k]? with
   | none=>rw[hx]at hm;cases hm
   | some y =>
    rw[hx]at hm;cases hm;have hk:k<L.length:=(List.getElem?_eq_some_iff.1 hx).1
    have:=h0.own k y hx
    have h4:=X.lc.le k (by omega);show l4.s.V.getD k 0≤y.2.s.V.getD k 0;omega
  have be:∀(k:Nat) x,(L.set i (p4,l4))[k]? = some x→x.2.s.V.getD k 0=C k:=fun k x hx=>by
   rw[List.getElem?_set]at hx;by_cases bk:i=k
   ·subst bk;rw[if_pos rfl,if_pos U]at hx;cases hx;have h1:=X.lc.le i b0;have h2:=X.gr i;have h3:=h0.own i pl Z;show l4.s.V.getD i 0=C i;omega
   ·rw[if_neg bk]at hx;exact h0.own k x hx
  have b8:WM w5 Bw g (L.set i (p4,l4)) E C:=⟨⟨_,_,_,_,a2,b9,b6⟩,h0.lo,ce,by rw[al];exact hp,h0.ev,h0.sum,h0.c0,b7,be,h0.am⟩
  have B5:Below Bw w w5:=(a0.mono a8).trans (k5.below (Nat.le_trans a8 a0.size));refine fS (vs:=evC ⟨0,0,0,0,0,0,0,0,0,0,0,0,0,0⟩) (by kernel_rfl) ?_;refine Nd an rfl fun w6 o6=>?_;refine h w6 _ E C _ (b8.oth an (by omega) (fun c2 cV cD cO hb hh=>?_) o6) al (by omega) (bA B5 o6 (by omega));unfold Go.Proofs.YtgpfkmdknlcemaaGreatDoor.blk at hb a2;rw[a2]at hb
  simp only[Option.some.injEq,Obj.cells.injEq,Array.mk.injEq,List.cons.injEq,Value.slice.injEq]at hb;obtain⟨⟨_,⟨rfl,_,rfl⟩,_⟩,_⟩:=hb;have e1:=af M g1 g1.lt;unfold Go.Proofs.YtgpfkmdknlcemaaGreatDoor.blk at e1 u;rw[e1]at u;simp only[Option.some.injEq,Obj.cells.injEq,Array.mk.injEq,List.cons.injEq,Value.slice.injEq]at u;obtain⟨⟨_,⟨rfl,_,rfl⟩,_⟩,_⟩:=u
  have:=(World.ownsRow.lt g3 _ hh).2
  omega
 ·refine ldA (n:=9) (vs:=acC x) underlying74 rfl (by kernel_rfl) aS rfl rfl ?_;refine Sa a3 (by omega) R fun w3 e i' pl ck bv he cg bW ch b3=>?_;obtain rfl:i'=i:=by omega
  have M:Below w.heap.size w w3:=ar.trans (b3.mono ar.size);refine dH (z:=.agg (evC ⟨0,0,0,0,0,0,0,0,0,0,0,0,0,0⟩).toArray) (by kernel_rfl) fun w4 h4 b4 s4=>?_;have h4:blk w4 w3.heap.size 54 (evC ⟨0,0,0,0,0,0,0,0,0,0,0,0,0,0⟩):=by simpa[Value.cells]using h4
  refine iz (n:=14) (vs:=evC e) (by kernel_rfl) rfl h4 (by show 0+14≤14;omega) (vw _) fun w5 h5 o5=>?_;have h5:blk w5 w3.heap.size 54 (evC e):=h5;have a9:=af b3 J J.lt;have az:=af b4 a9 a9.lt;have cn:=a9.lt;have an:=o5.blk az (by omega);have b5:Below w.heap.size w w5:=M.trans (bA (b4.mono M.size) o5 M.size)
  exact UZ h0 b5 a8 (by omega) M.size (by omega) hn U he bv cg bW ch h5 an rfl rfl rfl rfl rfl h
end
end
section
open Go.RowKit
structure AR (w:World) (a:Option Addr) (n c:Nat) (X:List AC):Prop where
 len:X.length=n
 some_:0<n→∃b o,a=some ⟨b,o,none⟩
 cell:∀(i:Nat) (x:AC),X[i]? = some x→∀b o,a=some ⟨b,o,none⟩→∀(j:Nat) (u:Value),(acC x)[j]? = some u→w.cell? ⟨b,o+i*9+j,none⟩=some u
 ok:∀x∈X,ER x
theorem AR.bel {w w':World}{B:Nat}{a:Option Addr}{n c:Nat}{X:List AC}(h:AR w a n c X)(M:Below B w w')(R:w.heap.size≤B):AR w' a n c X :=
 ⟨h.len,h.some_,fun i x I b o J j u C=>by
  have:=h.cell i x I b o J j u C
  have d:=World.block_lt_of_cell? w _ this;rw[M.cell (p:=⟨b,o+i*9+j,none⟩) (Nat.lt_of_lt_of_le d R)];exact this,h.ok⟩
theorem WM.othS {w w':World}{Bw g M:Nat}{L:List (Nat×LG)}{E:List EV}{C:Nat→Int}{zs:List Value}(h:WM w Bw g L E C)(u:blk w M 30 zs)(o:Oth M w w'):WM w' Bw g L E C:=by
 obtain⟨U,lc,Z,ec,R,X,V⟩:=h.row;have j:Keep [30] 0 w w':=o.keep u (by simp) (Nat.zero_le _);exact {h with
  row:=⟨U,lc,Z,ec,o.blk R (fun hh=>R.ne u (by decide) hh),dJ X u (by decide) o,dJ V u (by decide) o⟩
  led:=fun x J=>⟨(h.led x J).lm.imp fun B d =>
   {d with
    cl:=j.blk d.cl (.inr (by decide))
    nd:=dW d.nd j (by decide)
    gr:=dW d.gr j (by decide)
    tm:=d.tm.keep j (by decide) (by decide)
    rq:=fun k I => (d.rq k I).imp fun a=>Exists.imp fun c hh=>⟨hh.1,dW hh.2 j (by decide)⟩},(h.led x J).xi,(h.led x J).le⟩}
section
variable {w:World}{K:KV}
theorem Vx {a:Option Addr}{n c i b o:Nat}{X:List AC}{x:AC}(h:AR w a n c X)(I:a=some ⟨b,o,none⟩)(C:X[i]? = some x)(hK:K (.agg (acC x).toArray) w):ld Tryz.prog 74 (.pointer (some ⟨b,o+i*9,none⟩)) K w :=
 Gx (run_loadVar_mid w b (o+i*9) 74 (acC x) _ (fun j u d=>h.cell i x C b o I j u d) underlying74 rfl (by kernel_rfl)) hK
theorem Sd {n0 pk:Int}{a:Option Addr}{n c:Nat}{X:List AC}(az:0≤n0∧n0≤255)(an:0≤pk∧pk≤255)(hX:AR w a n c X)(hn:n≤60)(h:∀(w':World) (Bw g:Nat) L E C s,WM w' Bw g L E C→(L.length:Int)=1+n0%6→E.length≤60→SK w' s→Below w.heap.size w w'→K (.tuple #[.pointer (some ⟨g,0,none⟩),.agg (saC s).toArray]) w'):call Tryz.prog 7 #[kv8 n0,.slice a n c,kv8 pk] K w:=by
 refine aB (goK func7) (DS ?_);refine dH (z:=.agg (saC ⟨List.replicate 6 false,List.replicate 6 false,List.replicate 6 0,[],none,0,.slice none 0 0⟩).toArray) (by kernel_rfl) fun w1 h1 b1 s1=>?_;have h1:blk w1 w.heap.size 30 (saC ⟨List.replicate 6 false,List.replicate 6 false,List.replicate 6 0,[],none,0,.slice none 0 0⟩):=by simpa[Value.cells]using h1
 generalize a0:saC ⟨List.replicate 6 false,List.replicate 6 false,List.replicate 6 0,[],none,0,.slice none 0 0⟩=zs at h1;have be:zs.length=20:=by rw[←a0];rfl
 refine eK underlying5 underlying3 ?_;rw[dP (by omega) (by omega)];refine yc az.1 (by omega) ?_;have hm:0≤n0%6∧n0%6<6:=⟨Int.emod_nonneg _ (by omega),Int.emod_lt_of_pos _ (by omega)⟩
 obtain⟨m,a3⟩:∃m:Nat,1+n0%6=(m:Nat):=⟨(1+n0%6).toNat,by omega⟩
 refine aR (by omega) (by omega) ?_;rw[a3];refine Nc (n:=m) (by omega) (by omega) fun w2 g L hw hL b2=>?_;have Z:Below w.heap.size w w2:=b1.trans (b2.mono b1.size);have h2:=af b2 h1 h1.lt
 refine Ct (Inv:=fun i wr=>∃(k:Nat) (L:List (Nat×LG)) (E:List EV) (C:Nat→Int),i=.int .i64 (k:Nat)∧k≤n∧WM wr w1.heap.size g L E C∧L.length=m∧E.length≤k∧blk wr w.heap.size 30 zs∧Below w.heap.size w wr∧w1.heap.size≤wr.heap.size) (μ:=fun i _=>n-(intOf i).toNat) ⟨0,L,[],_,rfl,by omega,hw,hL,Nat.le_refl _,h2,Z,b2.size⟩ ?_;rintro _ dd w3 mu ⟨k,L3,E3,C3,rfl,hk,J,bd,a6,h3,u,U⟩ am
 refine bx underlying22 <|aV ?_;by_cases a2:k<n
 ·refine ay (by omega) ?_;have ap:k<X.length:=by rw[hX.len];exact a2
  have hx:X[k]? = some X[k]:=List.getElem?_eq_getElem ap;generalize X[k]=x at hx;obtain⟨b,o,ha⟩:=hX.some_ (by omega);subst ha;refine eu underlying22 (s:=9) (fun _=>by kernel_rfl) (by omega) (by omega) ?_;rw[Int.toNat_natCast];refine Vx (hX.bel u (Nat.le_refl _)) rfl hx ?_;refine Vw J U (by omega) (hX.ok x (List.mem_of_getElem? hx)) fun w4 L4 E4 C4 e4 aS a8 a9 b4=>?_
  refine aR (by omega) (by omega) ?_;refine⟨⟨k+1,L4,E4,C4,ivS,by omega,aS,by omega,by omega,af b4 h3 (by omega),u.trans (b4.mono (by omega)),Nat.le_trans U b4.size⟩,?_⟩;rw[am];show n-((k:Int)+1).toNat<n-(k:Int).toNat;omega
 ·refine au (by omega) <|Cu ?_;have M:=J.fresh (Below.refl _ w3).drew;have h5:=h3.drew;have hp:=J.pos;obtain⟨la,lc,ea,ec,al,ad,_⟩:=M.row;obtain⟨i,hi⟩:∃i:Nat,i=(pk%(L3.length:Nat)).toNat:=⟨_,rfl⟩
  have a4:0≤pk%((L3.length:Nat):Int):=Int.emod_nonneg _ (by omega);have bi:pk%((L3.length:Nat):Int)<(L3.length:Nat):=Int.emod_lt_of_pos _ (by omega);have ag:i<L3.length:=by omega
  have R:L3[i]? = some L3[i]:=List.getElem?_eq_getElem ag;generalize L3[i]=pl at R;have I:=M.led pl (List.mem_of_getElem? R);obtain⟨B,d⟩:=I.lm;obtain⟨gl,ar,ha,op⟩:=cY ad (by omega);have c0:ar[i*1]? = some (.pointer (some ⟨pl.1,0,none⟩)):=by
   have:=op.cell ve rfl R (show 0<1 by omega)
   simpa[ptC]using this
  refine aa (fun _=>aw) <|aa (fun _=>lV) <|aa (v:=.slice la L3.length lc) (fun _=>lK al rfl) <|aa (v:=.int .i64 pk) (fun K hK=>eK underlying5 underlying3 (by rw[dP (by omega) (by omega)];exact hK)) <|aa (fun _=>aw) <|aa (fun _=>lV) <|aa (v:=.slice la L3.length lc) (fun _=>lK al rfl) <|aa (fun _=>bx underlying44) <|aa (v:=.int .i64 ((i:Nat):Int)) (fun K hK=>yc an.1 (by omega) (by rw[show pk%((L3.length:Nat):Int)=(i:Nat)by omega];exact hK)) <|aa (v:=.pointer (some ⟨gl,i*1,none⟩)) (fun _=>nK (s:=1) ha underlying44 (fun _=>by kernel_rfl) ag) <|aa (v:=.pointer (some ⟨pl.1,0,none⟩)) (fun _=>lK op.blk c0) <|aa (fun _=>aw) <|aa (fun _=>bq) <|aa (v:=.agg (saC pl.2.s).toArray) (fun _=>ldA (n:=20) (vs:=saC pl.2.s) underlying30 rfl (by kernel_rfl) d.cl d.cutS d.sl) ?_
  have kS:∀w6,Oth w.heap.size w3.drew w6→LM w6 B pl.1 pl.2:=fun w6 o6 =>
   have kk:Keep [30] 0 w3.drew w6:=o6.keep h5 (by simp) (Nat.zero_le _)
   {d with
    cl:=kk.blk d.cl (.inr (by decide))
    nd:=dW d.nd kk (by decide)
    gr:=dW d.gr kk (by decide)
    tm:=d.tm.keep kk (by decide) (by decide)
    rq:=fun k av => (d.rq k av).imp fun a=>Exists.imp fun c hh=>⟨hh.1,dW hh.2 kk (by decide)⟩}
  have V:∀v∈saC pl.2.s,v.oneCell'=true:=by
   intro v hv;unfold saC at hv;rw[d.gv]at hv;simp only[List.mem_append,List.mem_map,List.mem_cons,List.not_mem_nil,or_false]at hv;rcases hv with((⟨_,_,rfl⟩|⟨_,_,rfl⟩)|⟨_,_,rfl⟩)|(rfl|rfl)<;>rfl
  refine iz (n:=20) (vs:=saC pl.2.s) (by kernel_rfl) d.sl h5 (by omega) V fun w6 h6 o6=>?_;have h6:blk w6 w.heap.size 30 (saC pl.2.s):=by
   rw[List.take_zero,List.nil_append,List.drop_of_length_le (by omega),List.append_nil]at h6;exact h6
  have hr:=run_loadVar_mid (P:=Tryz.prog) w6 w.heap.size 0 30 (saC pl.2.s) _ (fun j v hj=>by rw[h6.cell,Nat.zero_add];exact hj) underlying30 rfl (by rw[d.sl];kernel_rfl);have e:(ks [(none,.pointer (some ⟨g,0,none⟩)),(some 30,.pointer (some ⟨w.heap.size,0,none⟩))]).run Tryz.prog w6=.ok (.tuple #[.pointer (some ⟨g,0,none⟩),.agg (saC pl.2.s).toArray]) w6:=by
   simp[ks,asAddr,Sem.run_bind,hr]
  unfold bM;rw[e];have a7:=I.xi.n30;have bb:=I.sum (by rw[J.sum];omega);exact⟨rfl,h w6 _ g L3 E3 C3 pl.2.s (M.othS h5 o6) (by omega) (by omega) ((kS w6 o6).sk (by omega)) (bA u.drew o6 (Nat.le_refl _))⟩
end
end
section
open Go.RowKit
theorem CJ {F:List Nat}{w w':World}{B s n:Nat}{e:TypeId}{v:Value}{xs:List Value}(h:w.ownsRow B e s v n xs)(u:Ch F w w')(hF:∀x∈F,x<B):w'.ownsRow B e s v n xs :=
 di h fun k d=>u.block k (World.ownsRow.lt h k d).2 fun j=>by have:=hF k j;have:=(World.ownsRow.lt h k d).1;omega
theorem SO.ch {F:List Nat}{w w':World}{B:Nat}{s:PL}{t:STA}{d:Option Addr}{gc:Nat}(h:SO w B s t d gc)(j:Ch F w w')(hF:∀x∈F,x<B):SO w' B s t d gc :=
 {h with nd:=CJ h.nd j hF,gr:=CJ h.gr j hF}
theorem SO.below {w w':World}{B:Nat}{s:PL}{t:STA}{j:Option Addr}{gc:Nat}(h:SO w B s t j gc)(u:Below w.heap.size w w'):SO w' B s t j gc :=
 {h with nd:=di h.nd fun k d=>u.block k (World.ownsRow.lt h.nd k d).2,gr:=di h.gr fun k d=>u.block k (World.ownsRow.lt h.gr k d).2}
theorem ES {t:STA}{s:PL}(d:t.I=s.I)(j:t.L=s.L)(h:t.nodes=s.N)(i:Int):xD t i=mT s.I s.L s.N i:=by
 rw[←d, ←j, ←h];rfl
theorem TP {i C d j u:Int}{V:List Int}(h:V.length=6):Tryz.prog.built 54 [(0,iv i),(1,u6 C),(2,.agg (vCs V).toArray),(3,.int .u8 5),(4,u6 d),(5,iv j),(6,iv u)]=some (evC ⟨i,C,V.getD 0 0,V.getD 1 0,V.getD 2 0,V.getD 3 0,V.getD 4 0,V.getD 5 0,5,d,j,u,0,0⟩).toArray:=by
 obtain⟨_,_,_,_,_,_,rfl⟩:=ud h
 kernel_rfl
theorem PQ {w:World}{K:KV}{b o:Nat}(h:K (.pointer (some ⟨b,o+0,none⟩)) w):ai Tryz.prog 61 (.pointer (some ⟨b,o,none⟩)) 0 K w:=aM (by kernel_rfl) h
theorem PS {w:World}{K:KV}{b o:Nat}(h:K (.pointer (some ⟨b,o+1,none⟩)) w):ai Tryz.prog 61 (.pointer (some ⟨b,o,none⟩)) 1 K w:=aM (by kernel_rfl) h
theorem PT {w:World}{K:KV}{b o:Nat}(h:K (.pointer (some ⟨b,o+2,none⟩)) w):ai Tryz.prog 61 (.pointer (some ⟨b,o,none⟩)) 2 K w:=aM (by kernel_rfl) h
theorem PU {w:World}{K:KV}{b o:Nat}(h:K (.pointer (some ⟨b,o+3,none⟩)) w):ai Tryz.prog 61 (.pointer (some ⟨b,o,none⟩)) 3 K w:=aM (by kernel_rfl) h
section
variable {w:World}{K:KV}{q:LB}{s s0:PL}
theorem V0 {n0 bI bK n3 w_7 l10 e11 i12 cA bj bB q16 i17 cq j19 cE i22 dR dF q25 ch cp az bv am Z bW be bk bb b8 a4 X a2 ar bi ag bt a6 b7 bd a9 b3 an b6 a7 a0 al b0 ap a8 a3 av:Value}{zf:Nat→Value}{B1:KE}{B n c:Nat}{a:Option Addr}{i:Int}{d r0:List Ent}{p qn:Nat}(h:PM w q s)(hR:RunI s0 s d)(cc:s.G=s0.G)(b9:PI s0)(hB:∀k∈q.l,k<B)(hp:p<6)(cL:i=(p:Nat)+1)(hn:(mT s0.I s0.L s0.N i).length=n)(c8:n≤100000)(c7:d.length≤100000)(da:qn≤100000)(hA:w.ownsRow B 61 6 (.slice a n c) n ((mT s0.I s0.L s0.N i).flatMap aqC))(hT:∃T,FX s0 T∧∀j x,(mT s0.I s0.L s0.N i)[j]? = some x→∃r,T=(d++(mI s0 i).take j)++(i,x.1,x.2.1,x.2.2)::r)(cG:l10=pB q.p)(cm:bB=iv (d.length:Nat))(aS:q16=iv (qn:Nat))(cV:i17=iv i)(cX:cq=.slice a n c)(cO:j19=iv 0)(ca:∀(e:List Value) (w':World) s',gd e 15=iv ((d++mI s0 i).length:Nat)→gd e 16=iv ((qn+1:Nat):Int)→PM w' q s'→RunI s0 s' (d++mI s0 i)→s'.G=s0.G→Ch q.w w w'→B1 e w'):kX K B1 ((aD n0 bI bK n3 w_7 l10 e11 i12 cA bj bB q16 i17 cq j19 cE i22 dR dF q25 ch cp az bv am Z bW be bk bb b8 a4 X a2 ar bi ag bt a6 b7 bd a9 b3 an b6 a7 a0 al b0 ap a8 a3 av zf)) w:=by
 subst cG cm aS cV cX cO;obtain⟨T,cj,cQ⟩:=hT;have cD:∀k∈q.w,k<B:=fun k hk=>hB k (LB.wl k hk);refine yZ (Inv:=fun mv jv wr=>∃(k:Nat) (s':PL),jv=iv (k:Nat)∧k≤n∧mv=iv ((d++(mI s0 i).take k).length:Nat)∧PM wr q s'∧RunI s0 s' (d++(mI s0 i).take k)∧s'.G=s0.G∧Ch q.w w wr) (μ:=fun _ jv _=>n-(intOf jv).toNat) ⟨0,s,rfl,by omega,by simp,h,by simpa using hR,cc,Ch.refl _ _⟩ ?_
 rintro _ _ dd M m ⟨k,s',rfl,hk,rfl,p1,R1,G1,c1⟩ hm;refine bx underlying58 <|aV ?_;by_cases J:k<n
 ·refine ay (by omega) ?_;have U:(mT s0.I s0.L s0.N i)[k]? = some (mT s0.I s0.L s0.N i)[k]:=List.getElem?_eq_getElem (by omega);generalize (mT s0.I s0.L s0.N i)[k]=x at U;have c2:=CJ hA c1 cD;refine JD (enc:=aqC) (s:=6) underlying58 (fun _=>by kernel_rfl) underlying61 rfl (by kernel_rfl) MY c2 hn U fun _=>?_
  refine dH (z:=.agg (#[.int .u8 0,.int .u64 0,iv 0,iv 0,.int .u64 0,.int .u64 0])) (by kernel_rfl) fun w2 g2 b2 s2=>?_;have g2:blk w2 M.heap.size 61 [.int .u8 0,.int .u64 0,iv 0,iv 0,.int .u64 0,.int .u64 0]:=by simpa[Value.cells]using g2
  refine iz (n:=6) (vs:=aqC x) (by kernel_rfl) rfl g2 (by show 0+6≤6;omega) (MZ _) fun w3 R o3=>?_;have R:blk w3 M.heap.size 61 (aqC x):=R;have dg:((d++(mI s0 i).take k).length:Int)≤200000:=by
   rw[List.length_append,List.length_take];have:=Nat.min_le_left k (mI s0 i).length;omega
  refine aR (by omega) (by omega) ?_;have B3:Below M.heap.size M w3:=bA b2 o3 (Nat.le_refl _);have p3:=(p1.below B3).drew;have R:=R.drew;have B3:=B3.drew;obtain⟨r,cg⟩:=cQ k x U;have ck:FX s0 ((d++(mI s0 i).take k)++(i,x.1,x.2.1,x.2.2)::r):=cg ▸ cj;obtain⟨cn,ad⟩:=Rp b9 ck R1;have C:=R1.pi;have cl:=C.vb p hp;have c4:s'.V.getD p 0<1099511627776:=cl.2;have ce:=C.v6
  refine aE (fun z=>blk z M.heap.size 61 (aqC x)∧PM z q s') ⟨R,p3⟩ <|ab (v:=iv (p:Nat)) (fun z u K hK=>bg (by omega) (by omega) (by rw[cL,show (p:Int)+1-1=(p:Nat)by omega];exact hK)) <|ab (fun z u _=>PQ) <|ab (v:=.int .u8 5) (fun z u _=>lK u.1 rfl) <|ab (fun z u _=>PS) <|ab (v:=u6 x.1) (fun z u _=>lK u.1 rfl) <|ab (fun z u _=>PT) <|ab (v:=iv x.2.1) (fun z u _=>lK u.1 rfl) <|ab (fun z u _=>PU) <|ab (v:=iv x.2.2) (fun z u _=>lK u.1 rfl) ?_
  refine JZ p3 fun w4 b4=>?_;have p4:=p3.below b4;have g4:=af b4 R R.lt;refine aO ⟨g4,p4⟩ <|ab (v:=u6 (s'.V.getD p 0)) (fun z u _=>RR underlying26 (fun _=>by kernel_rfl) (fun _=>by kernel_rfl) hp (K0 (by omega))) <|ab (v:=u6 (s'.V.getD p 0+1)) (fun z u K hK=>kf (by rw[hZ,show (s'.V.getD p 0+1)%18446744073709551616=s'.V.getD p 0+1 by omega];exact hK)) ?_;refine JZ p4 fun w5 b5=>?_
  have p5:=p4.below b5;refine aO ⟨af b5 g4 g4.lt,p5⟩ ?_;have ev:(⟨i,s'.V.getD p 0+1,s'.V.getD 0 0,s'.V.getD 1 0,s'.V.getD 2 0,s'.V.getD 3 0,s'.V.getD 4 0,s'.V.getD 5 0,5,x.1,x.2.1,x.2.2,0,0⟩:EV)=mkE s' (i,x.1,x.2.1,x.2.2):=by
   unfold mkE;dsimp only;rw[show (i-1).toNat=p by omega]
  refine ab (v:=.agg (evC (mkE s' (i,x.1,x.2.1,x.2.2))).toArray) (fun z u _=>fS (vs:=evC (mkE s' (i,x.1,x.2.1,x.2.2))) (by rw[←ev];exact TP ce)) ?_;have h0:=(tV C).2 cn;refine EW p5 C fun w6 p6 c6=>?_;rw[h0];refine aE (fun _=>True) trivial <|ab (fun z u _=>cW) <|au (by simp) <|aR (by omega) (by omega) ?_
  have cI:ln (mkE s' (i,x.1,x.2.1,x.2.2)) s'=eff (mkE s' (i,x.1,x.2.1,x.2.2)) s':=by unfold ln;rw[if_pos h0]
  rw[cI]at p6;have c9:=p1.lt;have c3:Ch q.w w w3.drew:=c1.trans (Ch.of_below B3:Ch [] M w3.drew) (by simp);have c5:Ch q.w w w5:=(c3.trans (Ch.of_below b4:Ch [] w3.drew w4) (by simp)).trans (Ch.of_below b5:Ch [] w4 w5) (by simp);have ht:d++(mI s0 i).take (k+1)=(d++(mI s0 i).take k)++[(i,x.1,x.2.1,x.2.2)]:=by rw[Rs U,List.append_assoc]
  refine⟨⟨k+1,_,ivS,by omega,?_,p6,by rw[ht];exact ad,G1,c5.trans c6 fun x U=>.inl U⟩,by rw[hm];show n-((k:Int)+1).toNat<n-(k:Int).toNat;omega⟩;have e1:(d++(mI s0 i).take (k+1)).length=(d++(mI s0 i).take k).length+1:=by rw[ht];exact List.length_append
  rw[e1];exact congrArg (Value.int .i64) (Int.natCast_add _ 1).symm
 ·refine au (by omega) <|zc <|aR (by omega) (by omega) ?_;have J:k=(mI s0 i).length:=by rw[Lk];omega
  rw[J,List.take_length]at R1;exact ca _ M s' (by rw[J,List.take_length];rfl) (ivS) p1 R1 G1 c1
theorem V1 {n0 bI bK n3 w_7 l10 e11 i12 cA bj bB q16 i17 cq j19 cE i22 dR dF q25 b3 b6 al bb U J bd a6 a8 a3 bv ar C an ad a7 M a9 av bt a4 a0 bi V bk az am R be X aS ap ag:Value}{zf:Nat→Value}{B n c gc:Nat}{a ga:Option Addr}{t:STA}{f:Nat}{bs:Nat}(h:PM w q s0)(bW:PI s0)(hB:∀k∈q.l,k<B)(cX:B≤bs)(hT:FX s0 (iG s0 (wM (aY s0) f)))(cj:s0.N.length≤30)(hf:f≤255)(hn:(aY s0).length=n)(c4:n≤6)(ht:SO w B s0 t ga gc)(hb:blk w bs 30 (saC t))(hl:ON w B a n c (aY s0))(q2:bK=.int .u8 (f:Nat))(cp:l10=pB q.p)(cl:cA=pB bs)(cG:bj=.slice a n c)(cn:bB=iv 0)(ca:q16=iv 0)(hP:∀{n0 bI bK n3 w_7 l10 e11 i12 cA bj bB q16 i17 cq j19 cE i22 dR dF q25 b3 b6 al bb U J bd a6 a8 a3 bv ar C an ad a7 M a9 av bt a4 a0 bi V bk az am R be X aS ap ag:Value} {zf:Nat→Value} (w':World) s',l10=pB q.p→cA=pB bs→bj=.slice a n c→bB=iv ((iG s0 (wM (aY s0) f)).length:Nat)→PM w' q s'→RunI s0 s' (iG s0 (wM (aY s0) f))→s'.G=s0.G→Ch q.w w w'→cU K ((aD n0 bI bK n3 w_7 l10 e11 i12 cA bj bB q16 i17 cq j19 cE i22 dR dF q25 b3 b6 al bb U J bd a6 a8 a3 bv ar C an ad a7 M a9 av bt a4 a0 bi V bk az am R be X aS ap ag zf)) w'):kW K ((aD n0 bI bK n3 w_7 l10 e11 i12 cA bj bB q16 i17 cq j19 cE i22 dR dF q25 b3 b6 al bb U J bd a6 a8 a3 bv ar C an ad a7 M a9 av bt a4 a0 bi V bk az am R be X aS ap ag zf)) w:=by
 subst q2 cp cl cG cn ca;have b7:∀k∈q.w,k<B:=fun k hk=>hB k (LB.wl k hk);generalize u:wM (aY s0) f=rot at hT hP;have cQ:rot.length=n:=by rw[←u,Rr,hn]
 have ce:∀k,(iG s0 (rot.take k)).length≤150:=fun k=>by
  have h1:=Iz bW (rot:=rot) (by rw[←u];exact Cl xt) (fun i=>by rw[←u];exact Ga) cj (by omega);have h2:iG s0 rot=iG s0 (rot.take k)++iG s0 (rot.drop k):=by unfold iG;rw[←List.flatMap_append,List.take_append_drop]
  rw[h2,List.length_append]at h1;omega
 refine yY (Inv:=fun mv qv wr=>∃(k:Nat) (s':PL),qv=iv (k:Nat)∧k≤n∧mv=iv ((iG s0 (rot.take k)).length:Nat)∧PM wr q s'∧RunI s0 s' (iG s0 (rot.take k))∧s'.G=s0.G∧Ch q.w w wr) (μ:=fun _ qv _=>n-(intOf qv).toNat) ⟨0,s0,rfl,by omega,rfl,h,RunI.zero bW,rfl,Ch.refl _ _⟩ ?_;rintro _ _ dd w1 m ⟨k,s',rfl,hk,rfl,p1,R1,G1,c1⟩ hm;refine bx underlying56 <|aV ?_;by_cases b4:k<n
 ·refine ay (by omega) <|eK underlying5 underlying3 ?_;rw[dP (by omega) (by omega)];refine aR (by omega) (by omega) <|bx underlying56 <|yc (by omega) (by omega) ?_;rw[show ((k:Nat):Int)+(f:Nat)=((k+f:Nat):Int)by push_cast;rfl, ←Int.natCast_emod];have hi:(k+f)%n<n:=Nat.mod_lt _ (by omega);have Z:rot[k]? = some ((aY s0).getD ((k+f)%n) 0):=by rw[←u,TE (by omega),hn]
  generalize (k+f)%n=ix at hi Z;have cI:=CJ hl c1 b7;obtain⟨g,b0,rfl,op⟩:=cY cI (by omega);have b5:(aY s0)[ix]? = some ((aY s0).getD ix 0):=by rw[List.getD_eq_getElem?_getD,List.getElem?_eq_getElem (by omega)];rfl
  generalize c5:(aY s0).getD ix 0=i at Z b5;obtain⟨p,hp,cD,_,_⟩:=ro.1 (List.mem_of_getElem? b5);have c0:b0[0+((ix:Nat):Int).toNat*1]? = some (iv i):=by
   have h1:=op.take;have h2:((aY s0).map iv)[ix]? = some (iv i):=by rw[List.getElem?_map,b5];rfl
   rw[←h1,List.getElem?_take_of_lt (by omega)]at h2;rw[Int.toNat_natCast,Nat.zero_add,Nat.mul_one];exact h2
  refine eu underlying56 (s:=1) (fun _=>by kernel_rfl) (by omega) (by omega) <|lK (v:=iv i) op.blk c0 ?_;have cg:=hb.ch c1 (fun hh=>by have:=b7 _ hh;omega);have ck:=ht.ch c1 b7;have b8:=ck.sk bW;refine ldA (n:=20) (vs:=saC t) underlying30 rfl (by kernel_rfl) cg (by rw[List.drop_zero,List.take_of_length_le (by rw[b8.len];omega)]) b8.len ?_;refine Lv b8 fun w2 a2 c2 hA b2=>?_
  rw[ES ht.eI ht.eL ht.eN]at hA ⊢;have p2:=p1.below b2;have cO:=p1.lt;have cL:(mT s0.I s0.L s0.N i).length≤150:=by
   have:=ce (k+1)
   rw[Gb Z,List.length_append,Lk]at this;omega
  have cV:B≤w1.heap.size:=by have:=cg.lt;omega
  have cm:w2.ownsRow B 61 6 (.slice a2 (mT s0.I s0.L s0.N i).length c2) (mT s0.I s0.L s0.N i).length ((mT s0.I s0.L s0.N i).flatMap aqC) :=
   ⟨hA.1,hA.2.imp id fun⟨g,cap,b0,x1,x2,x3⟩=>⟨g,cap,b0,x1,by omega,x3⟩⟩
  refine V0 (d:=iG s0 (rot.take k)) (r0:=[]) (p:=p) (qn:=k) p2 R1 G1 bW hB hp cD rfl (by omega) (by have:=ce k;omega) (by omega) cm ⟨iG s0 rot,hT,fun j x hx=>Pt Z hx⟩ rfl rfl rfl rfl rfl rfl fun e w3 s3 b9 cc p3 R3 G3 c3=>?_;rw[←Gb Z]at b9 R3;refine⟨⟨k+1,s3,cc,by omega,b9,p3,R3,G3,(c1.trans (Ch.of_below b2:Ch [] w1 w2) (by simp)).trans c3 fun x hx=>.inl hx⟩,?_⟩;rw[cc,hm]
  show n-(((k+1:Nat):Int)).toNat<n-((k:Nat):Int).toNat;omega
 ·refine au (by omega) ?_;have b4:k=rot.length:=by omega
  rw[b4,List.take_length]at R1;exact hP w1 s' rfl rfl rfl (by rw[b4,List.take_length]) p1 R1 G1 c1
end
end
section
open Go.RowKit
structure EMV (w:World) (q:LB) (s0 s:PL) (t t2:STA) (B n c bs bn:Nat) (a:Option Addr):Prop where
 pm:PM w q s
 so1:∃B ga gc,SO w B s0 t ga gc
 so2:∃B ga gc,SO w B s t2 ga gc
 b1:blk w bs 30 (saC t)
 b2:blk w bn 30 (saC t2)
 lv:ON w B a n c (aY s0)
theorem EMV.below {w w':World}{q:LB}{s0 s:PL}{t t2:STA}{B n c bs bn:Nat}{a:Option Addr}(h:EMV w q s0 s t t2 B n c bs bn a)(d:Below w.heap.size w w'):EMV w' q s0 s t t2 B n c bs bn a:=by
 obtain⟨p,⟨B1,C,j,I⟩,⟨B2,u,J,t2⟩,b1,b2,l⟩:=h;exact⟨p.below d,⟨B1,C,j,I.below d⟩,⟨B2,u,J,t2.below d⟩,af d b1 b1.lt,af d b2 b2.lt,l.bel d⟩
theorem EMV.drew {w:World}{q:LB}{s0 s:PL}{t t2:STA}{B n c bs bn:Nat}{a:Option Addr}(h:EMV w q s0 s t t2 B n c bs bn a):EMV w.drew q s0 s t t2 B n c bs bn a:=h.below (Below.refl _ w).drew
structure EME (s0 s:PL) (id:Int) (sh:List Int) (n:Nat):Prop where
 mv:qI s.I s.L s.N id=[]
 len:sh.length=n
 at':∀k,k<n→sv (aN s.N id) ((aY s0).getD k 0-1).toNat=nB sh k∧ux s0.I s0.L s0.N id ((aY s0).getD k 0)=nB sh k∧ux s.I s.L s.N id ((aY s0).getD k 0)=nB sh k∧0≤nB sh k∧nB sh k≤nB sh 0∧nB sh 0-nB sh k≤1∧nB sh k≤MXA
theorem JQ :∀{l:List Int},(∀k,k<l.length→0≤nB l k)→nB l 0≤l.sum∧0≤l.sum
 | [],_=>by simp[nB]
 | x::l,h=>by
  have h0:=h 0 (by simp);have j:=JQ (l:=l) fun k d=>by have:=h (k+1) (by simpa using d);simpa[nB]using this
  have e:nB (x::l) 0=x:=by simp[nB]
  rw[e]at h0 ⊢;rw[List.sum_cons];omega
theorem TQ {s0 s:PL}{rot:List Int}{n:Nat}(hi:PI s0)(R:rot.Nodup)(V:∀i,i∈rot↔i∈aY s0)(h:RunI s0 s (iG s0 rot))(hl:(aY s0).length=n){y:ND}(U:y∈s.N):∃sh,EME s0 s y.id sh n:=by
 obtain⟨X,sh,J,h3,u⟩:=TC hi R V h U;refine⟨sh,X,J.trans hl,fun k hk=>?_⟩;have d:k<(aY s0).length:=by omega
 obtain⟨a1,I,M,C,a5,Z⟩:=u k d
 have:=JQ (l:=sh) fun j hj=>(u j (by omega)).2.2.2.1
 exact⟨a1,I,M,C,a5,Z,by omega⟩
section
variable {w:World}{K:KV}{q:LB}{s0 s:PL}{t t2:STA}{B n c bs bn:Nat}{a:Option Addr}
theorem EMV.a0 (h:EMV w q s0 s t t2 B n c bs bn a)(u:0<n):∃g,a=some ⟨g,0,none⟩:=by
 obtain⟨g,j,d,_⟩:=cY h.lv u;exact⟨g,d⟩
theorem JR {g k:Nat}{i:Int}(hi:i=(k:Nat))(d:k<n)(hK:K (.pointer (some ⟨g,k,none⟩)) w):aU Tryz.prog 56 (.slice (some ⟨g,0,none⟩) n c) (.int .i64 i) K w:=by
 subst hi;exact eu underlying56 (s:=1) (fun _=>by kernel_rfl) (by omega) (by omega) (by rw[Int.toNat_natCast,Nat.zero_add,Nat.mul_one];exact hK)
theorem JS {g k:Nat}(h:EMV w q s0 s t t2 B n c bs bn (some ⟨g,0,none⟩))(U:(aY s0).length=n)(M:k<n)(hK:K (iv ((aY s0).getD k 0)) w):ld Tryz.prog 3 (.pointer (some ⟨g,k,none⟩)) K w:=by
 obtain⟨R,j,J,C⟩:=cY h.lv (by omega);cases J;have d:(aY s0)[k]? = some ((aY s0).getD k 0):=by rw[List.getD_eq_getElem?_getD,List.getElem?_eq_getElem (by omega)];rfl
 have c0:j[k]? = some (iv ((aY s0).getD k 0)):=by
  have I:=C.take;have u:((aY s0).map iv)[k]? = some (iv ((aY s0).getD k 0)):=by rw[List.getElem?_map,d];rfl
  rw[←I,List.getElem?_take_of_lt (by omega)]at u;exact u
 exact lK (v:=iv ((aY s0).getD k 0)) C.blk c0 hK
theorem ET {k:Nat}(C:(aY s0).length=n)(j:k<n):bV ((aY s0).getD k 0)=true:=by
 have d:(aY s0).getD k 0∈aY s0:=FZ (by omega);obtain⟨p,u,h,_,_⟩:=ro.1 d;unfold bV;simp only[Bool.and_eq_true,decide_eq_true_eq];omega
theorem EMV.ld1 (h:EMV w q s0 s t t2 B n c bs bn a)(hi:PI s0){K:KV}(hK:K (.agg (saC t).toArray) w):ld Tryz.prog 30 (pB bs) K w:=by
 obtain⟨_,_,_,j⟩:=h.so1;have d:=j.sk hi;exact ldA (n:=20) (vs:=saC t) underlying30 rfl (by kernel_rfl) h.b1 (by rw[List.drop_zero,List.take_of_length_le (by rw[d.len];omega)]) d.len hK
theorem EMV.ld2 (h:EMV w q s0 s t t2 B n c bs bn a)(hi:PI s){K:KV}(hK:K (.agg (saC t2).toArray) w):ld Tryz.prog 30 (pB bn) K w:=by
 obtain⟨_,_,_,j⟩:=h.so2;have d:=j.sk hi;exact ldA (n:=20) (vs:=saC t2) underlying30 rfl (by kernel_rfl) h.b2 (by rw[List.drop_zero,List.take_of_length_le (by rw[d.len];omega)]) d.len hK
theorem zR {t:STA}{s:PL}{B j:Nat}{d:Option Addr}(h:SO w B s t d j)(id i:Int):DN t id i=ux s.I s.L s.N id i:=by
 rw[←h.eI, ←h.eL, ←h.eN];rfl
theorem LS {t:STA}{s:PL}{B j:Nat}{d:Option Addr}(h:SO w B s t d j)(id:Int):sx t id=qI s.I s.L s.N id:=by
 rw[←h.eI, ←h.eL, ←h.eN];rfl
theorem V2 {n0 bI bK n3 w_7 l10 e11 i12 cA bj bB q16 i17 cq j19 cE i22 dR dF q25 bv b0 ad a9 R I bb a4 a7 a2 bt an C al X a6 J a8 ap bk a3 aS be U bi ar ag M bd V az am Z:Value}{zf:Nat→Value}{B1:KE}{i0:Value}{id:Int}{sh:List Int}(h:EMV w q s0 s t t2 B n c bs bn a)(b5:PI s0)(hi:PI s)(hn:(aY s0).length=n)(cD:n≤6)(he:EME s0 s id sh n)(cl:l10=pB q.p)(ch:cA=pB bs)(cm:bj=.slice a n c)(cn:cE=pB bn)(ck:i22=i0)(cg:dR=u6 id)(ce:dF=iv 0)(b9:q25=iv 0)(hP:∀{n0 bI bK n3 w_7 l10 e11 i12 cA bj bB q16 i17 cq j19 cE i22 dR dF q25 bv b0 ad a9 R I bb a4 a7 a2 bt an C al X a6 J a8 ap bk a3 aS be U bi ar ag M bd V az am Z:Value} {zf:Nat→Value} (w':World) (z:Int),l10=pB q.p→cA=pB bs→bj=.slice a n c→cE=pB bn→i22=i0→dR=u6 id→dF=iv z→0≤z→Below w.heap.size w w'→eJ K B1 ((aD n0 bI bK n3 w_7 l10 e11 i12 cA bj bB q16 i17 cq j19 cE i22 dR dF q25 bv b0 ad a9 R I bb a4 a7 a2 bt an C al X a6 J a8 ap bk a3 aS be U bi ar ag M bd V az am Z zf)) w'):kZ K B1 ((aD n0 bI bK n3 w_7 l10 e11 i12 cA bj bB q16 i17 cq j19 cE i22 dR dF q25 bv b0 ad a9 R I bb a4 a7 a2 bt an C al X a6 J a8 ap bk a3 aS be U bi ar ag M bd V az am Z zf)) w:=by
 subst cl ch cm cn ck cg ce b9;refine zh (Inv:=fun av qv _ _ _ _ _ _ _ _ _ wr=>∃(k:Nat) (z:Int),qv=iv (k:Nat)∧k≤n∧av=iv z∧0≤z∧z≤k*MXA∧Below w.heap.size w wr) (μ:=fun _ qv _ _ _ _ _ _ _ _ _ _=>n-(intOf qv).toNat) ⟨0,0,rfl,by omega,rfl,by omega,by omega,Below.refl _ _⟩ ?_;rintro _ _ _ _ _ _ _ _ _ _ _ dd w1 m ⟨k,z,rfl,hk,rfl,z0,z1,b1⟩ hm;refine bx underlying56 <|aV ?_;by_cases j:k<n
 ·refine ay (by omega) ?_;obtain⟨g,rfl⟩:=h.a0 (by omega);obtain⟨f1,f2,f3,f4,f5,f6,f7⟩:=he.at' k j;have hz:z≤6*1125899906842624:=by
   have:(k:Int)*MXA≤6*MXA:=by simp only[MXA];omega
   simp only[MXA]at *; omega
  have cp:nB sh k≤1125899906842624:=f7;have v1:=h.below b1;have b7:=ET hn j;generalize bW:(aY s0).getD k 0=i at f1 f2 f3 b7;refine JR rfl j (JS v1 hn j ?_);rw[bW];refine EX v1.pm hi fun w2 b2=>?_;rw[if_pos b7,f1];have v2:=(v1.below b2).drew;have ca:=b1.trans ((b2.drew).mono b1.size);refine aE (fun x=>EMV x q s0 s t t2 B n c bs bn (some ⟨g,0,none⟩)) v2 ?_
  refine ab (fun x u _=>u.ld1 b5) (ab (fun x u _=>JR rfl j) (ab (v:=iv i) (fun x u K hK=>JS u hn j (by rw[bW];exact hK)) ?_));obtain⟨_,_,_,b6⟩:=v2.so1;refine Ep (b6.sk b5) fun w3 b3=>?_;rw[zR b6,f2];have v3:=v2.below b3;have cc:=ca.trans (b3.mono ca.size);refine aE (fun x=>EMV x q s0 s t t2 B n c bs bn (some ⟨g,0,none⟩)) v3 <|ab (fun x u _=>cW) ?_
  have d : ¬nB sh k≠nB sh k:=fun hh=>hh rfl;refine fD (vF d) (fun x u K hK=>hK) <|fD (vF d) (fun x u _=>u.ld2 hi) <|fD (vF d) (fun x u K hK=>hK) <|fD (vF d) (fun x u K hK=>hK) <|fD (vF d) (fun x u K hK=>hK) <|fD (vF d) (fun x u _=>JR rfl j) <|fD (x:=iv i) (vF d) (fun x u K hK=>JS u hn j (by rw[bW];exact hK)) ?_;obtain⟨_,_,_,b8⟩:=v3.so2
  refine Fe (vF d) (Ep (b8.sk hi) fun w4 b4=>?_);rw[zR b8,f3];have v4:=v3.below b4;have cj:=cc.trans (b4.mono cc.size);refine aO v4 <|fD (vF d) (fun x u _=>cW) <|ab (fun x u _=>bE d) <|au d <|aR (by omega) (by omega) <|aR (by omega) (by omega) ?_;refine⟨⟨k+1,z+nB sh k,ivS,by omega,rfl,by omega,?_,cj⟩,by rw[hm];show n-((k:Int)+1).toNat<n-(k:Int).toNat;omega⟩;simp only[MXA]at *
  push_cast;omega
 ·refine au (by omega) ?_;exact hP w1 z rfl rfl rfl rfl rfl rfl rfl z0 b1
theorem RF {n0 bI bK n3 w_7 l10 e11 i12 cA bj bB q16 i17 cq j19 cE i22 dR dF q25 bv be al a2 U u a4 V ap J bd a0 j av ad am I aS a3 bb R C a7 X a8 a9 an M a6 Z d az ag:Value}{zf:Nat→Value}{B1:KE}{kn:Nat}{id:Int}{sh:List Int}(h:EMV w q s0 s t t2 B n c bs bn a)(hi:PI s)(he:EME s0 s id sh n)(b0:kn≤1000)(bW:cE=pB bn)(bk:i22=iv (kn:Nat))(bt:dR=u6 id)(bi:∀(e:List Value) (w':World),gd e 22=iv ((kn+1:Nat):Int)→Below w.heap.size w w'→B1 e w'):fB K B1 ((aD n0 bI bK n3 w_7 l10 e11 i12 cA bj bB q16 i17 cq j19 cE i22 dR dF q25 bv be al a2 U u a4 V ap J bd a0 j av ad am I aS a3 bb R C a7 X a8 a9 an M a6 Z d az ag zf)) w:=by
 subst bW bk bt;refine zt (h.ld2 hi ?_);obtain⟨_,_,_,ar⟩:=h.so2;refine IN (ar.sk hi) fun w1 a1 c1 hA b1 hl=>?_;have hm:(sx t2 id).length=0:=by rw[LS ar,he.mv];rfl
 rw[hm];refine bx underlying65 <|cB <|au (by omega) <|zv <|aR (by omega) (by omega) ?_;exact bi _ w1 (ivS) b1
theorem V3 {n0 bI bK n3 w_7 l10 e11 i12 cA bj bB q16 i17 cq j19 cE i22 dR dF q25 b7 b4 an a6 U u a8 V az J bW a4 j aS ag ap I a3 a7 bk R C bd X be bi av M a9 Z d a2 am:Value}{zf:Nat→Value}{B1:KE}{kn:Nat}{id z:Int}{sh:List Int}(h:EMV w q s0 s t t2 B n c bs bn a)(ca:PI s0)(hi:PI s)(hn:(aY s0).length=n)(ce:n≤6)(he:EME s0 s id sh n)(bt:kn≤1000)(z0:0≤z)(b5:l10=pB q.p)(b6:bj=.slice a n c)(bv:cE=pB bn)(al:i22=iv (kn:Nat))(ar:dR=u6 id)(b0:dF=iv z)(ad:∀(e:List Value) (w':World),gd e 22=iv ((kn+1:Nat):Int)→Below w.heap.size w w'→B1 e w'):eJ K B1 ((aD n0 bI bK n3 w_7 l10 e11 i12 cA bj bB q16 i17 cq j19 cE i22 dR dF q25 b7 b4 an a6 U u a8 V az J bW a4 j aS ag ap I a3 a7 bk R C bd X be bi av M a9 Z d a2 am zf)) w:=by
 subst b5 b6 b0;refine zo <|bx underlying56 <|cB <|zq ?_;by_cases h0:0<n
 ·refine ay (by omega) ?_;obtain⟨g,rfl⟩:=h.a0 h0;obtain⟨f1,_,_,f4,f5,f6,f7⟩:=he.at' 0 h0;obtain⟨g1,_,_,g4,g5,g6,g7⟩:=he.at' (n-1) (by omega);have cc:nB sh 0≤1125899906842624:=f7;have b8:=ET hn h0;have b3:=ET hn (show n-1<n by omega);refine JR (k:=0) rfl h0 (JS h hn h0 ?_);rw[ar];refine EX h.pm hi fun w1 b1=>?_;rw[if_pos b8,f1];have v1:=h.below b1
  refine bx underlying56 <|bg (by omega) (by omega) ?_;refine JR (k:=n-1) (by omega) (by omega) (JS v1 hn (by omega) ?_);refine EX v1.pm hi fun w2 b2=>?_;rw[if_pos b3,g1];have v2:=v1.below b2;have bb:=b1.trans (b2.mono b1.size);refine bg (by omega) (by omega) <|cB ?_;have h1 : ¬1<nB sh 0-nB sh (n-1):=by omega
  have h2 : ¬nB sh 0<nB sh (n-1):=by omega
  refine dZ h1 <|aV <|bE h1 <|dZ h2 <|aV <|bE h2 <|au (by omega) ?_;exact RF v2 hi he bt bv al rfl fun e w' b9 b=>ad e w' b9 (bb.trans (b.mono bb.size))
 ·refine au (by omega) ?_;exact RF h hi he bt bv al ar ad
theorem RG {n0 bI bK n3 w_7 l10 e11 i12 cA bj bB q16 i17 cq j19 cE i22 dR dF q25 b6 b0 al a0 U u a3 V ap J bb aS j ar ad am I az a2 a9 R C a6 X a7 a8 an M a4 Z d av ag:Value}{zf:Nat→Value}{rot:List Int}(h:EMV w q s0 s t t2 B n c bs bn a)(bd:PI s0)(hi:PI s)(hn:(aY s0).length=n)(b7:n≤6)(ca:rot.Nodup)(hr:∀i,i∈rot↔i∈aY s0)(hR:RunI s0 s (iG s0 rot))(ch:s.N.length≤30)(bi:l10=pB q.p)(b5:cA=pB bs)(bv:bj=.slice a n c)(bW:cE=pB bn)(be:i22=iv 0)(hW:∀w',Below w.heap.size w w'→call Tryz.prog 6 #[] K w'):kY K ((aD n0 bI bK n3 w_7 l10 e11 i12 cA bj bB q16 i17 cq j19 cE i22 dR dF q25 b6 b0 al a0 U u a3 V ap J bb aS j ar ad am I az a2 a9 R C a6 X a7 a8 an M a4 Z d av ag zf)) w:=by
 subst bi b5 bv bW be;refine ze (Inv:=fun bt _ _ _ _ _ _ _ _ _ _ _ _ _ _ wr=>∃k:Nat,bt=iv (k:Nat)∧k≤s.N.length∧Below w.heap.size w wr) (μ:=fun bt _ _ _ _ _ _ _ _ _ _ _ _ _ _ _=>s.N.length-(intOf bt).toNat) ⟨0,rfl,by omega,Below.refl _ _⟩ ?_;rintro _ _ _ _ _ _ _ _ _ _ _ _ _ _ _ dd w1 m ⟨k,rfl,hk,b1⟩ hm;have v1:=h.below b1;obtain⟨B2,ga,gc,bk⟩:=v1.so2
 have hN:t2.nodes.length=s.N.length:=by rw[bk.eN]
 have b4:(saC t2)[18]? = some (.slice t2.na s.N.length t2.nc):=by
  have sk:=bk.sk hi
  have:=Hg sk
  rw[hN]at this;exact this
 refine dV (lK (v:=.slice t2.na s.N.length t2.nc) v1.b2 (by rw[Nat.zero_add];exact b4) ?_);refine bx underlying27 <|aV ?_;by_cases b8:k<s.N.length
 ·refine ay (by omega) ?_;have hx:s.N[k]? = some s.N[k]:=List.getElem?_eq_getElem b8;generalize s.N[k]=y at hx;obtain⟨sh,he⟩:=TQ bd ca hr hR hn (List.mem_of_getElem? hx);refine dV (lK (v:=.slice t2.na s.N.length t2.nc) v1.b2 (by rw[Nat.zero_add];exact b4) ?_);obtain⟨gn,cg,ha,op⟩:=cY bk.nd (by omega);have c0:cg[k*56+0]? = some (u6 y.id):=op.cell eZ rfl hx (show 0<56 by omega)
  refine nK (s:=56) ha underlying27 (fun _=>by kernel_rfl) b8 <|tT <|lK (v:=u6 y.id) op.blk c0 <|V2 v1 bd hi hn b7 he rfl rfl rfl rfl rfl rfl rfl rfl ?_
  intro n0 bI bK n3 w_7 l10 e11 i12 cA bj bB q16 i17 cq j19 cE i22 dR dF q25 b6 b0 al a0 U u a3 V ap J bb aS j ar ad am I az a2 a9 R C a6 X a7 a8 an M a4 Z d av ag zf w2 z bi b5 bv bW be ce cc z0 b2;have v2:=v1.below b2;refine V3 v2 bd hi hn b7 he (by omega) z0 bi bv bW be ce cc fun e w3 b9 b3=>?_
  refine⟨⟨k+1,b9,by omega,b1.trans ((b2.trans (b3.mono b2.size)).mono b1.size)⟩,?_⟩;rw[b9,hm];show s.N.length-(((k+1:Nat):Int)).toNat<s.N.length-((k:Nat):Int).toNat;omega
 ·refine au (by omega) ?_;exact zj (hW w1 b1)
end
end
end
end Go.Proofs.YtgpfkmdknlcemaaGreatDoor
