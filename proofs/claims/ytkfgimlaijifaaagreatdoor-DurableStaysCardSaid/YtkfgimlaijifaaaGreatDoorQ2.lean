import Derived.Test.YtkfgimlaijifaaaGreatDoorQ1
import Derived.Maps.AppendAt
import Derived.Test.YtkfgimlaijifaaaGreatDoorSh
import Derived.OrdersIn
import Derived.TacticsIn
import Derived.RangeFuncIn
import Derived.RangeFuncRecord
import Derived.RangeFuncCalls
import Derived.RangeFuncOwn
import Derived.RangeFuncLeaves
import Derived.Test.YtkfgimlaijifaaaGreatDoorChecked
namespace Go.Proofs.YtkfgimlaijifaaaGreatDoor
set_option maxRecDepth 100000
open Go.Proofs.Tryz
variable {w w' w0:World}{K:KV}{zf:Nat→Value}{b c n o k B i p g m j s z c2 f d D B2 hi:Nat}{a av a2:Option Addr}{x r v:Int}{A:List Int}{E t e:TypeId}{cs xs ys vs:List Value}{B1 L0:KE}{P:Program}{T L:List (Int×Int)}{C:Nat→Int}{cx cy:Bool}{F:List Nat}{α κ:Type}{I0:FuncId}{V0 W0 X0 Y0 Z0 H1 I1 J1 M1 N1 O1 P1 Q1 T1 U1 V1 X1:Value}
section
section
variable {e f:EV}{s:PL}
theorem rS (h:bJ e=true):e.k=1∧0≤e.a∧e.a≤MXA∨e.k=2∧1≤e.a∧e.a≤MXA∨e.k=3∧1≤e.a∧e.a≤MXA∧1≤e.r∨e.k=4∧1≤e.r∧1≤e.f∧e.r≠e.f∨e.k=5∧1≤e.a∧e.a≤MXA∧1≤e.t∧e.t≤6∧e.t≠e.o∨e.k=6∧1≤e.t∧e.t≤6∧e.t≠e.o∨e.k=7:=by
 unfold bJ at h;simp only[Bool.and_eq_true]at h;have h:=h.2.2.2.2.2.2;unfold fdE smE otE bG at h;by_cases j:e.k=1
 ·rw[if_pos j]at h;simp only[Bool.and_eq_true,decide_eq_true_eq]at h;exact .inl ⟨j,h⟩
 rw[if_neg j]at h;by_cases u:e.k=2
 ·rw[if_pos u]at h;simp only[Bool.and_eq_true,decide_eq_true_eq]at h;exact .inr (.inl ⟨u,h⟩)
 rw[if_neg u]at h;by_cases C:e.k=3
 ·rw[if_pos C]at h;simp only[Bool.and_eq_true,decide_eq_true_eq]at h;exact .inr (.inr (.inl ⟨C,h.1.1,h.1.2,h.2⟩))
 rw[if_neg C]at h;by_cases I:e.k=4
 ·rw[if_pos I]at h;simp only[Bool.and_eq_true,decide_eq_true_eq]at h;exact .inr (.inr (.inr (.inl ⟨I,h⟩)))
 rw[if_neg I]at h;by_cases J:e.k=5
 ·rw[if_pos J]at h;simp only[Bool.and_eq_true,decide_eq_true_eq]at h;exact .inr (.inr (.inr (.inr (.inl ⟨J,h.1.1,h.1.2,h.2.1.1,h.2.1.2,h.2.2⟩))))
 rw[if_neg J]at h;by_cases M:e.k=6
 ·rw[if_pos M]at h;simp only[Bool.and_eq_true,decide_eq_true_eq]at h;exact .inr (.inr (.inr (.inr (.inr (.inl ⟨M,h.1.1,h.1.2,h.2⟩)))))
 rw[if_neg M]at h;exact .inr (.inr (.inr (.inr (.inr (.inr (by simpa using h))))))
theorem wm {V:List Int}(h:eX V e=true):e.s=V.getD e.q 0+1∧∀k,k<6→e.V.getD k 0≤V.getD k 0:=by
 unfold eX at h;simp only[Bool.and_eq_true,decide_eq_true_eq,List.all_eq_true,List.mem_range]at h;exact h.2
theorem Yn {V:List Int}(u:bJ e=true)(h:e.s=V.getD e.q 0+1)(j:∀k,k<6→e.V.getD k 0≤V.getD k 0):eX V e=true:=by
 unfold eX;simp only[Bool.and_eq_true,decide_eq_true_eq,List.all_eq_true,List.mem_range];exact⟨u,h,j⟩
theorem sj (h:bJ e=true):e.q<6∧e.o=(e.q:Int)+1:=by
 obtain⟨j,u,_⟩:=gW h;unfold EV.q;omega
theorem zdo (h:bJ e=true)(k:bJ f=true)(u:e.o≠f.o):idE e≠idE f:=by
 obtain⟨_,_,I,j⟩:=gW h;obtain⟨_,_,J,C⟩:=gW k;intro h;have a:=uG (o:=e.o) (s:=e.s) oo j;have b:=uG (o:=f.o) (s:=f.s) oo C;unfold idE at h;rw[h]at a;exact u (a.symm.trans b)
theorem Mp (h:bJ e=true):0<idE e:=by
 obtain⟨j,_,u,C⟩:=gW h;unfold idE;simp only[M40];omega
theorem PI.new (hi:PI s)(M:bJ e=true)(Z:eX s.V e=true):dv s.N (idE e)=false:=by
 cases U:dv s.N (idE e)with
 | false=>rfl
 | true =>
  obtain⟨x,hx,h⟩:=oh.1 U;obtain⟨o,q,a1,a2,a3,u,C,a6⟩:=hi.ids x hx;obtain⟨_,_,h1,J⟩:=gW M;have j:=uG (o:=o) (s:=q) oo u;have I:=uG (o:=e.o) (s:=e.s) oo J;rw[C]at h;unfold idE at h;rw[h]at j;have O:e.o=o:=I.symm.trans j;subst O
  have:=(wm Z).1
  unfold EV.q at this;omega
def SY (p c:Nat):Prop:=c=p∨c=6+p∨c=12+p∨∃j,j<6∧j≠p∧c=18+6*p+j
theorem Qz {q:Nat}(J:p<6)(M:q<6)(h:p≠q)(u:SY p c)(C:SY q d):c≠d:=by
 rcases u with rfl|rfl|rfl|⟨j,I,_,rfl⟩<;>rcases C with rfl|rfl|rfl|⟨i,hi,_,rfl⟩<;>omega
theorem lD (hi:PI s)(h:OK e s):(∃x,nop e s=.ins x∧x.id=idE e∧x.par=e.n∧x.A=z54.set e.q e.a∧e.k=1)∨(∃ids c v,nop e s=.bmp ids c v∧e.k≠1∧(∀i∈ids,dv s.N i=true)∧SY e.q c∧1≤v∧v≤MXA ∧
  ∀i∈ids,nA (aN s.N i) c+v≤MXA∧(c<6→nA (aN s.N i) c+v≤M47)∧(c=12+e.q→nA (aN s.N i) c+v≤nA (aN s.N i) (6+e.q))∧((c=6+e.q∨18≤c)→v≤gQ (aN s.N i) e.q))∨nop e s=.non∧e.k≠1:=by
 obtain⟨hq,ho⟩:=sj h.may;have I:∀i,dv s.N i=true→SP (aN s.N i):=fun i hh=>by
  obtain⟨x,Z,rfl⟩:=ua hh;rw[wC hi.srt Z];exact AX.1 (hi.may x Z).1
 rcases rS h.may with⟨k,j,u⟩|⟨k,j,u⟩|⟨k,j,u,h3⟩|⟨k,j⟩|⟨k,j,u,h3,O,h5⟩|⟨k,_⟩|k<;>unfold nop<;>rw[k]<;>simp only[if_true,if_false,Int.reduceEq]
 ·exact .inl ⟨_,rfl,rfl,rfl,rfl,trivial⟩
 ·refine .inr (.inl ⟨_,_,_,rfl,by decide,?_,.inl rfl,j,u,?_⟩)
  ·intro i hi;rw[mS hi];exact(h.k2 k).1
  ·intro i hi;rw[mS hi]
   have:=(h.k2 k).2
   refine⟨by simp only[MXA,M47]at *; omega,fun _=>this,fun e=>by omega,fun e=>by omega⟩
 ·refine .inr (.inl ⟨_,_,_,rfl,by decide,fun i hi=>pW hi,.inr (.inl rfl),j,u,?_⟩);intro i hi
  have:=(h.k3 k).2.2 i hi
  exact⟨this.2,fun e=>by omega,fun e=>by omega,fun _=>this.1⟩
 ·obtain⟨_,g,U,hb,O⟩:=h.k4 k;have J:gOf s e=g:=by unfold gOf;rw[U];rfl
  obtain⟨gm,_,_⟩:=yw U;have M:=hi.gk g gm;rw[J];refine .inr (.inl ⟨_,_,_,rfl,by decide,fun i hi=>pW hi,.inr (.inr (.inl rfl)),M.2.1,M.2.2.1,?_⟩);intro i C;have a:=O i C;have b:=(I i (pW C)).c e.q hq;exact⟨Int.le_trans a b.2,fun e=>by omega,fun _=>a,fun e=>by omega⟩
 ·obtain⟨a1,a2,a3,a4⟩:=h.k5 k;refine .inr (.inl ⟨_,_,_,rfl,by decide,?_,.inr (.inr (.inr ⟨(e.t-1).toNat,by omega,by omega,rfl⟩)),j,u,?_⟩)
  ·intro i hi;rw[mS hi];exact a1
  ·intro i hi;rw[mS hi];exact⟨a4,fun e=>by omega,fun e=>by omega,fun _=>a3⟩
 ·exact .inr (.inr ⟨trivial,by decide⟩)
 ·exact .inr (.inr ⟨trivial,by decide⟩)
theorem nG {o q b:Int}(y:GR):(qO o q b y).o=y.o∧(qO o q b y).q=y.q:=by unfold qO;split<;>exact⟨rfl,rfl⟩
theorem pC {l:List α}{x d:α}(h:i<l.length):(l.set i x).getD j d=if j=i then x else l.getD j d:=by
 by_cases e:j=i
 ·subst e;simp[List.getD,h]
 ·have : ¬i=j:=fun h=>e h.symm
  simp[List.getD,this,e]
structure Aft (e:EV) (s s':PL):Prop where
 I:∀k,s.I.getD k false=true→s'.I.getD k false=true
 L:∀k,k≠e.q→s'.L.getD k false=s.L.getD k false
 V:∀k,k≠e.q→s'.V.getD k 0=s.V.getD k 0
 Ve:s'.V.getD e.q 0=s.V.getD e.q 0+1
 R:∀k,k≠e.q→s'.R.getD k []=s.R.getD k []
 G:∀o r,o≠e.o→kU s'.G o r=kU s.G o r
 has:∀id,dv s.N id=true→dv s'.N id=true
 path:∀id,dv s.N id=true∨id=0→ef s'.N id=ef s.N id
 own:∀o,o≠e.o→iy s'.N o=iy s.N o
 loc:∀id,dv s.N id=true→∀k,k<6→k≠e.q→gQ (aN s.N id) k≤gQ (aN s'.N id) k
 cel:∀id,dv s.N id=true→∀k c,k<6→k≠e.q→SY k c→nA (aN s'.N id) c=nA (aN s.N id) c
theorem QT (hi:PI s)(h:OK e s){x:ND}(u:x.id=idE e):∀y∈s.N,y.id≠x.id:=fun y C j => by
 have:=hi.new h.may h.rdy
 rw[oh.2 ⟨y,C,j.trans u⟩]at this;cases this
theorem Xg (hi:PI s)(h:OK e s){x:ND}(C:x.id=idE e){id:Int}(j:dv s.N id=true):aN (eh x s.N) id=aN s.N id:=by
 obtain⟨y,u,rfl⟩:=ua j;rw[wC hi.srt u,wC (uH hi.srt (QT hi h C)) (ol.2 (.inr u))]
theorem Jl {N:List ND}{g:ND→ND}(j:∀y,(g y).id=y.id)(u:N.Pairwise (·.id < ·.id)):(N.map g).Pairwise (·.id < ·.id):=by
 rw[List.pairwise_map];refine u.imp fun {a b} h=>?_;rw[j,j];exact h
theorem V6 (hi:PI s){ids:List Int}{id:Int}(j:dv s.N id=true):aN (s.N.map (eD ids c v)) id=if id∈ids then (aN s.N id).set c (nA (aN s.N id) c+v)else aN s.N id:=by
 obtain⟨y,u,rfl⟩:=ua j
 have:=wC (Jl (fun y=>(iX (ids:=ids) (c:=c) (v:=v) y).1) hi.srt) (List.mem_map.2 ⟨y,u,rfl⟩)
 rw[(iX y).1]at this;rw[this,wC hi.srt u];split
 ·rename_i h;rw[AM h]
 ·rename_i h;rw[AL h]
theorem SR (hi:PI s){id:Int}(h:dv s.N id=true):(aN s.N id).length=54:=by
 obtain⟨x,j,rfl⟩:=ua h;rw[wC hi.srt j];exact hi.A54 x j
theorem Pj (C:p<6)(h:SY p c):c<54:=by
 rcases h with rfl|rfl|rfl|⟨j,u,_,rfl⟩<;>omega
theorem after (hi:PI s)(h:OK e s):Aft e s (eff e s):=by
 obtain⟨U,ho⟩:=sj h.may;have vq:e.q<s.V.length:=by rw[hi.v6];exact U
 have lq:e.q<s.L.length:=by rw[hi.l6];exact U
 have rq:e.q<s.R.length:=by rw[hi.r6];exact U
 have e1:(eff e s).N=(nop e s).ap s.N:=rfl;refine⟨fun k J=>?_,fun k J=>?_,fun k J=>?_,?_,fun k J=>?_,fun o r hr=>?_,fun id u=>?_,fun id u=>?_,fun o hr=>?_,fun id u k J O=>?_,fun id u k c J O Z=>?_⟩
 ·show (tP e s.I).getD k false=true;unfold tP;split
  ·by_cases hl:(e.t-1).toNat<s.I.length
   ·rw[pC hl];split
    ·rfl
    ·exact J
   ·rw[List.set_eq_of_length_le oo];exact J
  ·exact J
 ·show (tQ e s.L).getD k false=_;unfold tQ;split
  ·rw[pC lq,if_neg J]
  ·rfl
 ·show (IF e s.V).getD k 0=_;unfold IF;rw[pC vq,if_neg J]
 ·show (IF e s.V).getD e.q 0=_;unfold IF;rw[pC vq,if_pos rfl]
 ·show (pN e s.R).getD k []=_;unfold pN;split
  ·rw[pC rq,if_neg J]
  ·rfl
 ·show kU ((gop e).ap s.G) o r=_;unfold gop;split
  ·exact Tv (fun hh=>hr hh.1.symm)
  ·split
   ·exact O7 nG (fun y h1 h2=>by unfold qO;rw[if_neg (fun hh=>hr (h1.symm.trans hh.1))])
   ·rfl
 ·rw[e1];rcases lD hi h with⟨x,C,M,_⟩|⟨ids,c,v,C,_⟩|⟨C,_⟩<;>rw[C]
  ·show dv (eh x s.N) id=true;rw[EM,u,Bool.or_true]
  ·exact(O9 fun y=>(iX y).1).trans u
  ·exact u
 ·rw[e1];rcases lD hi h with⟨x,C,M,_⟩|⟨ids,c,v,C,_⟩|⟨C,_⟩<;>rw[C]
  ·exact Yc hi.srt hi.tk (by rw[M];exact hi.new h.may h.rdy) (by rw[M];have:=Mp h.may;omega) u
  ·exact Yd fun y=>iX y
  ·rfl
 ·rw[e1];rcases lD hi h with⟨x,C,M,_⟩|⟨ids,c,v,C,_⟩|⟨C,_⟩<;>rw[C]
  ·show iy (eh x s.N) o=_;obtain⟨_,_,h1,h2⟩:=gW h.may;rw[Jw,M,show idE e / M40=e.o from uG oo h2,if_neg (fun e=>hr e.symm),Nat.add_zero]
  ·exact Jx fun y=>(iX y).1
  ·rfl
 ·rw[e1];rcases lD hi h with⟨x,C,M,_⟩|⟨ids,c,v,C,_,_,Z,h1,_⟩|⟨C,_⟩<;>rw[C]
  ·show _≤gQ (aN (eh x s.N) id) k;rw[Xg hi h M u];exact Int.le_refl _
  ·show _≤gQ (aN (s.N.map (eD ids c v)) id) k;rw[V6 hi u];split
   ·have hl:=SR hi u;refine Om (by rw[hl];exact Pj U Z) oo (fun e=>Qz U J (fun e=>O e.symm) Z (.inr (.inl rfl)) e) fun j hj e=>?_;rcases Z with rfl|rfl|rfl|⟨i,aa,_,rfl⟩<;>omega
   ·exact Int.le_refl _
  ·exact Int.le_refl _
 ·rw[e1];rcases lD hi h with⟨x,C,M,_⟩|⟨ids,d,v,C,_,_,hd,h1,_⟩|⟨C,_⟩<;>rw[C]
  ·show nA (aN (eh x s.N) id) c=_;rw[Xg hi h M u]
  ·show nA (aN (s.N.map (eD ids d v)) id) c=_;rw[V6 hi u];split
   ·have hl:=SR hi u;rw[oa (by rw[hl];exact Pj U hd),iY (Qz J U O Z hd)];omega
   ·rfl
  ·rfl
theorem OK.kept (hi:PI s)(h:OK e s)(J:OK f s)(ho:f.o≠e.o):OK f (eff e s):=by
 have a:=after hi h;obtain⟨hq,eo⟩:=sj h.may;obtain⟨U,fo⟩:=sj J.may;have j:f.q≠e.q:=fun e=>ho oo;obtain⟨r1,r2⟩:=wm J.rdy;have ad:∀{id},id∈ef s.N f.n→dv s.N id=true:=fun h=>pW h;refine⟨J.may,Yn J.may (by rw[a.V _ j];exact r1) (fun k hk=>?_),a.I _ J.inI,(a.L _ j).trans J.notL,fun k=>?_,fun k=>?_,fun k=>?_,fun k=>?_,fun k=>?_⟩
 ·have:=r2 k hk
  by_cases e:k=e.q
  ·subst e;rw[a.Ve];omega
  ·rw[a.V _ e];exact this
 ·obtain⟨C,M,O,Z⟩:=J.k1 k;have aa:dv s.N f.n=true∨f.n=0:=O.symm;exact⟨by rw[a.own _ ho];exact C,M,O.imp id (a.has _),by rw[a.path _ aa];exact Z⟩
 ·obtain⟨C,M⟩:=J.k2 k;exact⟨a.has _ C,by rw[a.cel _ C _ _ U j (.inl rfl)];exact M⟩
 ·obtain⟨C,M,O⟩:=J.k3 k;refine⟨by unfold od at C ⊢; rw[a.R _ j];exact C,a.has _ M,fun id u=>?_⟩;rw[a.path _ (.inl M)]at u;obtain⟨Z,h5⟩:=O id u;have hh:=ad u;exact⟨Int.le_trans Z (a.loc _ hh _ U j),by rw[a.cel _ hh _ _ U j (.inr (.inl rfl))];exact h5⟩
 ·obtain⟨C,g,M,O,Z⟩:=J.k4 k;refine⟨by unfold od at C ⊢; rw[a.R _ j];exact C,g,by rw[a.G _ _ ho];exact M,O,fun id u=>?_⟩;have af:=(hi.gk g (yw M).1).1;rw[a.path _ (.inl af)]at u;have hh:=pW u
  have:=Z id u
  rw[a.cel _ hh _ _ U j (.inr (.inr (.inl rfl))),a.cel _ hh _ _ U j (.inr (.inl rfl))];exact this
 ·obtain⟨C,M,O,Z⟩:=J.k5 k;refine⟨a.has _ C,a.I _ M,Int.le_trans O (a.loc _ C _ U j),?_⟩;rcases rS J.may with⟨k',_⟩|⟨k',_⟩|⟨k',_⟩|⟨k',_⟩|⟨_,_,_,t1,t2,t3⟩|⟨k',_⟩|k'<;>try omega
  rw[a.cel _ C _ _ U j (.inr (.inr (.inr ⟨(f.t-1).toNat,by omega,by omega,rfl⟩)))];exact Z
theorem TY (hi:PI s)(h:OK e s)(J:OK f s)(O:f.o≠e.o):nop f (eff e s)=nop f s:=by
 have a:=after hi h;have M:gOf (eff e s) f=gOf s f:=by unfold gOf;rw[a.G _ _ O]
 unfold nop;rw[M];by_cases u:f.k=3
 ·rw[a.path _ (.inl (J.k3 u).2.1)];simp[u]
 ·by_cases C:f.k=4
  ·obtain⟨_,g,I,_⟩:=J.k4 C;have j:gOf s f=g:=by unfold gOf;rw[I];rfl
   rw[j,a.path _ (.inl (hi.gk g (yw I).1).1)];simp[C]
  ·simp[u,C]
theorem zac (hi:PI s)(h:OK e s)(u:OK f s)(U:f.o≠e.o):(nop f s).ap ((nop e s).ap s.N)=(nop e s).ap ((nop f s).ap s.N):=by
 obtain⟨hq,eo⟩:=sj h.may;obtain⟨fq,fo⟩:=sj u.may;have O:f.q≠e.q:=fun e=>U oo;have nw:∀{e:EV} {x:ND} {ids:List Int} {c:Nat} {v:Int},OK e s→x.id=idE e→(∀i∈ids,dv s.N i=true)→eD ids c v x=x:=fun {e x ids c v} h C I=>AL fun j=>by
  have:=hi.new h.may h.rdy
  rw[←C,I _ j]at this;cases this
 rcases lD hi h with⟨x,M,C,_⟩|⟨ids,c,v,M,_,I,hc,_⟩|⟨M,_⟩<;>rcases lD hi u with⟨y,j,Z,_⟩|⟨aa,d,v',j,_,J,hd,_⟩|⟨j,_⟩<;>rw[M,j]<;>simp only[NOp.ap]
 ·exact RT (by rw[C,Z];exact zdo u.may h.may U)
 ·exact(Od (nw h C J) (fun y=>(iX y).1)).symm
 ·exact Od (nw u Z I) (fun y=>(iX y).1)
 ·rw[List.map_map,List.map_map];refine List.map_congr_left fun y _=>?_;exact Xo (Qz fq hq O hd hc) y
theorem ZA (j:f.o≠e.o):∀G,(gop f).ap ((gop e).ap G)=(gop e).ap ((gop f).ap G):=by
 intro G;have I:∀{x:GR} {o q b:Int},x.o≠o→qO o q b x=x:=fun h=>by
  unfold qO;rw[if_neg (fun Z=>h Z.1)]
 unfold gop;by_cases J:e.k=3<;>by_cases M:e.k=4<;>by_cases O:f.k=3<;>by_cases U:f.k=4<;>simp only[J,M,O,U,if_true,if_false,GOp.ap,Int.reduceEq]<;>try omega
 ·exact RR j
 ·exact(Ob (I (fun e=>j e.symm)) nG).symm
 ·exact Ob (I j) nG
 ·rw[List.map_map,List.map_map];refine List.map_congr_left fun y _=>?_;show qO _ _ _ (qO _ _ _ y)=qO _ _ _ (qO _ _ _ y);unfold qO;by_cases u:y.o=e.o∧y.q=e.f
  ·have C : ¬(y.o=f.o∧y.q=f.f):=fun h=>j (h.1.symm.trans u.1);simp[u,show ¬e.o=f.o from fun e=>j e.symm]
  ·by_cases C:y.o=f.o∧y.q=f.f
   ·simp[C,show ¬f.o=e.o from j]
   ·simp[u,C]
theorem Z8 (hi:PI s)(h:OK e s)(u:OK f s)(C:f.o≠e.o):eff f (eff e s)=eff e (eff f s):=by
 obtain⟨hq,Z⟩:=sj h.may;obtain⟨fq,fo⟩:=sj u.may;have j:f.q≠e.q:=fun e=>C oo;have a:=after hi h;have b:=after hi u;have hN:(eff f (eff e s)).N=(eff e (eff f s)).N:=by
  show (nop f (eff e s)).ap ((nop e s).ap s.N)=(nop e (eff f s)).ap ((nop f s).ap s.N);rw[TY hi h u C,TY hi u h (fun e=>C e.symm)];exact zac hi h u C
 have hG:(eff f (eff e s)).G=(eff e (eff f s)).G:=ZA C s.G;have hV:(eff f (eff e s)).V=(eff e (eff f s)).V:=by
  show ((eff e s).V.set f.q ((eff e s).V.getD f.q 0+1))=((eff f s).V.set e.q ((eff f s).V.getD e.q 0+1))
  rw[a.V _ j,b.V _ (fun e=>j e.symm)];show (s.V.set e.q _).set f.q _=(s.V.set f.q _).set e.q _;rw[List.set_comm _ _ (fun e=>j e.symm)]
 have hI:(eff f (eff e s)).I=(eff e (eff f s)).I:=by
  show tP f (tP e s.I)=tP e (tP f s.I);unfold tP;split<;>split<;>try rfl
  by_cases J:(e.t-1).toNat=(f.t-1).toNat
  ·rw[J]
  ·rw[List.set_comm _ _ J]
 have hL:(eff f (eff e s)).L=(eff e (eff f s)).L:=by
  show tQ f (tQ e s.L)=tQ e (tQ f s.L);unfold tQ;split<;>split<;>try rfl
  rw[List.set_comm _ _ (fun e=>j e.symm)]
 have hR:(eff f (eff e s)).R=(eff e (eff f s)).R:=by
  have O:=a.R _ j;have U:=b.R _ (fun e=>j e.symm);show pN f (eff e s).R=pN e (eff f s).R;unfold pN;rw[O,U];show (if _ then (pN e s.R).set _ _ else pN e s.R)=(if _ then (pN f s.R).set _ _ else pN f s.R)
  unfold pN;by_cases M:f.k=3∨f.k=4<;>by_cases c2:e.k=3∨e.k=4<;>simp only[M,c2,if_true,if_false];rw[List.set_comm _ _ (fun e=>j e.symm)]
 generalize eff f (eff e s)=x at *;generalize eff e (eff f s)=y at *;cases x;cases y
 simp_all
end
theorem Vy {x:ND}:∀{N:List ND},∃i,eh x N=gu N i x
 | []=>⟨0,rfl⟩
 | z::N=>by
  unfold eh;split
  ·exact⟨0,rfl⟩
  ·obtain⟨i,h⟩:=Vy (x:=x) (N:=N);exact⟨i+1,by rw[h];rfl⟩
theorem YK {x:ND}{N:List ND}:∃i,tr (eh x N)=gu (tr N) i (x.id,x.par):=by
 obtain⟨i,h⟩:=Vy (x:=x) (N:=N);refine⟨i,?_⟩;rw[h];unfold tr gu;rw[List.map_append,List.map_cons,List.map_take,List.map_drop]
section
variable {e:EV}{s:PL}
theorem zcN :SP z54:=AX.1 dc
theorem Mc (i:Nat):nA z54 i=0:=by
 unfold nA z54;rw[List.getD_eq_getElem?_getD,List.getElem?_replicate];split<;>rfl
theorem Xk {R:List (List Int)}(j:R.length=6)(C:e.q<6)(h:od R k r=true):od (pN e R) k r=true:=by
 unfold pN;split
 ·unfold od at *;rw[pC (by rw[j];exact C)];split
  ·rename_i u;subst u;rw[List.contains_iff_mem]at h ⊢;exact List.mem_append_left _ h
  ·exact h
 ·exact h
theorem PI.eff (hi:PI s)(h:OK e s):PI (eff e s):=by
 obtain⟨hq,ho⟩:=sj h.may;have hm:=gW h.may;have a:=after hi h;have Z:=hi.new h.may h.rdy;have az:=wm h.rdy;have a0:=Mp h.may;refine⟨?_,?_,by show (s.V.set _ _).length=6;rw[List.length_set];exact hi.v6,?_,fun k U=>?_,fun x u=>?_,fun x u=>?_,?_,fun x u=>?_,fun o=>?_,?_,fun x u=>?_,?_,fun g hg=>?_⟩
 ·show (tP e s.I).length=6;unfold tP;split
  ·rw[List.length_set];exact hi.i6
  ·exact hi.i6
 ·show (tQ e s.L).length=6;unfold tQ;split
  ·rw[List.length_set];exact hi.l6
  ·exact hi.l6
 ·show (pN e s.R).length=6;unfold pN;split
  ·rw[List.length_set];exact hi.r6
  ·exact hi.r6
 ·by_cases ek:k=e.q
  ·subst ek;rw[a.Ve, ←az.1];simp only[M40]at *; omega
  ·rw[a.V _ ek];exact hi.vb k U
 ·rcases lD hi h with⟨y,C,J,hp,hA,_⟩|⟨ids,c,v,C,_⟩|⟨C,_⟩
  ·rw[show (Go.Proofs.YtkfgimlaijifaaaGreatDoor.eff e s).N=eh y s.N by show (nop e s).ap s.N=_;rw[C];rfl]at u;rcases ol.1 u with rfl|u
   ·rw[hA];simp[z54]
   ·exact hi.A54 x u
  ·rw[show (Go.Proofs.YtkfgimlaijifaaaGreatDoor.eff e s).N=s.N.map (eD ids c v)by show (nop e s).ap s.N=_;rw[C];rfl]at u;obtain⟨y,J,rfl⟩:=List.mem_map.1 u;unfold eD;split
   ·show (y.A.set _ _).length=54;rw[List.length_set];exact hi.A54 y J
   ·exact hi.A54 y J
  ·rw[show (Go.Proofs.YtkfgimlaijifaaaGreatDoor.eff e s).N=s.N by show (nop e s).ap s.N=_;rw[C];rfl]at u;exact hi.A54 x u
 ·rcases lD hi h with⟨y,C,J,hp,hA,k1⟩|⟨ids,c,v,C,_,O,hc,a8,a9,hb⟩|⟨C,_⟩
  ·rw[show (Go.Proofs.YtkfgimlaijifaaaGreatDoor.eff e s).N=eh y s.N by show (nop e s).ap s.N=_;rw[C];rfl]at u;rcases ol.1 u with rfl|u
   ·have hz:z54.set e.q e.a=z54.set e.q (nA z54 e.q+e.a):=by rw[Mc];simp
    have ar:0≤e.a:=by rcases rS h.may with⟨_,h1,_⟩|⟨k,_⟩|⟨k,_⟩|⟨k,_⟩|⟨k,_⟩|⟨k,_⟩|k<;>omega
    have ha:=(h.k1 k1).2.1;rw[hA,hz];refine⟨AX.2 (VI (by simp[z54]) zcN ar oo (by rw[Mc];simp only[MXA,M47]at *; omega) (fun i hi e=>by omega) (fun i hi e=>by omega) (fun k U O=>by rcases O with O|⟨j,_,O⟩<;>omega) (fun _=>⟨by rw[Mc];omega,fun i _=>by rw[Mc];decide⟩)),fun k U=>?_⟩;rw[oa (by simp[z54];omega),Mc];unfold dlt;split
    ·omega
    ·simp only[M47];omega
   ·exact hi.may x u
  ·rw[show (Go.Proofs.YtkfgimlaijifaaaGreatDoor.eff e s).N=s.N.map (eD ids c v)by show (nop e s).ap s.N=_;rw[C];rfl]at u;obtain⟨y,J,rfl⟩:=List.mem_map.1 u;by_cases ad:y.id∈ids
   ·have af:=hb _ ad;rw[wC hi.srt J]at af;obtain⟨b1,b2,b3,b4⟩:=af;obtain⟨m1,m2⟩:=hi.may y J;have m1:=AX.1 m1;have hl:=hi.A54 y J;rw[AM ad];show jn (y.A.set c (nA y.A c+v))=true∧_;refine⟨AX.2 (VI hl m1 oo (Pj hq hc) b1 (fun i hi an=>?_) (fun i hi a7=>?_) (fun k U O=>?_) (fun c6=>⟨b2 c6,fun i hi=>m2 i hi⟩)),fun k U=>?_⟩
    ·have:c=12+e.q:=by rcases hc with rfl|rfl|rfl|⟨j,hj,_,rfl⟩<;>omega
     have h3:=b3 this
     have:i=e.q:=by omega
     subst this;rw[an]at h3;exact h3
    ·rcases hc with rfl|rfl|rfl|⟨j,hj,ag,rfl⟩<;>omega
    ·rcases O with O|⟨j,hj,O⟩
     ·have:k=e.q:=by rcases hc with rfl|rfl|rfl|⟨j,hj,ag,rfl⟩<;>omega
      subst this;exact b4 (.inl O)
     ·have:k=e.q:=by rcases hc with rfl|rfl|rfl|⟨i,hi,ag,rfl⟩<;>omega
      subst this;exact b4 (.inr oo)
    ·show nA (y.A.set c (nA y.A c+v)) k≤M47;rw[oa (by rw[hl];exact Pj hq hc)];by_cases ec:k=c
     ·subst ec;rw[sU];exact b2 U
     ·rw[iY ec];have:=m2 k U;omega
   ·rw[AL ad];exact hi.may y J
  ·rw[show (Go.Proofs.YtkfgimlaijifaaaGreatDoor.eff e s).N=s.N by show (nop e s).ap s.N=_;rw[C];rfl]at u;exact hi.may x u
 ·show ((nop e s).ap s.N).Pairwise _;rcases lD hi h with⟨y,C,J,_⟩|⟨ids,c,v,C,_⟩|⟨C,_⟩<;>rw[C]
  ·exact uH hi.srt (QT hi h J)
  ·exact Jl (fun y=>(iX y).1) hi.srt
  ·exact hi.srt
 ·have old:∀x∈s.N,∃o q:Int,1≤o∧o≤6∧1≤q∧q<M40∧x.id=o*M40+q∧q≤(Go.Proofs.YtkfgimlaijifaaaGreatDoor.eff e s).V.getD (o-1).toNat 0:=fun x u=>by
   obtain⟨o,q,a1,a2,a3,a4,a5,a6⟩:=hi.ids x u;refine⟨o,q,a1,a2,a3,a4,a5,?_⟩;by_cases ek:(o-1).toNat=e.q
   ·rw[ek,a.Ve];rw[ek]at a6;omega
   ·rw[a.V _ ek];exact a6
  rcases lD hi h with⟨y,C,J,hp,hA,_⟩|⟨ids,c,v,C,_⟩|⟨C,_⟩
  ·rw[show (Go.Proofs.YtkfgimlaijifaaaGreatDoor.eff e s).N=eh y s.N by show (nop e s).ap s.N=_;rw[C];rfl]at u;rcases ol.1 u with rfl|u
   ·refine⟨e.o,e.s,hm.1,hm.2.1,hm.2.2.1,hm.2.2.2,J,?_⟩;rw[show (e.o-1).toNat=e.q from rfl,a.Ve];omega
   ·exact old x u
  ·rw[show (Go.Proofs.YtkfgimlaijifaaaGreatDoor.eff e s).N=s.N.map (eD ids c v)by show (nop e s).ap s.N=_;rw[C];rfl]at u;obtain⟨y,J,rfl⟩:=List.mem_map.1 u;rw[(iX y).1];exact old y J
  ·rw[show (Go.Proofs.YtkfgimlaijifaaaGreatDoor.eff e s).N=s.N by show (nop e s).ap s.N=_;rw[C];rfl]at u;exact old x u
 ·show iy ((nop e s).ap s.N) o≤5;rcases lD hi h with⟨y,C,J,_,_,k1⟩|⟨ids,c,v,C,_⟩|⟨C,_⟩<;>rw[C]
  ·show iy (eh y s.N) o≤5;rw[Jw,J,show idE e / M40=e.o from uG oo hm.2.2.2];split
   ·rename_i eo;rw[←eo];have:=(h.k1 k1).1;omega
   ·have:=hi.own o;omega
  ·exact Nat.le_trans (Nat.le_of_eq (Jx fun y=>(iX y).1)) (hi.own o)
  ·exact hi.own o
 ·show ∃rk,TK (tr ((nop e s).ap s.N)) rk;obtain⟨rk,U⟩:=hi.tk;rcases lD hi h with⟨y,C,J,hp,_,k1⟩|⟨ids,c,v,C,_⟩|⟨C,_⟩<;>rw[C]
  ·obtain⟨i,ht⟩:=YK (x:=y) (N:=s.N);show ∃rk,TK (tr (eh y s.N)) rk;rw[ht];exact⟨_,U.add (by rw[J];omega) (by rw[kW,J];exact Z) (by rw[kW,hp];exact(h.k1 k1).2.2.1) i⟩
  ·exact⟨rk,by show TK (tr (s.N.map _)) rk;rw[YL fun y=>iX y];exact U⟩
  ·exact⟨rk,U⟩
 ·have old:∀x∈s.N,(ef (Go.Proofs.YtkfgimlaijifaaaGreatDoor.eff e s).N x.id).length≤4:=fun x u=>by
   rw[a.path _ (.inl (oh.2 ⟨x,u,rfl⟩))];exact hi.dep x u
  rcases lD hi h with⟨y,C,J,hp,hA,k1⟩|⟨ids,c,v,C,_⟩|⟨C,_⟩
  ·have eN:(Go.Proofs.YtkfgimlaijifaaaGreatDoor.eff e s).N=eh y s.N:=by show (nop e s).ap s.N=_;rw[C];rfl
   rw[eN]at u;rcases ol.1 u with rfl|u
   ·obtain⟨k2,k3,k4,k5⟩:=h.k1 k1;have al:=a.path e.n (k4.symm);rw[eN]at al ⊢;obtain⟨rk,U⟩:=hi.tk;obtain⟨i,ht⟩:=YK (x:=x) (N:=s.N);have aa:=U.add (id:=x.id) (par:=x.par) (by rw[J];omega) (by rw[kW,J];exact Z) (by rw[kW,hp];exact k4) i;rw[←ht]at aa;have O:bS (tr (eh x s.N)) x.id=true:=by rw[kW,EM];simp
    have am:el (tr (eh x s.N)) x.id=x.par:=Ig (RA (uH hi.srt (QT hi h J))) (List.mem_map.2 ⟨x,ol.2 (.inl rfl),rfl⟩);have hu:=G7 aa x.par;have av:ef (eh x s.N) x.id=x.id::ef (eh x s.N) x.par:=by
     unfold ef cC;rw[cv,O,if_pos rfl,am]
     congr 1
     refine LL aa _ _ _ ?_ oo;exact hu
    rw[av,List.length_cons,hp,al];omega
   ·exact old x u
  ·rw[show (Go.Proofs.YtkfgimlaijifaaaGreatDoor.eff e s).N=s.N.map (eD ids c v)by show (nop e s).ap s.N=_;rw[C];rfl]at u;obtain⟨y,J,rfl⟩:=List.mem_map.1 u;rw[(iX y).1];exact old y J
  ·rw[show (Go.Proofs.YtkfgimlaijifaaaGreatDoor.eff e s).N=s.N by show (nop e s).ap s.N=_;rw[C];rfl]at u;exact old x u
 ·show ((gop e).ap s.G).Pairwise ltG;unfold gop;split
  ·rename_i k3;refine Hc hi.gs fun g hg O=>?_;obtain⟨_,_,_,g1,g2,g3,g4⟩:=hi.gk g hg;rw[O.1,O.2,show (e.o-1).toNat=e.q from rfl,(h.k3 k3).1]at g4;cases g4
  ·split
   ·show (s.G.map _).Pairwise ltG;rw[List.pairwise_map];refine hi.gs.imp fun {x y} aS=>?_;unfold ltG at *;rw[(nG x).1,(nG x).2,(nG y).1,(nG y).2];exact aS
   ·exact hi.gs
 ·have old:∀g∈s.G,dv (Go.Proofs.YtkfgimlaijifaaaGreatDoor.eff e s).N g.n=true∧1≤g.a∧g.a≤MXA∧1≤g.o∧g.o≤6∧1≤g.q∧od (Go.Proofs.YtkfgimlaijifaaaGreatDoor.eff e s).R (g.o-1).toNat g.q=true:=fun g hg=>by
   obtain⟨g0,g1,g2,g3,g4,g5,g6⟩:=hi.gk g hg;exact⟨a.has _ g0,g1,g2,g3,g4,g5,Xk hi.r6 hq g6⟩
  have M:g∈(gop e).ap s.G:=hg;unfold gop at M;split at M
  ·rename_i k3;rcases Oc.1 M with rfl|M
   ·rcases rS h.may with⟨k,_⟩|⟨k,_⟩|⟨_,b1,b2,b3⟩|⟨k,_⟩|⟨k,_⟩|⟨k,_⟩|k<;>try omega
    refine⟨a.has _ (h.k3 k3).2.1,b1,b2,hm.1,hm.2.1,b3,?_⟩;show od (pN e s.R) e.q e.r=true;unfold pN od;rw[if_pos (.inl k3),pC (by rw[hi.r6];exact hq),if_pos rfl,List.contains_iff_mem];simp
   ·exact old g M
  ·split at M
   ·obtain⟨y,J,rfl⟩:=List.mem_map.1 M
    have:=old y J
    unfold qO;split
    ·exact this
    ·exact this
   ·exact old g M
end
theorem JA (n:Nat):PI (pl0 n) where
 i6:=by simp[pl0]
 l6:=rfl
 v6:=rfl
 r6:=rfl
 vb:=fun k h=>by
  have:(pl0 n).V.getD k 0=0:=by
   show (List.replicate 6 (0:Int)).getD k 0=0;rw[List.getD_eq_getElem?_getD,List.getElem?_replicate];split<;>rfl
  rw[this];decide
 A54:=by simp[pl0]
 may:=by simp[pl0]
 srt:=by simp[pl0]
 ids:=by simp[pl0]
 own:=fun o=>by simp[pl0,iy]
 tk:=⟨_,TK.nil⟩
 dep:=by simp[pl0]
 gs:=by simp[pl0]
 gk:=by simp[pl0]
theorem ledger_sys :Sys eff OK EV.q PI where
 inv:=fun e s hi h=>hi.eff h
 dia:=fun e f s hi I h u=>by
  have j:f.o≠e.o:=fun C=>I (by unfold EV.q;rw[C]);exact⟨h.kept hi u j,Z8 hi h u j⟩
def zj (f:List Int→Int)(N:List ND):List Int→Int
 | []=>0
 | id::p=>if f (aN N id)≠0 then f (aN N id)else zj f N p
def og (e:EV)(s:PL):Int :=
 if e.k=1 then (if 5≤iy s.N e.o∨M47<e.a then 6 else (jm (tr s.N) (idE e) e.n).2)
 else if e.k=2 then (if dv s.N e.n=false then 9 else if M47<nA (aN s.N e.n) e.q+e.a then 6 else 0)
 else if e.k=3 then (if od s.R e.q e.r=true then 14 else if dv s.N e.n=false then 9 else zj (fun A=>(mf A e.o e.a).2) s.N (ef s.N e.n))
 else if e.k=4 then (if od s.R e.q e.r=true then 14 else match kU s.G e.o e.f with|none=>12|some g=>if g.b≠0 then 12 else zj (fun A=>(mc A e.o g.a).2) s.N (ef s.N g.n))
 else if e.k=5 then (if dv s.N e.n=false then 9 else if s.I.getD (e.t-1).toNat false=false then 10 else (mX (aN s.N e.n) e.o e.t e.a).2)
 else 0
def oN (e:EV)(s:PL):Int :=
 if bJ e=false then 1 else if qQ s.V e=true then 14 else if eX s.V e=false then 13 else if s.I.getD e.q false=false∨s.L.getD e.q false=true then 10 else og e s
def lJ (e:EV)(s:PL):PL:=if oN e s=0 then eff e s else s
theorem Em {f:List Int→Int}{N:List ND}:∀{p:List Int},zj f N p=0↔∀id∈p,f (aN N id)=0
 | []=>by simp[zj]
 | id::p=>by
  unfold zj;by_cases h:f (aN N id)=0
  ·rw[if_neg (by simpa using h),Em];simp[h]
  ·rw[if_pos h];simp[h]
section
variable {A:List Int}{o a t:Int}
theorem Un (h:jn A=true)(j:1≤a)(u:a≤MXA)(C:1≤o)(I:o≤6):sq A o a=0:=by
 unfold sq bG;rw[if_neg (by rintro(e|e|e);(rw[h]at e;cases e);omega;omega),if_neg (by simp;omega)]
theorem Ux (h:jn A=true)(j:1≤a)(u:a≤MXA)(C:1≤o)(I:o≤6):(mf A o a).2=0↔a≤gQ A (o-1).toNat∧nA A (6+(o-1).toNat)+a≤MXA:=by
 unfold mf vk;rw[Un h j u C I,if_neg sm];generalize (o-1).toNat=q;split
 ·simp;omega
 ·split<;>simp<;>omega
theorem zaE (h:(mf A o a).2=0):(mf A o a).1=A.set (6+(o-1).toNat) (nA A (6+(o-1).toNat)+a):=by
 unfold mf vk at *;split at h
 ·rename_i j;exact absurd h j
 ·rename_i j;rw[if_neg j];split at h
  ·cases h
  ·rename_i u;rw[if_neg u];split at h
   ·cases h
   ·rename_i C;rw[if_neg C]
theorem Tu (h:jn A=true)(j:1≤a)(u:a≤MXA)(C:1≤o)(I:o≤6):(mc A o a).2=0↔nA A (12+(o-1).toNat)+a≤nA A (6+(o-1).toNat):=by
 unfold mc;rw[Un h j u C I,if_neg sm];generalize (o-1).toNat=q;split
 ·simp;omega
 ·simp;omega
theorem Zu (h:(mc A o a).2=0):(mc A o a).1=A.set (12+(o-1).toNat) (nA A (12+(o-1).toNat)+a):=by
 unfold mc at *;split at h
 ·rename_i j;exact absurd h j
 ·rename_i j;rw[if_neg j];split at h
  ·cases h
  ·rename_i u;rw[if_neg u]
theorem TV (h:jn A=true)(j:1≤a)(C:a≤MXA)(I:1≤o)(J:o≤6)(O:1≤t)(U:t≤6)(M:t≠o):(mX A o t a).2=0↔a≤gQ A (o-1).toNat∧nA A (18+6*(o-1).toNat+(t-1).toNat)+a≤MXA:=by
 unfold mX vk bG;rw[Un h j C I J,if_neg sm,if_neg (by simp;omega),if_neg (fun e=>M e.symm)];generalize (o-1).toNat=q;generalize (t-1).toNat=u;split
 ·simp;omega
 ·split<;>simp<;>omega
theorem zaa (h:(mX A o t a).2=0):(mX A o t a).1=A.set (18+6*(o-1).toNat+(t-1).toNat) (nA A (18+6*(o-1).toNat+(t-1).toNat)+a):=by
 unfold mX vk at *;split at h
 ·rename_i j;exact absurd h j
 ·rename_i j;rw[if_neg j];split at h
  ·cases h
  ·rename_i u;rw[if_neg u];split at h
   ·cases h
   ·rename_i C;rw[if_neg C];split at h
    ·cases h
    ·rename_i I;rw[if_neg I];split at h
     ·cases h
     ·rename_i J;rw[if_neg J]
end
section
variable {e:EV}{s:PL}
theorem PI.mayN (hi:PI s){id:Int}(h:dv s.N id=true):jn (aN s.N id)=true:=by
 obtain⟨x,j,rfl⟩:=ua h;rw[wC hi.srt j];exact(hi.may x j).1
theorem PI.few (hi:PI s)(o:Int)(O:1≤o)(J:o≤6)(h:iy s.N o<5):s.N.length<32:=by
 rw[VD fun x M=>by
  obtain⟨o,q,j,a2,u,C,I,_⟩:=hi.ids x M;exact⟨o,q,j,a2,u,C,I⟩]
 have:=hi.own 1
 have:=hi.own 2
 have:=hi.own 3
 have:=hi.own 4
 have:=hi.own 5
 have:=hi.own 6
 omega
theorem Wz (h:eX s.V e=true):qQ s.V e=false:=by
 have:=(wm h).1
 unfold qQ EV.q at *;rw[decide_eq_false oo,Bool.and_false]
theorem qi (hi:PI s):oN e s=0↔OK e s:=by
 constructor
 ·intro h;unfold oN at h;split at h
  ·cases h
  rename_i Z;split at h
  ·cases h
  split at h
  ·cases h
  rename_i hr;split at h
  ·cases h
  rename_i O;have Z:bJ e=true:=by simpa using Z
  have hr:eX s.V e=true:=by simpa using hr
  have O:s.I.getD e.q false=true∧s.L.getD e.q false=false:=by
   constructor
   ·cases hq:s.I.getD e.q false with
    | true=>rfl
    | false=>exact absurd (.inl hq) O
   ·cases hq:s.L.getD e.q false with
    | false=>rfl
    | true=>exact absurd (.inr hq) O
  have M:=gW Z;refine⟨Z,hr,O.1,O.2,fun k=>?_,fun k=>?_,fun k=>?_,fun k=>?_,fun k=>?_⟩
  ·unfold og at h;rw[if_pos k]at h;split at h
   ·cases h
   rename_i u;unfold jm at h;rw[if_neg (by have:=Mp Z;omega),kW,hi.new Z hr,if_neg sm]at h;split at h
   ·cases h
   rename_i C;split at h
   ·cases h
   rename_i J;refine⟨by omega,by omega,?_,by unfold ef;omega⟩;by_cases h0:e.n=0
   ·exact .inl h0
   ·refine .inr ?_;cases hq:dv s.N e.n with
    | true=>rfl
    | false=>exact absurd ⟨h0,by rw[kW];exact hq⟩ C
  ·unfold og at h;rw[if_neg oo,if_pos k]at h;split at h
   ·cases h
   rename_i u;split at h
   ·cases h
   rename_i C;exact⟨by simpa using u,by omega⟩
  ·unfold og at h;rw[if_neg oo,if_neg oo,if_pos k]at h;split at h
   ·cases h
   rename_i u;split at h
   ·cases h
   rename_i C;refine⟨by simpa using u,by simpa using C,fun id j=>?_⟩;have J:=Em.1 h id j;rcases rS Z with⟨U,_⟩|⟨U,_⟩|⟨_,b1,b2,b3⟩|⟨U,_⟩|⟨U,_⟩|⟨U,_⟩|U<;>try omega
   exact(Ux (hi.mayN (pW j)) b1 b2 M.1 M.2.1).1 J
  ·unfold og at h;rw[if_neg oo,if_neg oo,if_neg oo,if_pos k]at h;split at h
   ·cases h
   rename_i u;split at h
   ·cases h
   rename_i g hg;split at h
   ·cases h
   rename_i C;refine⟨by simpa using u,g,hg,by simpa using C,fun id j=>?_⟩;have J:=Em.1 h id j;have gk:=hi.gk g (yw hg).1;exact(Tu (hi.mayN (pW j)) gk.2.1 gk.2.2.1 M.1 M.2.1).1 J
  ·unfold og at h;rw[if_neg oo,if_neg oo,if_neg oo,if_neg oo,if_pos k]at h;split at h
   ·cases h
   rename_i u;split at h
   ·cases h
   rename_i C;have u:dv s.N e.n=true:=by simpa using u
   rcases rS Z with⟨U,_⟩|⟨U,_⟩|⟨U,_⟩|⟨U,_⟩|⟨_,b1,b2,b3,b4,b5⟩|⟨U,_⟩|U<;>try omega
   have J:=(TV (hi.mayN u) b1 b2 M.1 M.2.1 b3 b4 b5).1 h;exact⟨u,by simpa using C,J⟩
 ·intro h;have M:=gW h.may;unfold oN;rw[if_neg (by rw[h.may];simp),Wz h.rdy,if_neg sm,if_neg (by rw[h.rdy];simp),if_neg (by rintro(e|e);(rw[h.inI]at e;cases e);(rw[h.notL]at e;cases e))];unfold og;rcases rS h.may with⟨k,_⟩|⟨k,_⟩|⟨k,b1,b2,b3⟩|⟨k,_⟩|⟨k,b1,b2,b3,b4,b5⟩|⟨k,_⟩|k
  ·obtain⟨u,C,J,h4⟩:=h.k1 k;rw[if_pos k,if_neg oo];unfold jm;rw[if_neg (by have:=Mp h.may;omega),kW,hi.new h.may h.rdy,if_neg sm,if_neg,if_neg]
   ·have:=hi.few e.o M.1 M.2.1 u
    unfold ef at h4;unfold tr at *;simp only[List.length_map]at *;omega
   ·rintro⟨e1,e2⟩;rw[kW]at e2;rcases J with J|J
    ·exact e1 J
    ·rw[J]at e2;cases e2
  ·obtain⟨u,C⟩:=h.k2 k;rw[if_neg oo,if_pos k,u,if_neg sm,if_neg oo]
  ·obtain⟨u,C,J⟩:=h.k3 k;rw[if_neg oo,if_neg oo,if_pos k,u,C,if_neg sm,if_neg sm];exact Em.2 fun id j=>(Ux (hi.mayN (pW j)) b1 b2 M.1 M.2.1).2 (J id j)
  ·obtain⟨u,g,C,J,h4⟩:=h.k4 k;rw[if_neg oo,if_neg oo,if_neg oo,if_pos k,u,C,if_neg sm];simp only;rw[if_neg oo];have gk:=hi.gk g (yw C).1;exact Em.2 fun id j=>(Tu (hi.mayN (pW j)) gk.2.1 gk.2.2.1 M.1 M.2.1).2 (h4 id j)
  ·obtain⟨u,C,J⟩:=h.k5 k;rw[if_neg oo,if_neg oo,if_neg oo,if_neg oo,if_pos k,u,C,if_neg sm,if_neg sm];exact(TV (hi.mayN u) b1 b2 M.1 M.2.1 b3 b4 b5).2 J
  ·rw[if_neg oo,if_neg oo,if_neg oo,if_neg oo,if_neg oo]
  ·rw[if_neg oo,if_neg oo,if_neg oo,if_neg oo,if_neg oo]
theorem SU (hi:PI s):PI (lJ e s):=by
 unfold lJ;split
 ·rename_i h;exact hi.eff ((qi hi).1 h)
 ·exact hi
end
def Ws (e:EV)(k:Nat):Int:=e.V.getD k 0
def kV (l:PL):Nat→Int:=fun k=>l.V.getD k 0
abbrev Wg (n:Nat)(E:List EV):Prop:=Wf eff OK EV.q EV.s Ws (pl0 n) E
abbrev stL (n:Nat)(E:List EV)(D:Nat→Int):PL:=stD eff EV.q EV.s (pl0 n) E D
abbrev ClL (E:List EV)(D:Nat→Int):Prop:=Xe EV.q EV.s Ws E D
structure LK (n:Nat) (E:List EV) (l:PL):Prop where
 st:l=stL n E (kV l)
 cl:ClL E (kV l)
section
variable {n:Nat}{E:List EV}{l:PL}{e:EV}
theorem XU (h:bJ e=true):e.V.getD e.q 0=e.s-1∧∀k,e.V.getD k 0<M40:=by
 unfold bJ at h;simp only[Bool.and_eq_true,decide_eq_true_eq,List.all_eq_true,List.mem_range]at h;refine⟨h.2.2.2.1,fun k=>?_⟩;by_cases j:k<6
 ·exact h.2.2.2.2.1 k j
 ·rw[List.getD_eq_getElem?_getD,List.getElem?_eq_none (by simp[EV.V];omega)];decide
theorem XL (hi:PI l)(h:OK e l):kV (eff e l)=upD (kV l) e.q e.s:=by
 have a:=after hi h;funext k;unfold kV upD;by_cases j:k=e.q
 ·subst j;rw[if_pos rfl,a.Ve,(wm h.rdy).1]
 ·rw[if_neg j,a.V _ j]
end
/-! ## A world -/
structure WP (n:Nat) (Ls:List PL) (E:List EV):Prop where
 hist:Wg n E
 lk:∀l∈Ls,LK n E l
 own:∀i l,Ls[i]? = some l→∀e∈E,e.q=i→e.s≤l.V.getD i 0
 low:∀i l,Ls[i]? = some l→∀m∈Ls,m.V.getD i 0≤l.V.getD i 0
 few:∀e∈E,e.q<Ls.length
abbrev HM :=List ((Int×Int)×EV)
def nu (e:EV):Int×Int:=(e.o,e.s)
section
variable {κ ν:Type}[DecidableEq κ]{m:List (κ×ν)}{x y:κ}{v:ν}
def u9 (m:List (κ×ν))(x:κ):List (κ×ν):=m.filter fun p=>decide (p.1≠x)
theorem I9 {p:κ×ν}:p∈u9 m x↔p∈m∧p.1≠x:=by unfold u9;rw[List.mem_filter];simp
theorem RU (h:x∉m.map (·.1)):u9 m x=m:=by
 unfold u9;rw[List.filter_eq_self];intro p j;exact decide_eq_true fun e=>h (List.mem_map.2 ⟨p,j,e⟩)
theorem PZ (h:(m.map (·.1)).Nodup):((u9 m x).map (·.1)).Nodup:=List.Nodup.sublist (List.Sublist.map _ List.filter_sublist) h
theorem Js (u:(m.map (·.1)).Nodup)(h:m[j]? = some (x,v)):m.eraseIdx j=u9 m x:=by
 induction m generalizing j with
 | nil=>simp at h
 | cons p m ih =>
  rw[List.map_cons,List.nodup_cons]at u;cases j with
  | zero =>
   simp only[List.getElem?_cons_zero,Option.some.injEq]at h;subst h;rw[List.eraseIdx_cons_zero]
   have:=RU (m:=m) (x:=x) u.1
   unfold u9 at this ⊢;rw[List.filter_cons_of_neg sm,this]
  | succ j =>
   rw[List.getElem?_cons_succ]at h;have C:p.1≠x:=fun e=>u.1 (List.mem_map.2 ⟨_,mO h,e.symm⟩);rw[List.eraseIdx_cons_succ,ih u.2 h];unfold u9;rw[List.filter_cons_of_pos (by simpa using C)]
theorem za8 (I:(m.map (·.1)).Nodup)(h:dK m x=some v):(u9 m x).length+1=m.length:=by
 obtain⟨j,u⟩:=List.getElem?_of_mem (yB h);rw[←Js I u];obtain⟨C,_⟩:=gS u;rw[List.length_eraseIdx_of_lt C];omega
end
def eK (V:List Int)(W:HM):Nat→Option EV
 | 0=>none
 | k+1=>match dK W (((5-k:Nat):Int)+1,V.getD (5-k) 0+1)with
  | some e=>if eX V e=true then some e else eK V W k
  | none=>eK V W k
structure HW (E:List EV) (V:List Int) (W:HM):Prop where
 key:∀p∈W,p.1=nu p.2
 mem:∀p∈W,p.2∈E
 nd:(W.map (·.1)).Nodup
 new:∀p∈W,V.getD p.2.q 0<p.2.s
structure RHL (n:Nat) (E:List EV) (l:PL) (W:HM) (c:Nat):Prop where
 hist:Wg n E
 lk:LK n E l
 hw:HW E l.V W
 cnt:∃Kn:List EV,Kn.Nodup∧(∀f,f∈Kn↔f∈E∧f.s≤l.V.getD f.q 0)∧Kn.length=c
section
variable {n:Nat}{E:List EV}{l:PL}{W:HM}{c:Nat}{e:EV}
theorem Eb :∀{k:Nat},k≤6→eK l.V W k=some e→eX l.V e=true∧∃i:Nat,i<6∧dK W ((i:Int)+1,l.V.getD i 0+1)=some e
 | 0,_,h=>by cases h
 | k+1,hk,h=>by
  unfold eK at h;cases j:dK W (((5-k:Nat):Int)+1,l.V.getD (5-k) 0+1)with
  | none=>rw[j]at h;exact Eb oo h
  | some f =>
   rw[j]at h;simp only at h;split at h
   ·rename_i u;cases h;exact⟨u,5-k,by omega,j⟩
   ·exact Eb oo h
theorem XN (h:bJ e=true):nu e=((e.q:Int)+1,e.s):=by
 have:=gW h
 unfold nu EV.q;rw[show (((e.o-1).toNat:Nat):Int)+1=e.o by omega]
def LP (V:List Int)(W:HM)(e:EV):HM:=if bJ e=true∧qQ V e=false∧dK W (nu e)=none∧W.length<64 then W++[(nu e,e)]else W
theorem GQ (h:bJ e=true){V:List Int}:qQ V e=true↔e.s≤V.getD e.q 0:=by
 unfold qQ EV.q;rw[h,Bool.true_and,decide_eq_true_eq]
end
end
section
open Go.RowKit Go.ChangeMaps
section
variable {κ ν:Type}[DecidableEq κ]{kv:κ→Value}{vv:ν→Value}{w w':World}{b:Nat}{m:List (κ×ν)}{es:Array MapEntry}{clock:Nat}
variable {P:Program}{K:KV}{t k e:TypeId}
theorem Co {α β:Type}{f:α→β}:∀{l:List α} {j:Nat},(l.eraseIdx j).map f=(l.map f).eraseIdx j
 | [],_=>rfl
 | _::_,0=>rfl
 | _::_,_+1=>congrArg (List.cons _) Co
theorem zd6 {tk ty : TypeId} {cs : Array Bool} (KK : Ev P k kv) (ht : P.underlying t = some (.map k e)) (hm : MB kv vv w b m) {x : κ} (h : ∀ w', MB kv vv w' b (u9 m x) → Oth b w w' → K (.tuple #[]) w') : blt P .delete #[t, tk] ty cs #[.map (some b), kv x] K w := by
  obtain ⟨es, c, hm⟩ := hm
  rcases hm.find KK x with ⟨h0, h1, h2⟩ | ⟨j, e0, v0, h0, h1, h2, h3, h4, h5⟩
  · refine rD (v := .tuple #[]) (w' := setBlock w b (.map es c)) ?_ (h _ ?_ (Mu hm.heap))
    · rw [BigFrame.builtin_delete]
      simp [Builtin.delete_, run_underlying ht, MapKept.run_getObj_map hm.heap, KK.chk, h1, MapKept.run_setObj_map _ hm.heap, Result.andThen, setBlock]
    · rw [RU (wh.1 h0)]
      exact ⟨es, c, heap_setBlock_same hm.heap _, hm.keys, hm.vals, hm.nodup, hm.born, hm.old⟩
  · have hj : j < es.size := by
      have := (List.getElem?_eq_some_iff.1 h2).1
      simpa using this
    refine rD (v := .tuple #[]) (w' := setBlock w b (.map (es.eraseIdxIfInBounds j) c)) ?_ (h _ ?_ (Mu hm.heap))
    · rw [BigFrame.builtin_delete]
      simp [Builtin.delete_, run_underlying ht, MapKept.run_getObj_map hm.heap, KK.chk, h1, MapKept.run_setObj_map _ hm.heap, Result.andThen, setBlock]
    · have hl : (es.eraseIdxIfInBounds j).toList = es.toList.eraseIdx j := by
        rw [Array.toList_eraseIdxIfInBounds]
      rw [← Js hm.nodup h5]
      refine ⟨_, c, heap_setBlock_same hm.heap _, ?_, ?_, ?_, ?_, ?_⟩
      · rw [hl, Co, Co, hm.keys]
      · rw [hl, Co, Co, hm.vals]
      · rw [Js hm.nodup h5]; exact PZ hm.nodup
      · rw [hl]
        exact List.Pairwise.sublist (List.Sublist.map _ (List.eraseIdx_sublist _ _)) hm.born
      · intro e1 he1
        rw [hl] at he1
        exact hm.old e1 ((List.eraseIdx_sublist _ _).mem he1)
end
end
section
/-! ## What is heard at a time -/
inductive DR (l:PL) (W:HM):PL→HM→List EV→Prop
 | nil:DR l W l W []
 | snoc {l':PL} {W':HM} {F:List EV} {e:EV}:DR l W l' W' F→eK l'.V W' 6=some e→DR l W (eff e l') (u9 W' (nu e)) (F++[e])
end
section
def iv (x:Int):Value:=.int .i64 x
open Go.RowKit
theorem cD {v:Value}(h:w.ownsRow B E s v n xs)(M:∀k,v.ownBlock=some k→w'.heap[k]? = w.heap[k]?):w'.ownsRow B E s v n xs:=by
 refine⟨h.1,?_⟩;rcases h.2 with C|⟨g,cap,j,u,I,J,r⟩
 ·exact .inl C
 ·refine .inr ⟨g,cap,j,u,I,?_,r⟩;rw[M g (by rw[u];rfl)];exact J
theorem Ya (u:blk w g E xs)(h:xs.length=n*s)(j:B≤g)(C:n≤maxLen):w.ownsRow B E s (.slice (some ⟨g,0,none⟩) n n) n xs:=by
 refine⟨h,.inr ⟨g,n,xs.toArray,rfl,j,u,Nat.le_refl _,C,by simpa using h,?_⟩⟩;rw[←h];simp
theorem zf5 {cs:Array Bool}{base:Nat}{i:TypeInfo}{z:Value}(ht:P.underlying t=some (.slice e))(hi:P.info? e=some i)(hz:i.zero=some z)(M:i.size=s)(U:i.bytes=b)(af:z.cells.size=s)(aa:0<s)(O:w.ownsRow base e s (.slice av n c) n xs)(hy:blk w g e ys)(ad:ys.length=m*s)(h1:∀u∈ys,u.oneCell'=true)(C:(n+m)*b≤140737488355328)(al:n+m≤9223372036854775807)(J:base≤w.heap.size)(h:∀I c' w',w'.ownsRow base e s (.slice I (n+m) c') (n+m) (xs++ys)→w.grownBy w' (Value.slice av n c).ownBlock→((Value.slice I (n+m) c').ownBlock=(Value.slice av n c).ownBlock∨(Value.slice I (n+m) c').ownBlock=some w.heap.size)→K (.slice I (n+m) c') w'):blt P .append #[t,t] E cs #[.slice av n c,.slice (some ⟨g,0,none⟩) m c2] K w:=by
  have Z:∀j u,ys[j]? = some u→w.cell? ((⟨g,0,none⟩:Addr).add j)=some u:=by
    intro j u hj;rw[show ((⟨g,0,none⟩:Addr).add j)=⟨g,0+j,none⟩from by unfold Addr.add;split<;>simp_all,hy.cell,Nat.zero_add];exact hj
  obtain⟨v',w',hr,h2,h3,_,h5⟩:=run_append_own_at (P:=P) w base t E e i z s b ht hi hz M U af aa _ n xs O ⟨g,0,none⟩ m c2 ys ad Z h1 (by simp only[maxLen];omega) C J;obtain⟨I,c',rfl⟩:∃I c',v'=.slice I (n+m) c':=by
    rcases h2.2 with⟨hv,Z⟩|⟨g,cap,ag,hv,_⟩
    · exact⟨none,0,by rw[hv,Z]⟩
    · exact⟨_,cap,hv⟩
  exact rD (by rw[BigFrame.builtin_append];simp only[Sem.run_bind,hr,Result.andThen_ok,Sem.run_pure]) (h I c' w' h2 h3 h5)
end
section
def u6 (x:Int):Value:=.int .u64 x
def uC (x:Int):List Value:=[u6 x]
theorem ME (l:List Int):l.flatMap uC=l.map u6:=by induction l<;>simp_all [uC]
open Go.RowKit Go.ChangeMaps
theorem bE (j:Below B w0 w)(h:Oth p w w')(C:B≤p):Below B w0 w':=⟨h.os.trans j.os,h.tape.trans j.tape,h.output.trans j.output,by rw[h.size];exact j.size,fun k u=>by rw[h.other k oo];exact j.block k u⟩
theorem Ml {α:Type}{enc:α→List Value}{s:Nat}(u:∀x,(enc x).length=s):∀(L:List α) (i:Nat) (x:α) (j:Nat),L[i]? = some x→j<s→(L.flatMap enc)[i*s+j]? = (enc x)[j]?
 | [],i,x,j,h,_=>by simp at h
 | y::L,0,x,j,h,hj=>by
  simp at h;subst h;rw[List.flatMap_cons,Nat.zero_mul,Nat.zero_add,List.getElem?_append_left (by rw[u];exact hj)]
 | y::L,i+1,x,j,h,hj=>by
  rw[List.flatMap_cons,List.getElem?_append_right (by rw[u,Nat.succ_mul];omega),u,show (i+1)*s+j-s=i*s+j by rw[Nat.succ_mul];omega];exact Ml u L i x j (by simpa using h) hj
section
variable {P:Program}{w:World}{K:KV}{α:Type}{enc:α→List Value}{L:List α}{s B n c i:Nat}{a:Option Addr}{t e:TypeId}{k:IntKind}{x:α}
theorem zdr (ht:P.underlying t=some (.slice e))(I:∀w,(sizeOf e).run P w=.ok s w)(hs:∀x,(enc x).length=s)(hr:w.ownsRow B e s (.slice a n c) n (L.flatMap enc))(hl:L.length=n)(U:L[i]? = some x)(h:∀g u,a=some ⟨g,0,none⟩→blk w g e u→(∀j,j<s→u[i*s+j]? = (enc x)[j]?)→K (pA g (i*s)) w):aL P t (.slice a n c) (.int k (i:Nat)) K w:=by
 have hi:i<n:=by rw[←hl];exact(gS U).1
 rcases hr.2 with⟨_,hz⟩|⟨g,cap,u,O,hg,hh,hn,Z,M,J⟩
 ·omega
 simp only[Value.slice.injEq]at O;obtain⟨rfl,_,rfl⟩:=O;refine dQ (s:=s) ht I oo oo ?_;rw[Int.toNat_natCast,Nat.zero_add];refine h g u.toList rfl hh (fun j hj=>?_);have C:i*s+j<n*s:=by
  have:(i+1)*s≤n*s:=Nat.mul_le_mul_right _ hi
  rw[Nat.succ_mul]at this;omega
 rw[←Ml hs L i x j U hj, ←J,List.getElem?_take_of_lt C]
theorem rd3 {f':Nat}{v:Value}{K3:Value→Value→Value→World→Prop}(ht:P.underlying t=some (.slice e))(J:∀w,(sizeOf e).run P w=.ok s w)(hs:∀x,(enc x).length=s)(I:∀w,(isAgg E).run P w=.ok false w)(Z:Zr P e f=some f')(C:f'<s)(hr:w.ownsRow B e s (.slice a n c) n (L.flatMap enc))(hl:L.length=n)(hx:L[i]? = some x)(hv:(enc x)[f']? = some v)(h:∀j u,K3 j u v w):aL P t (.slice a n c) (.int k (i:Nat)) (fun j w=>ai P e j f (fun u w=>ld P E u (fun u3 w=>K3 j u u3 w) w) w) w:=by
 refine zdr ht J hs hr hl hx ?_;intro g M ha O U;refine aH Z <|ld1 I O (by rw[U _ C];exact hv) ?_;exact h _ _
end
section
variable {P:Program}{w w':World}{K:KV}{t:TypeId}{g B n c s:Nat}{e:TypeId}{v:Value}{xs:List Value}{α:Type}{enc:α→List Value}{L:List α}
theorem Xi {cs:Array Bool}{base:Nat}{i:TypeInfo}{z:Value}(ht:P.underlying t=some (.slice e))(hi:P.info? e=some i)(hz:i.zero=some z)(M:i.size=s)(U:i.bytes=b)(af:z.cells.size=s)(aa:0<s)(O:w.ownsRow base e s (.slice av n c) n xs)(hy:blk w g e ys)(ad:ys.length=m*s)(h1:∀u∈ys,u.oneCell'=true)(C:(n+m)*b≤140737488355328)(al:n+m≤9223372036854775807)(J:base≤w.heap.size)(h:∀I c' w',w'.ownsRow base e s (.slice I (n+m) c') (n+m) (xs++ys)→w.grownBy w' (Value.slice av n c).ownBlock→((Value.slice I (n+m) c').ownBlock=(Value.slice av n c).ownBlock∨(Value.slice I (n+m) c').ownBlock=some w.heap.size)→K (.slice I (n+m) c') w'):blt P .append #[t,t] E cs #[.slice av n c,.slice (some ⟨g,0,none⟩) m c2] K w:=by
  have Z:∀j u,ys[j]? = some u→w.cell? ((⟨g,0,none⟩:Addr).add j)=some u:=by
    intro j u hj;rw[Be,hy.cell,Nat.zero_add];exact hj
  obtain⟨v',w',hr,h2,h3,_,h5⟩:=run_append_own_at (P:=P) w base t E e i z s b ht hi hz M U af aa _ n xs O ⟨g,0,none⟩ m c2 ys ad Z h1 (by simp only[maxLen];omega) C J;obtain⟨I,c',rfl⟩:∃I c',v'=.slice I (n+m) c':=by
    rcases h2.2 with⟨hv,Z⟩|⟨g,cap,ag,hv,_⟩
    · exact⟨none,0,by rw[hv,Z]⟩
    · exact⟨_,cap,hv⟩
  exact rD (by rw[BigFrame.builtin_append];simp only[Sem.run_bind,hr,Result.andThen_ok,Sem.run_pure]) (h I c' w' h2 h3 h5)
structure Opn (w:World) (B:Nat) (e:TypeId) (s n c g:Nat) (cur:List Value) (xs:List Value):Prop where
 blk:blk w g e cur
 lo:B≤g
 nc:n≤c
 cm:c≤maxLen
 len:cur.length=c*s
 take:cur.take (n*s)=xs
 xl:xs.length=n*s
theorem d9 (I:w.ownsRow B e s (.slice a n c) n xs)(Z:0<n):∃g h,a=some ⟨g,0,none⟩∧Opn w B e s n c g h xs:=by
 rcases I.2 with⟨_,hz⟩|⟨g,cap,h,J,M,O,U,u,j,C⟩
 ·omega
 simp only[Value.slice.injEq]at J;obtain⟨rfl,_,rfl⟩:=J;exact⟨g,h.toList,rfl,O,M,U,u,by simpa using j,C,I.1⟩
theorem Opn.own (h:Opn w B e s n c g cs xs):w.ownsRow B e s (.slice (some ⟨g,0,none⟩) n c) n xs :=
 ⟨h.xl,.inr ⟨g,c,cs.toArray,rfl,h.lo,h.blk,h.nc,h.cm,by simpa using h.len,by simpa using h.take⟩⟩
theorem IS (h:∀x,(enc x).length=s):∀L:List α,(L.flatMap enc).length=L.length*s
 | []=>by simp
 | x::L=>by rw[List.flatMap_cons,List.length_append,h,IS h L,List.length_cons,Nat.succ_mul];omega
theorem Tp (j:∀x,(enc x).length=s):∀(L:List α) (i:Nat) (x:α),i<L.length→(L.flatMap enc).take (i*s)++enc x++(L.flatMap enc).drop (i*s+s)=(L.set i x).flatMap enc
 | [],i,x,h=>by simp at h
 | y::L,0,x,_=>by
  simp only[Nat.zero_mul,List.take_zero,List.nil_append,Nat.zero_add,List.set_cons_zero,List.flatMap_cons];rw[List.drop_append_of_le_length (by rw[j];exact Nat.le_refl _),List.drop_of_length_le (by rw[j];exact Nat.le_refl _),List.nil_append]
 | y::L,i+1,x,h=>by
  have C:=Tp j L i x (by simpa using h);simp only[List.set_cons_succ,List.flatMap_cons];rw[←C,Nat.succ_mul];have e1:i*s+s=(enc y).length+i*s:=by rw[j];omega
  have u:i*s+s+s=(enc y).length+(i*s+s):=by rw[j];omega
  rw[u,List.drop_length_add_append,e1,List.take_length_add_append];simp[List.append_assoc]
theorem Opn.set {x:α}(j:∀x,(enc x).length=s)(h:Opn w B e s n c g cs (L.flatMap enc))(I:L.length=n)(hi:i<n)(C:Go.Proofs.YtkfgimlaijifaaaGreatDoor.blk w' g e (cs.take (i*s)++enc x++cs.drop (i*s+s))):Opn w' B e s n c g (cs.take (i*s)++enc x++cs.drop (i*s+s)) ((L.set i x).flatMap enc):=by
 have u:(i+1)*s≤n*s:=Nat.mul_le_mul_right _ hi;have M:n*s≤c*s:=Nat.mul_le_mul_right _ h.nc;rw[Nat.succ_mul]at u;have J:=h.len;refine⟨C,h.lo,h.nc,h.cm,?_,?_,?_⟩
 ·simp only[List.length_append,List.length_take,List.length_drop,j];omega
 ·rw[←Tp j L i x oo, ←h.take];rw[List.take_append,List.take_append];simp only[List.length_append,List.length_take,j];rw[List.take_take,tL (l:=enc x) (by rw[j];omega)];rw[List.take_take,show min (n*s) (i*s)=i*s by omega,show min (i*s) (n*s)=i*s by omega,List.drop_take]
  congr 2
  omega
 ·rw[IS j,List.length_set,I]
theorem Opn.elem {x:α}(C:∀x,(enc x).length=s)(h:Opn w B e s n c g cs (L.flatMap enc))(M:L.length=n)(I:L[i]? = some x):(cs.drop (i*s)).take s=enc x:=by
 have hi:i<n:=by rw[←M];exact(gS I).1
 have J:(i+1)*s≤n*s:=Nat.mul_le_mul_right _ hi;rw[Nat.succ_mul]at J;have e:(cs.drop (i*s)).take s=((cs.take (n*s)).drop (i*s)).take s:=by
  rw[List.drop_take,List.take_take];congr 1;omega
 rw[e,h.take];apply List.ext_getElem?;intro j;by_cases u:j<s
 ·rw[List.getElem?_take_of_lt u,List.getElem?_drop,Ml C L i x j I u]
 ·rw[List.getElem?_eq_none (by simp;omega),List.getElem?_eq_none (by rw[C];omega)]
theorem If (h:w.ownsRow B e s v n xs)(C:v.ownBlock=some k):(∃j,blk w k e j)∧B≤k∧k<w.heap.size:=by
 rcases h.2 with⟨rfl,_⟩|⟨g,cap,j,rfl,I,u,_⟩
 ·cases C
 ·cases C;exact⟨⟨j.toList,u⟩,I,blk.lt (w:=w) (E:=e) (cs:=j.toList) u⟩
theorem xv (h:blk w k E cs)(j:blk w k t xs):E=t:=by
 unfold blk at h j;rw[h]at j;simp only[Option.some.injEq,Obj.cells.injEq]at j;exact j.2.1
theorem Opn.cell {x:α}(I:∀x,(enc x).length=s)(h:Opn w B e s n c g cs (L.flatMap enc))(C:L.length=n)(J:L[i]? = some x)(u:j<s):cs[i*s+j]? = (enc x)[j]? := by
 rw[←h.elem I C J,List.getElem?_take_of_lt u,List.getElem?_drop]
theorem Opn.set1 {x x':α}{v:Value}(I:∀x,(enc x).length=s)(h:Opn w B e s n c g cs (L.flatMap enc))(C:L.length=n)(M:L[i]? = some x)(hj:j<s)(hv:(enc x).set j v=enc x')(J:Go.Proofs.YtkfgimlaijifaaaGreatDoor.blk w' g e (cs.set (i*s+j) v)):Opn w' B e s n c g (cs.set (i*s+j) v) ((L.set i x').flatMap enc):=by
 have hi:i<n:=by rw[←C];exact(gS M).1
 have U:(i+1)*s≤n*s:=Nat.mul_le_mul_right _ hi;have h2:n*s≤c*s:=Nat.mul_le_mul_right _ h.nc;rw[Nat.succ_mul]at U;have Z:=h.len;have e1:cs=cs.take (i*s)++(enc x++cs.drop (i*s+s)):=by
  rw[←h.elem I C M]
  have:cs.drop (i*s+s)=(cs.drop (i*s)).drop s:=by rw[List.drop_drop]
  rw[this,List.take_append_drop,List.take_append_drop]
 have O:cs.set (i*s+j) v=cs.take (i*s)++enc x'++cs.drop (i*s+s):=by
  have u:(cs.take (i*s)).length=i*s:=by rw[List.length_take];omega
  conv=>lhs;rw[e1]
  rw[List.set_append_right _ _ (by rw[u];omega),u,show i*s+j-i*s=j by omega,List.set_append_left _ _ (by rw[I];exact hj),hv,List.append_assoc]
 rw[O]at J ⊢;exact h.set I C hi J
theorem qV {k:IntKind}(u:a=some ⟨g,0,none⟩)(C:P.underlying t=some (.slice e))(j:∀w,(sizeOf e).run P w=.ok s w)(hi:i<n)(h:K (pA g (i*s)) w):aL P t (.slice a n c) (.int k (i:Nat)) K w:=by
 subst u;refine dQ (s:=s) C j oo oo ?_;rw[Int.toNat_natCast,Nat.zero_add];exact h
theorem zeN {K2:Value→KV}{x:α}{k:IntKind}{d:TypeDesc}(ht:P.underlying t=some (.slice e))(j:∀w,(sizeOf e).run P w=.ok s w)(hu:P.underlying e=some d)(U:d.isRow=true)(hi:(P.info? e).map (·.size)=some s)(J:∀x,(enc x).length=s)(hr:w.ownsRow B e s (.slice a n c) n (L.flatMap enc))(C:L.length=n)(M:L[i]? = some x)(h:∀u,K2 u (.agg (enc x).toArray) w):aL P t (.slice a n c) (.int k (i:Nat)) (fun u w=>ld P e u (K2 u) w) w:=by
 have Z:i<n:=by rw[←C];exact(gS M).1
 obtain⟨g,O,rfl,I⟩:=d9 hr oo;refine dQ (s:=s) ht j oo oo ?_;rw[Int.toNat_natCast,Nat.zero_add];refine ldA (n:=s) (vs:=enc x) hu U hi I.blk (I.elem J C M) (J x) (h _)
theorem gh {T:List TypeId}{v:Value}(h:w.ownsRow B2 E s v n xs)(M:Keep T B w w')(C:E∉T):w'.ownsRow B2 E s v n xs:=by
 refine⟨h.1,?_⟩;rcases h.2 with u|⟨g,cap,j,O,I,J,r⟩
 ·exact .inl u
 ·exact .inr ⟨g,cap,j,O,I,M.block _ _ J (.inr fun cs E' z e=>by cases e;exact C),r⟩
theorem eM {v:Value}(h:w.ownsRow B E s v n xs)(u:Go.Proofs.YtkfgimlaijifaaaGreatDoor.blk w p t cs)(M:t≠E)(O:Oth p w w'):w'.ownsRow B E s v n xs :=
 cD h fun k j=>O.other k (by
  rintro rfl;rcases h.2 with⟨C,_⟩|⟨g,cap,J,C,_,I,_⟩
  ·rw[C]at j;cases j
  ·have e1:g=k:=by rw[C]at j;simpa[Value.ownBlock]using j
   rw[e1]at I;unfold Go.Proofs.YtkfgimlaijifaaaGreatDoor.blk at u;rw[I]at u;simp only[Option.some.injEq,Obj.cells.injEq]at u;exact M u.2.1.symm)
theorem wj {v v2:Value}(h:w.ownsRow B E s v n xs)(h2:w.ownsRow B2 t b v2 c cs)(hE:E≠t)(hg:w.grownBy w' v2.ownBlock):w'.ownsRow B E s v n xs:=by
 refine cD h fun k C=>hg.block k (World.ownsRow.lt h k C).2 (fun I=>?_);rcases h.2 with⟨J,_⟩|⟨g,cap,Z,J,_,U,_⟩
 ·rw[J]at C;cases C
 ·rcases h2.2 with⟨u,_⟩|⟨g2,M,O,u,_,j,_⟩
  ·rw[u]at I;cases I
  ·have e1:g=k:=by rw[J]at C;simpa[Value.ownBlock]using C
   have e2:g2=k:=by rw[u]at I;simpa[Value.ownBlock]using I.symm
   rw[e1]at U;rw[e2,U]at j;simp only[Option.some.injEq,Obj.cells.injEq]at j;exact hE j.2.1
theorem fJ {v:Value}(u:Go.Proofs.YtkfgimlaijifaaaGreatDoor.blk w p t cs)(h:w.ownsRow B E s v n xs)(M:t≠E)(O:w.grownBy w' v.ownBlock):Go.Proofs.YtkfgimlaijifaaaGreatDoor.blk w' p t cs:=by
 unfold Go.Proofs.YtkfgimlaijifaaaGreatDoor.blk at u ⊢;rw[O.block p (Go.Proofs.YtkfgimlaijifaaaGreatDoor.blk.lt u) (fun j=>?_)]
 ·exact u
 ·rcases h.2 with⟨I,_⟩|⟨g,cap,J,I,_,C,_⟩
  ·rw[I]at j;cases j
  ·have e1:g=p:=by rw[I]at j;simpa[Value.ownBlock]using j.symm
   rw[e1,u]at C;simp only[Option.some.injEq,Obj.cells.injEq]at C;exact M C.2.1
theorem uP {cs:Array Bool}{base:Nat}{i:TypeInfo}{z:Value}{L:List α}{x:α}(ht:P.underlying t=some (.slice e))(hi:P.info? e=some i)(hz:i.zero=some z)(J:i.size=s)(Z:i.bytes=b)(ad:z.cells.size=s)(aa:0<s)(hs:∀x,(enc x).length=s)(I:w.ownsRow base e s (.slice av n c) n (L.flatMap enc))(hy:Go.Proofs.YtkfgimlaijifaaaGreatDoor.blk w g e (enc x))(h1:∀u∈enc x,u.oneCell'=true)(C:(n+1)*b≤140737488355328)(U:n+1≤9223372036854775807)(j:base≤w.heap.size)(h:∀M O w',w'.ownsRow base e s (.slice M (n+1) O) (n+1) ((L++[x]).flatMap enc)→w.grownBy w' (Value.slice av n c).ownBlock→Below base w w'→((Value.slice M (n+1) O).ownBlock=(Value.slice av n c).ownBlock∨(Value.slice M (n+1) O).ownBlock=some w.heap.size)→K (.slice M (n+1) O) w'):blt P .append #[t,t] E cs #[.slice av n c,.slice (some ⟨g,0,none⟩) 1 c2] K w:=by
 refine Xi (m:=1) (ys:=enc x) ht hi hz J Z ad aa I hy (by rw[hs];omega) h1 C U j fun M O w' h2 h3 h4=>?_;refine h M O w' ?_ h3 (cM h3 j (fun k hk=>(World.ownsRow.lt I k hk).1)) h4;rw[List.flatMap_append];simpa using h2
theorem Ul {T:TypeId}{N t:Nat}{v:Value}{d:TypeDesc}(Z:P.underlying T=some d)(J:d.isRow=true)(hi:(P.info? T).map (·.size)=some N)(U:Go.Proofs.YtkfgimlaijifaaaGreatDoor.blk w t T xs)(h0:xs.length=N)(C:cs.length=N)(I:∀v∈cs,v.oneCell'=true)(h:∀w',Oth t w w'→K (.tuple #[.agg cs.toArray,v]) w'):sto P T (pA t 0) (.agg cs.toArray) (fun _t w=>aV P [(some T,pA t 0),(none,v)] K w) w:=by
 refine ip (n:=N) (vs:=cs) hi C U oo I fun w1 u o1=>?_;have u:Go.Proofs.YtkfgimlaijifaaaGreatDoor.blk w1 t T cs:=by
  rw[List.take_zero,List.nil_append,List.drop_of_length_le oo,List.append_nil]at u;exact u
 have O:=run_loadVar_mid (P:=P) w1 t 0 T cs _ (fun j v M=>by rw[u.cell,Nat.zero_add];exact M) Z J (by rw[C];exact hi);have e:(oc [(some T,pA t 0),(none,v)]).run P w1=.ok (.tuple #[.agg cs.toArray,v]) w1:=by
  simp[oc,asAddr,Sem.run_bind,O]
 unfold aV;rw[e];exact⟨rfl,h w1 o1⟩
theorem Opn.sto {x:α}(C:∀x,(enc x).length=s)(j:Opn w B e s n c g cs (L.flatMap enc))(Z:L.length=n)(hi:i<n)(O:(P.info? e).map (·.size)=some s)(I:∀v∈enc x,v.oneCell'=true)(h:∀w',Oth g w w'→w'.ownsRow B e s (.slice (some ⟨g,0,none⟩) n c) n ((L.set i x).flatMap enc)→K undef w'):sto P e (pA g (0+((i:Nat):Int).toNat*s)) (.agg (enc x).toArray) K w:=by
 have u:(i+1)*s≤n*s:=Nat.mul_le_mul_right _ hi;have U:n*s≤c*s:=Nat.mul_le_mul_right _ j.nc;rw[Nat.succ_mul]at u;have M:=j.len;rw[Int.toNat_natCast,Nat.zero_add];refine ip (n:=s) (vs:=enc x) O (C x) j.blk oo I fun w' J ho=>?_;exact h w' ho (Opn.own (Opn.set C j Z hi J))
end
end
section
open Go.RowKit
def ndO (o:Oper):Bool:=match o.op with | .defer _=>false|_=>true
def yD :Code→Bool
 | .region _ ops _=>ops.toList.all ndO
 | .seq a b=>match yD a with|true=>yD b|false=>false
 | .cond _ a b=>match yD a with|true=>yD b|false=>false
 | .block _ c=>yD c
 | .loop c=>yD c
 | _=>true
section
variable {P:Program}{Q:Exit→Act→World→Prop}{l n:Nat}{ops:Array Oper}{ds:List Deferred}
theorem zdF {o:Oper}(h:ndO o=true):∀c,o.op≠.defer c:=by
 intro c j;unfold ndO at h;rw[j]at h;cases h
theorem zbc {o:Oper}{a:Act}{K:Act→World→Prop}(I:ndO o=true)(h:o.wp P a w K Q):o.wpIn (Fence.wide.inRound l) n P a w K Q:=by
 unfold Oper.wp at h;unfold Oper.wpIn;refine⟨fun _ _=>trivial,?_⟩;rw[Oper.semAt_eq _ _ _ (zdF I)];generalize (execOp a.eval o).run P w=r at *;cases r with
 | ok x w' =>
  cases x<;>simp only[Oper.upon]at h<;>simp only[Oper.uponIn]
  case value=>exact h
  case skip=>exact h
  case enter f args=>exact⟨fun j=>(by cases j),CallsIn.inRound l (callsIn_wide.2 h)⟩
  case defer=>exact h
  case row row args =>
   refine⟨fun j=>(by cases j),?_⟩;intro c cs _;obtain⟨v,w2,u,C⟩:=h c cs;exact⟨v,w2,u,stepsIn_wide.2 C⟩
 | halt x w' => cases x<;>simp only[Oper.upon]at h<;>simp only[Oper.uponIn]<;>exact h
theorem zdK (J : ¬LetsOut Q)(u:ops.toList.all ndO=true){a:Act}{K:Act→World→Prop}(h:wpOp P ops Q i K a w):wpOpIn (Fence.wide.inRound l) n P ops Q i K a w:=by
 unfold wpOp at h;unfold wpOpIn;split at h
 ·rename_i j;rw[j];exact h
 ·rename_i o j;rw[j];have M:o∈ops.toList:=by have:=Array.mem_of_getElem? j;simpa using this
  have C:=List.all_eq_true.1 u o M;dsimp only;split at h
  ·rename_i I;rw[if_pos I];rcases h with h|h
   ·exact zbc C h
   ·exact absurd h.2 J
  ·rename_i I;rw[if_neg I];exact⟨fun _ _=>trivial,h⟩
theorem zcS (C : ¬LetsOut Q)(u:ops.toList.all ndO=true){md:Region.Mode}:∀(fuel:Nat) (j:Array Bool) (a:Act) (w:World),wpAny P md ops Q fuel j a w→wpAnyIn (Fence.wide.inRound l) n P md ops Q fuel j a w:=by
 intro fuel
 induction fuel with
 | zero=>intro j a w h;exact h
 | succ fuel ih =>
  intro j a w h;exact⟨h.1,fun i hi=>wpOpIn_mono (fun a w h=>ih _ _ _ h) (zdK C u (h.2 i hi))⟩
theorem zc1 (C : ¬LetsOut Q):∀(L:List Oper) (a:Act) (w:World),L.all ndO=true→wpList P ops Q L a w→wpListIn (Fence.wide.inRound l) n P ops Q L a w:=by
 intro L
 induction L with
 | nil=>intro a w _ h;exact h
 | cons o L ih =>
  intro a w j h;rw[List.all_cons,Bool.and_eq_true]at j;unfold wpList at h;unfold wpListIn;split at h
  ·rename_i u;rw[if_pos u];rcases h with h|h
   ·exact Oper.wpIn_mono (fun a w h=>ih a w j.2 h) (zbc j.1 h)
   ·exact absurd h.2 C
  ·rename_i u;rw[if_neg u];exact⟨fun _ _=>trivial,ih _ _ j.2 h⟩
theorem Xf {N:KE}{X:Nat→KE}:¬LetsOut (QQ ds N X B1):=fun⟨_,_,h⟩=>h
theorem WL {id:Nat}{N:KE}{X:Nat→KE}{e:Env}(h:ah P (.region id ops true) N X B1 e w):P.follows .mixedOrders=true∧wpAny P .any ops (QQ ds N X B1) ops.size (Array.replicate ops.size false) ⟨e.toArray,ds⟩ w.drew:=by
 simp only[ah]at h;cases O:(P.follows .mixedOrders&&Mo P ops)
 case true =>
  rw[O]at h;obtain⟨S,hS,h⟩:=h;simp only[Bool.and_eq_true]at O;exact⟨O.1,Ej _ _ _ _ _ (PK (fun e w hN=>⟨e,rfl,hN⟩) (fun c a w hh=>hh) (PN O.2) _ _ _ _ _ _ hS (No ops _) h)⟩
 case false =>
 rw[O]at h;dsimp only at h;cases hf:(P.follows .mixedOrders&&Nat.ble (ju ops) ops.size)
 case false=>rw[hf]at h;exact h.elim
 case true =>
  rw[hf]at h;have h:B9 _ _ _ _ _ _:=h;simp only[Bool.and_eq_true]at hf;refine⟨hf.1,?_⟩;obtain⟨h1,h2⟩:=tU (ops.toList.take (ju ops));obtain⟨h3,h4⟩:=tU (ops.toList.drop (ju ops));have J:∀e,dy P ops.toList (grp (ops.toList.drop (ju ops))) N e w.drew→wpList P ops.toList.toArray (QQ ds N X B1) (ops.toList.drop (ju ops)) ⟨e.toArray,ds⟩ w.drew:=by
   intro e Z
   have:=DD (P:=P) (ops:=ops.toList) (Q:=QQ ds N X B1) (K:=N) (fun e w h=>⟨e,rfl,h⟩) (grp (ops.toList.drop (ju ops))) e w.drew h4 Z
   rwa[h3]at this
  rcases Pq ops hf.2 with⟨M,hn⟩|⟨M,hn⟩
  ·have I:=Ei (P:=P) (ops:=ops.toList) (Q:=fun a=>QQ ds N X B1 .normal a w.drew) (w:=w.drew) (fun e Z=>by
    have:=J e Z
    rw[hn,List.drop_of_length_le sm]at this;exact this) _ e h2 h
   rw[h1,hn,tL sm]at I;simp only[Region.lexB,Bool.and_eq_true]at M;have I:wpStill P ops w.drew (fun a=>QQ ds N X B1 .normal a w.drew) ops.toList ⟨e.toArray,ds⟩:=by simpa using I
   refine wpAny_of_still (Q:=fun a=>QQ ds N X B1 .normal a w.drew) (fun _ h=>h) _ _ _ ?_
   have:=wpAnyS_lex (md:=.any) M.1 ops.toList 0 (Array.replicate ops.size false) ⟨e.toArray,ds⟩ sm (by simpa using M.2) I
   simpa using this
  ·have I:=Ei (P:=P) (ops:=ops.toList) (Q:=fun a=>wpList P ops.toList.toArray (QQ ds N X B1) (ops.toList.drop (ju ops)) a w.drew) (w:=w.drew) (fun e Z=>J e Z) _ e h2 h;rw[h1]at I;simp only[Region.lexTailB,Bool.and_eq_true,decide_eq_true_eq]at M;obtain⟨⟨⟨⟨af,ad⟩,an⟩,hc⟩,aa⟩:=M;generalize hk:ju ops=k at *;have am:k<ops.toList.length:=by simpa using ad
   have u:(ops.toList.take k).length=k:=by simp only[List.length_take];omega
   have U:(ops.toList.drop k).length=ops.size-k:=by simp
   have hw:ops.toList.toArray=ops:=by simp
   rw[hw]at I;have ag:HeadInv .any ops k (Array.replicate ops.size false) :=
    ⟨by simp,fun j oj _ hl=>(by rw[getD_replicate_false]at hl;cases hl),fun t _ ht=>getD_in (by simpa using ht) (getD_replicate_false _ _)⟩
   have H:=wpAnyL_lex (md:=.any) (g:=ops.size-k) af an hc ad (ops.toList.take k) 0 _ ⟨e.toArray,ds⟩ (fun j hj=>by
    have al:j<k:=by rw[u]at hj;exact hj
    simp[al]) (by simpa using u) ag (by rw[u];exact aa) I
   have:=wpAny_of_head (Q':=QQ ds N X B1) (g:=ops.size-k) (fun C a' hL=>by
    have:=wpAny_of_seq (md:=.any) (Q':=QQ ds N X B1) (ops.toList.drop k) k C a' w.drew (fun j=>by simp[List.getElem?_drop]) (by rw[U];exact hL.1) hL.2
    rwa[U]at this) _ _ _ H
   rw[u,show k+(ops.size-k)=ops.size by simp at am;omega]at this;exact this
theorem JM :∀(c:Code) (N:KE) (X:Nat→KE) (R:KE) (e:Env) (w:World),yD c=true→ah P c N X R e w→c.wpIn (Fence.wide.inRound l) n P (QQ ds N X R) ⟨e.toArray,ds⟩ w:=by
 intro c
 induction c with
 | skip=>intro N X R e w _ h;exact wpIn_skip ⟨e,rfl,h⟩
 | region id ops draw =>
  intro N X R e w j h;cases draw with
  | true =>
   obtain⟨C,J⟩:=WL (ds:=ds) h;exact wpIn_region_any C (zcS Xf j _ _ _ _ J)
  | false =>
   refine wpIn_region_list (zc1 Xf _ _ _ j ?_);obtain⟨C,J⟩:=tU ops.toList
   have:=DD (P:=P) (ops:=ops.toList) (Q:=QQ ds N X R) (K:=N) (fun e w h=>⟨e,rfl,h⟩) (grp ops.toList) e w J h
   rw[C]at this;simpa using this
 | seq a b iha ihb =>
  intro N X R e w j h;obtain⟨U,Z⟩:yD a=true∧yD b=true:=by
   unfold yD at j;split at j
   ·rename_i O;exact⟨O,j⟩
   ·cases j
  refine wpIn_seq (wpIn_mono (iha _ _ _ _ _ U h) ?_);intro x a w u;cases x with
  | normal=>obtain⟨e,rfl,h⟩:=u;exact ihb _ _ _ _ _ Z h
  | _=>exact u
 | cond c x y ihx ihy =>
  intro N X R e w j h;obtain⟨U,Z⟩:yD x=true∧yD y=true:=by
   unfold yD at j;split at j
   ·rename_i O;exact⟨O,j⟩
   ·cases j
  obtain⟨b,M,C,J⟩:=h;cases b with
  | true=>exact wpIn_cond (t:=true) (by rw[sd];exact M) (ihx _ _ _ _ _ U (C rfl))
  | false=>exact wpIn_cond (t:=false) (by rw[sd];exact M) (ihy _ _ _ _ _ Z (J rfl))
 | block id c ih =>
  intro N X R e w j h;refine wpIn_block (wpIn_mono (ih _ _ _ _ _ j h) ?_);intro x a w u;cases x with
  | exit i =>
   obtain⟨e,rfl,h⟩:=u;simp only[Exit.inBlock];by_cases hi:i=id
   ·rw[if_pos hi]
    have:Nat.beq i id=true:=by rw[hi];exact Nat.beq_refl id
    rw[this]at h;exact⟨e,rfl,h⟩
   ·rw[if_neg hi]
    have:Nat.beq i id=false:=by
     cases M:Nat.beq i id with
     | false=>rfl
     | true=>exact absurd (Nat.eq_of_beq_eq_true M) hi
    rw[this]at h;exact⟨e,rfl,h⟩
  | _=>exact u
 | loop c ih =>
  intro N X R e w j h;obtain⟨I,μ,h0,hs⟩:=h;refine wpIn_loop (fun a w=>∃e:Env,a=⟨e.toArray,ds⟩∧I e w) (fun a w=>μ a.tmps.toList w) ⟨e,rfl,h0⟩ ?_;rintro _ w' ⟨e',rfl,hI⟩;refine wpIn_mono (ih _ _ _ _ _ j (hs e' w' hI)) ?_;intro x a w u;cases x with
  | normal=>obtain⟨e2,rfl,C,J⟩:=u;exact⟨⟨e2,rfl,C⟩,by simpa using J⟩
  | _=>exact u
 | exit i=>intro N X R e w _ h;exact wpIn_exit ⟨e,rfl,h⟩
 | ret=>intro N X R e w _ h;exact wpIn_ret ⟨e,rfl,h⟩
 | _=>intro N X R e w _ h;exact h.elim
end
abbrev YB :=List Value→KV→World→Prop
section
variable (P:Program)(Y:YB)(l:Nat)
def Pi (fv:Value)(args:Array Value)(K:KV)(w:World):Prop:=(fv=.func (.yield l) #[] #[]∧Y args.toList K w)∨aZ P fv args K w
def yOp (r:Operand→Value)(o:Oper)(K:KV)(w:World):Prop :=
 match o.op with
 | .call c =>
  match c.callee with
  | .value (.tmp t)=>Pi P Y l (r (.tmp t)) (c.args.toList.map r).toArray K w
  | _=>cOp P r o K w
 | _=>cOp P r o K w
def Ai (ops:List Oper):List Oper→KE→KE
 | [],K=>K
 | o::r,K=>fun e w =>
  match o.guard with
  | none=>yOp P Y l (ev e) o (fun v w' => Ai ops r K (pt e o.dst v) w') w
  | some (j,want)=>xG (qU ops e j) want (fun k w=>yOp P Y l (ev e) o k w) (fun v w' => Ai ops r K (pt e o.dst v) w') w
def ug :Code→KE→(Nat→KE)→KE→KE
 | .skip,N,_,_=>N
 | .region _ ops false,N,_,_=>Ai P Y l ops.toList ops.toList N
 | .region i ops true,N,X,R=>ah P (.region i ops true) N X R
 | .seq a b,N,X,R=>ug a (ug b N X R) X R
 | .cond c x y,N,X,R=>fun e w=>cond (ev e c) (ug x N X R e w) (ug y N X R e w)
 | .block id c,N,X,R=>ug c N (fun i=>@Bool.rec (fun _=>KE) (X i) N (Nat.beq i id)) R
 | .loop c,_,X,R=>zb3 fun N' => ug c N' X R
 | .exit i,_,X,_=>X i
 | .ret,_,_,R=>R
 | _,_,_,_=>fun _ _=>False
end
structure YOK (P:Program) (l:Nat) (Y:YB):Prop where
 yld:∀{vs K w},Y vs K w→∃r:Loop,w.heap[l]? = some (.loop r)∧r.state=.ready∧vs.length=r.params.size ∧
  RoundIn Fence.wide 0 P l r.fn ((r.params.zip vs.toArray).foldl (fun t (p,a)=>t.setIfInBounds p a) r.tmps) r.assign r.body w (fun x w' => ∃v,x=.returned v∧K v w')
section sound
variable {P:Program}{Y:YB}{l:Nat}
theorem zai {o:Oper}{a:Act}{K:Act→World→Prop}{Q:Exit→Act→World→Prop}(h:o.wp P a w K Q):o.wpIn Fence.wide n P a w K Q:=by
 unfold Oper.wp at h;unfold Oper.wpIn;refine⟨fun _ _=>trivial,?_⟩;rw[show Fence.wide.round=none from rfl,Oper.semAt_none];generalize (execOp a.eval o).run P w=r at *;cases r with
 | ok x w' =>
  cases x<;>simp only[Oper.upon]at h<;>simp only[Oper.uponIn]
  case value=>exact h
  case skip=>exact h
  case enter f args=>exact⟨fun j=>(by cases j),callsIn_wide.2 h⟩
  case defer=>exact h
  case row row args =>
   refine⟨fun j=>(by cases j),?_⟩;intro c cs _;obtain⟨v,w2,u,C⟩:=h c cs;exact⟨v,w2,u,stepsIn_wide.2 C⟩
 | halt x w' => cases x<;>simp only[Oper.upon]at h<;>simp only[Oper.uponIn]<;>exact h
theorem Si (hY:YOK P l Y){o:Oper}{e:Env}{j:Act→World→Prop}{Q:Exit→Act→World→Prop}(h:yOp P Y l (ev e) o K w)(hn:∀v w',K v w'→j ⟨(pt e o.dst v).toArray,[]⟩ w'):o.wpIn Fence.wide 1 P ⟨e.toArray,[]⟩ w j Q:=by
 have old:cOp P (ev e) o K w→o.wpIn Fence.wide 1 P ⟨e.toArray,[]⟩ w j Q:=fun h=>zai (Bl h hn)
 unfold yOp at h;split at h
 ·rename_i c U;split at h
  ·rename_i t ht;rcases h with⟨hf,hy⟩|h
   ·obtain⟨r,h1,h2,h3,h4⟩:=hY.yld hy;have Z:Act.eval ⟨e.toArray,[]⟩=ev e:=funext (sd e []);have u:(execOp (Act.eval ⟨e.toArray,[]⟩) o).run P w=.ok (.round l r.fn ((r.params.zip (c.args.toList.map (ev e)).toArray).foldl (fun t (p,a)=>t.setIfInBounds p a) r.tmps) r.assign r.body) w:=by
     obtain⟨dst,op,ty,pos,after,O⟩:=o;simp only at U;subst U;obtain⟨al,M,ag⟩:=c;simp only at ht;subst ht;rw[Z];simp only[execOp,resolve,Deferred.ofValue,invoke,Sem.run_bind,Sem.run_pure,Result.andThen_ok,hf];have e1 : #[]++Array.map (ev e) M=(M.toList.map (ev e)).toArray:=by apply Array.ext';simp
     rw[e1];obtain⟨st,ad,fn,af,J,C,aa,I⟩:=r;simp only at h2;subst h2;exact run_yield (P:=P) (w:=w) (l:=l) (args:=(M.toList.map (ev e)).toArray) h1 (by simpa using h3)
    unfold Oper.wpIn;refine⟨fun _ _=>trivial,?_⟩;rw[show Fence.wide.round=none from rfl,Oper.semAt_none,u,Oper.uponIn_round];refine⟨fun hh=>(by cases hh),h4.mono ?_⟩;rintro x w2 ⟨v,rfl,hv⟩;show j (Act.put ⟨e.toArray,[]⟩ o.dst v) w2
    rw[wG];exact hn v w2 hv
   ·refine old ?_;unfold cOp;rw[U];dsimp only;rw[ht];exact h
  ·exact old h
 ·exact old h
theorem Ny (M:YOK P l Y){ops:Array Oper}{Q:Exit→Act→World→Prop}:∀(L:List Oper) {K:KE} {e:Env} {w:World},Ai P Y l ops.toList L K e w→(∀e w,K e w→Q .normal ⟨e.toArray,[]⟩ w)→wpListIn Fence.wide 1 P ops Q L ⟨e.toArray,[]⟩ w
 | [],K,e,w,h,hK=>hK e w h
 | o::L,K,e,w,h,hK=>by
  refine wpListIn_step fun KK J=>?_;dsimp only;unfold Ai at h;have U:∀v w',Ai P Y l ops.toList L K (pt e o.dst v) w'→KK ⟨(pt e o.dst v).toArray,[]⟩ w':=fun v w' h=>J _ _ (Ny M L h hK);split at h
  ·rename_i O;have I:Region.wanted o (yielded ops e.toArray)=true:=by simp[Region.wanted,O]
   rw[I,if_pos rfl];exact Si M h U
  ·rename_i j u O;have I:=wA ops.toList e o j u O;rw[show ops.toList.toArray=ops from rfl]at I;rw[I];by_cases C:asB (qU ops.toList e j)=some u
   ·rw[show (asB (qU ops.toList e j)==some u)=true by simp[C],if_pos rfl];exact Si M (h.1 C) U
   ·rw[show (asB (qU ops.toList e j)==some u)=false by simp[C],if_neg sm];refine⟨fun _ _=>trivial,?_⟩;rw[wG];exact U undef w (h.2 C)
theorem V5 (U:YOK P l Y):∀(c:Code) (N:KE) (X:Nat→KE) (R:KE) (e:Env) (w:World),ug P Y l c N X R e w→c.wp P (QQ [] N X R) ⟨e.toArray,[]⟩ w:=by
 intro c
 induction c with
 | skip=>intro N X R e w h;exact wp_skip ⟨e,rfl,h⟩
 | region id ops draw =>
  intro N X R e w h;cases draw with
  | true=>exact Bg _ _ _ _ _ _ h
  | false=>exact(wpIn_wide (n:=1)).1 (wpIn_region_list (Ny U ops.toList h fun e w hN=>⟨e,rfl,hN⟩))
 | seq a b iha ihb =>
  intro N X R e w h;refine wp_seq (wp_mono (iha _ _ _ _ _ h) ?_);intro x a w j;cases x with
  | normal=>obtain⟨e,rfl,h⟩:=j;exact ihb _ _ _ _ _ h
  | _=>exact j
 | cond c x y ihx ihy =>
  intro N X R e w h;obtain⟨b,u,C,J⟩:=h;cases b with
  | true=>exact wp_cond (t:=true) (by rw[sd];exact u) (ihx _ _ _ _ _ (C rfl))
  | false=>exact wp_cond (t:=false) (by rw[sd];exact u) (ihy _ _ _ _ _ (J rfl))
 | block id c ih =>
  intro N X R e w h;refine wp_block (wp_mono (ih _ _ _ _ _ h) ?_);intro x a w j;cases x with
  | exit i =>
   obtain⟨e,rfl,h⟩:=j;simp only[Exit.inBlock];by_cases hi:i=id
   ·rw[if_pos hi]
    have:Nat.beq i id=true:=by rw[hi];exact Nat.beq_refl id
    rw[this]at h;exact⟨e,rfl,h⟩
   ·rw[if_neg hi]
    have:Nat.beq i id=false:=by
     cases u:Nat.beq i id with
     | false=>rfl
     | true=>exact absurd (Nat.eq_of_beq_eq_true u) hi
    rw[this]at h;exact⟨e,rfl,h⟩
  | _=>exact j
 | loop c ih =>
  intro N X R e w h;obtain⟨I,μ,O,Z⟩:=h;refine wp_loop (fun a w=>∃e:Env,a=⟨e.toArray,[]⟩∧I e w) (fun a w=>μ a.tmps.toList w) ⟨e,rfl,O⟩ ?_;rintro _ w' ⟨e',rfl,hI⟩;refine wp_mono (ih _ _ _ _ _ (Z e' w' hI)) ?_;intro x a w j;cases x with
  | normal=>obtain⟨M,rfl,C,J⟩:=j;exact⟨⟨M,rfl,C⟩,by simpa using J⟩
  | _=>exact j
 | exit i=>intro N X R e w h;exact wp_exit ⟨e,rfl,h⟩
 | ret=>intro N X R e w h;exact wp_ret ⟨e,rfl,h⟩
 | _=>intro N X R e w h;exact h.elim
def CF (P:Program)(Y:YB)(l:Nat)(f:FuncId)(args:List Value)(w:World)(K:KV):Prop :=
 Li P f∧∃(fn:Func) (c:Code),P.funcs[f]? = some fn∧fn.body=some c ∧
  ug P Y l c (Ab P fn.results.toList K) (fun _ _ _=>False) (Ab P fn.results.toList K) (args++List.replicate (fn.ntmps-args.length) undef) w
theorem YQ {f:FuncId}{j:Func}{args:List Value}(J:Li P f)(I:P.funcs[f]? = some j)(C:j.body.isSome=true)(h:ug P Y l (cd j []) (Ab P j.results.toList K) (fun _ _ _=>False) (Ab P j.results.toList K) (args++List.replicate (j.ntmps-args.length) undef) w):CF P Y l f args w K:=by
 cases u:j.body with
 | none=>simp[u]at C
 | some c =>
  have:cd j []=c:=by simp[cd,u,sub]
  rw[this]at h;exact⟨J,j,c,I,u,h⟩
theorem UG (J:YOK P l Y){f:FuncId}{args:List Value}(h:CF P Y l f args w K):Li P f∧Calls P f args.toArray w (fun x w' => ∃v,x=.returned v∧K v w'):=by
 obtain⟨U,I,c,O,M,h⟩:=h;refine⟨U,calls_of_wp O M ?_⟩;have e1:args.toArray++Array.replicate (I.ntmps-args.toArray.size) undef=(args++List.replicate (I.ntmps-args.length) undef).toArray:=by simp
 rw[e1];refine wp_mono (V5 J c _ _ _ _ _ h) ?_;intro x a w j;cases x with
 | normal=>obtain⟨e,rfl,h⟩:=j;obtain⟨v,u,C⟩:=wH h;exact⟨rfl,v,u,v,rfl,C⟩
 | ret=>obtain⟨e,rfl,h⟩:=j;obtain⟨v,u,C⟩:=wH h;exact⟨rfl,v,u,v,rfl,C⟩
 | exit i=>obtain⟨_,_,h⟩:=j;exact h.elim
 | _=>exact j.elim
/-! ## What a piece of an iterator's code does not write stays. -/
abbrev Bd (Y:YB):Prop:=∀(vs:List Value) (K K':KV) (w:World),(∀v w',K v w'→K' v w')→Y vs K w→Y vs K' w
theorem Wm {args:Array Value}{K':KV}(J:Bd Y)(I:∀v w',K v w'→K' v w')(h:Pi P Y l V0 args K w):Pi P Y l V0 args K' w:=by
 rcases h with⟨u,C⟩|⟨f,j,cap,u,C⟩
 ·exact .inl ⟨u,J _ _ _ _ I C⟩
 ·exact .inr ⟨f,j,cap,u,KC I C⟩
theorem UH (u:Bd Y){r:Operand→Value}{o:Oper}{K':KV}(j:∀v w',K v w'→K' v w')(h:yOp P Y l r o K w):yOp P Y l r o K' w:=by
 unfold yOp at h ⊢;split at h
 ·split at h
  ·exact Wm u j h
  ·exact Ex j h
 ·exact Ex j h
theorem Nx (u:Bd Y){ops:List Oper}:∀(L:List Oper) {K K':KE} {e:Env} {w:World},Ai P Y l ops L K e w→(∀j w2,agree (eR L) e j→K j w2→K' j w2)→Ai P Y l ops L K' e w
 | [],K,K',e,w,h,hk=>hk e w (agree.refl _ _) h
 | o::L,K,K',e,w,h,hk=>by
  have J:∀v w',Ai P Y l ops L K (pt e o.dst v) w'→Ai P Y l ops L K' (pt e o.dst v) w':=fun v w' h =>
   Nx u L h fun j w2 O M=>hk j w2 (((Ix e o.dst v).trans O).mono fun i hi=>by
    unfold eR at *;rw[List.filterMap_cons];rcases List.mem_append.1 hi with hi|hi
    ·cases C:o.dst with
     | none=>rw[C]at hi;cases hi
     | some d=>rw[C]at hi;simp at hi;subst hi;simp
    ·cases C:o.dst with
     | none=>exact hi
     | some d=>exact List.mem_cons_of_mem _ hi) M
  unfold Ai at h ⊢;split at h
  ·exact UH u J h
  ·exact⟨fun I=>UH u J (h.1 I),fun I=>J _ _ (h.2 I)⟩
theorem UZ (hY:Bd Y):∀(c:Code) {N N':KE} {X X':Nat→KE} {R R':KE} {e:Env} {w:World},ug P Y l c N X R e w→(∀j w2,agree (wr c) e j→N j w2→N' j w2) →
  (∀i j w2,agree (wr c) e j→X i j w2→X' i j w2)→(∀j w2,agree (wr c) e j→R j w2→R' j w2)→ug P Y l c N' X' R' e w:=by
 intro c
 induction c with
 | skip=>intro N N' X X' R R' e w h hN _ _;exact hN e w (agree.refl _ _) h
 | region id ops draw =>
  intro N N' X X' R R' e w h hN J C;cases draw with
  | true=>exact Bf _ h hN J C
  | false=>exact Nx hY _ h hN
 | seq a b iha ihb =>
  intro N N' X X' R R' e w h hN J C;exact iha h (fun j w2 u U=>ihb U (fun Z w3 hc hn=>hN Z w3 (u.trans hc) hn) (fun i Z w3 hc hn=>J i Z w3 (u.trans hc) hn) (fun Z w3 hc hn=>C Z w3 (u.trans hc) hn))
   (fun i j w2 u=>J i j w2 (u.mono fun i hi=>List.mem_append_left _ hi)) (fun j w2 u=>C j w2 (u.mono fun i hi=>List.mem_append_left _ hi))
 | cond c x y ihx ihy =>
  intro N N' X X' R R' e w h hN J C;obtain⟨b,U,h1,h2⟩:=h;refine⟨b,U,fun e1=>?_,fun e1=>?_⟩
  ·exact ihx (h1 e1) (fun j w2 u=>hN j w2 (u.mono fun i hi=>List.mem_append_left _ hi)) (fun i j w2 u=>J i j w2 (u.mono fun i hi=>List.mem_append_left _ hi)) (fun j w2 u=>C j w2 (u.mono fun i hi=>List.mem_append_left _ hi))
  ·exact ihy (h2 e1) (fun j w2 u=>hN j w2 (u.mono fun i hi=>List.mem_append_right _ hi)) (fun i j w2 u=>J i j w2 (u.mono fun i hi=>List.mem_append_right _ hi)) (fun j w2 u=>C j w2 (u.mono fun i hi=>List.mem_append_right _ hi))
 | block id c ih =>
  intro N N' X X' R R' e w h hN J C;refine ih h hN (fun i j w2 u M=>?_) C;cases U:Nat.beq i id with
  | true=>rw[U]at M;exact hN j w2 u M
  | false=>rw[U]at M;exact J i j w2 u M
 | loop c ih =>
  intro N N' X X' R R' e w h hN J C;obtain⟨I,μ,h0,hs⟩:=h;refine⟨fun e' w' => I e' w'∧agree (wr c) e e',μ,⟨h0,agree.refl _ _⟩,?_⟩;rintro e' w' ⟨hI,O⟩
  refine ih (hs e' w' hI) (fun j w2 u ⟨h1,h2⟩=>⟨⟨h1,(O.trans u).mono fun i hi=>by simpa using hi⟩,h2⟩) (fun i j w2 u M=>J i j w2 ((O.trans u).mono fun i hi=>show i∈wr c by simpa using hi) M) (fun j w2 u M=>C j w2 ((O.trans u).mono fun i hi=>show i∈wr c by simpa using hi) M)
 | exit i=>intro N N' X X' R R' e w h _ J _;exact J i e w (agree.refl _ _) h
 | ret=>intro N N' X X' R R' e w h _ _ C;exact C e w (agree.refl _ _) h
 | _=>intro N N' X X' R R' e w h _ _ _;exact h.elim
theorem PY (Z:Bd Y)(c:Code)(ws:List Nat)(J:(wr c).all (ws.contains ·)=true)(I:KE)(μ:Env→World→Nat){N:KE}{X:Nat→KE}{e:Env}(M:I e w)(hs:∀e' w',I e' w'→ug P Y l c (fun C w2=>I C w2∧μ C w2<μ e' w') X B1 (mix ws e' 0 e) w'):ug P Y l (.loop c) N X B1 e w:=by
 have u:∀i∈wr c,i∈ws:=fun i hi=>by simpa using List.all_eq_true.1 J i hi
 refine⟨fun e' w' => I e' w'∧agree ws e e',μ,⟨M,agree.refl _ _⟩,?_⟩;rintro e' w' ⟨hI,j⟩;have h:=hs e' w' hI;rw[RX j]at h;exact UZ Z c h (fun C w2 ha ⟨O,U⟩=>⟨⟨O,(j.trans (ha.mono u)).mono (fun i hi=>by simpa using hi)⟩,U⟩) (fun _ _ _ _ h=>h) (fun _ _ _ h=>h)
/-! ## The statement -/
def WK :List (Tmp×Value)→Env→Env
 | [],e=>e
 | (p,v)::r,e=>WK r (e.set p v)
theorem VS :∀(l:List (Tmp×Value)) (e:Env),l.foldl (fun t p=>t.setIfInBounds p.1 p.2) e.toArray=(WK l e).toArray
 | [],e=>rfl
 | (p,v)::l,e=>by
  rw[List.foldl_cons,show e.toArray.setIfInBounds p v=(e.set p v).toArray by simp];exact VS l _
def nT (fn:FuncId)(e:Env)(ps:Array Tmp)(a bd:Code)(D:Nat)(st:LoopState)(y:Option Code):Loop:={state:=st,pending:=y,fn,tmps:=e.toArray,params:=ps,assign:=a,body:=bd,defers:=D}
def stY (y:Option Code):LoopState:=if y.isNone then .ready else .done
def SI (P:Program)(l D:Nat)(fn:FuncId)(e:Env)(ps:Array Tmp)(a bd:Code):YB:=fun vs K w =>
 yD a=true∧yD bd=true∧w.heap[l]? = some (.loop (nT fn e ps a bd D .ready none))∧vs.length=ps.size ∧
 ah P a (fun e1 w1=>w1.heap[l]? = some (.loop (nT fn e ps a bd D .ready none)) ∧
  ah P bd (fun _ w2=>w2.heap[l]? = some (.loop (nT fn e ps a bd D .busy none))∧K (.bool true) (w2.putObj l (.loop (nT fn e ps a bd D .ready none))))
   (fun i _ w2=>w2.heap[l]? = some (.loop (nT fn e ps a bd D .busy none))∧K (.bool false) (w2.putObj l (.loop (nT fn e ps a bd D .done (some (.exit i))))))
   (fun _ w2=>w2.heap[l]? = some (.loop (nT fn e ps a bd D .busy none))∧K (.bool false) (w2.putObj l (.loop (nT fn e ps a bd D .done (some .ret)))))
   e1 (w1.putObj l (.loop (nT fn e ps a bd D .busy none)))) (fun _ _ _=>False) (fun _ _=>False) (WK (ps.toList.zip vs) e) w
theorem YZ {l:Nat}{e:Env}{ps:Array Tmp}{a bd:Code}:YOK P l (SI P l D I0 e ps a bd) where
 yld:=by
  rintro vs K w ⟨na,nb,hl,M,h⟩;refine⟨_,hl,rfl,M,?_⟩;have C:(ps.zip vs.toArray).foldl (fun u (t,a)=>u.setIfInBounds t a) e.toArray=(WK (ps.toList.zip vs) e).toArray:=by
   rw[←VS, ←Array.foldl_toList];simp
  show RoundIn Fence.wide 0 P l I0 ((ps.zip vs.toArray).foldl (fun u (t,a)=>u.setIfInBounds t a) e.toArray) a bd w _;rw[C];refine roundIn_of_wpIn trivial <|wpIn_mono (JM (ds:=[]) a _ _ _ _ _ na h) ?_;intro x U w1 j;cases x with
  | normal =>
   obtain⟨e1,rfl,Z,j⟩:=j;refine⟨_,run_beginRound Z rfl,?_⟩;refine wpIn_mono (JM (ds:=[]) bd _ _ _ _ _ nb j) ?_;intro x U w2 j;cases x with
   | normal=>obtain⟨O,rfl,I,J⟩:=j;exact⟨_,_,run_endRound none I,_,rfl,J⟩
   | exit i=>obtain⟨O,rfl,I,J⟩:=j;exact⟨_,_,run_endRound (some (.exit i)) I,_,rfl,J⟩
   | ret=>obtain⟨O,rfl,I,J⟩:=j;exact⟨_,_,run_endRound (some .ret) I,_,rfl,J⟩
   | _=>exact j.elim
  | exit i=>obtain⟨_,_,j⟩:=j;exact j
  | ret=>obtain⟨_,_,j⟩:=j;exact j
  | _=>exact j
def rfS (P:Program)(c:Code)(N:Nat→KE)(X:Nat→Nat→KE)(R:Nat→KE)(e:Env)(w:World):Prop :=
 match c with
 | .rangeFunc g ps a bd=>∃(gf:FuncId) (cap:List Value),ev e g=.func (.func gf) #[] cap.toArray∧∀(fn:FuncId) (W:World),Below w.heap.size w W→W.heap.size=w.heap.size+2 →
   W.heap[w.heap.size]? = some (.deferred (some []))→W.heap[w.heap.size+1]? = some (.loop (nT fn e ps a bd w.heap.size .ready none)) →
   CF P (SI P (w.heap.size+1) w.heap.size fn e ps a bd) (w.heap.size+1) gf (.func (.yield (w.heap.size+1)) #[] #[]::cap) W fun _ w' =>
    ∃y:Option Code,w'.heap[w.heap.size+1]? = some (.loop (nT fn e ps a bd w.heap.size (stY y) y)) ∧
     (match y with
      | none=>N w.heap.size e (w'.putObj (w.heap.size+1) (.loop (nT fn e ps a bd w.heap.size .exhausted y)))
      | some (.exit i)=>X i w.heap.size e (w'.putObj (w.heap.size+1) (.loop (nT fn e ps a bd w.heap.size .exhausted y)))
      | some .ret=>R w.heap.size e (w'.putObj (w.heap.size+1) (.loop (nT fn e ps a bd w.heap.size .exhausted y)))
      | _=>False)
 | _=>False
def QM (N:Nat→KE)(X:Nat→Nat→KE)(R:Nat→KE):Exit→Act→World→Prop
 | .normal,a,w=>∃(e:Env) (D:Nat),a=⟨e.toArray,[{target:=.collected D,args:=#[]}]⟩∧N D e w
 | .exit i,a,w=>∃(e:Env) (D:Nat),a=⟨e.toArray,[{target:=.collected D,args:=#[]}]⟩∧X i D e w
 | .ret,a,w=>∃(e:Env) (D:Nat),a=⟨e.toArray,[{target:=.collected D,args:=#[]}]⟩∧R D e w
 | _,_,_=>False
theorem Yq {c:Code}{N:Nat→KE}{X:Nat→Nat→KE}{R:Nat→KE}{e:Env}(h:rfS P c N X R e w):c.wp P (QM N X R) ⟨e.toArray,[]⟩ w:=by
 unfold rfS at h;split at h
 ·rename_i g ps a bd;obtain⟨gf,cap,hv,h⟩:=h;refine(wpIn_wide (n:=0)).1 (wpIn_rangeFunc ?_);intro u _;obtain⟨W1,j⟩:∃W1,(w.alloc (.deferred (some []))).alloc (.loop (nT u e ps a bd w.heap.size .ready none))=W1:=⟨_,rfl⟩
  have M:W1.heap[w.heap.size+1]? = some (.loop (nT u e ps a bd w.heap.size .ready none)):=by
   rw[←j];have:=World.alloc_heap_new (w.alloc (.deferred (some []))) (.loop (nT u e ps a bd w.heap.size .ready none));rwa[World.size_alloc]at this
  have J:W1.heap[w.heap.size]? = some (.deferred (some [])):=by
   rw[←j];exact(Below.heap_alloc _ _ _ sm).trans (World.alloc_heap_new w _)
  have C:Below w.heap.size w W1:=by
   rw[←j];exact((Below.refl _ w).alloc oA _).alloc sm _
  have Z:W1.heap.size=w.heap.size+2:=by rw[←j];simp
  obtain⟨U,aa⟩:=UG YZ (h u W1 C Z J M);refine⟨w.heap.size+1,[{target:=.collected w.heap.size,args:=#[]}],W1, {target:=.fn (.func gf) cap.toArray,args:=#[.func (.yield (w.heap.size+1)) #[] #[]]},W1,gf,
   #[.func (.yield (w.heap.size+1)) #[] #[]]++cap.toArray,W1,?_,?_,fun _ _=>trivial,?_,(fun h=>by cases h),?_⟩
  ·rw[←j];exact run_enterLoop_outer _ _ _ _ _
  ·have O:Act.eval ⟨e.toArray,[]⟩ g=.func (.func gf) #[] cap.toArray:=by rw[sd];exact hv
   simp only[resolve,O];simp[go_sem]
  ·simp[invoke,go_sem,LX U]
  ·refine callsIn_wide.2 ?_;have e1 : #[Value.func (.yield (w.heap.size+1)) #[] #[]]++cap.toArray=(Value.func (.yield (w.heap.size+1)) #[] #[]::cap).toArray:=by simp
   rw[e1];refine aa.mono ?_;rintro x w' ⟨_,rfl,y,hl,I⟩;refine⟨_,_,run_endLoop hl (by unfold nT stY;cases y<;>simp),?_⟩;cases y with
   | none=>exact(show QM N X R .normal _ _ from⟨e,_,rfl,I⟩)
   | some c =>
    cases c with
    | exit i=>exact(show Code.wpIn Fence.wide 0 P (.exit i) (QM N X R) _ _ from wpIn_exit (show QM N X R (.exit i) _ _ from⟨e,_,rfl,I⟩))
    | ret=>exact(show Code.wpIn Fence.wide 0 P .ret (QM N X R) _ _ from wpIn_ret (show QM N X R .ret _ _ from⟨e,_,rfl,I⟩))
    | _=>exact I.elim
 ·exact h.elim
def dM (D:Nat)(w:World):Prop:=w.heap[D]? = some (.deferred (some []))
def zh (P:Program)(rs:List ResultVar)(K:KV)(D:Nat):KE:=fun e w=>dM D w∧Ab P rs K e (w.putObj D (.deferred none))
theorem XP {j:Func}{e:Env}(h:zh P j.results.toList K D e w):LeavesInM Fence.wide 0 P j e.toArray (fun x w' => ∃v,x=.returned v∧K v w') [{target:=.collected D,args:=#[]}] .returning w:=by
 refine⟨by simp,.inl ⟨D,_,rfl,run_takeDeferred h.1,?_⟩⟩;obtain⟨v,u,C⟩:=wH h.2;exact⟨v,u,v,rfl,C⟩
theorem zdw {j:Func}{e:Env}(h:Ab P j.results.toList K e w):LeavesInM Fence.wide 0 P j e.toArray (fun x w' => ∃v,x=.returned v∧K v w') [] .returning w:=by
 obtain⟨v,u,C⟩:=wH h;exact⟨v,u,v,rfl,C⟩
def zcY :Code→Code
 | .rangeFunc _ _ _ b=>b
 | _=>.skip
def zcU :Code→Code
 | .rangeFunc _ _ a _=>a
 | _=>.skip
def Um :Code→Option (Nat×Code)
 | .block id c=>match c with
  | .rangeFunc g ps a b=>some (id,.rangeFunc g ps a b)
  | _=>none
 | _=>none
theorem Yo {c:Code}{id:Nat}{r:Code}(h:Um c=some (id,r)):c=.block id r:=by
 unfold Um at h;split at h
 ·split at h
  ·cases h;rfl
  ·cases h
 ·cases h
def rfT :Code→Bool
 | .seq a b=>match rfT a with|true=>true|false=>rfT b
 | c=>(Um c).isSome
def cMr (P:Program)(F:Nat→KE)(R0:KE):Code→(Nat→KE)→KE
 | .seq a b,N=>match rfT a with
  | true=>cMr P F R0 a fun D=>ah P b (N D) (fun _ _ _=>False) (F D)
  | false=>ah P a (cMr P F R0 b N) (fun _ _ _=>False) R0
 | c,N=>match Um c with
  | some (id,c)=>rfS P c N (fun i D e w=>i=id∧N D e w) F
  | none=>fun _ _=>False
def QR (F:Nat→KE)(R0:KE)(N:Nat→KE):Exit→Act→World→Prop
 | .normal,a,w=>∃(e:Env) (D:Nat),a=⟨e.toArray,[{target:=.collected D,args:=#[]}]⟩∧N D e w
 | .ret,a,w=>(∃(e:Env) (D:Nat),a=⟨e.toArray,[{target:=.collected D,args:=#[]}]⟩∧F D e w)∨∃e:Env,a=⟨e.toArray,[]⟩∧R0 e w
 | _,_,_=>False
theorem Xp {F:Nat→KE}:∀(c:Code) {N:Nat→KE} {e:Env} {w:World},cMr P F B1 c N e w→c.wp P (QR F B1 N) ⟨e.toArray,[]⟩ w:=by
 intro c
 induction c with
 | seq a b iha ihb =>
  intro N e w h;cases u:rfT a with
  | true =>
   simp only[cMr,u]at h;refine wp_seq (wp_mono (iha h) ?_);intro x a J j;cases x with
   | normal =>
    obtain⟨e1,D,rfl,C⟩:=j;refine wp_mono (Bg (ds:=[{target:=.collected D,args:=#[]}]) b _ _ _ _ _ C) ?_;intro x a w j;cases x with
    | normal=>obtain⟨e,rfl,h⟩:=j;exact⟨e,D,rfl,h⟩
    | ret=>obtain⟨e,rfl,h⟩:=j;exact .inl ⟨e,D,rfl,h⟩
    | exit i=>obtain⟨_,_,h⟩:=j;exact h.elim
    | _=>exact j.elim
   | ret=>exact j
   | _=>exact j.elim
  | false =>
   simp only[cMr,u]at h;refine wp_seq (wp_mono (Bg (ds:=[]) a _ _ _ _ _ h) ?_);intro x a J j;cases x with
   | normal=>obtain⟨e1,rfl,C⟩:=j;exact ihb C
   | exit i=>obtain⟨_,_,j⟩:=j;exact j.elim
   | ret=>obtain⟨e1,rfl,C⟩:=j;exact .inr ⟨e1,rfl,C⟩
   | _=>exact j.elim
 | block id c _ =>
  intro N e w h;cases u:Um (.block id c)with
  | some p =>
   obtain⟨id,r⟩:=p;simp only[cMr,u]at h;rw[Yo u];refine wp_block (wp_mono (Yq h) ?_);intro x a w2 j;cases x with
   | normal=>obtain⟨e,D,rfl,h⟩:=j;exact⟨e,D,rfl,h⟩
   | ret=>obtain⟨e,D,rfl,h⟩:=j;exact .inl ⟨e,D,rfl,h⟩
   | exit i =>
    obtain⟨e,D,rfl,hi,I⟩:=j;rw[hi];simp only[Exit.inBlock,if_true];exact⟨e,D,rfl,I⟩
   | _=>exact j.elim
  | none =>
   simp only[cMr,u]at h
 | _=>intro N e w h;exact h.elim
theorem Xv {f:FuncId}{j:Func}{args:List Value}(J:P.funcs[f]? = some j)(I:j.body.isSome=true)(h:cMr P (zh P j.results.toList K) (Ab P j.results.toList K) (cd j []) (zh P j.results.toList K) (args++List.replicate (j.ntmps-args.length) undef) w):Gives P f args.toArray w K:=by
 cases u:j.body with
 | none=>simp[u]at I
 | some c =>
  have:cd j []=c:=by simp[cd,u,sub]
  rw[this]at h;refine callsIn_wide.1 (callsIn_of_wp_marks (n:=0) J u trivial ?_);have e1:args.toArray++Array.replicate (j.ntmps-args.toArray.size) undef=(args++List.replicate (j.ntmps-args.length) undef).toArray:=by simp
  rw[e1];refine wpIn_wide.2 (wp_mono (Xp c h) ?_);intro x a w2 C;cases x with
  | normal=>obtain⟨e,D,rfl,h⟩:=C;exact XP h
  | ret =>
   rcases C with⟨e,D,rfl,h⟩|⟨e,rfl,h⟩
   ·exact XP h
   ·exact zdw h
  | _=>exact C.elim
theorem Yp {c:Code}{g:Operand}{ps:Array Tmp}{a bd:Code}{gf:FuncId}{cap:List Value}{N:Nat→KE}{X:Nat→Nat→KE}{R:Nat→KE}{e:Env}(u:c=.rangeFunc g ps a bd)(C:ev e g=.func (.func gf) #[] cap.toArray)(h:∀(j:FuncId) (W:World),Below w.heap.size w W→W.heap.size=w.heap.size+2 →
   W.heap[w.heap.size]? = some (.deferred (some []))→W.heap[w.heap.size+1]? = some (.loop (nT j e ps a bd w.heap.size .ready none)) →
   CF P (SI P (w.heap.size+1) w.heap.size j e ps a bd) (w.heap.size+1) gf (.func (.yield (w.heap.size+1)) #[] #[]::cap) W fun _ w' =>
    ∃y:Option Code,w'.heap[w.heap.size+1]? = some (.loop (nT j e ps a bd w.heap.size (stY y) y)) ∧
     (match y with
      | none=>N w.heap.size e (w'.putObj (w.heap.size+1) (.loop (nT j e ps a bd w.heap.size .exhausted y)))
      | some (.exit i)=>X i w.heap.size e (w'.putObj (w.heap.size+1) (.loop (nT j e ps a bd w.heap.size .exhausted y)))
      | some .ret=>R w.heap.size e (w'.putObj (w.heap.size+1) (.loop (nT j e ps a bd w.heap.size .exhausted y)))
      | _=>False)):rfS P c N X R e w:=by
 subst u;exact⟨gf,cap,C,h⟩
end sound
noncomputable abbrev Q :Program:=Tryz.prog
abbrev ci (x:Int):Value:=.int .i64 x
abbrev cu (x:Int):Value:=.int .u64 x
abbrev cb (x:Int):Value:=.int .u8 x
abbrev cT :Value:=.bool true
abbrev cF :Value:=.bool false
abbrev cN :Value:=.slice none 0 0
abbrev rk (f:Func)(K:KV):KE:=Ab Q f.results.toList K
abbrev xf :Nat→KE:=fun _ _ _=>False
abbrev xx (X:Nat→KE)(N:KE)(k:Nat):Nat→KE:=fun i=>@Bool.rec (fun _=>KE) (X i) N (Nat.beq i k)
def zM (f d:Nat→Value):List Nat→Nat→Value
 | [],i=>f i
 | k::l,i=>match Nat.beq k i with|true=>d i|false=>zM f d l i
def zu (_:Nat):Value:=undef
def zT (f:Nat→Value):Nat→Nat→List Value→List Value
 | _,0,l=>l
 | a,n+1,l=>f a::zT f (a+1) n l
def zr :List (Nat×Nat)→List Nat
 | []=>[]
 | p::l=>List.range' p.1 p.2++zr l
def zV (f:Nat→Value):Nat→List Value→Nat→Value
 | _,[],i=>f i
 | a,v::l,i=>match Nat.beq a i with|true=>v|false=>zV f (a+1) l i
abbrev uu :Value:=undef
abbrev hF (S:World→Prop)(t:TypeId)(x:Value)(f:Nat):(Value→Prop)→Prop:=hld S (ai Q t x f)
abbrev hL (S:World→Prop)(t:TypeId)(x:Value):(Value→Prop)→Prop:=hld S (ld Q t x)
abbrev hN (S:World→Prop)(x:Value):(Value→Prop)→Prop:=hld S (aJ x)
abbrev sF (t:TypeId)(x:Value)(f:Nat):KV→World→Prop:=sti (ai Q t x f)
abbrev sL (t:TypeId)(x:Value):KV→World→Prop:=sti (ld Q t x)
abbrev sN (x:Value):KV→World→Prop:=sti (aJ x)
abbrev lN (t:TypeId)(x:Value):KV→World→Prop:=blt Q .len #[t] 3 #[false] #[x]
abbrev hI (S:World→Prop)(t:TypeId)(x i:Value):(Value→Prop)→Prop:=hld S (aL Q t x i)
abbrev sI (t:TypeId)(x i:Value):KV→World→Prop:=sti (aL Q t x i)
abbrev nC (x:Value):KV→World→Prop:=bin Q .add 3 false true x (ci 1)
abbrev lS (x y:Value):KV→World→Prop:=bin Q .lss 3 false false x y
def vI :Nat→Type
 | 0=>World→Prop
 | n+1=>Value→vI n
def vM :Nat→Type
 | 0=>World→Nat
 | n+1=>Value→vM n
theorem mpK {a b:Prop}(h:a)(e:a=b:=by kernel_rfl):b:=Eq.mp e h
abbrev bT (o : BinOp) (t : TypeId) (x y : Value) : KV → World → Prop := bin Q o t false true x y
abbrev bF (o : BinOp) (t : TypeId) (x y : Value) : KV → World → Prop := bin Q o t false false x y
abbrev kY (f:Func)(p:List Nat)(N:KE)(X:Nat→KE)(K:KV):KE:=ah Q (cd f p) N X (rk f K)
abbrev kZ (f:Func)(p:List Nat)(K:KV):KE:=ah Q (cd f p) (rk f K) xf (rk f K)
theorem mpF {a b:Prop}(e:a=b:=by kernel_rfl):a→b:=Eq.mp e
/-- A path, as a number. -/
def bP :Nat→Nat→List Nat→List Nat
 | 0,_,l=>l
 | k+1,n,l=>match Nat.beq n 1 with|true=>l|false=>bP k (n / 2) (n%2::l)
def b1 (n:Nat):List Nat:=bP 64 n []
/-- An invariant of some places, as one of the environment. -/
def vP :(l:List Nat)→vI l.length→KE
 | [],f=>fun _ w=>f w
 | n::l,f=>fun e w=>vP l (f (gd e n)) e w
def vQ :(l:List Nat)→vM l.length→Env→World→Nat
 | [],f=>fun _ w=>f w
 | n::l,f=>fun e w=>vQ l (f (gd e n)) e w
theorem goK {f:FuncId} {j:Func} (h:Q.funcs[f]? = some j) (u:(j.name == "runtime.NumGoroutine")=false:=by kernel_rfl) (C:j.body.isNone=false:=by kernel_rfl):Li Q f:=⟨j,h,u,C⟩
theorem UX (h:cr Q 183 none (fun j=>bld Q 259 #[(0,j)] fun t2=>box Q 259 t2 K) w):Gives Q 93 #[] w K:=by
 refine aq func93 kr ?_;exact mpK h
theorem Xd (h:bT .lss 3 V0 (ci 1) (fun t6 w=>aG t6 false (fun k8=>bT .gtr 3 V0 (ci 6) (fun t9=>k8 [V0,t9]) w) (fun k=>k [uu,uu] w) fun aa=>pick t6 cT (gd aa 1) fun j w=>aG j false (fun I=>bT .lss 31 W0 (cu 1) (fun t13=>I [W0,t13]) w) (fun k=>k [uu,uu] w) fun u=>pick j cT (gd u 1) fun t14 w=>aG t14 false (fun J=>bT .geq 31 W0 (cu 1099511627776) (fun M=>J [W0,M]) w) (fun k=>k [uu,uu] w) fun C=>pick t14 cT (gd C 1) fun O w=>cond O (K (cu 0) w) (conv Q 3 31 V0 (fun U=>bT .shl 31 U (cu 40) fun Z=>bF .or 31 Z W0 K) w)) w):Gives Q 303 #[V0,W0] w K:=by
 refine aq func303 kr ?_;exact mpK h
theorem OR (h:bT .eql 181 V0 (.pointer none) (fun C w=>cond C (K cF w) (aJ V0 (fun j=>ai Q 259 j 0 fun u=>ld Q 183 u fun t13=>lkp Q 183 t13 W0 true fun t15=>ext Q t15 0 fun _=>ext Q t15 1 K) w)) w):Gives Q 229 #[V0,W0] w K:=by
 refine aq func229 kr ?_;exact mpK h
theorem Qr (h:box Q 181 V0 (fun t2=>box Q 31 W0 fun j=>K (.func (.func 228) #[] #[t2,j])) w):Gives Q 208 #[V0,W0] w K:=by
 refine aq func208 kr ?_;exact mpK h
def sT (Y:YB)(l_:Nat)(K:KV):KE:=ug Q Y l_ (cd f228 [0]) (rk f228 K) (xx xf (rk f228 K) 0) (rk f228 K)
theorem Nj {Y:YB}(h:sT Y b K [V0,W0,X0,uu,uu,uu,uu,uu,uu,uu,uu,uu,uu,uu,uu,uu,uu,uu] w):CF Q Y b 228 [V0,W0,X0] w K:=by
 refine YQ (goK func228) func228 kr ?_;revert h;delta sT;exact mpF
theorem Kx {Y:YB}{t15:Value}(C:Bd Y)(Inv:World→Prop)(μ:World→Nat)(u:Inv w)(I:∀(J:Nat→Value) (w:World) (m:Nat),Inv w→m=μ w →
  ld Q 181 W0 (fun Z0=>ld Q 31 X0 fun H1=>call Q 229 #[Z0,H1] fun I1=>xG I1 true (fun k=>k V0) fun M1=>xG I1 true (ld Q 31 X0) fun N1=>xG I1 true (Pi Q Y b M1 #[N1]) fun O1=>pick I1 O1 cF fun P1 w=>cond P1 (sL 181 W0 (fun Q1=>sN Q1 fun T1=>sF 259 T1 0 fun U1=>sL 183 U1 fun t15=>sL 31 X0 fun V1=>sti (lkp Q 183 t15 V1 false) fun X1=>sto Q 31 X0 X1 fun _ w=>(Inv w)∧((μ w)<m)) w.drew) (K (.tuple #[]) w)) w):sT Y b K [V0,W0,X0,Y0,Z0,H1,I1,J1,M1,N1,O1,P1,Q1,T1,U1,t15,V1,X1] w:=by
 refine PY C (cd f228 [0,0]) (zr [(4,14)]) kr (fun j w2=>Inv w2) (fun j w2=>μ w2) u ?_;intro e' w' hI;have h:=I (gd e') w' _ hI rfl;exact mpK h
attribute [irreducible] sT
def sS (K:KV)(D:Nat):KE:=ah Q (cd f174 [1,1]) (zh Q Tryz.f174.results.toList K D) xf (zh Q Tryz.f174.results.toList K D)
theorem Ku (h:ld Q 87 Z0 (fun U1=>sto Q 87 Z0 U1 fun _ w=>(dM D w)∧(aV Q [(some 87,Z0)] K (w.putObj D (Obj.deferred none)))) w):sS K D [V0,W0,X0,Y0,Z0,H1,I1,J1,M1,N1,O1,P1,Q1,T1,U1] w:=by
 delta sS;exact mpK h
noncomputable def rW :Func:={Tryz.f174 with body:=some (zcU (cd f174 [1,0,1,0]))}
def Dz (NB:KE)(XB:Nat→KE)(RB:KE):KE:=ah Q (cd rW []) NB XB RB
theorem Kv {XB:Nat→KE}(h:B1 [V0,W0,X0,Y0,Z0,N1,I1,J1,M1,N1,O1,P1,Q1,T1,U1] w):Dz B1 XB L0 [V0,W0,X0,Y0,Z0,H1,I1,J1,M1,N1,O1,P1,Q1,T1,U1] w:=by
 delta Dz;exact mpK h
noncomputable def rX :Func:={Tryz.f174 with body:=some (zcY (cd f174 [1,0,1,0]))}
def DB (NB:KE)(XB:Nat→KE)(RB:KE):KE:=ah Q (cd rX []) NB XB RB
theorem Kw {XB:Nat→KE}(h:ld Q 87 Z0 (fun O1=>bg Q 87 1 #[(0,H1)] fun Q1=>blt Q .append #[87,87] 87 #[false,false] #[O1,Q1] fun T1=>sto Q 87 Z0 T1 fun _=>B1 [V0,W0,X0,Y0,Z0,H1,I1,J1,M1,N1,O1,H1,Q1,T1,U1]) w):DB B1 XB L0 [V0,W0,X0,Y0,Z0,H1,I1,J1,M1,N1,O1,P1,Q1,T1,U1] w:=by
 delta DB;exact mpK h
theorem Ni (h:alc Q 87 (fun j=>call Q 208 #[V0,W0] fun u=>rfS Q (cd f174 [1,0,1,0]) (sS K) (fun i D e w=>(i=0)∧(sS K D e w)) (zh Q Tryz.f174.results.toList K) [V0,W0,uu,uu,j,uu,V0,W0,u,uu,uu,uu,uu,uu,uu]) w):Gives Q 174 #[V0,W0] w K:=Xv func174 kr (Eq.mp kr h)
def iF (t0 id1 parent2 t26:Value)(zf:Nat→Value):List Value:=t0::id1::parent2::zT zf 3 23 (t26::zT zf 27 17 ([]))
def ou (t0 id1 parent2:Value)(zf:Nat→Value):List Value:=t0::id1::parent2::zT zf 3 41 ([])
def fW (K:KV):KE:=kZ f306 [1,1] K
def mj (K:KV):KE:=kY f306 (b1 6655) (fW K) (xx xf (fW K) 0) K
def qN (K:KV):KE:=ah Q (cd f306 (b1 13309)) (mj K) (xx xf (fW K) 0) (rk f306 K)
abbrev GY (K:KV)(hA0:KE)(t0 id1 parent2:Value)(w:World):Prop :=
  bT .eql 181 t0 (.pointer none) (fun t9 w=>cond t9 (K (ci 2) w) (bT .eql 31 id1 (cu 0) (fun t12 w=>cond t12 (K (ci 1) w) (call Q 229 #[t0,id1] (fun t16 w=>cond t16 (K (ci 14) w) (bT .neq 31 parent2 (cu 0) (fun t19 w=>aG t19 true (fun k21=>call Q 229 #[t0,parent2] (fun t23=>un Q .not t23 fun t24=>k21 [t0,parent2,t23,t24]) w) (fun k=>k [uu,uu,uu,uu] w) fun us21=>pick t19 (gd us21 3) cF fun t25 w=>cond t25 (K (ci 9) w) (aJ t0 (fun t28=>ai Q 259 t28 0 fun t29=>ld Q 183 t29 fun t30=>lN 183 t30 fun t31=>bT .geq 3 t31 (ci 32) fun t32=>hA0 (iF t0 id1 parent2 t32 (zV (zV zu 6 [ci 0,t9,t0,t9,t12,id1,t12,t16,t0,id1,t16,t25,parent2,t19,t19,gd us21 0,gd us21 1,gd us21 2,gd us21 3,t25]) 27 [t0,t28,t29,t30,t31,t32]))) w)) w)) w)) w)) w
theorem Qq (j:Code)(h:GY K (ah Q j (ah Q (cd f306 (b1 6655)) (ah Q (cd f306 [1,1]) (rk f306 K) (fun _ _ _=>False) (rk f306 K)) (fun i=>@Bool.rec (fun _=>KE) ((fun _ _ _=>False) i) (ah Q (cd f306 [1,1]) (rk f306 K) (fun _ _ _=>False) (rk f306 K)) (Nat.beq i 0)) (rk f306 K)) (fun i=>@Bool.rec (fun _=>KE) ((fun _ _ _=>False) i) (ah Q (cd f306 [1,1]) (rk f306 K) (fun _ _ _=>False) (rk f306 K)) (Nat.beq i 0)) (rk f306 K)) V0 W0 X0 w):ah Q (rep (b1 13309) j (cd f306 [])) (rk f306 K) xf (rk f306 K) (ou V0 W0 X0 zu) w:=Eq.mp kr h
theorem OQ {K:KV}{V0 W0 X0:Value}{w:World}(h:GY K (qN K) V0 W0 X0 w):Gives Q 306 #[V0,W0,X0] w K:=aq func306 (by kernel_rfl) (Eq.mp (congrArg (fun c=>ah Q c (rk f306 K) xf (rk f306 K) (ou V0 W0 X0 zu) w) (by kernel_rfl:(rep (b1 13309) (cd f306 (b1 13309)) (cd f306 []))=(cd f306 []))) (Qq (cd f306 (b1 13309)) h))
abbrev Cz (K:KV)(hA0:KE)(V0 W0 X0 Y0:Value)(zf:Nat→Value)(w:World):Prop :=
  cond Y0 (hA0 (iF V0 W0 X0 Y0 zf) w) (call Q 174 #[V0,X0] (fun t35=>lN 87 t35 fun t36=>bT .geq 3 t36 (ci 4) fun t37=>hA0 (iF V0 W0 X0 t37 (zV zf 33 [V0,X0,t35,t36,t37]))) w)
theorem M6 (j:KE)(u:KE)(h:Cz K j V0 W0 X0 Y0 zf w):ah Q (cd f306 (b1 13309)) j (xx xf u 0) (rk f306 K) (iF V0 W0 X0 Y0 zf) w:=Eq.mp kr h
theorem M7 (h:Cz K (mj K) V0 W0 X0 Y0 zf w):qN K (iF V0 W0 X0 Y0 zf) w:=by
 delta qN
 exact Eq.mp (congrArg (fun c=>ah Q c (mj K) (xx xf (fW K) 0) (rk f306 K) (iF V0 W0 X0 Y0 zf) w) (by kernel_rfl:(cd f306 (b1 13309))=(cd f306 (b1 13309)))) (M6 (mj K) (fW K) h)
abbrev CB (K:KV)(hA0:KE)(V0 W0 X0 Y0:Value)(zf:Nat→Value)(w:World):Prop :=
  cond Y0 (K (ci 6) w) (hA0 (ou V0 W0 X0 (zV zf 26 [Y0])) w)
theorem Ma (j:KE)(h:CB K j V0 W0 X0 Y0 zf w):ah Q (cd f306 (b1 6655)) j (xx xf j 0) (rk f306 K) (iF V0 W0 X0 Y0 zf) w:=Eq.mp kr h
theorem CC (h:CB K (fW K) V0 W0 X0 Y0 zf w):mj K (iF V0 W0 X0 Y0 zf) w:=by
 delta mj
 exact Eq.mp (congrArg (fun c=>ah Q c (fW K) (xx xf (fW K) 0) (rk f306 K) (iF V0 W0 X0 Y0 zf) w) (by kernel_rfl:(cd f306 (b1 6655))=(cd f306 (b1 6655)))) (Ma (fW K) h)
abbrev CA (K:KV)(V0 W0 X0:Value)(zf:Nat→Value)(w:World):Prop :=
  aJ V0 (fun t39=>ai Q 259 t39 0 fun t40=>ld Q 183 t40 fun t41=>cP Q 183 t41 W0 X0 fun _=>K (ci 0)) w
theorem M8 (h:CA K V0 W0 X0 zf w):ah Q (cd f306 [1,1]) (rk f306 K) xf (rk f306 K) (ou V0 W0 X0 zf) w:=Eq.mp kr h
theorem M9 (h:CA K V0 W0 X0 zf w):fW K (ou V0 W0 X0 zf) w:=by
 delta fW
 exact Eq.mp (congrArg (fun c=>ah Q c (rk f306 K) xf (rk f306 K) (ou V0 W0 X0 zf) w) (by kernel_rfl:(cd f306 [1,1])=(cd f306 [1,1]))) (M8 h)
attribute [irreducible] fW mj qN
def CD (is1 l4 t12:Value)(zf:Nat→Value):List Value:=zf 0::is1::zf 2::zf 3::l4::zT zf 5 7 (t12::zT zf 13 14 ([]))
def CE (l4:Value)(zf:Nat→Value):List Value:=zT zf 0 4 (l4::zT zf 5 22 ([]))
def jt (K:KV):KE:=kZ f175 [1,1,1] K
def rY (K:KV):KE:=ah Q (cd f175 (b1 58)) (jt K) (xx xf (jt K) 0) (rk f175 K)
theorem Mb (h:bT .eql 181 W0 (.pointer none) (fun t7 w=>cond t7 (K cN w) (aJ W0 (fun C=>ai Q 259 C 0 fun j=>ld Q 183 j fun u=>rng Q 183 u fun X0=>rY K (CD V0 cN X0 (zV (zV zu 0 [W0]) 6 [W0,t7,W0,C,j,u]))) w)) w):Gives Q 175 #[W0,V0] w K:=by
 refine aq func175 kr ?_;revert h;delta rY jt;exact mpF
theorem JI (Inv:Value→World→Prop)(μ:Value→World→Nat)(U:Inv W0 w)(Z:∀(j:Value) (O:Nat→Value) (w:World) (m:Nat),Inv j w→m=μ j w →
  nxt Q X0 false 0 (fun t13=>ext Q t13 0 fun t14 w=>cond t14 (ent Q X0 (fun t15=>ext Q t15 0 fun u=>aZ Q V0 #[u] fun J w=>cond J (bg Q 87 1 #[(0,u)] (fun M=>blt Q .append #[87,87] 87 #[false,false] #[j,M] fun C w=>(Inv C w)∧((μ C w)<m)) w) ((Inv j w)∧((μ j w)<m))) w) (jt K (CE j (zV (zV O 1 [V0]) 12 [X0,t13,t14])) w)) w):rY K (CD V0 W0 X0 zf) w:=by
 refine aI (cd f175 (b1 116)) (zr [(4,2),(13,11)]) kr (vP [4] Inv) (vQ [4] μ) U ?_;intro e' w' hI;have h:=Z _ (zM zf (gd e') (zr [(4,2),(13,11)])) w' _ hI rfl;revert h;generalize (jt K)=qc0;exact mpF
theorem JJ (h:call Q 209 #[W0] (fun _=>K W0) w):jt K (CE W0 zf) w:=by
 delta jt;exact mpK h
attribute [irreducible] jt rY
theorem Kt (h:K cT w):Gives Q 176 #[V0] w K:=by
 refine aq func176 kr ?_;exact mpK h
theorem Nh (h:call Q 175 #[V0,.func (.func 176) #[] #[]] K w):Gives Q 128 #[V0] w K:=by
 refine aq func128 kr ?_;exact mpK h
end
section
attribute [local irreducible] bin un conv call aZ blt slc ai fld aL idx lkp cP eP eSt rng nxt ent ext alc box bld bg ld sto aJ cr mkS ifc pick rdy wts aG sti cond aV Gives ah dy dP cOp
section
open Go.RowKit Go.ChangeMaps
abbrev pB (b:Nat):Value:=pA b 0
theorem u6K :Ev Q 31 u6:=TD underlying31
theorem u6z :∀w,(zeroValue 31).run Q w=.ok (u6 0) w:=fun w=>by kernel_rfl
theorem nL [DecidableEq κ]{m L:List (κ×α)}(h:m.Perm L)(C:(L.map (·.1)).Nodup)(x:κ):dK m x=dK L x:=by
 have u:(m.map (·.1)).Nodup:=(h.map _).nodup_iff.2 C;cases j:dK L x with
 | none =>
  rw[wh]at j ⊢;exact fun I=>j ((h.map _).mem_iff.1 I)
 | some v=>exact sh u (h.mem_iff.2 (yB j))
structure TreeM (w:World) (t tp:Nat) (T:List (Int×Int)):Prop where
 bt:blk w t 259 [.map (some tp)]
 mp:∃m,MB u6 u6 w tp m∧m.Perm T
 uq:(T.map (·.1)).Nodup
section
variable {w w':World}{t tp:Nat}{T:List (Int×Int)}
theorem TreeM.below (h:TreeM w t tp T)(j:Below w.heap.size w w'):TreeM w' t tp T :=
 ⟨ae j h.bt h.bt.lt,let ⟨m,u,C⟩:=h.mp;⟨m,u.below j,C⟩,h.uq⟩
theorem TreeM.lt (h:TreeM w t tp T):t<w.heap.size∧tp<w.heap.size:=⟨h.bt.lt,let ⟨_,j,_⟩:=h.mp;j.lt⟩
theorem TreeM.ne (h:TreeM w t tp T):t≠tp:=by
 obtain⟨m,⟨es,c,j⟩,_⟩:=h.mp;rintro rfl
 have:=h.bt
 unfold blk at this;rw[j.heap]at this;cases this
theorem TreeM.oth (h:TreeM w t tp T)(j:Oth b w w')(u:t≠b)(C:tp≠b):TreeM w' t tp T :=
 ⟨j.blk h.bt u,let ⟨m,I,J⟩:=h.mp;⟨m,I.oth j C,J⟩,h.uq⟩
theorem Ib (j:(T.map (·.1)).Nodup)(id:Int):dK T id=match bS T id with|true=>some (el T id)|false=>none:=by
 cases h:bS T id with
 | true=>exact sh j (oq h)
 | false =>
  refine wh.2 fun C=>?_;obtain⟨p,u,e⟩:=List.mem_map.1 C;rw[ja.2 ⟨p,u,e⟩]at h;cases h
end
theorem AV (h:K (pA b (o+0)) w):ai Q 259 (pA b o) 0 K w:=aH kr h
section
variable {w:World}{K:KV}{t tp:Nat}{T:List (Int×Int)}{id:Int}
theorem QF (h:K (.bool false) w):bin Q .eql 181 cx cy (pB b) (.pointer none) K w :=
 gy (by unfold eqG eqGuard;rfl) kr h
theorem YJ (h:∀w' t tp,TreeM w' t tp []→Below w.heap.size w w'→w.heap.size≤t→w.heap.size≤tp→K (pB t) w'):call Q 93 #[] K w:=by
 refine ak (goK func93) (UX ?_);refine ub underlying183 rfl u6 u6 fun I C b1 J=>?_;refine dl (vs:=[.map (some w.heap.size)]) kr ?_;refine br fun w2 j u M=>?_;have j:=cZ j
 exact h w2 _ _ ⟨j,⟨[],C.below u,.refl _⟩,by simp⟩ (b1.trans (u.mono oo)) oo oA
theorem Qp (h:TreeM w t tp T)(j:K (.bool (bS T id)) w):call Q 229 #[pB t,u6 id] K w:=by
 obtain⟨m,u,C⟩:=h.mp;refine ak (goK func229) (OR (QF (aF (aj (AV (lK (v:=.map (some tp)) h.bt rfl (TP (z0:=0) u6K underlying183 u6z u ?_)))))));have e:(dK m id).isSome=bS T id:=by
  rw[nL C h.uq,Ib h.uq];cases bS T id<;>rfl
 rw[e];exact bu (bv j)
theorem ze8 (h:TreeM w t tp T)(j:bS T id=true)(u:K (u6 (el T id)) w):lkp Q 183 (.map (some tp)) (u6 id) false K w:=by
 obtain⟨m,C,I⟩:=h.mp;refine TO (z0:=0) u6K underlying183 u6z C ?_;rw[nL I h.uq,Ib h.uq,j];exact u
theorem zcH {rk:Int→Nat}(C:TK T rk)(u:bS T x=true):upT T rk (el T x)<upT T rk x:=by
 have M:upT T rk x=rk x+1:=by unfold upT;rw[u]
 have J:=oq u;rw[M];unfold upT;cases j:bS T (el T x)with
 | false=>show 0<rk x+1;omega
 | true =>
  rcases C.up _ J with I|⟨y,U,e,h⟩
  ·exfalso;obtain⟨z,O,e⟩:=ja.1 j;exact C.nz z O (e.trans I)
  ·have e:y.1=el T x:=e;rw[←e]
   have:rk y.1<rk x:=h
   show rk y.1+1<rk x+1;omega
theorem xGn {v:Value}{s:KV→World→Prop}(u:asB v≠some cx)(h:K undef w):xG v cx s K w:=⟨fun j=>absurd j u,fun _=>h⟩
def c0 (w:World)(b:Nat):Int:=match w.cell? ⟨b,0,none⟩with|some v=>intOf v|none=>0
theorem zeZ {Y:YB}{l:Nat}{rk:Int→Nat}(hY:Bd Y)(hk:TK T rk)(Inv:Nat→World→Prop)(u:World→Prop)(h0:Inv 0 w)(hm:∀j w,Inv j w→TreeM w t tp T∧blk w c 181 [pB t])(hi:∀j w w',Inv j w→Oth n w.drew w'→Inv j w')(J:blk w n 31 [u6 id])(hy:∀j x w K,(cC T id)[j]? = some x→Inv j w→blk w n 31 [u6 x]→(∀w',Inv (j+1) w'→blk w' n 31 [u6 x]→K (.bool true) w')→(∀w',u w'→K (.bool false) w')→Y [u6 x] K w)(he:∀w',Inv (cC T id).length w'→K (.tuple #[]) w')(hs:∀w',u w'→K (.tuple #[]) w'):CF Q Y l 228 [.func (.yield l) #[] #[],pB c,pB n] w K:=by
 refine Nj (Kx hY (Inv:=fun w=>∃j x f,Inv j w∧blk w n 31 [u6 x]∧(cC T id).drop j=cv T f x∧j≤(cC T id).length∧upT T rk x≤f) (μ:=fun w=>upT T rk (c0 w n))
  ⟨0,id,T.length+1,h0,J,by rw[List.drop_zero];rfl,Nat.zero_le _,by have:=G7 hk id;omega⟩ ?_)
 rintro dd w m ⟨j,x,f,hI,J,M,hj,hu⟩ am;obtain⟨ht,h1⟩:=hm j w hI;have af:c0 w n=x:=by unfold c0;rw[J.cell];rfl
 refine lK (v:=pB t) h1 rfl (lK (v:=u6 x) J rfl (Qp ht ?_));cases Z:bS T x with
 | false =>
  refine xGn dc (xGn dc (xGn dc (dh (aF ?_))));refine he w ?_
  have:cv T f x=[]:=by cases f<;>simp[cv,Z]
  rw[this,List.drop_eq_nil_iff]at M
  have:j=(cC T id).length:=by omega
  rw[←this];exact hI
 | true =>
  have ap:=zcH hk Z;obtain⟨f',rfl⟩:∃f',f=f'+1:=⟨f-1,by omega⟩
  have hp:cv T (f'+1) x=x::cv T f' (el T x):=by simp[cv,Z]
  rw[hp]at M;have ar:j<(cC T id).length:=by
   rcases Nat.lt_or_ge j (cC T id).length with h|h
   ·exact h
   ·rw[List.drop_eq_nil_of_le h]at M;cases M
  have hx:(cC T id)[j]? = some x:=by
   have:=congrArg List.head? M
   rw[List.head?_drop]at this;exact this
  have al:(cC T id).drop (j+1)=cv T f' (el T x):=by
   have:=congrArg List.tail M
   rw[List.tail_drop]at this;exact this
  refine Hv rfl (Hv rfl (lK (v:=u6 x) J rfl (Hv rfl (.inl ⟨rfl,hy j x w _ hx hI J (fun w' O ad => cz (aT ?_)) (fun w' an => cz (aF (hs w' an)))⟩))));obtain⟨I,aa⟩:=hm _ _ O;have U:=ad.drew;have C:TreeM w'.drew t tp T:=⟨I.bt,let ⟨m,a,b⟩:=I.mp;⟨m,a.kept rfl,b⟩,I.uq⟩
  refine ac (fun _=>lK (v:=pB t) aa.drew rfl) (ac (fun _=>aj) (ac (fun _=>AV) (ac (fun _=>lK (v:=.map (some tp)) C.bt rfl) (ac (fun _=>lK (v:=u6 x) U rfl) (ac (fun _=>ze8 C Z) ?_)))));refine cB kf U (by show 0<1;decide) rfl fun w2 h2 o2=>?_;refine⟨⟨j+1,el T x,f',hi _ _ _ O o2,h2,al,by omega,by omega⟩,?_⟩;have ag:c0 w2 n=el T x:=by unfold c0;rw[h2.cell];rfl
  rw[am,af,ag];exact ap
theorem zeY (h:∀w',blk w' w.heap.size 181 [pB t]→blk w' (w.heap.size+1) 31 [u6 id]→Below w.heap.size w w'→w'.heap.size=w.heap.size+2→K (.func (.func 228) #[] #[pB w.heap.size,pB (w.heap.size+1)]) w'):call Q 208 #[pB t,u6 id] K w:=by
 refine ak (goK func208) (Qr ?_);refine br fun M C b1 I=>br fun w2 u j J=>?_;rw[I]at u ⊢;exact h w2 (ae j (by simpa[Value.cells]using C) oo) (by simpa[Value.cells,u6]using u) (b1.trans (j.mono oo)) oo
end
end
end
end Go.Proofs.YtkfgimlaijifaaaGreatDoor
