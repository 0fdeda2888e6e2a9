import Derived.Test.YtgohpbmmcgenpaaGreatDoorQ1
import Derived.Maps.AppendAt
import Derived.Test.YtgohpbmmcgenpaaGreatDoorSh
import Derived.OrdersIn
import Derived.TacticsIn
import Derived.RangeFuncIn
import Derived.RangeFuncRecord
import Derived.RangeFuncCalls
import Derived.RangeFuncOwn
import Derived.RangeFuncLeaves
import Derived.Test.YtgohpbmmcgenpaaGreatDoorChecked
namespace Go.Proofs.YtgohpbmmcgenpaaGreatDoor
set_option maxRecDepth 100000
set_option linter.defProp false
set_option maxHeartbeats 4000000
open Go.Proofs.Tryz
open Go.RowKit
variable {w w' w0 w2 S O:oG}{zf:Nat->oF}{b c o i g m s j z f d c2 D B2 hi:Nat}{a av a2:Option Addr}{x v r N:Int}{E t e:TypeId}{A:List Int}{B1 U0:KE}{xs ys vs:oE}{P:Program}{cx cy:Bool}{α κ:Type}{T:List (Int×Int)}{k':IntKind}{P0:FuncId}{V0:KV}{Z1 N2 O2 P2 Q2 R2 T2 U2 V2 X2 N3 O3 P3 Q3 T3 U3 V3 H Z U Y J C:oF}
section
variable {e f:EV}{s:PL}
def uN(h:dI e=true):e.k=1/\0<=e.a/\e.a<=MXA\/e.k=2/\1<=e.a/\e.a<=MXA\/e.k=3/\1<=e.a/\e.a<=MXA/\1<=e.r\/e.k=4/\1<=e.r/\1<=e.f/\e.r≠e.f\/e.k=5/\1<=e.a/\e.a<=MXA/\1<=e.t/\e.t<=6/\e.t≠e.o\/e.k=6/\1<=e.t/\e.t<=6/\e.t≠e.o\/e.k=7:=by
 unfold dI at h;simp only[oM]at h;have h:=h.2.2.2.2.2.2;unfold fdE smE otE bO at h;by_cases b:e.k=1
 .rw[oJ b]at h;simp only[oM,oP]at h;exact .inl ⟨b,h⟩
 rw[oI b]at h;by_cases c:e.k=2
 .rw[oJ c]at h;simp only[oM,oP]at h;exact .inr (.inl ⟨c,h⟩)
 rw[oI c]at h;by_cases d:e.k=3
 .rw[oJ d]at h;simp only[oM,oP]at h;exact .inr (.inr (.inl ⟨d,h.1.1,h.1.2,h.2⟩))
 rw[oI d]at h;by_cases g:e.k=4
 .rw[oJ g]at h;simp only[oM,oP]at h;exact .inr (.inr (.inr (.inl ⟨g,h⟩)))
 rw[oI g]at h;by_cases i:e.k=5
 .rw[oJ i]at h;simp only[oM,oP]at h;exact .inr (.inr (.inr (.inr (.inl ⟨i,h.1.1,h.1.2,h.2.1.1,h.2.1.2,h.2.2⟩))))
 rw[oI i]at h;by_cases j:e.k=6
 .rw[oJ j]at h;simp only[oM,oP]at h;exact .inr (.inr (.inr (.inr (.inr (.inl ⟨j,h.1.1,h.1.2,h.2⟩)))))
 rw[oI j]at h;exact .inr (.inr (.inr (.inr (.inr (.inr (by simpa using h))))))
def yP{V:List Int}(h:fW V e=true):e.s=V.getD e.q 0+1/\∀k,k<6->e.V.getD k 0<=V.getD k 0:=by unfold fW at h;simp only[oM,oP,jR,jQ]at h;exact h.2
def zcM{V:List Int}(c:dI e=true)(a:e.s=V.getD e.q 0+1)(b:∀k,k<6->e.V.getD k 0<=V.getD k 0):fW V e=true:=by unfold fW;simp only[oM,oP,jR,jQ];exact⟨c,a,b⟩
def vg(h:dI e=true):e.q<6/\e.o=(e.q:Int)+1:=by obtain⟨a,b,_⟩:=jb h;unfold EV.q;omega
def zhV(h:dI e=true)(k:dI f=true)(d:e.o≠f.o):idE e≠idE f:=by obtain⟨_,_,i,c⟩:=jb h;obtain⟨_,_,j,g⟩:=jb k;intro h;have a:=zB (o:=e.o) (s:=e.s) oo c;have b:=zB (o:=f.o) (s:=f.s) oo g;unfold idE at h;rw[h]at a;exact d (a.symm.trans b)
def Qj(h:dI e=true):0<idE e:=by obtain⟨a,_,b,c⟩:=jb h;unfold idE;simp only[M40];omega
def PI.new(hi:PI s)(g:dI e=true)(k:fW s.V e=true):dR s.N (idE e)=false:=by
 cases j:dR s.N (idE e)with
 | false=>rfl
 | true =>
  obtain⟨x,l,h⟩:=sc.1 j;obtain⟨o,q,m,n,p,b,c,r⟩:=hi.ids x l;obtain⟨_,_,t,f⟩:=jb g;have a:=zB (o:=o) (s:=q) oo b;have d:=zB (o:=e.o) (s:=e.s) oo f;rw[c]at h;unfold idE at h;rw[h]at a;have i:e.o=o:=d.symm.trans a;subst i
  have:=(yP k).1
  unfold EV.q at this;omega
def XK(p c:Nat):Prop:=c=p\/c=6+p\/c=12+p\/∃j,j<6/\j≠p/\c=18+6*p+j
def UX{p q:Nat}(g:p<6)(k:q<6)(h:p≠q)(a:XK p c)(b:XK q d):c≠d:=by rcases a with rfl|rfl|rfl|⟨j,f,_,rfl⟩<;>rcases b with rfl|rfl|rfl|⟨i,e,_,rfl⟩<;>omega
def mM(hi:PI s)(h:OK e s):(∃x,nop e s=.ins x/\x.id=idE e/\x.par=e.n/\x.A=z54.set e.q e.a/\e.k=1)\/(∃ids c v,nop e s=.bmp ids c v/\e.k≠1/\(∀i∈ids,dR s.N i=true)/\XK e.q c/\1<=v/\v<=MXA /\
  ∀i∈ids,nA (aN s.N i) c+v<=MXA/\(c<6->nA (aN s.N i) c+v<=M47)/\(c=12+e.q->nA (aN s.N i) c+v<=nA (aN s.N i) (6+e.q))/\((c=6+e.q\/18<=c)->v<=kK (aN s.N i) e.q))\/nop e s=.non/\e.k≠1:=by
 obtain⟨E,I⟩:=vg h.may;have l:∀i,dR s.N i=true->Xu (aN s.N i):=λi D=>by
  obtain⟨x,u,rfl⟩:=zD D;rw[Ej hi.srt u];exact DY.1 (hi.may x u).1
 rcases uN h.may with⟨k,d,f⟩|⟨k,d,f⟩|⟨k,d,f,C⟩|⟨k,d⟩|⟨k,d,f,C,p,G⟩|⟨k,_⟩|k<;>unfold nop<;>rw[k]<;>simp only[if_true,if_false,Int.reduceEq]
 .exact .inl ⟨_,rfl,rfl,rfl,rfl,trivial⟩
 .refine .inr (.inl ⟨_,_,_,rfl,by decide,?_,.inl rfl,d,f,?_⟩)
  .intro i hi;rw[mS hi];exact(h.k2 k).1
  .intro i hi;rw[mS hi]
   have:=(h.k2 k).2
   refine⟨by simp only[MXA,M47]at *; omega,λ_=>this,λe=>by omega,λe=>by omega⟩
 .refine .inr (.inl ⟨_,_,_,rfl,by decide,λi hi=>sH hi,.inr (.inl rfl),d,f,?_⟩);intro i hi
  have:=(h.k3 k).2.2 i hi
  exact⟨this.2,λe=>by omega,λe=>by omega,λ_=>this.1⟩
 .obtain⟨_,g,r,H,p⟩:=h.k4 k;have m:gOf s e=g:=by unfold gOf;rw[r];rfl
  obtain⟨B,_,_⟩:=BA r;have o:=hi.gk g B;rw[m];refine .inr (.inl ⟨_,_,_,rfl,by decide,λi hi=>sH hi,.inr (.inr (.inl rfl)),o.2.1,o.2.2.1,?_⟩);intro i j;have a:=p i j;have b:=(l i (sH j)).c e.q E;exact⟨Int.le_trans a b.2,λe=>by omega,λ_=>a,λe=>by omega⟩
 .obtain⟨w,F,y,z⟩:=h.k5 k;refine .inr (.inl ⟨_,_,_,rfl,by decide,?_,.inr (.inr (.inr ⟨(e.t-1).toNat,by omega,by omega,rfl⟩)),d,f,?_⟩)
  .intro i hi;rw[mS hi];exact w
  .intro i hi;rw[mS hi];exact⟨z,λe=>by omega,λe=>by omega,λ_=>y⟩
 .exact .inr (.inr ⟨trivial,by decide⟩)
 .exact .inr (.inr ⟨trivial,by decide⟩)
def pH{o q b:Int}(y:GR):(tM o q b y).o=y.o/\(tM o q b y).q=y.q:=by unfold tM;split<;>exact⟨rfl,rfl⟩
def yF{l:List α}{x d:α}(h:i<l.length):(l.set i x).getD j d=if j=i then x else l.getD j d:=by
 by_cases e:j=i
 .subst e;simp[List.getD,h]
 .have : ¬i=j:=λh=>e h.symm
  simp[List.getD,this,e]
structure Aft(e:EV) (s s':PL):Prop where
 I:∀k,s.I.getD k false=true->s'.I.getD k false=true
 L:∀k,k≠e.q->s'.L.getD k false=s.L.getD k false
 V:∀k,k≠e.q->s'.V.getD k 0=s.V.getD k 0
 Ve:s'.V.getD e.q 0=s.V.getD e.q 0+1
 R:∀k,k≠e.q->s'.R.getD k []=s.R.getD k []
 G:∀o r,o≠e.o->mw s'.G o r=mw s.G o r
 has:∀id,dR s.N id=true->dR s'.N id=true
 path:∀id,dR s.N id=true\/id=0->fg s'.N id=fg s.N id
 own:∀o,o≠e.o->jx s'.N o=jx s.N o
 loc:∀id,dR s.N id=true->∀k,k<6->k≠e.q->kK (aN s.N id) k<=kK (aN s'.N id) k
 cel:∀id,dR s.N id=true->∀k c,k<6->k≠e.q->XK k c->nA (aN s'.N id) c=nA (aN s.N id) c
def Vv(hi:PI s)(h:OK e s){x:ND}(b:x.id=idE e):∀y∈s.N,y.id≠x.id:=λy c a => by
 have:=hi.new h.may h.rdy
 rw[sc.2 ⟨y,c,a.trans b⟩]at this;cases this
def zbH(hi:PI s)(h:OK e s){x:ND}(c:x.id=idE e){id:Int}(a:dR s.N id=true):aN (eQ x s.N) id=aN s.N id:=by obtain⟨y,b,rfl⟩:=zD a;rw[Ej hi.srt b,Ej (xH hi.srt (Vv hi h c)) (se.2 (.inr b))]
def MO{N:List ND}{g:ND->ND}(c:∀y,(g y).id=y.id)(d:N.Pairwise (·.id < ·.id)):(N.map g).Pairwise (·.id < ·.id):=by rw[List.pairwise_map];refine d.imp λ{a b} h=>?_;rw[c,c];exact h
def ZL(hi:PI s){ids:List Int}{id:Int}(a:dR s.N id=true):aN (s.N.map (fe ids c v)) id=if id∈ids then (aN s.N id).set c (nA (aN s.N id) c+v)else aN s.N id:=by
 obtain⟨y,b,rfl⟩:=zD a
 have:=Ej (MO (λy=>(kS (ids:=ids) (c:=c) (v:=v) y).1) hi.srt) (qT.2 ⟨y,b,rfl⟩)
 rw[(kS y).1]at this;rw[this,Ej hi.srt b];split
 .rename_i h;rw[Hv h]
 .rename_i h;rw[Ds h]
def Xw(hi:PI s){id:Int}(h:dR s.N id=true):(aN s.N id).length=54:=by obtain⟨x,a,rfl⟩:=zD h;rw[Ej hi.srt a];exact hi.A54 x a
def Tu{p:Nat}(b:p<6)(h:XK p c):c<54:=by rcases h with rfl|rfl|rfl|⟨j,a,_,rfl⟩<;>omega
def after(hi:PI s)(h:OK e s):Aft e s (eff e s):=by
 obtain⟨n,O⟩:=vg h.may;have E:e.q<s.V.length:=by rw[hi.v6];exact n
 have H:e.q<s.L.length:=by rw[hi.l6];exact n
 have J:e.q<s.R.length:=by rw[hi.r6];exact n
 have p:(eff e s).N=(nop e s).ap s.N:=rfl;refine⟨λk f=>?_,λk f=>?_,λk f=>?_,?_,λk f=>?_,λo r A=>?_,λid a=>?_,λid a=>?_,λo A=>?_,λid a k f m=>?_,λid a k c f m u=>?_⟩
 .show (wN e s.I).getD k false=true;unfold wN;split
  .by_cases w:(e.t-1).toNat<s.I.length
   .rw[yF w];split
    .rfl
    .exact f
   .rw[List.set_eq_of_length_le oo];exact f
  .exact f
 .show (wO e s.L).getD k false=_;unfold wO;split
  .rw[yF H,oI f]
  .rfl
 .show (XV e s.V).getD k 0=_;unfold XV;rw[yF E,oI f]
 .show (XV e s.V).getD e.q 0=_;unfold XV;rw[yF E,oJ rfl]
 .show (rF e s.R).getD k []=_;unfold rF;split
  .rw[yF J,oI f]
  .rfl
 .show mw ((gop e).ap s.G) o r=_;unfold gop;split
  .exact Yp (λB=>A B.1.symm)
  .split
   .exact RY pH (λy z C=>by unfold tM;rw[oI (λB=>A (z.symm.trans B.1))])
   .rfl
 .rw[p];rcases mM hi h with⟨x,b,l,_⟩|⟨g,c,v,b,_⟩|⟨b,_⟩<;>rw[b]
  .show dR (eQ x s.N) id=true;rw[MK,a,Bool.or_true]
  .exact(Yt λy=>(kS y).1).trans a
  .exact a
 .rw[p];rcases mM hi h with⟨x,b,l,_⟩|⟨g,c,v,b,_⟩|⟨b,_⟩<;>rw[b]
  .exact zcC hi.srt hi.tk (by rw[l];exact hi.new h.may h.rdy) (by rw[l];have:=Qj h.may;omega) a
  .exact zcD λy=>kS y
  .rfl
 .rw[p];rcases mM hi h with⟨x,b,l,_⟩|⟨g,c,v,b,_⟩|⟨b,_⟩<;>rw[b]
  .show jx (eQ x s.N) o=_;obtain⟨_,_,z,C⟩:=jb h.may;rw[N8,l,show idE e / M40=e.o from zB oo C,oI (λe=>A e.symm),qV]
  .exact N9 λy=>(kS y).1
  .rfl
 .rw[p];rcases mM hi h with⟨x,b,l,_⟩|⟨g,c,v,b,_,_,u,z,_⟩|⟨b,_⟩<;>rw[b]
  .show _<=kK (aN (eQ x s.N) id) k;rw[zbH hi h l a];exact Int.le_refl _
  .show _<=kK (aN (s.N.map (fe g c v)) id) k;rw[ZL hi a];split
   .have w:=Xw hi a;refine Si (by rw[w];exact Tu n u) oo (λe=>UX n f (λe=>m e.symm) u (.inr (.inl rfl)) e) λj M e=>?_;rcases u with rfl|rfl|rfl|⟨i,F,_,rfl⟩<;>omega
   .exact Int.le_refl _
  .exact Int.le_refl _
 .rw[p];rcases mM hi h with⟨x,b,l,_⟩|⟨g,d,v,b,_,_,D,z,_⟩|⟨b,_⟩<;>rw[b]
  .show nA (aN (eQ x s.N) id) c=_;rw[zbH hi h l a]
  .show nA (aN (s.N.map (fe g d v)) id) c=_;rw[ZL hi a];split
   .have w:=Xw hi a;rw[rI (by rw[w];exact Tu n D),jr (UX f n m u D)];omega
   .rfl
  .rfl
def OK.kept(hi:PI s)(h:OK e s)(i:OK f s)(y:f.o≠e.o):OK f (eff e s):=by
 have a:=after hi h;obtain⟨F,D⟩:=vg h.may;obtain⟨m,E⟩:=vg i.may;have b:f.q≠e.q:=λe=>y oo;obtain⟨B,C⟩:=yP i.rdy;have w:∀{id},id∈fg s.N f.n->dR s.N id=true:=λh=>sH h;refine⟨i.may,zcM i.may (by rw[a.V _ b];exact B) (λk A=>?_),a.I _ i.inI,(a.L _ b).trans i.notL,λk=>?_,λk=>?_,λk=>?_,λk=>?_,λk=>?_⟩
 .have:=C k A
  by_cases e:k=e.q
  .subst e;rw[a.Ve];omega
  .rw[a.V _ e];exact this
 .obtain⟨d,j,l,p⟩:=i.k1 k;have v:dR s.N f.n=true\/f.n=0:=l.symm;exact⟨by rw[a.own _ y];exact d,j,l.imp id (a.has _),by rw[a.path _ v];exact p⟩
 .obtain⟨d,j⟩:=i.k2 k;exact⟨a.has _ d,by rw[a.cel _ d _ _ m b (.inl rfl)];exact j⟩
 .obtain⟨d,j,l⟩:=i.k3 k;refine⟨by unfold po at d |-; rw[a.R _ b];exact d,a.has _ j,λid c=>?_⟩;rw[a.path _ (.inl j)]at c;obtain⟨p,z⟩:=l id c;have r:=w c;exact⟨Int.le_trans p (a.loc _ r _ m b),by rw[a.cel _ r _ _ m b (.inr (.inl rfl))];exact z⟩
 .obtain⟨d,g,j,l,p⟩:=i.k4 k;refine⟨by unfold po at d |-; rw[a.R _ b];exact d,g,by rw[a.G _ _ y];exact j,l,λid c=>?_⟩;have x:=(hi.gk g (BA j).1).1;rw[a.path _ (.inl x)]at c;have r:=sH c
  have:=p id c
  rw[a.cel _ r _ _ m b (.inr (.inr (.inl rfl))),a.cel _ r _ _ m b (.inr (.inl rfl))];exact this
 .obtain⟨d,j,l,p⟩:=i.k5 k;refine⟨a.has _ d,a.I _ j,Int.le_trans l (a.loc _ d _ m b),?_⟩;rcases uN i.may with⟨u,_⟩|⟨u,_⟩|⟨u,_⟩|⟨u,_⟩|⟨_,_,_,H,J,M⟩|⟨u,_⟩|u<;>try omega
  rw[a.cel _ d _ _ m b (.inr (.inr (.inr ⟨(f.t-1).toNat,by omega,by omega,rfl⟩)))];exact p
def YM(hi:PI s)(h:OK e s)(j:OK f s)(m:f.o≠e.o):nop f (eff e s)=nop f s:=by
 have a:=after hi h;have l:gOf (eff e s) f=gOf s f:=by unfold gOf;rw[a.G _ _ m]
 unfold nop;rw[l];by_cases c:f.k=3
 .rw[a.path _ (.inl (j.k3 c).2.1)];simp[c]
 .by_cases d:f.k=4
  .obtain⟨_,g,i,_⟩:=j.k4 d;have b:gOf s f=g:=by unfold gOf;rw[i];rfl
   rw[b,a.path _ (.inl (hi.gk g (BA i).1).1)];simp[d]
  .simp[c,d]
def zeu(hi:PI s)(h:OK e s)(g:OK f s)(p:f.o≠e.o):(nop f s).ap ((nop e s).ap s.N)=(nop e s).ap ((nop f s).ap s.N):=by
 obtain⟨B,C⟩:=vg h.may;obtain⟨w,D⟩:=vg g.may;have n:f.q≠e.q:=λe=>p oo;have u:∀{e:EV} {x:ND} {a:List Int} {c:Nat} {v:Int},OK e s->x.id=idE e->(∀i∈a,dR s.N i=true)->fe a c v x=x:=λ{e x a c v} h j k=>Ds λb=>by
  have:=hi.new h.may h.rdy
  rw[<-j,k _ b]at this;cases this
 rcases mM hi h with⟨x,m,j,_⟩|⟨a,c,v,m,_,k,z,_⟩|⟨m,_⟩<;>rcases mM hi g with⟨y,b,r,_⟩|⟨t,d,E,b,_,l,A,_⟩|⟨b,_⟩<;>rw[m,b]<;>simp only[NOp.ap]
 .exact Wy (by rw[j,r];exact zhV g.may h.may p)
 .exact(Sd (u h j l) (λy=>(kS y).1)).symm
 .exact Sd (u g r k) (λy=>(kS y).1)
 .rw[jG,jG];exact List.map_congr_left λy _=>zbO (UX w B n A z) y
def ze1(a:f.o≠e.o):∀G,(gop f).ap ((gop e).ap G)=(gop e).ap ((gop f).ap G):=by
 intro G;have g:∀{x:GR} {o q b:Int},x.o≠o->tM o q b x=x:=λh=>by
  unfold tM;rw[oI (λn=>h n.1)]
 unfold gop;by_cases i:e.k=3<;>by_cases j:e.k=4<;>by_cases l:f.k=3<;>by_cases m:f.k=4<;>simp only[i,j,l,m,if_true,if_false,GOp.ap,Int.reduceEq]<;>try omega
 .exact Wx a
 .exact(Sc (g (λe=>a e.symm)) pH).symm
 .exact Sc (g a) pH
 .rw[jG,jG];refine List.map_congr_left λy _=>?_;show tM _ _ _ (tM _ _ _ y)=tM _ _ _ (tM _ _ _ y);unfold tM;by_cases c:y.o=e.o/\y.q=e.f
  .have d : ¬(y.o=f.o/\y.q=f.f):=λh=>a (h.1.symm.trans c.1);simp[c,show ¬e.o=f.o from λe=>a e.symm]
  .by_cases d:y.o=f.o/\y.q=f.f
   .simp[d,show ¬f.o=e.o from a]
   .simp[c,d]
def zdJ(hi:PI s)(h:OK e s)(d:OK f s)(g:f.o≠e.o):eff f (eff e s)=eff e (eff f s):=by
 obtain⟨D,p⟩:=vg h.may;obtain⟨u,r⟩:=vg d.may;have c:f.q≠e.q:=λe=>g oo;have a:=after hi h;have b:=after hi d;have A:(eff f (eff e s)).N=(eff e (eff f s)).N:=by
  show (nop f (eff e s)).ap ((nop e s).ap s.N)=(nop e (eff f s)).ap ((nop f s).ap s.N);rw[YM hi h d g,YM hi d h (λe=>g e.symm)];exact zeu hi h d g
 have v:(eff f (eff e s)).G=(eff e (eff f s)).G:=ze1 g s.G;have C:(eff f (eff e s)).V=(eff e (eff f s)).V:=by
  show ((eff e s).V.set f.q ((eff e s).V.getD f.q 0+1))=((eff f s).V.set e.q ((eff f s).V.getD e.q 0+1))
  rw[a.V _ c,b.V _ (λe=>c e.symm)];show (s.V.set e.q _).set f.q _=(s.V.set f.q _).set e.q _;rw[List.set_comm _ _ (λe=>c e.symm)]
 have w:(eff f (eff e s)).I=(eff e (eff f s)).I:=by
  show wN f (wN e s.I)=wN e (wN f s.I);unfold wN;split<;>split<;>try rfl
  by_cases i:(e.t-1).toNat=(f.t-1).toNat
  .rw[i]
  .rw[List.set_comm _ _ i]
 have z:(eff f (eff e s)).L=(eff e (eff f s)).L:=by
  show wO f (wO e s.L)=wO e (wO f s.L);unfold wO;split<;>split<;>try rfl
  rw[List.set_comm _ _ (λe=>c e.symm)]
 have B:(eff f (eff e s)).R=(eff e (eff f s)).R:=by
  have m:=a.R _ c;have n:=b.R _ (λe=>c e.symm);show rF f (eff e s).R=rF e (eff f s).R;unfold rF;rw[m,n];show (if _ then (rF e s.R).set _ _ else rF e s.R)=(if _ then (rF f s.R).set _ _ else rF f s.R)
  unfold rF;by_cases j:f.k=3\/f.k=4<;>by_cases l:e.k=3\/e.k=4<;>simp only[j,l,if_true,if_false];rw[List.set_comm _ _ (λe=>c e.symm)]
 generalize eff f (eff e s)=x at *;generalize eff e (eff f s)=y at *;cases x;cases y
 simp_all
end
def zad{x:ND}:∀{N:List ND},∃i,eQ x N=vJ N i x
 | []=>⟨0,rfl⟩
 | z::N=>by
  unfold eQ;split
  .exact⟨0,rfl⟩
  .obtain⟨i,h⟩:=zad (x:=x) (N:=N);exact⟨i+1,by rw[h];rfl⟩
def zdc{x:ND}{N:List ND}:∃i,tr (eQ x N)=vJ (tr N) i (x.id,x.par):=by obtain⟨i,h⟩:=zad (x:=x) (N:=N);refine⟨i,?_⟩;rw[h];unfold tr vJ;rw[jJ,jK,List.map_take,List.map_drop]
section
variable {e:EV}{s:PL}
def zh8:Xu z54:=DY.1 dc
def Qa(i:Nat):nA z54 i=0:=by unfold nA z54;rw[oN,jL];split<;>rfl
def zbM{R:List (List Int)}(a:R.length=6)(c:e.q<6){k:Nat}(h:po R k r=true):po (rF e R) k r=true:=by
 unfold rF;split
 .unfold po at *;rw[yF (by rw[a];exact c)];split
  .rename_i b;subst b;rw[List.contains_iff_mem]at h |-;exact List.mem_append_left _ h
  .exact h
 .exact h
def PI.eff(hi:PI s)(h:OK e s):PI (eff e s):=by
 obtain⟨Z,ho⟩:=vg h.may;have C:=jb h.may;have a:=after hi h;have w:=hi.new h.may h.rdy;have ad:=yP h.rdy;have af:=Qj h.may;refine⟨?_,?_,by show (s.V.set _ _).length=6;rw[qN];exact hi.v6,?_,λk u=>?_,λx b=>?_,λx b=>?_,?_,λx b=>?_,λo=>?_,?_,λx b=>?_,?_,λg P=>?_⟩
 .show (wN e s.I).length=6;unfold wN;split
  .rw[qN];exact hi.i6
  .exact hi.i6
 .show (wO e s.L).length=6;unfold wO;split
  .rw[qN];exact hi.l6
  .exact hi.l6
 .show (rF e s.R).length=6;unfold rF;split
  .rw[qN];exact hi.r6
  .exact hi.r6
 .by_cases H:k=e.q
  .subst H;rw[a.Ve, <-ad.1];simp only[M40]at *; omega
  .rw[a.V _ H];exact hi.vb k u
 .rcases mM hi h with⟨y,d,f,E,M,_⟩|⟨l,c,v,d,_⟩|⟨d,_⟩
  .rw[show (Go.Proofs.YtgohpbmmcgenpaaGreatDoor.eff e s).N=eQ y s.N by show (nop e s).ap s.N=_;rw[d];rfl]at b;rcases se.1 b with rfl|b
   .rw[M];simp[z54]
   .exact hi.A54 x b
  .rw[show (Go.Proofs.YtgohpbmmcgenpaaGreatDoor.eff e s).N=s.N.map (fe l c v)by show (nop e s).ap s.N=_;rw[d];rfl]at b;obtain⟨y,f,rfl⟩:=qT.1 b;unfold fe;split
   .show (y.A.set _ _).length=54;rw[qN];exact hi.A54 y f
   .exact hi.A54 y f
  .rw[show (Go.Proofs.YtgohpbmmcgenpaaGreatDoor.eff e s).N=s.N by show (nop e s).ap s.N=_;rw[d];rfl]at b;exact hi.A54 x b
 .rcases mM hi h with⟨y,d,f,E,M,F⟩|⟨l,c,v,d,_,t,J,ah,ai,hb⟩|⟨d,_⟩
  .rw[show (Go.Proofs.YtgohpbmmcgenpaaGreatDoor.eff e s).N=eQ y s.N by show (nop e s).ap s.N=_;rw[d];rfl]at b;rcases se.1 b with rfl|b
   .have hz:z54.set e.q e.a=z54.set e.q (nA z54 e.q+e.a):=by rw[Qa];simp
    have ab:0<=e.a:=by rcases uN h.may with⟨_,h1,_⟩|⟨k,_⟩|⟨k,_⟩|⟨k,_⟩|⟨k,_⟩|⟨k,_⟩|k<;>omega
    have ha:=(h.k1 F).2.1;rw[M,hz];refine⟨DY.2 (zaj (by simp[z54]) zh8 ab oo (by rw[Qa];simp only[MXA,M47]at *; omega) (λi a e=>by omega) (λi a e=>by omega) (λk u t=>by rcases t with t|⟨j,_,t⟩<;>omega) (λ_=>⟨by rw[Qa];omega,λi _=>by rw[Qa];decide⟩)),λk u=>?_⟩;rw[rI (by simp[z54];omega),Qa];unfold dlt;split
    .omega
    .simp only[M47];omega
   .exact hi.may x b
  .rw[show (Go.Proofs.YtgohpbmmcgenpaaGreatDoor.eff e s).N=s.N.map (fe l c v)by show (nop e s).ap s.N=_;rw[d];rfl]at b;obtain⟨y,f,rfl⟩:=qT.1 b;by_cases D:y.id∈l
   .have O:=hb _ D;rw[Ej hi.srt f]at O;obtain⟨b1,X,b3,b4⟩:=O;obtain⟨m1,m2⟩:=hi.may y f;have m1:=DY.1 m1;have hl:=hi.A54 y f;rw[Hv D];show nu (y.A.set c (nA y.A c+v))=true/\_;refine⟨DY.2 (zaj hl m1 oo (Tu Z J) b1 (λi hi aa=>?_) (λi hi ag=>?_) (λk u t=>?_) (λa=>⟨X a,λi a=>m2 i a⟩)),λk u=>?_⟩
    .have:c=12+e.q:=by rcases J with rfl|rfl|rfl|⟨j,hj,_,rfl⟩<;>omega
     have h3:=b3 this
     have:i=e.q:=by omega
     subst this;rw[aa]at h3;exact h3
    .rcases J with rfl|rfl|rfl|⟨j,hj,S,rfl⟩<;>omega
    .rcases t with t|⟨j,hj,t⟩
     .have:k=e.q:=by rcases J with rfl|rfl|rfl|⟨j,hj,S,rfl⟩<;>omega
      subst this;exact b4 (.inl t)
     .have:k=e.q:=by rcases J with rfl|rfl|rfl|⟨i,hi,S,rfl⟩<;>omega
      subst this;exact b4 (.inr oo)
    .show nA (y.A.set c (nA y.A c+v)) k<=M47;rw[rI (by rw[hl];exact Tu Z J)];by_cases ec:k=c
     .subst ec;rw[xj];exact X u
     .rw[jr ec];have:=m2 k u;omega
   .rw[Ds D];exact hi.may y f
  .rw[show (Go.Proofs.YtgohpbmmcgenpaaGreatDoor.eff e s).N=s.N by show (nop e s).ap s.N=_;rw[d];rfl]at b;exact hi.may x b
 .show ((nop e s).ap s.N).Pairwise _;rcases mM hi h with⟨y,d,f,_⟩|⟨l,c,v,d,_⟩|⟨d,_⟩<;>rw[d]
  .exact xH hi.srt (Vv hi h f)
  .exact MO (λy=>(kS y).1) hi.srt
  .exact hi.srt
 .have m:∀x∈s.N,∃o q:Int,1<=o/\o<=6/\1<=q/\q<M40/\x.id=o*M40+q/\q<=(Go.Proofs.YtgohpbmmcgenpaaGreatDoor.eff e s).V.getD (o-1).toNat 0:=λx b=>by
   obtain⟨o,q,a1,a2,a3,a4,a5,a6⟩:=hi.ids x b;refine⟨o,q,a1,a2,a3,a4,a5,?_⟩;by_cases H:(o-1).toNat=e.q
   .rw[H,a.Ve];rw[H]at a6;omega
   .rw[a.V _ H];exact a6
  rcases mM hi h with⟨y,d,f,E,M,_⟩|⟨l,c,v,d,_⟩|⟨d,_⟩
  .rw[show (Go.Proofs.YtgohpbmmcgenpaaGreatDoor.eff e s).N=eQ y s.N by show (nop e s).ap s.N=_;rw[d];rfl]at b;rcases se.1 b with rfl|b
   .refine⟨e.o,e.s,C.1,C.2.1,C.2.2.1,C.2.2.2,f,?_⟩;rw[show (e.o-1).toNat=e.q from rfl,a.Ve];omega
   .exact m x b
  .rw[show (Go.Proofs.YtgohpbmmcgenpaaGreatDoor.eff e s).N=s.N.map (fe l c v)by show (nop e s).ap s.N=_;rw[d];rfl]at b;obtain⟨y,f,rfl⟩:=qT.1 b;rw[(kS y).1];exact m y f
  .rw[show (Go.Proofs.YtgohpbmmcgenpaaGreatDoor.eff e s).N=s.N by show (nop e s).ap s.N=_;rw[d];rfl]at b;exact m x b
 .show jx ((nop e s).ap s.N) o<=5;rcases mM hi h with⟨y,d,f,_,_,F⟩|⟨l,c,v,d,_⟩|⟨d,_⟩<;>rw[d]
  .show jx (eQ y s.N) o<=5;rw[N8,f,show idE e / M40=e.o from zB oo C.2.2.2];split
   .rename_i eo;rw[<-eo];have:=(h.k1 F).1;omega
   .have:=hi.own o;omega
  .exact qR (Nat.le_of_eq (N9 λy=>(kS y).1)) (hi.own o)
  .exact hi.own o
 .show ∃z,TK (tr ((nop e s).ap s.N)) z;obtain⟨z,u⟩:=hi.tk;rcases mM hi h with⟨y,d,f,E,_,F⟩|⟨l,c,v,d,_⟩|⟨d,_⟩<;>rw[d]
  .obtain⟨i,ht⟩:=zdc (x:=y) (N:=s.N);show ∃z,TK (tr (eQ y s.N)) z;rw[ht];exact⟨_,u.add (by rw[f];omega) (by rw[mR,f];exact w) (by rw[mR,E];exact(h.k1 F).2.2.1) i⟩
  .exact⟨z,by show TK (tr (s.N.map _)) z;rw[zdd λy=>kS y];exact u⟩
  .exact⟨z,u⟩
 .have m:∀x∈s.N,(fg (Go.Proofs.YtgohpbmmcgenpaaGreatDoor.eff e s).N x.id).length<=4:=λx b=>by
   rw[a.path _ (.inl (sc.2 ⟨x,b,rfl⟩))];exact hi.dep x b
  rcases mM hi h with⟨y,d,f,E,M,F⟩|⟨l,c,v,d,_⟩|⟨d,_⟩
  .have eN:(Go.Proofs.YtgohpbmmcgenpaaGreatDoor.eff e s).N=eQ y s.N:=by show (nop e s).ap s.N=_;rw[d];rfl
   rw[eN]at b;rcases se.1 b with rfl|b
   .obtain⟨k2,W,k4,k5⟩:=h.k1 F;have T:=a.path e.n (k4.symm);rw[eN]at T |-;obtain⟨z,u⟩:=hi.tk;obtain⟨i,ht⟩:=zdc (x:=x) (N:=s.N);have B:=u.add (id:=x.id) (par:=x.par) (by rw[f];omega) (by rw[mR,f];exact w) (by rw[mR,E];exact k4) i;rw[<-ht]at B;have t:eh (tr (eQ x s.N)) x.id=true:=by rw[mR,MK];simp
    have U:fV (tr (eQ x s.N)) x.id=x.par:=LG (Wd (xH hi.srt (Vv hi h f))) (qT.2 ⟨x,se.2 (.inl rfl),rfl⟩);have hu:=LS B x.par;have ac:fg (eQ x s.N) x.id=x.id::fg (eQ x s.N) x.par:=by
     unfold fg fy;rw[dO,t,oJ rfl,U]
     congr 1
     refine Ps B _ _ _ ?_ oo;exact hu
    rw[ac,oZ,E,T];omega
   .exact m x b
  .rw[show (Go.Proofs.YtgohpbmmcgenpaaGreatDoor.eff e s).N=s.N.map (fe l c v)by show (nop e s).ap s.N=_;rw[d];rfl]at b;obtain⟨y,f,rfl⟩:=qT.1 b;rw[(kS y).1];exact m y f
  .rw[show (Go.Proofs.YtgohpbmmcgenpaaGreatDoor.eff e s).N=s.N by show (nop e s).ap s.N=_;rw[d];rfl]at b;exact m x b
 .show ((gop e).ap s.G).Pairwise ltG;unfold gop;split
  .rename_i W;refine Kq hi.gs λg P t=>?_;obtain⟨_,_,_,g1,g2,g3,Y⟩:=hi.gk g P;rw[t.1,t.2,show (e.o-1).toNat=e.q from rfl,(h.k3 W).1]at Y;cases Y
  .split
   .show (s.G.map _).Pairwise ltG;rw[List.pairwise_map];refine hi.gs.imp λ{x y} ae=>?_;unfold ltG at *;rw[(pH x).1,(pH x).2,(pH y).1,(pH y).2];exact ae
   .exact hi.gs
 .have m:∀g∈s.G,dR (Go.Proofs.YtgohpbmmcgenpaaGreatDoor.eff e s).N g.n=true/\1<=g.a/\g.a<=MXA/\1<=g.o/\g.o<=6/\1<=g.q/\po (Go.Proofs.YtgohpbmmcgenpaaGreatDoor.eff e s).R (g.o-1).toNat g.q=true:=λg P=>by
   obtain⟨g0,g1,g2,g3,Y,g5,g6⟩:=hi.gk g P;exact⟨a.has _ g0,g1,g2,g3,Y,g5,zbM hi.r6 Z g6⟩
  have p:g∈(gop e).ap s.G:=P;unfold gop at p;split at p
  .rename_i W;rcases BD.1 p with rfl|p
   .rcases uN h.may with⟨k,_⟩|⟨k,_⟩|⟨_,b1,X,b3⟩|⟨k,_⟩|⟨k,_⟩|⟨k,_⟩|k<;>try omega
    refine⟨a.has _ (h.k3 W).2.1,b1,X,C.1,C.2.1,b3,?_⟩;show po (rF e s.R) e.q e.r=true;unfold rF po;rw[oJ (.inl W),yF (by rw[hi.r6];exact Z),oJ rfl,List.contains_iff_mem];simp
   .exact m g p
  .split at p
   .obtain⟨y,f,rfl⟩:=qT.1 p
    have:=m y f
    unfold tM;split
    .exact this
    .exact this
   .exact m g p
end
def GI(n:Nat):PI (pl0 n) where
 i6:=by simp[pl0]
 l6:=rfl
 v6:=rfl
 r6:=rfl
 vb:=λk hk=>by
  have:(pl0 n).V.getD k 0=0:=by
   show (List.replicate 6 (0:Int)).getD k 0=0;rw[oN,jL];split<;>rfl
  rw[this];decide
 A54:=by simp[pl0]
 may:=by simp[pl0]
 srt:=by simp[pl0]
 ids:=by simp[pl0]
 own:=λo=>by simp[pl0,jx]
 tk:=⟨_,TK.nil⟩
 dep:=by simp[pl0]
 gs:=by simp[pl0]
 gk:=by simp[pl0]
def ledger_sys:Sys eff OK EV.q PI where
 inv:=λe s hi h=>hi.eff h
 dia:=λe f s hi ho h hf=>by
  have hne:f.o≠e.o:=λeo=>ho (by unfold EV.q;rw[eo]);exact⟨h.kept hi hf hne,zdJ hi h hf hne⟩
def Ap(f:List Int->Int)(N:List ND):List Int->Int
 | []=>0
 | id::p=>if f (aN N id)≠0 then f (aN N id)else Ap f N p
def pZ(e:EV)(s:PL):Int :=
 if e.k=1 then (if 5<=jx s.N e.o\/M47<e.a then 6 else (nN (tr s.N) (idE e) e.n).2)
 else if e.k=2 then (if dR s.N e.n=false then 9 else if M47<nA (aN s.N e.n) e.q+e.a then 6 else 0)
 else if e.k=3 then (if po s.R e.q e.r=true then 14 else if dR s.N e.n=false then 9 else Ap (λA=>(vz A e.o e.a).2) s.N (fg s.N e.n))
 else if e.k=4 then (if po s.R e.q e.r=true then 14 else match mw s.G e.o e.f with|none=>12|some g=>if g.b≠0 then 12 else Ap (λA=>(wU A e.o g.a).2) s.N (fg s.N g.n))
 else if e.k=5 then (if dR s.N e.n=false then 9 else if s.I.getD (e.t-1).toNat false=false then 10 else (xZ (aN s.N e.n) e.o e.t e.a).2)
 else 0
def eC(e:EV)(s:PL):Int :=
 if dI e=false then 1 else if tQ s.V e=true then 14 else if fW s.V e=false then 13 else if s.I.getD e.q false=false\/s.L.getD e.q false=true then 10 else pZ e s
def lQ(e:EV)(s:PL):PL:=if eC e s=0 then eff e s else s
def Hg{f:List Int->Int}{N:List ND}:∀{p:List Int},Ap f N p=0↔∀id∈p,f (aN N id)=0
 | []=>by simp[Ap]
 | id::p=>by
  unfold Ap;by_cases h:f (aN N id)=0
  .rw[oI (by simpa using h),Hg];simp[h]
  .rw[oJ h];simp[h]
section
variable  {o a t:Int}
def Ux(h:nu A=true)(b:1<=a)(c:a<=MXA)(d:1<=o)(f:o<=6):IN A o a=0:=by unfold IN bO;rw[oI (by rintro(e|e|e);(rw[h]at e;cases e);omega;omega),oI (by simp;omega)]
def Zg(h:nu A=true)(b:1<=a)(c:a<=MXA)(d:1<=o)(e:o<=6):(vz A o a).2=0↔a<=kK A (o-1).toNat/\nA A (6+(o-1).toNat)+a<=MXA:=by
 unfold vz CN;rw[Ux h b c d e,oI oB];generalize (o-1).toNat=q;split
 .simp;omega
 .split<;>simp<;>omega
def zeV(h:(vz A o a).2=0):(vz A o a).1=A.set (6+(o-1).toNat) (nA A (6+(o-1).toNat)+a):=by
 unfold vz CN at *;split at h
 .rename_i b;exact qI h b
 .rename_i b;rw[oI b];split at h
  .cases h
  .rename_i c;rw[oI c];split at h
   .cases h
   .rename_i d;rw[oI d]
def Yo(h:nu A=true)(b:1<=a)(c:a<=MXA)(d:1<=o)(e:o<=6):(wU A o a).2=0↔nA A (12+(o-1).toNat)+a<=nA A (6+(o-1).toNat):=by
 unfold wU;rw[Ux h b c d e,oI oB];generalize (o-1).toNat=q;split
 .simp;omega
 .simp;omega
def zdY(h:(wU A o a).2=0):(wU A o a).1=A.set (12+(o-1).toNat) (nA A (12+(o-1).toNat)+a):=by
 unfold wU at *;split at h
 .rename_i b;exact qI h b
 .rename_i b;rw[oI b];split at h
  .cases h
  .rename_i c;rw[oI c]
def YI(h:nu A=true)(b:1<=a)(c:a<=MXA)(d:1<=o)(f:o<=6)(i:1<=t)(j:t<=6)(g:t≠o):(xZ A o t a).2=0↔a<=kK A (o-1).toNat/\nA A (18+6*(o-1).toNat+(t-1).toNat)+a<=MXA:=by
 unfold xZ CN bO;rw[Ux h b c d f,oI oB,oI (by simp;omega),oI (λe=>g e.symm)];generalize (o-1).toNat=q;generalize (t-1).toNat=u;split
 .simp;omega
 .split<;>simp<;>omega
def zes(h:(xZ A o t a).2=0):(xZ A o t a).1=A.set (18+6*(o-1).toNat+(t-1).toNat) (nA A (18+6*(o-1).toNat+(t-1).toNat)+a):=by
 unfold xZ CN at *;split at h
 .rename_i b;exact qI h b
 .rename_i b;rw[oI b];split at h
  .cases h
  .rename_i c;rw[oI c];split at h
   .cases h
   .rename_i d;rw[oI d];split at h
    .cases h
    .rename_i e;rw[oI e];split at h
     .cases h
     .rename_i f;rw[oI f]
end
section
variable {e:EV}{s:PL}
def PI.mayN(hi:PI s){id:Int}(h:dR s.N id=true):nu (aN s.N id)=true:=by obtain⟨x,a,rfl⟩:=zD h;rw[Ej hi.srt a];exact(hi.may x a).1
def PI.few(hi:PI s)(o:Int)(i:1<=o)(f:o<=6)(h:jx s.N o<5):s.N.length<32:=by
 rw[Vz λx g=>by
  obtain⟨o,q,a,b,c,d,e,_⟩:=hi.ids x g;exact⟨o,q,a,b,c,d,e⟩]
 have:=hi.own 1
 have:=hi.own 2
 have:=hi.own 3
 have:=hi.own 4
 have:=hi.own 5
 have:=hi.own 6
 omega
def zb4(a:fW s.V e=true):tQ s.V e=false:=by
 have:=(yP a).1
 unfold tQ EV.q at *;rw[qE oo,Bool.and_false]
def qn(hi:PI s):eC e s=0↔OK e s:=by
 constructor
 .intro h;unfold eC at h;split at h
  .cases h
  rename_i l;split at h
  .cases h
  split at h
  .cases h
  rename_i v;split at h
  .cases h
  rename_i i;have l:dI e=true:=by simpa using l
  have v:fW s.V e=true:=by simpa using v
  have i:s.I.getD e.q false=true/\s.L.getD e.q false=false:=by
   constructor
   .cases u:s.I.getD e.q false with
    | true=>rfl
    | false=>exact qI (.inl u) i
   .cases u:s.L.getD e.q false with
    | false=>rfl
    | true=>exact qI (.inr u) i
  have f:=jb l;refine⟨l,v,i.1,i.2,λk=>?_,λk=>?_,λk=>?_,λk=>?_,λk=>?_⟩
  .unfold pZ at h;rw[oJ k]at h;split at h
   .cases h
   rename_i b;unfold nN at h;rw[oI (by have:=Qj l;omega),mR,hi.new l v,oI oB]at h;split at h
   .cases h
   rename_i c;split at h
   .cases h
   rename_i d;refine⟨by omega,by omega,?_,by unfold fg;omega⟩;by_cases A:e.n=0
   .exact .inl A
   .refine .inr ?_;cases u:dR s.N e.n with
    | true=>rfl
    | false=>exact qI ⟨A,by rw[mR];exact u⟩ c
  .unfold pZ at h;rw[oI oo,oJ k]at h;split at h
   .cases h
   rename_i b;split at h
   .cases h
   rename_i c;exact⟨by simpa using b,by omega⟩
  .unfold pZ at h;rw[oI oo,oI oo,oJ k]at h;split at h
   .cases h
   rename_i b;split at h
   .cases h
   rename_i c;refine⟨by simpa using b,by simpa using c,λid a=>?_⟩;have d:=Hg.1 h id a;rcases uN l with⟨j,_⟩|⟨j,_⟩|⟨_,m,p,r⟩|⟨j,_⟩|⟨j,_⟩|⟨j,_⟩|j<;>try omega
   exact(Zg (hi.mayN (sH a)) m p f.1 f.2.1).1 d
  .unfold pZ at h;rw[oI oo,oI oo,oI oo,oJ k]at h;split at h
   .cases h
   rename_i b;split at h
   .cases h
   rename_i g B;split at h
   .cases h
   rename_i c;refine⟨by simpa using b,g,B,by simpa using c,λid a=>?_⟩;have d:=Hg.1 h id a;have t:=hi.gk g (BA B).1;exact(Yo (hi.mayN (sH a)) t.2.1 t.2.2.1 f.1 f.2.1).1 d
  .unfold pZ at h;rw[oI oo,oI oo,oI oo,oI oo,oJ k]at h;split at h
   .cases h
   rename_i b;split at h
   .cases h
   rename_i c;have b:dR s.N e.n=true:=by simpa using b
   rcases uN l with⟨j,_⟩|⟨j,_⟩|⟨j,_⟩|⟨j,_⟩|⟨_,m,p,r,w,x⟩|⟨j,_⟩|j<;>try omega
   have d:=(YI (hi.mayN b) m p f.1 f.2.1 r w x).1 h;exact⟨b,by simpa using c,d⟩
 .intro h;have f:=jb h.may;unfold eC;rw[oI (by rw[h.may];simp),zb4 h.rdy,oI oB,oI (by rw[h.rdy];simp),oI (by rintro(e|e);(rw[h.inI]at e;cases e);(rw[h.notL]at e;cases e))];unfold pZ;rcases uN h.may with⟨k,_⟩|⟨k,_⟩|⟨k,m,p,r⟩|⟨k,_⟩|⟨k,m,p,r,w,x⟩|⟨k,_⟩|k
  .obtain⟨b,c,d,z⟩:=h.k1 k;rw[oJ k,oI oo];unfold nN;rw[oI (by have:=Qj h.may;omega),mR,hi.new h.may h.rdy,oI oB,oI,oI]
   .have:=hi.few e.o f.1 f.2.1 b
    unfold fg at z;unfold tr at *;simp only[oY]at *;omega
   .rintro⟨C,y⟩;rw[mR]at y;rcases d with d|d
    .exact C d
    .rw[d]at y;cases y
  .obtain⟨b,c⟩:=h.k2 k;rw[oI oo,oJ k,b,oI oB,oI oo]
  .obtain⟨b,c,d⟩:=h.k3 k;rw[oI oo,oI oo,oJ k,b,c,oI oB,oI oB];exact Hg.2 λid a=>(Zg (hi.mayN (sH a)) m p f.1 f.2.1).2 (d id a)
  .obtain⟨b,g,c,d,z⟩:=h.k4 k;rw[oI oo,oI oo,oI oo,oJ k,b,c,oI oB];simp only;rw[oI oo];have t:=hi.gk g (BA c).1;exact Hg.2 λid a=>(Yo (hi.mayN (sH a)) t.2.1 t.2.2.1 f.1 f.2.1).2 (z id a)
  .obtain⟨b,c,d⟩:=h.k5 k;rw[oI oo,oI oo,oI oo,oI oo,oJ k,b,c,oI oB,oI oB];exact(YI (hi.mayN b) m p f.1 f.2.1 r w x).2 d
  .rw[oI oo,oI oo,oI oo,oI oo,oI oo]
  .rw[oI oo,oI oo,oI oo,oI oo,oI oo]
def XC(hi:PI s):PI (lQ e s):=by
 unfold lQ;split
 .rename_i h;exact hi.eff ((qn hi).1 h)
 .exact hi
end
def zaU(e:EV)(k:Nat):Int:=e.V.getD k 0
def kV(l:PL):Nat->Int:=λk=>l.V.getD k 0
abbrev zaK(n:Nat)(E:List EV):Prop:=zaJ eff OK EV.q EV.s zaU (pl0 n) E
abbrev stL(n:Nat)(E:List EV)(D:Nat->Int):PL:=stD eff EV.q EV.s (pl0 n) E D
abbrev ClL(E:List EV)(D:Nat->Int):Prop:=zbF EV.q EV.s zaU E D
structure LK(n:Nat) (E:List EV) (l:PL):Prop where
 st:l=stL n E (kV l)
 cl:ClL E (kV l)
section
variable {n:Nat}{E:List EV}{l:PL}{e:EV}
def zcp(h:dI e=true):e.V.getD e.q 0=e.s-1/\∀k,e.V.getD k 0<M40:=by
 unfold dI at h;simp only[oM,oP,jR,jQ]at h;refine⟨h.2.2.2.1,λk=>?_⟩;by_cases a:k<6
 .exact h.2.2.2.2.1 k a
 .rw[oN,jC (by simp[EV.V];omega)];decide
def Ew(hi:PI l)(h:OK e l):kV (eff e l)=upD (kV l) e.q e.s:=by
 have a:=after hi h;funext k;unfold kV upD;by_cases b:k=e.q
 .subst b;rw[oJ rfl,a.Ve,(yP h.rdy).1]
 .rw[oI b,a.V _ b]
end
structure WP(n:Nat) (Ls:List PL) (E:List EV):Prop where
 hist:zaK n E
 lk:∀l∈Ls,LK n E l
 own:∀i l,Ls[i]? = some l->∀e∈E,e.q=i->e.s<=l.V.getD i 0
 low:∀i l,Ls[i]? = some l->∀m∈Ls,m.V.getD i 0<=l.V.getD i 0
 few:∀e∈E,e.q<Ls.length
abbrev HM:=List ((Int×Int)×EV)
def ph(e:EV):Int×Int:=(e.o,e.s)
section
variable {ν:Type}[DecidableEq κ]{m:List (κ×ν)}{x y:κ}{v:ν}
def ud(m:List (κ×ν))(x:κ):List (κ×ν):=m.filter λp=>decide (p.1≠x)
def zC{p:κ×ν}:p∈ud m x↔p∈m/\p.1≠x:=by unfold ud;rw[qU];simp
def Pn(h:x∉m.map (·.1)):ud m x=m:=by unfold ud;rw[List.filter_eq_self];intro p a;exact qF λe=>h (qT.2 ⟨p,a,e⟩)
def Ug(h:(m.map (·.1)).Nodup):((ud m x).map (·.1)).Nodup:=List.Nodup.sublist (List.Sublist.map _ List.filter_sublist) h
def MV(a:(m.map (·.1)).Nodup)(h:m[j]? = some (x,v)):m.eraseIdx j=ud m x:=by
 induction m generalizing j with
 | nil=>simp at h
 | cons p m ih =>
  rw[jK,jF]at a;cases j with
  | zero =>
   simp only[qL,qD]at h;subst h;rw[List.eraseIdx_cons_zero]
   have:=Pn (m:=m) (x:=x) a.1
   unfold ud at this |-;rw[List.filter_cons_of_neg oB,this]
  | succ j =>
   rw[qK]at h;have b:p.1≠x:=λe=>a.1 (qT.2 ⟨_,mO h,e.symm⟩);rw[List.eraseIdx_cons_succ,ih a.2 h];unfold ud;rw[List.filter_cons_of_pos (by simpa using b)]
def zeq(c:(m.map (·.1)).Nodup)(h:dZ m x=some v):(ud m x).length+1=m.length:=by obtain⟨j,a⟩:=List.getElem?_of_mem (wZ h);rw[<-MV c a];obtain⟨b,_⟩:=gS a;rw[List.length_eraseIdx_of_lt b];omega
end
def eD(V:List Int)(W:HM):Nat->Option EV
 | 0=>none
 | k+1=>match dZ W (((5-k:Nat):Int)+1,V.getD (5-k) 0+1)with
  | some e=>if fW V e=true then some e else eD V W k
  | none=>eD V W k
structure HW(E:List EV) (V:List Int) (W:HM):Prop where
 key:∀p∈W,p.1=ph p.2
 mem:∀p∈W,p.2∈E
 nd:(W.map (·.1)).Nodup
 new:∀p∈W,V.getD p.2.q 0<p.2.s
structure RHL(n:Nat) (E:List EV) (l:PL) (W:HM) (c:Nat):Prop where
 hist:zaK n E
 lk:LK n E l
 hw:HW E l.V W
 cnt:∃Kn:List EV,Kn.Nodup/\(∀f,f∈Kn↔f∈E/\f.s<=l.V.getD f.q 0)/\Kn.length=c
section
variable {n:Nat}{E:List EV}{l:PL}{W:HM}  {e:EV}
def GH:∀{k:Nat},k<=6->eD l.V W k=some e->fW l.V e=true/\∃i:Nat,i<6/\dZ W ((i:Int)+1,l.V.getD i 0+1)=some e
 | 0,_,h=>by cases h
 | k+1,hk,h=>by
  unfold eD at h;cases a:dZ W (((5-k:Nat):Int)+1,l.V.getD (5-k) 0+1)with
  | none=>rw[a]at h;exact GH oo h
  | some f =>
   rw[a]at h;simp only at h;split at h
   .rename_i b;cases h;exact⟨b,5-k,by omega,a⟩
   .exact GH oo h
def zci(h:dI e=true):ph e=((e.q:Int)+1,e.s):=by
 have:=jb h
 unfold ph EV.q;rw[show (((e.o-1).toNat:Nat):Int)+1=e.o by omega]
def Px(V:List Int)(W:HM)(e:EV):HM:=if dI e=true/\tQ V e=false/\dZ W (ph e)=none/\W.length<64 then W++[(ph e,e)]else W
def JL(a:dI e=true){V:List Int}:tQ V e=true↔e.s<=V.getD e.q 0:=by unfold tQ EV.q;rw[a,qY,oP]
end
section
open Go.ChangeMaps
section
variable {ν:Type}[DecidableEq κ]{kv:κ->oF}{vv:ν->oF}   {m:List (κ×ν)}{es:Array MapEntry}{clock:Nat}
variable  {K:KV}{k:TypeId}
def Ff{α β:Type}{f:α->β}:∀{l:List α} {j:Nat},(l.eraseIdx j).map f=(l.map f).eraseIdx j
 | [],_=>rfl
 | _::_,0=>rfl
 | _::_,_+1=>qH (List.cons _) Ff
def zbW{ty:TypeId}{cs:Array Bool}(KK:Hs P k kv)(p:P.underlying t=some (.map k e))(a:MB kv vv w b m){x:κ}(h:∀w',MB kv vv w' b (ud m x)->Oth b w w'->K (.tuple #[]) w'):blt P .delete #[t,E] ty cs #[.map (some b),kv x] K w:=by
 obtain⟨d,c,a⟩:=a;rcases a.find KK x with⟨l,i,n⟩|⟨j,r,z,l,i,n,s,u,o⟩
 .refine rD (v:=.tuple #[]) (w':=setBlock w b (.map d c)) ?_ (h _ ?_ (Qo a.heap))
  .rw[BigFrame.builtin_delete];simp[Builtin.delete_,jY p,MapKept.run_getObj_map a.heap,KK.chk,i,MapKept.run_setObj_map _ a.heap,Result.andThen,setBlock]
  .rw[Pn (wF.1 l)];exact⟨d,c,heap_setBlock_same a.heap _,a.keys,a.vals,a.nodup,a.born,a.old⟩
 .have y:j<d.size:=by
   have:=(gS n).1
   simpa using this
  refine rD (v:=.tuple #[]) (w':=setBlock w b (.map (d.eraseIdxIfInBounds j) c)) ?_ (h _ ?_ (Qo a.heap))
  .rw[BigFrame.builtin_delete];simp[Builtin.delete_,jY p,MapKept.run_getObj_map a.heap,KK.chk,i,MapKept.run_setObj_map _ a.heap,Result.andThen,setBlock]
  .have g:(d.eraseIdxIfInBounds j).toList=d.toList.eraseIdx j:=by
    rw[Array.toList_eraseIdxIfInBounds]
   rw[<-MV a.nodup o];refine⟨_,c,heap_setBlock_same a.heap _,?_,?_,?_,?_,?_⟩
   .rw[g,Ff,Ff,a.keys]
   .rw[g,Ff,Ff,a.vals]
   .rw[MV a.nodup o];exact Ug a.nodup
   .rw[g];exact List.Pairwise.sublist (List.Sublist.map _ (List.eraseIdx_sublist _ _)) a.born
   .intro q f;rw[g]at f;exact a.old q ((List.eraseIdx_sublist _ _).mem f)
end
end
inductive DR (l:PL) (W:HM):PL->HM->List EV->Prop
 | nil:DR l W l W []
 | snoc {l':PL} {W':HM} {F:List EV} {e:EV}:DR l W l' W' F->eD l'.V W' 6=some e->DR l W (eff e l') (ud W' (ph e)) (F++[e])
section
def iv(x:Int):oF:=.int .i64 x
open Go.RowKit
section
variable    {K:KV}
def dl{B:Nat}{v:oF}{n:Nat}(h:w.ownsRow B E s v n xs)(i:∀k,v.ownBlock=some k->w'.heap[k]? = w.heap[k]?):w'.ownsRow B E s v n xs:=by
 refine⟨h.1,?_⟩;rcases h.2 with d|⟨g,a,b,c,e,f,r⟩
 .exact .inl d
 .refine .inr ⟨g,a,b,c,e,?_,r⟩;rw[i g (by rw[c];rfl)];exact f
def zcz{B n:Nat}(c:blk w g E xs)(a:xs.length=n*s)(b:B<=g)(d:n<=maxLen):w.ownsRow B E s (.slice (some ⟨g,0,none⟩) n n) n xs:=by refine⟨a,.inr ⟨g,n,xs.toArray,rfl,b,c,Nat.le_refl _,d,by simpa using a,?_⟩⟩;rw[<-a];simp
def zhg{cs:Array Bool}{base:Nat}{i:TypeInfo}{z:oF}(J:P.underlying t=some (.slice e))(hi:P.info? e=some i)(M:i.zero=some z)(k:i.size=s)(p:i.bytes=b)(y:z.cells.size=s)(r:0<s){n:Nat}(l:w.ownsRow base e s (.slice av n c) n xs)(L:blk w g e ys)(x:ys.length=m*s)(C:∀u∈ys,u.oneCell'=true)(a:(n+m)*b<=140737488355328)(G:n+m<=9223372036854775807)(f:base<=w.heap.size)(h:∀d c' S,S.ownsRow base e s (.slice d (n+m) c') (n+m) (xs++ys)->w.grownBy S (Value.slice av n c).ownBlock->((Value.slice d (n+m) c').ownBlock=(Value.slice av n c).ownBlock\/(Value.slice d (n+m) c').ownBlock=some w.heap.size)->K (.slice d (n+m) c') S):blt P .append #[t,t] E cs #[.slice av n c,.slice (some ⟨g,0,none⟩) m c2] K w:=by
  have q:∀j u,ys[j]? = some u->w.cell? ((⟨g,0,none⟩:Addr).add j)=some u:=by
    intro j u H;rw[show ((⟨g,0,none⟩:Addr).add j)=⟨g,0+j,none⟩from by unfold Addr.add;split<;>simp_all,L.cell,oK];exact H
  obtain⟨N,S,I,A,D,_,F⟩:=run_append_own_at (P:=P) w base t E e i z s b J hi M k p y r _ n xs l ⟨g,0,none⟩ m c2 ys x q C (by simp only[maxLen];omega) a f;obtain⟨d,c',rfl⟩:∃d c',N=.slice d (n+m) c':=by
    rcases A.2 with⟨v,q⟩|⟨g,o,B,v,_⟩
    · exact⟨none,0,by rw[v,q]⟩
    · exact⟨_,o,v⟩
  exact rD (by rw[BigFrame.builtin_append];simp only[jX,I,jU,jW]) (h d c' S A D F)
end
end
section
def u6(x:Int):oF:=.int .u64 x
def uC(x:Int):oE:=[u6 x]
def zgY(l:List Int):l.flatMap uC=l.map u6:=by induction l<;>simp_all [uC]
open Go.RowKit Go.ChangeMaps
def gI{p B:Nat}(a:Below B O w)(h:Oth p w S)(c:B<=p):Below B O S:=⟨h.os.trans a.os,h.tape.trans a.tape,h.output.trans a.output,by rw[h.size];exact a.size,λk b=>by rw[h.other k oo];exact a.block k b⟩
def Hh{α:Type}{enc:α->oE}{s:Nat}(a:∀x,(enc x).length=s):∀(L:List α) (i:Nat) (x:α) (j:Nat),L[i]? = some x->j<s->(L.flatMap enc)[i*s+j]? = (enc x)[j]?
 | [],i,x,j,h,_=>by simp at h
 | y::L,0,x,j,h,hj=>by
  simp at h;subst h;rw[jI,Nat.zero_mul,oK,qO (by rw[a];exact hj)]
 | y::L,i+1,x,j,h,hj=>by
  rw[jI,qP (by rw[a,Nat.succ_mul];omega),a,show (i+1)*s+j-s=i*s+j by rw[Nat.succ_mul];omega];exact Hh a L i x j (by simpa using h) hj
section
variable   {K:KV}  {enc:α->oE}{L:List α}{B n:Nat}   {k:IntKind}{x:α}
def zhY(D:P.underlying t=some (.slice e))(f:∀w,(sizeOf e).run P w=.ok s w)(C:∀x,(enc x).length=s)(A:w.ownsRow B e s (.slice a n c) n (L.flatMap enc))(z:L.length=n)(p:L[i]? = some x)(h:∀g b,a=some ⟨g,0,none⟩->blk w g e b->(∀j,j<s->b[i*s+j]? = (enc x)[j]?)->K (pA g (i*s)) w):bv P t (.slice a n c) (.int k (i:Nat)) K w:=by
 have v:i<n:=by rw[<-z];exact(gS p).1
 rcases A.2 with⟨_,G⟩|⟨g,q,b,o,E,u,F,r,m,l⟩
 .omega
 simp only[Value.slice.injEq]at o;obtain⟨rfl,_,rfl⟩:=o;refine gO (s:=s) D f oo oo ?_;rw[oQ,oK];refine h g b.toList rfl u (λj y=>?_);have d:i*s+j<n*s:=by
  have:(i+1)*s<=n*s:=Nat.mul_le_mul_right _ v
  rw[Nat.succ_mul]at this;omega
 rw[<-Hh C L i x j p y, <-l,jN d]
def rd3{f':Nat}{v:oF}{K3:oF->oF->oF->oG->Prop}(A:P.underlying t=some (.slice e))(m:∀w,(sizeOf e).run P w=.ok s w)(z:∀x,(enc x).length=s)(l:∀w,(isAgg E).run P w=.ok false w)(r:zdW P e f=some f')(j:f'<s)(y:w.ownsRow B e s (.slice a n c) n (L.flatMap enc))(u:L.length=n)(D:L[i]? = some x)(C:(enc x)[f']? = some v)(h:∀b d,K3 b d v w):bv P t (.slice a n c) (.int k (i:Nat)) (λb w=>aq P e b f (λd w=>ld P E d (λF w=>K3 b d F w) w) w) w:=by refine zhY A m z y u D ?_;intro g o G p q;refine aQ r <|ld1 l p (by rw[q _ j];exact C) ?_;exact h _ _
end
section
variable   {K:KV}  {B n:Nat}  {v:oF}   {enc:α->oE}{L:List α}
def zbL{cs:Array Bool}{base:Nat}{i:TypeInfo}{z:oF}(J:P.underlying t=some (.slice e))(hi:P.info? e=some i)(M:i.zero=some z)(k:i.size=s)(p:i.bytes=b)(y:z.cells.size=s)(r:0<s){n:Nat}(l:w.ownsRow base e s (.slice av n c) n xs)(L:blk w g e ys)(x:ys.length=m*s)(C:∀u∈ys,u.oneCell'=true)(a:(n+m)*b<=140737488355328)(G:n+m<=9223372036854775807)(f:base<=w.heap.size)(h:∀d c' S,S.ownsRow base e s (.slice d (n+m) c') (n+m) (xs++ys)->w.grownBy S (Value.slice av n c).ownBlock->((Value.slice d (n+m) c').ownBlock=(Value.slice av n c).ownBlock\/(Value.slice d (n+m) c').ownBlock=some w.heap.size)->K (.slice d (n+m) c') S):blt P .append #[t,t] E cs #[.slice av n c,.slice (some ⟨g,0,none⟩) m c2] K w:=by
  have q:∀j u,ys[j]? = some u->w.cell? ((⟨g,0,none⟩:Addr).add j)=some u:=by
    intro j u H;rw[yZ,L.cell,oK];exact H
  obtain⟨N,S,I,A,D,_,F⟩:=run_append_own_at (P:=P) w base t E e i z s b J hi M k p y r _ n xs l ⟨g,0,none⟩ m c2 ys x q C (by simp only[maxLen];omega) a f;obtain⟨d,c',rfl⟩:∃d c',N=.slice d (n+m) c':=by
    rcases A.2 with⟨v,q⟩|⟨g,o,B,v,_⟩
    · exact⟨none,0,by rw[v,q]⟩
    · exact⟨_,o,v⟩
  exact rD (by rw[BigFrame.builtin_append];simp only[jX,I,jU,jW]) (h d c' S A D F)
structure Opn(w:oG) (B:Nat) (e:TypeId) (s n c g:Nat) (cur:oE) (xs:oE):Prop where
 blk:blk w g e cur
 lo:B<=g
 nc:n<=c
 cm:c<=maxLen
 len:cur.length=c*s
 take:cur.take (n*s)=xs
 xl:xs.length=n*s
def iM(i:w.ownsRow B e s (.slice a n c) n xs)(p:0<n):∃g b,a=some ⟨g,0,none⟩/\Opn w B e s n c g b xs:=by
 rcases i.2 with⟨_,q⟩|⟨g,k,b,j,l,m,o,f,d,h⟩
 .omega
 simp only[Value.slice.injEq]at j;obtain⟨rfl,_,rfl⟩:=j;exact⟨g,b.toList,rfl,m,l,o,f,by simpa using d,h,i.1⟩
def Opn.own(h:Opn w B e s n c g ys xs):w.ownsRow B e s (.slice (some ⟨g,0,none⟩) n c) n xs :=
 ⟨h.xl,.inr ⟨g,c,ys.toArray,rfl,h.lo,h.blk,h.nc,h.cm,by simpa using h.len,by simpa using h.take⟩⟩
def rZ(a:∀x,(enc x).length=s):∀L:List α,(L.flatMap enc).length=L.length*s
 | []=>by simp
 | x::L=>by rw[jI,oT,a,rZ a L,oZ,Nat.succ_mul];omega
def Opn.elem{x:α}(b:∀x,(enc x).length=s)(h:Opn w B e s n c g xs (L.flatMap enc))(l:L.length=n)(d:L[i]? = some x):(xs.drop (i*s)).take s=enc x:=by
 have k:i<n:=by rw[<-l];exact(gS d).1
 have f:(i+1)*s<=n*s:=Nat.mul_le_mul_right _ k;rw[Nat.succ_mul]at f;have e:(xs.drop (i*s)).take s=((xs.take (n*s)).drop (i*s)).take s:=by
  rw[List.drop_take,List.take_take];congr 1;omega
 rw[e,h.take];apply List.ext_getElem?;intro j;by_cases a:j<s
 .rw[jN a,jM,Hh b L i x j d a]
 .rw[jC (by simp;omega),jC (by rw[b];omega)]
def Ho{k:Nat}(h:w.ownsRow B e s v n xs)(c:v.ownBlock=some k):(∃a,blk w k e a)/\B<=k/\k<w.heap.size:=by
 rcases h.2 with⟨rfl,_⟩|⟨g,d,a,rfl,f,b,_⟩
 .cases c
 .cases c;exact⟨⟨a.toList,b⟩,f,blk.lt (w:=w) (E:=e) (cs:=a.toList) b⟩
def Hu{k:Nat}{cs:oE}(h:blk w k E cs)(a:blk w k t xs):E=t:=by unfold blk at h a;rw[h]at a;simp only[qD,Obj.cells.injEq]at a;exact a.2.1
def Opn.cell{x:α}(d:∀x,(enc x).length=s)(h:Opn w B e s n c g xs (L.flatMap enc))(b:L.length=n)(f:L[i]? = some x)(a:j<s):xs[i*s+j]? = (enc x)[j]? := by
 rw[<-h.elem d b f,jN a,jM]
def GJ{K2:oF->KV}{x:α}{k:IntKind}{d:TypeDesc}(v:P.underlying t=some (.slice e))(b:∀w,(sizeOf e).run P w=.ok s w)(y:P.underlying e=some d)(p:d.isRow=true)(hi:(P.info? e).map (·.size)=some s)(l:∀x,(enc x).length=s)(r:w.ownsRow B e s (.slice a n c) n (L.flatMap enc))(f:L.length=n)(m:L[i]? = some x)(h:∀u,K2 u (.agg (enc x).toArray) w):bv P t (.slice a n c) (.int k (i:Nat)) (λu w=>ld P e u (K2 u) w) w:=by
 have q:i<n:=by rw[<-f];exact(gS m).1
 obtain⟨g,o,rfl,j⟩:=iM r oo;refine gO (s:=s) v b oo oo ?_;rw[oQ,oK];refine ldA (n:=s) (vs:=enc x) y p hi j.blk (j.elem l f m) (l x) (h _)
def II{p B n:Nat}{v:oF}{cs:oE}(h:w.ownsRow B E s v n xs)(b:Go.Proofs.YtgohpbmmcgenpaaGreatDoor.blk w p t cs)(j:t≠E)(l:Oth p w S):S.ownsRow B E s v n xs :=
 dl h λk a=>l.other k (by
  rintro rfl;rcases h.2 with⟨c,_⟩|⟨g,e,f,c,_,d,_⟩
  .rw[c]at a;cases a
  .have i:g=k:=by rw[c]at a;simpa[Value.ownBlock]using a
   rw[i]at d;unfold Go.Proofs.YtgohpbmmcgenpaaGreatDoor.blk at b;rw[d]at b;simp only[qD,Obj.cells.injEq]at b;exact j b.2.1.symm)
def Pq{B n:Nat}{v v2:oF}(h:w.ownsRow B E s v n xs)(x:w.ownsRow B2 t b v2 c ys)(y:E≠t)(z:w.grownBy S v2.ownBlock):S.ownsRow B E s v n xs:=by
 refine dl h λk e=>z.block k (jS h k e).2 (λf=>?_);rcases h.2 with⟨i,_⟩|⟨g,o,p,i,_,m,_⟩
 .rw[i]at e;cases e
 .rcases x.2 with⟨d,_⟩|⟨u,j,l,d,_,a,_⟩
  .rw[d]at f;cases f
  .have q:g=k:=by rw[i]at e;simpa[Value.ownBlock]using e
   have r:u=k:=by rw[d]at f;simpa[Value.ownBlock]using f.symm
   rw[q]at m;rw[r,m]at a;simp only[qD,Obj.cells.injEq]at a;exact y a.2.1
def yy{p B n:Nat}{v:oF}{cs:oE}(b:Go.Proofs.YtgohpbmmcgenpaaGreatDoor.blk w p t cs)(h:w.ownsRow B E s v n xs)(j:t≠E)(k:w.grownBy S v.ownBlock):Go.Proofs.YtgohpbmmcgenpaaGreatDoor.blk S p t cs:=by
 unfold Go.Proofs.YtgohpbmmcgenpaaGreatDoor.blk at b |-;rw[k.block p (Go.Proofs.YtgohpbmmcgenpaaGreatDoor.blk.lt b) (λa=>?_)]
 .exact b
 .rcases h.2 with⟨d,_⟩|⟨g,e,f,d,_,c,_⟩
  .rw[d]at a;cases a
  .have i:g=p:=by rw[d]at a;simpa[Value.ownBlock]using a.symm
   rw[i,b]at c;simp only[qD,Obj.cells.injEq]at c;exact j c.2.1
def zc{cs:Array Bool}{base:Nat}{i:TypeInfo}{z:oF}{L:List α}{x:α}{n:Nat}(F:P.underlying t=some (.slice e))(hi:P.info? e=some i)(H:i.zero=some z)(j:i.size=s)(p:i.bytes=b)(r:z.cells.size=s)(q:0<s)(D:∀x,(enc x).length=s)(f:w.ownsRow base e s (.slice av n c) n (L.flatMap enc))(G:Go.Proofs.YtgohpbmmcgenpaaGreatDoor.blk w g e (enc x))(y:∀u∈enc x,u.oneCell'=true)(d:(n+1)*b<=140737488355328)(o:n+1<=9223372036854775807)(a:base<=w.heap.size)(h:∀l c' S,S.ownsRow base e s (.slice l (n+1) c') (n+1) ((L++[x]).flatMap enc)->w.grownBy S (Value.slice av n c).ownBlock->Below base w S->((Value.slice l (n+1) c').ownBlock=(Value.slice av n c).ownBlock\/(Value.slice l (n+1) c').ownBlock=some w.heap.size)->K (.slice l (n+1) c') S):blt P .append #[t,t] E cs #[.slice av n c,.slice (some ⟨g,0,none⟩) 1 c2] K w:=by refine zbL (m:=1) (ys:=enc x) F hi H j p r q f G (by rw[D];omega) y d o a λl c' S A v B=>?_;refine h l c' S ?_ v (cS v a (λk C=>(jS f k C).1)) B;rw[List.flatMap_append];simpa using A
def zcN{K:KV}{T:TypeId}{N t:Nat}{cs:oE}{v:oF}{d:TypeDesc}(l:P.underlying T=some d)(f:d.isRow=true)(hi:(P.info? T).map (·.size)=some N)(k:Go.Proofs.YtgohpbmmcgenpaaGreatDoor.blk w t T xs)(o:xs.length=N)(b:cs.length=N)(c:∀v∈cs,v.oneCell'=true)(h:∀S,Oth t w S->K (.tuple #[.agg cs.toArray,v]) S):sto P T (pA t 0) (.agg cs.toArray) (λ_t w=>bA P [(some T,pA t 0),(none,v)] K w) w:=by
 refine fY (n:=N) (vs:=cs) hi b k oo c λw1 a m=>?_;have a:Go.Proofs.YtgohpbmmcgenpaaGreatDoor.blk w1 t T cs:=by
  rw[qX,oV,oS oo,oW]at a;exact a
 have i:=run_loadVar_mid (P:=P) w1 t 0 T cs _ (λj v g=>by rw[a.cell,oK];exact g) l f (by rw[b];exact hi);have e:(qk [(some T,pA t 0),(none,v)]).run P w1=.ok (.tuple #[.agg cs.toArray,v]) w1:=by
  simp[qk,asAddr,jX,i]
 unfold bA;rw[e];exact⟨rfl,h w1 m⟩
end
end
def ndO(o:Oper):Bool:=match o.op with | .defer _=>false|_=>true
def BG:Code->Bool
 | .region _ ops _=>ops.toList.all ndO
 | .seq a b=>match BG a with|true=>BG b|false=>false
 | .cond _ a b=>match BG a with|true=>BG b|false=>false
 | .block _ c=>BG c
 | .loop c=>BG c
 | _=>true
section
variable  {Q:Exit->Act->oG->Prop}{l n:Nat}{ops:Array Oper}{ds:List Deferred}
def zic{o:Oper}(h:ndO o=true):∀c,o.op≠.defer c:=by intro c a;unfold ndO at h;rw[a]at h;cases h
def zfr{o:Oper}{a:Act}{K:Act->oG->Prop}(i:ndO o=true)(h:o.wp P a w K Q):o.wpIn (Fence.wide.inRound l) n P a w K Q:=by
 unfold Oper.wp at h;unfold Oper.wpIn;refine⟨λ_ _=>trivial,?_⟩;rw[Oper.semAt_eq _ _ _ (zic i)];generalize (execOp a.eval o).run P w=r at *;cases r with
 | ok x S =>
  cases x<;>simp only[Oper.upon]at h<;>simp only[Oper.uponIn]
  case value=>exact h
  case skip=>exact h
  case enter f args=>exact⟨λb=>(by cases b),CallsIn.inRound l (callsIn_wide.2 h)⟩
  case defer=>exact h
  case row row args =>
   refine⟨λb=>(by cases b),?_⟩;intro c d _;obtain⟨v,j,e,g⟩:=h c d;exact⟨v,j,e,stepsIn_wide.2 g⟩
 | halt x S => cases x<;>simp only[Oper.upon]at h<;>simp only[Oper.uponIn]<;>exact h
def zio(f : ¬LetsOut Q)(c:ops.toList.all ndO=true){a:Act}{K:Act->oG->Prop}(h:wpOp P ops Q i K a w):wpOpIn (Fence.wide.inRound l) n P ops Q i K a w:=by
 unfold wpOp at h;unfold wpOpIn;split at h
 .rename_i b;rw[b];exact h
 .rename_i o b;rw[b];have g:o∈ops.toList:=by have:=Array.mem_of_getElem? b;simpa using this
  have d:=jR.1 c o g;dsimp only;split at h
  .rename_i e;rw[oJ e];rcases h with h|h
   .exact zfr d h
   .exact qI h.2 f
  .rename_i e;rw[oI e];exact⟨λ_ _=>trivial,h⟩
def zhf(f : ¬LetsOut Q)(d:ops.toList.all ndO=true){e:Region.Mode}:∀(c:Nat) (b:Array Bool) (a:Act) (w:oG),wpAny P e ops Q c b a w->wpAnyIn (Fence.wide.inRound l) n P e ops Q c b a w:=by
 intro c
 induction c with
 | zero=>intro b a w h;exact h
 | succ c ih =>
  intro b a w h;exact⟨h.1,λi g=>wpOpIn_mono (λa w h=>ih _ _ _ h) (zio f d (h.2 i g))⟩
def zge(d : ¬LetsOut Q):∀(L:List Oper) (a:Act) (w:oG),L.all ndO=true->wpList P ops Q L a w->wpListIn (Fence.wide.inRound l) n P ops Q L a w:=by
 intro L
 induction L with
 | nil=>intro a w _ h;exact h
 | cons o L ih =>
  intro a w b h;rw[List.all_cons,oM]at b;unfold wpList at h;unfold wpListIn;split at h
  .rename_i c;rw[oJ c];rcases h with h|h
   .exact Oper.wpIn_mono (λa w h=>ih a w b.2 h) (zfr b.1 h)
   .exact qI h.2 d
  .rename_i c;rw[oI c];exact⟨λ_ _=>trivial,ih _ _ b.2 h⟩
def zbG{N:KE}{X:Nat->KE}{R:KE}:¬LetsOut (QQ ds N X R):=λ⟨_,_,h⟩=>h
def zbn{id:Nat}{N:KE}{X:Nat->KE}{R:KE}{e:Env}(h:aj P (.region id ops true) N X R e w):P.follows .mixedOrders=true/\wpAny P .any ops (QQ ds N X R) ops.size (Array.replicate ops.size false) ⟨e.toArray,ds⟩ w.drew:=by
 simp only[aj]at h;cases m:(P.follows .mixedOrders&&Qi P ops)
 case true =>
  rw[m]at h;obtain⟨S,L,h⟩:=h;simp only[oM]at m;exact⟨m.1,Hc _ _ _ _ _ (TX (λe w J=>⟨e,rfl,J⟩) (λc a w O=>O) (TY m.2) _ _ _ _ _ _ L (Re ops _) h)⟩
 case false =>
 rw[m]at h;dsimp only at h;cases p:(P.follows .mixedOrders&&Nat.ble (kw ops) ops.size)
 case false=>rw[p]at h;exact h.elim
 case true =>
  rw[p]at h;have h:Ed _ _ _ _ _ _:=h;simp only[oM]at p;refine⟨p.1,?_⟩;obtain⟨A,B⟩:=wV (ops.toList.take (kw ops));obtain⟨G,I⟩:=wV (ops.toList.drop (kw ops));have i:∀e,iK P ops.toList (grp (ops.toList.drop (kw ops))) N e w.drew->wpList P ops.toList.toArray (QQ ds N X R) (ops.toList.drop (kw ops)) ⟨e.toArray,ds⟩ w.drew:=by
   intro e o
   have:=Gt (P:=P) (ops:=ops.toList) (Q:=QQ ds N X R) (K:=N) (λe w h=>⟨e,rfl,h⟩) (grp (ops.toList.drop (kw ops))) e w.drew I o
   rwa[G]at this
  rcases TE ops p.2 with⟨l,y⟩|⟨l,y⟩
  .have f:=GZ (P:=P) (ops:=ops.toList) (Q:=λa=>QQ ds N X R .normal a w.drew) (w:=w.drew) (λe o=>by
    have:=i e o
    rw[y,oS oB]at this;exact this) _ e B h
   rw[A,y,tL oB]at f;simp only[Region.lexB,oM]at l;have f:wpStill P ops w.drew (λa=>QQ ds N X R .normal a w.drew) ops.toList ⟨e.toArray,ds⟩:=by simpa using f
   refine wpAny_of_still (Q:=λa=>QQ ds N X R .normal a w.drew) (λ_ h=>h) _ _ _ ?_
   have:=wpAnyS_lex (md:=.any) l.1 ops.toList 0 (Array.replicate ops.size false) ⟨e.toArray,ds⟩ oB (by simpa using l.2) f
   simpa using this
  .have f:=GZ (P:=P) (ops:=ops.toList) (Q:=λa=>wpList P ops.toList.toArray (QQ ds N X R) (ops.toList.drop (kw ops)) a w.drew) (w:=w.drew) (λe o=>i e o) _ e B h;rw[A]at f;simp only[Region.lexTailB,oM,oP]at l;obtain⟨⟨⟨⟨s,r⟩,z⟩,M⟩,q⟩:=l;generalize V:kw ops=k at *;have x:k<ops.toList.length:=by simpa using r
   have b:(ops.toList.take k).length=k:=by simp only[qA];omega
   have n:(ops.toList.drop k).length=ops.size-k:=by simp
   have U:ops.toList.toArray=ops:=by simp
   rw[U]at f;have u:HeadInv .any ops k (Array.replicate ops.size false) :=
    ⟨by simp,λj W _ E=>(by rw[getD_replicate_false]at E;cases E),λt _ T=>getD_in (by simpa using T) (getD_replicate_false _ _)⟩
   have H:=wpAnyL_lex (md:=.any) (g:=ops.size-k) s z M r (ops.toList.take k) 0 _ ⟨e.toArray,ds⟩ (λj D=>by
    have v:j<k:=by rw[b]at D;exact D
    simp[v]) (by simpa using b) u (by rw[b];exact q) f
   have:=wpAny_of_head (Q':=QQ ds N X R) (g:=ops.size-k) (λd F C=>by
    have:=wpAny_of_seq (md:=.any) (Q':=QQ ds N X R) (ops.toList.drop k) k d F w.drew (λj=>by simp[jM]) (by rw[n];exact C.1) C.2
    rwa[n]at this) _ _ _ H
   rw[b,show k+(ops.size-k)=ops.size by simp at x;omega]at this;exact this
def Nr:∀(c:Code) (N:KE) (X:Nat->KE) (R:KE) (e:Env) (w:oG),BG c=true->aj P c N X R e w->c.wpIn (Fence.wide.inRound l) n P (QQ ds N X R) ⟨e.toArray,ds⟩ w:=by
 intro c
 induction c with
 | skip=>intro N X R e w _ h;exact wpIn_skip ⟨e,rfl,h⟩
 | region id ops draw =>
  intro N X R e w d h;cases draw with
  | true =>
   obtain⟨g,j⟩:=zbn (ds:=ds) h;exact wpIn_region_any g (zhf zbG d _ _ _ _ j)
  | false =>
   refine wpIn_region_list (zge zbG _ _ _ d ?_);obtain⟨g,j⟩:=wV ops.toList
   have:=Gt (P:=P) (ops:=ops.toList) (Q:=QQ ds N X R) (K:=N) (λe w h=>⟨e,rfl,h⟩) (grp ops.toList) e w j h
   rw[g]at this;simpa using this
 | seq a b iha ihb =>
  intro N X R e w d h;obtain⟨p,q⟩:BG a=true/\BG b=true:=by
   unfold BG at d;split at d
   .rename_i o;exact⟨o,d⟩
   .cases d
  refine wpIn_seq (wpIn_mono (iha _ _ _ _ _ p h) ?_);intro x a w f;cases x with
  | normal=>obtain⟨e,rfl,h⟩:=f;exact ihb _ _ _ _ _ q h
  | _=>exact f
 | cond c x y ihx ihy =>
  intro N X R e w d h;obtain⟨p,q⟩:BG x=true/\BG y=true:=by
   unfold BG at d;split at d
   .rename_i o;exact⟨o,d⟩
   .cases d
  obtain⟨b,k,g,j⟩:=h;cases b with
  | true=>exact wpIn_cond (t:=true) (by rw[uX];exact k) (ihx _ _ _ _ _ p (g rfl))
  | false=>exact wpIn_cond (t:=false) (by rw[uX];exact k) (ihy _ _ _ _ _ q (j rfl))
 | block id c ih =>
  intro N X R e w d h;refine wpIn_block (wpIn_mono (ih _ _ _ _ _ d h) ?_);intro x a w f;cases x with
  | exit i =>
   obtain⟨e,rfl,h⟩:=f;simp only[Exit.inBlock];by_cases m:i=id
   .rw[oJ m]
    have:Nat.beq i id=true:=by rw[m];exact Nat.beq_refl id
    rw[this]at h;exact⟨e,rfl,h⟩
   .rw[oI m]
    have:Nat.beq i id=false:=by
     cases k:Nat.beq i id with
     | false=>rfl
     | true=>exact qI (Nat.eq_of_beq_eq_true k) m
    rw[this]at h;exact⟨e,rfl,h⟩
  | _=>exact f
 | loop c ih =>
  intro N X R e w d h;obtain⟨I,B,u,z⟩:=h;refine wpIn_loop (λa w=>∃e:Env,a=⟨e.toArray,ds⟩/\I e w) (λa w=>B a.tmps.toList w) ⟨e,rfl,u⟩ ?_;rintro _ A ⟨r,rfl,v⟩;refine wpIn_mono (ih _ _ _ _ _ d (z r A v)) ?_;intro x a w f;cases x with
  | normal=>obtain⟨s,rfl,g,j⟩:=f;exact⟨⟨s,rfl,g⟩,by simpa using j⟩
  | _=>exact f
 | exit i=>intro N X R e w _ h;exact wpIn_exit ⟨e,rfl,h⟩
 | ret=>intro N X R e w _ h;exact wpIn_ret ⟨e,rfl,h⟩
 | _=>intro N X R e w _ h;exact h.elim
end
abbrev YB:=oE->KV->oG->Prop
section
variable (P:Program)(Y:YB)(l:Nat)
def Tt(b:oF)(a:Array oF)(K:KV)(w:oG):Prop:=(b=.func (.yield l) #[] #[]/\Y a.toList K w)\/bS P b a K w
def yOp(r:Operand->oF)(o:Oper)(K:KV)(w:oG):Prop :=
 match o.op with
 | .call c =>
  match c.callee with
  | .value (.tmp t)=>Tt P Y l (r (.tmp t)) (c.args.toList.map r).toArray K w
  | _=>cOp P r o K w
 | _=>cOp P r o K w
def CP(ops:List Oper):List Oper->KE->KE
 | [],K=>K
 | o::r,K=>λe w =>
  match o.guard with
  | none=>yOp P Y l (ev e) o (λv a => CP ops r K (pt e o.dst v) a) w
  | some (j,want)=>xG (ua ops e j) want (λk w=>yOp P Y l (ev e) o k w) (λv a => CP ops r K (pt e o.dst v) a) w
def xi:Code->KE->(Nat->KE)->KE->KE
 | .skip,N,_,_=>N
 | .region _ ops false,N,_,_=>CP P Y l ops.toList ops.toList N
 | .region i ops true,N,X,R=>aj P (.region i ops true) N X R
 | .seq a b,N,X,R=>xi a (xi b N X R) X R
 | .cond c x y,N,X,R=>λe w=>cond (ev e c) (xi x N X R e w) (xi y N X R e w)
 | .block id c,N,X,R=>xi c N (λi=>@Bool.rec (λ_=>KE) (X i) N (Nat.beq i id)) R
 | .loop c,_,X,R=>zfm λN' => xi c N' X R
 | .exit i,_,X,_=>X i
 | .ret,_,_,R=>R
 | _,_,_,_=>λ_ _=>False
end
structure YOK(P:Program) (l:Nat) (Y:YB):Prop where
 yld:∀{vs K w},Y vs K w->∃r:Loop,w.heap[l]? = some (.loop r)/\r.state=.ready/\vs.length=r.params.size /\
  RoundIn Fence.wide 0 P l r.fn ((r.params.zip vs.toArray).foldl (λt (p,a)=>t.setIfInBounds p a) r.tmps) r.assign r.body w (λx a => ∃v,x=.returned v/\K v a)
section sound
variable  {Y:YB}{l:Nat}
def zeC{n:Nat}{o:Oper}{a:Act}{K:Act->oG->Prop}{Q:Exit->Act->oG->Prop}(h:o.wp P a w K Q):o.wpIn Fence.wide n P a w K Q:=by
 unfold Oper.wp at h;unfold Oper.wpIn;refine⟨λ_ _=>trivial,?_⟩;rw[show Fence.wide.round=none from rfl,Oper.semAt_none];generalize (execOp a.eval o).run P w=r at *;cases r with
 | ok x S =>
  cases x<;>simp only[Oper.upon]at h<;>simp only[Oper.uponIn]
  case value=>exact h
  case skip=>exact h
  case enter f args=>exact⟨λb=>(by cases b),callsIn_wide.2 h⟩
  case defer=>exact h
  case row row args =>
   refine⟨λb=>(by cases b),?_⟩;intro c d _;obtain⟨v,i,e,g⟩:=h c d;exact⟨v,i,e,stepsIn_wide.2 g⟩
 | halt x S => cases x<;>simp only[Oper.upon]at h<;>simp only[Oper.uponIn]<;>exact h
def WM(L:YOK P l Y){o:Oper}{e:Env}{K:KV}{next:Act->oG->Prop}{Q:Exit->Act->oG->Prop}(h:yOp P Y l (ev e) o K w)(z:∀v w',K v w'->next ⟨(pt e o.dst v).toArray,[]⟩ w'):o.wpIn Fence.wide 1 P ⟨e.toArray,[]⟩ w next Q:=by
 have b:cOp P (ev e) o K w->o.wpIn Fence.wide 1 P ⟨e.toArray,[]⟩ w next Q:=λh=>zeC (Es h z)
 unfold yOp at h;split at h
 .rename_i c n;split at h
  .rename_i t s;rcases h with⟨M,R⟩|h
   .obtain⟨r,H,y,I,J⟩:=L.yld R;have q:Act.eval ⟨e.toArray,[]⟩=ev e:=funext (uX e []);have d:(execOp (Act.eval ⟨e.toArray,[]⟩) o).run P w=.ok (.round l r.fn ((r.params.zip (c.args.toList.map (ev e)).toArray).foldl (λt (p,a)=>t.setIfInBounds p a) r.tmps) r.assign r.body) w:=by
     obtain⟨F,U,W,S,k,m⟩:=o;simp only at n;subst n;obtain⟨E,j,D⟩:=c;simp only at s;subst s;rw[q];simp only[execOp,resolve,Deferred.ofValue,invoke,jX,jW,jU,M];have G : #[]++Array.map (ev e) j=(j.toList.map (ev e)).toArray:=by apply Array.ext';simp
     rw[G];obtain⟨V,A,T,B,i,f,u,g⟩:=r;simp only at y;subst y;exact run_yield (P:=P) (w:=w) (l:=l) (args:=(j.toList.map (ev e)).toArray) H (by simpa using I)
    unfold Oper.wpIn;refine⟨λ_ _=>trivial,?_⟩;rw[show Fence.wide.round=none from rfl,Oper.semAt_none,d,Oper.uponIn_round];refine⟨λN=>(by cases N),J.mono ?_⟩;rintro x C ⟨v,rfl,O⟩;show next (Act.put ⟨e.toArray,[]⟩ o.dst v) C
    rw[zG];exact z v C O
   .refine b ?_;unfold cOp;rw[n];dsimp only;rw[s];exact h
  .exact b h
 .exact b h
def Rp(f:YOK P l Y){ops:Array Oper}{Q:Exit->Act->oG->Prop}:∀(L:List Oper) {K:KE} {e:Env} {w:oG},CP P Y l ops.toList L K e w->(∀e w,K e w->Q .normal ⟨e.toArray,[]⟩ w)->wpListIn Fence.wide 1 P ops Q L ⟨e.toArray,[]⟩ w
 | [],K,e,w,h,hK=>hK e w h
 | o::L,K,e,w,h,hK=>by
  refine wpListIn_step λKK d=>?_;dsimp only;unfold CP at h;have i:∀v S,CP P Y l ops.toList L K (pt e o.dst v) S->KK ⟨(pt e o.dst v).toArray,[]⟩ S:=λv S h=>d _ _ (Rp f L h hK);split at h
  .rename_i g;have c:Region.wanted o (yielded ops e.toArray)=true:=by simp[Region.wanted,g]
   rw[c,oJ rfl];exact WM f h i
  .rename_i j a g;have c:=yY ops.toList e o j a g;rw[show ops.toList.toArray=ops from rfl]at c;rw[c];by_cases b:asB (ua ops.toList e j)=some a
   .rw[show (asB (ua ops.toList e j)==some a)=true by simp[b],oJ rfl];exact WM f (h.1 b) i
   .rw[show (asB (ua ops.toList e j)==some a)=false by simp[b],oI oB];refine⟨λ_ _=>trivial,?_⟩;rw[zG];exact i undef w (h.2 b)
def ZK(s:YOK P l Y):∀(c:Code) (N:KE) (X:Nat->KE) (R:KE) (e:Env) (w:oG),xi P Y l c N X R e w->c.wp P (QQ [] N X R) ⟨e.toArray,[]⟩ w:=by
 intro c
 induction c with
 | skip=>intro N X R e w h;exact wp_skip ⟨e,rfl,h⟩
 | region id ops draw =>
  intro N X R e w h;cases draw with
  | true=>exact El _ _ _ _ _ _ h
  | false=>exact(wpIn_wide (n:=1)).1 (wpIn_region_list (Rp s ops.toList h λe w r=>⟨e,rfl,r⟩))
 | seq a b iha ihb =>
  intro N X R e w h;refine wp_seq (wp_mono (iha _ _ _ _ _ h) ?_);intro x a w d;cases x with
  | normal=>obtain⟨e,rfl,h⟩:=d;exact ihb _ _ _ _ _ h
  | _=>exact d
 | cond c x y ihx ihy =>
  intro N X R e w h;obtain⟨b,f,j,k⟩:=h;cases b with
  | true=>exact wp_cond (t:=true) (by rw[uX];exact f) (ihx _ _ _ _ _ (j rfl))
  | false=>exact wp_cond (t:=false) (by rw[uX];exact f) (ihy _ _ _ _ _ (k rfl))
 | block id c ih =>
  intro N X R e w h;refine wp_block (wp_mono (ih _ _ _ _ _ h) ?_);intro x a w d;cases x with
  | exit i =>
   obtain⟨e,rfl,h⟩:=d;simp only[Exit.inBlock];by_cases g:i=id
   .rw[oJ g]
    have:Nat.beq i id=true:=by rw[g];exact Nat.beq_refl id
    rw[this]at h;exact⟨e,rfl,h⟩
   .rw[oI g]
    have:Nat.beq i id=false:=by
     cases f:Nat.beq i id with
     | false=>rfl
     | true=>exact qI (Nat.eq_of_beq_eq_true f) g
    rw[this]at h;exact⟨e,rfl,h⟩
  | _=>exact d
 | loop c ih =>
  intro N X R e w h;obtain⟨I,z,p,u⟩:=h;refine wp_loop (λa w=>∃e:Env,a=⟨e.toArray,[]⟩/\I e w) (λa w=>z a.tmps.toList w) ⟨e,rfl,p⟩ ?_;rintro _ v ⟨m,rfl,q⟩;refine wp_mono (ih _ _ _ _ _ (u m v q)) ?_;intro x a w d;cases x with
  | normal=>obtain⟨o,rfl,j,k⟩:=d;exact⟨⟨o,rfl,j⟩,by simpa using k⟩
  | _=>exact d
 | exit i=>intro N X R e w h;exact wp_exit ⟨e,rfl,h⟩
 | ret=>intro N X R e w h;exact wp_ret ⟨e,rfl,h⟩
 | _=>intro N X R e w h;exact h.elim
def Fy(P:Program)(Y:YB)(l:Nat)(f:FuncId)(a:oE)(w:oG)(K:KV):Prop :=
 Kr P f/\∃(b:Func) (c:Code),P.funcs[f]? = some b/\b.body=some c /\
  xi P Y l c (CH P b.results.toList K) (λ_ _ _=>False) (CH P b.results.toList K) (a++List.replicate (b.ntmps-a.length) undef) w
def zdh{f:FuncId}{b:Func}{a:oE}{K:KV}(i:Kr P f)(g:P.funcs[f]? = some b)(e:b.body.isSome=true)(h:xi P Y l (cd b []) (CH P b.results.toList K) (λ_ _ _=>False) (CH P b.results.toList K) (a++List.replicate (b.ntmps-a.length) undef) w):Fy P Y l f a w K:=by
 cases d:b.body with
 | none=>simp[d]at e
 | some c =>
  have:cd b []=c:=by simp[cd,d,sub]
  rw[this]at h;exact⟨i,b,c,g,d,h⟩
def Zq(n:YOK P l Y){f:FuncId}{b:oE}{K:KV}(h:Fy P Y l f b w K):Kr P f/\Calls P f b.toArray w (λx S => ∃v,x=.returned v/\K v S):=by
 obtain⟨q,k,c,p,o,h⟩:=h;refine⟨q,calls_of_wp p o ?_⟩;have m:b.toArray++Array.replicate (k.ntmps-b.toArray.size) undef=(b++List.replicate (k.ntmps-b.length) undef).toArray:=by simp
 rw[m];refine wp_mono (ZK n c _ _ _ _ _ h) ?_;intro x a w d;cases x with
 | normal=>obtain⟨e,rfl,h⟩:=d;obtain⟨v,g,j⟩:=zH h;exact⟨rfl,v,g,v,rfl,j⟩
 | ret=>obtain⟨e,rfl,h⟩:=d;obtain⟨v,g,j⟩:=zH h;exact⟨rfl,v,g,v,rfl,j⟩
 | exit i=>obtain⟨_,_,h⟩:=d;exact h.elim
 | _=>exact d.elim
abbrev Ei(Y:YB):Prop:=∀(vs:oE) (K K':KV) (w:oG),(∀v w',K v w'->K' v w')->Y vs K w->Y vs K' w
def zaO{a:Array oF}{K:KV}(g:Ei Y)(e:∀v S,K v S->V0 v S)(h:Tt P Y l H a K w):Tt P Y l H a V0 w:=by
 rcases h with⟨c,d⟩|⟨f,first,b,c,d⟩
 .exact .inl ⟨c,g _ _ _ _ e d⟩
 .exact .inr ⟨f,first,b,c,Oq e d⟩
def Zr(b:Ei Y){r:Operand->oF}{o:Oper}{K:KV}(a:∀v S,K v S->V0 v S)(h:yOp P Y l r o K w):yOp P Y l r o V0 w:=by
 unfold yOp at h |-;split at h
 .split at h
  .exact zaO b a h
  .exact Hw a h
 .exact Hw a h
def Ro(c:Ei Y){ops:List Oper}:∀(L:List Oper) {K K':KE} {e:Env} {w:oG},CP P Y l ops L K e w->(∀b S,agree (fi L) e b->K b S->K' b S)->CP P Y l ops L K' e w
 | [],K,K',e,w,h,hk=>hk e w (agree.refl _ _) h
 | o::L,K,K',e,w,h,hk=>by
  have j:∀v O,CP P Y l ops L K (pt e o.dst v) O->CP P Y l ops L K' (pt e o.dst v) O:=λv O h =>
   Ro c L h λb S m k=>hk b S (((Mc e o.dst v).trans m).mono λi a=>by
    unfold fi at *;rw[List.filterMap_cons];rcases oU.1 a with a|a
    .cases f:o.dst with
     | none=>rw[f]at a;cases a
     | some d=>rw[f]at a;simp at a;subst a;simp
    .cases f:o.dst with
     | none=>exact a
     | some d=>exact oH _ a) k
  unfold CP at h |-;split at h
  .exact Zr c j h
  .exact⟨λg=>Zr c j (h.1 g),λg=>j _ _ (h.2 g)⟩
def ZJ(E:Ei Y):∀(c:Code) {N N':KE} {X X':Nat->KE} {R R':KE} {e:Env} {w:oG},xi P Y l c N X R e w->(∀d S,agree (wr c) e d->N d S->N' d S) ->
  (∀i d S,agree (wr c) e d->X i d S->X' i d S)->(∀d S,agree (wr c) e d->R d S->R' d S)->xi P Y l c N' X' R' e w:=by
 intro c
 induction c with
 | skip=>intro N N' X X' R R' e w h j _ _;exact j e w (agree.refl _ _) h
 | region id ops draw =>
  intro N N' X X' R R' e w h j m k;cases draw with
  | true=>exact Ek _ h j m k
  | false=>exact Ro E _ h j
 | seq a b iha ihb =>
  intro N N' X X' R R' e w h j m k;exact iha h (λd S f p=>ihb p (λq t r s=>j q t (f.trans r) s) (λi q t r s=>m i q t (f.trans r) s) (λq t r s=>k q t (f.trans r) s))
   (λi d S f=>m i d S (f.mono λi g=>List.mem_append_left _ g)) (λd S f=>k d S (f.mono λi g=>List.mem_append_left _ g))
 | cond c x y ihx ihy =>
  intro N N' X X' R R' e w h j m k;obtain⟨b,p,z,A⟩:=h;refine⟨b,p,λv=>?_,λv=>?_⟩
  .exact ihx (z v) (λd S f=>j d S (f.mono λi g=>List.mem_append_left _ g)) (λi d S f=>m i d S (f.mono λi g=>List.mem_append_left _ g)) (λd S f=>k d S (f.mono λi g=>List.mem_append_left _ g))
  .exact ihy (A v) (λd S f=>j d S (f.mono λi g=>List.mem_append_right _ g)) (λi d S f=>m i d S (f.mono λi g=>List.mem_append_right _ g)) (λd S f=>k d S (f.mono λi g=>List.mem_append_right _ g))
 | block id c ih =>
  intro N N' X X' R R' e w h j m k;refine ih h j (λi d S f n=>?_) k;cases p:Nat.beq i id with
  | true=>rw[p]at n;exact j d S f n
  | false=>rw[p]at n;exact m i d S f n
 | loop c ih =>
  intro N N' X X' R R' e w h j m k;obtain⟨I,G,C,F⟩:=h;refine⟨λu B => I u B/\agree (wr c) e u,G,⟨C,agree.refl _ _⟩,?_⟩;rintro u B ⟨D,o⟩
  refine ih (F u B D) (λd S f ⟨z,A⟩=>⟨⟨z,(o.trans f).mono λi g=>by simpa using g⟩,A⟩) (λi d S f n=>m i d S ((o.trans f).mono λi g=>show i∈wr c by simpa using g) n) (λd S f n=>k d S ((o.trans f).mono λi g=>show i∈wr c by simpa using g) n)
 | exit i=>intro N N' X X' R R' e w h _ m _;exact m i e w (agree.refl _ _) h
 | ret=>intro N N' X X' R R' e w h _ _ k;exact k e w (agree.refl _ _) h
 | _=>intro N N' X X' R R' e w h _ _ _;exact h.elim
def Ue(q:Ei Y)(c:Code)(ws:List Nat)(j:(wr c).all (ws.contains ·)=true)(I:KE)(k:Env->oG->Nat){N:KE}{X:Nat->KE}{R:KE}{e:Env}(m:I e w)(s:∀a S,I a S->xi P Y l c (λf O=>I f O/\k f O<k a S) X R (mix ws a 0 e) S):xi P Y l (.loop c) N X R e w:=by
 have d:∀i∈wr c,i∈ws:=λi g=>by simpa using jR.1 j i g
 refine⟨λa S => I a S/\agree ws e a,k,⟨m,agree.refl _ _⟩,?_⟩;rintro a S ⟨p,b⟩;have h:=s a S p;rw[WB b]at h;exact ZJ q c h (λf O r ⟨n,o⟩=>⟨⟨n,(b.trans (r.mono d)).mono (λi g=>by simpa using g)⟩,o⟩) (λ_ _ _ _ h=>h) (λ_ _ _ h=>h)
def zbj:List (Tmp×oF)->Env->Env
 | [],e=>e
 | (p,v)::r,e=>zbj r (e.set p v)
def zau:∀(l:List (Tmp×oF)) (e:Env),l.foldl (λt p=>t.setIfInBounds p.1 p.2) e.toArray=(zbj l e).toArray
 | [],e=>rfl
 | (p,v)::l,e=>by
  rw[List.foldl_cons,show e.toArray.setIfInBounds p v=(e.set p v).toArray by simp];exact zau l _
def qa (fn:FuncId)(e:Env)(ps:Array Tmp)(a bd:Code)(D:Nat)(st:LoopState)(y:Option Code):Loop:={state:=st,pending:=y,fn,tmps:=e.toArray,params:=ps,assign:=a,body:=bd,defers:=D}
def stY(y:Option Code):LoopState:=if y.isNone then .ready else .done
def Xo(P:Program)(l D:Nat)(d:FuncId)(e:Env)(c:Array Tmp)(a b:Code):YB:=λg K w =>
 BG a=true/\BG b=true/\w.heap[l]? = some (.loop (qa d e c a b D .ready none))/\g.length=c.size /\
 aj P a (λj h=>h.heap[l]? = some (.loop (qa d e c a b D .ready none)) /\
  aj P b (λ_ f=>f.heap[l]? = some (.loop (qa d e c a b D .busy none))/\K (.bool true) (f.putObj l (.loop (qa d e c a b D .ready none))))
   (λi _ f=>f.heap[l]? = some (.loop (qa d e c a b D .busy none))/\K (.bool false) (f.putObj l (.loop (qa d e c a b D .done (some (.exit i))))))
   (λ_ f=>f.heap[l]? = some (.loop (qa d e c a b D .busy none))/\K (.bool false) (f.putObj l (.loop (qa d e c a b D .done (some .ret)))))
   j (h.putObj l (.loop (qa d e c a b D .busy none)))) (λ_ _ _=>False) (λ_ _=>False) (zbj (c.toList.zip g) e) w
theorem zdC {l:Nat}{e:Env}{ps:Array Tmp}{a bd:Code}:YOK P l (Xo P l D P0 e ps a bd) where
 yld:=by
  rintro vs K w ⟨na,nb,hl,hlen,h⟩;refine⟨_,hl,rfl,hlen,?_⟩;have etmp:(ps.zip vs.toArray).foldl (λtmps (t,a)=>tmps.setIfInBounds t a) e.toArray=(zbj (ps.toList.zip vs) e).toArray:=by
   rw[<-zau, <-Array.foldl_toList];simp
  show RoundIn Fence.wide 0 P l P0 ((ps.zip vs.toArray).foldl (λtmps (t,a)=>tmps.setIfInBounds t a) e.toArray) a bd w _;rw[etmp];refine roundIn_of_wpIn trivial <|wpIn_mono (Nr (ds:=[]) a _ _ _ _ _ na h) ?_;intro x a1 w1 hq;cases x with
  | normal =>
   obtain⟨e1,rfl,h1,hq⟩:=hq;refine⟨_,run_beginRound h1 rfl,?_⟩;refine wpIn_mono (Nr (ds:=[]) bd _ _ _ _ _ nb hq) ?_;intro x a1 w2 hq;cases x with
   | normal=>obtain⟨e2,rfl,h2,hk⟩:=hq;exact⟨_,_,run_endRound none h2,_,rfl,hk⟩
   | exit i=>obtain⟨e2,rfl,h2,hk⟩:=hq;exact⟨_,_,run_endRound (some (.exit i)) h2,_,rfl,hk⟩
   | ret=>obtain⟨e2,rfl,h2,hk⟩:=hq;exact⟨_,_,run_endRound (some .ret) h2,_,rfl,hk⟩
   | _=>exact hq.elim
  | exit i=>obtain⟨_,_,hq⟩:=hq;exact hq
  | ret=>obtain⟨_,_,hq⟩:=hq;exact hq
  | _=>exact hq
def rfS(P:Program)(c:Code)(N:Nat->KE)(X:Nat->Nat->KE)(R:Nat->KE)(e:Env)(w:oG):Prop :=
 match c with
 | .rangeFunc g ps a bd=>∃(h:FuncId) (d:oE),ev e g=.func (.func h) #[] d.toArray/\∀(b:FuncId) (W:oG),Below w.heap.size w W->W.heap.size=w.heap.size+2 ->
   W.heap[w.heap.size]? = some (.deferred (some []))->W.heap[w.heap.size+1]? = some (.loop (qa b e ps a bd w.heap.size .ready none)) ->
   Fy P (Xo P (w.heap.size+1) w.heap.size b e ps a bd) (w.heap.size+1) h (.func (.yield (w.heap.size+1)) #[] #[]::d) W λ_ f =>
    ∃y:Option Code,f.heap[w.heap.size+1]? = some (.loop (qa b e ps a bd w.heap.size (stY y) y)) /\
     (match y with
      | none=>N w.heap.size e (f.putObj (w.heap.size+1) (.loop (qa b e ps a bd w.heap.size .exhausted y)))
      | some (.exit i)=>X i w.heap.size e (f.putObj (w.heap.size+1) (.loop (qa b e ps a bd w.heap.size .exhausted y)))
      | some .ret=>R w.heap.size e (f.putObj (w.heap.size+1) (.loop (qa b e ps a bd w.heap.size .exhausted y)))
      | _=>False)
 | _=>False
def QM(N:Nat->KE)(X:Nat->Nat->KE)(R:Nat->KE):Exit->Act->oG->Prop
 | .normal,a,w=>∃(e:Env) (D:Nat),a=⟨e.toArray,[{target:=.collected D,args:=#[]}]⟩/\N D e w
 | .exit i,a,w=>∃(e:Env) (D:Nat),a=⟨e.toArray,[{target:=.collected D,args:=#[]}]⟩/\X i D e w
 | .ret,a,w=>∃(e:Env) (D:Nat),a=⟨e.toArray,[{target:=.collected D,args:=#[]}]⟩/\R D e w
 | _,_,_=>False
theorem zcQ {c:Code}{N:Nat->KE}{X:Nat->Nat->KE}{R:Nat->KE}{e:Env}(h:rfS P c N X R e w):c.wp P (QM N X R) ⟨e.toArray,[]⟩ w:=by
 unfold rfS at h;split at h
 .rename_i g ps a bd;obtain⟨gf,cap,hv,h⟩:=h;refine(wpIn_wide (n:=0)).1 (wpIn_rangeFunc ?_);intro C _;obtain⟨W1,j⟩:∃W1,(w.alloc (.deferred (some []))).alloc (.loop (qa C e ps a bd w.heap.size .ready none))=W1:=⟨_,rfl⟩
  have U:W1.heap[w.heap.size+1]? = some (.loop (qa C e ps a bd w.heap.size .ready none)):=by
   rw[<-j];have:=World.alloc_heap_new (w.alloc (.deferred (some []))) (.loop (qa C e ps a bd w.heap.size .ready none));rwa[World.size_alloc]at this
  have O:W1.heap[w.heap.size]? = some (.deferred (some [])):=by
   rw[<-j];exact(Below.heap_alloc _ _ _ oB).trans (World.alloc_heap_new w _)
  have I:Below w.heap.size w W1:=by
   rw[<-j];exact((Below.refl _ w).alloc oA _).alloc oB _
  have ad:W1.heap.size=w.heap.size+2:=by rw[<-j];simp
  obtain⟨ab,af⟩:=Zq zdC (h C W1 I ad O U);refine⟨w.heap.size+1,[{target:=.collected w.heap.size,args:=#[]}],W1, {target:=.fn (.func gf) cap.toArray,args:=#[.func (.yield (w.heap.size+1)) #[] #[]]},W1,gf,
   #[.func (.yield (w.heap.size+1)) #[] #[]]++cap.toArray,W1,?_,?_,λ_ _=>trivial,?_,(λh=>by cases h),?_⟩
  .rw[<-j];exact run_enterLoop_outer _ _ _ _ _
  .have aa:Act.eval ⟨e.toArray,[]⟩ g=.func (.func gf) #[] cap.toArray:=by rw[uX];exact hv
   simp only[resolve,aa];simp[go_sem]
  .simp[invoke,go_sem,PK ab]
  .refine callsIn_wide.2 ?_;have e1 : #[Value.func (.yield (w.heap.size+1)) #[] #[]]++cap.toArray=(Value.func (.yield (w.heap.size+1)) #[] #[]::cap).toArray:=by simp
   rw[e1];refine af.mono ?_;rintro x w' ⟨_,rfl,y,hl,J⟩;refine⟨_,_,run_endLoop hl (by unfold qa stY;cases y<;>simp),?_⟩;cases y with
   | none=>exact(show QM N X R .normal _ _ from⟨e,_,rfl,J⟩)
   | some c =>
    cases c with
    | exit i=>exact(show Code.wpIn Fence.wide 0 P (.exit i) (QM N X R) _ _ from wpIn_exit (show QM N X R (.exit i) _ _ from⟨e,_,rfl,J⟩))
    | ret=>exact(show Code.wpIn Fence.wide 0 P .ret (QM N X R) _ _ from wpIn_ret (show QM N X R .ret _ _ from⟨e,_,rfl,J⟩))
    | _=>exact J.elim
 .exact h.elim
def dM(D:Nat)(w:oG):Prop:=w.heap[D]? = some (.deferred (some []))
def Ce(P:Program)(a:List ResultVar)(K:KV)(D:Nat):KE:=λe w=>dM D w/\CH P a K e (w.putObj D (.deferred none))
def zck{a:Func}{K:KV}{e:Env}(h:Ce P a.results.toList K D e w):LeavesInM Fence.wide 0 P a e.toArray (λx S => ∃v,x=.returned v/\K v S) [{target:=.collected D,args:=#[]}] .returning w:=by refine⟨by simp,.inl ⟨D,_,rfl,run_takeDeferred h.1,?_⟩⟩;obtain⟨v,b,c⟩:=zH h.2;exact⟨v,b,v,rfl,c⟩
def zi4{a:Func}{K:KV}{e:Env}(h:CH P a.results.toList K e w):LeavesInM Fence.wide 0 P a e.toArray (λx S => ∃v,x=.returned v/\K v S) [] .returning w:=by obtain⟨v,b,c⟩:=zH h;exact⟨v,b,v,rfl,c⟩
def zhk:Code->Code
 | .rangeFunc _ _ _ b=>b
 | _=>.skip
def zhh:Code->Code
 | .rangeFunc _ _ a _=>a
 | _=>.skip
def Z7:Code->Option (Nat×Code)
 | .block id c=>match c with
  | .rangeFunc g ps a b=>some (id,.rangeFunc g ps a b)
  | _=>none
 | _=>none
def zcO{c:Code}{id:Nat}{r:Code}(h:Z7 c=some (id,r)):c=.block id r:=by
 unfold Z7 at h;split at h
 .split at h
  .cases h;rfl
  .cases h
 .cases h
def rfT:Code->Bool
 | .seq a b=>match rfT a with|true=>true|false=>rfT b
 | c=>(Z7 c).isSome
def cMr(P:Program)(F:Nat->KE)(R0:KE):Code->(Nat->KE)->KE
 | .seq a b,N=>match rfT a with
  | true=>cMr P F R0 a λD=>aj P b (N D) (λ_ _ _=>False) (F D)
  | false=>aj P a (cMr P F R0 b N) (λ_ _ _=>False) R0
 | c,N=>match Z7 c with
  | some (id,c)=>rfS P c N (λi D e w=>i=id/\N D e w) F
  | none=>λ_ _=>False
def QR(F:Nat->KE)(R0:KE)(N:Nat->KE):Exit->Act->oG->Prop
 | .normal,a,w=>∃(e:Env) (D:Nat),a=⟨e.toArray,[{target:=.collected D,args:=#[]}]⟩/\N D e w
 | .ret,a,w=>(∃(e:Env) (D:Nat),a=⟨e.toArray,[{target:=.collected D,args:=#[]}]⟩/\F D e w)\/∃e:Env,a=⟨e.toArray,[]⟩/\R0 e w
 | _,_,_=>False
def zbQ{F:Nat->KE}:∀(c:Code) {N:Nat->KE} {e:Env} {w:oG},cMr P F B1 c N e w->c.wp P (QR F B1 N) ⟨e.toArray,[]⟩ w:=by
 intro c
 induction c with
 | seq a b iha ihb =>
  intro N e w h;cases f:rfT a with
  | true =>
   simp only[cMr,f]at h;refine wp_seq (wp_mono (iha h) ?_);intro x a m d;cases x with
   | normal =>
    obtain⟨j,D,rfl,g⟩:=d;refine wp_mono (El (ds:=[{target:=.collected D,args:=#[]}]) b _ _ _ _ _ g) ?_;intro x a w d;cases x with
    | normal=>obtain⟨e,rfl,h⟩:=d;exact⟨e,D,rfl,h⟩
    | ret=>obtain⟨e,rfl,h⟩:=d;exact .inl ⟨e,D,rfl,h⟩
    | exit i=>obtain⟨_,_,h⟩:=d;exact h.elim
    | _=>exact d.elim
   | ret=>exact d
   | _=>exact d.elim
  | false =>
   simp only[cMr,f]at h;refine wp_seq (wp_mono (El (ds:=[]) a _ _ _ _ _ h) ?_);intro x a m d;cases x with
   | normal=>obtain⟨j,rfl,g⟩:=d;exact ihb g
   | exit i=>obtain⟨_,_,d⟩:=d;exact d.elim
   | ret=>obtain⟨j,rfl,g⟩:=d;exact .inr ⟨j,rfl,g⟩
   | _=>exact d.elim
 | block id c _ =>
  intro N e w h;cases f:Z7 (.block id c)with
  | some p =>
   obtain⟨id,r⟩:=p;simp only[cMr,f]at h;rw[zcO f];refine wp_block (wp_mono (zcQ h) ?_);intro x a n d;cases x with
   | normal=>obtain⟨e,D,rfl,h⟩:=d;exact⟨e,D,rfl,h⟩
   | ret=>obtain⟨e,D,rfl,h⟩:=d;exact .inl ⟨e,D,rfl,h⟩
   | exit i =>
    obtain⟨e,D,rfl,l,k⟩:=d;rw[l];simp only[Exit.inBlock,if_true];exact⟨e,D,rfl,k⟩
   | _=>exact d.elim
  | none =>
   simp only[cMr,f]at h
 | _=>intro N e w h;exact h.elim
def zc2{f:FuncId}{d:Func}{b:oE}{K:KV}(l:P.funcs[f]? = some d)(k:d.body.isSome=true)(h:cMr P (Ce P d.results.toList K) (CH P d.results.toList K) (cd d []) (Ce P d.results.toList K) (b++List.replicate (d.ntmps-b.length) undef) w):Gives P f b.toArray w K:=by
 cases g:d.body with
 | none=>simp[g]at k
 | some c =>
  have:cd d []=c:=by simp[cd,g,sub]
  rw[this]at h;refine callsIn_wide.1 (callsIn_of_wp_marks (n:=0) l g trivial ?_);have j:b.toArray++Array.replicate (d.ntmps-b.toArray.size) undef=(b++List.replicate (d.ntmps-b.length) undef).toArray:=by simp
  rw[j];refine wpIn_wide.2 (wp_mono (zbQ c h) ?_);intro x a m i;cases x with
  | normal=>obtain⟨e,D,rfl,h⟩:=i;exact zck h
  | ret =>
   rcases i with⟨e,D,rfl,h⟩|⟨e,rfl,h⟩
   .exact zck h
   .exact zi4 h
  | _=>exact i.elim
def zcP{c:Code}{g:Operand}{ps:Array Tmp}{a bd:Code}{gf:FuncId}{cap:oE}{N:Nat->KE}{X:Nat->Nat->KE}{R:Nat->KE}{e:Env}(d:c=.rangeFunc g ps a bd)(f:ev e g=.func (.func gf) #[] cap.toArray)(h:∀(b:FuncId) (W:oG),Below w.heap.size w W->W.heap.size=w.heap.size+2 ->
   W.heap[w.heap.size]? = some (.deferred (some []))->W.heap[w.heap.size+1]? = some (.loop (qa b e ps a bd w.heap.size .ready none)) ->
   Fy P (Xo P (w.heap.size+1) w.heap.size b e ps a bd) (w.heap.size+1) gf (.func (.yield (w.heap.size+1)) #[] #[]::cap) W λ_ S =>
    ∃y:Option Code,S.heap[w.heap.size+1]? = some (.loop (qa b e ps a bd w.heap.size (stY y) y)) /\
     (match y with
      | none=>N w.heap.size e (S.putObj (w.heap.size+1) (.loop (qa b e ps a bd w.heap.size .exhausted y)))
      | some (.exit i)=>X i w.heap.size e (S.putObj (w.heap.size+1) (.loop (qa b e ps a bd w.heap.size .exhausted y)))
      | some .ret=>R w.heap.size e (S.putObj (w.heap.size+1) (.loop (qa b e ps a bd w.heap.size .exhausted y)))
      | _=>False)):rfS P c N X R e w:=by subst d;exact⟨gf,cap,f,h⟩
end sound
noncomputable abbrev Q :Program:=Tryz.prog
abbrev ci(x:Int):oF:=.int .i64 x
abbrev cu(x:Int):oF:=.int .u64 x
abbrev cb(x:Int):oF:=.int .u8 x
abbrev cT:oF:=.bool true
abbrev cF:oF:=.bool false
abbrev cN:oF:=.slice none 0 0
abbrev rk(f:Func)(K:KV):KE:=CH Q f.results.toList K
abbrev xf:Nat->KE:=λ_ _ _=>False
abbrev xx(X:Nat->KE)(N:KE)(k:Nat):Nat->KE:=λi=>@Bool.rec (λ_=>KE) (X i) N (Nat.beq i k)
def zM(f d:oD):List Nat->oD
 | [],i=>f i
 | k::l,i=>match Nat.beq k i with|true=>d i|false=>zM f d l i
def zu(_:Nat):oF:=undef
def zT(f:oD):Nat->Nat->oE->oE
 | _,0,l=>l
 | a,n+1,l=>f a::zT f (a+1) n l
def zr:List (Nat×Nat)->List Nat
 | []=>[]
 | p::l=>List.range' p.1 p.2++zr l
def zV(f:oD):Nat->oE->oD
 | _,[],i=>f i
 | a,v::l,i=>match Nat.beq a i with|true=>v|false=>zV f (a+1) l i
abbrev uu:oF:=undef
abbrev hF(S:oG->Prop)(t:TypeId)(x:oF)(f:Nat):(oF->Prop)->Prop:=hld S (aq Q t x f)
abbrev hL(S:oG->Prop)(t:TypeId)(x:oF):(oF->Prop)->Prop:=hld S (ld Q t x)
abbrev hN(S:oG->Prop)(x:oF):(oF->Prop)->Prop:=hld S (bj x)
abbrev sF(t:TypeId)(x:oF)(f:Nat):KV->oG->Prop:=sti (aq Q t x f)
abbrev sL(t:TypeId)(x:oF):KV->oG->Prop:=sti (ld Q t x)
abbrev sN(x:oF):KV->oG->Prop:=sti (bj x)
abbrev lN(t:TypeId)(x:oF):KV->oG->Prop:=blt Q .len #[t] 3 #[false] #[x]
abbrev hI(S:oG->Prop)(t:TypeId)(x i:oF):(oF->Prop)->Prop:=hld S (bv Q t x i)
abbrev sI(t:TypeId)(x i:oF):KV->oG->Prop:=sti (bv Q t x i)
abbrev nC(x:oF):KV->oG->Prop:=bin Q .add 3 false true x (ci 1)
abbrev lS(x y:oF):KV->oG->Prop:=bin Q .lss 3 false false x y
def vI:Nat->Type
 | 0=>oG->Prop
 | n+1=>oF->vI n
def vM:Nat->Type
 | 0=>oG->Nat
 | n+1=>oF->vM n
def mpK{a b:Prop}(h:a)(e:a=b:=by kernel_rfl):b:=Eq.mp e h
abbrev bT (o : BinOp) (t : TypeId) (x y : Value) : KV → World → Prop := bin Q o t false true x y
abbrev bF (o : BinOp) (t : TypeId) (x y : Value) : KV → World → Prop := bin Q o t false false x y
abbrev kY(f:Func)(p:List Nat)(N:KE)(X:Nat->KE)(K:KV):KE:=aj Q (cd f p) N X (rk f K)
abbrev kZ(f:Func)(p:List Nat)(K:KV):KE:=aj Q (cd f p) (rk f K) xf (rk f K)
def mpF{a b:Prop}(e:a=b:=by kernel_rfl):a->b:=Eq.mp e
def bP:Nat->Nat->List Nat->List Nat
 | 0,_,l=>l
 | k+1,n,l=>match Nat.beq n 1 with|true=>l|false=>bP k (n / 2) (n%2::l)
def b1(n:Nat):List Nat:=bP 64 n []
def vP:(l:List Nat)->vI l.length->KE
 | [],f=>λ_ w=>f w
 | n::l,f=>λe w=>vP l (f (gd e n)) e w
def vQ:(l:List Nat)->vM l.length->Env->oG->Nat
 | [],f=>λ_ w=>f w
 | n::l,f=>λe w=>vQ l (f (gd e n)) e w
theorem goK {f:FuncId} {a:Func} (h:Q.funcs[f]? = some a) (b:(a.name == "runtime.NumGoroutine")=false:=by kernel_rfl) (c:a.body.isNone=false:=by kernel_rfl):Kr Q f:=⟨a,h,b,c⟩
def ZH{K:KV}(h:fK Q 135 none (λa=>bld Q 182 #[(0,a)] λa=>box Q 182 a K) w):Gives Q 45 #[] w K:=aw func45 kr (mpK h)
def zbD{K:KV}(h:bT .lss 3 Z (ci 1) (λa w=>aT a false (λf=>bT .gtr 3 Z (ci 6) (λa=>f [Z,a]) w) (λk=>k [uu,uu] w) λe=>pick a cT (gd e 1) λb w=>aT b false (λc=>bT .lss 32 H (cu 1) (λa=>c [H,a]) w) (λk=>k [uu,uu] w) λa=>pick b cT (gd a 1) λa w=>aT a false (λd=>bT .geq 32 H (cu 1099511627776) (λa=>d [H,a]) w) (λk=>k [uu,uu] w) λb=>pick a cT (gd b 1) λa w=>cond a (K (cu 0) w) (conv Q 3 32 Z (λa=>bT .shl 32 a (cu 40) λa=>bF .or 32 a H K) w)) w):Gives Q 299 #[Z,H] w K:=aw func299 kr (mpK h)
def SV{K:KV}(h:bT .eql 133 H (.pointer none) (λa w=>cond a (K cF w) (bj H (λa=>aq Q 182 a 0 λa=>ld Q 135 a λa=>lkp Q 135 a Z true λa=>ext Q a 0 λ_=>ext Q a 1 K) w)) w):Gives Q 159 #[H,Z] w K:=aw func159 kr (mpK h)
def UL{K:KV}(h:box Q 133 Z (λb=>box Q 32 H λa=>K (.func (.func 267) #[] #[b,a])) w):Gives Q 262 #[Z,H] w K:=aw func262 kr (mpK h)
def vB(Y:YB)(a:Nat)(K:KV):KE:=xi Q Y a (cd f267 [0]) (rk f267 K) (xx xf (rk f267 K) 0) (rk f267 K)
def R9{Y:YB}{K:KV}(h:vB Y b K [U,H,Z,uu,uu,uu,uu,uu,uu,uu,uu,uu,uu,uu,uu,uu,uu,uu] w):Fy Q Y b 267 [U,H,Z] w K:=zdh (goK func267) func267 kr (mpK h)
def Oh{Y:YB}{K:KV}{t15:oF}(g:Ei Y)(Inv:oG->Prop)(μ:oG->Nat)(e:Inv w)(i:∀(l:oD) (w:oG) (m:Nat),Inv w->m=μ w ->
  ld Q 133 U (λa=>ld Q 32 Z λc=>call Q 159 #[a,c] λH=>xG H true (λk=>k Z1) λa=>xG H true (ld Q 32 Z) λc=>xG H true (Tt Q Y b a #[c]) λJ=>pick H J cF λC w=>cond C (sL 133 U (λa=>sN a λa=>sF 182 a 0 λa=>sL 135 a λa=>sL 32 Z λb=>sti (lkp Q 135 a b false) λa=>sto Q 32 Z a λ_ w=>(Inv w)/\((μ w)<m)) w.drew) (K (.tuple #[]) w)) w):vB Y b K [Z1,U,Z,P2,Q2,R2,H,U2,V2,X2,J,C,P3,Q3,T3,t15,U3,V3] w:=by refine Ue g (cd f267 [0,0]) (zr [(4,14)]) kr (λd a=>Inv a) (λd a=>μ a) e ?_;intro c j f;have h:=i (gd c) j _ f rfl;exact mpK h
attribute [irreducible] vB
def vA(K:KV)(D:Nat):KE:=aj Q (cd f246 [1,1]) (Ce Q Tryz.f246.results.toList K D) xf (Ce Q Tryz.f246.results.toList K D)
def Oe{K:KV}(h:ld Q 172 H (λZ=>sto Q 172 H Z λ_ w=>(dM D w)/\(bA Q [(some 172,H)] K (w.putObj D (Obj.deferred none)))) w):vA K D [Z1,U,J,P2,H,R2,T2,U2,V2,X2,Y,C,P3,Q3,Z] w:=mpK h
noncomputable def uS :Func:={Tryz.f246 with body:=some (zhh (cd f246 [1,0,1,0]))}
def Gp(NB:KE)(XB:Nat->KE)(RB:KE):KE:=aj Q (cd uS []) NB XB RB
def Of{XB:Nat->KE}(h:B1 [Z1,Z,Y,C,Q2,H,T2,U2,V2,H,U,J,P3,Q3,T3] w):Gp B1 XB U0 [Z1,Z,Y,C,Q2,R2,T2,U2,V2,H,U,J,P3,Q3,T3] w:=mpK h
noncomputable def uT :Func:={Tryz.f246 with body:=some (zhk (cd f246 [1,0,1,0]))}
def Gq(NB:KE)(XB:Nat->KE)(RB:KE):KE:=aj Q (cd uT []) NB XB RB
def Og{XB:Nat->KE}(h:ld Q 172 U (λH=>cH Q 172 1 #[(0,J)] λZ=>blt Q .append #[172,172] 172 #[false,false] #[H,Z] λY=>sto Q 172 U Y λ_=>B1 [Z1,C,O2,P2,U,J,T2,U2,V2,X2,H,J,Z,Y,T3]) w):Gq B1 XB U0 [Z1,C,O2,P2,U,J,T2,U2,V2,X2,H,O3,Z,Y,T3] w:=mpK h
def R8{K:KV}(h:alc Q 172 (λa=>call Q 262 #[Z,H] λb=>rfS Q (cd f246 [1,0,1,0]) (vA K) (λi D e w=>(i=0)/\(vA K D e w)) (Ce Q Tryz.f246.results.toList K) [Z,H,uu,uu,a,uu,Z,H,b,uu,uu,uu,uu,uu,uu]) w):Gives Q 246 #[Z,H] w K:=zc2 func246 kr (Eq.mp kr h)
def iP(t0 id1 bD t26:oF)(zf:oD):=t0::id1::bD::zT zf 3 23 (t26::zT zf 27 17 ([]))
def qu(t0 id1 bD:oF)(zf:oD):=t0::id1::bD::zT zf 3 41 ([])
def gn(K:KV):KE:=kZ f302 [1,1] K
def nS(K:KV):KE:=kY f302 (b1 6655) (gn K) (xx xf (gn K) 0) K
def tK(K:KV):KE:=aj Q (cd f302 (b1 13309)) (nS K) (xx xf (gn K) 0) (rk f302 K)
abbrev JU(K:KV)(hA0:KE)(t0 id1 bD:oF)(w:oG):Prop :=
  bT .eql 133 t0 (.pointer none) (λa w=>cond a (K (ci 2) w) (bT .eql 32 id1 (cu 0) (λb w=>cond b (K (ci 1) w) (call Q 159 #[t0,id1] (λc w=>cond c (K (ci 14) w) (bT .neq 32 bD (cu 0) (λd w=>aT d true (λa=>call Q 159 #[t0,bD] (λb=>un Q .not b λc=>a [t0,bD,b,c]) w) (λk=>k [uu,uu,uu,uu] w) λe=>pick d (gd e 3) cF λf w=>cond f (K (ci 9) w) (bj t0 (λg=>aq Q 182 g 0 λh=>ld Q 135 h λi=>lN 135 i λj=>bT .geq 3 j (ci 32) λk=>hA0 (iP t0 id1 bD k (zV (zV zu 6 [ci 0,a,t0,a,b,id1,b,c,t0,id1,c,f,bD,d,d,gd e 0,gd e 1,gd e 2,gd e 3,f]) 27 [t0,g,h,i,j,k]))) w)) w)) w)) w)) w
section
variable {K:KV}{t0 id1 bD t26:oF}  
def UK{K:KV}(a:Code)(h:JU K (aj Q a (aj Q (cd f302 (b1 6655)) (aj Q (cd f302 [1,1]) (rk f302 K) (λ_ _ _=>False) (rk f302 K)) (λi=>@Bool.rec (λ_=>KE) ((λ_ _ _=>False) i) (aj Q (cd f302 [1,1]) (rk f302 K) (λ_ _ _=>False) (rk f302 K)) (Nat.beq i 0)) (rk f302 K)) (λi=>@Bool.rec (λ_=>KE) ((λ_ _ _=>False) i) (aj Q (cd f302 [1,1]) (rk f302 K) (λ_ _ _=>False) (rk f302 K)) (Nat.beq i 0)) (rk f302 K)) U H Z w):aj Q (rep (b1 13309) a (cd f302 [])) (rk f302 K) xf (rk f302 K) (qu U H Z zu) w:=Eq.mp kr h
def SU{K:KV}(h:JU K (tK K) U H Z w):Gives Q 302 #[U,H,Z] w K:=aw func302 kr (Eq.mp (qH (λc=>aj Q c (rk f302 K) xf (rk f302 K) (qu U H Z zu) w) (by kernel_rfl:(rep (b1 13309) (cd f302 (b1 13309)) (cd f302 []))=(cd f302 []))) (UK (cd f302 (b1 13309)) h))
abbrev Fr(K:KV)(hA0:KE)(t0 id1 bD t26:oF)(zf:oD)(w:oG):Prop :=
  cond t26 (hA0 (iP t0 id1 bD t26 zf) w) (call Q 246 #[t0,bD] (λa=>lN 172 a λb=>bT .geq 3 b (ci 4) λc=>hA0 (iP t0 id1 bD c (zV zf 33 [t0,bD,a,b,c]))) w)
def PW{K:KV}(a:KE)(b:KE)(h:Fr K a Y H Z U zf w):aj Q (cd f302 (b1 13309)) a (xx xf b 0) (rk f302 K) (iP Y H Z U zf) w:=Eq.mp kr h
def PX(h:Fr K (nS K) t0 id1 bD t26 zf w):tK K (iP t0 id1 bD t26 zf) w:=by delta tK;exact Eq.mp (qH (λc=>aj Q c (nS K) (xx xf (gn K) 0) (rk f302 K) (iP t0 id1 bD t26 zf) w) (by kernel_rfl:(cd f302 (b1 13309))=(cd f302 (b1 13309)))) (PW (nS K) (gn K) h)
abbrev Ft(K:KV)(hA0:KE)(t0 id1 bD t26:oF)(zf:oD)(w:oG):Prop :=
  cond t26 (K (ci 6) w) (hA0 (qu t0 id1 bD (zV zf 26 [t26])) w)
def Q8{K:KV}(a:KE)(h:Ft K a Y H Z U zf w):aj Q (cd f302 (b1 6655)) a (xx xf a 0) (rk f302 K) (iP Y H Z U zf) w:=Eq.mp kr h
def Fu(h:Ft K (gn K) t0 id1 bD t26 zf w):nS K (iP t0 id1 bD t26 zf) w:=by delta nS;exact Eq.mp (qH (λc=>aj Q c (gn K) (xx xf (gn K) 0) (rk f302 K) (iP t0 id1 bD t26 zf) w) (by kernel_rfl:(cd f302 (b1 6655))=(cd f302 (b1 6655)))) (Q8 (gn K) h)
abbrev Fs(K:KV)(t0 id1 bD:oF)(zf:oD)(w:oG):Prop :=
  bj t0 (λa=>aq Q 182 a 0 λa=>ld Q 135 a λa=>fJ Q 135 a id1 bD λ_=>K (ci 0)) w
def PY{K:KV}(h:Fs K U H Z zf w):aj Q (cd f302 [1,1]) (rk f302 K) xf (rk f302 K) (qu U H Z zf) w:=Eq.mp kr h
def PZ(h:Fs K t0 id1 bD zf w):gn K (qu t0 id1 bD zf) w:=by delta gn;exact Eq.mp (qH (λc=>aj Q c (rk f302 K) xf (rk f302 K) (qu t0 id1 bD zf) w) (by kernel_rfl:(cd f302 [1,1])=(cd f302 [1,1]))) (PY h)
end
attribute [irreducible] gn nS tK
def Fv(is1 l4 t12:oF)(zf:oD):=zf 0::is1::zf 2::zf 3::l4::zT zf 5 7 (t12::zT zf 13 14 ([]))
def Fw(l4:oF)(zf:oD):=zT zf 0 4 (l4::zT zf 5 22 ([]))
def ko(K:KV):KE:=kZ f79 [1,1,1] K
def uU(K:KV):KE:=aj Q (cd f79 (b1 58)) (ko K) (xx xf (ko K) 0) (rk f79 K)
section
variable {K:KV}{is1 l4 t12:oF}  
def Q9{K:KV}(h:bT .eql 133 H (.pointer none) (λa w=>cond a (K cN w) (bj H (λb=>aq Q 182 b 0 λc=>ld Q 135 c λd=>rng Q 135 d λe=>uU K (Fv Z cN e (zV (zV zu 0 [H]) 6 [H,a,H,b,c,d]))) w)) w):Gives Q 79 #[H,Z] w K:=aw func79 kr (mpK h)
def Nn(Inv:oF->oG->Prop)(μ:oF->oG->Nat)(g:Inv l4 w)(j:∀(a:oF) (f:oD) (w:oG) (m:Nat),Inv a w->m=μ a w ->
  nxt Q t12 false 0 (λb=>ext Q b 0 λc w=>cond c (ent Q t12 (λb=>ext Q b 0 λb=>bS Q is1 #[b] λc w=>cond c (cH Q 172 1 #[(0,b)] (λc=>blt Q .append #[172,172] 172 #[false,false] #[a,c] λa w=>(Inv a w)/\((μ a w)<m)) w) ((Inv a w)/\((μ a w)<m))) w) (ko K (Fw a (zV (zV f 1 [is1]) 12 [t12,b,c])) w)) w):uU K (Fv is1 l4 t12 zf) w:=by refine aZ (cd f79 (b1 116)) (zr [(4,2),(13,11)]) kr (vP [4] Inv) (vQ [4] μ) g ?_;intro e k i;have h:=j _ (zM zf (gd e) (zr [(4,2),(13,11)])) k _ i rfl;revert h;generalize (ko K)=qc0;exact mpF
def No(h:call Q 96 #[l4] (λ_=>K l4) w):ko K (Fw l4 zf) w:=mpK h
end
attribute [irreducible] ko uU
def Od{K:KV}(h:K cT w):Gives Q 80 #[H] w K:=aw func80 kr (mpK h)
def QZ{K:KV}(h:call Q 79 #[H,.func (.func 80) #[] #[]] K w):Gives Q 61 #[H] w K:=aw func61 kr (mpK h)
section
attribute [local irreducible] bin un conv call bS blt slc aq fld bv idx lkp fJ nl eSt rng nxt ent ext alc box bld cH ld sto bj fK mkS ifc pick rdy wts aT sti cond bA Gives aj iK kH cOp
section
open Go.ChangeMaps
abbrev pB(b:Nat):oF:=pA b 0
def u6K:Hs Q 32 u6:=Yx underlying32
def u6z:∀w,(zeroValue 32).run Q w=.ok (u6 0) w:=λw=>by kernel_rfl
def pQ[DecidableEq κ]{m L:List (κ×α)}(h:m.Perm L)(c:(L.map (·.1)).Nodup)(x:κ):dZ m x=dZ L x:=by
 have b:(m.map (·.1)).Nodup:=(h.map _).nodup_iff.2 c;cases a:dZ L x with
 | none =>
  rw[wF]at a |-;exact λd=>a ((h.map _).mem_iff.1 d)
 | some v=>exact nD b (h.mem_iff.2 (wZ a))
structure TreeM(w:oG) (t tp:Nat) (T:List (Int×Int)):Prop where
 bt:blk w t 182 [.map (some tp)]
 mp:∃m,MB u6 u6 w tp m/\m.Perm T
 uq:(T.map (·.1)).Nodup
section
variable  {t tp:Nat} 
def TreeM.below(h:TreeM w t tp T)(a:Below w.heap.size w S):TreeM S t tp T :=
 ⟨ae a h.bt h.bt.lt,let ⟨m,b,c⟩:=h.mp;⟨m,b.below a,c⟩,h.uq⟩
def TreeM.lt(h:TreeM w t tp T):t<w.heap.size/\tp<w.heap.size:=⟨h.bt.lt,let ⟨_,a,_⟩:=h.mp;a.lt⟩
def TreeM.ne(h:TreeM w t tp T):t≠tp:=by
 obtain⟨m,⟨b,c,a⟩,_⟩:=h.mp;rintro rfl
 have:=h.bt
 unfold blk at this;rw[a.heap]at this;cases this
def TreeM.oth(h:TreeM w t tp T)(a:Oth b w S)(c:t≠b)(d:tp≠b):TreeM S t tp T :=
 ⟨a.blk h.bt c,let ⟨m,e,f⟩:=h.mp;⟨m,e.oth a d,f⟩,h.uq⟩
def Lw(b:(T.map (·.1)).Nodup)(id:Int):dZ T id=match eh T id with|true=>some (fV T id)|false=>none:=by
 cases a:eh T id with
 | true=>exact nD b (qs a)
 | false =>
  refine wF.2 λd=>?_;obtain⟨p,c,e⟩:=qT.1 d;rw[ky.2 ⟨p,c,e⟩]at a;cases a
end
def DP{K:KV}(h:K (pA b (o+0)) w):aq Q 182 (pA b o) 0 K w:=aQ kr h
section
variable  {K:KV}{t tp:Nat}  {id:Int}
def Vf(h:K (.bool false) w):bin Q .eql 133 cx cy (pB b) (.pointer none) K w :=
 eH (by unfold eqG eqGuard;rfl) kr h
def zdb(h:∀S t tp,TreeM S t tp []->Below w.heap.size w S->w.heap.size<=t->w.heap.size<=tp->K (pB t) S):call Q 45 #[] K w:=by
 refine ao (goK func45) (ZH ?_);refine xa underlying135 rfl u6 u6 λf e d g=>?_;refine cE (vs:=[.map (some w.heap.size)]) kr ?_;refine bU λc a b i=>?_;have a:=cZ a
 exact h c _ _ ⟨a,⟨[],e.below b,.refl _⟩,by simp⟩ (d.trans (b.mono oo)) oo oA
def UJ(h:TreeM w t tp T)(a:K (.bool (eh T id)) w):call Q 159 #[pB t,u6 id] K w:=by
 obtain⟨m,b,c⟩:=h.mp;refine ao (goK func159) (SV (Vf (aD (au (DP (lK (v:=.map (some tp)) h.bt rfl (YC (z0:=0) u6K underlying135 u6z b ?_)))))));have e:(dZ m id).isSome=eh T id:=by
  rw[pQ c h.uq,Lw h.uq];cases eh T id<;>rfl
 rw[e];exact bK (bJ a)
def ziJ(h:TreeM w t tp T)(a:eh T id=true)(b:K (u6 (fV T id)) w):lkp Q 135 (.map (some tp)) (u6 id) false K w:=by obtain⟨m,c,d⟩:=h.mp;refine Sg (z0:=0) u6K underlying135 u6z c ?_;rw[pQ d h.uq,Lw h.uq,a];exact b
def zh0{rk:Int->Nat}(d:TK T rk)(c:eh T x=true):upT T rk (fV T x)<upT T rk x:=by
 have h:upT T rk x=rk x+1:=by unfold upT;rw[c]
 have g:=qs c;rw[h];unfold upT;cases b:eh T (fV T x)with
 | false=>show 0<rk x+1;omega
 | true =>
  rcases d.up _ g with f|⟨y,j,e,a⟩
  .exfalso;obtain⟨z,i,e⟩:=ky.1 b;exact d.nz z i (e.trans f)
  .have e:y.1=fV T x:=e;rw[<-e]
   have:rk y.1<rk x:=a
   show rk y.1+1<rk x+1;omega
def xGn{v:oF}{s:KV->oG->Prop}{K:KV}(b:asB v≠some cx)(h:K undef w):xG v cx s K w:=⟨λa=>qI a b,λ_=>h⟩
def c0(w:oG)(b:Nat):Int:=match w.cell? ⟨b,0,none⟩with|some v=>intOf v|none=>0
def zjF{Y:YB}{l:Nat}{rk:Int->Nat}(L:Ei Y)(G:TK T rk)(Inv:Nat->oG->Prop)(d:oG->Prop)(I:Inv 0 w)(H:∀j w,Inv j w->TreeM w t tp T/\blk w c 133 [pB t])(hi:∀j w w',Inv j w->Oth o w.drew w'->Inv j w')(k:blk w o 32 [u6 id])(U:∀j x w K,(fy T id)[j]? = some x->Inv j w->blk w o 32 [u6 x]->(∀w',Inv (j+1) w'->blk w' o 32 [u6 x]->K (.bool true) w')->(∀w',d w'->K (.bool false) w')->Y [u6 x] K w)(M:∀w',Inv (fy T id).length w'->K (.tuple #[]) w')(P:∀w',d w'->K (.tuple #[]) w'):Fy Q Y l 267 [.func (.yield l) #[] #[],pB c,pB o] w K:=by
 refine R9 (Oh L (Inv:=λw=>∃j x f,Inv j w/\blk w o 32 [u6 x]/\(fy T id).drop j=dO T f x/\j<=(fy T id).length/\upT T rk x<=f) (μ:=λw=>upT T rk (c0 w o))
  ⟨0,id,T.length+1,I,k,by rw[oX];rfl,qG _,by have:=LS G id;omega⟩ ?_)
 rintro X w m ⟨j,x,f,u,k,n,Z,hu⟩ C;obtain⟨R,J⟩:=H j w u;have z:c0 w o=x:=by unfold c0;rw[k.cell];rfl
 refine lK (v:=pB t) J rfl (lK (v:=u6 x) k rfl (UJ R ?_));cases r:eh T x with
 | false =>
  refine xGn dc (xGn dc (xGn dc (cA (aD ?_))));refine M w ?_
  have:dO T f x=[]:=by cases f<;>simp[dO,r]
  rw[this,List.drop_eq_nil_iff]at n
  have:j=(fy T id).length:=by omega
  rw[<-this];exact u
 | true =>
  have E:=zh0 G r;obtain⟨i,rfl⟩:∃i,f=i+1:=⟨f-1,by omega⟩
  have O:dO T (i+1) x=x::dO T i (fV T x):=by simp[dO,r]
  rw[O]at n;have N:j<(fy T id).length:=by
   rcases Nat.lt_or_ge j (fy T id).length with h|h
   .exact h
   .rw[List.drop_eq_nil_of_le h]at n;cases n
  have S:(fy T id)[j]? = some x:=by
   have:=qH List.head? n
   rw[List.head?_drop]at this;exact this
  have B:(fy T id).drop (j+1)=dO T i (fV T x):=by
   have:=qH List.tail n
   rw[List.tail_drop]at this;exact this
  refine Zp rfl (Zp rfl (lK (v:=u6 x) k rfl (Zp rfl (.inl ⟨rfl,U j x w _ S u k (λw' p y => dD (bc ?_)) (λa D => dD (aD (P a D)))⟩))));obtain⟨g,s⟩:=H _ _ p;have q:=y.drew;have e:TreeM w'.drew t tp T:=⟨g.bt,let ⟨m,a,b⟩:=g.mp;⟨m,a.kept rfl,b⟩,g.uq⟩
  refine ah (λ_=>lK (v:=pB t) s.drew rfl) (ah (λ_=>au) (ah (λ_=>DP) (ah (λ_=>lK (v:=.map (some tp)) e.bt rfl) (ah (λ_=>lK (v:=u6 x) q rfl) (ah (λ_=>ziJ e r) ?_)))));refine dw kf q (by show 0<1;decide) rfl λW F V=>?_;refine⟨⟨j+1,fV T x,i,hi _ _ _ p V,F,B,by omega,by omega⟩,?_⟩;have A:c0 W o=fV T x:=by unfold c0;rw[F.cell];rfl
  rw[C,z,A];exact E
def zjE(h:∀S,blk S w.heap.size 133 [pB t]->blk S (w.heap.size+1) 32 [u6 id]->Below w.heap.size w S->S.heap.size=w.heap.size+2->K (.func (.func 267) #[] #[pB w.heap.size,pB (w.heap.size+1)]) S):call Q 262 #[pB t,u6 id] K w:=by refine ao (goK func262) (UL ?_);refine bU λi d c e=>bU λf b a g=>?_;rw[e]at b |-;exact h f (ae a (by simpa[Value.cells]using d) oo) (by simpa[Value.cells,u6]using b) (c.trans (a.mono oo)) oo
end
end
end
section
open Go.ChangeMaps
def Tp{l:Nat}{e:Env}{n:Array Tmp}{a c:Code}:Ei (Xo P l D P0 e n a c):=λ_ _ _ _ b ⟨g,i,j,k,m⟩ =>
 ⟨g,i,j,k,Ek a m (λ_ _ _ ⟨d,f⟩=>⟨d,Ek c f (λ_ _ _ ⟨x,y⟩=>⟨x,b _ _ y⟩) (λ_ _ _ _ ⟨x,y⟩=>⟨x,b _ _ y⟩) (λ_ _ _ ⟨x,y⟩=>⟨x,b _ _ y⟩)⟩) (λ_ _ _ _ h=>h) (λ_ _ _ h=>h)⟩
def oth_put{l:Nat}{o:Obj}:Oth l w (w.putObj l o):=⟨rfl,rfl,rfl,World.putObj_size,λk a=>World.putObj_heap_other (λe=>a (by rw[e]))⟩
def zeF{B n l:Nat}{r:Loop}{o:Obj}(h:w.ownsRow B E s (.slice a n c) n xs)(f:w.heap[l]? = some (.loop r)):(w.putObj l o).ownsRow B E s (.slice a n c) n xs :=
 dl h λk d=>by
  rcases h.2 with⟨b,_⟩|⟨g,i,j,b,p,m,_⟩
  .cases b;cases d
  .cases b;have e:k=g:=by simpa[Value.ownBlock]using d.symm
   subst e;refine World.putObj_heap_other λe=>?_;subst e;rw[m]at f;cases f
def SB{T:List (Int×Int)}:∀(f:Nat) (id:Int),(dO T f id).length<=f
 | 0,_=>Nat.le_refl _
 | f+1,id=>by
  unfold dO;split
  .have:=SB (T:=T) f (fV T id);simp;omega
  .simp
def uO{b:Addr}{v:oF}{K:KV}(f:∀K':KV,K' v w->ld P t (.pointer (some b)) K' w)(h:K v w):bA P [(some t,.pointer (some b))] K w:=by
 have e:(loadVar t b).run P w=.ok v w:=by
  have:=f (λc d => c=v/\d=w) ⟨rfl,rfl⟩
  unfold ld okV at this;unfold Instr.loadAt at this;simp only[Instr.sureAddr,jX,jW,jU]at this;split at this
  .rename_i c d a;rw[a,this.1,this.2]
  .exact this.elim
 unfold bA
 have:(qk [(some t,.pointer (some b))]).run P w=.ok v w:=by simp[qk,asAddr,jX,e]
 rw[this];exact⟨rfl,h⟩
def TreeM.drew{t:Nat}(h:TreeM w t c T):TreeM w.drew t c T:=⟨h.bt,let ⟨m,a,b⟩:=h.mp;⟨m,a.kept rfl,b⟩,h.uq⟩
def Pd{B n k:Nat}{v:oF}{o:Obj}(h:w.ownsRow B e s v n xs)(g:w.grownBy S v.ownBlock)(b:w.heap[k]? = some o)(i:∀cs z,o≠.cells cs e z):S.heap[k]? = some o:=by have c:k<w.heap.size:=(qM.1 b).1;rw[g.block k c λf=>?_];exact b;obtain⟨⟨d,a⟩,_⟩:=Ho h f.symm;unfold blk at a;rw[b]at a;exact i _ _ (Option.some.inj a)
def TreeM.grow{t B n:Nat}{v:oF}(d:TreeM w t b T)(h:w.ownsRow B e s v n xs)(f:w.grownBy S v.ownBlock)(i:182≠e):TreeM S t b T :=
 ⟨yy d.bt h i f,let ⟨m,⟨g,c,a⟩,j⟩:=d.mp;⟨m,MB.kept ⟨g,c,a⟩ (by rw[a.heap];exact Pd h f a.heap (λ_ _ e=>by cases e)),j⟩,d.uq⟩
attribute [local irreducible] bin un conv call bS blt slc aq fld bv idx lkp fJ nl eSt rng nxt ent ext alc box bld cH ld sto bj fK mkS ifc pick rdy wts aT sti cond bA Gives aj iK kH cOp
section
variable  {K:KV}{t tp:Nat}  {id:Int}
def Qs{rk:Int->Nat}(G:TK T rk)(ht:TreeM w t tp T)(hn:T.length<=1000)(h:∀w' a c,w'.ownsRow w.heap.size 32 1 (.slice a (fy T id).length c) (fy T id).length ((fy T id).map u6)->Below w.heap.size w w'->K (.slice a (fy T id).length c) w'):call Q 246 #[pB t,u6 id] K w:=by
 refine ao (goK func246) (R8 (cD (z:=.slice none 0 0) kr λS h1 b1 s1=>zjE λw2 h2 h3 X s2=>?_));have h1:=cZ h1
 refine zcP (g:=.tmp 8) (ps:=#[9]) (a:=cd uS []) (bd:=cd uT []) (gf:=267) (cap:=[pB S.heap.size,pB (S.heap.size+1)]) kr rfl ?_;intro fn W C sW hD hL;have ak:=ht.lt;have ah:(fy T id).length<=T.length+1:=SB _ _;generalize hz:w.heap.size=z at *;rw[s1]at h2 h3 s2 |-;have ez:w2.heap.size=z+3:=by omega
 rw[ez]at C sW hD hL |-;rw[s1]at hL;have tW:TreeM W t tp T:=((ht.below (by rw[hz];exact b1)).below (X.mono oo)).below (C.mono oo);have B0:Below z w W:=b1.trans ((X.mono oo).trans (C.mono oo))
 refine zjF Tp G (λj v=>(TreeM v t tp T/\blk v (z+1) 133 [pB t])/\(∃a c,blk v z 172 [.slice a j c]/\v.ownsRow z 32 1 (.slice a j c) j (((fy T id).take j).flatMap uC)/\((Value.slice a j c).ownBlock≠some (z+2))) /\
   v.heap[z+4]? = some (.loop (qa fn _ #[9] (cd uS []) (cd uT []) (z+3) .ready none))/\v.heap[z+3]? = some (.deferred (some []))/\Below z w v/\z+5<=v.heap.size) (λ_=>False)
  ⟨⟨tW,ae C h2 oo⟩,⟨none,0,ae C (ae (X.mono (show z+1<=S.heap.size by omega)) h1 oo) oo,World.ownsRow_nil _ _ _ _,by simp[Value.ownBlock]⟩,hL,hD,B0,by omega⟩ (λj v a=>a.1) ?_ (ae C h3 oo) ?_ ?_ ?_
 .rintro j v v' ⟨⟨U,V⟩,⟨a,c,D,L,E⟩,n,F,M,Z⟩ o;refine⟨⟨U.drew.oth o oo oo,o.blk V.drew oo⟩,⟨a,c,o.blk D.drew oo,dl L λk G=>o.other k (λe=>E (by rw[G,e])),E⟩,(o.other _ oo).trans n,(o.other _ oo).trans F,gI M.drew o oo,by rw[o.size];exact Z⟩
 .rintro j x v K' hx ⟨⟨U,V⟩,⟨a,c,D,L,E⟩,n,F,M,Z⟩ hb kT kF;refine⟨by kernel_rfl,by kernel_rfl,n,rfl,Of ⟨n,Og ?_⟩⟩;generalize d:v.putObj (z+4) _=v1;have f:Oth (z+4) v v1:=d ▸ oth_put;have l1:v1.heap[z+4]? = some (.loop (qa fn _ #[9] (cd uS []) (cd uT []) (z+3) .busy none)):=d ▸ World.putObj_heap_same oo
  have I:v1.ownsRow z 32 1 (.slice a j c) j (((fy T id).take j).flatMap uC):=d ▸ zeF L n;have z1:v1.heap.size=v.heap.size:=f.size;have ag:j<(fy T id).length:=(gS hx).1;refine lK (v:=.slice a j c) (f.blk D oo) rfl ?_
  refine qb (vs:=[u6 x]) underlying172 (s:=1) kr kr oo rfl oB oB oB (by simp[u6,Value.cells]) λJ N u z2=>?_;have N:blk J v1.heap.size 32 (uC x):=by simpa[Value.cells,u6,uC]using N
  obtain⟨ii,ac,af,ad,aa⟩:=info_parts (show (Tryz.prog.info? 32).map (λi=>(i.zero,i.size,i.bytes))=some (some (u6 0),1,8)by kernel_rfl);have r:=dl I λq A=>u.block q (jS I q A).2
  refine zc (base:=z) (enc:=uC) (x:=x) underlying172 ac af ad aa rfl oo (λ_=>rfl) r N (by simp[uC,u6,Value.oneCell']) oo oo (by have:=u.size;omega) λa' c' R P b c3 l=>?_;have m:∀{k o},v1.heap[k]? = some o->J.heap[k]? = some o:=λ{k o} G=>by rw[u.block k (qM.1 G).1];exact G
  have t3:TreeM R t tp T:=((U.oth f oo oo).below u).grow r b dc;have f3:blk R (z+1) 133 [pB t]:=yy (m (f.blk V oo)) r dc b;have s3:blk R z 172 [.slice a j c]:=yy (m (f.blk D oo)) r dc b;have l3:=Pd r b (m l1) (λ_ _ e=>by cases e)
  have d3:=Pd r b (m ((f.other _ oo).trans F)) (λ_ _ e=>by cases e);have x3:blk R (z+2) 32 [u6 x]:=(b.block (z+2) (by have:=u.size;omega) (λe=>E e.symm)).trans (m (f.blk hb oo));refine dw kf s3 (by show 0<1;decide) rfl λv4 k4 p=>⟨(p.other _ oo).trans l3,kT _ ?_ ?_⟩
  .generalize B:v4.putObj (z+4) _=v5;have H:Oth (z+4) v4 v5:=B ▸ oth_put;have l4:v4.heap[z+4]? = _:=(p.other _ oo).trans l3;have ai:=u.size;have aj:=b.size;have r4:=dl P λq A=>p.other q (λe=>by
    subst e;obtain⟨⟨cc,y⟩,_⟩:=Ho P A;exact qI (Hu y s3) dc)
   have r5:v5.ownsRow z 32 1 (.slice a' (j+1) c') (j+1) ((((fy T id).take j)++[x]).flatMap uC):=B ▸ zeF r4 l4;have Y:(fy T id).take j++[x]=(fy T id).take (j+1):=by rw[List.take_add_one,hx];rfl
   rw[Y]at r5;refine⟨⟨(t3.oth p oo oo).oth H oo oo,H.blk (p.blk f3 oo) oo⟩,⟨a',c',H.blk k4 oo,r5,λe=>?_⟩,B ▸ World.putObj_heap_same (qM.1 l4).1,(H.other _ oo).trans ((p.other _ oo).trans d3),?_,by rw[H.size,p.size];omega⟩
   .rcases l with l|l
    .exact E (l ▸ e)
    .rw[l]at e
     have:=Option.some.inj e
     omega
   .exact gI (gI ((gI M f oo).trans ((u.mono oo).trans c3)) p oA) H oo
  .exact oth_put.blk (p.blk x3 oo) oo
 .rintro v ⟨_,⟨a,c,D,L,E⟩,n,F,M,Z⟩;refine⟨none,n,Oe ?_⟩;have l4:=n;generalize d:v.putObj _ _=v1;have f:Oth (z+4) v v1:=d ▸ oth_put;have I:v1.ownsRow z 32 1 (.slice a (fy T id).length c) (fy T id).length (((fy T id).take (fy T id).length).flatMap uC):=d ▸ zeF L n;rw[List.take_length,zgY]at I;have k1:=f.blk D oo;refine lK (v:=.slice a (fy T id).length c) k1 rfl ?_
  refine dw kf k1 (by show 0<1;decide) rfl λJ N O=>⟨(O.other _ oo).trans ((f.other _ oo).trans F),?_⟩
  have o3:Oth (z+3) J (J.putObj (z+3) (.deferred none)):=oth_put;have ab:J.heap[z+3]? = some (.deferred (some [])):=(O.other _ oo).trans ((f.other _ oo).trans F);have r:=dl I λq A=>O.other q (λe=>by
   subst e;obtain⟨⟨cc,y⟩,_⟩:=Ho I A;exact qI (Hu y k1) dc)
  have P:=dl r λq A=>o3.other q (λe=>by
   subst e;obtain⟨⟨cc,y⟩,_⟩:=Ho r A;unfold blk at y;rw[ab]at y;cases y)
  refine uO (λ_=>lK (v:=.slice a (fy T id).length c) (o3.blk N oo) rfl) (h _ a c P ?_);exact gI (gI (gI M f oo) O oA) o3 oo
 .exact λ_ h=>h.elim
end
end
end Go.Proofs.YtgohpbmmcgenpaaGreatDoor
