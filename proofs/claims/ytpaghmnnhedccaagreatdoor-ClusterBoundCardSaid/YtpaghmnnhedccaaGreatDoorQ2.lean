import Derived.Test.YtpaghmnnhedccaaGreatDoorQ1
import Derived.Deep.MidRow
import Derived.Great.BuildSlice
set_option linter.all false
namespace Go.Proofs.YtpaghmnnhedccaaGreatDoor
set_option maxRecDepth 100000
open Go.Proofs.Tryz
open Go.RowKit
variable {w w' w2 S O:oG}{K:KV}{zf:Nat->oF}{b c o i g m s j f z d c2 D B' B2 hi:Nat}{a av a2:Option Addr}{x v r:Int}{E t e:TypeId}{A U0:List Int}{B1 N R:KE}{xs ys vs:oE}{cx cy:Bool}{α:Type}{T:List (Int×Int)}{k':IntKind}{u0:Array Bool}{X1 Z1 N2 O2 P2 Q2 R2 H Z U Y J C:oF}
structure PL where
 I:List Bool
 L:List Bool
 V:List Int
 N:List ND
 G:List GR
 R:List (List Int)
 deriving DecidableEq
abbrev M40:Int:=1099511627776
abbrev M47:Int:=140737488355328
def EV.q(e:EV):Nat:=(e.o-1).toNat
def idE(e:EV):Int:=e.o*M40+e.s
def tr(N:List ND):List (Int×Int):=N.map λx=>(x.id,x.par)
def cK(N:List ND)(id:Int):Bool:=N.any λx=>x.id==id
def cB(N:List ND)(id:Int):List Int:=eA (tr N) id
def jb(N:List ND)(o:Int):Nat:=(N.filter λx=>decide (x.id / M40=o)).length
def aN(N:List ND)(id:Int):List Int:=match N.find? λx=>x.id==id with|some x=>x.A|none=>z54
def lr(G:List GR)(o q:Int):Option GR:=G.find? λg=>g.o==o&&g.q==q
def pT(R:List (List Int))(k:Nat)(r:Int):Bool:=(R.getD k []).contains r
def dP(x:ND):List ND->List ND
 | []=>[x]
 | y::l=>if x.id<y.id then x::y::l else y::dP x l
def ltG(x y:GR):Prop:=x.o<y.o\/x.o=y.o/\x.q<y.q
instance (x y:GR):Decidable (ltG x y):=inferInstanceAs (Decidable (_\/_))
def ky(x:GR):List GR->List GR
 | []=>[x]
 | y::l=>if ltG x y then x::y::l else y::ky x l
def dT(ids:List Int)(c:Nat)(x:Int)(y:ND):ND:=if ids.contains y.id=true then {y with A:=y.A.set c (nA y.A c+x)} else y
inductive NOp
 | ins (x:ND)
 | bmp (ids:List Int) (c:Nat) (x:Int)
 | non
def NOp.ap:NOp->List ND->List ND
 | .ins x,N=>dP x N
 | .bmp ids c x,N=>N.map (dT ids c x)
 | .non,N=>N
inductive GOp
 | ins (x:GR)
 | upd (o q b:Int)
 | non
def mj(o q b:Int)(g:GR):GR:=if g.o=o/\g.q=q then {g with b:=b} else g
def GOp.ap:GOp->List GR->List GR
 | .ins x,G=>ky x G
 | .upd o q b,G=>G.map (mj o q b)
 | .non,G=>G
def gOf(s:PL)(e:EV):GR:=(lr s.G e.o e.f).getD ⟨0,0,0,0,0⟩
def nop(e:EV)(s:PL):NOp :=
 if e.k=1 then .ins ⟨idE e,e.n,z54.set e.q e.a⟩
 else if e.k=2 then .bmp [e.n] e.q e.a
 else if e.k=3 then .bmp (cB s.N e.n) (6+e.q) e.a
 else if e.k=4 then .bmp (cB s.N (gOf s e).n) (12+e.q) (gOf s e).a
 else if e.k=5 then .bmp [e.n] (18+6*e.q+(e.t-1).toNat) e.a
 else .non
def gop(e:EV):GOp :=
 if e.k=3 then .ins ⟨e.o,e.r,e.n,e.a,0⟩
 else if e.k=4 then .upd e.o e.f e.r
 else .non
def yK(e:EV)(I:List Bool):List Bool:=if e.k=6 then I.set (e.t-1).toNat true else I
def yL(e:EV)(L:List Bool):List Bool:=if e.k=7 then L.set e.q true else L
def su(e:EV)(R:List (List Int)):List (List Int):=if e.k=3\/e.k=4 then R.set e.q (R.getD e.q []++[e.r])else R
def Z7(e:EV)(V:List Int):List Int:=V.set e.q (V.getD e.q 0+1)
def eff(e:EV)(s:PL):PL:=⟨yK e s.I,yL e s.L,Z7 e s.V,(nop e s).ap s.N,(gop e).ap s.G,su e s.R⟩
structure OK(e:EV) (s:PL):Prop where
 may:co e=true
 rdy:fS s.V e=true
 inI:s.I.getD e.q false=true
 notL:s.L.getD e.q false=false
 k1:e.k=1->jb s.N e.o<5/\e.a<=M47/\(e.n=0\/cK s.N e.n=true)/\(cB s.N e.n).length<4
 k2:e.k=2->cK s.N e.n=true/\nA (aN s.N e.n) e.q+e.a<=M47
 k3:e.k=3->pT s.R e.q e.r=false/\cK s.N e.n=true/\∀id∈cB s.N e.n,e.a<=jx (aN s.N id) e.q/\nA (aN s.N id) (6+e.q)+e.a<=MXA
 k4:e.k=4->pT s.R e.q e.r=false/\∃g,lr s.G e.o e.f=some g/\g.b=0/\∀id∈cB s.N g.n,nA (aN s.N id) (12+e.q)+g.a<=nA (aN s.N id) (6+e.q)
 k5:e.k=5->cK s.N e.n=true/\s.I.getD (e.t-1).toNat false=true/\e.a<=jx (aN s.N e.n) e.q/\nA (aN s.N e.n) (18+6*e.q+(e.t-1).toNat)+e.a<=MXA
structure PI(s:PL):Prop where
 i6:s.I.length=6
 l6:s.L.length=6
 v6:s.V.length=6
 r6:s.R.length=6
 vb:∀k,k<6->0<=s.V.getD k 0/\s.V.getD k 0<M40
 A54:∀x∈s.N,x.A.length=54
 may:∀x∈s.N,nI x.A=true/\∀k,k<6->nA x.A k<=M47
 srt:s.N.Pairwise (·.id < ·.id)
 ids:∀x∈s.N,∃o q:Int,1<=o/\o<=6/\1<=q/\q<M40/\x.id=o*M40+q/\q<=s.V.getD (o-1).toNat 0
 own:∀o,jb s.N o<=5
 tk:∃rk,TK (tr s.N) rk
 dep:∀x∈s.N,(cB s.N x.id).length<=4
 gs:s.G.Pairwise ltG
 gk:∀g∈s.G,cK s.N g.n=true/\1<=g.a/\g.a<=MXA/\1<=g.o/\g.o<=6/\1<=g.q/\pT s.R (g.o-1).toNat g.q=true
def pl0(n:Nat):PL:=⟨(List.range 6).map λk=>decide (k<n),List.replicate 6 false,List.replicate 6 0,[],[],List.replicate 6 []⟩
def dlt(c:Nat)(x:Int)(j:Nat):Int:=if j=c then x else 0
def ja(h:j≠c):dlt c x j=0:=by unfold dlt;rw[oI h]
def xk:dlt c x c=x:=by unfold dlt;rw[oJ rfl]
def kg(h:0<=x):0<=dlt c x j:=by unfold dlt;split<;>omega
def oy(b:c<A.length)(j:Nat):nA (A.set c (nA A c+x)) j=nA A j+dlt c x j:=by
 unfold nA dlt;by_cases h:j=c
 .subst h;rw[oJ rfl];simp[List.getD,b]
 .have a : ¬c=j:=λe=>h e.symm;rw[oI h];simp[List.getD,a]
def Td(a:c<A.length)(k:Nat):jx (A.set c (nA A c+x)) k=jx A k+(dlt c x k-dlt c x (6+k)+dlt c x (12+k)
 +((dlt c x (18+6*0+k)-dlt c x (18+6*k+0))+(dlt c x (18+6*1+k)-dlt c x (18+6*k+1))+(dlt c x (18+6*2+k)-dlt c x (18+6*k+2))+(dlt c x (18+6*3+k)-dlt c x (18+6*k+3))+(dlt c x (18+6*4+k)-dlt c x (18+6*k+4))+(dlt c x (18+6*5+k)-dlt c x (18+6*k+5)))):=by simp only[jx,show List.range 6=[0,1,2,3,4,5]from rfl,jK,List.map_nil,List.sum_cons,List.sum_nil,oy a];omega
def Te{k:Nat}(b:c<A.length)(e:0<=x)(d:c≠6+k)(a:∀j,j<6->c≠18+6*k+j):jx A k<=jx (A.set c (nA A c+x)) k:=by
 rw[Td b]
 have:=a 0
 have:=a 1
 have:=a 2
 have:=a 3
 have:=a 4
 have:=a 5
 simp only[dlt];omega
def zfk{k:Nat}(b:c<A.length)(h:0<=x):jx A k-x<=jx (A.set c (nA A c+x)) k:=by
 by_cases f:c=6+k
 .rw[Td b];simp only[dlt];omega
 .by_cases a:∃j,j<6/\c=18+6*k+j
  .obtain⟨j,d,g⟩:=a;rw[Td b];simp only[dlt];omega
  .have:=Te (k:=k) b h f λj d e=>a ⟨j,d,e⟩
   omega
structure VN(A:List Int):Prop where
 g:∀i,i<6->0<=nA A i/\nA A i<=MXA
 c:∀i,i<6->0<=nA A (6+i)/\nA A (6+i)<=MXA
 f:∀i,i<6->0<=nA A (12+i)/\nA A (12+i)<=nA A (6+i)
 d:∀i,i<6->nA A (18+6*i+i)=0
 r:∀i j,i<6->j<6->0<=nA A (18+6*i+j)/\nA A (18+6*i+j)<=MXA
 l:∀k,k<6->0<=jx A k
 s:(gL A).sum<=MXA
def BU:nI A=true↔VN A:=by
 unfold nI;rw[oM,oM,jS,jS,oP];constructor
 .rintro⟨⟨o,p⟩,q⟩;have e:∀i,i<6->Tq A i=true:=λi a=>o i (by simpa using a);have n:∀i,i<6->((((okA (nA A i)=true/\okA (nA A (6+i))=true)/\okA (nA A (12+i))=true)/\nA A (12+i)<=nA A (6+i))/\nA A (18+6*i+i)=0)/\∀j,j<6->okA (nA A (18+6*i+j))=true:=λi a=>by
   have:=e i a
   unfold Tq at this;simp only[oM,oP,jS]at this;exact⟨this.1,λj b=>this.2 j (by simpa using b)⟩
  exact⟨λi a=>sR.1 (n i a).1.1.1.1.1,λi a=>sR.1 (n i a).1.1.1.1.2,λi a=>⟨(sR.1 (n i a).1.1.1.2).1,(n i a).1.1.2⟩,λi a=>(n i a).1.2,λi j a b=>sR.1 ((n i a).2 j b),λk m=>by simpa using p k (by simpa using m),q⟩
 .intro h;refine⟨⟨λi a=>?_,λk m=>by simpa using h.l k (by simpa using m)⟩,h.s⟩;have a:i<6:=by simpa using a
  unfold Tq;simp only[oM,oP,jS];exact⟨⟨⟨⟨⟨sR.2 (h.g i a),sR.2 (h.c i a)⟩,sR.2 ⟨(h.f i a).1,Int.le_trans (h.f i a).2 (h.c i a).2⟩⟩,(h.f i a).2⟩,h.d i a⟩,λj b=>sR.2 (h.r i j a (by simpa using b))⟩
def PD(A:List Int):(gL A).sum=nA A 0+nA A 1+nA A 2+nA A 3+nA A 4+nA A 5:=by simp only[gL,show List.range 6=[0,1,2,3,4,5]from rfl,jK,List.map_nil,List.sum_cons,List.sum_nil];omega
def zbp(H:A.length=54)(h:VN A)(t:0<=x)(I:c<54)(F:nA A c+x<=MXA)(p:∀i,i<6->c=12+i->nA A (12+i)+x<=nA A (6+i))(C:∀i,i<6->c≠18+6*i+i)(E:∀k,k<6->(c=6+k\/∃j,j<6/\c=18+6*k+j)->x<=jx A k)(D:c<6->nA A c+x<=M47/\∀i,i<6->nA A i<=M47):VN (A.set c (nA A c+x)):=by
 have a:c<A.length:=by omega
 have o:∀j,nA A j<=nA (A.set c (nA A c+x)) j:=λj=>by rw[oy a];have:=kg (c:=c) (j:=j) t;omega
 have u:∀j,nA A j<=MXA->nA (A.set c (nA A c+x)) j<=MXA:=λj n=>by
  rw[oy a];by_cases e:j=c
  .subst e;rw[xk];exact F
  .rw[ja e];omega
 refine⟨λi m=>⟨Int.le_trans (h.g i m).1 (o _),u _ (h.g i m).2⟩,λi m=>⟨Int.le_trans (h.c i m).1 (o _),u _ (h.c i m).2⟩,λi m=>⟨Int.le_trans (h.f i m).1 (o _),?_⟩,λi m=>?_,λi j m n=>⟨Int.le_trans (h.r i j m n).1 (o _),u _ (h.r i j m n).2⟩,λk y=>?_,?_⟩
 .have w:=o (6+i);by_cases e:c=12+i
  .have:=p i m e
   rw[oy a (12+i),show dlt c x (12+i)=x by rw[e];exact xk];omega
  .rw[oy a (12+i),ja (λz => e z.symm)]
   have:=(h.f i m).2;omega
 .rw[oy a,ja (λe=>C i m e.symm),h.d i m];rfl
 .by_cases q:c=6+k\/∃j,j<6/\c=18+6*k+j
  .have:=E k y q
   have:=zfk (k:=k) a t
   omega
  .have:=Te (k:=k) a t (λe=>q (.inl e)) (λj n e=>q (.inr ⟨j,n,e⟩))
   have:=h.l k y;omega
 .rw[PD];have G:=h.s;rw[PD]at G;by_cases e:c<6
  .obtain⟨B,w⟩:=D e;have b:∀i,i<6->nA (A.set c (nA A c+x)) i<=M47:=λi m=>by
    rw[oy a];by_cases v:i=c
    .subst v;rw[xk];exact B
    .rw[ja v];have:=w i m;omega
   have:=b 0 oo
   have:=b 1 oo
   have:=b 2 oo
   have:=b 3 oo
   have:=b 4 oo
   have:=b 5 oo
   simp only[M47,MXA]at *;omega
  .rw[oy a 0,oy a 1,oy a 2,oy a 3,oy a 4,oy a 5]
   repeat rw[ja oo]
   omega
section
variable {N:List ND}{id:Int}
def nD:cK N id=true↔∃x∈N,x.id=id:=by simp[cK]
def lu:dB (tr N) id=cK N id:=by unfold dB tr cK;rw[List.any_map];rfl
def mc{x y:ND}:∀{N:List ND},y∈dP x N↔y=x\/y∈N
 | []=>by simp[dP]
 | z::N=>by
  unfold dP;split
  .simp
  .rw[oO,mc (N:=N),oO];constructor
   .rintro(h|h|h)
    .exact .inr (.inl h)
    .exact .inl h
    .exact .inr (.inr h)
   .rintro(h|h|h)
    .exact .inr (.inl h)
    .exact .inl h
    .exact .inr (.inr h)
def ZE{x:ND}:∀{N:List ND},(dP x N).length=N.length+1
 | []=>rfl
 | z::N=>by
  unfold dP;split
  .rfl
  .simp[ZE (N:=N)]
def Xz{x y:ND}(h:x.id≠y.id):∀{N:List ND},dP x (dP y N)=dP y (dP x N)
 | []=>by
  simp only[dP];by_cases a:x.id<y.id
  .rw[oJ a,oI oo]
  .rw[oI a,oJ oo]
 | z::N=>by
  by_cases b:x.id<z.id<;>by_cases c:y.id<z.id
  .by_cases a:x.id<y.id
   .simp[dP,b,c,a,show ¬y.id<x.id by omega]
   .simp[dP,b,c,a,show y.id<x.id by omega]
  .simp[dP,b,c,show x.id<y.id\/True from .inr trivial,show ¬y.id<x.id by omega]
  .simp[dP,b,c,show ¬x.id<y.id by omega]
  .simp[dP,b,c,Xz h (N:=N)]
def xI{x:ND}:∀{N:List ND},N.Pairwise (·.id < ·.id)->(∀y∈N,y.id≠x.id)->(dP x N).Pairwise (·.id < ·.id)
 | [],_,_=>by simp[dP]
 | z::N,h,hn=>by
  rw[List.pairwise_cons]at h;unfold dP;split
  .rename_i b;rw[List.pairwise_cons,List.pairwise_cons];refine⟨λy a=>?_,h⟩;rcases oO.1 a with rfl|a
   .exact b
   .have:=h.1 y a;omega
  .rename_i b;rw[List.pairwise_cons];refine⟨λy a=>?_,xI h.2 λy a=>hn y (by simp[a])⟩;rcases mc.1 a with rfl|a
   .have:=hn z oB;omega
   .exact h.1 y a
def SZ{x:ND}{g:ND->ND}(a:g x=x)(b:∀y,(g y).id=y.id):∀{N:List ND},dP x (N.map g)=(dP x N).map g
 | []=>by simp[dP,a]
 | z::N=>by
  simp only[jK,dP,b];split
  .simp[a]
  .simp[SZ a b (N:=N)]
def SR{p:ND->Bool}{x:ND}(b:N.Pairwise (·.id < ·.id))(d:x∈N)(c:∀y,p y=true↔y.id=x.id):N.find? p=some x:=by
 induction N with
 | nil=>simp at d
 | cons z N ih =>
  rw[List.pairwise_cons]at b;by_cases e:z=x
  .subst e;rw[List.find?_cons_of_pos ((c z).2 rfl)]
  .have a:x∈N:=by rcases oO.1 d with h|h;exact qI h.symm e;exact h
   have : ¬p z=true:=λh=>by
    have f:=(c z).1 h
    have:=b.1 x a;omega
   rw[List.find?_cons_of_neg this];exact ih b.2 a
def Ex{x:ND}(a:N.Pairwise (·.id < ·.id))(b:x∈N):aN N x.id=x.A:=by unfold aN;rw[SR a b (λy=>by simp)]
def zL(h:cK N id=true):∃x∈N,x.id=id:=nD.1 h
def zdj{x y:ND}(b:N.Pairwise (·.id < ·.id))(d:x∈N)(e:y∈N)(h:x.id=y.id):x=y:=by have c:=SR (p:=λz=>z.id==x.id) b d (λy=>by simp);have a:=SR (p:=λz=>z.id==x.id) b e (λz=>by simp[h]);rw[c]at a;exact Option.some.inj a
def ig{ids:List Int}(y:ND):(dT ids c v y).id=y.id/\(dT ids c v y).par=y.par:=by unfold dT;split<;>exact⟨rfl,rfl⟩
def BI{ids:List Int}{y:ND}(h:y.id∈ids):dT ids c v y={y with A:=y.A.set c (nA y.A c+v)}:=by unfold dT;rw[oJ (List.contains_iff_mem.2 h)]
def zD{ids:List Int}{y:ND}(h:y.id∉ids):dT ids c v y=y:=by unfold dT;rw[oI (λa=>h (List.contains_iff_mem.1 a))]
def zac{y:Int}(h:c≠d):(A.set c (nA A c+x)).set d (nA (A.set c (nA A c+x)) d+y)=(A.set d (nA A d+y)).set c (nA (A.set d (nA A d+y)) c+x):=by
 have a:nA (A.set c (nA A c+x)) d=nA A d:=by unfold nA;simp[List.getD,h]
 have b:nA (A.set d (nA A d+y)) c=nA A c:=by unfold nA;simp[List.getD,show ¬d=c from λe=>h e.symm]
 rw[a,b,List.set_comm _ _ h]
def zcS{ids:List Int}(h:c≠d)(y:ND):dT ids c v (dT U0 d r y)=dT U0 d r (dT ids c v y):=by obtain⟨i,p,A⟩:=y;by_cases a:i∈ids<;>by_cases b:i∈U0<;>simp only[dT,List.contains_iff_mem,a,b,if_true,if_false];rw[zac (A:=A) (x:=v) (y:=r) h]
def zej{g:ND->ND}(a:∀y,(g y).id=y.id/\(g y).par=y.par):tr (N.map g)=tr N:=by unfold tr;rw[jH];refine List.map_congr_left λy _=>?_;show ((g y).id,(g y).par)=_;rw[(a y).1,(a y).2]
def Zx{g:ND->ND}(a:∀y,(g y).id=y.id):cK (N.map g) id=cK N id:=by
 unfold cK;rw[List.any_map]
 congr 1
 funext y;show ((g y).id==id)=_;rw[a]
def Nb{x:ND}:cK (dP x N) id=(decide (x.id=id) || cK N id):=by
 rw[Bool.eq_iff_iff,nD,jR,nD,oP];constructor
 .rintro⟨y,a,h⟩;rcases mc.1 a with rfl|a
  .exact .inl h
  .exact .inr ⟨y,a,h⟩
 .rintro(h|⟨y,a,h⟩)
  .exact⟨x,mc.2 (.inl rfl),h⟩
  .exact⟨y,mc.2 (.inr a),h⟩
def NC{g:ND->ND}(a:∀y,(g y).id=y.id){o:Int}:jb (N.map g) o=jb N o:=by
 unfold jb;rw[List.filter_map,oY]
 congr 2
 funext y;show decide ((g y).id / M40=o)=_;rw[a]
def NA{x:ND}{o:Int}:jb (dP x N) o=jb N o+if x.id / M40=o then 1 else 0:=by
 unfold jb
 induction N with
 | nil=>simp only[dP];by_cases h:x.id / M40=o<;>simp[h]
 | cons z N ih =>
  unfold dP;split
  .by_cases h:x.id / M40=o<;>simp[h]
  .by_cases a:z.id / M40=o
   .rw[List.filter_cons_of_pos (by simpa using a),List.filter_cons_of_pos (by simpa using a),oZ,oZ,ih];omega
   .rw[List.filter_cons_of_neg (by simpa using a),List.filter_cons_of_neg (by simpa using a),ih]
def zJ{o s:Int}(a:0<=s)(b:s<M40):(o*M40+s) / M40=o:=by
 have:(o*M40+s) / M40=o+s / M40:=by rw[Int.add_comm,Int.add_mul_ediv_right _ _ dc,Int.add_comm]
 rw[this,Int.ediv_eq_zero_of_lt a b];omega
def Wy(h:∀x∈N,∃o q:Int,1<=o/\o<=6/\1<=q/\q<M40/\x.id=o*M40+q):N.length=jb N 1+jb N 2+jb N 3+jb N 4+jb N 5+jb N 6:=by
 induction N with
 | nil=>rfl
 | cons x N d =>
  have d:=d λy g=>h y (by simp[g]);obtain⟨o,q,i,j,k,e,f⟩:=h x oB;have c:x.id / M40=o:=by rw[f];exact zJ oo e
  have a:∀p:Int,jb (x::N) p=jb N p+if o=p then 1 else 0:=λp=>by
   unfold jb;by_cases b:o=p
   .rw[List.filter_cons_of_pos (by simp[c,b]),oJ b];rfl
   .rw[List.filter_cons_of_neg (by simp[c,b]),oI b];rfl
  rw[oZ,a,a,a,a,a,a]
  have:o=1\/o=2\/o=3\/o=4\/o=5\/o=6:=by omega
  rcases this with rfl|rfl|rfl|rfl|rfl|rfl<;>simp<;>omega
end
section
variable {T':List (Int×Int)}{rk:Int->Nat}
def zhD{id:Int}(h:dB T id=true):WS T id<T.length/\((T.getD (WS T id) (0,0)).1=id):=by
 obtain⟨x,c,b⟩:=iA.1 h;have a:WS T id<T.length:=List.findIdx_lt_length_of_exists ⟨x,c,by simp[b]⟩;refine⟨a,?_⟩
 have:=List.findIdx_getElem (w:=a) (p:=λx:Int×Int=>x.1==id)
 rw[oN,gE a,Option.getD_some];exact beq_iff_eq.1 this
def qd{id:Int}(h:dB T id=true):(id,fm T id)∈T:=by
 obtain⟨a,b⟩:=zhD h
 have:T.getD (WS T id) (0,0)∈T:=by
  rw[oN,gE a];exact List.getElem_mem _
 have e:T.getD (WS T id) (0,0)=(id,fm T id):=Prod.ext b rfl;rw[<-e];exact this
def HA{id p:Int}(b:∀x∈T,∀y∈T,x.1=y.1->x=y)(h:(id,p)∈T):fm T id=p:=by
 have a:dB T id=true:=iA.2 ⟨_,h,rfl⟩
 have:=b _ (qd a) _ h rfl
 exact qH Prod.snd this
def Kj(b:TK T rk):∀(f g:Nat) (id:Int),upT T rk id<=f->upT T rk id<=g->cU T f id=cU T g id
 | 0,0,_,_,_=>rfl
 | f+1,g,id,h1,h2=>by
  cases a:dB T id with
  | false =>
   cases g with
   | zero=>simp[cU,a]
   | succ g=>simp[cU,a]
  | true =>
   have k:upT T rk id=rk id+1:=by unfold upT;rw[a]
   obtain⟨g,rfl⟩:∃h,g=h+1:=⟨g-1,by omega⟩
   have m:upT T rk (fm T id)<=rk id:=by
    have j:=qd a;unfold upT;cases d:dB T (fm T id)with
    | false=>exact qG _
    | true =>
     rcases b.up _ j with i|⟨y,n,e,c⟩
     .exfalso;obtain⟨z,l,e⟩:=iA.1 d;exact b.nz z l (e.trans i)
     .show rk (fm T id)+1<=rk id;have e:y.1=fm T id:=e;rw[<-e];exact c
   simp only[cU,a,if_true];rw[Kj b f g (fm T id) oo oo]
 | 0,g+1,id,h1,h2=>by
  cases a:dB T id with
  | false=>simp[cU,a]
  | true =>
   have k:upT T rk id=rk id+1:=by unfold upT;rw[a]
   omega
def ZZ(a:TK T rk)(c:dB T' 0=false)(b:∀id,dB T id=true->dB T' id=true/\fm T' id=fm T id):∀(f:Nat) (id:Int),dB T id=true\/id=0->cU T' f id=cU T f id
 | 0,_,_=>rfl
 | f+1,id,h=>by
  rcases h with h|rfl
  .obtain⟨g,i⟩:=b id h;simp only[cU,h,g,if_true,i];rw[ZZ a c b f];rcases a.up _ (qd h)with d|⟨y,l,e,_⟩
   .exact .inr d
   .exact .inl (iA.2 ⟨y,l,e⟩)
  .have:dB T 0=false:=by
    cases j:dB T 0 with
    | false=>rfl
    | true =>
     obtain⟨x,k,e⟩:=iA.1 j;exact qI e (a.nz x k)
   simp[cU,c,this]
def za0:∀(f:Nat) (id:Int),∀x∈cU T f id,dB T x=true
 | 0,_,_,h=>by simp[cU]at h
 | f+1,id,x,h=>by
  unfold cU at h;split at h
  .rename_i a;rcases oO.1 h with rfl|h
   .exact a
   .exact za0 f _ x h
  .simp at h
end
section
variable {N:List ND}{id:Int}
def rA(h:x∈cB N id):cK N x=true:=by rw[<-lu];exact za0 _ _ x h
def Re(g:N.Pairwise (·.id < ·.id)):∀x∈tr N,∀y∈tr N,x.1=y.1->x=y:=by
 intro x c y d h;unfold tr at c d;obtain⟨a,e,rfl⟩:=qU.1 c;obtain⟨b,f,rfl⟩:=qU.1 d
 have:=zdj g e f h
 rw[this]
def zdJ{x:ND}(m:N.Pairwise (·.id < ·.id))(a:∃rk,TK (tr N) rk)(g:cK N x.id=false)(j:x.id≠0)(h:cK N id=true\/id=0):cB (dP x N) id=cB N id:=by
 obtain⟨rk,a⟩:=a;have k:∀y∈N,y.id≠x.id:=λy c e=>by rw[nD.2 ⟨y,c,e⟩]at g;cases g
 have f:=xI m k;have n:dB (tr (dP x N)) 0=false:=by
  rw[lu,Nb,qE j,Bool.false_or, <-lu];cases l:dB (tr N) 0 with
  | false=>rfl
  | true =>
   obtain⟨y,c,e⟩:=iA.1 l;exact qI e (a.nz y c)
 have b:∀id,dB (tr N) id=true->dB (tr (dP x N)) id=true/\fm (tr (dP x N)) id=fm (tr N) id:=by
  intro i d;refine⟨?_,?_⟩
  .rw[lu,Nb];rw[lu]at d;rw[d,Bool.or_true]
  .refine HA (Re f) ?_
   have:=qd d
   unfold tr at this |-;obtain⟨y,c,e⟩:=qU.1 this;exact qU.2 ⟨y,mc.2 (.inr c),e⟩
 unfold cB eA;rw[ZZ a n b _ _ (by rw[lu];exact h)];exact Kj a _ _ _ (by have:=Fv a id;unfold tr at *; simp[ZE]at *; omega) (by have:=Fv a id;omega)
def zdK{g:ND->ND}(a:∀y,(g y).id=y.id/\(g y).par=y.par):cB (N.map g) id=cB N id:=by unfold cB;rw[zej a]
end
section
variable {G:List GR}
def zhn{x:GR}:¬ltG x x:=by unfold ltG;omega
def zdt{x y z:GR}(h:ltG x y)(k:ltG y z):ltG x z:=by unfold ltG at *; omega
def Ej{x y:GR}:∀{G:List GR},y∈ky x G↔y=x\/y∈G
 | []=>by simp[ky]
 | z::G=>by
  unfold ky;split
  .simp
  .rw[oO,Ej (G:=G),oO];constructor
   .rintro(h|h|h)
    .exact .inr (.inl h)
    .exact .inl h
    .exact .inr (.inr h)
   .rintro(h|h|h)
    .exact .inr (.inl h)
    .exact .inl h
    .exact .inr (.inr h)
def Xy{x y:GR}(h:x.o≠y.o):∀{G:List GR},ky x (ky y G)=ky y (ky x G)
 | []=>by
  simp only[ky];by_cases a:ltG x y
  .rw[oJ a,oI (by unfold ltG at *; omega)]
  .rw[oI a,oJ (by unfold ltG at *; omega)]
 | z::G=>by
  by_cases b:ltG x z<;>by_cases c:ltG y z
  .by_cases a:ltG x y
   .simp[ky,b,c,a,show ¬ltG y x by unfold ltG at *; omega]
   .simp[ky,b,c,a,show ltG y x by unfold ltG at *; omega]
  .simp[ky,b,c,show ¬ltG y x by unfold ltG at *; omega]
  .simp[ky,b,c,show ¬ltG x y by unfold ltG at *; omega]
  .simp[ky,b,c,Xy h (G:=G)]
def KN{x:GR}:∀{G:List GR},G.Pairwise ltG->(∀y∈G,¬(y.o=x.o/\y.q=x.q))->(ky x G).Pairwise ltG
 | [],_,_=>by simp[ky]
 | z::G,h,hn=>by
  rw[List.pairwise_cons]at h;unfold ky;split
  .rename_i b;rw[List.pairwise_cons,List.pairwise_cons];refine⟨λy a=>?_,h⟩;rcases oO.1 a with rfl|a
   .exact b
   .exact zdt b (h.1 y a)
  .rename_i b;rw[List.pairwise_cons];refine⟨λy a=>?_,KN h.2 λy a=>hn y (by simp[a])⟩;rcases Ej.1 a with rfl|a
   .have:=hn z oB;unfold ltG at *; omega
   .exact h.1 y a
def SY{x:GR}{g:GR->GR}(b:g x=x)(a:∀y,(g y).o=y.o/\(g y).q=y.q):∀{G:List GR},ky x (G.map g)=(ky x G).map g
 | []=>by simp[ky,b]
 | z::G=>by
  have e:ltG x (g z)↔ltG x z:=by unfold ltG;rw[(a z).1,(a z).2]
  simp only[jK,ky];by_cases h:ltG x z
  .rw[oJ (e.2 h),oJ h];simp[b]
  .rw[oI (λc=>h (e.1 c)),oI h,jK,SY b a (G:=G)]
def Zu{x:GR}{o q:Int}(h : ¬(x.o=o/\x.q=q)):∀{G:List GR},lr (ky x G) o q=lr G o q
 | []=>by
  have:(x.o==o&&x.q==q)=false:=by
   cases a:(x.o==o&&x.q==q)with
   | false=>rfl
   | true=>rw[oM,beq_iff_eq,beq_iff_eq]at a;exact qI a h
  simp[lr,ky,List.find?,this]
 | z::G=>by
  have a:(x.o==o&&x.q==q)=false:=by
   cases a:(x.o==o&&x.q==q)with
   | false=>rfl
   | true=>rw[oM,beq_iff_eq,beq_iff_eq]at a;exact qI a h
  unfold ky;split
  .simp[lr,List.find?,a]
  .have b:=Zu h (G:=G);unfold lr at b |-;simp only[List.find?_cons];split
   .rfl
   .exact b
def ST{g:GR->GR}{o q:Int}(b:∀y,(g y).o=y.o/\(g y).q=y.q)(c:∀y,y.o=o->y.q=q->g y=y):∀{G:List GR},lr (G.map g) o q=lr G o q
 | []=>rfl
 | z::G=>by
  have d:=ST b c (G:=G);unfold lr at d |-;simp only[jK,List.find?_cons,(b z).1,(b z).2];cases a:(z.o==o&&z.q==q)with
  | false=>exact d
  | true =>
   rw[oM,beq_iff_eq,beq_iff_eq]at a;show some (g z)=some z;rw[c z a.1 a.2]
def yR{o q:Int}{g:GR}(h:lr G o q=some g):g∈G/\g.o=o/\g.q=q:=by unfold lr at h;have b:=List.mem_of_find?_eq_some h;have a:=List.find?_some h;rw[oM,beq_iff_eq,beq_iff_eq]at a;exact⟨b,a⟩
end
section
variable {S E:Type}(eff:E->S->S)(ok:E->S->Prop)
def dU(s:S)(l:List E):S:=l.foldl (λs e=>eff e s) s
def okL:S->List E->Prop
 | _,[]=>True
 | s,e::l=>ok e s/\okL (eff e s) l
variable {eff ok}
def qf{s:S}{l l':List E}:dU eff s (l++l')=dU eff (dU eff s l) l':=by unfold dU;rw[List.foldl_append]
def sS{l':List E}:∀{l:List E} {s:S},okL eff ok s (l++l')↔okL eff ok s l/\okL eff ok (dU eff s l) l'
 | [],s=>by simp[okL,dU]
 | e::l,s=>by
  have:=sS (l':=l') (l:=l) (s:=eff e s)
  simp only[jF,okL,this,and_assoc];rfl
structure Sys(eff:E->S->S) (ok:E->S->Prop) (org:E->Nat) (Inv:S->Prop):Prop where
 inv:∀e s,Inv s->ok e s->Inv (eff e s)
 dia:∀e f s,Inv s->org f≠org e->ok e s->ok f s->ok f (eff e s)/\eff f (eff e s)=eff e (eff f s)
variable {org:E->Nat}{Inv:S->Prop}(H:Sys eff ok org Inv)
include H
def Sys.invs:∀{l:List E} {s:S},Inv s->okL eff ok s l->Inv (dU eff s l)
 | [],_,h,_=>h
 | e::_,s,h,k=>Sys.invs (s:=eff e s) (H.inv e s h k.1) k.2
def Sys.push{e:E}:∀{l:List E} {s:S},Inv s->ok e s->okL eff ok s l->(∀f∈l,org f≠org e)->ok e (dU eff s l)/\okL eff ok (eff e s) l/\dU eff (eff e s) l=eff e (dU eff s l)
 | [],_,_,h,_,_=>⟨h,trivial,rfl⟩
 | f::l,s,hi,he,hl,ho=>by
  have c:org f≠org e:=ho f oB;have a:=H.dia e f s hi c he hl.1;have d:=H.dia f e s hi (λh=>c h.symm) hl.1 he;have b:=Sys.push (l:=l) (s:=eff f s) (H.inv f s hi hl.1) d.1 hl.2 λg i=>ho g (by simp[i]);refine⟨b.1,⟨a.1,?_⟩,?_⟩
  .rw[a.2];exact b.2.1
  .show dU eff (eff f (eff e s)) l=_;rw[a.2];exact b.2.2
end
section
variable {S E:Type}{eff:E->S->S}{ok:E->S->Prop}{org:E->Nat}{seq:E->Int}{dep:E->Nat->Int}{Inv:S->Prop}{s0:S}
def kn(org:E->Nat)(seq:E->Int)(D:Nat->Int)(e:E):Bool:=decide (seq e<=D (org e))
def Closed(org:E->Nat)(seq:E->Int)(dep:E->Nat->Int)(l:List E)(D:Nat->Int):Prop:=∀f∈l,seq f<=D (org f)->∀k,dep f k<=D k
inductive Hist (eff:E->S->S) (ok:E->S->Prop) (org:E->Nat) (seq:E->Int) (dep:E->Nat->Int) (s0:S):List E->Prop
 | nil:Hist eff ok org seq dep s0 []
 | snoc {l:List E} {e:E}:Hist eff ok org seq dep s0 l->(∀f∈l,org f=org e->seq f<seq e)->dep e (org e)=seq e-1->Closed org seq dep l (dep e)->ok e (dU eff s0 (l.filter (kn org seq (dep e))))->Hist eff ok org seq dep s0 (l++[e])
def stD(eff:E->S->S)(org:E->Nat)(seq:E->Int)(s0:S)(l:List E)(D:Nat->Int):S:=dU eff s0 (l.filter (kn org seq D))
def Closed.sub{l l':List E}{D:Nat->Int}(h:Closed org seq dep (l++l') D):Closed org seq dep l D:=λf a=>h f (List.mem_append_left _ a)
def zlf{D:Nat->Int}{e:E}:kn org seq D e=true↔seq e<=D (org e):=by simp[kn]
def EC{p:E->Bool}{l:List E}{e:E}:(l++[e]).filter p=if p e=true then l.filter p++[e]else l.filter p:=by
 rw[List.filter_append];split
 .rename_i h;rw[List.filter_cons_of_pos h];rfl
 .rename_i h;rw[List.filter_cons_of_neg h];simp
def knd(org:E->Nat)(seq:E->Int)(D D':Nat->Int)(e:E):Bool:=kn org seq D' e && !kn org seq D e
def Hist.main(H:Sys eff ok org Inv)(s:Inv s0){l:List E}(A:Hist eff ok org seq dep s0 l):∀D D':Nat->Int,(∀k,D k<=D' k)->Closed org seq dep l D->Closed org seq dep l D' ->
  okL eff ok s0 (l.filter (kn org seq D))/\okL eff ok s0 (l.filter (kn org seq D'))/\okL eff ok (dU eff s0 (l.filter (kn org seq D))) (l.filter (knd org seq D D')) /\
  dU eff (dU eff s0 (l.filter (kn org seq D))) (l.filter (knd org seq D D'))=dU eff s0 (l.filter (kn org seq D')):=by
 induction A with
 | nil=>intro D D' _ _ _;simp[okL,dU]
 | @snoc l e hl hs hd hc hok ih =>
  intro D D' t r c;have a:=ih D D' t r.sub c.sub
  have u:∀D',Closed org seq dep (l++[e]) D'->seq e<=D' (org e)->ok e (dU eff s0 (l.filter (kn org seq D'))):=by
   intro D' c z;have q:=c e oB z;obtain⟨v,F,w,x⟩:=ih (dep e) D' q hc c.sub
   have:=(H.push (H.invs s v) hok w (λf g=>?_)).1
   .rw[x]at this;exact this
   .rw[qV]at g;obtain⟨g,b⟩:=g;intro i;unfold knd at b;rw[oM,Bool.not_eq_true']at b;have y:=hs f g i;have p:kn org seq (dep e) f=true:=zlf.2 (by rw[i,hd];omega);rw[p]at b;exact qI b.2 oB
  rw[EC,EC,EC];by_cases o:seq e<=D' (org e)
  .have j:kn org seq D' e=true:=zlf.2 o;rw[oJ j];have d:=u D' c o;by_cases h:seq e<=D (org e)
   .have k:kn org seq D e=true:=zlf.2 h;have m : ¬knd org seq D D' e=true:=by simp[knd,k]
    rw[oJ k,oI m];have n:=u D r h;obtain⟨G,B,C⟩:=H.push (H.invs s a.1) n a.2.2.1 (λf g=>by
     rw[qV]at g;obtain⟨g,b⟩:=g;intro i;unfold knd at b;rw[oM,Bool.not_eq_true']at b;have y:=hs f g i;have p:kn org seq D f=true:=zlf.2 (by rw[i];omega);rw[p]at b;exact qI b.2 oB)
    refine⟨sS.2 ⟨a.1,n,trivial⟩,sS.2 ⟨a.2.1,d,trivial⟩,?_,?_⟩
    .rw[qf];exact B
    .rw[qf,qf];show dU eff (eff e _) _=eff e _;rw[C,a.2.2.2]
   .have k : ¬kn org seq D e=true:=λb=>h (zlf.1 b);have m:knd org seq D D' e=true:=by simp[knd,k,j]
    rw[oI k,oJ m];refine⟨a.1,sS.2 ⟨a.2.1,d,trivial⟩,sS.2 ⟨a.2.2.1,?_,trivial⟩,?_⟩
    .rw[a.2.2.2];exact d
    .rw[qf,qf,a.2.2.2]
  .have j:¬kn org seq D' e=true:=λb=>o (zlf.1 b);have k : ¬kn org seq D e=true:=λb=>o (by have:=t (org e);have:=zlf.1 b;omega);have m : ¬knd org seq D D' e=true:=by simp[knd,j]
   rw[oI k,oI j,oI m];exact a
def Hist.oks(H:Sys eff ok org Inv)(b:Inv s0){l:List E}(c:Hist eff ok org seq dep s0 l){D:Nat->Int}(a:Closed org seq dep l D):okL eff ok s0 (l.filter (kn org seq D)):=(c.main H b D D (λ_=>Int.le_refl _) a a).1
def Hist.inv(H:Sys eff ok org Inv)(a:Inv s0){l:List E}(c:Hist eff ok org seq dep s0 l){D:Nat->Int}(b:Closed org seq dep l D):Inv (stD eff org seq s0 l D):=H.invs a (c.oks H a b)
def Hist.uniq{l:List E}(k:Hist eff ok org seq dep s0 l):l.Nodup/\∀e∈l,∀f∈l,org e=org f->seq e=seq f->e=f:=by
 induction k with
 | nil=>simp
 | @snoc l e hl hs hd hc hok ih =>
  refine⟨?_,?_⟩
  .rw[List.nodup_append];refine⟨ih.1,by simp,λa i b h=>?_⟩;simp only[List.mem_singleton]at h;subst h;rintro rfl
   have:=hs a i rfl
   omega
  .intro a i b h g j;rcases oU.1 i with c|c<;>rcases oU.1 h with d|d
   .exact ih.2 a c b d g j
   .rw[mS d]at g j
    have:=hs a c g;omega
   .rw[mS c]at g j
    have:=hs b d g.symm;omega
   .rw[mS c,mS d]
def UO{p:E->Bool}{e:E}:∀{l:List E},l.Nodup->e∈l->(∀f∈l,p f=true↔f=e)->l.filter p=[e]
 | a::l,hn,he,hp=>by
  rw[jG]at hn;by_cases c:a=e
  .subst c;rw[List.filter_cons_of_pos ((hp a oB).2 rfl)]
   congr 1
   rw[List.filter_eq_nil_iff];intro f b g
   have:=(hp f (by simp[b])).1 g
   subst this;exact hn.1 b
  .have : ¬p a=true:=λh=>c ((hp a oB).1 h)
   rw[List.filter_cons_of_neg this];have d:e∈l:=by rcases oO.1 he with h|h;exact qI h.symm c;exact h
   exact UO hn.2 d λf b=>hp f (by simp[b])
def upD(D:Nat->Int)(k:Nat)(x:Int):Nat->Int:=λj=>if j=k then x else D j
def Hist.next(H:Sys eff ok org Inv)(t:Inv s0){l:List E}(q:Hist eff ok org seq dep s0 l){D:Nat->Int}(o:Closed org seq dep l D){e:E}(p:e∈l)(w:D (org e)=seq e-1)(v:∀k,dep e k<=D k):ok e (stD eff org seq s0 l D)/\eff e (stD eff org seq s0 l D)=stD eff org seq s0 l (upD D (org e) (seq e))/\Closed org seq dep l (upD D (org e) (seq e)):=by
 have c:∀k,D k<=upD D (org e) (seq e) k:=λk=>by unfold upD;split;subst_vars;omega;omega
 have s:=q.uniq;have g:∀f∈l,seq f<=upD D (org e) (seq e) (org f)->¬seq f<=D (org f)->f=e:=λf d b a=>by
  unfold upD at b;split at b
  .rename_i r;rw[r,w]at a;exact s.2 f d e p r oo
  .exact qI b a
 have n:Closed org seq dep l (upD D (org e) (seq e)):=λf d b k=>by
  by_cases a:seq f<=D (org f)
  .exact Int.le_trans (o f d a k) (c k)
  .rw[g f d b a];exact Int.le_trans (v k) (c k)
 obtain⟨x,y,j,m⟩:=q.main H t D _ c o n;have i:l.filter (knd org seq D (upD D (org e) (seq e)))=[e]:=by
  refine UO s.1 p λf d=>⟨λh=>?_,λh=>?_⟩
  .unfold knd at h;rw[oM,Bool.not_eq_true']at h;refine g f d (zlf.1 h.1) λa=>?_;rw[zlf.2 a]at h;exact qI h.2 oB
  .subst h;have b:kn org seq (upD D (org f) (seq f)) f=true:=zlf.2 (by simp[upD]);have a:kn org seq D f=false:=by
    cases u:kn org seq D f with
    | false=>rfl
    | true=>have:=zlf.1 u;omega
   simp[knd,b,a]
 rw[i]at j m;exact⟨j.1,m,n⟩
end
section
variable {e f:EV}{s:PL}
def ov(h:co e=true):e.k=1/\0<=e.a/\e.a<=MXA\/e.k=2/\1<=e.a/\e.a<=MXA\/e.k=3/\1<=e.a/\e.a<=MXA/\1<=e.r\/e.k=4/\1<=e.r/\1<=e.f/\e.r≠e.f\/e.k=5/\1<=e.a/\e.a<=MXA/\1<=e.t/\e.t<=6/\e.t≠e.o\/e.k=6/\1<=e.t/\e.t<=6/\e.t≠e.o\/e.k=7:=by
 unfold co at h;simp only[oM]at h;have h:=h.2.2.2.2.2.2;unfold fdE smE otE bB at h;by_cases b:e.k=1
 .rw[oJ b]at h;simp only[oM,oP]at h;exact .inl ⟨b,h⟩
 rw[oI b]at h;by_cases c:e.k=2
 .rw[oJ c]at h;simp only[oM,oP]at h;exact .inr (.inl ⟨c,h⟩)
 rw[oI c]at h;by_cases d:e.k=3
 .rw[oJ d]at h;simp only[oM,oP]at h;exact .inr (.inr (.inl ⟨d,h.1.1,h.1.2,h.2⟩))
 rw[oI d]at h;by_cases g:e.k=4
 .rw[oJ g]at h;simp only[oM,oP]at h;exact .inr (.inr (.inr (.inl ⟨g,h⟩)))
 rw[oI g]at h;by_cases i:e.k=5
 .rw[oJ i]at h;simp only[oM,oP]at h;exact .inr (.inr (.inr (.inr (.inl ⟨i,h.1.1,h.1.2,h.2.1.1,h.2.1.2,h.2.2⟩))))
 rw[oI i]at h;by_cases j:e.k=6
 .rw[oJ j]at h;simp only[oM,oP]at h;exact .inr (.inr (.inr (.inr (.inr (.inl ⟨j,h.1.1,h.1.2,h.2⟩)))))
 rw[oI j]at h;exact .inr (.inr (.inr (.inr (.inr (.inr (by simpa using h))))))
def tC{V:List Int}(h:fS V e=true):e.s=V.getD e.q 0+1/\∀k,k<6->e.V.getD k 0<=V.getD k 0:=by unfold fS at h;simp only[oM,oP,jS,jQ]at h;exact h.2
def zdT{V:List Int}(c:co e=true)(a:e.s=V.getD e.q 0+1)(b:∀k,k<6->e.V.getD k 0<=V.getD k 0):fS V e=true:=by unfold fS;simp only[oM,oP,jS,jQ];exact⟨c,a,b⟩
def ue(h:co e=true):e.q<6/\e.o=(e.q:Int)+1:=by obtain⟨a,b,_⟩:=fZ h;unfold EV.q;omega
def zj1(h:co e=true)(k:co f=true)(d:e.o≠f.o):idE e≠idE f:=by obtain⟨_,_,i,c⟩:=fZ h;obtain⟨_,_,j,g⟩:=fZ k;intro h;have a:=zJ (o:=e.o) (s:=e.s) oo c;have b:=zJ (o:=f.o) (s:=f.s) oo g;unfold idE at h;rw[h]at a;exact d (a.symm.trans b)
def QT(h:co e=true):0<idE e:=by obtain⟨a,_,b,c⟩:=fZ h;unfold idE;simp only[M40];omega
def PI.new(hi:PI s)(g:co e=true)(k:fS s.V e=true):cK s.N (idE e)=false:=by
 cases j:cK s.N (idE e)with
 | false=>rfl
 | true =>
  obtain⟨x,l,h⟩:=nD.1 j;obtain⟨o,q,m,n,p,b,c,r⟩:=hi.ids x l;obtain⟨_,_,t,f⟩:=fZ g;have a:=zJ (o:=o) (s:=q) oo b;have d:=zJ (o:=e.o) (s:=e.s) oo f;rw[c]at h;unfold idE at h;rw[h]at a;have i:e.o=o:=d.symm.trans a;subst i
  have:=(tC k).1
  unfold EV.q at this;omega
def YO(p c:Nat):Prop:=c=p\/c=6+p\/c=12+p\/∃j,j<6/\j≠p/\c=18+6*p+j
def VX{p q:Nat}(g:p<6)(k:q<6)(h:p≠q)(a:YO p c)(b:YO q d):c≠d:=by rcases a with rfl|rfl|rfl|⟨j,f,_,rfl⟩<;>rcases b with rfl|rfl|rfl|⟨i,e,_,rfl⟩<;>omega
def kW(hi:PI s)(h:OK e s):(∃x,nop e s=.ins x/\x.id=idE e/\x.par=e.n/\x.A=z54.set e.q e.a/\e.k=1)\/(∃ids c v,nop e s=.bmp ids c v/\e.k≠1/\(∀i∈ids,cK s.N i=true)/\YO e.q c/\1<=v/\v<=MXA /\
  ∀i∈ids,nA (aN s.N i) c+v<=MXA/\(c<6->nA (aN s.N i) c+v<=M47)/\(c=12+e.q->nA (aN s.N i) c+v<=nA (aN s.N i) (6+e.q))/\((c=6+e.q\/18<=c)->v<=jx (aN s.N i) e.q))\/nop e s=.non/\e.k≠1:=by
 obtain⟨E,I⟩:=ue h.may;have l:∀i,cK s.N i=true->VN (aN s.N i):=λi D=>by
  obtain⟨x,u,rfl⟩:=zL D;rw[Ex hi.srt u];exact BU.1 (hi.may x u).1
 rcases ov h.may with⟨k,d,f⟩|⟨k,d,f⟩|⟨k,d,f,C⟩|⟨k,d⟩|⟨k,d,f,C,p,G⟩|⟨k,_⟩|k<;>unfold nop<;>rw[k]<;>simp only[if_true,if_false,Int.reduceEq]
 .exact .inl ⟨_,rfl,rfl,rfl,rfl,trivial⟩
 .refine .inr (.inl ⟨_,_,_,rfl,by decide,?_,.inl rfl,d,f,?_⟩)
  .intro i hi;rw[mS hi];exact(h.k2 k).1
  .intro i hi;rw[mS hi]
   have:=(h.k2 k).2
   refine⟨by simp only[MXA,M47]at *; omega,λ_=>this,λe=>by omega,λe=>by omega⟩
 .refine .inr (.inl ⟨_,_,_,rfl,by decide,λi hi=>rA hi,.inr (.inl rfl),d,f,?_⟩);intro i hi
  have:=(h.k3 k).2.2 i hi
  exact⟨this.2,λe=>by omega,λe=>by omega,λ_=>this.1⟩
 .obtain⟨_,g,r,H,p⟩:=h.k4 k;have m:gOf s e=g:=by unfold gOf;rw[r];rfl
  obtain⟨B,_,_⟩:=yR r;have o:=hi.gk g B;rw[m];refine .inr (.inl ⟨_,_,_,rfl,by decide,λi hi=>rA hi,.inr (.inr (.inl rfl)),o.2.1,o.2.2.1,?_⟩);intro i j;have a:=p i j;have b:=(l i (rA j)).c e.q E;exact⟨Int.le_trans a b.2,λe=>by omega,λ_=>a,λe=>by omega⟩
 .obtain⟨w,F,y,z⟩:=h.k5 k;refine .inr (.inl ⟨_,_,_,rfl,by decide,?_,.inr (.inr (.inr ⟨(e.t-1).toNat,by omega,by omega,rfl⟩)),d,f,?_⟩)
  .intro i hi;rw[mS hi];exact w
  .intro i hi;rw[mS hi];exact⟨z,λe=>by omega,λe=>by omega,λ_=>y⟩
 .exact .inr (.inr ⟨trivial,by decide⟩)
 .exact .inr (.inr ⟨trivial,by decide⟩)
def pb{o q b:Int}(y:GR):(mj o q b y).o=y.o/\(mj o q b y).q=y.q:=by unfold mj;split<;>exact⟨rfl,rfl⟩
def yQ{l:List α}{x d:α}(h:i<l.length):(l.set i x).getD j d=if j=i then x else l.getD j d:=by
 by_cases e:j=i
 .subst e;simp[List.getD,h]
 .have : ¬i=j:=λh=>e h.symm
  simp[List.getD,this,e]
structure Aft(e:EV) (s s':PL):Prop where
 I:∀k,s.I.getD k false=true->s'.I.getD k false=true
 L:∀k,k≠e.q->s'.L.getD k false=s.L.getD k false
 V:∀k,k≠e.q->s'.V.getD k 0=s.V.getD k 0
 Ve:s'.V.getD e.q 0=s.V.getD e.q 0+1
 R:∀k,k≠e.q->s'.R.getD k []=s.R.getD k []
 G:∀o r,o≠e.o->lr s'.G o r=lr s.G o r
 has:∀id,cK s.N id=true->cK s'.N id=true
 path:∀id,cK s.N id=true\/id=0->cB s'.N id=cB s.N id
 own:∀o,o≠e.o->jb s'.N o=jb s.N o
 loc:∀id,cK s.N id=true->∀k,k<6->k≠e.q->jx (aN s.N id) k<=jx (aN s'.N id) k
 cel:∀id,cK s.N id=true->∀k c,k<6->k≠e.q->YO k c->nA (aN s'.N id) c=nA (aN s.N id) c
def Wu(hi:PI s)(h:OK e s){x:ND}(b:x.id=idE e):∀y∈s.N,y.id≠x.id:=λy c a => by
 have:=hi.new h.may h.rdy
 rw[nD.2 ⟨y,c,a.trans b⟩]at this;cases this
def zcL(hi:PI s)(h:OK e s){x:ND}(c:x.id=idE e){id:Int}(a:cK s.N id=true):aN (dP x s.N) id=aN s.N id:=by obtain⟨y,b,rfl⟩:=zL a;rw[Ex hi.srt b,Ex (xI hi.srt (Wu hi h c)) (mc.2 (.inr b))]
def No{N:List ND}{g:ND->ND}(c:∀y,(g y).id=y.id)(d:N.Pairwise (·.id < ·.id)):(N.map g).Pairwise (·.id < ·.id):=by rw[List.pairwise_map];refine d.imp λ{a b} h=>?_;rw[c,c];exact h
def zaS(hi:PI s){ids:List Int}{id:Int}(a:cK s.N id=true):aN (s.N.map (dT ids c v)) id=if id∈ids then (aN s.N id).set c (nA (aN s.N id) c+v)else aN s.N id:=by
 obtain⟨y,b,rfl⟩:=zL a
 have:=Ex (No (λy=>(ig (ids:=ids) (c:=c) (v:=v) y).1) hi.srt) (qU.2 ⟨y,b,rfl⟩)
 rw[(ig y).1]at this;rw[this,Ex hi.srt b];split
 .rename_i h;rw[BI h]
 .rename_i h;rw[zD h]
def YA(hi:PI s){id:Int}(h:cK s.N id=true):(aN s.N id).length=54:=by obtain⟨x,a,rfl⟩:=zL h;rw[Ex hi.srt a];exact hi.A54 x a
def Ur{p:Nat}(b:p<6)(h:YO p c):c<54:=by rcases h with rfl|rfl|rfl|⟨j,a,_,rfl⟩<;>omega
def after(hi:PI s)(h:OK e s):Aft e s (eff e s):=by
 obtain⟨n,O⟩:=ue h.may;have E:e.q<s.V.length:=by rw[hi.v6];exact n
 have H:e.q<s.L.length:=by rw[hi.l6];exact n
 have J:e.q<s.R.length:=by rw[hi.r6];exact n
 have p:(eff e s).N=(nop e s).ap s.N:=rfl;refine⟨λk f=>?_,λk f=>?_,λk f=>?_,?_,λk f=>?_,λo r A=>?_,λid a=>?_,λid a=>?_,λo A=>?_,λid a k f m=>?_,λid a k c f m u=>?_⟩
 .show (yK e s.I).getD k false=true;unfold yK;split
  .by_cases w:(e.t-1).toNat<s.I.length
   .rw[yQ w];split
    .rfl
    .exact f
   .rw[List.set_eq_of_length_le oo];exact f
  .exact f
 .show (yL e s.L).getD k false=_;unfold yL;split
  .rw[yQ H,oI f]
  .rfl
 .show (Z7 e s.V).getD k 0=_;unfold Z7;rw[yQ E,oI f]
 .show (Z7 e s.V).getD e.q 0=_;unfold Z7;rw[yQ E,oJ rfl]
 .show (su e s.R).getD k []=_;unfold su;split
  .rw[yQ J,oI f]
  .rfl
 .show lr ((gop e).ap s.G) o r=_;unfold gop;split
  .exact Zu (λB=>A B.1.symm)
  .split
   .exact ST pb (λy z C=>by unfold mj;rw[oI (λB=>A (z.symm.trans B.1))])
   .rfl
 .rw[p];rcases kW hi h with⟨x,b,l,_⟩|⟨g,c,v,b,_⟩|⟨b,_⟩<;>rw[b]
  .show cK (dP x s.N) id=true;rw[Nb,a,Bool.or_true]
  .exact(Zx λy=>(ig y).1).trans a
  .exact a
 .rw[p];rcases kW hi h with⟨x,b,l,_⟩|⟨g,c,v,b,_⟩|⟨b,_⟩<;>rw[b]
  .exact zdJ hi.srt hi.tk (by rw[l];exact hi.new h.may h.rdy) (by rw[l];have:=QT h.may;omega) a
  .exact zdK λy=>ig y
  .rfl
 .rw[p];rcases kW hi h with⟨x,b,l,_⟩|⟨g,c,v,b,_⟩|⟨b,_⟩<;>rw[b]
  .show jb (dP x s.N) o=_;obtain⟨_,_,z,C⟩:=fZ h.may;rw[NA,l,show idE e / M40=e.o from zJ oo C,oI (λe=>A e.symm),qW]
  .exact NC λy=>(ig y).1
  .rfl
 .rw[p];rcases kW hi h with⟨x,b,l,_⟩|⟨g,c,v,b,_,_,u,z,_⟩|⟨b,_⟩<;>rw[b]
  .show _<=jx (aN (dP x s.N) id) k;rw[zcL hi h l a];exact Int.le_refl _
  .show _<=jx (aN (s.N.map (dT g c v)) id) k;rw[zaS hi a];split
   .have w:=YA hi a;refine Te (by rw[w];exact Ur n u) oo (λe=>VX n f (λe=>m e.symm) u (.inr (.inl rfl)) e) λj M e=>?_;rcases u with rfl|rfl|rfl|⟨i,F,_,rfl⟩<;>omega
   .exact Int.le_refl _
  .exact Int.le_refl _
 .rw[p];rcases kW hi h with⟨x,b,l,_⟩|⟨g,d,v,b,_,_,D,z,_⟩|⟨b,_⟩<;>rw[b]
  .show nA (aN (dP x s.N) id) c=_;rw[zcL hi h l a]
  .show nA (aN (s.N.map (dT g d v)) id) c=_;rw[zaS hi a];split
   .have w:=YA hi a;rw[oy (by rw[w];exact Ur n D),ja (VX f n m u D)];omega
   .rfl
  .rfl
def OK.kept(hi:PI s)(h:OK e s)(i:OK f s)(y:f.o≠e.o):OK f (eff e s):=by
 have a:=after hi h;obtain⟨F,D⟩:=ue h.may;obtain⟨m,E⟩:=ue i.may;have b:f.q≠e.q:=λe=>y oo;obtain⟨B,C⟩:=tC i.rdy;have w:∀{id},id∈cB s.N f.n->cK s.N id=true:=λh=>rA h;refine⟨i.may,zdT i.may (by rw[a.V _ b];exact B) (λk A=>?_),a.I _ i.inI,(a.L _ b).trans i.notL,λk=>?_,λk=>?_,λk=>?_,λk=>?_,λk=>?_⟩
 .have:=C k A
  by_cases e:k=e.q
  .subst e;rw[a.Ve];omega
  .rw[a.V _ e];exact this
 .obtain⟨d,j,l,p⟩:=i.k1 k;have v:cK s.N f.n=true\/f.n=0:=l.symm;exact⟨by rw[a.own _ y];exact d,j,l.imp id (a.has _),by rw[a.path _ v];exact p⟩
 .obtain⟨d,j⟩:=i.k2 k;exact⟨a.has _ d,by rw[a.cel _ d _ _ m b (.inl rfl)];exact j⟩
 .obtain⟨d,j,l⟩:=i.k3 k;refine⟨by unfold pT at d |-; rw[a.R _ b];exact d,a.has _ j,λid c=>?_⟩;rw[a.path _ (.inl j)]at c;obtain⟨p,z⟩:=l id c;have r:=w c;exact⟨Int.le_trans p (a.loc _ r _ m b),by rw[a.cel _ r _ _ m b (.inr (.inl rfl))];exact z⟩
 .obtain⟨d,g,j,l,p⟩:=i.k4 k;refine⟨by unfold pT at d |-; rw[a.R _ b];exact d,g,by rw[a.G _ _ y];exact j,l,λid c=>?_⟩;have x:=(hi.gk g (yR j).1).1;rw[a.path _ (.inl x)]at c;have r:=rA c
  have:=p id c
  rw[a.cel _ r _ _ m b (.inr (.inr (.inl rfl))),a.cel _ r _ _ m b (.inr (.inl rfl))];exact this
 .obtain⟨d,j,l,p⟩:=i.k5 k;refine⟨a.has _ d,a.I _ j,Int.le_trans l (a.loc _ d _ m b),?_⟩;rcases ov i.may with⟨u,_⟩|⟨u,_⟩|⟨u,_⟩|⟨u,_⟩|⟨_,_,_,H,J,M⟩|⟨u,_⟩|u<;>try omega
  rw[a.cel _ d _ _ m b (.inr (.inr (.inr ⟨(f.t-1).toNat,by omega,by omega,rfl⟩)))];exact p
def ZS(hi:PI s)(h:OK e s)(j:OK f s)(m:f.o≠e.o):nop f (eff e s)=nop f s:=by
 have a:=after hi h;have l:gOf (eff e s) f=gOf s f:=by unfold gOf;rw[a.G _ _ m]
 unfold nop;rw[l];by_cases c:f.k=3
 .rw[a.path _ (.inl (j.k3 c).2.1)];simp[c]
 .by_cases d:f.k=4
  .obtain⟨_,g,i,_⟩:=j.k4 d;have b:gOf s f=g:=by unfold gOf;rw[i];rfl
   rw[b,a.path _ (.inl (hi.gk g (yR i).1).1)];simp[d]
  .simp[c,d]
def zfs(hi:PI s)(h:OK e s)(g:OK f s)(p:f.o≠e.o):(nop f s).ap ((nop e s).ap s.N)=(nop e s).ap ((nop f s).ap s.N):=by
 obtain⟨B,C⟩:=ue h.may;obtain⟨w,D⟩:=ue g.may;have n:f.q≠e.q:=λe=>p oo;have u:∀{e:EV} {x:ND} {a:List Int} {c:Nat} {v:Int},OK e s->x.id=idE e->(∀i∈a,cK s.N i=true)->dT a c v x=x:=λ{e x a c v} h j k=>zD λb=>by
  have:=hi.new h.may h.rdy
  rw[<-j,k _ b]at this;cases this
 rcases kW hi h with⟨x,m,j,_⟩|⟨a,c,v,m,_,k,z,_⟩|⟨m,_⟩<;>rcases kW hi g with⟨y,b,r,_⟩|⟨t,d,E,b,_,l,A,_⟩|⟨b,_⟩<;>rw[m,b]<;>simp only[NOp.ap]
 .exact Xz (by rw[j,r];exact zj1 g.may h.may p)
 .exact(SZ (u h j l) (λy=>(ig y).1)).symm
 .exact SZ (u g r k) (λy=>(ig y).1)
 .rw[jH,jH];exact List.map_congr_left λy _=>zcS (VX w B n A z) y
def zeV(a:f.o≠e.o):∀G,(gop f).ap ((gop e).ap G)=(gop e).ap ((gop f).ap G):=by
 intro G;have g:∀{x:GR} {o q b:Int},x.o≠o->mj o q b x=x:=λh=>by
  unfold mj;rw[oI (λn=>h n.1)]
 unfold gop;by_cases i:e.k=3<;>by_cases j:e.k=4<;>by_cases l:f.k=3<;>by_cases m:f.k=4<;>simp only[i,j,l,m,if_true,if_false,GOp.ap,Int.reduceEq]<;>try omega
 .exact Xy a
 .exact(SY (g (λe=>a e.symm)) pb).symm
 .exact SY (g a) pb
 .rw[jH,jH];refine List.map_congr_left λy _=>?_;show mj _ _ _ (mj _ _ _ y)=mj _ _ _ (mj _ _ _ y);unfold mj;by_cases c:y.o=e.o/\y.q=e.f
  .have d : ¬(y.o=f.o/\y.q=f.f):=λh=>a (h.1.symm.trans c.1);simp[c,show ¬e.o=f.o from λe=>a e.symm]
  .by_cases d:y.o=f.o/\y.q=f.f
   .simp[d,show ¬f.o=e.o from a]
   .simp[c,d]
def zeH(hi:PI s)(h:OK e s)(d:OK f s)(g:f.o≠e.o):eff f (eff e s)=eff e (eff f s):=by
 obtain⟨D,p⟩:=ue h.may;obtain⟨u,r⟩:=ue d.may;have c:f.q≠e.q:=λe=>g oo;have a:=after hi h;have b:=after hi d;have A:(eff f (eff e s)).N=(eff e (eff f s)).N:=by
  show (nop f (eff e s)).ap ((nop e s).ap s.N)=(nop e (eff f s)).ap ((nop f s).ap s.N);rw[ZS hi h d g,ZS hi d h (λe=>g e.symm)];exact zfs hi h d g
 have v:(eff f (eff e s)).G=(eff e (eff f s)).G:=zeV g s.G;have C:(eff f (eff e s)).V=(eff e (eff f s)).V:=by
  show ((eff e s).V.set f.q ((eff e s).V.getD f.q 0+1))=((eff f s).V.set e.q ((eff f s).V.getD e.q 0+1))
  rw[a.V _ c,b.V _ (λe=>c e.symm)];show (s.V.set e.q _).set f.q _=(s.V.set f.q _).set e.q _;rw[List.set_comm _ _ (λe=>c e.symm)]
 have w:(eff f (eff e s)).I=(eff e (eff f s)).I:=by
  show yK f (yK e s.I)=yK e (yK f s.I);unfold yK;split<;>split<;>try rfl
  by_cases i:(e.t-1).toNat=(f.t-1).toNat
  .rw[i]
  .rw[List.set_comm _ _ i]
 have z:(eff f (eff e s)).L=(eff e (eff f s)).L:=by
  show yL f (yL e s.L)=yL e (yL f s.L);unfold yL;split<;>split<;>try rfl
  rw[List.set_comm _ _ (λe=>c e.symm)]
 have B:(eff f (eff e s)).R=(eff e (eff f s)).R:=by
  have m:=a.R _ c;have n:=b.R _ (λe=>c e.symm);show su f (eff e s).R=su e (eff f s).R;unfold su;rw[m,n];show (if _ then (su e s.R).set _ _ else su e s.R)=(if _ then (su f s.R).set _ _ else su f s.R)
  unfold su;by_cases j:f.k=3\/f.k=4<;>by_cases l:e.k=3\/e.k=4<;>simp only[j,l,if_true,if_false];rw[List.set_comm _ _ (λe=>c e.symm)]
 generalize eff f (eff e s)=x at *;generalize eff e (eff f s)=y at *;cases x;cases y
 simp_all
end
def zbj{x:ND}:∀{N:List ND},∃i,dP x N=vO N i x
 | []=>⟨0,rfl⟩
 | z::N=>by
  unfold dP;split
  .exact⟨0,rfl⟩
  .obtain⟨i,h⟩:=zbj (x:=x) (N:=N);exact⟨i+1,by rw[h];rfl⟩
def zei{x:ND}{N:List ND}:∃i,tr (dP x N)=vO (tr N) i (x.id,x.par):=by obtain⟨i,h⟩:=zbj (x:=x) (N:=N);refine⟨i,?_⟩;rw[h];unfold tr vO;rw[jJ,jK,List.map_take,List.map_drop]
section
variable {e:EV}{s:PL}
def zid:VN z54:=BU.1 dc
def Ms(i:Nat):nA z54 i=0:=by unfold nA z54;rw[oN,jL];split<;>rfl
def zcP{R:List (List Int)}(a:R.length=6)(c:e.q<6){k:Nat}(h:pT R k r=true):pT (su e R) k r=true:=by
 unfold su;split
 .unfold pT at *;rw[yQ (by rw[a];exact c)];split
  .rename_i b;subst b;rw[List.contains_iff_mem]at h |-;exact List.mem_append_left _ h
  .exact h
 .exact h
def PI.eff(hi:PI s)(h:OK e s):PI (eff e s):=by
 obtain⟨Z,ho⟩:=ue h.may;have C:=fZ h.may;have a:=after hi h;have w:=hi.new h.may h.rdy;have ad:=tC h.rdy;have af:=QT h.may;refine⟨?_,?_,by show (s.V.set _ _).length=6;rw[qN];exact hi.v6,?_,λk u=>?_,λx b=>?_,λx b=>?_,?_,λx b=>?_,λo=>?_,?_,λx b=>?_,?_,λg P=>?_⟩
 .show (yK e s.I).length=6;unfold yK;split
  .rw[qN];exact hi.i6
  .exact hi.i6
 .show (yL e s.L).length=6;unfold yL;split
  .rw[qN];exact hi.l6
  .exact hi.l6
 .show (su e s.R).length=6;unfold su;split
  .rw[qN];exact hi.r6
  .exact hi.r6
 .by_cases H:k=e.q
  .subst H;rw[a.Ve, <-ad.1];simp only[M40]at *; omega
  .rw[a.V _ H];exact hi.vb k u
 .rcases kW hi h with⟨y,d,f,E,M,_⟩|⟨l,c,v,d,_⟩|⟨d,_⟩
  .rw[show (Go.Proofs.YtpaghmnnhedccaaGreatDoor.eff e s).N=dP y s.N by show (nop e s).ap s.N=_;rw[d];rfl]at b;rcases mc.1 b with rfl|b
   .rw[M];simp[z54]
   .exact hi.A54 x b
  .rw[show (Go.Proofs.YtpaghmnnhedccaaGreatDoor.eff e s).N=s.N.map (dT l c v)by show (nop e s).ap s.N=_;rw[d];rfl]at b;obtain⟨y,f,rfl⟩:=qU.1 b;unfold dT;split
   .show (y.A.set _ _).length=54;rw[qN];exact hi.A54 y f
   .exact hi.A54 y f
  .rw[show (Go.Proofs.YtpaghmnnhedccaaGreatDoor.eff e s).N=s.N by show (nop e s).ap s.N=_;rw[d];rfl]at b;exact hi.A54 x b
 .rcases kW hi h with⟨y,d,f,E,M,F⟩|⟨l,c,v,d,_,t,J,ah,ai,hb⟩|⟨d,_⟩
  .rw[show (Go.Proofs.YtpaghmnnhedccaaGreatDoor.eff e s).N=dP y s.N by show (nop e s).ap s.N=_;rw[d];rfl]at b;rcases mc.1 b with rfl|b
   .have hz:z54.set e.q e.a=z54.set e.q (nA z54 e.q+e.a):=by rw[Ms];simp
    have ab:0<=e.a:=by rcases ov h.may with⟨_,h1,_⟩|⟨k,_⟩|⟨k,_⟩|⟨k,_⟩|⟨k,_⟩|⟨k,_⟩|k<;>omega
    have ha:=(h.k1 F).2.1;rw[M,hz];refine⟨BU.2 (zbp (by simp[z54]) zid ab oo (by rw[Ms];simp only[MXA,M47]at *; omega) (λi a e=>by omega) (λi a e=>by omega) (λk u t=>by rcases t with t|⟨j,_,t⟩<;>omega) (λ_=>⟨by rw[Ms];omega,λi _=>by rw[Ms];decide⟩)),λk u=>?_⟩;rw[oy (by simp[z54];omega),Ms];unfold dlt;split
    .omega
    .simp only[M47];omega
   .exact hi.may x b
  .rw[show (Go.Proofs.YtpaghmnnhedccaaGreatDoor.eff e s).N=s.N.map (dT l c v)by show (nop e s).ap s.N=_;rw[d];rfl]at b;obtain⟨y,f,rfl⟩:=qU.1 b;by_cases D:y.id∈l
   .have O:=hb _ D;rw[Ex hi.srt f]at O;obtain⟨b1,X,b3,b4⟩:=O;obtain⟨m1,m2⟩:=hi.may y f;have m1:=BU.1 m1;have hl:=hi.A54 y f;rw[BI D];show nI (y.A.set c (nA y.A c+v))=true/\_;refine⟨BU.2 (zbp hl m1 oo (Ur Z J) b1 (λi hi aa=>?_) (λi hi ag=>?_) (λk u t=>?_) (λa=>⟨X a,λi a=>m2 i a⟩)),λk u=>?_⟩
    .have:c=12+e.q:=by rcases J with rfl|rfl|rfl|⟨j,hj,_,rfl⟩<;>omega
     have h3:=b3 this
     have:i=e.q:=by omega
     subst this;rw[aa]at h3;exact h3
    .rcases J with rfl|rfl|rfl|⟨j,hj,S,rfl⟩<;>omega
    .rcases t with t|⟨j,hj,t⟩
     .have:k=e.q:=by rcases J with rfl|rfl|rfl|⟨j,hj,S,rfl⟩<;>omega
      subst this;exact b4 (.inl t)
     .have:k=e.q:=by rcases J with rfl|rfl|rfl|⟨i,hi,S,rfl⟩<;>omega
      subst this;exact b4 (.inr oo)
    .show nA (y.A.set c (nA y.A c+v)) k<=M47;rw[oy (by rw[hl];exact Ur Z J)];by_cases ec:k=c
     .subst ec;rw[xk];exact X u
     .rw[ja ec];have:=m2 k u;omega
   .rw[zD D];exact hi.may y f
  .rw[show (Go.Proofs.YtpaghmnnhedccaaGreatDoor.eff e s).N=s.N by show (nop e s).ap s.N=_;rw[d];rfl]at b;exact hi.may x b
 .show ((nop e s).ap s.N).Pairwise _;rcases kW hi h with⟨y,d,f,_⟩|⟨l,c,v,d,_⟩|⟨d,_⟩<;>rw[d]
  .exact xI hi.srt (Wu hi h f)
  .exact No (λy=>(ig y).1) hi.srt
  .exact hi.srt
 .have m:∀x∈s.N,∃o q:Int,1<=o/\o<=6/\1<=q/\q<M40/\x.id=o*M40+q/\q<=(Go.Proofs.YtpaghmnnhedccaaGreatDoor.eff e s).V.getD (o-1).toNat 0:=λx b=>by
   obtain⟨o,q,a1,a2,a3,a4,a5,a6⟩:=hi.ids x b;refine⟨o,q,a1,a2,a3,a4,a5,?_⟩;by_cases H:(o-1).toNat=e.q
   .rw[H,a.Ve];rw[H]at a6;omega
   .rw[a.V _ H];exact a6
  rcases kW hi h with⟨y,d,f,E,M,_⟩|⟨l,c,v,d,_⟩|⟨d,_⟩
  .rw[show (Go.Proofs.YtpaghmnnhedccaaGreatDoor.eff e s).N=dP y s.N by show (nop e s).ap s.N=_;rw[d];rfl]at b;rcases mc.1 b with rfl|b
   .refine⟨e.o,e.s,C.1,C.2.1,C.2.2.1,C.2.2.2,f,?_⟩;rw[show (e.o-1).toNat=e.q from rfl,a.Ve];omega
   .exact m x b
  .rw[show (Go.Proofs.YtpaghmnnhedccaaGreatDoor.eff e s).N=s.N.map (dT l c v)by show (nop e s).ap s.N=_;rw[d];rfl]at b;obtain⟨y,f,rfl⟩:=qU.1 b;rw[(ig y).1];exact m y f
  .rw[show (Go.Proofs.YtpaghmnnhedccaaGreatDoor.eff e s).N=s.N by show (nop e s).ap s.N=_;rw[d];rfl]at b;exact m x b
 .show jb ((nop e s).ap s.N) o<=5;rcases kW hi h with⟨y,d,f,_,_,F⟩|⟨l,c,v,d,_⟩|⟨d,_⟩<;>rw[d]
  .show jb (dP y s.N) o<=5;rw[NA,f,show idE e / M40=e.o from zJ oo C.2.2.2];split
   .rename_i eo;rw[<-eo];have:=(h.k1 F).1;omega
   .have:=hi.own o;omega
  .exact qR (Nat.le_of_eq (NC λy=>(ig y).1)) (hi.own o)
  .exact hi.own o
 .show ∃z,TK (tr ((nop e s).ap s.N)) z;obtain⟨z,u⟩:=hi.tk;rcases kW hi h with⟨y,d,f,E,_,F⟩|⟨l,c,v,d,_⟩|⟨d,_⟩<;>rw[d]
  .obtain⟨i,ht⟩:=zei (x:=y) (N:=s.N);show ∃z,TK (tr (dP y s.N)) z;rw[ht];exact⟨_,u.add (by rw[f];omega) (by rw[lu,f];exact w) (by rw[lu,E];exact(h.k1 F).2.2.1) i⟩
  .exact⟨z,by show TK (tr (s.N.map _)) z;rw[zej λy=>ig y];exact u⟩
  .exact⟨z,u⟩
 .have m:∀x∈s.N,(cB (Go.Proofs.YtpaghmnnhedccaaGreatDoor.eff e s).N x.id).length<=4:=λx b=>by
   rw[a.path _ (.inl (nD.2 ⟨x,b,rfl⟩))];exact hi.dep x b
  rcases kW hi h with⟨y,d,f,E,M,F⟩|⟨l,c,v,d,_⟩|⟨d,_⟩
  .have eN:(Go.Proofs.YtpaghmnnhedccaaGreatDoor.eff e s).N=dP y s.N:=by show (nop e s).ap s.N=_;rw[d];rfl
   rw[eN]at b;rcases mc.1 b with rfl|b
   .obtain⟨k2,W,k4,k5⟩:=h.k1 F;have T:=a.path e.n (k4.symm);rw[eN]at T |-;obtain⟨z,u⟩:=hi.tk;obtain⟨i,ht⟩:=zei (x:=x) (N:=s.N);have B:=u.add (id:=x.id) (par:=x.par) (by rw[f];omega) (by rw[lu,f];exact w) (by rw[lu,E];exact k4) i;rw[<-ht]at B;have t:dB (tr (dP x s.N)) x.id=true:=by rw[lu,Nb];simp
    have U:fm (tr (dP x s.N)) x.id=x.par:=HA (Re (xI hi.srt (Wu hi h f))) (qU.2 ⟨x,mc.2 (.inl rfl),rfl⟩);have hu:=Fv B x.par;have ac:cB (dP x s.N) x.id=x.id::cB (dP x s.N) x.par:=by
     unfold cB eA;rw[cU,t,oJ rfl,U]
     congr 1
     refine Kj B _ _ _ ?_ oo;exact hu
    rw[ac,oZ,E,T];omega
   .exact m x b
  .rw[show (Go.Proofs.YtpaghmnnhedccaaGreatDoor.eff e s).N=s.N.map (dT l c v)by show (nop e s).ap s.N=_;rw[d];rfl]at b;obtain⟨y,f,rfl⟩:=qU.1 b;rw[(ig y).1];exact m y f
  .rw[show (Go.Proofs.YtpaghmnnhedccaaGreatDoor.eff e s).N=s.N by show (nop e s).ap s.N=_;rw[d];rfl]at b;exact m x b
 .show ((gop e).ap s.G).Pairwise ltG;unfold gop;split
  .rename_i W;refine KN hi.gs λg P t=>?_;obtain⟨_,_,_,g1,g2,g3,Y⟩:=hi.gk g P;rw[t.1,t.2,show (e.o-1).toNat=e.q from rfl,(h.k3 W).1]at Y;cases Y
  .split
   .show (s.G.map _).Pairwise ltG;rw[List.pairwise_map];refine hi.gs.imp λ{x y} ae=>?_;unfold ltG at *;rw[(pb x).1,(pb x).2,(pb y).1,(pb y).2];exact ae
   .exact hi.gs
 .have m:∀g∈s.G,cK (Go.Proofs.YtpaghmnnhedccaaGreatDoor.eff e s).N g.n=true/\1<=g.a/\g.a<=MXA/\1<=g.o/\g.o<=6/\1<=g.q/\pT (Go.Proofs.YtpaghmnnhedccaaGreatDoor.eff e s).R (g.o-1).toNat g.q=true:=λg P=>by
   obtain⟨g0,g1,g2,g3,Y,g5,g6⟩:=hi.gk g P;exact⟨a.has _ g0,g1,g2,g3,Y,g5,zcP hi.r6 Z g6⟩
  have p:g∈(gop e).ap s.G:=P;unfold gop at p;split at p
  .rename_i W;rcases Ej.1 p with rfl|p
   .rcases ov h.may with⟨k,_⟩|⟨k,_⟩|⟨_,b1,X,b3⟩|⟨k,_⟩|⟨k,_⟩|⟨k,_⟩|k<;>try omega
    refine⟨a.has _ (h.k3 W).2.1,b1,X,C.1,C.2.1,b3,?_⟩;show pT (su e s.R) e.q e.r=true;unfold su pT;rw[oJ (.inl W),yQ (by rw[hi.r6];exact Z),oJ rfl,List.contains_iff_mem];simp
   .exact m g p
  .split at p
   .obtain⟨y,f,rfl⟩:=qU.1 p
    have:=m y f
    unfold mj;split
    .exact this
    .exact this
   .exact m g p
end
def Dd(n:Nat):PI (pl0 n) where
 i6:=by simp[pl0]
 l6:=rfl
 v6:=rfl
 r6:=rfl
 vb:=λk hk=>by
  have:(pl0 n).V.getD k 0=0:=by
   show (List.replicate 6 (0:Int)).getD k 0=0;rw[oN,jL];split<;>rfl
  rw[this];decide
 A54:=by simp[pl0]
 may:=by simp[pl0]
 srt:=by simp[pl0]
 ids:=by simp[pl0]
 own:=λo=>by simp[pl0,jb]
 tk:=⟨_,TK.nil⟩
 dep:=by simp[pl0]
 gs:=by simp[pl0]
 gk:=by simp[pl0]
def ledger_sys:Sys eff OK EV.q PI where
 inv:=λe s hi h=>hi.eff h
 dia:=λe f s hi ho h hf=>by
  have hne:f.o≠e.o:=λeo=>ho (by unfold EV.q;rw[eo]);exact⟨h.kept hi hf hne,zeH hi h hf hne⟩
def CA(f:List Int->Int)(N:List ND):List Int->Int
 | []=>0
 | id::p=>if f (aN N id)≠0 then f (aN N id)else CA f N p
def pX(e:EV)(s:PL):Int :=
 if e.k=1 then (if 5<=jb s.N e.o\/M47<e.a then 6 else (nu (tr s.N) (idE e) e.n).2)
 else if e.k=2 then (if cK s.N e.n=false then 9 else if M47<nA (aN s.N e.n) e.q+e.a then 6 else 0)
 else if e.k=3 then (if pT s.R e.q e.r=true then 14 else if cK s.N e.n=false then 9 else CA (λA=>(xg A e.o e.a).2) s.N (cB s.N e.n))
 else if e.k=4 then (if pT s.R e.q e.r=true then 14 else match lr s.G e.o e.f with|none=>12|some g=>if g.b≠0 then 12 else CA (λA=>(wT A e.o g.a).2) s.N (cB s.N g.n))
 else if e.k=5 then (if cK s.N e.n=false then 9 else if s.I.getD (e.t-1).toNat false=false then 10 else (yg (aN s.N e.n) e.o e.t e.a).2)
 else 0
def gF(e:EV)(s:PL):Int :=
 if co e=false then 1 else if vC s.V e=true then 14 else if fS s.V e=false then 13 else if s.I.getD e.q false=false\/s.L.getD e.q false=true then 10 else pX e s
def kJ(e:EV)(s:PL):PL:=if gF e s=0 then eff e s else s
def Hs{f:List Int->Int}{N:List ND}:∀{p:List Int},CA f N p=0↔∀id∈p,f (aN N id)=0
 | []=>by simp[CA]
 | id::p=>by
  unfold CA;by_cases h:f (aN N id)=0
  .rw[oI (by simpa using h),Hs];simp[h]
  .rw[oJ h];simp[h]
section
variable {o a t:Int}
def za8(h:nI A=true)(b:1<=a)(c:a<=MXA)(d:1<=o)(f:o<=6):Jd A o a=0:=by unfold Jd bB;rw[oI (by rintro(e|e|e);(rw[h]at e;cases e);omega;omega),oI (by simp;omega)]
def zaj(h:nI A=true)(b:1<=a)(c:a<=MXA)(d:1<=o)(e:o<=6):(xg A o a).2=0↔a<=jx A (o-1).toNat/\nA A (6+(o-1).toNat)+a<=MXA:=by
 unfold xg EE;rw[za8 h b c d e,oI oB];generalize (o-1).toNat=q;split
 .simp;omega
 .split<;>simp<;>omega
def zfS(h:(xg A o a).2=0):(xg A o a).1=A.set (6+(o-1).toNat) (nA A (6+(o-1).toNat)+a):=by
 unfold xg EE at *;split at h
 .rename_i b;exact qI h b
 .rename_i b;rw[oI b];split at h
  .cases h
  .rename_i c;rw[oI c];split at h
   .cases h
   .rename_i d;rw[oI d]
def Zt(h:nI A=true)(b:1<=a)(c:a<=MXA)(d:1<=o)(e:o<=6):(wT A o a).2=0↔nA A (12+(o-1).toNat)+a<=nA A (6+(o-1).toNat):=by
 unfold wT;rw[za8 h b c d e,oI oB];generalize (o-1).toNat=q;split
 .simp;omega
 .simp;omega
def zeS(h:(wT A o a).2=0):(wT A o a).1=A.set (12+(o-1).toNat) (nA A (12+(o-1).toNat)+a):=by
 unfold wT at *;split at h
 .rename_i b;exact qI h b
 .rename_i b;rw[oI b];split at h
  .cases h
  .rename_i c;rw[oI c]
def ZP(h:nI A=true)(b:1<=a)(c:a<=MXA)(d:1<=o)(f:o<=6)(i:1<=t)(j:t<=6)(g:t≠o):(yg A o t a).2=0↔a<=jx A (o-1).toNat/\nA A (18+6*(o-1).toNat+(t-1).toNat)+a<=MXA:=by
 unfold yg EE bB;rw[za8 h b c d f,oI oB,oI (by simp;omega),oI (λe=>g e.symm)];generalize (o-1).toNat=q;generalize (t-1).toNat=u;split
 .simp;omega
 .split<;>simp<;>omega
def zfq(h:(yg A o t a).2=0):(yg A o t a).1=A.set (18+6*(o-1).toNat+(t-1).toNat) (nA A (18+6*(o-1).toNat+(t-1).toNat)+a):=by
 unfold yg EE at *;split at h
 .rename_i b;exact qI h b
 .rename_i b;rw[oI b];split at h
  .cases h
  .rename_i c;rw[oI c];split at h
   .cases h
   .rename_i d;rw[oI d];split at h
    .cases h
    .rename_i e;rw[oI e];split at h
     .cases h
     .rename_i f;rw[oI f]
end
section
variable {e:EV}{s:PL}
def PI.mayN(hi:PI s){id:Int}(h:cK s.N id=true):nI (aN s.N id)=true:=by obtain⟨x,a,rfl⟩:=zL h;rw[Ex hi.srt a];exact(hi.may x a).1
def PI.few(hi:PI s)(o:Int)(i:1<=o)(f:o<=6)(h:jb s.N o<5):s.N.length<32:=by
 rw[Wy λx g=>by
  obtain⟨o,q,a,b,c,d,e,_⟩:=hi.ids x g;exact⟨o,q,a,b,c,d,e⟩]
 have:=hi.own 1
 have:=hi.own 2
 have:=hi.own 3
 have:=hi.own 4
 have:=hi.own 5
 have:=hi.own 6
 omega
def zcb(a:fS s.V e=true):vC s.V e=false:=by
 have:=(tC a).1
 unfold vC EV.q at *;rw[qE oo,Bool.and_false]
def mE(hi:PI s):gF e s=0↔OK e s:=by
 constructor
 .intro h;unfold gF at h;split at h
  .cases h
  rename_i l;split at h
  .cases h
  split at h
  .cases h
  rename_i v;split at h
  .cases h
  rename_i i;have l:co e=true:=by simpa using l
  have v:fS s.V e=true:=by simpa using v
  have i:s.I.getD e.q false=true/\s.L.getD e.q false=false:=by
   constructor
   .cases u:s.I.getD e.q false with
    | true=>rfl
    | false=>exact qI (.inl u) i
   .cases u:s.L.getD e.q false with
    | false=>rfl
    | true=>exact qI (.inr u) i
  have f:=fZ l;refine⟨l,v,i.1,i.2,λk=>?_,λk=>?_,λk=>?_,λk=>?_,λk=>?_⟩
  .unfold pX at h;rw[oJ k]at h;split at h
   .cases h
   rename_i b;unfold nu at h;rw[oI (by have:=QT l;omega),lu,hi.new l v,oI oB]at h;split at h
   .cases h
   rename_i c;split at h
   .cases h
   rename_i d;refine⟨by omega,by omega,?_,by unfold cB;omega⟩;by_cases A:e.n=0
   .exact .inl A
   .refine .inr ?_;cases u:cK s.N e.n with
    | true=>rfl
    | false=>exact qI ⟨A,by rw[lu];exact u⟩ c
  .unfold pX at h;rw[oI oo,oJ k]at h;split at h
   .cases h
   rename_i b;split at h
   .cases h
   rename_i c;exact⟨by simpa using b,by omega⟩
  .unfold pX at h;rw[oI oo,oI oo,oJ k]at h;split at h
   .cases h
   rename_i b;split at h
   .cases h
   rename_i c;refine⟨by simpa using b,by simpa using c,λid a=>?_⟩;have d:=Hs.1 h id a;rcases ov l with⟨j,_⟩|⟨j,_⟩|⟨_,m,p,r⟩|⟨j,_⟩|⟨j,_⟩|⟨j,_⟩|j<;>try omega
   exact(zaj (hi.mayN (rA a)) m p f.1 f.2.1).1 d
  .unfold pX at h;rw[oI oo,oI oo,oI oo,oJ k]at h;split at h
   .cases h
   rename_i b;split at h
   .cases h
   rename_i g B;split at h
   .cases h
   rename_i c;refine⟨by simpa using b,g,B,by simpa using c,λid a=>?_⟩;have d:=Hs.1 h id a;have t:=hi.gk g (yR B).1;exact(Zt (hi.mayN (rA a)) t.2.1 t.2.2.1 f.1 f.2.1).1 d
  .unfold pX at h;rw[oI oo,oI oo,oI oo,oI oo,oJ k]at h;split at h
   .cases h
   rename_i b;split at h
   .cases h
   rename_i c;have b:cK s.N e.n=true:=by simpa using b
   rcases ov l with⟨j,_⟩|⟨j,_⟩|⟨j,_⟩|⟨j,_⟩|⟨_,m,p,r,w,x⟩|⟨j,_⟩|j<;>try omega
   have d:=(ZP (hi.mayN b) m p f.1 f.2.1 r w x).1 h;exact⟨b,by simpa using c,d⟩
 .intro h;have f:=fZ h.may;unfold gF;rw[oI (by rw[h.may];simp),zcb h.rdy,oI oB,oI (by rw[h.rdy];simp),oI (by rintro(e|e);(rw[h.inI]at e;cases e);(rw[h.notL]at e;cases e))];unfold pX;rcases ov h.may with⟨k,_⟩|⟨k,_⟩|⟨k,m,p,r⟩|⟨k,_⟩|⟨k,m,p,r,w,x⟩|⟨k,_⟩|k
  .obtain⟨b,c,d,z⟩:=h.k1 k;rw[oJ k,oI oo];unfold nu;rw[oI (by have:=QT h.may;omega),lu,hi.new h.may h.rdy,oI oB,oI,oI]
   .have:=hi.few e.o f.1 f.2.1 b
    unfold cB at z;unfold tr at *;simp only[oY]at *;omega
   .rintro⟨C,y⟩;rw[lu]at y;rcases d with d|d
    .exact C d
    .rw[d]at y;cases y
  .obtain⟨b,c⟩:=h.k2 k;rw[oI oo,oJ k,b,oI oB,oI oo]
  .obtain⟨b,c,d⟩:=h.k3 k;rw[oI oo,oI oo,oJ k,b,c,oI oB,oI oB];exact Hs.2 λid a=>(zaj (hi.mayN (rA a)) m p f.1 f.2.1).2 (d id a)
  .obtain⟨b,g,c,d,z⟩:=h.k4 k;rw[oI oo,oI oo,oI oo,oJ k,b,c,oI oB];simp only;rw[oI oo];have t:=hi.gk g (yR c).1;exact Hs.2 λid a=>(Zt (hi.mayN (rA a)) t.2.1 t.2.2.1 f.1 f.2.1).2 (z id a)
  .obtain⟨b,c,d⟩:=h.k5 k;rw[oI oo,oI oo,oI oo,oI oo,oJ k,b,c,oI oB,oI oB];exact(ZP (hi.mayN b) m p f.1 f.2.1 r w x).2 d
  .rw[oI oo,oI oo,oI oo,oI oo,oI oo]
  .rw[oI oo,oI oo,oI oo,oI oo,oI oo]
def YG(hi:PI s):PI (kJ e s):=by
 unfold kJ;split
 .rename_i h;exact hi.eff ((mE hi).1 h)
 .exact hi
end
def Pb(e:EV)(k:Nat):Int:=e.V.getD k 0
def kV(l:PL):Nat->Int:=λk=>l.V.getD k 0
abbrev HistL(n:Nat)(E:List EV):Prop:=Hist eff OK EV.q EV.s Pb (pl0 n) E
abbrev stL(n:Nat)(E:List EV)(D:Nat->Int):PL:=stD eff EV.q EV.s (pl0 n) E D
abbrev ClL(E:List EV)(D:Nat->Int):Prop:=Closed EV.q EV.s Pb E D
structure LK(n:Nat) (E:List EV) (l:PL):Prop where
 st:l=stL n E (kV l)
 cl:ClL E (kV l)
section
variable {n:Nat}{E:List EV}{l:PL}{e:EV}
def Vb(h:co e=true):e.V.getD e.q 0=e.s-1/\∀k,e.V.getD k 0<M40:=by
 unfold co at h;simp only[oM,oP,jS,jQ]at h;refine⟨h.2.2.2.1,λk=>?_⟩;by_cases a:k<6
 .exact h.2.2.2.2.1 k a
 .rw[oN,jD (by simp[EV.V];omega)];decide
def HistL.may(h:HistL n E):∀e∈E,co e=true:=by
 induction h with
 | nil=>simp
 | @snoc l e hl hs hd hc hok ih =>
  intro f a;rcases oU.1 a with a|a
  .exact ih f a
  .rw[mS a];exact hok.may
def LK.pi(a:HistL n E)(h:LK n E l):PI l:=by rw[h.st];exact a.inv ledger_sys (Dd n) h.cl
def EL(hi:PI l)(h:OK e l):kV (eff e l)=upD (kV l) e.q e.s:=by
 have a:=after hi h;funext k;unfold kV upD;by_cases b:k=e.q
 .subst b;rw[oJ rfl,a.Ve,(tC h.rdy).1]
 .rw[oI b,a.V _ b]
def LK.next(a:HistL n E)(h:LK n E l)(g:e∈E)(j:fS l.V e=true):OK e l/\LK n E (eff e l):=by
 obtain⟨r,o⟩:=tC j;have p:=a.may e g;have m:∀k,Pb e k<=kV l k:=λk=>by
  by_cases b:k<6
  .exact o k b
  .unfold Pb kV;rw[oN,jD (by simp[EV.V];omega),oN,jD (by rw[(h.pi a).v6];omega)];exact Int.le_refl _
 obtain⟨c,f,i⟩:=a.next ledger_sys (Dd n) h.cl g (by unfold kV;omega) m
 have d:stD eff EV.q EV.s (pl0 n) E (kV l)=l:=h.st.symm;rw[d]at c f;have b:=EL (h.pi a) c;refine⟨c,⟨?_,by rw[b];exact i⟩⟩;rw[b];exact f
def zdn(n:Nat):kV (pl0 n)=λ_=>0:=by funext k;show (List.replicate 6 (0:Int)).getD k 0=0;rw[oN,jL];split<;>rfl
def LK.zero(c:HistL n E):LK n E (pl0 n):=by
 have b:∀e∈E,¬e.s<=0:=λe a h=>by have:=(fZ (c.may e a)).2.2.1;omega
 refine⟨?_,?_⟩
 .rw[zdn];unfold stL stD
  have:E.filter (kn EV.q EV.s λ_=>0)=[]:=by
   rw[List.filter_eq_nil_iff];intro e a h;exact b e a (zlf.1 h)
  rw[this];rfl
 .rw[zdn];intro e a h;exact qI h (b e a)
def HistL.all(d:HistL n E):okL eff OK (pl0 n) E/\LK n E (dU eff (pl0 n) E):=by
 have l:E.filter (kn EV.q EV.s λ_=>M40)=E:=by
  rw[List.filter_eq_self];intro e c
  have:=(fZ (d.may e c)).2.2.2
  exact zlf.2 (by simp only[M40]at *; omega)
 have j:ClL E λ_=>M40:=λe c _ k=>by
  have:=(Vb (d.may e c)).2 k
  exact Int.le_of_lt this
 have f:=d.oks ledger_sys (Dd n) j;rw[l]at f;refine⟨f,?_⟩
 have g:∀(a b:List EV) (s:PL),E=a++b->LK n E s->okL eff OK s b->LK n E (dU eff s b):=by
  intro a b
  induction b generalizing a with
  | nil=>intro s _ h _;exact h
  | cons e b ih =>
   intro s c h i;have m:e∈E:=by rw[c];simp
   exact ih (a++[e]) (eff e s) (by rw[c];simp) (h.next d m i.1.rdy).2 i.2
 exact g [] E (pl0 n) rfl (LK.zero d) f
def HistL.more(d:HistL n E)(h:LK n E l)(b:OK e l)(g:∀k,k<6->e.V.getD k 0=l.V.getD k 0)(a:∀f∈E,f.q=e.q->f.s<=l.V.getD e.q 0):HistL n (E++[e]):=by
 have c:Pb e=kV l:=by
  funext k;by_cases j:k<6
  .exact g k j
  .unfold Pb kV;rw[oN,jD (by simp[EV.V];omega),oN,jD (by rw[(h.pi d).v6];omega)]
 have o:=(tC b.rdy).1;refine Hist.snoc d (λf i m=>?_) ?_ ?_ ?_
 .have:=a f i m;omega
 .exact(Vb b.may).1
 .rw[c];exact h.cl
 .rw[c]
  have:=h.st
  unfold stL stD at this;rw[<-this];exact b
def LK.grow(d:HistL n (E++[e]))(h:LK n E l)(g:l.V.getD e.q 0<e.s):LK n (E++[e]) l:=by
 have b : ¬kn EV.q EV.s (kV l) e=true:=λb=>by have:=zlf.1 b;unfold kV at this;omega
 refine⟨?_,λf a c k=>?_⟩
 .unfold stL stD;rw[EC,oI b];exact h.st
 .rcases oU.1 a with a|a
  .exact h.cl f a c k
  .rw[mS a]at c;exact qI (zlf.2 c) b
end
structure WP(n:Nat) (Ls:List PL) (E:List EV):Prop where
 hist:HistL n E
 lk:∀l∈Ls,LK n E l
 own:∀i l,Ls[i]? = some l->∀e∈E,e.q=i->e.s<=l.V.getD i 0
 low:∀i l,Ls[i]? = some l->∀m∈Ls,m.V.getD i 0<=l.V.getD i 0
 few:∀e∈E,e.q<Ls.length
def eE(l:List (Nat×Nat)):List UInt8:=l.flatMap λq=>bf q.1 q.2
def km(V:List Int):List (Nat×Nat):=V.map λv=>(v.toNat,8)
def FN(e:EV):List (Nat×Nat):=(e.o.toNat,1)::(e.s.toNat,8)::km e.V++[(e.k.toNat,1),(e.n.toNat,8),(e.t.toNat,1),(e.a.toNat,8),(e.r.toNat,8),(e.f.toNat,8)]
def evB(e:EV):List UInt8:=eE (FN e)
abbrev M64:Int:=18446744073709551616
structure tT(e:EV):Prop where
 d:∀v∈e.V,0<=v
 n:0<=e.n/\e.n<M64
 r:0<=e.r/\e.r<M64
 f:0<=e.f/\e.f<M64
def HV{l r:List (Nat×Nat)}:eE (l++r)=eE l++eE r:=by unfold eE;rw[List.flatMap_append]
def Z8{L:List (Nat×Nat)}{x k:Nat}(h:L[i]? = some (x,k)):eE L=eE (L.take i)++bf x k++eE (L.drop (i+1)):=by
 obtain⟨a,b⟩:=gS h
 conv=>lhs;rw[<-List.take_append_drop i L,List.drop_eq_getElem_cons a,b,HV]
 rw[jE];rfl
def zef{L:List (Nat×Nat)}{x k:Nat}(h:L[i]? = some (x,k))(a:k=1\/k=8)(c:x<256 ^ k):rN (eE L) ((eE (L.take i)).length:Nat) (k:Nat)=(x,(((eE (L.take i)).length+k:Nat):Int),0):=by
 have e:=Z8 h;have d:(eE L).length=(eE (L.take i)).length+k+(eE (L.drop (i+1))).length:=by rw[e];simp[bE];omega
 have b:uy (k:Nat)≠0:=by rcases a with rfl|rfl<;>decide
 unfold rN;rw[oI (by rintro(h|h|h);exact b h;omega;omega),oI oo,oQ,oQ]
 have:((eE L).drop (eE (L.take i)).length).take k=bf x k:=by
  rw[e,jE,List.drop_left,qJ (by rw[bE];omega),tL (by rw[bE];omega)]
 rw[this,HF,Nat.mod_eq_of_lt c];rfl
section
variable {e:EV}
def Wg:(evB e).length=91:=by simp[evB,eE,FN,km,EV.V,bE]
def zgc(h:co e=true):1<=e.k/\e.k<=7:=by rcases ov h with⟨k,_⟩|⟨k,_⟩|⟨k,_⟩|⟨k,_⟩|⟨k,_⟩|⟨k,_⟩|k<;>omega
end
def Pm(c b a:oF)(zf:oD):=zf 0::c::zf 2::b::a::zT zf 5 46 ([])
def yM(K:KV):KE:=ai Q (cd f216 (b1 511)) (rk f216 K) xf (rk f216 K)
def Zb(h:box Q 54 U (λZ=>ld Q 54 Z λp=>call Q 68 #[p] λq=>un Q .not q λr w=>cond r (K cN w) (alc Q 101 (λH=>ao Q 54 Z 0 λa=>ld Q 3 a λb=>conv Q 3 36 b λc=>bA Q (.func (.func 235) #[] #[H]) #[c,ci 1] λh=>ao Q 54 Z 1 λs=>ld Q 36 s λd=>bA Q (.func (.func 235) #[] #[H]) #[d,ci 8] λn w=>aF (λS w=>hL S 101 H λe=>hF S 54 Z 2 λf=>hL S 38 f λg=>call Q 236 #[g] (λi=>aX S λ_=>blt Q .append #[101,101] 101 #[false,false] #[e,i] λj=>aF λ_=>sto Q 101 H j λ_=>ao Q 54 Z 3 λk=>ld Q 5 k λl=>conv Q 5 36 l λm=>bA Q (.func (.func 235) #[] #[H]) #[m,ci 1] λo=>yM K (Pm Z H (.func (.func 235) #[] #[H]) (zV (zV (zV zu 0 [U]) 2 [cN]) 5 [p,q,r,.func (.func 235) #[] #[H],.func (.func 235) #[] #[H],a,b,c,h,.func (.func 235) #[] #[H],s,d,n,e,f,g,i,j,.func (.func 235) #[] #[H],k,l,m,o]))) w) w.drew) w)) w):Gives Q 216 #[U] w K:=by refine au func216 kr <|rpT [1,1,1,1,1,1,1,1] (cd f216 (b1 511)) (cd f216 []) ?_;revert h;delta yM;generalize (cd f216 (b1 511))=xc0;exact mpF
def Wj(h:ao Q 54 Z 4 (λa=>ld Q 36 a λb=>bA Q H #[b,ci 8] λ_=>ao Q 54 Z 5 λc=>ld Q 3 c λd=>conv Q 3 36 d λe=>bA Q H #[e,ci 1] λ_=>ao Q 54 Z 6 λf=>ld Q 2 f λg=>conv Q 2 36 g λi=>bA Q H #[i,ci 8] λ_=>ao Q 54 Z 7 λj=>ld Q 36 j λk=>bA Q H #[k,ci 8] λ_=>ao Q 54 Z 8 λl=>ld Q 36 l λm=>bA Q H #[m,ci 8] λ_=>ld Q 101 U K) w):yM K (Pm Z U H zf) w:=mpK h
attribute [irreducible] yM
def Wi(h:ld Q 101 H (λc=>call Q 118 #[c,Z,U] λb=>ext Q b 0 λa=>ext Q b 1 λ_=>sto Q 101 H a λ_=>K (.tuple #[])) w):Gives Q 235 #[Z,U,H] w K:=au func235 kr (mpK h)
def xp(b c d a e:oF)(zf:oD):=zf 0::b::c::zf 3::d::a::zf 6::zf 7::e::zT zf 9 66 ([])
def BA(b c d a:oF)(zf:oD):=zf 0::b::c::zf 3::d::a::zT zf 6 69 ([])
def Oa(d a c b:oF)(zf:oD):=zT zf 0 4 (d::a::c::b::zT zf 8 67 ([]))
def Ob(c a b:oF)(zf:oD):=zT zf 0 4 (c::a::b::zT zf 7 68 ([]))
def pj(K:KV):KE:=kZ f52 [1,1] K
def rR(K:KV):KE:=kY f52 [1,0,0,1] (pj K) (xx xf (pj K) 0) K
def xn(K:KV):KE:=ai Q (cd f52 (b1 49)) (rR K) (xx xf (pj K) 0) (rk f52 K)
def Bz(K:KV):KE:=ai Q (cd f52 (b1 127)) (rk f52 K) xf (rk f52 K)
def xo(K:KV):KE:=ai Q (cd f52 (b1 1023)) (rk f52 K) xf (rk f52 K)
def Yc(h:box Q 101 Z (λJ=>alc Q 54 λU=>alc Q 3 λY=>bT .lss 3 H (ci 0) λa=>xn K (xp H J U Y a (zV (zV (zV zu 0 [Z]) 6 [ci 0]) 9 [H,a]))) w):Gives Q 52 #[Z,H] w K:=by refine au func52 kr <|rpT [1,0,0,0,1] (cd f52 (b1 49)) (cd f52 []) ?_;revert h;delta xn pj rR;generalize (cd f52 (b1 49))=xc0;exact mpF
def UD(h:cond J (rR K (xp H Z U Y J zf) w) (ld Q 101 Z (λa=>lN 101 a λb=>bF .gtr 3 H b λc=>rR K (xp H Z U Y c (zV zf 11 [H,a,b,c]))) w)):xn K (xp H Z U Y J zf) w:=by delta xn;revert h;exact mpF
def UI(h:cond Y (ld Q 54 H (λa=>sto Q 54 H a λ_=>sto Q 3 Z (ci 0) λ_=>aY Q [(some 54,H),(some 3,Z),(none,ci 1)] K) w) (ld Q 101 J (λb=>lN 101 b λc=>bF .sub 3 c U λd=>bT .lss 3 d (ci 91) λa w=>cond a (ld Q 54 H (λe=>sto Q 54 H e λ_=>sto Q 3 Z (ci 0) λ_=>aY Q [(some 54,H),(some 3,Z),(none,ci 5)] K) w) (pj K (BA U J H Z (zV (zV zf 8 [Y]) 16 [a,b,c,U,d,a])) w)) w)):rR K (xp U J H Z Y zf) w:=by delta rR;revert h;exact mpF
abbrev JZ(K:KV)(hA0:KE)(X1 Z1 N2 O2:oF)(zf:oD)(w:oG):Prop :=
  sto Q 3 O2 X1 (λ_=>bA Q (.func (.func 65) #[] #[Z1,O2]) #[ci 1] λa=>conv Q 36 3 a λb=>bA Q (.func (.func 65) #[] #[Z1,O2]) #[ci 8] λc=>ao Q 54 N2 0 λd=>sto Q 3 d b λ_=>ao Q 54 N2 1 λe=>sto Q 36 e c λ_=>ld Q 101 Z1 λf=>ld Q 3 O2 λg=>ld Q 3 O2 λh=>bT .add 3 h (ci 48) λi=>slc Q 101 f (some g) (some i) none λj=>call Q 67 #[j] λk=>ext Q k 0 λl=>ext Q k 1 λm=>ao Q 54 N2 2 λn=>sto Q 38 n l λ_=>hA0 (Oa N2 O2 m (.func (.func 65) #[] #[Z1,O2]) (zV (zV zf 1 [X1,Z1]) 23 [X1,.func (.func 65) #[] #[Z1,O2],.func (.func 65) #[] #[Z1,O2],a,b,.func (.func 65) #[] #[Z1,O2],c,d,e,k,f,g,h,i,j,k,l,m,n]))) w
def UG(a:Code)(h:JZ K (ai Q a (rk f52 K) (λ_ _ _=>False) (rk f52 K)) U Y H Z zf w):ai Q (rep [1,1,1,1] a (cd f52 [1,1])) (rk f52 K) xf (rk f52 K) (BA U Y H Z zf) w:=Eq.mp kr h
def UH(h:JZ K (Bz K) U Y H Z zf w):pj K (BA U Y H Z zf) w:=by delta pj;exact Eq.mp (qH (λc=>ai Q c (rk f52 K) xf (rk f52 K) (BA U Y H Z zf) w) (by kernel_rfl:(rep [1,1,1,1] (cd f52 (b1 127)) (cd f52 [1,1]))=(cd f52 [1,1]))) (UG (cd f52 (b1 127)) h)
def UE(h:ld Q 3 U (λa=>bT .add 3 a (ci 48) λb=>sto Q 3 U b λ_=>bA Q H #[ci 1] λc=>conv Q 36 5 c λd=>bA Q H #[ci 8] λe=>bA Q H #[ci 1] λf=>conv Q 36 3 f λg=>ao Q 54 Z 3 λi=>sto Q 5 i d λ_=>ao Q 54 Z 4 λj=>sto Q 36 j e λ_=>ao Q 54 Z 5 λk=>sto Q 3 k g λ_=>bA Q H #[ci 8] λl=>conv Q 36 2 l λm=>bA Q H #[ci 8] λn=>bA Q H #[ci 8] λo=>ao Q 54 Z 6 λp=>sto Q 2 p m λ_=>ao Q 54 Z 7 λq=>sto Q 36 q n λ_=>ao Q 54 Z 8 λr=>sto Q 36 r o λ_=>xo K (Ob Z U Y (zV (zV zf 7 [H]) 42 [a,b,H,c,d,H,e,H,f,g,i,j,k,H,l,m,H,n,H,o,p,q,r]))) w):Bz K (Oa Z U Y H zf) w:=by delta Bz;refine rpT [1,1,1] (cd f52 (b1 1023)) (cd f52 (b1 127)) ?_;revert h;delta xo;generalize (cd f52 (b1 1023))=xc0;exact mpF
def UF(h:bT .neq 26 U (ci 0) (λa w=>aM a false (λe=>ld Q 54 H (λb=>call Q 68 #[b] λc=>un Q .not c λf=>e [b,c,f]) w) (λk=>k [uu,uu,uu] w) λd=>pick a cT (gd d 2) λg w=>cond g (bld Q 54 #[] (λi=>sto Q 54 H i λ_=>sto Q 3 Z (ci 0) λ_=>aY Q [(some 54,H),(some 3,Z),(none,ci 5)] K) w) (aF (λS w=>hL S 54 H λj=>hL S 3 Z λl=>sto Q 54 H j (λ_=>aX S λ_=>sto Q 3 Z l λ_=>aF λ_=>aY Q [(some 54,H),(some 3,Z),(none,ci 0)] K) w) w.drew)) w):xo K (Ob H Z U zf) w:=mpK h
attribute [irreducible] pj rR xn Bz xo
def UC(h:ld Q 101 U (λd=>ld Q 3 H λe=>call Q 66 #[d,e,Z] λc=>ext Q c 0 λa=>ext Q c 1 λb=>ext Q c 2 λ_=>sto Q 3 H b λ_=>K a) w):Gives Q 65 #[Z,U,H] w K:=au func65 kr (mpK h)
def vd(a b c:oF)(zf:oD):=zT zf 0 3 (a::zT zf 4 3 (b::c::zT zf 9 14 ([])))
def Kq(a c d e b:oF)(zf:oD):=zT zf 0 3 (a::zf 4::c::zf 6::d::e::zf 9::zf 10::b::zT zf 12 11 ([]))
def Kr(a:oF)(zf:oD):=zT zf 0 3 (a::zT zf 4 19 ([]))
def kG(K:KV):KE:=kZ f236 [1,1,1] K
def yq(K:KV):KE:=ai Q (cd f236 (b1 58)) (kG K) (xx xf (kG K) 0) (rk f236 K)
def mC(K:KV)(B1:KE):KE:=kY f236 (b1 935) B1 (xx xf (kG K) 0) K
def yr(K:KV)(B1:KE):KE:=ai Q (cd f236 (b1 14950)) (mC K B1) (xx (xx (xx xf (kG K) 0) (mC K B1) 1) (mC K B1) 2) (rk f236 K)
def VL(h:box Q 38 H (λb=>mkS Q 101 (ci 0) (ci 48) λa=>ld Q 38 b λZ=>yq K (vd a Z (ci 0) (zV (zV zu 0 [H,b,cN]) 6 [a]))) w):Gives Q 236 #[H] w K:=au func236 kr (mpK h)
def RU(Inv:oF->oF->oG->Prop)(μ:oF->oF->oG->Nat)(g:Inv U Z w)(i:∀(a b:oF) (f:oD) (w:oG) (m:Nat),Inv a b w->m=μ a b w ->
  bT .lss 3 b (ci 6) (λe w=>cond e (idx Q 38 H b (λc=>yr K (λd S=>(Inv (gd d 3) (gd d 8) S)/\((μ (gd d 3) (gd d 8) S)<m)) (Kq a c H b (ci 0) (zV f 9 [e,c]))) w) (kG K (Kr a (zV f 7 [H,b,e])) w)) w):yq K (vd U H Z zf) w:=by refine lW (cd f236 (b1 116)) [(3,1),(5,1),(8,14)] 3 8 zf g i ?_;intro j k;delta yr mC;exact mpF
def RW(Inv:vI 3)(μ:vM 3)(o:Inv Y J U w)(q:∀(a c b:oF) (n:oD) (w:oG) (m:Nat),Inv a c b w->m=μ a c b w ->
  bT .lss 3 b (ci 8) (λe w=>cond e (call Q 257 #[c,ci 8] (λc=>conv Q 36 5 c λj=>bM Q 101 1 #[(0,j)] λk=>blt Q .append #[101,101] 101 #[false,false] #[a,k] λf=>nC b λg w=>(Inv f c g w)/\((μ f c g w)<m)) w) (mC K B1 (vd a H Z (zV (zV n 5 [c]) 11 [b,e])) w)) w):yr K B1 (Kq Y J H Z U zf) w:=by refine dC (cd f236 (b1 29900)) (zr [(3,1),(5,1),(11,10)]) kr (vP [3,5,11] Inv) (vQ [3,5,11] μ) o ?_;intro i r p;have h:=q _ _ _ (zM zf (gd i) (zr [(3,1),(5,1),(11,10)])) r _ p rfl;revert h;exact mpF
def RX(h:K H w):kG K (Kr H zf) w:=mpK h
def RY(h:nC Z (λa=>B1 (vd U H a (zV zf 21 [a]))) w):mC K B1 (vd U H Z zf) w:=by delta mC;revert h;exact mpF
attribute [irreducible] kG yq mC yr
def zap(h:box Q 101 H (λa=>alc Q 38 λh=>ld Q 101 a λb=>lN 101 b λd=>bT .neq 3 d (ci 48) λe w=>cond e (ld Q 38 h (λf=>sto Q 38 h f λ_=>aY Q [(some 38,h),(none,ci 5)] K) w) (call Q 80 #[.func (.func 81) #[] #[a]] (λg=>sto Q 38 h g λ_=>ld Q 38 h λa=>call Q 82 #[a] λb=>un Q .not b λc w=>cond c (bld Q 38 #[] (λa=>sto Q 38 h a λ_=>aY Q [(some 38,h),(none,ci 5)] K) w) (ld Q 38 h (λa=>sto Q 38 h a λ_=>aY Q [(some 38,h),(none,ci 0)] K) w)) w)) w):Gives Q 67 #[H] w K:=au func67 kr (mpK h)
def Ml(d a b c:oF)(zf:oD):=zT zf 0 3 (d::zT zf 4 6 (a::b::c::zT zf 13 10 ([])))
def Mm(a:oF)(zf:oD):=zT zf 0 3 (a::zT zf 4 19 ([]))
def qh(K:KV):KE:=kZ f81 [1,1] K
def Ah(K:KV):KE:=ai Q (cd f81 [1,0,1,0]) (qh K) (xx xf (qh K) 0) (rk f81 K)
def Xk(h:ld Q 101 Z (λa=>bT .mul 3 H (ci 8) λb=>slc Q 101 a (some b) none none λc=>slc Q 101 c none (some (ci 8)) none λU=>lN 101 U λY=>Ah K (Ml (cu 0) U Y (ci 0) (zV (zV zu 0 [H,Z]) 6 [a,H,b,c]))) w):Gives Q 81 #[H,Z] w K:=au func81 kr (mpK h)
def TX(Inv:oF->oF->oG->Prop)(μ:oF->oF->oG->Nat)(i:Inv Y U w)(j:∀(b a:oF) (g:oD) (w:oG) (m:Nat),Inv b a w->m=μ b a w ->
  lS a H (λc w=>cond c (aW Q 101 Z a (λc=>ld Q 5 c λc=>bT .shl 36 b (cu 8) λe=>conv Q 5 36 c λf=>bF .or 36 e f λc=>nC a λd w=>(Inv c d w)/\((μ c d w)<m)) w) (qh K (Mm b (zV g 10 [Z,H,a,c])) w)) w):Ah K (Ml Y Z H U zf) w:=by refine lW (cd f81 (b1 52)) [(3,1),(5,1),(12,10)] 3 12 zf i j ?_;intro k l;exact mpF
def TY(h:K H w):qh K (Mm H zf) w:=mpK h
attribute [irreducible] qh Ah
def GW(h:conv Q 3 147 Z (λc=>bT .and 147 c (cu 63) λb=>bF .shl 36 H b λa=>bin Q .sub 147 true false (cu 64) b λb=>bF .shr 36 H b λb=>bF .or 36 a b K) w):Gives Q 257 #[H,Z] w K:=au func257 kr (mpK h)
def blk(w:oG)(b:Nat)(E:TypeId)(cs:oE):Prop:=w.heap[b]? = some (.cells cs.toArray E (0,0))
def blk.lt{cs:oE}(h:blk w b E cs):b<w.heap.size:=(qM.1 h).1
def blk.ne{b':Nat}{cs:oE}(h:blk w b E cs)(a:blk w b' t xs)(c:E≠t):b≠b':=by rintro rfl;unfold blk at *;rw[h]at a;simp only[qD,Obj.cells.injEq]at a;exact c a.2.1
def blk.cell{cs:oE}(h:blk w b E cs)(o:Nat):w.cell? ⟨b,o,none⟩=cs[o]? := by
 unfold World.cell?;rw[h];simp
def blk.frozen{cs:oE}(h:blk w b E cs)(o:Nat):w.frozen? ⟨b,o,none⟩=false:=by unfold World.frozen?;rw[h];simp
structure Keep(T:List TypeId) (B:Nat) (w w':oG):Prop where
 os:w'.os=w.os
 tape:w'.tape=w.tape
 output:w'.output=w.output
 size:w.heap.size<=w'.heap.size
 block:∀(k:Nat) (o:Obj),w.heap[k]? = some o->(k<B\/∀cs E z,o=.cells cs E z->E∉T)->w'.heap[k]? = some o
def Keep.trans{T:List TypeId}{B:Nat}{a b c:oG}(h:Keep T B a b)(k:Keep T B b c):Keep T B a c :=
 ⟨k.os.trans h.os,k.tape.trans h.tape,k.output.trans h.output,qR h.size k.size,λi o e d=>k.block i o (h.block i o e d) d⟩
def Keep.mono{T T':List TypeId}{B:Nat}(h:Keep T B w S)(c:∀t∈T,t∈T')(b:B'<=B):Keep T' B' w S :=
 ⟨h.os,h.tape,h.output,h.size,λk o g d=>h.block k o g (d.elim (λh=>.inl (qQ h b)) (λh=>.inr λa E z e f=>h a E z e (c E f)))⟩
def Keep.of{T:List TypeId}{B:Nat}(h:Below w.heap.size w S):Keep T B w S :=
 ⟨h.os,h.tape,h.output,h.size,λk o a _=>by rw[h.block k (qM.1 a).1];exact a⟩
def Keep.below{T:List TypeId}{B:Nat}(h:Keep T B w S)(c:B<=w.heap.size):Below B w S :=
 ⟨h.os,h.tape,h.output,h.size,λk b=>by
  have a:k<w.heap.size:=by omega
  rw[h.block k _ (Array.getElem?_eq_getElem a) (.inl b),Array.getElem?_eq_getElem a]⟩
def Keep.undrew{T:List TypeId}{B:Nat}{a:oG}(h:Keep T B a.drew w):Keep T B a w:=⟨h.os,h.tape,h.output,h.size,h.block⟩
def Keep.blk{T:List TypeId}{B:Nat}{cs:oE}(h:Keep T B w S)(c:blk w b E cs)(a:b<B\/E∉T):blk S b E cs :=
 h.block _ _ c (a.imp id λh a E z e=>by cases e;exact h)
def ae{B:Nat}{cs:oE}(h:Below B w S)(c:blk w b E cs)(a:b<B):blk S b E cs:=by unfold Go.Proofs.YtpaghmnnhedccaaGreatDoor.blk;rw[h.block b a];exact c
def blk.drew{cs:oE}(h:blk w b E cs):blk w.drew b E cs:=h
structure Oth(b:Nat) (w w':oG):Prop where
 os:w'.os=w.os
 tape:w'.tape=w.tape
 output:w'.output=w.output
 size:w'.heap.size=w.heap.size
 other:∀k,k≠b->w'.heap[k]? = w.heap[k]?
def Oth.blk{k:Nat}{cs:oE}(h:Oth b w S)(a:blk w k E cs)(c:k≠b):blk S k E cs:=by unfold Go.Proofs.YtpaghmnnhedccaaGreatDoor.blk;rw[h.other k c];exact a
def Oth.keep{T:List TypeId}{B:Nat}{cs:oE}(h:Oth b w S)(d:Go.Proofs.YtpaghmnnhedccaaGreatDoor.blk w b E cs)(e:E∈T)(f:B<=b):Keep T B w S :=
 ⟨h.os,h.tape,h.output,by rw[h.size];exact Nat.le_refl _,λk o c a=>by
  have:k≠b:=by
   rintro rfl;rcases a with a|a
   .omega
   .unfold Go.Proofs.YtpaghmnnhedccaaGreatDoor.blk at d;rw[d]at c;cases c;exact a _ _ _ rfl e
  rw[h.other k this];exact c⟩
def Oth.below(h:Oth b w S):Below b w S :=
 ⟨h.os,h.tape,h.output,by rw[h.size];exact Nat.le_refl _,λk a=>h.other k oo⟩
def Keep.grown{T:List TypeId}{B:Nat}{n:Nat}(b:w.grownBy S (Value.slice a n c).ownBlock)(p:w.ownsRow B2 E s (.slice a n c) n xs)(l:E∈T)(q:B<=B2):Keep T B w S :=
 ⟨b.os,b.tape,b.output,b.size,λk o d h=>by
  have e:k<w.heap.size:=(qM.1 d).1
  rw[b.block k e ?_];exact d
  rcases p.2 with⟨f,_⟩|⟨g,i,j,f,r,m,_⟩
  .cases f;simp[Value.ownBlock]
  .cases f
   simp only[Value.ownBlock,ne_eq,qD]
   rintro rfl
   rcases h with h|h
   .omega
   .rw[m]at d;cases d;exact h _ _ _ rfl l⟩
section
variable {P:Program} {cs:oE}

def zw(b o j:Nat):(⟨b,o,none⟩:Addr).add j=⟨b,o+j,none⟩:=Addr.add_mid b o j
def aq{a:Addr}(h:K (.pointer (some a)) w):aU (.pointer (some a)) K w:=h
def ld1{v:oF}(a:∀w,(isAgg t).run P w=.ok false w)(c:blk w b E cs)(d:cs[o]? = some v)(h:K v w):ld P t (pA b o) K w :=
 vS a (by rw[c.cell,d]) h
abbrev bW(w w':oG):Prop:=Below w.heap.size w w'
theorem tB {w a b : World} (h : Below w.heap.size w a) (k : Below a.heap.size a b) : Below w.heap.size w b := h.trans (k.mono h.size)
def dTk{l:List α}{n:Nat}(h:l.length<=n:=by omega):(l.drop 0).take n=l:=by rw[oX,tL h]
abbrev nX(w:oG)(P:oG->Prop):Prop:=∀w',Below w.heap.size w w'->P w'
def bDr(w:oG):Below w.heap.size w w.drew:=(jU _ w).drew
def gX{L:List α}(h:i<L.length):∃x,L[i]? = some x:=⟨_,gE h⟩
abbrev mU(A:Nat):oF->oG->Nat:=λv _=>A-(intOf v).toNat
abbrev mV(A:Nat):oF->oF->oG->Nat:=λ_ v _=>A-(intOf v).toNat
def mD{A q:Nat}(h:b=A-(intOf (ci (q:Nat))).toNat)(a:q<A:=by omega):A-(intOf (ci ((q:Int)+1))).toNat<b:=by rw[h];show A-((q:Int)+1).toNat<A-(q:Int).toNat;omega
def ivS{k:Nat}:Value.int .i64 ((k:Int)+1)=ci ((k+1:Nat):Int):=qH (Value.int .i64) (by push_cast;rfl)
def cZ{k:Nat}{cs:oE}(h:blk w k E (Value.agg cs.toArray).cells.toList):blk w k E cs:=by simpa[Value.cells]using h
def lK{v:oF}(c:blk w b E cs)(d:cs[o]? = some v)(h:K v w)(a:∀w,(isAgg t).run P w=.ok false w:=by intro _;kernel_rfl):ld P t (pA b o) K w:=ld1 a c d h
def ldA{n:Nat}{d:TypeDesc}(i:P.underlying t=some d)(e:d.isRow=true)(hi:(P.info? t).map (·.size)=some n)(c:blk w b E cs)(k:(cs.drop o).take n=vs)(g:vs.length=n)(h:K (.agg vs.toArray) w):ld P t (pA b o) K w:=by
 refine UX (run_loadVar_mid w b o t vs d ?_ i e (by rw[g];exact hi)) h;intro j v a;rw[c.cell];subst k;have f:=(gS a).1;rw[List.getElem?_take]at a;split at a
 .rw[jM]at a;exact a
 .cases a
def cq{v:oF}(i:∀w,(sizeOf t).run P w=.ok 1 w)(a:blk w b E cs)(g:o<cs.length)(d:v.oneCell'=true)(h:∀S,blk S b E (cs.set o v)->Oth b w S->K undef S):sto P t (pA b o) v K w:=by
 have e:w.cell? ⟨b,o,none⟩=some cs[o]:=by rw[a.cell,gE g]
 have c:v.cells=#[v]:=by cases v<;>first|rfl|simp[Value.oneCell']at d
 refine zfQ i d c e (a.frozen o) rfl (h _ ?_ ⟨rfl,rfl,rfl,by simp[World.setCell],λk f=>Below.heap_setCell _ _ _ _ f⟩);unfold blk at *;simp only[World.setCell,Array.getElem?_modify];rw[oJ trivial,a];simp
def Mi(b:Nat):∀(vs:oE) (o:Nat) (w:oG),Oth b w (w.setCells b o vs):=by
 intro vs
 induction vs with
 | nil=>intro o w;exact⟨rfl,rfl,rfl,rfl,λ_ _=>rfl⟩
 | cons v vs ih =>
  intro o w;have h:=ih (o+1) (w.setCell ⟨b,o,none⟩ v);rw[World.setCells];exact⟨h.os,h.tape,h.output,by rw[h.size];simp[World.setCell],λk a=>(h.other k a).trans (Below.heap_setCell _ _ _ _ a)⟩
def Qo:∀(vs:oE) (o:Nat) (w:oG) (cs:oE),blk w b E cs->o+vs.length<=cs.length->blk (w.setCells b o vs) b E (cs.take o++vs++cs.drop (o+vs.length)):=by
 intro vs
 induction vs with
 | nil=>intro o w cs h c;rw[World.setCells];simpa using h
 | cons v vs ih =>
  intro o w cs h c;rw[World.setCells];simp only[oZ]at c;have f:blk (w.setCell ⟨b,o,none⟩ v) b E (cs.set o v):=by
   unfold blk at *;simp only[World.setCell,Array.getElem?_modify];rw[oJ trivial,h];simp
  have a:=ih (o+1) _ _ f (by simp;omega)
  have:(cs.set o v).take (o+1)++vs++(cs.set o v).drop (o+1+vs.length)=cs.take o++(v::vs)++cs.drop (o+(vs.length+1)):=by
   have e:cs.set o v=cs.take o++v::cs.drop (o+1):=by rw[List.set_eq_take_append_cons_drop,oJ oo]
   have d:(cs.take o).length=o:=by rw[qA];omega
   rw[e,qT,qS,d,List.take_take,List.drop_take];simp only[show min (o+1) o=o by omega,show o+1-o=1 by omega,List.take_succ_cons,qY,show o-(o+1+vs.length)=0 by omega,oV,show o+1+vs.length-o=vs.length+1 by omega,List.drop_succ_cons,List.drop_drop,
    show o+1+vs.length=o+(vs.length+1)by omega,jE,jF,qY,show o-(o+(vs.length+1))=0 by omega,show o+(vs.length+1)-o=vs.length+1 by omega,oV,List.drop_succ_cons,List.drop_drop,
    show o+1+vs.length=o+(vs.length+1)by omega]
  rw[this]at a;exact a
def eW{n:Nat}(hi:(P.info? t).map (·.size)=some n)(e:vs.length=n)(a:blk w b E cs)(f:o+n<=cs.length)(c:∀v∈vs,v.oneCell'=true)(h:∀S,blk S b E (cs.take o++vs++cs.drop (o+n))->Oth b w S->K undef S):sto P t (pA b o) (.agg vs.toArray) K w:=by
 subst e;have g:=run_storeAt_mid (P:=P) w b o t vs.toArray (λj d=>⟨by
  rw[a.cell,gE (by simp at d;omega)];rfl,a.frozen _⟩) (by simpa using hi) (by simpa using c)
 unfold sto;exact Vp g (h _ (by simpa using Qo vs o w cs a f) (by simpa using Mi b vs o w))
def bu{v:oF}(h:∀w',blk w' w.heap.size t v.cells.toList->Below w.heap.size w w'->w'.heap.size=w.heap.size+1->K (pA w.heap.size 0) w'):box P t v K w:=by
 unfold box;refine dR (w':=w.alloc (.cells v.cells t)) (v:=pA w.heap.size 0) ?_ (h _ ?_ (bX (World.grownBy_alloc _ _ none) oA (λk a=>by cases a)) oB)
 .simp[Instr.box,newVar,newRow]
 .unfold blk;rw[heap_alloc_new]
def bO{z:oF}(a:(P.info? t).bind (·.zero)=some z)(h:∀w',blk w' w.heap.size t z.cells.toList->Below w.heap.size w w'->w'.heap.size=w.heap.size+1->K (pA w.heap.size 0) w'):alc P t K w:=by
 obtain⟨i,b,a⟩:=Option.bind_eq_some_iff.1 a;unfold alc;refine dR (w':=w.alloc (.cells z.cells t)) (v:=pA w.heap.size 0) ?_ (h _ ?_ (bX (World.grownBy_alloc _ _ none) oA (λk c=>by cases c)) oB)
 .simp[Instr.alloc,zeroValue,typeInfo,b,a,newVar,newRow]
 .unfold blk;rw[heap_alloc_new]
def ck{a:Array (Nat×oF)}(b:P.built t a.toList=some vs.toArray)(h:K (.agg vs.toArray) w):bld P t a K w:=by unfold bld;exact dR (run_build w t a _ b) h
def Wl(P:Program)(s:TypeId)(f:Nat):Option Nat :=
 match P.underlying s with
 | some (.struct fs) =>
  match fs[f]? with
  | some fd=>match P.info? fd.type with
   | some i=>match Nat.beq i.size 0 with|true=>none|false=>some fd.offset
   | none=>none
  | none=>none
 | _=>none
def aJ{off:Nat}(a:Wl P t f=some off)(h:K (pA b (o+off)) w):ao P t (pA b o) f K w:=by
 unfold Wl at a;split at a
 .rename_i n m;split at a
  .rename_i j d;split at a
   .rename_i i k;split at a
    .cases a
    .rename_i g;cases a;have l:(sizeOf j.type).run P w=.ok i.size w:=by simp[sizeOf,typeInfo,k]
     have c:¬i.size=0:=λe=>by rw[e]at g;exact qI g dc
     unfold ao;refine dR (w':=w) ?_ h;simp only[Instr.fieldAt,jY,jZ m,jW,d,Instr.sureAddr,jX,fieldPlace,l,c,if_false,zw]
   .cases a
  .cases a
 .cases a
def fg{n:Nat}{k:IntKind}{i:Int}(f:P.underlying t=some (.array n e))(d:∀w,(sizeOf e).run P w=.ok s w)(a:0<=i)(c:i<n)(h:K (pA b (o+i.toNat*s)) w):aW P t (pA b o) (.int k i) K w:=by unfold aW;refine dR (w':=w) ?_ h;simp only[Instr.indexAt,asIntOf,Instr.sureAddr,jY,jX,jW,jZ f,d,a,c,and_self,if_true,zw]
def fQ{n:Nat}{k:IntKind}{i:Int}(g:P.underlying t=some (.slice e))(f:∀w,(sizeOf e).run P w=.ok s w)(a:0<=i)(d:i<n)(h:K (pA b (o+i.toNat*s)) w):aW P t (.slice (some ⟨b,o,none⟩) n c) (.int k i) K w:=by unfold aW;refine dR (w':=w) ?_ h;simp only[Instr.indexAt,asIntOf,Instr.sureAddr,jY,jX,jW,jZ g,f,a,d,and_self,if_true,zw]
def iR{n:Nat}{k:IntKind}{i:Int}(g:P.underlying t=some (.slice e))(h:K (pA b (o+i.toNat*s)) w)(f:∀w,(sizeOf e).run P w=.ok s w:=by intro _;kernel_rfl)(a:0<=i:=by omega)(d:i<n:=by omega):aW P t (.slice (some ⟨b,o,none⟩) n c) (.int k i) K w:=fQ g f a d h
def VG(d:P.underlying t=some (.slice e))(b:∀w,(sizeOf e).run P w=.ok s w){n:Nat}{k:IntKind}(f:m<=c)(h:K (.slice av m c) w):slc P t (.slice av n c) none (some (.int k (m:Int))) none K w:=by
 have a:(Instr.sliceBounds true n c none (some (.int k (m:Int))) none).run P w=.ok (0,m,c) w:=by
  have:=run_sliceBound (P:=P) w k (m:Int) c .sliceAcap oo oo
  simp[Instr.sliceBounds]at this |-;rw[this];simp
 unfold slc;refine dR (w':=w) ?_ h;simp only[Instr.sliceAt,Instr.slice,jY,jX,jW,jZ d,b,a];cases av<;>simp[Addr.add]
def zjI(g:P.underlying t=some (.slice e))(f:∀w,(sizeOf e).run P w=.ok s w){n q:Nat}{k:IntKind}(i:m<=q)(j:q<=c)(h:K (.slice av m q) w):slc P t (.slice av n c) none (some (.int k (m:Int))) (some (.int k' (q:Int))) K w:=by
 have d:(Instr.sliceBounds true n c none (some (.int k (m:Int))) (some (.int k' (q:Int)))).run P w=.ok (0,m,q) w:=by
  have a:=run_sliceBound (P:=P) w k' (q:Int) c .slice3Acap oo oo;have b:=run_sliceBound (P:=P) w k (m:Int) q .slice3B oo oo;simp[Instr.sliceBounds]at a b |-;rw[a];simp[b]
 unfold slc;refine dR (w':=w) ?_ h;simp only[Instr.sliceAt,Instr.slice,jY,jX,jW,jZ g,f,d];cases av<;>simp[Addr.add]
def nV{n:Nat}{g:Array (Nat×oF)}(vs:oE)(q:P.underlying t=some (.slice e))(hi:(P.info? e).map (·.size)=some s)(u:((P.info? e).bind (·.zero)).isSome=true)(p:0<s)(o:n=vs.length)(y:vs.length≠0)(j:n*s<=16777216)(d:g.toList=(vs.zipIdx 0).map λx=>(x.2,x.1))(r:∀v∈vs,v.cells.size=s)(h:∀S,blk S w.heap.size e (vs.flatMap λv=>v.cells.toList)->Below w.heap.size w S->S.heap.size=w.heap.size+1->K (.slice (some ⟨w.heap.size,0,none⟩) n n) S):bM P t n g K w:=by
 subst o;obtain⟨b,c,f⟩:∃b,P.info? e=some b/\b.size=s:=by
  cases i:P.info? e with
  | none=>rw[i]at hi;cases hi
  | some b=>rw[i]at hi;exact⟨b,rfl,by simpa using hi⟩
 obtain⟨z,a⟩:=Option.isSome_iff_exists.1 u;rw[c]at a;have a:b.zero=some z:=a;subst f;have l:=Go.Great.fill_whole p vs ((Array.range (vs.length*b.size)).map (z.cells[· % z.cells.size]!)) r oB;unfold bM
 refine dR (run_buildSlice (P:=P) w t e vs.length g _ b z q c a oo (by intro h;rcases Nat.mul_eq_zero.1 h with h|h<;>omega) (by rw[d];exact l)) (h _ ?_ (bX (World.grownBy_alloc _ _ none) oA (λk m=>by cases m)) oB);unfold blk;rw[heap_alloc_new]
def bS{f:FuncId}{first a b all:Array oF}(c:first++a++b=all)(h:call P f all K w):bA P (.func (.func f) first b) a K w:=⟨f,first,b,rfl,by rw[c];exact h⟩
def zaT{ty:TypeId}{cs:Array Bool}{base:Nat}{i:TypeInfo}{z:oF}(L:P.underlying t=some (.slice e))(hi:P.info? e=some i)(N:i.zero=some z)(f:i.size=s)(r:i.bytes=b)(C:z.cells.size=s)(x:0<s){n:Nat}(o:w.ownsRow base e s (.slice av n c) n xs){q:Nat}{zs:oE}(M:blk w g E zs)(A:ys.length=m*s)(B:(zs.drop q).take (m*s)=ys)(G:∀u∈ys,u.oneCell'=true)(a:(n+m)*b<=140737488355328)(I:n+m<=9223372036854775807)(d:base<=w.heap.size)(h:∀k c' S,S.ownsRow base e s (.slice k (n+m) c') (n+m) (xs++ys)->w.grownBy S (Value.slice av n c).ownBlock->K (.slice k (n+m) c') S):blt P .append #[t,t] ty cs #[.slice av n c,.slice (some ⟨g,q,none⟩) m c2] K w:=by
  have v:∀j u,ys[j]? = some u->w.cell? ((⟨g,q,none⟩:Addr).add j)=some u:=by
    intro j u l;rw[zw,M.cell];subst B;rw[List.getElem?_take]at l;split at l
    · rw[jM]at l;exact l
    · cases l
  obtain⟨O,S,J,D,H,_⟩:=run_append_own (P:=P) w base t ty e i z s b L hi N f r C x _ n xs o ⟨g,q,none⟩ m c2 ys A v G (by simp only[maxLen];omega) a d;obtain⟨k,c',rfl⟩:∃k c',O=.slice k (n+m) c':=by
    rcases D.2 with⟨y,v⟩|⟨g,p,F,y,_⟩
    · exact⟨none,0,by rw[y,v]⟩
    · exact⟨_,p,y⟩
  exact qz (by rw[BigFrame.builtin_append];simp only[jY,J,jW,jX]) (h k c' S D H)

def zes{i:TypeInfo}{z:oF}(A:P.underlying t=some (.slice e))(hi:P.info? e=some i)(O:i.zero=some z)(a:i.size=1)(r:i.bytes=b)(J:z.cells.size=1){n:Nat}(p:RV w av n n xs)(s:RV w a2 m c2 ys)(d:(n+m)*b<=140737488355328)(U:n+m<=9223372036854775807)(h:∀B c' w',((B=av/\c'=n/\m=0)\/∃S,blk w' w.heap.size e (xs++ys++S)/\(n+m)+S.length=c'/\B=some ⟨w.heap.size,0,none⟩)->Below w.heap.size w w'->K (.slice B (n+m) c') w'):blt P .append #[t,t] E u0 #[.slice av n n,.slice a2 m c2] K w:=by
  by_cases W:m=0
  · subst W
    refine qz (v:=.slice av (n+0) n) (w':=w) ?_ (h av n w (.inl ⟨rfl,rfl,rfl⟩) (jU _ _));rw[BigFrame.builtin_append];have X:ys=[]:=List.eq_nil_of_length_eq_zero s.len;cases a2 with
    | none=>cases av<;>simp[Builtin.append_,jZ A,sizeOf,typeInfo,hi,Builtin.lenOf,Builtin.firstCells,storeCells]
    | some ad=>cases av<;>simp[Builtin.append_,jZ A,sizeOf,typeInfo,hi,Builtin.lenOf,Builtin.firstCells,storeCells,loadCells,loadCellsFrom]
  obtain⟨C,L,rfl⟩:=s.some_ oo;have f:∀j u,ys[j]? = some u->w.cell? ((⟨C,L,none⟩:Addr).add j)=some u:=by
    intro j u y
    have:=s.cell j u y
    rw[zw];exact this
  have l:∀k c:Nat,k*b<=140737488355328->c<k->Builtin.nextslicecap k c*i.bytes<=281474976710656:=by
    intro k c N Z;have T:Builtin.nextslicecap k c<=2*k:=by
      have:=nextslicecap_le (need:=k) (old:=c) oo
      omega
    calc _<=2*k*i.bytes:=Nat.mul_le_mul_right _ T
      _<=_:=by rw[r,Nat.mul_assoc];omega
  have q:∀(old:Nat),blk (w.drew.alloc (.cells (xs.toArray++ys.toArray++Builtin.zeroCells z.cells (grownCap w (n+m) old e-(n+m))) e)) w.heap.size e (xs++ys++(Builtin.zeroCells z.cells (grownCap w (n+m) old e-(n+m))).toList):=by
    intro old;unfold blk
    have:=heap_alloc_new w.drew (.cells (xs.toArray++ys.toArray++Builtin.zeroCells z.cells (grownCap w (n+m) old e-(n+m))) e)
    rw[show w.drew.heap.size=w.heap.size from rfl]at this;rw[this];simp
  have x:∀k,(Builtin.zeroCells z.cells k).toList.length=k:=by intro k;rw[Array.length_toList,size_zeroCells,J];omega
  have g:∀R,Below w.heap.size w (w.drew.alloc R):=λR=>⟨rfl,rfl,rfl,by simp,λk N=>Below.heap_alloc w.drew _ _ N⟩
  cases av with
  | none =>
    obtain⟨rfl, -⟩:=p.nil_ rfl;have I:xs=[]:=List.eq_nil_of_length_eq_zero p.len;subst I;have G:=run_append_nil (P:=P) w t E e i z A hi O ⟨C,L,none⟩ m c2 ys (by rw[a,s.len];omega) f oo oo (by rw[r];rw[oK]at d;omega);have F:=grownCap_ge w m 0 e;have M:=q 0;simp only[oK,oV]at M h |-
    have o:=h (some ⟨w.heap.size,0,none⟩) (grownCap w m 0 e) (w.drew.alloc (.cells (ys.toArray++Builtin.zeroCells z.cells (grownCap w m 0 e-m)) e))
      (.inr ⟨_,by simpa using M,by rw[x];omega,rfl⟩) (g _)
    exact qz (by rw[BigFrame.builtin_append];simp only[jY,G,jW,jX]) o
  | some ad =>
    have H:∀j v,xs[j]? = some v->w.cell? (ad.add j)=some v:=by
      intro j v y;have V:=(gS y).1;obtain⟨Y,o1,D⟩:=p.some_ (by have:=p.len;omega);cases D;rw[zw];exact p.cell j v y
    have G:=run_append_grow (P:=P) w t E e i z A hi O ad n n xs (by rw[a,p.len];omega) H ⟨C,L,none⟩ m c2 ys (by rw[a,s.len];omega) f oo oo (l _ _ d oo);have F:=grownCap_ge w (n+m) n e;have o:=h (some ⟨w.heap.size,0,none⟩) (grownCap w (n+m) n e) _ (.inr ⟨_,q n,by rw[x];omega,rfl⟩) (g _)
    exact qz (by rw[BigFrame.builtin_append];simp only[jY,G,jW,jX]) o

def ac{S:oG->Prop}{s:KV->oG->Prop}{k:oF->Prop}{v:oF}(h:∀w,S w->∀K:KV,K v w->s K w)(a:k v):hld S s k:=⟨v,λw b=>h w b _ ⟨rfl,rfl⟩,a⟩
abbrev fU(P:Program)(t:TypeId)(f g:Nat)(b o:Nat)(K:KV)(w:oG):Prop:=K (pA b (o+g)) w->ao P t (pA b o) f K w
def hZ{S:oG->Prop}{a:Addr}{k:oF->Prop}(h:k (.pointer (some a))):hld S (aU (.pointer (some a))) k:=ac (λ_ _ _ b=>aq b) h
def hW{P:Program}{S:oG->Prop}{k:oF->Prop}(e:∀{K:KV} {w:oG},fU P t f g b o K w)(h:k (pA b (o+g))):hld S (ao P t (pA b o) f) k:=ac (λ_ _ _ a=>e a) h
def hE2{P:Program}{S:oG->Prop}{a b:oF}{k:oF->oF->Prop}(h:k a b):hld S (ext P (.tuple #[a,b]) 0) (λx=>hld S (ext P (.tuple #[a,b]) 1) (k x)):=ac (λ_ _ _ c=>bo c) (ac (λ_ _ _ c=>bj c) h)
def aw{b:(oG->Prop)->oG->Prop}(S:oG->Prop)(a:S w)(h:b S w):aF b w:=⟨S,a,h⟩
end
def hRT{b:(oG->Prop)->oG->Prop}(h:b (λ_=>True) w):aF b w:=⟨_,trivial,h⟩
def jh{v:oF}{S:oG->Prop}{s:KV->oG->Prop}{k:oF->Prop}{x:oF}(c:asB v=some cx)(h:∀w,S w->∀K:KV,K x w->s K w)(b:k x):hG v cx S s k :=
 ⟨x,λ_ w d=>h w d _ ⟨rfl,rfl⟩,λa=>qI c a,b⟩
def Xp{v:oF}{s:KV->oG->Prop}(b:asB v=some cx)(h:s K w):xG v cx s K w:=⟨λ_=>h,λa=>qI b a⟩
def Yt{p:Prop}[Decidable p](a:p):asB (.bool (decide p))=some true:=by show some (decide p)=some true;rw[qF a]
def zk7{p:Prop}[Decidable p](a : ¬p):asB (.bool (decide p))=some false:=by show some (decide p)=some false;rw[qE a]
section
variable {P:Program}

def QX{a:Array TypeId}{cs:Array Bool}{k:IntKind}{y:Int}(h:K (.int k (if x<y then y else x)) w):blt P .max a E cs #[.int k x,.int k' y] K w :=
 qz (v:=.int k (if x<y then y else x)) (w':=w) (by rw[BigFrame.builtin_max];simp[Builtin.max_,Builtin.max2,jX]) h
def Vf{a:Array TypeId}{cs:Array Bool}{k:IntKind}{y:Int}(h:K (.int k (if y<x then y else x)) w):blt P .min a E cs #[.int k x,.int k' y] K w :=
 qz (v:=.int k (if y<x then y else x)) (w':=w) (by rw[BigFrame.builtin_min];simp[Builtin.min_,Builtin.min2,jX]) h
end
section
variable {P:Program}

def zf1(g:P.underlying t=some (.slice e))(f:∀w,(sizeOf e).run P w=.ok 1 w){n:Nat}{k:IntKind}{v:oF}(a:RV w av n c vs)(d:0<=x)(b:vs[x.toNat]? = some v)(h:w.cell? (rM av x.toNat)=some v->K (.pointer (some (rM av x.toNat))) w):aW P t (.slice av n c) (.int k x) K w:=by have i:=(gS b).1;exact LI g f d (by rw[<-a.len];omega) a.some_ (h (a.cell _ _ b))
end
end Go.Proofs.YtpaghmnnhedccaaGreatDoor
