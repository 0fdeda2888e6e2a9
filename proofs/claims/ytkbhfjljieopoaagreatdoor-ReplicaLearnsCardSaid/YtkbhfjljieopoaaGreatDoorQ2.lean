import Derived.Test.YtkbhfjljieopoaaGreatDoorQ1
import Derived.Maps.AppendAt
import Derived.Test.YtkbhfjljieopoaaGreatDoorSh
import Derived.OrdersIn
import Derived.TacticsIn
import Derived.RangeFuncIn
import Derived.RangeFuncRecord
import Derived.RangeFuncCalls
import Derived.RangeFuncOwn
import Derived.RangeFuncLeaves
import Derived.Test.YtkbhfjljieopoaaGreatDoorChecked
namespace Go.Proofs.YtkbhfjljieopoaaGreatDoor
set_option maxRecDepth 100000
open Go.Proofs.Tryz
variable {w w' w0:World}{K:KV}{zf dd:Nat→Value}{b c n k o B i g p m s j z d f D hi:Nat}{x r v:Int}{A xs ys:List Int}{B1 W0:KE}{a av:Option Addr}{E t e:TypeId}{cs Y0:List Value}{P:Program}{T L:List (Int×Int)}{F:List Nat}{α X1:Type}{cx cy:Bool}{U0:FuncId}{Y1 Z1 U2 V2 W2 X2 Y2 Z2 U3 V3 W3 X3 Y3 Z3 j4 U4 V4 W4:Value}
section
theorem NJ {x:ND}:∀{N:List ND},∃i,dN x N=fl N i x
 | []=>⟨0,rfl⟩
 | z::N=>by
  unfold dN;split
  ·exact⟨0,rfl⟩
  ·obtain⟨i,h⟩:=NJ (x:=x) (N:=N);exact⟨i+1,by rw[h];rfl⟩
theorem Qw {x:ND}{N:List ND}:∃i,tr (dN x N)=fl (tr N) i (x.id,x.par):=by
 obtain⟨i,h⟩:=NJ (x:=x) (N:=N);refine⟨i,?_⟩;rw[h];unfold tr fl;rw[List.map_append,List.map_cons,List.map_take,List.map_drop]
section
variable {e:EV}{s:PL}
theorem Uu :Lf z54:=uP.1 (by decide)
theorem FI (i:Nat):nA z54 i=0:=by
 unfold nA z54;rw[List.getD_eq_getElem?_getD,List.getElem?_replicate];split<;>rfl
theorem Pf {R:List (List Int)}(d:R.length=6)(u:e.q<6)(h:jB R k r=true):jB (kZ e R) k r=true:=by
 unfold kZ;split
 ·unfold jB at *;rw[sA (by rw[d];exact u)];split
  ·rename_i j;subst j;rw[List.contains_iff_mem]at h ⊢;exact List.mem_append_left _ h
  ·exact h
 ·exact h
theorem PI.eff (hi:PI s)(h:OK e s):PI (eff e s):=by
 obtain⟨hq,ho⟩:=qe h.may;have hm:=gC h.may;have a:=after hi h;have Z:=hi.new h.may h.rdy;have a0:=nB h.rdy;have a8:=FT h.may;refine⟨?_,?_,by show (s.V.set _ _).length=6;rw[List.length_set];exact hi.v6,?_,fun k X=>?_,fun x d=>?_,fun x d=>?_,?_,fun x d=>?_,fun o=>?_,?_,fun x d=>?_,?_,fun g hg=>?_⟩
 ·show (nO e s.I).length=6;unfold nO;split
  ·rw[List.length_set];exact hi.i6
  ·exact hi.i6
 ·show (nP e s.L).length=6;unfold nP;split
  ·rw[List.length_set];exact hi.l6
  ·exact hi.l6
 ·show (kZ e s.R).length=6;unfold kZ;split
  ·rw[List.length_set];exact hi.r6
  ·exact hi.r6
 ·by_cases ek:k=e.q
  ·subst ek;rw[a.Ve, ←a0.1];simp only[M40]at *; omega
  ·rw[a.V _ ek];exact hi.vb k X
 ·rcases ln hi h with⟨y,u,J,hp,hA,_⟩|⟨ids,c,v,u,_⟩|⟨u,_⟩
  ·rw[show (Go.Proofs.YtkbhfjljieopoaaGreatDoor.eff e s).N=dN y s.N by show (nop e s).ap s.N=_;rw[u];rfl]at d;rcases ow.1 d with rfl|d
   ·rw[hA];simp[z54]
   ·exact hi.A54 x d
  ·rw[show (Go.Proofs.YtkbhfjljieopoaaGreatDoor.eff e s).N=s.N.map (dR ids c v)by show (nop e s).ap s.N=_;rw[u];rfl]at d;obtain⟨y,J,rfl⟩:=List.mem_map.1 d;unfold dR;split
   ·show (y.A.set _ _).length=54;rw[List.length_set];exact hi.A54 y J
   ·exact hi.A54 y J
  ·rw[show (Go.Proofs.YtkbhfjljieopoaaGreatDoor.eff e s).N=s.N by show (nop e s).ap s.N=_;rw[u];rfl]at d;exact hi.A54 x d
 ·rcases ln hi h with⟨y,u,J,hp,hA,k1⟩|⟨ids,c,v,u,_,U,hc,bb,bd,hb⟩|⟨u,_⟩
  ·rw[show (Go.Proofs.YtkbhfjljieopoaaGreatDoor.eff e s).N=dN y s.N by show (nop e s).ap s.N=_;rw[u];rfl]at d;rcases ow.1 d with rfl|d
   ·have hz:z54.set e.q e.a=z54.set e.q (nA z54 e.q+e.a):=by rw[FI];simp
    have az:0≤e.a:=by rcases qC h.may with⟨_,h1,_⟩|⟨k,_⟩|⟨k,_⟩|⟨k,_⟩|⟨k,_⟩|⟨k,_⟩|k<;>omega
    have ha:=(h.k1 k1).2.1;rw[hA,hz];refine⟨uP.2 (NO (by simp[z54]) Uu az (by omega) (by rw[FI];simp only[MXA,M47]at *; omega) (fun i hi e=>by omega) (fun i hi e=>by omega) (fun k X U=>by rcases U with U|⟨j,_,U⟩<;>omega) (fun _=>⟨by rw[FI];omega,fun i _=>by rw[FI];decide⟩)),fun k X=>?_⟩;rw[nT (by simp[z54];omega),FI];unfold dlt;split
    ·omega
    ·simp only[M47];omega
   ·exact hi.may x d
  ·rw[show (Go.Proofs.YtkbhfjljieopoaaGreatDoor.eff e s).N=s.N.map (dR ids c v)by show (nop e s).ap s.N=_;rw[u];rfl]at d;obtain⟨y,J,rfl⟩:=List.mem_map.1 d;by_cases ag:y.id∈ids
   ·have al:=hb _ ag;rw[te hi.srt J]at al;obtain⟨b1,b2,b3,b4⟩:=al;obtain⟨m1,m2⟩:=hi.may y J;have m1:=uP.1 m1;have hl:=hi.A54 y J;rw[sr ag];show jj (y.A.set c (nA y.A c+v))=true∧_;refine⟨uP.2 (NO hl m1 (by omega) (Io hq hc) b1 (fun i hi av=>?_) (fun i hi a9=>?_) (fun k X U=>?_) (fun c6=>⟨b2 c6,fun i hi=>m2 i hi⟩)),fun k X=>?_⟩
    ·have:c=12+e.q:=by rcases hc with rfl|rfl|rfl|⟨j,hj,_,rfl⟩<;>omega
     have h3:=b3 this
     have:i=e.q:=by omega
     subst this;rw[av]at h3;exact h3
    ·rcases hc with rfl|rfl|rfl|⟨j,hj,am,rfl⟩<;>omega
    ·rcases U with U|⟨j,hj,U⟩
     ·have:k=e.q:=by rcases hc with rfl|rfl|rfl|⟨j,hj,am,rfl⟩<;>omega
      subst this;exact b4 (.inl U)
     ·have:k=e.q:=by rcases hc with rfl|rfl|rfl|⟨i,hi,am,rfl⟩<;>omega
      subst this;exact b4 (.inr (by omega))
    ·show nA (y.A.set c (nA y.A c+v)) k≤M47;rw[nT (by rw[hl];exact Io hq hc)];by_cases ec:k=c
     ·subst ec;rw[ro];exact b2 X
     ·rw[iY ec];have:=m2 k X;omega
   ·rw[qw ag];exact hi.may y J
  ·rw[show (Go.Proofs.YtkbhfjljieopoaaGreatDoor.eff e s).N=s.N by show (nop e s).ap s.N=_;rw[u];rfl]at d;exact hi.may x d
 ·show ((nop e s).ap s.N).Pairwise _;rcases ln hi h with⟨y,u,J,_⟩|⟨ids,c,v,u,_⟩|⟨u,_⟩<;>rw[u]
  ·exact rK hi.srt (JC hi h J)
  ·exact Dz (fun y=>(gV y).1) hi.srt
  ·exact hi.srt
 ·have M:∀x∈s.N,∃o q:Int,1≤o∧o≤6∧1≤q∧q<M40∧x.id=o*M40+q∧q≤(Go.Proofs.YtkbhfjljieopoaaGreatDoor.eff e s).V.getD (o-1).toNat 0:=fun x d=>by
   obtain⟨o,q,a1,a2,a3,a4,a5,a6⟩:=hi.ids x d;refine⟨o,q,a1,a2,a3,a4,a5,?_⟩;by_cases ek:(o-1).toNat=e.q
   ·rw[ek,a.Ve];rw[ek]at a6;omega
   ·rw[a.V _ ek];exact a6
  rcases ln hi h with⟨y,u,J,hp,hA,_⟩|⟨ids,c,v,u,_⟩|⟨u,_⟩
  ·rw[show (Go.Proofs.YtkbhfjljieopoaaGreatDoor.eff e s).N=dN y s.N by show (nop e s).ap s.N=_;rw[u];rfl]at d;rcases ow.1 d with rfl|d
   ·refine⟨e.o,e.s,hm.1,hm.2.1,hm.2.2.1,hm.2.2.2,J,?_⟩;rw[show (e.o-1).toNat=e.q from rfl,a.Ve];omega
   ·exact M x d
  ·rw[show (Go.Proofs.YtkbhfjljieopoaaGreatDoor.eff e s).N=s.N.map (dR ids c v)by show (nop e s).ap s.N=_;rw[u];rfl]at d;obtain⟨y,J,rfl⟩:=List.mem_map.1 d;rw[(gV y).1];exact M y J
  ·rw[show (Go.Proofs.YtkbhfjljieopoaaGreatDoor.eff e s).N=s.N by show (nop e s).ap s.N=_;rw[u];rfl]at d;exact M x d
 ·show gP ((nop e s).ap s.N) o≤5;rcases ln hi h with⟨y,u,J,_,_,k1⟩|⟨ids,c,v,u,_⟩|⟨u,_⟩<;>rw[u]
  ·show gP (dN y s.N) o≤5;rw[DM,J,show idE e / M40=e.o from ti (by omega) hm.2.2.2];split
   ·rename_i eo;rw[←eo];have:=(h.k1 k1).1;omega
   ·have:=hi.own o;omega
  ·exact Nat.le_trans (Nat.le_of_eq (DN fun y=>(gV y).1)) (hi.own o)
  ·exact hi.own o
 ·show ∃rk,TK (tr ((nop e s).ap s.N)) rk;obtain⟨rk,X⟩:=hi.tk;rcases ln hi h with⟨y,u,J,hp,_,k1⟩|⟨ids,c,v,u,_⟩|⟨u,_⟩<;>rw[u]
  ·obtain⟨i,ht⟩:=Qw (x:=y) (N:=s.N);show ∃rk,TK (tr (dN y s.N)) rk;rw[ht];exact⟨_,X.add (by rw[J];omega) (by rw[kh,J];exact Z) (by rw[kh,hp];exact(h.k1 k1).2.2.1) i⟩
  ·exact⟨rk,by show TK (tr (s.N.map _)) rk;rw[FB fun y=>gV y];exact X⟩
  ·exact⟨rk,X⟩
 ·have M:∀x∈s.N,(di (Go.Proofs.YtkbhfjljieopoaaGreatDoor.eff e s).N x.id).length≤4:=fun x d=>by
   rw[a.path _ (.inl (mF.2 ⟨x,d,rfl⟩))];exact hi.dep x d
  rcases ln hi h with⟨y,u,J,hp,hA,k1⟩|⟨ids,c,v,u,_⟩|⟨u,_⟩
  ·have eN:(Go.Proofs.YtkbhfjljieopoaaGreatDoor.eff e s).N=dN y s.N:=by show (nop e s).ap s.N=_;rw[u];rfl
   rw[eN]at d;rcases ow.1 d with rfl|d
   ·obtain⟨k2,k3,k4,k5⟩:=h.k1 k1;have an:=a.path e.n (k4.symm);rw[eN]at an ⊢;obtain⟨rk,X⟩:=hi.tk;obtain⟨i,ht⟩:=Qw (x:=x) (N:=s.N);have ad:=X.add (id:=x.id) (par:=x.par) (by rw[J];omega) (by rw[kh,J];exact Z) (by rw[kh,hp];exact k4) i;rw[←ht]at ad;have U:cr (tr (dN x s.N)) x.id=true:=by rw[kh,Di];simp
    have ar:eE (tr (dN x s.N)) x.id=x.par:=CG (Kc (rK hi.srt (JC hi h J))) (List.mem_map.2 ⟨x,ow.2 (.inl rfl),rfl⟩);have hu:=AM ad x.par;have aS:di (dN x s.N) x.id=x.id::di (dN x s.N) x.par:=by
     unfold di dh;rw[cB,U,if_pos rfl,ar]
     congr 1
     refine Fo ad _ _ _ ?_ (by omega);exact hu
    rw[aS,List.length_cons,hp,an];omega
   ·exact M x d
  ·rw[show (Go.Proofs.YtkbhfjljieopoaaGreatDoor.eff e s).N=s.N.map (dR ids c v)by show (nop e s).ap s.N=_;rw[u];rfl]at d;obtain⟨y,J,rfl⟩:=List.mem_map.1 d;rw[(gV y).1];exact M y J
  ·rw[show (Go.Proofs.YtkbhfjljieopoaaGreatDoor.eff e s).N=s.N by show (nop e s).ap s.N=_;rw[u];rfl]at d;exact M x d
 ·show ((gop e).ap s.G).Pairwise ltG;unfold gop;split
  ·rename_i k3;refine BI hi.gs fun g hg U=>?_;obtain⟨_,_,_,g1,g2,g3,g4⟩:=hi.gk g hg;rw[U.1,U.2,show (e.o-1).toNat=e.q from rfl,(h.k3 k3).1]at g4;cases g4
  ·split
   ·show (s.G.map _).Pairwise ltG;rw[List.pairwise_map];refine hi.gs.imp fun {x y} a7=>?_;unfold ltG at *;rw[(mL x).1,(mL x).2,(mL y).1,(mL y).2];exact a7
   ·exact hi.gs
 ·have M:∀g∈s.G,bU (Go.Proofs.YtkbhfjljieopoaaGreatDoor.eff e s).N g.n=true∧1≤g.a∧g.a≤MXA∧1≤g.o∧g.o≤6∧1≤g.q∧jB (Go.Proofs.YtkbhfjljieopoaaGreatDoor.eff e s).R (g.o-1).toNat g.q=true:=fun g hg=>by
   obtain⟨g0,g1,g2,g3,g4,g5,g6⟩:=hi.gk g hg;exact⟨a.has _ g0,g1,g2,g3,g4,g5,Pf hi.r6 hq g6⟩
  have O:g∈(gop e).ap s.G:=hg;unfold gop at O;split at O
  ·rename_i k3;rcases Hk.1 O with rfl|O
   ·rcases qC h.may with⟨k,_⟩|⟨k,_⟩|⟨_,b1,b2,b3⟩|⟨k,_⟩|⟨k,_⟩|⟨k,_⟩|k<;>try omega
    refine⟨a.has _ (h.k3 k3).2.1,b1,b2,hm.1,hm.2.1,b3,?_⟩;show jB (kZ e s.R) e.q e.r=true;unfold kZ jB;rw[if_pos (.inl k3),sA (by rw[hi.r6];exact hq),if_pos rfl,List.contains_iff_mem];simp
   ·exact M g O
  ·split at O
   ·obtain⟨y,J,rfl⟩:=List.mem_map.1 O
    have:=M y J
    unfold nD;split
    ·exact this
    ·exact this
   ·exact M g O
end
theorem rh (n:Nat):PI (pl0 n) where
 i6:=by simp[pl0]
 l6:=rfl
 v6:=rfl
 r6:=rfl
 vb:=fun k d=>by
  have:(pl0 n).V.getD k 0=0:=by
   show (List.replicate 6 (0:Int)).getD k 0=0;rw[List.getD_eq_getElem?_getD,List.getElem?_replicate];split<;>rfl
  rw[this];decide
 A54:=by simp[pl0]
 may:=by simp[pl0]
 srt:=by simp[pl0]
 ids:=by simp[pl0]
 own:=fun o=>by simp[pl0,gP]
 tk:=⟨_,TK.nil⟩
 dep:=by simp[pl0]
 gs:=by simp[pl0]
 gk:=by simp[pl0]
theorem yX :Sys eff OK EV.q PI where
 inv:=fun e s hi h=>hi.eff h
 dia:=fun e f s hi I h j=>by
  have d:f.o≠e.o:=fun u=>I (by unfold EV.q;rw[u]);exact⟨h.kept hi j d,QS hi h j d⟩
def lf (f:List Int→Int)(N:List ND):List Int→Int
 | []=>0
 | id::p=>if f (aN N id)≠0 then f (aN N id)else lf f N p
def eU (e:EV)(s:PL):Int :=
 if e.k=1 then (if 5≤gP s.N e.o∨M47<e.a then 6 else (iX (tr s.N) (idE e) e.n).2)
 else if e.k=2 then (if bU s.N e.n=false then 9 else if M47<nA (aN s.N e.n) e.q+e.a then 6 else 0)
 else if e.k=3 then (if jB s.R e.q e.r=true then 14 else if bU s.N e.n=false then 9 else lf (fun A=>(iO A e.o e.a).2) s.N (di s.N e.n))
 else if e.k=4 then (if jB s.R e.q e.r=true then 14 else match iQ s.G e.o e.f with|none=>12|some g=>if g.b≠0 then 12 else lf (fun A=>(iH A e.o g.a).2) s.N (di s.N g.n))
 else if e.k=5 then (if bU s.N e.n=false then 9 else if s.I.getD (e.t-1).toNat false=false then 10 else (kQ (aN s.N e.n) e.o e.t e.a).2)
 else 0
def np (e:EV)(s:PL):Int :=
 if dK e=false then 1 else if nH s.V e=true then 14 else if ey s.V e=false then 13 else if s.I.getD e.q false=false∨s.L.getD e.q false=true then 10 else eU e s
def jL (e:EV)(s:PL):PL:=if np e s=0 then eff e s else s
theorem zB {f:List Int→Int}{N:List ND}:∀{p:List Int},lf f N p=0↔∀id∈p,f (aN N id)=0
 | []=>by simp[lf]
 | id::p=>by
  unfold lf;by_cases h:f (aN N id)=0
  ·rw[if_neg (by simpa using h),zB];simp[h]
  ·rw[if_pos h];simp[h]
section
variable {A:List Int}{o a t:Int}
theorem MD (h:jj A=true)(d:1≤a)(j:a≤MXA)(u:1≤o)(I:o≤6):qf A o a=0:=by
 unfold qf bK;rw[if_neg (by rintro(e|e|e);(rw[h]at e;cases e);omega;omega),if_neg (by simp;omega)]
theorem MO (h:jj A=true)(d:1≤a)(j:a≤MXA)(u:1≤o)(I:o≤6):(iO A o a).2=0↔a≤gS A (o-1).toNat∧nA A (6+(o-1).toNat)+a≤MXA:=by
 unfold iO rY;rw[MD h d j u I,if_neg (by simp)];generalize (o-1).toNat=q;split
 ·simp;omega
 ·split<;>simp<;>omega
theorem MN (h:(iO A o a).2=0):(iO A o a).1=A.set (6+(o-1).toNat) (nA A (6+(o-1).toNat)+a):=by
 unfold iO rY at *;split at h
 ·rename_i d;exact absurd h d
 ·rename_i d;rw[if_neg d];split at h
  ·cases h
  ·rename_i j;rw[if_neg j];split at h
   ·cases h
   ·rename_i u;rw[if_neg u]
theorem LI (h:jj A=true)(d:1≤a)(j:a≤MXA)(u:1≤o)(I:o≤6):(iH A o a).2=0↔nA A (12+(o-1).toNat)+a≤nA A (6+(o-1).toNat):=by
 unfold iH;rw[MD h d j u I,if_neg (by simp)];generalize (o-1).toNat=q;split
 ·simp;omega
 ·simp;omega
theorem LH (h:(iH A o a).2=0):(iH A o a).1=A.set (12+(o-1).toNat) (nA A (12+(o-1).toNat)+a):=by
 unfold iH at *;split at h
 ·rename_i d;exact absurd h d
 ·rename_i d;rw[if_neg d];split at h
  ·cases h
  ·rename_i j;rw[if_neg j]
theorem Mg (h:jj A=true)(d:1≤a)(j:a≤MXA)(I:1≤o)(J:o≤6)(O:1≤t)(U:t≤6)(M:t≠o):(kQ A o t a).2=0↔a≤gS A (o-1).toNat∧nA A (18+6*(o-1).toNat+(t-1).toNat)+a≤MXA:=by
 unfold kQ rY bK;rw[MD h d j I J,if_neg (by simp),if_neg (by simp;omega),if_neg (fun e=>M e.symm)];generalize (o-1).toNat=q;generalize (t-1).toNat=u;split
 ·simp;omega
 ·split<;>simp<;>omega
theorem Mf (h:(kQ A o t a).2=0):(kQ A o t a).1=A.set (18+6*(o-1).toNat+(t-1).toNat) (nA A (18+6*(o-1).toNat+(t-1).toNat)+a):=by
 unfold kQ rY at *;split at h
 ·rename_i d;exact absurd h d
 ·rename_i d;rw[if_neg d];split at h
  ·cases h
  ·rename_i j;rw[if_neg j];split at h
   ·cases h
   ·rename_i u;rw[if_neg u];split at h
    ·cases h
    ·rename_i I;rw[if_neg I];split at h
     ·cases h
     ·rename_i J;rw[if_neg J]
end
section
variable {e:EV}{s:PL}
theorem PI.mayN (hi:PI s){id:Int}(h:bU s.N id=true):jj (aN s.N id)=true:=by
 obtain⟨x,d,rfl⟩:=pR h;rw[te hi.srt d];exact(hi.may x d).1
theorem PI.few (hi:PI s)(o:Int)(M:1≤o)(I:o≤6)(h:gP s.N o<5):s.N.length<32:=by
 rw[JE fun x J=>by
  obtain⟨o,q,a1,d,j,u,a5,_⟩:=hi.ids x J;exact⟨o,q,a1,d,j,u,a5⟩]
 have:=hi.own 1
 have:=hi.own 2
 have:=hi.own 3
 have:=hi.own 4
 have:=hi.own 5
 have:=hi.own 6
 omega
theorem Oz (d:ey s.V e=true):nH s.V e=false:=by
 have:=(nB d).1
 unfold nH EV.q at *;rw[decide_eq_false (by omega),Bool.and_false]
theorem vc (hi:PI s):np e s=0↔OK e s:=by
 constructor
 ·intro h;unfold np at h;split at h
  ·cases h
  rename_i X;split at h
  ·cases h
  split at h
  ·cases h
  rename_i hr;split at h
  ·cases h
  rename_i O;have X:dK e=true:=by simpa using X
  have hr:ey s.V e=true:=by simpa using hr
  have O:s.I.getD e.q false=true∧s.L.getD e.q false=false:=by
   constructor
   ·cases hq:s.I.getD e.q false with
    | true=>rfl
    | false=>exact absurd (.inl hq) O
   ·cases hq:s.L.getD e.q false with
    | false=>rfl
    | true=>exact absurd (.inr hq) O
  have M:=gC X;refine⟨X,hr,O.1,O.2,fun k=>?_,fun k=>?_,fun k=>?_,fun k=>?_,fun k=>?_⟩
  ·unfold eU at h;rw[if_pos k]at h;split at h
   ·cases h
   rename_i j;unfold iX at h;rw[if_neg (by have:=FT X;omega),kh,hi.new X hr,if_neg (by simp)]at h;split at h
   ·cases h
   rename_i u;split at h
   ·cases h
   rename_i J;refine⟨by omega,by omega,?_,by unfold di;omega⟩;by_cases h0:e.n=0
   ·exact .inl h0
   ·refine .inr ?_;cases hq:bU s.N e.n with
    | true=>rfl
    | false=>exact absurd ⟨h0,by rw[kh];exact hq⟩ u
  ·unfold eU at h;rw[if_neg (by omega),if_pos k]at h;split at h
   ·cases h
   rename_i j;split at h
   ·cases h
   rename_i u;exact⟨by simpa using j,by omega⟩
  ·unfold eU at h;rw[if_neg (by omega),if_neg (by omega),if_pos k]at h;split at h
   ·cases h
   rename_i j;split at h
   ·cases h
   rename_i u;refine⟨by simpa using j,by simpa using u,fun id d=>?_⟩;have J:=zB.1 h id d;rcases qC X with⟨U,_⟩|⟨U,_⟩|⟨_,b1,b2,Z⟩|⟨U,_⟩|⟨U,_⟩|⟨U,_⟩|U<;>try omega
   exact(MO (hi.mayN (mR d)) b1 b2 M.1 M.2.1).1 J
  ·unfold eU at h;rw[if_neg (by omega),if_neg (by omega),if_neg (by omega),if_pos k]at h;split at h
   ·cases h
   rename_i j;split at h
   ·cases h
   rename_i g hg;split at h
   ·cases h
   rename_i u;refine⟨by simpa using j,g,hg,by simpa using u,fun id d=>?_⟩;have J:=zB.1 h id d;have gk:=hi.gk g (sC hg).1;exact(LI (hi.mayN (mR d)) gk.2.1 gk.2.2.1 M.1 M.2.1).1 J
  ·unfold eU at h;rw[if_neg (by omega),if_neg (by omega),if_neg (by omega),if_neg (by omega),if_pos k]at h;split at h
   ·cases h
   rename_i j;split at h
   ·cases h
   rename_i u;have j:bU s.N e.n=true:=by simpa using j
   rcases qC X with⟨U,_⟩|⟨U,_⟩|⟨U,_⟩|⟨U,_⟩|⟨_,b1,b2,Z,b4,b5⟩|⟨U,_⟩|U<;>try omega
   have J:=(Mg (hi.mayN j) b1 b2 M.1 M.2.1 Z b4 b5).1 h;exact⟨j,by simpa using u,J⟩
 ·intro h;have M:=gC h.may;unfold np;rw[if_neg (by rw[h.may];simp),Oz h.rdy,if_neg (by simp),if_neg (by rw[h.rdy];simp),if_neg (by rintro(e|e);(rw[h.inI]at e;cases e);(rw[h.notL]at e;cases e))];unfold eU;rcases qC h.may with⟨k,_⟩|⟨k,_⟩|⟨k,b1,b2,Z⟩|⟨k,_⟩|⟨k,b1,b2,Z,b4,b5⟩|⟨k,_⟩|k
  ·obtain⟨j,u,J,h4⟩:=h.k1 k;rw[if_pos k,if_neg (by omega)];unfold iX;rw[if_neg (by have:=FT h.may;omega),kh,hi.new h.may h.rdy,if_neg (by simp),if_neg,if_neg]
   ·have:=hi.few e.o M.1 M.2.1 j
    unfold di at h4;unfold tr at *;simp only[List.length_map]at *;omega
   ·rintro⟨e1,e2⟩;rw[kh]at e2;rcases J with J|J
    ·exact e1 J
    ·rw[J]at e2;cases e2
  ·obtain⟨j,u⟩:=h.k2 k;rw[if_neg (by omega),if_pos k,j,if_neg (by simp),if_neg (by omega)]
  ·obtain⟨j,u,J⟩:=h.k3 k;rw[if_neg (by omega),if_neg (by omega),if_pos k,j,u,if_neg (by simp),if_neg (by simp)];exact zB.2 fun id d=>(MO (hi.mayN (mR d)) b1 b2 M.1 M.2.1).2 (J id d)
  ·obtain⟨j,g,u,J,h4⟩:=h.k4 k;rw[if_neg (by omega),if_neg (by omega),if_neg (by omega),if_pos k,j,u,if_neg (by simp)];simp only;rw[if_neg (by omega)];have gk:=hi.gk g (sC u).1;exact zB.2 fun id d=>(LI (hi.mayN (mR d)) gk.2.1 gk.2.2.1 M.1 M.2.1).2 (h4 id d)
  ·obtain⟨j,u,J⟩:=h.k5 k;rw[if_neg (by omega),if_neg (by omega),if_neg (by omega),if_neg (by omega),if_pos k,j,u,if_neg (by simp),if_neg (by simp)];exact(Mg (hi.mayN j) b1 b2 M.1 M.2.1 Z b4 b5).2 J
  ·rw[if_neg (by omega),if_neg (by omega),if_neg (by omega),if_neg (by omega),if_neg (by omega)]
  ·rw[if_neg (by omega),if_neg (by omega),if_neg (by omega),if_neg (by omega),if_neg (by omega)]
end
def Jt (e:EV)(k:Nat):Int:=e.V.getD k 0
def kV (l:PL):Nat→Int:=fun k=>l.V.getD k 0
abbrev HistL (n:Nat)(E:List EV):Prop:=Hist eff OK EV.q EV.s Jt (pl0 n) E
abbrev stL (n:Nat)(E:List EV)(D:Nat→Int):PL:=stD eff EV.q EV.s (pl0 n) E D
abbrev ClL (E:List EV)(D:Nat→Int):Prop:=Closed EV.q EV.s Jt E D
structure LK (n:Nat) (E:List EV) (l:PL):Prop where
 st:l=stL n E (kV l)
 cl:ClL E (kV l)
section
variable {n:Nat}{E:List EV}{l:PL}{e:EV}
theorem PS (h:dK e=true):e.V.getD e.q 0=e.s-1∧∀k,e.V.getD k 0<M40:=by
 unfold dK at h;simp only[Bool.and_eq_true,decide_eq_true_eq,List.all_eq_true,List.mem_range]at h;refine⟨h.2.2.2.1,fun k=>?_⟩;by_cases d:k<6
 ·exact h.2.2.2.2.1 k d
 ·rw[List.getD_eq_getElem?_getD,List.getElem?_eq_none (by simp[EV.V];omega)];decide
theorem HistL.may (h:HistL n E):∀e∈E,dK e=true:=by
 induction h with
 | nil=>simp
 | @snoc l e hl hs hd hc hok ih =>
  intro f d;rcases List.mem_append.1 d with d|d
  ·exact ih f d
  ·rw[List.mem_singleton.1 d];exact hok.may
theorem LK.pi (d:HistL n E)(h:LK n E l):PI l:=by
 rw[h.st];exact d.inv yX (rh n) h.cl
theorem IF (hi:PI l)(h:OK e l):kV (eff e l)=upD (kV l) e.q e.s:=by
 have a:=after hi h;funext k;unfold kV upD;by_cases d:k=e.q
 ·subst d;rw[if_pos rfl,a.Ve,(nB h.rdy).1]
 ·rw[if_neg d,a.V _ d]
theorem LK.next (d:HistL n E)(h:LK n E l)(M:e∈E)(U:ey l.V e=true):OK e l∧LK n E (eff e l):=by
 obtain⟨r1,Z⟩:=nB U;have hm:=d.may e M;have X:∀k,Jt e k≤kV l k:=fun k=>by
  by_cases j:k<6
  ·exact Z k j
  ·unfold Jt kV;rw[List.getD_eq_getElem?_getD,List.getElem?_eq_none (by simp[EV.V];omega),List.getD_eq_getElem?_getD,List.getElem?_eq_none (by rw[(h.pi d).v6];omega)];exact Int.le_refl _
 obtain⟨u,J,O⟩:=d.next yX (rh n) h.cl M (by unfold kV;omega) X
 have I:stD eff EV.q EV.s (pl0 n) E (kV l)=l:=h.st.symm;rw[I]at u J;have j:=IF (h.pi d) u;refine⟨u,⟨?_,by rw[j];exact O⟩⟩;rw[j];exact J
theorem LK.ok (d:HistL n E)(h:LK n E l)(j:e∈E):np e l=0↔ey l.V e=true:=by
 rw[vc (h.pi d)];exact⟨fun h=>h.rdy,fun u=>(h.next d j u).1⟩
theorem LK.apply (j:HistL n E)(h:LK n E l)(d:e∈E):LK n E (jL e l):=by
 unfold jL;split
 ·rename_i u;exact(h.next j d ((h.ok j d).1 u)).2
 ·exact h
theorem EP (n:Nat):kV (pl0 n)=fun _=>0:=by
 funext k;show (List.replicate 6 (0:Int)).getD k 0=0;rw[List.getD_eq_getElem?_getD,List.getElem?_replicate];split<;>rfl
theorem LK.zero (u:HistL n E):LK n E (pl0 n):=by
 have j:∀e∈E,¬e.s≤0:=fun e d h=>by have:=(gC (u.may e d)).2.2.1;omega
 refine⟨?_,?_⟩
 ·rw[EP];unfold stL stD
  have:E.filter (kn EV.q EV.s fun _=>0)=[]:=by
   rw[List.filter_eq_nil_iff];intro e d h;exact j e d (oy.1 h)
  rw[this];rfl
 ·rw[EP];intro e d h;exact absurd h (j e d)
theorem HistL.all (j:HistL n E):okL eff OK (pl0 n) E∧LK n E (lQ eff (pl0 n) E):=by
 have O:E.filter (kn EV.q EV.s fun _=>M40)=E:=by
  rw[List.filter_eq_self];intro e d
  have:=(gC (j.may e d)).2.2.2
  exact oy.2 (by simp only[M40]at *; omega)
 have M:ClL E fun _=>M40:=fun e d _ k=>by
  have:=(PS (j.may e d)).2 k
  exact Int.le_of_lt this
 have u:=j.oks yX (rh n) M;rw[O]at u;refine⟨u,?_⟩
 -- step by step
 have I:∀(a b:List EV) (s:PL),E=a++b→LK n E s→okL eff OK s b→LK n E (lQ eff s b):=by
  intro a b
  induction b generalizing a with
  | nil=>intro s _ h _;exact h
  | cons e b ih =>
   intro s d h J;have U:e∈E:=by rw[d];simp
   exact ih (a++[e]) (eff e s) (by rw[d];simp) (h.next j U J.1.rdy).2 J.2
 exact I [] E (pl0 n) rfl (LK.zero j) u
theorem HistL.more (I:HistL n E)(h:LK n E l)(j:OK e l)(J:∀k,k<6→e.V.getD k 0=l.V.getD k 0)(d:∀f∈E,f.q=e.q→f.s≤l.V.getD e.q 0):HistL n (E++[e]):=by
 have u:Jt e=kV l:=by
  funext k;by_cases O:k<6
  ·exact J k O
  ·unfold Jt kV;rw[List.getD_eq_getElem?_getD,List.getElem?_eq_none (by simp[EV.V];omega),List.getD_eq_getElem?_getD,List.getElem?_eq_none (by rw[(h.pi I).v6];omega)]
 have X:=(nB j.rdy).1;refine Hist.snoc I (fun f M U=>?_) ?_ ?_ ?_
 ·have:=d f M U;omega
 ·exact(PS j.may).1
 ·rw[u];exact h.cl
 ·rw[u]
  have:=h.st
  unfold stL stD at this;rw[←this];exact j
theorem LK.grow (I:HistL n (E++[e]))(h:LK n E l)(J:l.V.getD e.q 0<e.s):LK n (E++[e]) l:=by
 have j : ¬kn EV.q EV.s (kV l) e=true:=fun j=>by have:=oy.1 j;unfold kV at this;omega
 refine⟨?_,fun f d u k=>?_⟩
 ·unfold stL stD;rw[xk,if_neg j];exact h.st
 ·rcases List.mem_append.1 d with d|d
  ·exact h.cl f d u k
  ·rw[List.mem_singleton.1 d]at u;exact absurd (oy.2 u) j
end
/-! ## A world -/
structure WP (n:Nat) (Ls:List PL) (E:List EV):Prop where
 hist:HistL n E
 lk:∀l∈Ls,LK n E l
 own:∀i l,Ls[i]? = some l→∀e∈E,e.q=i→e.s≤l.V.getD i 0
 low:∀i l,Ls[i]? = some l→∀m∈Ls,m.V.getD i 0≤l.V.getD i 0
 few:∀e∈E,e.q<Ls.length
theorem WP.zero (n k:Nat):WP n (List.replicate k (pl0 n)) [] where
 hist:=.nil
 lk:=fun l d=>by rw[List.eq_of_mem_replicate d];exact LK.zero .nil
 own:=by simp
 low:=fun i l d m h=>by rw[List.eq_of_mem_replicate h,List.eq_of_mem_replicate (List.mem_of_getElem? d)];exact Int.le_refl _
 few:=by simp
section
variable {n:Nat}{Ls:List PL}{E:List EV}{l l':PL}{i:Nat}{e:EV}
theorem WP.learn (h:WP n Ls E)(U:Ls[i]? = some l)(hk:LK n E l')(Z:∀k,l.V.getD k 0≤l'.V.getD k 0)(h2:∀(k:Nat) (m:PL),Ls[k]? = some m→l'.V.getD k 0≤m.V.getD k 0):WP n (Ls.set i l') E:=by
 have hi:i<Ls.length:=(List.getElem?_eq_some_iff.1 U).1;have I:∀{j m},(Ls.set i l')[j]? = some m→j=i∧m=l'∨j≠i∧Ls[j]? = some m:=fun {j m} d=>by
  rw[List.getElem?_set]at d;split at d
  ·rename_i e;subst e;simp[hi]at d;exact .inl ⟨rfl,d.symm⟩
  ·rename_i e;exact .inr ⟨fun e' => e e'.symm,d⟩
 have u:∀{m},m∈Ls.set i l'→m=l'∨m∈Ls:=fun d=>(List.mem_or_eq_of_mem_set d).symm;refine⟨h.hist,fun m d=>?_,fun j m d e O J=>?_,fun j m d p X=>?_,fun e O=>by rw[List.length_set];exact h.few e O⟩
 ·rcases u d with rfl|d
  ·exact hk
  ·exact h.lk m d
 ·rcases I d with⟨rfl,rfl⟩|⟨_,d⟩
  ·exact Int.le_trans (h.own _ l U e O J) (Z _)
  ·exact h.own j m d e O J
 ·have M:∀q∈Ls,q.V.getD j 0≤m.V.getD j 0∧(p=l'→l'.V.getD j 0≤m.V.getD j 0):=fun q J=>by
   rcases I d with⟨rfl,rfl⟩|⟨_,d⟩
   ·exact⟨Int.le_trans (h.low _ l U q J) (Z _),fun _=>Int.le_refl _⟩
   ·exact⟨h.low j m d q J,fun _=>h2 j m d⟩
  rcases u X with rfl|X
  ·exact(M l (List.mem_of_getElem? U)).2 rfl
  ·exact(M p X).1
theorem WP.make (h:WP n Ls E)(O:Ls[i]? = some l)(ho:OK e l)(X:e.q=i)(hd:∀k,k<6→e.V.getD k 0=l.V.getD k 0):WP n (Ls.set i (eff e l)) (E++[e]):=by
 have hi:i<Ls.length:=(List.getElem?_eq_some_iff.1 O).1;have hk:=h.lk l (List.mem_of_getElem? O);have hh:=HistL.more h.hist hk ho hd (fun f u I=>by rw[X]at I ⊢; exact h.own i l O f u I);have hr:=(nB ho.rdy).1;have a:=after (hk.pi h.hist) ho;have M:∀m∈Ls,LK n (E++[e]) m:=fun m d=>(h.lk m d).grow hh (by have:=h.low i l O m d;rw[X];rw[X]at hr;omega)
 have ag:LK n (E++[e]) (eff e l):=((M l (List.mem_of_getElem? O)).next hh (by simp) ho.rdy).2;have h1:∀k,l.V.getD k 0≤(eff e l).V.getD k 0:=fun k=>by
  by_cases hk:k=e.q
  ·subst hk;rw[a.Ve];omega
  ·rw[a.V _ hk];exact Int.le_refl _
 have ad:∀{j m},(Ls.set i (eff e l))[j]? = some m→j=i∧m=eff e l∨j≠i∧Ls[j]? = some m:=fun {j m} d=>by
  rw[List.getElem?_set]at d;split at d
  ·rename_i e;subst e;simp[hi]at d;exact .inl ⟨rfl,d.symm⟩
  ·rename_i e;exact .inr ⟨fun e' => e e'.symm,d⟩
 have J:∀{m},m∈Ls.set i (eff e l)→m=eff e l∨m∈Ls:=fun d=>(List.mem_or_eq_of_mem_set d).symm;refine⟨hh,fun m d=>?_,fun j m d f u I=>?_,fun j m d p Z=>?_,fun f u=>?_⟩
 ·rcases J d with rfl|d
  ·exact ag
  ·exact M m d
 ·rcases ad d with⟨rfl,rfl⟩|⟨U,d⟩
  ·rcases List.mem_append.1 u with u|u
   ·exact Int.le_trans (h.own _ l O f u I) (h1 _)
   ·rw[List.mem_singleton.1 u, ←X,a.Ve];omega
  ·rcases List.mem_append.1 u with u|u
   ·exact h.own j m d f u I
   ·rw[List.mem_singleton.1 u,X]at I;exact absurd I.symm U
 ·rcases ad d with⟨rfl,rfl⟩|⟨U,d⟩
  ·rcases J Z with rfl|Z
   ·exact Int.le_refl _
   ·exact Int.le_trans (h.low _ l O p Z) (h1 _)
  ·rcases J Z with rfl|Z
   ·rw[a.V j (by rw[X];exact U)];exact h.low j m d l (List.mem_of_getElem? O)
   ·exact h.low j m d p Z
 ·rw[List.length_set];rcases List.mem_append.1 u with u|u
  ·exact h.few f u
  ·rw[List.mem_singleton.1 u,X];exact hi
end
abbrev HM :=List ((Int×Int)×EV)
def mW (e:EV):Int×Int:=(e.o,e.s)
section
variable {κ ν:Type}[DecidableEq κ]{m:List (κ×ν)}{x y:κ}{v:ν}
def sM (m:List (κ×ν))(x:κ):List (κ×ν):=m.filter fun p=>decide (p.1≠x)
theorem FY {p:κ×ν}:p∈sM m x↔p∈m∧p.1≠x:=by unfold sM;rw[List.mem_filter];simp
theorem Kq (h:x∉m.map (·.1)):sM m x=m:=by
 unfold sM;rw[List.filter_eq_self];intro p d;exact decide_eq_true fun e=>h (List.mem_map.2 ⟨p,d,e⟩)
theorem IR (h:(m.map (·.1)).Nodup):((sM m x).map (·.1)).Nodup:=List.Nodup.sublist (List.Sublist.map _ List.filter_sublist) h
theorem DG (d:(m.map (·.1)).Nodup)(h:m[j]? = some (x,v)):m.eraseIdx j=sM m x:=by
 induction m generalizing j with
 | nil=>simp at h
 | cons p m ih =>
  rw[List.map_cons,List.nodup_cons]at d;cases j with
  | zero =>
   simp only[List.getElem?_cons_zero,Option.some.injEq]at h;subst h;rw[List.eraseIdx_cons_zero]
   have:=Kq (m:=m) (x:=x) d.1
   unfold sM at this ⊢;rw[List.filter_cons_of_neg (by simp),this]
  | succ j =>
   rw[List.getElem?_cons_succ]at h;have u:p.1≠x:=fun e=>d.1 (List.mem_map.2 ⟨_,List.mem_of_getElem? h,e.symm⟩);rw[List.eraseIdx_cons_succ,ih d.2 h];unfold sM;rw[List.filter_cons_of_pos (by simpa using u)]
theorem RL (I:(m.map (·.1)).Nodup)(h:dP m x=some v):(sM m x).length+1=m.length:=by
 obtain⟨j,d⟩:=List.getElem?_of_mem (uR h);rw[←DG I d];obtain⟨u,_⟩:=List.getElem?_eq_some_iff.1 d;rw[List.length_eraseIdx_of_lt u];omega
end
def ew (V:List Int)(W:HM):Nat→Option EV
 | 0=>none
 | k+1=>match dP W (((5-k:Nat):Int)+1,V.getD (5-k) 0+1)with
  | some e=>if ey V e=true then some e else ew V W k
  | none=>ew V W k
structure HW (E:List EV) (V:List Int) (W:HM):Prop where
 key:∀p∈W,p.1=mW p.2
 mem:∀p∈W,p.2∈E
 nd:(W.map (·.1)).Nodup
 new:∀p∈W,V.getD p.2.q 0<p.2.s
structure RHL (n:Nat) (E:List EV) (l:PL) (W:HM) (c:Nat):Prop where
 hist:HistL n E
 lk:LK n E l
 hw:HW E l.V W
 cnt:∃Kn:List EV,Kn.Nodup∧(∀f,f∈Kn↔f∈E∧f.s≤l.V.getD f.q 0)∧Kn.length=c
section
variable {n:Nat}{E:List EV}{l:PL}{W:HM}{c:Nat}{e:EV}
theorem DK :∀{k:Nat},k≤6→ew l.V W k=some e→ey l.V e=true∧∃i:Nat,i<6∧dP W ((i:Int)+1,l.V.getD i 0+1)=some e
 | 0,_,h=>by cases h
 | k+1,hk,h=>by
  unfold ew at h;cases d:dP W (((5-k:Nat):Int)+1,l.V.getD (5-k) 0+1)with
  | none=>rw[d]at h;exact DK (by omega) h
  | some f =>
   rw[d]at h;simp only at h;split at h
   ·rename_i j;cases h;exact⟨j,5-k,by omega,d⟩
   ·exact DK (by omega) h
theorem DJ {V:List Int}:∀{k:Nat},k≤6→ew V W k=none→∀i:Nat,6-k≤i→i<6→∀f,dP W ((i:Int)+1,V.getD i 0+1)=some f→ey V f=false
 | 0,_,_,i,h1,h2,_,_=>by omega
 | k+1,hk,h,i,h1,h2,f,hf=>by
  unfold ew at h;by_cases hi:i=5-k
  ·subst hi;rw[hf]at h;simp only at h;split at h
   ·cases h
   ·rename_i j;exact Bool.eq_false_iff.2 j
  ·cases d:dP W (((5-k:Nat):Int)+1,V.getD (5-k) 0+1)with
   | none=>rw[d]at h;exact DJ (by omega) h i (by omega) h2 f hf
   | some f' =>
    rw[d]at h;simp only at h;split at h
    ·cases h
    ·exact DJ (by omega) h i (by omega) h2 f hf
theorem EQ (h:dK e=true):mW e=((e.q:Int)+1,e.s):=by
 have:=gC h
 unfold mW EV.q;rw[show (((e.o-1).toNat:Nat):Int)+1=e.o by omega]
theorem RHL.may (h:RHL n E l W c){p:(Int×Int)×EV}(d:p∈W):dK p.2=true:=h.hist.may _ (h.hw.mem p d)
theorem RHL.pi (h:RHL n E l W c):PI l:=h.lk.pi h.hist
theorem RHL.step (h:RHL n E l W c)(hn:ew l.V W 6=some e):e∈E∧ey l.V e=true∧dP W (mW e)=some e∧np e l=0∧RHL n E (eff e l) (sM W (mW e)) (c+1)∧∀k,l.V.getD k 0≤(eff e l).V.getD k 0:=by
 obtain⟨X,i,hi,hg⟩:=DK (Nat.le_refl 6) hn;have j:=uR hg;have M:e∈E:=h.hw.mem _ j;have hk:=h.hw.key _ j;have hm:=h.hist.may e M;obtain⟨h1,h2⟩:=nB X;obtain⟨ho,hl⟩:=h.lk.next h.hist M X
 have hv:∀k,(eff e l).V.getD k 0=if k=e.q then e.s else l.V.getD k 0:=fun k=>congrFun (IF h.pi ho) k
 have hu:=h.hist.uniq;refine⟨M,X,by rw[←hk];exact hg,(h.lk.ok h.hist M).2 X,⟨h.hist,hl,⟨fun p d=>h.hw.key p (FY.1 d).1,fun p d=>h.hw.mem p (FY.1 d).1,IR h.hw.nd,fun p d=>?_⟩,?_⟩,fun k=>?_⟩
 ·obtain⟨d,U⟩:=FY.1 d;have u:=h.hw.new p d;rw[hv];split
  ·rename_i I;have ad:=h.may d;rw[h.hw.key p d]at U
   have:p.2.s≠e.s:=fun J=>U (by rw[EQ ad,EQ hm,I,J])
   rw[I]at u;omega
  ·exact u
 ·obtain⟨Kn,k1,k2,k3⟩:=h.cnt;have Z:e∉Kn:=fun hh=>by have:=((k2 e).1 hh).2;omega
  refine⟨e::Kn,List.nodup_cons.2 ⟨Z,k1⟩,fun f=>?_,by rw[List.length_cons,k3]⟩;rw[List.mem_cons,k2,hv];constructor
  ·rintro(rfl|⟨O,J⟩)
   ·exact⟨M,by rw[if_pos rfl];exact Int.le_refl _⟩
   ·refine⟨O,?_⟩;split
    ·rename_i I;rw[I]at J;omega
    ·exact J
  ·rintro⟨O,J⟩;split at J
   ·rename_i I;by_cases ag:f.s=e.s
    ·exact .inl (hu.2 f O e M I ag)
    ·exact .inr ⟨O,by rw[I];omega⟩
   ·exact .inr ⟨O,J⟩
 ·rw[hv];split
  ·subst_vars;omega
  ·exact Int.le_refl _
def AD (V:List Int)(W:HM)(e:EV):HM:=if dK e=true∧nH V e=false∧dP W (mW e)=none∧W.length<64 then W++[(mW e,e)]else W
theorem xq (d:dK e=true){V:List Int}:nH V e=true↔e.s≤V.getD e.q 0:=by
 unfold nH EV.q;rw[d,Bool.true_and,decide_eq_true_eq]
theorem RHL.few (h:RHL n E l W c):W.length≤E.length:=by
 have d:(W.map (·.2)).Nodup:=by
  have:=h.hw.nd
  rw[List.nodup_iff_pairwise_ne,List.pairwise_map]at this ⊢;refine List.Pairwise.imp_of_mem (fun {a b} u I j e=>j ?_) this;rw[h.hw.key a u,h.hw.key b I,e]
 have:=pS d fun x M=>(by obtain⟨p,J,rfl⟩:=List.mem_map.1 M;exact h.hw.mem p J:x∈E)
 rwa[List.length_map]at this
theorem RHL.put (h:RHL n E l W c)(J:e∈E)(hE:E.length≤63):RHL n E l (AD l.V W e) c∧(e.s≤l.V.getD e.q 0∨(mW e,e)∈AD l.V W e):=by
 have I:=h.hist.may e J;unfold AD;by_cases u:nH l.V e=true
 ·rw[if_neg (by rw[u];simp)];exact⟨h,.inl ((xq I).1 u)⟩
 have X:=Bool.eq_false_iff.2 u;cases hg:dP W (mW e)with
 | some f =>
  rw[if_neg (by simp)];have j:=uR hg;have U:=h.hw.key _ j;have M:=h.hw.mem _ j;have O:f=e:=by
   rw[EQ I,EQ (h.may j)]at U;have a:=congrArg (·.1) U;have b:=congrArg (·.2) U;simp only at a b;exact h.hist.uniq.2 f M e J (by omega) b.symm
  rw[O]at j;exact⟨h,.inr j⟩
 | none =>
  have:=h.few
  rw[if_pos ⟨I,X,rfl,by omega⟩];refine⟨⟨h.hist,h.lk,⟨fun p d=>?_,fun p d=>?_,?_,fun p d=>?_⟩,h.cnt⟩,.inr (by simp)⟩
  ·rcases List.mem_append.1 d with d|d
   ·exact h.hw.key p d
   ·rw[List.mem_singleton.1 d]
  ·rcases List.mem_append.1 d with d|d
   ·exact h.hw.mem p d
   ·rw[List.mem_singleton.1 d];exact J
  ·rw[List.map_append,List.nodup_append];refine⟨h.hw.nd,by simp,fun a ha b Z=>?_⟩;simp only[List.map_cons,List.map_nil,List.mem_singleton]at Z;subst Z;exact fun e' => sQ.1 hg (e' ▸ ha)
  ·rcases List.mem_append.1 d with d|d
   ·exact h.hw.new p d
   ·rw[List.mem_singleton.1 d]
    have : ¬e.s≤l.V.getD e.q 0:=fun hh=>u ((xq I).2 hh)
    show l.V.getD e.q 0<e.s;omega
end
end
section
open Go.RowKit Go.ChangeMaps
section
variable {κ ν:Type}[DecidableEq κ]{kv:κ→Value}{vv:ν→Value}{w w':World}{b:Nat}{m:List (κ×ν)}{es:Array MapEntry}{clock:Nat}
variable {P:Program}{K:KV}{t k e:TypeId}
theorem xV {α β:Type}{f:α→β}:∀{l:List α} {j:Nat},(l.eraseIdx j).map f=(l.map f).eraseIdx j
 | [],_=>rfl
 | _::_,0=>rfl
 | _::_,_+1=>congrArg (List.cons _) xV
theorem UK {tk ty : TypeId} {cs : Array Bool} (KK : zH P k kv) (ht : P.underlying t = some (.map k e)) (hm : MB kv vv w b m) {x : κ} (h : ∀ w', MB kv vv w' b (sM m x) → Oth b w w' → K (.tuple #[]) w') : blt P .delete #[t, tk] ty cs #[.map (some b), kv x] K w := by
  obtain ⟨es, c, hm⟩ := hm
  rcases hm.find KK x with ⟨h0, h1, h2⟩ | ⟨j, e0, v0, h0, h1, h2, h3, h4, h5⟩
  · refine qv (v := .tuple #[]) (w' := setBlock w b (.map es c)) ?_ (h _ ?_ (Ga hm.heap))
    · rw [BigFrame.builtin_delete]
      simp [Builtin.delete_, run_underlying ht, MapKept.run_getObj_map hm.heap, KK.chk, h1, MapKept.run_setObj_map _ hm.heap, Result.andThen, setBlock]
    · rw [Kq (sQ.1 h0)]
      exact ⟨es, c, heap_setBlock_same hm.heap _, hm.keys, hm.vals, hm.nodup, hm.born, hm.old⟩
  · have hj : j < es.size := by
      have := (List.getElem?_eq_some_iff.1 h2).1
      simpa using this
    refine qv (v := .tuple #[]) (w' := setBlock w b (.map (es.eraseIdxIfInBounds j) c)) ?_ (h _ ?_ (Ga hm.heap))
    · rw [BigFrame.builtin_delete]
      simp [Builtin.delete_, run_underlying ht, MapKept.run_getObj_map hm.heap, KK.chk, h1, MapKept.run_setObj_map _ hm.heap, Result.andThen, setBlock]
    · have hl : (es.eraseIdxIfInBounds j).toList = es.toList.eraseIdx j := by
        rw [Array.toList_eraseIdxIfInBounds]
      rw [← DG hm.nodup h5]
      refine ⟨_, c, heap_setBlock_same hm.heap _, ?_, ?_, ?_, ?_, ?_⟩
      · rw [hl, xV, xV, hm.keys]
      · rw [hl, xV, xV, hm.vals]
      · rw [DG hm.nodup h5]; exact IR hm.nodup
      · rw [hl]
        exact List.Pairwise.sublist (List.Sublist.map _ (List.eraseIdx_sublist _ _)) hm.born
      · intro e1 he1
        rw [hl] at he1
        exact hm.old e1 ((List.eraseIdx_sublist _ _).mem he1)
end
end
section
section
variable {S F:Type}{eff:F→S→S}{ok:F→S→Prop}{org:F→Nat}{seq:F→Int}{dep:F→Nat→Int}{s0:S}
theorem Hist.pre {l:List F}(h:Hist eff ok org seq dep s0 l):∀A B:List F,l=A++B→Hist eff ok org seq dep s0 A:=by
 induction h with
 | nil =>
  intro A B e
  have:=(List.append_eq_nil_iff.1 e.symm).1
  subst this;exact .nil
 | @snoc l f hl hs hd hc hok ih =>
  intro A B e;rcases List.eq_nil_or_concat B with rfl|⟨B',b,rfl⟩
  ·rw[List.append_nil]at e;subst e;exact .snoc hl hs hd hc hok
  ·rw[List.concat_eq_append, ←List.append_assoc]at e;exact ih A B' (List.append_inj_left' e rfl)
theorem Hist.last {l:List F}(h:Hist eff ok org seq dep s0 l):∀(A:List F) (e:F),l=A++[e]→Closed org seq dep A (dep e)∧ok e (lQ eff s0 (A.filter (kn org seq (dep e)))):=by
 intro A e d;cases h with
 | nil=>simp at d
 | @snoc l f hl hs hd hc hok =>
  have u:=List.append_inj_left' d rfl;have j:=List.append_inj_right' d rfl;simp only[List.cons.injEq,and_true]at j;subst u;subst j;exact⟨hc,hok⟩
end
section
variable {n:Nat}{E:List EV}{l:PL}{W:HM}{c:Nat}{e:EV}
theorem MR {D:Nat→Int}:∀{L:List EV} {s:PL},PI s→okL eff OK s L→(∀k,s.V.getD k 0≤D k)→(∀f∈L,f.s≤D f.q)→∀k,(lQ eff s L).V.getD k 0≤D k
 | [],_,_,_,h,_=>h
 | f::L,s,hi,ho,h,hL=>by
  refine MR (s:=eff f s) (hi.eff ho.1) ho.2 (fun k=>?_) fun g d=>hL g (List.mem_cons_of_mem _ d)
  have:=congrFun (IF hi ho.1) k
  unfold kV upD at this;rw[this];split
  ·subst_vars;exact hL f (by simp)
  ·exact h k
theorem RHL.knows {E1 E2:List EV}(h:RHL n (E1++e::E2) l W c)(d:∀f∈E1,f.s≤l.V.getD f.q 0)(hn:ew l.V W 6=none)(M:e.s≤l.V.getD e.q 0∨(mW e,e)∈W):e.s≤l.V.getD e.q 0:=by
 refine M.elim id fun M=>Classical.byContradiction fun ad=>?_;have Z:HistL n (E1++[e]):=h.hist.pre (E1++[e]) E2 (by simp);obtain⟨hc,X⟩:=Z.last E1 e rfl;have u:HistL n E1:=Z.pre E1 [e] rfl;obtain⟨r1,r2⟩:=nB X.rdy;have I:=X.may;have O:=MR (D:=kV l) (rh n) (u.oks yX (rh n) hc) (fun k=>by
  have:=congrFun (EP n) k
  unfold kV at this ⊢;rw[this];by_cases d:k<6
  ·exact(h.pi.vb k d).1
  ·rw[List.getD_eq_getElem?_getD,List.getElem?_eq_none (by rw[h.pi.v6];omega)];exact Int.le_refl _) (fun f hf=>d f (List.mem_filter.1 hf).1)
 have hq:=(qe I).1;have j:=O e.q;unfold kV at j;have J:ey l.V e=true:=KB I (by omega) fun k d=>Int.le_trans (r2 k d) (O k);have U:=nN h.hw.nd M;rw[EQ I,show e.s=l.V.getD e.q 0+1 by omega]at U
 have:=DJ (Nat.le_refl 6) hn e.q (by omega) hq e U
 rw[J]at this;cases this
theorem RHL.full (h:RHL n E l W c)(j:∀f∈E,f.s≤l.V.getD f.q 0):W=[]∧c=E.length∧l=lQ eff (pl0 n) E:=by
 refine⟨?_,?_,?_⟩
 ·refine List.eq_nil_iff_forall_not_mem.2 fun p u=>?_
  have:=h.hw.new p u
  have:=j _ (h.hw.mem p u)
  omega
 ·obtain⟨Kn,J,I,M⟩:=h.cnt;have a:=pS J fun f d=>((I f).1 d).1;have b:=pS h.hist.uniq.1 fun f d=>(I f).2 ⟨d,j f d⟩;omega
 ·have:=h.lk.st
  unfold stL stD at this;rwa[show E.filter (kn EV.q EV.s (kV l))=E by
   rw[List.filter_eq_self];exact fun f d=>oy.2 (j f d)]at this
theorem Kt {V:List Int}:∀k,ew V [] k=none
 | 0=>rfl
 | k+1=>Kt k
theorem RHL.quiet (h:RHL n E l [] c)(d:e∈E)(j:e.s≤l.V.getD e.q 0):AD l.V [] e=[]:=by
 unfold AD;rw[if_neg (by rw[(xq (h.hist.may e d)).2 j];simp)]
theorem RHL.zero (h:HistL n E):RHL n E (pl0 n) [] 0:=by
 refine⟨h,LK.zero h,⟨by simp,by simp,by simp,by simp⟩,[],List.nodup_nil,fun f=>?_,rfl⟩;simp only[List.not_mem_nil,false_iff];rintro⟨d,j⟩
 have:=congrFun (EP n) f.q
 unfold kV at this;rw[this]at j
 have:=(gC (h.may f d)).2.2.1
 omega
theorem VV {L:List EV}:∀{s:PL},PI s→okL eff OK s L→L.foldl (fun s e=>jL e s) s=lQ eff s L:=by
 induction L with
 | nil=>intro s _ _;rfl
 | cons f L ih =>
  intro s hi d
  have:jL f s=eff f s:=by unfold jL;rw[if_pos ((vc hi).2 d.1)]
  show L.foldl _ (jL f s)=_;rw[this];exact ih (hi.eff d.1) d.2
theorem Wv (h:HistL n E):E.foldl (fun s e=>jL e s) (pl0 n)=lQ eff (pl0 n) E:=VV (rh n) h.all.1
end
/-! ## What is heard at a time -/
inductive DR (l:PL) (W:HM):PL→HM→List EV→Prop
 | nil:DR l W l W []
 | snoc {l':PL} {W':HM} {F:List EV} {e:EV}:DR l W l' W' F→ew l'.V W' 6=some e→DR l W (eff e l') (sM W' (mW e)) (F++[e])
section
variable {n:Nat}{E:List EV}{l l':PL}{W W':HM}{c:Nat}{e:EV}{F:List EV}
theorem DR.ri (h:DR l W l' W' F)(X:RHL n E l W c):RHL n E l' W' (c+F.length)∧(∀k,l.V.getD k 0≤l'.V.getD k 0)∧W'.length+F.length=W.length∧∀p∈W,p∈W'∨p.2.s≤l'.V.getD p.2.q 0:=by
 induction h with
 | nil=>exact⟨X,fun _=>Int.le_refl _,rfl,fun p j=>.inl j⟩
 | @snoc l' W' F e hd hn ih =>
  obtain⟨d,i2,i3,i4⟩:=ih;obtain⟨U,I,J,h0,Z,O⟩:=d.step hn;rw[List.length_append,List.length_singleton];have hl:=RL (m:=W') d.hw.nd J;refine⟨by rw[←Nat.add_assoc];exact Z,fun k=>Int.le_trans (i2 k) (O k),by omega,fun p j=>?_⟩;rcases i4 p j with h|h
  ·by_cases M:p.1=mW e
   ·refine .inr ?_;have u:p.2=e:=by
     have:=nN d.hw.nd (show (p.1,p.2)∈W' from h)
     rw[M,J]at this;exact(Option.some.inj this).symm
    rw[u]
    have:=congrFun (IF d.pi ((d.lk.next d.hist U I).1)) e.q
    unfold kV upD at this;rw[this,if_pos rfl];exact Int.le_refl _
   ·exact .inl (FY.2 ⟨h,M⟩)
  ·exact .inr (Int.le_trans h (O _))
theorem DR.none (h:DR l [] l' W' F)(j:RHL n E l [] c):F=[]∧l'=l∧W'=[]:=by
 have u:=(h.ri j).2.2.1;have hF:F=[]:=List.eq_nil_of_length_eq_zero (by rw[List.length_nil]at u;omega);have d:∀(l:PL) (W:HM) (l':PL) (W':HM) (F:List EV),DR l W l' W' F→F=[]→l'=l∧W'=W:=fun l W l' W' F h=>by
  induction h with
  | nil=>exact fun _=>⟨rfl,rfl⟩
  | snoc h1 h2 ih=>exact fun e=>absurd e (by simp)
 obtain⟨a,b⟩:=d _ _ _ _ _ h hF;exact⟨hF,a,b⟩
end
end
section
def iv (x:Int):Value:=.int .i64 x
open Go.RowKit
theorem cJ {v:Value}{xs:List Value}(h:w.ownsRow B E s v n xs)(M:∀k,v.ownBlock=some k→w'.heap[k]? = w.heap[k]?):w'.ownsRow B E s v n xs:=by
 refine⟨h.1,?_⟩;rcases h.2 with u|⟨g,cap,d,j,I,J,r⟩
 ·exact .inl u
 ·refine .inr ⟨g,cap,d,j,I,?_,r⟩;rw[M g (by rw[j];rfl)];exact J
theorem Qa {xs:List Value}(j:blk w g E xs)(d:xs.length=n*s)(h:B≤g)(u:n≤maxLen):w.ownsRow B E s (.slice (some ⟨g,0,none⟩) n n) n xs:=by
 refine⟨d,.inr ⟨g,n,xs.toArray,rfl,h,j,Nat.le_refl _,u,by simpa using d,?_⟩⟩;rw[←d];simp
theorem Uy {cs:Array Bool}{base:Nat}{i:TypeInfo}{z:Value}(ht:P.underlying t=some (.slice e))(hi:P.info? e=some i)(hz:i.zero=some z)(M:i.size=s)(U:i.bytes=b)(ag:z.cells.size=s)(Z:0<s){xs:List Value}(O:w.ownsRow base e s (.slice av n c) n xs){ys:List Value}(hy:blk w g e ys)(ad:ys.length=m*s)(h1:∀u∈ys,u.oneCell'=true)(d:(n+m)*b≤140737488355328)(am:n+m≤9223372036854775807)(J:base≤w.heap.size)(h:∀I c' w',w'.ownsRow base e s (.slice I (n+m) c') (n+m) (xs++ys)→w.grownBy w' (Value.slice av n c).ownBlock→((Value.slice I (n+m) c').ownBlock=(Value.slice av n c).ownBlock∨(Value.slice I (n+m) c').ownBlock=some w.heap.size)→K (.slice I (n+m) c') w'):blt P .append #[t,t] E cs #[.slice av n c,.slice (some ⟨g,0,none⟩) m k] K w:=by
  have X:∀j u,ys[j]? = some u→w.cell? ((⟨g,0,none⟩:Addr).add j)=some u:=by
    intro j u hj;rw[show ((⟨g,0,none⟩:Addr).add j)=⟨g,0+j,none⟩from by unfold Addr.add;split<;>simp_all,hy.cell,Nat.zero_add];exact hj
  obtain⟨v',w',hr,h2,h3,_,h5⟩:=run_append_own_at (P:=P) w base t E e i z s b ht hi hz M U ag Z _ n xs O ⟨g,0,none⟩ m k ys ad X h1 (by simp only[maxLen];omega) d J;obtain⟨I,c',rfl⟩:∃I c',v'=.slice I (n+m) c':=by
    rcases h2.2 with⟨hv,X⟩|⟨g,cap,al,hv,_⟩
    · exact⟨none,0,by rw[hv,X]⟩
    · exact⟨_,cap,hv⟩
  exact qv (by rw[BigFrame.builtin_append];simp only[Sem.run_bind,hr,Result.andThen_ok,Sem.run_pure]) (h I c' w' h2 h3 h5)
end
section
def u6 (x:Int):Value:=.int .u64 x
def uC (x:Int):List Value:=[u6 x]
theorem Gi (l:List Int):l.flatMap uC=l.map u6:=by induction l<;>simp_all [uC]
open Go.RowKit Go.ChangeMaps
theorem bG (d:Below B w0 w)(h:Oth p w w')(u:B≤p):Below B w0 w':=⟨h.os.trans d.os,h.tape.trans d.tape,h.output.trans d.output,by rw[h.size];exact d.size,fun k j=>by rw[h.other k (by omega)];exact d.block k j⟩
theorem FP {α:Type}{enc:α→List Value}{s:Nat}(d:∀x,(enc x).length=s):∀(L:List α) (i:Nat) (x:α) (j:Nat),L[i]? = some x→j<s→(L.flatMap enc)[i*s+j]? = (enc x)[j]?
 | [],i,x,j,h,_=>by simp at h
 | y::L,0,x,j,h,hj=>by
  simp at h;subst h;rw[List.flatMap_cons,Nat.zero_mul,Nat.zero_add,List.getElem?_append_left (by rw[d];exact hj)]
 | y::L,i+1,x,j,h,hj=>by
  rw[List.flatMap_cons,List.getElem?_append_right (by rw[d,Nat.succ_mul];omega),d,show (i+1)*s+j-s=i*s+j by rw[Nat.succ_mul];omega];exact FP d L i x j (by simpa using h) hj
section
variable {P:Program}{w:World}{K:KV}{α:Type}{enc:α→List Value}{L:List α}{s B n c i:Nat}{a:Option Addr}{t e:TypeId}{k:IntKind}{x:α}
theorem UY (ht:P.underlying t=some (.slice e))(I:∀w,(sizeOf e).run P w=.ok s w)(hs:∀x,(enc x).length=s)(hr:w.ownsRow B e s (.slice a n c) n (L.flatMap enc))(hl:L.length=n)(U:L[i]? = some x)(h:∀g d,a=some ⟨g,0,none⟩→blk w g e d→(∀j,j<s→d[i*s+j]? = (enc x)[j]?)→K (.pointer (some ⟨g,i*s,none⟩)) w):aV P t (.slice a n c) (.int k (i:Nat)) K w:=by
 have hi:i<n:=by rw[←hl];exact(List.getElem?_eq_some_iff.1 U).1
 rcases hr.2 with⟨_,hz⟩|⟨g,cap,d,O,hg,Z,hn,X,M,J⟩
 ·omega
 simp only[Value.slice.injEq]at O;obtain⟨rfl,_,rfl⟩:=O;refine dJ (s:=s) ht I (by omega) (by omega) ?_;rw[Int.toNat_natCast,Nat.zero_add];refine h g d.toList rfl Z (fun j hj=>?_);have u:i*s+j<n*s:=by
  have:(i+1)*s≤n*s:=Nat.mul_le_mul_right _ hi
  rw[Nat.succ_mul]at this;omega
 rw[←FP hs L i x j U hj, ←J,List.getElem?_take_of_lt u]
theorem rd3 {f':Nat}{v:Value}{K3:Value→Value→Value→World→Prop}(ht:P.underlying t=some (.slice e))(J:∀w,(sizeOf e).run P w=.ok s w)(hs:∀x,(enc x).length=s)(I:∀w,(isAgg E).run P w=.ok false w)(X:Rg P e f=some f')(u:f'<s)(hr:w.ownsRow B e s (.slice a n c) n (L.flatMap enc))(Z:L.length=n)(hx:L[i]? = some x)(hv:(enc x)[f']? = some v)(h:∀d j,K3 d j v w):aV P t (.slice a n c) (.int k (i:Nat)) (fun d w=>af P e d f (fun j w=>ld P E j (fun u3 w=>K3 d j u3 w) w) w) w:=by
 refine UY ht J hs hr Z hx ?_;intro g M ha O U;refine aK X <|ld1 I O (by rw[U _ u];exact hv) ?_;exact h _ _
end
section
variable {P:Program}{w w':World}{K:KV}{t:TypeId}{g B n c s:Nat}{e:TypeId}{v:Value}{xs:List Value}{α:Type}{enc:α→List Value}{L:List α}
theorem Uz {cs:Array Bool}{base:Nat}{i:TypeInfo}{z:Value}(ht:P.underlying t=some (.slice e))(hi:P.info? e=some i)(hz:i.zero=some z)(M:i.size=s)(U:i.bytes=b)(ag:z.cells.size=s)(Z:0<s){xs:List Value}(O:w.ownsRow base e s (.slice av n c) n xs){ys:List Value}(hy:blk w g e ys)(ad:ys.length=m*s)(h1:∀u∈ys,u.oneCell'=true)(d:(n+m)*b≤140737488355328)(am:n+m≤9223372036854775807)(J:base≤w.heap.size)(h:∀I c' w',w'.ownsRow base e s (.slice I (n+m) c') (n+m) (xs++ys)→w.grownBy w' (Value.slice av n c).ownBlock→((Value.slice I (n+m) c').ownBlock=(Value.slice av n c).ownBlock∨(Value.slice I (n+m) c').ownBlock=some w.heap.size)→K (.slice I (n+m) c') w'):blt P .append #[t,t] E cs #[.slice av n c,.slice (some ⟨g,0,none⟩) m k] K w:=by
  have X:∀j u,ys[j]? = some u→w.cell? ((⟨g,0,none⟩:Addr).add j)=some u:=by
    intro j u hj;rw[Bq,hy.cell,Nat.zero_add];exact hj
  obtain⟨v',w',hr,h2,h3,_,h5⟩:=run_append_own_at (P:=P) w base t E e i z s b ht hi hz M U ag Z _ n xs O ⟨g,0,none⟩ m k ys ad X h1 (by simp only[maxLen];omega) d J;obtain⟨I,c',rfl⟩:∃I c',v'=.slice I (n+m) c':=by
    rcases h2.2 with⟨hv,X⟩|⟨g,cap,al,hv,_⟩
    · exact⟨none,0,by rw[hv,X]⟩
    · exact⟨_,cap,hv⟩
  exact qv (by rw[BigFrame.builtin_append];simp only[Sem.run_bind,hr,Result.andThen_ok,Sem.run_pure]) (h I c' w' h2 h3 h5)
structure Opn (w:World) (B:Nat) (e:TypeId) (s n c g:Nat) (cur:List Value) (xs:List Value):Prop where
 blk:blk w g e cur
 lo:B≤g
 nc:n≤c
 cm:c≤maxLen
 len:cur.length=c*s
 take:cur.take (n*s)=xs
 xl:xs.length=n*s
theorem cq (I:w.ownsRow B e s (.slice a n c) n xs)(X:0<n):∃g d,a=some ⟨g,0,none⟩∧Opn w B e s n c g d xs:=by
 rcases I.2 with⟨_,Z⟩|⟨g,cap,d,J,M,O,U,j,h,u⟩
 ·omega
 simp only[Value.slice.injEq]at J;obtain⟨rfl,_,rfl⟩:=J;exact⟨g,d.toList,rfl,O,M,U,j,by simpa using h,u,I.1⟩
theorem Opn.own (h:Opn w B e s n c g cs xs):w.ownsRow B e s (.slice (some ⟨g,0,none⟩) n c) n xs :=
 ⟨h.xl,.inr ⟨g,c,cs.toArray,rfl,h.lo,h.blk,h.nc,h.cm,by simpa using h.len,by simpa using h.take⟩⟩
theorem Dd (d:∀x,(enc x).length=s):∀L:List α,(L.flatMap enc).length=L.length*s
 | []=>by simp
 | x::L=>by rw[List.flatMap_cons,List.length_append,d,Dd d L,List.length_cons,Nat.succ_mul];omega
theorem LF (d:∀x,(enc x).length=s):∀(L:List α) (i:Nat) (x:α),i<L.length→(L.flatMap enc).take (i*s)++enc x++(L.flatMap enc).drop (i*s+s)=(L.set i x).flatMap enc
 | [],i,x,h=>by simp at h
 | y::L,0,x,_=>by
  simp only[Nat.zero_mul,List.take_zero,List.nil_append,Nat.zero_add,List.set_cons_zero,List.flatMap_cons];rw[List.drop_append_of_le_length (by rw[d];exact Nat.le_refl _),List.drop_of_length_le (by rw[d];exact Nat.le_refl _),List.nil_append]
 | y::L,i+1,x,h=>by
  have I:=LF d L i x (by simpa using h);simp only[List.set_cons_succ,List.flatMap_cons];rw[←I,Nat.succ_mul];have j:i*s+s=(enc y).length+i*s:=by rw[d];omega
  have u:i*s+s+s=(enc y).length+(i*s+s):=by rw[d];omega
  rw[u,List.drop_length_add_append,j,List.take_length_add_append];simp[List.append_assoc]
theorem Opn.set {x:α}(d:∀x,(enc x).length=s)(h:Opn w B e s n c g cs (L.flatMap enc))(I:L.length=n)(hi:i<n)(u:Go.Proofs.YtkbhfjljieopoaaGreatDoor.blk w' g e (cs.take (i*s)++enc x++cs.drop (i*s+s))):Opn w' B e s n c g (cs.take (i*s)++enc x++cs.drop (i*s+s)) ((L.set i x).flatMap enc):=by
 have j:(i+1)*s≤n*s:=Nat.mul_le_mul_right _ hi;have M:n*s≤c*s:=Nat.mul_le_mul_right _ h.nc;rw[Nat.succ_mul]at j;have J:=h.len;refine⟨u,h.lo,h.nc,h.cm,?_,?_,?_⟩
 ·simp only[List.length_append,List.length_take,List.length_drop,d];omega
 ·rw[←LF d L i x (by omega), ←h.take];rw[List.take_append,List.take_append];simp only[List.length_append,List.length_take,d];rw[List.take_take,List.take_of_length_le (l:=enc x) (by rw[d];omega)];rw[List.take_take,show min (n*s) (i*s)=i*s by omega,show min (i*s) (n*s)=i*s by omega,List.drop_take]
  congr 2
  omega
 ·rw[Dd d,List.length_set,I]
theorem Opn.elem {x:α}(u:∀x,(enc x).length=s)(h:Opn w B e s n c g cs (L.flatMap enc))(M:L.length=n)(I:L[i]? = some x):(cs.drop (i*s)).take s=enc x:=by
 have hi:i<n:=by rw[←M];exact(List.getElem?_eq_some_iff.1 I).1
 have J:(i+1)*s≤n*s:=Nat.mul_le_mul_right _ hi;rw[Nat.succ_mul]at J;have e:(cs.drop (i*s)).take s=((cs.take (n*s)).drop (i*s)).take s:=by
  rw[List.drop_take,List.take_take];congr 1;omega
 rw[e,h.take];apply List.ext_getElem?;intro j;by_cases d:j<s
 ·rw[List.getElem?_take_of_lt d,List.getElem?_drop,FP u L i x j I d]
 ·rw[List.getElem?_eq_none (by simp;omega),List.getElem?_eq_none (by rw[u];omega)]
theorem CF (h:w.ownsRow B e s v n xs)(u:v.ownBlock=some k):(∃d,blk w k e d)∧B≤k∧k<w.heap.size:=by
 rcases h.2 with⟨rfl,_⟩|⟨g,cap,d,rfl,I,j,_⟩
 ·cases u
 ·cases u;exact⟨⟨d.toList,j⟩,I,blk.lt (w:=w) (E:=e) (cs:=d.toList) j⟩
theorem uc (h:blk w k E cs)(d:blk w k t Y0):E=t:=by
 unfold blk at h d;rw[h]at d;simp only[Option.some.injEq,Obj.cells.injEq]at d;exact d.2.1
theorem Opn.cell {x:α}(I:∀x,(enc x).length=s)(h:Opn w B e s n c g cs (L.flatMap enc))(u:L.length=n)(J:L[i]? = some x)(d:j<s):cs[i*s+j]? = (enc x)[j]? := by
 rw[←h.elem I u J,List.getElem?_take_of_lt d,List.getElem?_drop]
theorem Opn.set1 {x x':α}{v:Value}(I:∀x,(enc x).length=s)(h:Opn w B e s n c g cs (L.flatMap enc))(u:L.length=n)(M:L[i]? = some x)(hj:j<s)(hv:(enc x).set j v=enc x')(J:Go.Proofs.YtkbhfjljieopoaaGreatDoor.blk w' g e (cs.set (i*s+j) v)):Opn w' B e s n c g (cs.set (i*s+j) v) ((L.set i x').flatMap enc):=by
 have hi:i<n:=by rw[←u];exact(List.getElem?_eq_some_iff.1 M).1
 have X:(i+1)*s≤n*s:=Nat.mul_le_mul_right _ hi;have h2:n*s≤c*s:=Nat.mul_le_mul_right _ h.nc;rw[Nat.succ_mul]at X;have Z:=h.len;have O:cs=cs.take (i*s)++(enc x++cs.drop (i*s+s)):=by
  rw[←h.elem I u M]
  have:cs.drop (i*s+s)=(cs.drop (i*s)).drop s:=by rw[List.drop_drop]
  rw[this,List.take_append_drop,List.take_append_drop]
 have U:cs.set (i*s+j) v=cs.take (i*s)++enc x'++cs.drop (i*s+s):=by
  have d:(cs.take (i*s)).length=i*s:=by rw[List.length_take];omega
  conv=>lhs;rw[O]
  rw[List.set_append_right _ _ (by rw[d];omega),d,show i*s+j-i*s=j by omega,List.set_append_left _ _ (by rw[I];exact hj),hv,List.append_assoc]
 rw[U]at J ⊢;exact h.set I u hi J
theorem pj {k:IntKind}(j:a=some ⟨g,0,none⟩)(u:P.underlying t=some (.slice e))(d:∀w,(sizeOf e).run P w=.ok s w)(hi:i<n)(h:K (.pointer (some ⟨g,i*s,none⟩)) w):aV P t (.slice a n c) (.int k (i:Nat)) K w:=by
 subst j;refine dJ (s:=s) u d (by omega) (by omega) ?_;rw[Int.toNat_natCast,Nat.zero_add];exact h
theorem Ge {K2:Value→KV}{x:α}{k:IntKind}{d:TypeDesc}(ht:P.underlying t=some (.slice e))(j:∀w,(sizeOf e).run P w=.ok s w)(hu:P.underlying e=some d)(X:d.isRow=true)(hi:(P.info? e).map (·.size)=some s)(M:∀x,(enc x).length=s)(hr:w.ownsRow B e s (.slice a n c) n (L.flatMap enc))(I:L.length=n)(O:L[i]? = some x)(h:∀u,K2 u (.agg (enc x).toArray) w):aV P t (.slice a n c) (.int k (i:Nat)) (fun u w=>ld P e u (K2 u) w) w:=by
 have Z:i<n:=by rw[←I];exact(List.getElem?_eq_some_iff.1 O).1
 obtain⟨g,U,rfl,J⟩:=cq hr (by omega);refine dJ (s:=s) ht j (by omega) (by omega) ?_;rw[Int.toNat_natCast,Nat.zero_add];refine ldA (n:=s) (vs:=enc x) hu X hi J.blk (J.elem M I O) (M x) (h _)
theorem ff {T:List TypeId}{v:Value}{xs:List Value}(h:w.ownsRow b E s v n xs)(M:Keep T B w w')(u:E∉T):w'.ownsRow b E s v n xs:=by
 refine⟨h.1,?_⟩;rcases h.2 with j|⟨g,cap,d,O,I,J,r⟩
 ·exact .inl j
 ·exact .inr ⟨g,cap,d,O,I,M.block _ _ J (.inr fun cs E' z e=>by cases e;exact u),r⟩
theorem eZ {v:Value}{xs:List Value}(h:w.ownsRow B E s v n xs)(j:Go.Proofs.YtkbhfjljieopoaaGreatDoor.blk w p t cs)(O:t≠E)(U:Oth p w w'):w'.ownsRow B E s v n xs :=
 cJ h fun k d=>U.other k (by
  rintro rfl;rcases h.2 with⟨u,_⟩|⟨g,cap,J,u,_,I,_⟩
  ·rw[u]at d;cases d
  ·have M:g=k:=by rw[u]at d;simpa[Value.ownBlock]using d
   rw[M]at I;unfold Go.Proofs.YtkbhfjljieopoaaGreatDoor.blk at j;rw[I]at j;simp only[Option.some.injEq,Obj.cells.injEq]at j;exact O j.2.1.symm)
theorem sR {v:Value}{xs:List Value}(h:w.ownsRow B E s v n xs)(h2:w.ownsRow b t c Y1 o cs)(hE:E≠t)(hg:w.grownBy w' Y1.ownBlock):w'.ownsRow B E s v n xs:=by
 refine cJ h fun k u=>hg.block k (World.ownsRow.lt h k u).2 (fun I=>?_);rcases h.2 with⟨J,_⟩|⟨g,cap,X,J,_,U,_⟩
 ·rw[J]at u;cases u
 ·rcases h2.2 with⟨j,_⟩|⟨g2,M,O,j,_,d,_⟩
  ·rw[j]at I;cases I
  ·have Z:g=k:=by rw[J]at u;simpa[Value.ownBlock]using u
   have e2:g2=k:=by rw[j]at I;simpa[Value.ownBlock]using I.symm
   rw[Z]at U;rw[e2,U]at d;simp only[Option.some.injEq,Obj.cells.injEq]at d;exact hE d.2.1
theorem fL {v:Value}{xs:List Value}(j:Go.Proofs.YtkbhfjljieopoaaGreatDoor.blk w p t cs)(h:w.ownsRow B E s v n xs)(O:t≠E)(U:w.grownBy w' v.ownBlock):Go.Proofs.YtkbhfjljieopoaaGreatDoor.blk w' p t cs:=by
 unfold Go.Proofs.YtkbhfjljieopoaaGreatDoor.blk at j ⊢;rw[U.block p (Go.Proofs.YtkbhfjljieopoaaGreatDoor.blk.lt j) (fun d=>?_)]
 ·exact j
 ·rcases h.2 with⟨I,_⟩|⟨g,cap,J,I,_,u,_⟩
  ·rw[I]at d;cases d
  ·have M:g=p:=by rw[I]at d;simpa[Value.ownBlock]using d.symm
   rw[M,j]at u;simp only[Option.some.injEq,Obj.cells.injEq]at u;exact O u.2.1
theorem tf {cs:Array Bool}{base:Nat}{i:TypeInfo}{z:Value}{L:List α}{x:α}(ht:P.underlying t=some (.slice e))(hi:P.info? e=some i)(hz:i.zero=some z)(J:i.size=s)(X:i.bytes=b)(ad:z.cells.size=s)(Z:0<s)(hs:∀x,(enc x).length=s)(I:w.ownsRow base e s (.slice av n c) n (L.flatMap enc))(hy:Go.Proofs.YtkbhfjljieopoaaGreatDoor.blk w g e (enc x))(h1:∀u∈enc x,u.oneCell'=true)(j:(n+1)*b≤140737488355328)(U:n+1≤9223372036854775807)(d:base≤w.heap.size)(h:∀M O w',w'.ownsRow base e s (.slice M (n+1) O) (n+1) ((L++[x]).flatMap enc)→w.grownBy w' (Value.slice av n c).ownBlock→Below base w w'→((Value.slice M (n+1) O).ownBlock=(Value.slice av n c).ownBlock∨(Value.slice M (n+1) O).ownBlock=some w.heap.size)→K (.slice M (n+1) O) w'):blt P .append #[t,t] E cs #[.slice av n c,.slice (some ⟨g,0,none⟩) 1 o] K w:=by
 refine Uz (m:=1) (ys:=enc x) ht hi hz J X ad Z I hy (by rw[hs];omega) h1 j U d fun M O w' h2 h3 h4=>?_;refine h M O w' ?_ h3 (dW h3 d (fun k hk=>(World.ownsRow.lt I k hk).1)) h4;rw[List.flatMap_append];simpa using h2
theorem MA {T:TypeId}{N t:Nat}{v:Value}{d:TypeDesc}(Z:P.underlying T=some d)(M:d.isRow=true)(hi:(P.info? T).map (·.size)=some N)(X:Go.Proofs.YtkbhfjljieopoaaGreatDoor.blk w t T Y0)(h0:Y0.length=N)(I:cs.length=N)(J:∀v∈cs,v.oneCell'=true)(h:∀w',Oth t w w'→K (.tuple #[.agg cs.toArray,v]) w'):sto P T (.pointer (some ⟨t,0,none⟩)) (.agg cs.toArray) (fun _t w=>bp P [(some T,.pointer (some ⟨t,0,none⟩)),(none,v)] K w) w:=by
 refine jP (n:=N) (vs:=cs) hi I X (by omega) J fun w1 u o1=>?_;have u:Go.Proofs.YtkbhfjljieopoaaGreatDoor.blk w1 t T cs:=by
  rw[List.take_zero,List.nil_append,List.drop_of_length_le (by omega),List.append_nil]at u;exact u
 have U:=run_loadVar_mid (P:=P) w1 t 0 T cs _ (fun j v O=>by rw[u.cell,Nat.zero_add];exact O) Z M (by rw[I];exact hi);have e:(oB [(some T,.pointer (some ⟨t,0,none⟩)),(none,v)]).run P w1=.ok (.tuple #[.agg cs.toArray,v]) w1:=by
  simp[oB,asAddr,Sem.run_bind,U]
 unfold bp;rw[e];exact⟨rfl,h w1 o1⟩
theorem Opn.sto {x:α}(u:∀x,(enc x).length=s)(d:Opn w B e s n c g cs (L.flatMap enc))(X:L.length=n)(hi:i<n)(O:(P.info? e).map (·.size)=some s)(I:∀v∈enc x,v.oneCell'=true)(h:∀w',Oth g w w'→w'.ownsRow B e s (.slice (some ⟨g,0,none⟩) n c) n ((L.set i x).flatMap enc)→K undef w'):sto P e (.pointer (some ⟨g,0+((i:Nat):Int).toNat*s,none⟩)) (.agg (enc x).toArray) K w:=by
 have j:(i+1)*s≤n*s:=Nat.mul_le_mul_right _ hi;have U:n*s≤c*s:=Nat.mul_le_mul_right _ d.nc;rw[Nat.succ_mul]at j;have M:=d.len;rw[Int.toNat_natCast,Nat.zero_add];refine jP (n:=s) (vs:=enc x) O (u x) d.blk (by omega) I fun w' J Z=>?_;exact h w' Z (Opn.own (Opn.set u d X hi J))
end
end
section
open Go.RowKit
def ndO (o:Oper):Bool:=match o.op with | .defer _=>false|_=>true
def uT :Code→Bool
 | .region _ ops _=>ops.toList.all ndO
 | .seq a b=>match uT a with|true=>uT b|false=>false
 | .cond _ a b=>match uT a with|true=>uT b|false=>false
 | .block _ c=>uT c
 | .loop c=>uT c
 | _=>true
section
variable {P:Program}{Q:Exit→Act→World→Prop}{l n:Nat}{ops:Array Oper}{ds:List Deferred}
theorem Vm {o:Oper}(h:ndO o=true):∀c,o.op≠.defer c:=by
 intro c d;unfold ndO at h;rw[d]at h;cases h
theorem SH {o:Oper}{a:Act}{K:Act→World→Prop}(I:ndO o=true)(h:o.wp P a w K Q):o.wpIn (Fence.wide.inRound l) n P a w K Q:=by
 unfold Oper.wp at h;unfold Oper.wpIn;refine⟨fun _ _=>trivial,?_⟩;rw[Oper.semAt_eq _ _ _ (Vm I)];generalize (execOp a.eval o).run P w=r at *;cases r with
 | ok x w' =>
  cases x<;>simp only[Oper.upon]at h<;>simp only[Oper.uponIn]
  case value=>exact h
  case skip=>exact h
  case enter f args=>exact⟨fun d=>(by cases d),CallsIn.inRound l (callsIn_wide.2 h)⟩
  case defer=>exact h
  case row row args =>
   refine⟨fun d=>(by cases d),?_⟩;intro c cs _;obtain⟨v,J,j,u⟩:=h c cs;exact⟨v,J,j,stepsIn_wide.2 u⟩
 | halt x w' => cases x<;>simp only[Oper.upon]at h<;>simp only[Oper.uponIn]<;>exact h
theorem Vp (J : ¬LetsOut Q)(j:ops.toList.all ndO=true){a:Act}{K:Act→World→Prop}(h:wpOp P ops Q i K a w):wpOpIn (Fence.wide.inRound l) n P ops Q i K a w:=by
 unfold wpOp at h;unfold wpOpIn;split at h
 ·rename_i d;rw[d];exact h
 ·rename_i o d;rw[d];have M:o∈ops.toList:=by have:=Array.mem_of_getElem? d;simpa using this
  have u:=List.all_eq_true.1 j o M;dsimp only;split at h
  ·rename_i I;rw[if_pos I];rcases h with h|h
   ·exact SH u h
   ·exact absurd h.2 J
  ·rename_i I;rw[if_neg I];exact⟨fun _ _=>trivial,h⟩
theorem Ux (u : ¬LetsOut Q)(j:ops.toList.all ndO=true){md:Region.Mode}:∀(fuel:Nat) (d:Array Bool) (a:Act) (w:World),wpAny P md ops Q fuel d a w→wpAnyIn (Fence.wide.inRound l) n P md ops Q fuel d a w:=by
 intro fuel
 induction fuel with
 | zero=>intro d a w h;exact h
 | succ fuel ih =>
  intro d a w h;exact⟨h.1,fun i hi=>wpOpIn_mono (fun a w h=>ih _ _ _ h) (Vp u j (h.2 i hi))⟩
theorem Ty (u : ¬LetsOut Q):∀(L:List Oper) (a:Act) (w:World),L.all ndO=true→wpList P ops Q L a w→wpListIn (Fence.wide.inRound l) n P ops Q L a w:=by
 intro L
 induction L with
 | nil=>intro a w _ h;exact h
 | cons o L ih =>
  intro a w d h;rw[List.all_cons,Bool.and_eq_true]at d;unfold wpList at h;unfold wpListIn;split at h
  ·rename_i j;rw[if_pos j];rcases h with h|h
   ·exact Oper.wpIn_mono (fun a w h=>ih a w d.2 h) (SH d.1 h)
   ·exact absurd h.2 u
  ·rename_i j;rw[if_neg j];exact⟨fun _ _=>trivial,ih _ _ d.2 h⟩
theorem Pd {N:KE}{X:Nat→KE}:¬LetsOut (QQ ds N X B1):=fun⟨_,_,h⟩=>h
theorem OO {id:Nat}{N:KE}{X:Nat→KE}{e:Env}(h:ae P (.region id ops true) N X B1 e w):P.follows .mixedOrders=true∧wpAny P .any ops (QQ ds N X B1) ops.size (Array.replicate ops.size false) ⟨e.toArray,ds⟩ w.drew:=by
 simp only[ae]at h;cases O:(P.follows .mixedOrders&&FS P ops)
 case true =>
  rw[O]at h;obtain⟨S,hS,h⟩:=h;simp only[Bool.and_eq_true]at O;exact⟨O.1,zA _ _ _ _ _ (ID (fun e w hN=>⟨e,rfl,hN⟩) (fun c a w hh=>hh) (IE O.2) _ _ _ _ _ _ hS (GC ops _) h)⟩
 case false =>
 rw[O]at h;dsimp only at h;cases hf:(P.follows .mixedOrders&&Nat.ble (jC ops) ops.size)
 case false=>rw[hf]at h;exact h.elim
 case true =>
  rw[hf]at h;have h:wZ _ _ _ _ _ _:=h;simp only[Bool.and_eq_true]at hf;refine⟨hf.1,?_⟩;obtain⟨h1,h2⟩:=qT (ops.toList.take (jC ops));obtain⟨h3,h4⟩:=qT (ops.toList.drop (jC ops));have J:∀e,fh P ops.toList (grp (ops.toList.drop (jC ops))) N e w.drew→wpList P ops.toList.toArray (QQ ds N X B1) (ops.toList.drop (jC ops)) ⟨e.toArray,ds⟩ w.drew:=by
   intro e Z
   have:=yM (P:=P) (ops:=ops.toList) (Q:=QQ ds N X B1) (K:=N) (fun e w h=>⟨e,rfl,h⟩) (grp (ops.toList.drop (jC ops))) e w.drew h4 Z
   rwa[h3]at this
  rcases Is ops hf.2 with⟨M,hn⟩|⟨M,hn⟩
  ·have I:=zw (P:=P) (ops:=ops.toList) (Q:=fun a=>QQ ds N X B1 .normal a w.drew) (w:=w.drew) (fun e Z=>by
    have:=J e Z
    rw[hn,List.drop_of_length_le (by simp)]at this;exact this) _ e h2 h
   rw[h1,hn,List.take_of_length_le (by simp)]at I;simp only[Region.lexB,Bool.and_eq_true]at M;have I:wpStill P ops w.drew (fun a=>QQ ds N X B1 .normal a w.drew) ops.toList ⟨e.toArray,ds⟩:=by simpa using I
   refine wpAny_of_still (Q:=fun a=>QQ ds N X B1 .normal a w.drew) (fun _ h=>h) _ _ _ ?_
   have:=wpAnyS_lex (md:=.any) M.1 ops.toList 0 (Array.replicate ops.size false) ⟨e.toArray,ds⟩ (by simp) (by simpa using M.2) I
   simpa using this
  ·have I:=zw (P:=P) (ops:=ops.toList) (Q:=fun a=>wpList P ops.toList.toArray (QQ ds N X B1) (ops.toList.drop (jC ops)) a w.drew) (w:=w.drew) (fun e Z=>J e Z) _ e h2 h;rw[h1]at I;simp only[Region.lexTailB,Bool.and_eq_true,decide_eq_true_eq]at M;obtain⟨⟨⟨⟨al,ag⟩,ar⟩,hc⟩,ad⟩:=M;generalize hk:jC ops=k at *;have ap:k<ops.toList.length:=by simpa using ag
   have d:(ops.toList.take k).length=k:=by simp only[List.length_take];omega
   have U:(ops.toList.drop k).length=ops.size-k:=by simp
   have hw:ops.toList.toArray=ops:=by simp
   rw[hw]at I;have am:HeadInv .any ops k (Array.replicate ops.size false) :=
    ⟨by simp,fun j oj _ hl=>(by rw[getD_replicate_false]at hl;cases hl),fun t _ ht=>getD_in (by simpa using ht) (getD_replicate_false _ _)⟩
   have H:=wpAnyL_lex (md:=.any) (g:=ops.size-k) al ar hc ag (ops.toList.take k) 0 _ ⟨e.toArray,ds⟩ (fun j hj=>by
    have an:j<k:=by rw[d]at hj;exact hj
    simp[an]) (by simpa using d) am (by rw[d];exact ad) I
   have:=wpAny_of_head (Q':=QQ ds N X B1) (g:=ops.size-k) (fun u a' hL=>by
    have:=wpAny_of_seq (md:=.any) (Q':=QQ ds N X B1) (ops.toList.drop k) k u a' w.drew (fun j=>by simp[List.getElem?_drop]) (by rw[U];exact hL.1) hL.2
    rwa[U]at this) _ _ _ H
   rw[d,show k+(ops.size-k)=ops.size by simp at ap;omega]at this;exact this
theorem DZ :∀(c:Code) (N:KE) (X:Nat→KE) (R:KE) (e:Env) (w:World),uT c=true→ae P c N X R e w→c.wpIn (Fence.wide.inRound l) n P (QQ ds N X R) ⟨e.toArray,ds⟩ w:=by
 intro c
 induction c with
 | skip=>intro N X R e w _ h;exact wpIn_skip ⟨e,rfl,h⟩
 | region id ops draw =>
  intro N X R e w d h;cases draw with
  | true =>
   obtain⟨u,J⟩:=OO (ds:=ds) h;exact wpIn_region_any u (Ux Pd d _ _ _ _ J)
  | false =>
   refine wpIn_region_list (Ty Pd _ _ _ d ?_);obtain⟨u,J⟩:=qT ops.toList
   have:=yM (P:=P) (ops:=ops.toList) (Q:=QQ ds N X R) (K:=N) (fun e w h=>⟨e,rfl,h⟩) (grp ops.toList) e w J h
   rw[u]at this;simpa using this
 | seq a b iha ihb =>
  intro N X R e w d h;obtain⟨U,Z⟩:uT a=true∧uT b=true:=by
   unfold uT at d;split at d
   ·rename_i O;exact⟨O,d⟩
   ·cases d
  refine wpIn_seq (wpIn_mono (iha _ _ _ _ _ U h) ?_);intro x a w j;cases x with
  | normal=>obtain⟨e,rfl,h⟩:=j;exact ihb _ _ _ _ _ Z h
  | _=>exact j
 | cond c x y ihx ihy =>
  intro N X R e w d h;obtain⟨U,Z⟩:uT x=true∧uT y=true:=by
   unfold uT at d;split at d
   ·rename_i O;exact⟨O,d⟩
   ·cases d
  obtain⟨b,M,u,J⟩:=h;cases b with
  | true=>exact wpIn_cond (t:=true) (by rw[pY];exact M) (ihx _ _ _ _ _ U (u rfl))
  | false=>exact wpIn_cond (t:=false) (by rw[pY];exact M) (ihy _ _ _ _ _ Z (J rfl))
 | block id c ih =>
  intro N X R e w d h;refine wpIn_block (wpIn_mono (ih _ _ _ _ _ d h) ?_);intro x a w j;cases x with
  | exit i =>
   obtain⟨e,rfl,h⟩:=j;simp only[Exit.inBlock];by_cases hi:i=id
   ·rw[if_pos hi]
    have:Nat.beq i id=true:=by rw[hi];exact Nat.beq_refl id
    rw[this]at h;exact⟨e,rfl,h⟩
   ·rw[if_neg hi]
    have:Nat.beq i id=false:=by
     cases M:Nat.beq i id with
     | false=>rfl
     | true=>exact absurd (Nat.eq_of_beq_eq_true M) hi
    rw[this]at h;exact⟨e,rfl,h⟩
  | _=>exact j
 | loop c ih =>
  intro N X R e w d h;obtain⟨I,μ,h0,hs⟩:=h;refine wpIn_loop (fun a w=>∃e:Env,a=⟨e.toArray,ds⟩∧I e w) (fun a w=>μ a.tmps.toList w) ⟨e,rfl,h0⟩ ?_;rintro _ w' ⟨e',rfl,hI⟩;refine wpIn_mono (ih _ _ _ _ _ d (hs e' w' hI)) ?_;intro x a w j;cases x with
  | normal=>obtain⟨e2,rfl,u,J⟩:=j;exact⟨⟨e2,rfl,u⟩,by simpa using J⟩
  | _=>exact j
 | exit i=>intro N X R e w _ h;exact wpIn_exit ⟨e,rfl,h⟩
 | ret=>intro N X R e w _ h;exact wpIn_ret ⟨e,rfl,h⟩
 | _=>intro N X R e w _ h;exact h.elim
end
abbrev YB :=List Value→KV→World→Prop
section
variable (P:Program)(Y:YB)(l:Nat)
def Im (fv:Value)(args:Array Value)(K:KV)(w:World):Prop:=(fv=.func (.yield l) #[] #[]∧Y args.toList K w)∨bY P fv args K w
def yOp (r:Operand→Value)(o:Oper)(K:KV)(w:World):Prop :=
 match o.op with
 | .call c =>
  match c.callee with
  | .value (.tmp t)=>Im P Y l (r (.tmp t)) (c.args.toList.map r).toArray K w
  | _=>cOp P r o K w
 | _=>cOp P r o K w
def vO (ops:List Oper):List Oper→KE→KE
 | [],K=>K
 | o::r,K=>fun e w =>
  match o.guard with
  | none=>yOp P Y l (ev e) o (fun v w' => vO ops r K (pt e o.dst v) w') w
  | some (j,want)=>xG (ph ops e j) want (fun k w=>yOp P Y l (ev e) o k w) (fun v w' => vO ops r K (pt e o.dst v) w') w
def rl :Code→KE→(Nat→KE)→KE→KE
 | .skip,N,_,_=>N
 | .region _ ops false,N,_,_=>vO P Y l ops.toList ops.toList N
 | .region i ops true,N,X,R=>ae P (.region i ops true) N X R
 | .seq a b,N,X,R=>rl a (rl b N X R) X R
 | .cond c x y,N,X,R=>fun e w=>cond (ev e c) (rl x N X R e w) (rl y N X R e w)
 | .block id c,N,X,R=>rl c N (fun i=>@Bool.rec (fun _=>KE) (X i) N (Nat.beq i id)) R
 | .loop c,_,X,R=>SA fun N' => rl c N' X R
 | .exit i,_,X,_=>X i
 | .ret,_,_,R=>R
 | _,_,_,_=>fun _ _=>False
end
structure YOK (P:Program) (l:Nat) (Y:YB):Prop where
 yld:∀{vs K w},Y vs K w→∃r:Loop,w.heap[l]? = some (.loop r)∧r.state=.ready∧vs.length=r.params.size ∧
  RoundIn Fence.wide 0 P l r.fn ((r.params.zip vs.toArray).foldl (fun t (p,a)=>t.setIfInBounds p a) r.tmps) r.assign r.body w (fun x w' => ∃v,x=.returned v∧K v w')
section sound
variable {P:Program}{Y:YB}{l:Nat}
theorem RW {o:Oper}{a:Act}{K:Act→World→Prop}{Q:Exit→Act→World→Prop}(h:o.wp P a w K Q):o.wpIn Fence.wide n P a w K Q:=by
 unfold Oper.wp at h;unfold Oper.wpIn;refine⟨fun _ _=>trivial,?_⟩;rw[show Fence.wide.round=none from rfl,Oper.semAt_none];generalize (execOp a.eval o).run P w=r at *;cases r with
 | ok x w' =>
  cases x<;>simp only[Oper.upon]at h<;>simp only[Oper.uponIn]
  case value=>exact h
  case skip=>exact h
  case enter f args=>exact⟨fun d=>(by cases d),callsIn_wide.2 h⟩
  case defer=>exact h
  case row row args =>
   refine⟨fun d=>(by cases d),?_⟩;intro c cs _;obtain⟨v,I,j,u⟩:=h c cs;exact⟨v,I,j,stepsIn_wide.2 u⟩
 | halt x w' => cases x<;>simp only[Oper.upon]at h<;>simp only[Oper.uponIn]<;>exact h
theorem KH (hY:YOK P l Y){o:Oper}{e:Env}{d:Act→World→Prop}{Q:Exit→Act→World→Prop}(h:yOp P Y l (ev e) o K w)(hn:∀v w',K v w'→d ⟨(pt e o.dst v).toArray,[]⟩ w'):o.wpIn Fence.wide 1 P ⟨e.toArray,[]⟩ w d Q:=by
 have j:cOp P (ev e) o K w→o.wpIn Fence.wide 1 P ⟨e.toArray,[]⟩ w d Q:=fun h=>RW (xn h hn)
 unfold yOp at h;split at h
 ·rename_i c X;split at h
  ·rename_i t ht;rcases h with⟨hf,hy⟩|h
   ·obtain⟨r,h1,h2,h3,h4⟩:=hY.yld hy;have Z:Act.eval ⟨e.toArray,[]⟩=ev e:=funext (pY e []);have u:(execOp (Act.eval ⟨e.toArray,[]⟩) o).run P w=.ok (.round l r.fn ((r.params.zip (c.args.toList.map (ev e)).toArray).foldl (fun t (p,a)=>t.setIfInBounds p a) r.tmps) r.assign r.body) w:=by
     obtain⟨dst,op,ty,pos,after,U⟩:=o;simp only at X;subst X;obtain⟨an,O,am⟩:=c;simp only at ht;subst ht;rw[Z];simp only[execOp,resolve,Deferred.ofValue,invoke,Sem.run_bind,Sem.run_pure,Result.andThen_ok,hf];have e1 : #[]++Array.map (ev e) O=(O.toList.map (ev e)).toArray:=by apply Array.ext';simp
     rw[e1];obtain⟨st,ag,fn,al,M,I,ad,J⟩:=r;simp only at h2;subst h2;exact run_yield (P:=P) (w:=w) (l:=l) (args:=(O.toList.map (ev e)).toArray) h1 (by simpa using h3)
    unfold Oper.wpIn;refine⟨fun _ _=>trivial,?_⟩;rw[show Fence.wide.round=none from rfl,Oper.semAt_none,u,Oper.uponIn_round];refine⟨fun hh=>(by cases hh),h4.mono ?_⟩;rintro x w2 ⟨v,rfl,hv⟩;show d (Act.put ⟨e.toArray,[]⟩ o.dst v) w2
    rw[tt];exact hn v w2 hv
   ·refine j ?_;unfold cOp;rw[X];dsimp only;rw[ht];exact h
  ·exact j h
 ·exact j h
theorem GK (M:YOK P l Y){ops:Array Oper}{Q:Exit→Act→World→Prop}:∀(L:List Oper) {K:KE} {e:Env} {w:World},vO P Y l ops.toList L K e w→(∀e w,K e w→Q .normal ⟨e.toArray,[]⟩ w)→wpListIn Fence.wide 1 P ops Q L ⟨e.toArray,[]⟩ w
 | [],K,e,w,h,hK=>hK e w h
 | o::L,K,e,w,h,hK=>by
  refine wpListIn_step fun KK J=>?_;dsimp only;unfold vO at h;have U:∀v w',vO P Y l ops.toList L K (pt e o.dst v) w'→KK ⟨(pt e o.dst v).toArray,[]⟩ w':=fun v w' h=>J _ _ (GK M L h hK);split at h
  ·rename_i O;have I:Region.wanted o (yielded ops e.toArray)=true:=by simp[Region.wanted,O]
   rw[I,if_pos rfl];exact KH M h U
  ·rename_i j d O;have I:=td ops.toList e o j d O;rw[show ops.toList.toArray=ops from rfl]at I;rw[I];by_cases u:asB (ph ops.toList e j)=some d
   ·rw[show (asB (ph ops.toList e j)==some d)=true by simp[u],if_pos rfl];exact KH M (h.1 u) U
   ·rw[show (asB (ph ops.toList e j)==some d)=false by simp[u],if_neg (by simp)];refine⟨fun _ _=>trivial,?_⟩;rw[tt];exact U undef w (h.2 u)
theorem Nn (U:YOK P l Y):∀(c:Code) (N:KE) (X:Nat→KE) (R:KE) (e:Env) (w:World),rl P Y l c N X R e w→c.wp P (QQ [] N X R) ⟨e.toArray,[]⟩ w:=by
 intro c
 induction c with
 | skip=>intro N X R e w h;exact wp_skip ⟨e,rfl,h⟩
 | region id ops draw =>
  intro N X R e w h;cases draw with
  | true=>exact xh _ _ _ _ _ _ h
  | false=>exact(wpIn_wide (n:=1)).1 (wpIn_region_list (GK U ops.toList h fun e w hN=>⟨e,rfl,hN⟩))
 | seq a b iha ihb =>
  intro N X R e w h;refine wp_seq (wp_mono (iha _ _ _ _ _ h) ?_);intro x a w d;cases x with
  | normal=>obtain⟨e,rfl,h⟩:=d;exact ihb _ _ _ _ _ h
  | _=>exact d
 | cond c x y ihx ihy =>
  intro N X R e w h;obtain⟨b,j,u,J⟩:=h;cases b with
  | true=>exact wp_cond (t:=true) (by rw[pY];exact j) (ihx _ _ _ _ _ (u rfl))
  | false=>exact wp_cond (t:=false) (by rw[pY];exact j) (ihy _ _ _ _ _ (J rfl))
 | block id c ih =>
  intro N X R e w h;refine wp_block (wp_mono (ih _ _ _ _ _ h) ?_);intro x a w d;cases x with
  | exit i =>
   obtain⟨e,rfl,h⟩:=d;simp only[Exit.inBlock];by_cases hi:i=id
   ·rw[if_pos hi]
    have:Nat.beq i id=true:=by rw[hi];exact Nat.beq_refl id
    rw[this]at h;exact⟨e,rfl,h⟩
   ·rw[if_neg hi]
    have:Nat.beq i id=false:=by
     cases j:Nat.beq i id with
     | false=>rfl
     | true=>exact absurd (Nat.eq_of_beq_eq_true j) hi
    rw[this]at h;exact⟨e,rfl,h⟩
  | _=>exact d
 | loop c ih =>
  intro N X R e w h;obtain⟨I,μ,O,Z⟩:=h;refine wp_loop (fun a w=>∃e:Env,a=⟨e.toArray,[]⟩∧I e w) (fun a w=>μ a.tmps.toList w) ⟨e,rfl,O⟩ ?_;rintro _ w' ⟨e',rfl,hI⟩;refine wp_mono (ih _ _ _ _ _ (Z e' w' hI)) ?_;intro x a w d;cases x with
  | normal=>obtain⟨M,rfl,u,J⟩:=d;exact⟨⟨M,rfl,u⟩,by simpa using J⟩
  | _=>exact d
 | exit i=>intro N X R e w h;exact wp_exit ⟨e,rfl,h⟩
 | ret=>intro N X R e w h;exact wp_ret ⟨e,rfl,h⟩
 | _=>intro N X R e w h;exact h.elim
def yc (P:Program)(Y:YB)(l:Nat)(f:FuncId)(args:List Value)(w:World)(K:KV):Prop :=
 EO P f∧∃(fn:Func) (c:Code),P.funcs[f]? = some fn∧fn.body=some c ∧
  rl P Y l c (vC P fn.results.toList K) (fun _ _ _=>False) (vC P fn.results.toList K) (args++List.replicate (fn.ntmps-args.length) undef) w
theorem QH {f:FuncId}{d:Func}{args:List Value}(J:EO P f)(I:P.funcs[f]? = some d)(u:d.body.isSome=true)(h:rl P Y l (cd d []) (vC P d.results.toList K) (fun _ _ _=>False) (vC P d.results.toList K) (args++List.replicate (d.ntmps-args.length) undef) w):yc P Y l f args w K:=by
 cases j:d.body with
 | none=>simp[j]at u
 | some c =>
  have:cd d []=c:=by simp[cd,j,sub]
  rw[this]at h;exact⟨J,d,c,I,j,h⟩
theorem MY (M:YOK P l Y){f:FuncId}{args:List Value}(h:yc P Y l f args w K):EO P f∧Calls P f args.toArray w (fun x w' => ∃v,x=.returned v∧K v w'):=by
 obtain⟨X,I,c,U,O,h⟩:=h;refine⟨X,calls_of_wp U O ?_⟩;have J:args.toArray++Array.replicate (I.ntmps-args.toArray.size) undef=(args++List.replicate (I.ntmps-args.length) undef).toArray:=by simp
 rw[J];refine wp_mono (Nn M c _ _ _ _ _ h) ?_;intro x a w d;cases x with
 | normal=>obtain⟨e,rfl,h⟩:=d;obtain⟨v,j,u⟩:=tu h;exact⟨rfl,v,j,v,rfl,u⟩
 | ret=>obtain⟨e,rfl,h⟩:=d;obtain⟨v,j,u⟩:=tu h;exact⟨rfl,v,j,v,rfl,u⟩
 | exit i=>obtain⟨_,_,h⟩:=d;exact h.elim
 | _=>exact d.elim
/-! ## What a piece of an iterator's code does not write stays. -/
abbrev xe (Y:YB):Prop:=∀(vs:List Value) (K K':KV) (w:World),(∀v w',K v w'→K' v w')→Y vs K w→Y vs K' w
theorem Oq {args:Array Value}{K':KV}(J:xe Y)(I:∀v w',K v w'→K' v w')(h:Im P Y l Y1 args K w):Im P Y l Y1 args K' w:=by
 rcases h with⟨j,u⟩|⟨f,d,cap,j,u⟩
 ·exact .inl ⟨j,J _ _ _ _ I u⟩
 ·exact .inr ⟨f,d,cap,j,Ex I u⟩
theorem MZ (j:xe Y){r:Operand→Value}{o:Oper}{K':KV}(d:∀v w',K v w'→K' v w')(h:yOp P Y l r o K w):yOp P Y l r o K' w:=by
 unfold yOp at h ⊢;split at h
 ·split at h
  ·exact Oq j d h
  ·exact zI d h
 ·exact zI d h
theorem GJ (I:xe Y){ops:List Oper}:∀(L:List Oper) {K K':KE} {e:Env} {w:World},vO P Y l ops L K e w→(∀j u,agree (fi L) e j→K j u→K' j u)→vO P Y l ops L K' e w
 | [],K,K',e,w,h,hk=>hk e w (agree.refl _ _) h
 | o::L,K,K',e,w,h,hk=>by
  have O:∀v w',vO P Y l ops L K (pt e o.dst v) w'→vO P Y l ops L K' (pt e o.dst v) w':=fun v w' h =>
   GJ I L h fun j u X U=>hk j u (((CQ e o.dst v).trans X).mono fun i hi=>by
    unfold fi at *;rw[List.filterMap_cons];rcases List.mem_append.1 hi with hi|hi
    ·cases J:o.dst with
     | none=>rw[J]at hi;cases hi
     | some d=>rw[J]at hi;simp at hi;subst hi;simp
    ·cases J:o.dst with
     | none=>exact hi
     | some d=>exact List.mem_cons_of_mem _ hi) U
  unfold vO at h ⊢;split at h
  ·exact MZ I O h
  ·exact⟨fun M=>MZ I O (h.1 M),fun M=>O _ _ (h.2 M)⟩
theorem Nm (hY:xe Y):∀(c:Code) {N N':KE} {X X':Nat→KE} {R R':KE} {e:Env} {w:World},rl P Y l c N X R e w→(∀d j,agree (wr c) e d→N d j→N' d j) →
  (∀i d j,agree (wr c) e d→X i d j→X' i d j)→(∀d j,agree (wr c) e d→R d j→R' d j)→rl P Y l c N' X' R' e w:=by
 intro c
 induction c with
 | skip=>intro N N' X X' R R' e w h hN _ _;exact hN e w (agree.refl _ _) h
 | region id ops draw =>
  intro N N' X X' R R' e w h hN M J;cases draw with
  | true=>exact xg _ h hN M J
  | false=>exact GJ hY _ h hN
 | seq a b iha ihb =>
  intro N N' X X' R R' e w h hN M J;exact iha h (fun d j u Z=>ihb Z (fun e3 w3 hc hn=>hN e3 w3 (u.trans hc) hn) (fun i e3 w3 hc hn=>M i e3 w3 (u.trans hc) hn) (fun e3 w3 hc hn=>J e3 w3 (u.trans hc) hn))
   (fun i d j u=>M i d j (u.mono fun i hi=>List.mem_append_left _ hi)) (fun d j u=>J d j (u.mono fun i hi=>List.mem_append_left _ hi))
 | cond c x y ihx ihy =>
  intro N N' X X' R R' e w h hN M J;obtain⟨b,Z,h1,h2⟩:=h;refine⟨b,Z,fun e1=>?_,fun e1=>?_⟩
  ·exact ihx (h1 e1) (fun d j u=>hN d j (u.mono fun i hi=>List.mem_append_left _ hi)) (fun i d j u=>M i d j (u.mono fun i hi=>List.mem_append_left _ hi)) (fun d j u=>J d j (u.mono fun i hi=>List.mem_append_left _ hi))
  ·exact ihy (h2 e1) (fun d j u=>hN d j (u.mono fun i hi=>List.mem_append_right _ hi)) (fun i d j u=>M i d j (u.mono fun i hi=>List.mem_append_right _ hi)) (fun d j u=>J d j (u.mono fun i hi=>List.mem_append_right _ hi))
 | block id c ih =>
  intro N N' X X' R R' e w h hN M J;refine ih h hN (fun i d j u O=>?_) J;cases Z:Nat.beq i id with
  | true=>rw[Z]at O;exact hN d j u O
  | false=>rw[Z]at O;exact M i d j u O
 | loop c ih =>
  intro N N' X X' R R' e w h hN M J;obtain⟨I,μ,h0,hs⟩:=h;refine⟨fun e' w' => I e' w'∧agree (wr c) e e',μ,⟨h0,agree.refl _ _⟩,?_⟩;rintro e' w' ⟨hI,U⟩
  refine ih (hs e' w' hI) (fun d j u ⟨h1,h2⟩=>⟨⟨h1,(U.trans u).mono fun i hi=>by simpa using hi⟩,h2⟩) (fun i d j u O=>M i d j ((U.trans u).mono fun i hi=>show i∈wr c by simpa using hi) O) (fun d j u O=>J d j ((U.trans u).mono fun i hi=>show i∈wr c by simpa using hi) O)
 | exit i=>intro N N' X X' R R' e w h _ M _;exact M i e w (agree.refl _ _) h
 | ret=>intro N N' X X' R R' e w h _ _ J;exact J e w (agree.refl _ _) h
 | _=>intro N N' X X' R R' e w h _ _ _;exact h.elim
theorem IP (hY:xe Y)(c:Code)(ws:List Nat)(J:(wr c).all (ws.contains ·)=true)(I:KE)(μ:Env→World→Nat){N:KE}{X:Nat→KE}{e:Env}(O:I e w)(hs:∀e' w',I e' w'→rl P Y l c (fun u M=>I u M∧μ u M<μ e' w') X B1 (mix ws e' 0 e) w'):rl P Y l (.loop c) N X B1 e w:=by
 have j:∀i∈wr c,i∈ws:=fun i hi=>by simpa using List.all_eq_true.1 J i hi
 refine⟨fun e' w' => I e' w'∧agree ws e e',μ,⟨O,agree.refl _ _⟩,?_⟩;rintro e' w' ⟨hI,d⟩;have h:=hs e' w' hI;rw[Ks d]at h;exact Nm hY c h (fun u M ha ⟨U,Z⟩=>⟨⟨U,(d.trans (ha.mono j)).mono (fun i hi=>by simpa using hi)⟩,Z⟩) (fun _ _ _ _ h=>h) (fun _ _ _ h=>h)
/-! ## The statement -/
def OJ :List (Tmp×Value)→Env→Env
 | [],e=>e
 | (p,v)::r,e=>OJ r (e.set p v)
theorem NW :∀(l:List (Tmp×Value)) (e:Env),l.foldl (fun t p=>t.setIfInBounds p.1 p.2) e.toArray=(OJ l e).toArray
 | [],e=>rfl
 | (p,v)::l,e=>by
  rw[List.foldl_cons,show e.toArray.setIfInBounds p v=(e.set p v).toArray by simp];exact NW l _
def mX (fn:FuncId)(e:Env)(ps:Array Tmp)(a bd:Code)(D:Nat)(st:LoopState)(y:Option Code):Loop:={state:=st,pending:=y,fn,tmps:=e.toArray,params:=ps,assign:=a,body:=bd,defers:=D}
def stY (y:Option Code):LoopState:=if y.isNone then .ready else .done
def La (P:Program)(l D:Nat)(fn:FuncId)(e:Env)(ps:Array Tmp)(a bd:Code):YB:=fun vs K w =>
 uT a=true∧uT bd=true∧w.heap[l]? = some (.loop (mX fn e ps a bd D .ready none))∧vs.length=ps.size ∧
 ae P a (fun e1 w1=>w1.heap[l]? = some (.loop (mX fn e ps a bd D .ready none)) ∧
  ae P bd (fun _ w2=>w2.heap[l]? = some (.loop (mX fn e ps a bd D .busy none))∧K (.bool true) (w2.putObj l (.loop (mX fn e ps a bd D .ready none))))
   (fun i _ w2=>w2.heap[l]? = some (.loop (mX fn e ps a bd D .busy none))∧K (.bool false) (w2.putObj l (.loop (mX fn e ps a bd D .done (some (.exit i))))))
   (fun _ w2=>w2.heap[l]? = some (.loop (mX fn e ps a bd D .busy none))∧K (.bool false) (w2.putObj l (.loop (mX fn e ps a bd D .done (some .ret)))))
   e1 (w1.putObj l (.loop (mX fn e ps a bd D .busy none)))) (fun _ _ _=>False) (fun _ _=>False) (OJ (ps.toList.zip vs) e) w
theorem QO {l:Nat}{e:Env}{ps:Array Tmp}{a bd:Code}:YOK P l (La P l D U0 e ps a bd) where
 yld:=by
  rintro vs K w ⟨Z,nb,X,M,h⟩;refine⟨_,X,rfl,M,?_⟩;have u:(ps.zip vs.toArray).foldl (fun j (t,a)=>j.setIfInBounds t a) e.toArray=(OJ (ps.toList.zip vs) e).toArray:=by
   rw[←NW, ←Array.foldl_toList];simp
  show RoundIn Fence.wide 0 P l U0 ((ps.zip vs.toArray).foldl (fun j (t,a)=>j.setIfInBounds t a) e.toArray) a bd w _;rw[u];refine roundIn_of_wpIn trivial <|wpIn_mono (DZ (ds:=[]) a _ _ _ _ _ Z h) ?_;intro x a1 w1 d;cases x with
  | normal =>
   obtain⟨e1,rfl,U,d⟩:=d;refine⟨_,run_beginRound U rfl,?_⟩;refine wpIn_mono (DZ (ds:=[]) bd _ _ _ _ _ nb d) ?_;intro x a1 w2 d;cases x with
   | normal=>obtain⟨O,rfl,I,J⟩:=d;exact⟨_,_,run_endRound none I,_,rfl,J⟩
   | exit i=>obtain⟨O,rfl,I,J⟩:=d;exact⟨_,_,run_endRound (some (.exit i)) I,_,rfl,J⟩
   | ret=>obtain⟨O,rfl,I,J⟩:=d;exact⟨_,_,run_endRound (some .ret) I,_,rfl,J⟩
   | _=>exact d.elim
  | exit i=>obtain⟨_,_,d⟩:=d;exact d
  | ret=>obtain⟨_,_,d⟩:=d;exact d
  | _=>exact d
def rfS (P:Program)(c:Code)(N:Nat→KE)(X:Nat→Nat→KE)(R:Nat→KE)(e:Env)(w:World):Prop :=
 match c with
 | .rangeFunc g ps a bd=>∃(gf:FuncId) (cap:List Value),ev e g=.func (.func gf) #[] cap.toArray∧∀(fn:FuncId) (W:World),Below w.heap.size w W→W.heap.size=w.heap.size+2 →
   W.heap[w.heap.size]? = some (.deferred (some []))→W.heap[w.heap.size+1]? = some (.loop (mX fn e ps a bd w.heap.size .ready none)) →
   yc P (La P (w.heap.size+1) w.heap.size fn e ps a bd) (w.heap.size+1) gf (.func (.yield (w.heap.size+1)) #[] #[]::cap) W fun _ w' =>
    ∃y:Option Code,w'.heap[w.heap.size+1]? = some (.loop (mX fn e ps a bd w.heap.size (stY y) y)) ∧
     (match y with
      | none=>N w.heap.size e (w'.putObj (w.heap.size+1) (.loop (mX fn e ps a bd w.heap.size .exhausted y)))
      | some (.exit i)=>X i w.heap.size e (w'.putObj (w.heap.size+1) (.loop (mX fn e ps a bd w.heap.size .exhausted y)))
      | some .ret=>R w.heap.size e (w'.putObj (w.heap.size+1) (.loop (mX fn e ps a bd w.heap.size .exhausted y)))
      | _=>False)
 | _=>False
def QM (N:Nat→KE)(X:Nat→Nat→KE)(R:Nat→KE):Exit→Act→World→Prop
 | .normal,a,w=>∃(e:Env) (D:Nat),a=⟨e.toArray,[{target:=.collected D,args:=#[]}]⟩∧N D e w
 | .exit i,a,w=>∃(e:Env) (D:Nat),a=⟨e.toArray,[{target:=.collected D,args:=#[]}]⟩∧X i D e w
 | .ret,a,w=>∃(e:Env) (D:Nat),a=⟨e.toArray,[{target:=.collected D,args:=#[]}]⟩∧R D e w
 | _,_,_=>False
theorem Qk {c:Code}{N:Nat→KE}{X:Nat→Nat→KE}{R:Nat→KE}{e:Env}(h:rfS P c N X R e w):c.wp P (QM N X R) ⟨e.toArray,[]⟩ w:=by
 unfold rfS at h;split at h
 ·rename_i g ps a bd;obtain⟨gf,cap,hv,h⟩:=h;refine(wpIn_wide (n:=0)).1 (wpIn_rangeFunc ?_);intro j _;obtain⟨W1,d⟩:∃W1,(w.alloc (.deferred (some []))).alloc (.loop (mX j e ps a bd w.heap.size .ready none))=W1:=⟨_,rfl⟩
  have M:W1.heap[w.heap.size+1]? = some (.loop (mX j e ps a bd w.heap.size .ready none)):=by
   rw[←d];have:=World.alloc_heap_new (w.alloc (.deferred (some []))) (.loop (mX j e ps a bd w.heap.size .ready none));rwa[World.size_alloc]at this
  have J:W1.heap[w.heap.size]? = some (.deferred (some [])):=by
   rw[←d];exact(Below.heap_alloc _ _ _ (by simp)).trans (World.alloc_heap_new w _)
  have u:Below w.heap.size w W1:=by
   rw[←d];exact((Below.refl _ w).alloc (Nat.le_refl _) _).alloc (by simp) _
  have Z:W1.heap.size=w.heap.size+2:=by rw[←d];simp
  obtain⟨U,ad⟩:=MY QO (h j W1 u Z J M);refine⟨w.heap.size+1,[{target:=.collected w.heap.size,args:=#[]}],W1, {target:=.fn (.func gf) cap.toArray,args:=#[.func (.yield (w.heap.size+1)) #[] #[]]},W1,gf,
   #[.func (.yield (w.heap.size+1)) #[] #[]]++cap.toArray,W1,?_,?_,fun _ _=>trivial,?_,(fun h=>by cases h),?_⟩
  ·rw[←d];exact run_enterLoop_outer _ _ _ _ _
  ·have O:Act.eval ⟨e.toArray,[]⟩ g=.func (.func gf) #[] cap.toArray:=by rw[pY];exact hv
   simp only[resolve,O];simp[go_sem]
  ·simp[invoke,go_sem,Fy U]
  ·refine callsIn_wide.2 ?_;have e1 : #[Value.func (.yield (w.heap.size+1)) #[] #[]]++cap.toArray=(Value.func (.yield (w.heap.size+1)) #[] #[]::cap).toArray:=by simp
   rw[e1];refine ad.mono ?_;rintro x w' ⟨_,rfl,y,hl,I⟩;refine⟨_,_,run_endLoop hl (by unfold mX stY;cases y<;>simp),?_⟩;cases y with
   | none=>exact(show QM N X R .normal _ _ from⟨e,_,rfl,I⟩)
   | some c =>
    cases c with
    | exit i=>exact(show Code.wpIn Fence.wide 0 P (.exit i) (QM N X R) _ _ from wpIn_exit (show QM N X R (.exit i) _ _ from⟨e,_,rfl,I⟩))
    | ret=>exact(show Code.wpIn Fence.wide 0 P .ret (QM N X R) _ _ from wpIn_ret (show QM N X R .ret _ _ from⟨e,_,rfl,I⟩))
    | _=>exact I.elim
 ·exact h.elim
def dM (D:Nat)(w:World):Prop:=w.heap[D]? = some (.deferred (some []))
def vm (P:Program)(rs:List ResultVar)(K:KV)(D:Nat):KE:=fun e w=>dM D w∧vC P rs K e (w.putObj D (.deferred none))
theorem PK {d:Func}{e:Env}(h:vm P d.results.toList K D e w):LeavesInM Fence.wide 0 P d e.toArray (fun x w' => ∃v,x=.returned v∧K v w') [{target:=.collected D,args:=#[]}] .returning w:=by
 refine⟨by simp,.inl ⟨D,_,rfl,run_takeDeferred h.1,?_⟩⟩;obtain⟨v,j,u⟩:=tu h.2;exact⟨v,j,v,rfl,u⟩
theorem Vc {d:Func}{e:Env}(h:vC P d.results.toList K e w):LeavesInM Fence.wide 0 P d e.toArray (fun x w' => ∃v,x=.returned v∧K v w') [] .returning w:=by
 obtain⟨v,j,u⟩:=tu h;exact⟨v,j,v,rfl,u⟩
def UC :Code→Code
 | .rangeFunc _ _ _ b=>b
 | _=>.skip
def UA :Code→Code
 | .rangeFunc _ _ a _=>a
 | _=>.skip
def MC :Code→Option (Nat×Code)
 | .block id c=>match c with
  | .rangeFunc g ps a b=>some (id,.rangeFunc g ps a b)
  | _=>none
 | _=>none
theorem Qi {c:Code}{id:Nat}{r:Code}(h:MC c=some (id,r)):c=.block id r:=by
 unfold MC at h;split at h
 ·split at h
  ·cases h;rfl
  ·cases h
 ·cases h
def rfT :Code→Bool
 | .seq a b=>match rfT a with|true=>true|false=>rfT b
 | c=>(MC c).isSome
def cMr (P:Program)(F:Nat→KE)(R0:KE):Code→(Nat→KE)→KE
 | .seq a b,N=>match rfT a with
  | true=>cMr P F R0 a fun D=>ae P b (N D) (fun _ _ _=>False) (F D)
  | false=>ae P a (cMr P F R0 b N) (fun _ _ _=>False) R0
 | c,N=>match MC c with
  | some (id,c)=>rfS P c N (fun i D e w=>i=id∧N D e w) F
  | none=>fun _ _=>False
def QR (F:Nat→KE)(R0:KE)(N:Nat→KE):Exit→Act→World→Prop
 | .normal,a,w=>∃(e:Env) (D:Nat),a=⟨e.toArray,[{target:=.collected D,args:=#[]}]⟩∧N D e w
 | .ret,a,w=>(∃(e:Env) (D:Nat),a=⟨e.toArray,[{target:=.collected D,args:=#[]}]⟩∧F D e w)∨∃e:Env,a=⟨e.toArray,[]⟩∧R0 e w
 | _,_,_=>False
theorem Pk {F:Nat→KE}:∀(c:Code) {N:Nat→KE} {e:Env} {w:World},cMr P F B1 c N e w→c.wp P (QR F B1 N) ⟨e.toArray,[]⟩ w:=by
 intro c
 induction c with
 | seq a b iha ihb =>
  intro N e w h;cases j:rfT a with
  | true =>
   simp only[cMr,j]at h;refine wp_seq (wp_mono (iha h) ?_);intro x a M d;cases x with
   | normal =>
    obtain⟨I,D,rfl,u⟩:=d;refine wp_mono (xh (ds:=[{target:=.collected D,args:=#[]}]) b _ _ _ _ _ u) ?_;intro x a w d;cases x with
    | normal=>obtain⟨e,rfl,h⟩:=d;exact⟨e,D,rfl,h⟩
    | ret=>obtain⟨e,rfl,h⟩:=d;exact .inl ⟨e,D,rfl,h⟩
    | exit i=>obtain⟨_,_,h⟩:=d;exact h.elim
    | _=>exact d.elim
   | ret=>exact d
   | _=>exact d.elim
  | false =>
   simp only[cMr,j]at h;refine wp_seq (wp_mono (xh (ds:=[]) a _ _ _ _ _ h) ?_);intro x a M d;cases x with
   | normal=>obtain⟨I,rfl,u⟩:=d;exact ihb u
   | exit i=>obtain⟨_,_,d⟩:=d;exact d.elim
   | ret=>obtain⟨I,rfl,u⟩:=d;exact .inr ⟨I,rfl,u⟩
   | _=>exact d.elim
 | block id c _ =>
  intro N e w h;cases j:MC (.block id c)with
  | some p =>
   obtain⟨id,r⟩:=p;simp only[cMr,j]at h;rw[Qi j];refine wp_block (wp_mono (Qk h) ?_);intro x a O d;cases x with
   | normal=>obtain⟨e,D,rfl,h⟩:=d;exact⟨e,D,rfl,h⟩
   | ret=>obtain⟨e,D,rfl,h⟩:=d;exact .inl ⟨e,D,rfl,h⟩
   | exit i =>
    obtain⟨e,D,rfl,hi,J⟩:=d;rw[hi];simp only[Exit.inBlock,if_true];exact⟨e,D,rfl,J⟩
   | _=>exact d.elim
  | none =>
   simp only[cMr,j]at h
 | _=>intro N e w h;exact h.elim
theorem Pm {f:FuncId}{d:Func}{args:List Value}(M:P.funcs[f]? = some d)(J:d.body.isSome=true)(h:cMr P (vm P d.results.toList K) (vC P d.results.toList K) (cd d []) (vm P d.results.toList K) (args++List.replicate (d.ntmps-args.length) undef) w):Gives P f args.toArray w K:=by
 cases j:d.body with
 | none=>simp[j]at J
 | some c =>
  have:cd d []=c:=by simp[cd,j,sub]
  rw[this]at h;refine callsIn_wide.1 (callsIn_of_wp_marks (n:=0) M j trivial ?_);have I:args.toArray++Array.replicate (d.ntmps-args.toArray.size) undef=(args++List.replicate (d.ntmps-args.length) undef).toArray:=by simp
  rw[I];refine wpIn_wide.2 (wp_mono (Pk c h) ?_);intro x a O u;cases x with
  | normal=>obtain⟨e,D,rfl,h⟩:=u;exact PK h
  | ret =>
   rcases u with⟨e,D,rfl,h⟩|⟨e,rfl,h⟩
   ·exact PK h
   ·exact Vc h
  | _=>exact u.elim
theorem Qj {c:Code}{g:Operand}{ps:Array Tmp}{a bd:Code}{gf:FuncId}{cap:List Value}{N:Nat→KE}{X:Nat→Nat→KE}{R:Nat→KE}{e:Env}(j:c=.rangeFunc g ps a bd)(u:ev e g=.func (.func gf) #[] cap.toArray)(h:∀(d:FuncId) (W:World),Below w.heap.size w W→W.heap.size=w.heap.size+2 →
   W.heap[w.heap.size]? = some (.deferred (some []))→W.heap[w.heap.size+1]? = some (.loop (mX d e ps a bd w.heap.size .ready none)) →
   yc P (La P (w.heap.size+1) w.heap.size d e ps a bd) (w.heap.size+1) gf (.func (.yield (w.heap.size+1)) #[] #[]::cap) W fun _ w' =>
    ∃y:Option Code,w'.heap[w.heap.size+1]? = some (.loop (mX d e ps a bd w.heap.size (stY y) y)) ∧
     (match y with
      | none=>N w.heap.size e (w'.putObj (w.heap.size+1) (.loop (mX d e ps a bd w.heap.size .exhausted y)))
      | some (.exit i)=>X i w.heap.size e (w'.putObj (w.heap.size+1) (.loop (mX d e ps a bd w.heap.size .exhausted y)))
      | some .ret=>R w.heap.size e (w'.putObj (w.heap.size+1) (.loop (mX d e ps a bd w.heap.size .exhausted y)))
      | _=>False)):rfS P c N X R e w:=by
 subst j;exact⟨gf,cap,u,h⟩
end sound
noncomputable abbrev Q :Program:=Tryz.prog
abbrev ci (x:Int):Value:=.int .i64 x
abbrev cu (x:Int):Value:=.int .u64 x
abbrev cb (x:Int):Value:=.int .u8 x
abbrev cT :Value:=.bool true
abbrev cF :Value:=.bool false
abbrev cN :Value:=.slice none 0 0
abbrev rk (f:Func)(K:KV):KE:=vC Q f.results.toList K
abbrev xf :Nat→KE:=fun _ _ _=>False
abbrev xx (X:Nat→KE)(N:KE)(k:Nat):Nat→KE:=fun i=>@Bool.rec (fun _=>KE) (X i) N (Nat.beq i k)
def zM (f d:Nat→Value):List Nat→Nat→Value
 | [],i=>f i
 | k::l,i=>match Nat.beq k i with|true=>d i|false=>zM f d l i
def zu (_:Nat):Value:=undef
def zT (f:Nat→Value):Nat→Nat→List Value→List Value
 | _,0,l=>l
 | a,n+1,l=>f a::zT f (a+1) n l
def zr :List (Nat×Nat)→List Nat
 | []=>[]
 | p::l=>List.range' p.1 p.2++zr l
def zV (f:Nat→Value):Nat→List Value→Nat→Value
 | _,[],i=>f i
 | a,v::l,i=>match Nat.beq a i with|true=>v|false=>zV f (a+1) l i
abbrev uu :Value:=undef
abbrev hF (S:World→Prop)(t:TypeId)(x:Value)(f:Nat):(Value→Prop)→Prop:=hld S (af Q t x f)
abbrev hL (S:World→Prop)(t:TypeId)(x:Value):(Value→Prop)→Prop:=hld S (ld Q t x)
abbrev hN (S:World→Prop)(x:Value):(Value→Prop)→Prop:=hld S (aU x)
abbrev sF (t:TypeId)(x:Value)(f:Nat):KV→World→Prop:=sti (af Q t x f)
abbrev sL (t:TypeId)(x:Value):KV→World→Prop:=sti (ld Q t x)
abbrev sN (x:Value):KV→World→Prop:=sti (aU x)
abbrev lN (t:TypeId)(x:Value):KV→World→Prop:=blt Q .len #[t] 3 #[false] #[x]
abbrev hI (S:World→Prop)(t:TypeId)(x i:Value):(Value→Prop)→Prop:=hld S (aV Q t x i)
abbrev sI (t:TypeId)(x i:Value):KV→World→Prop:=sti (aV Q t x i)
abbrev nC (x:Value):KV→World→Prop:=bin Q .add 3 false true x (ci 1)
abbrev lS (x y:Value):KV→World→Prop:=bin Q .lss 3 false false x y
def vI :Nat→Type
 | 0=>World→Prop
 | n+1=>Value→vI n
def vM :Nat→Type
 | 0=>World→Nat
 | n+1=>Value→vM n
theorem mpK {a b:Prop}(h:a)(e:a=b:=by kernel_rfl):b:=Eq.mp e h
theorem mpF {a b:Prop}(e:a=b:=by kernel_rfl):a→b:=Eq.mp e
/-- A path, as a number. -/
def bP :Nat→Nat→List Nat→List Nat
 | 0,_,l=>l
 | k+1,n,l=>match Nat.beq n 1 with|true=>l|false=>bP k (n / 2) (n%2::l)
def b1 (n:Nat):List Nat:=bP 64 n []
/-- An invariant of some places, as one of the environment. -/
def vP :(l:List Nat)→vI l.length→KE
 | [],f=>fun _ w=>f w
 | n::l,f=>fun e w=>vP l (f (gd e n)) e w
def vQ :(l:List Nat)→vM l.length→Env→World→Nat
 | [],f=>fun _ w=>f w
 | n::l,f=>fun e w=>vQ l (f (gd e n)) e w
theorem goK {f:FuncId} {d:Func} (h:Q.funcs[f]? = some d) (j:(d.name == "runtime.NumGoroutine")=false:=by kernel_rfl) (u:d.body.isNone=false:=by kernel_rfl):EO Q f:=⟨d,h,j,u⟩
theorem Nk (h:dE Q 129 none (fun A1=>bld Q 192 #[(0,A1)] fun A2=>box Q 192 A2 K) w):Gives Q 50 #[] w K:=by
 refine aB func50 (by kernel_rfl) ?_;exact mpK h
theorem Pc (h:bin Q .lss 3 false true Y1 (ci 1) (fun A5 w=>aI A5 false (fun M=>bin Q .gtr 3 false true Y1 (ci 6) (fun A8=>M [Y1,A8]) w) (fun k=>k [uu,uu] w) fun J=>pick A5 cT (gd J 1) fun A9 w=>aI A9 false (fun u=>bin Q .lss 31 false true Z1 (cu 1) (fun C2=>u [Z1,C2]) w) (fun k=>k [uu,uu] w) fun d=>pick A9 cT (gd d 1) fun C3 w=>aI C3 false (fun I=>bin Q .geq 31 false true Z1 (cu 1099511627776) (fun C6=>I [Z1,C6]) w) (fun k=>k [uu,uu] w) fun j=>pick C3 cT (gd j 1) fun C7 w=>cond C7 (K (cu 0) w) (conv Q 3 31 Y1 (fun C9=>bin Q .shl 31 false true C9 (cu 40) fun D0=>bin Q .or 31 false false D0 Z1 K) w)) w):Gives Q 236 #[Y1,Z1] w K:=by
 refine aB func236 (by kernel_rfl) ?_;exact mpK h
theorem HV (h:bin Q .eql 127 false true Y1 (Value.pointer none) (fun A7 w=>cond A7 (K cF w) (aU Y1 (fun C0=>af Q 192 C0 0 fun C1=>ld Q 129 C1 fun C2=>lkp Q 129 C2 Z1 true fun C4=>ext Q C4 0 fun _=>ext Q C4 1 K) w)) w):Gives Q 167 #[Y1,Z1] w K:=by
 refine aB func167 (by kernel_rfl) ?_;exact mpK h
theorem Jk (h:box Q 127 Y1 (fun A2=>box Q 31 Z1 fun d=>K (Value.func (Fn.func 166) #[] #[A2,d])) w):Gives Q 142 #[Y1,Z1] w K:=by
 refine aB func142 (by kernel_rfl) ?_;exact mpK h
def qu (Y:YB)(l_:Nat)(K:KV):KE:=rl Q Y l_ (cd f166 [0]) (rk f166 K) (xx xf (rk f166 K) 0) (rk f166 K)
theorem GB {Y:YB}(h:qu Y b K [Y1,Z1,U2,uu,uu,uu,uu,uu,uu,uu,uu,uu,uu,uu,uu,uu,uu,uu] w):yc Q Y b 166 [Y1,Z1,U2] w K:=by
 refine QH (goK func166) func166 (by kernel_rfl) ?_;revert h;delta qu;exact mpF
theorem Ev {Y:YB}(O:xe Y)(Inv:vI 3)(μ:vM 3)(M:Inv U3 V3 W3 w)(U:∀(j u I:Value) (dd:Nat→Value) (w:World) (m:Nat),Inv j u I w→m=μ j u I w →
  ld Q 127 Z1 (fun W2=>ld Q 31 U2 fun X2=>call Q 167 #[W2,X2] fun Y2=>xG Y2 true (fun k=>k Y1) fun U3=>xG Y2 true (ld Q 31 U2) fun V3=>xG Y2 true (Im Q Y b U3 #[V3]) fun W3=>pick Y2 W3 cF fun X3 w=>cond X3 (sL 127 Z1 (fun Y3=>sN Y3 fun Z3=>sF 192 Z3 0 fun j4=>sL 129 j4 fun U4=>sL 31 U2 fun V4=>sti (lkp Q 129 U4 V4 false) fun W4=>sto Q 31 U2 W4 fun _ w=>(Inv U3 V3 W3 w)∧((μ U3 V3 W3 w)<m)) w.drew) (K (Value.tuple #[]) w)) w):qu Y b K [Y1,Z1,U2,V2,W2,X2,Y2,Z2,U3,V3,W3,X3,Y3,Z3,j4,U4,V4,W4] w:=by
 refine IP O (cd f166 [0,0]) (zr [(4,14)]) (by kernel_rfl) (vP [8,9,10] Inv) (vQ [8,9,10] μ) M ?_;intro e' w' hI;have h:=U _ _ _ (fun i=>gd e' i) w' _ hI rfl;exact mpK h
attribute [irreducible] qu
def qs (K:KV)(D:Nat):KE:=ae Q (cd f99 [1,1]) (vm Q Tryz.f99.results.toList K D) xf (vm Q Tryz.f99.results.toList K D)
theorem Es (h:ld Q 120 W2 (fun j4=>sto Q 120 W2 j4 fun _ w=>(dM D w)∧(bp Q [(some 120,W2)] K (w.putObj D (Obj.deferred none)))) w):qs K D [Y1,Z1,U2,V2,W2,X2,Y2,Z2,U3,V3,W3,X3,Y3,Z3,j4] w:=by
 delta qs;exact mpK h
noncomputable def pU :Func:={Tryz.f99 with body:=some (UA (cd f99 [1,0,1,0]))}
def yJ (NB:KE)(XB:Nat→KE)(RB:KE):KE:=ae Q (cd pU []) NB XB RB
theorem Et {XB:Nat→KE}(h:B1 [Y1,Z1,U2,V2,W2,V3,Y2,Z2,U3,V3,W3,X3,Y3,Z3,j4] w):yJ B1 XB W0 [Y1,Z1,U2,V2,W2,X2,Y2,Z2,U3,V3,W3,X3,Y3,Z3,j4] w:=by
 delta yJ;exact mpK h
noncomputable def pV :Func:={Tryz.f99 with body:=some (UC (cd f99 [1,0,1,0]))}
def yK (NB:KE)(XB:Nat→KE)(RB:KE):KE:=ae Q (cd pV []) NB XB RB
theorem Eu {XB:Nat→KE}(h:ld Q 120 W2 (fun W3=>bT Q 120 1 #[(0,X2)] fun Y3=>blt Q .append #[120,120] 120 #[false,false] #[W3,Y3] fun Z3=>sto Q 120 W2 Z3 fun _=>B1 [Y1,Z1,U2,V2,W2,X2,Y2,Z2,U3,V3,W3,X2,Y3,Z3,j4]) w):yK B1 XB W0 [Y1,Z1,U2,V2,W2,X2,Y2,Z2,U3,V3,W3,X3,Y3,Z3,j4] w:=by
 delta yK;exact mpK h
theorem GA (h:alc Q 120 (fun d=>call Q 142 #[Y1,Z1] fun A7=>rfS Q (cd f99 [1,0,1,0]) (qs K) (fun i D e w=>(i=0)∧(qs K D e w)) (vm Q Tryz.f99.results.toList K) [Y1,Z1,uu,uu,d,uu,Y1,Z1,A7,uu,uu,uu,uu,uu,uu]) w):Gives Q 99 #[Y1,Z1] w K:=Pm func99 (by kernel_rfl) (Eq.mp (by kernel_rfl) h)
def dl (A0 id1 parent2 D5:Value)(zf:Nat→Value):List Value:=A0::id1::parent2::zT zf 3 23 (D5::zT zf 27 17 ([]))
def gu (K:KV):KE:=ae Q (cd f239 [1,1]) (rk f239 K) xf (rk f239 K)
def kL (K:KV):KE:=ae Q (cd f239 (b1 6655)) (gu K) (xx xf (gu K) 0) (rk f239 K)
def oU (K:KV):KE:=ae Q (cd f239 (b1 13309)) (kL K) (xx xf (gu K) 0) (rk f239 K)
theorem Jj (j:Code)(h:bin Q .eql 127 false true Y1 (Value.pointer none) (fun A8 w=>cond A8 (K (ci 2) w) (bin Q .eql 31 false true Z1 (cu 0) (fun C1 w=>cond C1 (K (ci 1) w) (call Q 167 #[Y1,Z1] (fun C5 w=>cond C5 (K (ci 14) w) (bin Q .neq 31 false true U2 (cu 0) (fun C8 w=>aI C8 true (fun u=>call Q 167 #[Y1,U2] (fun D2=>un Q .not D2 fun D3=>u [Y1,U2,D2,D3]) w) (fun k=>k [uu,uu,uu,uu] w) fun d=>pick C8 (gd d 3) cF fun D4 w=>cond D4 (K (ci 9) w) (aU Y1 (fun D6=>af Q 192 D6 0 fun D7=>ld Q 129 D7 fun D8=>lN 129 D8 fun D9=>bin Q .geq 3 false true D9 (ci 32) fun E0=>ae Q j (ae Q (cd f239 (b1 6655)) (ae Q (cd f239 [1,1]) (rk f239 K) (fun _ _ _=>False) (rk f239 K)) (fun i=>@Bool.rec (fun _=>KE) ((fun _ _ _=>False) i) (ae Q (cd f239 [1,1]) (rk f239 K) (fun _ _ _=>False) (rk f239 K)) (Nat.beq i 0)) (rk f239 K)) (fun i=>@Bool.rec (fun _=>KE) ((fun _ _ _=>False) i) (ae Q (cd f239 [1,1]) (rk f239 K) (fun _ _ _=>False) (rk f239 K)) (Nat.beq i 0)) (rk f239 K) (dl Y1 Z1 U2 E0 (zV (zV zu 6 [ci 0,A8,Y1,A8,C1,Z1,C1,C5,Y1,Z1,C5,D4,U2,C8,C8,gd d 0,gd d 1,gd d 2,gd d 3,D4]) 27 [Y1,D6,D7,D8,D9,E0]))) w)) w)) w)) w)) w):ae Q (rep (b1 13309) j (cd f239 [])) (rk f239 K) xf (rk f239 K) (dl Y1 Z1 U2 uu zu) w:=Eq.mp (by kernel_rfl) h
theorem HU {K:KV}{Y1 Z1 U2:Value}{w:World}(h:bin Q .eql 127 false true Y1 (Value.pointer none) (fun A8 w=>cond A8 (K (ci 2) w) (bin Q .eql 31 false true Z1 (cu 0) (fun C1 w=>cond C1 (K (ci 1) w) (call Q 167 #[Y1,Z1] (fun C5 w=>cond C5 (K (ci 14) w) (bin Q .neq 31 false true U2 (cu 0) (fun C8 w=>aI C8 true (fun k21=>call Q 167 #[Y1,U2] (fun D2=>un Q .not D2 fun D3=>k21 [Y1,U2,D2,D3]) w) (fun k=>k [uu,uu,uu,uu] w) fun us21=>pick C8 (gd us21 3) cF fun D4 w=>cond D4 (K (ci 9) w) (aU Y1 (fun D6=>af Q 192 D6 0 fun D7=>ld Q 129 D7 fun D8=>lN 129 D8 fun D9=>bin Q .geq 3 false true D9 (ci 32) fun E0=>oU K (dl Y1 Z1 U2 E0 (zV (zV zu 6 [ci 0,A8,Y1,A8,C1,Z1,C1,C5,Y1,Z1,C5,D4,U2,C8,C8,gd us21 0,gd us21 1,gd us21 2,gd us21 3,D4]) 27 [Y1,D6,D7,D8,D9,E0]))) w)) w)) w)) w)) w):Gives Q 239 #[Y1,Z1,U2] w K:=aB func239 (by kernel_rfl) (Eq.mp (congrArg (fun c=>ae Q c (rk f239 K) xf (rk f239 K) (dl Y1 Z1 U2 uu zu) w) (by kernel_rfl:(rep (b1 13309) (cd f239 (b1 13309)) (cd f239 []))=(cd f239 []))) (Jj (cd f239 (b1 13309)) h))
theorem FC (d:KE)(j:KE)(h:cond V2 (d (dl Y1 Z1 U2 V2 zf) w) (call Q 99 #[Y1,U2] (fun E1=>lN 120 E1 fun E2=>bin Q .geq 3 false true E2 (ci 4) fun E3=>d (dl Y1 Z1 U2 E3 (zV zf 33 [Y1,U2,E1,E2,E3]))) w)):ae Q (cd f239 (b1 13309)) d (xx xf j 0) (rk f239 K) (dl Y1 Z1 U2 V2 zf) w:=Eq.mp (by kernel_rfl) h
theorem FD (h:cond V2 (kL K (dl Y1 Z1 U2 V2 zf) w) (call Q 99 #[Y1,U2] (fun E1=>lN 120 E1 fun E2=>bin Q .geq 3 false true E2 (ci 4) fun E3=>kL K (dl Y1 Z1 U2 E3 (zV zf 33 [Y1,U2,E1,E2,E3]))) w)):oU K (dl Y1 Z1 U2 V2 zf) w:=by
 delta oU
 exact Eq.mp (congrArg (fun c=>ae Q c (kL K) (xx xf (gu K) 0) (rk f239 K) (dl Y1 Z1 U2 V2 zf) w) (by kernel_rfl:(cd f239 (b1 13309))=(cd f239 (b1 13309)))) (FC (kL K) (gu K) h)
theorem FG (d:KE)(h:cond V2 (K (ci 6) w) (d (dl Y1 Z1 U2 V2 zf) w)):ae Q (cd f239 (b1 6655)) d (xx xf d 0) (rk f239 K) (dl Y1 Z1 U2 V2 zf) w:=Eq.mp (by kernel_rfl) h
theorem ya (h:cond V2 (K (ci 6) w) (gu K (dl Y1 Z1 U2 V2 zf) w)):kL K (dl Y1 Z1 U2 V2 zf) w:=by
 delta kL
 exact Eq.mp (congrArg (fun c=>ae Q c (gu K) (xx xf (gu K) 0) (rk f239 K) (dl Y1 Z1 U2 V2 zf) w) (by kernel_rfl:(cd f239 (b1 6655))=(cd f239 (b1 6655)))) (FG (gu K) h)
theorem FE (h:aU Y1 (fun E4=>af Q 192 E4 0 fun E5=>ld Q 129 E5 fun E6=>dO Q 129 E6 Z1 U2 fun _=>K (ci 0)) w):ae Q (cd f239 [1,1]) (rk f239 K) xf (rk f239 K) (dl Y1 Z1 U2 V2 zf) w:=Eq.mp (by kernel_rfl) h
theorem FF (h:aU Y1 (fun E4=>af Q 192 E4 0 fun E5=>ld Q 129 E5 fun E6=>dO Q 129 E6 Z1 U2 fun _=>K (ci 0)) w):gu K (dl Y1 Z1 U2 V2 zf) w:=by
 delta gu
 exact Eq.mp (congrArg (fun c=>ae Q c (rk f239 K) xf (rk f239 K) (dl Y1 Z1 U2 V2 zf) w) (by kernel_rfl:(cd f239 [1,1])=(cd f239 [1,1]))) (FE h)
attribute [irreducible] gu kL oU
def qt (is1 l4 C1:Value)(zf:Nat→Value):List Value:=zf 0::is1::zf 2::zf 3::l4::zT zf 5 7 (C1::zT zf 13 14 ([]))
def jx (K:KV):KE:=ae Q (cd f88 [1,1,1]) (rk f88 K) xf (rk f88 K)
def pW (K:KV):KE:=ae Q (cd f88 (b1 58)) (jx K) (xx xf (jx K) 0) (rk f88 K)
theorem FH (h:bin Q .eql 127 false true Z1 (Value.pointer none) (fun A6 w=>cond A6 (K cN w) (aU Z1 (fun A8=>af Q 192 A8 0 fun A9=>ld Q 129 A9 fun C0=>rng Q 129 C0 fun U2=>pW K (qt Y1 cN U2 (zV (zV zu 0 [Z1]) 6 [Z1,A6,Z1,A8,A9,C0]))) w)) w):Gives Q 88 #[Z1,Y1] w K:=by
 refine aB func88 (by kernel_rfl) ?_;revert h;delta pW jx;exact mpF
theorem DX (Inv:Value→World→Prop)(μ:Value→World→Nat)(I:Inv Z1 w)(J:∀(d:Value) (dd:Nat→Value) (w:World) (m:Nat),Inv d w→m=μ d w →
  nxt Q U2 false 0 (fun C2=>ext Q C2 0 fun C3 w=>cond C3 (ent Q U2 (fun C4=>ext Q C4 0 fun C5=>bY Q Y1 #[C5] fun C8 w=>cond C8 (bT Q 120 1 #[(0,C5)] (fun D1=>blt Q .append #[120,120] 120 #[false,false] #[d,D1] fun D2 w=>(Inv D2 w)∧((μ D2 w)<m)) w) ((Inv d w)∧((μ d w)<m))) w) (jx K (qt Y1 d U2 (zV dd 13 [C2,C3])) w)) w):pW K (qt Y1 Z1 U2 zf) w:=by
 refine aL (cd f88 (b1 116)) (zr [(4,2),(13,11)]) (by kernel_rfl) (vP [4] Inv) (vQ [4] μ) I ?_;intro e' w' hI;have h:=J _ (zM zf (fun i=>gd e' i) (zr [(4,2),(13,11)])) w' _ hI rfl;revert h;generalize (jx K)=qc0;exact mpF
theorem DY (h:call Q 123 #[Z1] (fun _=>K Z1) w):jx K (qt Y1 Z1 U2 zf) w:=by
 delta jx;exact mpK h
attribute [irreducible] jx pW
theorem Er (h:K cT w):Gives Q 89 #[Y1] w K:=by
 refine aB func89 (by kernel_rfl) ?_;exact mpK h
theorem Gz (h:call Q 88 #[Y1,Value.func (Fn.func 89) #[] #[]] K w):Gives Q 51 #[Y1] w K:=by
 refine aB func51 (by kernel_rfl) ?_;exact mpK h
end
section
attribute [local irreducible] bin un conv call bY blt slc af fld aV idx lkp dO gY eSt rng nxt ent ext alc box bld bT ld sto aU dE mkS ifc pick rdy wts aI sti cond bp Gives ae fh fT cOp
open Go.RowKit Go.ChangeMaps
abbrev pB (b:Nat):Value:=.pointer (some ⟨b,0,none⟩)
theorem u6K :zH Tryz.prog 31 u6:=LS underlying31
theorem u6z :∀w,(zeroValue 31).run Tryz.prog w=.ok (u6 0) w:=fun w=>by kernel_rfl
theorem mQ [DecidableEq α]{m L:List (α×X1)}(h:m.Perm L)(u:(L.map (·.1)).Nodup)(x:α):dP m x=dP L x:=by
 have j:(m.map (·.1)).Nodup:=(h.map _).nodup_iff.2 u;cases d:dP L x with
 | none =>
  rw[sQ]at d ⊢;exact fun I=>d ((h.map _).mem_iff.1 I)
 | some v=>exact nN j (h.mem_iff.2 (uR d))
structure TreeM (w:World) (t tp:Nat) (T:List (Int×Int)):Prop where
 bt:blk w t 192 [.map (some tp)]
 mp:∃m,MB u6 u6 w tp m∧m.Perm T
 uq:(T.map (·.1)).Nodup
section
variable {w w':World}{t tp:Nat}{T:List (Int×Int)}
theorem TreeM.below (h:TreeM w t tp T)(d:Below w.heap.size w w'):TreeM w' t tp T :=
 ⟨ac d h.bt h.bt.lt,let ⟨m,j,u⟩:=h.mp;⟨m,j.below d,u⟩,h.uq⟩
theorem TreeM.lt (h:TreeM w t tp T):t<w.heap.size∧tp<w.heap.size:=⟨h.bt.lt,let ⟨_,d,_⟩:=h.mp;d.lt⟩
theorem TreeM.ne (h:TreeM w t tp T):t≠tp:=by
 obtain⟨m,⟨es,c,d⟩,_⟩:=h.mp;rintro rfl
 have:=h.bt
 unfold blk at this;rw[d.heap]at this;cases this
theorem TreeM.oth (h:TreeM w t tp T)(d:Oth b w w')(j:t≠b)(u:tp≠b):TreeM w' t tp T :=
 ⟨d.blk h.bt j,let ⟨m,I,J⟩:=h.mp;⟨m,I.oth d u,J⟩,h.uq⟩
theorem Cw (h:(T.map (·.1)).Nodup)(id:Int):dP T id=match cr T id with|true=>some (eE T id)|false=>none:=by
 cases d:cr T id with
 | true=>exact nN h (ny d)
 | false =>
  refine sQ.2 fun u=>?_;obtain⟨p,j,e⟩:=List.mem_map.1 u;rw[jE.2 ⟨p,j,e⟩]at d;cases d
end
theorem wI (h:K (.pointer (some ⟨b,o+0,none⟩)) w):af Tryz.prog 192 (.pointer (some ⟨b,o,none⟩)) 0 K w:=aK (by kernel_rfl) h
section
variable {w:World}{K:KV}{t tp:Nat}{T:List (Int×Int)}{id:Int}
theorem Jw (h:K (.bool false) w):bin Tryz.prog .eql 127 cx cy (pB b) (.pointer none) K w :=
 jm (by unfold eqG eqGuard;rfl) (by kernel_rfl) h
theorem Qv (h:∀w' t tp,TreeM w' t tp []→Below w.heap.size w w'→w.heap.size≤t→w.heap.size≤tp→K (pB t) w'):call Tryz.prog 50 #[] K w:=by
 refine aj (goK func50) (Nk ?_);refine qZ underlying129 rfl u6 u6 fun I u b1 J=>?_;refine eT (vs:=[.map (some w.heap.size)]) (by kernel_rfl) ?_;refine cv fun j d b2 M=>?_;have d:blk j I.heap.size 192 [.map (some w.heap.size)]:=by simpa[Value.cells]using d
 exact h j _ _ ⟨d,⟨[],u.below b2,.refl _⟩,by simp⟩ (b1.trans (b2.mono (by omega))) (by omega) (Nat.le_refl _)
theorem Ji (h:TreeM w t tp T)(d:K (.bool (cr T id)) w):call Tryz.prog 167 #[pB t,u6 id] K w:=by
 obtain⟨m,j,u⟩:=h.mp;refine aj (goK func167) (HV (Jw (aO (ai (wI (lK (v:=.map (some tp)) h.bt rfl (Ma (z0:=0) u6K underlying129 u6z j ?_)))))));have e:(dP m id).isSome=cr T id:=by
  rw[mQ u h.uq,Cw h.uq];cases cr T id<;>rfl
 rw[e];exact cZ (db d)
theorem VG (h:TreeM w t tp T)(d:cr T id=true)(j:K (u6 (eE T id)) w):lkp Tryz.prog 129 (.map (some tp)) (u6 id) false K w:=by
 obtain⟨m,u,I⟩:=h.mp;refine LZ (z0:=0) u6K underlying129 u6z u ?_;rw[mQ I h.uq,Cw h.uq,d];exact j
theorem Un {rk:Int→Nat}(u:TK T rk)(j:cr T x=true):upT T rk (eE T x)<upT T rk x:=by
 have M:upT T rk x=rk x+1:=by unfold upT;rw[j]
 have J:=ny j;rw[M];unfold upT;cases h:cr T (eE T x)with
 | false=>show 0<rk x+1;omega
 | true =>
  rcases u.up _ J with I|⟨y,U,e,d⟩
  ·exfalso;obtain⟨z,O,e⟩:=jE.1 h;exact u.nz z O (e.trans I)
  ·have e:y.1=eE T x:=e;rw[←e]
   have:rk y.1<rk x:=d
   show rk y.1+1<rk x+1;omega
theorem xGn {v:Value}{s:KV→World→Prop}(j:asB v≠some cx)(h:K undef w):xG v cx s K w:=⟨fun d=>absurd d j,fun _=>h⟩
def c0 (w:World)(b:Nat):Int:=match w.cell? ⟨b,0,none⟩with|some v=>intOf v|none=>0
theorem Ws {Y:YB}{l:Nat}{rk:Int→Nat}(hY:xe Y)(hk:TK T rk)(Inv:Nat→World→Prop)(d:World→Prop)(h0:Inv 0 w)(hm:∀j w,Inv j w→TreeM w t tp T∧blk w c 127 [pB t])(hi:∀j w w',Inv j w→Oth n w.drew w'→Inv j w')(J:blk w n 31 [u6 id])(hy:∀j x w K,(dh T id)[j]? = some x→Inv j w→blk w n 31 [u6 x]→(∀w',Inv (j+1) w'→blk w' n 31 [u6 x]→K (.bool true) w')→(∀w',d w'→K (.bool false) w')→Y [u6 x] K w)(he:∀w',Inv (dh T id).length w'→K (.tuple #[]) w')(hs:∀w',d w'→K (.tuple #[]) w'):yc Tryz.prog Y l 166 [.func (.yield l) #[] #[],pB c,pB n] w K:=by
 refine GB (Ev hY (Inv:=fun _ _ _ w=>∃j x f,Inv j w∧blk w n 31 [u6 x]∧(dh T id).drop j=cB T f x∧j≤(dh T id).length∧upT T rk x≤f) (μ:=fun _ _ _ w=>upT T rk (c0 w n))
  ⟨0,id,T.length+1,h0,J,by rw[List.drop_zero];rfl,Nat.zero_le _,by have:=AM hk id;omega⟩ ?_)
 rintro _ _ _ dd w m ⟨j,x,f,hI,J,M,hj,hu⟩ an;obtain⟨ht,h1⟩:=hm j w hI;have ag:c0 w n=x:=by unfold c0;rw[J.cell];rfl
 refine lK (v:=pB t) h1 rfl (lK (v:=u6 x) J rfl (Ji ht ?_));cases X:cr T x with
 | false =>
  refine xGn (by decide) (xGn (by decide) (xGn (by decide) (ex (aO ?_))));refine he w ?_
  have:cB T f x=[]:=by cases f<;>simp[cB,X]
  rw[this,List.drop_eq_nil_iff]at M
  have:j=(dh T id).length:=by omega
  rw[←this];exact hI
 | true =>
  have ar:=Un hk X;obtain⟨f',rfl⟩:∃f',f=f'+1:=⟨f-1,by omega⟩
  have hp:cB T (f'+1) x=x::cB T f' (eE T x):=by simp[cB,X]
  rw[hp]at M;have av:j<(dh T id).length:=by
   rcases Nat.lt_or_ge j (dh T id).length with h|h
   ·exact h
   ·rw[List.drop_eq_nil_of_le h]at M;cases M
  have hx:(dh T id)[j]? = some x:=by
   have:=congrArg List.head? M
   rw[List.head?_drop]at this;exact this
  have am:(dh T id).drop (j+1)=cB T f' (eE T x):=by
   have:=congrArg List.tail M
   rw[List.tail_drop]at this;exact this
  refine Ce rfl (Ce rfl (lK (v:=u6 x) J rfl (Ce rfl (.inl ⟨rfl,hy j x w _ hx hI J (fun w' O ad => bX (bu ?_)) (fun w' ap => bX (aO (hs w' ap)))⟩))));obtain⟨I,Z⟩:=hm _ _ O;have U:=ad.drew;have u:TreeM w'.drew t tp T:=⟨I.bt,let ⟨m,a,b⟩:=I.mp;⟨m,a.kept rfl,b⟩,I.uq⟩
  refine aa (fun _=>lK (v:=pB t) Z.drew rfl) (aa (fun _=>ai) (aa (fun _=>wI) (aa (fun _=>lK (v:=.map (some tp)) u.bt rfl) (aa (fun _=>lK (v:=u6 x) U rfl) (aa (fun _=>VG u X) ?_)))));refine eB (fun _=>by kernel_rfl) U (by show 0<1;decide) rfl fun w2 h2 o2=>?_;refine⟨⟨j+1,eE T x,f',hi _ _ _ O o2,h2,am,by omega,by omega⟩,?_⟩;have al:c0 w2 n=eE T x:=by unfold c0;rw[h2.cell];rfl
  rw[an,ag,al];exact ar
theorem Wr (h:∀w',blk w' w.heap.size 127 [pB t]→blk w' (w.heap.size+1) 31 [u6 id]→Below w.heap.size w w'→w'.heap.size=w.heap.size+2→K (.func (.func 166) #[] #[pB w.heap.size,pB (w.heap.size+1)]) w'):call Tryz.prog 142 #[pB t,u6 id] K w:=by
 refine aj (goK func142) (Jk ?_);refine cv fun M j b1 u=>cv fun I d b2 J=>?_;rw[u]at d ⊢;exact h I (ac b2 (by simpa[Value.cells]using j) (by omega)) (by simpa[Value.cells,u6]using d) (b1.trans (b2.mono (by omega))) (by omega)
end
end
end Go.Proofs.YtkbhfjljieopoaaGreatDoor
