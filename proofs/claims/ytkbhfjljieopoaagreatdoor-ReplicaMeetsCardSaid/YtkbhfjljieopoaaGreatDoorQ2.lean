import Derived.Test.YtkbhfjljieopoaaGreatDoorQ1
import Derived.Maps.AppendAt
import Derived.Test.YtkbhfjljieopoaaGreatDoorSh
import Derived.OrdersIn
import Derived.TacticsIn
import Derived.RangeFuncIn
import Derived.RangeFuncRecord
import Derived.RangeFuncCalls
import Derived.RangeFuncOwn
import Derived.RangeFuncLeaves
import Derived.Test.YtkbhfjljieopoaaGreatDoorChecked
namespace Go.Proofs.YtkbhfjljieopoaaGreatDoor
set_option maxRecDepth 100000
set_option maxHeartbeats 4000000
open Go.Proofs.Tryz
variable {w w' w0:World}{K:KV}{zf dd:Nat→Value}{b n c o k B i g p j m s z f d D c2 hi:Nat}{x r:Int}{B1 B2:KE}{a av:Option Addr}{cs ys:List Value}{E t e:TypeId}{xs v:List Int}{α W5:Type}{T:List (Int×Int)}{F:List Nat}{cx cy:Bool}{X0:FuncId}{Y5 Z5 K6 W6 X6 Y6 Z6 u7 B7 K7 W7 X7 Y7 Z7 B8 K8 W8 X8:Value}
section
theorem NJ {x:ND}:∀{N:List ND},∃i,dN x N=fl N i x
 | []=>⟨0,rfl⟩
 | z::N=>by
  unfold dN;split
  ·exact⟨0,rfl⟩
  ·obtain⟨i,h⟩:=NJ (x:=x) (N:=N);exact⟨i+1,by rw[h];rfl⟩
theorem Qw {x:ND}{N:List ND}:∃i,tr (dN x N)=fl (tr N) i (x.id,x.par):=by
 obtain⟨i,h⟩:=NJ (x:=x) (N:=N);refine⟨i,?_⟩;rw[h];unfold tr fl;rw[List.map_append,List.map_cons,List.map_take,List.map_drop]
section
variable {e:EV}{s:PL}
theorem Uu :Lf z54:=uP.1 (by decide)
theorem FI (i:Nat):nA z54 i=0:=by
 unfold nA z54;rw[List.getD_eq_getElem?_getD,List.getElem?_replicate];split<;>rfl
theorem Pf {R:List (List Int)}(j:R.length=6)(C:e.q<6)(h:jB R k r=true):jB (kZ e R) k r=true:=by
 unfold kZ;split
 ·unfold jB at *;rw[sA (by rw[j];exact C)];split
  ·rename_i u;subst u;rw[List.contains_iff_mem]at h ⊢;exact List.mem_append_left _ h
  ·exact h
 ·exact h
theorem PI.eff (hi:PI s)(h:OK e s):PI (eff e s):=by
 obtain⟨hq,ho⟩:=qe h.may;have hm:=gC h.may;have a:=after hi h;have aa:=hi.new h.may h.rdy;have aE:=nB h.rdy;have a0:=FT h.may;refine⟨?_,?_,by show (s.V.set _ _).length=6;rw[List.length_set];exact hi.v6,?_,fun k hk=>?_,fun x u=>?_,fun x u=>?_,?_,fun x u=>?_,fun o=>?_,?_,fun x u=>?_,?_,fun g hg=>?_⟩
 ·show (nO e s.I).length=6;unfold nO;split
  ·rw[List.length_set];exact hi.i6
  ·exact hi.i6
 ·show (nP e s.L).length=6;unfold nP;split
  ·rw[List.length_set];exact hi.l6
  ·exact hi.l6
 ·show (kZ e s.R).length=6;unfold kZ;split
  ·rw[List.length_set];exact hi.r6
  ·exact hi.r6
 ·by_cases ek:k=e.q
  ·subst ek;rw[a.Ve, ←aE.1];simp only[M40]at *; omega
  ·rw[a.V _ ek];exact hi.vb k hk
 ·rcases ln hi h with⟨y,C,J,hp,hA,_⟩|⟨ids,c,v,C,_⟩|⟨C,_⟩
  ·rw[show (Go.Proofs.YtkbhfjljieopoaaGreatDoor.eff e s).N=dN y s.N by show (nop e s).ap s.N=_;rw[C];rfl]at u;rcases ow.1 u with rfl|u
   ·rw[hA];simp[z54]
   ·exact hi.A54 x u
  ·rw[show (Go.Proofs.YtkbhfjljieopoaaGreatDoor.eff e s).N=s.N.map (dR ids c v)by show (nop e s).ap s.N=_;rw[C];rfl]at u;obtain⟨y,J,rfl⟩:=List.mem_map.1 u;unfold dR;split
   ·show (y.A.set _ _).length=54;rw[List.length_set];exact hi.A54 y J
   ·exact hi.A54 y J
  ·rw[show (Go.Proofs.YtkbhfjljieopoaaGreatDoor.eff e s).N=s.N by show (nop e s).ap s.N=_;rw[C];rfl]at u;exact hi.A54 x u
 ·rcases ln hi h with⟨y,C,J,hp,hA,k1⟩|⟨ids,c,v,C,_,U,hc,a8,a9,hb⟩|⟨C,_⟩
  ·rw[show (Go.Proofs.YtkbhfjljieopoaaGreatDoor.eff e s).N=dN y s.N by show (nop e s).ap s.N=_;rw[C];rfl]at u;rcases ow.1 u with rfl|u
   ·have hz:z54.set e.q e.a=z54.set e.q (nA z54 e.q+e.a):=by rw[FI];simp
    have av:0≤e.a:=by rcases qC h.may with⟨_,h1,_⟩|⟨k,_⟩|⟨k,_⟩|⟨k,_⟩|⟨k,_⟩|⟨k,_⟩|k<;>omega
    have ha:=(h.k1 k1).2.1;rw[hA,hz];refine⟨uP.2 (NO (by simp[z54]) Uu av (by omega) (by rw[FI];simp only[MXA,M47]at *; omega) (fun i hi e=>by omega) (fun i hi e=>by omega) (fun k hk U=>by rcases U with U|⟨j,_,U⟩<;>omega) (fun _=>⟨by rw[FI];omega,fun i _=>by rw[FI];decide⟩)),fun k hk=>?_⟩;rw[nT (by simp[z54];omega),FI];unfold dlt;split
    ·omega
    ·simp only[M47];omega
   ·exact hi.may x u
  ·rw[show (Go.Proofs.YtkbhfjljieopoaaGreatDoor.eff e s).N=s.N.map (dR ids c v)by show (nop e s).ap s.N=_;rw[C];rfl]at u;obtain⟨y,J,rfl⟩:=List.mem_map.1 u;by_cases af:y.id∈ids
   ·have ag:=hb _ af;rw[te hi.srt J]at ag;obtain⟨b1,b2,b3,b4⟩:=ag;obtain⟨m1,m2⟩:=hi.may y J;have m1:=uP.1 m1;have hl:=hi.A54 y J;rw[sr af];show jj (y.A.set c (nA y.A c+v))=true∧_;refine⟨uP.2 (NO hl m1 (by omega) (Io hq hc) b1 (fun i hi ar=>?_) (fun i hi a7=>?_) (fun k hk U=>?_) (fun c6=>⟨b2 c6,fun i hi=>m2 i hi⟩)),fun k hk=>?_⟩
    ·have:c=12+e.q:=by rcases hc with rfl|rfl|rfl|⟨j,hj,_,rfl⟩<;>omega
     have h3:=b3 this
     have:i=e.q:=by omega
     subst this;rw[ar]at h3;exact h3
    ·rcases hc with rfl|rfl|rfl|⟨j,hj,al,rfl⟩<;>omega
    ·rcases U with U|⟨j,hj,U⟩
     ·have:k=e.q:=by rcases hc with rfl|rfl|rfl|⟨j,hj,al,rfl⟩<;>omega
      subst this;exact b4 (.inl U)
     ·have:k=e.q:=by rcases hc with rfl|rfl|rfl|⟨i,hi,al,rfl⟩<;>omega
      subst this;exact b4 (.inr (by omega))
    ·show nA (y.A.set c (nA y.A c+v)) k≤M47;rw[nT (by rw[hl];exact Io hq hc)];by_cases ec:k=c
     ·subst ec;rw[kD];exact b2 hk
     ·rw[iY ec];have:=m2 k hk;omega
   ·rw[qw af];exact hi.may y J
  ·rw[show (Go.Proofs.YtkbhfjljieopoaaGreatDoor.eff e s).N=s.N by show (nop e s).ap s.N=_;rw[C];rfl]at u;exact hi.may x u
 ·show ((nop e s).ap s.N).Pairwise _;rcases ln hi h with⟨y,C,J,_⟩|⟨ids,c,v,C,_⟩|⟨C,_⟩<;>rw[C]
  ·exact rK hi.srt (JC hi h J)
  ·exact Dz (fun y=>(gV y).1) hi.srt
  ·exact hi.srt
 ·have M:∀x∈s.N,∃o q:Int,1≤o∧o≤6∧1≤q∧q<M40∧x.id=o*M40+q∧q≤(Go.Proofs.YtkbhfjljieopoaaGreatDoor.eff e s).V.getD (o-1).toNat 0:=fun x u=>by
   obtain⟨o,q,a1,a2,a3,a4,a5,a6⟩:=hi.ids x u;refine⟨o,q,a1,a2,a3,a4,a5,?_⟩;by_cases ek:(o-1).toNat=e.q
   ·rw[ek,a.Ve];rw[ek]at a6;omega
   ·rw[a.V _ ek];exact a6
  rcases ln hi h with⟨y,C,J,hp,hA,_⟩|⟨ids,c,v,C,_⟩|⟨C,_⟩
  ·rw[show (Go.Proofs.YtkbhfjljieopoaaGreatDoor.eff e s).N=dN y s.N by show (nop e s).ap s.N=_;rw[C];rfl]at u;rcases ow.1 u with rfl|u
   ·refine⟨e.o,e.s,hm.1,hm.2.1,hm.2.2.1,hm.2.2.2,J,?_⟩;rw[show (e.o-1).toNat=e.q from rfl,a.Ve];omega
   ·exact M x u
  ·rw[show (Go.Proofs.YtkbhfjljieopoaaGreatDoor.eff e s).N=s.N.map (dR ids c v)by show (nop e s).ap s.N=_;rw[C];rfl]at u;obtain⟨y,J,rfl⟩:=List.mem_map.1 u;rw[(gV y).1];exact M y J
  ·rw[show (Go.Proofs.YtkbhfjljieopoaaGreatDoor.eff e s).N=s.N by show (nop e s).ap s.N=_;rw[C];rfl]at u;exact M x u
 ·show gP ((nop e s).ap s.N) o≤5;rcases ln hi h with⟨y,C,J,_,_,k1⟩|⟨ids,c,v,C,_⟩|⟨C,_⟩<;>rw[C]
  ·show gP (dN y s.N) o≤5;rw[DM,J,show idE e / M40=e.o from ti (by omega) hm.2.2.2];split
   ·rename_i eo;rw[←eo];have:=(h.k1 k1).1;omega
   ·have:=hi.own o;omega
  ·exact Nat.le_trans (Nat.le_of_eq (DN fun y=>(gV y).1)) (hi.own o)
  ·exact hi.own o
 ·show ∃rk,TK (tr ((nop e s).ap s.N)) rk;obtain⟨rk,hk⟩:=hi.tk;rcases ln hi h with⟨y,C,J,hp,_,k1⟩|⟨ids,c,v,C,_⟩|⟨C,_⟩<;>rw[C]
  ·obtain⟨i,ht⟩:=Qw (x:=y) (N:=s.N);show ∃rk,TK (tr (dN y s.N)) rk;rw[ht];exact⟨_,hk.add (by rw[J];omega) (by rw[kh,J];exact aa) (by rw[kh,hp];exact(h.k1 k1).2.2.1) i⟩
  ·exact⟨rk,by show TK (tr (s.N.map _)) rk;rw[FB fun y=>gV y];exact hk⟩
  ·exact⟨rk,hk⟩
 ·have M:∀x∈s.N,(di (Go.Proofs.YtkbhfjljieopoaaGreatDoor.eff e s).N x.id).length≤4:=fun x u=>by
   rw[a.path _ (.inl (mF.2 ⟨x,u,rfl⟩))];exact hi.dep x u
  rcases ln hi h with⟨y,C,J,hp,hA,k1⟩|⟨ids,c,v,C,_⟩|⟨C,_⟩
  ·have eN:(Go.Proofs.YtkbhfjljieopoaaGreatDoor.eff e s).N=dN y s.N:=by show (nop e s).ap s.N=_;rw[C];rfl
   rw[eN]at u;rcases ow.1 u with rfl|u
   ·obtain⟨k2,k3,k4,k5⟩:=h.k1 k1;have am:=a.path e.n (k4.symm);rw[eN]at am ⊢;obtain⟨rk,hk⟩:=hi.tk;obtain⟨i,ht⟩:=Qw (x:=x) (N:=s.N);have ad:=hk.add (id:=x.id) (par:=x.par) (by rw[J];omega) (by rw[kh,J];exact aa) (by rw[kh,hp];exact k4) i;rw[←ht]at ad;have U:cr (tr (dN x s.N)) x.id=true:=by rw[kh,Di];simp
    have an:eE (tr (dN x s.N)) x.id=x.par:=CG (Kc (rK hi.srt (JC hi h J))) (List.mem_map.2 ⟨x,ow.2 (.inl rfl),rfl⟩);have hu:=AM ad x.par;have az:di (dN x s.N) x.id=x.id::di (dN x s.N) x.par:=by
     unfold di dh;rw[cB,U,if_pos rfl,an]
     congr 1
     refine Fo ad _ _ _ ?_ (by omega);exact hu
    rw[az,List.length_cons,hp,am];omega
   ·exact M x u
  ·rw[show (Go.Proofs.YtkbhfjljieopoaaGreatDoor.eff e s).N=s.N.map (dR ids c v)by show (nop e s).ap s.N=_;rw[C];rfl]at u;obtain⟨y,J,rfl⟩:=List.mem_map.1 u;rw[(gV y).1];exact M y J
  ·rw[show (Go.Proofs.YtkbhfjljieopoaaGreatDoor.eff e s).N=s.N by show (nop e s).ap s.N=_;rw[C];rfl]at u;exact M x u
 ·show ((gop e).ap s.G).Pairwise ltG;unfold gop;split
  ·rename_i k3;refine BI hi.gs fun g hg U=>?_;obtain⟨_,_,_,g1,g2,g3,g4⟩:=hi.gk g hg;rw[U.1,U.2,show (e.o-1).toNat=e.q from rfl,(h.k3 k3).1]at g4;cases g4
  ·split
   ·show (s.G.map _).Pairwise ltG;rw[List.pairwise_map];refine hi.gs.imp fun {x y} aS=>?_;unfold ltG at *;rw[(je x).1,(je x).2,(je y).1,(je y).2];exact aS
   ·exact hi.gs
 ·have M:∀g∈s.G,bU (Go.Proofs.YtkbhfjljieopoaaGreatDoor.eff e s).N g.n=true∧1≤g.a∧g.a≤MXA∧1≤g.o∧g.o≤6∧1≤g.q∧jB (Go.Proofs.YtkbhfjljieopoaaGreatDoor.eff e s).R (g.o-1).toNat g.q=true:=fun g hg=>by
   obtain⟨g0,g1,g2,g3,g4,g5,g6⟩:=hi.gk g hg;exact⟨a.has _ g0,g1,g2,g3,g4,g5,Pf hi.r6 hq g6⟩
  have O:g∈(gop e).ap s.G:=hg;unfold gop at O;split at O
  ·rename_i k3;rcases Hk.1 O with rfl|O
   ·rcases qC h.may with⟨k,_⟩|⟨k,_⟩|⟨_,b1,b2,b3⟩|⟨k,_⟩|⟨k,_⟩|⟨k,_⟩|k<;>try omega
    refine⟨a.has _ (h.k3 k3).2.1,b1,b2,hm.1,hm.2.1,b3,?_⟩;show jB (kZ e s.R) e.q e.r=true;unfold kZ jB;rw[if_pos (.inl k3),sA (by rw[hi.r6];exact hq),if_pos rfl,List.contains_iff_mem];simp
   ·exact M g O
  ·split at O
   ·obtain⟨y,J,rfl⟩:=List.mem_map.1 O
    have:=M y J
    unfold nD;split
    ·exact this
    ·exact this
   ·exact M g O
end
theorem rh (n:Nat):PI (pl0 n) where
 i6:=by simp[pl0]
 l6:=rfl
 v6:=rfl
 r6:=rfl
 vb:=fun k h=>by
  have:(pl0 n).V.getD k 0=0:=by
   show (List.replicate 6 (0:Int)).getD k 0=0;rw[List.getD_eq_getElem?_getD,List.getElem?_replicate];split<;>rfl
  rw[this];decide
 A54:=by simp[pl0]
 may:=by simp[pl0]
 srt:=by simp[pl0]
 ids:=by simp[pl0]
 own:=fun o=>by simp[pl0,gP]
 tk:=⟨_,TK.nil⟩
 dep:=by simp[pl0]
 gs:=by simp[pl0]
 gk:=by simp[pl0]
theorem yX :Sys eff OK EV.q PI where
 inv:=fun e s hi h=>hi.eff h
 dia:=fun e f s hi I h u=>by
  have j:f.o≠e.o:=fun C=>I (by unfold EV.q;rw[C]);exact⟨h.kept hi u j,QS hi h u j⟩
def lf (f:List Int→Int)(N:List ND):List Int→Int
 | []=>0
 | id::p=>if f (aN N id)≠0 then f (aN N id)else lf f N p
def eU (e:EV)(s:PL):Int :=
 if e.k=1 then (if 5≤gP s.N e.o∨M47<e.a then 6 else (iX (tr s.N) (idE e) e.n).2)
 else if e.k=2 then (if bU s.N e.n=false then 9 else if M47<nA (aN s.N e.n) e.q+e.a then 6 else 0)
 else if e.k=3 then (if jB s.R e.q e.r=true then 14 else if bU s.N e.n=false then 9 else lf (fun A=>(iO A e.o e.a).2) s.N (di s.N e.n))
 else if e.k=4 then (if jB s.R e.q e.r=true then 14 else match iQ s.G e.o e.f with|none=>12|some g=>if g.b≠0 then 12 else lf (fun A=>(iH A e.o g.a).2) s.N (di s.N g.n))
 else if e.k=5 then (if bU s.N e.n=false then 9 else if s.I.getD (e.t-1).toNat false=false then 10 else (kQ (aN s.N e.n) e.o e.t e.a).2)
 else 0
def np (e:EV)(s:PL):Int :=
 if dK e=false then 1 else if nH s.V e=true then 14 else if ey s.V e=false then 13 else if s.I.getD e.q false=false∨s.L.getD e.q false=true then 10 else eU e s
def jL (e:EV)(s:PL):PL:=if np e s=0 then eff e s else s
theorem zB {f:List Int→Int}{N:List ND}:∀{p:List Int},lf f N p=0↔∀id∈p,f (aN N id)=0
 | []=>by simp[lf]
 | id::p=>by
  unfold lf;by_cases h:f (aN N id)=0
  ·rw[if_neg (by simpa using h),zB];simp[h]
  ·rw[if_pos h];simp[h]
section
variable {A:List Int}{o a t:Int}
theorem MD (h:jj A=true)(j:1≤a)(u:a≤MXA)(C:1≤o)(I:o≤6):qf A o a=0:=by
 unfold qf bK;rw[if_neg (by rintro(e|e|e);(rw[h]at e;cases e);omega;omega),if_neg (by simp;omega)]
theorem MO (h:jj A=true)(j:1≤a)(u:a≤MXA)(C:1≤o)(I:o≤6):(iO A o a).2=0↔a≤gS A (o-1).toNat∧nA A (6+(o-1).toNat)+a≤MXA:=by
 unfold iO rY;rw[MD h j u C I,if_neg (by simp)];generalize (o-1).toNat=q;split
 ·simp;omega
 ·split<;>simp<;>omega
theorem MN (h:(iO A o a).2=0):(iO A o a).1=A.set (6+(o-1).toNat) (nA A (6+(o-1).toNat)+a):=by
 unfold iO rY at *;split at h
 ·rename_i j;exact absurd h j
 ·rename_i j;rw[if_neg j];split at h
  ·cases h
  ·rename_i u;rw[if_neg u];split at h
   ·cases h
   ·rename_i C;rw[if_neg C]
theorem Bw (h:jj A=true)(j:1≤a)(u:a≤MXA)(C:1≤o)(I:o≤6):(iH A o a).2=0↔nA A (12+(o-1).toNat)+a≤nA A (6+(o-1).toNat):=by
 unfold iH;rw[MD h j u C I,if_neg (by simp)];generalize (o-1).toNat=q;split
 ·simp;omega
 ·simp;omega
theorem LH (h:(iH A o a).2=0):(iH A o a).1=A.set (12+(o-1).toNat) (nA A (12+(o-1).toNat)+a):=by
 unfold iH at *;split at h
 ·rename_i j;exact absurd h j
 ·rename_i j;rw[if_neg j];split at h
  ·cases h
  ·rename_i u;rw[if_neg u]
theorem Mg (h:jj A=true)(j:1≤a)(C:a≤MXA)(I:1≤o)(J:o≤6)(O:1≤t)(U:t≤6)(M:t≠o):(kQ A o t a).2=0↔a≤gS A (o-1).toNat∧nA A (18+6*(o-1).toNat+(t-1).toNat)+a≤MXA:=by
 unfold kQ rY bK;rw[MD h j C I J,if_neg (by simp),if_neg (by simp;omega),if_neg (fun e=>M e.symm)];generalize (o-1).toNat=q;generalize (t-1).toNat=u;split
 ·simp;omega
 ·split<;>simp<;>omega
theorem Mf (h:(kQ A o t a).2=0):(kQ A o t a).1=A.set (18+6*(o-1).toNat+(t-1).toNat) (nA A (18+6*(o-1).toNat+(t-1).toNat)+a):=by
 unfold kQ rY at *;split at h
 ·rename_i j;exact absurd h j
 ·rename_i j;rw[if_neg j];split at h
  ·cases h
  ·rename_i u;rw[if_neg u];split at h
   ·cases h
   ·rename_i C;rw[if_neg C];split at h
    ·cases h
    ·rename_i I;rw[if_neg I];split at h
     ·cases h
     ·rename_i J;rw[if_neg J]
end
section
variable {e:EV}{s:PL}
theorem PI.mayN (hi:PI s){id:Int}(h:bU s.N id=true):jj (aN s.N id)=true:=by
 obtain⟨x,j,rfl⟩:=pR h;rw[te hi.srt j];exact(hi.may x j).1
theorem PI.few (hi:PI s)(o:Int)(M:1≤o)(I:o≤6)(h:gP s.N o<5):s.N.length<32:=by
 rw[JE fun x J=>by
  obtain⟨o,q,a1,j,u,C,a5,_⟩:=hi.ids x J;exact⟨o,q,a1,j,u,C,a5⟩]
 have:=hi.own 1
 have:=hi.own 2
 have:=hi.own 3
 have:=hi.own 4
 have:=hi.own 5
 have:=hi.own 6
 omega
theorem Oz (h:ey s.V e=true):nH s.V e=false:=by
 have:=(nB h).1
 unfold nH EV.q at *;rw[decide_eq_false (by omega),Bool.and_false]
theorem vc (hi:PI s):np e s=0↔OK e s:=by
 constructor
 ·intro h;unfold np at h;split at h
  ·cases h
  rename_i hm;split at h
  ·cases h
  split at h
  ·cases h
  rename_i hr;split at h
  ·cases h
  rename_i O;have hm:dK e=true:=by simpa using hm
  have hr:ey s.V e=true:=by simpa using hr
  have O:s.I.getD e.q false=true∧s.L.getD e.q false=false:=by
   constructor
   ·cases hq:s.I.getD e.q false with
    | true=>rfl
    | false=>exact absurd (.inl hq) O
   ·cases hq:s.L.getD e.q false with
    | false=>rfl
    | true=>exact absurd (.inr hq) O
  have M:=gC hm;refine⟨hm,hr,O.1,O.2,fun k=>?_,fun k=>?_,fun k=>?_,fun k=>?_,fun k=>?_⟩
  ·unfold eU at h;rw[if_pos k]at h;split at h
   ·cases h
   rename_i u;unfold iX at h;rw[if_neg (by have:=FT hm;omega),kh,hi.new hm hr,if_neg (by simp)]at h;split at h
   ·cases h
   rename_i C;split at h
   ·cases h
   rename_i J;refine⟨by omega,by omega,?_,by unfold di;omega⟩;by_cases h0:e.n=0
   ·exact .inl h0
   ·refine .inr ?_;cases hq:bU s.N e.n with
    | true=>rfl
    | false=>exact absurd ⟨h0,by rw[kh];exact hq⟩ C
  ·unfold eU at h;rw[if_neg (by omega),if_pos k]at h;split at h
   ·cases h
   rename_i u;split at h
   ·cases h
   rename_i C;exact⟨by simpa using u,by omega⟩
  ·unfold eU at h;rw[if_neg (by omega),if_neg (by omega),if_pos k]at h;split at h
   ·cases h
   rename_i u;split at h
   ·cases h
   rename_i C;refine⟨by simpa using u,by simpa using C,fun id j=>?_⟩;have J:=zB.1 h id j;rcases qC hm with⟨U,_⟩|⟨U,_⟩|⟨_,b1,b2,b3⟩|⟨U,_⟩|⟨U,_⟩|⟨U,_⟩|U<;>try omega
   exact(MO (hi.mayN (mR j)) b1 b2 M.1 M.2.1).1 J
  ·unfold eU at h;rw[if_neg (by omega),if_neg (by omega),if_neg (by omega),if_pos k]at h;split at h
   ·cases h
   rename_i u;split at h
   ·cases h
   rename_i g hg;split at h
   ·cases h
   rename_i C;refine⟨by simpa using u,g,hg,by simpa using C,fun id j=>?_⟩;have J:=zB.1 h id j;have gk:=hi.gk g (sC hg).1;exact(Bw (hi.mayN (mR j)) gk.2.1 gk.2.2.1 M.1 M.2.1).1 J
  ·unfold eU at h;rw[if_neg (by omega),if_neg (by omega),if_neg (by omega),if_neg (by omega),if_pos k]at h;split at h
   ·cases h
   rename_i u;split at h
   ·cases h
   rename_i C;have u:bU s.N e.n=true:=by simpa using u
   rcases qC hm with⟨U,_⟩|⟨U,_⟩|⟨U,_⟩|⟨U,_⟩|⟨_,b1,b2,b3,b4,b5⟩|⟨U,_⟩|U<;>try omega
   have J:=(Mg (hi.mayN u) b1 b2 M.1 M.2.1 b3 b4 b5).1 h;exact⟨u,by simpa using C,J⟩
 ·intro h;have M:=gC h.may;unfold np;rw[if_neg (by rw[h.may];simp),Oz h.rdy,if_neg (by simp),if_neg (by rw[h.rdy];simp),if_neg (by rintro(e|e);(rw[h.inI]at e;cases e);(rw[h.notL]at e;cases e))];unfold eU;rcases qC h.may with⟨k,_⟩|⟨k,_⟩|⟨k,b1,b2,b3⟩|⟨k,_⟩|⟨k,b1,b2,b3,b4,b5⟩|⟨k,_⟩|k
  ·obtain⟨u,C,J,h4⟩:=h.k1 k;rw[if_pos k,if_neg (by omega)];unfold iX;rw[if_neg (by have:=FT h.may;omega),kh,hi.new h.may h.rdy,if_neg (by simp),if_neg,if_neg]
   ·have:=hi.few e.o M.1 M.2.1 u
    unfold di at h4;unfold tr at *;simp only[List.length_map]at *;omega
   ·rintro⟨e1,e2⟩;rw[kh]at e2;rcases J with J|J
    ·exact e1 J
    ·rw[J]at e2;cases e2
  ·obtain⟨u,C⟩:=h.k2 k;rw[if_neg (by omega),if_pos k,u,if_neg (by simp),if_neg (by omega)]
  ·obtain⟨u,C,J⟩:=h.k3 k;rw[if_neg (by omega),if_neg (by omega),if_pos k,u,C,if_neg (by simp),if_neg (by simp)];exact zB.2 fun id j=>(MO (hi.mayN (mR j)) b1 b2 M.1 M.2.1).2 (J id j)
  ·obtain⟨u,g,C,J,h4⟩:=h.k4 k;rw[if_neg (by omega),if_neg (by omega),if_neg (by omega),if_pos k,u,C,if_neg (by simp)];simp only;rw[if_neg (by omega)];have gk:=hi.gk g (sC C).1;exact zB.2 fun id j=>(Bw (hi.mayN (mR j)) gk.2.1 gk.2.2.1 M.1 M.2.1).2 (h4 id j)
  ·obtain⟨u,C,J⟩:=h.k5 k;rw[if_neg (by omega),if_neg (by omega),if_neg (by omega),if_neg (by omega),if_pos k,u,C,if_neg (by simp),if_neg (by simp)];exact(Mg (hi.mayN u) b1 b2 M.1 M.2.1 b3 b4 b5).2 J
  ·rw[if_neg (by omega),if_neg (by omega),if_neg (by omega),if_neg (by omega),if_neg (by omega)]
  ·rw[if_neg (by omega),if_neg (by omega),if_neg (by omega),if_neg (by omega),if_neg (by omega)]
end
def Jt (e:EV)(k:Nat):Int:=e.V.getD k 0
def kV (l:PL):Nat→Int:=fun k=>l.V.getD k 0
abbrev HistL (n:Nat)(E:List EV):Prop:=Hist eff OK EV.q EV.s Jt (pl0 n) E
abbrev stL (n:Nat)(E:List EV)(D:Nat→Int):PL:=stD eff EV.q EV.s (pl0 n) E D
abbrev ClL (E:List EV)(D:Nat→Int):Prop:=Closed EV.q EV.s Jt E D
structure LK (n:Nat) (E:List EV) (l:PL):Prop where
 st:l=stL n E (kV l)
 cl:ClL E (kV l)
section
variable {n:Nat}{E:List EV}{l:PL}{e:EV}
theorem PS (h:dK e=true):e.V.getD e.q 0=e.s-1∧∀k,e.V.getD k 0<M40:=by
 unfold dK at h;simp only[Bool.and_eq_true,decide_eq_true_eq,List.all_eq_true,List.mem_range]at h;refine⟨h.2.2.2.1,fun k=>?_⟩;by_cases j:k<6
 ·exact h.2.2.2.2.1 k j
 ·rw[List.getD_eq_getElem?_getD,List.getElem?_eq_none (by simp[EV.V];omega)];decide
theorem HistL.may (h:HistL n E):∀e∈E,dK e=true:=by
 induction h with
 | nil=>simp
 | @snoc l e hl hs hd hc hok ih =>
  intro f j;rcases List.mem_append.1 j with j|j
  ·exact ih f j
  ·rw[List.mem_singleton.1 j];exact hok.may
theorem LK.pi (j:HistL n E)(h:LK n E l):PI l:=by
 rw[h.st];exact j.inv yX (rh n) h.cl
theorem IF (hi:PI l)(h:OK e l):kV (eff e l)=upD (kV l) e.q e.s:=by
 have a:=after hi h;funext k;unfold kV upD;by_cases j:k=e.q
 ·subst j;rw[if_pos rfl,a.Ve,(nB h.rdy).1]
 ·rw[if_neg j,a.V _ j]
theorem LK.next (j:HistL n E)(h:LK n E l)(M:e∈E)(U:ey l.V e=true):OK e l∧LK n E (eff e l):=by
 obtain⟨r1,r2⟩:=nB U;have hm:=j.may e M;have hv:∀k,Jt e k≤kV l k:=fun k=>by
  by_cases u:k<6
  ·exact r2 k u
  ·unfold Jt kV;rw[List.getD_eq_getElem?_getD,List.getElem?_eq_none (by simp[EV.V];omega),List.getD_eq_getElem?_getD,List.getElem?_eq_none (by rw[(h.pi j).v6];omega)];exact Int.le_refl _
 obtain⟨C,J,O⟩:=j.next yX (rh n) h.cl M (by unfold kV;omega) hv
 have I:stD eff EV.q EV.s (pl0 n) E (kV l)=l:=h.st.symm;rw[I]at C J;have u:=IF (h.pi j) C;refine⟨C,⟨?_,by rw[u];exact O⟩⟩;rw[u];exact J
theorem LK.ok (j:HistL n E)(h:LK n E l)(u:e∈E):np e l=0↔ey l.V e=true:=by
 rw[vc (h.pi j)];exact⟨fun h=>h.rdy,fun C=>(h.next j u C).1⟩
theorem EP (n:Nat):kV (pl0 n)=fun _=>0:=by
 funext k;show (List.replicate 6 (0:Int)).getD k 0=0;rw[List.getD_eq_getElem?_getD,List.getElem?_replicate];split<;>rfl
theorem LK.zero (C:HistL n E):LK n E (pl0 n):=by
 have u:∀e∈E,¬e.s≤0:=fun e j h=>by have:=(gC (C.may e j)).2.2.1;omega
 refine⟨?_,?_⟩
 ·rw[EP];unfold stL stD
  have:E.filter (kn EV.q EV.s fun _=>0)=[]:=by
   rw[List.filter_eq_nil_iff];intro e j h;exact u e j (oy.1 h)
  rw[this];rfl
 ·rw[EP];intro e j h;exact absurd h (u e j)
theorem HistL.more (I:HistL n E)(h:LK n E l)(u:OK e l)(J:∀k,k<6→e.V.getD k 0=l.V.getD k 0)(j:∀f∈E,f.q=e.q→f.s≤l.V.getD e.q 0):HistL n (E++[e]):=by
 have C:Jt e=kV l:=by
  funext k;by_cases O:k<6
  ·exact J k O
  ·unfold Jt kV;rw[List.getD_eq_getElem?_getD,List.getElem?_eq_none (by simp[EV.V];omega),List.getD_eq_getElem?_getD,List.getElem?_eq_none (by rw[(h.pi I).v6];omega)]
 have hs:=(nB u.rdy).1;refine Hist.snoc I (fun f M U=>?_) ?_ ?_ ?_
 ·have:=j f M U;omega
 ·exact(PS u.may).1
 ·rw[C];exact h.cl
 ·rw[C]
  have:=h.st
  unfold stL stD at this;rw[←this];exact u
theorem LK.grow (I:HistL n (E++[e]))(h:LK n E l)(J:l.V.getD e.q 0<e.s):LK n (E++[e]) l:=by
 have u : ¬kn EV.q EV.s (kV l) e=true:=fun u=>by have:=oy.1 u;unfold kV at this;omega
 refine⟨?_,fun f j C k=>?_⟩
 ·unfold stL stD;rw[xk,if_neg u];exact h.st
 ·rcases List.mem_append.1 j with j|j
  ·exact h.cl f j C k
  ·rw[List.mem_singleton.1 j]at C;exact absurd (oy.2 C) u
end
/-! ## A world -/
structure WP (n:Nat) (Ls:List PL) (E:List EV):Prop where
 hist:HistL n E
 lk:∀l∈Ls,LK n E l
 own:∀i l,Ls[i]? = some l→∀e∈E,e.q=i→e.s≤l.V.getD i 0
 low:∀i l,Ls[i]? = some l→∀m∈Ls,m.V.getD i 0≤l.V.getD i 0
 few:∀e∈E,e.q<Ls.length
abbrev HM :=List ((Int×Int)×EV)
def mW (e:EV):Int×Int:=(e.o,e.s)
section
variable {κ ν:Type}[DecidableEq κ]{m:List (κ×ν)}{x y:κ}{v:ν}
def sM (m:List (κ×ν))(x:κ):List (κ×ν):=m.filter fun p=>decide (p.1≠x)
theorem FY {p:κ×ν}:p∈sM m x↔p∈m∧p.1≠x:=by unfold sM;rw[List.mem_filter];simp
theorem Kq (h:x∉m.map (·.1)):sM m x=m:=by
 unfold sM;rw[List.filter_eq_self];intro p j;exact decide_eq_true fun e=>h (List.mem_map.2 ⟨p,j,e⟩)
theorem IR (h:(m.map (·.1)).Nodup):((sM m x).map (·.1)).Nodup:=List.Nodup.sublist (List.Sublist.map _ List.filter_sublist) h
theorem DG (u:(m.map (·.1)).Nodup)(h:m[j]? = some (x,v)):m.eraseIdx j=sM m x:=by
 induction m generalizing j with
 | nil=>simp at h
 | cons p m ih =>
  rw[List.map_cons,List.nodup_cons]at u;cases j with
  | zero =>
   simp only[List.getElem?_cons_zero,Option.some.injEq]at h;subst h;rw[List.eraseIdx_cons_zero]
   have:=Kq (m:=m) (x:=x) u.1
   unfold sM at this ⊢;rw[List.filter_cons_of_neg (by simp),this]
  | succ j =>
   rw[List.getElem?_cons_succ]at h;have C:p.1≠x:=fun e=>u.1 (List.mem_map.2 ⟨_,List.mem_of_getElem? h,e.symm⟩);rw[List.eraseIdx_cons_succ,ih u.2 h];unfold sM;rw[List.filter_cons_of_pos (by simpa using C)]
theorem RL (I:(m.map (·.1)).Nodup)(h:dP m x=some v):(sM m x).length+1=m.length:=by
 obtain⟨j,u⟩:=List.getElem?_of_mem (uR h);rw[←DG I u];obtain⟨C,_⟩:=List.getElem?_eq_some_iff.1 u;rw[List.length_eraseIdx_of_lt C];omega
end
def eH (V:List Int)(W:HM):Nat→Option EV
 | 0=>none
 | k+1=>match dP W (((5-k:Nat):Int)+1,V.getD (5-k) 0+1)with
  | some e=>if ey V e=true then some e else eH V W k
  | none=>eH V W k
structure HW (E:List EV) (V:List Int) (W:HM):Prop where
 key:∀p∈W,p.1=mW p.2
 mem:∀p∈W,p.2∈E
 nd:(W.map (·.1)).Nodup
 new:∀p∈W,V.getD p.2.q 0<p.2.s
structure RHL (n:Nat) (E:List EV) (l:PL) (W:HM) (c:Nat):Prop where
 hist:HistL n E
 lk:LK n E l
 hw:HW E l.V W
 cnt:∃Kn:List EV,Kn.Nodup∧(∀f,f∈Kn↔f∈E∧f.s≤l.V.getD f.q 0)∧Kn.length=c
section
variable {n:Nat}{E:List EV}{l:PL}{W:HM}{c:Nat}{e:EV}
theorem DK :∀{k:Nat},k≤6→eH l.V W k=some e→ey l.V e=true∧∃i:Nat,i<6∧dP W ((i:Int)+1,l.V.getD i 0+1)=some e
 | 0,_,h=>by cases h
 | k+1,hk,h=>by
  unfold eH at h;cases j:dP W (((5-k:Nat):Int)+1,l.V.getD (5-k) 0+1)with
  | none=>rw[j]at h;exact DK (by omega) h
  | some f =>
   rw[j]at h;simp only at h;split at h
   ·rename_i u;cases h;exact⟨u,5-k,by omega,j⟩
   ·exact DK (by omega) h
theorem DJ {V:List Int}:∀{k:Nat},k≤6→eH V W k=none→∀i:Nat,6-k≤i→i<6→∀f,dP W ((i:Int)+1,V.getD i 0+1)=some f→ey V f=false
 | 0,_,_,i,h1,h2,_,_=>by omega
 | k+1,hk,h,i,h1,h2,f,hf=>by
  unfold eH at h;by_cases hi:i=5-k
  ·subst hi;rw[hf]at h;simp only at h;split at h
   ·cases h
   ·rename_i u;exact Bool.eq_false_iff.2 u
  ·cases j:dP W (((5-k:Nat):Int)+1,V.getD (5-k) 0+1)with
   | none=>rw[j]at h;exact DJ (by omega) h i (by omega) h2 f hf
   | some f' =>
    rw[j]at h;simp only at h;split at h
    ·cases h
    ·exact DJ (by omega) h i (by omega) h2 f hf
theorem EQ (h:dK e=true):mW e=((e.q:Int)+1,e.s):=by
 have:=gC h
 unfold mW EV.q;rw[show (((e.o-1).toNat:Nat):Int)+1=e.o by omega]
theorem RHL.may (h:RHL n E l W c){p:(Int×Int)×EV}(j:p∈W):dK p.2=true:=h.hist.may _ (h.hw.mem p j)
theorem RHL.pi (h:RHL n E l W c):PI l:=h.lk.pi h.hist
theorem RHL.step (h:RHL n E l W c)(hn:eH l.V W 6=some e):e∈E∧ey l.V e=true∧dP W (mW e)=some e∧np e l=0∧RHL n E (eff e l) (sM W (mW e)) (c+1)∧∀k,l.V.getD k 0≤(eff e l).V.getD k 0:=by
 obtain⟨hr,i,hi,hg⟩:=DK (Nat.le_refl 6) hn;have u:=uR hg;have M:e∈E:=h.hw.mem _ u;have hk:=h.hw.key _ u;have hm:=h.hist.may e M;obtain⟨h1,h2⟩:=nB hr;obtain⟨ho,hl⟩:=h.lk.next h.hist M hr
 have hv:∀k,(eff e l).V.getD k 0=if k=e.q then e.s else l.V.getD k 0:=fun k=>congrFun (IF h.pi ho) k
 have hu:=h.hist.uniq;refine⟨M,hr,by rw[←hk];exact hg,(h.lk.ok h.hist M).2 hr,⟨h.hist,hl,⟨fun p j=>h.hw.key p (FY.1 j).1,fun p j=>h.hw.mem p (FY.1 j).1,IR h.hw.nd,fun p j=>?_⟩,?_⟩,fun k=>?_⟩
 ·obtain⟨j,U⟩:=FY.1 j;have C:=h.hw.new p j;rw[hv];split
  ·rename_i I;have ad:=h.may j;rw[h.hw.key p j]at U
   have:p.2.s≠e.s:=fun J=>U (by rw[EQ ad,EQ hm,I,J])
   rw[I]at C;omega
  ·exact C
 ·obtain⟨Kn,k1,k2,k3⟩:=h.cnt;have aa:e∉Kn:=fun hh=>by have:=((k2 e).1 hh).2;omega
  refine⟨e::Kn,List.nodup_cons.2 ⟨aa,k1⟩,fun f=>?_,by rw[List.length_cons,k3]⟩;rw[List.mem_cons,k2,hv];constructor
  ·rintro(rfl|⟨O,J⟩)
   ·exact⟨M,by rw[if_pos rfl];exact Int.le_refl _⟩
   ·refine⟨O,?_⟩;split
    ·rename_i I;rw[I]at J;omega
    ·exact J
  ·rintro⟨O,J⟩;split at J
   ·rename_i I;by_cases af:f.s=e.s
    ·exact .inl (hu.2 f O e M I af)
    ·exact .inr ⟨O,by rw[I];omega⟩
   ·exact .inr ⟨O,J⟩
 ·rw[hv];split
  ·subst_vars;omega
  ·exact Int.le_refl _
def AD (V:List Int)(W:HM)(e:EV):HM:=if dK e=true∧nH V e=false∧dP W (mW e)=none∧W.length<64 then W++[(mW e,e)]else W
theorem xq (h:dK e=true){V:List Int}:nH V e=true↔e.s≤V.getD e.q 0:=by
 unfold nH EV.q;rw[h,Bool.true_and,decide_eq_true_eq]
end
end
section
open Go.RowKit Go.ChangeMaps
section
variable {κ ν:Type}[DecidableEq κ]{kv:κ→Value}{vv:ν→Value}{w w':World}{b:Nat}{m:List (κ×ν)}{es:Array MapEntry}{clock:Nat}
variable {P:Program}{K:KV}{t k e:TypeId}
theorem xV {α β:Type}{f:α→β}:∀{l:List α} {j:Nat},(l.eraseIdx j).map f=(l.map f).eraseIdx j
 | [],_=>rfl
 | _::_,0=>rfl
 | _::_,_+1=>congrArg (List.cons _) xV
theorem UK {tk ty : TypeId} {cs : Array Bool} (KK : zH P k kv) (ht : P.underlying t = some (.map k e)) (hm : MB kv vv w b m) {x : κ} (h : ∀ w', MB kv vv w' b (sM m x) → Oth b w w' → K (.tuple #[]) w') : blt P .delete #[t, tk] ty cs #[.map (some b), kv x] K w := by
  obtain ⟨es, c, hm⟩ := hm
  rcases hm.find KK x with ⟨h0, h1, h2⟩ | ⟨j, e0, v0, h0, h1, h2, h3, h4, h5⟩
  · refine qv (v := .tuple #[]) (w' := setBlock w b (.map es c)) ?_ (h _ ?_ (yg hm.heap))
    · rw [BigFrame.builtin_delete]
      simp [Builtin.delete_, run_underlying ht, MapKept.run_getObj_map hm.heap, KK.chk, h1, MapKept.run_setObj_map _ hm.heap, Result.andThen, setBlock]
    · rw [Kq (sQ.1 h0)]
      exact ⟨es, c, heap_setBlock_same hm.heap _, hm.keys, hm.vals, hm.nodup, hm.born, hm.old⟩
  · have hj : j < es.size := by
      have := (List.getElem?_eq_some_iff.1 h2).1
      simpa using this
    refine qv (v := .tuple #[]) (w' := setBlock w b (.map (es.eraseIdxIfInBounds j) c)) ?_ (h _ ?_ (yg hm.heap))
    · rw [BigFrame.builtin_delete]
      simp [Builtin.delete_, run_underlying ht, MapKept.run_getObj_map hm.heap, KK.chk, h1, MapKept.run_setObj_map _ hm.heap, Result.andThen, setBlock]
    · have hl : (es.eraseIdxIfInBounds j).toList = es.toList.eraseIdx j := by
        rw [Array.toList_eraseIdxIfInBounds]
      rw [← DG hm.nodup h5]
      refine ⟨_, c, heap_setBlock_same hm.heap _, ?_, ?_, ?_, ?_, ?_⟩
      · rw [hl, xV, xV, hm.keys]
      · rw [hl, xV, xV, hm.vals]
      · rw [DG hm.nodup h5]; exact IR hm.nodup
      · rw [hl]
        exact List.Pairwise.sublist (List.Sublist.map _ (List.eraseIdx_sublist _ _)) hm.born
      · intro e1 he1
        rw [hl] at he1
        exact hm.old e1 ((List.eraseIdx_sublist _ _).mem he1)
end
end
section
section
variable {S F:Type}{eff:F→S→S}{ok:F→S→Prop}{org:F→Nat}{seq:F→Int}{dep:F→Nat→Int}{s0:S}
theorem Hist.pre {l:List F}(h:Hist eff ok org seq dep s0 l):∀A B:List F,l=A++B→Hist eff ok org seq dep s0 A:=by
 induction h with
 | nil =>
  intro A B e
  have:=(List.append_eq_nil_iff.1 e.symm).1
  subst this;exact .nil
 | @snoc l f hl hs hd hc hok ih =>
  intro A B e;rcases List.eq_nil_or_concat B with rfl|⟨B',b,rfl⟩
  ·rw[List.append_nil]at e;subst e;exact .snoc hl hs hd hc hok
  ·rw[List.concat_eq_append, ←List.append_assoc]at e;exact ih A B' (List.append_inj_left' e rfl)
theorem Hist.last {l:List F}(h:Hist eff ok org seq dep s0 l):∀(A:List F) (e:F),l=A++[e]→Closed org seq dep A (dep e)∧ok e (lQ eff s0 (A.filter (kn org seq (dep e)))):=by
 intro A e j;cases h with
 | nil=>simp at j
 | @snoc l f hl hs hd hc hok =>
  have C:=List.append_inj_left' j rfl;have u:=List.append_inj_right' j rfl;simp only[List.cons.injEq,and_true]at u;subst C;subst u;exact⟨hc,hok⟩
end
section
variable {n:Nat}{E:List EV}{l:PL}{W:HM}{c:Nat}{e:EV}
theorem MR {D:Nat→Int}:∀{L:List EV} {s:PL},PI s→okL eff OK s L→(∀k,s.V.getD k 0≤D k)→(∀f∈L,f.s≤D f.q)→∀k,(lQ eff s L).V.getD k 0≤D k
 | [],_,_,_,h,_=>h
 | f::L,s,hi,ho,h,hL=>by
  refine MR (s:=eff f s) (hi.eff ho.1) ho.2 (fun k=>?_) fun g j=>hL g (List.mem_cons_of_mem _ j)
  have:=congrFun (IF hi ho.1) k
  unfold kV upD at this;rw[this];split
  ·subst_vars;exact hL f (by simp)
  ·exact h k
end
/-! ## What is heard at a time -/
inductive DR (l:PL) (W:HM):PL→HM→List EV→Prop
 | nil:DR l W l W []
 | snoc {l':PL} {W':HM} {F:List EV} {e:EV}:DR l W l' W' F→eH l'.V W' 6=some e→DR l W (eff e l') (sM W' (mW e)) (F++[e])
section
variable {n:Nat}{E:List EV}{l l':PL}{W W':HM}{c:Nat}{e:EV}{F:List EV}
theorem DR.ri (h:DR l W l' W' F)(hr:RHL n E l W c):RHL n E l' W' (c+F.length)∧(∀k,l.V.getD k 0≤l'.V.getD k 0)∧W'.length+F.length=W.length∧∀p∈W,p∈W'∨p.2.s≤l'.V.getD p.2.q 0:=by
 induction h with
 | nil=>exact⟨hr,fun _=>Int.le_refl _,rfl,fun p u=>.inl u⟩
 | @snoc l' W' F e hd hn ih =>
  obtain⟨j,i2,i3,i4⟩:=ih;obtain⟨U,I,J,h0,hs,O⟩:=j.step hn;rw[List.length_append,List.length_singleton];have hl:=RL (m:=W') j.hw.nd J;refine⟨by rw[←Nat.add_assoc];exact hs,fun k=>Int.le_trans (i2 k) (O k),by omega,fun p u=>?_⟩;rcases i4 p u with h|h
  ·by_cases M:p.1=mW e
   ·refine .inr ?_;have C:p.2=e:=by
     have:=nN j.hw.nd (show (p.1,p.2)∈W' from h)
     rw[M,J]at this;exact(Option.some.inj this).symm
    rw[C]
    have:=congrFun (IF j.pi ((j.lk.next j.hist U I).1)) e.q
    unfold kV upD at this;rw[this,if_pos rfl];exact Int.le_refl _
   ·exact .inl (FY.2 ⟨h,M⟩)
  ·exact .inr (Int.le_trans h (O _))
end
end
section
def iv (x:Int):Value:=.int .i64 x
open Go.RowKit
section
variable {P:Program}{w w':World}{t:TypeId}{K:KV}
theorem cJ {v:Value}{xs:List Value}(h:w.ownsRow B E s v n xs)(M:∀k,v.ownBlock=some k→w'.heap[k]? = w.heap[k]?):w'.ownsRow B E s v n xs:=by
 refine⟨h.1,?_⟩;rcases h.2 with C|⟨g,cap,j,u,I,J,r⟩
 ·exact .inl C
 ·refine .inr ⟨g,cap,j,u,I,?_,r⟩;rw[M g (by rw[u];rfl)];exact J
theorem DQ {xs:List Value}(u:blk w g E xs)(h:xs.length=n*s)(j:B≤g)(C:n≤maxLen):w.ownsRow B E s (.slice (some ⟨g,0,none⟩) n n) n xs:=by
 refine⟨h,.inr ⟨g,n,xs.toArray,rfl,j,u,Nat.le_refl _,C,by simpa using h,?_⟩⟩;rw[←h];simp
theorem Uy {cs:Array Bool}{base:Nat}{i:TypeInfo}{z:Value}(ht:P.underlying t=some (.slice e))(hi:P.info? e=some i)(hz:i.zero=some z)(M:i.size=s)(U:i.bytes=b)(af:z.cells.size=s)(aa:0<s){xs:List Value}(O:w.ownsRow base e s (.slice av n c) n xs)(hy:blk w g e ys)(ad:ys.length=m*s)(h1:∀u∈ys,u.oneCell'=true)(C:(n+m)*b≤140737488355328)(al:n+m≤9223372036854775807)(J:base≤w.heap.size)(h:∀I c' w',w'.ownsRow base e s (.slice I (n+m) c') (n+m) (xs++ys)→w.grownBy w' (Value.slice av n c).ownBlock→((Value.slice I (n+m) c').ownBlock=(Value.slice av n c).ownBlock∨(Value.slice I (n+m) c').ownBlock=some w.heap.size)→K (.slice I (n+m) c') w'):blt P .append #[t,t] E cs #[.slice av n c,.slice (some ⟨g,0,none⟩) m c2] K w:=by
  have hn:∀j u,ys[j]? = some u→w.cell? ((⟨g,0,none⟩:Addr).add j)=some u:=by
    intro j u hj;rw[show ((⟨g,0,none⟩:Addr).add j)=⟨g,0+j,none⟩from by unfold Addr.add;split<;>simp_all,hy.cell,Nat.zero_add];exact hj
  obtain⟨v',w',hr,h2,h3,_,h5⟩:=run_append_own_at (P:=P) w base t E e i z s b ht hi hz M U af aa _ n xs O ⟨g,0,none⟩ m c2 ys ad hn h1 (by simp only[maxLen];omega) C J;obtain⟨I,c',rfl⟩:∃I c',v'=.slice I (n+m) c':=by
    rcases h2.2 with⟨hv,hn⟩|⟨g,cap,ag,hv,_⟩
    · exact⟨none,0,by rw[hv,hn]⟩
    · exact⟨_,cap,hv⟩
  exact qv (by rw[BigFrame.builtin_append];simp only[Sem.run_bind,hr,Result.andThen_ok,Sem.run_pure]) (h I c' w' h2 h3 h5)
end
end
section
def u6 (x:Int):Value:=.int .u64 x
def uC (x:Int):List Value:=[u6 x]
theorem Gi (l:List Int):l.flatMap uC=l.map u6:=by induction l<;>simp_all [uC]
open Go.RowKit Go.ChangeMaps
theorem bG (j:Below B w0 w)(h:Oth p w w')(C:B≤p):Below B w0 w':=⟨h.os.trans j.os,h.tape.trans j.tape,h.output.trans j.output,by rw[h.size];exact j.size,fun k u=>by rw[h.other k (by omega)];exact j.block k u⟩
theorem FP {α:Type}{enc:α→List Value}{s:Nat}(u:∀x,(enc x).length=s):∀(L:List α) (i:Nat) (x:α) (j:Nat),L[i]? = some x→j<s→(L.flatMap enc)[i*s+j]? = (enc x)[j]?
 | [],i,x,j,h,_=>by simp at h
 | y::L,0,x,j,h,hj=>by
  simp at h;subst h;rw[List.flatMap_cons,Nat.zero_mul,Nat.zero_add,List.getElem?_append_left (by rw[u];exact hj)]
 | y::L,i+1,x,j,h,hj=>by
  rw[List.flatMap_cons,List.getElem?_append_right (by rw[u,Nat.succ_mul];omega),u,show (i+1)*s+j-s=i*s+j by rw[Nat.succ_mul];omega];exact FP u L i x j (by simpa using h) hj
section
variable {P:Program}{w w':World}{K:KV}{t:TypeId}{g B n c s:Nat}{e:TypeId}{v:Value}{xs:List Value}{α:Type}{enc:α→List Value}{L:List α}
theorem Uz {cs:Array Bool}{base:Nat}{i:TypeInfo}{z:Value}(ht:P.underlying t=some (.slice e))(hi:P.info? e=some i)(hz:i.zero=some z)(M:i.size=s)(U:i.bytes=b)(af:z.cells.size=s)(aa:0<s){xs:List Value}(O:w.ownsRow base e s (.slice av n c) n xs)(hy:blk w g e ys)(ad:ys.length=m*s)(h1:∀u∈ys,u.oneCell'=true)(C:(n+m)*b≤140737488355328)(al:n+m≤9223372036854775807)(J:base≤w.heap.size)(h:∀I c' w',w'.ownsRow base e s (.slice I (n+m) c') (n+m) (xs++ys)→w.grownBy w' (Value.slice av n c).ownBlock→((Value.slice I (n+m) c').ownBlock=(Value.slice av n c).ownBlock∨(Value.slice I (n+m) c').ownBlock=some w.heap.size)→K (.slice I (n+m) c') w'):blt P .append #[t,t] E cs #[.slice av n c,.slice (some ⟨g,0,none⟩) m c2] K w:=by
  have hn:∀j u,ys[j]? = some u→w.cell? ((⟨g,0,none⟩:Addr).add j)=some u:=by
    intro j u hj;rw[Bq,hy.cell,Nat.zero_add];exact hj
  obtain⟨v',w',hr,h2,h3,_,h5⟩:=run_append_own_at (P:=P) w base t E e i z s b ht hi hz M U af aa _ n xs O ⟨g,0,none⟩ m c2 ys ad hn h1 (by simp only[maxLen];omega) C J;obtain⟨I,c',rfl⟩:∃I c',v'=.slice I (n+m) c':=by
    rcases h2.2 with⟨hv,hn⟩|⟨g,cap,ag,hv,_⟩
    · exact⟨none,0,by rw[hv,hn]⟩
    · exact⟨_,cap,hv⟩
  exact qv (by rw[BigFrame.builtin_append];simp only[Sem.run_bind,hr,Result.andThen_ok,Sem.run_pure]) (h I c' w' h2 h3 h5)
structure Opn (w:World) (B:Nat) (e:TypeId) (s n c g:Nat) (cur:List Value) (xs:List Value):Prop where
 blk:blk w g e cur
 lo:B≤g
 nc:n≤c
 cm:c≤maxLen
 len:cur.length=c*s
 take:cur.take (n*s)=xs
 xl:xs.length=n*s
theorem cq (I:w.ownsRow B e s (.slice a n c) n xs)(h0:0<n):∃g h,a=some ⟨g,0,none⟩∧Opn w B e s n c g h xs:=by
 rcases I.2 with⟨_,hz⟩|⟨g,cap,h,J,M,O,U,u,j,C⟩
 ·omega
 simp only[Value.slice.injEq]at J;obtain⟨rfl,_,rfl⟩:=J;exact⟨g,h.toList,rfl,O,M,U,u,by simpa using j,C,I.1⟩
theorem Opn.own (h:Opn w B e s n c g cs xs):w.ownsRow B e s (.slice (some ⟨g,0,none⟩) n c) n xs :=
 ⟨h.xl,.inr ⟨g,c,cs.toArray,rfl,h.lo,h.blk,h.nc,h.cm,by simpa using h.len,by simpa using h.take⟩⟩
theorem Dd (h:∀x,(enc x).length=s):∀L:List α,(L.flatMap enc).length=L.length*s
 | []=>by simp
 | x::L=>by rw[List.flatMap_cons,List.length_append,h,Dd h L,List.length_cons,Nat.succ_mul];omega
theorem Opn.elem {x:α}(C:∀x,(enc x).length=s)(h:Opn w B e s n c g cs (L.flatMap enc))(M:L.length=n)(I:L[i]? = some x):(cs.drop (i*s)).take s=enc x:=by
 have hi:i<n:=by rw[←M];exact(List.getElem?_eq_some_iff.1 I).1
 have J:(i+1)*s≤n*s:=Nat.mul_le_mul_right _ hi;rw[Nat.succ_mul]at J;have e:(cs.drop (i*s)).take s=((cs.take (n*s)).drop (i*s)).take s:=by
  rw[List.drop_take,List.take_take];congr 1;omega
 rw[e,h.take];apply List.ext_getElem?;intro j;by_cases u:j<s
 ·rw[List.getElem?_take_of_lt u,List.getElem?_drop,FP C L i x j I u]
 ·rw[List.getElem?_eq_none (by simp;omega),List.getElem?_eq_none (by rw[C];omega)]
theorem CF (h:w.ownsRow B e s v n xs)(C:v.ownBlock=some k):(∃j,blk w k e j)∧B≤k∧k<w.heap.size:=by
 rcases h.2 with⟨rfl,_⟩|⟨g,cap,j,rfl,I,u,_⟩
 ·cases C
 ·cases C;exact⟨⟨j.toList,u⟩,I,blk.lt (w:=w) (E:=e) (cs:=j.toList) u⟩
theorem uc (h:blk w k E cs)(j:blk w k t ys):E=t:=by
 unfold blk at h j;rw[h]at j;simp only[Option.some.injEq,Obj.cells.injEq]at j;exact j.2.1
theorem Opn.cell {x:α}(I:∀x,(enc x).length=s)(h:Opn w B e s n c g cs (L.flatMap enc))(C:L.length=n)(J:L[i]? = some x)(u:j<s):cs[i*s+j]? = (enc x)[j]? := by
 rw[←h.elem I C J,List.getElem?_take_of_lt u,List.getElem?_drop]
theorem Ge {K2:Value→KV}{x:α}{k:IntKind}{d:TypeDesc}(ht:P.underlying t=some (.slice e))(j:∀w,(sizeOf e).run P w=.ok s w)(hu:P.underlying e=some d)(U:d.isRow=true)(hi:(P.info? e).map (·.size)=some s)(J:∀x,(enc x).length=s)(hr:w.ownsRow B e s (.slice a n c) n (L.flatMap enc))(C:L.length=n)(M:L[i]? = some x)(h:∀u,K2 u (.agg (enc x).toArray) w):aV P t (.slice a n c) (.int k (i:Nat)) (fun u w=>ld P e u (K2 u) w) w:=by
 have aa:i<n:=by rw[←C];exact(List.getElem?_eq_some_iff.1 M).1
 obtain⟨g,O,rfl,I⟩:=cq hr (by omega);refine dJ (s:=s) ht j (by omega) (by omega) ?_;rw[Int.toNat_natCast,Nat.zero_add];refine ldA (n:=s) (vs:=enc x) hu U hi I.blk (I.elem J C M) (J x) (h _)
theorem eZ {v:Value}{xs:List Value}(h:w.ownsRow B E s v n xs)(u:Go.Proofs.YtkbhfjljieopoaaGreatDoor.blk w p t cs)(O:t≠E)(U:Oth p w w'):w'.ownsRow B E s v n xs :=
 cJ h fun k j=>U.other k (by
  rintro rfl;rcases h.2 with⟨C,_⟩|⟨g,cap,J,C,_,I,_⟩
  ·rw[C]at j;cases j
  ·have M:g=k:=by rw[C]at j;simpa[Value.ownBlock]using j
   rw[M]at I;unfold Go.Proofs.YtkbhfjljieopoaaGreatDoor.blk at u;rw[I]at u;simp only[Option.some.injEq,Obj.cells.injEq]at u;exact O u.2.1.symm)
theorem sR {v:Value}{xs:List Value}(h:w.ownsRow B E s v n xs)(h2:w.ownsRow b t c Y5 o cs)(hE:E≠t)(hg:w.grownBy w' Y5.ownBlock):w'.ownsRow B E s v n xs:=by
 refine cJ h fun k C=>hg.block k (World.ownsRow.lt h k C).2 (fun I=>?_);rcases h.2 with⟨J,_⟩|⟨g,cap,aa,J,_,U,_⟩
 ·rw[J]at C;cases C
 ·rcases h2.2 with⟨u,_⟩|⟨g2,M,O,u,_,j,_⟩
  ·rw[u]at I;cases I
  ·have e1:g=k:=by rw[J]at C;simpa[Value.ownBlock]using C
   have e2:g2=k:=by rw[u]at I;simpa[Value.ownBlock]using I.symm
   rw[e1]at U;rw[e2,U]at j;simp only[Option.some.injEq,Obj.cells.injEq]at j;exact hE j.2.1
theorem fL {v:Value}{xs:List Value}(u:Go.Proofs.YtkbhfjljieopoaaGreatDoor.blk w p t cs)(h:w.ownsRow B E s v n xs)(O:t≠E)(U:w.grownBy w' v.ownBlock):Go.Proofs.YtkbhfjljieopoaaGreatDoor.blk w' p t cs:=by
 unfold Go.Proofs.YtkbhfjljieopoaaGreatDoor.blk at u ⊢;rw[U.block p (Go.Proofs.YtkbhfjljieopoaaGreatDoor.blk.lt u) (fun j=>?_)]
 ·exact u
 ·rcases h.2 with⟨I,_⟩|⟨g,cap,J,I,_,C,_⟩
  ·rw[I]at j;cases j
  ·have M:g=p:=by rw[I]at j;simpa[Value.ownBlock]using j.symm
   rw[M,u]at C;simp only[Option.some.injEq,Obj.cells.injEq]at C;exact O C.2.1
theorem tf {cs:Array Bool}{base:Nat}{i:TypeInfo}{z:Value}{L:List α}{x:α}(ht:P.underlying t=some (.slice e))(hi:P.info? e=some i)(hz:i.zero=some z)(J:i.size=s)(aa:i.bytes=b)(af:z.cells.size=s)(ad:0<s)(hs:∀x,(enc x).length=s)(I:w.ownsRow base e s (.slice av n c) n (L.flatMap enc))(hy:Go.Proofs.YtkbhfjljieopoaaGreatDoor.blk w g e (enc x))(h1:∀u∈enc x,u.oneCell'=true)(C:(n+1)*b≤140737488355328)(U:n+1≤9223372036854775807)(j:base≤w.heap.size)(h:∀M O w',w'.ownsRow base e s (.slice M (n+1) O) (n+1) ((L++[x]).flatMap enc)→w.grownBy w' (Value.slice av n c).ownBlock→Below base w w'→((Value.slice M (n+1) O).ownBlock=(Value.slice av n c).ownBlock∨(Value.slice M (n+1) O).ownBlock=some w.heap.size)→K (.slice M (n+1) O) w'):blt P .append #[t,t] E cs #[.slice av n c,.slice (some ⟨g,0,none⟩) 1 c2] K w:=by
 refine Uz (m:=1) (ys:=enc x) ht hi hz J aa af ad I hy (by rw[hs];omega) h1 C U j fun M O w' h2 h3 h4=>?_;refine h M O w' ?_ h3 (dW h3 j (fun k hk=>(World.ownsRow.lt I k hk).1)) h4;rw[List.flatMap_append];simpa using h2
theorem MA {T:TypeId}{N t:Nat}{v:Value}{d:TypeDesc}(hu:P.underlying T=some d)(J:d.isRow=true)(hi:(P.info? T).map (·.size)=some N)(U:Go.Proofs.YtkbhfjljieopoaaGreatDoor.blk w t T ys)(h0:ys.length=N)(C:cs.length=N)(I:∀v∈cs,v.oneCell'=true)(h:∀w',Oth t w w'→K (.tuple #[.agg cs.toArray,v]) w'):sto P T (.pointer (some ⟨t,0,none⟩)) (.agg cs.toArray) (fun _t w=>bp P [(some T,.pointer (some ⟨t,0,none⟩)),(none,v)] K w) w:=by
 refine jP (n:=N) (vs:=cs) hi C U (by omega) I fun w1 u o1=>?_;have u:Go.Proofs.YtkbhfjljieopoaaGreatDoor.blk w1 t T cs:=by
  rw[List.take_zero,List.nil_append,List.drop_of_length_le (by omega),List.append_nil]at u;exact u
 have O:=run_loadVar_mid (P:=P) w1 t 0 T cs _ (fun j v M=>by rw[u.cell,Nat.zero_add];exact M) hu J (by rw[C];exact hi);have e:(oB [(some T,.pointer (some ⟨t,0,none⟩)),(none,v)]).run P w1=.ok (.tuple #[.agg cs.toArray,v]) w1:=by
  simp[oB,asAddr,Sem.run_bind,O]
 unfold bp;rw[e];exact⟨rfl,h w1 o1⟩
end
end
section
open Go.RowKit
def ndO (o:Oper):Bool:=match o.op with | .defer _=>false|_=>true
def uT :Code→Bool
 | .region _ ops _=>ops.toList.all ndO
 | .seq a b=>match uT a with|true=>uT b|false=>false
 | .cond _ a b=>match uT a with|true=>uT b|false=>false
 | .block _ c=>uT c
 | .loop c=>uT c
 | _=>true
section
variable {P:Program}{Q:Exit→Act→World→Prop}{l n:Nat}{ops:Array Oper}{ds:List Deferred}
theorem Vm {o:Oper}(h:ndO o=true):∀c,o.op≠.defer c:=by
 intro c j;unfold ndO at h;rw[j]at h;cases h
theorem SH {o:Oper}{a:Act}{K:Act→World→Prop}(I:ndO o=true)(h:o.wp P a w K Q):o.wpIn (Fence.wide.inRound l) n P a w K Q:=by
 unfold Oper.wp at h;unfold Oper.wpIn;refine⟨fun _ _=>trivial,?_⟩;rw[Oper.semAt_eq _ _ _ (Vm I)];generalize (execOp a.eval o).run P w=r at *;cases r with
 | ok x w' =>
  cases x<;>simp only[Oper.upon]at h<;>simp only[Oper.uponIn]
  case value=>exact h
  case skip=>exact h
  case enter f args=>exact⟨fun j=>(by cases j),CallsIn.inRound l (callsIn_wide.2 h)⟩
  case defer=>exact h
  case row row args =>
   refine⟨fun j=>(by cases j),?_⟩;intro c cs _;obtain⟨v,J,u,C⟩:=h c cs;exact⟨v,J,u,stepsIn_wide.2 C⟩
 | halt x w' => cases x<;>simp only[Oper.upon]at h<;>simp only[Oper.uponIn]<;>exact h
theorem Vp (J : ¬LetsOut Q)(u:ops.toList.all ndO=true){a:Act}{K:Act→World→Prop}(h:wpOp P ops Q i K a w):wpOpIn (Fence.wide.inRound l) n P ops Q i K a w:=by
 unfold wpOp at h;unfold wpOpIn;split at h
 ·rename_i j;rw[j];exact h
 ·rename_i o j;rw[j];have M:o∈ops.toList:=by have:=Array.mem_of_getElem? j;simpa using this
  have C:=List.all_eq_true.1 u o M;dsimp only;split at h
  ·rename_i I;rw[if_pos I];rcases h with h|h
   ·exact SH C h
   ·exact absurd h.2 J
  ·rename_i I;rw[if_neg I];exact⟨fun _ _=>trivial,h⟩
theorem Ux (C : ¬LetsOut Q)(u:ops.toList.all ndO=true){md:Region.Mode}:∀(fuel:Nat) (j:Array Bool) (a:Act) (w:World),wpAny P md ops Q fuel j a w→wpAnyIn (Fence.wide.inRound l) n P md ops Q fuel j a w:=by
 intro fuel
 induction fuel with
 | zero=>intro j a w h;exact h
 | succ fuel ih =>
  intro j a w h;exact⟨h.1,fun i hi=>wpOpIn_mono (fun a w h=>ih _ _ _ h) (Vp C u (h.2 i hi))⟩
theorem Ty (C : ¬LetsOut Q):∀(L:List Oper) (a:Act) (w:World),L.all ndO=true→wpList P ops Q L a w→wpListIn (Fence.wide.inRound l) n P ops Q L a w:=by
 intro L
 induction L with
 | nil=>intro a w _ h;exact h
 | cons o L ih =>
  intro a w j h;rw[List.all_cons,Bool.and_eq_true]at j;unfold wpList at h;unfold wpListIn;split at h
  ·rename_i u;rw[if_pos u];rcases h with h|h
   ·exact Oper.wpIn_mono (fun a w h=>ih a w j.2 h) (SH j.1 h)
   ·exact absurd h.2 C
  ·rename_i u;rw[if_neg u];exact⟨fun _ _=>trivial,ih _ _ j.2 h⟩
theorem Pd {N:KE}{X:Nat→KE}:¬LetsOut (QQ ds N X B1):=fun⟨_,_,h⟩=>h
theorem OO {id:Nat}{N:KE}{X:Nat→KE}{e:Env}(h:ae P (.region id ops true) N X B1 e w):P.follows .mixedOrders=true∧wpAny P .any ops (QQ ds N X B1) ops.size (Array.replicate ops.size false) ⟨e.toArray,ds⟩ w.drew:=by
 simp only[ae]at h;cases O:(P.follows .mixedOrders&&FS P ops)
 case true =>
  rw[O]at h;obtain⟨S,hS,h⟩:=h;simp only[Bool.and_eq_true]at O;exact⟨O.1,rT _ _ _ _ _ (ID (fun e w hN=>⟨e,rfl,hN⟩) (fun c a w hh=>hh) (IE O.2) _ _ _ _ _ _ hS (GC ops _) h)⟩
 case false =>
 rw[O]at h;dsimp only at h;cases hf:(P.follows .mixedOrders&&Nat.ble (jC ops) ops.size)
 case false=>rw[hf]at h;exact h.elim
 case true =>
  rw[hf]at h;have h:wZ _ _ _ _ _ _:=h;simp only[Bool.and_eq_true]at hf;refine⟨hf.1,?_⟩;obtain⟨h1,h2⟩:=qT (ops.toList.take (jC ops));obtain⟨h3,h4⟩:=qT (ops.toList.drop (jC ops));have J:∀e,fh P ops.toList (grp (ops.toList.drop (jC ops))) N e w.drew→wpList P ops.toList.toArray (QQ ds N X B1) (ops.toList.drop (jC ops)) ⟨e.toArray,ds⟩ w.drew:=by
   intro e he
   have:=yM (P:=P) (ops:=ops.toList) (Q:=QQ ds N X B1) (K:=N) (fun e w h=>⟨e,rfl,h⟩) (grp (ops.toList.drop (jC ops))) e w.drew h4 he
   rwa[h3]at this
  rcases Is ops hf.2 with⟨M,hn⟩|⟨M,hn⟩
  ·have I:=zw (P:=P) (ops:=ops.toList) (Q:=fun a=>QQ ds N X B1 .normal a w.drew) (w:=w.drew) (fun e he=>by
    have:=J e he
    rw[hn,List.drop_of_length_le (by simp)]at this;exact this) _ e h2 h
   rw[h1,hn,List.take_of_length_le (by simp)]at I;simp only[Region.lexB,Bool.and_eq_true]at M;have I:wpStill P ops w.drew (fun a=>QQ ds N X B1 .normal a w.drew) ops.toList ⟨e.toArray,ds⟩:=by simpa using I
   refine wpAny_of_still (Q:=fun a=>QQ ds N X B1 .normal a w.drew) (fun _ h=>h) _ _ _ ?_
   have:=wpAnyS_lex (md:=.any) M.1 ops.toList 0 (Array.replicate ops.size false) ⟨e.toArray,ds⟩ (by simp) (by simpa using M.2) I
   simpa using this
  ·have I:=zw (P:=P) (ops:=ops.toList) (Q:=fun a=>wpList P ops.toList.toArray (QQ ds N X B1) (ops.toList.drop (jC ops)) a w.drew) (w:=w.drew) (fun e he=>J e he) _ e h2 h;rw[h1]at I;simp only[Region.lexTailB,Bool.and_eq_true,decide_eq_true_eq]at M;obtain⟨⟨⟨⟨af,ad⟩,an⟩,hc⟩,aa⟩:=M;generalize hk:jC ops=k at *;have am:k<ops.toList.length:=by simpa using ad
   have u:(ops.toList.take k).length=k:=by simp only[List.length_take];omega
   have U:(ops.toList.drop k).length=ops.size-k:=by simp
   have hw:ops.toList.toArray=ops:=by simp
   rw[hw]at I;have ag:HeadInv .any ops k (Array.replicate ops.size false) :=
    ⟨by simp,fun j oj _ hl=>(by rw[getD_replicate_false]at hl;cases hl),fun t _ ht=>getD_in (by simpa using ht) (getD_replicate_false _ _)⟩
   have H:=wpAnyL_lex (md:=.any) (g:=ops.size-k) af an hc ad (ops.toList.take k) 0 _ ⟨e.toArray,ds⟩ (fun j hj=>by
    have al:j<k:=by rw[u]at hj;exact hj
    simp[al]) (by simpa using u) ag (by rw[u];exact aa) I
   have:=wpAny_of_head (Q':=QQ ds N X B1) (g:=ops.size-k) (fun C a' hL=>by
    have:=wpAny_of_seq (md:=.any) (Q':=QQ ds N X B1) (ops.toList.drop k) k C a' w.drew (fun j=>by simp[List.getElem?_drop]) (by rw[U];exact hL.1) hL.2
    rwa[U]at this) _ _ _ H
   rw[u,show k+(ops.size-k)=ops.size by simp at am;omega]at this;exact this
theorem DZ :∀(c:Code) (N:KE) (X:Nat→KE) (R:KE) (e:Env) (w:World),uT c=true→ae P c N X R e w→c.wpIn (Fence.wide.inRound l) n P (QQ ds N X R) ⟨e.toArray,ds⟩ w:=by
 intro c
 induction c with
 | skip=>intro N X R e w _ h;exact wpIn_skip ⟨e,rfl,h⟩
 | region id ops draw =>
  intro N X R e w j h;cases draw with
  | true =>
   obtain⟨C,J⟩:=OO (ds:=ds) h;exact wpIn_region_any C (Ux Pd j _ _ _ _ J)
  | false =>
   refine wpIn_region_list (Ty Pd _ _ _ j ?_);obtain⟨C,J⟩:=qT ops.toList
   have:=yM (P:=P) (ops:=ops.toList) (Q:=QQ ds N X R) (K:=N) (fun e w h=>⟨e,rfl,h⟩) (grp ops.toList) e w J h
   rw[C]at this;simpa using this
 | seq a b iha ihb =>
  intro N X R e w j h;obtain⟨U,nb⟩:uT a=true∧uT b=true:=by
   unfold uT at j;split at j
   ·rename_i O;exact⟨O,j⟩
   ·cases j
  refine wpIn_seq (wpIn_mono (iha _ _ _ _ _ U h) ?_);intro x a w u;cases x with
  | normal=>obtain⟨e,rfl,h⟩:=u;exact ihb _ _ _ _ _ nb h
  | _=>exact u
 | cond c x y ihx ihy =>
  intro N X R e w j h;obtain⟨U,nb⟩:uT x=true∧uT y=true:=by
   unfold uT at j;split at j
   ·rename_i O;exact⟨O,j⟩
   ·cases j
  obtain⟨b,M,C,J⟩:=h;cases b with
  | true=>exact wpIn_cond (t:=true) (by rw[pY];exact M) (ihx _ _ _ _ _ U (C rfl))
  | false=>exact wpIn_cond (t:=false) (by rw[pY];exact M) (ihy _ _ _ _ _ nb (J rfl))
 | block id c ih =>
  intro N X R e w j h;refine wpIn_block (wpIn_mono (ih _ _ _ _ _ j h) ?_);intro x a w u;cases x with
  | exit i =>
   obtain⟨e,rfl,h⟩:=u;simp only[Exit.inBlock];by_cases hi:i=id
   ·rw[if_pos hi]
    have:Nat.beq i id=true:=by rw[hi];exact Nat.beq_refl id
    rw[this]at h;exact⟨e,rfl,h⟩
   ·rw[if_neg hi]
    have:Nat.beq i id=false:=by
     cases M:Nat.beq i id with
     | false=>rfl
     | true=>exact absurd (Nat.eq_of_beq_eq_true M) hi
    rw[this]at h;exact⟨e,rfl,h⟩
  | _=>exact u
 | loop c ih =>
  intro N X R e w j h;obtain⟨I,μ,h0,hs⟩:=h;refine wpIn_loop (fun a w=>∃e:Env,a=⟨e.toArray,ds⟩∧I e w) (fun a w=>μ a.tmps.toList w) ⟨e,rfl,h0⟩ ?_;rintro _ w' ⟨e',rfl,hI⟩;refine wpIn_mono (ih _ _ _ _ _ j (hs e' w' hI)) ?_;intro x a w u;cases x with
  | normal=>obtain⟨e2,rfl,C,J⟩:=u;exact⟨⟨e2,rfl,C⟩,by simpa using J⟩
  | _=>exact u
 | exit i=>intro N X R e w _ h;exact wpIn_exit ⟨e,rfl,h⟩
 | ret=>intro N X R e w _ h;exact wpIn_ret ⟨e,rfl,h⟩
 | _=>intro N X R e w _ h;exact h.elim
end
abbrev YB :=List Value→KV→World→Prop
section
variable (P:Program)(Y:YB)(l:Nat)
def Im (fv:Value)(args:Array Value)(K:KV)(w:World):Prop:=(fv=.func (.yield l) #[] #[]∧Y args.toList K w)∨bY P fv args K w
def yOp (r:Operand→Value)(o:Oper)(K:KV)(w:World):Prop :=
 match o.op with
 | .call c =>
  match c.callee with
  | .value (.tmp t)=>Im P Y l (r (.tmp t)) (c.args.toList.map r).toArray K w
  | _=>cOp P r o K w
 | _=>cOp P r o K w
def vO (ops:List Oper):List Oper→KE→KE
 | [],K=>K
 | o::r,K=>fun e w =>
  match o.guard with
  | none=>yOp P Y l (ev e) o (fun v w' => vO ops r K (pt e o.dst v) w') w
  | some (j,want)=>xG (ph ops e j) want (fun k w=>yOp P Y l (ev e) o k w) (fun v w' => vO ops r K (pt e o.dst v) w') w
def rl :Code→KE→(Nat→KE)→KE→KE
 | .skip,N,_,_=>N
 | .region _ ops false,N,_,_=>vO P Y l ops.toList ops.toList N
 | .region i ops true,N,X,R=>ae P (.region i ops true) N X R
 | .seq a b,N,X,R=>rl a (rl b N X R) X R
 | .cond c x y,N,X,R=>fun e w=>cond (ev e c) (rl x N X R e w) (rl y N X R e w)
 | .block id c,N,X,R=>rl c N (fun i=>@Bool.rec (fun _=>KE) (X i) N (Nat.beq i id)) R
 | .loop c,_,X,R=>SA fun N' => rl c N' X R
 | .exit i,_,X,_=>X i
 | .ret,_,_,R=>R
 | _,_,_,_=>fun _ _=>False
end
structure YOK (P:Program) (l:Nat) (Y:YB):Prop where
 yld:∀{vs K w},Y vs K w→∃r:Loop,w.heap[l]? = some (.loop r)∧r.state=.ready∧vs.length=r.params.size ∧
  RoundIn Fence.wide 0 P l r.fn ((r.params.zip vs.toArray).foldl (fun t (p,a)=>t.setIfInBounds p a) r.tmps) r.assign r.body w (fun x w' => ∃v,x=.returned v∧K v w')
section sound
variable {P:Program}{Y:YB}{l:Nat}
theorem RW {o:Oper}{a:Act}{K:Act→World→Prop}{Q:Exit→Act→World→Prop}(h:o.wp P a w K Q):o.wpIn Fence.wide n P a w K Q:=by
 unfold Oper.wp at h;unfold Oper.wpIn;refine⟨fun _ _=>trivial,?_⟩;rw[show Fence.wide.round=none from rfl,Oper.semAt_none];generalize (execOp a.eval o).run P w=r at *;cases r with
 | ok x w' =>
  cases x<;>simp only[Oper.upon]at h<;>simp only[Oper.uponIn]
  case value=>exact h
  case skip=>exact h
  case enter f args=>exact⟨fun j=>(by cases j),callsIn_wide.2 h⟩
  case defer=>exact h
  case row row args =>
   refine⟨fun j=>(by cases j),?_⟩;intro c cs _;obtain⟨v,I,u,C⟩:=h c cs;exact⟨v,I,u,stepsIn_wide.2 C⟩
 | halt x w' => cases x<;>simp only[Oper.upon]at h<;>simp only[Oper.uponIn]<;>exact h
theorem KH (hY:YOK P l Y){o:Oper}{e:Env}{j:Act→World→Prop}{Q:Exit→Act→World→Prop}(h:yOp P Y l (ev e) o K w)(hn:∀v w',K v w'→j ⟨(pt e o.dst v).toArray,[]⟩ w'):o.wpIn Fence.wide 1 P ⟨e.toArray,[]⟩ w j Q:=by
 have u:cOp P (ev e) o K w→o.wpIn Fence.wide 1 P ⟨e.toArray,[]⟩ w j Q:=fun h=>RW (xn h hn)
 unfold yOp at h;split at h
 ·rename_i c hc;split at h
  ·rename_i t ht;rcases h with⟨hf,hy⟩|h
   ·obtain⟨r,h1,h2,h3,h4⟩:=hY.yld hy;have aa:Act.eval ⟨e.toArray,[]⟩=ev e:=funext (pY e []);have C:(execOp (Act.eval ⟨e.toArray,[]⟩) o).run P w=.ok (.round l r.fn ((r.params.zip (c.args.toList.map (ev e)).toArray).foldl (fun t (p,a)=>t.setIfInBounds p a) r.tmps) r.assign r.body) w:=by
     obtain⟨dst,op,ty,pos,after,U⟩:=o;simp only at hc;subst hc;obtain⟨am,O,al⟩:=c;simp only at ht;subst ht;rw[aa];simp only[execOp,resolve,Deferred.ofValue,invoke,Sem.run_bind,Sem.run_pure,Result.andThen_ok,hf];have e1 : #[]++Array.map (ev e) O=(O.toList.map (ev e)).toArray:=by apply Array.ext';simp
     rw[e1];obtain⟨st,af,fn,ag,M,I,ad,J⟩:=r;simp only at h2;subst h2;exact run_yield (P:=P) (w:=w) (l:=l) (args:=(O.toList.map (ev e)).toArray) h1 (by simpa using h3)
    unfold Oper.wpIn;refine⟨fun _ _=>trivial,?_⟩;rw[show Fence.wide.round=none from rfl,Oper.semAt_none,C,Oper.uponIn_round];refine⟨fun hh=>(by cases hh),h4.mono ?_⟩;rintro x w2 ⟨v,rfl,hv⟩;show j (Act.put ⟨e.toArray,[]⟩ o.dst v) w2
    rw[tt];exact hn v w2 hv
   ·refine u ?_;unfold cOp;rw[hc];dsimp only;rw[ht];exact h
  ·exact u h
 ·exact u h
theorem GK (M:YOK P l Y){ops:Array Oper}{Q:Exit→Act→World→Prop}:∀(L:List Oper) {K:KE} {e:Env} {w:World},vO P Y l ops.toList L K e w→(∀e w,K e w→Q .normal ⟨e.toArray,[]⟩ w)→wpListIn Fence.wide 1 P ops Q L ⟨e.toArray,[]⟩ w
 | [],K,e,w,h,hK=>hK e w h
 | o::L,K,e,w,h,hK=>by
  refine wpListIn_step fun KK J=>?_;dsimp only;unfold vO at h;have U:∀v w',vO P Y l ops.toList L K (pt e o.dst v) w'→KK ⟨(pt e o.dst v).toArray,[]⟩ w':=fun v w' h=>J _ _ (GK M L h hK);split at h
  ·rename_i O;have I:Region.wanted o (yielded ops e.toArray)=true:=by simp[Region.wanted,O]
   rw[I,if_pos rfl];exact KH M h U
  ·rename_i j u O;have I:=td ops.toList e o j u O;rw[show ops.toList.toArray=ops from rfl]at I;rw[I];by_cases C:asB (ph ops.toList e j)=some u
   ·rw[show (asB (ph ops.toList e j)==some u)=true by simp[C],if_pos rfl];exact KH M (h.1 C) U
   ·rw[show (asB (ph ops.toList e j)==some u)=false by simp[C],if_neg (by simp)];refine⟨fun _ _=>trivial,?_⟩;rw[tt];exact U undef w (h.2 C)
theorem Nn (U:YOK P l Y):∀(c:Code) (N:KE) (X:Nat→KE) (R:KE) (e:Env) (w:World),rl P Y l c N X R e w→c.wp P (QQ [] N X R) ⟨e.toArray,[]⟩ w:=by
 intro c
 induction c with
 | skip=>intro N X R e w h;exact wp_skip ⟨e,rfl,h⟩
 | region id ops draw =>
  intro N X R e w h;cases draw with
  | true=>exact xh _ _ _ _ _ _ h
  | false=>exact(wpIn_wide (n:=1)).1 (wpIn_region_list (GK U ops.toList h fun e w hN=>⟨e,rfl,hN⟩))
 | seq a b iha ihb =>
  intro N X R e w h;refine wp_seq (wp_mono (iha _ _ _ _ _ h) ?_);intro x a w j;cases x with
  | normal=>obtain⟨e,rfl,h⟩:=j;exact ihb _ _ _ _ _ h
  | _=>exact j
 | cond c x y ihx ihy =>
  intro N X R e w h;obtain⟨b,u,C,J⟩:=h;cases b with
  | true=>exact wp_cond (t:=true) (by rw[pY];exact u) (ihx _ _ _ _ _ (C rfl))
  | false=>exact wp_cond (t:=false) (by rw[pY];exact u) (ihy _ _ _ _ _ (J rfl))
 | block id c ih =>
  intro N X R e w h;refine wp_block (wp_mono (ih _ _ _ _ _ h) ?_);intro x a w j;cases x with
  | exit i =>
   obtain⟨e,rfl,h⟩:=j;simp only[Exit.inBlock];by_cases hi:i=id
   ·rw[if_pos hi]
    have:Nat.beq i id=true:=by rw[hi];exact Nat.beq_refl id
    rw[this]at h;exact⟨e,rfl,h⟩
   ·rw[if_neg hi]
    have:Nat.beq i id=false:=by
     cases u:Nat.beq i id with
     | false=>rfl
     | true=>exact absurd (Nat.eq_of_beq_eq_true u) hi
    rw[this]at h;exact⟨e,rfl,h⟩
  | _=>exact j
 | loop c ih =>
  intro N X R e w h;obtain⟨I,μ,O,hs⟩:=h;refine wp_loop (fun a w=>∃e:Env,a=⟨e.toArray,[]⟩∧I e w) (fun a w=>μ a.tmps.toList w) ⟨e,rfl,O⟩ ?_;rintro _ w' ⟨e',rfl,hI⟩;refine wp_mono (ih _ _ _ _ _ (hs e' w' hI)) ?_;intro x a w j;cases x with
  | normal=>obtain⟨M,rfl,C,J⟩:=j;exact⟨⟨M,rfl,C⟩,by simpa using J⟩
  | _=>exact j
 | exit i=>intro N X R e w h;exact wp_exit ⟨e,rfl,h⟩
 | ret=>intro N X R e w h;exact wp_ret ⟨e,rfl,h⟩
 | _=>intro N X R e w h;exact h.elim
def yc (P:Program)(Y:YB)(l:Nat)(f:FuncId)(args:List Value)(w:World)(K:KV):Prop :=
 EO P f∧∃(fn:Func) (c:Code),P.funcs[f]? = some fn∧fn.body=some c ∧
  rl P Y l c (vC P fn.results.toList K) (fun _ _ _=>False) (vC P fn.results.toList K) (args++List.replicate (fn.ntmps-args.length) undef) w
theorem QH {f:FuncId}{j:Func}{args:List Value}(J:EO P f)(I:P.funcs[f]? = some j)(C:j.body.isSome=true)(h:rl P Y l (cd j []) (vC P j.results.toList K) (fun _ _ _=>False) (vC P j.results.toList K) (args++List.replicate (j.ntmps-args.length) undef) w):yc P Y l f args w K:=by
 cases u:j.body with
 | none=>simp[u]at C
 | some c =>
  have:cd j []=c:=by simp[cd,u,sub]
  rw[this]at h;exact⟨J,j,c,I,u,h⟩
theorem MY (M:YOK P l Y){f:FuncId}{args:List Value}(h:yc P Y l f args w K):EO P f∧Calls P f args.toArray w (fun x w' => ∃v,x=.returned v∧K v w'):=by
 obtain⟨hg,I,c,U,O,h⟩:=h;refine⟨hg,calls_of_wp U O ?_⟩;have J:args.toArray++Array.replicate (I.ntmps-args.toArray.size) undef=(args++List.replicate (I.ntmps-args.length) undef).toArray:=by simp
 rw[J];refine wp_mono (Nn M c _ _ _ _ _ h) ?_;intro x a w j;cases x with
 | normal=>obtain⟨e,rfl,h⟩:=j;obtain⟨v,u,C⟩:=tu h;exact⟨rfl,v,u,v,rfl,C⟩
 | ret=>obtain⟨e,rfl,h⟩:=j;obtain⟨v,u,C⟩:=tu h;exact⟨rfl,v,u,v,rfl,C⟩
 | exit i=>obtain⟨_,_,h⟩:=j;exact h.elim
 | _=>exact j.elim
/-! ## What a piece of an iterator's code does not write stays. -/
abbrev xe (Y:YB):Prop:=∀(vs:List Value) (K K':KV) (w:World),(∀v w',K v w'→K' v w')→Y vs K w→Y vs K' w
theorem Oq {args:Array Value}{K':KV}(J:xe Y)(I:∀v w',K v w'→K' v w')(h:Im P Y l Y5 args K w):Im P Y l Y5 args K' w:=by
 rcases h with⟨u,C⟩|⟨f,j,cap,u,C⟩
 ·exact .inl ⟨u,J _ _ _ _ I C⟩
 ·exact .inr ⟨f,j,cap,u,Ex I C⟩
theorem MZ (u:xe Y){r:Operand→Value}{o:Oper}{K':KV}(j:∀v w',K v w'→K' v w')(h:yOp P Y l r o K w):yOp P Y l r o K' w:=by
 unfold yOp at h ⊢;split at h
 ·split at h
  ·exact Oq u j h
  ·exact zI j h
 ·exact zI j h
theorem GJ (C:xe Y){ops:List Oper}:∀(L:List Oper) {K K':KE} {e:Env} {w:World},vO P Y l ops L K e w→(∀j u,agree (fi L) e j→K j u→K' j u)→vO P Y l ops L K' e w
 | [],K,K',e,w,h,hk=>hk e w (agree.refl _ _) h
 | o::L,K,K',e,w,h,hk=>by
  have M:∀v w',vO P Y l ops L K (pt e o.dst v) w'→vO P Y l ops L K' (pt e o.dst v) w':=fun v w' h =>
   GJ C L h fun j u U O=>hk j u (((CQ e o.dst v).trans U).mono fun i hi=>by
    unfold fi at *;rw[List.filterMap_cons];rcases List.mem_append.1 hi with hi|hi
    ·cases I:o.dst with
     | none=>rw[I]at hi;cases hi
     | some d=>rw[I]at hi;simp at hi;subst hi;simp
    ·cases I:o.dst with
     | none=>exact hi
     | some d=>exact List.mem_cons_of_mem _ hi) O
  unfold vO at h ⊢;split at h
  ·exact MZ C M h
  ·exact⟨fun J=>MZ C M (h.1 J),fun J=>M _ _ (h.2 J)⟩
theorem Nm (hY:xe Y):∀(c:Code) {N N':KE} {X X':Nat→KE} {R R':KE} {e:Env} {w:World},rl P Y l c N X R e w→(∀j u,agree (wr c) e j→N j u→N' j u) →
  (∀i j u,agree (wr c) e j→X i j u→X' i j u)→(∀j u,agree (wr c) e j→R j u→R' j u)→rl P Y l c N' X' R' e w:=by
 intro c
 induction c with
 | skip=>intro N N' X X' R R' e w h hN _ _;exact hN e w (agree.refl _ _) h
 | region id ops draw =>
  intro N N' X X' R R' e w h hN M J;cases draw with
  | true=>exact xg _ h hN M J
  | false=>exact GJ hY _ h hN
 | seq a b iha ihb =>
  intro N N' X X' R R' e w h hN M J;exact iha h (fun j u C hb=>ihb hb (fun e3 w3 hc hn=>hN e3 w3 (C.trans hc) hn) (fun i e3 w3 hc hn=>M i e3 w3 (C.trans hc) hn) (fun e3 w3 hc hn=>J e3 w3 (C.trans hc) hn))
   (fun i j u C=>M i j u (C.mono fun i hi=>List.mem_append_left _ hi)) (fun j u C=>J j u (C.mono fun i hi=>List.mem_append_left _ hi))
 | cond c x y ihx ihy =>
  intro N N' X X' R R' e w h hN M J;obtain⟨b,hb,h1,h2⟩:=h;refine⟨b,hb,fun e1=>?_,fun e1=>?_⟩
  ·exact ihx (h1 e1) (fun j u C=>hN j u (C.mono fun i hi=>List.mem_append_left _ hi)) (fun i j u C=>M i j u (C.mono fun i hi=>List.mem_append_left _ hi)) (fun j u C=>J j u (C.mono fun i hi=>List.mem_append_left _ hi))
  ·exact ihy (h2 e1) (fun j u C=>hN j u (C.mono fun i hi=>List.mem_append_right _ hi)) (fun i j u C=>M i j u (C.mono fun i hi=>List.mem_append_right _ hi)) (fun j u C=>J j u (C.mono fun i hi=>List.mem_append_right _ hi))
 | block id c ih =>
  intro N N' X X' R R' e w h hN M J;refine ih h hN (fun i j u C O=>?_) J;cases hb:Nat.beq i id with
  | true=>rw[hb]at O;exact hN j u C O
  | false=>rw[hb]at O;exact M i j u C O
 | loop c ih =>
  intro N N' X X' R R' e w h hN M J;obtain⟨I,μ,h0,hs⟩:=h;refine⟨fun e' w' => I e' w'∧agree (wr c) e e',μ,⟨h0,agree.refl _ _⟩,?_⟩;rintro e' w' ⟨hI,U⟩
  refine ih (hs e' w' hI) (fun j u C ⟨h1,h2⟩=>⟨⟨h1,(U.trans C).mono fun i hi=>by simpa using hi⟩,h2⟩) (fun i j u C O=>M i j u ((U.trans C).mono fun i hi=>show i∈wr c by simpa using hi) O) (fun j u C O=>J j u ((U.trans C).mono fun i hi=>show i∈wr c by simpa using hi) O)
 | exit i=>intro N N' X X' R R' e w h _ M _;exact M i e w (agree.refl _ _) h
 | ret=>intro N N' X X' R R' e w h _ _ J;exact J e w (agree.refl _ _) h
 | _=>intro N N' X X' R R' e w h _ _ _;exact h.elim
theorem IP (hY:xe Y)(c:Code)(ws:List Nat)(J:(wr c).all (ws.contains ·)=true)(I:KE)(μ:Env→World→Nat){N:KE}{X:Nat→KE}{e:Env}(O:I e w)(hs:∀e' w',I e' w'→rl P Y l c (fun C M=>I C M∧μ C M<μ e' w') X B1 (mix ws e' 0 e) w'):rl P Y l (.loop c) N X B1 e w:=by
 have u:∀i∈wr c,i∈ws:=fun i hi=>by simpa using List.all_eq_true.1 J i hi
 refine⟨fun e' w' => I e' w'∧agree ws e e',μ,⟨O,agree.refl _ _⟩,?_⟩;rintro e' w' ⟨hI,j⟩;have h:=hs e' w' hI;rw[Ks j]at h;exact Nm hY c h (fun C M ha ⟨U,h2⟩=>⟨⟨U,(j.trans (ha.mono u)).mono (fun i hi=>by simpa using hi)⟩,h2⟩) (fun _ _ _ _ h=>h) (fun _ _ _ h=>h)
/-! ## The statement -/
def OJ :List (Tmp×Value)→Env→Env
 | [],e=>e
 | (p,v)::r,e=>OJ r (e.set p v)
theorem NW :∀(l:List (Tmp×Value)) (e:Env),l.foldl (fun t p=>t.setIfInBounds p.1 p.2) e.toArray=(OJ l e).toArray
 | [],e=>rfl
 | (p,v)::l,e=>by
  rw[List.foldl_cons,show e.toArray.setIfInBounds p v=(e.set p v).toArray by simp];exact NW l _
def mX (fn:FuncId)(e:Env)(ps:Array Tmp)(a bd:Code)(D:Nat)(st:LoopState)(y:Option Code):Loop:={state:=st,pending:=y,fn,tmps:=e.toArray,params:=ps,assign:=a,body:=bd,defers:=D}
def stY (y:Option Code):LoopState:=if y.isNone then .ready else .done
def AW (P:Program)(l D:Nat)(fn:FuncId)(e:Env)(ps:Array Tmp)(a bd:Code):YB:=fun vs K w =>
 uT a=true∧uT bd=true∧w.heap[l]? = some (.loop (mX fn e ps a bd D .ready none))∧vs.length=ps.size ∧
 ae P a (fun e1 w1=>w1.heap[l]? = some (.loop (mX fn e ps a bd D .ready none)) ∧
  ae P bd (fun _ w2=>w2.heap[l]? = some (.loop (mX fn e ps a bd D .busy none))∧K (.bool true) (w2.putObj l (.loop (mX fn e ps a bd D .ready none))))
   (fun i _ w2=>w2.heap[l]? = some (.loop (mX fn e ps a bd D .busy none))∧K (.bool false) (w2.putObj l (.loop (mX fn e ps a bd D .done (some (.exit i))))))
   (fun _ w2=>w2.heap[l]? = some (.loop (mX fn e ps a bd D .busy none))∧K (.bool false) (w2.putObj l (.loop (mX fn e ps a bd D .done (some .ret)))))
   e1 (w1.putObj l (.loop (mX fn e ps a bd D .busy none)))) (fun _ _ _=>False) (fun _ _=>False) (OJ (ps.toList.zip vs) e) w
theorem QO {l:Nat}{e:Env}{ps:Array Tmp}{a bd:Code}:YOK P l (AW P l D X0 e ps a bd) where
 yld:=by
  rintro vs K w ⟨na,nb,hl,M,h⟩;refine⟨_,hl,rfl,M,?_⟩;have C:(ps.zip vs.toArray).foldl (fun u (t,a)=>u.setIfInBounds t a) e.toArray=(OJ (ps.toList.zip vs) e).toArray:=by
   rw[←NW, ←Array.foldl_toList];simp
  show RoundIn Fence.wide 0 P l X0 ((ps.zip vs.toArray).foldl (fun u (t,a)=>u.setIfInBounds t a) e.toArray) a bd w _;rw[C];refine roundIn_of_wpIn trivial <|wpIn_mono (DZ (ds:=[]) a _ _ _ _ _ na h) ?_;intro x a1 w1 j;cases x with
  | normal =>
   obtain⟨e1,rfl,U,j⟩:=j;refine⟨_,run_beginRound U rfl,?_⟩;refine wpIn_mono (DZ (ds:=[]) bd _ _ _ _ _ nb j) ?_;intro x a1 w2 j;cases x with
   | normal=>obtain⟨O,rfl,I,J⟩:=j;exact⟨_,_,run_endRound none I,_,rfl,J⟩
   | exit i=>obtain⟨O,rfl,I,J⟩:=j;exact⟨_,_,run_endRound (some (.exit i)) I,_,rfl,J⟩
   | ret=>obtain⟨O,rfl,I,J⟩:=j;exact⟨_,_,run_endRound (some .ret) I,_,rfl,J⟩
   | _=>exact j.elim
  | exit i=>obtain⟨_,_,j⟩:=j;exact j
  | ret=>obtain⟨_,_,j⟩:=j;exact j
  | _=>exact j
def rfS (P:Program)(c:Code)(N:Nat→KE)(X:Nat→Nat→KE)(R:Nat→KE)(e:Env)(w:World):Prop :=
 match c with
 | .rangeFunc g ps a bd=>∃(gf:FuncId) (cap:List Value),ev e g=.func (.func gf) #[] cap.toArray∧∀(fn:FuncId) (W:World),Below w.heap.size w W→W.heap.size=w.heap.size+2 →
   W.heap[w.heap.size]? = some (.deferred (some []))→W.heap[w.heap.size+1]? = some (.loop (mX fn e ps a bd w.heap.size .ready none)) →
   yc P (AW P (w.heap.size+1) w.heap.size fn e ps a bd) (w.heap.size+1) gf (.func (.yield (w.heap.size+1)) #[] #[]::cap) W fun _ w' =>
    ∃y:Option Code,w'.heap[w.heap.size+1]? = some (.loop (mX fn e ps a bd w.heap.size (stY y) y)) ∧
     (match y with
      | none=>N w.heap.size e (w'.putObj (w.heap.size+1) (.loop (mX fn e ps a bd w.heap.size .exhausted y)))
      | some (.exit i)=>X i w.heap.size e (w'.putObj (w.heap.size+1) (.loop (mX fn e ps a bd w.heap.size .exhausted y)))
      | some .ret=>R w.heap.size e (w'.putObj (w.heap.size+1) (.loop (mX fn e ps a bd w.heap.size .exhausted y)))
      | _=>False)
 | _=>False
def QM (N:Nat→KE)(X:Nat→Nat→KE)(R:Nat→KE):Exit→Act→World→Prop
 | .normal,a,w=>∃(e:Env) (D:Nat),a=⟨e.toArray,[{target:=.collected D,args:=#[]}]⟩∧N D e w
 | .exit i,a,w=>∃(e:Env) (D:Nat),a=⟨e.toArray,[{target:=.collected D,args:=#[]}]⟩∧X i D e w
 | .ret,a,w=>∃(e:Env) (D:Nat),a=⟨e.toArray,[{target:=.collected D,args:=#[]}]⟩∧R D e w
 | _,_,_=>False
theorem Qk {c:Code}{N:Nat→KE}{X:Nat→Nat→KE}{R:Nat→KE}{e:Env}(h:rfS P c N X R e w):c.wp P (QM N X R) ⟨e.toArray,[]⟩ w:=by
 unfold rfS at h;split at h
 ·rename_i g ps a bd;obtain⟨gf,cap,hv,h⟩:=h;refine(wpIn_wide (n:=0)).1 (wpIn_rangeFunc ?_);intro u _;obtain⟨W1,j⟩:∃W1,(w.alloc (.deferred (some []))).alloc (.loop (mX u e ps a bd w.heap.size .ready none))=W1:=⟨_,rfl⟩
  have M:W1.heap[w.heap.size+1]? = some (.loop (mX u e ps a bd w.heap.size .ready none)):=by
   rw[←j];have:=World.alloc_heap_new (w.alloc (.deferred (some []))) (.loop (mX u e ps a bd w.heap.size .ready none));rwa[World.size_alloc]at this
  have J:W1.heap[w.heap.size]? = some (.deferred (some [])):=by
   rw[←j];exact(Below.heap_alloc _ _ _ (by simp)).trans (World.alloc_heap_new w _)
  have C:Below w.heap.size w W1:=by
   rw[←j];exact((Below.refl _ w).alloc (Nat.le_refl _) _).alloc (by simp) _
  have aa:W1.heap.size=w.heap.size+2:=by rw[←j];simp
  obtain⟨U,ad⟩:=MY QO (h u W1 C aa J M);refine⟨w.heap.size+1,[{target:=.collected w.heap.size,args:=#[]}],W1, {target:=.fn (.func gf) cap.toArray,args:=#[.func (.yield (w.heap.size+1)) #[] #[]]},W1,gf,
   #[.func (.yield (w.heap.size+1)) #[] #[]]++cap.toArray,W1,?_,?_,fun _ _=>trivial,?_,(fun h=>by cases h),?_⟩
  ·rw[←j];exact run_enterLoop_outer _ _ _ _ _
  ·have O:Act.eval ⟨e.toArray,[]⟩ g=.func (.func gf) #[] cap.toArray:=by rw[pY];exact hv
   simp only[resolve,O];simp[go_sem]
  ·simp[invoke,go_sem,Fy U]
  ·refine callsIn_wide.2 ?_;have e1 : #[Value.func (.yield (w.heap.size+1)) #[] #[]]++cap.toArray=(Value.func (.yield (w.heap.size+1)) #[] #[]::cap).toArray:=by simp
   rw[e1];refine ad.mono ?_;rintro x w' ⟨_,rfl,y,hl,I⟩;refine⟨_,_,run_endLoop hl (by unfold mX stY;cases y<;>simp),?_⟩;cases y with
   | none=>exact(show QM N X R .normal _ _ from⟨e,_,rfl,I⟩)
   | some c =>
    cases c with
    | exit i=>exact(show Code.wpIn Fence.wide 0 P (.exit i) (QM N X R) _ _ from wpIn_exit (show QM N X R (.exit i) _ _ from⟨e,_,rfl,I⟩))
    | ret=>exact(show Code.wpIn Fence.wide 0 P .ret (QM N X R) _ _ from wpIn_ret (show QM N X R .ret _ _ from⟨e,_,rfl,I⟩))
    | _=>exact I.elim
 ·exact h.elim
def dM (D:Nat)(w:World):Prop:=w.heap[D]? = some (.deferred (some []))
def vm (P:Program)(rs:List ResultVar)(K:KV)(D:Nat):KE:=fun e w=>dM D w∧vC P rs K e (w.putObj D (.deferred none))
theorem PK {j:Func}{e:Env}(h:vm P j.results.toList K D e w):LeavesInM Fence.wide 0 P j e.toArray (fun x w' => ∃v,x=.returned v∧K v w') [{target:=.collected D,args:=#[]}] .returning w:=by
 refine⟨by simp,.inl ⟨D,_,rfl,run_takeDeferred h.1,?_⟩⟩;obtain⟨v,u,C⟩:=tu h.2;exact⟨v,u,v,rfl,C⟩
theorem Vc {j:Func}{e:Env}(h:vC P j.results.toList K e w):LeavesInM Fence.wide 0 P j e.toArray (fun x w' => ∃v,x=.returned v∧K v w') [] .returning w:=by
 obtain⟨v,u,C⟩:=tu h;exact⟨v,u,v,rfl,C⟩
def UC :Code→Code
 | .rangeFunc _ _ _ b=>b
 | _=>.skip
def UA :Code→Code
 | .rangeFunc _ _ a _=>a
 | _=>.skip
def MC :Code→Option (Nat×Code)
 | .block id c=>match c with
  | .rangeFunc g ps a b=>some (id,.rangeFunc g ps a b)
  | _=>none
 | _=>none
theorem Qi {c:Code}{id:Nat}{r:Code}(h:MC c=some (id,r)):c=.block id r:=by
 unfold MC at h;split at h
 ·split at h
  ·cases h;rfl
  ·cases h
 ·cases h
def rfT :Code→Bool
 | .seq a b=>match rfT a with|true=>true|false=>rfT b
 | c=>(MC c).isSome
def cMr (P:Program)(F:Nat→KE)(R0:KE):Code→(Nat→KE)→KE
 | .seq a b,N=>match rfT a with
  | true=>cMr P F R0 a fun D=>ae P b (N D) (fun _ _ _=>False) (F D)
  | false=>ae P a (cMr P F R0 b N) (fun _ _ _=>False) R0
 | c,N=>match MC c with
  | some (id,c)=>rfS P c N (fun i D e w=>i=id∧N D e w) F
  | none=>fun _ _=>False
def QR (F:Nat→KE)(R0:KE)(N:Nat→KE):Exit→Act→World→Prop
 | .normal,a,w=>∃(e:Env) (D:Nat),a=⟨e.toArray,[{target:=.collected D,args:=#[]}]⟩∧N D e w
 | .ret,a,w=>(∃(e:Env) (D:Nat),a=⟨e.toArray,[{target:=.collected D,args:=#[]}]⟩∧F D e w)∨∃e:Env,a=⟨e.toArray,[]⟩∧R0 e w
 | _,_,_=>False
theorem Pk {F:Nat→KE}:∀(c:Code) {N:Nat→KE} {e:Env} {w:World},cMr P F B1 c N e w→c.wp P (QR F B1 N) ⟨e.toArray,[]⟩ w:=by
 intro c
 induction c with
 | seq a b iha ihb =>
  intro N e w h;cases u:rfT a with
  | true =>
   simp only[cMr,u]at h;refine wp_seq (wp_mono (iha h) ?_);intro x a M j;cases x with
   | normal =>
    obtain⟨I,D,rfl,C⟩:=j;refine wp_mono (xh (ds:=[{target:=.collected D,args:=#[]}]) b _ _ _ _ _ C) ?_;intro x a w j;cases x with
    | normal=>obtain⟨e,rfl,h⟩:=j;exact⟨e,D,rfl,h⟩
    | ret=>obtain⟨e,rfl,h⟩:=j;exact .inl ⟨e,D,rfl,h⟩
    | exit i=>obtain⟨_,_,h⟩:=j;exact h.elim
    | _=>exact j.elim
   | ret=>exact j
   | _=>exact j.elim
  | false =>
   simp only[cMr,u]at h;refine wp_seq (wp_mono (xh (ds:=[]) a _ _ _ _ _ h) ?_);intro x a M j;cases x with
   | normal=>obtain⟨I,rfl,C⟩:=j;exact ihb C
   | exit i=>obtain⟨_,_,j⟩:=j;exact j.elim
   | ret=>obtain⟨I,rfl,C⟩:=j;exact .inr ⟨I,rfl,C⟩
   | _=>exact j.elim
 | block id c _ =>
  intro N e w h;cases u:MC (.block id c)with
  | some p =>
   obtain⟨id,r⟩:=p;simp only[cMr,u]at h;rw[Qi u];refine wp_block (wp_mono (Qk h) ?_);intro x a O j;cases x with
   | normal=>obtain⟨e,D,rfl,h⟩:=j;exact⟨e,D,rfl,h⟩
   | ret=>obtain⟨e,D,rfl,h⟩:=j;exact .inl ⟨e,D,rfl,h⟩
   | exit i =>
    obtain⟨e,D,rfl,hi,J⟩:=j;rw[hi];simp only[Exit.inBlock,if_true];exact⟨e,D,rfl,J⟩
   | _=>exact j.elim
  | none =>
   simp only[cMr,u]at h
 | _=>intro N e w h;exact h.elim
theorem Pm {f:FuncId}{j:Func}{args:List Value}(M:P.funcs[f]? = some j)(J:j.body.isSome=true)(h:cMr P (vm P j.results.toList K) (vC P j.results.toList K) (cd j []) (vm P j.results.toList K) (args++List.replicate (j.ntmps-args.length) undef) w):Gives P f args.toArray w K:=by
 cases u:j.body with
 | none=>simp[u]at J
 | some c =>
  have:cd j []=c:=by simp[cd,u,sub]
  rw[this]at h;refine callsIn_wide.1 (callsIn_of_wp_marks (n:=0) M u trivial ?_);have I:args.toArray++Array.replicate (j.ntmps-args.toArray.size) undef=(args++List.replicate (j.ntmps-args.length) undef).toArray:=by simp
  rw[I];refine wpIn_wide.2 (wp_mono (Pk c h) ?_);intro x a O C;cases x with
  | normal=>obtain⟨e,D,rfl,h⟩:=C;exact PK h
  | ret =>
   rcases C with⟨e,D,rfl,h⟩|⟨e,rfl,h⟩
   ·exact PK h
   ·exact Vc h
  | _=>exact C.elim
theorem Qj {c:Code}{g:Operand}{ps:Array Tmp}{a bd:Code}{gf:FuncId}{cap:List Value}{N:Nat→KE}{X:Nat→Nat→KE}{R:Nat→KE}{e:Env}(u:c=.rangeFunc g ps a bd)(C:ev e g=.func (.func gf) #[] cap.toArray)(h:∀(j:FuncId) (W:World),Below w.heap.size w W→W.heap.size=w.heap.size+2 →
   W.heap[w.heap.size]? = some (.deferred (some []))→W.heap[w.heap.size+1]? = some (.loop (mX j e ps a bd w.heap.size .ready none)) →
   yc P (AW P (w.heap.size+1) w.heap.size j e ps a bd) (w.heap.size+1) gf (.func (.yield (w.heap.size+1)) #[] #[]::cap) W fun _ w' =>
    ∃y:Option Code,w'.heap[w.heap.size+1]? = some (.loop (mX j e ps a bd w.heap.size (stY y) y)) ∧
     (match y with
      | none=>N w.heap.size e (w'.putObj (w.heap.size+1) (.loop (mX j e ps a bd w.heap.size .exhausted y)))
      | some (.exit i)=>X i w.heap.size e (w'.putObj (w.heap.size+1) (.loop (mX j e ps a bd w.heap.size .exhausted y)))
      | some .ret=>R w.heap.size e (w'.putObj (w.heap.size+1) (.loop (mX j e ps a bd w.heap.size .exhausted y)))
      | _=>False)):rfS P c N X R e w:=by
 subst u;exact⟨gf,cap,C,h⟩
end sound
noncomputable abbrev Q :Program:=Tryz.prog
abbrev ci (x:Int):Value:=.int .i64 x
abbrev cu (x:Int):Value:=.int .u64 x
abbrev cb (x:Int):Value:=.int .u8 x
abbrev cT :Value:=.bool true
abbrev cF :Value:=.bool false
abbrev cN :Value:=.slice none 0 0
abbrev rk (f:Func)(K:KV):KE:=vC Q f.results.toList K
abbrev xf :Nat→KE:=fun _ _ _=>False
abbrev xx (X:Nat→KE)(N:KE)(k:Nat):Nat→KE:=fun i=>@Bool.rec (fun _=>KE) (X i) N (Nat.beq i k)
def zM (f d:Nat→Value):List Nat→Nat→Value
 | [],i=>f i
 | k::l,i=>match Nat.beq k i with|true=>d i|false=>zM f d l i
def zu (_:Nat):Value:=undef
def zT (f:Nat→Value):Nat→Nat→List Value→List Value
 | _,0,l=>l
 | a,n+1,l=>f a::zT f (a+1) n l
def zr :List (Nat×Nat)→List Nat
 | []=>[]
 | p::l=>List.range' p.1 p.2++zr l
def zV (f:Nat→Value):Nat→List Value→Nat→Value
 | _,[],i=>f i
 | a,v::l,i=>match Nat.beq a i with|true=>v|false=>zV f (a+1) l i
abbrev uu :Value:=undef
abbrev hF (S:World→Prop)(t:TypeId)(x:Value)(f:Nat):(Value→Prop)→Prop:=hld S (aT Q t x f)
abbrev hL (S:World→Prop)(t:TypeId)(x:Value):(Value→Prop)→Prop:=hld S (ld Q t x)
abbrev hN (S:World→Prop)(x:Value):(Value→Prop)→Prop:=hld S (aU x)
abbrev sF (t:TypeId)(x:Value)(f:Nat):KV→World→Prop:=sti (aT Q t x f)
abbrev sL (t:TypeId)(x:Value):KV→World→Prop:=sti (ld Q t x)
abbrev sN (x:Value):KV→World→Prop:=sti (aU x)
abbrev lN (t:TypeId)(x:Value):KV→World→Prop:=blt Q .len #[t] 3 #[false] #[x]
abbrev hI (S:World→Prop)(t:TypeId)(x i:Value):(Value→Prop)→Prop:=hld S (aV Q t x i)
abbrev sI (t:TypeId)(x i:Value):KV→World→Prop:=sti (aV Q t x i)
abbrev nC (x:Value):KV→World→Prop:=bin Q .add 3 false true x (ci 1)
abbrev lS (x y:Value):KV→World→Prop:=bin Q .lss 3 false false x y
def vI :Nat→Type
 | 0=>World→Prop
 | n+1=>Value→vI n
def vM :Nat→Type
 | 0=>World→Nat
 | n+1=>Value→vM n
theorem mpK {a b:Prop}(h:a)(e:a=b:=by kernel_rfl):b:=Eq.mp e h
theorem mpF {a b:Prop}(e:a=b:=by kernel_rfl):a→b:=Eq.mp e
/-- A path, as a number. -/
def bP :Nat→Nat→List Nat→List Nat
 | 0,_,l=>l
 | k+1,n,l=>match Nat.beq n 1 with|true=>l|false=>bP k (n / 2) (n%2::l)
def b1 (n:Nat):List Nat:=bP 64 n []
/-- An invariant of some places, as one of the environment. -/
def vP :(l:List Nat)→vI l.length→KE
 | [],f=>fun _ w=>f w
 | n::l,f=>fun e w=>vP l (f (gd e n)) e w
def vQ :(l:List Nat)→vM l.length→Env→World→Nat
 | [],f=>fun _ w=>f w
 | n::l,f=>fun e w=>vQ l (f (gd e n)) e w
theorem goK {f:FuncId} {j:Func} (h:Q.funcs[f]? = some j) (u:(j.name == "runtime.NumGoroutine")=false:=by kernel_rfl) (C:j.body.isNone=false:=by kernel_rfl):EO Q f:=⟨j,h,u,C⟩
theorem Nk (h:dE Q 129 none (fun A1=>bld Q 192 #[(0,A1)] fun A2=>box Q 192 A2 K) w):Gives Q 50 #[] w K:=by
 refine aB func50 (by kernel_rfl) ?_;exact mpK h
theorem Pc (h:bin Q .lss 3 false true Y5 (ci 1) (fun A5 w=>aI A5 false (fun M=>bin Q .gtr 3 false true Y5 (ci 6) (fun A8=>M [Y5,A8]) w) (fun k=>k [uu,uu] w) fun J=>pick A5 cT (gd J 1) fun A9 w=>aI A9 false (fun C=>bin Q .lss 31 false true Z5 (cu 1) (fun C2=>C [Z5,C2]) w) (fun k=>k [uu,uu] w) fun j=>pick A9 cT (gd j 1) fun C3 w=>aI C3 false (fun I=>bin Q .geq 31 false true Z5 (cu 1099511627776) (fun C6=>I [Z5,C6]) w) (fun k=>k [uu,uu] w) fun u=>pick C3 cT (gd u 1) fun C7 w=>cond C7 (K (cu 0) w) (conv Q 3 31 Y5 (fun C9=>bin Q .shl 31 false true C9 (cu 40) fun D0=>bin Q .or 31 false false D0 Z5 K) w)) w):Gives Q 236 #[Y5,Z5] w K:=by
 refine aB func236 (by kernel_rfl) ?_;exact mpK h
theorem HV (h:bin Q .eql 127 false true Y5 (Value.pointer none) (fun A7 w=>cond A7 (K cF w) (aU Y5 (fun C0=>aT Q 192 C0 0 fun C1=>ld Q 129 C1 fun C2=>lkp Q 129 C2 Z5 true fun C4=>ext Q C4 0 fun _=>ext Q C4 1 K) w)) w):Gives Q 167 #[Y5,Z5] w K:=by
 refine aB func167 (by kernel_rfl) ?_;exact mpK h
theorem Jk (h:box Q 127 Y5 (fun A2=>box Q 31 Z5 fun j=>K (Value.func (Fn.func 166) #[] #[A2,j])) w):Gives Q 142 #[Y5,Z5] w K:=by
 refine aB func142 (by kernel_rfl) ?_;exact mpK h
def qu (Y:YB)(l_:Nat)(K:KV):KE:=rl Q Y l_ (cd f166 [0]) (rk f166 K) (xx xf (rk f166 K) 0) (rk f166 K)
theorem GB {Y:YB}(h:qu Y b K [Y5,Z5,K6,uu,uu,uu,uu,uu,uu,uu,uu,uu,uu,uu,uu,uu,uu,uu] w):yc Q Y b 166 [Y5,Z5,K6] w K:=by
 refine QH (goK func166) func166 (by kernel_rfl) ?_;revert h;delta qu;exact mpF
theorem Ev {Y:YB}(O:xe Y)(Inv:vI 3)(μ:vM 3)(M:Inv B7 K7 W7 w)(U:∀(u C I:Value) (dd:Nat→Value) (w:World) (m:Nat),Inv u C I w→m=μ u C I w →
  ld Q 127 Z5 (fun X6=>ld Q 31 K6 fun Y6=>call Q 167 #[X6,Y6] fun Z6=>xG Z6 true (fun k=>k Y5) fun B7=>xG Z6 true (ld Q 31 K6) fun K7=>xG Z6 true (Im Q Y b B7 #[K7]) fun W7=>pick Z6 W7 cF fun X7 w=>cond X7 (sL 127 Z5 (fun Y7=>sN Y7 fun Z7=>sF 192 Z7 0 fun B8=>sL 129 B8 fun K8=>sL 31 K6 fun W8=>sti (lkp Q 129 K8 W8 false) fun X8=>sto Q 31 K6 X8 fun _ w=>(Inv B7 K7 W7 w)∧((μ B7 K7 W7 w)<m)) w.drew) (K (Value.tuple #[]) w)) w):qu Y b K [Y5,Z5,K6,W6,X6,Y6,Z6,u7,B7,K7,W7,X7,Y7,Z7,B8,K8,W8,X8] w:=by
 refine IP O (cd f166 [0,0]) (zr [(4,14)]) (by kernel_rfl) (vP [8,9,10] Inv) (vQ [8,9,10] μ) M ?_;intro e' w' hI;have h:=U _ _ _ (fun i=>gd e' i) w' _ hI rfl;exact mpK h
attribute [irreducible] qu
def qs (K:KV)(D:Nat):KE:=ae Q (cd f99 [1,1]) (vm Q Tryz.f99.results.toList K D) xf (vm Q Tryz.f99.results.toList K D)
theorem Es (h:ld Q 120 X6 (fun B8=>sto Q 120 X6 B8 fun _ w=>(dM D w)∧(bp Q [(some 120,X6)] K (w.putObj D (Obj.deferred none)))) w):qs K D [Y5,Z5,K6,W6,X6,Y6,Z6,u7,B7,K7,W7,X7,Y7,Z7,B8] w:=by
 delta qs;exact mpK h
noncomputable def pU :Func:={Tryz.f99 with body:=some (UA (cd f99 [1,0,1,0]))}
def yJ (NB:KE)(XB:Nat→KE)(RB:KE):KE:=ae Q (cd pU []) NB XB RB
theorem Et {XB:Nat→KE}(h:B1 [Y5,Z5,K6,W6,X6,K7,Z6,u7,B7,K7,W7,X7,Y7,Z7,B8] w):yJ B1 XB B2 [Y5,Z5,K6,W6,X6,Y6,Z6,u7,B7,K7,W7,X7,Y7,Z7,B8] w:=by
 delta yJ;exact mpK h
noncomputable def kk :Func:={Tryz.f99 with body:=some (UC (cd f99 [1,0,1,0]))}
def yK (NB:KE)(XB:Nat→KE)(RB:KE):KE:=ae Q (cd kk []) NB XB RB
theorem Eu {XB:Nat→KE}(h:ld Q 120 X6 (fun W7=>bT Q 120 1 #[(0,Y6)] fun Y7=>blt Q .append #[120,120] 120 #[false,false] #[W7,Y7] fun Z7=>sto Q 120 X6 Z7 fun _=>B1 [Y5,Z5,K6,W6,X6,Y6,Z6,u7,B7,K7,W7,Y6,Y7,Z7,B8]) w):yK B1 XB B2 [Y5,Z5,K6,W6,X6,Y6,Z6,u7,B7,K7,W7,X7,Y7,Z7,B8] w:=by
 delta yK;exact mpK h
theorem GA (h:alc Q 120 (fun j=>call Q 142 #[Y5,Z5] fun A7=>rfS Q (cd f99 [1,0,1,0]) (qs K) (fun i D e w=>(i=0)∧(qs K D e w)) (vm Q Tryz.f99.results.toList K) [Y5,Z5,uu,uu,j,uu,Y5,Z5,A7,uu,uu,uu,uu,uu,uu]) w):Gives Q 99 #[Y5,Z5] w K:=Pm func99 (by kernel_rfl) (Eq.mp (by kernel_rfl) h)
def dl (A0 id1 parent2 D5:Value)(zf:Nat→Value):List Value:=A0::id1::parent2::zT zf 3 23 (D5::zT zf 27 17 ([]))
def gu (K:KV):KE:=ae Q (cd f239 [1,1]) (rk f239 K) xf (rk f239 K)
def kL (K:KV):KE:=ae Q (cd f239 (b1 6655)) (gu K) (xx xf (gu K) 0) (rk f239 K)
def oU (K:KV):KE:=ae Q (cd f239 (b1 13309)) (kL K) (xx xf (gu K) 0) (rk f239 K)
theorem Jj (u:Code)(h:bin Q .eql 127 false true Y5 (Value.pointer none) (fun A8 w=>cond A8 (K (ci 2) w) (bin Q .eql 31 false true Z5 (cu 0) (fun C1 w=>cond C1 (K (ci 1) w) (call Q 167 #[Y5,Z5] (fun C5 w=>cond C5 (K (ci 14) w) (bin Q .neq 31 false true K6 (cu 0) (fun C8 w=>aI C8 true (fun C=>call Q 167 #[Y5,K6] (fun D2=>un Q .not D2 fun D3=>C [Y5,K6,D2,D3]) w) (fun k=>k [uu,uu,uu,uu] w) fun j=>pick C8 (gd j 3) cF fun D4 w=>cond D4 (K (ci 9) w) (aU Y5 (fun D6=>aT Q 192 D6 0 fun D7=>ld Q 129 D7 fun D8=>lN 129 D8 fun D9=>bin Q .geq 3 false true D9 (ci 32) fun E0=>ae Q u (ae Q (cd f239 (b1 6655)) (ae Q (cd f239 [1,1]) (rk f239 K) (fun _ _ _=>False) (rk f239 K)) (fun i=>@Bool.rec (fun _=>KE) ((fun _ _ _=>False) i) (ae Q (cd f239 [1,1]) (rk f239 K) (fun _ _ _=>False) (rk f239 K)) (Nat.beq i 0)) (rk f239 K)) (fun i=>@Bool.rec (fun _=>KE) ((fun _ _ _=>False) i) (ae Q (cd f239 [1,1]) (rk f239 K) (fun _ _ _=>False) (rk f239 K)) (Nat.beq i 0)) (rk f239 K) (dl Y5 Z5 K6 E0 (zV (zV zu 6 [ci 0,A8,Y5,A8,C1,Z5,C1,C5,Y5,Z5,C5,D4,K6,C8,C8,gd j 0,gd j 1,gd j 2,gd j 3,D4]) 27 [Y5,D6,D7,D8,D9,E0]))) w)) w)) w)) w)) w):ae Q (rep (b1 13309) u (cd f239 [])) (rk f239 K) xf (rk f239 K) (dl Y5 Z5 K6 uu zu) w:=Eq.mp (by kernel_rfl) h
theorem HU {K:KV}{Y5 Z5 K6:Value}{w:World}(h:bin Q .eql 127 false true Y5 (Value.pointer none) (fun A8 w=>cond A8 (K (ci 2) w) (bin Q .eql 31 false true Z5 (cu 0) (fun C1 w=>cond C1 (K (ci 1) w) (call Q 167 #[Y5,Z5] (fun C5 w=>cond C5 (K (ci 14) w) (bin Q .neq 31 false true K6 (cu 0) (fun C8 w=>aI C8 true (fun k21=>call Q 167 #[Y5,K6] (fun D2=>un Q .not D2 fun D3=>k21 [Y5,K6,D2,D3]) w) (fun k=>k [uu,uu,uu,uu] w) fun us21=>pick C8 (gd us21 3) cF fun D4 w=>cond D4 (K (ci 9) w) (aU Y5 (fun D6=>aT Q 192 D6 0 fun D7=>ld Q 129 D7 fun D8=>lN 129 D8 fun D9=>bin Q .geq 3 false true D9 (ci 32) fun E0=>oU K (dl Y5 Z5 K6 E0 (zV (zV zu 6 [ci 0,A8,Y5,A8,C1,Z5,C1,C5,Y5,Z5,C5,D4,K6,C8,C8,gd us21 0,gd us21 1,gd us21 2,gd us21 3,D4]) 27 [Y5,D6,D7,D8,D9,E0]))) w)) w)) w)) w)) w):Gives Q 239 #[Y5,Z5,K6] w K:=aB func239 (by kernel_rfl) (Eq.mp (congrArg (fun c=>ae Q c (rk f239 K) xf (rk f239 K) (dl Y5 Z5 K6 uu zu) w) (by kernel_rfl:(rep (b1 13309) (cd f239 (b1 13309)) (cd f239 []))=(cd f239 []))) (Jj (cd f239 (b1 13309)) h))
theorem FC (j:KE)(u:KE)(h:cond W6 (j (dl Y5 Z5 K6 W6 zf) w) (call Q 99 #[Y5,K6] (fun E1=>lN 120 E1 fun E2=>bin Q .geq 3 false true E2 (ci 4) fun E3=>j (dl Y5 Z5 K6 E3 (zV zf 33 [Y5,K6,E1,E2,E3]))) w)):ae Q (cd f239 (b1 13309)) j (xx xf u 0) (rk f239 K) (dl Y5 Z5 K6 W6 zf) w:=Eq.mp (by kernel_rfl) h
theorem FD (h:cond W6 (kL K (dl Y5 Z5 K6 W6 zf) w) (call Q 99 #[Y5,K6] (fun E1=>lN 120 E1 fun E2=>bin Q .geq 3 false true E2 (ci 4) fun E3=>kL K (dl Y5 Z5 K6 E3 (zV zf 33 [Y5,K6,E1,E2,E3]))) w)):oU K (dl Y5 Z5 K6 W6 zf) w:=by
 delta oU
 exact Eq.mp (congrArg (fun c=>ae Q c (kL K) (xx xf (gu K) 0) (rk f239 K) (dl Y5 Z5 K6 W6 zf) w) (by kernel_rfl:(cd f239 (b1 13309))=(cd f239 (b1 13309)))) (FC (kL K) (gu K) h)
theorem FG (j:KE)(h:cond W6 (K (ci 6) w) (j (dl Y5 Z5 K6 W6 zf) w)):ae Q (cd f239 (b1 6655)) j (xx xf j 0) (rk f239 K) (dl Y5 Z5 K6 W6 zf) w:=Eq.mp (by kernel_rfl) h
theorem qV (h:cond W6 (K (ci 6) w) (gu K (dl Y5 Z5 K6 W6 zf) w)):kL K (dl Y5 Z5 K6 W6 zf) w:=by
 delta kL
 exact Eq.mp (congrArg (fun c=>ae Q c (gu K) (xx xf (gu K) 0) (rk f239 K) (dl Y5 Z5 K6 W6 zf) w) (by kernel_rfl:(cd f239 (b1 6655))=(cd f239 (b1 6655)))) (FG (gu K) h)
theorem FE (h:aU Y5 (fun E4=>aT Q 192 E4 0 fun E5=>ld Q 129 E5 fun E6=>dO Q 129 E6 Z5 K6 fun _=>K (ci 0)) w):ae Q (cd f239 [1,1]) (rk f239 K) xf (rk f239 K) (dl Y5 Z5 K6 W6 zf) w:=Eq.mp (by kernel_rfl) h
theorem yf (h:aU Y5 (fun E4=>aT Q 192 E4 0 fun E5=>ld Q 129 E5 fun E6=>dO Q 129 E6 Z5 K6 fun _=>K (ci 0)) w):gu K (dl Y5 Z5 K6 W6 zf) w:=by
 delta gu
 exact Eq.mp (congrArg (fun c=>ae Q c (rk f239 K) xf (rk f239 K) (dl Y5 Z5 K6 W6 zf) w) (by kernel_rfl:(cd f239 [1,1])=(cd f239 [1,1]))) (FE h)
attribute [irreducible] gu kL oU
def qt (is1 l4 C1:Value)(zf:Nat→Value):List Value:=zf 0::is1::zf 2::zf 3::l4::zT zf 5 7 (C1::zT zf 13 14 ([]))
def jx (K:KV):KE:=ae Q (cd f88 [1,1,1]) (rk f88 K) xf (rk f88 K)
def pW (K:KV):KE:=ae Q (cd f88 (b1 58)) (jx K) (xx xf (jx K) 0) (rk f88 K)
theorem FH (h:bin Q .eql 127 false true Z5 (Value.pointer none) (fun A6 w=>cond A6 (K cN w) (aU Z5 (fun A8=>aT Q 192 A8 0 fun A9=>ld Q 129 A9 fun C0=>rng Q 129 C0 fun K6=>pW K (qt Y5 cN K6 (zV (zV zu 0 [Z5]) 6 [Z5,A6,Z5,A8,A9,C0]))) w)) w):Gives Q 88 #[Z5,Y5] w K:=by
 refine aB func88 (by kernel_rfl) ?_;revert h;delta pW jx;exact mpF
theorem DX (Inv:Value→World→Prop)(μ:Value→World→Nat)(I:Inv Z5 w)(J:∀(j:Value) (dd:Nat→Value) (w:World) (m:Nat),Inv j w→m=μ j w →
  nxt Q K6 false 0 (fun C2=>ext Q C2 0 fun C3 w=>cond C3 (ent Q K6 (fun C4=>ext Q C4 0 fun C5=>bY Q Y5 #[C5] fun C8 w=>cond C8 (bT Q 120 1 #[(0,C5)] (fun D1=>blt Q .append #[120,120] 120 #[false,false] #[j,D1] fun D2 w=>(Inv D2 w)∧((μ D2 w)<m)) w) ((Inv j w)∧((μ j w)<m))) w) (jx K (qt Y5 j K6 (zV dd 13 [C2,C3])) w)) w):pW K (qt Y5 Z5 K6 zf) w:=by
 refine aL (cd f88 (b1 116)) (zr [(4,2),(13,11)]) (by kernel_rfl) (vP [4] Inv) (vQ [4] μ) I ?_;intro e' w' hI;have h:=J _ (zM zf (fun i=>gd e' i) (zr [(4,2),(13,11)])) w' _ hI rfl;revert h;generalize (jx K)=qc0;exact mpF
theorem DY (h:call Q 123 #[Z5] (fun _=>K Z5) w):jx K (qt Y5 Z5 K6 zf) w:=by
 delta jx;exact mpK h
attribute [irreducible] jx pW
theorem Er (h:K cT w):Gives Q 89 #[Y5] w K:=by
 refine aB func89 (by kernel_rfl) ?_;exact mpK h
theorem Gz (h:call Q 88 #[Y5,Value.func (Fn.func 89) #[] #[]] K w):Gives Q 51 #[Y5] w K:=by
 refine aB func51 (by kernel_rfl) ?_;exact mpK h
end
section
attribute [local irreducible] bin un conv call bY blt slc aT fld aV idx lkp dO gY eSt rng nxt ent ext alc box bld bT ld sto aU dE mkS ifc pick rdy wts aI sti cond bp Gives ae fh fT cOp
open Go.RowKit Go.ChangeMaps
abbrev pB (b:Nat):Value:=.pointer (some ⟨b,0,none⟩)
theorem u6K :zH Tryz.prog 31 u6:=LS underlying31
theorem u6z :∀w,(zeroValue 31).run Tryz.prog w=.ok (u6 0) w:=fun w=>by kernel_rfl
theorem mQ [DecidableEq α]{m L:List (α×W5)}(h:m.Perm L)(C:(L.map (·.1)).Nodup)(x:α):dP m x=dP L x:=by
 have u:(m.map (·.1)).Nodup:=(h.map _).nodup_iff.2 C;cases j:dP L x with
 | none =>
  rw[sQ]at j ⊢;exact fun I=>j ((h.map _).mem_iff.1 I)
 | some v=>exact nN u (h.mem_iff.2 (uR j))
structure TreeM (w:World) (t tp:Nat) (T:List (Int×Int)):Prop where
 bt:blk w t 192 [.map (some tp)]
 mp:∃m,MB u6 u6 w tp m∧m.Perm T
 uq:(T.map (·.1)).Nodup
section
variable {w w':World}{t tp:Nat}{T:List (Int×Int)}
theorem TreeM.below (h:TreeM w t tp T)(j:Below w.heap.size w w'):TreeM w' t tp T :=
 ⟨ac j h.bt h.bt.lt,let ⟨m,u,C⟩:=h.mp;⟨m,u.below j,C⟩,h.uq⟩
theorem TreeM.lt (h:TreeM w t tp T):t<w.heap.size∧tp<w.heap.size:=⟨h.bt.lt,let ⟨_,j,_⟩:=h.mp;j.lt⟩
theorem TreeM.ne (h:TreeM w t tp T):t≠tp:=by
 obtain⟨m,⟨es,c,j⟩,_⟩:=h.mp;rintro rfl
 have:=h.bt
 unfold blk at this;rw[j.heap]at this;cases this
theorem TreeM.oth (h:TreeM w t tp T)(j:Oth b w w')(u:t≠b)(C:tp≠b):TreeM w' t tp T :=
 ⟨j.blk h.bt u,let ⟨m,I,J⟩:=h.mp;⟨m,I.oth j C,J⟩,h.uq⟩
theorem Cw (j:(T.map (·.1)).Nodup)(id:Int):dP T id=match cr T id with|true=>some (eE T id)|false=>none:=by
 cases h:cr T id with
 | true=>exact nN j (ny h)
 | false =>
  refine sQ.2 fun C=>?_;obtain⟨p,u,e⟩:=List.mem_map.1 C;rw[jE.2 ⟨p,u,e⟩]at h;cases h
end
theorem wI (h:K (.pointer (some ⟨b,o+0,none⟩)) w):aT Tryz.prog 192 (.pointer (some ⟨b,o,none⟩)) 0 K w:=aK (by kernel_rfl) h
section
variable {w:World}{K:KV}{t tp:Nat}{T:List (Int×Int)}{id:Int}
theorem Jw (h:K (.bool false) w):bin Tryz.prog .eql 127 cx cy (pB b) (.pointer none) K w :=
 jm (by unfold eqG eqGuard;rfl) (by kernel_rfl) h
theorem Qv (h:∀w' t tp,TreeM w' t tp []→Below w.heap.size w w'→w.heap.size≤t→w.heap.size≤tp→K (pB t) w'):call Tryz.prog 50 #[] K w:=by
 refine aj (goK func50) (Nk ?_);refine qZ underlying129 rfl u6 u6 fun I C b1 J=>?_;refine eT (vs:=[.map (some w.heap.size)]) (by kernel_rfl) ?_;refine cv fun u j b2 M=>?_;have j:blk u I.heap.size 192 [.map (some w.heap.size)]:=by simpa[Value.cells]using j
 exact h u _ _ ⟨j,⟨[],C.below b2,.refl _⟩,by simp⟩ (b1.trans (b2.mono (by omega))) (by omega) (Nat.le_refl _)
theorem Ji (h:TreeM w t tp T)(j:K (.bool (cr T id)) w):call Tryz.prog 167 #[pB t,u6 id] K w:=by
 obtain⟨m,u,C⟩:=h.mp;refine aj (goK func167) (HV (Jw (aO (ai (wI (lK (v:=.map (some tp)) h.bt rfl (BB (z0:=0) u6K underlying129 u6z u ?_)))))));have e:(dP m id).isSome=cr T id:=by
  rw[mQ C h.uq,Cw h.uq];cases cr T id<;>rfl
 rw[e];exact cZ (db j)
theorem VG (h:TreeM w t tp T)(j:cr T id=true)(u:K (u6 (eE T id)) w):lkp Tryz.prog 129 (.map (some tp)) (u6 id) false K w:=by
 obtain⟨m,C,I⟩:=h.mp;refine LZ (z0:=0) u6K underlying129 u6z C ?_;rw[mQ I h.uq,Cw h.uq,j];exact u
theorem Un {rk:Int→Nat}(C:TK T rk)(u:cr T x=true):upT T rk (eE T x)<upT T rk x:=by
 have M:upT T rk x=rk x+1:=by unfold upT;rw[u]
 have J:=ny u;rw[M];unfold upT;cases j:cr T (eE T x)with
 | false=>show 0<rk x+1;omega
 | true =>
  rcases C.up _ J with I|⟨y,U,e,h⟩
  ·exfalso;obtain⟨z,O,e⟩:=jE.1 j;exact C.nz z O (e.trans I)
  ·have e:y.1=eE T x:=e;rw[←e]
   have:rk y.1<rk x:=h
   show rk y.1+1<rk x+1;omega
theorem xGn {v:Value}{s:KV→World→Prop}(u:asB v≠some cx)(h:K undef w):xG v cx s K w:=⟨fun j=>absurd j u,fun _=>h⟩
def c0 (w:World)(b:Nat):Int:=match w.cell? ⟨b,0,none⟩with|some v=>intOf v|none=>0
theorem Ws {Y:YB}{l:Nat}{rk:Int→Nat}(hY:xe Y)(hk:TK T rk)(Inv:Nat→World→Prop)(u:World→Prop)(h0:Inv 0 w)(hm:∀j w,Inv j w→TreeM w t tp T∧blk w n 127 [pB t])(hi:∀j w w',Inv j w→Oth c w.drew w'→Inv j w')(M:blk w c 31 [u6 id])(hy:∀j x w K,(dh T id)[j]? = some x→Inv j w→blk w c 31 [u6 x]→(∀w',Inv (j+1) w'→blk w' c 31 [u6 x]→K (.bool true) w')→(∀w',u w'→K (.bool false) w')→Y [u6 x] K w)(he:∀w',Inv (dh T id).length w'→K (.tuple #[]) w')(hs:∀w',u w'→K (.tuple #[]) w'):yc Tryz.prog Y l 166 [.func (.yield l) #[] #[],pB n,pB c] w K:=by
 refine GB (Ev hY (Inv:=fun _ _ _ w=>∃j x f,Inv j w∧blk w c 31 [u6 x]∧(dh T id).drop j=cB T f x∧j≤(dh T id).length∧upT T rk x≤f) (μ:=fun _ _ _ w=>upT T rk (c0 w c))
  ⟨0,id,T.length+1,h0,M,by rw[List.drop_zero];rfl,Nat.zero_le _,by have:=AM hk id;omega⟩ ?_)
 rintro _ _ _ dd w m ⟨j,x,f,hI,M,O,hj,hu⟩ an;obtain⟨ht,h1⟩:=hm j w hI;have ag:c0 w c=x:=by unfold c0;rw[M.cell];rfl
 refine lK (v:=pB t) h1 rfl (lK (v:=u6 x) M rfl (Ji ht ?_));cases hq:cr T x with
 | false =>
  refine xGn (by decide) (xGn (by decide) (xGn (by decide) (dA (aO ?_))));refine he w ?_
  have:cB T f x=[]:=by cases f<;>simp[cB,hq]
  rw[this,List.drop_eq_nil_iff]at O
  have:j=(dh T id).length:=by omega
  rw[←this];exact hI
 | true =>
  have ar:=Un hk hq;obtain⟨J,rfl⟩:∃J,f=J+1:=⟨f-1,by omega⟩
  have hp:cB T (J+1) x=x::cB T J (eE T x):=by simp[cB,hq]
  rw[hp]at O;have av:j<(dh T id).length:=by
   rcases Nat.lt_or_ge j (dh T id).length with h|h
   ·exact h
   ·rw[List.drop_eq_nil_of_le h]at O;cases O
  have hx:(dh T id)[j]? = some x:=by
   have:=congrArg List.head? O
   rw[List.head?_drop]at this;exact this
  have am:(dh T id).drop (j+1)=cB T J (eE T x):=by
   have:=congrArg List.tail O
   rw[List.tail_drop]at this;exact this
  refine Ce rfl (Ce rfl (lK (v:=u6 x) M rfl (Ce rfl (.inl ⟨rfl,hy j x w _ hx hI M (fun w' U af => bX (bu ?_)) (fun w' ap => bX (aO (hs w' ap)))⟩))));obtain⟨I,ad⟩:=hm _ _ U;have aa:=af.drew;have C:TreeM w'.drew t tp T:=⟨I.bt,let ⟨m,a,b⟩:=I.mp;⟨m,a.kept rfl,b⟩,I.uq⟩
  refine aH (fun _=>lK (v:=pB t) ad.drew rfl) (aH (fun _=>ai) (aH (fun _=>wI) (aH (fun _=>lK (v:=.map (some tp)) C.bt rfl) (aH (fun _=>lK (v:=u6 x) aa rfl) (aH (fun _=>VG C hq) ?_)))));refine eB (fun _=>by kernel_rfl) aa (by show 0<1;decide) rfl fun w2 h2 o2=>?_;refine⟨⟨j+1,eE T x,J,hi _ _ _ U o2,h2,am,by omega,by omega⟩,?_⟩;have al:c0 w2 c=eE T x:=by unfold c0;rw[h2.cell];rfl
  rw[an,ag,al];exact ar
theorem Wr (h:∀w',blk w' w.heap.size 127 [pB t]→blk w' (w.heap.size+1) 31 [u6 id]→Below w.heap.size w w'→w'.heap.size=w.heap.size+2→K (.func (.func 166) #[] #[pB w.heap.size,pB (w.heap.size+1)]) w'):call Tryz.prog 142 #[pB t,u6 id] K w:=by
 refine aj (goK func142) (Jk ?_);refine cv fun M u b1 C=>cv fun I j b2 J=>?_;rw[C]at j ⊢;exact h I (ac b2 (by simpa[Value.cells]using u) (by omega)) (by simpa[Value.cells,u6]using j) (b1.trans (b2.mono (by omega))) (by omega)
end
end
section
open Go.RowKit Go.ChangeMaps
theorem Ik {P:Program}{l:Nat}{e:Env}{ps:Array Tmp}{a bd:Code}:xe (AW P l D X0 e ps a bd):=fun _ _ _ _ j ⟨I,J,M,O,U⟩ =>
 ⟨I,J,M,O,xg a U (fun _ _ _ ⟨u,C⟩=>⟨u,xg bd C (fun _ _ _ ⟨x,y⟩=>⟨x,j _ _ y⟩) (fun _ _ _ _ ⟨x,y⟩=>⟨x,j _ _ y⟩) (fun _ _ _ ⟨x,y⟩=>⟨x,j _ _ y⟩)⟩) (fun _ _ _ _ h=>h) (fun _ _ _ h=>h)⟩
theorem oth_put {l:Nat}{o:Obj}:Oth l w (w.putObj l o):=⟨rfl,rfl,rfl,World.putObj_size,fun k h=>World.putObj_heap_other (fun e=>h (by rw[e]))⟩
theorem RZ {l:Nat}{xs:List Value}{r:Loop}{o:Obj}(h:w.ownsRow B E s (.slice a n c) n xs)(C:w.heap[l]? = some (.loop r)):(w.putObj l o).ownsRow B E s (.slice a n c) n xs :=
 cJ h fun k u=>by
  rcases h.2 with⟨j,_⟩|⟨g,cap,I,j,M,J,_⟩
  ·cases j;cases u
  ·cases j;have e:k=g:=by simpa[Value.ownBlock]using u.symm
   subst e;refine World.putObj_heap_other fun e=>?_;subst e;rw[J]at C;cases C
theorem Mq {T:List (Int×Int)}:∀(f:Nat) (id:Int),(cB T f id).length≤f
 | 0,_=>Nat.le_refl _
 | f+1,id=>by
  unfold cB;split
  ·have:=Mq (T:=T) f (eE T id);simp;omega
  ·simp
theorem vD {P:Program}{u:Addr}{v:Value}(I:∀K':KV,K' v w→ld P t (.pointer (some u)) K' w)(h:K v w):bp P [(some t,.pointer (some u))] K w:=by
 have C:(loadVar t u).run P w=.ok v w:=by
  have:=I (fun v' w' => v'=v∧w'=w) ⟨rfl,rfl⟩
  unfold ld okV at this;unfold Instr.loadAt at this;simp only[Instr.sureAddr,Sem.run_bind,Sem.run_pure,Result.andThen_ok]at this;split at this
  ·rename_i v' w' j;rw[j,this.1,this.2]
  ·exact this.elim
 unfold bp
 have:(oB [(some t,.pointer (some u))]).run P w=.ok v w:=by simp[oB,asAddr,Sem.run_bind,C]
 rw[this];exact⟨rfl,h⟩
theorem TreeM.drew {t:Nat}(h:TreeM w t n T):TreeM w.drew t n T:=⟨h.bt,let ⟨m,a,b⟩:=h.mp;⟨m,a.kept rfl,b⟩,h.uq⟩
theorem EI {v:Value}{xs:List Value}{o:Obj}(h:w.ownsRow B e s v n xs)(J:w.grownBy w' v.ownBlock)(u:w.heap[k]? = some o)(M:∀cs z,o≠.cells cs e z):w'.heap[k]? = some o:=by
 have C:k<w.heap.size:=(Array.getElem?_eq_some_iff.1 u).1;rw[J.block k C fun e'=>?_];exact u;obtain⟨⟨I,j⟩,_⟩:=CF h e'.symm;unfold blk at j;rw[u]at j;exact M _ _ (Option.some.inj j)
theorem TreeM.grow {t:Nat}{v:Value}{xs:List Value}(u:TreeM w t b T)(h:w.ownsRow B e s v n xs)(C:w.grownBy w' v.ownBlock)(I:192≠e):TreeM w' t b T :=
 ⟨fL u.bt h I C,let ⟨m,⟨es,c,j⟩,J⟩:=u.mp;⟨m,MB.kept ⟨es,c,j⟩ (by rw[j.heap];exact EI h C j.heap (fun _ _ e=>by cases e)),J⟩,u.uq⟩
attribute [local irreducible] bin un conv call bY blt slc aT fld aV idx lkp dO gY eSt rng nxt ent ext alc box bld bT ld sto aU dE mkS ifc pick rdy wts aI sti cond bp Gives ae fh fT cOp
section
variable {w:World}{K:KV}{t tp:Nat}{T:List (Int×Int)}{id:Int}
theorem Kb {rk:Int→Nat}(hk:TK T rk)(ht:TreeM w t tp T)(hn:T.length≤1000)(h:∀w' a c,w'.ownsRow w.heap.size 31 1 (.slice a (dh T id).length c) (dh T id).length ((dh T id).map u6)→Below w.heap.size w w'→K (.slice a (dh T id).length c) w'):call Tryz.prog 99 #[pB t,u6 id] K w:=by
 refine aj (goK func99) (GA (dZ (z:=.slice none 0 0) (by kernel_rfl) fun w1 h1 b1 s1=>Wr fun w2 h2 h3 b2 s2=>?_));have h1:blk w1 w.heap.size 120 [.slice none 0 0]:=by simpa[Value.cells]using h1
 refine Qj (g:=.tmp 8) (ps:=#[9]) (a:=cd pU []) (bd:=cd kk []) (gf:=166) (cap:=[pB w1.heap.size,pB (w1.heap.size+1)]) (by kernel_rfl) rfl ?_;intro fn W bW sW hD hL;have aE:=ht.lt;have ar:(dh T id).length≤T.length+1:=Mq _ _;generalize hz:w.heap.size=z at *;rw[s1]at h2 h3 s2 ⊢;have ez:w2.heap.size=z+3:=by omega
 rw[ez]at bW sW hD hL ⊢;rw[s1]at hL;have tW:TreeM W t tp T:=((ht.below (by rw[hz];exact b1)).below (b2.mono (by omega))).below (bW.mono (by omega));have B0:Below z w W:=b1.trans ((b2.mono (by omega)).trans (bW.mono (by omega)))
 refine Ws Ik hk (fun j v=>(TreeM v t tp T∧blk v (z+1) 127 [pB t])∧(∃a c,blk v z 120 [.slice a j c]∧v.ownsRow z 31 1 (.slice a j c) j (((dh T id).take j).flatMap uC)∧((Value.slice a j c).ownBlock≠some (z+2))) ∧
   v.heap[z+4]? = some (.loop (mX fn _ #[9] (cd pU []) (cd kk []) (z+3) .ready none))∧v.heap[z+3]? = some (.deferred (some []))∧Below z w v∧z+5≤v.heap.size) (fun _=>False)
  ⟨⟨tW,ac bW h2 (by omega)⟩,⟨none,0,ac bW (ac (b2.mono (show z+1≤w1.heap.size by omega)) h1 (by omega)) (by omega),World.ownsRow_nil _ _ _ _,by simp[Value.ownBlock]⟩,hL,hD,B0,by omega⟩ (fun j v hv=>hv.1) ?_ (ac bW h3 (by omega)) ?_ ?_ ?_
 ·rintro j v v' ⟨⟨a1,a2⟩,⟨a,c,g1,g2,g3⟩,O,g5,g6,g7⟩ o;refine⟨⟨a1.drew.oth o (by omega) (by omega),o.blk a2.drew (by omega)⟩,⟨a,c,o.blk g1.drew (by omega),cJ g2 fun k hk=>o.other k (fun e=>g3 (by rw[hk,e])),g3⟩,(o.other _ (by omega)).trans O,(o.other _ (by omega)).trans g5,bG g6.drew o (by omega),by rw[o.size];exact g7⟩
 ·rintro j x v K' hx ⟨⟨a1,a2⟩,⟨a,c,g1,g2,g3⟩,O,g5,g6,g7⟩ hb kT kF;refine⟨by kernel_rfl,by kernel_rfl,O,rfl,Et ⟨O,Eu ?_⟩⟩;generalize C:v.putObj (z+4) _=v1;have I:Oth (z+4) v v1:=C ▸ oth_put;have l1:v1.heap[z+4]? = some (.loop (mX fn _ #[9] (cd pU []) (cd kk []) (z+3) .busy none)):=C ▸ World.putObj_heap_same (by omega)
  have r1:v1.ownsRow z 31 1 (.slice a j c) j (((dh T id).take j).flatMap uC):=C ▸ RZ g2 O;have z1:v1.heap.size=v.heap.size:=I.size;have ap:j<(dh T id).length:=(List.getElem?_eq_some_iff.1 hx).1;refine lK (v:=.slice a j c) (I.blk g1 (by omega)) rfl ?_
  refine mY (vs:=[u6 x]) underlying120 (s:=1) (by kernel_rfl) (by kernel_rfl) (by omega) rfl (by simp) (by simp) (by simp) (by simp[u6,Value.cells]) fun v2 k2 c2 z2=>?_;have k2:blk v2 v1.heap.size 31 (uC x):=by simpa[Value.cells,u6,uC]using k2
  obtain⟨ii,al,an,am,af⟩:=info_parts (show (Tryz.prog.info? 31).map (fun i=>(i.zero,i.size,i.bytes))=some (some (u6 0),1,8)by kernel_rfl);have r2:=cJ r1 fun q hq=>c2.block q (World.ownsRow.lt r1 q hq).2
  refine tf (base:=z) (enc:=uC) (x:=x) underlying120 al an am af rfl (by omega) (fun _=>rfl) r2 k2 (by simp[uC,u6,Value.oneCell']) (by omega) (by omega) (by have:=c2.size;omega) fun a' c' v3 r3 u c3 J=>?_;have M:∀{k o},v1.heap[k]? = some o→v2.heap[k]? = some o:=fun {k o} hk=>by rw[c2.block k (Array.getElem?_eq_some_iff.1 hk).1];exact hk
  have t3:TreeM v3 t tp T:=((a1.oth I (by omega) (by omega)).below c2).grow r2 u (by decide);have f3:blk v3 (z+1) 127 [pB t]:=fL (M (I.blk a2 (by omega))) r2 (by decide) u;have s3:blk v3 z 120 [.slice a j c]:=fL (M (I.blk g1 (by omega))) r2 (by decide) u;have l3:=EI r2 u (M l1) (fun _ _ e=>by cases e)
  have d3:=EI r2 u (M ((I.other _ (by omega)).trans g5)) (fun _ _ e=>by cases e);have x3:blk v3 (z+2) 31 [u6 x]:=(u.block (z+2) (by have:=c2.size;omega) (fun e=>g3 e.symm)).trans (M (I.blk hb (by omega)));refine eB (fun _=>by kernel_rfl) s3 (by show 0<1;decide) rfl fun v4 k4 U=>⟨(U.other _ (by omega)).trans l3,kT _ ?_ ?_⟩
  ·generalize aa:v4.putObj (z+4) _=v5;have o5:Oth (z+4) v4 v5:=aa ▸ oth_put;have l4:v4.heap[z+4]? = _:=(U.other _ (by omega)).trans l3;have av:=c2.size;have az:=u.size;have r4:=cJ r3 fun q hq=>U.other q (fun e=>by
    subst e;obtain⟨⟨cc,hc⟩,_⟩:=CF r3 hq;exact absurd (uc hc s3) (by decide))
   have r5:v5.ownsRow z 31 1 (.slice a' (j+1) c') (j+1) ((((dh T id).take j)++[x]).flatMap uC):=aa ▸ RZ r4 l4;have ad:(dh T id).take j++[x]=(dh T id).take (j+1):=by rw[List.take_add_one,hx];rfl
   rw[ad]at r5;refine⟨⟨(t3.oth U (by omega) (by omega)).oth o5 (by omega) (by omega),o5.blk (U.blk f3 (by omega)) (by omega)⟩,⟨a',c',o5.blk k4 (by omega),r5,fun e=>?_⟩,aa ▸ World.putObj_heap_same (Array.getElem?_eq_some_iff.1 l4).1,(o5.other _ (by omega)).trans ((U.other _ (by omega)).trans d3),?_,by rw[o5.size,U.size];omega⟩
   ·rcases J with J|J
    ·exact g3 (J ▸ e)
    ·rw[J]at e
     have:=Option.some.inj e
     omega
   ·exact bG (bG ((bG g6 I (by omega)).trans ((c2.mono (by omega)).trans c3)) U (Nat.le_refl _)) o5 (by omega)
  ·exact oth_put.blk (U.blk x3 (by omega)) (by omega)
 ·rintro v ⟨_,⟨a,c,g1,g2,g3⟩,O,g5,g6,g7⟩;refine⟨none,O,Es ?_⟩;have l4:=O;generalize C:v.putObj _ _=v1;have I:Oth (z+4) v v1:=C ▸ oth_put;have r1:v1.ownsRow z 31 1 (.slice a (dh T id).length c) (dh T id).length (((dh T id).take (dh T id).length).flatMap uC):=C ▸ RZ g2 O;rw[List.take_length,Gi]at r1;have k1:=I.blk g1 (by omega);refine lK (v:=.slice a (dh T id).length c) k1 rfl ?_
  refine eB (fun _=>by kernel_rfl) k1 (by show 0<1;decide) rfl fun v2 k2 o2=>⟨(o2.other _ (by omega)).trans ((I.other _ (by omega)).trans g5),?_⟩
  have o3:Oth (z+3) v2 (v2.putObj (z+3) (.deferred none)):=oth_put;have ag:v2.heap[z+3]? = some (.deferred (some [])):=(o2.other _ (by omega)).trans ((I.other _ (by omega)).trans g5);have r2:=cJ r1 fun q hq=>o2.other q (fun e=>by
   subst e;obtain⟨⟨cc,hc⟩,_⟩:=CF r1 hq;exact absurd (uc hc k1) (by decide))
  have r3:=cJ r2 fun q hq=>o3.other q (fun e=>by
   subst e;obtain⟨⟨cc,hc⟩,_⟩:=CF r2 hq;unfold blk at hc;rw[ag]at hc;cases hc)
  refine vD (fun _=>lK (v:=.slice a (dh T id).length c) (o3.blk k2 (by omega)) rfl) (h _ a c r3 ?_);exact bG (bG (bG g6 I (by omega)) o2 (Nat.le_refl _)) o3 (by omega)
 ·exact fun _ h=>h.elim
end
end
section
open Go.RowKit Go.ChangeMaps
structure Ch (F:List Nat) (w w':World):Prop where
 os:w'.os=w.os
 tape:w'.tape=w.tape
 output:w'.output=w.output
 size:w.heap.size≤w'.heap.size
 block:∀k,k<w.heap.size→k∉F→w'.heap[k]? = w.heap[k]?
section
variable {F G:List Nat}{a b c w w':World}
theorem Ch.refl (F:List Nat)(w:World):Ch F w w:=⟨rfl,rfl,rfl,Nat.le_refl _,fun _ _ _=>rfl⟩
theorem Ch.of_below (h:Below w.heap.size w w'):Ch F w w':=⟨h.os,h.tape,h.output,h.size,fun k j _=>h.block k j⟩
theorem Ch.of_oth {b:Nat}(h:Oth b w w')(hb:b∈F):Ch F w w':=⟨h.os,h.tape,h.output,by rw[h.size];exact Nat.le_refl _,fun k _ hk=>h.other k (by rintro rfl;exact hk hb)⟩
theorem Ch.trans (h:Ch F a b)(k:Ch G b c)(hG:∀x∈G,x∈F∨a.heap.size≤x):Ch F a c :=
 ⟨k.os.trans h.os,k.tape.trans h.tape,k.output.trans h.output,Nat.le_trans h.size k.size,fun x j hF=>by
  rw[k.block x (Nat.lt_of_lt_of_le j h.size) (fun u=>(hG x u).elim hF (fun h=>by omega)),h.block x j hF]⟩
theorem Ch.mono (h:Ch F w w')(hG:∀x∈F,x∈G):Ch G w w':=⟨h.os,h.tape,h.output,h.size,fun k u C=>h.block k u fun j=>C (hG k j)⟩
theorem Ch.below (h:Ch F w w')(hF:∀x∈F,B≤x)(u:B≤w.heap.size):Below B w w':=⟨h.os,h.tape,h.output,h.size,fun k C=>h.block k (by omega) (fun j=>by have:=hF k j;omega)⟩
theorem blk.ch (h:blk w k E cs)(u:Ch F w w')(C:k∉F):blk w' k E cs:=by
 have j:=h.lt;unfold Go.Proofs.YtkbhfjljieopoaaGreatDoor.blk at *; rw[u.block k j C];exact h
theorem MB.ch {kv:α→Value}{vv:W5→Value}{m:List (α×W5)}(h:MB kv vv w k m)(j:Ch F w w')(u:k∉F):MB kv vv w' k m:=h.kept (j.block k h.lt u)
end
end
section
attribute [local irreducible] bin un conv call bY blt slc aT fld aV idx lkp dO gY eSt rng nxt ent ext alc box bld bT ld sto aU dE mkS ifc pick rdy wts aI sti cond bp Gives ae fh fT cOp
open Go.RowKit Go.ChangeMaps
theorem insA_perm {L:List α}{z:α}:(fl L i z).Perm (L++[z]):=by
 unfold fl;refine(List.perm_middle).trans ?_;rw[List.take_append_drop];exact(List.perm_append_singleton z L).symm
section
variable {w:World}{K:KV}{t tp:Nat}{T:List (Int×Int)}{id par:Int}
theorem Jh {rk:Int→Nat}(hk:TK T rk)(ht:TreeM w t tp T)(hn:T.length≤1000)(h:∀w',TreeM w' t tp (iX T id par).1→Ch [tp] w w'→K (.int .i64 (iX T id par).2) w'):call Tryz.prog 239 #[pB t,u6 id,u6 par] K w:=by
 have ok:∀{w':World} (v:Int),iX T id par=(T,v)→Below w.heap.size w w'→K (.int .i64 v) w':=fun {w'} v e b=>by
  have:=h w' (by rw[e];exact ht.below b) (Ch.of_below b)
  rw[e]at this;exact this
 have b0:=Below.refl w.heap.size w
 refine aj (goK func239) (HU (Jw (aO (cA ?_))))
 by_cases i0:id=0
 ·exact ax i0 (ok 1 (by unfold iX;rw[if_pos i0]) b0)
 refine aq i0 (Ji ht ?_)
 cases hq:cr T id with
 | true=>exact bu (ok 14 (by unfold iX;rw[if_neg i0,if_pos hq]) b0)
 | false =>
 have hq':¬cr T id=true:=by rw[hq];simp
 refine aO (bN ?_)
 have e9:∀hp:par≠0∧cr T par=false,iX T id par=(T,9):=fun hp=>by unfold iX;rw[if_neg i0,if_neg hq',if_pos hp]
 have tail : ¬(par≠0∧cr T par=false)→∀{t0 id1 parent2 t26:Value} {zf:Nat→Value},t0=pB t→id1=u6 id→parent2=u6 par→t26=.bool (decide (32≤(T.length:Int)))→oU K ((dl t0 id1 parent2 t26 zf)) w:=by
  intro hp t0 id1 parent2 t26 zf q0 q1 q2 q4
  subst q0 q1 q2 q4
  refine FD ?_
  have e6:32≤T.length∨4≤(dh T par).length→iX T id par=(T,6):=fun hh=>by unfold iX;rw[if_neg i0,if_neg hq',if_neg hp,if_pos hh]
  by_cases h32:32≤(T.length:Int)
  ·exact ax h32 (qV (ax h32 (ok 6 (e6 (.inl (by omega))) b0)))
  refine aq h32 (Kb hk ht hn fun w1 a c ho b1=>bj underlying120 (bM (qV ?_)))
  by_cases h4:((dh T par).length:Int)≥4
  ·exact ax h4 (ok 6 (e6 (.inr (by omega))) b1)
  refine aq h4 (yf ?_)
  have ht1:=ht.below b1
  obtain⟨m,hm,hpm⟩:=ht1.mp
  refine ai (wI (lK (v:=.map (some tp)) ht1.bt rfl (rL u6K underlying129 hm fun w2 hm2 o2=>?_)))
  have e0:iX T id par=(fl T (oG (fun x=>decide (id<x.1)) T T.length) (id,par),0):=by unfold iX;rw[if_neg i0,if_neg hq',if_neg hp,if_neg (by omega)]
  have hnone:dP m id=none:=by rw[mQ hpm ht.uq,Cw ht.uq,hq]
  rw[uS hnone]at hm2
  have hP:(m++[(id,par)]).Perm (iX T id par).1:=by rw[e0];exact(hpm.append_right _).trans insA_perm.symm
  have huq:((iX T id par).1.map (·.1)).Nodup:=by
   refine(hP.map _).nodup_iff.1 ?_
   have:=vz (x:=id) (v:=par) ((hpm.map (·.1)).nodup_iff.2 ht.uq)
   rwa[uS hnone]at this
  have hne:=ht.ne
  have hc:Ch [tp] w w2:=(Ch.of_below b1:Ch [tp] w w1).trans (Ch.of_oth o2 (by simp):Ch [tp] w1 w2) (fun x hx=>.inl hx)
  have:=h w2 ⟨o2.blk ht1.bt hne,⟨_,hm2,hP⟩,huq⟩ hc
  rw[e0]at this
  exact this
 by_cases p0:par≠0
 ·refine dD p0 (Ji ht (dB (bO p0 ?_)))
  cases hq2:cr T par with
  | false=>exact bu (ok 9 (e9 ⟨p0,hq2⟩) b0)
  | true =>
   obtain⟨m,hm,hpm⟩:=ht.mp
   refine aO (ai (wI (lK (v:=.map (some tp)) ht.bt rfl (RC underlying129 hm (bM ?_)))))
   exact tail (fun hh=>by rw[hq2]at hh;cases hh.2) rfl rfl rfl (by rw[hpm.length_eq])
 ·refine dY p0 (bw p0 (aO ?_))
  obtain⟨m,hm,hpm⟩:=ht.mp
  refine ai (wI (lK (v:=.map (some tp)) ht.bt rfl (RC underlying129 hm (bM ?_))))
  exact tail (fun hh=>p0 hh.1) rfl rfl rfl (by rw[hpm.length_eq])
end
end
end Go.Proofs.YtkbhfjljieopoaaGreatDoor
