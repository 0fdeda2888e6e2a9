import Derived.Test.YtgpfkmdknlcemaaGreatDoorQ1
namespace Go.Proofs.YtgpfkmdknlcemaaGreatDoor
set_option maxRecDepth 100000
section
theorem Pq {A : List Int} {p j k : Nat} {x : Int} (hA : A.length = 54) (hp : p < 6) (hj : j < 6) (hk : k < 6) (hpj : p ≠ j) : dG (A.set (18 + 6 * p + j) (nA A (18 + 6 * p + j) + x)) k = dG A k - (if k = p then x else 0) + (if k = j then x else 0) := by
  rw [BF (by omega), cJ (j := k) (by omega), cJ (j := 6 + k) (by omega), cJ (j := 12 + k) (by omega)]
  have h1 : dlt (18 + 6 * p + j) x (18 + 6 * 0 + k) + dlt (18 + 6 * p + j) x (18 + 6 * 1 + k) + dlt (18 + 6 * p + j) x (18 + 6 * 2 + k) + dlt (18 + 6 * p + j) x (18 + 6 * 3 + k) + dlt (18 + 6 * p + j) x (18 + 6 * 4 + k) + dlt (18 + 6 * p + j) x (18 + 6 * 5 + k) = if k = j then x else 0 := by
    by_cases e : k = j
    · subst e
      rw [if_pos rfl]
      match p, hp with
      | 0, _ => rw [ju]; repeat rw [cJ (by omega)]
                omega
      | 1, _ => rw [ju]; repeat rw [cJ (by omega)]
                omega
      | 2, _ => rw [ju]; repeat rw [cJ (by omega)]
                omega
      | 3, _ => rw [ju]; repeat rw [cJ (by omega)]
                omega
      | 4, _ => rw [ju]; repeat rw [cJ (by omega)]
                omega
      | 5, _ => rw [ju]; repeat rw [cJ (by omega)]
                omega
    · rw [if_neg e, cJ (by omega), cJ (by omega), cJ (by omega), cJ (by omega), cJ (by omega), cJ (by omega)]; rfl
  have h2 : dlt (18 + 6 * p + j) x (18 + 6 * k + 0) + dlt (18 + 6 * p + j) x (18 + 6 * k + 1) + dlt (18 + 6 * p + j) x (18 + 6 * k + 2) + dlt (18 + 6 * p + j) x (18 + 6 * k + 3) + dlt (18 + 6 * p + j) x (18 + 6 * k + 4) + dlt (18 + 6 * p + j) x (18 + 6 * k + 5) = if k = p then x else 0 := by
    by_cases e : k = p
    · subst e
      rw [if_pos rfl]
      match j, hj with
      | 0, _ => rw [ju]; repeat rw [cJ (by omega)]
                omega
      | 1, _ => rw [ju]; repeat rw [cJ (by omega)]
                omega
      | 2, _ => rw [ju]; repeat rw [cJ (by omega)]
                omega
      | 3, _ => rw [ju]; repeat rw [cJ (by omega)]
                omega
      | 4, _ => rw [ju]; repeat rw [cJ (by omega)]
                omega
      | 5, _ => rw [ju]; repeat rw [cJ (by omega)]
                omega
    · rw [if_neg e, cJ (by omega), cJ (by omega), cJ (by omega), cJ (by omega), cJ (by omega), cJ (by omega)]; rfl
  rw [← h1, ← h2]; omega

abbrev Ent :=Int×Int×Int×Int
def vB (T:List Ent)(id i:Int):Int:=smm T fun a=>if a.1=i∧a.2.1=id then a.2.2.2 else 0
def Al (T:List Ent)(id j:Int):Int:=smm T fun a=>if a.2.2.1=j∧a.2.1=id then a.2.2.2 else 0
def mkE (s:PL)(a:Ent):EV :=
 {o:=a.1,s:=s.V.getD (a.1-1).toNat 0+1,d0:=s.V.getD 0 0,d1:=s.V.getD 1 0,d2:=s.V.getD 2 0,d3:=s.V.getD 3 0,d4:=s.V.getD 4 0,d5:=s.V.getD 5 0,k:=5,n:=a.2.1,t:=a.2.2.1,a:=a.2.2.2,r:=0,f:=0}
theorem Vr {s:PL}{a:Ent}{k:Nat}(d:k<6):(mkE s a).V.getD k 0=s.V.getD k 0:=by
 match k,d with
 | 0,_=>rfl
 | 1,_=>rfl
 | 2,_=>rfl
 | 3,_=>rfl
 | 4,_=>rfl
 | 5,_=>rfl
def iG (s:PL)(rot:List Int):List Ent:=rot.flatMap fun i=>(mT s.I s.L s.N i).map fun a=>(i,a.1,a.2.1,a.2.2)
section
variable {s:PL}{x:ND}
abbrev aY (s:PL):List Int:=eA s.I s.L 6
abbrev qJ (s:PL)(x:ND):List Int:=nN x.A (aY s)
abbrev shP (s:PL)(x:ND):List Int:=shL (qJ s x).sum (aY s).length
theorem Ty (hi:PI s)(d:x∈s.N)(h:aY s≠[]):qI s.I s.L s.N x.id=(jD (qJ s x) (shP s x)).map fun m=>((aY s).getD m.1 0,(aY s).getD m.2.1 0,m.2.2):=by
 unfold qI;rw[Fv hi d h]
theorem MQ (h:aY s=[])(id:Int):qI s.I s.L s.N id=[]:=by
 unfold qI;rw[QX h]
theorem Hh {k:Nat}(d:k<(aY s).length):(aY s).getD k 0∈aY s:=by
 rw[List.getD_eq_getElem?_getD,List.getElem?_eq_getElem d];exact List.getElem_mem _
theorem Ac {j k:Nat}(C:j<(aY s).length)(u:k<(aY s).length)(h:(aY s).getD j 0=(aY s).getD k 0):j=k:=by
 rw[List.getD_eq_getElem?_getD,List.getElem?_eq_getElem C,List.getD_eq_getElem?_getD,List.getElem?_eq_getElem u]at h;have d:=xt (I:=s.I) (L:=s.L) (k:=6);unfold List.Nodup at d;rw[List.pairwise_iff_getElem]at d;rcases Nat.lt_trichotomy j k with e|e|e
 ·exact absurd h (d j k C u e)
 ·exact e
 ·exact absurd h.symm (d k j u C e)
theorem Lj (hi:PI s)(h:x∈s.N){k:Nat}(d:k<(aY s).length):nB (qJ s x) k=dG x.A ((aY s).getD k 0-1).toNat:=by
 show nB (nN x.A (aY s)) k=_;rw[Mx (kx.1 (hi.may x h).1)];unfold nB;rw[List.getD_eq_getElem?_getD,List.getElem?_map,List.getD_eq_getElem?_getD];rw[List.getElem?_eq_getElem d];rfl
structure MvF (s:PL) (x:ND):Prop where
 mem:∀m∈qI s.I s.L s.N x.id,m.1∈aY s∧m.2.1∈aY s∧m.1≠m.2.1∧0<m.2.2
 out:∀k,k<(aY s).length→smm (qI s.I s.L s.N x.id) (fun m=>if m.1=(aY s).getD k 0 then m.2.2 else 0)=max 0 (nB (qJ s x) k-nB (shP s x) k)
 inn:∀k,k<(aY s).length→smm (qI s.I s.L s.N x.id) (fun m=>if m.2.1=(aY s).getD k 0 then m.2.2 else 0)=max 0 (nB (shP s x) k-nB (qJ s x) k)
 len:(qI s.I s.L s.N x.id).length≤(aY s).length-1
theorem FW :(qJ s x).length=(aY s).length:=by simp[qJ,nN]
theorem AT :(shP s x).length=(aY s).length:=by simp[shP,shL]
theorem mvF (hi:PI s)(Z:x∈s.N):MvF s x:=by
 by_cases U:aY s=[]
 ·have j:=MQ U x.id;refine⟨by rw[j];simp,fun k d=>by rw[U]at d;simp at d,fun k d=>by rw[U]at d;simp at d,by rw[j];simp⟩
 ·have j:=Ty hi Z U;have I:0<(aY s).length:=List.length_pos_iff.2 U;have e1:(qJ s x).length=(shP s x).length:=by rw[FW,AT]
  have e2:(qJ s x).sum=(shP s x).sum:=(HX _ _ I).symm;obtain⟨a1,C,_⟩:=Mu _ (Nat.le_refl _) e1 e2;have V:=Ta e1 e2;rw[AT]at a1 C V;refine⟨fun m R=>?_,fun k d=>?_,fun k d=>?_,by rw[j,List.length_map];exact V⟩
  ·rw[j]at R;obtain⟨y,J,rfl⟩:=List.mem_map.1 R;obtain⟨b1,b2,b3,_,_,X⟩:=a1 y J;exact⟨Hh b1,Hh b2,fun e=>b3 (Ac b1 b2 e),X⟩
  ·rw[j,Ia, ←(C k d).1];unfold Dk;generalize jD (qJ s x) (shP s x)=M at a1;clear j C V
   induction M with
   | nil=>rfl
   | cons m M u =>
    have u:=u fun y J=>a1 y (by simp[J]);obtain⟨b1,_⟩:=a1 m (by simp);rw[iF,u];dsimp only;by_cases e:m.1=k
    ·rw[List.filter_cons_of_pos (by simpa using e),if_pos (by rw[e])];simp
    ·rw[List.filter_cons_of_neg (by simpa using e),if_neg (fun h=>e (Ac b1 d h))];omega
  ·rw[j,Ia, ←(C k d).2];unfold Dl;generalize jD (qJ s x) (shP s x)=M at a1;clear j C V
   induction M with
   | nil=>rfl
   | cons m M u =>
    have u:=u fun y J=>a1 y (by simp[J]);obtain⟨_,b1,_⟩:=a1 m (by simp);rw[iF,u];dsimp only;by_cases e:m.2.1=k
    ·rw[List.filter_cons_of_pos (by simpa using e),if_pos (by rw[e])];simp
    ·rw[List.filter_cons_of_neg (by simpa using e),if_neg (fun h=>e (Ac b1 d h))];omega
theorem Ix (hi:PI s){rot:List Int}(J:rot.Nodup)(M:∀i,i∈rot↔i∈aY s)(w:Ent→Int):smm (iG s rot) w=smm s.N fun x=>smm (qI s.I s.L s.N x.id) fun m=>w (m.1,x.id,m.2.1,m.2.2):=by
 unfold iG;rw[EM];have u:smm rot (fun i=>smm ((mT s.I s.L s.N i).map fun a=>(i,a.1,a.2.1,a.2.2)) w)=smm rot fun i=>smm s.N fun x=>smm (qI s.I s.L s.N x.id) fun m=>if m.1=i then w (i,x.id,m.2.1,m.2.2)else 0:=by
  refine nf fun i _=>?_;rw[Ia];unfold mT;rw[EM];refine nf fun x _=>?_;rw[Jq];refine nf fun m _=>?_;by_cases e:m.1=i
  ·rw[if_pos e,if_pos e]
  ·rw[if_neg e,if_neg e]
 rw[u,KN];refine nf fun x d=>?_;rw[KN];refine nf fun m C=>?_
 have:=((mvF hi d).mem m C).1
 rw[Ib J ((M _).2 this) fun j _ h=>if_neg (fun e=>h e.symm),if_pos rfl]
variable {rot:List Int}
theorem Rm {a:Ent}(h:a∈iG s rot):∃x∈s.N,a.2.1=x.id∧(a.1,a.2.2.1,a.2.2.2)∈qI s.I s.L s.N x.id:=by
 unfold iG mT at h;obtain⟨i,_,h⟩:=List.mem_flatMap.1 h;obtain⟨b,d,rfl⟩:=List.mem_map.1 h;obtain⟨x,j,d⟩:=List.mem_flatMap.1 d;obtain⟨m,u,d⟩:=List.mem_filterMap.1 d;split at d
 ·rename_i e;cases d;exact⟨x,j,rfl,by rw[←e];exact u⟩
 ·cases d
theorem MR (hi:PI s):s.N.Nodup:=hi.srt.imp fun h e=>by rw[e]at h;omega
theorem MS (hi:PI s)(I:rot.Nodup)(J:∀i,i∈rot↔i∈aY s)(d:x∈s.N){k:Nat}(u:k<(aY s).length):vB (iG s rot) x.id ((aY s).getD k 0)=max 0 (nB (qJ s x) k-nB (shP s x) k):=by
 unfold vB;rw[Ix hi I J,Ib (i:=x) (MR hi) d fun y C j=>?_]
 ·rw[←(mvF hi d).out k u];refine nf fun m _=>?_;simp
 ·refine(nf fun m _=>if_neg fun h=>j (GL hi.srt C d h.2)).trans smm_zero
theorem Tz (hi:PI s)(I:rot.Nodup)(J:∀i,i∈rot↔i∈aY s)(d:x∈s.N){k:Nat}(u:k<(aY s).length):Al (iG s rot) x.id ((aY s).getD k 0)=max 0 (nB (shP s x) k-nB (qJ s x) k):=by
 unfold Al;rw[Ix hi I J,Ib (i:=x) (MR hi) d fun y C j=>?_]
 ·rw[←(mvF hi d).inn k u];refine nf fun m _=>?_;simp
 ·refine(nf fun m _=>if_neg fun h=>j (GL hi.srt C d h.2)).trans smm_zero
theorem MT (hi:PI s)(u:rot.Nodup)(C:∀i,i∈rot↔i∈aY s):(iG s rot).length≤s.N.length*((aY s).length-1):=by
 have h:=Mv (l:=iG s rot);rw[Ix hi u C]at h;have d:smm s.N (fun x=>smm (qI s.I s.L s.N x.id) fun _=>(1:Int))≤smm s.N fun _=>(((aY s).length-1:Nat):Int):=Ur fun x j=>by
  rw[←Mv]
  have:=(mvF hi j).len
  omega
 rw[Jg]at d;rw[←h]at d
 exact_mod_cast d
/-! ## One by one -/
structure RunI (s0 s:PL) (d:List Ent):Prop where
 pi:PI s
 I:s.I=s0.I
 L:s.L=s0.L
 ids:s.N.map (fun x=>(x.id,x.par))=s0.N.map fun x=>(x.id,x.par)
 loc:∀id,bL s0.N id=true→∀k,k<6→dG (aN s.N id) k=dG (aN s0.N id) k-vB d id ((k:Nat)+1)+Al d id ((k:Nat)+1)
 cel:∀id,bL s0.N id=true→∀p j,p<6→j<6→nA (aN s.N id) (18+6*p+j)≤nA (aN s0.N id) (18+6*p+j)+vB d id ((p:Nat)+1)
 vs:∀k,k<6→s.V.getD k 0≤s0.V.getD k 0+d.length
theorem RunI.zero (hi:PI s):RunI s s []:=⟨hi,rfl,rfl,rfl,fun _ _ _ _=>by simp[vB,Al,smm],fun _ _ _ _ _ _=>by simp[vB,smm],fun _ _=>by simp⟩
theorem Cj {N N':List ND}(h:N'.map (fun x=>(x.id,x.par))=N.map fun x=>(x.id,x.par))(id:Int):bL N' id=bL N id:=by
 have:=congrArg (fun l:List (Int×Int)=>l.any fun p=>p.1==id) h
 simp only[List.any_map]at this;exact this
structure FX (s0:PL) (T:List Ent):Prop where
 mem:∀a∈T,a.1∈aY s0∧a.2.2.1∈aY s0∧a.1≠a.2.2.1∧bL s0.N a.2.1=true∧0<a.2.2.2
 out:∀id,bL s0.N id=true→∀i∈aY s0,vB T id i≤dG (aN s0.N id) (i-1).toNat
 vb:∀k,k<6→s0.V.getD k 0+T.length+1<M40
 cb:∀id,bL s0.N id=true→∀p j,p<6→j<6→nA (aN s0.N id) (18+6*p+j)+dG (aN s0.N id) p≤MXA
theorem Ck {d r:List Ent}{id i:Int}:vB (d++r) id i=vB d id i+vB r id i:=HZ
theorem Rn {d r:List Ent}{id i:Int}:Al (d++r) id i=Al d id i+Al r id i:=HZ
theorem FY {a:Ent}{id i:Int}:vB [a] id i=if a.1=i∧a.2.1=id then a.2.2.2 else 0:=by unfold vB;rw[iF,HY];omega
theorem Ro {a:Ent}{id i:Int}:Al [a] id i=if a.2.2.1=i∧a.2.1=id then a.2.2.2 else 0:=by unfold Al;rw[iF,HY];omega
theorem MU {d:List Ent}{id i:Int}(h:∀a∈d,0<a.2.2.2):0≤vB d id i:=Pd fun a j=>by have:=h a j;show 0≤(if _ then _ else _:Int);split<;>omega
theorem TA {d:List Ent}{id i:Int}(h:∀a∈d,0<a.2.2.2):0≤Al d id i:=Pd fun a j=>by have:=h a j;show 0≤(if _ then _ else _:Int);split<;>omega
theorem Rp {s0:PL}{d r:List Ent}{a:Ent}(a7:PI s0)(hT:FX s0 (d++a::r))(h:RunI s0 s d):OK (mkE s a) s∧RunI s0 (eff (mkE s a) s) (d++[a]):=by
 obtain⟨m1,m2,m3,m4,m5⟩:=hT.mem a (by simp);obtain⟨i,id,t,x⟩:=a;dsimp only at m1 m2 m3 m4 m5;obtain⟨p,U,rfl,ar,a0⟩:=ro.1 m1;obtain⟨j,hj,rfl,aS,be⟩:=ro.1 m2;have al:p≠j:=fun e=>m3 (by rw[e]);have ep:((p:Int)+1-1).toNat=p:=by omega
 have ej:((j:Int)+1-1).toNat=j:=by omega
 have Z:∀b∈d++((p:Int)+1,id,(j:Int)+1,x)::r,0<b.2.2.2:=fun b hb=>(hT.mem b hb).2.2.2.2;have hd:∀b∈d,0<b.2.2.2:=fun b hb=>Z b (by simp[hb]);have av:∀b∈r,0<b.2.2.2:=fun b hb=>Z b (by simp[hb]);have u:bL s.N id=true:=by rw[Cj h.ids];exact m4
 have ad:=hT.out id m4 _ m1;rw[Ck,show (((p:Int)+1,id,(j:Int)+1,x)::r)=[((p:Int)+1,id,(j:Int)+1,x)]++r from rfl,Ck,FY,if_pos ⟨rfl,rfl⟩,ep]at ad;dsimp only at ad;have bd:=MU (id:=id) (i:=(p:Int)+1) av;have bb:=MU (id:=id) (i:=(p:Int)+1) hd;have a9:=TA (id:=id) (i:=(p:Int)+1) hd;have a3:=h.loc id m4 p U;have a4:=h.cel id m4 p j U hj;have a6:=hT.cb id m4 p j U hj
 have am:=hT.vb p U;have a8:=h.vs p U;rw[List.length_append,List.length_cons]at am;have a2:x≤MXA:=by
  have hm:=kx.1 (h.pi.mayN u)
  have:=Mw hm
  have l0:=hm.l 0 (by omega);have l1:=hm.l 1 (by omega);have l2:=hm.l 2 (by omega);have l3:=hm.l 3 (by omega);have l4:=hm.l 4 (by omega);have l5:=hm.l 5 (by omega)
  have:dG (aN s.N id) p≤MXA:=by
   match p,U with
   | 0,_=>omega
   | 1,_=>omega
   | 2,_=>omega
   | 3,_=>omega
   | 4,_=>omega
   | 5,_=>omega
  omega
 have hq:(mkE s ((p:Int)+1,id,(j:Int)+1,x)).q=p:=ep;have hs:(mkE s ((p:Int)+1,id,(j:Int)+1,x)).s=s.V.getD p 0+1:=by show s.V.getD ((p:Int)+1-1).toNat 0+1=_;rw[ep]
 have vp:=h.pi.vb p U;obtain⟨e,R⟩:∃e,e=mkE s ((p:Int)+1,id,(j:Int)+1,x):=⟨_,rfl⟩
 have eo:e.o=(p:Int)+1:=by rw[R];rfl
 have ek:e.k=5:=by rw[R];rfl
 have en:e.n=id:=by rw[R];rfl
 have et:e.t=(j:Int)+1:=by rw[R];rfl
 have ea:e.a=x:=by rw[R];rfl
 have er:e.r=0:=by rw[R];rfl
 have ef:e.f=0:=by rw[R];rfl
 have eV:∀k,k<6→e.V.getD k 0=s.V.getD k 0:=fun k M=>by rw[R];exact Vr M
 rw[←R]at hq hs ⊢;have X:eE e=true:=by
  unfold eE bV fdE smE otE bV;simp only[Bool.and_eq_true,decide_eq_true_eq,List.all_eq_true,List.mem_range];have e2:(e.o-1).toNat=p:=hq;refine⟨⟨by omega,by omega⟩,by omega,by simp only[M40]at *; omega,by rw[e2,eV p U];omega,fun k M=>by rw[eV k M];exact(h.pi.vb k M).2,?_,?_⟩
  ·rw[R];simp[nW,mkE]
  ·rw[ek];simp only[Int.reduceEq,if_false,if_true,Bool.and_eq_true,decide_eq_true_eq];exact⟨⟨by omega,by simp only[MXA]at a2;omega⟩,⟨by omega,by omega⟩,by omega⟩
 have ag:OK e s:=by
  refine⟨X,Jd X (by rw[hq];exact hs) (fun k M=>by rw[eV k M];exact Int.le_refl _),by rw[hq,h.I];exact ar,by rw[hq,h.L];exact a0,fun k=>by omega,fun k=>by omega,fun k=>by omega,fun k=>by omega,fun _=>?_⟩;rw[en,et,ea,hq,ej];exact⟨u,by rw[h.I];exact aS,by omega,by omega⟩
 refine⟨ag,?_⟩;have hN:(eff e s).N=s.N.map (dN [id] (18+6*p+j) x):=by
  show (nop e s).ap s.N=_;unfold nop;rw[ek,if_neg (by decide),if_neg (by decide),if_neg (by decide),if_neg (by decide),if_pos rfl,en,et,ea,hq,ej];rfl
 have a:=after h.pi ag;refine⟨h.pi.eff ag,?_,?_,?_,fun J C k M=>?_,fun J C p' j' an az=>?_,fun k M=>?_⟩
 ·show mG e s.I=_;unfold mG;rw[if_neg (by omega)];exact h.I
 ·show mH e s.L=_;unfold mH;rw[if_neg (by omega)];exact h.L
 ·rw[hN];exact(AF fun y=>gu y).trans h.ids
 ·rw[hN,Ej h.pi (by rw[Cj h.ids];exact C),Ck,Rn,FY,Ro];dsimp only;have hl:=h.loc J C k M;by_cases e:J=id
  ·subst e;rw[if_pos (by simp),Pq (Dh h.pi u) U hj M al,hl];by_cases e1:k=p
   ·subst e1;rw[if_pos rfl,if_neg al,if_pos ⟨rfl,rfl⟩,if_neg (fun e=>al (by omega))];omega
   ·by_cases e2:k=j
    ·subst e2;rw[if_neg e1,if_pos rfl,if_neg (fun e=>e1 (by omega)),if_pos ⟨rfl,rfl⟩];omega
    ·rw[if_neg e1,if_neg e2,if_neg (fun e=>e1 (by omega)),if_neg (fun e=>e2 (by omega))];omega
  ·rw[if_neg (by simpa using e),if_neg (fun h=>e h.2.symm),if_neg (fun h=>e h.2.symm),hl];omega
 ·rw[hN,Ej h.pi (by rw[Cj h.ids];exact C),Ck,FY];dsimp only;have hl:=h.cel J C p' j' an az;by_cases e:J=id
  ·subst e;rw[if_pos (by simp),lj (by rw[Dh h.pi u];omega)];by_cases e1:p'=p
   ·subst e1;rw[if_pos ⟨rfl,rfl⟩];unfold dlt;split<;>omega
   ·rw[cJ (by omega),if_neg (fun e=>e1 (by omega))];omega
  ·rw[if_neg (by simpa using e),if_neg (fun h=>e h.2.symm)];omega
 ·rw[List.length_append]
  have:=h.vs k M
  by_cases e1:k=e.q
  ·subst e1;rw[a.Ve,List.length_singleton];push_cast;omega
  ·rw[a.V _ e1,List.length_singleton];push_cast;omega
end
end
section
def wM (l:List Int)(f:Nat):List Int:=(List.range l.length).map fun q=>l.getD ((q+f)%l.length) 0
theorem Iy {q f n:Nat}(d:q<n):(q+f)%n=if q+f%n<n then q+f%n else q+f%n-n:=by
 have j:f%n<n:=Nat.mod_lt _ (by omega);rw[Nat.add_mod,Nat.mod_eq_of_lt d];split
 ·rename_i h;exact Nat.mod_eq_of_lt h
 ·rename_i h;rw[Nat.mod_eq_sub_mod (by omega),Nat.mod_eq_of_lt (by omega)]
theorem FZ {l:List Int}{k:Nat}(d:k<l.length):l.getD k 0∈l:=by
 rw[List.getD_eq_getElem?_getD,List.getElem?_eq_getElem d];exact List.getElem_mem _
theorem Rq {l:List Int}(d:l.Nodup){j k:Nat}(C:j<l.length)(u:k<l.length)(h:l.getD j 0=l.getD k 0):j=k:=by
 rw[List.getD_eq_getElem?_getD,List.getElem?_eq_getElem C,List.getD_eq_getElem?_getD,List.getElem?_eq_getElem u]at h;unfold List.Nodup at d;rw[List.pairwise_iff_getElem]at d;rcases Nat.lt_trichotomy j k with e|e|e
 ·exact absurd h (d j k C u e)
 ·exact e
 ·exact absurd h.symm (d k j u C e)
theorem Ga {l:List Int}{f:Nat}{i:Int}:i∈wM l f↔i∈l:=by
 unfold wM;rw[List.mem_map];constructor
 ·rintro⟨q,j,rfl⟩;rw[List.mem_range]at j;exact FZ (Nat.mod_lt _ (by omega))
 ·intro h;obtain⟨k,d,rfl⟩:=List.getElem_of_mem h;have u:f%l.length<l.length:=Nat.mod_lt _ (by omega);refine⟨if f%l.length≤k then k-f%l.length else k+l.length-f%l.length,?_,?_⟩
  ·rw[List.mem_range];split<;>omega
  ·have:((if f%l.length≤k then k-f%l.length else k+l.length-f%l.length)+f)%l.length=k:=by
    rw[Iy (by split<;>omega)];split<;>split<;>omega
   rw[this,List.getD_eq_getElem?_getD,List.getElem?_eq_getElem d];rfl
theorem Cl {l:List Int}{f:Nat}(C:l.Nodup):(wM l f).Nodup:=by
 unfold wM List.Nodup;rw[List.pairwise_map];refine List.Pairwise.imp_of_mem ?_ List.nodup_range;intro a b j u d h;rw[List.mem_range]at j u
 have:=Rq C (Nat.mod_lt _ (by omega)) (Nat.mod_lt _ (by omega)) h
 rw[Iy j,Iy u]at this;apply d;split at this<;>split at this<;>omega
theorem Rr {l:List Int}{f:Nat}:(wM l f).length=l.length:=by simp[wM]
section
variable {s0 s:PL}{rot:List Int}
theorem UD {i:Int}(h:i∈aY s0):∃k,k<(aY s0).length∧(aY s0).getD k 0=i:=by
 obtain⟨k,d,rfl⟩:=List.getElem_of_mem h;exact⟨k,d,by rw[List.getD_eq_getElem?_getD,List.getElem?_eq_getElem d];rfl⟩
theorem VB (hi:PI s0)(X:rot.Nodup)(hr:∀i,i∈rot↔i∈aY s0)(Z:∀k,k<6→s0.V.getD k 0+(iG s0 rot).length+1<M40)(hc:∀id,bL s0.N id=true→∀p j,p<6→j<6→nA (aN s0.N id) (18+6*p+j)+dG (aN s0.N id) p≤MXA):FX s0 (iG s0 rot):=by
 refine⟨fun a ha=>?_,fun id J i C=>?_,Z,hc⟩
 ·obtain⟨x,d,e,hm⟩:=Rm ha;obtain⟨b1,b2,b3,U⟩:=(mvF hi d).mem _ hm;exact⟨b1,b2,b3,by rw[e];exact ky.2 ⟨x,d,rfl⟩,U⟩
 ·obtain⟨x,d,rfl⟩:=lY J;obtain⟨k,u,rfl⟩:=UD C;rw[MS hi X hr d u,oN hi.srt d, ←Lj hi d u];obtain⟨M,_⟩:=Fu (I:=s0.I) (L:=s0.L) (kx.1 (hi.may x d).1);have hh:0≤nB (qJ s0 x) k:=M _ (FZ (by rw[FW];exact u));have hs:0≤nB (shP s0 x) k:=by
   rw[AJ u];exact Pc (by
    have:∀{l:List Int},(∀x∈l,0≤x)→0≤l.sum:=by
     intro l
     induction l with
     | nil=>simp
     | cons y l ih=>intro h;have:=h y (by simp);have:=ih fun z R=>h z (by simp[R]);simp only[List.sum_cons];omega
    exact this M)
  omega
theorem Pr {l:List Int}:jD l l=[]:=by
 refine vt (.inl ?_);have h:=mO (p:=iC l l) (n:=l.length) _ 0 rfl (Nat.zero_le _);by_cases e:fs (iC l l) l.length 0<l.length
 ·have:=h.2.2.2 e
  have:=tP.1 this
  omega
 ·omega
theorem TB {h k:List Int}(j:h.length=k.length)(d:∀i,i<k.length→nB h i=nB k i):h=k:=by
 apply List.ext_getElem j;intro i a b
 have:=d i b
 unfold nB at this;rw[List.getD_eq_getElem?_getD,List.getElem?_eq_getElem a,List.getD_eq_getElem?_getD,List.getElem?_eq_getElem b]at this;exact this
theorem DL {q:Nat}(h:q<(aY s0).length):(aY s0).findIdx (· == (aY s0).getD q 0)=q:=by
 have u:=Hh (s:=s0) h;have d:(aY s0).findIdx (· == (aY s0).getD q 0)<(aY s0).length:=List.findIdx_lt_length_of_exists ⟨_,u,by simp⟩;have j:=List.findIdx_getElem (w:=d) (p:=fun y:Int=>y==(aY s0).getD q 0);refine Ac d h ?_;rw[List.getD_eq_getElem?_getD,List.getElem?_eq_getElem d];exact beq_iff_eq.1 j
theorem TC (hi:PI s0)(hn:rot.Nodup)(hr:∀i,i∈rot↔i∈aY s0)(h:RunI s0 s (iG s0 rot)){y:ND}(hy:y∈s.N):qI s.I s.L s.N y.id=[]∧∃sh:List Int,sh.length=(aY s0).length∧sh.sum≤MXA∧∀q,q<(aY s0).length →
   sv (aN s.N y.id) ((aY s0).getD q 0-1).toNat=nB sh q∧ux s0.I s0.L s0.N y.id ((aY s0).getD q 0)=nB sh q∧ux s.I s.L s.N y.id ((aY s0).getD q 0)=nB sh q∧0≤nB sh q∧nB sh q≤nB sh 0∧nB sh 0-nB sh q≤1:=by
 have C:aY s=aY s0:=by unfold aY;rw[h.I,h.L]
 have V:bL s0.N y.id=true:=by rw[←Cj h.ids];exact ky.2 ⟨y,hy,rfl⟩
 obtain⟨x,hx,Z⟩:=lY V;have ey:=oN h.pi.srt hy;have ex:=oN hi.srt hx;have ar:=kx.1 (hi.may x hx).1;have ap:=kx.1 (h.pi.may y hy).1;obtain⟨h1,h2⟩:=Fu (I:=s0.I) (L:=s0.L) ar;have al:0≤(qJ s0 x).sum:=by
  have:∀{l:List Int},(∀x∈l,0≤x)→0≤l.sum:=by
   intro l
   induction l with
   | nil=>simp
   | cons y l ih=>intro h;have:=h y (by simp);have:=ih fun z hz=>h z (by simp[hz]);simp only[List.sum_cons];omega
  exact this h1
 have ad:∀q,q<(aY s0).length→dG y.A ((aY s0).getD q 0-1).toNat=nB (shP s0 x) q:=fun q u=>by
  obtain⟨j,hj,ej,_⟩:=ro.1 (Hh (s:=s0) u);have R:=h.loc y.id V j hj;have ag:((aY s0).getD q 0-1).toNat=j:=by rw[ej];omega
  rw[←Z]at R;rw[ag, ←ey, ←Z,R, ←ej,MS hi hn hr hx u,Tz hi hn hr hx u,ex,Lj hi hx u,ag];omega
 by_cases R:aY s0=[]
 ·refine⟨MQ (by rw[C];exact R) _,[],by rw[R],by simp[MXA],fun q u=>by rw[R]at u;simp at u⟩
 have an:eA s0.I s0.L 6≠[]:=R;have J:0<(aY s0).length:=List.length_pos_iff.2 R;have U:qJ s y=shP s0 x:=by
  refine TB (by rw[FW,AT,C]) fun i X=>?_;rw[AT]at X;rw[Lj h.pi hy (by rw[C];exact X),C];exact ad i X
 have am:shP s y=shP s0 x:=by
  show shL (qJ s y).sum (aY s).length=_;rw[U,C];show shL (shL (qJ s0 x).sum (aY s0).length).sum _=_;rw[HX _ _ J]
 have d:=Fv h.pi hy (by show aY s≠[];rw[C];exact R);have M:=Fv hi hx an;have d:BP s.I s.L s.N y.id=some (shP s0 x,shP s0 x):=by rw[d];congr 1;exact Prod.ext U am
 rw[Z]at M;refine⟨?_,shP s0 x,AT,by show (shL _ _).sum≤_;rw[HX _ _ J];exact h2,fun q u=>⟨?_,?_,?_,?_,?_,?_⟩⟩
 ·unfold qI;rw[d];dsimp only;rw[Pr];rfl
 ·rw[ey, ←ad q u];obtain⟨j,hj,ej,_⟩:=ro.1 (Hh (s:=s0) u);rw[Ft _ (by omega),kx.2 ap]
 ·unfold ux;rw[M];dsimp only;rw[DL u];rfl
 ·unfold ux;rw[d];dsimp only;rw[show eA s.I s.L 6=aY s0 from C,DL u];rfl
 ·rw[AJ u];exact Pc al
 ·rw[AJ u,AJ J];unfold shr;split<;>split<;>omega
 ·rw[AJ u,AJ J];unfold shr;split<;>split<;>omega
end
/-! ## Small amounts -/
structure PB (s:PL) (m:Int):Prop where
 n:∀x∈s.N,∀c,nA x.A c≤65536*m
 g:∀g∈s.G,g.a≤65536
theorem pb0 (n:Nat):PB (pl0 n) 0:=⟨by simp[pl0],by simp[pl0]⟩
theorem UE {e:EV}{s:PL}{m:Int}(hi:PI s)(h:OK e s)(I:PB s m)(h0:0≤m)(R:e.a≤65536):PB (eff e s) (m+1):=by
 obtain⟨hq,_⟩:=pY h.may;refine⟨fun x C c=>?_,fun g M=>?_⟩
 ·have U:∀{ids:List Int} {c:Nat} {v:Int},nop e s=.bmp ids c v→v≤65536:=fun {ids c v} j=>by
   unfold nop at j;by_cases X:e.k=4
   ·rw[X]at j;simp only[Int.reduceEq,if_false,if_true,NOp.bmp.injEq]at j;obtain⟨_,g,M,_⟩:=h.k4 X;have V:gOf s e=g:=by unfold gOf;rw[M];rfl
    rw[V]at j
    have:=I.g g (pW M).1
    omega
   ·split at j
    ·cases j
    split at j
    ·cases j;exact R
    split at j
    ·cases j;exact R
    split at j
    ·cases j;exact R
    ·cases j
  rcases jL hi h with⟨y,j,J,hp,hA,_⟩|⟨ids,d,v,j,_,_,hd,hv,_⟩|⟨j,_⟩
  ·rw[show (Go.Proofs.YtgpfkmdknlcemaaGreatDoor.eff e s).N=dL y s.N by show (nop e s).ap s.N=_;rw[j];rfl]at C;rcases mM.1 C with rfl|C
   ·rw[hA,show z54.set e.q e.a=z54.set e.q (nA z54 e.q+e.a)by rw[yh];simp,lj (by simp[z54];omega),yh];unfold dlt;split<;>omega
   ·have:=I.n x C c;omega
  ·rw[show (Go.Proofs.YtgpfkmdknlcemaaGreatDoor.eff e s).N=s.N.map (dN ids d v)by show (nop e s).ap s.N=_;rw[j];rfl]at C;obtain⟨y,J,rfl⟩:=List.mem_map.1 C
   have:=I.n y J c
   by_cases Z:y.id∈ids
   ·rw[pV Z];show nA (y.A.set d (nA y.A d+v)) c≤_
    have:=U j
    rw[lj (by rw[hi.A54 y J];exact Di hq hd)];unfold dlt;split<;>omega
   ·rw[oH Z];omega
  ·rw[show (Go.Proofs.YtgpfkmdknlcemaaGreatDoor.eff e s).N=s.N by show (nop e s).ap s.N=_;rw[j];rfl]at C
   have:=I.n x C c;omega
 ·have u:g∈(gop e).ap s.G:=M;unfold gop at u;split at u
  ·rcases BK.1 u with rfl|u
   ·exact R
   ·exact I.g g u
  ·split at u
   ·obtain⟨y,J,rfl⟩:=List.mem_map.1 u
    have:=I.g y J
    unfold mF;split<;>exact this
   ·exact I.g g u
theorem Ps {n:Nat}:∀{E:List EV} {s:PL} {m:Int},PI s→okL eff OK s E→PB s m→0≤m→(∀e∈E,e.a≤65536)→PB (iB eff s E) (m+E.length)
 | [],s,m,_,_,h,_,_=>by simpa[iB]using h
 | e::E,s,m,hi,hk,h,h0,ha=>by
  have:=Ps (n:=n) (E:=E) (hi.eff hk.1) hk.2 (UE hi hk.1 h h0 (ha e (by simp))) (by omega) fun f d=>ha f (by simp[d])
  rw[List.length_cons];have e1:m+1+(E.length:Int)=m+((E.length+1:Nat):Int):=by push_cast;omega
  rw[e1]at this;exact this
end
section
section
variable {S T:List (Int×Int)}{rk:Int→Nat}
theorem MV (h:TK T rk):∀(f:Nat) (id:Int),(cw T f id).length≤upT T rk id
 | 0,_=>Nat.zero_le _
 | f+1,id=>by
  cases d:cf T id with
  | false=>simp[cw,d]
  | true =>
   have u:=MV h f (ew T id);have j:=tM h (mN d);have j:upT T rk (ew T id)<upT T rk id:=j;simp only[cw,d,if_true,List.length_cons];omega
theorem TD (M:(T.map (·.1)).Nodup):∀x∈T,∀y∈T,x.1=y.1→x=y:=by
 intro x I y J h;obtain⟨i,hi,rfl⟩:=List.getElem_of_mem I;obtain⟨j,C,rfl⟩:=List.getElem_of_mem J;have u:=List.pairwise_iff_getElem.1 M;rcases Nat.lt_trichotomy i j with d|d|d
 ·exact absurd (by rw[List.getElem_map,List.getElem_map];exact h) (u i j (by simpa using hi) (by simpa using C) d)
 ·subst d;rfl
 ·exact absurd (by rw[List.getElem_map,List.getElem_map];exact h.symm) (u j i (by simpa using C) (by simpa using hi) d)
theorem insA_fst {L:List (Int×Int)}{i:Nat}{z:Int×Int}:((fa L i z).map (·.1)).Perm (z.1::L.map (·.1)):=by
 unfold fa;rw[List.map_append,List.map_cons];refine List.perm_middle.trans ?_;rw[←List.map_append,List.take_append_drop]
structure RI (T S:List (Int×Int)) (l q:List Int):Prop where
 tk:∃rk,TK S rk
 ids:(S.map (·.1)).Perm l
 nd:l.Nodup
 par:∀n∈q,n∈l∧ew S n=ew T n
theorem RI.nil :RI T [] [] []:=⟨⟨_,TK.nil⟩,.refl _,List.nodup_nil,by simp⟩
theorem RI.has {l q:List Int}(h:RI T S l q){n:Int}:cf S n=true↔n∈l:=by
 rw[je, ←h.ids.mem_iff,List.mem_map]
theorem RI.len {l q:List Int}(h:RI T S l q):S.length=l.length:=by
 have:=h.ids.length_eq;simpa using this
theorem RI.add {l q:List Int}(h:RI T S l q){n x:Int}(h0:n≠0)(hn:n∉l)(hx:x=0∨x∈l)(hl:l.length<32)(h4:x=0∨l.length<4):(iE S n x).2=0∧RI T (iE S n x).1 (n::l) q∧(x=ew T n→RI T (iE S n x).1 (n::l) (n::q)):=by
 obtain⟨rk,R⟩:=h.tk;have ad:=h.len;have I:cf S n=false:=by
  cases Z:cf S n with
  | false=>rfl
  | true=>exact absurd (h.has.1 Z) hn
 have hz:cf S 0=false:=by
  cases Z:cf S 0 with
  | false=>rfl
  | true=>obtain⟨y,hy,e⟩:=je.1 Z;exact absurd e (R.nz y hy)
 have C:x=0∨cf S x=true:=hx.imp id fun hh=>h.has.2 hh;have V : ¬(32≤S.length∨4≤(df S x).length):=by
  have hu:=yf R x;have ag:=MV R (S.length+1) x;rintro(hh|hh)
  ·omega
  ·unfold df at hh;rcases h4 with rfl|h4
   ·rw[cw,hz]at hh;simp at hh
   ·omega
 have e:iE S n x=(fa S (nL (fun y=>decide (n<y.1)) S S.length) (n,x),0):=by
  unfold iE;rw[if_neg h0,I,if_neg (by simp),if_neg (by rintro⟨a,b⟩;rcases C with c|c;exact a c;rw[c]at b;cases b),if_neg V]
 generalize nL (fun y=>decide (n<y.1)) S S.length=i at e;have d:((fa S i (n,x)).map (·.1)).Perm (n::l):=insA_fst.trans (h.ids.cons n);have J:(n::l).Nodup:=List.nodup_cons.2 ⟨hn,h.nd⟩;have M:=TD (d.nodup_iff.2 J);have j:∀m∈q,m∈n::l∧ew (fa S i (n,x)) m=ew T m:=fun m U=>by
  obtain⟨a,b⟩:=h.par m U;refine⟨List.mem_cons_of_mem _ a,?_⟩;rw[←b];exact AG M (rj.2 (.inr (mN (h.has.2 a))))
 have u:ew (fa S i (n,x)) n=x:=AG M (rj.2 (.inl rfl));rw[e];refine⟨rfl,⟨⟨_,R.add h0 I C i⟩,d,J,j⟩,fun X=>⟨⟨_,R.add h0 I C i⟩,d,J,fun m U=>?_⟩⟩;rcases List.mem_cons.1 U with rfl|U
 ·exact⟨List.mem_cons_self ..,u.trans X⟩
 ·exact j m U
theorem Jj (hh:∀n,cf S n=cf T n):∀(f:Nat) (id:Int),(∀n∈cw T f id,ew S n=ew T n)→cw S f id=cw T f id
 | 0,_,_=>rfl
 | f+1,id,h=>by
  cases d:cf T id with
  | false=>simp[cw,hh,d]
  | true =>
   have e:cw T (f+1) id=id::cw T f (ew T id):=by simp[cw,d]
   rw[e]at h ⊢;have j:=h id (by simp);simp only[cw,hh,d,if_true,j];rw[Jj hh f (ew T id) fun n u=>h n (by simp[u])]
theorem RI.err {l:List Int}{id x:Int}(h:RI T S l (df T x))(j:l.Perm (T.map (·.1))):(iE S id x).2=(iE T id x).2:=by
 have hh:∀n,cf S n=cf T n:=fun n=>by
  rw[Bool.eq_iff_iff,h.has,j.mem_iff,je,List.mem_map]
 have d:S.length=T.length:=by rw[h.len,j.length_eq,List.length_map]
 have u:df S x=df T x:=by
  unfold df;rw[d];exact Jj hh _ _ fun n C=>(h.par n C).2
 unfold iE;rw[hh,hh,d,u];split
 ·rfl
 split
 ·rfl
 split
 ·rfl
 split<;>rfl
theorem Jk (C:TK T rk):∀(f:Nat) (id:Int),upT T rk id≤f→∀i n,(cw T f id)[i]? = some n→n≠0∧cf T n=true∧((i+1=(cw T f id).length∧ew T n=0)∨(cw T f id)[i+1]? = some (ew T n))
 | 0,_,_,i,n,h=>by simp[cw]at h
 | f+1,id,hu,i,n,h=>by
  cases j:cf T id with
  | false=>simp[cw,j]at h
  | true =>
   have e:cw T (f+1) id=id::cw T f (ew T id):=by simp[cw,j]
   rw[e]at h ⊢;have J:upT T rk (ew T id)<upT T rk id:=tM C (mN j);cases i with
   | zero =>
    simp at h;subst h;refine⟨C.nz _ (mN j),j,?_⟩;cases d:cf T (ew T id)with
    | false =>
     left;refine⟨?_,?_⟩
     ·cases f<;>simp[cw,d]
     ·rcases C.up _ (mN j)with h0|⟨y,M,e2,_⟩
      ·exact h0
      ·rw[je.2 ⟨y,M,e2⟩]at d;cases d
    | true =>
     right;obtain⟨f',rfl⟩:∃f',f=f'+1:=⟨f-1,by
      have:0<upT T rk (ew T id):=by unfold upT;rw[d];exact Nat.succ_pos _
      omega⟩
     simp[cw,d]
   | succ i =>
    simp only[List.getElem?_cons_succ]at h ⊢;obtain⟨U,I,u⟩:=Jk C f (ew T id) (by omega) i n h;refine⟨U,I,?_⟩;rcases u with⟨u,R⟩|u
    ·exact .inl ⟨by simp;omega,R⟩
    ·exact .inr u
theorem xy (h:TK T rk):∀(f:Nat) (id:Int),(cw T f id).Pairwise fun a b=>upT T rk b<upT T rk a
 | 0,_=>List.Pairwise.nil
 | f+1,id=>by
  cases I:cf T id with
  | false=>simp[cw,I]
  | true =>
   have e:cw T (f+1) id=id::cw T f (ew T id):=by simp[cw,I]
   rw[e,List.pairwise_cons];refine⟨?_,xy h f _⟩;have J:upT T rk (ew T id)<upT T rk id:=tM h (mN I);have C:∀(f:Nat) (j:Int),∀b∈cw T f j,upT T rk b≤upT T rk j:=by
    intro f
    induction f with
    | zero=>intro j b d;simp[cw]at d
    | succ f ih =>
     intro j b d;cases u:cf T j with
     | false=>simp[cw,u]at d
     | true =>
      simp only[cw,u,if_true,List.mem_cons]at d;rcases d with rfl|d
      ·exact Nat.le_refl _
      ·have:=ih _ _ d
       have M:upT T rk (ew T j)<upT T rk j:=tM h (mN u);omega
   intro b d
   have:=C f _ b d
   omega
end
end
section
section
variable {n:Nat}{E:List EV}{s s0:PL}
theorem RQ :∀{E:List EV} {s:PL} {k:Nat} {e:EV},PI s→okL eff OK s E→E[k]? = some e→PI (iB eff s (E.take k))∧OK e (iB eff s (E.take k))∧iB eff s (E.take (k+1))=eff e (iB eff s (E.take k))
 | [],_,_,_,_,_,h=>by simp at h
 | f::E,s,0,e,hi,hk,h=>by
  simp only[List.getElem?_cons_zero,Option.some.injEq]at h;subst h;refine⟨hi,hk.1,?_⟩;show iB eff s (f::E.take 0)=_;rfl
 | f::E,s,k+1,e,hi,hk,h=>RQ (E:=E) (s:=eff f s) (hi.eff hk.1) hk.2 (by simpa using h)
theorem UF :∀{E:List EV} {s:PL} (m:Int),PI s→okL eff OK s E→(∀k,k<6→s.V.getD k 0≤m)→∀k,k<6→(iB eff s E).V.getD k 0≤m+E.length
 | [],_,_,_,_,h,k,hk=>by simpa[iB]using h k hk
 | e::E,s,m,hi,hk,h,k,hk6=>by
  have a:=after hi hk.1
  have:=UF (E:=E) (s:=eff e s) (m+1) (hi.eff hk.1) hk.2 (fun j d=>by
   by_cases u:j=e.q
   ·subst u;rw[a.Ve];have:=h _ d;omega
   ·rw[a.V _ u];have:=h _ d;omega) k hk6
  rw[List.length_cons];show (iB eff (eff e s) E).V.getD k 0≤_;push_cast;omega
theorem NI :∀{E:List EV} {s:PL},PI s→okL eff OK s E→PI (iB eff s E)
 | [],_,hi,_=>hi
 | e::E,s,hi,hk=>NI (E:=E) (s:=eff e s) (hi.eff hk.1) hk.2
def mI (s:PL)(i:Int):List Ent:=(mT s.I s.L s.N i).map fun a=>(i,a.1,a.2.1,a.2.2)
theorem Gb {rot:List Int}{q:Nat}{i:Int}(h:rot[q]? = some i):iG s (rot.take (q+1))=iG s (rot.take q)++mI s i:=by
 unfold iG;rw[List.take_add_one,h,Option.toList_some,List.flatMap_append];simp[mI]
theorem Pt {rot:List Int}{q j:Nat}{i:Int}{x:Int×Int×Int}(h:rot[q]? = some i)(u:(mT s.I s.L s.N i)[j]? = some x):∃r,iG s rot=(iG s (rot.take q)++(mI s i).take j)++(i,x.1,x.2.1,x.2.2)::r:=by
 have M:iG s rot=iG s (rot.take (q+1))++iG s (rot.drop (q+1)):=by
  unfold iG;rw[←List.flatMap_append,List.take_append_drop]
 have R:(mI s i)[j]? = some (i,x.1,x.2.1,x.2.2):=by unfold mI;rw[List.getElem?_map,u];rfl
 obtain⟨d,C⟩:=List.getElem?_eq_some_iff.1 R;refine⟨(mI s i).drop (j+1)++iG s (rot.drop (q+1)),?_⟩;rw[M,Gb h];have J:mI s i=(mI s i).take j++(i,x.1,x.2.1,x.2.2)::(mI s i).drop (j+1):=by
  rw[←C, ←List.drop_eq_getElem_cons d,List.take_append_drop]
 conv=>lhs;rw[J]
 simp
theorem Rs {i:Int}{j:Nat}{x:Int×Int×Int}(h:(mT s.I s.L s.N i)[j]? = some x):(mI s i).take (j+1)=(mI s i).take j++[(i,x.1,x.2.1,x.2.2)]:=by
 have d:(mI s i)[j]? = some (i,x.1,x.2.1,x.2.2):=by unfold mI;rw[List.getElem?_map,h];rfl
 rw[List.take_add_one,d];rfl
theorem Lk {i:Int}:(mI s i).length=(mT s.I s.L s.N i).length:=by unfold mI;rw[List.length_map]
theorem TE {l:List Int}{f q:Nat}(d:q<l.length):(wM l f)[q]? = some (l.getD ((q+f)%l.length) 0):=by
 unfold wM;rw[List.getElem?_map,List.getElem?_range d];rfl
theorem UG {m:Int}{A:List Int}{p:Nat}(h:∀c,nA A c≤65536*m)(j:BG A)(d:p<6):dG A p≤65536*m*8:=by
 have h0:=h p;have X:=j.c p d;have J:=h (12+p);have U:=h (18+6*0+p);have a1:=h (18+6*1+p);have I:=h (18+6*2+p);have R:=h (18+6*3+p);have u:=h (18+6*4+p);have a5:=h (18+6*5+p);have V:=(j.r p 0 d (by omega)).1;have b1:=(j.r p 1 d (by omega)).1;have b2:=(j.r p 2 d (by omega)).1;have Z:=(j.r p 3 d (by omega)).1;have M:=(j.r p 4 d (by omega)).1;have C:=(j.r p 5 d (by omega)).1
 simp only[dG,show List.range 6=[0,1,2,3,4,5]from rfl,List.map_cons,List.map_nil,List.sum_cons,List.sum_nil];omega
theorem Iz (hi:PI s0){rot:List Int}(j:rot.Nodup)(u:∀i,i∈rot↔i∈aY s0)(d:s0.N.length≤30)(I:(aY s0).length≤6):(iG s0 rot).length≤150:=by
 have h:=MT hi j u;have C:(aY s0).length-1≤5:=by omega
 have:=Nat.mul_le_mul d C
 omega
theorem Rt (hi:PI (pl0 n))(h:okL eff OK (pl0 n) E)(hE:E.length≤60)(Z:∀e∈E,e.a≤65536)(u:(iB eff (pl0 n) E).N.length≤30)(X:(aY (iB eff (pl0 n) E)).length≤6){rot:List Int}(J:rot.Nodup)(M:∀i,i∈rot↔i∈aY (iB eff (pl0 n) E)):FX (iB eff (pl0 n) E) (iG (iB eff (pl0 n) E) rot):=by
 have d:=NI hi h;have hb:=Ps (n:=n) hi h (pb0 n) (Int.le_refl _) Z;have hl:=Iz d J M u X;have U:=UF 0 hi h (fun k h=>by
  show (List.replicate 6 (0:Int)).getD k 0≤0;rw[List.getD_eq_getElem?_getD,List.getElem?_replicate,if_pos h];exact Int.le_refl _)
 refine VB d J M (fun k h=>?_) (fun id C p j V hj=>?_)
 ·have:=U k h
  simp only[M40];omega
 ·obtain⟨x,I,rfl⟩:=lY C;rw[oN d.srt I];have R:=hb.n x I;have h2:=UG R (kx.1 (d.may x I).1) V;have h3:=R (18+6*p+j);simp only[MXA];omega
end
end
end Go.Proofs.YtgpfkmdknlcemaaGreatDoor
