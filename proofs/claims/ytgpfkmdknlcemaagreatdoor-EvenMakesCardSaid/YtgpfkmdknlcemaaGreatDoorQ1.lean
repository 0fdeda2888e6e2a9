
namespace Go.Proofs.YtgpfkmdknlcemaaGreatDoor
set_option maxRecDepth 100000
section
abbrev MXA :Int:=1125899906842624
def okA (x:Int):Bool:=decide (0≤x)&&decide (x≤MXA)
def lT (l:List Int):Int×Bool:=match l.all okA with|true=>(l.sum,true)|false=>(0,false)
def nA (A:List Int)(i:Nat):Int:=A.getD i 0
def pU (A:List Int)(k j:Nat):List Int:=nA A (6+k)::(List.range j).map fun j=>nA A (18+6*k+j)
def inL (A:List Int)(k j:Nat):List Int:=nA A k::nA A (12+k)::(List.range j).map fun j=>nA A (18+6*j+k)
def oE (A:List Int)(k:Nat):Int×Bool:=((lT (inL A k 6)).1-(lT (pU A k 6)).1,(lT (pU A k 6)).2&&(lT (inL A k 6)).2)
theorem kH {x:Int}:okA x=true↔0≤x∧x≤MXA:=by simp[okA]
theorem BD :∀{l:List Int},l.all okA=true→0≤l.sum∧l.sum≤MXA*l.length
 | [],_=>by simp
 | x::l,h=>by
  rw[List.all_cons,Bool.and_eq_true]at h;have d:=kH.1 h.1;have j:=BD h.2;simp only[List.sum_cons,List.length_cons];simp only[MXA]at *;omega
def gL (A:List Int):List Int:=(List.range 6).map fun k=>nA A k
def su (A:List Int):Bool :=
 (List.range 6).all (fun k=>(oE A k).2&&decide (0≤(oE A k).1)&&decide (nA A (12+k)≤nA A (6+k))&&decide (nA A (18+6*k+k)=0))&&((lT (gL A)).2&&decide ((lT (gL A)).1≤MXA))
def dG (A:List Int)(k:Nat):Int:=nA A k-nA A (6+k)+nA A (12+k)+((List.range 6).map fun j=>nA A (18+6*j+k)-nA A (18+6*k+j)).sum
def tL (A:List Int)(i:Nat):Bool:=okA (nA A i)&&okA (nA A (6+i))&&okA (nA A (12+i))&&decide (nA A (12+i)≤nA A (6+i))&&decide (nA A (18+6*i+i)=0)&&(List.range 6).all fun j=>okA (nA A (18+6*i+j))
def iO (A:List Int):Bool:=(List.range 6).all (tL A)&&(List.range 6).all (fun k=>decide (0≤dG A k))&&decide ((gL A).sum≤MXA)
def bV (i:Int):Bool:=decide (1≤i)&&decide (i≤6)
structure ND where
 id:Int
 par:Int
 A:List Int
 deriving DecidableEq
def pn (A:List Int)(i x:Int):Int:=if iO A=false∨x<1∨MXA<x then 1 else if bV i=false then 10 else 0
def z54 :List Int:=List.replicate 54 0
def qK (A:List Int)(q:Nat)(x:Int):List Int×Int:=if MXA<nA A q+x then (z54,6)else (A.set q (nA A q+x),0)
def iu (A:List Int)(i x:Int):List Int×Int:=if pn A i x≠0 then (z54,pn A i x)else if dG A (i-1).toNat<x then (z54,11)else qK A (6+(i-1).toNat) x
def iw (A:List Int)(i x:Int):List Int×Int:=if pn A i x≠0 then (z54,pn A i x)else if nA A (6+(i-1).toNat)-nA A (12+(i-1).toNat)<x then (z54,12)else (A.set (12+(i-1).toNat) (nA A (12+(i-1).toNat)+x),0)
def kh (A:List Int)(i j x:Int):List Int×Int :=
 if pn A i x≠0 then (z54,pn A i x)else if bV j=false then (z54,10)else if i=j then (z54,1)else if dG A (i-1).toNat<x then (z54,11)else qK A (18+6*(i-1).toNat+(j-1).toNat) x
structure EV where
 o:Int
 s:Int
 d0:Int
 d1:Int
 d2:Int
 d3:Int
 d4:Int
 d5:Int
 k:Int
 n:Int
 t:Int
 a:Int
 r:Int
 f:Int
 deriving DecidableEq
def EV.V (e:EV):List Int:=[e.d0,e.d1,e.d2,e.d3,e.d4,e.d5]
def nW (e:EV):EV:={e with
 n:=if e.k=1∨e.k=2∨e.k=3∨e.k=5 then e.n else 0
 t:=if e.k=5∨e.k=6 then e.t else 0
 a:=if e.k=1∨e.k=2∨e.k=3∨e.k=5 then e.a else 0
 r:=if e.k=3∨e.k=4 then e.r else 0
 f:=if e.k=4 then e.f else 0}
def smE (e:EV):Bool:=decide (1≤e.a)&&decide (e.a≤1125899906842624)
def otE (e:EV):Bool:=bV e.t&&decide (e.t≠e.o)
def fdE (e:EV):Bool :=
 if e.k=1 then decide (0≤e.a)&&decide (e.a≤1125899906842624)
 else if e.k=2 then smE e
 else if e.k=3 then smE e&&decide (1≤e.r)
 else if e.k=4 then decide (1≤e.r)&&(decide (1≤e.f)&&decide (e.r≠e.f))
 else if e.k=5 then smE e&&otE e
 else if e.k=6 then otE e
 else decide (e.k=7)
def eE (e:EV):Bool:=bV e.o&&(decide (1≤e.s)&&(decide (e.s<1099511627776)&&(decide (e.V.getD (e.o-1).toNat 0=e.s-1)&&((List.range 6).all (fun k=>decide (e.V.getD k 0<1099511627776))&&(decide (e=nW e)&&fdE e)))))
def tt (V:List Int)(e:EV):Bool:=eE e&&decide (e.s≤V.getD (e.o-1).toNat 0)
def gY (V:List Int)(e:EV):Bool:=eE e&&(decide (e.s=V.getD (e.o-1).toNat 0+1)&&(List.range 6).all (fun k=>decide (e.V.getD k 0≤V.getD k 0)))
theorem gJ {e:EV}(h:eE e=true):1≤e.o∧e.o≤6∧1≤e.s∧e.s<1099511627776:=by
 unfold eE at h;simp only[Bool.and_eq_true,decide_eq_true_eq,bV]at h;exact⟨h.1.1,h.1.2,h.2.1,h.2.2.1⟩
structure GR where
 o:Int
 q:Int
 n:Int
 a:Int
 b:Int
 deriving DecidableEq
/-! ## A new one is put among others -/
section
variable {α:Type}
def fa (L:List α)(i:Nat)(z:α):List α:=L.take i++z::L.drop i
theorem nF {L:List α}{i:Nat}{z:α}:(fa L i z).length=L.length+1:=by
 unfold fa;rw[List.length_append,List.length_cons,List.length_take,List.length_drop];omega
theorem vr {L:List α}{i:Nat}{z x:α}(h:i≤L.length):(fa L i z).set i x=fa L i x:=by
 unfold fa;have d:(L.take i).length=i:=by rw[List.length_take];omega
 rw[List.set_append_right _ _ (by omega),d,Nat.sub_self,List.set_cons_zero]
theorem Fk {L:List α}{i:Nat}{z:α}(h0:0<i)(h:i≤L.length):(fa L i z)[i-1]? = L[i-1]? := by
 unfold fa;rw[List.getElem?_append_left (by rw[List.length_take];omega),List.getElem?_take_of_lt (by omega)]
theorem BE {L:List α}{i:Nat}{x:α}(h0:0<i)(h:L[i-1]? = some x):fa L i x=fa L (i-1) x:=by
 obtain⟨u,rfl⟩:=List.getElem?_eq_some_iff.1 h;unfold fa;obtain⟨j,rfl⟩:∃j,i=j+1:=⟨i-1,by omega⟩
 have d:j<L.length:=u;show List.take (j+1) L++L[j]::List.drop (j+1) L=List.take j L++L[j]::List.drop j L;rw[←List.take_append_getElem d,List.drop_eq_getElem_cons d,List.append_assoc];rfl
theorem insA_end {L:List α}{z:α}:fa L L.length z=L++[z]:=by simp[fa]
theorem rj {L:List α}{i:Nat}{z x:α}:x∈fa L i z↔x=z∨x∈L:=by
 unfold fa;rw[List.mem_append,List.mem_cons];constructor
 ·rintro(h|h|h)
  ·exact .inr (List.mem_of_mem_take h)
  ·exact .inl h
  ·exact .inr (List.mem_of_mem_drop h)
 ·rintro(h|h)
  ·exact .inr (.inl h)
  ·have:x∈L.take i++L.drop i:=by rw[List.take_append_drop];exact h
   rcases List.mem_append.1 this with h|h
   ·exact .inl h
   ·exact .inr (.inr h)
end
/-! ## A tree: nodes (what it is, what it is below) -/
structure TK (L:List (Int×Int)) (rk:Int→Nat):Prop where
 low:∀x∈L,rk x.1<L.length
 nz:∀x∈L,x.1≠0
 up:∀x∈L,x.2=0∨∃y∈L,y.1=x.2∧rk y.1<rk x.1
def cf (L:List (Int×Int))(id:Int):Bool:=L.any fun x=>x.1==id
theorem je {L:List (Int×Int)}{id:Int}:cf L id=true↔∃x∈L,x.1=id:=by simp[cf]
def upT (L:List (Int×Int))(rk:Int→Nat)(id:Int):Nat:=match cf L id with|true=>rk id+1|false=>0
theorem TK.nil :TK [] fun _=>0:=⟨by simp,by simp,by simp⟩
theorem yf {L:List (Int×Int)}{rk:Int→Nat}(h:TK L rk)(id:Int):upT L rk id≤L.length:=by
 unfold upT;cases j:cf L id with
 | false=>exact Nat.zero_le _
 | true =>
  obtain⟨x,d,rfl⟩:=je.1 j;exact h.low x d
theorem tM {L:List (Int×Int)}{rk:Int→Nat}(h:TK L rk){x:Int×Int}(d:x∈L):upT L rk x.2<upT L rk x.1:=by
 have u:cf L x.1=true:=je.2 ⟨x,d,rfl⟩;unfold upT;rw[u];cases C:cf L x.2 with
 | false=>exact Nat.succ_pos _
 | true =>
  rcases h.up x d with e|⟨y,I,e,J⟩
  ·obtain⟨z,j,e2⟩:=je.1 C;exact absurd (e2.trans e) (h.nz z j)
  ·show rk x.2+1<rk x.1+1;rw[←e];omega
theorem TK.add {L:List (Int×Int)}{rk:Int→Nat}(h:TK L rk){id par:Int}(h0:id≠0)(M:cf L id=false)(C:par=0∨cf L par=true)(i:Nat):TK (fa L i (id,par)) (fun k=>if k=id then L.length else rk k):=by
 have d:∀x∈L,x.1≠id:=fun x j e=>by
  have:=je.2 ⟨x,j,e⟩
  rw[M]at this;cases this
 refine⟨fun x j=>?_,fun x j=>?_,fun x j=>?_⟩
 ·rw[nF];rcases rj.1 j with e|e
  ·subst e;simp
  ·rw[if_neg (d x e)];have:=h.low x e;omega
 ·rcases rj.1 j with e|e
  ·subst e;exact h0
  ·exact h.nz x e
 ·rcases rj.1 j with e|e
  ·subst e;rcases C with C|C
   ·exact .inl C
   ·obtain⟨y,u,e2⟩:=je.1 C;refine .inr ⟨y,rj.2 (.inr u),e2,?_⟩;rw[if_neg (d y u)];simp only[if_true];exact h.low y u
  ·rcases h.up x e with I|⟨y,u,I,J⟩
   ·exact .inl I
   ·refine .inr ⟨y,rj.2 (.inr u),I,?_⟩;rw[if_neg (d y u),if_neg (d x e)];exact J
def posT (T:List (Int×Int))(id:Int):Nat:=T.findIdx fun x=>x.1==id
def fdT (T:List (Int×Int))(id:Int):Int:=if posT T id<T.length then (posT T id:Nat)else -1
def ew (T:List (Int×Int))(id:Int):Int:=(T.getD (posT T id) (0,0)).2
def cw (T:List (Int×Int)):Nat→Int→List Int
 | 0,_=>[]
 | f+1,id=>if cf T id=true then id::cw T f (ew T id)else []
def df (T:List (Int×Int))(id:Int):List Int:=cw T (T.length+1) id
def nL {α:Type}(f:α→Bool)(L:List α):Nat→Nat
 | 0=>0
 | k+1=>match L[k]? with
  | some x=>if f x=true then nL f L k else k+1
  | none=>k+1
theorem Mm {α:Type}{f:α→Bool}{L:List α}:∀k,nL f L k≤k
 | 0=>Nat.le_refl _
 | k+1=>by
  unfold nL;split
  ·split
   ·have:=Mm (f:=f) (L:=L) k;omega
   ·omega
  ·omega
def iE (T:List (Int×Int))(id par:Int):List (Int×Int)×Int :=
 if id=0 then (T,1)else if cf T id=true then (T,14)else if par≠0∧cf T par=false then (T,9)else if 32≤T.length∨4≤(df T par).length then (T,6)
 else (fa T (nL (fun x=>decide (id<x.1)) T T.length) (id,par),0)
def eA (I L:List Bool)(k:Nat):List Int:=((List.range k).filter fun k=>I.getD k false && !L.getD k false).map fun k=>((k:Nat):Int)+1
def posN (L:List ND)(id:Int):Nat:=L.findIdx fun x=>x.id==id
def fdN (L:List ND)(id:Int):Int:=if posN L id<L.length then (posN L id:Nat)else -1
end
section
structure PL where
 I:List Bool
 L:List Bool
 V:List Int
 N:List ND
 G:List GR
 R:List (List Int)
 deriving DecidableEq
abbrev M40 :Int:=1099511627776
abbrev M47 :Int:=140737488355328
def EV.q (e:EV):Nat:=(e.o-1).toNat
def idE (e:EV):Int:=e.o*M40+e.s
def tr (N:List ND):List (Int×Int):=N.map fun x=>(x.id,x.par)
def bL (N:List ND)(id:Int):Bool:=N.any fun x=>x.id==id
def dh (N:List ND)(id:Int):List Int:=df (tr N) id
def gj (N:List ND)(o:Int):Nat:=(N.filter fun x=>decide (x.id / M40=o)).length
def aN (N:List ND)(id:Int):List Int:=match N.find? fun x=>x.id==id with|some x=>x.A|none=>z54
def iA (G:List GR)(o q:Int):Option GR:=G.find? fun g=>g.o==o&&g.q==q
def jf (R:List (List Int))(k:Nat)(r:Int):Bool:=(R.getD k []).contains r
def dL (x:ND):List ND→List ND
 | []=>[x]
 | y::l=>if x.id<y.id then x::y::l else y::dL x l
def ltG (x y:GR):Prop:=x.o<y.o∨x.o=y.o∧x.q<y.q
instance (x y:GR):Decidable (ltG x y):=inferInstanceAs (Decidable (_∨_))
def ib (x:GR):List GR→List GR
 | []=>[x]
 | y::l=>if ltG x y then x::y::l else y::ib x l
def dN (ids:List Int)(c:Nat)(x:Int)(y:ND):ND:=if ids.contains y.id=true then {y with A:=y.A.set c (nA y.A c+x)} else y
inductive NOp
 | ins (x:ND)
 | bmp (ids:List Int) (c:Nat) (x:Int)
 | non
def NOp.ap :NOp→List ND→List ND
 | .ins x,N=>dL x N
 | .bmp ids c x,N=>N.map (dN ids c x)
 | .non,N=>N
inductive GOp
 | ins (x:GR)
 | upd (o q b:Int)
 | non
def mF (o q b:Int)(g:GR):GR:=if g.o=o∧g.q=q then {g with b:=b} else g
def GOp.ap :GOp→List GR→List GR
 | .ins x,G=>ib x G
 | .upd o q b,G=>G.map (mF o q b)
 | .non,G=>G
def gOf (s:PL)(e:EV):GR:=(iA s.G e.o e.f).getD ⟨0,0,0,0,0⟩
def nop (e:EV)(s:PL):NOp :=
 if e.k=1 then .ins ⟨idE e,e.n,z54.set e.q e.a⟩
 else if e.k=2 then .bmp [e.n] e.q e.a
 else if e.k=3 then .bmp (dh s.N e.n) (6+e.q) e.a
 else if e.k=4 then .bmp (dh s.N (gOf s e).n) (12+e.q) (gOf s e).a
 else if e.k=5 then .bmp [e.n] (18+6*e.q+(e.t-1).toNat) e.a
 else .non
def gop (e:EV):GOp :=
 if e.k=3 then .ins ⟨e.o,e.r,e.n,e.a,0⟩
 else if e.k=4 then .upd e.o e.f e.r
 else .non
def mG (e:EV)(I:List Bool):List Bool:=if e.k=6 then I.set (e.t-1).toNat true else I
def mH (e:EV)(L:List Bool):List Bool:=if e.k=7 then L.set e.q true else L
def kw (e:EV)(R:List (List Int)):List (List Int):=if e.k=3∨e.k=4 then R.set e.q (R.getD e.q []++[e.r])else R
def Df (e:EV)(V:List Int):List Int:=V.set e.q (V.getD e.q 0+1)
def eff (e:EV)(s:PL):PL:=⟨mG e s.I,mH e s.L,Df e s.V,(nop e s).ap s.N,(gop e).ap s.G,kw e s.R⟩
structure OK (e:EV) (s:PL):Prop where
 may:eE e=true
 rdy:gY s.V e=true
 inI:s.I.getD e.q false=true
 notL:s.L.getD e.q false=false
 k1:e.k=1→gj s.N e.o<5∧e.a≤M47∧(e.n=0∨bL s.N e.n=true)∧(dh s.N e.n).length<4
 k2:e.k=2→bL s.N e.n=true∧nA (aN s.N e.n) e.q+e.a≤M47
 k3:e.k=3→jf s.R e.q e.r=false∧bL s.N e.n=true∧∀id∈dh s.N e.n,e.a≤dG (aN s.N id) e.q∧nA (aN s.N id) (6+e.q)+e.a≤MXA
 k4:e.k=4→jf s.R e.q e.r=false∧∃g,iA s.G e.o e.f=some g∧g.b=0∧∀id∈dh s.N g.n,nA (aN s.N id) (12+e.q)+g.a≤nA (aN s.N id) (6+e.q)
 k5:e.k=5→bL s.N e.n=true∧s.I.getD (e.t-1).toNat false=true∧e.a≤dG (aN s.N e.n) e.q∧nA (aN s.N e.n) (18+6*e.q+(e.t-1).toNat)+e.a≤MXA
structure PI (s:PL):Prop where
 i6:s.I.length=6
 l6:s.L.length=6
 v6:s.V.length=6
 r6:s.R.length=6
 vb:∀k,k<6→0≤s.V.getD k 0∧s.V.getD k 0<M40
 A54:∀x∈s.N,x.A.length=54
 may:∀x∈s.N,iO x.A=true∧∀k,k<6→nA x.A k≤M47
 srt:s.N.Pairwise (·.id < ·.id)
 ids:∀x∈s.N,∃o q:Int,1≤o∧o≤6∧1≤q∧q<M40∧x.id=o*M40+q∧q≤s.V.getD (o-1).toNat 0
 own:∀o,gj s.N o≤5
 tk:∃rk,TK (tr s.N) rk
 dep:∀x∈s.N,(dh s.N x.id).length≤4
 gs:s.G.Pairwise ltG
 gk:∀g∈s.G,bL s.N g.n=true∧1≤g.a∧g.a≤MXA∧1≤g.o∧g.o≤6∧1≤g.q∧jf s.R (g.o-1).toNat g.q=true
def pl0 (n:Nat):PL:=⟨(List.range 6).map fun k=>decide (k<n),List.replicate 6 false,List.replicate 6 0,[],[],List.replicate 6 []⟩
/-! ## Rights -/
def dlt (c:Nat)(x:Int)(j:Nat):Int:=if j=c then x else 0
theorem cJ {c j:Nat}{x:Int}(h:j≠c):dlt c x j=0:=by unfold dlt;rw[if_neg h]
theorem ju {c:Nat}{x:Int}:dlt c x c=x:=by unfold dlt;rw[if_pos rfl]
theorem jm {c j:Nat}{x:Int}(h:0≤x):0≤dlt c x j:=by unfold dlt;split<;>omega
theorem lj {A:List Int}{c:Nat}{x:Int}(d:c<A.length)(j:Nat):nA (A.set c (nA A c+x)) j=nA A j+dlt c x j:=by
 unfold nA dlt;by_cases h:j=c
 ·subst h;rw[if_pos rfl];simp[List.getD,d]
 ·have u : ¬c=j:=fun e=>h e.symm;rw[if_neg h];simp[List.getD,u]
theorem BF {A:List Int}{c:Nat}{x:Int}(d:c<A.length)(k:Nat):dG (A.set c (nA A c+x)) k=dG A k+(dlt c x k-dlt c x (6+k)+dlt c x (12+k)
 +((dlt c x (18+6*0+k)-dlt c x (18+6*k+0))+(dlt c x (18+6*1+k)-dlt c x (18+6*k+1))+(dlt c x (18+6*2+k)-dlt c x (18+6*k+2))+(dlt c x (18+6*3+k)-dlt c x (18+6*k+3))+(dlt c x (18+6*4+k)-dlt c x (18+6*k+4))+(dlt c x (18+6*5+k)-dlt c x (18+6*k+5)))):=by
 simp only[dG,show List.range 6=[0,1,2,3,4,5]from rfl,List.map_cons,List.map_nil,List.sum_cons,List.sum_nil,lj d];omega
theorem Fl {A:List Int}{c:Nat}{x:Int}{k:Nat}(C:c<A.length)(h:0≤x)(u:c≠6+k)(d:∀j,j<6→c≠18+6*k+j):dG A k≤dG (A.set c (nA A c+x)) k:=by
 rw[BF C];rw[cJ (j:=6+k) (fun e=>u e.symm),cJ (j:=18+6*k+0) (fun e=>d 0 (by omega) e.symm),cJ (j:=18+6*k+1) (fun e=>d 1 (by omega) e.symm),cJ (j:=18+6*k+2) (fun e=>d 2 (by omega) e.symm),cJ (j:=18+6*k+3) (fun e=>d 3 (by omega) e.symm),cJ (j:=18+6*k+4) (fun e=>d 4 (by omega) e.symm),cJ (j:=18+6*k+5) (fun e=>d 5 (by omega) e.symm)]
 have:=jm (c:=c) (j:=k) h
 have:=jm (c:=c) (j:=12+k) h
 have:=jm (c:=c) (j:=18+6*0+k) h
 have:=jm (c:=c) (j:=18+6*1+k) h
 have:=jm (c:=c) (j:=18+6*2+k) h
 have:=jm (c:=c) (j:=18+6*3+k) h
 have:=jm (c:=c) (j:=18+6*4+k) h
 have:=jm (c:=c) (j:=18+6*5+k) h
 omega
theorem QP {A : List Int} {c : Nat} {x : Int} {k : Nat} (hc : c < A.length) (hx : 0 ≤ x) : dG A k - x ≤ dG (A.set c (nA A c + x)) k := by
  by_cases h6 : c = 6 + k
  · rw [BF hc]
    rw [cJ (j := 18 + 6 * k + 0) (by omega), cJ (j := 18 + 6 * k + 1) (by omega), cJ (j := 18 + 6 * k + 2) (by omega), cJ (j := 18 + 6 * k + 3) (by omega), cJ (j := 18 + 6 * k + 4) (by omega), cJ (j := 18 + 6 * k + 5) (by omega), show dlt c x (6 + k) = x by rw [h6]; exact ju]
    have := jm (c := c) (j := k) hx
    have := jm (c := c) (j := 12 + k) hx
    have := jm (c := c) (j := 18 + 6 * 0 + k) hx
    have := jm (c := c) (j := 18 + 6 * 1 + k) hx
    have := jm (c := c) (j := 18 + 6 * 2 + k) hx
    have := jm (c := c) (j := 18 + 6 * 3 + k) hx
    have := jm (c := c) (j := 18 + 6 * 4 + k) hx
    have := jm (c := c) (j := 18 + 6 * 5 + k) hx
    omega
  · by_cases h18 : ∃ j, j < 6 ∧ c = 18 + 6 * k + j
    · obtain ⟨j, hj, hcj⟩ := h18
      have hs : dlt c x (18 + 6 * k + 0) + dlt c x (18 + 6 * k + 1) + dlt c x (18 + 6 * k + 2) + dlt c x (18 + 6 * k + 3) + dlt c x (18 + 6 * k + 4) + dlt c x (18 + 6 * k + 5) = x := by
        subst hcj
        match j, hj with
        | 0, _ => rw [ju]; repeat rw [cJ (by omega)]
                  omega
        | 1, _ => rw [ju]; repeat rw [cJ (by omega)]
                  omega
        | 2, _ => rw [ju]; repeat rw [cJ (by omega)]
                  omega
        | 3, _ => rw [ju]; repeat rw [cJ (by omega)]
                  omega
        | 4, _ => rw [ju]; repeat rw [cJ (by omega)]
                  omega
        | 5, _ => rw [ju]; repeat rw [cJ (by omega)]
                  omega
      rw [BF hc, cJ (j := 6 + k) (by omega)]
      have := jm (c := c) (j := k) hx
      have := jm (c := c) (j := 12 + k) hx
      have := jm (c := c) (j := 18 + 6 * 0 + k) hx
      have := jm (c := c) (j := 18 + 6 * 1 + k) hx
      have := jm (c := c) (j := 18 + 6 * 2 + k) hx
      have := jm (c := c) (j := 18 + 6 * 3 + k) hx
      have := jm (c := c) (j := 18 + 6 * 4 + k) hx
      have := jm (c := c) (j := 18 + 6 * 5 + k) hx
      omega
    · have := Fl (k := k) hc hx h6 fun j hj e => h18 ⟨j, hj, e⟩
      omega
structure BG (A:List Int):Prop where
 g:∀i,i<6→0≤nA A i∧nA A i≤MXA
 c:∀i,i<6→0≤nA A (6+i)∧nA A (6+i)≤MXA
 f:∀i,i<6→0≤nA A (12+i)∧nA A (12+i)≤nA A (6+i)
 d:∀i,i<6→nA A (18+6*i+i)=0
 r:∀i j,i<6→j<6→0≤nA A (18+6*i+j)∧nA A (18+6*i+j)≤MXA
 l:∀k,k<6→0≤dG A k
 s:(gL A).sum≤MXA
theorem kx {A:List Int}:iO A=true↔BG A:=by
 unfold iO;rw[Bool.and_eq_true,Bool.and_eq_true,List.all_eq_true,List.all_eq_true,decide_eq_true_eq];constructor
 ·rintro⟨⟨R,M⟩,J⟩;have I:∀i,i<6→tL A i=true:=fun i hi=>R i (by simpa using hi);have n:∀i,i<6→((((okA (nA A i)=true∧okA (nA A (6+i))=true)∧okA (nA A (12+i))=true)∧nA A (12+i)≤nA A (6+i))∧nA A (18+6*i+i)=0)∧∀j,j<6→okA (nA A (18+6*i+j))=true:=fun i hi=>by
   have:=I i hi
   unfold tL at this;simp only[Bool.and_eq_true,decide_eq_true_eq,List.all_eq_true]at this;exact⟨this.1,fun j u=>this.2 j (by simpa using u)⟩
  exact⟨fun i hi=>kH.1 (n i hi).1.1.1.1.1,fun i hi=>kH.1 (n i hi).1.1.1.1.2,fun i hi=>⟨(kH.1 (n i hi).1.1.1.2).1,(n i hi).1.1.2⟩,fun i hi=>(n i hi).1.2,fun i j hi u=>kH.1 ((n i hi).2 j u),fun k C=>by simpa using M k (by simpa using C),J⟩
 ·intro h;refine⟨⟨fun i hi=>?_,fun k C=>by simpa using h.l k (by simpa using C)⟩,h.s⟩;have hi:i<6:=by simpa using hi
  unfold tL;simp only[Bool.and_eq_true,decide_eq_true_eq,List.all_eq_true];exact⟨⟨⟨⟨⟨kH.2 (h.g i hi),kH.2 (h.c i hi)⟩,kH.2 ⟨(h.f i hi).1,Int.le_trans (h.f i hi).2 (h.c i hi).2⟩⟩,(h.f i hi).2⟩,h.d i hi⟩,fun j u=>kH.2 (h.r i j hi (by simpa using u))⟩
theorem Kr (A:List Int):(gL A).sum=nA A 0+nA A 1+nA A 2+nA A 3+nA A 4+nA A 5:=by
 simp only[gL,show List.range 6=[0,1,2,3,4,5]from rfl,List.map_cons,List.map_nil,List.sum_cons,List.sum_nil];omega
theorem Mn {A:List Int}{c:Nat}{x:Int}(hA:A.length=54)(h:BG A)(M:0≤x)(hc:c<54)(hm:nA A c+x≤MXA)(R:∀i,i<6→c=12+i→nA A (12+i)+x≤nA A (6+i))(Z:∀i,i<6→c≠18+6*i+i)(hl:∀k,k<6→(c=6+k∨∃j,j<6∧c=18+6*k+j)→x≤dG A k)(hg:c<6→nA A c+x≤M47∧∀i,i<6→nA A i≤M47):BG (A.set c (nA A c+x)):=by
 have u:c<A.length:=by omega
 have C:∀j,nA A j≤nA (A.set c (nA A c+x)) j:=fun j=>by rw[lj u];have:=jm (c:=c) (j:=j) M;omega
 have J:∀j,nA A j≤MXA→nA (A.set c (nA A c+x)) j≤MXA:=fun j I=>by
  rw[lj u];by_cases e:j=c
  ·subst e;rw[ju];exact hm
  ·rw[cJ e];omega
 refine⟨fun i hi=>⟨Int.le_trans (h.g i hi).1 (C _),J _ (h.g i hi).2⟩,fun i hi=>⟨Int.le_trans (h.c i hi).1 (C _),J _ (h.c i hi).2⟩,fun i hi=>⟨Int.le_trans (h.f i hi).1 (C _),?_⟩,fun i hi=>?_,fun i j hi I=>⟨Int.le_trans (h.r i j hi I).1 (C _),J _ (h.r i j hi I).2⟩,fun k V=>?_,?_⟩
 ·have U:=C (6+i);by_cases e:c=12+i
  ·have:=R i hi e
   rw[lj u (12+i),show dlt c x (12+i)=x by rw[e];exact ju];omega
  ·rw[lj u (12+i),cJ (fun e' => e e'.symm)]
   have:=(h.f i hi).2;omega
 ·rw[lj u,cJ (fun e=>Z i hi e.symm),h.d i hi];rfl
 ·by_cases hh:c=6+k∨∃j,j<6∧c=18+6*k+j
  ·have:=hl k V hh
   have:=QP (k:=k) u M
   omega
  ·have:=Fl (k:=k) u M (fun e=>hh (.inl e)) (fun j I e=>hh (.inr ⟨j,I,e⟩))
   have:=h.l k V;omega
 ·rw[Kr];have hs:=h.s;rw[Kr]at hs;by_cases e:c<6
  ·obtain⟨h1,U⟩:=hg e;have b:∀i,i<6→nA (A.set c (nA A c+x)) i≤M47:=fun i hi=>by
    rw[lj u];by_cases X:i=c
    ·subst X;rw[ju];exact h1
    ·rw[cJ X];have:=U i hi;omega
   have:=b 0 (by omega)
   have:=b 1 (by omega)
   have:=b 2 (by omega)
   have:=b 3 (by omega)
   have:=b 4 (by omega)
   have:=b 5 (by omega)
   simp only[M47,MXA]at *;omega
  ·rw[lj u 0,lj u 1,lj u 2,lj u 3,lj u 4,lj u 5]
   repeat rw[cJ (by omega)]
   omega
end
section
/-! ## Nodes -/
section
variable {N:List ND}{id:Int}
theorem ky :bL N id=true↔∃x∈N,x.id=id:=by simp[bL]
theorem jF :cf (tr N) id=bL N id:=by
 unfold cf tr bL;rw[List.any_map];rfl
theorem mM {x y:ND}:∀{N:List ND},y∈dL x N↔y=x∨y∈N
 | []=>by simp[dL]
 | z::N=>by
  unfold dL;split
  ·simp
  ·rw[List.mem_cons,mM (N:=N),List.mem_cons];constructor
   ·rintro(h|h|h)
    ·exact .inr (.inl h)
    ·exact .inl h
    ·exact .inr (.inr h)
   ·rintro(h|h|h)
    ·exact .inr (.inl h)
    ·exact .inl h
    ·exact .inr (.inr h)
theorem Ks {x:ND}:∀{N:List ND},(dL x N).length=N.length+1
 | []=>rfl
 | z::N=>by
  unfold dL;split
  ·rfl
  ·simp[Ks (N:=N)]
theorem Jb {x y:ND}(h:x.id≠y.id):∀{N:List ND},dL x (dL y N)=dL y (dL x N)
 | []=>by
  simp only[dL];by_cases d:x.id<y.id
  ·rw[if_pos d,if_neg (by omega)]
  ·rw[if_neg d,if_pos (by omega)]
 | z::N=>by
  by_cases u:x.id<z.id<;>by_cases j:y.id<z.id
  ·by_cases d:x.id<y.id
   ·simp[dL,u,j,d,show ¬y.id<x.id by omega]
   ·simp[dL,u,j,d,show y.id<x.id by omega]
  ·simp[dL,u,j,show x.id<y.id∨True from .inr trivial,show ¬y.id<x.id by omega]
  ·simp[dL,u,j,show ¬x.id<y.id by omega]
  ·simp[dL,u,j,Jb h (N:=N)]
theorem qE {x:ND}:∀{N:List ND},N.Pairwise (·.id < ·.id)→(∀y∈N,y.id≠x.id)→(dL x N).Pairwise (·.id < ·.id)
 | [],_,_=>by simp[dL]
 | z::N,h,hn=>by
  rw[List.pairwise_cons]at h;unfold dL;split
  ·rename_i j;rw[List.pairwise_cons,List.pairwise_cons];refine⟨fun y d=>?_,h⟩;rcases List.mem_cons.1 d with rfl|d
   ·exact j
   ·have:=h.1 y d;omega
  ·rename_i j;rw[List.pairwise_cons];refine⟨fun y d=>?_,qE h.2 fun y d=>hn y (by simp[d])⟩;rcases mM.1 d with rfl|d
   ·have:=hn z (by simp);omega
   ·exact h.1 y d
theorem Fm {x:ND}{g:ND→ND}(d:g x=x)(h:∀y,(g y).id=y.id):∀{N:List ND},dL x (N.map g)=(dL x N).map g
 | []=>by simp[dL,d]
 | z::N=>by
  simp only[List.map_cons,dL,h];split
  ·simp[d]
  ·simp[Fm d h (N:=N)]
theorem Fo {p:ND→Bool}{x:ND}(j:N.Pairwise (·.id < ·.id))(I:x∈N)(u:∀y,p y=true↔y.id=x.id):N.find? p=some x:=by
 induction N with
 | nil=>simp at I
 | cons z N ih =>
  rw[List.pairwise_cons]at j;by_cases C:z=x
  ·subst C;rw[List.find?_cons_of_pos ((u z).2 rfl)]
  ·have d:x∈N:=by rcases List.mem_cons.1 I with h|h;exact absurd h.symm C;exact h
   have : ¬p z=true:=fun h=>by
    have J:=(u z).1 h
    have:=j.1 x d;omega
   rw[List.find?_cons_of_neg this];exact ih j.2 d
theorem oN {x:ND}(d:N.Pairwise (·.id < ·.id))(h:x∈N):aN N x.id=x.A:=by
 unfold aN;rw[Fo d h (fun y=>by simp)]
theorem lY (h:bL N id=true):∃x∈N,x.id=id:=ky.1 h
theorem GL {x y:ND}(d:N.Pairwise (·.id < ·.id))(u:x∈N)(I:y∈N)(h:x.id=y.id):x=y:=by
 have C:=Fo (p:=fun z=>z.id==x.id) d u (fun y=>by simp);have j:=Fo (p:=fun z=>z.id==x.id) d I (fun z=>by simp[h]);rw[C]at j;exact Option.some.inj j
theorem gu {ids:List Int}{c:Nat}{v:Int}(y:ND):(dN ids c v y).id=y.id∧(dN ids c v y).par=y.par:=by unfold dN;split<;>exact⟨rfl,rfl⟩
theorem pV {ids:List Int}{c:Nat}{v:Int}{y:ND}(h:y.id∈ids):dN ids c v y={y with A:=y.A.set c (nA y.A c+v)}:=by unfold dN;rw[if_pos (List.contains_iff_mem.2 h)]
theorem oH {ids:List Int}{c:Nat}{v:Int}{y:ND}(h:y.id∉ids):dN ids c v y=y:=by unfold dN;rw[if_neg (fun hh=>h (List.contains_iff_mem.1 hh))]
theorem Kt {A:List Int}{c d:Nat}{x y:Int}(h:c≠d):(A.set c (nA A c+x)).set d (nA (A.set c (nA A c+x)) d+y)=(A.set d (nA A d+y)).set c (nA (A.set d (nA A d+y)) c+x):=by
 have u:nA (A.set c (nA A c+x)) d=nA A d:=by unfold nA;simp[List.getD,h]
 have j:nA (A.set d (nA A d+y)) c=nA A c:=by unfold nA;simp[List.getD,show ¬d=c from fun e=>h e.symm]
 rw[u,j,List.set_comm _ _ h]
theorem OM {ids j:List Int}{c d:Nat}{v v':Int}(h:c≠d)(y:ND):dN ids c v (dN j d v' y)=dN j d v' (dN ids c v y):=by
 obtain⟨i,p,A⟩:=y;by_cases C:i∈ids<;>by_cases u:i∈j<;>simp only[dN,List.contains_iff_mem,C,u,if_true,if_false];rw[Kt (A:=A) (x:=v) (y:=v') h]
theorem AF {g:ND→ND}(d:∀y,(g y).id=y.id∧(g y).par=y.par):tr (N.map g)=tr N:=by
 unfold tr;rw[List.map_map];refine List.map_congr_left fun y _=>?_;show ((g y).id,(g y).par)=_;rw[(d y).1,(d y).2]
theorem Fp {g:ND→ND}(d:∀y,(g y).id=y.id):bL (N.map g) id=bL N id:=by
 unfold bL;rw[List.any_map]
 congr 1
 funext y;show ((g y).id==id)=_;rw[d]
theorem BH {x:ND}:bL (dL x N) id=(decide (x.id=id) || bL N id):=by
 rw[Bool.eq_iff_iff,ky,Bool.or_eq_true,ky,decide_eq_true_eq];constructor
 ·rintro⟨y,d,h⟩;rcases mM.1 d with rfl|d
  ·exact .inl h
  ·exact .inr ⟨y,d,h⟩
 ·rintro(h|⟨y,d,h⟩)
  ·exact⟨x,mM.2 (.inl rfl),h⟩
  ·exact⟨y,mM.2 (.inr d),h⟩
theorem BI {g:ND→ND}(d:∀y,(g y).id=y.id){o:Int}:gj (N.map g) o=gj N o:=by
 unfold gj;rw[List.filter_map,List.length_map]
 congr 2
 funext y;show decide ((g y).id / M40=o)=_;rw[d]
theorem BJ {x:ND}{o:Int}:gj (dL x N) o=gj N o+if x.id / M40=o then 1 else 0:=by
 unfold gj
 induction N with
 | nil=>simp only[dL];by_cases h:x.id / M40=o<;>simp[h]
 | cons z N ih =>
  unfold dL;split
  ·by_cases h:x.id / M40=o<;>simp[h]
  ·by_cases d:z.id / M40=o
   ·rw[List.filter_cons_of_pos (by simpa using d),List.filter_cons_of_pos (by simpa using d),List.length_cons,List.length_cons,ih];omega
   ·rw[List.filter_cons_of_neg (by simpa using d),List.filter_cons_of_neg (by simpa using d),ih]
theorem rZ {o s:Int}(d:0≤s)(h:s<M40):(o*M40+s) / M40=o:=by
 have:(o*M40+s) / M40=o+s / M40:=by rw[Int.add_comm,Int.add_mul_ediv_right _ _ (by decide),Int.add_comm]
 rw[this,Int.ediv_eq_zero_of_lt d h];omega
theorem HL (h:∀x∈N,∃o q:Int,1≤o∧o≤6∧1≤q∧q<M40∧x.id=o*M40+q):N.length=gj N 1+gj N 2+gj N 3+gj N 4+gj N 5+gj N 6:=by
 induction N with
 | nil=>rfl
 | cons x N C =>
  have C:=C fun y I=>h y (by simp[I]);obtain⟨o,q,V,U,R,J,M⟩:=h x (by simp);have u:x.id / M40=o:=by rw[M];exact rZ (by omega) J
  have d:∀p:Int,gj (x::N) p=gj N p+if o=p then 1 else 0:=fun p=>by
   unfold gj;by_cases j:o=p
   ·rw[List.filter_cons_of_pos (by simp[u,j]),if_pos j];rfl
   ·rw[List.filter_cons_of_neg (by simp[u,j]),if_neg j];rfl
  rw[List.length_cons,d,d,d,d,d,d]
  have:o=1∨o=2∨o=3∨o=4∨o=5∨o=6:=by omega
  rcases this with rfl|rfl|rfl|rfl|rfl|rfl<;>simp<;>omega
end
/-! ## Paths -/
section
variable {T T':List (Int×Int)}{rk:Int→Nat}
theorem SY {id:Int}(h:cf T id=true):posT T id<T.length∧((T.getD (posT T id) (0,0)).1=id):=by
 obtain⟨x,u,j⟩:=je.1 h;have d:posT T id<T.length:=List.findIdx_lt_length_of_exists ⟨x,u,by simp[j]⟩;refine⟨d,?_⟩
 have:=List.findIdx_getElem (w:=d) (p:=fun x:Int×Int=>x.1==id)
 rw[List.getD_eq_getElem?_getD,List.getElem?_eq_getElem d,Option.getD_some];exact beq_iff_eq.1 this
theorem mN {id:Int}(h:cf T id=true):(id,ew T id)∈T:=by
 obtain⟨d,j⟩:=SY h
 have:T.getD (posT T id) (0,0)∈T:=by
  rw[List.getD_eq_getElem?_getD,List.getElem?_eq_getElem d];exact List.getElem_mem _
 have e:T.getD (posT T id) (0,0)=(id,ew T id):=Prod.ext j rfl;rw[←e];exact this
theorem AG {id p:Int}(d:∀x∈T,∀y∈T,x.1=y.1→x=y)(h:(id,p)∈T):ew T id=p:=by
 have j:cf T id=true:=je.2 ⟨_,h,rfl⟩
 have:=d _ (mN j) _ h rfl
 exact congrArg Prod.snd this
theorem Dg (h:TK T rk):∀(f g:Nat) (id:Int),upT T rk id≤f→upT T rk id≤g→cw T f id=cw T g id
 | 0,0,_,_,_=>rfl
 | f+1,g,id,h1,h2=>by
  cases d:cf T id with
  | false =>
   cases g with
   | zero=>simp[cw,d]
   | succ g=>simp[cw,d]
  | true =>
   have C:upT T rk id=rk id+1:=by unfold upT;rw[d]
   obtain⟨g,rfl⟩:∃I,g=I+1:=⟨g-1,by omega⟩
   have R:upT T rk (ew T id)≤rk id:=by
    have M:=mN d;unfold upT;cases u:cf T (ew T id)with
    | false=>exact Nat.zero_le _
    | true =>
     rcases h.up _ M with h0|⟨y,U,e,j⟩
     ·exfalso;obtain⟨z,J,e⟩:=je.1 u;exact h.nz z J (e.trans h0)
     ·show rk (ew T id)+1≤rk id;have e:y.1=ew T id:=e;rw[←e];exact j
   simp only[cw,d,if_true];rw[Dg h f g (ew T id) (by omega) (by omega)]
 | 0,g+1,id,h1,h2=>by
  cases d:cf T id with
  | false=>simp[cw,d]
  | true =>
   have C:upT T rk id=rk id+1:=by unfold upT;rw[d]
   omega
theorem Ku (d:TK T rk)(j:cf T' 0=false)(u:∀id,cf T id=true→cf T' id=true∧ew T' id=ew T id):∀(f:Nat) (id:Int),cf T id=true∨id=0→cw T' f id=cw T f id
 | 0,_,_=>rfl
 | f+1,id,h=>by
  rcases h with h|rfl
  ·obtain⟨J,I⟩:=u id h;simp only[cw,h,J,if_true,I];rw[Ku d j u f];rcases d.up _ (mN h)with h0|⟨y,M,e,_⟩
   ·exact .inr h0
   ·exact .inl (je.2 ⟨y,M,e⟩)
  ·have:cf T 0=false:=by
    cases R:cf T 0 with
    | false=>rfl
    | true =>
     obtain⟨x,C,e⟩:=je.1 R;exact absurd e (d.nz x C)
   simp[cw,j,this]
theorem Kv :∀(f:Nat) (id:Int),∀x∈cw T f id,cf T x=true
 | 0,_,_,h=>by simp[cw]at h
 | f+1,id,x,h=>by
  unfold cw at h;split at h
  ·rename_i hh;rcases List.mem_cons.1 h with rfl|h
   ·exact hh
   ·exact Kv f _ x h
  ·simp at h
end
section
variable {N:List ND}{id:Int}
theorem mq {x:Int}(h:x∈dh N id):bL N x=true:=by rw[←jF];exact Kv _ _ x h
theorem HM (u:N.Pairwise (·.id < ·.id)):∀x∈tr N,∀y∈tr N,x.1=y.1→x=y:=by
 intro x d y j h;unfold tr at d j;obtain⟨a,C,rfl⟩:=List.mem_map.1 d;obtain⟨b,I,rfl⟩:=List.mem_map.1 j
 have:=GL u C I h
 rw[this]
theorem OO {x:ND}(M:N.Pairwise (·.id < ·.id))(d:∃rk,TK (tr N) rk)(I:bL N x.id=false)(h0:x.id≠0)(h:bL N id=true∨id=0):dh (dL x N) id=dh N id:=by
 obtain⟨rk,d⟩:=d;have R:∀y∈N,y.id≠x.id:=fun y j e=>by rw[ky.2 ⟨y,j,e⟩]at I;cases I
 have C:=qE M R;have J:cf (tr (dL x N)) 0=false:=by
  rw[jF,BH,decide_eq_false h0,Bool.false_or, ←jF];cases U:cf (tr N) 0 with
  | false=>rfl
  | true =>
   obtain⟨y,j,e⟩:=je.1 U;exact absurd e (d.nz y j)
 have u:∀id,cf (tr N) id=true→cf (tr (dL x N)) id=true∧ew (tr (dL x N)) id=ew (tr N) id:=by
  intro i hi;refine⟨?_,?_⟩
  ·rw[jF,BH];rw[jF]at hi;rw[hi,Bool.or_true]
  ·refine AG (HM C) ?_
   have:=mN hi
   unfold tr at this ⊢;obtain⟨y,j,e⟩:=List.mem_map.1 this;exact List.mem_map.2 ⟨y,mM.2 (.inr j),e⟩
 unfold dh df;rw[Ku d J u _ _ (by rw[jF];exact h)];exact Dg d _ _ _ (by have:=yf d id;unfold tr at *; simp[Ks]at *; omega) (by have:=yf d id;omega)
theorem OP {g:ND→ND}(d:∀y,(g y).id=y.id∧(g y).par=y.par):dh (N.map g) id=dh N id:=by unfold dh;rw[AF d]
theorem NA (h:bL N id=true):∃l,dh N id=id::l:=by
 unfold dh df;rw[←jF]at h;exact⟨cw (tr N) (tr N).length (ew (tr N) id),by simp only[cw,h,if_true]⟩
end
/-! ## Grants -/
section
variable {G:List GR}
theorem SZ {x:GR}:¬ltG x x:=by unfold ltG;omega
theorem Kw {x y z:GR}(h:ltG x y)(k:ltG y z):ltG x z:=by unfold ltG at *; omega
theorem BK {x y:GR}:∀{G:List GR},y∈ib x G↔y=x∨y∈G
 | []=>by simp[ib]
 | z::G=>by
  unfold ib;split
  ·simp
  ·rw[List.mem_cons,BK (G:=G),List.mem_cons];constructor
   ·rintro(h|h|h)
    ·exact .inr (.inl h)
    ·exact .inl h
    ·exact .inr (.inr h)
   ·rintro(h|h|h)
    ·exact .inr (.inl h)
    ·exact .inl h
    ·exact .inr (.inr h)
theorem Jc {x y:GR}(h:x.o≠y.o):∀{G:List GR},ib x (ib y G)=ib y (ib x G)
 | []=>by
  simp only[ib];by_cases d:ltG x y
  ·rw[if_pos d,if_neg (by unfold ltG at *; omega)]
  ·rw[if_neg d,if_pos (by unfold ltG at *; omega)]
 | z::G=>by
  by_cases u:ltG x z<;>by_cases j:ltG y z
  ·by_cases d:ltG x y
   ·simp[ib,u,j,d,show ¬ltG y x by unfold ltG at *; omega]
   ·simp[ib,u,j,d,show ltG y x by unfold ltG at *; omega]
  ·simp[ib,u,j,show ¬ltG y x by unfold ltG at *; omega]
  ·simp[ib,u,j,show ¬ltG x y by unfold ltG at *; omega]
  ·simp[ib,u,j,Jc h (G:=G)]
theorem Ae {x:GR}:∀{G:List GR},G.Pairwise ltG→(∀y∈G,¬(y.o=x.o∧y.q=x.q))→(ib x G).Pairwise ltG
 | [],_,_=>by simp[ib]
 | z::G,h,hn=>by
  rw[List.pairwise_cons]at h;unfold ib;split
  ·rename_i j;rw[List.pairwise_cons,List.pairwise_cons];refine⟨fun y d=>?_,h⟩;rcases List.mem_cons.1 d with rfl|d
   ·exact j
   ·exact Kw j (h.1 y d)
  ·rename_i j;rw[List.pairwise_cons];refine⟨fun y d=>?_,Ae h.2 fun y d=>hn y (by simp[d])⟩;rcases BK.1 d with rfl|d
   ·have:=hn z (by simp);unfold ltG at *; omega
   ·exact h.1 y d
theorem Fq {x:GR}{g:GR→GR}(j:g x=x)(d:∀y,(g y).o=y.o∧(g y).q=y.q):∀{G:List GR},ib x (G.map g)=(ib x G).map g
 | []=>by simp[ib,j]
 | z::G=>by
  have e:ltG x (g z)↔ltG x z:=by unfold ltG;rw[(d z).1,(d z).2]
  simp only[List.map_cons,ib];by_cases h:ltG x z
  ·rw[if_pos (e.2 h),if_pos h];simp[j]
  ·rw[if_neg (fun hh=>h (e.1 hh)),if_neg h,List.map_cons,Fq j d (G:=G)]
theorem Kx {x:GR}{o q:Int}(h : ¬(x.o=o∧x.q=q)):∀{G:List GR},iA (ib x G) o q=iA G o q
 | []=>by
  have:(x.o==o&&x.q==q)=false:=by
   cases d:(x.o==o&&x.q==q)with
   | false=>rfl
   | true=>rw[Bool.and_eq_true,beq_iff_eq,beq_iff_eq]at d;exact absurd d h
  simp[iA,ib,List.find?,this]
 | z::G=>by
  have d:(x.o==o&&x.q==q)=false:=by
   cases d:(x.o==o&&x.q==q)with
   | false=>rfl
   | true=>rw[Bool.and_eq_true,beq_iff_eq,beq_iff_eq]at d;exact absurd d h
  unfold ib;split
  ·simp[iA,List.find?,d]
  ·have j:=Kx h (G:=G);unfold iA at j ⊢;simp only[List.find?_cons];split
   ·rfl
   ·exact j
theorem Fr {g:GR→GR}{o q:Int}(d:∀y,(g y).o=y.o∧(g y).q=y.q)(u:∀y,y.o=o→y.q=q→g y=y):∀{G:List GR},iA (G.map g) o q=iA G o q
 | []=>rfl
 | z::G=>by
  have j:=Fr d u (G:=G);unfold iA at j ⊢;simp only[List.map_cons,List.find?_cons,(d z).1,(d z).2];cases h:(z.o==o&&z.q==q)with
  | false=>exact j
  | true =>
   rw[Bool.and_eq_true,beq_iff_eq,beq_iff_eq]at h;show some (g z)=some z;rw[u z h.1 h.2]
theorem pW {o q:Int}{g:GR}(h:iA G o q=some g):g∈G∧g.o=o∧g.q=q:=by
 unfold iA at h;have j:=List.mem_of_find?_eq_some h;have d:=List.find?_some h;rw[Bool.and_eq_true,beq_iff_eq,beq_iff_eq]at d;exact⟨j,d⟩
end
end
section
section
variable {S E:Type}(eff:E→S→S)(ok:E→S→Prop)
def iB (s:S)(l:List E):S:=l.foldl (fun s e=>eff e s) s
def okL :S→List E→Prop
 | _,[]=>True
 | s,e::l=>ok e s∧okL (eff e s) l
variable {eff ok}
theorem yg {s:S}{l l':List E}:iB eff s (l++l')=iB eff (iB eff s l) l':=by unfold iB;rw[List.foldl_append]
theorem AH {l':List E}:∀{l:List E} {s:S},okL eff ok s (l++l')↔okL eff ok s l∧okL eff ok (iB eff s l) l'
 | [],s=>by simp[okL,iB]
 | e::l,s=>by
  have:=AH (l':=l') (l:=l) (s:=eff e s)
  simp only[List.cons_append,okL,this,and_assoc];rfl
structure Sys (eff:E→S→S) (ok:E→S→Prop) (org:E→Nat) (Inv:S→Prop):Prop where
 inv:∀e s,Inv s→ok e s→Inv (eff e s)
 dia:∀e f s,Inv s→org f≠org e→ok e s→ok f s→ok f (eff e s)∧eff f (eff e s)=eff e (eff f s)
variable {org:E→Nat}{Inv:S→Prop}(H:Sys eff ok org Inv)
include H
theorem Sys.invs :∀{l:List E} {s:S},Inv s→okL eff ok s l→Inv (iB eff s l)
 | [],_,h,_=>h
 | e::_,s,h,k=>Sys.invs (s:=eff e s) (H.inv e s h k.1) k.2
theorem Sys.push {e:E}:∀{l:List E} {s:S},Inv s→ok e s→okL eff ok s l→(∀f∈l,org f≠org e)→ok e (iB eff s l)∧okL eff ok (eff e s) l∧iB eff (eff e s) l=eff e (iB eff s l)
 | [],_,_,h,_,_=>⟨h,trivial,rfl⟩
 | f::l,s,hi,he,hl,ho=>by
  have u:org f≠org e:=ho f (by simp);have j:=H.dia e f s hi u he hl.1;have I:=H.dia f e s hi (fun h=>u h.symm) hl.1 he;have d:=Sys.push (l:=l) (s:=eff f s) (H.inv f s hi hl.1) I.1 hl.2 fun g C=>ho g (by simp[C]);refine⟨d.1,⟨j.1,?_⟩,?_⟩
  ·rw[j.2];exact d.2.1
  ·show iB eff (eff f (eff e s)) l=_;rw[j.2];exact d.2.2
end
section
variable {S E:Type}{eff:E→S→S}{ok:E→S→Prop}{org:E→Nat}{seq:E→Int}{dep:E→Nat→Int}{Inv:S→Prop}{s0:S}
def kn (org:E→Nat)(seq:E→Int)(D:Nat→Int)(e:E):Bool:=decide (seq e≤D (org e))
def Closed (org:E→Nat)(seq:E→Int)(dep:E→Nat→Int)(l:List E)(D:Nat→Int):Prop:=∀f∈l,seq f≤D (org f)→∀k,dep f k≤D k
inductive Hist (eff:E→S→S) (ok:E→S→Prop) (org:E→Nat) (seq:E→Int) (dep:E→Nat→Int) (s0:S):List E→Prop
 | nil:Hist eff ok org seq dep s0 []
 | snoc {l:List E} {e:E}:Hist eff ok org seq dep s0 l→(∀f∈l,org f=org e→seq f<seq e)→dep e (org e)=seq e-1→Closed org seq dep l (dep e)→ok e (iB eff s0 (l.filter (kn org seq (dep e))))→Hist eff ok org seq dep s0 (l++[e])
def stD (eff:E→S→S)(org:E→Nat)(seq:E→Int)(s0:S)(l:List E)(D:Nat→Int):S:=iB eff s0 (l.filter (kn org seq D))
theorem Closed.sub {l l':List E}{D:Nat→Int}(h:Closed org seq dep (l++l') D):Closed org seq dep l D:=fun f d=>h f (List.mem_append_left _ d)
theorem nX {D:Nat→Int}{e:E}:kn org seq D e=true↔seq e≤D (org e):=by simp[kn]
theorem vL {p:E→Bool}{l:List E}{e:E}:(l++[e]).filter p=if p e=true then l.filter p++[e]else l.filter p:=by
 rw[List.filter_append];split
 ·rename_i h;rw[List.filter_cons_of_pos h];rfl
 ·rename_i h;rw[List.filter_cons_of_neg h];simp
def knd (org:E→Nat)(seq:E→Int)(D D':Nat→Int)(e:E):Bool:=kn org seq D' e && !kn org seq D e
theorem Hist.main (H:Sys eff ok org Inv)(h0:Inv s0){l:List E}(hh:Hist eff ok org seq dep s0 l):∀D D':Nat→Int,(∀k,D k≤D' k)→Closed org seq dep l D→Closed org seq dep l D' →
  okL eff ok s0 (l.filter (kn org seq D))∧okL eff ok s0 (l.filter (kn org seq D'))∧okL eff ok (iB eff s0 (l.filter (kn org seq D))) (l.filter (knd org seq D D')) ∧
  iB eff (iB eff s0 (l.filter (kn org seq D))) (l.filter (knd org seq D D'))=iB eff s0 (l.filter (kn org seq D')):=by
 induction hh with
 | nil=>intro D D' _ _ _;simp[okL,iB]
 | @snoc l e hl hs hd hc hok ih =>
  intro D D' hD cD C;have d:=ih D D' hD cD.sub C.sub
  -- what may be done by those that know what it needs may be done by those that know more
  have up:∀D',Closed org seq dep (l++[e]) D'→seq e≤D' (org e)→ok e (iB eff s0 (l.filter (kn org seq D'))):=by
   intro D' C he;have Z:=C e (by simp) he;obtain⟨a1,a2,a3,a4⟩:=ih (dep e) D' Z hc C.sub
   have:=(H.push (H.invs h0 a1) hok a3 (fun f I=>?_)).1
   ·rw[a4]at this;exact this
   ·rw[List.mem_filter]at I;obtain⟨I,j⟩:=I;intro J;unfold knd at j;rw[Bool.and_eq_true,Bool.not_eq_true']at j;have h1:=hs f I J;have X:kn org seq (dep e) f=true:=nX.2 (by rw[J,hd];omega);rw[X]at j;exact absurd j.2 (by simp)
  rw[vL,vL,vL];by_cases V:seq e≤D' (org e)
  ·have U:kn org seq D' e=true:=nX.2 V;rw[if_pos U];have u:=up D' C V;by_cases h:seq e≤D (org e)
   ·have k:kn org seq D e=true:=nX.2 h;have M : ¬knd org seq D D' e=true:=by simp[knd,k]
    rw[if_pos k,if_neg M];have R:=up D cD h;obtain⟨p1,p2,p3⟩:=H.push (H.invs h0 d.1) R d.2.2.1 (fun f I=>by
     rw[List.mem_filter]at I;obtain⟨I,j⟩:=I;intro J;unfold knd at j;rw[Bool.and_eq_true,Bool.not_eq_true']at j;have h1:=hs f I J;have X:kn org seq D f=true:=nX.2 (by rw[J];omega);rw[X]at j;exact absurd j.2 (by simp))
    refine⟨AH.2 ⟨d.1,R,trivial⟩,AH.2 ⟨d.2.1,u,trivial⟩,?_,?_⟩
    ·rw[yg];exact p2
    ·rw[yg,yg];show iB eff (eff e _) _=eff e _;rw[p3,d.2.2.2]
   ·have k : ¬kn org seq D e=true:=fun j=>h (nX.1 j);have M:knd org seq D D' e=true:=by simp[knd,k,U]
    rw[if_neg k,if_pos M];refine⟨d.1,AH.2 ⟨d.2.1,u,trivial⟩,AH.2 ⟨d.2.2.1,?_,trivial⟩,?_⟩
    ·rw[d.2.2.2];exact u
    ·rw[yg,yg,d.2.2.2]
  ·have U:¬kn org seq D' e=true:=fun j=>V (nX.1 j);have k : ¬kn org seq D e=true:=fun j=>V (by have:=hD (org e);have:=nX.1 j;omega);have M : ¬knd org seq D D' e=true:=by simp[knd,U]
   rw[if_neg k,if_neg U,if_neg M];exact d
theorem Hist.oks (H:Sys eff ok org Inv)(h0:Inv s0){l:List E}(hh:Hist eff ok org seq dep s0 l){D:Nat→Int}(d:Closed org seq dep l D):okL eff ok s0 (l.filter (kn org seq D)):=(hh.main H h0 D D (fun _=>Int.le_refl _) d d).1
theorem Hist.inv (H:Sys eff ok org Inv)(h0:Inv s0){l:List E}(hh:Hist eff ok org seq dep s0 l){D:Nat→Int}(d:Closed org seq dep l D):Inv (stD eff org seq s0 l D):=H.invs h0 (hh.oks H h0 d)
theorem Hist.uniq {l:List E}(hh:Hist eff ok org seq dep s0 l):l.Nodup∧∀e∈l,∀f∈l,org e=org f→seq e=seq f→e=f:=by
 induction hh with
 | nil=>simp
 | @snoc l e hl hs hd hc hok ih =>
  refine⟨?_,?_⟩
  ·rw[List.nodup_append];refine⟨ih.1,by simp,fun a C b u=>?_⟩;simp only[List.mem_singleton]at u;subst u;rintro rfl
   have:=hs a C rfl
   omega
  ·intro a C b u d I;rcases List.mem_append.1 C with j|j<;>rcases List.mem_append.1 u with h|h
   ·exact ih.2 a j b h d I
   ·rw[List.mem_singleton.1 h]at d I
    have:=hs a j d;omega
   ·rw[List.mem_singleton.1 j]at d I
    have:=hs b h d.symm;omega
   ·rw[List.mem_singleton.1 j,List.mem_singleton.1 h]
theorem GM {p:E→Bool}{e:E}:∀{l:List E},l.Nodup→e∈l→(∀f∈l,p f=true↔f=e)→l.filter p=[e]
 | a::l,hn,he,hp=>by
  rw[List.nodup_cons]at hn;by_cases u:a=e
  ·subst u;rw[List.filter_cons_of_pos ((hp a (by simp)).2 rfl)]
   congr 1
   rw[List.filter_eq_nil_iff];intro f d C
   have:=(hp f (by simp[d])).1 C
   subst this;exact hn.1 d
  ·have : ¬p a=true:=fun h=>u ((hp a (by simp)).1 h)
   rw[List.filter_cons_of_neg this];have j:e∈l:=by rcases List.mem_cons.1 he with h|h;exact absurd h.symm u;exact h
   exact GM hn.2 j fun f d=>hp f (by simp[d])
def upD (D:Nat→Int)(k:Nat)(x:Int):Nat→Int:=fun j=>if j=k then x else D j
theorem Hist.next (H:Sys eff ok org Inv)(h0:Inv s0){l:List E}(hh:Hist eff ok org seq dep s0 l){D:Nat→Int}(hD:Closed org seq dep l D){e:E}(X:e∈l)(hq:D (org e)=seq e-1)(hd:∀k,dep e k≤D k):ok e (stD eff org seq s0 l D)∧eff e (stD eff org seq s0 l D)=stD eff org seq s0 l (upD D (org e) (seq e))∧Closed org seq dep l (upD D (org e) (seq e)):=by
 have j:∀k,D k≤upD D (org e) (seq e) k:=fun k=>by unfold upD;split;subst_vars;omega;omega
 have M:=hh.uniq;have I:∀f∈l,seq f≤upD D (org e) (seq e) (org f)→¬seq f≤D (org f)→f=e:=fun f C u d=>by
  unfold upD at u;split at u
  ·rename_i R;rw[R,hq]at d;exact M.2 f C e X R (by omega)
  ·exact absurd u d
 have V:Closed org seq dep l (upD D (org e) (seq e)):=fun f C u k=>by
  by_cases d:seq f≤D (org f)
  ·exact Int.le_trans (hD f C d k) (j k)
  ·rw[I f C u d];exact Int.le_trans (hd k) (j k)
 obtain⟨a1,a2,Z,U⟩:=hh.main H h0 D _ j hD V;have J:l.filter (knd org seq D (upD D (org e) (seq e)))=[e]:=by
  refine GM M.1 X fun f C=>⟨fun h=>?_,fun h=>?_⟩
  ·unfold knd at h;rw[Bool.and_eq_true,Bool.not_eq_true']at h;refine I f C (nX.1 h.1) fun d=>?_;rw[nX.2 d]at h;exact absurd h.2 (by simp)
  ·subst h;have u:kn org seq (upD D (org f) (seq f)) f=true:=nX.2 (by simp[upD]);have d:kn org seq D f=false:=by
    cases hb:kn org seq D f with
    | false=>rfl
    | true=>have:=nX.1 hb;omega
   simp[knd,u,d]
 rw[J]at Z U;exact⟨Z.1,U,V⟩
end
end
section
section
variable {e f:EV}{s:PL}
theorem pE (h:eE e=true):e.k=1∧0≤e.a∧e.a≤MXA∨e.k=2∧1≤e.a∧e.a≤MXA∨e.k=3∧1≤e.a∧e.a≤MXA∧1≤e.r∨e.k=4∧1≤e.r∧1≤e.f∧e.r≠e.f∨e.k=5∧1≤e.a∧e.a≤MXA∧1≤e.t∧e.t≤6∧e.t≠e.o∨e.k=6∧1≤e.t∧e.t≤6∧e.t≠e.o∨e.k=7:=by
 unfold eE at h;simp only[Bool.and_eq_true]at h;have h:=h.2.2.2.2.2.2;unfold fdE smE otE bV at h;by_cases C:e.k=1
 ·rw[if_pos C]at h;simp only[Bool.and_eq_true,decide_eq_true_eq]at h;exact .inl ⟨C,h⟩
 rw[if_neg C]at h;by_cases J:e.k=2
 ·rw[if_pos J]at h;simp only[Bool.and_eq_true,decide_eq_true_eq]at h;exact .inr (.inl ⟨J,h⟩)
 rw[if_neg J]at h;by_cases u:e.k=3
 ·rw[if_pos u]at h;simp only[Bool.and_eq_true,decide_eq_true_eq]at h;exact .inr (.inr (.inl ⟨u,h.1.1,h.1.2,h.2⟩))
 rw[if_neg u]at h;by_cases d:e.k=4
 ·rw[if_pos d]at h;simp only[Bool.and_eq_true,decide_eq_true_eq]at h;exact .inr (.inr (.inr (.inl ⟨d,h⟩)))
 rw[if_neg d]at h;by_cases j:e.k=5
 ·rw[if_pos j]at h;simp only[Bool.and_eq_true,decide_eq_true_eq]at h;exact .inr (.inr (.inr (.inr (.inl ⟨j,h.1.1,h.1.2,h.2.1.1,h.2.1.2,h.2.2⟩))))
 rw[if_neg j]at h;by_cases I:e.k=6
 ·rw[if_pos I]at h;simp only[Bool.and_eq_true,decide_eq_true_eq]at h;exact .inr (.inr (.inr (.inr (.inr (.inl ⟨I,h.1.1,h.1.2,h.2⟩)))))
 rw[if_neg I]at h;exact .inr (.inr (.inr (.inr (.inr (.inr (by simpa using h))))))
theorem pX {V:List Int}(h:gY V e=true):e.s=V.getD e.q 0+1∧∀k,k<6→e.V.getD k 0≤V.getD k 0:=by
 unfold gY at h;simp only[Bool.and_eq_true,decide_eq_true_eq,List.all_eq_true,List.mem_range]at h;exact h.2
theorem Jd {V:List Int}(j:eE e=true)(h:e.s=V.getD e.q 0+1)(d:∀k,k<6→e.V.getD k 0≤V.getD k 0):gY V e=true:=by
 unfold gY;simp only[Bool.and_eq_true,decide_eq_true_eq,List.all_eq_true,List.mem_range];exact⟨j,h,d⟩
theorem pY (h:eE e=true):e.q<6∧e.o=(e.q:Int)+1:=by
 obtain⟨d,j,_⟩:=gJ h;unfold EV.q;omega
theorem Uo (h:eE e=true)(k:eE f=true)(d:e.o≠f.o):idE e≠idE f:=by
 obtain⟨_,_,I,j⟩:=gJ h;obtain⟨_,_,C,u⟩:=gJ k;intro h;have a:=rZ (o:=e.o) (s:=e.s) (by omega) j;have b:=rZ (o:=f.o) (s:=f.s) (by omega) u;unfold idE at h;rw[h]at a;exact d (a.symm.trans b)
theorem Ei (h:eE e=true):0<idE e:=by
 obtain⟨h0,_,d,j⟩:=gJ h;unfold idE;simp only[M40];omega
theorem PI.new (hi:PI s)(R:eE e=true)(J:gY s.V e=true):bL s.N (idE e)=false:=by
 cases U:bL s.N (idE e)with
 | false=>rfl
 | true =>
  obtain⟨x,M,h⟩:=ky.1 U;obtain⟨o,q,a1,X,Z,u,a5,a6⟩:=hi.ids x M;obtain⟨_,_,h1,I⟩:=gJ R;have d:=rZ (o:=o) (s:=q) (by omega) u;have C:=rZ (o:=e.o) (s:=e.s) (by omega) I;rw[a5]at h;unfold idE at h;rw[h]at d;have j:e.o=o:=C.symm.trans d;subst j
  have:=(pX J).1
  unfold EV.q at this;omega
def Ky (p c:Nat):Prop:=c=p∨c=6+p∨c=12+p∨∃j,j<6∧j≠p∧c=18+6*p+j
theorem HN {p q c d:Nat}(I:p<6)(M:q<6)(h:p≠q)(C:Ky p c)(u:Ky q d):c≠d:=by
 rcases C with rfl|rfl|rfl|⟨j,J,_,rfl⟩<;>rcases u with rfl|rfl|rfl|⟨i,hi,_,rfl⟩<;>omega
theorem jL (hi:PI s)(h:OK e s):(∃x,nop e s=.ins x∧x.id=idE e∧x.par=e.n∧x.A=z54.set e.q e.a∧e.k=1)∨(∃ids c v,nop e s=.bmp ids c v∧e.k≠1∧(∀i∈ids,bL s.N i=true)∧Ky e.q c∧1≤v∧v≤MXA ∧
  ∀i∈ids,nA (aN s.N i) c+v≤MXA∧(c<6→nA (aN s.N i) c+v≤M47)∧(c=12+e.q→nA (aN s.N i) c+v≤nA (aN s.N i) (6+e.q))∧((c=6+e.q∨18≤c)→v≤dG (aN s.N i) e.q))∨nop e s=.non∧e.k≠1:=by
 obtain⟨hq,ho⟩:=pY h.may;have u:∀i,bL s.N i=true→BG (aN s.N i):=fun i hh=>by
  obtain⟨x,M,rfl⟩:=lY hh;rw[oN hi.srt M];exact kx.1 (hi.may x M).1
 rcases pE h.may with⟨k,d,j⟩|⟨k,d,j⟩|⟨k,d,j,X⟩|⟨k,d⟩|⟨k,d,j,X,R,h5⟩|⟨k,_⟩|k<;>unfold nop<;>rw[k]<;>simp only[if_true,if_false,Int.reduceEq]
 ·exact .inl ⟨_,rfl,rfl,rfl,rfl,trivial⟩
 ·refine .inr (.inl ⟨_,_,_,rfl,by decide,?_,.inl rfl,d,j,?_⟩)
  ·intro i hi;rw[List.mem_singleton.1 hi];exact(h.k2 k).1
  ·intro i hi;rw[List.mem_singleton.1 hi]
   have:=(h.k2 k).2
   refine⟨by simp only[MXA,M47]at *; omega,fun _=>this,fun e=>by omega,fun e=>by omega⟩
 ·refine .inr (.inl ⟨_,_,_,rfl,by decide,fun i hi=>mq hi,.inr (.inl rfl),d,j,?_⟩);intro i hi
  have:=(h.k3 k).2.2 i hi
  exact⟨this.2,fun e=>by omega,fun e=>by omega,fun _=>this.1⟩
 ·obtain⟨_,g,J,hb,R⟩:=h.k4 k;have I:gOf s e=g:=by unfold gOf;rw[J];rfl
  obtain⟨gm,_,_⟩:=pW J;have U:=hi.gk g gm;rw[I];refine .inr (.inl ⟨_,_,_,rfl,by decide,fun i hi=>mq hi,.inr (.inr (.inl rfl)),U.2.1,U.2.2.1,?_⟩);intro i C;have a:=R i C;have b:=(u i (mq C)).c e.q hq;exact⟨Int.le_trans a b.2,fun e=>by omega,fun _=>a,fun e=>by omega⟩
 ·obtain⟨a1,a2,Z,V⟩:=h.k5 k;refine .inr (.inl ⟨_,_,_,rfl,by decide,?_,.inr (.inr (.inr ⟨(e.t-1).toNat,by omega,by omega,rfl⟩)),d,j,?_⟩)
  ·intro i hi;rw[List.mem_singleton.1 hi];exact a1
  ·intro i hi;rw[List.mem_singleton.1 hi];exact⟨V,fun e=>by omega,fun e=>by omega,fun _=>Z⟩
 ·exact .inr (.inr ⟨trivial,by decide⟩)
 ·exact .inr (.inr ⟨trivial,by decide⟩)
theorem lZ {o q b:Int}(y:GR):(mF o q b y).o=y.o∧(mF o q b y).q=y.q:=by unfold mF;split<;>exact⟨rfl,rfl⟩
theorem rl {α:Type}{l:List α}{i j:Nat}{x d:α}(h:i<l.length):(l.set i x).getD j d=if j=i then x else l.getD j d:=by
 by_cases e:j=i
 ·subst e;simp[List.getD,h]
 ·have : ¬i=j:=fun h=>e h.symm
  simp[List.getD,this,e]
structure Aft (e:EV) (s s':PL):Prop where
 I:∀k,s.I.getD k false=true→s'.I.getD k false=true
 L:∀k,k≠e.q→s'.L.getD k false=s.L.getD k false
 V:∀k,k≠e.q→s'.V.getD k 0=s.V.getD k 0
 Ve:s'.V.getD e.q 0=s.V.getD e.q 0+1
 R:∀k,k≠e.q→s'.R.getD k []=s.R.getD k []
 G:∀o r,o≠e.o→iA s'.G o r=iA s.G o r
 has:∀id,bL s.N id=true→bL s'.N id=true
 path:∀id,bL s.N id=true∨id=0→dh s'.N id=dh s.N id
 own:∀o,o≠e.o→gj s'.N o=gj s.N o
 loc:∀id,bL s.N id=true→∀k,k<6→k≠e.q→dG (aN s.N id) k≤dG (aN s'.N id) k
 cel:∀id,bL s.N id=true→∀k c,k<6→k≠e.q→Ky k c→nA (aN s'.N id) c=nA (aN s.N id) c
theorem HO (hi:PI s)(h:OK e s){x:ND}(u:x.id=idE e):∀y∈s.N,y.id≠x.id:=fun y d j => by
 have:=hi.new h.may h.rdy
 rw[ky.2 ⟨y,d,j.trans u⟩]at this;cases this
theorem OQ (hi:PI s)(h:OK e s){x:ND}(u:x.id=idE e){id:Int}(d:bL s.N id=true):aN (dL x s.N) id=aN s.N id:=by
 obtain⟨y,j,rfl⟩:=lY d;rw[oN hi.srt j,oN (qE hi.srt (HO hi h u)) (mM.2 (.inr j))]
theorem BM {N:List ND}{g:ND→ND}(d:∀y,(g y).id=y.id)(j:N.Pairwise (·.id < ·.id)):(N.map g).Pairwise (·.id < ·.id):=by
 rw[List.pairwise_map];refine j.imp fun {a b} h=>?_;rw[d,d];exact h
theorem Ej (hi:PI s){ids:List Int}{c:Nat}{v:Int}{id:Int}(d:bL s.N id=true):aN (s.N.map (dN ids c v)) id=if id∈ids then (aN s.N id).set c (nA (aN s.N id) c+v)else aN s.N id:=by
 obtain⟨y,j,rfl⟩:=lY d
 have:=oN (BM (fun y=>(gu (ids:=ids) (c:=c) (v:=v) y).1) hi.srt) (List.mem_map.2 ⟨y,j,rfl⟩)
 rw[(gu y).1]at this;rw[this,oN hi.srt j];split
 ·rename_i h;rw[pV h]
 ·rename_i h;rw[oH h]
theorem Dh (hi:PI s){id:Int}(h:bL s.N id=true):(aN s.N id).length=54:=by
 obtain⟨x,d,rfl⟩:=lY h;rw[oN hi.srt d];exact hi.A54 x d
theorem Di {p c:Nat}(d:p<6)(h:Ky p c):c<54:=by
 rcases h with rfl|rfl|rfl|⟨j,u,_,rfl⟩<;>omega
theorem after (hi:PI s)(h:OK e s):Aft e s (eff e s):=by
 obtain⟨U,ho⟩:=pY h.may;have vq:e.q<s.V.length:=by rw[hi.v6];exact U
 have lq:e.q<s.L.length:=by rw[hi.l6];exact U
 have rq:e.q<s.R.length:=by rw[hi.r6];exact U
 have e1:(eff e s).N=(nop e s).ap s.N:=rfl;refine⟨fun k J=>?_,fun k J=>?_,fun k J=>?_,?_,fun k J=>?_,fun o r hr=>?_,fun id u=>?_,fun id u=>?_,fun o hr=>?_,fun id u k J X=>?_,fun id u k c J X hc=>?_⟩
 ·show (mG e s.I).getD k false=true;unfold mG;split
  ·by_cases Z:(e.t-1).toNat<s.I.length
   ·rw[rl Z];split
    ·rfl
    ·exact J
   ·rw[List.set_eq_of_length_le (by omega)];exact J
  ·exact J
 ·show (mH e s.L).getD k false=_;unfold mH;split
  ·rw[rl lq,if_neg J]
  ·rfl
 ·show (Df e s.V).getD k 0=_;unfold Df;rw[rl vq,if_neg J]
 ·show (Df e s.V).getD e.q 0=_;unfold Df;rw[rl vq,if_pos rfl]
 ·show (kw e s.R).getD k []=_;unfold kw;split
  ·rw[rl rq,if_neg J]
  ·rfl
 ·show iA ((gop e).ap s.G) o r=_;unfold gop;split
  ·exact Kx (fun hh=>hr hh.1.symm)
  ·split
   ·exact Fr lZ (fun y h1 h2=>by unfold mF;rw[if_neg (fun hh=>hr (h1.symm.trans hh.1))])
   ·rfl
 ·rw[e1];rcases jL hi h with⟨x,C,M,_⟩|⟨ids,c,v,C,_⟩|⟨C,_⟩<;>rw[C]
  ·show bL (dL x s.N) id=true;rw[BH,u,Bool.or_true]
  ·exact(Fp fun y=>(gu y).1).trans u
  ·exact u
 ·rw[e1];rcases jL hi h with⟨x,C,M,_⟩|⟨ids,c,v,C,_⟩|⟨C,_⟩<;>rw[C]
  ·exact OO hi.srt hi.tk (by rw[M];exact hi.new h.may h.rdy) (by rw[M];have:=Ei h.may;omega) u
  ·exact OP fun y=>gu y
  ·rfl
 ·rw[e1];rcases jL hi h with⟨x,C,M,_⟩|⟨ids,c,v,C,_⟩|⟨C,_⟩<;>rw[C]
  ·show gj (dL x s.N) o=_;obtain⟨_,_,h1,h2⟩:=gJ h.may;rw[BJ,M,show idE e / M40=e.o from rZ (by omega) h2,if_neg (fun e=>hr e.symm),Nat.add_zero]
  ·exact BI fun y=>(gu y).1
  ·rfl
 ·rw[e1];rcases jL hi h with⟨x,C,M,_⟩|⟨ids,c,v,C,_,_,hc,h1,_⟩|⟨C,_⟩<;>rw[C]
  ·show _≤dG (aN (dL x s.N) id) k;rw[OQ hi h M u];exact Int.le_refl _
  ·show _≤dG (aN (s.N.map (dN ids c v)) id) k;rw[Ej hi u];split
   ·have Z:=Dh hi u;refine Fl (by rw[Z];exact Di U hc) (by omega) (fun e=>HN U J (fun e=>X e.symm) hc (.inr (.inl rfl)) e) fun j hj e=>?_;rcases hc with rfl|rfl|rfl|⟨i,ad,_,rfl⟩<;>omega
   ·exact Int.le_refl _
  ·exact Int.le_refl _
 ·rw[e1];rcases jL hi h with⟨x,C,M,_⟩|⟨ids,d,v,C,_,_,hd,h1,_⟩|⟨C,_⟩<;>rw[C]
  ·show nA (aN (dL x s.N) id) c=_;rw[OQ hi h M u]
  ·show nA (aN (s.N.map (dN ids d v)) id) c=_;rw[Ej hi u];split
   ·have Z:=Dh hi u;rw[lj (by rw[Z];exact Di U hd),cJ (HN J U X hc hd)];omega
   ·rfl
  ·rfl
theorem OK.kept (hi:PI s)(h:OK e s)(C:OK f s)(ho:f.o≠e.o):OK f (eff e s):=by
 have a:=after hi h;obtain⟨hq,eo⟩:=pY h.may;obtain⟨U,fo⟩:=pY C.may;have d:f.q≠e.q:=fun e=>ho (by omega);obtain⟨r1,r2⟩:=pX C.rdy;have ag:∀{id},id∈dh s.N f.n→bL s.N id=true:=fun h=>mq h;refine⟨C.may,Jd C.may (by rw[a.V _ d];exact r1) (fun k hk=>?_),a.I _ C.inI,(a.L _ d).trans C.notL,fun k=>?_,fun k=>?_,fun k=>?_,fun k=>?_,fun k=>?_⟩
 ·have:=r2 k hk
  by_cases e:k=e.q
  ·subst e;rw[a.Ve];omega
  ·rw[a.V _ e];exact this
 ·obtain⟨u,J,M,X⟩:=C.k1 k;have ad:bL s.N f.n=true∨f.n=0:=M.symm;exact⟨by rw[a.own _ ho];exact u,J,M.imp id (a.has _),by rw[a.path _ ad];exact X⟩
 ·obtain⟨u,J⟩:=C.k2 k;exact⟨a.has _ u,by rw[a.cel _ u _ _ U d (.inl rfl)];exact J⟩
 ·obtain⟨u,J,M⟩:=C.k3 k;refine⟨by unfold jf at u ⊢; rw[a.R _ d];exact u,a.has _ J,fun id j=>?_⟩;rw[a.path _ (.inl J)]at j;obtain⟨X,h5⟩:=M id j;have hh:=ag j;exact⟨Int.le_trans X (a.loc _ hh _ U d),by rw[a.cel _ hh _ _ U d (.inr (.inl rfl))];exact h5⟩
 ·obtain⟨u,g,J,M,X⟩:=C.k4 k;refine⟨by unfold jf at u ⊢; rw[a.R _ d];exact u,g,by rw[a.G _ _ ho];exact J,M,fun id j=>?_⟩;have al:=(hi.gk g (pW J).1).1;rw[a.path _ (.inl al)]at j;have hh:=mq j
  have:=X id j
  rw[a.cel _ hh _ _ U d (.inr (.inr (.inl rfl))),a.cel _ hh _ _ U d (.inr (.inl rfl))];exact this
 ·obtain⟨u,J,M,X⟩:=C.k5 k;refine⟨a.has _ u,a.I _ J,Int.le_trans M (a.loc _ u _ U d),?_⟩;rcases pE C.may with⟨Z,_⟩|⟨Z,_⟩|⟨Z,_⟩|⟨Z,_⟩|⟨_,_,_,t1,t2,t3⟩|⟨Z,_⟩|Z<;>try omega
  rw[a.cel _ u _ _ U d (.inr (.inr (.inr ⟨(f.t-1).toNat,by omega,by omega,rfl⟩)))];exact X
theorem Kz (hi:PI s)(h:OK e s)(C:OK f s)(J:f.o≠e.o):nop f (eff e s)=nop f s:=by
 have a:=after hi h;have M:gOf (eff e s) f=gOf s f:=by unfold gOf;rw[a.G _ _ J]
 unfold nop;rw[M];by_cases j:f.k=3
 ·rw[a.path _ (.inl (C.k3 j).2.1)];simp[j]
 ·by_cases d:f.k=4
  ·obtain⟨_,g,I,_⟩:=C.k4 d;have u:gOf s f=g:=by unfold gOf;rw[I];rfl
   rw[u,a.path _ (.inl (hi.gk g (pW I).1).1)];simp[d]
  ·simp[j,d]
theorem QS (hi:PI s)(h:OK e s)(u:OK f s)(R:f.o≠e.o):(nop f s).ap ((nop e s).ap s.N)=(nop e s).ap ((nop f s).ap s.N):=by
 obtain⟨hq,eo⟩:=pY h.may;obtain⟨fq,fo⟩:=pY u.may;have M:f.q≠e.q:=fun e=>R (by omega);have U:∀{e:EV} {x:ND} {ids:List Int} {c:Nat} {v:Int},OK e s→x.id=idE e→(∀i∈ids,bL s.N i=true)→dN ids c v x=x:=fun {e x ids c v} h C hh=>oH fun j=>by
  have:=hi.new h.may h.rdy
  rw[←C,hh _ j]at this;cases this
 rcases jL hi h with⟨x,J,C,_⟩|⟨ids,c,v,J,_,hh,hc,_⟩|⟨J,_⟩<;>rcases jL hi u with⟨y,j,V,_⟩|⟨X,d,v',j,_,I,Z,_⟩|⟨j,_⟩<;>rw[J,j]<;>simp only[NOp.ap]
 ·exact Jb (by rw[C,V];exact Uo u.may h.may R)
 ·exact(Fm (U h C I) (fun y=>(gu y).1)).symm
 ·exact Fm (U u V hh) (fun y=>(gu y).1)
 ·rw[List.map_map,List.map_map];refine List.map_congr_left fun y _=>?_;exact OM (HN fq hq M Z hc) y
theorem QT (d:f.o≠e.o):∀G,(gop f).ap ((gop e).ap G)=(gop e).ap ((gop f).ap G):=by
 intro G;have C:∀{x:GR} {o q b:Int},x.o≠o→mF o q b x=x:=fun h=>by
  unfold mF;rw[if_neg (fun hh=>h hh.1)]
 unfold gop;by_cases e3:e.k=3<;>by_cases I:e.k=4<;>by_cases f3:f.k=3<;>by_cases J:f.k=4<;>simp only[e3,I,f3,J,if_true,if_false,GOp.ap,Int.reduceEq]<;>try omega
 ·exact Jc d
 ·exact(Fq (C (fun e=>d e.symm)) lZ).symm
 ·exact Fq (C d) lZ
 ·rw[List.map_map,List.map_map];refine List.map_congr_left fun y _=>?_;show mF _ _ _ (mF _ _ _ y)=mF _ _ _ (mF _ _ _ y);unfold mF;by_cases u:y.o=e.o∧y.q=e.f
  ·have j : ¬(y.o=f.o∧y.q=f.f):=fun h=>d (h.1.symm.trans u.1);simp[u,show ¬e.o=f.o from fun e=>d e.symm]
  ·by_cases j:y.o=f.o∧y.q=f.f
   ·simp[j,show ¬f.o=e.o from d]
   ·simp[u,j]
theorem QU (hi:PI s)(h:OK e s)(u:OK f s)(j:f.o≠e.o):eff f (eff e s)=eff e (eff f s):=by
 obtain⟨hq,Z⟩:=pY h.may;obtain⟨fq,fo⟩:=pY u.may;have d:f.q≠e.q:=fun e=>j (by omega);have a:=after hi h;have b:=after hi u;have hN:(eff f (eff e s)).N=(eff e (eff f s)).N:=by
  show (nop f (eff e s)).ap ((nop e s).ap s.N)=(nop e (eff f s)).ap ((nop f s).ap s.N);rw[Kz hi h u j,Kz hi u h (fun e=>j e.symm)];exact QS hi h u j
 have hG:(eff f (eff e s)).G=(eff e (eff f s)).G:=QT j s.G;have X:(eff f (eff e s)).V=(eff e (eff f s)).V:=by
  show ((eff e s).V.set f.q ((eff e s).V.getD f.q 0+1))=((eff f s).V.set e.q ((eff f s).V.getD e.q 0+1))
  rw[a.V _ d,b.V _ (fun e=>d e.symm)];show (s.V.set e.q _).set f.q _=(s.V.set f.q _).set e.q _;rw[List.set_comm _ _ (fun e=>d e.symm)]
 have hI:(eff f (eff e s)).I=(eff e (eff f s)).I:=by
  show mG f (mG e s.I)=mG e (mG f s.I);unfold mG;split<;>split<;>try rfl
  by_cases C:(e.t-1).toNat=(f.t-1).toNat
  ·rw[C]
  ·rw[List.set_comm _ _ C]
 have hL:(eff f (eff e s)).L=(eff e (eff f s)).L:=by
  show mH f (mH e s.L)=mH e (mH f s.L);unfold mH;split<;>split<;>try rfl
  rw[List.set_comm _ _ (fun e=>d e.symm)]
 have U:(eff f (eff e s)).R=(eff e (eff f s)).R:=by
  have r1:=a.R _ d;have r2:=b.R _ (fun e=>d e.symm);show kw f (eff e s).R=kw e (eff f s).R;unfold kw;rw[r1,r2];show (if _ then (kw e s.R).set _ _ else kw e s.R)=(if _ then (kw f s.R).set _ _ else kw f s.R)
  unfold kw;by_cases J:f.k=3∨f.k=4<;>by_cases M:e.k=3∨e.k=4<;>simp only[J,M,if_true,if_false];rw[List.set_comm _ _ (fun e=>d e.symm)]
 generalize eff f (eff e s)=x at *;generalize eff e (eff f s)=y at *;cases x;cases y
 simp_all
end
end
section
theorem Mo {x:ND}:∀{N:List ND},∃i,dL x N=fa N i x
 | []=>⟨0,rfl⟩
 | z::N=>by
  unfold dL;split
  ·exact⟨0,rfl⟩
  ·obtain⟨i,h⟩:=Mo (x:=x) (N:=N);exact⟨i+1,by rw[h];rfl⟩
theorem OR {x:ND}{N:List ND}:∃i,tr (dL x N)=fa (tr N) i (x.id,x.par):=by
 obtain⟨i,h⟩:=Mo (x:=x) (N:=N);refine⟨i,?_⟩;rw[h];unfold tr fa;rw[List.map_append,List.map_cons,List.map_take,List.map_drop]
section
variable {e:EV}{s:PL}
theorem T6 :BG z54:=kx.1 (by decide)
theorem yh (i:Nat):nA z54 i=0:=by
 unfold nA z54;rw[List.getD_eq_getElem?_getD,List.getElem?_replicate];split<;>rfl
theorem OS {R:List (List Int)}(j:R.length=6)(u:e.q<6){k:Nat}{r:Int}(h:jf R k r=true):jf (kw e R) k r=true:=by
 unfold kw;split
 ·unfold jf at *;rw[rl (by rw[j];exact u)];split
  ·rename_i d;subst d;rw[List.contains_iff_mem]at h ⊢;exact List.mem_append_left _ h
  ·exact h
 ·exact h
theorem PI.eff (hi:PI s)(h:OK e s):PI (eff e s):=by
 obtain⟨hq,ho⟩:=pY h.may;have hm:=gJ h.may;have a:=after hi h;have X:=hi.new h.may h.rdy;have a7:=pX h.rdy;have a8:=Ei h.may;refine⟨?_,?_,by show (s.V.set _ _).length=6;rw[List.length_set];exact hi.v6,?_,fun k U=>?_,fun x d=>?_,fun x d=>?_,?_,fun x d=>?_,fun o=>?_,?_,fun x d=>?_,?_,fun g hg=>?_⟩
 ·show (mG e s.I).length=6;unfold mG;split
  ·rw[List.length_set];exact hi.i6
  ·exact hi.i6
 ·show (mH e s.L).length=6;unfold mH;split
  ·rw[List.length_set];exact hi.l6
  ·exact hi.l6
 ·show (kw e s.R).length=6;unfold kw;split
  ·rw[List.length_set];exact hi.r6
  ·exact hi.r6
 ·by_cases ek:k=e.q
  ·subst ek;rw[a.Ve, ←a7.1];simp only[M40]at *; omega
  ·rw[a.V _ ek];exact hi.vb k U
 ·rcases jL hi h with⟨y,u,C,Z,hA,_⟩|⟨ids,c,v,u,_⟩|⟨u,_⟩
  ·rw[show (Go.Proofs.YtgpfkmdknlcemaaGreatDoor.eff e s).N=dL y s.N by show (nop e s).ap s.N=_;rw[u];rfl]at d;rcases mM.1 d with rfl|d
   ·rw[hA];simp[z54]
   ·exact hi.A54 x d
  ·rw[show (Go.Proofs.YtgpfkmdknlcemaaGreatDoor.eff e s).N=s.N.map (dN ids c v)by show (nop e s).ap s.N=_;rw[u];rfl]at d;obtain⟨y,C,rfl⟩:=List.mem_map.1 d;unfold dN;split
   ·show (y.A.set _ _).length=54;rw[List.length_set];exact hi.A54 y C
   ·exact hi.A54 y C
  ·rw[show (Go.Proofs.YtgpfkmdknlcemaaGreatDoor.eff e s).N=s.N by show (nop e s).ap s.N=_;rw[u];rfl]at d;exact hi.A54 x d
 ·rcases jL hi h with⟨y,u,C,Z,hA,k1⟩|⟨ids,c,v,u,_,hh,hc,bb,bd,hb⟩|⟨u,_⟩
  ·rw[show (Go.Proofs.YtgpfkmdknlcemaaGreatDoor.eff e s).N=dL y s.N by show (nop e s).ap s.N=_;rw[u];rfl]at d;rcases mM.1 d with rfl|d
   ·have hz:z54.set e.q e.a=z54.set e.q (nA z54 e.q+e.a):=by rw[yh];simp
    have a0:0≤e.a:=by rcases pE h.may with⟨_,h1,_⟩|⟨k,_⟩|⟨k,_⟩|⟨k,_⟩|⟨k,_⟩|⟨k,_⟩|k<;>omega
    have ha:=(h.k1 k1).2.1;rw[hA,hz];refine⟨kx.2 (Mn (by simp[z54]) T6 a0 (by omega) (by rw[yh];simp only[MXA,M47]at *; omega) (fun i hi e=>by omega) (fun i hi e=>by omega) (fun k U hh=>by rcases hh with hh|⟨j,_,hh⟩<;>omega) (fun _=>⟨by rw[yh];omega,fun i _=>by rw[yh];decide⟩)),fun k U=>?_⟩;rw[lj (by simp[z54];omega),yh];unfold dlt;split
    ·omega
    ·simp only[M47];omega
   ·exact hi.may x d
  ·rw[show (Go.Proofs.YtgpfkmdknlcemaaGreatDoor.eff e s).N=s.N.map (dN ids c v)by show (nop e s).ap s.N=_;rw[u];rfl]at d;obtain⟨y,C,rfl⟩:=List.mem_map.1 d;by_cases ad:y.id∈ids
   ·have ar:=hb _ ad;rw[oN hi.srt C]at ar;obtain⟨b1,b2,b3,b4⟩:=ar;obtain⟨m1,m2⟩:=hi.may y C;have m1:=kx.1 m1;have hl:=hi.A54 y C;rw[pV ad];show iO (y.A.set c (nA y.A c+v))=true∧_;refine⟨kx.2 (Mn hl m1 (by omega) (Di hq hc) b1 (fun i hi av=>?_) (fun i hi a9=>?_) (fun k U hh=>?_) (fun c6=>⟨b2 c6,fun i hi=>m2 i hi⟩)),fun k U=>?_⟩
    ·have:c=12+e.q:=by rcases hc with rfl|rfl|rfl|⟨j,hj,_,rfl⟩<;>omega
     have h3:=b3 this
     have:i=e.q:=by omega
     subst this;rw[av]at h3;exact h3
    ·rcases hc with rfl|rfl|rfl|⟨j,hj,am,rfl⟩<;>omega
    ·rcases hh with hh|⟨j,hj,hh⟩
     ·have:k=e.q:=by rcases hc with rfl|rfl|rfl|⟨j,hj,am,rfl⟩<;>omega
      subst this;exact b4 (.inl hh)
     ·have:k=e.q:=by rcases hc with rfl|rfl|rfl|⟨i,hi,am,rfl⟩<;>omega
      subst this;exact b4 (.inr (by omega))
    ·show nA (y.A.set c (nA y.A c+v)) k≤M47;rw[lj (by rw[hl];exact Di hq hc)];by_cases ec:k=c
     ·subst ec;rw[ju];exact b2 U
     ·rw[cJ ec];have:=m2 k U;omega
   ·rw[oH ad];exact hi.may y C
  ·rw[show (Go.Proofs.YtgpfkmdknlcemaaGreatDoor.eff e s).N=s.N by show (nop e s).ap s.N=_;rw[u];rfl]at d;exact hi.may x d
 ·show ((nop e s).ap s.N).Pairwise _;rcases jL hi h with⟨y,u,C,_⟩|⟨ids,c,v,u,_⟩|⟨u,_⟩<;>rw[u]
  ·exact qE hi.srt (HO hi h C)
  ·exact BM (fun y=>(gu y).1) hi.srt
  ·exact hi.srt
 ·have J:∀x∈s.N,∃o q:Int,1≤o∧o≤6∧1≤q∧q<M40∧x.id=o*M40+q∧q≤(Go.Proofs.YtgpfkmdknlcemaaGreatDoor.eff e s).V.getD (o-1).toNat 0:=fun x d=>by
   obtain⟨o,q,a1,a2,a3,a4,a5,a6⟩:=hi.ids x d;refine⟨o,q,a1,a2,a3,a4,a5,?_⟩;by_cases ek:(o-1).toNat=e.q
   ·rw[ek,a.Ve];rw[ek]at a6;omega
   ·rw[a.V _ ek];exact a6
  rcases jL hi h with⟨y,u,C,Z,hA,_⟩|⟨ids,c,v,u,_⟩|⟨u,_⟩
  ·rw[show (Go.Proofs.YtgpfkmdknlcemaaGreatDoor.eff e s).N=dL y s.N by show (nop e s).ap s.N=_;rw[u];rfl]at d;rcases mM.1 d with rfl|d
   ·refine⟨e.o,e.s,hm.1,hm.2.1,hm.2.2.1,hm.2.2.2,C,?_⟩;rw[show (e.o-1).toNat=e.q from rfl,a.Ve];omega
   ·exact J x d
  ·rw[show (Go.Proofs.YtgpfkmdknlcemaaGreatDoor.eff e s).N=s.N.map (dN ids c v)by show (nop e s).ap s.N=_;rw[u];rfl]at d;obtain⟨y,C,rfl⟩:=List.mem_map.1 d;rw[(gu y).1];exact J y C
  ·rw[show (Go.Proofs.YtgpfkmdknlcemaaGreatDoor.eff e s).N=s.N by show (nop e s).ap s.N=_;rw[u];rfl]at d;exact J x d
 ·show gj ((nop e s).ap s.N) o≤5;rcases jL hi h with⟨y,u,C,_,_,k1⟩|⟨ids,c,v,u,_⟩|⟨u,_⟩<;>rw[u]
  ·show gj (dL y s.N) o≤5;rw[BJ,C,show idE e / M40=e.o from rZ (by omega) hm.2.2.2];split
   ·rename_i eo;rw[←eo];have:=(h.k1 k1).1;omega
   ·have:=hi.own o;omega
  ·exact Nat.le_trans (Nat.le_of_eq (BI fun y=>(gu y).1)) (hi.own o)
  ·exact hi.own o
 ·show ∃rk,TK (tr ((nop e s).ap s.N)) rk;obtain⟨rk,U⟩:=hi.tk;rcases jL hi h with⟨y,u,C,Z,_,k1⟩|⟨ids,c,v,u,_⟩|⟨u,_⟩<;>rw[u]
  ·obtain⟨i,ht⟩:=OR (x:=y) (N:=s.N);show ∃rk,TK (tr (dL y s.N)) rk;rw[ht];exact⟨_,U.add (by rw[C];omega) (by rw[jF,C];exact X) (by rw[jF,Z];exact(h.k1 k1).2.2.1) i⟩
  ·exact⟨rk,by show TK (tr (s.N.map _)) rk;rw[AF fun y=>gu y];exact U⟩
  ·exact⟨rk,U⟩
 ·have J:∀x∈s.N,(dh (Go.Proofs.YtgpfkmdknlcemaaGreatDoor.eff e s).N x.id).length≤4:=fun x d=>by
   rw[a.path _ (.inl (ky.2 ⟨x,d,rfl⟩))];exact hi.dep x d
  rcases jL hi h with⟨y,u,C,Z,hA,k1⟩|⟨ids,c,v,u,_⟩|⟨u,_⟩
  ·have eN:(Go.Proofs.YtgpfkmdknlcemaaGreatDoor.eff e s).N=dL y s.N:=by show (nop e s).ap s.N=_;rw[u];rfl
   rw[eN]at d;rcases mM.1 d with rfl|d
   ·obtain⟨k2,k3,k4,k5⟩:=h.k1 k1;have an:=a.path e.n (k4.symm);rw[eN]at an ⊢;obtain⟨rk,U⟩:=hi.tk;obtain⟨i,ht⟩:=OR (x:=x) (N:=s.N);have ag:=U.add (id:=x.id) (par:=x.par) (by rw[C];omega) (by rw[jF,C];exact X) (by rw[jF,Z];exact k4) i;rw[←ht]at ag;have hh:cf (tr (dL x s.N)) x.id=true:=by rw[jF,BH];simp
    have al:ew (tr (dL x s.N)) x.id=x.par:=AG (HM (qE hi.srt (HO hi h C))) (List.mem_map.2 ⟨x,mM.2 (.inl rfl),rfl⟩);have hu:=yf ag x.par;have az:dh (dL x s.N) x.id=x.id::dh (dL x s.N) x.par:=by
     unfold dh df;rw[cw,hh,if_pos rfl,al]
     congr 1
     refine Dg ag _ _ _ ?_ (by omega);exact hu
    rw[az,List.length_cons,Z,an];omega
   ·exact J x d
  ·rw[show (Go.Proofs.YtgpfkmdknlcemaaGreatDoor.eff e s).N=s.N.map (dN ids c v)by show (nop e s).ap s.N=_;rw[u];rfl]at d;obtain⟨y,C,rfl⟩:=List.mem_map.1 d;rw[(gu y).1];exact J y C
  ·rw[show (Go.Proofs.YtgpfkmdknlcemaaGreatDoor.eff e s).N=s.N by show (nop e s).ap s.N=_;rw[u];rfl]at d;exact J x d
 ·show ((gop e).ap s.G).Pairwise ltG;unfold gop;split
  ·rename_i k3;refine Ae hi.gs fun g hg hh=>?_;obtain⟨_,_,_,g1,g2,g3,g4⟩:=hi.gk g hg;rw[hh.1,hh.2,show (e.o-1).toNat=e.q from rfl,(h.k3 k3).1]at g4;cases g4
  ·split
   ·show (s.G.map _).Pairwise ltG;rw[List.pairwise_map];refine hi.gs.imp fun {x y} aS=>?_;unfold ltG at *;rw[(lZ x).1,(lZ x).2,(lZ y).1,(lZ y).2];exact aS
   ·exact hi.gs
 ·have J:∀g∈s.G,bL (Go.Proofs.YtgpfkmdknlcemaaGreatDoor.eff e s).N g.n=true∧1≤g.a∧g.a≤MXA∧1≤g.o∧g.o≤6∧1≤g.q∧jf (Go.Proofs.YtgpfkmdknlcemaaGreatDoor.eff e s).R (g.o-1).toNat g.q=true:=fun g hg=>by
   obtain⟨g0,g1,g2,g3,g4,g5,g6⟩:=hi.gk g hg;exact⟨a.has _ g0,g1,g2,g3,g4,g5,OS hi.r6 hq g6⟩
  have M:g∈(gop e).ap s.G:=hg;unfold gop at M;split at M
  ·rename_i k3;rcases BK.1 M with rfl|M
   ·rcases pE h.may with⟨k,_⟩|⟨k,_⟩|⟨_,b1,b2,b3⟩|⟨k,_⟩|⟨k,_⟩|⟨k,_⟩|k<;>try omega
    refine⟨a.has _ (h.k3 k3).2.1,b1,b2,hm.1,hm.2.1,b3,?_⟩;show jf (kw e s.R) e.q e.r=true;unfold kw jf;rw[if_pos (.inl k3),rl (by rw[hi.r6];exact hq),if_pos rfl,List.contains_iff_mem];simp
   ·exact J g M
  ·split at M
   ·obtain⟨y,C,rfl⟩:=List.mem_map.1 M
    have:=J y C
    unfold mF;split
    ·exact this
    ·exact this
   ·exact J g M
end
theorem zZ (n:Nat):PI (pl0 n) where
 i6:=by simp[pl0]
 l6:=rfl
 v6:=rfl
 r6:=rfl
 vb:=fun k d=>by
  have:(pl0 n).V.getD k 0=0:=by
   show (List.replicate 6 (0:Int)).getD k 0=0;rw[List.getD_eq_getElem?_getD,List.getElem?_replicate];split<;>rfl
  rw[this];decide
 A54:=by simp[pl0]
 may:=by simp[pl0]
 srt:=by simp[pl0]
 ids:=by simp[pl0]
 own:=fun o=>by simp[pl0,gj]
 tk:=⟨_,TK.nil⟩
 dep:=by simp[pl0]
 gs:=by simp[pl0]
 gk:=by simp[pl0]
theorem BN :Sys eff OK EV.q PI where
 inv:=fun e s hi h=>hi.eff h
 dia:=fun e f s hi u h j=>by
  have d:f.o≠e.o:=fun C=>u (by unfold EV.q;rw[C]);exact⟨h.kept hi j d,QU hi h j d⟩
end
section
def kz (f:List Int→Int)(N:List ND):List Int→Int
 | []=>0
 | id::p=>if f (aN N id)≠0 then f (aN N id)else kz f N p
def eM (e:EV)(s:PL):Int :=
 if e.k=1 then (if 5≤gj s.N e.o∨M47<e.a then 6 else (iE (tr s.N) (idE e) e.n).2)
 else if e.k=2 then (if bL s.N e.n=false then 9 else if M47<nA (aN s.N e.n) e.q+e.a then 6 else 0)
 else if e.k=3 then (if jf s.R e.q e.r=true then 14 else if bL s.N e.n=false then 9 else kz (fun A=>(iu A e.o e.a).2) s.N (dh s.N e.n))
 else if e.k=4 then (if jf s.R e.q e.r=true then 14 else match iA s.G e.o e.f with|none=>12|some g=>if g.b≠0 then 12 else kz (fun A=>(iw A e.o g.a).2) s.N (dh s.N g.n))
 else if e.k=5 then (if bL s.N e.n=false then 9 else if s.I.getD (e.t-1).toNat false=false then 10 else (kh (aN s.N e.n) e.o e.t e.a).2)
 else 0
def nM (e:EV)(s:PL):Int :=
 if eE e=false then 1 else if tt s.V e=true then 14 else if gY s.V e=false then 13 else if s.I.getD e.q false=false∨s.L.getD e.q false=true then 10 else eM e s
def ln (e:EV)(s:PL):PL:=if nM e s=0 then eff e s else s
theorem xU {f:List Int→Int}{N:List ND}:∀{p:List Int},kz f N p=0↔∀id∈p,f (aN N id)=0
 | []=>by simp[kz]
 | id::p=>by
  unfold kz;by_cases h:f (aN N id)=0
  ·rw[if_neg (by simpa using h),xU];simp[h]
  ·rw[if_pos h];simp[h]
section
variable {A:List Int}{o a t:Int}
theorem KA (h:iO A=true)(d:1≤a)(C:a≤MXA)(j:1≤o)(u:o≤6):pn A o a=0:=by
 unfold pn bV;rw[if_neg (by rintro(e|e|e);(rw[h]at e;cases e);omega;omega),if_neg (by simp;omega)]
theorem KB (h:iO A=true)(d:1≤a)(C:a≤MXA)(j:1≤o)(u:o≤6):(iu A o a).2=0↔a≤dG A (o-1).toNat∧nA A (6+(o-1).toNat)+a≤MXA:=by
 unfold iu qK;rw[KA h d C j u,if_neg (by simp)];generalize (o-1).toNat=q;split
 ·simp;omega
 ·split<;>simp<;>omega
theorem KC (h:(iu A o a).2=0):(iu A o a).1=A.set (6+(o-1).toNat) (nA A (6+(o-1).toNat)+a):=by
 unfold iu qK at *;split at h
 ·rename_i hh;exact absurd h hh
 ·rename_i hh;rw[if_neg hh];split at h
  ·cases h
  ·rename_i j;rw[if_neg j];split at h
   ·cases h
   ·rename_i d;rw[if_neg d]
theorem KF (h:iO A=true)(d:1≤a)(C:a≤MXA)(j:1≤o)(u:o≤6):(iw A o a).2=0↔nA A (12+(o-1).toNat)+a≤nA A (6+(o-1).toNat):=by
 unfold iw;rw[KA h d C j u,if_neg (by simp)];generalize (o-1).toNat=q;split
 ·simp;omega
 ·simp;omega
theorem KG (h:(iw A o a).2=0):(iw A o a).1=A.set (12+(o-1).toNat) (nA A (12+(o-1).toNat)+a):=by
 unfold iw at *;split at h
 ·rename_i hh;exact absurd h hh
 ·rename_i hh;rw[if_neg hh];split at h
  ·cases h
  ·rename_i d;rw[if_neg d]
theorem KH (h:iO A=true)(J:1≤a)(I:a≤MXA)(d:1≤o)(j:o≤6)(R:1≤t)(M:t≤6)(C:t≠o):(kh A o t a).2=0↔a≤dG A (o-1).toNat∧nA A (18+6*(o-1).toNat+(t-1).toNat)+a≤MXA:=by
 unfold kh qK bV;rw[KA h J I d j,if_neg (by simp),if_neg (by simp;omega),if_neg (fun e=>C e.symm)];generalize (o-1).toNat=q;generalize (t-1).toNat=u;split
 ·simp;omega
 ·split<;>simp<;>omega
theorem KI (h:(kh A o t a).2=0):(kh A o t a).1=A.set (18+6*(o-1).toNat+(t-1).toNat) (nA A (18+6*(o-1).toNat+(t-1).toNat)+a):=by
 unfold kh qK at *;split at h
 ·rename_i hh;exact absurd h hh
 ·rename_i hh;rw[if_neg hh];split at h
  ·cases h
  ·rename_i C;rw[if_neg C];split at h
   ·cases h
   ·rename_i d;rw[if_neg d];split at h
    ·cases h
    ·rename_i j;rw[if_neg j];split at h
     ·cases h
     ·rename_i u;rw[if_neg u]
end
section
variable {e:EV}{s:PL}
theorem PI.mayN (hi:PI s){id:Int}(h:bL s.N id=true):iO (aN s.N id)=true:=by
 obtain⟨x,d,rfl⟩:=lY h;rw[oN hi.srt d];exact(hi.may x d).1
theorem PI.few (hi:PI s)(o:Int)(J:1≤o)(j:o≤6)(h:gj s.N o<5):s.N.length<32:=by
 rw[HL fun x C=>by
  obtain⟨o,q,a1,u,I,d,a5,_⟩:=hi.ids x C;exact⟨o,q,a1,u,I,d,a5⟩]
 have:=hi.own 1
 have:=hi.own 2
 have:=hi.own 3
 have:=hi.own 4
 have:=hi.own 5
 have:=hi.own 6
 omega
theorem NC (d:gY s.V e=true):tt s.V e=false:=by
 have:=(pX d).1
 unfold tt EV.q at *;rw[decide_eq_false (by omega),Bool.and_false]
theorem tV (hi:PI s):nM e s=0↔OK e s:=by
 constructor
 ·intro h;unfold nM at h;split at h
  ·cases h
  rename_i U;split at h
  ·cases h
  split at h
  ·cases h
  rename_i hr;split at h
  ·cases h
  rename_i R;have U:eE e=true:=by simpa using U
  have hr:gY s.V e=true:=by simpa using hr
  have R:s.I.getD e.q false=true∧s.L.getD e.q false=false:=by
   constructor
   ·cases hq:s.I.getD e.q false with
    | true=>rfl
    | false=>exact absurd (.inl hq) R
   ·cases hq:s.L.getD e.q false with
    | false=>rfl
    | true=>exact absurd (.inr hq) R
  have J:=gJ U;refine⟨U,hr,R.1,R.2,fun k=>?_,fun k=>?_,fun k=>?_,fun k=>?_,fun k=>?_⟩
  ·unfold eM at h;rw[if_pos k]at h;split at h
   ·cases h
   rename_i j;unfold iE at h;rw[if_neg (by have:=Ei U;omega),jF,hi.new U hr,if_neg (by simp)]at h;split at h
   ·cases h
   rename_i C;split at h
   ·cases h
   rename_i u;refine⟨by omega,by omega,?_,by unfold dh;omega⟩;by_cases h0:e.n=0
   ·exact .inl h0
   ·refine .inr ?_;cases hq:bL s.N e.n with
    | true=>rfl
    | false=>exact absurd ⟨h0,by rw[jF];exact hq⟩ C
  ·unfold eM at h;rw[if_neg (by omega),if_pos k]at h;split at h
   ·cases h
   rename_i j;split at h
   ·cases h
   rename_i C;exact⟨by simpa using j,by omega⟩
  ·unfold eM at h;rw[if_neg (by omega),if_neg (by omega),if_pos k]at h;split at h
   ·cases h
   rename_i j;split at h
   ·cases h
   rename_i C;refine⟨by simpa using j,by simpa using C,fun id d=>?_⟩;have u:=xU.1 h id d;rcases pE U with⟨M,_⟩|⟨M,_⟩|⟨_,b1,b2,X⟩|⟨M,_⟩|⟨M,_⟩|⟨M,_⟩|M<;>try omega
   exact(KB (hi.mayN (mq d)) b1 b2 J.1 J.2.1).1 u
  ·unfold eM at h;rw[if_neg (by omega),if_neg (by omega),if_neg (by omega),if_pos k]at h;split at h
   ·cases h
   rename_i j;split at h
   ·cases h
   rename_i g hg;split at h
   ·cases h
   rename_i C;refine⟨by simpa using j,g,hg,by simpa using C,fun id d=>?_⟩;have u:=xU.1 h id d;have Z:=hi.gk g (pW hg).1;exact(KF (hi.mayN (mq d)) Z.2.1 Z.2.2.1 J.1 J.2.1).1 u
  ·unfold eM at h;rw[if_neg (by omega),if_neg (by omega),if_neg (by omega),if_neg (by omega),if_pos k]at h;split at h
   ·cases h
   rename_i j;split at h
   ·cases h
   rename_i C;have j:bL s.N e.n=true:=by simpa using j
   rcases pE U with⟨M,_⟩|⟨M,_⟩|⟨M,_⟩|⟨M,_⟩|⟨_,b1,b2,X,b4,b5⟩|⟨M,_⟩|M<;>try omega
   have u:=(KH (hi.mayN j) b1 b2 J.1 J.2.1 X b4 b5).1 h;exact⟨j,by simpa using C,u⟩
 ·intro h;have J:=gJ h.may;unfold nM;rw[if_neg (by rw[h.may];simp),NC h.rdy,if_neg (by simp),if_neg (by rw[h.rdy];simp),if_neg (by rintro(e|e);(rw[h.inI]at e;cases e);(rw[h.notL]at e;cases e))];unfold eM;rcases pE h.may with⟨k,_⟩|⟨k,_⟩|⟨k,b1,b2,X⟩|⟨k,_⟩|⟨k,b1,b2,X,b4,b5⟩|⟨k,_⟩|k
  ·obtain⟨j,C,u,h4⟩:=h.k1 k;rw[if_pos k,if_neg (by omega)];unfold iE;rw[if_neg (by have:=Ei h.may;omega),jF,hi.new h.may h.rdy,if_neg (by simp),if_neg,if_neg]
   ·have:=hi.few e.o J.1 J.2.1 j
    unfold dh at h4;unfold tr at *;simp only[List.length_map]at *;omega
   ·rintro⟨e1,e2⟩;rw[jF]at e2;rcases u with u|u
    ·exact e1 u
    ·rw[u]at e2;cases e2
  ·obtain⟨j,C⟩:=h.k2 k;rw[if_neg (by omega),if_pos k,j,if_neg (by simp),if_neg (by omega)]
  ·obtain⟨j,C,u⟩:=h.k3 k;rw[if_neg (by omega),if_neg (by omega),if_pos k,j,C,if_neg (by simp),if_neg (by simp)];exact xU.2 fun id d=>(KB (hi.mayN (mq d)) b1 b2 J.1 J.2.1).2 (u id d)
  ·obtain⟨j,g,C,u,h4⟩:=h.k4 k;rw[if_neg (by omega),if_neg (by omega),if_neg (by omega),if_pos k,j,C,if_neg (by simp)];simp only;rw[if_neg (by omega)];have Z:=hi.gk g (pW C).1;exact xU.2 fun id d=>(KF (hi.mayN (mq d)) Z.2.1 Z.2.2.1 J.1 J.2.1).2 (h4 id d)
  ·obtain⟨j,C,u⟩:=h.k5 k;rw[if_neg (by omega),if_neg (by omega),if_neg (by omega),if_neg (by omega),if_pos k,j,C,if_neg (by simp),if_neg (by simp)];exact(KH (hi.mayN j) b1 b2 J.1 J.2.1 X b4 b5).2 u
  ·rw[if_neg (by omega),if_neg (by omega),if_neg (by omega),if_neg (by omega),if_neg (by omega)]
  ·rw[if_neg (by omega),if_neg (by omega),if_neg (by omega),if_neg (by omega),if_neg (by omega)]
end
end
section
def HP (e:EV)(k:Nat):Int:=e.V.getD k 0
def kV (l:PL):Nat→Int:=fun k=>l.V.getD k 0
abbrev HistL (n:Nat)(E:List EV):Prop:=Hist eff OK EV.q EV.s HP (pl0 n) E
abbrev stL (n:Nat)(E:List EV)(D:Nat→Int):PL:=stD eff EV.q EV.s (pl0 n) E D
abbrev ClL (E:List EV)(D:Nat→Int):Prop:=Closed EV.q EV.s HP E D
structure LK (n:Nat) (E:List EV) (l:PL):Prop where
 st:l=stL n E (kV l)
 cl:ClL E (kV l)
section
variable {n:Nat}{E:List EV}{l:PL}{e:EV}
theorem OT (h:eE e=true):e.V.getD e.q 0=e.s-1∧∀k,e.V.getD k 0<M40:=by
 unfold eE at h;simp only[Bool.and_eq_true,decide_eq_true_eq,List.all_eq_true,List.mem_range]at h;refine⟨h.2.2.2.1,fun k=>?_⟩;by_cases d:k<6
 ·exact h.2.2.2.2.1 k d
 ·rw[List.getD_eq_getElem?_getD,List.getElem?_eq_none (by simp[EV.V];omega)];decide
theorem HistL.may (h:HistL n E):∀e∈E,eE e=true:=by
 induction h with
 | nil=>simp
 | @snoc l e hl hs hd hc hok ih =>
  intro f d;rcases List.mem_append.1 d with d|d
  ·exact ih f d
  ·rw[List.mem_singleton.1 d];exact hok.may
theorem LK.pi (hh:HistL n E)(h:LK n E l):PI l:=by
 rw[h.st];exact hh.inv BN (zZ n) h.cl
theorem Up (hi:PI l)(h:OK e l):kV (eff e l)=upD (kV l) e.q e.s:=by
 have a:=after hi h;funext k;unfold kV upD;by_cases d:k=e.q
 ·subst d;rw[if_pos rfl,a.Ve,(pX h.rdy).1]
 ·rw[if_neg d,a.V _ d]
theorem LK.next (hh:HistL n E)(h:LK n E l)(C:e∈E)(R:gY l.V e=true):OK e l∧LK n E (eff e l):=by
 obtain⟨r1,r2⟩:=pX R;have U:=hh.may e C;have M:∀k,HP e k≤kV l k:=fun k=>by
  by_cases d:k<6
  ·exact r2 k d
  ·unfold HP kV;rw[List.getD_eq_getElem?_getD,List.getElem?_eq_none (by simp[EV.V];omega),List.getD_eq_getElem?_getD,List.getElem?_eq_none (by rw[(h.pi hh).v6];omega)];exact Int.le_refl _
 obtain⟨j,I,J⟩:=hh.next BN (zZ n) h.cl C (by unfold kV;omega) M
 have u:stD eff EV.q EV.s (pl0 n) E (kV l)=l:=h.st.symm;rw[u]at j I;have d:=Up (h.pi hh) j;refine⟨j,⟨?_,by rw[d];exact J⟩⟩;rw[d];exact I
theorem LK.ok (hh:HistL n E)(h:LK n E l)(d:e∈E):nM e l=0↔gY l.V e=true:=by
 rw[tV (h.pi hh)];exact⟨fun h=>h.rdy,fun j=>(h.next hh d j).1⟩
theorem LK.apply (hh:HistL n E)(h:LK n E l)(d:e∈E):LK n E (ln e l):=by
 unfold ln;split
 ·rename_i h0;exact(h.next hh d ((h.ok hh d).1 h0)).2
 ·exact h
theorem OU (n:Nat):kV (pl0 n)=fun _=>0:=by
 funext k;show (List.replicate 6 (0:Int)).getD k 0=0;rw[List.getD_eq_getElem?_getD,List.getElem?_replicate];split<;>rfl
theorem LK.zero (hh:HistL n E):LK n E (pl0 n):=by
 have d:∀e∈E,¬e.s≤0:=fun e j h=>by have:=(gJ (hh.may e j)).2.2.1;omega
 refine⟨?_,?_⟩
 ·rw[OU];unfold stL stD
  have:E.filter (kn EV.q EV.s fun _=>0)=[]:=by
   rw[List.filter_eq_nil_iff];intro e j h;exact d e j (nX.1 h)
  rw[this];rfl
 ·rw[OU];intro e j h;exact absurd h (d e j)
theorem HistL.all (hh:HistL n E):okL eff OK (pl0 n) E∧LK n E (iB eff (pl0 n) E):=by
 have J:E.filter (kn EV.q EV.s fun _=>M40)=E:=by
  rw[List.filter_eq_self];intro e d
  have:=(gJ (hh.may e d)).2.2.2
  exact nX.2 (by simp only[M40]at *; omega)
 have I:ClL E fun _=>M40:=fun e d _ k=>by
  have:=(OT (hh.may e d)).2 k
  exact Int.le_of_lt this
 have u:=hh.oks BN (zZ n) I;rw[J]at u;refine⟨u,?_⟩
 -- step by step
 have j:∀(a b:List EV) (s:PL),E=a++b→LK n E s→okL eff OK s b→LK n E (iB eff s b):=by
  intro a b
  induction b generalizing a with
  | nil=>intro s _ h _;exact h
  | cons e b ih =>
   intro s d h C;have M:e∈E:=by rw[d];simp
   exact ih (a++[e]) (eff e s) (by rw[d];simp) (h.next hh M C.1.rdy).2 C.2
 exact j [] E (pl0 n) rfl (LK.zero hh) u
theorem HistL.more (hh:HistL n E)(h:LK n E l)(j:OK e l)(I:∀k,k<6→e.V.getD k 0=l.V.getD k 0)(d:∀f∈E,f.q=e.q→f.s≤l.V.getD e.q 0):HistL n (E++[e]):=by
 have u:HP e=kV l:=by
  funext k;by_cases C:k<6
  ·exact I k C
  ·unfold HP kV;rw[List.getD_eq_getElem?_getD,List.getElem?_eq_none (by simp[EV.V];omega),List.getD_eq_getElem?_getD,List.getElem?_eq_none (by rw[(h.pi hh).v6];omega)]
 have R:=(pX j.rdy).1;refine Hist.snoc hh (fun f J M=>?_) ?_ ?_ ?_
 ·have:=d f J M;omega
 ·exact(OT j.may).1
 ·rw[u];exact h.cl
 ·rw[u]
  have:=h.st
  unfold stL stD at this;rw[←this];exact j
theorem LK.grow (hh:HistL n (E++[e]))(h:LK n E l)(C:l.V.getD e.q 0<e.s):LK n (E++[e]) l:=by
 have j : ¬kn EV.q EV.s (kV l) e=true:=fun j=>by have:=nX.1 j;unfold kV at this;omega
 refine⟨?_,fun f d u k=>?_⟩
 ·unfold stL stD;rw[vL,if_neg j];exact h.st
 ·rcases List.mem_append.1 d with d|d
  ·exact h.cl f d u k
  ·rw[List.mem_singleton.1 d]at u;exact absurd (nX.2 u) j
end
/-! ## A world -/
structure WP (n:Nat) (Ls:List PL) (E:List EV):Prop where
 hist:HistL n E
 lk:∀l∈Ls,LK n E l
 own:∀i l,Ls[i]? = some l→∀e∈E,e.q=i→e.s≤l.V.getD i 0
 low:∀i l,Ls[i]? = some l→∀m∈Ls,m.V.getD i 0≤l.V.getD i 0
 few:∀e∈E,e.q<Ls.length
theorem WP.zero (n k:Nat):WP n (List.replicate k (pl0 n)) [] where
 hist:=.nil
 lk:=fun l d=>by rw[List.eq_of_mem_replicate d];exact LK.zero .nil
 own:=by simp
 low:=fun i l d m h=>by rw[List.eq_of_mem_replicate h,List.eq_of_mem_replicate (List.mem_of_getElem? d)];exact Int.le_refl _
 few:=by simp
section
variable {n:Nat}{Ls:List PL}{E:List EV}{l l':PL}{i:Nat}{e:EV}
theorem WP.learn (h:WP n Ls E)(R:Ls[i]? = some l)(hk:LK n E l')(X:∀k,l.V.getD k 0≤l'.V.getD k 0)(Z:∀(k:Nat) (m:PL),Ls[k]? = some m→l'.V.getD k 0≤m.V.getD k 0):WP n (Ls.set i l') E:=by
 have hi:i<Ls.length:=(List.getElem?_eq_some_iff.1 R).1;have I:∀{j m},(Ls.set i l')[j]? = some m→j=i∧m=l'∨j≠i∧Ls[j]? = some m:=fun {j m} d=>by
  rw[List.getElem?_set]at d;split at d
  ·rename_i e;subst e;simp[hi]at d;exact .inl ⟨rfl,d.symm⟩
  ·rename_i e;exact .inr ⟨fun e' => e e'.symm,d⟩
 have u:∀{m},m∈Ls.set i l'→m=l'∨m∈Ls:=fun d=>(List.mem_or_eq_of_mem_set d).symm;refine⟨h.hist,fun m d=>?_,fun j m d e M J=>?_,fun j m d p U=>?_,fun e M=>by rw[List.length_set];exact h.few e M⟩
 ·rcases u d with rfl|d
  ·exact hk
  ·exact h.lk m d
 ·rcases I d with⟨rfl,rfl⟩|⟨_,d⟩
  ·exact Int.le_trans (h.own _ l R e M J) (X _)
  ·exact h.own j m d e M J
 ·have C:∀q∈Ls,q.V.getD j 0≤m.V.getD j 0∧(p=l'→l'.V.getD j 0≤m.V.getD j 0):=fun q J=>by
   rcases I d with⟨rfl,rfl⟩|⟨_,d⟩
   ·exact⟨Int.le_trans (h.low _ l R q J) (X _),fun _=>Int.le_refl _⟩
   ·exact⟨h.low j m d q J,fun _=>Z j m d⟩
  rcases u U with rfl|U
  ·exact(C l (List.mem_of_getElem? R)).2 rfl
  ·exact(C p U).1
theorem WP.make (h:WP n Ls E)(M:Ls[i]? = some l)(ho:OK e l)(R:e.q=i)(hd:∀k,k<6→e.V.getD k 0=l.V.getD k 0):WP n (Ls.set i (eff e l)) (E++[e]):=by
 have hi:i<Ls.length:=(List.getElem?_eq_some_iff.1 M).1;have Z:=h.lk l (List.mem_of_getElem? M);have hh:=HistL.more h.hist Z ho hd (fun f u C=>by rw[R]at C ⊢; exact h.own i l M f u C);have hr:=(pX ho.rdy).1;have a:=after (Z.pi h.hist) ho;have J:∀m∈Ls,LK n (E++[e]) m:=fun m d=>(h.lk m d).grow hh (by have:=h.low i l M m d;rw[R];rw[R]at hr;omega)
 have ag:LK n (E++[e]) (eff e l):=((J l (List.mem_of_getElem? M)).next hh (by simp) ho.rdy).2;have h1:∀k,l.V.getD k 0≤(eff e l).V.getD k 0:=fun k=>by
  by_cases Z:k=e.q
  ·subst Z;rw[a.Ve];omega
  ·rw[a.V _ Z];exact Int.le_refl _
 have ad:∀{j m},(Ls.set i (eff e l))[j]? = some m→j=i∧m=eff e l∨j≠i∧Ls[j]? = some m:=fun {j m} d=>by
  rw[List.getElem?_set]at d;split at d
  ·rename_i e;subst e;simp[hi]at d;exact .inl ⟨rfl,d.symm⟩
  ·rename_i e;exact .inr ⟨fun e' => e e'.symm,d⟩
 have I:∀{m},m∈Ls.set i (eff e l)→m=eff e l∨m∈Ls:=fun d=>(List.mem_or_eq_of_mem_set d).symm;refine⟨hh,fun m d=>?_,fun j m d f u C=>?_,fun j m d p X=>?_,fun f u=>?_⟩
 ·rcases I d with rfl|d
  ·exact ag
  ·exact J m d
 ·rcases ad d with⟨rfl,rfl⟩|⟨U,d⟩
  ·rcases List.mem_append.1 u with u|u
   ·exact Int.le_trans (h.own _ l M f u C) (h1 _)
   ·rw[List.mem_singleton.1 u, ←R,a.Ve];omega
  ·rcases List.mem_append.1 u with u|u
   ·exact h.own j m d f u C
   ·rw[List.mem_singleton.1 u,R]at C;exact absurd C.symm U
 ·rcases ad d with⟨rfl,rfl⟩|⟨U,d⟩
  ·rcases I X with rfl|X
   ·exact Int.le_refl _
   ·exact Int.le_trans (h.low _ l M p X) (h1 _)
  ·rcases I X with rfl|X
   ·rw[a.V j (by rw[R];exact U)];exact h.low j m d l (List.mem_of_getElem? M)
   ·exact h.low j m d p X
 ·rw[List.length_set];rcases List.mem_append.1 u with u|u
  ·exact h.few f u
  ·rw[List.mem_singleton.1 u,R];exact hi
end
end
section
/-! ## May rights be, and what a region may still take -/
theorem HQ {l:List Int}(h:(lT l).2=true):l.all okA=true∧lT l=(l.sum,true):=by
 unfold lT at *;cases d:l.all okA with
 | true=>exact⟨rfl,rfl⟩
 | false=>rw[d]at h;cases h
theorem HR {l:List Int}(h:l.all okA=true):lT l=(l.sum,true):=by unfold lT;rw[h]
theorem KJ {l:List Int}:(lT l).2=true↔l.all okA=true:=⟨fun h=>(HQ h).1,fun h=>by rw[HR h]⟩
theorem r6 {p:Nat→Prop}:(∀k∈List.range 6,p k)↔p 0∧p 1∧p 2∧p 3∧p 4∧p 5:=by
 constructor
 ·intro h;exact⟨h 0 (by simp),h 1 (by simp),h 2 (by simp),h 3 (by simp),h 4 (by simp),h 5 (by simp)⟩
 ·rintro⟨h0,I,C,j,u,J⟩ k d
  have:k<6:=by simpa using d
  match k,this with
  | 0,_=>exact h0
  | 1,_=>exact I
  | 2,_=>exact C
  | 3,_=>exact j
  | 4,_=>exact u
  | 5,_=>exact J
theorem HT {A:List Int}{k:Nat}:(oE A k).2=true↔okA (nA A k)=true∧okA (nA A (6+k))=true∧okA (nA A (12+k))=true∧(∀j∈List.range 6,okA (nA A (18+6*k+j))=true)∧∀j∈List.range 6,okA (nA A (18+6*j+k))=true:=by
 unfold oE;simp only[Bool.and_eq_true,KJ,pU,inL,List.all_cons,List.all_map,List.all_eq_true,Function.comp];constructor
 ·rintro⟨⟨C,u⟩,d,h,I⟩;exact⟨d,C,h,u,I⟩
 ·rintro⟨d,C,h,u,I⟩;exact⟨⟨C,u⟩,d,h,I⟩
theorem Fs {A:List Int}{k:Nat}(h:(oE A k).2=true):(oE A k).1=dG A k:=by
 have d:=h;unfold oE at d;simp only[Bool.and_eq_true]at d;obtain⟨j,u⟩:=d;unfold oE;simp only;rw[(HQ j).2,(HQ u).2];simp only[pU,inL,dG,List.range,List.range.loop,List.map_cons,List.map_nil,List.sum_cons,List.sum_nil];omega
theorem OX (A:List Int):su A=iO A:=by
 have u:su A=true↔iO A=true:=by
  unfold su iO;simp only[Bool.and_eq_true,List.all_eq_true,decide_eq_true_eq,tL,KJ];constructor
  ·rintro⟨h,I,J⟩;have hL:∀k∈List.range 6,dG A k=(oE A k).1:=fun k d=>(Fs (h k d).1.1.1).symm;refine⟨⟨fun k d=>?_,fun k d=>?_⟩,?_⟩
   ·obtain⟨⟨⟨a1,a2⟩,Z⟩,R⟩:=h k d;obtain⟨b1,b2,b3,X,b5⟩:=HT.1 a1;exact⟨⟨⟨⟨⟨b1,b2⟩,b3⟩,Z⟩,R⟩,X⟩
   ·rw[hL k d];exact(h k d).1.1.2
   ·rw[HR (by simpa only[List.all_eq_true]using I)]at J;exact J
  ·rintro⟨⟨h,hl⟩,J⟩;have C:∀k∈List.range 6,(oE A k).2=true:=fun k d=>HT.2 ⟨(h k d).1.1.1.1.1,(h k d).1.1.1.1.2,(h k d).1.1.1.2,(h k d).2,fun j U=>(h j U).2 k d⟩;have I:(gL A).all okA=true:=by
    simp only[gL,List.all_map,List.all_eq_true,Function.comp];exact fun k d=>(h k d).1.1.1.1.1
   refine⟨fun k d=>⟨⟨⟨C k d,?_⟩,(h k d).1.1.2⟩,(h k d).1.2⟩,List.all_eq_true.1 I,?_⟩
   ·rw[Fs (C k d)];exact hl k d
   ·rw[HR I];exact J
 cases M:su A with
 | true=>rw[u.1 M]
 | false =>
  cases V:iO A with
  | false=>rfl
  | true=>rw[u.2 V]at M;cases M
def sv (A:List Int)(k:Nat):Int:=match su A with|true=>(oE A k).1|false=>0
theorem Ft (A:List Int){k:Nat}(d:k<6):sv A k=match iO A with|true=>dG A k|false=>0:=by
 unfold sv;rw[←OX];cases h:su A with
 | false=>rfl
 | true =>
  unfold su at h;simp only[Bool.and_eq_true,List.all_eq_true,decide_eq_true_eq]at h;exact Fs (h.1 k (by simpa using d)).1.1.1
/-! ## Live regions, what they have, their shares -/
def uw :List Int→Int→Option Int
 | [],all=>some all
 | x::l,all=>if x<0∨x>MXA-all then none else uw l (all+x)
def shr (all:Int)(c k:Nat):Int:=all / (c:Int)+if (k:Int)<all%(c:Int)then 1 else 0
def shL (all:Int)(c:Nat):List Int:=(List.range c).map (shr all c)
/-! ## Moves -/
def Uq (p:Nat→Bool)(n:Nat):Nat→Nat
 | 0=>n
 | f+1=>if p (n-(f+1))then n-(f+1)else Uq p n f
def nB (l:List Int)(i:Nat):Int:=l.getD i 0
def fs (p:Nat→Bool)(n i:Nat):Nat:=Uq p n (n-i)
theorem HU {p:Nat→Bool}{n i:Nat}(hi:i<n):fs p n i=if p i then i else fs p n (i+1):=by
 unfold fs;rw[show n-i=(n-(i+1))+1 by omega];show (if p (n-((n-(i+1))+1))then _ else _)=_;rw[show n-((n-(i+1))+1)=i by omega]
theorem OY {p:Nat→Bool}{n i:Nat}(hi:n≤i):fs p n i=n:=by
 unfold fs;rw[show n-i=0 by omega];rfl
theorem mO {p:Nat→Bool}{n:Nat}:∀(f i:Nat),n-i=f→i≤n→i≤fs p n i∧fs p n i≤n∧(∀k,i≤k→k<fs p n i→p k=false)∧(fs p n i<n→p (fs p n i)=true)
 | 0,i,hf,hi=>by
  rw[OY (by omega)];exact⟨hi,Nat.le_refl _,fun k u j=>by omega,fun h=>by omega⟩
 | f+1,i,hf,hi=>by
  rw[HU (by omega)];by_cases d:p i=true
  ·rw[if_pos d];exact⟨Nat.le_refl _,hi,fun k u j=>by omega,fun _=>d⟩
  ·rw[if_neg d];obtain⟨u,j,J,M⟩:=mO (p:=p) (n:=n) f (i+1) (by omega) (by omega);exact⟨by omega,j,fun k R I=>by
    by_cases C:k=i
    ·subst C;simpa using d
    ·exact J k (by omega) I,M⟩
theorem Mp {p:Nat→Bool}{n:Nat}:∀(d i:Nat),(∀k,k<i+d→i≤k→p k=false)→i+d≤n→fs p n i=fs p n (i+d)
 | 0,i,_,_=>rfl
 | d+1,i,h,hn=>by
  rw[HU (by omega),if_neg (by rw[h i (by omega) (Nat.le_refl _)];simp),Mp d (i+1) (fun k j u=>h k (by omega) (by omega)) (by omega)]
  congr 1;omega
def iC (h s:List Int)(k:Nat):Bool:=decide (nB s k<nB h k)
def jt (h s:List Int)(k:Nat):Bool:=decide (nB h k<nB s k)
def mvX (h s:List Int)(i j:Nat):Int:=min (nB h i-nB s i) (nB s j-nB h j)
def mvH (h:List Int)(i j:Nat)(x:Int):List Int:=(h.set i (nB h i-x)).set j (nB h j+x)
def mvs (s:List Int):Nat→List Int→List (Nat×Nat×Int)
 | 0,_=>[]
 | f+1,h =>
  let i:=fs (iC h s) s.length 0
  let j:=fs (jt h s) s.length 0
  if i=s.length∨j=s.length then []else (i,j,mvX h s i j)::mvs s f (mvH h i j (mvX h s i j))
def odd (h s:List Int):Nat:=((List.range s.length).filter fun k=>nB h k != nB s k).length
theorem AI {l:List Int}{i k:Nat}{x:Int}(hi:i<l.length):nB (l.set i x) k=if k=i then x else nB l k:=by
 unfold nB;by_cases h:k=i
 ·subst h;rw[if_pos rfl];simp[List.getD,hi]
 ·rw[if_neg h];simp[List.getD,List.getElem?_set,Ne.symm h]
theorem GN {h:List Int}{i j k:Nat}{x:Int}(hi:i<h.length)(u:j<h.length)(d:i≠j):nB (mvH h i j x) k=if k=j then nB h j+x else if k=i then nB h i-x else nB h k:=by
 unfold mvH;rw[AI (by simpa using u),AI hi]
theorem Je {p q:Nat→Bool}:∀{l:List Nat},(∀k∈l,q k=true→p k=true)→(∃k∈l,p k=true∧q k=false)→(l.filter q).length<(l.filter p).length
 | [],_,h=>by obtain⟨k,d,_⟩:=h;cases d
 | a::l,hs,h=>by
  have V:(l.filter q).length≤(l.filter p).length:=by
   have j:∀k∈l,q k=true→p k=true:=fun k d=>hs k (List.mem_cons_of_mem _ d);clear h hs
   induction l with
   | nil=>simp
   | cons b l M =>
    have:=M (fun k d=>j k (List.mem_cons_of_mem _ d))
    have Z:=j b (by simp);cases C:q b<;>cases u:p b<;>simp[C,u]at * <;> omega
  by_cases J:p a=true∧q a=false
  ·rw[List.filter_cons_of_pos J.1,List.filter_cons_of_neg (by rw[J.2];simp)];simp;omega
  ·obtain⟨k,d,C,u⟩:=h;have I:k∈l:=by
    rcases List.mem_cons.1 d with e|e
    ·subst e;exact absurd ⟨C,u⟩ J
    ·exact e
   have M:=Je (p:=p) (q:=q) (l:=l) (fun k d=>hs k (List.mem_cons_of_mem _ d)) ⟨k,I,C,u⟩;have X:=hs a (by simp);cases U:q a<;>cases R:p a<;>simp[U,R]at * <;> omega
theorem Dj {h s:List Int}{i j:Nat}(hl:h.length=s.length)(hi:i<s.length)(R:j<s.length)(U:iC h s i=true)(V:jt h s j=true):odd (mvH h i j (mvX h s i j)) s<odd h s:=by
 simp only[iC,jt,decide_eq_true_eq]at U V;have d:i≠j:=by rintro rfl;omega
 have e:=fun k=>GN (h:=h) (i:=i) (j:=j) (k:=k) (x:=mvX h s i j) (by omega) (by omega) d;unfold odd;refine Je (fun k Z M=>?_) ?_
 ·simp only[bne_iff_ne,ne_eq,e]at M ⊢;by_cases u:k=j
  ·subst u;omega
  ·rw[if_neg u]at M;by_cases I:k=i
   ·subst I;omega
   ·rwa[if_neg I]at M
 ·by_cases X:nB h i-nB s i≤nB s j-nB h j
  ·refine⟨i,by simpa using hi,by simp;omega,?_⟩;have J:mvX h s i j=nB h i-nB s i:=Int.min_eq_left X;have C:=e i;rw[if_neg d,if_pos rfl]at C;rw[C,J,bne_eq_false_iff_eq];omega
  ·refine⟨j,by simpa using R,by simp;omega,?_⟩;have J:mvX h s i j=nB s j-nB h j:=Int.min_eq_right (by omega);have C:=e j;rw[if_pos rfl]at C;rw[C,J,bne_eq_false_iff_eq];omega
theorem QV {s:List Int}:∀(f g:Nat) (h:List Int),h.length=s.length→odd h s≤f→odd h s≤g→mvs s f h=mvs s g h:=by
 have C:∀(f:Nat) (h:List Int),h.length=s.length→odd h s≤f→mvs s f h=mvs s (f+1) h:=by
  intro f
  induction f with
  | zero =>
   intro h j I;show []=_;unfold mvs;simp only;rw[if_pos];apply Classical.byContradiction;intro R;obtain⟨n1,n2⟩:=not_or.1 R;have s1:=mO (p:=iC h s) (n:=s.length) _ 0 rfl (Nat.zero_le _);have s2:=mO (p:=jt h s) (n:=s.length) _ 0 rfl (Nat.zero_le _)
   have:=Dj j (by omega) (by omega) (s1.2.2.2 (by omega)) (s2.2.2.2 (by omega))
   omega
  | succ f ih =>
   intro h j I;show mvs s (f+1) h=mvs s (f+1+1) h;unfold mvs;simp only;by_cases u:fs (iC h s) s.length 0=s.length∨fs (jt h s) s.length 0=s.length
   ·rw[if_pos u,if_pos u]
   ·rw[if_neg u,if_neg u];obtain⟨n1,n2⟩:=not_or.1 u;have s1:=mO (p:=iC h s) (n:=s.length) _ 0 rfl (Nat.zero_le _);have s2:=mO (p:=jt h s) (n:=s.length) _ 0 rfl (Nat.zero_le _)
    have:=Dj j (by omega) (by omega) (s1.2.2.2 (by omega)) (s2.2.2.2 (by omega))
    congr 1
    exact ih _ (by simpa[mvH]using j) (by omega)
 have J:∀(d f:Nat) (h:List Int),h.length=s.length→odd h s≤f→mvs s f h=mvs s (f+d) h:=by
  intro d
  induction d with
  | zero=>intro f h _ _;rfl
  | succ d ih=>intro f h j I;rw[ih f h j I,C (f+d) h j (by omega)];rfl
 intro f g h j U M;rcases Nat.le_total f g with hh|hh
 ·obtain⟨d,rfl⟩:=Nat.le.dest hh;exact J d f h j U
 ·obtain⟨d,rfl⟩:=Nat.le.dest hh;exact(J d g h j M).symm
def jD (h s:List Int):List (Nat×Nat×Int):=mvs s (odd h s) h
theorem vt {h s:List Int}(d:fs (iC h s) s.length 0=s.length∨fs (jt h s) s.length 0=s.length):jD h s=[]:=by
 unfold jD;cases odd h s with
 | zero=>rfl
 | succ f=>unfold mvs;simp only;rw[if_pos d]
theorem Jf {h s:List Int}{i j:Nat}(I:h.length=s.length)(hi:fs (iC h s) s.length 0=i)(d:fs (jt h s) s.length 0=j)(C:i<s.length)(u:j<s.length):jD h s=(i,j,mvX h s i j)::jD (mvH h i j (mvX h s i j)) s:=by
 have s1:=mO (p:=iC h s) (n:=s.length) _ 0 rfl (Nat.zero_le _);have s2:=mO (p:=jt h s) (n:=s.length) _ 0 rfl (Nat.zero_le _);rw[hi]at s1;rw[d]at s2;have M:=Dj I C u (s1.2.2.2 C) (s2.2.2.2 u);unfold jD;obtain⟨f,J⟩:∃f,odd h s=f+1:=⟨odd h s-1,by omega⟩
 rw[J]
 conv=>lhs;unfold mvs
 simp only[hi,d];rw[if_neg (by omega)]
 congr 1
 exact QV _ _ _ (by simpa[mvH]using I) (by omega) (Nat.le_refl _)
theorem Mq {h s:List Int}{i j:Nat}(V:h.length=s.length)(hi:i<s.length)(U:j<s.length)(J:iC h s i=true)(M:jt h s j=true){k:Nat}(I:iC h s k=false):iC (mvH h i j (mvX h s i j)) s k=false:=by
 simp only[iC,jt,decide_eq_true_eq,decide_eq_false_iff_not]at *;have C:i≠j:=by rintro rfl;omega
 rw[GN (by omega) (by omega) C];have R:mvX h s i j≤nB s j-nB h j:=Int.min_le_right _ _;by_cases d:k=j
 ·subst d;rw[if_pos rfl];omega
 ·rw[if_neg d];by_cases u:k=i
  ·subst u;exact absurd J I
  ·rw[if_neg u];exact I
theorem Mr {h s:List Int}{i j:Nat}(V:h.length=s.length)(hi:i<s.length)(R:j<s.length)(U:iC h s i=true)(J:jt h s j=true){k:Nat}(I:jt h s k=false):jt (mvH h i j (mvX h s i j)) s k=false:=by
 simp only[iC,jt,decide_eq_true_eq,decide_eq_false_iff_not]at *;have C:i≠j:=by rintro rfl;omega
 rw[GN (by omega) (by omega) C];have M:mvX h s i j≤nB h i-nB s i:=Int.min_le_left _ _;by_cases d:k=j
 ·subst d;exact absurd J I
 ·rw[if_neg d];by_cases u:k=i
  ·subst u;rw[if_pos rfl];omega
  ·rw[if_neg u];exact I
theorem T7 {p:Nat→Bool}{n i:Nat}(h:∀k,k<i→p k=false)(hi:i≤n):fs p n 0=fs p n i:=by
 have:=Mp (p:=p) (n:=n) i 0 (fun k d _=>h k (by omega)) (by omega)
 rwa[Nat.zero_add]at this
theorem Ms {h:List Int}{i j:Nat}{x:Int}:(mvH h i j x).length=h.length:=by simp[mvH]
theorem HV {h s:List Int}{i j:Nat}(u:iC h s i=true)(d:jt h s j=true):0<mvX h s i j:=by
 simp only[iC,jt,decide_eq_true_eq,mvX]at *;exact Int.lt_min.2 ⟨by omega,by omega⟩
theorem Mt :∀{l:List Int} {a r:Int},0≤a→a≤MXA→uw l a=some r→a≤r∧r≤MXA∧∀x∈l,0≤x∧x≤MXA
 | [],a,r,h0,h1,h=>by cases h;exact⟨Int.le_refl _,h1,by simp⟩
 | x::l,a,r,h0,h1,h=>by
  unfold uw at h;split at h
  ·cases h
  ·rename_i M;have u:0≤x:=by omega
   have d:x≤MXA-a:=by omega
   obtain⟨J,j,C⟩:=Mt (by omega) (by omega) h;refine⟨by omega,j,fun y I=>?_⟩;rcases List.mem_cons.1 I with e|e
   ·subst e;exact⟨u,by omega⟩
   ·exact C y e
def nN (A live:List Int):List Int:=live.map fun i=>sv A (i-1).toNat
end
section
def Dk (M:List (Nat×Nat×Int))(k:Nat):Int:=((M.filter fun m=>m.1==k).map (·.2.2)).sum
def Dl (M:List (Nat×Nat×Int))(k:Nat):Int:=((M.filter fun m=>m.2.1==k).map (·.2.2)).sum
theorem OZ {m:Nat×Nat×Int}{M:List (Nat×Nat×Int)}{k:Nat}:Dk (m::M) k=(if m.1=k then m.2.2 else 0)+Dk M k:=by
 unfold Dk;by_cases h:m.1=k
 ·rw[List.filter_cons_of_pos (by simpa using h),if_pos h];simp
 ·rw[List.filter_cons_of_neg (by simpa using h),if_neg h];simp
theorem Pa {m:Nat×Nat×Int}{M:List (Nat×Nat×Int)}{k:Nat}:Dl (m::M) k=(if m.2.1=k then m.2.2 else 0)+Dl M k:=by
 unfold Dl;by_cases h:m.2.1=k
 ·rw[List.filter_cons_of_pos (by simpa using h),if_pos h];simp
 ·rw[List.filter_cons_of_neg (by simpa using h),if_neg h];simp
theorem tN (a:Int)(l:List Int):nB (a::l) 0=a:=rfl
theorem tO (a:Int)(l:List Int)(k:Nat):nB (a::l) (k+1)=nB l k:=by simp[nB]
theorem Pb :∀{h s:List Int},h.length=s.length→(∀k,k<s.length→nB h k≤nB s k)→h.sum≤s.sum
 | [],[],_,_=>Int.le_refl _
 | a::h,b::s,hl,hk=>by
  have h0:=hk 0 (by simp)
  have:=Pb (h:=h) (s:=s) (by simpa using hl) fun k d => by have:=hk (k+1) (by simpa using d);rwa[tO,tO]at this
  rw[tN,tN]at h0;simp only[List.sum_cons];omega
theorem GO :∀{h s:List Int},h.length=s.length→(∀k,k<s.length→nB h k≤nB s k)→h.sum=s.sum→∀k,k<s.length→nB h k=nB s k
 | [],[],_,_,_=>by simp
 | a::h,b::s,hl,u,hs=>by
  have d:∀k,k<s.length→nB h k≤nB s k:=fun k C => by have:=u (k+1) (by simpa using C);rwa[tO,tO]at this
  have h0:=u 0 (by simp);rw[tN,tN]at h0;have j:h.length=s.length:=by simpa using hl
  have:=Pb j d
  simp only[List.sum_cons]at hs;intro k u;cases k with
  | zero=>rw[tN,tN];omega
  | succ k=>rw[tO,tO];exact GO j d (by omega) k (by simpa using u)
theorem HW :∀{l:List Int} {i:Nat} {x:Int},i<l.length→(l.set i x).sum=l.sum-nB l i+x
 | a::l,0,x,_=>by simp only[List.set_cons_zero,List.sum_cons,tN];omega
 | a::l,i+1,x,h=>by
  have:=HW (l:=l) (i:=i) (x:=x) (by simpa using h)
  simp only[List.set_cons_succ,List.sum_cons,tO,this];omega
theorem T8 {h:List Int}{i j:Nat}{x:Int}(hi:i<h.length)(u:j<h.length)(d:i≠j):(mvH h i j x).sum=h.sum:=by
 unfold mvH;rw[HW (by rw[List.length_set];exact u),HW hi,AI hi,if_neg (fun e=>d e.symm)];omega
theorem tP {h s:List Int}{k:Nat}:iC h s k=true↔nB s k<nB h k:=by simp[iC]
theorem BO {h s:List Int}{k:Nat}:jt h s k=true↔nB h k<nB s k:=by simp[jt]
theorem T9 (h s:List Int):odd h s≤s.length:=by
 unfold odd;exact Nat.le_trans (List.length_filter_le _ _) (by simp)
theorem Mu :∀(f:Nat) {h s:List Int},odd h s≤f→h.length=s.length→h.sum=s.sum →
  (∀m∈jD h s,m.1<s.length∧m.2.1<s.length∧m.1≠m.2.1∧iC h s m.1=true∧jt h s m.2.1=true∧0<m.2.2)∧(∀k,k<s.length→Dk (jD h s) k=max 0 (nB h k-nB s k)∧Dl (jD h s) k=max 0 (nB s k-nB h k))∧(jD h s=[]∨(jD h s).length+1≤odd h s):=by
 intro f
 induction f with
 | zero =>
  intro h s hf R hs;have s1:=mO (p:=iC h s) (n:=s.length) _ 0 rfl (Nat.zero_le _);by_cases hr:fs (iC h s) s.length 0=s.length
  ·have he:jD h s=[]:=vt (.inl hr);have J:∀k,k<s.length→nB h k≤nB s k:=fun k u=>by
    have:=s1.2.2.1 k (Nat.zero_le _) (by omega)
    have h2 : ¬nB s k<nB h k:=fun h=>by rw[tP.2 h]at this;cases this
    omega
   have M:=GO R J hs;rw[he];refine⟨by simp,fun k u=>?_,.inl rfl⟩
   have:=M k u
   simp[Dk,Dl];omega
  ·exfalso;have hi:=s1.2.2.2 (by omega)
   have:0<odd h s:=by
    unfold odd;refine List.length_pos_of_mem (a:=fs (iC h s) s.length 0) (List.mem_filter.2 ⟨by simp;omega,?_⟩)
    have:=tP.1 hi
    simp;omega
   omega
 | succ f ih =>
  intro h s hf R hs;have s1:=mO (p:=iC h s) (n:=s.length) _ 0 rfl (Nat.zero_le _);have s2:=mO (p:=jt h s) (n:=s.length) _ 0 rfl (Nat.zero_le _);by_cases hr:fs (iC h s) s.length 0=s.length
  ·have he:jD h s=[]:=vt (.inl hr);have J:∀k,k<s.length→nB h k≤nB s k:=fun k u=>by
    have:=s1.2.2.1 k (Nat.zero_le _) (by omega)
    have h2 : ¬nB s k<nB h k:=fun h=>by rw[tP.2 h]at this;cases this
    omega
   have M:=GO R J hs;rw[he];refine⟨by simp,fun k u=>?_,.inl rfl⟩
   have:=M k u
   simp[Dk,Dl];omega
  by_cases hp:fs (jt h s) s.length 0=s.length
  ·have he:jD h s=[]:=vt (.inr hp);have J:∀k,k<h.length→nB s k≤nB h k:=fun k u=>by
    have:=s2.2.2.1 k (Nat.zero_le _) (by omega)
    have h2 : ¬nB h k<nB s k:=fun h=>by rw[BO.2 h]at this;cases this
    omega
   have M:=GO R.symm J hs.symm;rw[he];refine⟨by simp,fun k u=>?_,.inl rfl⟩
   have:=M k (by omega)
   simp[Dk,Dl];omega
  obtain⟨i,hi⟩:∃i,fs (iC h s) s.length 0=i:=⟨_,rfl⟩
  obtain⟨j,hj⟩:∃j,fs (jt h s) s.length 0=j:=⟨_,rfl⟩
  rw[hi]at s1 hr;rw[hj]at s2 hp;have I:i<s.length:=by omega
  have C:j<s.length:=by omega
  have U:=s1.2.2.2 I;have V:=s2.2.2.2 C;have d:i≠j:=by rintro rfl;have:=tP.1 U;have:=BO.1 V;omega
  rw[Jf R hi hj I C];obtain⟨x,hx⟩:∃x,mvX h s i j=x:=⟨_,rfl⟩
  have xp:=HV U V;have ap:x≤nB h i-nB s i∧x≤nB s j-nB h j:=by rw[←hx];unfold mvX;omega
  have al:=Dj R I C U V;have ad:=fun k=>Mq R I C U V (k:=k);have ag:=fun k=>Mr R I C U V (k:=k);rw[hx]at xp al ad ag ⊢;have hn:=fun k=>GN (h:=h) (i:=i) (j:=j) (k:=k) (x:=x) (by omega) (by omega) d;obtain⟨a1,Z,a3⟩:=ih (h:=mvH h i j x) (s:=s) (by omega) (by rw[Ms];exact R) (by rw[T8 (by omega) (by omega) d];exact hs);generalize jD (mvH h i j x) s=M' at a1 Z a3
  refine⟨fun m hm=>?_,fun k u=>?_,.inr ?_⟩
  ·rcases List.mem_cons.1 hm with rfl|hm
   ·exact⟨I,C,d,U,V,xp⟩
   ·obtain⟨b1,b2,b3,b4,b5,b6⟩:=a1 m hm;refine⟨b1,b2,b3,?_,?_,b6⟩
    ·cases hq:iC h s m.1 with
     | true=>rfl
     | false=>rw[ad _ hq]at b4;cases b4
    ·cases hq:jt h s m.2.1 with
     | true=>rfl
     | false=>rw[ag _ hq]at b5;cases b5
  ·obtain⟨b1,b2⟩:=Z k u;rw[OZ,Pa,b1,b2,hn k];dsimp only
   have:=tP.1 U
   have:=BO.1 V
   by_cases ki:i=k
   ·subst ki;rw[if_neg d,if_pos rfl,if_pos rfl,if_neg (fun e=>d e.symm)];omega
   ·by_cases kj:j=k
    ·subst kj;rw[if_pos rfl,if_neg d,if_pos rfl];omega
    ·have an:¬k=i:=fun e=>ki e.symm;have am:¬k=j:=fun e=>kj e.symm;simp only[ki,kj,an,am,if_false];omega
  ·rcases a3 with h0|h0
   ·rw[h0];show 1+1≤odd h s;unfold odd;have h1:[i,j].Nodup:=by simp[d]
    have X:∀k∈[i,j],k∈(List.range s.length).filter fun k=>nB h k != nB s k:=by
     intro k u;rw[List.mem_filter]
     have:=tP.1 U
     have:=BO.1 V
     rcases List.mem_cons.1 u with rfl|u
     ·exact⟨by simp;omega,by simp;omega⟩
     ·rw[List.mem_singleton.1 u];exact⟨by simp;omega,by simp;omega⟩
    have a1:=X i (by simp);have Z:=X j (by simp);revert a1 Z;generalize (List.range s.length).filter (fun k=>nB h k != nB s k)=l;intro a1 Z
    match l,a1,Z with
    | [a],a1,Z=>exact absurd ((List.mem_singleton.1 a1).trans (List.mem_singleton.1 Z).symm) d
    | _::_::_,_,_=>simp
   ·simp only[List.length_cons];omega
theorem Ta {h s:List Int}(j:h.length=s.length)(d:h.sum=s.sum):(jD h s).length≤s.length-1:=by
 have:=T9 h s
 rcases(Mu _ (Nat.le_refl _) j d).2.2 with h0|h0
 ·rw[h0];simp
 ·omega
theorem HX (all:Int)(c:Nat)(C:0<c):(shL all c).sum=all:=by
 have u:0≤all%(c:Int):=Int.emod_nonneg _ (by omega);have j:all%(c:Int)<c:=Int.emod_lt_of_pos _ (by omega);have h:(c:Int)*(all / (c:Int))+all%(c:Int)=all:=Int.mul_ediv_add_emod all (c:Int);have d:∀n:Nat,((List.range n).map (shr all c)).sum=n*(all / (c:Int))+min (n:Int) (all%(c:Int)):=by
  intro n
  induction n with
  | zero=>simp;omega
  | succ n ih =>
   rw[List.range_succ,List.map_append,List.sum_append,ih];simp only[List.map_cons,List.map_nil,List.sum_cons,List.sum_nil,shr]
   have:((n+1:Nat):Int)*(all / (c:Int))=n*(all / (c:Int))+all / (c:Int):=by push_cast;rw[Int.add_mul];omega
   rw[this];split<;>omega
 unfold shL;rw[d c];omega
theorem Pc {d:Int}{c k:Nat}(h:0≤d):0≤shr d c k:=by
 unfold shr
 have:0≤d / (c:Int):=Int.ediv_nonneg h (by omega)
 split<;>omega
theorem AJ {d:Int}{c k:Nat}(h:k<c):nB (shL d c) k=shr d c k:=by
 unfold nB shL;simp[List.getD,h]
theorem KM :∀{l:List Int} {a:Int},0≤a→(∀x∈l,0≤x)→a+l.sum≤MXA→uw l a=some (a+l.sum)
 | [],a,_,_,_=>by simp[uw]
 | x::l,a,h0,hx,hm=>by
  have C:=hx x (by simp);have u:0≤l.sum:=by
   have:∀{l:List Int},(∀x∈l,0≤x)→0≤l.sum:=by
    intro l
    induction l with
    | nil=>simp
    | cons y l ih=>intro h;have:=h y (by simp);have:=ih fun z j=>h z (by simp[j]);simp only[List.sum_cons];omega
   exact this fun y d=>hx y (by simp[d])
  simp only[List.sum_cons]at hm ⊢;unfold uw;rw[if_neg (by omega),KM (by omega) (fun y d=>hx y (by simp[d])) (by omega)]
  congr 1;omega
end
section
def BP (I L:List Bool)(N:List ND)(id:Int):Option (List Int×List Int) :=
 match N[posN N id]?,eA I L 6 with
 | none,_=>none
 | some _,[]=>none
 | some x,i::r=>match uw (nN x.A (i::r)) 0 with
  | none=>none
  | some all=>some (nN x.A (i::r),shL all (i::r).length)
def qI (I L:List Bool)(N:List ND)(id:Int):List (Int×Int×Int):=match BP I L N id with
 | none=>[]
 | some (has,sh)=>(jD has sh).map fun m=>((eA I L 6).getD m.1 0,(eA I L 6).getD m.2.1 0,m.2.2)
def ux (I L:List Bool)(N:List ND)(id i:Int):Int:=match BP I L N id with
 | none=>0
 | some (_,sh)=>sh.getD ((eA I L 6).findIdx (· == i)) 0
def mT (I L:List Bool)(N:List ND)(i:Int):List (Int×Int×Int):=N.flatMap fun x=>(qI I L N x.id).filterMap fun m=>if m.1=i then some (x.id,m.2.1,m.2.2)else none
/-! ## Sums -/
section
variable {α β:Type}
def smm (l:List α)(f:α→Int):Int:=(l.map f).sum
theorem HY {f:α→Int}:smm [] f=0:=rfl
theorem iF {a:α}{l:List α}{f:α→Int}:smm (a::l) f=f a+smm l f:=by simp[smm]
theorem HZ {l k:List α}{f:α→Int}:smm (l++k) f=smm l f+smm k f:=by simp[smm]
theorem Tb {l:List α}{f g:α→Int}:smm l (fun a=>f a+g a)=smm l f+smm l g:=by
 induction l with
 | nil=>rfl
 | cons a l ih=>rw[iF,iF,iF,ih];omega
theorem smm_zero {l:List α}:smm l (fun _=>0)=0:=by
 induction l with
 | nil=>rfl
 | cons a l ih=>rw[iF,ih];rfl
theorem nf {l:List α}{f g:α→Int}(h:∀a∈l,f a=g a):smm l f=smm l g:=by
 unfold smm;rw[List.map_congr_left h]
theorem KN {l:List α}{k:List β}{f:α→β→Int}:smm l (fun a=>smm k (f a))=smm k (fun b=>smm l fun a=>f a b):=by
 induction l with
 | nil=>rw[HY];exact smm_zero.symm
 | cons a l ih =>
  rw[iF,ih, ←Tb];refine nf fun b _=>?_;rw[iF]
theorem EM {l:List α}{g:α→List β}{f:β→Int}:smm (l.flatMap g) f=smm l fun a=>smm (g a) f:=by
 induction l with
 | nil=>rfl
 | cons a l ih=>rw[List.flatMap_cons,HZ,iF,ih]
theorem Ia {l:List α}{g:α→β}{f:β→Int}:smm (l.map g) f=smm l fun a=>f (g a):=by unfold smm;rw[List.map_map];rfl
theorem Jq {l:List α}{g:α→Option β}{f:β→Int}:smm (l.filterMap g) f=smm l fun a=>match g a with|some b=>f b|none=>0:=by
 induction l with
 | nil=>rfl
 | cons a l ih =>
  rw[iF];cases h:g a with
  | none=>rw[List.filterMap_cons_none h,ih];show _=(0:Int)+_;omega
  | some b=>rw[List.filterMap_cons_some h,iF,ih]
theorem Ib [DecidableEq α]{l:List α}{f:α→Int}{i:α}(u:l.Nodup)(hi:i∈l)(h:∀j∈l,j≠i→f j=0):smm l f=f i:=by
 induction l with
 | nil=>simp at hi
 | cons a l ih =>
  rw[List.nodup_cons]at u;rw[iF];by_cases e:a=i
  ·subst e
   have:smm l f=0:=by
    rw[nf (g:=fun _=>0) fun j d=>h j (by simp[d]) (fun e=>u.1 (e ▸ d))];exact smm_zero
   omega
  ·have C:i∈l:=by rcases List.mem_cons.1 hi with h|h;exact absurd h.symm e;exact h
   rw[ih u.2 C fun j d=>h j (by simp[d]),h a (by simp) e];omega
theorem Pd {l:List α}{f:α→Int}(h:∀a∈l,0≤f a):0≤smm l f:=by
 induction l with
 | nil=>exact Int.le_refl _
 | cons a l ih =>
  rw[iF]
  have:=h a (by simp)
  have:=ih fun b d=>h b (by simp[d])
  omega
theorem Ur {l:List α}{f g:α→Int}(h:∀a∈l,f a≤g a):smm l f≤smm l g:=by
 induction l with
 | nil=>exact Int.le_refl _
 | cons a l ih =>
  rw[iF,iF]
  have:=h a (by simp)
  have:=ih fun b d=>h b (by simp[d])
  omega
theorem Jg {l:List α}{c:Int}:smm l (fun _=>c)=l.length*c:=by
 induction l with
 | nil=>simp[smm]
 | cons a l ih=>rw[iF,ih,List.length_cons];push_cast;rw[Int.add_mul];omega
theorem Mv {l:List α}:(l.length:Int)=smm l fun _=>1:=by rw[Jg];omega
end
/-! ## The live ones -/
theorem ro {I L:List Bool}{k:Nat}{i:Int}:i∈eA I L k↔∃j:Nat,j<k∧i=(j:Int)+1∧I.getD j false=true∧L.getD j false=false:=by
 unfold eA;simp only[List.mem_map,List.mem_filter,List.mem_range,Bool.and_eq_true,Bool.not_eq_true'];constructor
 ·rintro⟨j,⟨u,h,d⟩,rfl⟩;exact⟨j,u,rfl,h,d⟩
 ·rintro⟨j,u,rfl,h,d⟩;exact⟨j,⟨u,h,d⟩,rfl⟩
theorem xt {I L:List Bool}{k:Nat}:(eA I L k).Nodup:=by
 unfold eA;unfold List.Nodup;rw[List.pairwise_map];exact(List.Pairwise.filter _ List.nodup_range).imp fun h e=>h (by omega)
section
variable {s:PL}{id:Int}{x:ND}
theorem QW (u:s.N.Pairwise (·.id < ·.id))(h:x∈s.N):s.N[posN s.N x.id]? = some x:=by
 have d:posN s.N x.id<s.N.length:=List.findIdx_lt_length_of_exists ⟨x,h,by simp⟩;have j:=List.findIdx_getElem (w:=d) (p:=fun y:ND=>y.id==x.id);rw[List.getElem?_eq_getElem d]
 congr 1
 exact GL u (List.getElem_mem _) h (beq_iff_eq.1 j)
theorem Mw {A:List Int}(h:BG A):dG A 0+dG A 1+dG A 2+dG A 3+dG A 4+dG A 5≤MXA:=by
 have d:=h.s;rw[Kr]at d;have f0:=h.f 0 (by omega);have f1:=h.f 1 (by omega);have j:=h.f 2 (by omega);have f3:=h.f 3 (by omega);have C:=h.f 4 (by omega);have u:=h.f 5 (by omega);simp only[dG,show List.range 6=[0,1,2,3,4,5]from rfl,List.map_cons,List.map_nil,List.sum_cons,List.sum_nil,Nat.reduceAdd,Nat.reduceMul]at *;omega
theorem Mx {A:List Int}{I L:List Bool}(h:BG A):nN A (eA I L 6)=(eA I L 6).map fun i=>dG A (i-1).toNat:=by
 unfold nN;refine List.map_congr_left fun i hi=>?_;obtain⟨j,d,rfl,_⟩:=ro.1 hi;rw[Ft A (by omega),kx.2 h]
theorem Fu {A:List Int}{I L:List Bool}(h:BG A):(∀y∈nN A (eA I L 6),0≤y)∧(nN A (eA I L 6)).sum≤MXA:=by
 rw[Mx h];refine⟨fun y M=>?_,?_⟩
 ·obtain⟨i,hi,rfl⟩:=List.mem_map.1 M;obtain⟨j,u,rfl,_⟩:=ro.1 hi;exact h.l _ (by omega)
 ·have R:((eA I L 6).map fun i=>dG A (i-1).toNat).sum=smm ((List.range 6).filter fun k=>I.getD k false && !L.getD k false) (dG A):=by
   unfold eA smm;rw[List.map_map]
   congr 1
   refine List.map_congr_left fun k _=>?_;show dG A (((k:Nat):Int)+1-1).toNat=dG A k
   congr 1;omega
  have J:∀(p:Nat→Bool) (l:List Nat),(∀k∈l,k<6)→smm (l.filter p) (dG A)≤smm l (dG A):=by
   intro p l
   induction l with
   | nil=>intro _;exact Int.le_refl _
   | cons k l ih =>
    intro d
    have:=ih fun j u=>d j (by simp[u])
    have h0:=h.l k (d k (by simp));rw[iF];by_cases C:p k=true
    ·rw[List.filter_cons_of_pos C,iF];omega
    ·rw[List.filter_cons_of_neg C];omega
  rw[R];refine Int.le_trans (J _ _ fun k d=>by simpa using d) ?_
  have:=Mw h
  simp only[smm,show List.range 6=[0,1,2,3,4,5]from rfl,List.map_cons,List.map_nil,List.sum_cons,List.sum_nil];omega
theorem Fv (hi:PI s)(d:x∈s.N)(J:eA s.I s.L 6≠[]):BP s.I s.L s.N x.id=some (nN x.A (eA s.I s.L 6),shL (nN x.A (eA s.I s.L 6)).sum (eA s.I s.L 6).length):=by
 unfold BP;rw[QW hi.srt d];have C:=kx.1 (hi.may x d).1;obtain⟨h,u⟩:=Fu (I:=s.I) (L:=s.L) C;cases j:eA s.I s.L 6 with
 | nil=>exact absurd j J
 | cons i r =>
  rw[j]at h u;simp only;rw[KM (Int.le_refl _) h (by omega),Int.zero_add]
theorem QX (h:eA s.I s.L 6=[]):BP s.I s.L s.N id=none:=by
 unfold BP;rw[h];cases s.N[posN s.N id]? <;> rfl
end
end
end Go.Proofs.YtgpfkmdknlcemaaGreatDoor
