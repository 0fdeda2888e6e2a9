import Derived.Test.YtgohpbmmcgenpaaGreatDoorQ6
import Derived.Test.YtgohpbmmcgenpaaGreatDoorQ2
import Derived.Test.YtgohpbmmcgenpaaGreatDoorQ4
namespace Go.Proofs.YtgohpbmmcgenpaaGreatDoor
set_option maxRecDepth 100000
set_option linter.defProp false
set_option maxHeartbeats 4000000
open Go.Proofs.Tryz
open Go.RowKit
variable {w w' w2 S O:oG}{zf:Nat->oF}{b c o i g m s j z f d c2 D B' ba hi:Nat}{a av a2:Option Addr}{x v r N:Int}{E t e:TypeId}{A:List Int}{B1:KE}{vs:oE}{P:Program}{cx cy:Bool}{α κ:Type}{T:List (Int×Int)}{k':IntKind}{Z1 N2 O2 P2 Q2 H Z U Y J C:oF}
section
attribute [local irreducible] bin un conv call bS blt slc aq fld bv idx lkp fJ nl eSt rng nxt ent ext alc box bld cH ld sto bj fK mkS ifc pick rdy wts aT sti cond bA Gives aj iK kH cOp
section
open Go.ChangeMaps
def PM.oth{q:LB}{s:PL}(h:PM w q s)(o:Oth b w S)(a:b∉q.l):PM S q s:=h.keep λk c _=>o.other k λe=>a (e ▸ c)
def DoesB(B:Nat)(S:oG)(q:LB)(s1:PL)(c:oF):Prop:=∃X:List Nat,(∀k∈X,B<=k)/\∀(a:oG) (K2:KV),Below S.heap.size S a->(∀b,PM b q s1->Ch (X++q.wv) a b->K2 (.tuple #[]) b)->bS Q c #[] K2 a
def Kind(w:oG)(q:LB)(s:PL)(e:EV)(K:KV):Prop :=
 (∀a,pZ e s≠0->Below w.heap.size w a->K (.tuple #[.nilFunc,ci (pZ e s)]) a) /\
 (pZ e s=0->∀a fv,Below w.heap.size w a->DoesB w.heap.size a q (vF e s) fv->K (.tuple #[fv,ci 0]) a)
def Kind.y{q:LB}{s:PL}{e:EV}{K:KV}(f:Kind w q s e K)(c:pZ e s=0)(w':oG)(a:oF)(b:Below w.heap.size w w')(d:zha w' q (vF e s) a):K (.tuple #[a,ci 0]) w':=f.2 c w' a b ⟨[],by simp,d⟩
section
variable  {K:KV}{q:LB}{s:PL}{e:EV}
def zgj(h:PM w q s)(hi:PI s)(J:dI e=true)(W:e.k=1)(hn:dR s.N (idE e)=false)(X:Kind w q s e K):call Q 292 #[pB q.p,.agg (evC e).toArray] K w:=by
 have T:=X.y;obtain⟨O,_⟩:=X;obtain⟨A,ho⟩:=vg J;have f:=jb J;have r:=h.lt;have d:pZ e s=if 5<=jx s.N e.o\/M47<e.a then 6 else (nN (tr s.N) (idE e) e.n).2:=by unfold pZ;rw[oJ W]
 refine ao (goK func292) (KG (LE.make λw1 i s1=>?_));have i:=i.drew;have S:=h.below i.bel;refine ax (λy=>LE w y q e/\PM y q s) ⟨i,S⟩ ?_;refine ac (λy g _=>fS) (ac (λy g _=>lK (v:=iv e.o) g.1.e rfl) ?_);refine ac (λy g _=>pC) (ac (λy g _=>lK (v:=u6 e.s) g.1.e rfl) ?_);refine ac (λy g _=>fS) (ac (λy g _=>lK (v:=iv e.o) g.1.e rfl) ?_)
 refine ac (v:=iv (e.q:Nat)) (λy g K c=>co oo oo (by rw[show e.o-1=(e.q:Nat)by omega];exact c)) ?_;refine mk6 f.1 f.2.1 f.2.2.1 f.2.2.2 (λa b=>⟨i.fresh b,S.below b⟩) λw2 bi bk i2 k2 z E F U=>?_;have Z:w.heap.size+2<=w1.heap.size:=i.sz;have E:w.heap.size+2<=bi:=qR Z E;have F:w.heap.size+2<=bk:=qR Z F;have g2:=i.fresh U
 have p2:=S.below U;refine dw kf i2 oB rfl λw3 L P=>?_;have L:blk w3 bi 32 [u6 (idE e)]:=L;have V:=g2.oth P E;have Y:=p2.oth P λI=>by have:=r _ I;omega
 have k3:=P.blk k2 (λe=>z e.symm);refine aI ⟨V,Y⟩ (dw kf k3 oB rfl λw4 t R=>?_);have t:blk w4 bk 3 [iv (e.q:Nat)]:=t;have M:=(R.blk L z).drew;have t:=t.drew;have j:=(V.oth R F).drew;have D:=(Y.oth R λI=>by have:=r _ I;omega).drew;refine ah (λ_=>lK (v:=pB q.p) j.l rfl) (ah (λ_=>lK (v:=iv (e.q:Nat)) t rfl) ?_)
 refine ah (λ_=>au) (ah (λ_=>RH) (ah (λ_=>ixO rfl A) ?_));refine ah (λK c=>lK (v:=iv ((jx s.N ((e.q:Nat)+1):Nat):Int)) D.b (by rw[oK];exact D.cO A) c) ?_;rw[<-ho];refine ah (λ_=>cJ) ?_;by_cases C:(5:Int)<=((jx s.N e.o:Nat):Int)
 .refine kW C (ah (λ_=>bR C) (bc ?_));rw[oJ (.inl oo)]at d
  have:=O _ (by rw[d];decide) j.bel
  rwa[d]at this
 refine dL C (ah (λ_=>tf) (ah (λ_=>lK (v:=iv e.a) j.e rfl) (ah (λ_=>dE) (ah (λ_=>bG C) ?_))));by_cases H:(140737488355328:Int)<e.a
 .refine aG H ?_;rw[oJ (.inr H)]at d
  have:=O _ (by rw[d];decide) j.bel
  rwa[d]at this
 rw[oI (by simp only[M47];omega)]at d;refine aB H (lK (v:=pB q.p) j.l rfl (lK (v:=u6 (idE e)) M rfl (qo (lK (v:=u6 e.n) j.e rfl ?_))));refine zgz D hi λw5 u=>bo ?_;have G:=j.fresh u;by_cases m:(nN (tr s.N) (idE e) e.n).2≠0
 .refine aG m ?_
  have:=O _ (by rw[d];exact m) G.bel
  rwa[d]at this
 have m:(nN (tr s.N) (idE e) e.n).2=0:=by simpa using m
 refine aB (by simp[m]) (T (by rw[d];exact m) w5 _ G.bel λw6 K2 B x=>cB rfl ?_);have p6:=(D.below u).below B;have g6:=G.fresh B;rw[zfM W]at x;exact zeo g6.lv (ae (u.trans (B.mono u.size)) M M.lt) (ae (u.trans (B.mono u.size)) t t.lt) E F r p6 hi J hn m x
def WA{N:List ND}{ids:List Int}{y:Int}:dZ (rgL (N.map (fe ids c x))) y=match dR N y with|true=>some (if y∈ids then (aN N y).set c (nA (aN N y) c+x)else aN N y)|false=>none:=by
 rw[Qn,Yt λz=>(kS z).1];cases g:dR N y with
 | false=>rfl
 | true =>
  simp only
  congr 1
  unfold aN;rw[List.find?_map];have e:((λz:ND=>z.id==y) ∘ fe ids c x)=λz:ND=>z.id==y:=by
   funext z;show ((fe ids c x z).id==y)=_;rw[(kS z).1]
  rw[e];cases d:N.find? λz=>z.id==y with
  | none =>
   exfalso;obtain⟨z,b,f⟩:=sc.1 g
   have:=List.find?_eq_none.1 d z b
   exact this (by simpa using f)
  | some z =>
   have b:z.id=y:=by simpa using List.find?_some d
   simp only[jP];by_cases a:y∈ids
   .rw[oJ a,Hv (by rw[b];exact a)]
   .rw[oI a,Ds (by rw[b];exact a)]
def XG{N:List ND}:N.map (fe [] c x)=N:=by
 conv=>rhs;rw[<-List.map_id N]
 exact List.map_congr_left λy _=>Ds oB
def zjw{N N':List ND}(h:∀o,jx N' o=jx N o):plC q {s with N:=N'} = plC q {s with N:=N}:=by unfold plC MZ;simp only[h]
def PM.put_c{done:List Int}{id:Int}(h:PM w q {s with N:=s.N.map (fe done c x)})(hi:PI s)(E:id∉done)(D:dR s.N id=true)(B:A=(aN s.N id).set c (nA (aN s.N id) c+x))(C:∀w',PM w' q {s with N:=s.N.map (fe (done++[id]) c x)}->Oth q.rm w w'->K undef w'):fJ Q 136 (.map (some q.rm)) (u6 id) (rgV A) K w:=by
 have a:=h.nd;obtain⟨m,p,F⟩:=h.rm;refine vK u6K underlying136 p λn g d=>C n ?_ d;have e:∀l,(s.N.map (fe l c x)).Pairwise (·.id < ·.id):=λl=>MO (λy=>(kS y).1) hi.srt;have f:(s.N.map (fe (done++[id]) c x)).map (λy=>(y.id,y.par))=(s.N.map (fe done c x)).map λy=>(y.id,y.par):=by
  rw[jG,jG];exact List.map_congr_left λy _=>by
   show ((fe _ _ _ y).id,(fe _ _ _ y).par)=((fe _ _ _ y).id,(fe _ _ _ y).par)
   rw[(kS y).1,(kS y).2,(kS y).1,(kS y).2]
 have f:tr (s.N.map (fe (done++[id]) c x))=tr (s.N.map (fe done c x)):=f;have k:∀k∈q.l,k≠q.rm->n.heap[k]? = w.heap[k]? := λk _ i=>d.other k i;obtain⟨G,I,S,b,R,⟨r,M,u⟩,_,⟨J,O,v⟩,⟨L,P,z⟩,_,H⟩:=h
 refine⟨G,I,S,?_,?_,⟨r,M.oth d (LN.mr a),by show r.Perm (tr _);rw[f];exact u⟩,⟨_,g,?_⟩,⟨J,O.oth d (LN.gr a),v⟩,⟨L,P.oth d (LN.ar a),z⟩,a,H.keep (d.other 1 (LN.zr a))⟩
 .have:=d.blk b (LN.pr a)
  rw[zjw (s:=s) (N:=s.N.map (fe done c x)) (N':=s.N.map (fe (done++[id]) c x)) (λo=>by rw[N9 λy=>(kS y).1,N9 λy=>(kS y).1])];exact this
 .have:=R.oth d (LN.tr a) (LN.dr a)
  show TreeM n q.t q.tp (tr _);rw[f];exact this
 .refine WF (Cz p.nodup) (IM (e _)) λy=>?_;rw[MX,pQ F (IM (e _)),WA,WA];by_cases j:y=id
  .subst j;rw[oJ rfl,D,B];simp
  .rw[oI j];cases dR s.N y with
   | false=>rfl
   | true=>simp[j]
def PM.put1_c{id:Int}(h:PM w q s)(hi:PI s)(d:dR s.N id=true)(a:A=(aN s.N id).set c (nA (aN s.N id) c+x))(b:∀S,PM S q {s with N:=s.N.map (fe [id] c x)}->Oth q.rm w S->K undef S):fJ Q 136 (.map (some q.rm)) (u6 id) (rgV A) K w:=by refine PM.put_c (s:=s) (done:=[]) (c:=c) (x:=x) ?_ hi oB d a b;rw[XG];exact h
end
def Ma{s:PL}(hi:PI s)(id:Int):(aN s.N id).length=54:=by
 cases a:dR s.N id with
 | true=>exact Xw hi a
 | false=>rw[UP a];simp[z54]
def zbh{i j:Int}(a:A.length=54):(xZ A i j x).1.length=54:=by rw[zak];exact Ly _ _ _ _ _ a
def Us{i:Int}(a:A.length=54):(vz A i x).1.length=54:=by rw[zaA];exact Ly _ _ _ _ _ a
def Ur{i:Int}(a:A.length=54):(wU A i x).1.length=54:=by rw[za5];exact Ly _ _ _ _ _ a
section
variable  {K:KV}{q:LB}{s:PL}{e:EV}
def zcJ{r:Nat}(g:LV w z q e)(o:blk w r 56 (A.map iv))(m:A.length=54)(h:PM w q s)(hi:PI s)(k:dR s.N e.n=true)(j:A=(aN s.N e.n).set c (nA (aN s.N e.n) c+x))(a:∀S,PM S q {s with N:=s.N.map (fe [e.n] c x)}->Ch q.wv w S->K (.tuple #[]) S):call Q 303 #[pB r,pB z,pB (z+1)] K w:=by
 refine ao (goK func303) (GC ?_);refine ax (λy=>LV y z q e/\PM y q s/\blk y r 56 (A.map iv)) ⟨g.drew,h.drew,o.drew⟩ ?_;refine ac (λy d _=>lK (v:=pB q.p) d.1.l rfl) (ac (λy d _=>au) (ac (λy d _=>wR) ?_));refine ac (λy d _=>lK (v:=.map (some q.rm)) d.2.1.b (by rw[oK];exact d.2.1.c20)) ?_;refine ac (λy d _=>qo) (ac (λy d _=>lK (v:=u6 e.n) d.1.e rfl) ?_)
 exact ac (λy d _=>uP m d.2.2) (h.drew.put1_c hi k j λt i f=>a t i (Ch.of_oth ⟨f.os,f.tape,f.output,f.size,f.other⟩ (by simp[LB.wv])))
def zet{r:Nat}(g:LV w z q e)(o:blk w r 56 (A.map iv))(m:A.length=54)(h:PM w q s)(hi:PI s)(k:dR s.N e.n=true)(j:A=(aN s.N e.n).set c (nA (aN s.N e.n) c+x))(a:∀S,PM S q {s with N:=s.N.map (fe [e.n] c x)}->Ch q.wv w S->K (.tuple #[]) S):call Q 312 #[pB r,pB z,pB (z+1)] K w:=by
 refine ao (goK func312) (Ix ?_);refine ax (λy=>LV y z q e/\PM y q s/\blk y r 56 (A.map iv)) ⟨g.drew,h.drew,o.drew⟩ ?_;refine ac (λy d _=>lK (v:=pB q.p) d.1.l rfl) (ac (λy d _=>au) (ac (λy d _=>wR) ?_));refine ac (λy d _=>lK (v:=.map (some q.rm)) d.2.1.b (by rw[oK];exact d.2.1.c20)) ?_;refine ac (λy d _=>qo) (ac (λy d _=>lK (v:=u6 e.n) d.1.e rfl) ?_)
 exact ac (λy d _=>uP m d.2.2) (h.drew.put1_c hi k j λt i f=>a t i (Ch.of_oth ⟨f.os,f.tape,f.output,f.size,f.other⟩ (by simp[LB.wv])))
def zeK(h:PM w q s)(hi:PI s)(J:dI e=true)(O:e.k=2)(P:Kind w q s e K):call Q 293 #[pB q.p,.agg (evC e).toArray] K w:=by
 have M:=P.y;obtain⟨R,_⟩:=P;obtain⟨f,ho⟩:=vg J;have aa:=jb J;have x:=h.lt;have Y:1<=e.a/\e.a<=MXA:=by rcases uN J with⟨k,_⟩|⟨_,a,b⟩|⟨k,_⟩|⟨k,_⟩|⟨k,_⟩|⟨k,_⟩|k<;>first|omega|exact⟨a,b⟩
 have i:pZ e s=if dR s.N e.n=false then 9 else if M47<nA (aN s.N e.n) e.q+e.a then 6 else 0:=by unfold pZ;rw[oI oo,oJ O]
 have H:=Ma hi e.n;refine ao (goK func293) (Jn (LE.make λU m s1=>?_));have m:=m.drew;have L:=h.below m.bel;refine ax (λy=>LE w y q e/\PM y q s) ⟨m,L⟩ ?_;refine ac (λy d _=>lK (v:=pB q.p) d.1.l rfl) (ac (λy d _=>au) (ac (λy d _=>wR) ?_));refine ac (λy d _=>lK (v:=.map (some q.rm)) d.2.b (by rw[oK];exact d.2.c20)) ?_
 refine ac (λy d _=>qo) (ac (λy d _=>lK (v:=u6 e.n) d.1.e rfl) ?_);refine ac (λy d _=>d.2.rg_l2 hi) (ac (λy d _=>bK) (ac (λy d _=>bJ) ?_));refine CE λw2 r2 z s2=>aI ⟨m.fresh z,L.below z⟩ (AO rfl H r2 λw3 F S=>?_);have W:w.heap.size+2<=U.drew.heap.size:=m.sz;have r:=(m.fresh z).oth S W;have E:=(L.below z).oth S λj=>by have:=x _ j;omega
 refine aI ⟨r,E⟩ (bH ?_);cases j:dR s.N e.n with
 | false =>
  rw[j,oJ rfl]at i
  have:=R _ (by rw[i];decide) r.bel
  rw[i]at this;exact bc this
 | true =>
 rw[j,oI oB]at i;have Z:nA (aN s.N e.n) e.q<=M47/\0<=nA (aN s.N e.n) e.q:=by
  obtain⟨y,d,X⟩:=zD j;rw[<-X,Ej hi.srt d];exact⟨(hi.may y d).2 _ f,((DY.1 (hi.may y d).1).g _ f).1⟩
 simp only[M47,MXA]at Z Y;have r:=r.drew;have E:=E.drew;have F:=F.drew;refine aD (ah (λ_=>fS) (ah (λ_=>lK (v:=iv e.o) r.e rfl) ?_));refine ah (v:=iv (e.q:Nat)) (λK c=>co oo oo (by rw[show e.o-1=(e.q:Nat)by omega];exact c)) ?_;refine ah (λ_=>Mx) (ah (λ_=>ixR rfl f) ?_)
 refine ah (v:=iv (nA (aN s.N e.n) e.q)) (λ_=>lK F (by rw[oK];exact Hl oo)) ?_;refine ah (λ_=>tf) (ah (λ_=>lK (v:=iv e.a) r.e rfl) ?_);refine ah (λ_=>aY oo oo) ?_;refine ah (λ_=>Mx) (ah (λ_=>ixR rfl f) ?_);refine dw kf F (by simp[H];omega) rfl λV t T=>?_
 obtain⟨A,D⟩:∃A,A=(aN s.N e.n).set e.q (nA (aN s.N e.n) e.q+e.a):=⟨_,rfl⟩
 have I:A.length=54:=by rw[D,qN];exact H
 have t:blk V U.drew.heap.size 56 (A.map iv):=by
  rw[oK]at t;rw[D, <-Hr];exact t
 have B:=r.oth T W;have p4:=E.oth T λj=>by have:=x _ j;omega
 refine GE (fS (lK (v:=iv e.o) B.e rfl (co oo oo ?_)));rw[show e.o-1=(e.q:Nat)by omega];refine Mx (ixR rfl f (lK (v:=iv (nA (aN s.N e.n) e.q+e.a)) t (by
  rw[oK,Hl oo,D,rI oo,xj]) (dE ?_)))
 by_cases C:(140737488355328:Int)<nA (aN s.N e.n) e.q+e.a
 .refine aG C ?_;rw[oJ C]at i
  have:=R _ (by rw[i];decide) B.bel
  rwa[i]at this
 rw[oI C]at i;refine aB C (GF (M i V _ B.bel λw6 K2 G u=>cB rfl ?_));rw[zfN O]at u;exact zcJ (B.fresh G).lv (ae G t t.lt) I (p4.below G) hi j D u
def zeI(h:PM w q s)(hi:PI s)(T:dI e=true)(S:e.k=5)(U:Kind w q s e K):call Q 296 #[pB q.p,.agg (evC e).toArray] K w:=by
 have P:=U.y;obtain⟨M,_⟩:=U;have Z:=jb T;have D:=h.lt;have ea:1<=e.t/\e.t<=6:=by rcases uN T with⟨k,_⟩|⟨k,_⟩|⟨k,_⟩|⟨k,_⟩|⟨_,_,_,a,b,_⟩|⟨k,_⟩|k<;>first|omega|exact⟨a,b⟩
 obtain⟨t,ht⟩:∃t:Nat,t=(e.t-1).toNat:=⟨_,rfl⟩
 have E:t<6:=by omega
 have f:pZ e s=if dR s.N e.n=false then 9 else if s.I.getD (e.t-1).toNat false=false then 10 else (xZ (aN s.N e.n) e.o e.t e.a).2:=by unfold pZ;rw[oI oo,oI oo,oI oo,oI oo,oJ S]
 have B:=Ma hi e.n;refine ao (goK func296) (KH (LE.make λw1 m s1=>?_));have m:=m.drew;have O:=h.below m.bel;refine ax (λy=>LE w y q e/\PM y q s) ⟨m,O⟩ ?_;refine ac (λy d _=>lK (v:=pB q.p) d.1.l rfl) (ac (λy d _=>au) (ac (λy d _=>wR) ?_));refine ac (λy d _=>lK (v:=.map (some q.rm)) d.2.b (by rw[oK];exact d.2.c20)) ?_
 refine ac (λy d _=>qo) (ac (λy d _=>lK (v:=u6 e.n) d.1.e rfl) ?_);refine ac (λy d _=>d.2.rg_l2 hi) (ac (λy d _=>bK) (ac (λy d _=>bJ) ?_));refine CE λw2 r2 G s2=>aI ⟨m.fresh G,O.below G⟩ (AO rfl B r2 λw3 F V=>?_);have Y:w.heap.size+2<=w1.drew.heap.size:=m.sz;have g:=(m.fresh G).oth V Y;have z:=(O.below G).oth V λu=>by have:=D _ u;omega
 refine aI ⟨g,z⟩ (bH ?_);cases u:dR s.N e.n with
 | false =>
  rw[u,oJ rfl]at f
  have:=M _ (by rw[f];decide) g.bel
  rw[f]at this;exact bc this
 | true =>
 rw[u,oI oB, <-ht]at f;have g:=g.drew;have z:=z.drew;have F:=F.drew;refine aD (ah (λ_=>lK (v:=pB q.p) g.l rfl) (ah (λ_=>yD) (ah (λ_=>lK (v:=iv e.t) g.e rfl) ?_)));refine ah (v:=iv (t:Nat)) (λK c=>co oo oo (by rw[show e.t-1=(t:Nat)by omega];exact c)) ?_;refine ah (λ_=>au) (ah (λ_=>HO) (ah (λ_=>VS rfl E) ?_))
 refine ah (λ_=>lK (v:=.bool (s.I.getD t false)) z.b (by rw[oK];exact z.cI E)) (ah (λ_=>bH) ?_);cases R:s.I.getD t false with
 | false =>
  rw[R,oJ rfl]at f
  have:=M _ (by rw[f];decide) g.bel
  rw[f]at this;exact bc this
 | true =>
 rw[R,oI oB]at f;refine aD (uP B F (fS (lK (v:=iv e.o) g.e rfl (yD (lK (v:=iv e.t) g.e rfl (tf (lK (v:=iv e.a) g.e rfl ?_)))))));refine zgx B λw4 H=>bK (bJ ?_);have C:=zbh (i:=e.o) (j:=e.t) (x:=e.a) B;refine AO B C (ae H F F.lt) λw5 X W=>Iy (bo ?_);have L:=(g.fresh H).oth W Y;have p5:=(z.below H).oth W λu=>by have:=D _ u;omega
 by_cases r:(xZ (aN s.N e.n) e.o e.t e.a).2≠0
 .refine aG r ?_
  have:=M _ (by rw[f];exact r) L.bel
  rwa[f]at this
 have r:(xZ (aN s.N e.n) e.o e.t e.a).2=0:=by simpa using r
 refine aB (by simp[r]) (P (by rw[f];exact r) w5 _ L.bel λw6 K2 J A=>cB rfl ?_);rw[zfQ S]at A;exact zet (L.fresh J).lv (ae J X X.lt) C (p5.below J) hi u (zes r) A
def zga(h:PM w q s)(E:dI e=true)(D:e.k=6)(H:Kind w q s e K):call Q 297 #[pB q.p,.agg (evC e).toArray] K w:=by
 have X:1<=e.t/\e.t<=6:=by rcases uN E with⟨k,_⟩|⟨k,_⟩|⟨k,_⟩|⟨k,_⟩|⟨k,_⟩|⟨_,a,b,_⟩|k<;>first|omega|exact⟨a,b⟩
 obtain⟨t,F⟩:∃t:Nat,t=(e.t-1).toNat:=⟨_,rfl⟩
 have g:t<6:=by omega
 have C:pZ e s=0:=by unfold pZ;rw[oI oo,oI oo,oI oo,oI oo,oI oo]
 refine ao (goK func297) (KF (LE.make λR j Y=>H.y C R _ j.bel λZ K2 o m=>cB rfl ?_));have u:=(j.fresh o).drew;have i:=(h.below (j.fresh o).bel).drew;have f:=i.nd;refine ao (goK func313) (Iv ?_);refine ah (λ_=>lK (v:=pB q.p) u.l rfl) (ah (λ_=>yD) (ah (λ_=>lK (v:=iv e.t) u.e rfl) ?_))
 refine ah (v:=iv (t:Nat)) (λK c=>co oo oo (by rw[show e.t-1=(t:Nat)by omega];exact c)) ?_;refine ah (λ_=>au) (ah (λ_=>HO) (ah (λ_=>VS rfl g) ?_));refine dw kf i.b (by rw[i.len];omega) rfl λS r d=>m S ?_ (Ch.of_oth ⟨d.os,d.tape,d.output,d.size,d.other⟩ (by simp[LB.wv]));rw[zfR D, <-F];rw[oK,i.sI g]at r
 obtain⟨G,I,P,b,O,⟨J,T,x⟩,⟨L,U,z⟩,⟨M,V,A⟩,⟨N,W,B⟩,_,n⟩:=i;exact⟨by simp[G],I,P,r,O.oth d (LN.tp f) (LN.dp f),⟨J,T.oth d (LN.mp f),x⟩,⟨L,U.oth d (LN.rp f),z⟩,⟨M,V.oth d (LN.gp f),A⟩,⟨N,W.oth d (LN.ap f),B⟩,f,n.keep (d.other 1 (LN.zp f))⟩
def zek(h:PM w q s)(u:dI e=true)(D:e.k=7)(G:Kind w q s e K):call Q 298 #[pB q.p,.agg (evC e).toArray] K w:=by
 obtain⟨f,W⟩:=vg u;have E:=jb u;have C:pZ e s=0:=by unfold pZ;rw[oI oo,oI oo,oI oo,oI oo,oI oo]
 refine ao (goK func298) (Jm (LE.make λP i X=>G.y C P _ i.bel λY K2 n j=>cB rfl ?_));have t:=(i.fresh n).drew;have g:=(h.below (i.fresh n).bel).drew;have d:=g.nd;refine ao (goK func314) (GB ?_);refine ah (λ_=>lK (v:=pB q.p) t.l rfl) (ah (λ_=>fS) (ah (λ_=>lK (v:=iv e.o) t.e rfl) ?_))
 refine ah (v:=iv (e.q:Nat)) (λK a=>co oo oo (by rw[show e.o-1=(e.q:Nat)by omega];exact a)) ?_;refine ah (λ_=>au) (ah (λ_=>RF) (ah (λ_=>VS rfl f) ?_));refine dw kf g.b (by rw[g.len];omega) rfl λR r c=>j R ?_ (Ch.of_oth ⟨c.os,c.tape,c.output,c.size,c.other⟩ (by simp[LB.wv]));rw[zfS D];rw[oK,g.sL f]at r
 obtain⟨F,H,O,b,N,⟨I,S,x⟩,⟨J,T,z⟩,⟨L,U,A⟩,⟨M,V,B⟩,_,m⟩:=g;exact⟨F,by simp[H],O,r,N.oth c (LN.tp d) (LN.dp d),⟨I,S.oth c (LN.mp d),x⟩,⟨J,T.oth c (LN.rp d),z⟩,⟨L,U.oth c (LN.gp d),A⟩,⟨M,V.oth c (LN.ap d),B⟩,d,m.keep (c.other 1 (LN.zp d))⟩
end
def za3{g:List Int->Int}{N:List ND}:∀{P:List Int} {k:Nat} {id:Int},P[k]? = some id->(∀j y,j<k->P[j]? = some y->g (aN N y)=0)->g (aN N id)≠0->Ap g N P=g (aN N id)
 | [],_,_,h,_,_=>by simp at h
 | y::P,0,id,h,_,hn=>by
  simp at h;subst h;unfold Ap;rw[oJ hn]
 | y::P,k+1,id,h,h0,hn=>by
  unfold Ap;rw[oI (by rw[h0 0 y oo rfl];simp)];exact za3 (by simpa using h) (λj z b a=>h0 (j+1) z oo (by simpa using a)) hn
def zaN{a b:List Int}(h:∀y,y∈a↔y∈b):fe a c x=fe b c x:=by
 funext y;by_cases d:y.id∈a
 .rw[Hv d,Hv ((h _).1 d)]
 .rw[Ds d,Ds (λe=>d ((h _).2 e))]
def ZA{s:PL}(hi:PI s)(id:Int):(fg s.N id).Nodup:=by obtain⟨f,c⟩:=hi.tk;exact(Nb c _ _).imp λ{a b} d e=>by subst e;omega
section
variable  {K:KV}{q:LB}{s:PL}
def zdu{y:Nat}{P:List Int}{f:List Int->List Int×Int}(hz:blk w z 107 [pB q.p])(hy:blk w y 136 [.map (some b)])(hf:MB u6 rgV w b (P.map λa=>(a,(f (aN s.N a)).1)))(aa:z∉q.l)(X:b∉q.l)(h:PM w q s)(hi:PI s)(hP:∀id∈P,dR s.N id=true/\(f (aN s.N id)).1=(aN s.N id).set c (nA (aN s.N id) c+x))(hl:∀A,A.length=54->(f A).1.length=54)(d:∀w',PM w' q {s with N:=s.N.map (fe P c x)}->Ch q.wv w w'->K (.tuple #[]) w'):call Q 317 #[pB y,pB z] K w:=by
 have B:=h.lt;have C:q.rm∈q.l:=by simp[LB.l]
 refine ao (goK func317) (Ik (lK (v:=.map (some b)) hy rfl (PJ underlying136 hf λw1 ab T s1=>?_)));have ag:=hf.lt;have F:b≠q.rm:=λe=>X (e ▸ C);have H:w.heap.size≠q.rm:=λe=>by have:=B _ C;omega
 refine FH (Inv:=λE=>∃a,IT u6 rgV E w.heap.size b (P.map λa=>(a,(f (aN s.N a)).1)) a/\PM E q {s with N:=s.N.map (fe a c x)}/\blk E z 107 [pB q.p]/\Ch q.wv w E/\w.heap.size+1<=E.heap.size) (μ:=λE=>jm E b w.heap.size)
  ⟨[],ab,by rw[XG];exact h.below T,ae T hz hz.lt,Ch.of_below T,by omega⟩ ?_
 rintro dd w2 m ⟨a,M,p2,z2,c2,s2⟩ hm;refine Po M oo (λn=>?_) λid v w3 I Z i W S af=>?_
 .refine te rfl (aD (d w2 ?_ c2));have o:=M.nodup.2.2;rw[jG]at n o;have e:∀y,y∈a↔y∈P:=λy=>⟨λj=>by simpa using o y j,λj=>n y (by simpa using j)⟩
  rw[<-zaN e];exact p2
 .obtain⟨g,G,V⟩:=qT.1 I;simp only[jH]at V;obtain⟨rfl,rfl⟩:=V;obtain⟨j,J⟩:=hP g G;have L:=hl _ (Ma hi g);refine te rfl (bc (OF W (bK (bJ (CE λw4 r4 U s4=>AO rfl L r4 λw5 r5 o5=>?_)))));have s3:=S.size;have Y:w.heap.size∉q.l:=λj=>by have:=B _ j;omega
  have p3:=p2.oth S Y;have z3:=S.blk z2 (by have:=hz.lt;omega);have p5:=((p3.below U).oth o5 λj=>by have:=B _ j;omega).drew;have z5:=(o5.blk (ae U z3 z3.lt) (by have:=z3.lt;omega)).drew;have t:Ch [w3.heap.size] w3 w5:=(Ch.of_below U:Ch [w3.heap.size] w3 w4).trans (Ch.of_oth o5 oB:Ch [w3.heap.size] w4 w5) (λx a=>.inl a)
  have c3:Ch q.wv w w3:=c2.trans (Ch.of_oth S oB:Ch [w.heap.size] w2 w3) oB;have c5:Ch q.wv w w5.drew:=(c3.trans t (by
   intro k O;have O:k=w3.heap.size:=by simpa using O
   exact .inr oo)).trans (Ch.of_below (jT _ w5).drew:Ch [] w5 w5.drew) oB
  have s5:=t.size;have R:∀k,k<w3.heap.size->w5.drew.heap[k]? = w3.heap[k]? := λk O=>(t.block k O (by simp;omega))
  have ad:IT u6 rgV w5.drew w.heap.size b _ (a++[g]):=i.kept (R _ i.lt.2) (R _ i.lt.1);refine ax (λu=>PM u q {s with N:=s.N.map (fe a c x)}/\blk u z 107 [pB q.p]/\blk u w3.heap.size 56 ((f (aN s.N g)).1.map iv)) ⟨p5,z5,r5.drew⟩ ?_;refine ac (λu r _=>lK (v:=pB q.p) r.2.1 rfl) (ac (λu r _=>au) (ac (λu r _=>wR) ?_))
  refine ac (λu r _=>lK (v:=.map (some q.rm)) r.1.b (by rw[oK];exact r.1.c20)) <|ac (λu r _=>uP L r.2.2) ?_;refine p5.put_c hi Z j J λw6 p6 D=>⟨⟨a++[g],?_,p6,?_,?_,by rw[D.size];show _<=w5.heap.size;omega⟩,?_⟩
  .exact ad.kept (D.other _ F) (D.other _ H)
  .exact D.blk z5 λe=>aa (e ▸ C)
  .exact c5.trans (Ch.of_oth D oB:Ch [q.rm] w5.drew w6) (by simp[LB.wv])
  .rw[hm];have V:jm w6 b w.heap.size=jm w3 b w.heap.size:=xg ((D.other _ F).trans (R _ i.lt.2)) ((D.other _ H).trans (R _ i.lt.1));omega
def YS{node:Int}{f:List Int->List Int×Int}(h:PM w q s)(hi:PI s)(hl:∀A,A.length=54->(f A).1.length=54)(Z:∀A,(f A).2=0->(f A).1=A.set c (nA A c+x))(L:∀A,A.length=54->∀R,Below w.heap.size w R->∀K':KV,(∀w2,Below R.heap.size R w2->K' (.tuple #[rgV (f A).1,ci (f A).2]) w2)->bS Q Z1 #[rgV A] K' R)(no:∀w',Ap (λA=>(f A).2) s.N (fg s.N node)≠0->Below w.heap.size w w'->K (.tuple #[.nilFunc,ci (Ap (λA=>(f A).2) s.N (fg s.N node))]) w')(ac:Ap (λA=>(f A).2) s.N (fg s.N node)=0->∀w' fv,fv.oneCell'=true->Below w.heap.size w w'->zha w' q {s with N:=s.N.map (fe (fg s.N node) c x)} fv->K (.tuple #[fv,ci 0]) w'):call Q 304 #[pB q.p,u6 node,Z1] K w:=by
 have aj:=h.lt;obtain⟨rk,am⟩:=hi.tk;have aq:=hi.len30;have J:=hi.plen node;have G:=ZA hi node;have C:∀id∈fg s.N node,dR s.N id=true:=λid=>sH;refine ao (goK func304) (KA (bU λR h1 b1 s1=>xa underlying136 rfl u6 rgV λw2 m2 b2 s2=>cD (z:=.map none) kr λw3 h3 b3 s3=>?_));have h1:=cZ h1
 have h3:=cZ h3
 refine dw kf h3 (by show 0<1;decide) rfl λw4 U o4=>?_;have U:blk w4 w2.heap.size 136 [.map (some R.heap.size)]:=U;have B:Below w.heap.size w w4:=gI (b1.trans ((b2.mono oo).trans (b3.mono oo))) o4 oo;have z4:blk w4 w.heap.size 107 [pB q.p]:=o4.blk (ae b3 (ae b2 h1 h1.lt) oo) oo;have m4:=(m2.below b3).oth o4 oo
 have p4:=h.below B;have s4:w4.heap.size=w.heap.size+3:=by rw[o4.size];omega
 rw[show w2.heap.size=w.heap.size+2 by omega]at U |-;rw[s1]at U m4;refine lK (v:=pB q.p) z4 rfl (au (Bw (lK (v:=pB q.t) p4.b (by rw[oK];exact p4.c18) ?_)));refine Qs am p4.tm (by rw[Wc];omega) λw5 a ca ho T=>bM underlying172 ?_;change World.ownsRow w5 w4.heap.size _ 1 (.slice a (fg s.N node).length ca) (fg s.N node).length ((fg s.N node).map u6)at ho;show mW K _ w5
 obtain⟨P,X⟩:∃P,P=fg s.N node:=⟨_,rfl⟩
 have Y:fy (tr s.N) node=P:=by rw[X];rfl
 rw[Y];rw[<-X]at J G C no ac ho;have r:IdR w5 w4.heap.size a ca P:=IdR.own ho rfl;have nz:∀b,w.heap.size<=b->b∉q.l:=λb V hh=>by have:=aj _ hh;omega
 refine Il (Inv:=λi S=>∃k:Nat,i=iv (k:Nat)/\k<=P.length/\PM S q s/\blk S w.heap.size 107 [pB q.p]/\blk S (w.heap.size+2) 136 [.map (some (w.heap.size+1))] /\
   MB u6 rgV S (w.heap.size+1) ((P.take k).map λa=>(a,(f (aN s.N a)).1))/\IdR S w4.heap.size a ca P/\Below w.heap.size w S/\(∀j y,j<k->P[j]? = some y->(f (aN s.N y)).2=0)/\w.heap.size+3<=S.heap.size)
  (μ:=λi _=>P.length-(intOf i).toNat) ⟨0,rfl,qG _,p4.below T,ae T z4 z4.lt,ae T U U.lt,m4.below T,r,B.trans (T.mono B.size),λj y a=>by omega,by have:=T.size;omega⟩ ?_
 rintro _ dd w6 m ⟨k,rfl,ar,p6,W,y6,m6,aa,n,hz,av⟩ hm;refine aW ?_;by_cases d:k<P.length
 .refine aG oo (aa.at2 d λpt=>?_);have M:P[k]? = some P[k]:=gE d;generalize P[k]=id at M;have ap:id∈P:=mO M;refine lK (v:=pB q.p) W rfl (au (wR (lK (v:=.map (some q.rm)) p6.b (by rw[oK];exact p6.c20) ?_)))
  refine p6.rg_l hi (L _ (Ma hi id) w6 n _ λw7 D=>bK (bJ (CE λw8 r8 b8 s8=>AO rfl (hl _ (Ma hi id)) r8 λw9 r9 O=>bo ?_)));have o:=D.trans (b8.mono D.size);have E:Below w.heap.size w w9:=gI (n.trans (o.mono n.size)) O (by have:=D.size;omega);have s7:=D.size;by_cases H:(f (aN s.N id)).2≠0
  .refine aG H ?_;have ee:=za3 (g:=λA=>(f A).2) M hz H
   have:=no w9 (by rw[ee];exact H) E
   rwa[ee]at this
  have H:(f (aN s.N id)).2=0:=by simpa using H
  have z9:=O.blk (ae o W W.lt) (by have:=W.lt;omega);have y9:=O.blk (ae o y6 y6.lt) (by have:=y6.lt;omega);have m9:=(m6.below o).oth O (by have:=m6.lt;omega);have p9:=(p6.below o).oth O (nz _ oo)
  refine aB (by simp[H]) (lK (v:=.map (some (w.heap.size+1))) y9 rfl (uP (hl _ (Ma hi id)) r9 (vK (v:=(f (aN s.N id)).1) u6K underlying136 m9 λan ab u=>aY oo oo ?_)));have I:dZ ((P.take k).map λa=>(a,(f (aN s.N a)).1)) id=none:=by
   rw[wF,jG];intro hh;obtain⟨y,hy,e⟩:=qT.1 hh;have e:y=id:=e;subst e;obtain⟨i,ag,e2⟩:=List.getElem_of_mem hy;rw[List.getElem_take]at e2;have ah:i<k:=by simp at ag;omega
   have:=(List.pairwise_iff_getElem.1 G) i k oo d ah
   rw[gE d]at M;exact this (e2.trans (Option.some.inj M).symm)
  rw[yN I]at ab;have ad:P.take (k+1)=P.take k++[id]:=by rw[List.take_add_one,M];rfl
  refine⟨⟨k+1,ivS,d,p9.oth u (nz _ oo),u.blk z9 oo,u.blk y9 oo,by rw[ad,jJ];exact ab,?_,gI E u oo,λj y hj hy=>?_,by rw[u.size,O.size];omega⟩,by rw[hm];show P.length-((k:Int)+1).toNat<P.length-(k:Int).toNat;omega⟩
  .have al:∀g cs,blk w9 g 32 cs->blk an g 32 cs:=λg cs V=>u.blk V λe=>by
    subst e;obtain⟨es,cc,ak⟩:=m9;exact Hn ak.heap oB _ V
   refine((aa.below o).imp λg cs _ V=>O.blk V λe=>?_).imp λg cs _=>al g cs;subst e;exact qI (Hu V r8) dc
  .by_cases e:j=k
   .subst e;rw[M]at hy;cases hy;exact H
   .exact hz j y oo hy
 .have ai:k=P.length:=by omega
  refine aB oo (Im ?_);have F:∀id∈P,(f (aN s.N id)).2=0:=λid r=>by
   obtain⟨j,hj,e⟩:=List.getElem_of_mem r;exact hz j id oo (by rw[gE hj,e])
  rw[ai,List.take_length]at m6;exact ac (Hg.2 F) w6 _ rfl n λw7 K2 D af=>cB rfl (zdu (ae D W W.lt) (ae D y6 y6.lt) (m6.below D) (nz _ oo) (nz _ oo) (p6.below D) hi (λa r=>⟨C a r,Z _ (F a r)⟩) hl af)
end
def zdy{R:List (List Int)}{k:Nat}(a:k<R.length):po (R.set k (R.getD k []++[r])) j x=(po R j x || (decide (j=k)&&decide (x=r))):=by
 unfold po;rw[yF a];by_cases h:j=k
 .subst h;rw[oJ rfl,Bool.eq_iff_iff];simp
 .rw[oI h];simp[h]
def ze2{G:List GR}{o f:Int}:mw (G.map (tM o f r)) o f=(mw G o f).map λg=>{g with b:=r}:=by
 unfold mw;rw[List.find?_map];have e:((λg:GR=>g.o==o&&g.q==f) ∘ tM o f r)=λg:GR=>g.o==o&&g.q==f:=by
  funext g;show ((tM o f r g).o==o&&(tM o f r g).q==f)=_;rw[(pH g).1,(pH g).2]
 rw[e];cases c:G.find? λg=>g.o==o&&g.q==f with
 | none=>rfl
 | some g =>
  have a:=List.find?_some c;rw[oM,beq_iff_eq,beq_iff_eq]at a;simp only[jP]
  congr 1
  unfold tM;rw[oJ a]
def zb0{s:PL}(hi:PI s){o:Int}(h:po s.R (o-1).toNat r=false):mw s.G o r=none:=by
 cases d:mw s.G o r with
 | none=>rfl
 | some g =>
  obtain⟨c,a,b⟩:=BA d
  have:=(hi.gk g c).2.2.2.2.2.2
  rw[a,b,h]at this;cases this
section
variable  {K:KV}{q:LB}{s:PL}{e:EV}
def PM.ask_c{o:Int}(h:PM w q s)(M:1<=o)(N:o<=6)(u:s.R.length=6)(t:∀S,PM S q {s with R:=s.R.set (o-1).toNat (s.R.getD (o-1).toNat []++[r])}->Oth q.am w S->K undef S):fJ Q 138 (.map (some q.am)) (rqV (o,r)) (.bool true) K w:=by
 have a:=h.nd;obtain⟨m,x,y⟩:=h.am;refine vK (v:=true) rqK underlying138 x λL g c=>t L ?_ c;obtain⟨z,B,J,b,I,⟨C,F,l⟩,⟨D,G,n⟩,⟨E,H,p⟩,_,_,A⟩:=h;refine⟨z,B,J,c.blk b (LN.pa a),I.oth c (LN.ta a) (LN.da a),⟨C,F.oth c (LN.ma a),l⟩,⟨D,G.oth c (LN.ra a),n⟩,⟨E,H.oth c (LN.ga a),p⟩,⟨_,g,λi j d e=>?_⟩,a,A.keep (c.other 1 (LN.za a))⟩
 rw[MX,y i j d e,zdy (by rw[u];omega)];by_cases f:i=o/\j=r
 .obtain⟨rfl,rfl⟩:=f;simp
 .rw[oI (by simpa using f)]
  have:(decide ((i-1).toNat=(o-1).toNat)&&decide (j=r))=false:=by
   rw[Bool.eq_false_iff];intro k;rw[oM,oP,oP]at k;exact f ⟨by omega,k.2⟩
  rw[this,Bool.or_false]
def PM.gm_c{g:GR}{G':List GR}(h:PM w q s)(p:s.G.Pairwise ltG)(e:G'.Pairwise ltG)(hG:∀o r,mw G' o r=if (o,r)=(g.o,g.q)then some g else mw s.G o r)(l:∀S,PM S q {s with G:=G'}->Oth q.gm w S->K undef S):fJ Q 137 (.map (some q.gm)) (rqV (g.o,g.q)) (grV g) K w:=by
 have a:=h.nd;obtain⟨m,f,n⟩:=h.gm;refine vK (v:=g) rqK underlying137 f λI d c=>l I ?_ c;obtain⟨t,x,H,b,F,⟨z,C,i⟩,⟨A,D,j⟩,_,⟨B,E,k⟩,_,u⟩:=h;refine⟨t,x,H,c.blk b (LN.pg a),F.oth c (LN.tg a) (LN.dg a),⟨z,C.oth c (LN.mg a),i⟩,⟨A,D.oth c (LN.rg a),j⟩,⟨_,d,?_⟩,⟨B,E.oth c (LN.ag a),k⟩,a,u.keep (c.other 1 (LN.zg a))⟩
 refine WF (Cz f.nodup) (MI e) λy=>?_;obtain⟨o,r⟩:=y;rw[MX,pQ n (MI p),Hk,Hk,hG]
def IQ{o:Int}(a:blk w b 175 [iv o,u6 r])(h:K (rqV (o,r)) w):ld Q 175 (pB b) K w :=
 ldA (n:=2) (vs:=[iv o,u6 r]) underlying175 rfl kr a rfl rfl h
def zgG{o:Int}{K2:oF->KV}(h:∀S,blk S w.heap.size 175 [iv o,u6 r]->Below w.heap.size w S->K2 (pB w.heap.size) undef S):alc Q 175 (λb=>sto Q 175 b (.agg [iv o,u6 r].toArray) (K2 b)) w:=by
 refine cD (z:=.agg #[iv 0,u6 0]) kr λf a c i=>?_;have a:blk f w.heap.size 175 [iv 0,u6 0]:=by simpa[Value.cells,iv,u6]using a
 exact fY (n:=2) kr rfl a oB (by simp[iv,u6,Value.oneCell']) λg d e=>h g (by simpa using d) (gI c e oA)
def zeX(d:A.length=54)(h:blk w (z+1) 49 (evC e))(n:∀S,Below w.heap.size w S->K (.tuple #[rgV (vz A e.o e.a).1,ci (vz A e.o e.a).2]) S):call Q 305 #[rgV A,pB (z+1)] K w:=by
 have j:=Us (i:=e.o) (x:=e.a) d;refine ao (goK func305) (Iz (Uv λt k m r=>CE λu l f s=>?_));have b:=m.trans (f.mono oo);have c:=ae b h h.lt;refine uP d (ae f k k.lt) (fS (lK (v:=iv e.o) c rfl (tf (lK (v:=iv e.a) c rfl ?_))));refine zgA d λy g=>bK (bJ (AO rfl j (ae g l l.lt) λB q p=>?_))
 exact yS (λ_=>uP j q) (n _ (gI (b.trans (g.mono b.size)) p oo))
def zeY{x y:Nat}(g:LV w z q e)(hx:blk w x 195 [Z1])(M:blk w y 175 [iv e.o,u6 e.r])(L:∀k∈q.l,k<z)(aa:z<=x)(O:z<=y)(hi:PI s)(hm:dI e=true)(A:e.k=3)(j:po s.R e.q e.r=false)(t:dR s.N e.n=true)(Z:∀K2:KV,(∀i,PM i q {s with N:=s.N.map (fe (fg s.N e.n) (6+e.q) e.a)}->Ch q.wv w i->K2 (.tuple #[]) i)->bS Q Z1 #[] K2 w)(c:∀w',PM w' q (vF e s)->Ch q.wv w w'->K (.tuple #[]) w'):call Q 307 #[pB x,pB z,pB y,pB (z+1)] K w:=by
 have B:=jb hm;have U:∀k∈q.wv,k<z:=λk A=>L k (LB.wl k A);have zn:∀b,z<=b->b∉q.wv:=λb hb t=>by have:=U b t;omega
 refine ao (goK func307) (IA (lK (v:=Z1) hx rfl (Z _ λF D I=>?_)));have S:=(g.ch I λk A=>.inl (U k A)).drew;have V:=(M.ch I (zn _ O)).drew;have D:=D.drew;refine ax (λu=>LV u z q e/\blk u y 175 [iv e.o,u6 e.r]/\PM u q {s with N:=s.N.map (fe (fg s.N e.n) (6+e.q) e.a)}) ⟨S,V,D⟩ ?_
 refine ac (λu d _=>lK (v:=pB q.p) d.1.l rfl) (ac (λu d _=>au) (ac (λu d _=>Ms) ?_));refine ac (λu d _=>lK (v:=.map (some q.am)) d.2.2.b (by rw[oK];exact d.2.2.c28)) <|ac (λu d _=>IQ d.2.1) ?_;refine D.ask_c B.1 B.2.1 hi.r6 λw2 E P=>?_;have H:q.am<z:=L _ (by simp[LB.l]);have Y:q.gm<z:=L _ (by simp[LB.l]);have X:=(S.oth P (.inl H)).drew
 have y2:=(P.blk V oo).drew;have E:=E.drew;refine ax (λu=>LV u z q e/\blk u y 175 [iv e.o,u6 e.r]/\PM u q {s with N:=s.N.map (fe (fg s.N e.n) (6+e.q) e.a),R:=s.R.set (e.o-1).toNat (s.R.getD (e.o-1).toNat []++[e.r])}) ⟨X,y2,E⟩ ?_;refine ac (λu d _=>lK (v:=pB q.p) d.1.l rfl) (ac (λu d _=>au) (ac (λu d _=>Mr) ?_))
 refine ac (λu d _=>lK (v:=.map (some q.gm)) d.2.2.b (by rw[oK];exact d.2.2.c27)) <|ac (λu d _=>IQ d.2.1) ?_;refine ac (λu d _=>fS) (ac (λu d _=>lK (v:=iv e.o) d.1.e rfl) ?_);refine ac (λu d _=>wQ) (ac (λu d _=>lK (v:=u6 e.r) d.1.e rfl) ?_);refine ac (λu d _=>qo) (ac (λu d _=>lK (v:=u6 e.n) d.1.e rfl) ?_)
 refine ac (λu d _=>tf) (ac (λu d _=>lK (v:=iv e.a) d.1.e rfl) ?_);refine ac (λu d _=>cE (vs:=grC ⟨e.o,e.r,e.n,e.a,0⟩) kr) ?_;have f:mw s.G e.o e.r=none:=zb0 hi j;have C:(kJ ⟨e.o,e.r,e.n,e.a,0⟩ s.G).Pairwise ltG:=Kq hi.gs λy M t=>by
  have T:mw s.G y.o y.q≠none:=by
   unfold mw;intro hn
   have:=List.find?_eq_none.1 hn y M
   simp at this
  rw[t.1,t.2]at T;exact T f
 have h:(grL (kJ ⟨e.o,e.r,e.n,e.a,0⟩ s.G)).Perm (grL s.G++[((e.o,e.r),⟨e.o,e.r,e.n,e.a,0⟩)]):=(insG_perm.map _).trans (List.perm_append_singleton _ _).symm;refine E.gm_c (g:=⟨e.o,e.r,e.n,e.a,0⟩) (G':=kJ ⟨e.o,e.r,e.n,e.a,0⟩ s.G) hi.gs C (λo r=>?_) λi p3 o3=>c i ?_ ?_
 .have J:((grL s.G++[((e.o,e.r),(⟨e.o,e.r,e.n,e.a,0⟩:GR))]).map (·.1)).Nodup:=(h.map (·.1)).nodup_iff.1 (MI C);show _=if (o,r)=(e.o,e.r)then _ else _
  rw[<-Hk,pQ h J, <-yN (m:=grL s.G) (x:=(e.o,e.r)) (by rw[Hk];exact f),MX, <-Hk]
 .rw[zfO A];exact p3
 .have W:Ch q.wv w w2:=(I.trans (Ch.of_below (jT _ F).drew:Ch [] F F.drew) oB).trans (Ch.of_oth P oB:Ch [q.am] F.drew w2) (by simp[LB.wv]);exact(W.trans (Ch.of_below (jT _ w2).drew:Ch [] w2 w2.drew) oB).trans (Ch.of_oth o3 oB:Ch [q.gm] w2.drew i) (by simp[LB.wv])
def zgX(h:PM w q s)(hi:PI s)(hm:dI e=true)(hk:e.k=3)(kd:Kind w q s e K):call Q 294 #[pB q.p,.agg (evC e).toArray] K w:=by
 have ab:=kd.y;obtain⟨no,_⟩:=kd;obtain⟨ad,ho⟩:=vg hm;have J:=jb hm;have aa:=h.lt;have g:pZ e s=if po s.R e.q e.r=true then 14 else if dR s.N e.n=false then 9 else Ap (λA=>(vz A e.o e.a).2) s.N (fg s.N e.n):=by unfold pZ;rw[oI oo,oI oo,oJ hk]
 refine ao (goK func294) (KI (LE.make λw1 G s1=>?_));have p1:=h.below G.bel;refine fS (lK (v:=iv e.o) G.e rfl (wQ (lK (v:=u6 e.r) G.e rfl (cE (vs:=[iv e.o,u6 e.r]) kr (zgG λw2 O b2=>?_)))));have U:=(G.fresh b2).drew;have P:=(p1.below b2).drew;have O:=O.drew;have zy:w.heap.size+2<=w1.heap.size:=G.sz
 refine ah (λ_=>lK (v:=pB q.p) U.l rfl) (ah (λ_=>au) (ah (λ_=>Ms) ?_));refine ah (λ_=>lK (v:=.map (some q.am)) P.b (by rw[oK];exact P.c28)) (ah (λ_=>IQ O) (ah (λ_=>P.ask_l J.1 J.2.1) ?_));rw[show (e.o-1).toNat=e.q from rfl];cases i:po s.R e.q e.r with
 | true =>
  rw[i,oJ rfl]at g
  have:=no _ (by rw[g];decide) U.bel
  rw[g]at this;exact bc this
 | false =>
 rw[i,oI oB]at g;have C:=U.drew;have p3:=P.drew;refine aD (ax (λu=>LE w u q e/\PM u q s) ⟨C,p3⟩ ?_);refine ac (λu j _=>lK (v:=pB q.p) j.1.l rfl) (ac (λu j _=>au) (ac (λu j _=>Bw) ?_));refine ac (λu j _=>lK (v:=pB q.t) j.2.b (by rw[oK];exact j.2.c18)) ?_;refine ac (λu j _=>qo) (ac (λu j _=>lK (v:=u6 e.n) j.1.e rfl) ?_)
 refine UJ p3.tm (ax (λ_=>True) trivial (ac (λu j _=>bH) ?_));rw[mR];cases hh:dR s.N e.n with
 | false =>
  rw[hh,oJ rfl]at g
  have:=no _ (by rw[g];decide) C.bel
  rw[g]at this;exact bc this
 | true =>
 rw[hh,oI oB]at g;refine aD (lK (v:=pB q.p) C.l rfl (qo (lK (v:=u6 e.n) C.e rfl ?_)));refine YS (f:=λA=>vz A e.o e.a) (c:=6+e.q) (x:=e.a) p3 hi (λA I=>Us I) (λA I=>zeV I) (λA I m E a V => cB rfl (zeX I (C.fresh E).e V)) (λm L E=>?_) λh0 m fv Z E Y=>?_
 .have H:=C.fresh E;refine bK (bJ (cD (z:=.nilFunc) kr λw5 D S s5=>?_));have D:=cZ D
  refine dw kf D oB rfl λw6 M o6=>yM (bo (aG L ?_))
  have:=no w6 (by rw[g];exact L) (gI (H.fresh S).bel o6 (by have:=H.sz;omega))
  rwa[g]at this
 .have H:=C.fresh E;refine bK (bJ (cD (z:=.nilFunc) kr λw5 D S s5=>?_));have D:=cZ D
  refine dw kf D oB Z λw6 M o6=>yM (bo (aB oB ?_));have M:blk w6 m.heap.size 195 [fv]:=M;have B:Below m.heap.size m w6:=gI S o6 oA;have g6:=H.fresh B;have af:=H.sz;refine ab (by rw[g];exact h0) w6 _ g6.bel λw7 K2 T W=>cB rfl ?_;have F:Below m.heap.size m w7:=B.trans (T.mono B.size);have y4:=ae E O.drew O.lt
  exact zeY (g6.fresh T).lv (ae T M M.lt) (ae F y4 y4.lt) aa oo oo hi hm hk i hh (λa X=>Y w7 a F X) W
end
section
variable  {K:KV}{q:LB}{s:PL}{e:EV}
def Qq(h:∀S,blk S w.heap.size 175 [iv 0,u6 0]->Below w.heap.size w S->S.heap.size=w.heap.size+1->K (pB w.heap.size) S):alc Q 175 K w :=
 cD (z:=.agg #[iv 0,u6 0]) kr λd b a c=>h d (by simpa[Value.cells,iv,u6]using b) a c
def zaw{o:Int}(c:blk w b 175 [iv 0,u6 0])(h:∀S,blk S b 175 [iv o,u6 r]->Oth b w S->K undef S):sto Q 175 (pB b) (.agg [iv o,u6 r].toArray) K w :=
 fY (n:=2) kr rfl c oB (by simp[iv,u6,Value.oneCell']) λe a d=>h e (by simpa using a) d
def zjs{S0:oG->Prop}{T:oF->oF->(oG->Prop)->oG->Prop}(f:∀O,Below w.heap.size w O->S0 O)(h:∀O e bk,blk O e 175 [iv 0,u6 0]->blk O bk 175 [iv 0,u6 0]->e≠bk->w.heap.size<=e->w.heap.size<=bk->Below w.heap.size w O->T (pB e) (pB bk) S0 O):(alc Q 175 (λi=>bw S0 λS=>alc Q 175 λk=>bw S λS=>T i k S) w)/\(alc Q 175 (λk=>bw S0 λS=>alc Q 175 λi=>bw S λS=>T i k S) w):=by
 refine⟨Qq λn d a l=>aI (f _ a) (Qq λj g b m=>?_),Qq λn d a l=>aI (f _ a) (Qq λj g b m=>?_)⟩
 .have c:=a.trans (b.mono oo);exact aI (f _ c) (h j _ _ (ae b d d.lt) g oo oo oo c)
 .have c:=a.trans (b.mono oo);exact aI (f _ c) (h j _ _ g (ae b d d.lt) oo oo oo c)
def zdZ{y:Nat}{g:GR}(c:A.length=54)(k:blk w (z+1) 49 (evC e))(m:blk w y 61 (grC g))(r:∀S,Below w.heap.size w S->K (.tuple #[rgV (wU A e.o g.a).1,ci (wU A e.o g.a).2]) S):call Q 308 #[rgV A,pB (z+1),pB y] K w:=by
 have l:=Ur (i:=e.o) (x:=g.a) c;refine ao (goK func308) (Ir (Uv λC n q u=>CE λD p h B=>?_));have b:=q.trans (h.mono oo);have d:=ae b k k.lt;have f:=ae b m m.lt;refine uP c (ae h n n.lt) (fS (lK (v:=iv e.o) d rfl (Yc (lK (v:=iv g.a) f rfl ?_))));refine zgu c λE j=>bK (bJ (AO rfl l (ae j p p.lt) λF t s=>?_))
 exact yS (λ_=>uP l t) (r _ (gI (b.trans (j.mono b.size)) s oo))
def ze0{x y v u:Nat}{gr:GR}(g:LV w z q e)(O:blk w x 195 [Z1])(hy:blk w y 175 [iv e.o,u6 e.r])(hv:blk w v 61 (grC gr))(d:blk w u 175 [iv e.o,u6 e.f])(B:∀k∈q.l,k<z)(ab:z<=x)(S:z<=y)(M:z+2<=v)(L:z<=u)(hi:PI s)(hm:dI e=true)(m:e.k=4)(I:mw s.G e.o e.f=some gr)(hf:∀K2:KV,(∀h,PM h q {s with N:=s.N.map (fe (fg s.N gr.n) (12+e.q) gr.a)}->Ch q.wv w h->K2 (.tuple #[]) h)->bS Q Z1 #[] K2 w)(c:∀w',PM w' q (vF e s)->Ch (v::q.wv) w w'->K (.tuple #[]) w'):call Q 310 #[pB x,pB z,pB y,pB (z+1),pB v,pB u] K w:=by
 have t:=jb hm;have Z:∀k∈q.wv,k<z:=λk m=>B k (LB.wl k m);have T:∀b,z<=b->b∉q.wv:=λb hb i=>by have:=Z b i;omega
 obtain⟨_,W,X⟩:=BA I;refine ao (goK func310) (Is (lK (v:=Z1) O rfl (hf _ λF E j=>?_)));have U:=(g.ch j λk m=>.inl (Z k m)).drew;have y1:=(hy.ch j (T _ S)).drew;have v1:=(hv.ch j (T _ oo)).drew;have u1:=(d.ch j (T _ L)).drew;have E:=E.drew
 refine ax (λk=>LV k z q e/\blk k y 175 [iv e.o,u6 e.r]/\PM k q {s with N:=s.N.map (fe (fg s.N gr.n) (12+e.q) gr.a)}) ⟨U,y1,E⟩ ?_;refine ac (λu d _=>lK (v:=pB q.p) d.1.l rfl) (ac (λu d _=>au) (ac (λu d _=>Ms) ?_));refine ac (λu d _=>lK (v:=.map (some q.am)) d.2.2.b (by rw[oK];exact d.2.2.c28)) <|ac (λu d _=>IQ d.2.1) ?_
 refine E.ask_c t.1 t.2.1 hi.r6 λw2 p2 C=>?_;have H:q.am<z:=B _ (by simp[LB.l]);have aa:q.gm<z:=B _ (by simp[LB.l]);have V:=U.oth C (.inl H);have v2:=C.blk v1 oo;have u2:=C.blk u1 oo;refine wQ (lK (v:=u6 e.r) V.e rfl (Mq (dw kf v2 (by simp[grC]) rfl λh A D=>?_)));have A:blk h v 61 (grC {gr with b:=e.r}):=A
 have g3:=(V.oth D (.inr M)).drew;have uv:u≠v:=λe=>qI (Hu u2 (e ▸ v2)) dc;have u3:=(D.blk u2 uv).drew;have p3:=(p2.oth D λi=>by have:=B _ i;omega).drew;have A:=A.drew
 refine ax (λk=>LV k z q e/\blk k u 175 [iv e.o,u6 e.f]/\blk k v 61 (grC {gr with b:=e.r})/\PM k q {s with N:=s.N.map (fe (fg s.N gr.n) (12+e.q) gr.a),R:=s.R.set (e.o-1).toNat (s.R.getD (e.o-1).toNat []++[e.r])}) ⟨g3,u3,A,p3⟩ ?_;refine ac (λu d _=>lK (v:=pB q.p) d.1.l rfl) (ac (λu d _=>au) (ac (λu d _=>Mr) ?_))
 refine ac (λu d _=>lK (v:=.map (some q.gm)) d.2.2.2.b (by rw[oK];exact d.2.2.2.c27)) <|ac (λu d _=>IQ d.2.1) <|ac (v:=grV {gr with b:=e.r}) (λu d _=>ldA (n:=5) (vs:=grC {gr with b:=e.r}) underlying61 rfl kr d.2.2.1 rfl rfl) ?_;have ek:rqV (e.o,e.f)=rqV (({gr with b:=e.r}:GR).o,({gr with b:=e.r}:GR).q):=by show _=rqV (gr.o,gr.q);rw[W,X]
 rw[ek];have J:(s.G.map (tM e.o e.f e.r)).Pairwise ltG:=by
  rw[List.pairwise_map];refine hi.gs.imp λ{x y} P=>?_;unfold ltG at *;rw[(pH x).1,(pH x).2,(pH y).1,(pH y).2];exact P
 refine p3.gm_c (g:={gr with b:=e.r}) (G':=s.G.map (tM e.o e.f e.r)) hi.gs J (λo r=>?_) λw4 p4 o4=>c w4 ?_ ?_
 .show _=if (o,r)=(gr.o,gr.q)then _ else _
  rw[show (gr.o,gr.q)=(e.o,e.f)by rw[W,X]];by_cases i:(o,r)=(e.o,e.f)
  .rw[oJ i];obtain⟨rfl,rfl⟩:=Prod.mk.inj i;rw[ze2,I];rfl
  .rw[oI i];refine RY pH λy e1 e2=>?_;unfold tM;rw[oI λY=>i (by rw[<-e1, <-e2,Y.1,Y.2])]
 .rw[zfP m]
  have:gOf s e=gr:=by unfold gOf;rw[I];rfl
  rw[this];exact p4
 .have c2:Ch (v::q.wv) w w2:=((j.mono λx O=>oH _ O).trans (Ch.of_below (jT _ F).drew:Ch [] F F.drew) oB).trans (Ch.of_oth C oB:Ch [q.am] F.drew w2) (by simp[LB.wv])
  exact((c2.trans (Ch.of_oth D oB:Ch [v] w2 h) oB).trans (Ch.of_below (jT _ h).drew:Ch [] h h.drew) oB).trans (Ch.of_oth o4 oB:Ch [q.gm] h.drew w4) (by simp[LB.wv])
def zg1(h:PM w q s)(hi:PI s)(hm:dI e=true)(hk:e.k=4)(kd:Kind w q s e K):call Q 295 #[pB q.p,.agg (evC e).toArray] K w:=by
 obtain⟨no,ak⟩:=kd;obtain⟨al,ho⟩:=vg hm;have W:=jb hm;have C:=h.lt;have j:pZ e s=if po s.R e.q e.r=true then 14 else match mw s.G e.o e.f with|none=>12|some g=>if g.b≠0 then 12 else Ap (λA=>(wU A e.o g.a).2) s.N (fg s.N g.n):=by unfold pZ;rw[oI oo,oI oo,oI oo,oJ hk];rfl
 refine ao (goK func295) (KC (LE.make λw1 J s1=>?_));have J:=J.drew;have p1:=h.below J.bel;refine ax (λu=>LE w u q e/\PM u q s) ⟨J,p1⟩ ?_;refine ac (λu i _=>fS) (ac (λu i _=>lK (v:=iv e.o) i.1.e rfl) ?_);refine ac (λu i _=>wQ) (ac (λu i _=>lK (v:=u6 e.r) i.1.e rfl) ?_);refine ac (λu i _=>cE (vs:=[iv e.o,u6 e.r]) kr) ?_
 refine ac (λu i _=>fS) (ac (λu i _=>lK (v:=iv e.o) i.1.e rfl) ?_);refine ac (λu i _=>DH) (ac (λu i _=>lK (v:=u6 e.f) i.1.e rfl) ?_);refine ac (λu i _=>cE (vs:=[iv e.o,u6 e.f]) kr) ?_;refine zjs (λa b=>⟨J.fresh b,p1.below b⟩) λw2 bi bk i2 k2 V zi zk b2=>?_;have z2:w.heap.size+2<=w1.drew.heap.size:=J.sz;have zi:w.heap.size+2<=bi:=qR z2 zi
 have zk:w.heap.size+2<=bk:=qR z2 zk;have g2:=J.fresh b2;have p2:=p1.below b2;refine zaw i2 λw3 i3 o3=>?_;have g3:=g2.oth o3 zi;have p3:=p2.oth o3 λU=>by have:=C _ U;omega
 have k3:=o3.blk k2 (λe=>V e.symm);refine aI ⟨g3,p3⟩ (zaw k3 λw4 k4 o4=>?_);have i4:=(o4.blk i3 V).drew;have k4:=k4.drew;have g4:=(g3.oth o4 zk).drew;have p4:=(p3.oth o4 λU=>by have:=C _ U;omega).drew;refine ah (λ_=>lK (v:=pB q.p) g4.l rfl) (ah (λ_=>au) (ah (λ_=>Ms) ?_))
 refine ah (λ_=>lK (v:=.map (some q.am)) p4.b (by rw[oK];exact p4.c28)) (ah (λ_=>IQ i4) (ah (λ_=>p4.ask_l W.1 W.2.1) ?_));rw[show (e.o-1).toNat=e.q from rfl];cases E:po s.R e.q e.r with
 | true =>
  rw[E,oJ rfl]at j
  have:=no _ (by rw[j];decide) g4.bel
  rw[j]at this;exact bc this
 | false =>
 rw[E,oI oB]at j;have g5:=g4.drew;have p5:=p4.drew;have i5:=i4.drew;have k5:=k4.drew;refine aD (ax (λu=>LE w u q e/\PM u q s/\blk u bk 175 [iv e.o,u6 e.f]) ⟨g5,p5,k5⟩ ?_);refine ac (λu i _=>lK (v:=pB q.p) i.1.l rfl) (ac (λu i _=>au) (ac (λu i _=>Mr) ?_));refine ac (λu i _=>lK (v:=.map (some q.gm)) i.2.1.b (by rw[oK];exact i.2.1.c27)) ?_
 refine ac (λu i _=>IQ i.2.2) (ac (λu i _=>i.2.1.gr_l hi) (ac (λu i _=>bK) (ac (λu i _=>bJ) ?_)));generalize B:(mw s.G e.o e.f).getD ⟨0,0,0,0,0⟩=gr;refine cD (z:=grV ⟨0,0,0,0,0⟩) kr λw6 Y Z s6=>?_;have Y:blk w6 w4.drew.drew.heap.size 61 (grC ⟨0,0,0,0,0⟩):=by simpa[Value.cells,grV]using Y
 have g6:=g5.fresh Z;have p6:=p5.below Z;have i6:=ae Z i5 i5.lt;have k6:=ae Z k5 k5.lt;have z6:w.heap.size+2<=w4.drew.drew.heap.size:=g5.sz;refine aI ⟨g6,p6,k6⟩ (fY (n:=5) (vs:=grC gr) kr rfl Y (by simp[grC]) (Lj _) λw7 F o7=>?_);generalize hv:w4.drew.drew.heap.size=v at *;have F:blk w7 v 61 (grC gr):=F;have L:=g6.oth o7 z6;have p7:=p6.oth o7 λU=>by have:=C _ U;omega
 have ai:bi≠v:=λe=>qI (Hu i6 (e ▸ Y)) dc;have aj:bk≠v:=λe=>qI (Hu k6 (e ▸ Y)) dc;have i7:=o7.blk i6 ai;have k7:=o7.blk k6 aj;refine aI ⟨L,p7,k7⟩ (Iu (bH ?_));cases hq:mw s.G e.o e.f with
 | none =>
  rw[hq]at j;have j:pZ e s=12:=j;refine iQ (dD (bc ?_))
  have:=no _ (by rw[j];decide) L.bel
  rwa[j]at this
 | some g0 =>
 rw[hq]at j B;have B:g0=gr:=B;subst B;simp only at j;refine eK (Mq (lK (v:=u6 g0.b) F rfl (bo (cA ?_))));by_cases hb:g0.b≠0
 .refine aG hb ?_;rw[oJ hb]at j
  have:=no _ (by rw[j];decide) L.bel
  rwa[j]at this
 rw[oI hb]at j;refine aB hb (lK (v:=pB q.p) L.l rfl (Yb (lK (v:=u6 g0.n) F rfl ?_)));refine YS (f:=λA=>wU A e.o g0.a) (c:=12+e.q) (x:=g0.a) p7 hi (λA T=>Ur T) (λA T=>zdY T) (λA T D t a b => cB rfl (zdZ T (L.fresh t).e (ae t F F.lt) b)) (λD X t=>?_) λh0 D fv ag t af=>?_
 .have S:=L.fresh t;refine bK (bJ (cD (z:=.nilFunc) kr λw9 O b9 s9=>?_));have O:=cZ O
  refine dw kf O oB rfl λw10 m M=>bo (aG X ?_)
  have:=no w10 (by rw[j];exact X) (gI (S.fresh b9).bel M (by have:=S.sz;omega))
  rwa[j]at this
 .have S:=L.fresh t;refine bK (bJ (cD (z:=.nilFunc) kr λw9 O b9 s9=>?_));have O:=cZ O
  refine dw kf O oB ag λw10 m M=>bo (aB oB ?_);have m:blk w10 D.heap.size 195 [fv]:=m;have I:Below D.heap.size D w10:=gI b9 M oA;have P:=S.fresh I;have an:=S.sz;refine ak (by rw[j];exact h0) w10 _ P.bel ⟨[v],by simp;omega,λw11 K2 H ab=>cB rfl ?_⟩;have y:Below D.heap.size D w11:=I.trans (H.mono I.size)
  have i8:=ae t i7 i7.lt;have k8:=ae t k7 k7.lt;have v8:=ae t F F.lt;exact ze0 (P.fresh H).lv (ae H m m.lt) (ae y i8 i8.lt) (ae y v8 v8.lt) (ae y k8 k8.lt) C oo oo z6 oo hi hm hk hq (λa b=>af w11 a y b) ab
end
end
def AB(l0 s2 t27 t28 t29:oF)(zf:oD):=l0::zf 1::s2::zT zf 3 24 (t27::t28::t29::zT zf 30 42 ([]))
def vd(l0 s2:oF)(zf:oD):=l0::zf 1::s2::zT zf 3 69 ([])
def AC(s2 t57:oF)(zf:oD):=zf 0::zf 1::s2::zT zf 3 54 (t57::zT zf 58 14 ([]))
def AD(s2:oF)(zf:oD):=zf 0::zf 1::s2::zT zf 3 69 ([])
def fI(K:KV):KE:=kZ f44 [1,1,1,1] K
def rt(K:KV):KE:=aj Q (cd f44 (b1 122)) (fI K) (xx xf (fI K) 0) (rk f44 K)
def gP(K:KV):KE:=kZ f44 (b1 63) K
def ru(K:KV):KE:=aj Q (cd f44 (b1 250)) (gP K) (xx xf (gP K) 2) (rk f44 K)
section
variable {K:KV}{l0 s2 t27 t28 t29 t57:oF}  
def Kz{K:KV}(h:alc Q 38 (λb=>bT .eql 107 H (.pointer none) λc w=>cond c (ld Q 38 b (λa=>sto Q 38 b a λ_=>bA Q [(some 38,b)] K) w) (sN H (λd=>sF 141 d 0 λe=>sL 31 e λf=>sN H λg=>sF 141 g 1 λh=>sL 31 h λi=>sN H λj=>sF 141 j 2 λk=>sL 34 k λl=>sti (bld Q 38 #[(0,f),(1,i),(2,l)]) λa=>sto Q 38 b a λ_=>bj H λm=>aq Q 141 m 3 λn=>ld Q 133 n λo=>call Q 61 #[o] λp=>lN 172 p λr=>rt K (AB H b p r (ci 0) (zV (zV zu 7 [H,c]) 10 [H,d,e,f,H,g,h,i,H,j,k,l,a,H,m,n,o]))) w.drew)) w):Gives Q 44 #[H] w K:=aw func44 kr (mpK h)
def Ig{K:KV}(Inv:oF->oG->Prop)(μ:oF->oG->Nat)(p:Inv J w)(r:∀(a:oF) (o:oD) (w:oG) (m:Nat),Inv a w->m=μ a w ->
  lS a Y (λb w=>cond b (bv Q 172 U a (λc=>ld Q 32 c λb w=>aL (λS w=>hF S 38 H 3 λc=>hL S 35 c λc=>hN S Z λd=>hF S 141 d 4 λd=>hL S 135 d λd=>hld S (lkp Q 135 d b false) λd=>hN S Z λe=>hF S 141 e 5 λe=>hL S 136 e λf=>hld S (lkp Q 136 f b false) λg=>hld S (bld Q 58 #[(0,b),(1,d),(2,g)]) λi=>cH Q 35 1 #[(0,i)] (λj=>bw S λ_=>blt Q .append #[35,35] 35 #[false,false] #[c,j] λb=>aL λS w=>hF S 38 H 3 λk=>sto Q 35 k b (λ_=>nC a λa w=>(Inv a w)/\((μ a w)<m)) w) w) w.drew) w) (fI K (vd Z H (zV o 27 [U,Y,a,b])) w)) w):rt K (AB Z H U Y J zf) w:=by refine aZ (cd f44 (b1 244)) (zr [(4,1),(29,24)]) kr (vP [29] Inv) (vQ [29] μ) p ?_;intro n s q;have h:=r _ (zM zf (gd n) (zr [(4,1),(29,24)])) s _ q rfl;revert h;generalize (fI K)=qc0;exact mpF
def Ii(h:bj l0 (λc=>aq Q 141 c 7 λa=>ld Q 137 a λb=>rng Q 137 b λd=>ru K (AC s2 d (zV (zV zf 0 [l0]) 53 [l0,c,a,b]))) w):fI K (vd l0 s2 zf) w:=mpK h
def Ih(Inv:oG->Prop)(μ:oG->Nat)(p:Inv w)(r:∀(l:oD) (w:oG) (m:Nat),Inv w->m=μ w ->
  nxt Q t57 false 0 (λb=>ext Q b 0 λa w=>cond a (ent Q t57 (λb=>ext Q b 1 λa=>alc Q 61 λk=>sto Q 61 k a λ_=>aq Q 38 s2 4 λc=>ld Q 36 c λd=>ld Q 61 k λe=>cH Q 36 1 #[(0,e)] λf=>blt Q .append #[36,36] 36 #[false,false] #[d,f] λg=>aq Q 38 s2 4 λi=>sto Q 36 i g λ_ w=>(Inv w)/\((μ w)<m)) w) (gP K (AD s2 (zV l 57 [t57,b,a])) w)) w):ru K (AC s2 t57 zf) w:=by refine aZ (cd f44 (b1 500)) (zr [(6,1),(58,10)]) kr (λo j=>Inv j) (λo j=>μ j) p ?_;intro n s q;have h:=r (zM zf (gd n) (zr [(6,1),(58,10)])) s _ q rfl;revert h;generalize (gP K)=qc0;exact mpF
def Ij(h:aq Q 38 s2 4 (λa=>ld Q 36 a λa=>call Q 62 #[a,.func (.func 63) #[] #[]] λ_=>ld Q 38 s2 λb=>sto Q 38 s2 b λ_=>bA Q [(some 38,s2)] K) w):gP K (AD s2 zf) w:=mpK h
end
attribute [irreducible] fI rt gP ru
def If{K:KV}(h:box Q 61 Z (λa=>box Q 61 H λb w=>aL (λS w=>hF S 61 a 0 λc=>hL S 3 c λc=>hF S 61 b 0 λd=>hL S 3 d λd=>hF S 61 a 1 λa=>hL S 32 a λa=>hF S 61 b 1 λb=>hL S 32 b λb=>call Q 65 #[c,d] (λc=>bw S λ_=>call Q 66 #[a,b] λa=>aL λ_=>cH Q 24 2 #[(0,c),(1,a)] λa=>aL λ_=>call Q 64 #[a] λa=>aL λ_=>K a) w) w.drew) w):Gives Q 63 #[Z,H] w K:=aw func63 kr (mpK h)
def Kx{K:KV}(h:alc Q 34 (λa=>bT .eql 107 H (.pointer none) λb w=>cond b (bld Q 34 #[] (λb=>sto Q 34 a b λ_=>bA Q [(some 34,a)] K) w) (bj H (λb=>aq Q 141 b 2 λb=>ld Q 34 b λb=>sto Q 34 a b λ_=>bA Q [(some 34,a)] K) w)) w):Gives Q 240 #[H] w K:=aw func240 kr (mpK h)
def Ky{K:KV}(h:bT .eql 107 H (.pointer none) (λa w=>cond a (K (ci 0) w) (bj H (λa=>aq Q 141 a 5 λa=>ld Q 136 a λa=>lkp Q 136 a U false λa=>call Q 202 #[a,Z] K) w)) w):Gives Q 154 #[H,Z,U] w K:=aw func154 kr (mpK h)
section
open Go.ChangeMaps
def DoesB.mono{B:Nat}{q:LB}{s1:PL}(h:DoesB B S q s1 H)(c:B'<=B):DoesB B' S q s1 H:=by obtain⟨X,a,b⟩:=h;exact⟨X,λk d=>qR c (a k d),b⟩
section
variable  {K:KV}{q:LB}{s:PL}{e:EV}
def Dy(h:K (.bool false) w):bin Q .eql 107 cx cy (pB b) (.pointer none) K w :=
 eH (by unfold eqG eqGuard;rfl) kr h
def PM.cutV(h:PM w q s):((plC q s).drop 12).take 6=vCs s.V:=by unfold plC;rw[show (12:Nat)=(s.I.map Value.bool++s.L.map Value.bool).length by simp[h.i6,h.l6], <-jD,List.drop_left',qJ (by rw[bE,h.v6];omega),tL (by rw[bE,h.v6];omega)];rfl
def PM.ldV(h:PM w q s)(a:K (.agg (vCs s.V).toArray) w):ld Q 34 (pA q.p (0+12)) K w :=
 ldA (n:=6) (vs:=vCs s.V) underlying34 rfl kr h.b h.cutV (by rw[bE,h.v6]) a
def YV(h:PM w q s)(hi:PI s)(C:∀w',eC e s≠0->Below w.heap.size w w'->K (.tuple #[.nilFunc,ci (eC e s)]) w')(ad:eC e s=0->∀w' z,Below w.heap.size w w'->DoesB w.heap.size w' q (vF e s) z->K (.tuple #[z,ci 0]) w'):call Q 76 #[pB q.p,.agg (evC e).toArray] K w:=by
 have g:eC e s=if dI e=false then 1 else if tQ s.V e=true then 14 else if fW s.V e=false then 13 else if s.I.getD e.q false=false\/s.L.getD e.q false=true then 10 else pZ e s:=rfl
 refine ao (goK func76) (KB (Bj λw1 T b1 s1=>Dy (aD (dN T (Fi λw2 b2=>bH ?_)))));have i:=b1.trans (b2.mono b1.size);have D:=ae b2 T T.lt;have M:=h.below i;cases r:dI e with
 | false =>
  rw[r,oJ rfl]at g
  have:=C _ (by rw[g];decide) i
  rw[g]at this;exact bc this
 | true =>
 rw[r,oI oB]at g;obtain⟨A,ho⟩:=vg r;have ag:=jb r;have M:=M.drew;have D:=D.drew;have i:=i.drew;refine aD (ax (λu=>PM u q s/\blk u w.heap.size 49 (evC e)) ⟨M,D⟩ ?_);refine ac (λu d _=>au) (ac (λu d _=>DJ) (ac (λu d _=>d.1.ldV) (ac (λu d _=>dN d.2) ?_)));refine Qp h.v6 λw3 O=>ax (λ_=>True) trivial ?_;have l:=i.trans (O.mono i.size)
 have F:=ae O D D.lt;have N:=M.below O;cases hL:tQ s.V e with
 | true =>
  rw[hL,oJ rfl]at g
  have:=C _ (by rw[g];decide) l
  rw[g]at this;exact bc this
 | false =>
 rw[hL,oI oB]at g;have N:=N.drew;have F:=F.drew;have l:=l.drew;refine aD (ax (λu=>PM u q s/\blk u w.heap.size 49 (evC e)) ⟨N,F⟩ ?_);refine ac (λu d _=>au) (ac (λu d _=>DJ) (ac (λu d _=>d.1.ldV) (ac (λu d _=>dN d.2) ?_)));refine SC h.v6 (λk J=>(hi.vb k J).1) λw4 P=>ax (λ_=>True) trivial (ac (λu d _=>bH) ?_)
 have c:=l.trans (P.mono l.size);have y:=ae P F F.lt;have j:=N.below P;refine Io ?_;cases Y:fW s.V e with
 | false =>
  rw[Y,oJ rfl]at g
  have:=C _ (by rw[g];decide) c
  rw[g]at this;exact bc this
 | true =>
 rw[Y,oI oB]at g;have j:=j.drew;have y:=y.drew;have c:=c.drew;refine aD (ah (λ_=>fS) (ah (λ_=>lK (v:=iv e.o) y rfl) ?_));refine ah (v:=iv (e.q:Nat)) (λK a=>co oo oo (by rw[show e.o-1=(e.q:Nat)by omega];exact a)) ?_;refine ah (λ_=>au) (ah (λ_=>HO) (ah (λ_=>VS rfl A) ?_))
 refine ah (λ_=>lK (v:=.bool (s.I.getD e.q false)) j.b (by rw[oK];exact j.cI A)) (ah (λ_=>bH) (Ip ?_));cases U:s.I.getD e.q false with
 | false =>
  rw[U,oJ (.inl rfl)]at g
  have:=C _ (by rw[g];decide) c
  rw[g]at this;exact bc (yK (bc this))
 | true =>
 have j:=j.drew;have y:=y.drew;have c:=c.drew;refine aD (ah (λ_=>fS) (ah (λ_=>lK (v:=iv e.o) y rfl) ?_));refine ah (v:=iv (e.q:Nat)) (λK a=>co oo oo (by rw[show e.o-1=(e.q:Nat)by omega];exact a)) ?_;refine ah (λ_=>au) (ah (λ_=>RF) (ah (λ_=>VS rfl A) ?_))
 refine ah (λ_=>lK (v:=.bool (s.L.getD e.q false)) j.b (by rw[oK];exact j.cL A)) (yK ?_);cases H:s.L.getD e.q false with
 | true =>
  rw[U,H,oJ (.inr rfl)]at g
  have:=C _ (by rw[g];decide) c
  rw[g]at this;exact bc this
 | false =>
 rw[U,H,oI oB]at g;have j:=j.drew;have y:=y.drew;have c:=c.drew;refine aD (Iq (ax (λu=>PM u q s/\blk u w.heap.size 49 (evC e)) ⟨j,y⟩ ?_));refine ac (λu d _=>DE) (ac (λu d _=>lK (v:=kv8 e.k) d.2 rfl) ?_)
 have n:∀(z:oF) (f:FuncId),z=.func (.func f) #[] #[]->kindsV[e.k.toNat]? = some z->0<=e.k->call Q f #[pB q.p,.agg (evC e).toArray] (λm w=>aL (λS w=>hld S (ext Q m 0) λt=>hld S (ext Q m 1) λx=>K (.tuple #[t,x]) w) w) _ ->
   hld (λu=>PM u q s/\blk u w.heap.size 49 (evC e)) (bv Q 215 (pA 1 0) (.int .u8 e.k)) λZ=>hld (λu=>PM u q s/\blk u w.heap.size 49 (evC e)) (ld Q 214 Z) λaa=>hld (λu=>PM u q s/\blk u w.heap.size 49 (evC e)) (ld Q 49 (pB w.heap.size)) λab=>bS Q aa #[pB q.p,ab] (λm w=>aL (λS w=>hld S (ext Q m 0) λt=>hld S (ext Q m 1) λx=>K (.tuple #[t,x]) w) w) w4.drew.drew.drew:=λz f W J G hc=>by
  have af:e.k.toNat<8:=(gS J).1;refine ac (v:=pA 1 e.k.toNat) (λu d K a=>fB underlying215 (s:=1) kf G oo (by rw[Nat.mul_one,oK];exact a)) ?_;refine ac (v:=z) (λu d K a=>by
   obtain⟨E,fr,G⟩:=d.1.kd;refine ux kf ?_ a;unfold World.cell?;rw[G];simpa using J) (ac (λu d _=>dN d.2) ?_)
  subst W;exact cB rfl hc
 have B:Kind w4.drew.drew.drew q s e (λm w=>aL (λS w=>hld S (ext Q m 0) λt=>hld S (ext Q m 1) λx=>K (.tuple #[t,x]) w) w):=by
  refine⟨λw5 X R=>ax (λ_=>True) trivial (ac (λu d _=>bK) (ac (λu d _=>bJ) ?_)),λG w5 z R hd=>ax (λ_=>True) trivial (ac (λu d _=>bK) (ac (λu d _=>bJ) ?_))⟩
  .have:=C w5 (by rw[g];exact X) (c.trans (R.mono c.size))
   rwa[g]at this
  .exact ad (by rw[g];exact G) w5 z (c.trans (R.mono c.size)) (hd.mono c.size)
 have hn:=hi.new r Y;rcases uN r with⟨k,_⟩|⟨k,_⟩|⟨k,_⟩|⟨k,_⟩|⟨k,_⟩|⟨k,_⟩|k
 .exact n _ _ rfl (by rw[k];rfl) oo (zgj j hi r k hn B)
 .exact n _ _ rfl (by rw[k];rfl) oo (zeK j hi r k B)
 .exact n _ _ rfl (by rw[k];rfl) oo (zgX j hi r k B)
 .exact n _ _ rfl (by rw[k];rfl) oo (zg1 j hi r k B)
 .exact n _ _ rfl (by rw[k];rfl) oo (zeI j hi r k B)
 .exact n _ _ rfl (by rw[k];rfl) oo (zga j r k B)
 .exact n _ _ rfl (by rw[k];rfl) oo (zek j r k B)
def Sz(h:PM w q s)(hi:PI s)(a:∀w',PM w' q (lQ e s)->Ch q.wv w w'->K (ci (eC e s)) w'):call Q 59 #[pB q.p,.agg (evC e).toArray] K w:=by
 have E:=h.lt;refine ao (goK func59) (Kv (Bj λw1 j x s1=>dN j ?_));have p1:=h.below x;refine YV p1 hi (λr n u=>bK (bJ (bo (aG n ?_)))) λB r fv u P=>bK (bJ (bo (aB oB ?_)))
 .have d:=x.trans (u.mono oo);refine a r ?_ (Ch.of_below d);unfold lQ;rw[oI n];exact h.below d
 .obtain⟨X,J,C⟩:=P;have F:=(qn hi).1 B;have L:=F.may;obtain⟨c,ho⟩:=vg L;have R:=jb L;refine C r _ (jT _ r) λt f I=>?_;have z:=ae u j j.lt;have A:=(z.ch I λl=>by
   rcases oU.1 l with l|l
   .have:=J _ l;omega
   .have:=E _ (LB.wl _ l);omega).drew
  have f:=f.drew;have d:=x.trans (u.mono oo);have y:Ch q.wv w t.drew:=((Ch.of_below d:Ch q.wv w r).trans I (λk m=>by
   rcases oU.1 m with m|m
   .right;have:=J _ m;omega
   .exact .inl m)).trans (Ch.of_below (jT _ t).drew:Ch [] t t.drew) oB
  refine ah (λ_=>fS) (ah (λ_=>lK (v:=iv e.o) A rfl) ?_);refine ah (v:=iv (e.q:Nat)) (λK a=>co oo oo (by rw[show e.o-1=(e.q:Nat)by omega];exact a)) ?_;refine ah (λ_=>au) (ah (λ_=>DJ) (ah (λ_=>ixV rfl c) ?_));have G:=hi.vb _ c
  refine ah (λ_=>lK (v:=u6 (s.V.getD e.q 0)) f.b (by rw[show 0+12+e.q=12+e.q by omega];exact f.cV c)) <|ah (v:=u6 (s.V.getD e.q 0+1)) (λK a=>ze (by rw[gu,show (s.V.getD e.q 0+1)%18446744073709551616=s.V.getD e.q 0+1 by simp only[M40]at G;omega];exact a)) ?_;refine ah (λ_=>au) (ah (λ_=>DJ) (ah (λ_=>ixV rfl c) ?_))
  refine dw kf f.b (by rw[f.len];omega) rfl λM H i=>?_;rw[show 0+12+e.q=12+e.q by omega,f.sV c]at H;rw[B]at a;refine a M ?_ (y.trans (Ch.of_oth i oB:Ch [q.p] t.drew M) (by simp[LB.wv]));have O:lQ e s={vF e s with V:=s.V.set e.q (s.V.getD e.q 0+1)}:=by unfold lQ;rw[oJ B];rfl
  rw[O];have g:=f.nd;obtain⟨S,T,v6,b,tm,⟨U,x1,j⟩,⟨W,x2,z⟩,⟨Y,x3,A⟩,⟨Z,x4,N⟩,_,D⟩:=f;exact⟨S,T,by show (s.V.set _ _).length=6;rw[qN];exact h.v6,H,tm.oth i (LN.tp g) (LN.dp g),⟨U,x1.oth i (LN.mp g),j⟩,⟨W,x2.oth i (LN.rp g),z⟩,⟨Y,x3.oth i (LN.gp g),A⟩,⟨Z,x4.oth i (LN.ap g),N⟩,g,D.keep (i.other 1 (LN.zp g))⟩
def IJ(h:PM w q s)(b:∀S,Below w.heap.size w S->K (.agg (vCs s.V).toArray) S):call Q 240 #[pB q.p] K w:=by refine ao (goK func240) (Kx (IU λg d a f=>Dy (aD (au (DJ ?_)))));refine(h.below a).ldV (Fx rfl h.v6 d λi e c=>?_);exact uO (v:=.agg (vCs s.V).toArray) (λ_=>tT h.v6 e) (b _ (aK a c oA))
def Nc{i a:Int}(h:PM w q s)(hi:PI s)(c:∀S,Below w.heap.size w S->K (ci (if bO i=true then Kp (aN s.N a) (i-1).toNat else 0)) S):call Q 154 #[pB q.p,iv i,u6 a] K w:=by refine ao (goK func154) (Ky (Dy (aD (au (wR (lK (v:=.map (some q.rm)) h.b (by rw[oK];exact h.c20) ?_))))));exact h.rg_l hi (Ng (Ma hi a) c)
end
end
def Zy{K:KV}(h:fK Q 146 none (λa=>bld Q 148 #[(0,a)] λa=>box Q 148 a K) w):Gives Q 29 #[] w K:=aw func29 kr (mpK h)
def HT(h_0 Ia e5 k_7 yW:oF)(zf:oD):=h_0::zT zf 1 3 (Ia::e5::zf 6::k_7::zf 8::yW::zT zf 10 38 ([]))
def HU(h_0 e5 k_7 yW t30:oF)(zf:oD):=h_0::zT zf 1 4 (e5::zf 6::k_7::zf 8::yW::zT zf 10 20 (t30::zT zf 31 17 ([])))
def BB(h_0 e5 k_7 t30:oF)(zf:oD):=h_0::zT zf 1 4 (e5::zf 6::k_7::zT zf 8 22 (t30::zT zf 31 17 ([])))
def HV(h_0 e5 k_7:oF)(zf:oD):=h_0::zT zf 1 4 (e5::zf 6::k_7::zT zf 8 40 ([]))
def ti(K:KV):KE:=aj Q (cd f239 [1,1,1,1]) (rk f239 K) xf (rk f239 K)
def iL(K:KV):KE:=kZ f239 (b1 63) K
def lU(K:KV):KE:=kY f239 (b1 999) (iL K) (xx xf (iL K) 0) K
def tj(K:KV):KE:=aj Q (cd f239 (b1 1997)) (lU K) (xx xf (iL K) 0) (rk f239 K)
section
variable {K:KV}{h_0 Ia e5 k_7 yW t30:oF}  
def Sa{K:KV}(h:box Q 34 Z (λb=>box Q 49 U λc=>bT .eql 112 H (.pointer none) λd w=>cond d (K (ci 2) w) (aq Q 49 c 0 (λe=>ld Q 3 e λf=>aq Q 49 c 1 λg=>ld Q 32 g λh=>bld Q 272 #[(0,f),(1,h)] λi=>alc Q 272 λj=>sto Q 272 j i λ_ w=>aL (λS w=>hN S H λk=>hF S 148 k 0 λl=>hL S 146 l λm=>hL S 272 j λa=>hld S (lkp Q 146 m a true) λn=>hld S (ext Q n 0) λo=>hld S (ext Q n 1) λp=>alc Q 49 (λr=>bw S λS=>sto Q 49 r o λ_=>bw S λ_=>ti K (HT H b c j p (zV (zV (zV (zV zu 1 [Z,U]) 6 [ci 0]) 8 [r]) 10 [H,d,e,f,g,h,i,n,H,k,l,m,a,n,o,p]))) w) w.drew) w)) w):Gives Q 239 #[H,Z,U] w K:=by refine aw func239 kr <|Eq.mp (qH (λc=>aj Q c _ _ _ _ w) (by kernel_rfl:(rep [1,1,1,1] (cd f239 [1,1,1,1]) (cd f239 []))=(cd f239 []))) ?_;revert h;delta ti;generalize (cd f239 [1,1,1,1])=xc0;exact mpF
def Pe(h:ld Q 49 e5 (λb=>call Q 58 #[b] λc=>un Q .not c λd w=>cond d (K (ci 1) w) (ld Q 34 Ia (λa=>ld Q 49 e5 λe=>call Q 77 #[a,e] λf=>tj K (HU h_0 e5 k_7 yW f (zV (zV (zV zf 4 [Ia]) 26 [d,b,c,d]) 31 [a,e,f]))) w)) w):ti K (HT h_0 Ia e5 k_7 yW zf) w:=by delta ti;refine Eq.mp (qH (λc=>aj Q c _ _ _ _ w) (by kernel_rfl:(rep (b1 77) (cd f239 (b1 1997)) (cd f239 [1,1,1,1]))=(cd f239 [1,1,1,1]))) ?_;revert h;delta tj iL lU;generalize (cd f239 (b1 1997))=xc0;exact mpF
def Pf(h:cond t30 (lU K (BB h_0 e5 k_7 t30 (zV zf 9 [yW])) w) (lU K (BB h_0 e5 k_7 yW (zV (zV zf 9 [yW]) 34 [yW])) w)):tj K (HU h_0 e5 k_7 yW t30 zf) w:=by delta tj;revert h;generalize (lU K)=qc0;generalize (iL K)=qc1;exact mpF
def Ev(h:cond t30 (K (ci 14) w) (bj h_0 (λb=>aq Q 148 b 0 λc=>ld Q 146 c λa=>lN 146 a λd=>bT .geq 3 d (ci 64) λe w=>cond e (K (ci 7) w) (iL K (HV h_0 e5 k_7 (zV (zV zf 30 [t30]) 35 [e,h_0,b,c,a,d,e])) w)) w)):lU K (BB h_0 e5 k_7 t30 zf) w:=by delta lU;revert h;generalize (iL K)=qc0;exact mpF
def Pg(h:aL (λS w=>hN S h_0 λa=>hF S 148 a 0 λa=>hL S 146 a λb=>hL S 272 k_7 λc=>hL S 49 e5 λd=>fJ Q 146 b c d (λ_=>K (ci 0)) w) w.drew):iL K (HV h_0 e5 k_7 zf) w:=mpK h
end
attribute [irreducible] ti iL lU tj
def Gc(h_0 kg t4 t20:oF)(zf:oD):=h_0::zf 1::zf 2::kg::t4::zT zf 5 15 (t20::zT zf 21 46 ([]))
def Gd(h_0 kg t4:oF)(zf:oD):=h_0::zf 1::zf 2::kg::t4::zT zf 5 62 ([])
def si(h_0 kg t4 t34 t35:oF)(zf:oD):=h_0::zf 1::zf 2::kg::t4::zT zf 5 29 (t34::t35::zT zf 36 31 ([]))
def Ge(h_0 kg t4 MM e11 t34 t35 t58:oF)(zf:oD):=h_0::zf 1::zf 2::kg::t4::zT zf 5 5 (MM::e11::zT zf 12 22 (t34::t35::zT zf 36 22 (t58::zT zf 59 8 ([]))))
def Gf(t4:oF)(zf:oD):=zT zf 0 4 (t4::zT zf 5 62 ([]))
def lr(K:KV):KE:=kZ f241 [1,1,1] K
def vt(K:KV):KE:=aj Q (cd f241 (b1 58)) (lr K) (xx xf (lr K) 0) (rk f241 K)
def fF(K:KV):KE:=kZ f241 [1,1,1,1] K
def vu(K:KV):KE:=aj Q (cd f241 (b1 122)) (fF K) (xx xf (fF K) 2) (rk f241 K)
def lu(K:KV)(B1:KE):KE:=kY f241 (b1 1959) B1 (xx xf (fF K) 2) K
def sh(K:KV)(B1:KE):KE:=aj Q (cd f241 (b1 62671)) (lu K B1) (xx (xx xf (fF K) 2) (lu K B1) 3) (rk f241 K)
section
variable {K:KV}{h_0 kg t4 MM e11 t20 t34 t35 t58:oF}  
def QH{K:KV}(h:box Q 34 Z (λa=>alc Q 49 λb=>bT .eql 112 H (.pointer none) λc w=>cond c (bld Q 49 #[] (λa=>sto Q 49 b a λ_=>bA Q [(some 49,b),(none,cF)] K) w) (bj H (λd=>aq Q 148 d 0 λe=>ld Q 146 e λf=>rng Q 146 f λg=>vt K (Gc H a b g (zV (zV (zV (zV zu 1 [Z]) 5 [cF]) 13 [H,c]) 16 [H,d,e,f]))) w)) w):Gives Q 241 #[H,Z] w K:=aw func241 kr (mpK h)
def NT{K:KV}(Inv:oG->Prop)(μ:oG->Nat)(i:Inv w)(k:∀(e:oD) (w:oG) (m:Nat),Inv w->m=μ w ->
  nxt Q H false 0 (λa=>ext Q a 0 λb w=>cond b (ent Q H (λa=>ext Q a 0 λb=>ext Q a 1 λc=>alc Q 272 λa=>alc Q 49 λd=>sto Q 272 a b λ_=>sto Q 49 d c λ_=>ld Q 34 Z λb=>ld Q 49 d λc=>call Q 77 #[b,c] λb w=>cond b (aL (λS w=>hN S U λb=>hF S 148 b 0 λc=>hL S 146 c λb=>hL S 272 a λa=>blt Q .delete #[146,272] 0 #[false,false] #[b,a] (λ_ w=>(Inv w)/\((μ w)<m)) w) w.drew) ((Inv w)/\((μ w)<m))) w) (lr K (Gd U Z Y (zV e 20 [H,a,b])) w)) w):vt K (Gc U Z Y H zf) w:=by refine aZ (cd f241 (b1 116)) (zr [(6,2),(21,13)]) kr (λg d=>Inv d) (λg d=>μ d) i ?_;intro f l j;have h:=k (zM zf (gd f) (zr [(6,2),(21,13)])) l _ j rfl;revert h;generalize (lr K)=qc0;exact mpF
def NV{K:KV}(h:ld Q 34 H (λa=>vu K (si U H Z a (ci 0) zf)) w):lr K (Gd U H Z zf) w:=mpK h
def NU(Inv:oF->oG->Prop)(μ:oF->oG->Nat)(s:Inv t35 w)(u:∀(a:oF) (p:oD) (w:oG) (m:Nat),Inv a w->m=μ a w ->
  bT .lss 3 a (ci 6) (λc w=>cond c (idx Q 34 t34 a (λd=>nC a λh=>bT .add 32 d (cu 1) λk=>bld Q 272 #[(0,h),(1,k)] λl=>alc Q 272 λn=>sto Q 272 n l λ_ w=>aL (λS w=>hN S h_0 λe=>hF S 148 e 0 λf=>hL S 146 f λg=>hL S 272 n λi=>hld S (lkp Q 146 g i true) λo=>hld S (ext Q o 0) λj=>hld S (ext Q o 1) λr=>alc Q 49 (λs=>bw S λS=>sto Q 49 s j λ_=>bw S λ_ w=>aT r true (λo=>ld Q 34 kg (λl=>ld Q 49 s λn=>call Q 78 #[l,n] λa=>o [l,n,a]) w) (λk=>k [uu,uu,uu] w) λb=>pick r (gd b 2) cF λt=>sh K (λd O=>(Inv (gd d 35) O)/\((μ (gd d 35) O)<m)) (Ge h_0 kg t4 n s t34 a t (zV (zV (zV p 8 [a,d]) 12 [r]) 36 [c,a,d,a,h,d,k,l,o,h_0,e,f,g,i,o,j,r,r,r,gd b 0,gd b 1,gd b 2]))) w) w.drew) w) (fF K (Gf t4 (zV (zV (zV p 0 [h_0]) 3 [kg]) 34 [t34,a,c])) w)) w):vu K (si h_0 kg t4 t34 t35 zf) w:=by
 refine aZ (cd f241 (b1 244)) (zr [(5,1),(8,5),(35,31)]) kr (vP [35] Inv) (vQ [35] μ) s ?_;intro q r t;have h:=u _ (zM zf (gd q) (zr [(5,1),(8,5),(35,31)])) r _ t rfl;refine Eq.mp (qH (λc=>aj Q c _ _ _ _ r) (by kernel_rfl:(rep (b1 463) (cd f241 (b1 62671)) (cd f241 (b1 244)))=(cd f241 (b1 244)))) ?_;revert h;delta sh lu;generalize (cd f241 (b1 62671))=xc0
 generalize (fF K)=qc0;exact mpF
def Dl(h:cond t58 (aL (λS w=>hN S h_0 λa=>hF S 148 a 0 λa=>hL S 146 a λb=>hL S 272 MM λc=>blt Q .delete #[146,272] 0 #[false,false] #[b,c] (λ_=>ld Q 49 e11 λd=>sto Q 49 t4 d λ_=>bA Q [(some 49,t4),(none,cT)] K) w) w.drew) (lu K B1 (si h_0 kg t4 t34 t35 (zV (zV zf 10 [MM,e11]) 58 [t58])) w)):sh K B1 (Ge h_0 kg t4 MM e11 t34 t35 t58 zf) w:=by delta sh;revert h;generalize (lu K B1)=qc0;generalize (fF K)=qc1;exact mpF
def NW(h:bld Q 49 #[] (λa=>sto Q 49 t4 a λ_=>bA Q [(some 49,t4),(none,cF)] K) w):fF K (Gf t4 zf) w:=mpK h
def Dm(h:nC t35 (λa=>B1 (si h_0 kg t4 t34 a (zV zf 65 [a]))) w):lu K B1 (si h_0 kg t4 t34 t35 zf) w:=by delta lu;revert h;generalize (fF K)=qc0;exact mpF
end
attribute [irreducible] lr vt fF vu lu sh
section
open Go.ChangeMaps
def evV(e:EV):oF:=.agg (evC e).toArray
abbrev evZ:EV:=⟨0,0,0,0,0,0,0,0,0,0,0,0,0,0⟩
def hkK:Hs Q 272 rqV:=by
 refine Xz _ underlying272 (λx=>⟨_,rfl⟩) (λx y h=>?_) (λw g x=>by kernel_rfl) (λw x y=>⟨decide (x=y),?_,?_⟩) (λx=>?_)
 .simp only[rqV,Value.agg.injEq]at h;simp at h;exact Prod.ext h.1 h.2
 .have c:Tryz.prog.underlying 272=some (.struct (Tryz.prog.fieldsOf 272)):=by kernel_rfl
  have d:Tryz.prog.stoodInHeld 272=false:=by kernel_rfl
  have i:=underlying3;have j:=underlying32;have e:=Tryz.isAgg3;have f:=Tryz.isAgg32;have k:=Tryz.sizeOf3;have l:=Tryz.sizeOf32;simp only[rqV];show (Op.equalIn (9999+1) _ _ _).run _ w=_;rw[run_equalIn_agg w 9999 272 _ _ c d];simp only[Program.fieldsOf,underlying272]
  go_simp
  by_cases a:x.1=y.1<;>by_cases b:x.2=y.2<;>simp[a,b,Prod.ext_iff]
 .simp[rqV];constructor
  .rintro rfl;exact⟨rfl,rfl⟩
  .rintro⟨a,b⟩;exact Prod.ext a b
 .unfold Instr.sameBits;simp[rqV];constructor<;>(unfold Instr.sameBits;simp)
structure HoM(w:oG) (p m:Nat) (W:HM):Prop where
 b:blk w p 148 [.map (some m)]
 mb:MB rqV evV w m W
section
variable  {p:Nat}{W:HM}
def HoM.ne(h:HoM w p m W):p≠m:=λe=>by
 obtain⟨d,c,a⟩:=h.mb
 have:=h.b
 unfold blk at this;rw[e,a.heap]at this;cases this
def HoM.lt(h:HoM w p m W):p<w.heap.size/\m<w.heap.size:=⟨h.b.lt,h.mb.lt⟩
def HoM.below(h:HoM w p m W)(a:Below w.heap.size w S):HoM S p m W:=⟨ae a h.b h.b.lt,h.mb.below a⟩
def HoM.ch{F:List Nat}(h:HoM w p m W)(a:Ch F w S)(c:p∉F)(d:m∉F):HoM S p m W:=⟨h.b.ch a c,h.mb.ch a d⟩
end
def DI{K:KV}(h:K (pA b (o+0)) w):aq Q 148 (pA b o) 0 K w:=aQ kr h
section
variable  {K:KV}{p:Nat}{W:HM}{V:List Int}{e:EV}
def zfb{q:Nat}{b:Bool}(c:blk w q 49 (evC e))(h:K (.tuple #[evV e,.bool b]) w):bA Q [(some 49,pA q 0),(none,.bool b)] K w :=
 yS (v:=evV e) (λ_ a=>dN c a) h
def za0(h:K (.bool false) w):bin Q .eql 112 cx cy (pB b) (.pointer none) K w :=
 eH (by unfold eqG eqGuard;rfl) kr h
theorem zjU {t k e : TypeId} {b : Nat} {κ ν : Type} {kv : κ → Value} {vv : ν → Value} {m : List (κ × ν)} (ht : Tryz.prog.underlying t = some (.map k e)) (hm : MB kv vv w b m) (h : K (.int .i64 (m.length : Int)) w) : lN t (.map (some b)) K w := zb6 ht hm h
def fG{e e':EV}(c:blk w b 49 (evC e))(h:∀S,blk S b 49 (evC e')->Oth b w S->K undef S):sto Q 49 (pA b 0) (evV e') K w :=
 fY (n:=14) (vs:=evC e') kr rfl c (by show 0+14<=14;omega) (Dz _) λS a o=>h S a o
def jj(h:∀S,blk S w.heap.size 49 (evC evZ)->Below w.heap.size w S->S.heap.size=w.heap.size+1->K (pA w.heap.size 0) S):alc Q 49 K w :=
 cD (z:=evV evZ) kr λS a b s=>h S (by simpa[Value.cells,evV]using a) b s
def zfq{x:Int×Int}{F:oF->KV}(h:∀S,blk S w.heap.size 272 [iv x.1,u6 x.2]->Below w.heap.size w S->S.heap.size=w.heap.size+1->F (rqV x) (pB w.heap.size) S):bld Q 272 #[(0,iv x.1),(1,u6 x.2)] (λv=>alc Q 272 λk=>sto Q 272 k v λ_=>F v k) w:=by refine cE (vs:=[iv x.1,u6 x.2]) kr (cD (z:=.agg #[iv 0,u6 0]) kr λg c b e=>?_);refine fY (n:=2) (vs:=[iv x.1,u6 x.2]) kr rfl (by simpa[Value.cells]using c) (by show 0+2<=2;omega) (by simp[u6,iv,Value.oneCell']) λf d a=>?_;exact h f d (aK b a oA) (by rw[a.size,e])
def zbc{x:Int×Int}(a:blk w b 272 [iv x.1,u6 x.2])(h:K (rqV x) w):ld Q 272 (pA b 0) K w :=
 ldA (n:=2) (vs:=[iv x.1,u6 x.2]) underlying272 rfl kr a rfl rfl h
def zc6(w:oG):(zeroValue 49).run Q w=.ok (evV evZ) w:=by kernel_rfl
def zhU(h:HoM w p m W)(D:V.length=6)(hW:W.length<=1000)(a:∀w' (f:Int),HoM w' p m (Px V W e)->Ch [m] w w'->K (ci f) w'):call Q 239 #[pB p,.agg (vCs V).toArray,evV e] K w:=by
 have u:∀{w':oG} (f:Int),¬(dI e=true/\tQ V e=false/\dZ W (ph e)=none/\W.length<64)->Below w.heap.size w w'->K (ci f) w':=λf hn N=>a _ f (by unfold Px;rw[oI hn];exact h.below N) (Ch.of_below N);refine ao (goK func239) (Sa ?_);refine yX D λw1 U b1 s1=>Bj λw2 r J s2=>za0 (aD ?_);have X:=ae J U U.lt;refine fS (lK (v:=iv e.o) r rfl (pC (lK (v:=u6 e.s) r rfl ?_)))
 refine zfq (x:=ph e) λI G z s3=>?_;have i:=(b1.trans (J.mono oo)).trans (z.mono oo);have Y:=ae z X X.lt;have L:=ae z r r.lt;have h3:=h.below i;have F:=h.lt;refine ax (λx=>HoM x p m W/\blk x w2.heap.size 272 [iv (ph e).1,u6 (ph e).2]) ⟨h3.below (jT _ I).drew,G.drew⟩ ?_
 refine ac (λx d _ a=>au a) (ac (λx d _ a=>DI a) (ac (λx d _ a=>lK (v:=.map (some m)) d.1.b rfl a) ?_));refine ac (λx d _ a=>zbc d.2 a) (ac (v:=.tuple #[evV ((dZ W (ph e)).getD evZ),.bool (dZ W (ph e)).isSome]) (λx d _ a=>YC hkK underlying146 zc6 d.1.mb a) ?_);refine ac (λx d _ a=>bK a) (ac (λx d _ a=>bJ a) ?_);refine jj λw4 t4 q s4=>?_
 have hd:I.drew.heap.size=I.heap.size:=rfl;have j:Below w.heap.size w w4:=i.drew.trans (q.mono (by rw[hd];omega));have h4:=h.below j;have R:=ae q G.drew G.drew.lt;have e4:=ae q L.drew L.drew.lt;have v4:=ae q Y.drew Y.drew.lt;refine aI ⟨h4,R⟩ (fG t4 λw5 t5 n=>?_);have k:Below w.heap.size w w5:=aK j n oo;have h5:=h.below k;have H:=n.blk R oo
 have B:=n.blk e4 oo;have Z:=n.blk v4 oo;have s5:=n.size;refine aI ⟨h5,H⟩ ?_;refine Pe (dN B (Fi λw6 l=>bH ?_));have g:=k.trans (l.mono oo);have v6:=ae l Z Z.lt;have C:=ae l B B.lt;have S:=ae l H H.lt;have h6:=h.below g;cases P:dI e with
 | false=>exact bc (u 1 (by rw[P];simp) g)
 | true =>
 refine aD (tT D v6 (dN C (Qp D λy A=>?_)));have s6:=l.size;have c:=g.trans (A.mono g.size);have e7:=ae A C C.lt;have k7:=ae A S S.lt;have t:=h.below c;refine Pf ?_;cases F:tQ V e with
 | true=>exact bc (Ev (bc (u 14 (by rw[F];simp) c)))
 | false =>
 refine aD (Ev ?_);cases E:dZ W (ph e)with
 | some f=>exact bc (u 14 (by rw[E];simp) c)
 | none =>
 refine aD (au (DI (lK (v:=.map (some m)) t.b rfl (zjU underlying146 t.mb (cJ ?_)))));by_cases O:(64:Int)<=(W.length:Nat)
 .exact aG O (u 7 oo c)
 refine aB O (Pg ?_);refine ax (λx=>HoM x p m W/\blk x w2.heap.size 272 [iv (ph e).1,u6 (ph e).2]/\blk x w1.heap.size 49 (evC e)) ⟨t.below (jT _ y).drew,k7.drew,e7.drew⟩ ?_;refine ac (λx d _ a=>au a) (ac (λx d _ a=>DI a) (ac (λx d _ a=>lK (v:=.map (some m)) d.1.b rfl a) ?_));refine ac (λx d _ a=>zbc d.2.1 a) (ac (v:=evV e) (λx d _ a=>dN d.2.2 a) ?_)
 have M:=t.below (jT _ y).drew;refine vK (v:=e) hkK underlying146 M.mb λw8 m8 T=>?_;refine a w8 0 ?_ ((Ch.of_below c.drew:Ch [m] w y.drew).trans (Ch.of_oth T oB:Ch [m] y.drew w8) oB);unfold Px;rw[oJ ⟨P,F,E,by omega⟩, <-yN E];exact⟨T.blk M.b h.ne,m8⟩
def zhT(d:∀S,HoM S (w.heap.size+1) w.heap.size []->Below w.heap.size w S->S.heap.size=w.heap.size+2->K (pB (w.heap.size+1)) S):call Q 29 #[] K w:=by refine ao (goK func29) (Zy (xa underlying146 rfl rqV evV λi e c f=>cE (vs:=[.map (some w.heap.size)]) kr (bU λg b a h=>?_)));rw[f]at b |-;exact d g ⟨by simpa[Value.cells]using b,e.below a⟩ (c.trans (a.mono oo)) oo
end
def YL{V:List Int}{W:HM}{k:Nat}(c:k<6)(h:∀f,dZ W ((k:Int)+1,V.getD k 0+1)=some f->fW V f=false):eD V W (6-k)=eD V W (6-(k+1)):=by
 obtain⟨j,b⟩:∃j,6-k=j+1:=⟨5-k,by omega⟩
 rw[b,show 6-(k+1)=j by omega];show (match dZ W (((5-j:Nat):Int)+1,V.getD (5-j) 0+1)with|some e=>if fW V e=true then some e else eD V W j|none=>eD V W j)=_;rw[show 5-j=k by omega];cases a:dZ W ((k:Int)+1,V.getD k 0+1)with
 | none=>rfl
 | some f=>show (if _ then _ else _)=_;rw[oI (by rw[h f a];simp)]
def zev{V:List Int}{W:HM}{k:Nat}{f:EV}(c:k<6)(a:dZ W ((k:Int)+1,V.getD k 0+1)=some f)(h:fW V f=true):eD V W (6-k)=some f:=by
 obtain⟨j,b⟩:∃j,6-k=j+1:=⟨5-k,by omega⟩
 rw[b];show (match dZ W (((5-j:Nat):Int)+1,V.getD (5-j) 0+1)with|some e=>if fW V e=true then some e else eD V W j|none=>eD V W j)=_;rw[show 5-j=k by omega,a];show (if _ then _ else _)=_;rw[oJ h]
section
variable  {K:KV}{p:Nat}{W:HM}{V:List Int}{e:EV}
def zg3(h:HoM w p m W)(M:V.length=6)(hv:∀k,k<6->0<=V.getD k 0/\V.getD k 0<M40)(aa:∀x∈W,x.1=ph x.2)(ag:∀x∈W,tQ V x.2=false)(no:eD V W 6=none->∀w',Below w.heap.size w w'->K (.tuple #[evV evZ,.bool false]) w')(aE:∀e,eD V W 6=some e->∀w',HoM w' p m (ud W (ph e))->Ch [m] w w'->K (.tuple #[evV e,.bool true]) w'):call Q 241 #[pB p,.agg (vCs V).toArray] K w:=by
 have hl:=h.lt;have ar:=h.ne;refine ao (goK func241) (QH ?_);refine yX M λw1 v1 b1 s1=>jj λw2 t2 b2 s2=>za0 (aD (au (DI ?_)));have v2:=ae b2 v1 v1.lt;have L:=b1.trans (b2.mono oo);have h2:=h.below L;refine lK (v:=.map (some m)) h2.b rfl (PJ underlying146 h2.mb λw3 ai b3 s3=>?_);generalize hr:w2.heap.size=r at ai s3
 refine NT (Inv:=λa=>∃D,IT rqV evV a r m W D/\blk a w.heap.size 34 (vCs V)/\blk a w1.heap.size 49 (evC evZ)/\Below w.heap.size w a/\r+1<=a.heap.size) (μ:=λa=>jm a m r)
  ⟨[],ai,ae b3 v2 v2.lt,ae b3 t2 t2.lt,L.trans (b3.mono oo),by omega⟩ ?_
 rintro dd w4 mu ⟨D,aw,v4,t4,X,z4⟩ ap;refine Po aw oo (λ_=>?_) λx f w5 ad aJ aj al o5 aF=>?_
 .refine te rfl (aD (NV (tT M v4 ?_)));refine NU (Inv:=λi a=>∃k:Nat,i=iv (k:Nat)/\k<=6/\eD V W 6=eD V W (6-k)/\blk a w.heap.size 34 (vCs V)/\blk a w1.heap.size 49 (evC evZ)/\Below w.heap.size w a/\r+1<=a.heap.size) (μ:=λi _=>6-(intOf i).toNat)
   ⟨0,rfl,by omega,rfl,v4,t4,X,z4⟩ ?_
  rintro _ dd w5 mu2 ⟨k,rfl,hk,hn,J,G,j,z5⟩ af;refine aW ?_;by_cases t:k<6
  .refine aG oo (Xq underlying34 kf kf t (BX M t) (aY oo oo ?_));have av:=hv k t;simp only[M40]at av;refine ze ?_;rw[gu,show (V.getD k 0+1)%18446744073709551616=V.getD k 0+1 by omega];refine zfq (x:=((k:Int)+1,V.getD k 0+1)) λR H y s6=>?_;have A:=j.trans (y.mono j.size);have h6:=h.below A
   have v6:=ae y J J.lt;have t6:=ae y G G.lt;refine ax (λx=>HoM x p m W/\blk x w5.heap.size 272 [iv ((k:Int)+1),u6 (V.getD k 0+1)]) ⟨h6.below (jT _ R).drew,H.drew⟩ ?_;refine ac (λx d _ g=>au g) (ac (λx d _ g=>DI g) (ac (λx d _ g=>lK (v:=.map (some m)) d.1.b rfl g) ?_))
   refine ac (λx d _ g=>zbc (x:=((k:Int)+1,V.getD k 0+1)) d.2 g) (ac (v:=.tuple #[evV ((dZ W ((k:Int)+1,V.getD k 0+1)).getD evZ),.bool (dZ W ((k:Int)+1,V.getD k 0+1)).isSome]) (λx d _ g=>YC hkK underlying146 zc6 d.1.mb g) ?_);refine ac (λx d _ g=>bK g) (ac (λx d _ g=>bJ g) ?_);refine jj λw7 t7 u s7=>?_;have T:R.drew.heap.size=R.heap.size:=rfl
   have B:Below w.heap.size w w7:=A.drew.trans (u.mono (by rw[T];exact A.size));have h7:=h.below B;have k7:=ae u H.drew H.drew.lt;have v7:=ae u v6.drew v6.drew.lt;have aC:=ae u t6.drew t6.drew.lt;have z6:=y.size;have lv:=J.lt;have lt:=G.lt;refine aI ⟨h7,k7⟩ (fG t7 λw8 t8 o=>?_);have s8:=o.size;have C:Below w.heap.size w w8:=aK B o (by rw[T];exact A.size)
   have h8:=h.below C;have k8:=o.blk k7 (by rw[T];omega);have v8:=o.blk v7 (by rw[T];omega);have P:=o.blk aC (by rw[T];omega);have z8:r+1<=w8.heap.size:=by rw[s8,s7,T];omega
   refine aI ⟨h8,k8⟩ ?_;have next:∀a,eD V W (6-k)=eD V W (6-(k+1))->blk a w.heap.size 34 (vCs V)->blk a w1.heap.size 49 (evC evZ)->Below w.heap.size w a->r+1<=a.heap.size ->
     (∃k':Nat,iv ((k:Int)+1)=iv (k':Nat)/\k'<=6/\eD V W 6=eD V W (6-k')/\blk a w.heap.size 34 (vCs V)/\blk a w1.heap.size 49 (evC evZ)/\Below w.heap.size w a/\r+1<=a.heap.size)/\6-(intOf (iv ((k:Int)+1))).toNat<mu2:=λa e1 e2 e3 e4 e5 =>
    ⟨⟨k+1,qH iv (by push_cast;rfl),by omega,hn.trans e1,e2,e3,e4,e5⟩,by rw[af];show 6-((k:Int)+1).toNat<6-((k:Nat):Int).toNat;omega⟩
   cases Z:dZ W ((k:Int)+1,V.getD k 0+1)with
   | none =>
    refine js (cA (Dl (aD (Dm (aY oo oo ?_)))));exact next w8 (YL t λf Y=>by rw[Z]at Y;cases Y) v8 P C z8
   | some f =>
    rw[Z]at t8;refine my (tT M v8 (dN (e:=f) t8 (SC M (λk a=>(hv k a).1) λw9 S=>dD ?_)));have s:=C.trans (S.mono C.size);refine Dl ?_;have v9:=ae S v8 v8.lt;have U:=ae S P P.lt;cases ah:fW V f with
    | false =>
     refine aD (Dm (aY oo oo ?_));exact next w9 (YL t λa Y=>by rw[Z]at Y;cases Y;exact ah) v9 U s (qR z8 S.size)
    | true =>
     have aq:eD V W 6=some f:=hn.trans (zev t Z ah);have an:ph f=((k:Int)+1,V.getD k 0+1):=(aa _ (wZ Z)).symm;have h9:=(h.below s).below (jT _ w9).drew;have k9:=(ae S k8 k8.lt).drew;have f9:=(ae S t8 t8.lt).drew;refine bc (ax (λx=>HoM x p m W/\blk x w5.heap.size 272 [iv ((k:Int)+1),u6 (V.getD k 0+1)]) ⟨h9,k9⟩ ?_)
     refine ac (λx d _ g=>au g) (ac (λx d _ g=>DI g) (ac (λx d _ g=>lK (v:=.map (some m)) d.1.b rfl g) ?_));refine ac (λx d _ g=>zbc (x:=((k:Int)+1,V.getD k 0+1)) d.2 g) ?_;refine zbW hkK underlying146 h9.mb λw10 az F=>?_;have ab:∀{q:Nat} {E:TypeId} {cs:oE},blk w9.drew q E cs->q≠m:=λhb e=>by
      obtain⟨es,c,hm⟩:=h9.mb;unfold blk at hb;rw[e,hm.heap]at hb;cases hb
     refine dN (F.blk f9 (ab f9)) (fG (F.blk U.drew (ab U.drew)) λak aA O=>?_);refine zfb aA (aE f aq ak ?_ ?_)
     .rw[an];exact⟨O.blk (F.blk h9.b ar) oo,az.oth O oo⟩
     .have hc:Ch [m] w w10:=(Ch.of_below s.drew:Ch [m] w w9.drew).trans (Ch.of_oth F oB:Ch [m] w9.drew w10) oB;exact hc.trans (Ch.of_oth O oB:Ch [w1.heap.size] w10 ak) (by simp;omega)
  .have am:k=6:=by omega
   subst am;refine aB oo (NW ?_);refine cE (vs:=evC evZ) kr (fG (e':=evZ) G λR t6 o6=>?_);exact zfb t6 (no hn R (aK j o6 oo))
 .refine te rfl (bc (OF al (bK (bJ ?_))));have aH:=aj.lt;refine cD (z:=.agg #[iv 0,u6 0]) kr λR H y s6=>jj λw7 f7 u s7=>?_;have H:=cZ H
  have k7:=ae u H H.lt;have aL:=o5.size;have J:=o5.blk v4 (by have:=v2.lt;omega);have G:=o5.blk t4 (by have:=t2.lt;omega);have j:Below w.heap.size w w5:=aK X o5 (by have:=L.size;omega);have B:Below w.heap.size w w7:=(j.trans (y.mono j.size)).trans (u.mono (by have:=j.size;omega));have ay:=(aj.below y).below u;have v7:=ae u (ae y J J.lt) (by have:=J.lt;omega)
  have t7:=ae u (ae y G G.lt) (by have:=G.lt;omega);refine fY (n:=2) (vs:=[iv x.1,u6 x.2]) kr rfl k7 (by show 0+2<=2;omega) (by simp[u6,iv,Value.oneCell']) λw8 k8 o=>?_;have f8:=o.blk f7 oo;refine fG (e':=f) f8 λw9 f9 I=>?_;have aM:=o.size;have aN:=I.size;have lv:=J.lt;have lt:=G.lt;have v9:=I.blk (o.blk v7 oo) oo
  have U:=I.blk (o.blk t7 oo) oo;have s:Below w.heap.size w w9:=aK (aK B o (by have:=j.size;omega)) I (by have:=j.size;omega);have N:=ay.kept ((I.other m oo).trans (o.other m oo)) ((I.other r oo).trans (o.other r oo));refine tT M v9 (dN f9 (Qp M λw10 l=>?_));rw[ag _ ad]
  refine aD ⟨⟨D++[x],N.below l,ae l v9 v9.lt,ae l U U.lt,s.trans (l.mono s.size),by have:=l.size;omega⟩,?_⟩;rw[ap]
  have e1:jm w10 m r=jm w5 m r:=xg ((l.block m N.lt.2).trans ((I.other m oo).trans ((o.other m oo).trans ((u.block m oo).trans (y.block m oo))))) ((l.block r N.lt.1).trans ((I.other r oo).trans ((o.other r oo).trans ((u.block r oo).trans (y.block r oo)))));omega
end
end
def noJ(E:List EV):Prop:=∀e∈E,e.k≠6/\e.k≠7
def Yv{x:GR}:∀{G:List GR},(kJ x G).length=G.length+1
 | []=>rfl
 | y::G=>by
  unfold kJ;split
  .rfl
  .rw[oZ,Yv,oZ]
def cnE(E:List EV)(V:List Int):Nat:=E.countP λf=>decide (f.s<=V.getD f.q 0)
def Fz(T:List (List (EV×Int)))(e:EV)(c:Int):List (List (EV×Int)):=T.set e.q (T.getD e.q []++[(e,c)])
def Jy(T:List (List (EV×Int)))(c:Int)(F:List EV):List (List (EV×Int)):=F.zipIdx.foldl (λT p=>Fz T p.1 (c+(p.2:Nat))) T
def Tf{T:List (List (EV×Int))}{c:Int}{F:List EV}{e:EV}:Jy T c (F++[e])=Fz (Jy T c F) e (c+(F.length:Nat)):=by unfold Jy;rw[List.zipIdx_append,List.foldl_append];simp
def xJ(A:List EV)(q:Nat):List (EV×Int):=(A.zipIdx.filter λp=>decide (p.1.q=q)).map λp=>(p.1,(p.2:Int))
def yi(A:List EV):List (List (EV×Int)):=(List.range 6).map (xJ A)
def zcT{A:List EV}{e:EV}{q:Nat}:xJ (A++[e]) q=if e.q=q then xJ A q++[(e,(A.length:Int))]else xJ A q:=by
 unfold xJ;rw[List.zipIdx_append,List.filter_append,jJ];by_cases h:e.q=q
 .rw[oJ h];simp[h]
 .rw[oI h];simp[h]
def Nh{A:List EV}{q:Nat}(h:q<6):(yi A)[q]? = some (xJ A q):=by unfold yi;rw[qC,List.getElem?_range h];rfl
def UF{A:List EV}{e:EV}(h:e.q<6):yi (A++[e])=Fz (yi A) e (A.length:Nat):=by
 have b:∀A,(yi A).length=6:=λA=>by simp[yi]
 unfold Fz;rw[oN,Nh h,Option.getD_some];refine List.ext_getElem? λq=>?_;by_cases c:q<6
 .rw[Nh c,zcT,List.getElem?_set,b];by_cases a:e.q=q
  .rw[oJ a,oJ a,oJ h,a]
  .rw[oI a,oI a,Nh c]
 .rw[jC (by rw[b];omega),jC (by rw[qN,b];omega)]
def zbq{A:List EV}:∀{F:List EV},(∀e∈F,e.q<6)->yi (A++F)=Jy (yi A) (A.length:Nat) F:=by
 intro F;generalize a:F.length=m
 induction m generalizing F with
 | zero=>intro _;rw[List.eq_nil_of_length_eq_zero a,oW];rfl
 | succ m ih =>
  intro h;rcases List.eq_nil_or_concat F with rfl|⟨F',e,rfl⟩
  .simp at a
  .rw[List.concat_eq_append]at a h |-;have b:F'.length=m:=by simpa using a
   rw[Tf, <-ih b λx c=>h x (List.mem_append_left _ c), <-jD,UF (h e oB),oT];push_cast;rfl
structure zjJ(E A:List EV) (l:PL):Prop where
 mem:∀f,f∈A↔f∈E/\f.s<=l.V.getD f.q 0
 nd:A.Nodup
 inc:A.Pairwise λa b=>a.q=b.q->a.s<b.s
 ord:∀X e Y,A=X++e::Y->∀f∈E,f.s<=zaU e f.q->f∈X
def ChE(E:List EV)(P:List Int)(L:List EV):Prop:=∀X e Y,L=X++e::Y->e∈E/\∀f∈E,f.s<=zaU e f.q->f.s<=P.getD f.q 0\/f∈X
section
variable {n:Nat}{E A:List EV}{l l':PL}{W W':HM}{e:EV}{P:List Int}{L F:List EV}
def nM(V:List Int)(W:HM)(E:List EV):HM:=E.foldl (Px V) W
end
def QU{K:KV}(h:bT .geq 3 H (ci 1) (λb w=>aT b true (λb=>bT .leq 3 H (ci 6) (λa=>b [H,a]) w) (λk=>k [uu,uu] w) λa=>pick b (gd a 1) cF K) w):Gives Q 212 #[H] w K:=aw func212 kr (mpK h)
def Lr(m1 t28:oF)(zf:oD):=zf 0::m1::zT zf 2 26 (t28::zT zf 29 44 ([]))
def Lt(m1 t52:oF)(zf:oD):=zf 0::m1::zT zf 2 50 (t52::zT zf 53 20 ([]))
def VC(zf:oD):=zT zf 0 73 ([])
def od(K:KV):KE:=kZ f191 [1,1,1] K
def vN(K:KV):KE:=aj Q (cd f191 [1,1,0,1]) (od K) xf (rk f191 K)
def vO(K:KV):KE:=aj Q (cd f191 (b1 471)) (od K) (xx xf (od K) 0) (rk f191 K)
section
variable {K:KV}{m1 t28 t52:oF}  
def Lu{K:KV}(h:box Q 268 H (λc=>aq Q 268 c 1 λe=>ld Q 3 e λf=>call Q 212 #[f] λg=>un Q .not g λh w=>aT h false (λi=>aq Q 268 c 2 (λa=>ld Q 3 a λb=>call Q 212 #[b] λc=>un Q .not c λd=>i [a,b,c,d]) w) (λk=>k [uu,uu,uu,uu] w) λd=>pick h cT (gd d 3) λi w=>aT i false (λf=>aq Q 268 c 1 (λa=>ld Q 3 a λb=>aq Q 268 c 2 λc=>ld Q 3 c λd=>bF .eql 3 b d λe=>f [a,b,c,d,e]) w) (λk=>k [uu,uu,uu,uu,uu] w) λa=>pick i cT (gd a 4) λj w=>aT j false (λg=>aq Q 268 c 3 (λe=>ld Q 34 e λa=>call Q 72 #[a] λb=>un Q .not b λc=>g [e,a,b,c]) w) (λk=>k [uu,uu,uu,uu] w) λb=>pick j cT (gd b 3) λk w=>cond k (K cF w) (aq Q 268 c 0 (λl=>ld Q 5 l λm=>vN K (Lr c m (zV (zV (zV zu 0 [H]) 2 [cF]) 4 [e,f,g,h,h,gd d 0,gd d 1,gd d 2,gd d 3,i,i,gd a 0,gd a 1,gd a 2,gd a 3,gd a 4,j,j,gd b 0,gd b 1,gd b 2,gd b 3,k,l]))) w)) w):Gives Q 191 #[H] w K:=by refine aw func191 kr <|Eq.mp (qH (λc=>aj Q c _ _ _ _ w) (by kernel_rfl:(rep [1,1,0,1] (cd f191 [1,1,0,1]) (cd f191 []))=(cd f191 []))) ?_;revert h;delta vN od;generalize (cd f191 [1,1,0,1])=xc0;exact mpF
def IC(h:bT .eql 5 t28 (cb 1) (λa w=>cond a (aq Q 268 m1 4 (λp=>ld Q 100 p λa=>call Q 213 #[a,.func (.func 214) #[] #[]] λa=>un Q .not a λa w=>aT a true (λm=>aq Q 268 m1 4 (λb=>ld Q 100 b λc=>lN 100 c λa=>bT .leq 3 a (ci 16) λd=>m [b,c,a,d]) w) (λk=>k [uu,uu,uu,uu] w) λi=>pick a (gd i 3) cF λa w=>aT a true (λn=>aq Q 268 m1 5 (λa=>ld Q 32 a λb=>bT .eql 32 b (cu 0) λq=>n [a,b,q]) w) (λk=>k [uu,uu,uu] w) λj=>pick a (gd j 2) cF λd w=>aT d true (λo=>aq Q 268 m1 6 (λe=>ld Q 2 e λf=>bT .eql 2 f (ci 0) λa=>o [e,f,a]) w) (λk=>k [uu,uu,uu] w) λl=>pick d (gd l 2) cF K) w) (bT .eql 5 t28 (cb 2) (λg=>vO K (Lt m1 g (zV (zV zf 28 [t28,a,a]) 53 [g]))) w)) w):vN K (Lr m1 t28 zf) w:=by delta vN;refine Eq.mp (qH (λc=>aj Q c _ _ _ _ w) (by kernel_rfl:(rep [0,1,1,1] (cd f191 (b1 471)) (cd f191 [1,1,0,1]))=(cd f191 [1,1,0,1]))) ?_;revert h;delta vO;generalize (cd f191 (b1 471))=xc0;generalize (od K)=qc0;exact mpF
def Sp(h:cond t52 (aq Q 268 m1 4 (λa=>ld Q 100 a λq=>lN 100 q λr=>bT .eql 3 r (ci 0) λa w=>aT a true (λn=>aq Q 268 m1 5 (λa=>ld Q 32 a λb=>bT .neq 32 b (cu 0) λc=>n [a,b,c]) w) (λk=>k [uu,uu,uu] w) λj=>pick a (gd j 2) cF λc w=>aT c true (λo=>aq Q 268 m1 6 (λd=>ld Q 2 d λe=>bT .geq 2 e (ci 1) λs=>o [d,e,s]) w) (λk=>k [uu,uu,uu] w) λl=>pick c (gd l 2) cF λf w=>aT f true (λp=>aq Q 268 m1 6 (λg=>ld Q 2 g λi=>bT .leq 2 i (ci 1125899906842624) λt=>p [g,i,t]) w) (λk=>k [uu,uu,uu] w) λm=>pick f (gd m 2) cF K) w) (od K (VC (zV (zV zf 1 [m1]) 52 [t52])) w)):vO K (Lt m1 t52 zf) w:=by delta vO;revert h;generalize (od K)=qc0;exact mpF
end
attribute [irreducible] od vN vO
def So{K:KV}(h:box Q 49 H (λa=>ld Q 49 a λa=>call Q 58 #[a] λa=>un Q .not a K) w):Gives Q 214 #[H] w K:=aw func214 kr (mpK h)
def vW{K:KV}(h:call Q 238 #[Z,H] (λa=>bT .geq 3 a (ci 0) K) w):Gives Q 213 #[Z,H] w K:=aw func213 kr (mpK h)
def pU(s0 f1 t7 t8:oF)(zf:oD):=s0::f1::zT zf 2 5 (t7::t8::zT zf 9 10 ([]))
def pW(zf:oD):=zT zf 0 19 ([])
def cW(K:KV):KE:=kZ f238 [1,1] K
def gX(K:KV):KE:=aj Q (cd f238 [1,0,1,0]) (cW K) (xx xf (cW K) 0) (rk f238 K)
section
variable {K:KV}{s0 f1 t7 t8:oF}  
def xw{K:KV}(h:lN 100 H (λa=>gX K (pU H Z a (ci 0) (zV (zV zu 4 [ci 0]) 6 [H]))) w):Gives Q 238 #[H,Z] w K:=aw func238 kr (mpK h)
def wc(Inv:oF->oG->Prop)(μ:oF->oG->Nat)(f:Inv t8 w)(i:∀(a:oF) (e:oD) (w:oG) (m:Nat),Inv a w->m=μ a w ->
  lS a t7 (λb w=>cond b (bv Q 100 s0 a (λb=>ld Q 49 b λb=>bS Q f1 #[b] λb w=>cond b (K a w) (nC a (λa w=>(Inv a w)/\((μ a w)<m)) w)) w) (cW K (pW (zV (zV e 0 [s0,f1]) 7 [t7,a,b])) w)) w):gX K (pU s0 f1 t7 t8 zf) w:=by refine aZ (cd f238 (b1 52)) (zr [(4,2),(8,11)]) kr (vP [8] Inv) (vQ [8] μ) f ?_;intro d j g;have h:=i _ (zM zf (gd d) (zr [(4,2),(8,11)])) j _ g rfl;revert h;generalize (cW K)=qc0;exact mpF
def we(h:K (ci (-1)) w):cW K (pW zf) w:=mpK h
end
attribute [irreducible] cW gX
def Xl{K:KV}(h:box Q 34 H (λa w=>aL (λS w=>hL S 34 a λa=>call Q 70 #[.func (.func 90) #[] #[]] (λb=>bw S λ_=>call Q 89 #[a,b] λa=>aL λ_=>K a) w) w.drew) w):Gives Q 72 #[H] w K:=aw func72 kr (mpK h)
def UN{K:KV}(h:K (cu 1099511627776) w):Gives Q 90 #[H] w K:=aw func90 kr (mpK h)
def Xa{K:KV}(h:bld Q 151 #[] (λa=>box Q 151 a K) w):Gives Q 30 #[] w K:=aw func30 kr (mpK h)
def RZ{K:KV}(h:bT .geq 3 H (ci 1) (λb w=>aT b true (λb=>bT .leq 3 H (ci 6) (λa=>b [H,a]) w) (λk=>k [uu,uu] w) λa=>pick b (gd a 1) cF K) w):Gives Q 234 #[H] w K:=aw func234 kr (mpK h)
def MH{K:KV}{v2:oF}(h:box Q 34 v2 (λb=>bT .eql 114 Z (.pointer none) λa w=>cond a (K (ci 2) w) (call Q 234 #[H] (λa=>un Q .not a λa w=>cond a (K (ci 10) w) (aL (λS w=>hld (λ_=>True) (bT .sub 3 H (ci 1)) λc=>hld (λ_=>True) (bT .sub 3 H (ci 1)) λa=>hN S Z λd=>hF S 151 d 0 λd=>hI S 149 d a λa=>hL S 34 a λa=>hL S 34 b λb=>hN S Z λd=>hF S 151 d 0 λd=>cH Q 238 2 #[(0,a),(1,b)] (λa=>bw S λS=>call Q 109 #[a] λa=>bw S λS w=>hI S 149 d c λb=>sto Q 34 b a (λ_=>K (ci 0)) w) w) w.drew)) w)) w):Gives Q 216 #[Z,H,v2] w K:=aw func216 kr (mpK h)
def Pc{K:KV}(h:alc Q 34 (λb=>bT .eql 114 Z (.pointer none) λc w=>aT c false (λb=>call Q 234 #[H] (λa=>un Q .not a λc=>b [H,a,c]) w) (λk=>k [uu,uu,uu] w) λa=>pick c cT (gd a 2) λa w=>cond a (bld Q 34 #[] (λa=>sto Q 34 b a λ_=>bA Q [(some 34,b)] K) w) (bT .sub 3 H (ci 1) (λa=>bj Z λc=>aq Q 151 c 0 λc=>bv Q 149 c a λa=>ld Q 34 a λa=>sto Q 34 b a λ_=>bA Q [(some 34,b)] K) w)) w):Gives Q 157 #[Z,H] w K:=aw func157 kr (mpK h)
def Li{K:KV}(h:bT .eql 114 H (.pointer none) (λa w=>cond a (K cN w) (call Q 157 #[H,Z] (λa=>call Q 233 #[U,a,Y] K) w)) w):Gives Q 209 #[H,Z,U,Y] w K:=aw func209 kr (mpK h)
end
end Go.Proofs.YtgohpbmmcgenpaaGreatDoor
