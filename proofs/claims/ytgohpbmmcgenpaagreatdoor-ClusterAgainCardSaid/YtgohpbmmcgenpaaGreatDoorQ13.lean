import Derived.Test.YtgohpbmmcgenpaaGreatDoorQ12
import Derived.Test.YtgohpbmmcgenpaaGreatDoorQ2
import Derived.Test.YtgohpbmmcgenpaaGreatDoorQ10
import Derived.Test.YtgohpbmmcgenpaaGreatDoorQ9
import Derived.Test.YtgohpbmmcgenpaaGreatDoorQ4
namespace Go.Proofs.YtgohpbmmcgenpaaGreatDoor
set_option maxRecDepth 100000
set_option linter.defProp false
set_option maxHeartbeats 4000000
open Go.Proofs.Tryz
open Go.RowKit
variable {w w' w2 S O:oG}{zf:Nat->oF}{b c o i g m s j z f d c2 gc D B' B2 ba hi:Nat}{a av a2:Option Addr}{x v r N fu:Int}{E t e:TypeId}{A X0:List Int}{B1:KE}{xs vs:oE}{P:Program}{cx cy:Bool}{T:List (Int×Int)}{Z1 N2 O2 H Z U Y J C:oF}
section
attribute [local irreducible] bin un conv call bS blt slc aq fld bv idx lkp fJ nl eSt rng nxt ent ext alc box bld cH ld sto bj fK mkS ifc pick rdy wts aT sti cond bA Gives aj iK kH cOp
section
open Go.ChangeMaps
section
variable  {K:KV}  {Y:DuX}{s:RS}{A:List EV}  {x:AK}
def Vg(h:K (.bool false) w):bin Q .eql 67 cx cy (pB b) (.pointer none) K w :=
 eH (by unfold eqG eqGuard;rfl) kr h
def Qb{f:oF}(h:DuM w i Y s A fu)(a:bS Q f #[] K w):call Q 185 #[pB Y.u,f] K w :=
 ao (goK func185) (HG (Vg (aD (au (Mp (lK (v:=.bool false) h.b rfl (aD a)))))))
def zhE(h:DuM w i Y s A fu)(a:K (.bool false) w):call Q 25 #[pB Y.u] K w :=
 ao (goK func25) (Jg (Vg (eK (au (Mp (lK (v:=.bool false) h.b rfl (cA a)))))))
def zdI(h:DuM w i Y s A fu)(hi:PI s.l)(C:s.l.G.length<=1000000)(j:∀S t g gc,SO S (w.heap.size+3) s.l t g gc->Below w.heap.size w S->K (.agg (saC t).toArray) S):call Q 17 #[pB Y.u] K w:=by
 refine ao (goK func17) (HF ?_);refine cD (z:=.agg (saC ⟨List.replicate 6 false,List.replicate 6 false,List.replicate 6 0,[],none,0,.slice none 0 0⟩).toArray) kr λF a f E=>?_;have a:=cZ a
 generalize k:saC ⟨List.replicate 6 false,List.replicate 6 false,List.replicate 6 0,[],none,0,.slice none 0 0⟩=zs at a;have D:zs.length=20:=by rw[<-k];rfl
 have q:=h.below f;refine Vg (aD (au (HL (lK (v:=pB Y.X.R.p) q.b rfl ?_))));refine zeQ q.rp.rp hi C λI t g gc c o=>?_;have B:=ae o a a.lt;have x:(saC t).length=20:=ss (by rw[c.eI];exact hi.i6) (by rw[c.eL];exact hi.l6) (by rw[c.eV];exact hi.v6);have m:∀v∈saC t,v.oneCell'=true:=by
  intro v e;unfold saC at e;rw[c.gv]at e;simp only[oU,qT,oO,oR,or_false]at e;rcases e with((⟨_,_,rfl⟩|⟨_,_,rfl⟩)|⟨_,_,rfl⟩)|(rfl|rfl)<;>rfl
 refine fY (n:=20) (vs:=saC t) kr x B oo m λH r y=>?_;rw[qX,oV,oS oo,oW]at r;refine uO (v:=.agg (saC t).toArray) (λ_ j=>ldA (n:=20) (vs:=saC t) underlying38 rfl kr r (by rw[oX,tL oo]) x j) ?_;have d:=c.oth y oo;rw[E]at d
 exact j H t g gc d (aK (f.trans (o.mono f.size)) y oA)
def ZV{L:List EV}{V:List Int}{k:Int}(h:DuM w i Y s A fu)(hi:i<6)(hp:PI s.l)(U:HK s.l.V Y.X.W)(ai:s.A.length<=990000)(hv:VR w a c g L)(af:∀b o,a=some ⟨b,o,none⟩->b∉FF Y.X)(hm:∀e∈L,dI e=true/\vC e)(hW:∀p∈Y.X.W,vC p.2)(M:c<=16)(hf:f<6)(T:f≠i)(hV:V.length=6)(Z:leV V (List.replicate 6 1099511627776)=true)(hA:s.P[f]? = some X0)(aj:A.length<=30000)(j:∀w' Y' l' F fu',(fu = -1->fu' = -1)->F.length<=64->DuM w' i Y' ⟨l',s.A++F,s.P.set f (jV X0 V)⟩ (A++F) fu'->DuS w w' Y Y'->DG s.l (nM s.l.V Y.X.W L) l' Y'.X.W F->eD l'.V Y'.X.W 6=none->Y'.p=Y.p/\Y'.u=Y.u->K (ci 0) w')(h8:∀w' l' W' F,fu≠-1->F.length<=64->DG s.l (nM s.l.V Y.X.W L) l' W' F->DnM w' Y.p Y.u A F->Ch (DF Y) w w'->K (ci 8) w'):call Q 178 #[pB Y.u,.agg (mgC 1 ((f:Int)+1) ((i:Int)+1) V (.slice a c g) 0 0).toArray,u6 k] K w:=by
 generalize E:mgC 1 ((f:Int)+1) ((i:Int)+1) V (.slice a c g) 0 0=ms;have aa:ms.length=12:=by rw[<-E];simp[mgC,bE,hV]
 have N:(Value.agg ms.toArray).cells.toList=ms:=by simp[Value.cells]
 refine ao (goK func178) (Ag (bU λB m b1 s1=>bU λw2 H b2 s2=>bU λw3 z3 b3 s3=>?_));have m:blk B w.heap.size 67 [pB Y.u]:=m;rw[N]at H;have z3:blk w3 w2.heap.size 32 [u6 k]:=z3;have C:Below B.heap.size B w3:=b2.trans (b3.mono b2.size);have r:=b1.trans (C.mono b1.size);have m:=ae C m m.lt;have H:=ae b3 H H.lt;have h3:=h.below r
 have ad:=hv.bel r oA;have ah:∀{y:oG} {K:KV},blk y B.heap.size 268 ms->K (.agg ms.toArray) y->ld Q 268 (pB B.heap.size) K y:=λhy j=>ldA (n:=12) (vs:=ms) underlying268 rfl kr hy (by rw[oX,tL oo]) aa j
 refine lK (v:=pB Y.u) m rfl (Qb h3 (cB (all:=#[pB w.heap.size,pB B.heap.size,pB w2.heap.size]) rfl (ao (goK func195) (xT ?_))));have t:=h3.below (jT _ w3).drew;refine ax (λy=>blk y w.heap.size 67 [pB Y.u]/\blk y B.heap.size 268 ms/\blk y w2.heap.size 32 [u6 k]/\blk y Y.u 105 [pB Y.X.R.p,pB Y.q,.bool false]) ⟨m.drew,H.drew,z3.drew,t.b⟩ ?_
 refine ac (v:=pB Y.u) (λy d _ j=>lK d.1 rfl j) (ac (λy d _ j=>au j) (ac (λy d _ j=>HL j) (ac (v:=pB Y.X.R.p) (λy d _ j=>lK d.2.2.2 rfl j) ?_)));refine ac (λy d _ j=>ah d.2.1 j) (ac (v:=u6 k) (λy d _ j=>lK d.2.2.1 rfl j) ?_);rw[<-E];have ag:VR w3.drew a c g L:=ad.bel (jT _ w3).drew oA
 refine zeN t.rp hi hp U oo ag af (λe S=>(hm e S).1) M hf T hV Z hA λw4 X4 l' F fa fc G r4 I n4 e4 o4=>?_;obtain⟨h4,t4⟩:=t.step G r4;have z4:blk w4 w.heap.size 67 [pB Y.u]:=m.drew.ch G.ch λhh=>by have:=h.rp.lt _ (Jx hh);omega
 refine ax (λ_=>True) trivial (ac (λy _ _ j=>bK j) (ac (λy _ _ j=>bJ j) (bo (aB oB (lK (v:=pB Y.u) z4 rfl ?_)))));have O:=I.inv hp U.puts;have D:F.length<=64:=by have:=U.puts (L:=L);have:=this.few;omega
 have hF:∀e∈F,dI e=true/\vC e:=λe S=>by
  obtain⟨m1,p,ab,rfl⟩:=O.2.2.2.2.2 e S;refine⟨m1,?_⟩;rcases Nd p ab with J|⟨J,_⟩
  .exact hW p J
  .exact(hm _ J).2
 have z:=(DuS.refl r.drew).trans t4;refine U9 (Y:={Y with X:=X4}) h4 (zcB o4 rfl) hF oo (λw5 fu' x h5 t5=>?_) λw5 x hL d5 c5=>?_
 .exact j w5 {Y with X:=X4} l' F fu' x D h5 (z.trans t5) I n4 ⟨rfl,rfl⟩
 .exact h8 w5 l' X4.W F x D I d5 (z.ch.trans c5 z.nf)
def UR{l:PL}{t z:Int}(a:PI l)(b:eC (mkP i l ⟨5,v,t,z,0,0⟩) l=0):Ak ⟨5,v,t,z,0,0⟩:=by
 have d:dR l.N v=true:=(((qn a).1 b).k5 rfl).1;obtain⟨x,f,e⟩:=List.any_eq_true.1 d;obtain⟨o,q,g,h,j,k,c,_⟩:=a.ids x f;have e:x.id=v:=by simpa using e
 refine⟨?_,(by show (0:Int)<=0/\(0:Int)<M64;decide),(by show (0:Int)<=0/\(0:Int)<M64;decide)⟩;show 0<=v/\v<M64;rw[<-e,c];simp only[M40,M64]at *;omega
def zhC{V:List Int}{m:Int}(h:DuM w i Y s A fu)(hi:i<6)(J:PI s.l)(hG:s.l.G.length<=1000000)(ag:s.A.length<=990000)(hn:r≠0)(ha:1<=N/\N<=Ca)(hf:f<6)(T:f≠i)(hV:V.length=6)(Z:leV V (List.replicate 6 1099511627776)=true)(hA:s.P[f]? = some X0)(ah:A.length<=30000)(no:∀w' Y' fu',(fu = -1->fu' = -1)->DuM w' i Y' ⟨s.l,s.A,s.P.set f (jV X0 V)⟩ A fu'->DuS w w' Y Y'->Y'.X.W=Y.X.W->Y'.p=Y.p/\Y'.u=Y.u->K (ci 0) w')(af:∀w' Y' z fu',(fu = -1->fu' = -1)->eC (mkP i s.l ⟨5,r,(f:Int)+1,z,0,0⟩) s.l=0->DuM w' i Y' ⟨eff (mkP i s.l ⟨5,r,(f:Int)+1,z,0,0⟩) s.l,s.A++[mkP i s.l ⟨5,r,(f:Int)+1,z,0,0⟩],s.P.set f (jV X0 V)⟩ (A++[mkP i s.l ⟨5,r,(f:Int)+1,z,0,0⟩]) fu'->DuS w w' Y Y'->Y'.X.W=Y.X.W->Y'.p=Y.p/\Y'.u=Y.u->K (ci 0) w')(h8:∀w' z,fu≠-1->eC (mkP i s.l ⟨5,r,(f:Int)+1,z,0,0⟩) s.l=0->DnM w' Y.p Y.u A [mkP i s.l ⟨5,r,(f:Int)+1,z,0,0⟩]->Ch (DF Y) w w'->K (ci 8) w'):call Q 178 #[pB Y.u,.agg (mgC 2 ((f:Int)+1) ((i:Int)+1) V (.slice none 0 0) r N).toArray,u6 m] K w:=by
 generalize F:mgC 2 ((f:Int)+1) ((i:Int)+1) V (.slice none 0 0) r N=ms;have aa:ms.length=12:=by rw[<-F];simp[mgC,bE,hV]
 have O:(Value.agg ms.toArray).cells.toList=ms:=by simp[Value.cells]
 refine ao (goK func178) (Ag (bU λB o b1 s1=>bU λw2 H b2 s2=>bU λw3 z3 b3 s3=>?_));have o:blk B w.heap.size 67 [pB Y.u]:=o;rw[O]at H;have z3:blk w3 w2.heap.size 32 [u6 m]:=z3;have E:Below B.heap.size B w3:=b2.trans (b3.mono b2.size);have t:=b1.trans (E.mono b1.size);have o:=ae E o o.lt;have H:=ae b3 H H.lt;have h3:=h.below t
 have ab:∀{y:oG} {K:KV},blk y B.heap.size 268 ms->K (.agg ms.toArray) y->ld Q 268 (pB B.heap.size) K y:=λhy a=>ldA (n:=12) (vs:=ms) underlying268 rfl kr hy (by rw[oX,tL oo]) aa a;refine lK (v:=pB Y.u) o rfl (Qb h3 (cB (all:=#[pB w.heap.size,pB B.heap.size,pB w2.heap.size]) rfl (ao (goK func195) (xT ?_))))
 have k:=h3.below (jT _ w3).drew;refine ax (λy=>blk y w.heap.size 67 [pB Y.u]/\blk y B.heap.size 268 ms/\blk y w2.heap.size 32 [u6 m]/\blk y Y.u 105 [pB Y.X.R.p,pB Y.q,.bool false]) ⟨o.drew,H.drew,z3.drew,k.b⟩ ?_;refine ac (v:=pB Y.u) (λy d _ a=>lK d.1 rfl a) (ac (λy d _ a=>au a) (ac (λy d _ a=>HL a) (ac (v:=pB Y.X.R.p) (λy d _ a=>lK d.2.2.2 rfl a) ?_)))
 refine ac (λy d _ a=>ab d.2.1 a) (ac (v:=u6 m) (λy d _ a=>lK d.2.2.1 rfl a) ?_);rw[<-F];refine zeM k.rp J hi hG oo hn ha hf T hV Z hA (λw4 g r4=>?_) λw4 X4 z av cv g C r4 ad W4=>?_
 .obtain⟨M,t4⟩:=k.step g r4;have z4:blk w4 w.heap.size 67 [pB Y.u]:=o.drew.ch g.ch λU=>by have:=h.rp.lt _ (Jx U);omega
  refine ax (λ_=>True) trivial (ac (λy _ _ a=>bK a) (ac (λy _ _ a=>bJ a) (bo (aB oB (lK (v:=pB Y.u) z4 rfl ?_)))));have j:=(DuS.refl t.drew).trans t4;refine U9 (L:=[]) M ⟨rfl,λC=>qI C (qW _),λi x a=>by simp at a⟩ (λe S=>by cases S) (by simp;omega) (λD fu' c I t5=>?_) λD _ hL _ _=>qI rfl hL;rw[oW]at I
  exact no D _ fu' c I (j.trans t5) rfl ⟨rfl,rfl⟩
 .obtain⟨M,t4⟩:=k.step g r4;have z4:blk w4 w.heap.size 67 [pB Y.u]:=o.drew.ch g.ch λU=>by have:=h.rp.lt _ (Jx U);omega
  refine ax (λ_=>True) trivial (ac (λy _ _ a=>bK a) (ac (λy _ _ a=>bJ a) (bo (aB oB (lK (v:=pB Y.u) z4 rfl ?_)))));have j:=(DuS.refl t.drew).trans t4;refine U9 (Y:={Y with X:=X4}) M ad (λe S=>?_) (by show A.length+1<=_;omega) (λD fu' c I t5=>?_) λD c hL d5 c5=>?_
  .rw[mS S];exact⟨((qn J).1 C).may,DZ J (UR J C)⟩
  .exact af D {Y with X:=X4} z fu' c C I (j.trans t5) W4 ⟨rfl,rfl⟩
  .exact h8 D z c C d5 (j.ch.trans c5 j.nf)
abbrev doK(m:Nat)(K:KV):KV:=λt10=>ld Q 49 (pB m) λt11=>sto Q 49 (pB m) t11 λ_=>bA Q [(some 49,pB m),(none,t10)] K
def zaT{b:EV}{e:Int}(c:blk w m 49 (evC b))(d:∀a,Oth m w a->K (.tuple #[evV b,ci e]) a):doK m K (ci e) w :=
 dN c (fG (e':=b) c λa g f=>Ci g (d a f))
def zf9{i:EV}{e:Int}(j:blk w m 49 (evC evZ))(g:blk w b 49 (evC i))(k:b≠m)(f:∀h,Oth m w h->K (.tuple #[if e=0 then evV i else evV evZ,ci e]) h):fk (doK m K) (ks (pB m) (ci e) (pB b) (.bool (decide (e=0))) zf) w:=by
 refine Gw ?_;by_cases d:e=0
 .rw[oJ d]at f;exact aG d (dN g (fG (e':=i) j λn l a=>xS (zaT l λh c=>f h ⟨c.os.trans a.os,c.tape.trans a.tape,c.output.trans a.output,c.size.trans a.size,λx g=>(c.other x g).trans (a.other x g)⟩)))
 .rw[oI d]at f;exact aB d (xS (zaT j f))
def Xp{y:Nat}{a:EV}{t15:oF}{K2:oF->oF->oF->oF->oF->oF->oF->KV}(h:DuM w i Y s A fu)(k:blk w b 49 (evC a))(L:blk w y 67 [pB Y.u])(g:b∉DA Y)(I:A.length<=30000)(B:evC a=evC evZ->K t15 w)(C:evC a≠evC evZ->dI a=true/\vC a)(D:∀t16 t17 t18 t20 t21 c S fu',evC a≠evC evZ->(fu = -1->fu' = -1)->DuM S i Y s (A++[a]) fu'->DuS w S Y Y->blk S b 49 (evC a)->K2 t16 t17 t18 t20 t21 c (ci 0) (.bool (decide ((0:Int)=0))) S)(G:∀t16 t17 t18 t20 t21 c S,evC a≠evC evZ->fu≠-1->DnM S Y.p Y.u A [a]->Ch (DF Y) w S->blk S b 49 (evC a)->K2 t16 t17 t18 t20 t21 c (ci 8) (.bool (decide ((8:Int)=0))) S):ld Q 49 (pB b) (λa=>bld Q 49 #[] λd=>bF .eql 49 a d λe w=>cond e (K t15 w) (ld Q 67 (pB y) (λf=>ld Q 49 (pB b) λb=>cH Q 100 1 #[(0,b)] λc=>call Q 188 #[f,c] λg=>bT .eql 28 g (ci 0) λh=>K2 a d e f b c g h) w)) w:=by
 refine dN k (cE (vs:=evC evZ) kr (UT 6 oo kr kr (Az _) (Az _) λr q=>?_));cases r with
 | true=>exact bc (B (q.1 rfl))
 | false =>
  have f:evC a≠evC evZ:=λe=>by have:=q.2 e;cases this
  refine aD (lK (v:=pB Y.u) L rfl (dN k (qb [evV a] underlying100 (s:=14) kr kr oo rfl oB dc rfl (by
   intro v J;rw[mS J];rfl) λM l j O=>?_)))
  have l:blk M w.heap.size 49 (evC a):=by simpa[Value.cells,evV]using l
  have x:=ae j k k.lt;have E:=h.below j;refine U9 E (VR.one l) (λe H=>by rw[mS H];exact C f) (by show A.length+1<=_;omega) (λn fu' d F t=>aU (D _ _ _ _ _ _ n fu' f d F ((DuS.refl j).trans t) ?_)) λn d N z o=>aU (G _ _ _ _ _ _ n f d z ((Ch.of_below j).trans o λ_ h=>.inl h) ?_)
  .exact x.ch t.ch λm=>g (M9 m)
  .exact x.ch o λm=>g (M9 m)
def zjc{L:Int}(h:DuM w i Y s A fu)(hi:i<6)(hp:PI s.l)(hG:s.l.G.length<=1000000)(hA:s.A.length<990000)(hx:Ak x)(I:A.length<=30000)(al:∀w' Y' e,NoP i s.l x e->DuM w' i Y' s A fu->DuS w w' Y Y'->Y'.X.W=Y.X.W->Y'.p=Y.p/\Y'.u=Y.u->K (.tuple #[evV evZ,ci e]) w')(ai:∀w' Y' fu',eC (mkP i s.l x) s.l=0->sx ((i:Int)+1) s.l x->(fu = -1->fu' = -1)->DuM w' i Y' ⟨eff (mkP i s.l x) s.l,s.A++[mkP i s.l x],s.P⟩ (A++[mkP i s.l x]) fu'->DuS w w' Y Y'->(Y'.X.W=Y.X.W/\(x.r=0->Y'.X.ws=Y.X.ws))->Y'.p=Y.p/\Y'.u=Y.u->K (.tuple #[evV (mkP i s.l x),ci 0]) w')(h8:∀w',eC (mkP i s.l x) s.l=0->sx ((i:Int)+1) s.l x->fu≠-1->DnM w' Y.p Y.u A [mkP i s.l x]->Ch (DF Y) w w'->K (.tuple #[evV evZ,ci 8]) w'):call Q 174 #[pB Y.u,.agg (akC x).toArray,u6 L] K w:=by
 refine ao (goK func174) (Lb (bU λw1 z1 b1 s1=>Me λw2 z2 b2 s2=>bU λn z3 b3 s3=>jj λw4 z4 b4 s4=>?_));have z1:blk w1 w.heap.size 67 [pB Y.u]:=z1;have z3:blk n w2.heap.size 32 [u6 L]:=z3;have ag:Below w2.heap.size w2 w4:=b3.trans (b4.mono b3.size);have af:Below w1.heap.size w1 w4:=b2.trans (ag.mono b2.size);have ad:=b1.trans (af.mono b1.size);have z1:=ae af z1 z1.lt
 have z2:=ae ag z2 z2.lt;have z3:=ae b4 z3 z3.lt;have h4:=h.below ad;have C:=h.lt;refine lK (v:=pB Y.u) z1 rfl (Qb h4 (cB (all:=#[pB w.heap.size,pB w1.heap.size,pB w2.heap.size,pB n.heap.size]) rfl (ao (goK func186) (Jh ?_))));have H:=h4.below (jT _ w4).drew;have t:=z1.drew;have F:=z4.drew;have S:Below w.heap.size w w4.drew:=ad.drew
 have dd:w4.drew.heap.size=w4.heap.size:=rfl;have ah:n.heap.size<w4.heap.size:=z4.lt;have J:w.heap.size<=n.heap.size:=(b1.trans ((b2.trans (b3.mono b2.size)).mono b1.size)).size;have aj:∀{D:oG} {Y5:DuX},DuS w4.drew D Y Y5->∀z,w.heap.size<=z->z<w4.heap.size->z∉DA Y5:=λN z h1 h2 j=>(N.na z j).elim (λj=>by have:=C _ j;omega) λj=>by omega
 have up:∀{D:oG} {Y5:DuX},DuS w4.drew D Y Y5->DuS w D Y Y5:=λN=>(DuS.refl S).trans N;have V:∀{D:oG} {Y5:DuX} {z:Nat} {E:TypeId} {cs:oE},DuS w4.drew D Y Y5->blk w4.drew z E cs->w.heap.size<=z->blk D z E cs:=λN hb hz=>hb.ch N.ch λj=>by have:=C _ (M9 j);omega
 refine ax (λy=>blk y w.heap.size 67 [pB Y.u]/\blk y w1.heap.size 42 (akC x)/\blk y w2.heap.size 32 [u6 L]/\blk y Y.u 105 [pB Y.X.R.p,pB Y.q,.bool false]) ⟨t,z2.drew,z3.drew,H.b⟩ ?_;refine ac (v:=pB Y.u) (λy d _ c=>lK d.1 rfl c) (ac (λy d _ c=>au c) (ac (λy d _ c=>HL c) (ac (v:=pB Y.X.R.p) (λy d _ c=>lK d.2.2.2 rfl c) ?_)))
 refine ac (λy d _ c=>Gs d.2.1 c) (ac (v:=u6 L) (λy d _ c=>lK d.2.2.1 rfl c) ?_)
 -- nothing was made
 have nn:∀{w7:oG} {Y7:DuX} {e:Int},NoP i s.l x e->DuM w7 i Y7 s A fu->DuS w4.drew w7 Y Y7->Y7.X.W=Y.X.W->Y7.p=Y.p/\Y7.u=Y.u->doK n.heap.size K (ci e) w7:=λhn U f e1 e2 =>
  zaT (V f F J) λw8 Z=>al w8 _ _ hn (U.oth Z (aj f _ J ah) (V f F J) dc) ((up f).add (aK (jT _ _) Z J)) e1 e2
 have mm:∀{w7:oG} {Y7:DuX} {x5:Nat} {zf:oD} {fu':Int},eC (mkP i s.l x) s.l=0->sx ((i:Int)+1) s.l x->(fu = -1->fu' = -1)->DuM w7 i Y7 ⟨eff (mkP i s.l x) s.l,s.A++[mkP i s.l x],s.P⟩ (A++[mkP i s.l x]) fu'->DuS w4.drew w7 Y Y7->(Y7.X.W=Y.X.W/\(x.r=0->Y7.X.ws=Y.X.ws))->Y7.p=Y.p/\Y7.u=Y.u->blk w7 x5 49 (evC (mkP i s.l x))->x5≠n.heap.size ->
   fk (doK n.heap.size K) (ks (pB n.heap.size) (ci 0) (pB x5) (.bool (decide ((0:Int)=0))) zf) w7:=λo m g U f e1 e2 ab a =>
  zf9 (V f F J) ab a λw8 Z=>ai w8 _ _ o m g (U.oth Z (aj f _ J ah) (V f F J) dc) ((up f).add (aK (jT _ _) Z J)) e1 e2
 have m8:∀{w7:oG} {x5:Nat} {zf:oD},eC (mkP i s.l x) s.l=0->sx ((i:Int)+1) s.l x->fu≠-1->DnM w7 Y.p Y.u A [mkP i s.l x]->Ch (DF Y) w4.drew w7->blk w7 x5 49 (evC (mkP i s.l x))->x5≠n.heap.size ->
   fk (doK n.heap.size K) (ks (pB n.heap.size) (ci 8) (pB x5) (.bool (decide ((8:Int)=0))) zf) w7:=by
  intro w7 x5 zf o m g d7 c7 ab a;have nF:n.heap.size∉DF Y:=λj=>by have:=C _ (M9 j);omega
  refine zf9 (F.ch c7 nF) ab a λw8 Z=>?_;have c8:Ch [n.heap.size] w7 w8:=Ch.of_oth Z oB;have pu:∀k∈[Y.p,Y.q,Y.u],k∉[n.heap.size]:=λk hk j=>by have:=C k (qj.2 (.inr hk));have:=mS j;omega
  exact h8 w8 o m g (d7.ch c8 (noBy.of (F.ch c7 nF) dc) (pu _ mp1) (pu _ mp3)) (((Ch.of_below S).trans c7 λ_ h=>.inl h).add (aK (jT _ w7) Z J))
 have nz : ¬evC (mkP i s.l x)=evC evZ:=λhe=>by have:=zb8 (r:=true) ⟨λ_=>he,λ_=>rfl⟩;cases this
 have ok:eC (mkP i s.l x) s.l=0->dI (mkP i s.l x)=true/\vC (mkP i s.l x):=λo=>⟨((qn hp).1 o).may,DZ hp hx⟩
 refine⟨?_,?_⟩
 .refine zcL H.rp hp hi hG oo λD X5 s5 v ap r5 am ar W5=>?_;obtain⟨T,N⟩:=H.step ap r5;rcases am with⟨rfl,e,hn,rfl⟩|⟨o,m,rfl,rfl⟩
  .refine ax (λ_=>True) trivial (ac (λy _ _ c=>bK c) (ac (λy _ _ c=>bJ c) ?_));refine jj λw6 z6 b6 s6=>aI trivial (fG (e':=evZ) z6 λw7 z7 M=>aI trivial ?_);have B:Below D.heap.size D w7:=aK b6 M oA;have f:=N.trans (.refl B)
   exact Xp (T.below B) z7 (V f t oA) (λj=>by have:=T.lt _ j;omega) I (λ_=>nn hn (T.below B) f W5 ⟨rfl,rfl⟩) (λa=>qI rfl a) (λ_ _ _ _ _ _ _ _ a=>qI rfl a) λ_ _ _ _ _ _ _ a=>qI rfl a
  .refine ax (λ_=>True) trivial (ac (λy _ _ c=>bK c) (ac (λy _ _ c=>bJ c) ?_));refine jj λw6 z6 b6 s6=>aI trivial (fG (e':=mkP i s.l x) z6 λw7 z7 M=>aI trivial ?_);have B:Below D.heap.size D w7:=aK b6 M oA;have f:=N.trans (.refl B);have aw:=N.ch.size
   refine Xp (K:=doK n.heap.size K) (t15:=ci 0) (T.below B) z7 (V f t oA) (λj=>by have:=T.lt _ j;omega) I (λa=>qI a nz) (λ_=>ok o) (λ_ _ _ _ _ _ w8 fu' _ g aa t8 x8=>?_) λ_ _ _ _ _ _ w8 _ g d8 c8 x8=>?_
   .exact mm o m g aa (f.trans t8) ⟨W5,λa=>ar a o⟩ ⟨rfl,rfl⟩ x8 oo
   .exact m8 o m g d8 (f.ch.trans c8 f.nf) x8 oo
 .refine jj λD z5 b5 s5=>aI ⟨ae b5 t t.lt,ae b5 z2.drew z2.drew.lt,ae b5 z3.drew z3.drew.lt,(H.below b5).b⟩ ?_;have T:=H.below b5;refine zcL T.rp hp hi hG oo λw6 X6 s6 v aq r6 an av W6=>?_;obtain⟨h6,t6⟩:=T.step aq r6;have ak:=(DuS.refl b5).trans t6
  have n5:w4.drew.heap.size∉DA {Y with X:=X6}:=λj=>(t6.na _ j).elim (λj=>by have:=C _ j;omega) λj=>by omega
  have O:=z5.ch t6.ch λj=>by have:=C _ (M9 j);omega
  rcases an with⟨rfl,e,hn,rfl⟩|⟨o,m,rfl,rfl⟩
  .refine ax (λ_=>True) trivial (ac (λy _ _ c=>bK c) (ac (λy _ _ c=>bJ c) ?_));refine fG (e':=evZ) O λw7 z7 M=>aI trivial ?_;have U:=h6.oth M n5 O dc;have f:=ak.add (aK (jT _ w6) M oA)
   exact Xp U z7 (V f t oA) n5 I (λ_=>nn hn U f W6 ⟨rfl,rfl⟩) (λa=>qI rfl a) (λ_ _ _ _ _ _ _ _ a=>qI rfl a) λ_ _ _ _ _ _ _ a=>qI rfl a
  .refine ax (λ_=>True) trivial (ac (λy _ _ c=>bK c) (ac (λy _ _ c=>bJ c) ?_));refine fG (e':=mkP i s.l x) O λw7 z7 M=>aI trivial ?_;have U:=h6.oth M n5 O dc;have f:=ak.add (aK (jT _ w6) M oA)
   refine Xp (K:=doK n.heap.size K) (t15:=ci 0) U z7 (V f t oA) n5 I (λa=>qI a nz) (λ_=>ok o) (λ_ _ _ _ _ _ w8 fu' _ g aa t8 x8=>?_) λ_ _ _ _ _ _ w8 _ g d8 c8 x8=>?_
   .exact mm o m g aa (f.trans t8) ⟨W6,λa=>av a o⟩ ⟨rfl,rfl⟩ x8 oo
   .exact m8 o m g d8 (f.ch.trans c8 f.nf) x8 oo
def ZX{n p:Nat}(r:KD w)(h1:1<=n)(h6:n<=6)(hi:i<6){f:List UInt8}(Z:DK w p ⟨f,.no,false, -1⟩)(hL:tX f=(iI A,(aO (iI A)).length))(m:f.take (aO (iI A)).length=aO (iI A))(s:p≠1)(hm:∀e∈A,dI e=true/\vC e)(J:okL eff OK (pl0 n) A)(hA:A.length<=900000)(hK:∀w' Y,Y.p=p->DuM w' i Y ⟨je eff (pl0 n) A,A,gp0⟩ A (-1)->Y.X.ws=[]->Y.X.W=[]->Ch [p] w w'->(∀k∈DF Y,k=p\/w.heap.size<=k)->(∀k∈DA Y,k=1\/k=p\/w.heap.size<=k)->K (.tuple #[pB Y.u,ci 0]) w'):call Q 14 #[iv (n:Nat),iv ((i:Int)+1),ptr p] K w:=by
 have ab:=Z.lt;have ac:1<w.heap.size:=r.lt;refine ao (goK func14) (Vb (Le (aD (zgD r h1 h6 hi λw1 X r1 B U C T=>bK (bJ (bo (aB oB ?_)))))));have ad:=C.size;have H:(aO (iI A)).length<=f.length:=by rw[<-m,qA];exact Nat.min_le_right _ _
 refine ziq (Z.below C) hL H λw2 q a nn c vs G L2 S L q2=>TQ (TR (TS (RC (bo (aB oB ?_)))));rw[m]at S;have L:JK w2 p q (aO (iI A)) (-1):=⟨S,L⟩
 have ae:=G.size;have r2:=r1.ch G λk d g=>by rw[mS g]at d;exact(B _ d).elim s λg=>by omega
 have I:A.length=nn:=by have:=L2.rbb.lenL;simpa[iI]using this
 refine zbX L2.rbb hm oo λw3 ra rc t y=>bK (bJ (bH (eK ?_)));have r3:=r2.below y;have M:=L.below y;have ag:=y.size;refine zcW r3 (GI n) (by show 0+A.length<=999000;omega) J (zcB t I) (λb o ha g=>?_) λw4 z j O=>bo (cA (aB oB ?_))
 .have aa:=(jS t b (by rw[ha];rfl)).1
  have:=r2.lt _ (Jx g)
  omega
 have N:∀k∈[p,q],k<w3.heap.size/\k∉AF X:=by
  simp only[oO,oR,or_false];rintro k (rfl|rfl)
  .exact⟨M.1.lt,λg=>(B _ g).elim s λg=>by omega⟩
  .exact⟨M.2.lt,λg=>by have:=r1.lt _ g;omega⟩
 have j4:=M.ch j.ch (λk E a b V=>r3.ty b (by simp only[oO,oR,or_false]at V;rcases V with rfl|rfl|rfl<;>decide)) (λg=>(N p oB).2 (Jx g)) λg=>(N q oB).2 (Jx g);refine cE (vs:=[pB X.R.p,pB q,.bool false]) kr (bU λw5 P D s5=>?_);have P:=cZ P
 have ah:=j.ch.size;have l4:=O.lt;have e0:(s0R n).A++A=A:=oV _;rw[e0]at O;have F:Ch [p] w w3:=((Ch.of_below C).trans G λ_ h=>.inl h).add (y.mono oo);have l:Ch [p] w w4:=F.trans j.ch λx hx=>.inr (U x hx)
 refine hK w5 ⟨{X with Rw:=z},p,q,w4.heap.size⟩ rfl ⟨P,O.below D,j4.below D,λk d hf=>?_⟩ T.1 T.2 (l.add (D.mono l.size)) (λk d=>?_) λk d=>?_
 .simp only[oO,oR,or_false]at d;have v:k=p\/k=q->False:=λe=>by
   obtain⟨x1,x2⟩:=N k (by simpa using e);exact(j.af _ hf).elim x2 λg=>by omega
  rcases d with d|d|d
  .exact v (.inl d)
  .exact v (.inr d)
  .have:=l4 k hf
   rw[d]at this;exact qW _ this
 .rcases rH.1 d with d|d
  .exact .inr ((j.new k d).elim (U k) λg=>by omega)
  .simp only[oO,oR,or_false]at d;rcases d with rfl|rfl|rfl
   .exact .inl rfl
   .exact .inr oo
   .exact .inr (by show w.heap.size<=w4.heap.size;omega)
 .rcases qj.1 d with d|d
  .rcases j.af k d with g|g
   .exact(B k g).imp id .inr
   .exact .inr (.inr oo)
  .simp only[oO,oR,or_false]at d;rcases d with rfl|rfl|rfl
   .exact .inr (.inl rfl)
   .exact .inr (.inr oo)
   .exact .inr (.inr (by show w.heap.size<=w4.heap.size;omega))
end
end
def aV(r0 gK kA s5 jl w_8 C5 C6 C7 F0 F1 F2 H9 I0 I1:oF)(zf:oD):=r0::gK::zf 2::zf 3::kA::s5::jl::zf 7::w_8::zT zf 9 25 (C5::C6::C7::zT zf 37 25 (F0::F1::F2::zT zf 65 36 (H9::I0::I1::zT zf 104 42 ([]))))
def eb(K:KV):KE:=kZ f190 (b1 127) K
def ug(K:KV):KE:=aj Q (cd f190 (b1 506)) (eb K) (xx xf (eb K) 0) (rk f190 K)
def gC(K:KV)(B1:KE):KE:=kY f190 (b1 8103) B1 (xx xf (eb K) 0) K
def mD(K:KV)(B1:KE):KE:=aj Q (cd f190 (b1 8102)) (gC K B1) (xx xf (eb K) 0) (rk f190 K)
def dJ(K:KV):KE:=kZ f190 (b1 255) K
def qf(K:KV):KE:=aj Q (cd f190 (b1 1018)) (dJ K) (xx xf (dJ K) 2) (rk f190 K)
def gD(K:KV)(B1:KE):KE:=kY f190 (b1 16295) B1 (xx xf (dJ K) 2) K
def mE(K:KV)(B1:KE):KE:=aj Q (cd f190 (b1 16294)) (gD K B1) (xx xf (dJ K) 2) (rk f190 K)
def dK(K:KV):KE:=kZ f190 (b1 511) K
def qg(K:KV):KE:=aj Q (cd f190 (b1 2042)) (dK K) (xx xf (dK K) 4) (rk f190 K)
def gF(K:KV)(B1:KE):KE:=kY f190 (b1 32679) B1 (xx xf (dK K) 4) K
def mF(K:KV)(B1:KE):KE:=aj Q (cd f190 (b1 32678)) (gF K B1) (xx xf (dK K) 4) (rk f190 K)
abbrev AM(K:KV)(hA0:KE)(r0 gK:oF)(w:oG):Prop :=
  bT .eql 93 r0 (.pointer none) (λa w=>cond a (K cN w) (bj r0 (λb=>aq Q 119 b 1 λc=>ld Q 107 c λd=>call Q 44 #[d] λe=>alc Q 38 λf=>sto Q 38 f e λ_=>ld Q 38 f λg=>call Q 199 #[g] λh=>bj r0 λi=>aq Q 119 i 0 λj=>ld Q 3 j λk=>call Q 200 #[h,k] λl=>un Q .not l λm w=>cond m (K cN w) (bj r0 (λn=>aq Q 119 n 5 λo=>ld Q 116 o λp=>call Q 208 #[p] λr=>lN 311 r λs=>hA0 (aV r0 gK cN f h uu r s (ci 0) uu uu uu uu uu uu (zV zu 14 [r0,a,r0,b,c,d,e,g,h,h,r0,i,j,k,l,m,r0,n,o,p]))) w)) w)) w
section
variable {K:KV}{r0 gK kA s5 jl w_8 C5 C6 C7 F0 F1 F2 H9 I0 I1:oF}  
def KM{K:KV}(h:AM K (aj Q (cd f190 (b1 506)) (aj Q (cd f190 (b1 127)) (rk f190 K) (λ_ _ _=>False) (rk f190 K)) (λi=>@Bool.rec (λ_=>KE) ((λ_ _ _=>False) i) (aj Q (cd f190 (b1 127)) (rk f190 K) (λ_ _ _=>False) (rk f190 K)) (Nat.beq i 0)) (rk f190 K)) Z H w):aj Q (cd f190 []) (rk f190 K) xf (rk f190 K) (aV Z H uu uu uu uu uu uu uu uu uu uu uu uu uu zu) w:=Eq.mp kr h
def Jt{K:KV}(h:AM K (ug K) Z H w):Gives Q 190 #[Z,H] w K:=aw func190 kr (Eq.mp (qH (λc=>aj Q c (rk f190 K) xf (rk f190 K) (aV Z H uu uu uu uu uu uu uu uu uu uu uu uu uu zu) w) (by kernel_rfl:(cd f190 [])=(cd f190 []))) (KM h))
def GS(Inv:oF->oG->Prop)(μ:oF->oG->Nat)(g:Inv C7 w)(j:∀(a:oF) (d:oD) (w:oG) (m:Nat),Inv a w->m=μ a w ->
  lS a C6 (λb w=>cond b (mD K (λb S=>(Inv (gd b 36) S)/\((μ (gd b 36) S)<m)) (aV r0 gK kA s5 jl (d 8) C5 C6 a F0 F1 F2 H9 I0 I1 (zV d 37 [b])) w) (eb K (aV r0 gK kA s5 jl (d 8) C5 C6 a F0 F1 F2 H9 I0 I1 (zV d 37 [b])) w)) w):ug K (aV r0 gK kA s5 jl w_8 C5 C6 C7 F0 F1 F2 H9 I0 I1 zf) w:=by
 refine aZ (cd f190 (b1 1012)) (zr [(8,1),(36,26)]) kr (vP [36] Inv) (vQ [36] μ) g ?_;intro e f i;have h:=j _ (zM zf (gd e) (zr [(8,1),(36,26)])) f _ i rfl;refine Eq.mp (qH (λc=>aj Q c _ _ _ _ f) (by kernel_rfl:(rep [1,1,0] (cd f190 (b1 8102)) (cd f190 (b1 1012)))=(cd f190 (b1 1012)))) ?_;revert h;delta mD gC;generalize (cd f190 (b1 8102))=xc0;generalize (eb K)=qc0
 exact mpF
def GO(h:bv Q 311 C5 C7 (λa=>ld Q 276 a λb=>alc Q 276 λc=>sto Q 276 c b λ_ w=>aL (λS w=>hN S r0 λd=>hF S 119 d 1 λe=>hL S 107 e λf=>hN S r0 λg=>hF S 119 g 0 λh=>hL S 3 h λi=>hF S 276 c 0 λj=>hL S 32 j λk=>hF S 276 c 1 λl=>hL S 2 l λm=>call Q 154 #[f,i,k] (λn=>bw S λS w=>hld S (bF .geq 2 n m) λo=>cond o (aL (λS w=>hN S r0 λp=>hF S 119 p 5 λr=>hL S 116 r λs=>hF S 276 c 0 λt=>hL S 32 t λu=>call Q 158 #[s,u] (λv=>gC K B1 (aV r0 gK kA s5 jl c C5 C6 C7 F0 F1 F2 H9 I0 I1 (zV zf 38 [a,b,r0,d,e,f,r0,g,h,i,j,k,n,l,m,o,r0,p,r,s,t,u,v]))) w) w.drew) (gC K B1 (aV r0 gK kA s5 jl c C5 C6 C7 F0 F1 F2 H9 I0 I1 (zV zf 38 [a,b,r0,d,e,f,r0,g,h,i,j,k,n,l,m,o])) w)) w) w.drew) w):mD K B1 (aV r0 gK kA s5 jl w_8 C5 C6 C7 F0 F1 F2 H9 I0 I1 zf) w:=by delta mD;revert h;generalize (gC K B1)=qc0;generalize (eb K)=qc1;exact mpF
def GW(h:lN 24 jl (λa=>qf K (aV r0 gK kA s5 jl w_8 C5 C6 C7 jl a (ci 0) H9 I0 I1 zf)) w):eb K (aV r0 gK kA s5 jl w_8 C5 C6 C7 F0 F1 F2 H9 I0 I1 zf) w:=mpK h
def yc(h:nC C7 (λa=>B1 (aV r0 gK kA s5 jl w_8 C5 C6 a F0 F1 F2 H9 I0 I1 (zV zf 61 [a]))) w):gC K B1 (aV r0 gK kA s5 jl w_8 C5 C6 C7 F0 F1 F2 H9 I0 I1 zf) w:=by delta gC;revert h;generalize (eb K)=qc0;exact mpF
def GU(Inv:oF->oF->oG->Prop)(μ:oF->oF->oG->Nat)(i:Inv kA F2 w)(k:∀(a b:oF) (f:oD) (w:oG) (m:Nat),Inv a b w->m=μ a b w ->
  lS b F1 (λc w=>cond c (mE K (λd S=>(Inv (gd d 4) (gd d 64) S)/\((μ (gd d 4) (gd d 64) S)<m)) (aV r0 gK a s5 jl w_8 C5 C6 C7 F0 F1 b H9 I0 I1 (zV f 65 [c])) w) (dJ K (aV r0 gK a s5 jl w_8 C5 C6 C7 F0 F1 b H9 I0 I1 (zV f 65 [c])) w)) w):qf K (aV r0 gK kA s5 jl w_8 C5 C6 C7 F0 F1 F2 H9 I0 I1 zf) w:=by
 refine aZ (cd f190 (b1 2036)) (zr [(4,1),(10,1),(64,32)]) kr (vP [4,64] Inv) (vQ [4,64] μ) i ?_;intro e g j;have h:=k _ _ (zM zf (gd e) (zr [(4,1),(10,1),(64,32)])) g _ j rfl;refine Eq.mp (qH (λc=>aj Q c _ _ _ _ g) (by kernel_rfl:(rep [1,1,0] (cd f190 (b1 16294)) (cd f190 (b1 2036)))=(cd f190 (b1 2036)))) ?_;revert h;delta mE gD;generalize (cd f190 (b1 16294))=xc0
 generalize (dJ K)=qc0;exact mpF
def GP(h:bv Q 24 F0 F2 (λa=>ld Q 3 a λb=>bj r0 λc=>aq Q 119 c 0 λd=>ld Q 3 d λe=>bF .neq 3 b e λf w=>cond f (aL (λS w=>hN S r0 λg=>hF S 119 g 0 λh=>hL S 3 h λi=>hF S 38 s5 2 λj=>hL S 34 j λk=>hN S r0 λl=>hF S 119 l 4 λm=>hL S 114 m λn=>hN S r0 λo=>hF S 119 o 2 λp=>hL S 110 p λr=>call Q 209 #[n,b,r,ci 16] (λs=>bw S λS w=>hld S (bld Q 268 #[(0,cb 1),(1,i),(2,b),(3,k),(4,s)]) λt=>cH Q 83 1 #[(0,t)] (λu=>aL λ_=>blt Q .append #[83,83] 83 #[false,false] #[kA,u] λv=>aL λ_=>gD K B1 (aV r0 gK v s5 jl w_8 C5 C6 C7 F0 F1 F2 H9 I0 I1 (zV (zV zf 10 [b]) 66 [a,b,b,r0,c,d,e,f,kA,r0,g,h,i,b,j,k,r0,l,m,n,b,r0,o,p,r,s,t,u,v]))) w) w) w.drew) (gD K B1 (aV r0 gK kA s5 jl w_8 C5 C6 C7 F0 F1 F2 H9 I0 I1 (zV (zV zf 10 [b]) 66 [a,b,b,r0,c,d,e,f])) w)) w):mE K B1 (aV r0 gK kA s5 jl w_8 C5 C6 C7 F0 F1 F2 H9 I0 I1 zf) w:=by delta mE;revert h;generalize (gD K B1)=qc0;generalize (dJ K)=qc1;exact mpF
def GX(h:bj r0 (λa=>aq Q 119 a 5 λb=>ld Q 116 b λc=>call Q 210 #[c,gK] λd=>lN 311 d λe=>qg K (aV r0 gK kA s5 jl w_8 C5 C6 C7 F0 F1 F2 d e (ci 0) (zV zf 96 [r0,a,b,c,gK]))) w):dJ K (aV r0 gK kA s5 jl w_8 C5 C6 C7 F0 F1 F2 H9 I0 I1 zf) w:=mpK h
def yd(h:nC F2 (λa=>B1 (aV r0 gK kA s5 jl w_8 C5 C6 C7 F0 F1 a H9 I0 I1 (zV zf 95 [a]))) w):gD K B1 (aV r0 gK kA s5 jl w_8 C5 C6 C7 F0 F1 F2 H9 I0 I1 zf) w:=by delta gD;revert h;generalize (dJ K)=qc0;exact mpF
def GV(Inv:oF->oF->oG->Prop)(μ:oF->oF->oG->Nat)(i:Inv kA I1 w)(k:∀(a b:oF) (f:oD) (w:oG) (m:Nat),Inv a b w->m=μ a b w ->
  lS b I0 (λc w=>cond c (mF K (λd S=>(Inv (gd d 4) (gd d 103) S)/\((μ (gd d 4) (gd d 103) S)<m)) (aV r0 gK a s5 jl w_8 C5 C6 C7 F0 F1 F2 H9 I0 b (zV f 104 [c])) w) (dK K (aV r0 gK a s5 jl w_8 C5 C6 C7 F0 F1 F2 H9 I0 b (zV f 104 [c])) w)) w):qg K (aV r0 gK kA s5 jl w_8 C5 C6 C7 F0 F1 F2 H9 I0 I1 zf) w:=by
 refine aZ (cd f190 (b1 4084)) (zr [(4,1),(12,2),(103,42)]) kr (vP [4,103] Inv) (vQ [4,103] μ) i ?_;intro e g j;have h:=k _ _ (zM zf (gd e) (zr [(4,1),(12,2),(103,42)])) g _ j rfl;refine Eq.mp (qH (λc=>aj Q c _ _ _ _ g) (by kernel_rfl:(rep [1,1,0] (cd f190 (b1 32678)) (cd f190 (b1 4084)))=(cd f190 (b1 4084)))) ?_;revert h;delta mF gF
 generalize (cd f190 (b1 32678))=xc0;generalize (dK K)=qc0;exact mpF
def GQ(h:bv Q 311 H9 I1 (λb=>ld Q 276 b λc=>alc Q 276 λa=>sto Q 276 a c λ_ w=>aL (λS w=>hL S 38 s5 λd=>hN S r0 λe=>hF S 119 e 0 λf=>hL S 3 f λg=>hF S 276 a 0 λh=>hL S 32 h λi=>call Q 211 #[d,g,i] (λj=>aL λ_=>bT .neq 3 j (ci 0) λk w=>cond k (aL (λS w=>hN S r0 λl=>hF S 119 l 0 λm=>hL S 3 m λn=>hF S 38 s5 2 λo=>hL S 34 o λp=>hF S 276 a 0 λr=>hL S 32 r λs=>hF S 276 a 1 λt=>hL S 2 t λu=>hN S r0 λv=>hF S 119 v 1 λx=>hL S 107 x λy=>hN S r0 λz=>hF S 119 z 0 λA=>hL S 3 A λB=>hF S 276 a 0 λC=>hL S 32 C λD=>call Q 154 #[y,B,D] (λE=>bw S λS w=>hld (λ_=>True) (bF .sub 2 u E) λF=>hld S (bld Q 268 #[(0,cb 2),(1,n),(2,j),(3,p),(5,s),(6,F)]) λG=>cH Q 83 1 #[(0,G)] (λw=>aL λ_=>blt Q .append #[83,83] 83 #[false,false] #[kA,w] λH=>aL λ_=>gF K B1 (aV r0 gK H s5 jl w_8 C5 C6 C7 F0 F1 F2 H9 I0 I1 (zV (zV zf 12 [a,j]) 105 [b,c,d,r0,e,f,g,h,i,j,j,k,kA,r0,l,m,n,j,o,p,r,s,t,u,r0,v,x,y,r0,z,A,B,C,D,E,F,G,w,H]))) w) w) w.drew) (gF K B1 (aV r0 gK kA s5 jl w_8 C5 C6 C7 F0 F1 F2 H9 I0 I1 (zV (zV zf 12 [a,j]) 105 [b,c,d,r0,e,f,g,h,i,j,j,k])) w)) w) w.drew) w):mF K B1 (aV r0 gK kA s5 jl w_8 C5 C6 C7 F0 F1 F2 H9 I0 I1 zf) w:=by delta mF;revert h;generalize (gF K B1)=qc0;generalize (dK K)=qc1;exact mpF
def GY(h:K kA w):dK K (aV r0 gK kA s5 jl w_8 C5 C6 C7 F0 F1 F2 H9 I0 I1 zf) w:=mpK h
def ye(h:nC I1 (λa=>B1 (aV r0 gK kA s5 jl w_8 C5 C6 C7 F0 F1 F2 H9 I0 a (zV zf 144 [a]))) w):gF K B1 (aV r0 gK kA s5 jl w_8 C5 C6 C7 F0 F1 F2 H9 I0 I1 zf) w:=by delta gF;revert h;generalize (dK K)=qc0;exact mpF
end
attribute [irreducible] eb ug gC mD dJ qf gD mE dK qg gF mF
def FU{K:KV}(h:call Q 219 #[Z,H] (λa=>bT .geq 3 a (ci 0) K) w):Gives Q 200 #[Z,H] w K:=aw func200 kr (mpK h)
def rB(s0 v1 s2 i5 A0 A1:oF)(zf:oD):=s0::v1::s2::zf 3::zf 4::i5::zf 6::A0::A1::zT zf 9 10 ([])
def gG(K:KV):KE:=kZ f219 [1,1] K
def qh(K:KV):KE:=aj Q (cd f219 [1,0,1,0]) (gG K) (xx xf (gG K) 0) (rk f219 K)
section
variable {K:KV}{s0 v1 s2 i5 A0 A1:oF}  
def Jv{K:KV}(h:lN 24 H (λa=>qh K (rB H Z uu uu a (ci 0) (zV (zV zu 4 [ci 0]) 6 [H]))) w):Gives Q 219 #[H,Z] w K:=aw func219 kr (mpK h)
def Ha(Inv:oF->oG->Prop)(μ:oF->oG->Nat)(f:Inv A1 w)(i:∀(a:oF) (d:oD) (w:oG) (m:Nat),Inv a w->m=μ a w ->
  lS a A0 (λb w=>cond b (bv Q 24 s0 a (λb=>ld Q 3 b λb=>bF .eql 3 v1 b λb w=>cond b (K a w) (nC a (λa w=>(Inv a w)/\((μ a w)<m)) w)) w) (gG K (rB s0 v1 s2 (d 5) A0 a (zV d 9 [b])) w)) w):qh K (rB s0 v1 s2 i5 A0 A1 zf) w:=by refine aZ (cd f219 (b1 52)) (zr [(4,2),(8,11)]) kr (vP [8] Inv) (vQ [8] μ) f ?_;intro e j g;have h:=i _ (zM zf (gd e) (zr [(4,2),(8,11)])) j _ g rfl;revert h;generalize (gG K)=qc0;exact mpF
def Hb(h:K (ci (-1)) w):gG K (rB s0 v1 s2 i5 A0 A1 zf) w:=mpK h
end
attribute [irreducible] gG qh
section
open Go.ChangeMaps
abbrev MGT:=MG×(Option Addr×Nat)
def tmC(x:MGT):oE:=[kv8 x.1.k,iv ((x.1.f:Int)+1),iv ((x.1.t:Int)+1)]++(((List.range 6).map λk=>u6 (x.1.V.getD k 0))++[.slice x.2.1 x.1.L.length x.2.2,u6 x.1.n,iv x.1.a])
def eF(x:MGT):(tmC x).length=12:=by simp[tmC]
def PV{x:MGT}(h:x.1.V.length=6):tmC x=mgC x.1.k ((x.1.f:Int)+1) ((x.1.t:Int)+1) x.1.V (.slice x.2.1 x.1.L.length x.2.2) x.1.n x.1.a:=by obtain⟨⟨k,f,t,V,n,a,L⟩,b,c⟩:=x;obtain⟨_,_,_,_,_,_,rfl⟩:=Bn h;rfl
def vY(x:MGT):∀v∈tmC x,v.oneCell'=true:=by intro v a;unfold tmC at a;simp only[oU,oO,oR,or_false,qT]at a;rcases a with(rfl|rfl|rfl)|(⟨_,_,rfl⟩|rfl|rfl|rfl)<;>rfl
def Sb:(Tryz.prog.info? 268).map (λi=>(i.zero,i.size,i.bytes))=some (some (.agg (mgC 0 0 0 (List.replicate 6 0) (.slice none 0 0) 0 0).toArray),12,112):=by kernel_rfl
structure TMok(k i:Nat) (s:RS) (x:MGT):Prop where
 f:x.1.f=i
 t:x.1.t<k
 ne:x.1.t≠i
 V:x.1.V=s.l.V
 is:(x.1.k=1/\x.1.n=0/\x.1.a=0/\∃v,s.P[x.1.t]? = some v/\x.1.L=tl s.A v)\/(x.1.k=2/\x.1.L=[]/\x.2.1=none/\x.2.2=0/\x.1.n≠0/\1<=x.1.a/\x.1.a<=Ca)
structure TMk(B:Nat) (w:oG) (x:MGT):Prop where
 vr:VR w x.2.1 x.1.L.length x.2.2 x.1.L
 ev:∀b o,x.2.1=some ⟨b,o,none⟩->B<=b/\∃cs,blk w b 49 cs
def VR.kp{n:Nat}{L:List EV}(h:VR w a n c L)(e:∀b o,a=some ⟨b,o,none⟩->S.heap[b]? = w.heap[b]?):VR S a n c L :=
 ⟨h.len,h.some_,λi x g b o d j u f=>by rw[World.cell?_of_block (e b o d)];exact h.cell i x g b o d j u f⟩
def TMk.kp{B:Nat}{x:MGT}(h:TMk B w x)(d:∀b cs,blk w b 49 cs->S.heap[b]? = w.heap[b]?):TMk B S x :=
 ⟨h.vr.kp λb o c=>by obtain⟨_,cs,a⟩:=h.ev b o c;exact d b cs a,λb o c=>by
  obtain⟨e,cs,a⟩:=h.ev b o c;exact⟨e,cs,a.kp (d b cs a)⟩⟩
def TMk.below{B:Nat}{x:MGT}(h:TMk B w x)(b:Below w.heap.size w S):TMk B S x:=h.kp λk c a=>b.block k a.lt
def TMk.grow{B n:Nat}{x:MGT}{v:oF}(h:TMk B w x)(j:w.ownsRow B' 268 12 v n xs)(i:w.grownBy S v.ownBlock):TMk B S x:=h.kp λk l a=>i.block k a.lt λe=>by
 rcases j.2 with⟨b,_⟩|⟨g,c,d,b,_,f,_⟩
 .rw[b]at e;cases e
 .rw[b]at e;simp only[Value.ownBlock,qD]at e;subst e;unfold blk at a;rw[f]at a;simp only[qD,Obj.cells.injEq]at a;exact qI a.2.1 dc
def zcA{B n:Nat}{L:List EV}(h:w.ownsRow B 49 14 (.slice a n c) n (L.flatMap evC))(m:L.length=n):VR w a n c L/\∀b o,a=some ⟨b,o,none⟩->B<=b/\∃cs,blk w b 49 cs:=by
 refine⟨⟨m,λt=>?_,λi x q b o d j u p=>?_⟩,λb o d=>?_⟩
 .obtain⟨g,e,d,l⟩:=iM h t;exact⟨g,0,d⟩
 .have A:=(gS q).1;obtain⟨g,e,f,l⟩:=iM h oo;rw[d]at f;cases f;have z:j<14:=(gS p).1
  have:=l.cell (s:=14) (enc:=evC) (λ_=>rfl) m q z
  rw[l.blk.cell,oK,this];exact p
 .rcases h.2 with⟨k,_⟩|⟨g,r,e,k,v,y,_⟩
  .simp only[Value.slice.injEq]at k;rw[k.1]at d;cases d
  .simp only[Value.slice.injEq]at k;rw[k.1]at d;cases d;exact⟨v,e.toList,by unfold Go.Proofs.YtgohpbmmcgenpaaGreatDoor.blk;rw[y]⟩
def zgf{I L:List Bool}{q:Nat}(h:(pF I L 6)[q]? = some v):∃t:Nat,v=(t:Int)+1/\t<6/\I.getD t false=true/\L.getD t false=false:=by have a:=mO h;unfold pF at a;simp only[qT,qU,jQ,oM,Bool.not_eq_true']at a;obtain⟨t,⟨b,c,d⟩,rfl⟩:=a;exact⟨t,rfl,b,c,d⟩
def zem(I L:List Bool):(pF I L 6).length<=6:=by unfold pF;rw[oY];exact qR (List.length_filter_le _ _) oB
def zjr{l:PL}{j:Int}(h:Oi l ((i+1:Nat)) j):∃t:Nat,j=(t:Int)+1/\t<6/\t≠i:=by obtain⟨a,b,c,d,_⟩:=h;exact⟨(j-1).toNat,by omega,by omega,by omega⟩
section
variable  {K:KV}  {X:RpX}{s:RS}
def zja{B n:Nat}(u:ON w B a n c A)(E:A.length=n)(F:n<=1000)(h:K (.bool (decide (x∈A))) w):call Q 200 #[.slice a n c,iv x] K w:=by
 refine ao (goK func200) (FU (ao (goK func219) (Jv (bM underlying24 ?_))));refine Ha (Inv:=λi z=>∃q:Nat,i=iv (q:Nat)/\q<=n/\(x∈A↔x∈A.drop q)/\w=z) (μ:=λi _=>n-(intOf i).toNat) ⟨0,rfl,qG _,by simp,rfl⟩ ?_;rintro _ C _ H ⟨q,rfl,G,b,rfl⟩ k;rcases Nat.lt_or_ge q n with g|g
 rotate_left
 .rw[oS oo]at b;refine aW (aB oo (Hb (cJ ?_)));rw[qE (by omega : ¬(-1:Int)≥0)];rwa[qE (λj=>by cases b.1 j)]at h
 obtain⟨D,e,t,m⟩:=iM u oo;have l:A[q]? = some A[q]:=gE oo;have f:A[q]∈A:=List.getElem_mem _;rw[List.drop_eq_getElem_cons oo]at b;generalize A[q]=y at l b f;have o:e[q]? = some (iv y):=by
  have p:=m.take;have r:(e.take (n*1))[q]? = some (iv y):=by rw[p,qC,l];rfl
  rwa[jN oo]at r
 rw[t];refine aW (aG oo (gO underlying24 (s:=1) kf oo oo (lK (v:=iv y) m.blk (by rw[oQ,oK,Nat.mul_one];exact o) (aU ?_))));by_cases d:x=y
 .rw[qF (d ▸ f)]at h;exact aG d (cJ (by rw[qF oo];exact h))
 .refine aB d (aY oo oo ⟨⟨q+1,qH iv (by push_cast;rfl),g,b.trans ⟨λj=>(oO.1 j).resolve_left d,oH _⟩,rfl⟩,?_⟩);rw[k];show n-((q:Int)+1).toNat<n-(q:Int).toNat;omega
def zf3{x:Int×Int}{K2:oF->KV}(h:∀S,blk S w.heap.size 276 (wnC x)->Below w.heap.size w S->K2 (pB w.heap.size) undef S):alc Q 276 (λp=>sto Q 276 p (.agg (wnC x).toArray) (K2 p)) w:=by
 refine cD (z:=.agg (wnC (0,0)).toArray) kr λd a b g=>?_;have a:=cZ a
 refine fY (n:=2) (vs:=wnC x) kr rfl a (by show 0+2<=2;omega) (Wm x) λe f c=>?_;exact h e f (aK b c oA)
def zj2{f t:Int}{V:List Int}{n:Nat}(b:V.length=6)(h:K (.agg (mgC 1 f t V (.slice a n c) 0 0).toArray) w):bld Q 268 #[(0,cb 1),(1,iv f),(2,iv t),(3,.agg (vCs V).toArray),(4,.slice a n c)] K w:=by obtain⟨_,_,_,_,_,_,rfl⟩:=Bn b;exact cE kr h
def zj3{f t n:Int}{V:List Int}(a:V.length=6)(h:K (.agg (mgC 2 f t V (.slice none 0 0) n x).toArray) w):bld Q 268 #[(0,cb 2),(1,iv f),(2,iv t),(3,.agg (vCs V).toArray),(5,u6 n),(6,iv x)] K w:=by obtain⟨_,_,_,_,_,_,rfl⟩:=Bn a;exact cE kr h
end
end
def Gh(a2 b3 i5:oF)(zf:oD):=zf 0::zf 1::a2::b3::zf 4::i5::zT zf 6 74 ([])
def Gi(a2 b3:oF)(zf:oD):=zf 0::zf 1::a2::b3::zT zf 4 76 ([])
def Gj(a2 b3 i6:oF)(zf:oD):=zf 0::zf 1::a2::b3::zf 4::zf 5::i6::zT zf 7 73 ([])
def Gk(zf:oD):=zT zf 0 80 ([])
def lw(K:KV):KE:=kZ f10 [1,1,1] K
def vw(K:KV):KE:=aj Q (cd f10 (b1 58)) (lw K) (xx xf (lw K) 0) (rk f10 K)
def lC(K:KV):KE:=kZ f10 [1,1,1,1] K
def vx(K:KV):KE:=aj Q (cd f10 (b1 122)) (lC K) (xx xf (lC K) 2) (rk f10 K)
section
variable {K:KV}{a2 b3 i5 i6:oF}  
def QS{K:KV}(h:box Q 38 Z (λe=>box Q 38 H λf=>aq Q 38 e 0 λg=>ld Q 31 g λh=>aq Q 38 f 0 λi=>ld Q 31 i λj=>bF .neq 31 h j λk w=>aT k false (λi=>aq Q 38 e 1 (λa=>ld Q 31 a λb=>aq Q 38 f 1 λc=>ld Q 31 c λd=>bF .neq 31 b d λe=>i [a,b,c,d,e]) w) (λk=>k [uu,uu,uu,uu,uu] w) λc=>pick k cT (gd c 4) λl w=>aT l false (λj=>aq Q 38 e 2 (λa=>ld Q 34 a λb=>aq Q 38 f 2 λe=>ld Q 34 e λc=>bF .neq 34 b c λd=>j [a,b,e,c,d]) w) (λk=>k [uu,uu,uu,uu,uu] w) λd=>pick l cT (gd d 4) λm w=>aT m false (λl=>aq Q 38 e 3 (λa=>ld Q 35 a λb=>lN 35 b λc=>aq Q 38 f 3 λd=>ld Q 35 d λf=>lN 35 f λe=>bF .neq 3 c e λg=>l [a,b,c,d,f,e,g]) w) (λk=>k [uu,uu,uu,uu,uu,uu,uu] w) λa=>pick m cT (gd a 6) λn w=>aT n false (λm=>aq Q 38 e 4 (λa=>ld Q 36 a λb=>lN 36 b λc=>aq Q 38 f 4 λg=>ld Q 36 g λd=>lN 36 d λe=>bF .neq 3 c e λf=>m [a,b,c,g,d,e,f]) w) (λk=>k [uu,uu,uu,uu,uu,uu,uu] w) λb=>pick n cT (gd b 6) λo w=>cond o (K cF w) (vw K (Gh e f (ci 0) (zV (zV (zV zu 0 [Z,H]) 4 [cF]) 7 [g,h,i,j,k,k,gd c 0,gd c 1,gd c 2,gd c 3,gd c 4,l,l,gd d 0,gd d 1,gd d 2,gd d 3,gd d 4,m,m,gd a 0,gd a 1,gd a 2,gd a 3,gd a 4,gd a 5,gd a 6,n,n,gd b 0,gd b 1,gd b 2,gd b 3,gd b 4,gd b 5,gd b 6,o])) w)) w):Gives Q 10 #[Z,H] w K:=aw func10 kr (mpK h)
def NY{K:KV}(Inv:oF->oG->Prop)(μ:oF->oG->Nat)(q:Inv U w)(s:∀(a:oF) (p:oD) (w:oG) (m:Nat),Inv a w->m=μ a w ->
  aq Q 38 H 3 (λb=>ld Q 35 b λc=>lN 35 c λd=>lS a d λe w=>cond e (sF 38 H 3 (λg=>sL 35 g λb=>sI 35 b a λb=>sL 58 b λi=>sF 38 Z 3 λj=>sL 35 j λb=>sI 35 b a λk=>sL 58 k λl=>sti (bF .neq 58 i l) λb w=>cond b (K cF w) (nC a (λa w=>(Inv a w)/\((μ a w)<m)) w)) w.drew) (lw K (Gi H Z (zV (zV p 5 [a]) 44 [a,b,c,d,e])) w)) w):vw K (Gh H Z U zf) w:=by refine aZ (cd f10 (b1 116)) (zr [(4,2),(44,18)]) kr (vP [5] Inv) (vQ [5] μ) q ?_;intro o t r;have h:=s _ (zM zf (gd o) (zr [(4,2),(44,18)])) t _ r rfl;revert h;generalize (lw K)=qc0;exact mpF
def O8(h:vx K (Gj a2 b3 (ci 0) zf) w):lw K (Gi a2 b3 zf) w:=mpK h
def NZ(Inv:oF->oG->Prop)(μ:oF->oG->Nat)(u:Inv i6 w)(x:∀(a:oF) (t:oD) (w:oG) (m:Nat),Inv a w->m=μ a w ->
  aq Q 38 a2 4 (λb=>ld Q 36 b λc=>lN 36 c λd=>lS a d λe w=>cond e (sF 38 a2 4 (λg=>sL 36 g λi=>sI 36 i a λj=>sL 61 j λk=>sF 38 b3 4 λl=>sL 36 l λn=>sI 36 n a λo=>sL 61 o λp=>sti (bF .neq 61 k p) λq w=>cond q (K cF w) (nC a (λa w=>(Inv a w)/\((μ a w)<m)) w)) w.drew) (lC K (Gk (zV (zV (zV t 2 [a2,b3]) 6 [a]) 62 [a,b,c,d,e])) w)) w):vx K (Gj a2 b3 i6 zf) w:=by refine aZ (cd f10 (b1 244)) (zr [(4,1),(6,1),(62,18)]) kr (vP [6] Inv) (vQ [6] μ) u ?_;intro s y v;have h:=x _ (zM zf (gd s) (zr [(4,1),(6,1),(62,18)])) y _ v rfl;revert h;generalize (lC K)=qc0;exact mpF
def O9(h:K cT w):lC K (Gk zf) w:=mpK h
end
attribute [irreducible] lw vw lC vx
def W7{t:STA}(a:t.I.length=6)(b:t.L.length=6)(c:t.V.length=6):((saC t).drop 0).take 6=t.I.map .bool/\((saC t).drop 6).take 6=t.L.map .bool/\((saC t).drop 12).take 6=vCs t.V:=by obtain⟨I,L,V,N,e,f,d⟩:=t;obtain⟨_,_,_,_,_,_,rfl⟩:=Bn a;obtain⟨_,_,_,_,_,_,rfl⟩:=Bn b;obtain⟨_,_,_,_,_,_,rfl⟩:=Bn c;exact⟨rfl,rfl,rfl⟩
def Jz{I:List Bool}(h:I.length=6):jy Q 3 31 (I.map .bool)=true:=by
 obtain⟨_,_,_,_,_,_,rfl⟩:=Bn h
 kernel_rfl
def zew{x:ND}(h:x.A.length=54):jy Q 6 58 (ndC x)=true:=by
 rw[<-YK h]
 kernel_rfl
def Wu(g:GR):jy Q 3 61 (grC g)=true:=by kernel_rfl
section
variable  {K:KV}
def ziC{t1 t2:STA}{G:List GR}(e:SK w t1)(q:SK w t2)(eI:t2.I=t1.I)(eL:t2.L=t1.L)(eV:t2.V=t1.V)(T:t2.nodes=t1.nodes)(v1:t1.gv=.slice a G.length c)(v2:t2.gv=.slice av G.length c2)(r1:w.ownsRow b 61 5 (.slice a G.length c) G.length (G.flatMap grC))(E:w.ownsRow B2 61 5 (.slice av G.length c2) G.length (G.flatMap grC))(hG:G.length<=1000000)(h:∀w',Below w.heap.size w w'->K cT w'):call Q 10 #[.agg (saC t1).toArray,.agg (saC t2).toArray] K w:=by
 have U:∀t:STA,(Value.agg (saC t).toArray).cells.toList=saC t:=λt=>by simp[Value.cells]
 obtain⟨a1,a2,a3⟩:=W7 e.i6 e.l6 e.v6;obtain⟨b1,b2,b3⟩:=W7 q.i6 q.l6 q.v6;rw[eI]at b1;rw[eL]at b2;rw[eV]at b3;refine ao (goK func10) (QS (bU λw1 j l1 s1=>bU λR u l2 s2=>?_));rw[U]at j u;have j:=ae l2 j j.lt;have g:=l1.trans (l2.mono l1.size);have X:=e.bel g oA;have Y:=q.bel g oA;have l:=Ee e.i6 e.l6 e.v6
 have m:=Ee q.i6 q.l6 q.v6;have f:=LM e.i6 e.l6 e.v6;have o:=LM q.i6 q.l6 q.v6;rw[T]at m;rw[v1]at f;rw[v2]at o;refine My (ldA (n:=6) (vs:=t1.I.map .bool) underlying31 rfl kr j a1 (by simp[e.i6]) (My (ldA (n:=6) (vs:=t1.I.map .bool) underlying31 rfl kr u b1 (by simp[e.i6]) ?_)))
 refine zh 3 oo kr kr (Jz e.i6) (Jz e.i6) λr B=>?_;rw[B.2 rfl];refine eK (Mz (ldA (n:=6) (vs:=t1.L.map .bool) underlying31 rfl kr j a2 (by simp[e.l6]) (Mz (ldA (n:=6) (vs:=t1.L.map .bool) underlying31 rfl kr u b2 (by simp[e.l6]) ?_))));refine zh 3 oo kr kr (Jz e.l6) (Jz e.l6) λr B=>?_
 rw[B.2 rfl];refine cA (eK (MA (ldA (n:=6) (vs:=vCs t1.V) underlying34 rfl kr j a3 (by rw[bE];exact e.v6) (MA (ldA (n:=6) (vs:=vCs t1.V) underlying34 rfl kr u b3 (by rw[bE];exact e.v6) ?_)))));refine zh 3 oo kr kr (Qt e.v6) (Qt e.v6) λr B=>?_;rw[B.2 rfl]
 refine cA (eK (nP (lK (v:=.slice t1.na t1.nodes.length t1.nc) j l (bM underlying35 (nP (lK (v:=.slice t2.na t1.nodes.length t2.nc) u m (bM underlying35 (bo ?_))))))));refine cA (dL oB (rY (lK (v:=.slice a G.length c) j f (bM underlying36 (rY (lK (v:=.slice av G.length c2) u o (bM underlying36 (bo ?_))))))));refine bG oB (aB oB ?_);have hn:=e.few
 refine NY (Inv:=λi a=>∃k:Nat,i=iv (k:Nat)/\k<=t1.nodes.length/\Below R.heap.size R a) (μ:=λi _=>t1.nodes.length-(intOf i).toNat) ⟨0,rfl,qG _,jT _ _⟩ ?_;rintro _ dd S mu ⟨k,rfl,A,F⟩ D;have O:=ae F j j.lt;have y2:=ae F u u.lt;refine nP (lK (v:=.slice t1.na t1.nodes.length t1.nc) O l (bM underlying35 (aW ?_)));by_cases p:k<t1.nodes.length
 .have C:t1.nodes[k]? = some t1.nodes[k]:=gE p;generalize t1.nodes[k]=x at C;have W:t2.nodes[k]? = some x:=by rw[T];exact C
  have J:=(X.bel F oA).nr;have P:=(Y.bel F oA).nr;obtain⟨Z,o1,y⟩:=J.some_ oo;obtain⟨p2,o2,z⟩:=P.some_ (by rw[T];omega);have J:=J.bel (jT S.heap.size S).drew oA;have P:=P.bel (jT S.heap.size S).drew oA;refine aG oo ?_
  refine ah (λ_=>nP) (ah (v:=.slice t1.na t1.nodes.length t1.nc) (λ_=>lK O.drew l) ?_);refine ah (v:=pA Z (o1+k*56)) (λK d=>by
   rw[y];exact gO underlying35 (s:=56) kf oo oo (by rw[oQ];exact d)) ?_
  refine ah (v:=.agg (ndC x).toArray) (λ_=>zei J y C) ?_;refine ah (λ_=>nP) (ah (v:=.slice t2.na t1.nodes.length t2.nc) (λ_=>lK y2.drew m) ?_);refine ah (v:=pA p2 (o2+k*56)) (λK d=>by
   rw[z];exact gO underlying35 (s:=56) kf oo oo (by rw[oQ];exact d)) ?_
  refine ah (v:=.agg (ndC x).toArray) (λ_=>zei P z W) ?_;have hf:=zew (J.A54 x (mO C));refine ah (v:=.bool false) (λK d=>zh 6 oo kr kr hf hf λr B=>by rw[B.2 rfl];exact d) ?_;refine aD (aY oo oo ⟨⟨k+1,qH iv (by push_cast;rfl),p,F.drew⟩,?_⟩)
  rw[D];show t1.nodes.length-((k:Int)+1).toNat<t1.nodes.length-(k:Int).toNat;omega
 refine aB oo (O8 ?_);have r1:=dl r1 λk A=>g.block k (jS r1 k A).2;have E:=dl E λk A=>g.block k (jS E k A).2;refine NZ (Inv:=λi a=>∃k:Nat,i=iv (k:Nat)/\k<=G.length/\Below R.heap.size R a) (μ:=λi _=>G.length-(intOf i).toNat) ⟨0,rfl,qG _,F⟩ ?_;rintro _ dd w4 mu ⟨k,rfl,A,H⟩ D;have O:=ae H j j.lt;have y2:=ae H u u.lt
 refine rY (lK (v:=.slice a G.length c) O f (bM underlying36 (aW ?_)));by_cases p:k<G.length
 .have C:G[k]? = some G[k]:=gE p;generalize G[k]=x at C;have r1:=dl r1 (w':=w4.drew) λk A=>H.drew.block k (jS r1 k A).2;have E:=dl E (w':=w4.drew) λk A=>H.drew.block k (jS E k A).2;refine aG oo ?_;refine ah (λ_=>rY) (ah (v:=.slice a G.length c) (λ_=>lK O.drew f) ?_);obtain⟨Z,aa,y,M⟩:=iM r1 oo
  obtain⟨p2,ab,z,N⟩:=iM E oo;refine ah (v:=pA Z (0+k*5)) (λK d=>by
   rw[y];exact gO underlying36 (s:=5) kf oo oo (by rw[oQ];exact d)) ?_
  refine ah (v:=.agg (grC x).toArray) (λ_=>ldA (n:=5) (vs:=grC x) underlying61 rfl kr M.blk (by rw[oK];exact M.elem vH rfl C) rfl) ?_;refine ah (λ_=>rY) (ah (v:=.slice av G.length c2) (λ_=>lK y2.drew o) ?_);refine ah (v:=pA p2 (0+k*5)) (λK d=>by
   rw[z];exact gO underlying36 (s:=5) kf oo oo (by rw[oQ];exact d)) ?_
  refine ah (v:=.agg (grC x).toArray) (λ_=>ldA (n:=5) (vs:=grC x) underlying61 rfl kr N.blk (by rw[oK];exact N.elem vH rfl C) rfl) <|ah (v:=.bool false) (λK d=>zh 3 oo kr kr (Wu x) (Wu x) λr B=>by rw[B.2 rfl];exact d) ?_;refine aD (aY oo oo ⟨⟨k+1,qH iv (by push_cast;rfl),p,H.drew⟩,?_⟩)
  rw[D];show G.length-((k:Int)+1).toNat<G.length-(k:Int).toNat;omega
 exact aB oo (O9 (h w4 (g.trans (H.mono g.size))))
end
section
open Go.ChangeMaps
def SO.chl{B:Nat}{s:PL}{t:STA}{F:List Nat}(h:SO w B s t a gc)(d:Ch F w S)(hF:∀k∈F,k<B):SO S B s t a gc :=
 {h with
  nd:=dl h.nd λk b=>d.block k (jS h.nd k b).2 λc=>by have:=hF k c;have:=(jS h.nd k b).1;omega
  gr:=dl h.gr λk b=>d.block k (jS h.gr k b).2 λc=>by have:=hF k c;have:=(jS h.gr k b).1;omega}
def RepW.low{B:Nat}{X:RpX}{s:RS}(h:RepW w i X s)(a:∀k∈AF X,k<B)(b:Below B w S):RepW S i X s:=h.keep λk c=>b.block k (a k c)
def SS:some (iv ((i+1:Nat)))=some (iv ((i:Int)+1)):=qH (λz=>some (iv z)) (by push_cast;rfl)
section
variable  {K:KV}  {X:RpX}{s:RS}
def zhZ{B n:Nat}{L:List Int}{K2:oF->KV}(k:ON w B a n c L)(i:L.length=n)(e:L[j]? = some x)(h:∀u,K2 u (iv x) w):bv Q 24 (.slice a n c) (iv (j:Nat)) (λu w=>ld Q 3 u (K2 u) w) w:=by
 have l:j<n:=by rw[<-i];exact(gS e).1
 obtain⟨g,b,rfl,f⟩:=iM k oo;refine gO underlying24 (s:=1) kf oo oo ?_;rw[oQ];refine lK (v:=iv x) f.blk ?_ (h _);have d:(b.take (n*1))[j]? = some (iv x):=by rw[f.take,qC,e];rfl
 rw[jN oo]at d;rw[oK,Nat.mul_one];exact d
def zgI{cf:Int}(h:RepW w i X s)(B:PI s.l)(hi:i<6)(hG:s.l.G.length<=1000000)(hA:∀e∈s.A,e.q<6)(ce:s.A.Pairwise λa b=>a.q=b.q->a.s<b.s)(bT:s.A.length<=30000)(c:∀w' X' (T:List MGT) oa oc,StpX w w' X X'->RepW w' i X' s->(∀x∈T,TMok 6 i s x/\TMk w.heap.size w' x)->((i:Int)+1∈pF s.l.I s.l.L 6->∀j:Nat,(j:Int)+1∈pF s.l.I s.l.L 6->j≠i->∃x∈T,x.1.k=1/\x.1.t=j)->(T.length<=38/\(X.ws=[]->T.length<=(pF s.l.I s.l.L 6).length-1))->w'.ownsRow w.heap.size 268 12 (.slice oa T.length oc) T.length (T.flatMap tmC)->(∀k∈AF X',k<w.heap.size)->X'.W=X.W->K (.slice oa T.length oc) w'):call Q 190 #[pB X.R.p,u6 cf] K w:=by
 have hX:=h.lt;refine ao (goK func190) (Jt (Lf (aD (au (rX (lK (v:=pB X.R.q.p) h.rp.b rfl ?_))))));refine SE h.rp.pm B hG λw1 t ga gc so b1=>?_;have aA:(saC t).length=20:=ss (by rw[so.eI];exact B.i6) (by rw[so.eL];exact B.l6) (by rw[so.eV];exact B.v6);have cg:∀v∈saC t,v.oneCell'=true:=by
  intro v hv;unfold saC at hv;rw[so.gv]at hv;simp only[oU,qT,oO,oR,or_false]at hv;rcases hv with((⟨_,_,rfl⟩|⟨_,_,rfl⟩)|⟨_,_,rfl⟩)|(rfl|rfl)<;>rfl
 refine cD (z:=.agg (saC ⟨List.replicate 6 false,List.replicate 6 false,List.replicate 6 0,[],none,0,.slice none 0 0⟩).toArray) kr λw2 z2 b2 s2=>?_;have z2:=cZ z2
 refine fY (n:=20) (vs:=saC t) kr aA z2 (by show 0+20<=20;omega) cg λw3 z3 o3=>?_;rw[qX,oV,oS (by show 20<=0+20;omega),oW]at z3;have bd:Below w1.heap.size w1 w3:=aK b2 o3 oA;have aC:=b1.trans (bd.mono b1.size)
 have bF:∀{y:oG} {K:KV},blk y w1.heap.size 38 (saC t)->K (.agg (saC t).toArray) y->ld Q 38 (pB w1.heap.size) K y:=λu c=>ldA (n:=20) (vs:=saC t) underlying38 rfl kr u (by rw[oX,tL oo]) aA c;have bK:=so.fresh bd;refine bF z3 (zi7 (bK.sk B) λw4 la lc ho b4=>?_);rw[so.eI,so.eL]at ho |-;have bt:=zem s.l.I s.l.L
 have bk:∀q v,(pF s.l.I s.l.L 6)[q]? = some v->∃t:Nat,v=(t:Int)+1/\t<6:=λq v hq=>by
  obtain⟨t,h1,h2,_⟩:=zgf hq;exact⟨t,h1,h2⟩
 generalize cy:pF s.l.I s.l.L 6=Lv at ho bt bk c |-;obtain⟨k,aJ⟩:∃k,Lv.length=k:=⟨_,rfl⟩
 rw[aJ]at ho bt |-;have cq:=bK.fresh b4;have ad:=aC.trans (b4.mono aC.size);have h4:=h.below ad;have z4:=ae b4 z3 z3.lt;refine au (th (lK (v:=iv ((i:Int)+1)) h4.rp.b SS (zja ho aJ oo (bH ?_))));by_cases ap:(i:Int)+1∈Lv
 rotate_left
 .rw[qE ap];exact bc (c w4 X [] none 0 (.refl ad) h4 oB (λO=>qI O ap) ⟨by simp,λ_=>qG _⟩ (World.ownsRow_nil _ _ _ _) hX rfl)
 rw[qF ap];refine aD (au (Mw (lK (v:=pB X.R.d) h4.rp.b rfl ?_)));refine zfK h4.dm λw5 a0 c0 T0 b5 cz br aN r0=>bM underlying311 ?_;have bb:=ad.trans (b5.mono ad.size);have h5:=h4.below b5;have cI:=ad.size;have cK:=bb.size;have cF:=h.dm.mb.lt;have aT:∀b∈wB X.ws,b<w.heap.size:=λb hb=>h.dm.lt b (by simp[hb])
 refine GS (Inv:=λj wr=>∃(q:Nat) (a5:List (Int×Option Nat)),j=iv (q:Nat)/\q<=T0.length/\RepW wr i {X with ws:=a5} s/\StpX w5 wr X {X with ws:=a5}/\Ch [X.m] w5 wr/\(∀p∈a5,p∈X.ws/\∀(r:Nat) (x:Int×Int),r<q->T0[r]? = some x->x.1=p.1->DW s.l ((i:Int)+1) p.1<x.2)) (μ:=λj _=>T0.length-(intOf j).toNat)
  ⟨0,X.ws,rfl,qG _,h5,.refl (jT _ _),Ch.refl _ _,λp B=>⟨B,λr x a=>by omega⟩⟩ ?_
 rintro _ dd N mu ⟨q,ws1,rfl,hq,h6,bL,c6,aj⟩ b6;have cn:=c6.size;have al:∀k∈wB ws1,k∈wB X.ws:=λk f=>by
  obtain⟨p,B,e⟩:=tt.1 f;exact tt.2 ⟨p,(aj p B).1,e⟩
 refine aW ?_;by_cases F:q<T0.length
 .have C:T0[q]? = some T0[q]:=gE F;generalize T0[q]=x at C;have r6:=dl r0 (w':=N) λk f=>c6.block k (jS r0 k f).2 λO=>by have:=(jS r0 k f).1;rw[mS O]at this;omega
  refine aG oo (GO (GJ (i:=q) (enc:=wnC) (s:=2) (L:=T0) (x:=x) underlying311 kf underlying276 rfl kr (λ_=>rfl) r6 rfl C λ_=>zf3 λw7 z7 b7=>?_));have h7:=h6.below b7;refine ax (λy=>blk y X.R.p 119 (rpC X.R i)/\blk y N.heap.size 276 (wnC x)) ⟨h7.rp.b.drew,z7.drew⟩ ?_
  refine ac (λy d _ c=>au c) (ac (λy d _ c=>rX c) (ac (v:=pB X.R.q.p) (λy d _ c=>lK d.1 rfl c) ?_));refine ac (λy d _ c=>au c) (ac (λy d _ c=>th c) (ac (v:=iv ((i:Int)+1)) (λy d _ c=>lK (v:=iv ((i:Int)+1)) d.1 SS c) ?_))
  refine ac (λy d _ c=>Bz c) (ac (v:=u6 x.1) (λy d _ c=>lK d.2 rfl c) (ac (λy d _ c=>MC c) (ac (v:=iv x.2) (λy d _ c=>lK d.2 rfl c) ?_)));have ah:=h7.below (jT _ w7).drew;refine Nc ah.rp.pm B λw8 b8=>?_;have S:Below w7.heap.size w7 w8:=(jT _ w7).drew.trans b8;have aE:=b7.trans (S.mono b7.size);have h8:=h6.below aE;have z8:=ae S z7 z7.lt
  have bN:=bL.trans (.refl aE);have c8:Ch [X.m] w5 w8:=c6.add (aE.mono cn);have M:T0.length-(intOf (iv ((q:Int)+1))).toNat<mu:=by rw[b6];show T0.length-((q:Int)+1).toNat<T0.length-((q:Nat):Int).toNat;omega
  refine aI ⟨h8.rp.b,z8⟩ (ac (v:=.bool (decide (x.2<=DW s.l ((i:Int)+1) x.1))) (λy _ _ c=>cJ c) ?_);by_cases bq:x.2<=DW s.l ((i:Int)+1) x.1
  .refine aG bq (ax (λy=>blk y X.R.p 119 (rpC X.R i)/\blk y N.heap.size 276 (wnC x)) ⟨h8.rp.b.drew,z8.drew⟩ ?_);refine ac (λy d _ c=>au c) (ac (λy d _ c=>Mw c) (ac (v:=pB X.R.d) (λy d _ c=>lK d.1 rfl c) ?_));refine ac (λy d _ c=>Bz c) (ac (v:=u6 x.1) (λy d _ c=>lK d.2 rfl c) ?_);have bj:=h8.below (jT _ w8).drew
   refine zfJ bj.dm λw9 r9 d9 c9=>yc (aY oo oo ⟨⟨q+1,ud ws1 x.1,qH iv (by push_cast;rfl),F,?_,?_,?_,λp B=>?_⟩,M⟩)
   .exact bj.want d9 (c9.mono λk f=>by rw[mS f];exact oL) λk f=>by
     obtain⟨p,B,e⟩:=tt.1 f;exact .inl (tt.2 ⟨p,(zC.1 B).1,e⟩)
   .exact(bN.trans (.refl (jT _ w8).drew)).trans (.ws (X:={X with ws:=ws1}) (c9.mono λk f=>by rw[mS f];exact oL) λk f=>by
     obtain⟨p,B,e⟩:=tt.1 f;exact .inl (tt.2 ⟨p,(zC.1 B).1,e⟩))
   .exact(c8.add ((jT _ w8).drew.mono c8.size)).trans c9 λk f=>.inl f
   .obtain⟨cc,ca⟩:=zC.1 B;obtain⟨aQ,aR⟩:=aj p cc;refine⟨aQ,λr y hr u e=>?_⟩;by_cases Z:r=q
    .subst Z;rw[C]at u;cases u;exact qI e.symm ca
    .exact aR r y oo u e
  .refine aB bq (yc (aY oo oo ⟨⟨q+1,ws1,qH iv (by push_cast;rfl),F,h8,bN,c8,λp B=>?_⟩,M⟩));obtain⟨aQ,aR⟩:=aj p B;refine⟨aQ,λr y hr u e=>?_⟩;by_cases Z:r=q
   .subst Z;rw[C]at u;cases u;rw[<-e];omega
   .exact aR r y oo u e
 -- all wants have ct cw
 have aS:q=T0.length:=by omega
 subst aS;have az:StpX w N X {X with ws:=ws1}:=(StpX.refl bb).trans bL;have an:∀k∈AF {X with ws:=ws1},k<w.heap.size:=λk f=>by
  rcases pG.1 f with f|f|f|f|f
  .exact hX k (pG.2 (.inl f))
  .exact hX k (pG.2 (.inr (.inl f)))
  .exact hX k (pG.2 (.inr (.inr (.inl f))))
  .exact hX k (pG.2 (.inr (.inr (.inr (.inl f)))))
  .refine hX k (pG.2 (.inr (.inr (.inr (.inr (nB.2 ?_))))));rcases nB.1 f with f|f|f
   .exact .inl f
   .exact .inr (.inl f)
   .exact .inr (.inr (al k f))
 have m6:∀k,w.heap.size<=k->k∉[X.m]:=λk f O=>by rw[mS O]at f;omega
 have bC:ON N w3.heap.size la k lc Lv:=dl (dl ho λk f=>b5.block k (jS ho k f).2) λq hq=>by
  have h1:=jS ho q hq;exact c6.block q (by have:=b5.size;omega) (m6 q (by have:=aC.size;omega))
 have z6:blk N w1.heap.size 38 (saC t):=(ae b5 z4 z4.lt).ch c6 (m6 _ b1.size);have cr:SO N (w.heap.size+1) s.l t ga gc:=(cq.fresh b5).chl c6 λk f=>by rw[mS f];omega
 have ak:=az.ch.size;have ag:=(W7 (t:=t) (by rw[so.eI];exact B.i6) (by rw[so.eL];exact B.l6) (by rw[so.eV];exact B.v6)).2.2;rw[so.eV]at ag;have ab:=B.v6;obtain⟨mi,bv,bA,bw,bu⟩:=info_parts Sb;refine aB oo (GW (bM underlying24 ?_))
 refine GU (Inv:=λaV j wr=>∃(q:Nat) (T:List MGT) (oa:Option Addr) (oc:Nat),j=iv (q:Nat)/\q<=k/\aV=.slice oa T.length oc/\(T.length<=q/\((i:Int)+1∈Lv.take q->T.length+1<=q))/\Below N.heap.size N wr/\(∀x∈T,TMok 6 i s x/\TMk w.heap.size wr x)/\(∀(r j:Nat),r<q->Lv[r]? = some ((j:Int)+1)->j≠i->∃x∈T,x.1.k=1/\x.1.t=j)/\wr.ownsRow N.heap.size 268 12 (.slice oa T.length oc) T.length (T.flatMap tmC)) (μ:=λ_ j _=>k-(intOf j).toNat)
  ⟨0,[],none,0,rfl,qG _,rfl,⟨Nat.le_refl _,λO=>by cases O⟩,jT _ _,by simp,λr j a=>by omega,World.ownsRow_nil _ _ _ _⟩ ?_
 rintro _ _ dd w7 mu2 ⟨q,T,oa,oc,rfl,hq,rfl,⟨cC,bm⟩,b7,hT,aM,r7⟩ bx;have h7:=h6.low an (b7.mono ak);have z7:=ae b7 z6 z6.lt;have cp:=b7.size;refine aW ?_;by_cases F:q<k
 .have cb:ON w7 w3.heap.size la k lc Lv:=dl bC λk f=>b7.block k (jS bC k f).2;have M:k-(intOf (iv ((q:Int)+1))).toNat<mu2:=by rw[bx];show k-((q:Int)+1).toNat<k-((q:Nat):Int).toNat;omega
  have u:Lv[q]? = some Lv[q]:=gE oo;obtain⟨jq,bS,bs⟩:=bk q _ u;rw[bS]at u;refine aG oo (GP (zhZ cb aJ u λ_=>au (th (lK (v:=iv ((i:Int)+1)) h7.rp.b SS (bo ?_)))));by_cases cd:jq=i
  .refine aB oo (yd (aY oo oo ⟨⟨q+1,T,oa,oc,qH iv (by push_cast;rfl),F,rfl,⟨by omega,λ_=>by omega⟩,b7,hT,λr j hr Y U=>?_,r7⟩,M⟩));by_cases Z:r=q
   .subst Z;rw[u]at Y;cases Y;omega
   .exact aM r j oo Y U
  .have cH:s.P.length=6:=h.rp.e.l6;have hv:s.P[jq]? = some s.P[jq]:=gE oo;generalize s.P[jq]=v at hv;refine aG oo (ax (λy=>blk y X.R.p 119 (rpC X.R i)/\blk y w1.heap.size 38 (saC t)) ⟨h7.rp.b.drew,z7.drew⟩ ?_);refine ac (λy d _ c=>au c) (ac (λy d _ c=>th c) (ac (v:=iv ((i:Int)+1)) (λy d _ c=>lK (v:=iv ((i:Int)+1)) d.1 SS c) ?_))
   refine ac (λy d _ c=>MA c) (ac (λy d _ c=>ldA (n:=6) (vs:=vCs s.l.V) underlying34 rfl kr d.2 ag (by rw[bE];exact ab) c) ?_);refine ac (λy d _ c=>au c) (ac (λy d _ c=>Yd c) (ac (v:=pB X.R.e) (λy d _ c=>lK d.1 rfl c) ?_));refine ac (λy d _ c=>au c) (ac (λy d _ c=>RP c) (ac (v:=pB X.R.g) (λy d _ c=>lK d.1 rfl c) ?_))
   have ah:=h7.below (jT _ w7).drew;refine zgb ah.rp.e bs hv ah.rp.g ah.it hA ce bT λw8 fa fc r8 b8=>?_;have S:Below w7.heap.size w7 w8:=(jT _ w7).drew.trans b8;have z8:=ae S z7 z7.lt;refine aI ⟨(h7.below S).rp.b,z8⟩ ?_;obtain⟨x,C⟩:∃x:MGT,x=(⟨1,i,jq,s.l.V,0,0,tl s.A v⟩,fa,fc):=⟨_,rfl⟩
   have em:mgC 1 ((i:Int)+1) ((jq:Int)+1) s.l.V (.slice fa (tl s.A v).length fc) 0 0=tmC x:=by rw[C,PV ab]
   refine ac (v:=.agg (tmC x).toArray) (λy d _ c=>zj2 ab (by rw[em];exact c)) ?_;refine qb [.agg (tmC x).toArray] underlying83 (s:=12) kr kr oo rfl oB dc rfl (by
    intro v hv;rw[mS hv]
    have:=eF x
    simpa[Value.cells]using this) λw9 m9 b9 s9=>?_
   have m9:=cZ m9
   have am:=S.trans (b9.mono S.size);have r9:=dl r7 (w':=w9) λk f=>am.block k (jS r7 k f).2;have cO:=am.size;refine ax (λ_=>True) trivial (zc (enc:=tmC) (x:=x) underlying83 bv bA bw bu rfl oo eF r9 m9 (vY x) oo oo oo λa' c' w10 cj bg af _=>?_);have hl:(T++[x]).length=T.length+1:=by simp
   refine ax (λ_=>True) trivial (yd (aY oo oo ⟨⟨q+1,T++[x],a',c',qH iv (by push_cast;rfl),F,qH (λn=>Value.slice a' n c') hl.symm,⟨by omega,λO=>by
    rw[List.take_add_one,u,oU]at O
    have:=bm (O.resolve_right λa=>by simp at a;omega)
    omega⟩,(b7.trans (am.mono cp)).trans af,λy u=>?_,λr j hr Y U=>?_,by rw[hl];exact cj⟩,M⟩))
   .rcases oU.1 u with u|u
    .obtain⟨y1,y2⟩:=hT y u;exact⟨y1,(y2.below am).grow r9 bg⟩
    .rw[mS u];obtain⟨v1,v2⟩:=zcA r8 rfl;subst C;refine⟨⟨rfl,bs,cd,rfl,.inl ⟨rfl,rfl,rfl,v,hv,rfl⟩⟩,TMk.grow (TMk.below (w:=w8) ⟨v1,λb o ha=>?_⟩ b9) r9 bg⟩;obtain⟨e1,e2⟩:=v2 b o ha;exact⟨by have d7:w7.drew.heap.size=w7.heap.size:=rfl;omega,e2⟩
   .by_cases Z:r=q
    .subst Z;rw[u]at Y;exact⟨x,by simp,by rw[C],by rw[C];show jq=j;simp at Y;omega⟩
    .obtain⟨y,y1,y2⟩:=aM r j oo Y U;exact⟨y,List.mem_append_left _ y1,y2⟩
 -- those that are to be asked for
 have aS:q=k:=by omega
 have bU:∀j:Nat,(j:Int)+1∈Lv->j≠i->∃x∈T,x.1.k=1/\x.1.t=j:=λj hj U=>by
  obtain⟨r,hr⟩:=List.getElem?_of_mem hj;exact aM r j (by have:=(gS hr).1;omega) hr U
 refine aB oo (GX (au (Mw (lK (v:=pB X.R.d) h7.rp.b rfl ?_))));refine zhD h7.dm λw8 a1 c1 T1 d8 c8 cQ cA ay r8=>bM underlying311 ?_;have bl:∀x∈T1,DW s.l ((i:Int)+1) x.1<x.2/\x.2<=Ca/\x.1≠0:=λx C=>by
  obtain⟨b,t1,y1,hm,hb⟩:=ay x C;obtain⟨aP,bZ⟩:=aj _ hm;obtain⟨x0,bD,e0⟩:=aN _ aP;obtain⟨b0,t0,y0,bY,bp⟩:=br x0 bD;have bB:=h.dm.mb.nodup;have g1:=nD bB aP;have g2:=nD bB bY;rw[e0,g1]at g2;cases g2;have bV:blk w7 b 278 (wtC x0.1 x0.2 t0 y0):=by
   have cE:b<w.heap.size:=aT b (tt.2 ⟨_,aP,rfl⟩);have e5:=ae b5 bp bp.lt;have e6:=e5.ch c6 λO=>h5.dm.mb.ne e5 (mS O);exact ae b7 e6 e6.lt
  obtain⟨e1,e2⟩:=M8 bV hb;obtain⟨r,hr⟩:=List.getElem?_of_mem bD
  have:=bZ r x0 (gS hr).1 hr e1
  obtain⟨b3,a3,t3,y3,f1,f2,f3,f4,f5⟩:=h7.dm.wt _ hm;cases f1;obtain⟨_,e4⟩:=M8 f2 hb;exact⟨by rw[<-e2];exact this,by omega,f5⟩
 have h8:RepW w8 i {X with ws:=ws1} s:=h7.want d8 (c8.mono λk f=>oH _ f) λk f=>.inl f;have aa:StpX w w8 X {X with ws:=ws1}:=(az.trans (.refl b7)).trans (.ws (X:={X with ws:=ws1}) (c8.mono λk f=>oH _ f) λk f=>.inl f);have bR:Ch (wB ws1) N w8:=(Ch.of_below b7:Ch (wB ws1) N w7).trans c8 λk f=>.inl f
 have nb:∀k,w.heap.size<=k->k∉wB ws1:=λk f O=>by have:=aT k (al k O);omega
 have cl:=dl r7 (w':=w8) λk f=>c8.block k (jS r7 k f).2 (nb k (by have:=(jS r7 k f).1;omega));have cN:=c8.size;have T8:∀x∈T,TMok 6 i s x/\TMk w.heap.size w8 x:=λx C=>by
  obtain⟨y1,y2⟩:=hT x C;exact⟨y1,y2.kp λk a f=>c8.block k f.lt λO=>by
   obtain⟨_,_,_,_,hb,_⟩:=h7.dm.isw O;exact qI rfl (hb.ne f dc)⟩
 refine GV (Inv:=λa j b=>∃(p:Nat) (T':List MGT) (oa:Option Addr) (oc:Nat),j=iv (p:Nat)/\p<=T1.length/\a=.slice oa T'.length oc/\(T.length<=T'.length/\T'.length<=T.length+p)/\Below N.heap.size w8 b/\w8.heap.size<=b.heap.size/\(∀x∈T',TMok 6 i s x/\TMk w.heap.size b x)/\(∀j:Nat,(j:Int)+1∈Lv->j≠i->∃x∈T',x.1.k=1/\x.1.t=j)/\b.ownsRow N.heap.size 268 12 (.slice oa T'.length oc) T'.length (T'.flatMap tmC)/\b.ownsRow w7.heap.size 276 2 (.slice a1 T1.length c1) T1.length (T1.flatMap wnC)) (μ:=λ_ j _=>T1.length-(intOf j).toNat)
  ⟨0,T,oa,oc,rfl,qG _,rfl,⟨Nat.le_refl _,Nat.le_refl _⟩,jT _ _,Nat.le_refl _,T8,bU,cl,r8⟩ ?_
 rintro _ _ dd w9 mu3 ⟨p,T',bG,bI,rfl,cG,rfl,⟨bn,cB⟩,b9,cP,aL,ai,r9,q9⟩ bz;refine aW ?_;by_cases F:p<T1.length
 .have M:T1.length-(intOf (iv ((p:Int)+1))).toNat<mu3:=by rw[bz];show T1.length-((p:Int)+1).toNat<T1.length-((p:Nat):Int).toNat;omega
  have C:T1[p]? = some T1[p]:=gE F;generalize T1[p]=x at C;obtain⟨k1,k2,k3⟩:=bl x (mO C);refine aG oo (GQ (GJ (i:=p) (enc:=wnC) (s:=2) (L:=T1) (x:=x) underlying311 kf underlying276 rfl kr (λ_=>rfl) q9 rfl C λ_=>zf3 λw10 a6 af=>?_));have ar:Below N.heap.size w8 w10:=b9.trans (af.mono oo)
  have aw:Ch (wB ws1) N w10:=bR.add ar;have a8:=z6.ch aw (nb _ b1.size);have bh:=h8.low an (ar.mono ak);have bJ:=cr.chl aw λk f=>by have:=aT k (al k f);omega
  refine ax (λy=>(blk y X.R.p 119 (rpC X.R i)/\blk y w1.heap.size 38 (saC t))/\blk y w9.heap.size 276 (wnC x)) ⟨⟨bh.rp.b.drew,a8.drew⟩,a6.drew⟩ <|ac (λy d _ c=>bF d.1.2 c) ?_;refine ac (λy d _ c=>au c) (ac (λy d _ c=>th c) (ac (v:=iv ((i:Int)+1)) (λy d _ c=>lK (v:=iv ((i:Int)+1)) d.1.1 SS c) ?_))
  refine ac (λy d _ c=>Bz c) (ac (v:=u6 x.1) (λy d _ c=>lK d.2 rfl c) ?_);have aq:Below w10.heap.size w10 w10.drew:=(jT _ w10).drew;refine ziU (s:=s.l) ((bJ.fresh aq).sk B) so.eI so.eL λw11 j hj bO=>?_;have H:Below w10.heap.size w10 w11:=aq.trans bO;have J:=af.trans (H.mono af.size);have cv:=J.size;refine ax (λ_=>True) trivial (bo ?_)
  have a9:=ae H a8 a8.lt;have aH:=bh.below H;have a7:=ae H a6 a6.lt;have aX:=dl q9 (w':=w11) λk f=>J.block k (jS q9 k f).2;have aZ:=dl r9 (w':=w11) λk f=>J.block k (jS r9 k f).2;have ba:∀x∈T',TMok 6 i s x/\TMk w.heap.size w11 x:=λx C=>⟨(aL x C).1,(aL x C).2.below J⟩
  have av:Below N.heap.size w8 w11:=b9.trans (J.mono oo);by_cases aO:j≠0
  .obtain⟨jt,rfl,bW,bX⟩:=zjr (by
    have:=hj.resolve_left aO
    rw[show ((i+1:Nat):Int)=(i:Int)+1 by push_cast;rfl];exact this)
   refine aG aO (ax (λy=>(blk y X.R.p 119 (rpC X.R i)/\blk y w1.heap.size 38 (saC t))/\blk y w9.heap.size 276 (wnC x)) ⟨⟨aH.rp.b.drew,a9.drew⟩,a7.drew⟩ ?_);refine ac (λy d _ c=>au c) (ac (λy d _ c=>th c) (ac (v:=iv ((i:Int)+1)) (λy d _ c=>lK (v:=iv ((i:Int)+1)) d.1.1 SS c) ?_))
   refine ac (λy d _ c=>MA c) (ac (λy d _ c=>ldA (n:=6) (vs:=vCs s.l.V) underlying34 rfl kr d.1.2 ag (by rw[bE];exact ab) c) ?_);refine ac (λy d _ c=>Bz c) (ac (v:=u6 x.1) (λy d _ c=>lK d.2 rfl c) (ac (λy d _ c=>MC c) (ac (v:=iv x.2) (λy d _ c=>lK d.2 rfl c) ?_)))
   refine ac (λy d _ c=>au c) (ac (λy d _ c=>rX c) (ac (v:=pB X.R.q.p) (λy d _ c=>lK d.1.1 rfl c) ?_));refine ac (λy d _ c=>au c) (ac (λy d _ c=>th c) (ac (v:=iv ((i:Int)+1)) (λy d _ c=>lK (v:=iv ((i:Int)+1)) d.1.1 SS c) ?_));refine ac (λy d _ c=>Bz c) (ac (v:=u6 x.1) (λy d _ c=>lK d.2 rfl c) ?_);have bi:=aH.below (jT _ w11).drew
   refine Nc bi.rp.pm B λw12 bP=>?_;have D:Below w11.heap.size w11 w12:=(jT _ w11).drew.trans bP;have cu:=zgg (s:=s.l) (i:=(i:Int)+1) (node:=x.1);have cx:Ca=1125899906842624:=rfl
   refine aI ⟨⟨(aH.below D).rp.b,ae D a9 a9.lt⟩,ae D a7 a7.lt⟩ <|ac (v:=iv (x.2-DW s.l ((i:Int)+1) x.1)) (λy _ _ c=>co (by show _<=x.2-DW s.l ((i:Int)+1) x.1;omega) (by show x.2-DW s.l ((i:Int)+1) x.1<=_;omega) c) ?_;obtain⟨m,hm⟩:∃m:MGT,m=(⟨2,i,jt,s.l.V,x.1,x.2-DW s.l ((i:Int)+1) x.1,[]⟩,none,0):=⟨_,rfl⟩
   have em:mgC 2 ((i:Int)+1) ((jt:Int)+1) s.l.V (.slice none 0 0) x.1 (x.2-DW s.l ((i:Int)+1) x.1)=tmC m:=by rw[hm,PV ab];rfl
   refine ac (v:=.agg (tmC m).toArray) (λy d _ c=>zj3 ab (by rw[em];exact c)) ?_;refine qb [.agg (tmC m).toArray] underlying83 (s:=12) kr kr oo rfl oB dc rfl (by
    intro v hv;rw[mS hv]
    have:=eF m
    simpa[Value.cells]using this) λa4 aU bf cL=>?_
   have aU:=cZ aU
   have E:=D.trans (bf.mono D.size);have a2:=dl aZ (w':=a4) λk f=>E.block k (jS aZ k f).2;have ci:=dl aX (w':=a4) λk f=>E.block k (jS aX k f).2;have cm:=E.size
   refine ax (λ_=>True) trivial (zc (enc:=tmC) (x:=m) underlying83 bv bA bw bu rfl oo eF a2 aU (vY m) oo oo oo λa' c' cR ck aF bQ _=>?_);have hl:(T'++[m]).length=T'.length+1:=by simp
   have cM:=aF.size;refine ax (λ_=>True) trivial (ye (aY oo oo ⟨⟨p+1,T'++[m],a',c',qH iv (by push_cast;rfl),F,qH (λn=>Value.slice a' n c') hl.symm,⟨by rw[hl];omega,by rw[hl];omega⟩,(av.trans (E.mono oo)).trans bQ,by omega,λy u=>?_,λj hj U=>?_,by rw[hl];exact ck,Pq ci a2 dc aF⟩,M⟩))
   .rcases oU.1 u with u|u
    .obtain⟨y1,y2⟩:=ba y u;exact⟨y1,(y2.below E).grow a2 aF⟩
    .rw[mS u];subst hm;refine⟨⟨rfl,bW,bX,rfl,.inr ⟨rfl,rfl,rfl,rfl,k3,by show 1<=x.2-DW s.l ((i:Int)+1) x.1;omega,by show x.2-DW s.l ((i:Int)+1) x.1<=Ca;omega⟩⟩,⟨⟨rfl,λa=>qI a (qW 0),λi x C=>by simp at C⟩,λb o a=>by cases a⟩⟩
   .obtain⟨y,y1,y2⟩:=ai j hj U;exact⟨y,List.mem_append_left _ y1,y2⟩
  .exact aB aO (ye (aY oo oo ⟨⟨p+1,T',bG,bI,qH iv (by push_cast;rfl),F,rfl,⟨bn,by omega⟩,av,by omega,ba,ai,aZ,aX⟩,M⟩))
 .refine aB oo (GY (c w9 {X with ws:=ws1} T' bG bI ?_ (h8.low an (b9.mono ak)) aL (λ_=>ai) ⟨by omega,λhz=>?_⟩ (wI r9 ak) an rfl))
  .exact⟨aa.R,aa.m,aa.ch.add (b9.mono ak),aa.new⟩
  .have e1:T1=[]:=List.eq_nil_iff_forall_not_mem.2 λx C=>by
    obtain⟨b,t1,y1,hm,_⟩:=ay x C
    have:=(aj _ hm).1
    rw[hz]at this;cases this
   have e2:T1.length=0:=by rw[e1];rfl
   have:=bm (by rw[aS,tL oo];exact ap)
   omega
end
end
def Ji{K:KV}(h:box Q 67 Z (λa=>box Q 32 H λb=>alc Q 83 λc=>ld Q 67 a λd=>call Q 185 #[d,.func (.func 189) #[] #[a,b,c]] λ_=>ld Q 83 c λa=>sto Q 83 c a λ_=>bA Q [(some 83,c)] K) w):Gives Q 175 #[Z,H] w K:=aw func175 kr (mpK h)
def Gx{K:KV}(h:aL (λS w=>hL S 67 U λa=>hN S a λa=>hF S 105 a 0 λa=>hL S 93 a λa=>hL S 32 H λb=>call Q 190 #[a,b] (λa=>aL λ_=>sto Q 83 Z a λ_=>K (ci 0)) w) w.drew):Gives Q 189 #[U,H,Z] w K:=aw func189 kr (mpK h)
section
open Go.ChangeMaps
section
variable  {K:KV}  {Y:DuX}{s:RS}{A:List EV} 
def zfL{m:Int}(h:DuM w i Y s A fu)(hi:i<6)(hp:PI s.l)(hG:s.l.G.length<=1000000)(hA:∀e∈s.A,e.q<6)(af:s.A.Pairwise λa b=>a.q=b.q->a.s<b.s)(ab:s.A.length<=30000)(c:∀w' Y' (T:List MGT) n r,DuM w' i Y' s A fu->DuS w w' Y Y'->(∀x∈T,TMok 6 i s x/\TMk w.heap.size w' x)->((i:Int)+1∈pF s.l.I s.l.L 6->∀j:Nat,(j:Int)+1∈pF s.l.I s.l.L 6->j≠i->∃x∈T,x.1.k=1/\x.1.t=j)->(T.length<=38/\(Y.X.ws=[]->T.length<=(pF s.l.I s.l.L 6).length-1))->w'.ownsRow w.heap.size 268 12 (.slice n T.length r) T.length (T.flatMap tmC)->Y'.X.W=Y.X.W->(∀k∈DA Y',k<w.heap.size)->Y'.p=Y.p/\Y'.u=Y.u->K (.slice n T.length r) w'):call Q 175 #[pB Y.u,u6 m] K w:=by
 refine ao (goK func175) (Ji (bU λM J V s1=>bU λC N b2 s2=>cD (z:=.slice none 0 0) kr λw3 z3 b3 s3=>?_));have J:blk M w.heap.size 67 [pB Y.u]:=J;have N:blk C M.heap.size 32 [u6 m]:=N;have z3:blk w3 C.heap.size 83 [.slice none 0 0]:=z3;have O:Below M.heap.size M w3:=b2.trans (b3.mono b2.size);have g:=V.trans (O.mono V.size);have J:=ae O J J.lt
 have N:=ae b3 N N.lt;have h3:=h.below g;have F:=h.lt;have l2:w.heap.size<=C.heap.size:=(V.trans (b2.mono V.size)).size;refine lK (v:=pB Y.u) J rfl (Qb h3 (cB (all:=#[pB w.heap.size,pB M.heap.size,pB C.heap.size]) rfl (ao (goK func189) (Gx ?_))));have D:=h3.below (jT _ w3).drew
 refine ax (λy=>blk y w.heap.size 67 [pB Y.u]/\blk y M.heap.size 32 [u6 m]/\blk y Y.u 105 [pB Y.X.R.p,pB Y.q,.bool false]) ⟨J.drew,N.drew,D.b⟩ ?_;refine ac (v:=pB Y.u) (λy d _ c=>lK d.1 rfl c) (ac (λy d _ c=>au c) (ac (λy d _ c=>HL c) (ac (v:=pB Y.X.R.p) (λy d _ c=>lK d.2.2 rfl c) (ac (v:=u6 m) (λy d _ c=>lK d.2.1 rfl c) ?_))))
 refine zgI D.rp hp hi hG hA af ab λw4 X4 T n r ag r4 Z hj ad U aa W4=>?_;obtain⟨h4,t4⟩:=D.step ag r4;have ah:=(DuS.refl g.drew).trans t4;have d3:w3.drew.heap.size=w3.heap.size:=rfl;have l3:=z3.lt;have nz:C.heap.size∉DA {Y with X:=X4}:=λE=>(t4.na _ E).elim (λE=>by have:=F _ E;omega) λE=>by omega
 have z4:=z3.drew.ch t4.ch λE=>by have:=F _ (M9 E);omega
 have e0:83∉[5,3,165]:=by decide
 refine ax (λ_=>True) trivial (dw kf z4 oB rfl λw5 z5 P=>?_);have z5:blk w5 C.heap.size 83 [.slice n T.length r]:=z5;refine lK (v:=.slice n T.length r) z5 rfl (dw kf z5 oB rfl λw6 z6 S=>?_);have z6:blk w6 C.heap.size 83 [.slice n T.length r]:=z6
 have o:Oth C.heap.size w4 w6:=⟨S.os.trans P.os,S.tape.trans P.tape,S.output.trans P.output,S.size.trans P.size,λx H=>(S.other x H).trans (P.other x H)⟩
 have h6:=h4.oth o nz z4 e0;refine uO (v:=.slice n T.length r) (λ_ c=>lK z6 rfl c) ?_;refine c w6 {Y with X:=X4} T n r h6 (ah.add (aK (jT _ w4) o l2)) (λx H=>⟨(Z x H).1,?_⟩) hj ad (dl (wI U g.size) λk f=>o.other k λe=>?_) W4 (λk f=>(t4.na k f).elim (F k) λE=>?_) ⟨rfl,rfl⟩
 .exact TMk.kp (B:=w.heap.size) ⟨(Z x H).2.vr,λb o a=>⟨qR g.size ((Z x H).2.ev b o a).1,((Z x H).2.ev b o a).2⟩⟩ λk cs f=>o.other k λe=>qI e (f.ne z4 dc)
 .have:=(jS U k f).1
  omega
 .rcases qj.1 f with f|f
  .have:=aa k f;omega
  .exact h.ltq k f
end
end
abbrev R39:Int:=549755813888
def zfh(e:EV):Prop:=e.k≠7/\e.r<R39
structure AgS(l:PL) (i:Nat):Prop where
 I:l.I.getD i false=true
 L:l.L.getD i false=false
 g:∀g∈l.G,g.o=(i:Int)+1->g.q<R39/\g.b<R39
 r:∀r∈l.R.getD i [],r<R39
def Wt{L:List Bool}{k:Nat}{b:Bool}(h:j≠k):(L.set k b).getD j false=L.getD j false:=by simp only[oN];rw[jA (Ne.symm h)]
def zcb{L:List Bool}{k:Nat}(h:L.getD j false=true):(L.set k true).getD j false=true:=by
 by_cases b:j=k
 .subst b;have c:j<L.length:=by
   rcases Nat.lt_or_ge j L.length with a|a
   .exact a
   .rw[oN,jC a]at h;cases h
  rw[oN,jB c];rfl
 .rw[Wt b];exact h
section
variable {l:PL}  {e:EV}
def zjQ(a:dI e=true):e.o=(i:Int)+1↔e.q=i:=by
 have:=jb a
 unfold EV.q;omega
def AgS.eff(h:AgS l i)(k:OK e l)(j:e.q=i->zfh e):AgS (eff e l) i:=by
 have n:=zjQ (i:=i) k.may;refine⟨?_,?_,λg b c=>?_,λr a=>?_⟩
 .show (wN e l.I).getD i false=true;unfold wN;split
  .exact zcb h.I
  .exact h.I
 .show (wO e l.L).getD i false=false;unfold wO;split
  .rename_i s;rw[Wt λp=>(j p.symm).1 s];exact h.L
  .exact h.L
 .have b:g∈(gop e).ap l.G:=b;unfold gop at b;split at b
  .rcases BD.1 b with rfl|b
   .exact⟨(j (n.1 c)).2,by show (0:Int)<R39;decide⟩
   .exact h.g g b c
  split at b
  .obtain⟨o,d,rfl⟩:=qT.1 b;unfold tM at *;split at c
   .rename_i f;rw[oJ f];exact⟨(h.g o d c).1,(j (n.1 (f.1 ▸ c))).2⟩
   .rename_i f;rw[oI f];exact h.g o d c
  .exact h.g g b c
 .have a:r∈(rF e l.R).getD i []:=a;unfold rF at a;split at a
  .by_cases m:e.q=i
   .by_cases t:i<l.R.length
    .rw[m,oN,jB t]at a;rcases oU.1 (show r∈l.R.getD i []++[e.r]from a)with a|a
     .exact h.r r a
     .rw[mS a];exact(j m).2
    .rw[oN,jC (by rw[qN];omega)]at a;cases a
   .rw[oN,jA m, <-oN]at a;exact h.r r a
  .exact h.r r a
def AgS.run:∀{A:List EV} {l:PL},AgS l i->PI l->okL Go.Proofs.YtgohpbmmcgenpaaGreatDoor.eff OK l A->(∀e∈A,e.q=i->zfh e)->AgS (je Go.Proofs.YtgohpbmmcgenpaaGreatDoor.eff l A) i
 | [],_,h,_,_,_=>h
 | e::A,l,h,hp,hok,he=>AgS.run (A:=A) (h.eff hok.1 (he e oB)) (hp.eff hok.1) hok.2 λx a=>he x (oH _ a)
def AgS.zero{n:Nat}(hi:i<n)(c:n<=6):AgS (pl0 n) i:=by
 refine⟨?_,?_,λg b=>(by cases b),λr a=>?_⟩
 .unfold pl0;rw[oN,qC,List.getElem?_range oo];simpa using hi
 .unfold pl0;rw[oN,List.getElem?_replicate_of_lt oo];rfl
 .unfold pl0 at a;rw[oN,List.getElem?_replicate_of_lt oo]at a;cases a
def tkX(nd a:Int):AK:=⟨3,nd,0,a,R39,0⟩
variable {nd a:Int}
def Xs:zb3 (tkX nd a):=⟨by show R39≠0;decide,.inl rfl⟩
def AgS.not(h:AgS l i):sx ((i:Int)+1) l (tkX nd a):=λ_ g f=>by
 unfold agM;by_cases c:g.o=(i:Int)+1
 .obtain⟨j,k⟩:=h.g g f c;have d : ¬g.q=(tkX nd a).r:=by show ¬g.q=R39;omega
  have e : ¬g.b=(tkX nd a).r:=by show ¬g.b=R39;omega
  simp[d,e]
 .simp[c]
def zhb(a:PI l)(id:Int):nu (aN l.N id)=true:=by
 unfold aN;split
 .rename_i x b;exact(a.may x (List.mem_of_find?_eq_some b)).1
 .decide
def za4{f:List Int->Int}{N:List ND}{S:Int->Prop}(a:S 0)(h:∀id,S (f (aN N id))):∀p,S (Ap f N p)
 | []=>a
 | id::p=>by
  unfold Ap;split
  .exact h id
  .exact za4 a h p
def AgS.err(h:AgS l i)(j:PI l)(hi:i<6)(x:dR l.N nd=true)(u:1<=a/\a<=65536)(B:l.V.getD i 0<1000000):eC (mkP i l (tkX nd a)) l=0\/eC (mkP i l (tkX nd a)) l=11\/eC (mkP i l (tkX nd a)) l=6:=by
 have e:(mkP i l (tkX nd a)).V=l.V:=zfn j.v6;have m:(mkP i l (tkX nd a)).s=l.V.getD i 0+1:=rfl;have c:(mkP i l (tkX nd a)).o=(i:Int)+1:=rfl;have p:(mkP i l (tkX nd a)).q=i:=by show ((i:Int)+1-1).toNat=i;omega
 have A:=j.vb i hi;have b:dI (mkP i l (tkX nd a))=true:=by
  unfold dI;rw[e,m,c,show ((i:Int)+1-1).toNat=i by omega];have y:mkP i l (tkX nd a)=FO (mkP i l (tkX nd a)):=by simp[FO,mkP,mkE,tkX]
  rw[<-y];simp only[oM,oP,jR,bO];refine⟨by constructor<;>omega,by omega,by omega,by omega,λk w=>?_,trivial,?_⟩
  .exact(j.vb k (jQ.1 w)).2
  .show fdE (mkP i l (tkX nd a))=true
   have:(1:Int)<=R39:=by decide
   simp[fdE,mkP,mkE,tkX,smE];omega
 have d:tQ l.V (mkP i l (tkX nd a))=false:=by
  unfold tQ;rw[b,m,c,show ((i:Int)+1-1).toNat=i by omega,qY];exact qE oo
 have g:fW l.V (mkP i l (tkX nd a))=true:=by
  unfold fW;rw[b,e,m,c,show ((i:Int)+1-1).toNat=i by omega];simp only[qY,oM,oP,jR];exact⟨trivial,λk _=>Int.le_refl _⟩
 have f:po l.R i R39=false:=by
  unfold po;refine Bool.eq_false_iff.2 λv=>?_
  have:=h.r R39 (by simpa using v)
  omega
 unfold eC;rw[b,d,g,p,h.I,h.L];simp only[Bool.true_eq_false,if_false,or_self];unfold pZ;rw[p];rw[oI (show ¬(mkP i l (tkX nd a)).k=1 by show ¬(3:Int)=1;decide),oI (show ¬(mkP i l (tkX nd a)).k=2 by show ¬(3:Int)=2;decide),oJ (show (mkP i l (tkX nd a)).k=3 from rfl),show (mkP i l (tkX nd a)).r=R39 from rfl,f,show (mkP i l (tkX nd a)).n=nd from rfl,x]
 simp only[Bool.false_eq_true,Bool.true_eq_false,if_false];refine za4 (S:=λz=>z=0\/z=11\/z=6) (.inl rfl) (λid=>?_) _;rw[c,show (mkP i l (tkX nd a)).a=a from rfl];have t:=Ux (o:=(i:Int)+1) (a:=a) (zhb j id) u.1 (by show a<=MXA;unfold MXA;omega) oo oo;unfold vz CN;rw[t];simp only[ne_eq,not_true_eq_false,if_false];split
 .exact .inr (.inl rfl)
 .split
  .exact .inr (.inr rfl)
  .exact .inl rfl
def nG(l:PL)(i:Nat):Nat:=l.G.countP λg=>decide (g.o=(i:Int)+1)&&decide (g.q=R39)
def TZ{p:GR->Bool}{x:GR}:∀{G:List GR},(kJ x G).countP p=G.countP p+if p x then 1 else 0
 | []=>by simp[kJ,List.countP_cons]
 | y::G=>by
  unfold kJ;split
  .simp[List.countP_cons]
  .rw[List.countP_cons,TZ (G:=G),List.countP_cons];omega
def AgS.none(h:AgS l i):nG l i=0:=by
 unfold nG;rw[List.countP_eq_zero];intro g b a;simp only[oM,oP]at a
 have:=(h.g g b a.1).1
 omega
def zbC:(Go.Proofs.YtgohpbmmcgenpaaGreatDoor.eff (mkP i l (tkX nd a)) l).G=kJ ⟨(i:Int)+1,R39,nd,a,0⟩ l.G:=by show (gop (mkP i l (tkX nd a))).ap l.G=_;unfold gop;rw[oJ (show (mkP i l (tkX nd a)).k=3 from rfl)];rfl
def AgS.one(h:AgS l i):nG (Go.Proofs.YtgohpbmmcgenpaaGreatDoor.eff (mkP i l (tkX nd a)) l) i=1:=by have b:=h.none;unfold nG at *;rw[zbC,TZ,b];simp
def AgS.again(h:AgS l i){e:Int}(k:NoP i (Go.Proofs.YtgohpbmmcgenpaaGreatDoor.eff (mkP i l (tkX nd a)) l) (tkX nd a) e):e=0:=by
 have j:(⟨(i:Int)+1,R39,nd,a,0⟩:GR)∈(Go.Proofs.YtgohpbmmcgenpaaGreatDoor.eff (mkP i l (tkX nd a)) l).G:=by rw[zbC];exact BD.2 (.inl rfl)
 rcases k with⟨_,g,b,d,f,_⟩|⟨c,_⟩
 .rw[zbC]at b;rcases BD.1 b with rfl|b
  .exact f (.inl ⟨rfl,rfl,rfl,rfl⟩)
  .have:=h.not (nd:=nd) (a:=a) Xs g b
   rw[this]at d;cases d
 .have:=c Xs _ j
  simp[agM,tkX]at this
def AgS.noyes(h:AgS l i):¬sx ((i:Int)+1) (Go.Proofs.YtgohpbmmcgenpaaGreatDoor.eff (mkP i l (tkX nd a)) l) (tkX nd a):=λb=>by
 have c:(⟨(i:Int)+1,R39,nd,a,0⟩:GR)∈(Go.Proofs.YtgohpbmmcgenpaaGreatDoor.eff (mkP i l (tkX nd a)) l).G:=by rw[zbC];exact BD.2 (.inl rfl)
 have:=b Xs _ c
 simp[agM,tkX]at this
def AgS.nop(h:AgS l i){e:Int}(f:NoP i l (tkX nd a) e):e=eC (mkP i l (tkX nd a)) l/\e≠0:=by
 rcases f with⟨_,g,d,b,_⟩|⟨_,c,rfl⟩
 .have:=h.not (nd:=nd) (a:=a) Xs g d
  rw[this]at b;cases b
 .exact⟨rfl,c⟩
end
def zay{i:Nat}:∀{F:List EV} {l:PL},PI l->okL eff OK l F->(∀e∈F,e.q≠i)->(je eff l F).V.getD i 0=l.V.getD i 0
 | [],_,_,_,_=>rfl
 | e::F,l,hp,hok,ho=>by
  have c:=zay (i:=i) (hp.eff hok.1) hok.2 λx d=>ho x (oH _ d);have a:=congrFun (Ew hp hok.1) i;unfold kV upD at a;rw[oI (λb=>ho e oB b.symm)]at a;exact c.trans a
def JT{i:Nat}:∀{F:List EV} {l:PL},PI l->okL eff OK l F->l.V.getD i 0<=(je eff l F).V.getD i 0
 | [],_,_,_=>Int.le_refl _
 | e::F,l,hp,hok=>by
  have c:=JT (i:=i) (hp.eff hok.1) hok.2;have b:=congrFun (Ew hp hok.1) i;unfold kV upD at b;refine Int.le_trans ?_ c;rw[b];split
  .rename_i d;have a:=hok.1.rdy;unfold fW at a;simp only[oM,oP]at a
   have:e.s=l.V.getD e.q 0+1:=a.2.1
   rw[d];omega
  .exact Int.le_refl _
def zcw:∀{F:List EV} {l:PL},PI l->okL eff OK l F->∀e∈F,e.s<=(je eff l F).V.getD e.q 0
 | [],_,_,_,_,a=>by cases a
 | x::F,l,hp,hok,e,a=>by
  rcases oO.1 a with rfl|a
  .refine Int.le_trans (b:=(eff e l).V.getD e.q 0) ?_ (JT (F:=F) (i:=e.q) (hp.eff hok.1) hok.2);have c:=congrFun (Ew hp hok.1) e.q;unfold kV upD at c;rw[c,oJ rfl];exact Int.le_refl _
  .exact zcw (F:=F) (hp.eff hok.1) hok.2 e a
structure EvT(T:Nat->Int) (e:EV):Prop where
 may:dI e=true
 fit:vC e
 le:e.s<=T e.q
structure EvK(T:Nat->Int) (i:Nat) (e:EV):Prop where
 fit:vC e
 oth:e.q≠i->e.s<=T e.q
 own:e.q=i->e.k≠7/\e.r<T 6
structure SiP(n i:Nat) (T:Nat->Int) (s:RS) (W:HM):Prop where
 d:DuI n i s W
 t:s.l.V.getD i 0=T i
 a:∀e∈s.A,EvK T i e
 w:∀p∈W,p.2.s<=T p.2.q
structure SdP(n i:Nat) (T:Nat->Int) (A L:List EV):Prop where
 ok:okL eff OK (pl0 n) (A++L)
 t:(je eff (pl0 n) A).V.getD i 0=T i
 a:∀e∈A++L,EvK T i e
section
variable {n:Nat}{T T':Nat->Int}{s:RS}{W W':HM}{l':PL}{F L A:List EV}{P':List (List Int)}{e:EV}
def EvT.mono(h:EvT T e)(a:∀q,T q<=T' q):EvT T' e:=⟨h.may,h.fit,Int.le_trans h.le (a _)⟩
def EvK.mono(h:EvK T i e)(b:∀q,T q<=T' q):EvK T' i e:=⟨h.fit,λa=>Int.le_trans (h.oth a) (b _),λa=>⟨(h.own a).1,Int.lt_of_lt_of_le (h.own a).2 (b 6)⟩⟩
def SiP.mono(h:SiP n i T s W)(b:∀q,T q<=T' q)(hi:T' i=T i):SiP n i T' s W:=⟨h.d,h.t.trans hi.symm,λe c=>(h.a e c).mono b,λp f=>Int.le_trans (h.w p f) (b _)⟩
def SdP.mono(h:SdP n i T A L)(b:∀q,T q<=T' q)(hi:T' i=T i):SdP n i T' A L:=⟨h.ok,h.t.trans hi.symm,λe c=>(h.a e c).mono b⟩
def SiP.tell(h:SiP n i T s W):∀e∈s.A,EvT T e:=λe b=>by
 have f:=VM h.d.ok e b;refine⟨f,(h.a e b).fit,?_⟩;by_cases c:e.q=i
 .rw[c, <-h.t,h.d.st]
  have:=zcw (GI n) h.d.ok e b
  rwa[c]at this
 .exact(h.a e b).oth c
def SiP.hear(h:SiP n i T s W)(hL:∀e∈L,EvT T e)(k:DG s.l (nM s.l.V W L) l' W' F):SiP n i T ⟨l',s.A++F,P'⟩ W':=by
 have f:=h.d.hear (P':=P') (λe b=>⟨(hL e b).fit,λg=>by rw[h.t];have:=(hL e b).le;rwa[g]at this⟩) k;obtain⟨_,_,_,o,r,u⟩:=k.inv h.d.pi h.d.hk.puts;have j:∀p∈nM s.l.V W L,p.2.s<=T p.2.q/\p.2.q≠i/\vC p.2:=λp f=>by
  rcases Nd p f with c|⟨c,z⟩
  .exact⟨h.w p c,h.d.nw p c,h.d.fw p c⟩
  .refine⟨(hL _ c).le,λg=>?_,(hL _ c).fit⟩
   have:=(hL _ c).le
   rw[g, <-h.t]at this;rw[g]at z;omega
 have m:∀e∈F,e.s<=T e.q/\e.q≠i/\vC e:=λe b=>by
  obtain⟨_,p,f,rfl⟩:=u e b;exact j p f
 refine⟨f,?_,λe b=>?_,λp f=>(j p (k.sub p f)).1⟩
 .show l'.V.getD i 0=T i;rw[<-h.t,r];exact zay h.d.pi o λe b=>(m e b).2.1
 .rcases oU.1 b with b|b
  .exact h.a e b
  .obtain⟨v,x,y⟩:=m e b;exact⟨y,λ_=>v,λg=>qI g x⟩
def SiP.make{x:AK}(h:SiP n i T s W)(u:Ak x)(g:eC (mkP i s.l x) s.l=0)(m:x.k≠7/\x.r<T 6)(j:∀q,T' q=if q=i then T q+1 else T q):SiP n i T' ⟨eff (mkP i s.l x) s.l,s.A++[mkP i s.l x],P'⟩ W:=by
 have c:∀q,T q<=T' q:=λq=>by rw[j];split<;>omega
 have f:=(qn h.d.pi).1 g;refine⟨h.d.make u g,?_,λe b=>?_,λp v=>Int.le_trans (h.w p v) (c _)⟩
 .have o:=congrFun (Ew h.d.pi f) i;unfold kV upD at o;show (eff (mkP i s.l x) s.l).V.getD i 0=T' i;rw[o,oJ mkP_q.symm,j,oJ rfl, <-h.t];rfl
 .rcases oU.1 b with b|b
  .exact(h.a e b).mono c
  .rw[mS b];exact⟨DZ h.d.pi u,λy=>qI mkP_q y,λ_=>⟨m.1,Int.lt_of_lt_of_le m.2 (c 6)⟩⟩
def SiP.off(h:SiP n i T s W):SdP n i T s.A []:=⟨by rw[oW];exact h.d.ok,by rw[<-h.d.st];exact h.t,λe b=>h.a e (by rwa[oW]at b)⟩
def SiP.offL(h:SiP n i T s W)(b:okL eff OK s.l L)(hL:∀e∈L,EvK T i e):SdP n i T s.A L :=
 ⟨BW.2 ⟨h.d.ok,by rw[<-h.d.st];exact b⟩,by rw[<-h.d.st];exact h.t,λe c=>(oU.1 c).elim (h.a e) (hL e)⟩
def SdP.on(h:SdP n i T A L)(j:Nat)(d:∀q,T' q=if q=i then (je eff (pl0 n) (A++L.take j)).V.getD i 0 else T q):(∀q,T q<=T' q)/\SiP n i T' ⟨je eff (pl0 n) (A++L.take j),A++L.take j,gp0⟩ []:=by
 have e:A++L=(A++L.take j)++L.drop j:=by rw[jD,List.take_append_drop]
 have b:okL eff OK (pl0 n) (A++L.take j):=by have:=h.ok;rw[e]at this;exact(BW.1 this).1
 have g:∀q,T q<=T' q:=λq=>by
  rw[d];split
  .rename_i m;subst m;rw[<-h.t];obtain⟨k,l⟩:=BW.1 b;rw[BI];exact JT (ledger_sys.invs (GI n) k) l
  .exact Int.le_refl _
 have f:∀e∈A++L.take j,EvK T i e:=λe c=>h.a e ((oU.1 c).elim (λh=>List.mem_append_left _ h) λh=>List.mem_append_right _ (List.mem_of_mem_take h));exact⟨g,⟨ledger_sys.invs (GI n) b,HK.nil,b,rfl,λe c=>(f e c).fit,by simp,by simp⟩,by rw[d,oJ rfl],λe c=>(f e c).mono g,by simp⟩
def SiP.ag(h:SiP n i T s W)(f:T 6<=R39)(hi:i<n)(g:n<=6):AgS s.l i:=by rw[h.d.st];exact(AgS.zero hi g).run (GI n) h.d.ok λe b c=>⟨((h.a e b).own c).1,Int.lt_of_lt_of_le ((h.a e b).own c).2 f⟩
end
section
open Go.ChangeMaps
def Wz(A L:List EV)(j:Nat):iI (A++L.take j)=iI A++(iI L).take j:=by unfold iI;rw[jJ,List.map_take]
def zaC(A L:List EV)(m:Nat)(c:m<=(aO (iI L)).length):∃j,tX (aO (iI A)++(aO (iI L)).take m)=(iI (A++L.take j),(aO (iI (A++L.take j))).length)/\(aO (iI A)++(aO (iI L)).take m).take (aO (iI (A++L.take j))).length=aO (iI (A++L.take j)):=by obtain⟨j,_,a,b⟩:=zbK (Vm A) (Vm L) c;exact⟨j,by rw[Wz];exact a,by rw[Wz];exact b⟩
section
variable  {K:KV}{p u:Nat}{A L:List EV}{D:DS}
def zje{n:Nat}(h:DnM w p u A L)(v:RIn w a n c X0)(q:∀S f j,tX f=(iI (A++L.take j),(aO (iI (A++L.take j))).length)->f.take (aO (iI (A++L.take j))).length=aO (iI (A++L.take j))->DK S p ⟨f,.no,false, -1⟩->Ch [p] w S->K (ci 0) S):call Q 183 #[ptr p,.slice a n c] K w:=by
 obtain⟨z,s⟩:=h.dk;refine zjZ s rfl (λn k=>?_) v λS f l o d c=>?_
 .have k:(if L=[]then LO.no else LO.app (aO (iI L)))=.cut n:=k;split at k<;>cases k
 have l:(if L=[]then LO.no else LO.app (aO (iI L)))=.no->f=aO (iI A):=l;have o:∀b,(if L=[]then LO.no else LO.app (aO (iI L)))=.app b->∃m,m<=b.length/\f=aO (iI A)++b.take m:=o;by_cases r:L=[]
 .obtain⟨j,g,i⟩:=zaC A L 0 (qG _);have e:=l (oJ r);rw[qX,oW, <-e]at g i;exact q S f j g i d c
 .obtain⟨m,t,e⟩:=o _ (oI r);obtain⟨j,g,i⟩:=zaC A L m t;rw[<-e]at g i;exact q S f j g i d c
def zin{n:Nat}(d:DK w p D)(e:D.off=false)(h:K (ci 3) w):call Q 183 #[ptr p,.slice a n c] K w:=by
 obtain⟨s,m,g,i,f,b,_⟩:=d;rw[e]at b;refine ao (goK func183) (JC ?_)
 (repeat (first|refine Le ?_|refine au ?_|refine Eu ?_|(refine DU ?_ (by assumption) ?_ ?_;rotate_left;exact rfl)|refine aD ?_))
 refine bH ?_
 (repeat (first|refine bc ?_))
 exact h
end
inductive SX where
 | up (Y:DuX) (s:RS) (fu:Int)
 | dn (p u:Nat) (A L:List EV)
def SX.p:SX->Nat
 | .up Y _ _=>Y.p
 | .dn p _ _ _=>p
def SX.u:SX->Nat
 | .up Y _ _=>Y.u
 | .dn _ u _ _=>u
def SX.B:SX->List Nat
 | .up Y _ _=>DA Y
 | .dn p u _ _=>[p,u]
def SX.F:SX->List Nat
 | .up Y _ _=>DF Y
 | .dn p u _ _=>[p,u]
def SX.n:SX->Nat
 | .up _ s _=>s.A.length
 | .dn _ _ A L=>A.length+L.length
def SxM(w:oG)(n i:Nat)(T:Nat->Int):SX->Prop
 | .up Y s fu=>DuM w i Y s s.A fu/\SiP n i T s Y.X.W
 | .dn p u A L=>DnM w p u A L/\SdP n i T A L
section
variable  {n:Nat}{T T':Nat->Int}{x:SX}{F:List Nat}{Y:DuX}{s:RS}{A:List EV} 
def SX.FB:∀k∈x.F,k∈x.B:=by
 cases x with
 | up Y s fu=>exact λk=>M9
 | dn p u A L=>exact λk h=>h
def DuM.chF(h:DuM w i Y s A fu)(c:Ch F w S)(e:noBy w F)(a:∀k∈DA Y,k∉F):DuM S i Y s A fu :=
 {h with
  b:=h.b.ch c (a _ (qj.2 (.inr mp3)))
  rp:=h.rp.ch c λk d=>a k (qj.2 (.inl d))
  jk:=h.jk.ch c e (a _ (qj.2 (.inr mp1))) (a _ (qj.2 (.inr mp2)))}
def DuM.noBy(h:DuM w i Y s A fu):Go.Proofs.YtgohpbmmcgenpaaGreatDoor.noBy w (DF Y):=λk E l j g a=>by
 obtain⟨o,m⟩:=h.jk.1.blk;have f:∀{z:Nat} {E':TypeId} {c:oE},Go.Proofs.YtgohpbmmcgenpaaGreatDoor.blk w z E' c->E'∉[5,3,165]->k≠z:=λn d => j.ne n λe=>d (e ▸ g);rcases rH.1 a with a|a
 .exact h.rp.noBy k E l j g a
 .simp only[oO,oR,or_false]at a;rcases a with a|a|a
  .exact f m dc a
  .exact f h.jk.2 dc a
  .exact f h.b dc a
def SxM.lt(h:SxM w n i T x):∀k∈x.B,k<w.heap.size:=by
 cases x with
 | up Y s fu=>exact h.1.lt
 | dn p u A L =>
  obtain⟨r,q,d,c⟩:=h.1.b;intro k a;rcases oO.1 a with rfl|a
  .exact h.1.dk.choose_spec.lt
  .rw[mS a];exact c.lt
def SxM.noBy(h:SxM w n i T x):Go.Proofs.YtgohpbmmcgenpaaGreatDoor.noBy w x.F:=by
 cases x with
 | up Y s fu=>exact h.1.noBy
 | dn p u A L =>
  obtain⟨r,q,d,g⟩:=h.1.b;obtain⟨_,a⟩:=h.1.dk;obtain⟨m,j⟩:=a.blk;intro k E l a f c;rcases oO.1 c with e|c
  .exact a.ne j (λe=>by subst e;revert f;decide) e
  .exact a.ne g (λe=>by subst e;revert f;decide) (mS c)
def SxM.ch(h:SxM w n i T x)(b:Ch F w S)(c:Go.Proofs.YtgohpbmmcgenpaaGreatDoor.noBy w F)(a:∀k∈x.B,k∉F):SxM S n i T x:=by
 cases x with
 | up Y s fu=>exact⟨h.1.chF b c a,h.2⟩
 | dn p u A L=>exact⟨h.1.ch b c (a _ (by simp[SX.B])) (a _ (by simp[SX.B])),h.2⟩
def SxM.below(h:SxM w n i T x)(a:Below w.heap.size w S):SxM S n i T x:=h.ch (F:=[]) (Ch.of_below a) (noBy.nil w) (λ_ _=>by simp)
def SxM.mono(h:SxM w n i T x)(a:∀q,T q<=T' q)(hi:T' i=T i):SxM w n i T' x:=by
 cases x with
 | up Y s fu=>exact⟨h.1,h.2.mono a hi⟩
 | dn p u A L=>exact⟨h.1,h.2.mono a hi⟩
end
structure MsP(T:Nat->Int) (x:MG):Prop where
 kd:(x.k=1/\x.n=0/\x.a=0/\x.L.length<=16)\/(x.k=2/\x.L=[]/\x.n≠0/\1<=x.a/\x.a<=Ca)
 f6:x.f<6
 t6:x.t<6
 ft:x.f≠x.t
 v6:x.V.length=6
 vle:leV x.V (List.replicate 6 1099511627776)=true
 ev:∀e∈x.L,EvT T e
def MsP.mono{T T':Nat->Int}{x:MG}(h:MsP T x)(a:∀q,T q<=T' q):MsP T' x:={h with ev:=λe b=>(h.ev e b).mono a}
section
variable  {K:KV}{n:Nat}{T:Nat->Int}{Y:DuX}{s:RS} 
def zgM{x:MG}{Z:Int}(h:DuM w i Y s s.A fu)(g:SiP n i T s Y.X.W)(hi:i<6)(hG:s.l.G.length<=1000000)(hA:s.A.length<=29000)(h6:0<T 6)(m:MsP T x)(ht:x.t=i)(hv:VR w a x.L.length c x.L)(S:∀b o,a=some ⟨b,o,none⟩->b∉FF Y.X)(N:∀w' Y' s' fu' T',(∀q,T q<=T' q)->(∀q,q≠i->T' q=T q)->DuM w' i Y' s' s'.A fu'->SiP n i T' s' Y'.X.W->s'.A.length<=s.A.length+64->DuS w w' Y Y'->Y'.p=Y.p/\Y'.u=Y.u->K (ci 0) w')(h8:∀w' L,L.length<=64->DnM w' Y.p Y.u s.A L->SdP n i T s.A L->Ch (DF Y) w w'->K (ci 8) w'):call Q 178 #[pB Y.u,.agg (mgC x.k ((x.f:Int)+1) ((x.t:Int)+1) x.V (.slice (if x.k=1 then a else none) (if x.k=1 then x.L.length else 0) (if x.k=1 then c else 0)) x.n x.a).toArray,u6 Z] K w:=by
 have hP:x.f<s.P.length:=by rw[h.rp.rp.e.l6];exact m.f6
 have j:s.P[x.f]? = some s.P[x.f]:=gE hP;generalize s.P[x.f]=Af at j;have E:x.f≠i:=λe=>m.ft (e.trans ht.symm);rw[ht];rcases m.kd with⟨k1,n0,a0,U⟩|⟨k2,l0,nn,ab⟩
 .rw[k1,n0,a0];simp only[if_true];refine ZV h hi g.d.pi g.d.hk oo hv S (λe v=>⟨(m.ev e v).may,(m.ev e v).fit⟩) g.d.fw U m.f6 E m.v6 m.vle j oo (λw' Y' l' F fu' _ B C H I _ y=>?_) λw' l' W' F _ B I M J=>?_
  .refine N w' Y' _ fu' T (λ_=>Int.le_refl _) (λ_ _=>rfl) C (g.hear m.ev I) ?_ H y;show (s.A++F).length<=_;rw[oT];omega
  .obtain⟨_,_,_,a4,_,_⟩:=I.inv g.d.pi g.d.hk.puts;have hh:=g.hear (P':=s.P) m.ev I;exact h8 w' F B M (g.offL a4 λe v=>hh.a e (List.mem_append_right _ v)) J
 .rw[k2];simp only[show ¬((2:Int)=1)by decide,if_false];have hg:∀z,(⟨5,x.n,(x.f:Int)+1,z,0,0⟩:AK).k≠7/\(⟨5,x.n,(x.f:Int)+1,z,0,0⟩:AK).r<T 6:=λz=>⟨by show (5:Int)≠7;decide,h6⟩
  refine zhC h hi g.d.pi hG oo nn ab m.f6 E m.v6 m.vle j oo (λw' Y' fu' _ C H W' y=>?_) (λw' Y' z fu' _ D C H W' y=>?_) λw' z _ D M J=>?_
  .refine N w' Y' ⟨s.l,s.A,s.P.set x.f (jV Af x.V)⟩ fu' T (λ_=>Int.le_refl _) (λ_ _=>rfl) C ?_ (by show s.A.length<=_;omega) H y;rw[W'];exact⟨{g.d with st:=g.d.st},g.t,g.a,g.w⟩
  .refine N w' Y' _ fu' (λq=>if q=i then T q+1 else T q) (λq=>by split<;>omega) (λq R=>oI R) C ?_ ?_ H y
   .rw[W'];exact g.make (UR g.d.pi D) D (hg z) λ_=>rfl
   .show (s.A++[_]).length<=_;rw[oT,List.length_singleton];omega
  .have O:=(qn g.d.pi).1 D;exact h8 w' _ oB M (g.offL ⟨O,trivial⟩ λe v=>by
    rw[mS v];exact⟨DZ g.d.pi (UR g.d.pi D),λR=>qI mkP_q R,λ_=>hg z⟩) J
end
def zeZ(T:Nat->Int)(i:Nat):Nat->Int:=λq=>if q=i then T q+1 else T q
section
variable  {K:KV}{n:Nat}{T:Nat->Int}{Y:DuX}{s:RS} 
def zjB{x:AK}{v:Int}(h:DuM w i Y s s.A fu)(c:SiP n i T s Y.X.W)(hi:i<6)(hG:s.l.G.length<=1000000)(I:s.A.length<=29000)(t:Ak x)(z:x.k≠7/\x.r<T 6)(o:∀S Y' e,NoP i s.l x e->DuM S i Y' s s.A fu->SiP n i T s Y'.X.W->DuS w S Y Y'->Y'.p=Y.p/\Y'.u=Y.u->K (.tuple #[evV evZ,ci e]) S)(g:∀S Y' s' fu',s'=⟨eff (mkP i s.l x) s.l,s.A++[mkP i s.l x],s.P⟩->eC (mkP i s.l x) s.l=0->sx ((i:Int)+1) s.l x->(fu = -1->fu' = -1)->DuM S i Y' s' s'.A fu'->SiP n i (zeZ T i) s' Y'.X.W->DuS w S Y Y'->(x.r=0->Y'.X.ws=Y.X.ws)->Y'.p=Y.p/\Y'.u=Y.u->K (.tuple #[evV (mkP i s.l x),ci 0]) S)(D:∀S,eC (mkP i s.l x) s.l=0->sx ((i:Int)+1) s.l x->fu≠-1->DnM S Y.p Y.u s.A [mkP i s.l x]->SdP n i T s.A [mkP i s.l x]->Ch (DF Y) w S->K (.tuple #[evV evZ,ci 8]) S):call Q 174 #[pB Y.u,.agg (akC x).toArray,u6 v] K w:=by
 refine zjc h hi c.d.pi hG oo t oo (λS Y' e F m y W' j=>?_) (λS Y' fu' f b a m y W' j=>?_) λS f b a C B=>?_
 .exact o S Y' e F m (by rw[W'];exact c) y j
 .refine g S Y' _ fu' rfl f b a m ?_ y W'.2 j;rw[W'.1];exact c.make t f z λ_=>rfl
 .have q:=(qn c.d.pi).1 f;exact D S f b a C (c.offL ⟨q,trivial⟩ λe E=>by
   rw[mS E];exact⟨DZ c.d.pi t,λH=>qI mkP_q H,λ_=>z⟩) B
end
end
def zfw{A:List EV}{v:List Int}:(tl A v).length<=16/\∀e∈tl A v,e∈A:=by unfold tl;refine⟨by rw[oY,qA];omega,λe b=>?_⟩;obtain⟨p,c,rfl⟩:=qT.1 b;have a:p.1∈(zA A v).map (·.1):=List.mem_map_of_mem (List.mem_of_mem_take c);rw[ziV]at a;exact(qU.1 a).1
def TMok.msp{n:Nat}{T:Nat->Int}{s:RS}{W:HM}{x:MGT}(h:TMok 6 i s x)(j:SiP n i T s W)(hi:i<6):MsP T x.1:=by
 have g:=j.d.pi;refine⟨?_,by rw[h.f];exact hi,h.t,by rw[h.f];exact λe=>h.ne e.symm,by rw[h.V];exact g.v6,?_,λe a=>?_⟩
 .rcases h.is with⟨r,w,m,v,_,e⟩|⟨u,c,_,_,y,o,p⟩
  .exact .inl ⟨r,w,m,by rw[e];exact zfw.1⟩
  .exact .inr ⟨u,c,y,o,p⟩
 .rw[h.V];unfold leV;refine jR.2 λk b=>qF ?_;have b:=jQ.1 b
  have:=(g.vb k b).2
  rw[oN (l:=List.replicate 6 _),List.getElem?_replicate_of_lt b];exact Int.le_of_lt this
 .rcases h.is with⟨_,_,_,v,_,q⟩|⟨_,c,_⟩
  .rw[q]at a;exact j.tell e (zfw.2 e a)
  .rw[c]at a;cases a
end
end Go.Proofs.YtgohpbmmcgenpaaGreatDoor
