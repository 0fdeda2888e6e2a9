import Derived.Test.YtgohpbmmcgenpaaGreatDoorQ7
import Derived.Test.YtgohpbmmcgenpaaGreatDoorQ2
import Derived.Test.YtgohpbmmcgenpaaGreatDoorQ4
import Derived.Shelf.SlSortCmp.NoneTotal
import Derived.Shelf.SlGeneric
import Derived.Ground.SlsfProg
import Derived.Test.YtgohpbmmcgenpaaGreatDoorQ3
import Derived.Test.YtgohpbmmcgenpaaGreatDoorQ6
import Derived.Test.YtgohpbmmcgenpaaGreatDoorQ1
namespace Go.Proofs.YtgohpbmmcgenpaaGreatDoor
set_option maxRecDepth 100000
set_option linter.defProp false
set_option maxHeartbeats 4000000
open Go.Proofs.Tryz
open Go.RowKit
variable {w w' w0 w2 S O:oG}{zf:Nat->oF}{b c o i g m s j z f d c2 gc D ba hi:Nat}{a av a2:Option Addr}{x v r N:Int}{E t e:TypeId}{A:List Int}{B1:KE}{xs vs:oE}{P:Program}{cx cy:Bool}{T:List (Int×Int)}{Z1 N2 O2 P2 Q2 R2 T2 U2 V2 H Z U Y J C:oF}
section
attribute [local irreducible] bin un conv call bS blt slc aq fld bv idx lkp fJ nl eSt rng nxt ent ext alc box bld cH ld sto bj fK mkS ifc pick rdy wts aT sti cond bA Gives aj iK kH cOp
structure VR(w:oG) (a:Option Addr) (n c:Nat) (L:List EV):Prop where
 len:L.length=n
 some_:0<n->∃b o,a=some ⟨b,o,none⟩
 cell:∀(i:Nat) (x:EV),L[i]? = some x->∀b o,a=some ⟨b,o,none⟩->∀(j:Nat) (u:oF),(evC x)[j]? = some u->w.cell? ⟨b,o+i*14+j,none⟩=some u
def VR.bel{B:Nat}{n:Nat}{L:List EV}(h:VR w a n c L)(g:Below B w S)(e:w.heap.size<=B):VR S a n c L :=
 ⟨h.len,h.some_,λi x l b o f j u k=>by
  have:=h.cell i x l b o f j u k
  have d:=jZ w _ this;rw[g.cell (p:=⟨b,o+i*14+j,none⟩) (qQ d e)];exact this⟩
def VR.one{e:EV}(h:blk w b 49 (evC e)):VR w (some ⟨b,0,none⟩) 1 c [e]:=by
 refine⟨rfl,λ_=>⟨_,_,rfl⟩,λi x a g o d j u f=>?_⟩;cases d;cases i with
 | zero =>
  simp only[qL,qD]at a;subst a;rw[h.cell,show 0+0*14+j=j by omega];exact f
 | succ i=>simp at a
def mgC(k f t:Int)(V:List Int)(s:oF)(n x:Int):oE:=[.int .u8 k,iv f,iv t]++(vCs V++[s,u6 n,iv x])
def gpC(L:List (List Int)):oE:=L.flatMap vCs
structure GoM(w:oG) (p:Nat) (L:List (List Int)):Prop where
 b:blk w p 151 (gpC L)
 l6:L.length=6
 v6:∀v∈L,v.length=6
def Yq:∀{L:List (List Int)} {k:Nat} {V:List Int},(∀v∈L,v.length=6)->L[k]? = some V->((gpC L).drop (k*6)).take 6=vCs V
 | [],k,V,_,h=>by simp at h
 | v::L,0,V,hv,h=>by
  simp only[qL,qD]at h;subst h
  have:=hv v oB
  show ((vCs v++gpC L).drop (0*6)).take 6=_;rw[Nat.zero_mul,oX,qJ (by rw[bE];omega),tL (by rw[bE];omega)]
 | v::L,k+1,V,hv,h=>by
  rw[qK]at h;have b:=hv v oB;show ((vCs v++gpC L).drop ((k+1)*6)).take 6=_;rw[show (k+1)*6=(vCs v).length+k*6 by rw[bE];omega,qS,oS oo,oV,show (vCs v).length+k*6-(vCs v).length=k*6 by omega];exact Yq (λu a=>hv u (oH _ a)) h
def za6:∀{L:List (List Int)},(∀v∈L,v.length=6)->(gpC L).length=L.length*6
 | [],_=>rfl
 | v::L,hv=>by
  show (vCs v++gpC L).length=_;rw[oT,bE,hv v oB,za6 λu a=>hv u (oH _ a),oZ];omega
def za7:∀{L:List (List Int)} {k:Nat} {V:List Int},(∀v∈L,v.length=6)->k<L.length->V.length=6->(gpC L).take (k*6)++vCs V++(gpC L).drop (k*6+6)=gpC (L.set k V)
 | [],k,V,_,h,_=>by simp at h
 | v::L,0,V,hv,h,_=>by
  have:=hv v oB
  show (vCs v++gpC L).take (0*6)++vCs V++(vCs v++gpC L).drop (0*6+6)=vCs V++gpC L;rw[Nat.zero_mul,qX,oV,show 0+6=(vCs v).length+0 by rw[bE];omega,qS,oS oo];simp
 | v::L,k+1,V,hv,h,h6=>by
  have a:=hv v oB;have b:(vCs v).length=6:=by rw[bE];exact a
  show (vCs v++gpC L).take ((k+1)*6)++vCs V++(vCs v++gpC L).drop ((k+1)*6+6)=vCs v++gpC (L.set k V);rw[<-za7 (λu c=>hv u (oH _ c)) (by simpa using h) h6,List.take_append,qS,tL oo,oS oo,b,show (k+1)*6-6=k*6 by omega,show (k+1)*6+6-6=k*6+6 by omega];simp
section
variable  {p:Nat}{L:List (List Int)}
def GoM.below(h:GoM w p L)(a:Below w.heap.size w S):GoM S p L:=⟨ae a h.b h.b.lt,h.l6,h.v6⟩
def GoM.ch{F:List Nat}(h:GoM w p L)(c:Ch F w S)(a:p∉F):GoM S p L:=⟨h.b.ch c a,h.l6,h.v6⟩
end
def RM{K:KV}(h:K (pA b (o+0)) w):aq Q 268 (pA b o) 0 K w:=aQ kr h
def Bx{K:KV}(h:K (pA b (o+1)) w):aq Q 268 (pA b o) 1 K w:=aQ kr h
def yE{K:KV}(h:K (pA b (o+2)) w):aq Q 268 (pA b o) 2 K w:=aQ kr h
def RN{K:KV}(h:K (pA b (o+3)) w):aq Q 268 (pA b o) 3 K w:=aQ kr h
def DL{K:KV}(h:K (pA b (o+9)) w):aq Q 268 (pA b o) 4 K w:=aQ kr h
def Mt{K:KV}(h:K (pA b (o+10)) w):aq Q 268 (pA b o) 5 K w:=aQ kr h
def Mu{K:KV}(h:K (pA b (o+11)) w):aq Q 268 (pA b o) 6 K w:=aQ kr h
def RD{K:KV}(h:K (pA b (o+0)) w):aq Q 151 (pA b o) 0 K w:=aQ kr h
section
variable  {K:KV}{p:Nat}{L:List (List Int)}{V:List Int}
def Vd(h:K (.bool false) w):bin Q .eql 114 cx cy (pB b) (.pointer none) K w :=
 eH (by unfold eqG eqGuard;rfl) kr h
def Uh{i:Int}(h:K (.bool (bO i)) w):call Q 212 #[ci i] K w:=by
 refine ao (goK func212) (QU (cJ ?_));unfold bO at h;by_cases a:i≥1
 .rw[show decide (1<=i)=true from qF a,qY]at h;exact ck a (kq (bR a h))
 .rw[show decide (1<=i)=false from qE a,qZ]at h;exact dt a (bG a h)
def zcc{i:Int}(h:K (.bool (bO i)) w):call Q 234 #[ci i] K w:=by
 refine ao (goK func234) (RZ (cJ ?_));unfold bO at h;by_cases a:i≥1
 .rw[show decide (1<=i)=true from qF a,qY]at h;exact ck a (kq (bR a h))
 .rw[show decide (1<=i)=false from qE a,qZ]at h;exact dt a (bG a h)
def Zj(e:V.length=6)(h:∀O,Below w.heap.size w O->K (.bool (leV V (List.replicate 6 1099511627776))) O):call Q 72 #[.agg (vCs V).toArray] K w:=by
 refine ao (goK func72) (Xl (yX e λn f g p=>?_));refine ax (λx=>blk x w.heap.size 34 (vCs V)) f.drew <|ac (λx d _ j=>tT e d j) ?_;refine Wf (G:=List.replicate 6 1099511627776) rfl (λk l S b a c => cB rfl (ao (goK func90) (UN (by
  have:=c S (jT _ _)
  rwa[show (List.replicate 6 (1099511627776:Int)).getD k 0=1099511627776 by rw[oN,jL,oJ l];rfl]at this)))) λS b=>?_
 have m:=ae b f.drew f.drew.lt;refine aI m (zaF e rfl λo i=>ax (λ_=>True) trivial (h o ?_));have a:Below w.heap.size w S:=g.drew.trans (b.mono (by show _<=n.heap.size;omega));exact a.trans (i.mono a.size)
def zb5{n:Nat}{E:List EV}{x:EV}(h:VR w a n c E)(e:a=some ⟨b,o,none⟩)(g:E[i]? = some x)(d:K (evV x) w):ld Q 49 (pA b (o+i*14)) K w :=
 Ua (run_loadVar_mid w b (o+i*14) 49 (evC x) _ (λj u f=>h.cell i x g b o e j u f) underlying49 rfl kr) d
def zcu{n:Nat}{E:List EV}(j:VR w a n c E)(D:n<=1000000)(y:∀e∈E,dI e=true)(h:∀S,Below w.heap.size w S->K (.bool false) S):call Q 213 #[.slice a n c,.func (.func 214) #[] #[]] K w:=by
 refine ao (goK func213) (vW ?_);refine ao (goK func238) (xw (bM underlying100 ?_));refine wc (Inv:=λi A=>∃k:Nat,i=iv (k:Nat)/\k<=n/\Below w.heap.size w A) (μ:=λi _=>n-(intOf i).toNat) ⟨0,rfl,qG _,jT _ _⟩ ?_;rintro _ B z F ⟨k,rfl,C,g⟩ p;refine aW ?_;by_cases f:k<n
 .have l:=j.bel g oA;have m:k<E.length:=by rw[j.len];exact f
  have q:E[k]? = some E[k]:=gE m;generalize E[k]=x at q;obtain⟨b,o,v⟩:=j.some_ oo;subst v;refine aG oo (gO underlying100 (s:=14) kf oo oo ?_);rw[oQ];refine zb5 l rfl q (cB rfl ?_);refine ao (goK func214) (So (Bj λH u r G=>dN u (Fi λI t=>bH ?_)));rw[y x (mO q)]
  have d:=g.trans (r.mono g.size);refine aD (aY oo oo ⟨⟨k+1,qH iv (by push_cast;rfl),f,d.trans (t.mono d.size)⟩,?_⟩);rw[p];show n-((k:Int)+1).toNat<n-(k:Int).toNat;omega
 .refine aB oo <|we ?_;exact cJ (by have:=h z g;simpa using this)
def zal{n:Nat}{E:List EV}{f t:Int}(x:VR w a n c E)(F:n<=16)(z:∀e∈E,dI e=true)(g:V.length=6)(B:leV V (List.replicate 6 1099511627776)=true)(y:bO f=true)(A:bO t=true)(i:f≠t)(h:∀S,Below w.heap.size w S->K (.bool true) S):call Q 191 #[.agg (mgC 1 f t V (.slice a n c) 0 0).toArray] K w:=by
 have D:(mgC 1 f t V (.slice a n c) 0 0).length=12:=by simp[mgC,bE,g]
 have m:(Value.agg (mgC 1 f t V (.slice a n c) 0 0).toArray).cells.toList=mgC 1 f t V (.slice a n c) 0 0:=by simp[Value.cells]
 refine ao (goK func191) (Lu (bU λH b p G=>?_));rw[m]at b;have s:(mgC 1 f t V (.slice a n c) 0 0)[9]? = some (.slice a n c):=by
  unfold mgC;rw[show 9=3+6 by rfl,fh (n:=3) rfl,show 6=6+0 by rfl,fh (n:=6) (by rw[bE,g])];rfl
 have k:(mgC 1 f t V (.slice a n c) 0 0)[10]? = some (u6 0):=by
  unfold mgC;rw[show 10=3+(6+1)by rfl,fh (n:=3) rfl,fh (n:=6) (by rw[bE,g])];rfl
 have l:(mgC 1 f t V (.slice a n c) 0 0)[11]? = some (iv 0):=by
  unfold mgC;rw[show 11=3+(6+2)by rfl,fh (n:=3) rfl,fh (n:=6) (by rw[bE,g])];rfl
 have u:((mgC 1 f t V (.slice a n c) 0 0).drop 3).take 6=vCs V:=by
  unfold mgC;rw[show 3=[Value.int .u8 1,iv f,iv t].length+0 by rfl,qS,oS oB];simp only[oV,oZ,List.length_nil,jO];rw[oX,qJ (by rw[bE];omega),tL (by rw[bE];omega)]
 refine Bx (lK (v:=iv f) b rfl (Uh (bH ?_)));rw[y];refine eK (yE (lK (v:=iv t) b rfl (Uh (bH ?_))));rw[A];refine cA (eK (Bx (lK (v:=iv f) b rfl (yE (lK (v:=iv t) b rfl (aU (cA (dL i ?_))))))));refine RN (ldA (n:=6) (vs:=vCs V) underlying34 rfl kr b u (by rw[bE];exact g) (Zj g λI q=>bH ?_));rw[B];have j:=ae q b b.lt;have d:=p.trans (q.mono p.size)
 refine bG i (aD (RM (lK (v:=.int .u8 1) j rfl (IC (aU (aG rfl ?_))))));refine DL (lK (v:=.slice a n c) j s (zcu (x.bel d oA) oo z λC r=>bH (my ?_)));have o:=ae r j j.lt;refine DL (lK (v:=.slice a n c) o s (bM underlying100 (kq (dD (ck oo ?_)))));refine Mt (lK (v:=u6 0) o k (aU (bR oo (ck rfl ?_))))
 exact Mu (lK (v:=iv 0) o l (aU (bR rfl (by have:=h C (d.trans (r.mono d.size));simpa[gd]using this))))
def ziI{k:Nat}(h:GoM w p L)(H:k<6)(B:L[k]? = some A)(g:V.length=6)(a:∀S,GoM S p (L.set k (jV A V))->Ch [p] w S->K (ci 0) S):call Q 216 #[pB p,iv ((k:Int)+1),.agg (vCs V).toArray] K w:=by
 have c:=h.v6 A (mO B);have J:=h.b.lt;refine ao (goK func216) (MH (yX g λq m r M=>Vd (aD (zcc (bH ?_)))));rw[show bO ((k:Int)+1)=true by unfold bO;simp;omega];have G:=h.below r;refine aD (ax (λx=>GoM x p L/\blk x w.heap.size 34 (vCs V)) ⟨G.below (jT _ q).drew,m.drew⟩ ?_)
 refine ac (v:=iv (k:Nat)) (λx _ _ a=>co oo oo (by rw[show (k:Int)+1-1=(k:Nat)by omega];exact a)) (ac (v:=iv (k:Nat)) (λx _ _ a=>co oo oo (by rw[show (k:Int)+1-1=(k:Nat)by omega];exact a)) ?_)
 have C:∀{x:oG} {K:KV},K (pA p (k*6)) x->bv Q 149 (pB p) (iv (k:Nat)) K x:=λa=>fB underlying149 (s:=6) kf oo oo (by rw[oK,oQ];exact a);refine ac (λx d _ a=>au a) (ac (λx d _ a=>RD a) (ac (λx d _ a=>C a) ?_))
 refine ac (λx d _ a=>ldA (n:=6) (vs:=vCs A) underlying34 rfl kr d.1.b (Yq h.v6 B) (by rw[bE];exact c) a) ?_;refine ac (λx d _ a=>tT g d.2 a) (ac (λx d _ a=>au a) (ac (λx d _ a=>RD a) ?_));refine qb [.agg (vCs A).toArray,.agg (vCs V).toArray] underlying238 (s:=6) kr kr oo rfl oB dc rfl (by
  intro v i;simp only[oO,oR,or_false]at i;rcases i with rfl|rfl
  .have:=qH List.length (sA c);rw[bE,c]at this;simpa using this
  .have:=qH List.length (sA g);rw[bE,g]at this;simpa using this) λw3 l t N=>?_
 have l:blk w3 q.drew.heap.size 34 (vCs A++vCs V):=by
  have e:([Value.agg (vCs A).toArray,.agg (vCs V).toArray].flatMap λv=>v.cells.toList)=vCs A++vCs V:=by
   simp only[jI,List.flatMap_nil,oW,sA c,sA g]
  rwa[e]at l
 have f:Below w.heap.size w w3:=r.drew.trans (t.mono (by show _<=q.heap.size;omega));have F:=h.below f;have o:=ae t m.drew m.drew.lt;refine aI ⟨F,o⟩ (zaE c g l λD u=>?_);have j:=f.trans (u.mono f.size);have y:=h.below j;refine aI ⟨y,ae u o o.lt⟩ <|ac (λx d _ a=>C a) ?_
 refine fY (n:=6) (vs:=vCs (jV A V)) kr (by rw[bE];exact tq) y.b (by rw[za6 h.v6,h.l6];omega) Qu λE z I=>?_;rw[za7 h.v6 (by rw[h.l6];exact H) tq]at z;refine a E ⟨z,by rw[qN];exact h.l6,λv i=>?_⟩ ((Ch.of_below j:Ch [p] w D).trans (Ch.of_oth I oB:Ch [p] D E) oB);rcases List.mem_or_eq_of_mem_set i with i|rfl
 .exact h.v6 v i
 .exact tq
def zhQ(c:∀S,GoM S w.heap.size (List.replicate 6 (List.replicate 6 0))->Below w.heap.size w S->S.heap.size=w.heap.size+1->K (pB w.heap.size) S):call Q 30 #[] K w:=by refine ao (goK func30) (Xa (cE (vs:=gpC (List.replicate 6 (List.replicate 6 0))) kr (bU λf b a e=>?_)));exact c f ⟨by simpa[Value.cells]using b,rfl,λv d=>by rw[List.eq_of_mem_replicate d];rfl⟩ a e
end
def Xf{K:KV}(h:bld Q 145 #[] (λa=>box Q 145 a K) w):Gives Q 28 #[] w K:=aw func28 kr (mpK h)
def Gm(l0 e3 k_5:oF)(zf:oD):=l0::zf 1::zf 2::e3::zf 4::k_5::zT zf 6 58 ([])
def Gn(l0:oF)(zf:oD):=l0::zT zf 1 63 ([])
def sj(K:KV):KE:=aj Q (cd f60 [1,1,1]) (rk f60 K) xf (rk f60 K)
def sr(K:KV):KE:=aj Q (cd f60 (b1 63)) (rk f60 K) xf (rk f60 K)
section
variable {K:KV}{l0 e3 k_5:oF}  
def QV{K:KV}(h:box Q 49 Z (λb=>bT .eql 110 H (.pointer none) λc w=>cond c (K (ci 2) w) (ld Q 49 b (λd=>call Q 58 #[d] λe=>un Q .not e λf w=>cond f (K (ci 1) w) (aL (λS w=>hN S H λg=>hF S 145 g 1 λh=>hL S 34 h λi=>hL S 49 b λj=>call Q 77 #[i,j] (λk=>aL λ_ w=>cond k (K (ci 14) w) (aL (λS w=>hN S H λa=>hF S 145 a 1 λl=>hL S 34 l λm=>hL S 49 b λn=>call Q 78 #[m,n] (λo=>aL λS w=>hld S (un Q .not o) λp=>cond p (K (ci 13) w) (aq Q 49 b 0 (λr=>ld Q 3 r λs=>bT .sub 3 s (ci 1) λt=>sj K (Gm H b t (zV (zV (zV zu 1 [Z]) 4 [ci 0]) 6 [c,H,c,f,d,e,f,k,H,g,h,i,j,k,p,H,a,l,m,n,o,p,r,s,t]))) w)) w) w.drew)) w) w.drew)) w)) w):Gives Q 60 #[H,Z] w K:=by refine aw func60 kr <|Eq.mp (qH (λc=>aj Q c _ _ _ _ w) (by kernel_rfl:(rep [1,1,1] (cd f60 [1,1,1]) (cd f60 []))=(cd f60 []))) ?_;revert h;delta sj;generalize (cd f60 [1,1,1])=xc0;exact mpF
def Oa(h:aL (λS w=>hN S l0 λc=>hF S 145 c 0 λh=>hI S 143 h k_5 λm=>hL S 142 m λn=>hL S 49 e3 λa=>hN S l0 λo=>hF S 145 o 2 λp=>hL S 32 p λr=>hld S (bld Q 200 #[(0,a),(1,r)]) λb=>hN S l0 λf=>hF S 145 f 0 λg=>cH Q 142 1 #[(0,b)] (λd=>bw S λS=>blt Q .append #[142,142] 142 #[false,false] #[n,d] λe=>bw S λS w=>hI S 143 g k_5 λi=>sto Q 142 i e (λ_ w=>sF 49 e3 1 (λs=>sL 32 s λj=>sN l0 λt=>sF 145 t 1 λk=>sI 34 k k_5 λl=>sto Q 32 l j λ_=>sr K (Gn l0 (zV (zV (zV zf 3 [e3]) 5 [k_5]) 31 [l0,k_5,l0,k_5,c,h,m,n,a,l0,o,p,r,b,d,e,f,g,i,l0,k_5,s,j,t,k,l]))) w.drew) w) w) w.drew):sj K (Gm l0 e3 k_5 zf) w:=by delta sj;refine Eq.mp (qH (λc=>aj Q c _ _ _ _ w) (by kernel_rfl:(rep [1,1] (cd f60 (b1 63)) (cd f60 [1,1,1]))=(cd f60 [1,1,1]))) ?_;revert h;delta sr;generalize (cd f60 (b1 63))=xc0;exact mpF
def Ob(h:bj l0 (λa=>aq Q 145 a 2 λa=>ld Q 32 a λb=>bT .add 32 b (cu 1) λa=>bj l0 λc=>aq Q 145 c 2 λd=>sto Q 32 d a λ_=>K (ci 0)) w):sr K (Gn l0 zf) w:=mpK h
end
attribute [irreducible] sj sr
def Uq{K:KV}(h:call Q 264 #[Z,H,.func (.func 265) #[] #[]] (λa=>ext Q a 0 λb=>ext Q a 1 λ_=>K b) w):Gives Q 252 #[Z,H] w K:=aw func252 kr (mpK h)
def QW{K:KV}(h:box Q 200 Z (λa=>aq Q 200 a 0 λa=>aq Q 49 a 1 λa=>ld Q 32 a λa=>bF .leq 32 a H λa w=>cond a (K (ci (-1)) w) (K (ci 1) w)) w):Gives Q 265 #[Z,H] w K:=aw func265 kr (mpK h)
def jh(x0 tc Dv n8 i9 j10:oF)(zf:oD):=x0::tc::Dv::zT zf 3 5 (n8::i9::j10::zT zf 11 38 ([]))
def ji(x0 tc Dv n8 i9:oF)(zf:oD):=x0::tc::Dv::zT zf 3 5 (n8::i9::zT zf 10 39 ([]))
def bI(K:KV):KE:=kZ f264 [1,1,1,1] K
def dU(K:KV):KE:=aj Q (cd f264 (b1 60)) (bI K) (xx xf (bI K) 0) (rk f264 K)
section
variable {K:KV}{x0 tc Dv n8 i9 j10:oF}  
def qm{K:KV}(h:lN 142 H (λa=>dU K (jh H Z U a (ci 0) a (zV (zV zu 6 [ci 0,cF]) 12 [H,a,a]))) w):Gives Q 264 #[H,Z,U] w K:=aw func264 kr (mpK h)
def pJ(Inv:oF->oF->oG->Prop)(μ:oF->oF->oG->Nat)(j:Inv i9 j10 w)(l:∀(b a:oF) (i:oD) (w:oG) (m:Nat),Inv b a w->m=μ b a w ->
  lS b a (λc w=>cond c (bF .add 3 b a (λc=>conv Q 3 188 c λc=>bT .shr 188 c (cu 1) λe=>conv Q 188 3 e λc=>bv Q 142 x0 c λd=>ld Q 200 d λd=>bS Q Dv #[d,tc] λd=>bT .lss 3 d (ci 0) λf w=>cond f (nC c (λb w=>(Inv b a w)/\((μ b a w)<m)) w) ((Inv b c w)/\((μ b c w)<m))) w) (bI K (ji x0 tc Dv n8 b (zV (zV i 10 [a]) 15 [b,a,c])) w)) w):dU K (jh x0 tc Dv n8 i9 j10 zf) w:=by refine aZ (cd f264 (b1 120)) (zr [(9,3),(15,20)]) kr (vP [9,10] Inv) (vQ [9,10] μ) j ?_;intro d n k;have h:=l _ _ (zM zf (gd d) (zr [(9,3),(15,20)])) n _ k rfl;revert h;generalize (bI K)=qc0;exact mpF
def pK(h:lS i9 n8 (λa w=>aT a true (λd=>bv Q 142 x0 i9 (λc=>ld Q 200 c λa=>bS Q Dv #[a,tc] λb=>bT .eql 3 b (ci 0) λe=>d [Dv,x0,i9,c,a,tc,b,e]) w) (λk=>k [uu,uu,uu,uu,uu,uu,uu,uu] w) λc=>pick a (gd c 7) cF λf=>K (.tuple #[i9,f])) w):bI K (ji x0 tc Dv n8 i9 zf) w:=mpK h
end
attribute [irreducible] bI dU
def Dn(xY v4 kM Bs t17 t18:oF)(zf:oD):=zf 0::zf 1::xY::zf 3::v4::zf 5::kM::Bs::zT zf 8 9 (t17::t18::zT zf 19 34 ([]))
def Do(xY kM Bs:oF)(zf:oD):=zf 0::zf 1::xY::zT zf 3 3 (kM::Bs::zT zf 8 45 ([]))
def Dp(kM t40 t41 t42:oF)(zf:oD):=zT zf 0 6 (kM::zT zf 7 33 (t40::t41::t42::zT zf 43 10 ([])))
def Dq(kM:oF)(zf:oD):=zT zf 0 6 (kM::zT zf 7 46 ([]))
def jf(K:KV):KE:=kZ f233 [1,1,1,1] K
def tR(K:KV):KE:=aj Q (cd f233 (b1 122)) (jf K) (xx xf (jf K) 0) (rk f233 K)
def jg(K:KV):KE:=kZ f233 (b1 127) K
def tS(K:KV):KE:=aj Q (cd f233 (b1 506)) (jg K) (xx xf (jg K) 2) (rk f233 K)
section
variable {K:KV}{xY v4 kM Bs t17 t18 t40 t41 t42:oF}  
def Oc{K:KV}(h:box Q 34 Z (λa=>bT .eql 110 H (.pointer none) λb w=>cond b (K cN w) (bj H (λc=>aq Q 145 c 0 λd=>ld Q 143 d λe=>tR K (Dn U a cN cN e (ci 0) (zV (zV zu 0 [H,Z]) 12 [H,b,H,c,d]))) w)) w):Gives Q 233 #[H,Z,U] w K:=aw func233 kr (mpK h)
def LA{K:KV}(Inv:oF->oF->oG->Prop)(μ:oF->oF->oG->Nat)(i:Inv Y J w)(k:∀(b a:oF) (g:oD) (w:oG) (m:Nat),Inv b a w->m=μ b a w ->
  bT .lss 3 a (ci 6) (λc w=>cond c (idx Q 143 Z a (λc=>bv Q 34 H a λd=>ld Q 32 d λd=>call Q 252 #[c,d] λd=>slc Q 142 c (some d) none none λc=>blt Q .append #[142,142] 142 #[false,false] #[b,c] λb=>nC a λd w=>(Inv b d w)/\((μ b d w)<m)) w) (jf K (Do C U b (zV (zV g 4 [H]) 17 [Z,a,c])) w)) w):tR K (Dn C H U Y Z J zf) w:=by refine aZ (cd f233 (b1 244)) (zr [(7,3),(18,14)]) kr (vP [7,18] Inv) (vQ [7,18] μ) i ?_;intro e l j;have h:=k _ _ (zM zf (gd e) (zr [(7,3),(18,14)])) l _ j rfl;revert h;generalize (jf K)=qc0;exact mpF
def LD(h:call Q 253 #[Bs,.func (.func 254) #[] #[]] (λb=>lN 142 Bs λc=>blt Q .min #[3,3] 3 #[false,false] #[xY,c] λd=>blt Q .max #[3,3] 3 #[false,true] #[d,ci 0] λa=>slc Q 142 Bs none (some a) none λe=>lN 142 e λf=>tS K (Dp kM e f (ci 0) (zV (zV (zV zf 2 [xY]) 7 [Bs]) 32 [Bs,b,Bs,xY,Bs,c,d,a]))) w):jf K (Do xY kM Bs zf) w:=mpK h
def LC(Inv:oF->oF->oG->Prop)(μ:oF->oF->oG->Nat)(p:Inv kM t42 w)(r:∀(b a:oF) (o:oD) (w:oG) (m:Nat),Inv b a w->m=μ b a w ->
  lS a t41 (λc w=>cond c (bv Q 142 t40 a (λg=>ld Q 200 g λi=>alc Q 200 λe=>sto Q 200 e i λ_=>aq Q 200 e 0 λj=>ld Q 49 j λk=>cH Q 100 1 #[(0,k)] λl=>blt Q .append #[100,100] 100 #[false,false] #[b,l] λb=>nC a λd w=>(Inv b d w)/\((μ b d w)<m)) w) (jg K (Dq b (zV o 40 [t40,t41,a,c])) w)) w):tS K (Dp kM t40 t41 t42 zf) w:=by refine aZ (cd f233 (b1 1012)) (zr [(6,1),(11,1),(42,10)]) kr (vP [6,42] Inv) (vQ [6,42] μ) p ?_;intro f s q;have h:=r _ _ (zM zf (gd f) (zr [(6,1),(11,1),(42,10)])) s _ q rfl;revert h;generalize (jg K)=qc0;exact mpF
def LF(h:K kM w):jg K (Dq kM zf) w:=mpK h
end
attribute [irreducible] jf tR jg tS
def Lz{K:KV}(h:box Q 200 Z (λb=>box Q 200 H λa=>aq Q 200 b 1 λb=>ld Q 32 b λb=>aq Q 200 a 1 λa=>ld Q 32 a λa=>call Q 66 #[b,a] K) w):Gives Q 254 #[Z,H] w K:=aw func254 kr (mpK h)
structure jc where
 a:Option Nat
 cap:Nat
 it:List (EV×Int)
def lrV(r:jc):oF:=.slice (r.a.map λb=>⟨b,0,none⟩) r.it.length r.cap
def itC(x:EV×Int):oE:=evC x.1++[u6 x.2]
def loC(R:List jc)(V:List Int)(c:Int):oE:=R.map lrV++(vCs V++[u6 c])
theorem BS(x:EV×Int):(itC x).length=15:=rfl
def Ql(x:EV×Int):∀v∈itC x,v.oneCell'=true:=by
 intro v a;rcases oU.1 a with a|a
 .exact Dz _ v a
 .rw[mS a];rfl
def DX(r:jc):(lrV r).ownBlock=r.a:=by unfold lrV;cases r.a<;>rfl
def lrB(R:List jc):List Nat:=R.filterMap (·.a)
structure LoM(w:oG) (g:Nat) (R:List jc) (V:List Int) (c:Int):Prop where
 b:blk w g 145 (loC R V c)
 l6:R.length=6
 v6:V.length=6
 row:∀(i:Nat) r,R[i]? = some r->w.ownsRow 0 200 15 (lrV r) r.it.length (r.it.flatMap itC)
 nd:∀(i j:Nat) ri rj,i≠j->R[i]? = some ri->R[j]? = some rj->∀b,ri.a=some b->rj.a≠some b
 few:∀r∈R,r.it.length<=1000000
section
variable   {R:List jc}{V:List Int}{c:Int}
def LoM.in(h:LoM w g R V c)(d:b∈lrB R):∃(i:Nat) (r:jc),R[i]? = some r/\r.a=some b:=by obtain⟨r,j,e⟩:=List.mem_filterMap.1 d;obtain⟨i,f⟩:=List.getElem?_of_mem j;exact⟨i,r,f,e⟩
def LoM.cur(h:LoM w g R V c){r:jc}(l:R[i]? = some r)(f:r.a=some b):∃cs,w.heap[b]? = some (.cells cs 200 (0,0)):=by
 rcases(h.row i r l).2 with⟨e,_⟩|⟨g,j,d,e,_,k,_⟩
 .have:=DX r;rw[e,f]at this;cases this
 .have:=DX r
  rw[e,f]at this;simp only[Value.ownBlock,qD]at this;subst this;exact⟨d,k⟩
def LoM.ng(h:LoM w g R V c):g∉lrB R:=λd=>by
 obtain⟨i,r,f,e⟩:=h.in d;obtain⟨j,a⟩:=h.cur f e
 have:=h.b
 unfold blk at this;rw[a]at this;simp only[qD,Obj.cells.injEq]at this;exact qI this.2.1 dc
def LoM.lt(h:LoM w g R V c):∀k∈g::lrB R,k<w.heap.size:=by
 intro k a;rcases oO.1 a with rfl|a
 .exact h.b.lt
 .obtain⟨i,r,f,e⟩:=h.in a;obtain⟨cs,d⟩:=h.cur f e;exact(qM.1 d).1
def LoM.keep(h:LoM w g R V c)(d:∀k∈g::lrB R,S.heap[k]? = w.heap[k]?):LoM S g R V c :=
 {h with
  b:=by have:=h.b;unfold blk at *; rw[d g oB];exact this
  row:=λi r e=>dl (h.row i r e) λk a => d k (by rw[DX]at a;exact oH _ (List.mem_filterMap.2 ⟨r,mO e,a⟩))}
def LoM.below(h:LoM w g R V c)(a:Below w.heap.size w S):LoM S g R V c:=h.keep λk b=>a.block k (h.lt k b)
def LoM.ch{F:List Nat}(h:LoM w g R V c)(b:Ch F w S)(hF:∀k∈g::lrB R,k∉F):LoM S g R V c:=h.keep λk a=>b.block k (h.lt k a) (hF k a)
def LoM.len(h:LoM w g R V c):(loC R V c).length=13:=by simp[loC,h.l6,bE,h.v6]
def LoM.cR(h:LoM w g R V c){k:Nat}{r:jc}(a:R[k]? = some r):(loC R V c)[k]? = some (lrV r):=by
 have:=(gS a).1
 unfold loC;rw[qO (by simpa using this),qC,a];rfl
def LoM.c12(h:LoM w g R V c):(loC R V c)[12]? = some (u6 c):=by unfold loC;rw[show 12=6+(6+0)by rfl,fh (n:=6) (by rw[oY,h.l6]),fh (n:=6) (by rw[bE,h.v6])];rfl
def LoM.cV(h:LoM w g R V c):((loC R V c).drop 6).take 6=vCs V:=by unfold loC;rw[qS,oS (by rw[oY,h.l6];omega),oV,oY,h.l6,jO,oX,qJ (by rw[bE,h.v6];omega),tL (by rw[bE,h.v6];omega)]
def zjo{k:Nat}{r:jc}(a:R.length=6)(b:k<6):(loC R V c).set k (lrV r)=loC (R.set k r) V c:=by unfold loC;rw[List.set_append_left _ _ (by rw[oY,a];exact b),List.map_set]
def zjp{k:Nat}(a:R.length=6)(d:V.length=6)(b:k<6):(loC R V c).set (6+k) (u6 x)=loC R (V.set k x) c:=by unfold loC;rw[xv (n:=6) (by rw[oY,a]),PP (n:=6) (by rw[bE,d]) b];unfold vCs;rw[List.map_set]
def zjq(a:R.length=6)(b:V.length=6):(loC R V c).set 12 (u6 x)=loC R V x:=by unfold loC;rw[show 12=6+(6+0)by rfl,xv (n:=6) (by rw[oY,a]),xv (n:=6) (by rw[bE,b])];rfl
end
def Ww:(Tryz.prog.info? 200).map (λi=>(i.zero,i.size,i.bytes))=some (some (.agg (itC (evZ,0)).toArray),15,120):=by kernel_rfl
def RJ{K:KV}(h:K (pA b (o+0)) w):aq Q 145 (pA b o) 0 K w:=aQ kr h
def RK{K:KV}(h:K (pA b (o+6)) w):aq Q 145 (pA b o) 1 K w:=aQ kr h
def RL{K:KV}(h:K (pA b (o+12)) w):aq Q 145 (pA b o) 2 K w:=aQ kr h
section
variable  {K:KV}  {R:List jc}{V:List Int}{c:Int}{e:EV}
def za2(h:K (.bool false) w):bin Q .eql 110 cx cy (pB b) (.pointer none) K w :=
 eH (by unfold eqG eqGuard;rfl) kr h
def zim(f:∀S,LoM S w.heap.size (List.replicate 6 ⟨none,0,[]⟩) (List.replicate 6 0) 0->Below w.heap.size w S->S.heap.size=w.heap.size+1->K (pB w.heap.size) S):call Q 28 #[] K w:=by
 refine ao (goK func28) (Xf (cE (vs:=loC (List.replicate 6 ⟨none,0,[]⟩) (List.replicate 6 0) 0) kr (bU λm e d l=>?_)));have a:∀(i:Nat) (r:jc),(List.replicate 6 (⟨none,0,[]⟩:jc))[i]? = some r->r=⟨none,0,[]⟩:=λi r a=>List.eq_of_mem_replicate (mO a)
 refine f m ⟨by simpa[Value.cells]using e,rfl,rfl,λi r h=>?_,λi j k n _ g _ b c=>?_,λr h=>?_⟩ d l
 .rw[a i r h];exact World.ownsRow_nil _ _ _ _
 .rw[a i k g]at c;cases c
 .rw[List.eq_of_mem_replicate h];exact qG _
def zij{r:jc}(h:LoM w g R V c)(I:R[e.q]? = some r)(hm:fW V e=true)(hv:∀k,k<6->0<=V.getD k 0)(hc:0<=c/\c<=1000000)(hl:r.it.length<1000000)(f:∀w' a' cap',LoM w' g (R.set e.q ⟨a',cap',r.it++[(e,c)]⟩) (V.set e.q e.s) (c+1)->(∀b,a'=some b->r.a=some b\/w.heap.size<=b)->Ch (g::lrB R) w w'->K (ci 0) w'):call Q 60 #[pB g,evV e] K w:=by
 have y:dI e=true:=by unfold fW at hm;simp only[oM]at hm;exact hm.1
 obtain⟨B,ho⟩:=vg y;obtain⟨o1,o6,aC,aE⟩:=jb y;have aB:=yP hm;have T:tQ V e=false:=by
  refine Bool.eq_false_iff.2 λu=>?_
  have:=(JL y).1 u
  omega
 have aw:=h.b.lt;refine ao (goK func60) (QV (Bj λw1 e1 b1 s1=>za2 (aD (dN e1 (Fi λw2 b2=>bH ?_)))));rw[y];have L:=b1.trans (b2.mono oo);have h2:=h.below L;have e2:=ae b2 e1 e1.lt;refine aD (ax (λx=>LoM x g R V c/\blk x w.heap.size 49 (evC e)) ⟨h2.below (jT _ w2).drew,e2.drew⟩ ?_)
 refine ac (λx d _ f=>au f) (ac (λx d _ f=>RK f) (ac (λx d _ f=>ldA (n:=6) (vs:=vCs V) underlying34 rfl kr d.1.b d.1.cV (by rw[bE];exact d.1.v6) f) ?_));refine ac (λx d _ f=>dN d.2 f) (Qp h.v6 λw3 b3=>?_);rw[T];have M:=L.drew.trans (b3.mono L.size);have h3:=h.below M;have e3:=ae b3 e2.drew e2.drew.lt;refine ax (λ_=>True) trivial (aD ?_)
 refine ax (λx=>LoM x g R V c/\blk x w.heap.size 49 (evC e)) ⟨h3.below (jT _ w3).drew,e3.drew⟩ ?_;refine ac (λx d _ f=>au f) (ac (λx d _ f=>RK f) (ac (λx d _ f=>ldA (n:=6) (vs:=vCs V) underlying34 rfl kr d.1.b d.1.cV (by rw[bE];exact d.1.v6) f) ?_));refine ac (λx d _ f=>dN d.2 f) (SC h.v6 hv λw4 b4=>?_);rw[hm]
 have N:=M.drew.trans (b4.mono M.size);have h4:=h.below N;have e4:=ae b4 e3.drew e3.drew.lt;refine ax (λ_=>True) trivial (ac (v:=.bool false) (λx _ _ f=>bH f) (aD ?_));refine fS (lK (v:=iv e.o) e4 rfl (co oo oo ?_));rw[show e.o-1=(e.q:Nat)by omega];refine Oa <|ax (λx=>blk x g 145 (loC R V c)/\blk x w.heap.size 49 (evC e)) ⟨h4.b.drew,e4.drew⟩ ?_
 have ix:∀{x:oG} {K:KV},K (pA g e.q) x->bv Q 143 (pB g) (iv (e.q:Nat)) K x:=λf=>fB underlying143 (s:=1) kf oo oo (by rw[oK,oQ,Nat.mul_one];exact f);refine ac (λx d _ f=>au f) (ac (λx d _ f=>RJ f) (ac (λx d _ f=>ix f) ?_))
 refine ac (v:=lrV r) (λx d _ f=>lK d.1 (h.cR I) f) (ac (λx d _ f=>dN d.2 f) ?_);refine ac (λx d _ f=>au f) (ac (λx d _ f=>RL f) (ac (v:=u6 c) (λx d _ f=>lK d.1 h.c12 f) ?_));refine ac (v:=.agg (itC (e,c)).toArray) (λx d _ f=>cE (vs:=itC (e,c)) kr f) ?_;refine ac (λx d _ f=>au f) (ac (λx d _ f=>RJ f) ?_)
 refine qb [.agg (itC (e,c)).toArray] underlying142 (s:=15) kr kr oo rfl oB dc rfl (by
  intro v hv;rw[mS hv];rfl) λw5 i5 b5 s5=>?_
 have i5:=cZ i5
 have z:=N.drew.trans (b5.mono N.size);have Z:=h.below z;have e5:=ae b5 e4.drew e4.drew.lt;refine aI ⟨Z.b,e5⟩ ?_;obtain⟨ii,al,aq,ap,ag⟩:=info_parts Ww;refine zc (enc:=itC) (x:=(e,c)) underlying142 al aq ap ag rfl oo BS (Z.row e.q r I) i5 (Ql _) oo oo (qG _) λa' c' w6 r6 Y _ W=>?_;obtain⟨A,av,af,ad⟩:=iM r6 oo;subst af
 have P:r.a=some A\/A=w5.heap.size:=by
  have:=DX r
  unfold lrV at this;rcases W with W|W
  .rw[this]at W;exact .inl W.symm
  .simp only[Value.ownBlock,qD]at W;exact .inr W
 have ar:(Value.slice (r.a.map λb=>(⟨b,0,none⟩:Addr)) r.it.length r.cap).ownBlock=r.a:=DX r;rw[ar]at Y
 -- what the append has turned
 have o6:∀k,k<w5.heap.size->r.a≠some k->w6.heap[k]? = w5.heap[k]? := λk m an=>Y.block k m λe=>an e.symm;have ak:r.a≠some g:=λe=>h.ng (List.mem_filterMap.2 ⟨r,mO I,e⟩);have ai:r.a≠some w.heap.size:=λe=>by
  have:=h.lt w.heap.size (oH _ (List.mem_filterMap.2 ⟨r,mO I,e⟩))
  omega
 have O:blk w6 g 145 (loC R V c):=by
  have:=Z.b;unfold blk at *; rw[o6 g Z.b.lt ak];exact this
 have e6:blk w6 w.heap.size 49 (evC e):=by
  have G:=e5.lt;unfold blk at *; rw[o6 _ G ai];exact e5
 have X:∀(j:Nat) D,j≠e.q->R[j]? = some D->w6.ownsRow 0 200 15 (lrV D) D.it.length (D.it.flatMap itC):=λj D F U=>by
  refine dl (Z.row j D U) λk m=>o6 k (jS (Z.row j D U) k m).2 λl=>?_;rw[DX]at m;exact h.nd j e.q D r F U I k m l
 refine aI ⟨O,e6⟩ (ac (λx d _ f=>ix f) ?_);have ay:=z.size;have az:=Y.size;have aA:A<w6.heap.size:=ad.blk.lt;have aj:A≠g:=λl => by
  have:=ad.blk
  rw[l]at this;exact qI this (λu=>qI rfl (O.ne u dc))
 -- the row's new slice
 refine dw kf O (by rw[h.len];omega) rfl λw7 z7 o7=>?_;rw[show (Value.slice (some ⟨A,0,none⟩) (r.it.length+1) c')=lrV ⟨some A,c',r.it++[(e,c)]⟩by unfold lrV;rw[oT];rfl,zjo h.l6 B]at z7;have e7:=(o7.blk e6 oo).drew;have z7:=z7.drew;have C:(R.set e.q ⟨some A,c',r.it++[(e,c)]⟩).length=6:=by rw[qN];exact h.l6
 refine ah (λ_=>pC) (ah (v:=u6 e.s) (λ_=>lK e7 rfl) ?_);refine ah (λ_=>au) (ah (λ_=>RK) (ah (λ_=>ixV rfl B) ?_));refine dw kf z7 (by simp only[loC,oT,oY,C,bE,h.v6,List.length_singleton];omega) rfl λw8 z8 o8=>?_;rw[oK,zjp C h.v6 B]at z8;have H:(V.set e.q e.s).length=6:=by rw[qN];exact h.v6
 refine Ob (au (RL (lK (v:=u6 c) z8 ?_ (ze ?_))))
 .unfold loC;rw[show 0+12=6+(6+0)by rfl,fh (n:=6) (by rw[oY,C]),fh (n:=6) (by rw[bE,H])];rfl
 rw[gu,show (c+1)%18446744073709551616=c+1 by omega];refine au (RL (dw kf z8 (by simp only[loC,oT,oY,C,bE,H,List.length_singleton];omega) rfl λw9 z9 o9=>?_));have z9:blk w9 g 145 (loC (R.set e.q ⟨some A,c',r.it++[(e,c)]⟩) (V.set e.q e.s) (c+1)):=by rw[<-zjq (c:=c) C H];exact z9
 have t9:∀k,k≠g->w9.heap[k]? = w6.heap[k]? := λk m=>(o9.other k m).trans ((o8.other k m).trans (o7.other k m));refine f w9 (some A) c' ⟨z9,C,H,λi J p=>?_,λi j J D S p F b E=>?_,λJ p=>?_⟩ (λb E=>?_) ?_
 .by_cases t:i=e.q
  .subst t;rw[jB (by rw[h.l6];exact B)]at p;cases p;rw[show (r.it++[(e,c)]).length=r.it.length+1 by simp]
   have:=dl r6 (w':=w9) λk m=>t9 k (by
    simp only[Value.ownBlock,qD]at m;rw[<-m];exact aj)
   unfold lrV;simpa using this
  .rw[jA (λl => t l.symm)]at p;refine dl (X i J t p) λk m=>t9 k λl=>?_;rw[DX,l]at m;exact h.ng (List.mem_filterMap.2 ⟨J,mO p,m⟩)
 .have G:∀(x:Nat) (rx:jc) (b:Nat),R[x]? = some rx->rx.a=some b->b<w.heap.size:=λx rx b hx E=>h.lt b (oH _ (List.mem_filterMap.2 ⟨rx,mO hx,E⟩));have ab:∀b,b<w.heap.size->b≠w5.heap.size:=λb E=>by omega
  by_cases t:i=e.q
  .subst t;rw[jB (by rw[h.l6];exact B)]at p;rw[jA S]at F;cases p;cases E;rcases P with u|u
   .exact h.nd e.q j r D S I F A u
   .exact λl => ab _ (G j D A F l) u
  .rw[jA (λl => t l.symm)]at p;by_cases aa:j=e.q
   .subst aa;rw[jB (by rw[h.l6];exact B)]at F;cases F;intro l;cases l;rcases P with u|u
    .exact h.nd i e.q J r t p I A E u
    .exact ab _ (G i J A p E) u
   .rw[jA (λl => aa l.symm)]at F;exact h.nd i j J D S p F b E
 .rcases List.mem_or_eq_of_mem_set p with p|rfl
  .exact h.few J p
  .simp;omega
 .cases E;rcases P with u|u
  .exact .inl u
  .exact .inr oo
 .refine⟨?_,?_,?_,?_,λk m hn=>?_⟩
  .exact o9.os.trans (o8.os.trans (o7.os.trans (Y.os.trans z.os)))
  .exact o9.tape.trans (o8.tape.trans (o7.tape.trans (Y.tape.trans z.tape)))
  .exact o9.output.trans (o8.output.trans (o7.output.trans (Y.output.trans z.output)))
  .have a9:=o9.size;have a8:=o8.size;have a7:=o7.size;have d7:w7.drew.heap.size=w7.heap.size:=rfl;omega
  .have am:k≠g:=λl => hn (by simp[l]);rw[t9 k am,o6 k oo (λl => hn (oH _ (List.mem_filterMap.2 ⟨r,mO I,l⟩))),z.block k m]
end
section
open Go.ChangeMaps
def zeH(k:Nat)(a:k<6):({pl0 k with I:=(pl0 k).I.set k true}:PL)=pl0 (k+1):=by
 unfold pl0
 congr 1
 match k,a with
 | 0,_=>rfl
 | 1,_=>rfl
 | 2,_=>rfl
 | 3,_=>rfl
 | 4,_=>rfl
 | 5,_=>rfl
def zdB{q:LB}:Tryz.prog.built 141 [(3,pB q.t),(4,.map (some q.pm)),(5,.map (some q.rm)),(7,.map (some q.gm)),(8,.map (some q.am))]=some (plC q (pl0 0)).toArray:=by kernel_rfl
section
variable  {K:KV}
def ziz{n:Nat}(h1:1<=n)(h6:n<=6)(c:KD w)(hK:∀w' q,PM w' q (pl0 n)->(∀k∈q.l,k=1\/w.heap.size<=k)->Below w.heap.size w w'->K (.tuple #[pB q.p,ci 0]) w'):call Q 27 #[iv (n:Nat)] K w:=by
 refine ao (goK func27) (Xb (aW (dL oo (dE (bG oo (aB oo ?_))))));refine zdb λF t tp X Y ht ad=>?_;refine xa underlying135 rfl u6 u6 λG U b2 s2=>xa underlying136 rfl u6 rgV λH V b3 s3=>xa underlying137 rfl rqV grV λI W Z s4=>xa underlying138 rfl rqV Value.bool λw5 m5 x s5=>?_;have ac:=X.lt;have T:=Y.size;have h0:=c.lt
 obtain⟨q,g⟩:∃q:LB,q=⟨w5.heap.size,t,tp,F.heap.size,G.heap.size,H.heap.size,I.heap.size⟩:=⟨_,rfl⟩
 have C:q.p=w5.heap.size:=by rw[g]
 have E:q.t=t:=by rw[g]
 have M:q.tp=tp:=by rw[g]
 have B:q.pm=F.heap.size:=by rw[g]
 have D:q.rm=G.heap.size:=by rw[g]
 have A:q.gm=H.heap.size:=by rw[g]
 have z:q.am=I.heap.size:=by rw[g]
 have ab:=X.ne;have P:q.l.Nodup:=by
  unfold LB.l;rw[C,E,M,B,D,A,z];simp only[jF,oO,oR,or_false,not_or,List.nodup_nil,and_true];refine⟨⟨?_,?_,?_,?_,?_,?_,?_⟩,⟨?_,?_,?_,?_,?_,?_⟩,⟨?_,?_,?_,?_,?_⟩,⟨?_,?_,?_,?_⟩,⟨?_,?_,?_⟩,⟨?_,?_⟩,?_,not_false⟩<;>omega
 rw[<-E, <-B, <-D, <-A, <-z];refine cE zdB (bU λw6 f y s6=>?_);rw[<-C]at f |-;have a:(Value.agg (plC q (pl0 0)).toArray).cells.toList=plC q (pl0 0):=by simp[Value.cells]
 rw[a]at f;have v:Below G.heap.size G w6:=b3.trans ((Z.mono oo).trans ((x.mono oo).trans (y.mono oo)));have J:Below H.heap.size H w6:=Z.trans ((x.mono oo).trans (y.mono oo));have L:Below I.heap.size I w6:=x.trans (y.mono oo);have u:Below F.heap.size F w6:=b2.trans (v.mono oo)
 have s:Below w.heap.size w w6:=Y.trans (u.mono T);have p6:PM w6 q (pl0 0):=⟨rfl,rfl,rfl,f,by rw[E,M];exact X.below u,⟨[],by rw[B];exact U.below v,.refl _⟩,⟨[],by rw[D];exact V.below J,.refl _⟩,⟨[],by rw[A];exact W.below L,.refl _⟩,⟨[],by rw[z];exact m5.below y,λo r a b=>by
  have:po (pl0 0).R (o-1).toNat r=false:=by
   unfold po
   have:(pl0 0).R.getD (o-1).toNat []=[]:=by
    show (List.replicate 6 ([]:List Int)).getD _ []=[]
    rw[oN,jL];split<;>rfl
   rw[this];rfl
  rw[this];rfl⟩,P,c.below s⟩
 have S:∀k∈q.l,k=1\/w.heap.size<=k:=by
  intro k N;unfold LB.l at N;rw[C,E,M,B,D,A,z]at N;simp only[oO,oR,or_false]at N;omega
 refine Ub (Inv:=λi a=>∃k:Nat,i=iv (k:Nat)/\k<=n/\PM a q (pl0 k)/\Below w.heap.size w a) (μ:=λi _=>n-(intOf i).toNat) ⟨0,rfl,qG _,p6,s⟩ ?_;rintro _ dd w7 m ⟨k,rfl,aa,j,b7⟩ hm;refine aW ?_;by_cases O:k<n
 .refine aG oo (au (HO (VS rfl oo (dw kf j.b (by rw[j.len];omega) rfl λw8 h8 h=>aY oo oo ?_))));have d:=j.nd;rw[oK,j.sI oo,zeH k oo]at h8;refine⟨⟨k+1,ivS,O,?_,gI b7 h (by rw[C];have:=x.size;omega)⟩,by rw[hm];show n-((k:Int)+1).toNat<n-(k:Int).toNat;omega⟩
  obtain⟨i6,l6,v6,b,tm,⟨m1,x1,e1⟩,⟨U,x2,e2⟩,⟨V,x3,e3⟩,⟨W,x4,e4⟩,_,c⟩:=j;exact⟨by simp[pl0],l6,v6,h8,tm.oth h (LN.tp d) (LN.dp d),⟨m1,x1.oth h (LN.mp d),e1⟩,⟨U,x2.oth h (LN.rp d),e2⟩,⟨V,x3.oth h (LN.gp d),e3⟩,⟨W,x4.oth h (LN.ap d),e4⟩,d,c.keep (h.other 1 (LN.zp d))⟩
 .have e:k=n:=by omega
  subst e;exact aB oo (Uc (hK w7 q j S b7))
end
def zhi{l k:List Int}(e:l.Perm k)(c:l.Pairwise (· < ·))(d:k.Pairwise (· < ·)):l=k :=
 List.Perm.eq_of_pairwise (le:=(· < ·)) (λa b _ _ c d=>by omega) c d e
theorem LL(t:STA):saC t=(t.I.map .bool++t.L.map .bool++t.V.map (.int .u64))++[.slice t.na t.nodes.length t.nc,t.gv]:=rfl
def zgJ{t:STA}(b:t.I.length=6)(d:t.L.length=6)(e:t.V.length=6){N:List ND}{n:Nat}(f:N.length=n):(saC t).set 18 (.slice a n c)=saC {t with nodes:=N,na:=a,nc:=c}:=by subst f;rw[LL,show (18:Nat)=18+0 by omega,xv (n:=18) (by simp[b,d,e])];rfl
def zgK{t:STA}(a:t.I.length=6)(b:t.L.length=6)(c:t.V.length=6){v:oF}:(saC t).set 19 v=saC {t with gv:=v}:=by rw[LL,show (19:Nat)=18+1 by omega,xv (n:=18) (by simp[a,b,c])];rfl
def Ee{t:STA}(a:t.I.length=6)(b:t.L.length=6)(c:t.V.length=6):(saC t)[18]? = some (.slice t.na t.nodes.length t.nc):=by rw[LL,show (18:Nat)=18+0 by omega,fh (n:=18) (by simp[a,b,c])];rfl
def LM{t:STA}(a:t.I.length=6)(b:t.L.length=6)(c:t.V.length=6):(saC t)[19]? = some t.gv:=by rw[LL,show (19:Nat)=18+1 by omega,fh (n:=18) (by simp[a,b,c])];rfl
def ss{t:STA}(a:t.I.length=6)(b:t.L.length=6)(c:t.V.length=6):(saC t).length=20:=by simp[saC,a,b,c]
def NR.own{B n:Nat}{L:List ND}(h:w.ownsRow B 58 56 (.slice a n c) n (L.flatMap ndE))(k:L.length=n)(p:∀x∈L,x.A.length=54):NR w a n c L:=by
 refine⟨k,?_,?_,p,?_⟩
 .rcases h.2 with⟨y,z⟩|⟨g,r,d,v,_,_,D,_⟩
  .omega
  .simp only[Value.slice.injEq]at v;omega
 .intro s;obtain⟨g,d,e,_⟩:=iM h s;exact⟨g,0,e⟩
 .intro i x m b o e j u l;have C:i<n:=by rw[<-k];exact(gS m).1
  obtain⟨g,d,f,q⟩:=iM h oo;rw[f]at e;cases e;rw[<-YK (p x (mO m))]at l;have t:j<56:=by rw[<-Hm x];exact(gS l).1
  rw[q.blk.cell,oK,q.cell Hm k m t];exact l
structure SO(w:oG) (B:Nat) (s:PL) (t:STA) (ga:Option Addr) (gc:Nat):Prop where
 eI:t.I=s.I
 eL:t.L=s.L
 eV:t.V=s.V
 eN:t.nodes=s.N
 gv:t.gv=.slice ga s.G.length gc
 nd:w.ownsRow B 58 56 (.slice t.na s.N.length t.nc) s.N.length (s.N.flatMap ndE)
 gr:w.ownsRow B 61 5 (.slice ga s.G.length gc) s.G.length (s.G.flatMap grC)
def SO.sk{B:Nat}{s:PL}{t:STA}(h:SO w B s t a gc)(hi:PI s):SK w t:=by have j:=hi.len30;obtain⟨I,L,V,b,m,n,k⟩:=t;obtain⟨c,d,e,f,g,i,l⟩:=h;simp only at c d e f g i;subst c d e f g;exact⟨hi.i6,hi.l6,hi.v6,NR.own i rfl hi.A54,by show s.N.length<=_;omega,rfl⟩
def zch:(Tryz.prog.info? 58).map (λi=>(i.zero,i.size,i.bytes))=some (some (.agg (ndE ⟨0,0,[]⟩).toArray),56,448):=by kernel_rfl
def zdA{x:ND}(h:x.A.length=54):Tryz.prog.built 58 [(0,u6 x.id),(1,u6 x.par),(2,rgV x.A)]=some (ndE x).toArray:=by
 unfold rgV;rw[<-zct h]
 kernel_rfl
def zbN{I L:List Bool}{V:List Int}(a:I.length=6)(b:L.length=6)(c:V.length=6):Tryz.prog.built 38 [(0,.agg (I.map .bool).toArray),(1,.agg (L.map .bool).toArray),(2,.agg (vCs V).toArray)]=some (saC ⟨I,L,V,[],none,0,.slice none 0 0⟩).toArray:=by
 obtain⟨_,_,_,_,_,_,rfl⟩:=Bn a;obtain⟨_,_,_,_,_,_,rfl⟩:=Bn b;obtain⟨_,_,_,_,_,_,rfl⟩:=Bn c
 kernel_rfl
def W8{t:STA}(b:t.gv.oneCell'=true):∀v∈saC t,v.oneCell'=true:=by
 intro v a;unfold saC at a;simp only[oU,qT,oO,oR,or_false]at a;rcases a with((⟨_,_,rfl⟩|⟨_,_,rfl⟩)|⟨_,_,rfl⟩)|(rfl|rfl)
 .rfl
 .rfl
 .rfl
 .rfl
 .exact b
section
variable  {K:KV}{q:LB}{s:PL}
def PM.ldI(h:PM w q s)(a:K (.agg (s.I.map .bool).toArray) w):ld Q 31 (pA q.p (0+0)) K w:=by refine ldA (n:=6) (vs:=s.I.map .bool) underlying31 rfl kr h.b ?_ (by simp[h.i6]) a;unfold plC;rw[oK,oX,qJ (by simp[h.i6]),tL (by simp[h.i6])]
def PM.ldL(h:PM w q s)(a:K (.agg (s.L.map .bool).toArray) w):ld Q 31 (pA q.p (0+6)) K w:=by refine ldA (n:=6) (vs:=s.L.map .bool) underlying31 rfl kr h.b ?_ (by simp[h.l6]) a;unfold plC;rw[oK,show (6:Nat)=(s.I.map Value.bool).length by simp[h.i6],List.drop_left',qJ (by simp[h.i6,h.l6]),tL (by simp[h.i6,h.l6])];rfl
def zeJ(h:PM w q s)(hi:PI s)(hP:∀{l0 s2:oF} {zf:oD} (w':oG) l o,l0=pB q.p->s2=pB w.heap.size->blk w' w.heap.size 38 (saC ⟨s.I,s.L,s.V,s.N,l,o,.slice none 0 0⟩)->w'.ownsRow (w.heap.size+1) 58 56 (.slice l s.N.length o) s.N.length (s.N.flatMap ndE)->Below w.heap.size w w'->fI K ((vd l0 s2 zf)) w'):call Q 44 #[pB q.p] K w:=by
 have av:=h.lt;have ap:=hi.len30;refine ao (goK func44) (Kz ?_);refine cD (z:=.agg (saC ⟨List.replicate 6 false,List.replicate 6 false,List.replicate 6 0,[],none,0,.slice none 0 0⟩).toArray) kr λw1 T W s1=>Dy (aD ?_);have T:=cZ T
 have p1:=(h.below W).drew;have T:=T.drew;have W:=W.drew;refine ah (λ_=>au) (ah (λ_=>HO) (ah (λ_=>p1.ldI) ?_));refine ah (λ_=>au) (ah (λ_=>RF) (ah (λ_=>p1.ldL) ?_));refine ah (λ_=>au) (ah (λ_=>DJ) (ah (λ_=>p1.ldV) ?_));refine ah (λ_=>cE (vs:=saC ⟨s.I,s.L,s.V,[],none,0,.slice none 0 0⟩) (zbN hi.i6 hi.l6 hi.v6)) ?_
 refine fY (n:=20) kr (ss hi.i6 hi.l6 hi.v6) T (by simp[saC]) (W8 rfl) λw2 U o2=>?_;have U:blk w2 w.heap.size 38 (saC ⟨s.I,s.L,s.V,[],none,0,.slice none 0 0⟩):=by
  rw[qX,oV,oS (by simp[saC]),oW]at U;exact U
 have b2:=gI W o2 oA;have p2:=h.below b2;refine au (Bw (lK (v:=pB q.t) p2.b (by rw[oK];exact p2.c18) ?_));refine zat p2.tm (by rw[Wc];omega) λw3 a c ids C ak ag b3=>bM underlying172 ?_;have B:ids=s.N.map (·.id):=by
  refine zhi ?_ ak ?_
  .have e:(tr s.N).map (·.1)=s.N.map (·.id):=by unfold tr;rw[jG];rfl
   rw[<-e];exact C
  .exact List.pairwise_map.2 hi.srt
 have aq:ids.length=s.N.length:=by rw[B,oY]
 have z3:=ae b3 U U.lt;have F:=b2.trans (b3.mono b2.size);have aw:=z3.lt;obtain⟨ii,af,hz,P,ad⟩:=info_parts zch
 refine Ig (Inv:=λi b=>∃(k:Nat) (l:Option Addr) (o:Nat),i=iv (k:Nat)/\k<=ids.length/\blk b w.heap.size 38 (saC ⟨s.I,s.L,s.V,s.N.take k,l,o,.slice none 0 0⟩)/\b.ownsRow (w.heap.size+1) 58 56 (.slice l k o) k ((s.N.take k).flatMap ndE)/\IdR b w2.heap.size a c ids/\Below w.heap.size w b)
  (μ:=λi _=>ids.length-(intOf i).toNat) ⟨0,none,0,rfl,qG _,z3,World.ownsRow_nil _ _ _ _,ag,F⟩ ?_
 rintro _ dd Z m ⟨k,l,o,rfl,ar,D,r4,R,j⟩ hm;refine aW ?_;by_cases r:k<ids.length
 .have ai:k<s.N.length:=by omega
  have Y:s.N[k]? = some s.N[k]:=gE ai;generalize s.N[k]=x at Y;have y:x∈s.N:=mO Y;have M:ids[k]=x.id:=by
   have:ids[k]? = some x.id:=by rw[B,qC,Y];rfl
   rw[gE r]at this;exact Option.some.inj this
  have al:(s.N.take k).length=k:=by rw[qA];omega
  refine aG oo (R.at2 r λpt=>?_);rw[M];have hT:eh (tr s.N) x.id=true:=by rw[mR];exact sc.2 ⟨x,y,rfl⟩
  have O:fV (tr s.N) x.id=x.par:=LG (Wd hi.srt) (qT.2 ⟨x,y,rfl⟩);have hA:aN s.N x.id=x.A:=Ej hi.srt y;have p4:=(h.below j).drew;have D:=D.drew;have aa:(saC ⟨s.I,s.L,s.V,s.N.take k,l,o,.slice none 0 0⟩)[18]? = some (.slice l k o):=by rw[Ee hi.i6 hi.l6 hi.v6];show some (Value.slice l (s.N.take k).length o)=_;rw[al]
  refine ax (λu=>blk u w.heap.size 38 (saC ⟨s.I,s.L,s.V,s.N.take k,l,o,.slice none 0 0⟩)/\PM u q s) ⟨D,p4⟩ ?_;refine ac (λu f _=>nP) (ac (λu f _=>lK (v:=.slice l k o) f.1 (by rw[oK];exact aa)) ?_);refine ac (λu f _=>au) (ac (λu f _=>RG) (ac (λu f _=>lK (v:=.map (some q.pm)) f.2.b (by rw[oK];exact f.2.c19)) (ac (λu f _=>f.2.par_l hi hT) ?_)))
  refine ac (λu f _=>au) (ac (λu f _=>wR) (ac (λu f _=>lK (v:=.map (some q.rm)) f.2.b (by rw[oK];exact f.2.c20)) (ac (λu f _=>f.2.rg_l hi) ?_)));rw[O,hA];refine ac (λu f _=>cE (vs:=ndE x) (zdA (hi.A54 x y))) ?_
  refine qb (vs:=[.agg (ndE x).toArray]) underlying35 (s:=56) kr kr oo rfl oB oB oB (by simp[Value.cells,Hm]) λw5 k5 E s5=>?_;have k5:=cZ k5
  have z5:=ae E D D.lt;have p5:=p4.below E;have S:Z.drew.ownsRow (w.heap.size+1) 58 56 (.slice l k o) k ((s.N.take k).flatMap ndE):=r4;have r5:=dl S λg hg=>E.block g (jS S g hg).2;have am:=(R.below (jT _ Z).drew).below E;have G:=j.drew.trans (E.mono j.drew.size);refine aI ⟨z5,p5⟩ ?_
  refine zc (base:=w.heap.size+1) (enc:=ndE) (x:=x) underlying35 af hz P ad rfl oo Hm r5 k5 (zan x) oo oo (by have:=z5.lt;omega) λa6 c6 w6 r6 J b6 _=>?_;have z6:=yy z5 r5 dc J;have an:IdR w6 w2.heap.size a c ids:=am.imp λg cs _ X=>yy X r5 dc J;have H:=G.trans (b6.mono oo)
  refine ax (λ_=>True) trivial (ac (λu f _=>nP) ?_);refine dw kf z6 (by rw[ss hi.i6 hi.l6 hi.v6];omega) rfl λw7 z7 o7=>aY oo oo ?_;have ab:s.N.take (k+1)=s.N.take k++[x]:=by rw[List.take_add_one,Y];rfl
  rw[oK,zgJ hi.i6 hi.l6 hi.v6 (N:=s.N.take (k+1)) (by rw[qA];omega)]at z7;refine⟨⟨k+1,a6,c6,ivS,r,z7,by rw[ab];exact II r6 z6 dc o7,an.imp λg cs _ X=>o7.blk X λe=>?_,gI H o7 oA⟩,by rw[hm];show ids.length-((k:Int)+1).toNat<ids.length-(k:Int).toNat;omega⟩;subst e;exact qI (Hu X z6) dc
 .have aj:k=s.N.length:=by omega
  subst aj;rw[List.take_length]at D r4;exact aB oo (hP Z l o rfl rfl D r4 j)
end
end
end
end Go.Proofs.YtgohpbmmcgenpaaGreatDoor
namespace Go.Proofs
open Go.Shelf
def Tryz.sortGr_ren:Go.Shelf.Ren:=⟨λ|6=>62|15=>82|14=>81|28=>105|29=>106|20=>97|21=>98|22=>99|23=>100|24=>101|25=>102|26=>103|27=>104|46=>112|47=>113|48=>114|49=>115|50=>116|57=>128|n=>n,λ|22=>36|24=>61|25=>180|3=>3|39=>188|0=>0|53=>206|55=>32|4=>4|46=>220|45=>219|50=>224|5=>5|9=>9|66=>232|70=>236|76=>247|77=>248|n=>n,λ|n=>n⟩
theorem Tryz.sortGr : Go.Proofs.SlLaysF0.n6 Tryz.prog Tryz.sortGr_ren := {
  mixed := by kernel_rfl
  f6 := ⟨Tryz.f62.name, by decide, Tryz.func62.trans (congrArg some (by kernel_rfl))⟩
  f14 := ⟨Tryz.f81.name, by decide, Tryz.func81.trans (congrArg some (by kernel_rfl))⟩
  f15 := Tryz.func82.trans (congrArg some (by kernel_rfl))
  f20 := ⟨Tryz.f97.name, by decide, Tryz.func97.trans (congrArg some (by kernel_rfl))⟩
  f21 := ⟨Tryz.f98.name, by decide, Tryz.func98.trans (congrArg some (by kernel_rfl))⟩
  f22 := ⟨Tryz.f99.name, by decide, Tryz.func99.trans (congrArg some (by kernel_rfl))⟩
  f23 := ⟨Tryz.f100.name, by decide, Tryz.func100.trans (congrArg some (by kernel_rfl))⟩
  f24 := ⟨Tryz.f101.name, by decide, Tryz.func101.trans (congrArg some (by kernel_rfl))⟩
  f25 := ⟨Tryz.f102.name, by decide, Tryz.func102.trans (congrArg some (by kernel_rfl))⟩
  f26 := ⟨Tryz.f103.name, by decide, Tryz.func103.trans (congrArg some (by kernel_rfl))⟩
  f27 := ⟨Tryz.f104.name, by decide, Tryz.func104.trans (congrArg some (by kernel_rfl))⟩
  f28 := Tryz.func105.trans (congrArg some (by kernel_rfl))
  f29 := Tryz.func106.trans (congrArg some (by kernel_rfl))
  f46 := ⟨Tryz.f112.name, by decide, Tryz.func112.trans (congrArg some (by kernel_rfl))⟩
  f47 := Tryz.func113.trans (congrArg some (by kernel_rfl))
  f48 := Tryz.func114.trans (congrArg some (by kernel_rfl))
  f49 := ⟨Tryz.f115.name, by decide, Tryz.func115.trans (congrArg some (by kernel_rfl))⟩
  f50 := ⟨Tryz.f116.name, by decide, Tryz.func116.trans (congrArg some (by kernel_rfl))⟩
  f57 := ⟨Tryz.f128.name, by decide, Tryz.func128.trans (congrArg some (by kernel_rfl))⟩
  t0 := Tryz.underlying0
  a0 := Tryz.isAgg0
  z0 := Tryz.sizeOf0
  v0 := Tryz.zeroValue0
  t3 := Tryz.underlying3
  a3 := Tryz.isAgg3
  z3 := Tryz.sizeOf3
  v3 := Tryz.zeroValue3
  t4 := Tryz.underlying4
  a4 := Tryz.isAgg4
  z4 := Tryz.sizeOf4
  v4 := Tryz.zeroValue4
  t5 := Tryz.underlying5
  a5 := Tryz.isAgg5
  z5 := Tryz.sizeOf5
  v5 := Tryz.zeroValue5
  t9 := Tryz.underlying9
  a9 := Tryz.isAgg9
  z9 := Tryz.sizeOf9
  v9 := Tryz.zeroValue9
  t22 := Tryz.underlying36
  a22 := Tryz.isAgg36
  z22 := Tryz.sizeOf36
  v22 := Tryz.zeroValue36
  t25 := Tryz.underlying180
  a25 := Tryz.isAgg180
  z25 := Tryz.sizeOf180
  v25 := Tryz.zeroValue180
  t39 := Tryz.underlying188
  a39 := Tryz.isAgg188
  z39 := Tryz.sizeOf188
  v39 := Tryz.zeroValue188
  t45 := Tryz.underlying219
  a45 := Tryz.isAgg219
  z45 := Tryz.sizeOf219
  v45 := Tryz.zeroValue219
  t46 := Tryz.underlying220
  a46 := Tryz.isAgg220
  z46 := Tryz.sizeOf220
  v46 := Tryz.zeroValue220
  t50 := Tryz.underlying224
  a50 := Tryz.isAgg224
  z50 := Tryz.sizeOf224
  v50 := Tryz.zeroValue224
  t53 := Tryz.underlying206
  a53 := Tryz.isAgg206
  z53 := Tryz.sizeOf206
  v53 := Tryz.zeroValue206
  t55 := Tryz.underlying32
  a55 := Tryz.isAgg32
  z55 := Tryz.sizeOf32
  v55 := Tryz.zeroValue32
  t66 := Tryz.underlying232
  a66 := Tryz.isAgg232
  z66 := Tryz.sizeOf232
  v66 := Tryz.zeroValue232
  t70 := Tryz.underlying236
  a70 := Tryz.isAgg236
  z70 := Tryz.sizeOf236
  v70 := Tryz.zeroValue236
  t76 := Tryz.underlying247
  a76 := Tryz.isAgg247
  z76 := Tryz.sizeOf247
  v76 := Tryz.zeroValue247
  t77 := Tryz.underlying248
  a77 := Tryz.isAgg248
  z77 := Tryz.sizeOf248
  v77 := Tryz.zeroValue248 }
end Go.Proofs
namespace Go.Proofs.YtgohpbmmcgenpaaGreatDoor
variable {w w' w0 w2 S O:oG}{zf:Nat->oF}{b c o i g m s j z f d c2 gc D ba hi:Nat}{a av a2:Option Addr}{x v r N:Int}{E t e:TypeId}{A:List Int}{B1:KE}{xs vs:oE}{P:Program}{cx cy:Bool}{T:List (Int×Int)}{Z1 N2 O2 P2 Q2 R2 T2 U2 V2 H Z U Y J C:oF}
set_option maxRecDepth 100000
set_option linter.defProp false
open Go.Proofs.Tryz
open Go.RowKit
def Ns(Hd t6 t7 t8:oF)(zf:oD):=zT zf 0 3 (Hd::zf 4::zf 5::t6::t7::t8::zT zf 9 9 ([]))
def Nt(Hd:oF)(zf:oD):=zT zf 0 3 (Hd::zT zf 4 14 ([]))
def pM(K:KV):KE:=kZ f64 [1,1,1] K
def Bh(K:KV):KE:=aj Q (cd f64 (b1 58)) (pM K) (xx xf (pM K) 0) (rk f64 K)
section
variable {K:KV}{Hd t6 t7 t8:oF}  
def WS{K:KV}(h:lN 24 H (λa=>Bh K (Ns (ci 0) H a (ci 0) (zV (zV zu 0 [H]) 2 [ci 0]))) w):Gives Q 64 #[H] w K:=aw func64 kr (mpK h)
def Tx(Inv:oF->oG->Prop)(μ:oF->oG->Nat)(f:Inv t8 w)(i:∀(a:oF) (e:oD) (w:oG) (m:Nat),Inv a w->m=μ a w ->
  lS a t7 (λb w=>cond b (bv Q 24 t6 a (λb=>ld Q 3 b λb=>bF .neq 3 b Hd λc w=>cond c (K b w) (nC a (λa w=>(Inv a w)/\((μ a w)<m)) w)) w) (pM K (Nt Hd (zV e 6 [t6,t7,a,b])) w)) w):Bh K (Ns Hd t6 t7 t8 zf) w:=by refine aZ (cd f64 (b1 116)) (zr [(2,1),(5,1),(8,9)]) kr (vP [8] Inv) (vQ [8] μ) f ?_;intro d j g;have h:=i _ (zM zf (gd d) (zr [(2,1),(5,1),(8,9)])) j _ g rfl;revert h;generalize (pM K)=qc0;exact mpF
def Ty(h:K Hd w):pM K (Nt Hd zf) w:=mpK h
end
attribute [irreducible] pM Bh
def Ou{K:KV}(h:call Q 83 #[Z] (λa=>call Q 83 #[H] λb w=>cond a (cond b (K (ci 0) w) (K (ci (-1)) w)) (cond b (K (ci 1) w) (lS Z H (λa w=>cond a (K (ci (-1)) w) (bF .gtr 3 Z H (λa w=>cond a (K (ci 1) w) (K (ci 0) w)) w)) w))) w):Gives Q 65 #[Z,H] w K:=aw func65 kr (mpK h)
def KU{K:KV}(h:call Q 84 #[Z] (λa=>call Q 84 #[H] λb w=>cond a (cond b (K (ci 0) w) (K (ci (-1)) w)) (cond b (K (ci 1) w) (bF .lss 32 Z H (λa w=>cond a (K (ci (-1)) w) (bF .gtr 32 Z H (λa w=>cond a (K (ci 1) w) (K (ci 0) w)) w)) w))) w):Gives Q 66 #[Z,H] w K:=aw func66 kr (mpK h)
def Ru{K:KV}(h:bF .neq 3 H H K w):Gives Q 83 #[H] w K:=aw func83 kr (mpK h)
section
attribute [local irreducible] bin un conv call bS blt slc aq fld bv idx lkp fJ nl eSt rng nxt ent ext alc box bld cH ld sto bj fK mkS ifc pick rdy wts aT sti cond bA Gives aj iK kH cOp
def rE(x y:Int):Int:=if x<y then -1 else if y<x then 1 else 0
def UZ(x y:GR):Int:=if rE x.o y.o≠0 then rE x.o y.o else rE x.q y.q
def Qd{x y:GR}:Go.Proofs.ltOf UZ x y=decide (ltG x y):=by rw[Bool.eq_iff_iff,oP];unfold Go.Proofs.ltOf UZ rE ltG;rw[oP];split<;>split<;>(try split)<;>omega
def zk2:Go.Sort.SWO (Go.Proofs.ltOf UZ) where
 irrefl x:=by rw[Qd];unfold ltG;simp
 trans x y z h k:=by rw[Qd,oP]at *; unfold ltG at *; omega
 ntrans x y z h k:=by rw[Qd,decide_eq_false_iff_not]at *; unfold ltG at *; omega
section
variable  {K:KV}
def zfo(h:K (.bool false) w):call Q 83 #[ci x] K w:=by refine ao (goK func83) (Ru ?_);refine bo ?_;rw[qE oB];exact h
def zfp(h:K (.bool false) w):call Q 84 #[.int .u64 x] K w:=by refine ao (goK func84) (Dj ?_);refine bo ?_;rw[qE oB];exact h
def zj8{y:Int}(h:K (ci (rE x y)) w):call Q 65 #[ci x,ci y] K w:=by
 refine ao (goK func65) (Ou (zfo (zfo (aD (aD ?_)))));refine aW ?_;by_cases a:x<y
 .rw[show rE x y = -1 from oJ a]at h;exact aG a h
 .refine aB a (dE ?_);by_cases b:y<x
  .rw[show rE x y=1 from(oI a).trans (oJ b)]at h;exact aG b h
  .rw[show rE x y=0 from(oI a).trans (oI b)]at h;exact aB b h
def zaP{y:Int}(h:K (ci (rE x y)) w):call Q 66 #[.int .u64 x,.int .u64 y] K w:=by
 refine ao (goK func66) (KU (zfp (zfp (aD (aD ?_)))));refine aW ?_;by_cases a:x<y
 .rw[show rE x y = -1 from oJ a]at h;exact aG a h
 .refine aB a (dE ?_);by_cases b:y<x
  .rw[show rE x y=1 from(oI a).trans (oJ b)]at h;exact aG b h
  .rw[show rE x y=0 from(oI a).trans (oI b)]at h;exact aB b h
def zhu{y:Int}(c:blk w g 3 [iv x,iv y])(h:K (ci (if x≠0 then x else y)) w):call Q 64 #[.slice (some ⟨g,0,none⟩) 2 2] K w:=by
 refine ao (goK func64) (WS ?_);refine bM underlying24 <|Tx (Inv:=λi f=>f=w/\(i=ci 0\/i=ci 1/\x=0\/i=ci 2/\x=0/\y=0)) (μ:=λi _=>2-(intOf i).toNat) ⟨rfl,.inl rfl⟩ ?_;rintro _ j k m ⟨rfl,rfl|⟨rfl,b⟩|⟨rfl,b,e⟩⟩ d
 .refine aW (aG dc ?_);refine gO underlying24 (s:=1) kf oo oo ?_;refine lK (v:=iv x) c rfl (bo ?_);by_cases a:x≠0
  .rw[oJ a]at h;exact aG a h
  .refine aB a (aY oo oo ⟨⟨rfl,.inr (.inl ⟨rfl,by simpa using a⟩)⟩,by rw[d];decide⟩)
 .refine aW (aG dc ?_);refine gO underlying24 (s:=1) kf oo oo ?_;refine lK (v:=iv y) c rfl (bo ?_);rw[oI (by simp[b])]at h;by_cases a:y≠0
  .exact aG a h
  .refine aB a (aY oo oo ⟨⟨rfl,.inr (.inr ⟨rfl,b,by simpa using a⟩)⟩,by rw[d];decide⟩)
 .refine aW (aB dc ?_);refine Ty ?_;rw[oI (by simp[b]),e]at h;exact h
def Tq{v:oF}(h:K (pA w.heap.size 0) (w.alloc (.cells v.cells t))):box P t v K w:=by unfold box;exact eJ (by simp[Instr.box,newVar,newRow]) h
def zfE{y:Int}(h:K (.slice (some ⟨w.heap.size,0,none⟩) 2 2) (w.alloc (.cells #[iv x,iv y] 3))):cH Q 24 2 #[(0,iv x),(1,iv y)] K w:=by
 unfold cH;obtain⟨i,b,c,a⟩:∃i,Tryz.prog.info? 3=some i/\i.zero=some (ci 0)/\i.size=1:=⟨_,rfl,by kernel_rfl,by kernel_rfl⟩
 refine eJ (run_buildSlice w _ _ 2 _ #[iv x,iv y] i _ underlying24 b c (by rw[a];decide) (by rw[a];decide) ?_) h;rw[a];refine(Go.Great.fill_whole (s:=1) oo [iv x,iv y] _ (by simp[iv,Value.cells]) oB).trans ?_;simp[iv,Value.cells]
def zj6(x y:GR)(W:oG):Calls Q 63 (#[.agg (grC x).toArray,.agg (grC y).toArray]++#[]) W λe S => e=.returned (ci (UZ x y))/\∃q os',S=Go.Sort.grow (W.drewN q) os':=by
 have c:Gives Q 63 #[.agg (grC x).toArray,.agg (grC y).toArray] W λv S => v=ci (UZ x y)/\∃q os',S=Go.Sort.grow (W.drewN q) os':=by
  refine If ?_;refine Tq (Tq ?_);generalize i:W.alloc (.cells (Value.agg (grC x).toArray).cells 61)=w1;have f:blk w1 W.heap.size 61 (grC x):=by
   rw[<-i];unfold Go.Proofs.YtgohpbmmcgenpaaGreatDoor.blk;rw[heap_alloc_new];rfl
  generalize d:w1.alloc (.cells (Value.agg (grC y).toArray).cells 61)=O;have h:blk O.drew w1.heap.size 61 (grC y):=by
   rw[<-d];unfold Go.Proofs.YtgohpbmmcgenpaaGreatDoor.blk;show (w1.alloc _).heap[_]? = _;rw[heap_alloc_new];rfl
  have g:blk O.drew W.heap.size 61 (grC x):=by
   rw[<-d];exact(ae (cS (World.grownBy_alloc _ _ none) oA (λk l=>by cases l)) f f.lt).drew
  refine ax (λu=>blk u W.heap.size 61 (grC x)/\blk u w1.heap.size 61 (grC y)) ⟨g,h⟩ ?_;refine ac (λu b _=>RE) (ac (λu b _=>lK (v:=iv x.o) b.1 rfl) ?_);refine ac (λu b _=>RE) (ac (λu b _=>lK (v:=iv y.o) b.2 rfl) ?_);refine ac (λu b _=>HN) (ac (λu b _=>lK (v:=u6 x.q) b.1 rfl) ?_);refine ac (λu b _=>HN) (ac (λu b _=>lK (v:=u6 y.q) b.2 rfl) ?_)
  refine zj8 (aI ⟨g,h⟩ (zaP (ax (λ_=>True) trivial (zfE ?_))));refine ax (λ_=>True) trivial (zhu (x:=rE x.o y.o) (y:=rE x.q y.q) ?_ (ax (λ_=>True) trivial ⟨rfl,1,#[.cells (Value.agg (grC x).toArray).cells 61,.cells (Value.agg (grC y).toArray).cells 61,.cells #[iv (rE x.o y.o),iv (rE x.q y.q)] 3],?_⟩))
  .unfold Go.Proofs.YtgohpbmmcgenpaaGreatDoor.blk;rw[heap_alloc_new]
  .rw[<-d, <-i];unfold Go.Sort.grow World.drewN World.drew World.alloc;simp only[Array.push_eq_append,Array.append_assoc,List.append_toArray,jE,oV]
 rw[show (#[.agg (grC x).toArray,.agg (grC y).toArray]++#[]:Array oF)=#[.agg (grC x).toArray,.agg (grC y).toArray]from rfl];unfold Gives at c;exact Calls.mono c λ_ _ ⟨v,j,m,n⟩=>⟨by rw[j,m],n⟩
instance:Inhabited GR:=⟨⟨0,0,0,0,0⟩⟩
open Go.Sort in
theorem XL {G:List GR}{n:Nat}(c:G.length=n)(i:n*5<=xs.length):putCells id 0 (flatK grC 5 G.toArray) xs.toArray=(G.flatMap grC++xs.drop (n*5)).toArray:=by
 have f:(flatK grC 5 G.toArray).size=n*5:=by rw[size_flatK];simp[c]
 have a:(G.flatMap grC).length=n*5:=by rw[rZ vH,c]
 apply Array.ext_getElem?;intro k;unfold putCells;rw[Array.getElem?_mapIdx,f,List.getElem?_toArray,List.getElem?_toArray];by_cases g:k<n*5
 .have b:k<xs.length:=by omega
  have e:k / 5<G.length:=by omega
  rw[gE b,jP,oJ ⟨qG _,by omega⟩,qO oo,Nat.sub_zero,get_flatK _ _ _ _ (by simp[c];exact g)];have h:G[k / 5]? = some G[k / 5]:=gE e
  have:=Hh vH G (k / 5) _ (k%5) h (Nat.mod_lt _ oo)
  rw[show k / 5*5+k%5=k by omega]at this;rw[this];have d:k%5<(grC G[k / 5]).length:=Nat.mod_lt _ dc;rw[gE d];simp[e,d]
 .rw[qP oo,a,jM,show n*5+(k-n*5)=k by omega];cases j:xs[k]? with
  | none=>rfl
  | some v=>rw[jP,oI oo]
open Go.Sort in
theorem Zm {G G':List GR}{B n:Nat}{os:Array Obj}(a:Opn w B 61 5 n c g xs (G.flatMap grC))(h:G'.length=n):Opn (sortWorldK grC 5 w g 0 m G'.toArray os) B 61 5 n c g (G'.flatMap grC++xs.drop (n*5)) (G'.flatMap grC)/\w.grownBy (sortWorldK grC 5 w g 0 m G'.toArray os) (some g):=by
 have j:n*5<=xs.length:=by rw[a.len];exact Nat.mul_le_mul_right _ a.nc
 have d:(G'.flatMap grC).length=n*5:=by rw[rZ vH,h]
 have l:=a.blk.lt;have i:(sortWorldK grC 5 w g 0 m G'.toArray os).heap[g]? = some (.cells (G'.flatMap grC++xs.drop (n*5)).toArray 61):=by
  show (w.heap.modify g (onCells (putCells id 0 (flatK grC 5 G'.toArray)))++os)[g]? = _;have b:=a.blk;unfold Go.Proofs.YtgohpbmmcgenpaaGreatDoor.blk at b;rw[Array.getElem?_append_left (by simpa using l),Array.getElem?_modify,oJ rfl,b,jP];unfold onCells;simp only;rw[XL h j]
 refine⟨⟨i,a.lo,a.nc,a.cm,?_,?_,?_⟩,⟨rfl,rfl,rfl,?_,λk o f=>?_⟩⟩
 .rw[oT,d,qB,a.len]
  have:=a.len
  omega
 .rw[qJ oo,tL oo]
 .exact d
 .show w.heap.size<=(w.heap.modify g _++os).size;simp
 .show (w.heap.modify g _++os)[k]? = _;rw[Array.getElem?_append_left (by simpa using o),Array.getElem?_modify,oI (λe=>f (by rw[e]))]
open Go.Sort in
theorem zgS {G : List GR} {B n c : Nat} {a : Option Addr} (hr : w.ownsRow B 61 5 (.slice a n c) n (G.flatMap grC)) (hl : G.length = n) (hn : n < 4611686018427387904)
    (h : ∀ (w' : World) (G' : List GR), G'.Perm G → G'.Pairwise (fun x y => ¬ ltG y x) → w'.ownsRow B 61 5 (.slice a n c) n (G'.flatMap grC) → w.grownBy w' (Value.slice a n c).ownBlock → K (.tuple #[]) w') :
    call Tryz.prog 62 #[.slice a n c, .func (.func 63) #[] #[]] K w := by
  have hgo : Kr Tryz.prog 62 := ⟨_, Tryz.func62, by kernel_rfl, by kernel_rfl⟩
  refine ao hgo ?_
  unfold Gives
  by_cases h0 : n = 0
  · subst h0
    have hG : G = [] := List.eq_nil_of_length_eq_zero hl
    subst hG
    have hc := AnyF.slices_SortFunc_none Tryz.sortGr a c (.func (.func 63) #[] #[]) w
    change Calls Tryz.prog 62 _ _ _ at hc
    refine Calls.mono hc fun e w' he => ?_
    obtain ⟨rfl, rfl⟩ := he
    exact ⟨_, rfl, h _ [] (List.Perm.refl _) List.Pairwise.nil hr ⟨rfl, rfl, rfl, Nat.le_refl _, fun _ _ _ => rfl⟩⟩
  · obtain ⟨g, cur, rfl, op⟩ := iM hr (by omega)
    subst hl
    have hH : HoldsK grC 5 w g 0 G.toArray := by
      intro j hj
      rw [size_flatK] at hj
      have hj : j < G.length * 5 := by simpa using hj
      have hi : j / 5 < G.length := by omega
      have hx : G[j / 5]? = some G[j / 5] := List.getElem?_eq_getElem hi
      have h5 : j % 5 < (grC G[j / 5]).length := Nat.mod_lt _ (by decide)
      refine ⟨?_, ?_⟩
      · rw [op.blk.cell, Nat.zero_add, get_flatK _ _ _ _ (by simpa using hj)]
        have := op.cell vH rfl hx (Nat.mod_lt j (show 0 < 5 by omega))
        rw [show j / 5 * 5 + j % 5 = j by omega] at this
        rw [this, List.getElem?_eq_getElem h5]
        simp [hi, h5]
      · have hbk := op.blk
        unfold Go.Proofs.YtgohpbmmcgenpaaGreatDoor.blk at hbk
        unfold World.frozen?
        rw [hbk]
        rfl
    have hc := AnyQ.slices_SortFunc Tryz.sortGr 5 (by intro W; kernel_rfl) (by intro W; kernel_rfl) grC vH Lj UZ zk2 63 #[] g 0 c G.toArray w
      (enters_of Tryz.func63 (by kernel_rfl) rfl) (fun m os dk _ x y => zj6 x y _) hH op.blk.lt (by simpa using hn)
    change Calls Tryz.prog 62 _ _ _ at hc
    rw [List.size_toArray] at hc
    refine Calls.mono hc fun e w' he => ?_
    obtain ⟨rfl, d', m, os, hp, hs, rfl⟩ := he
    have hd : d'.toList.toArray = d' := rfl
    have hdl : d'.toList.length = G.length := by
      have := hp.1
      simpa using this
    rw [← hd]
    obtain ⟨o2, g2⟩ := Zm (m := m) (os := os) op (G' := d'.toList) hdl
    refine ⟨_, rfl, h _ d'.toList ?_ ?_ o2.own g2⟩
    · have h2 := hp.2.2
      have e1 : d'.extract 0 G.length = d' := by rw [← hdl]; simp
      have e2 : G.toArray.extract 0 G.length = G.toArray := by simp
      rw [e1, e2] at h2
      exact h2
    · rw [List.pairwise_iff_getElem]
      intro i j hi hj hij
      have := hs i j (Nat.zero_le _) hij (by rw [← hdl]; exact hj)
      rw [Qd, decide_eq_false_iff_not] at this
      have ei : d'[i]! = d'.toList[i] := by simp [show i < d'.size by simpa using hi]
      have ej : d'[j]! = d'.toList[j] := by simp [show j < d'.size by simpa using hj]
      rw [ei, ej] at this
      exact this
end
def ze9:(Tryz.prog.info? 61).map (λi=>(i.zero,i.size,i.bytes))=some (some (.agg (grC ⟨0,0,0,0,0⟩).toArray),5,40):=by kernel_rfl
def zd4{G G':List GR}(f:G.Pairwise ltG)(n:G'.Perm G)(h:G'.Pairwise λx y=>¬ltG y x):G'=G:=by
 have s:∀x∈G,∀y∈G,¬ltG x y->¬ltG y x->x=y:=by
  intro x t y u c d;obtain⟨i,q⟩:=List.getElem?_of_mem t;obtain⟨j,r⟩:=List.getElem?_of_mem u;obtain⟨l,rfl⟩:=gS q;obtain⟨m,rfl⟩:=gS r;rcases Nat.lt_trichotomy i j with e|e|e
  .exact qI (List.pairwise_iff_getElem.1 f i j l m e) c
  .subst e;rfl
  .exact qI (List.pairwise_iff_getElem.1 f j i m l e) d
 refine List.Perm.eq_of_pairwise (le:=λx y=>¬ltG y x) (λa b o p c d=>s a (n.mem_iff.1 o) b p d c) h (f.imp λ{x y} g k=>zgi (zcm g k)) n
section
variable  {K:KV}{q:LB}{s:PL}
def SE(h:PM w q s)(hi:PI s)(hn:s.G.length<=1000000)(hK:∀w' t d gc,SO w' (w.heap.size+1) s t d gc->Below w.heap.size w w'->K (.agg (saC t).toArray) w'):call Q 44 #[pB q.p] K w:=by
 have aw:=h.lt;refine zeJ h hi ?_;intro l0 s2 zf w1 B C q0 q1 z1 n1 j;subst q0 q1;have p1:=h.below j;obtain⟨m,hm,i⟩:=p1.gm;refine Ii ?_;refine au (Mr (lK (v:=.map (some q.gm)) p1.b (by rw[oK];exact p1.c27) (PJ underlying137 hm λw2 Z b2 s2=>?_)));have hz:=z1.lt;have aS:q.gm<w.heap.size:=aw _ (by simp[LB.l]);have z2:=ae b2 z1 z1.lt
 have n2:=dl n1 λk f=>b2.block k (jS n1 k f).2;have aa:=j.trans (b2.mono j.size);have X:(m.map (·.1)).Nodup:=Z.nodup.2.1;have ax:m.length=s.G.length:=by rw[i.length_eq];unfold grL;rw[oY]
 generalize hr:w1.heap.size=r at Z s2;obtain⟨ii,av,aC,aB,ar⟩:=info_parts ze9;refine Ih (Inv:=λR=>∃(D:List ((Int×Int)×GR)) (d:Option Addr) (gc:Nat),IT rqV grV R r q.gm m (D.map (·.1))/\(∀x∈D,x∈m)/\blk R w.heap.size 38 (saC ⟨s.I,s.L,s.V,s.N,B,C,.slice d D.length gc⟩) /\
   R.ownsRow (r+1) 61 5 (.slice d D.length gc) D.length ((D.map (·.2)).flatMap grC)/\R.ownsRow (w.heap.size+1) 58 56 (.slice B s.N.length C) s.N.length (s.N.flatMap ndE)/\Below w.heap.size w R/\r+1<=R.heap.size) (μ:=λR=>jm R q.gm r)
  ⟨[],none,0,Z,by simp,z2,World.ownsRow_nil _ _ _ _,n2,aa,by omega⟩ ?_
 rintro dd w3 mu ⟨D,d,gc,u,hD,z3,r3,n3,F,aJ⟩ ay;have ah:(D.map (·.1)).Nodup:=u.nodup.1;have aQ:D.length<=s.G.length:=by
  have:=wG ah u.nodup.2.2
  simpa[ax]using this
 refine Po u oo (λaj=>?_) λid v w4 O aT E ao o4 aO=>?_
 .refine te rfl (aD ?_);refine Ij ?_;have ap:D.Perm m:=by
   have aF:D.Nodup:=(List.pairwise_map.1 ah).imp λY e=>Y (by rw[e]);have aG:m.Nodup:=(List.pairwise_map.1 X).imp λY e=>Y (by rw[e]);refine(List.perm_ext_iff_of_nodup aF aG).2 λx=>⟨hD x,λhx=>?_⟩
   obtain⟨y,hy,e⟩:=qT.1 (aj x.1 (qT.2 ⟨x,hx,rfl⟩));have h1:=nD (x:=x.1) (v:=x.2) X hx;have h2:=nD (x:=y.1) (v:=y.2) X (hD y hy);rw[e,h1]at h2
   have:x=y:=Prod.ext e.symm (Option.some.inj h2)
   rw[this];exact hy
  have ai:(D.map (·.2)).Perm s.G:=by
   have:=(ap.trans i).map (·.2)
   have e:(grL s.G).map (·.2)=s.G:=by unfold grL;rw[jG];exact List.map_id _
   rw[e]at this;exact this
  have ag:D.length=s.G.length:=by have:=ai.length_eq;rwa[oY]at this
  have T:(saC ⟨s.I,s.L,s.V,s.N,B,C,.slice d D.length gc⟩)[19]? = some (.slice d D.length gc):=by
   rw[LL,show (19:Nat)=18+1 by omega,qP (by simp[hi.i6,hi.l6,hi.v6])];simp[hi.i6,hi.l6,hi.v6]
  refine rY (lK (v:=.slice d D.length gc) z3 (by rw[oK];exact T) ?_);refine zgS r3 (by rw[oY]) oo λw5 G' az aA r5 U=>?_;have aq:G'=s.G:=zd4 hi.gs (az.trans ai) aA;subst aq;have z5:=yy z3 r3 dc U;have n5:=Pq n3 r3 dc U
  have ab:Below w.heap.size w w5:=F.trans (cS U oo λk f=>by have:=(jS r3 k f).1;omega);rw[ag]at z5 r5;have ak:((saC ⟨s.I,s.L,s.V,s.N,B,C,.slice d s.G.length gc⟩).drop 0).take 20=saC ⟨s.I,s.L,s.V,s.N,B,C,.slice d s.G.length gc⟩:=by
   rw[oX,tL (by rw[ss hi.i6 hi.l6 hi.v6];omega)]
  refine ldA (n:=20) (vs:=saC ⟨s.I,s.L,s.V,s.N,B,C,.slice d s.G.length gc⟩) underlying38 rfl kr z5 ak (ss hi.i6 hi.l6 hi.v6) ?_;refine fY (n:=20) (vs:=saC ⟨s.I,s.L,s.V,s.N,B,C,.slice d s.G.length gc⟩) kr (ss hi.i6 hi.l6 hi.v6) z5 (by rw[ss hi.i6 hi.l6 hi.v6];omega) (W8 rfl) λw6 z6 o6=>?_
  refine zjx (vs:=saC ⟨s.I,s.L,s.V,s.N,B,C,.slice d s.G.length gc⟩) underlying38 rfl (by rw[ss hi.i6 hi.l6 hi.v6];kernel_rfl) z6 (by rw[qX,oV,oS (by rw[ss hi.i6 hi.l6 hi.v6];omega),oW]) ?_;have r6:=II r5 z5 dc o6
  refine hK w6 _ d gc ⟨rfl,rfl,rfl,rfl,rfl,II n5 z5 dc o6,⟨r6.1,r6.2.imp id λ⟨g,an,af,a,b,c⟩=>⟨g,an,af,a,by omega,c⟩⟩⟩ (gI ab o6 oA)
 .have hv:(id,v)∈grL s.G:=i.mem_iff.1 O;obtain⟨g0,aR,e1⟩:=qT.1 hv;simp only[jH]at e1;obtain⟨rfl,rfl⟩:=e1;have aN:D.length<s.G.length:=by
   have h1:(D.map (·.1)++[(g0.o,g0.q)]).Nodup:=E.nodup.1
   have:=wG h1 E.nodup.2.2
   simp only[oT,oY,List.length_singleton]at this;omega
  refine te rfl (bc (OF ao (bJ ?_)));have aU:=u.lt;have z4:=o4.blk z3 oo;have r4:=dl r3 λk f=>o4.other k (by have:=(jS r3 k f).1;omega);have n4:w4.ownsRow (w.heap.size+1) 58 56 (.slice B s.N.length C) s.N.length (s.N.flatMap ndE):=dl n3 λk f=>o4.other k (λe=>by
   obtain⟨⟨af,hc⟩,_⟩:=Ho n3 f;subst e;obtain⟨es,c,aI,aP,c0,_,hh,_⟩:=u;unfold Go.Proofs.YtgohpbmmcgenpaaGreatDoor.blk at hc;rw[hc]at hh;cases hh)
  have H:=gI F o4 oo;have aK:r+1<=w4.heap.size:=by rw[o4.size];exact aJ
  refine cD (z:=.agg (grC ⟨0,0,0,0,0⟩).toArray) kr λw5 g5 b5 s5=>?_;have g5:=cZ g5
  refine fY (n:=5) (vs:=grC g0) kr rfl g5 (by show 0+5<=5;omega) (Lj _) λw6 g6 o6=>?_;have g6:blk w6 w4.heap.size 61 (grC g0):=g6;have B6:Below w4.heap.size w4 w6:=gI b5 o6 oA;have z6:=ae B6 z4 z4.lt;have r6:=dl r4 λk f=>B6.block k (jS r4 k f).2;have n6:=dl n4 λk f=>B6.block k (jS n4 k f).2;have al:=E.below B6
  have J:=H.trans (B6.mono H.size);have aL:=qR aK B6.size;have T:(saC ⟨s.I,s.L,s.V,s.N,B,C,.slice d D.length gc⟩)[19]? = some (.slice d D.length gc):=by
   rw[LL,show (19:Nat)=18+1 by omega,qP (by simp[hi.i6,hi.l6,hi.v6])];simp[hi.i6,hi.l6,hi.v6]
  refine rY (lK (v:=.slice d D.length gc) z6 (by rw[oK];exact T) ?_);refine ldA (n:=5) (vs:=grC g0) underlying61 rfl kr g6 rfl rfl ?_;refine qb (vs:=[.agg (grC g0).toArray]) underlying36 (s:=5) kr kr oo rfl oB oB oB (by simp[Value.cells,vH]) λw7 g7 S s7=>?_
  have g7:=cZ g7
  have z7:=ae S z6 z6.lt;have r7:=dl r6 λk f=>S.block k (jS r6 k f).2;have n7:=dl n6 λk f=>S.block k (jS n6 k f).2;have A:=al.below S;have ac:=J.trans (S.mono J.size);have am:=qR aL S.size
  refine zc (base:=r+1) (enc:=grC) (x:=g0) underlying36 av aC aB ar rfl oo vH r7 g7 (Lj _) oo oo am λa8 c8 w8 r8 W b8 _=>?_;have z8:=yy z7 r7 dc W;have n8:=Pq n7 r7 dc W;have k8:∀k,k<r+1->k<w7.heap.size->w8.heap[k]? = w7.heap[k]? := λk f hl=>W.block k hl λe=>by have:=(jS r7 k e.symm).1;omega
  have aE:=A.kept (k8 _ oo A.lt.2) (k8 _ oo A.lt.1);have ad:=ac.trans (b8.mono oo);refine rY (dw kf z8 (by rw[ss hi.i6 hi.l6 hi.v6];omega) rfl λw9 z9 P=>?_);rw[oK,zgK hi.i6 hi.l6 hi.v6]at z9;have aM:=qR am b8.size;have M:(D++[((g0.o,g0.q),g0)]).length=D.length+1:=by simp
  refine⟨⟨D++[((g0.o,g0.q),g0)],a8,c8,?_,?_,by rw[M];exact z9,?_,II n8 z8 dc P,gI ad P oA,by rw[P.size];exact aM⟩,?_⟩
  .rw[jJ];exact aE.kept (P.other _ oo) (P.other _ oo)
  .intro x hx;rcases oU.1 hx with hh|hh
   .exact hD x hh
   .rw[mS hh];exact O
  .rw[M,jJ,List.flatMap_append];have e2:([((g0.o,g0.q),g0)].map (λx:(Int×Int)×GR=>x.2)).flatMap grC=grC g0:=by simp
   rw[e2];have aH:w8.ownsRow (r+1) 61 5 (.slice a8 (D.length+1) c8) (D.length+1) ((D.map (·.2)).flatMap grC++grC g0):=by
    have:=r8
    rw[List.flatMap_append]at this;simpa using this
   exact II aH z8 dc P
  .rw[ay];have e1:jm w9 q.gm r=jm w8 q.gm r:=xg (P.other _ oo) (P.other _ oo);have e2:jm w8 q.gm r=jm w7 q.gm r:=xg (k8 _ oo A.lt.2) (k8 _ oo A.lt.1);have e3:jm w7 q.gm r=jm w6 q.gm r:=Eo al S;have e4:jm w6 q.gm r=jm w4 q.gm r:=Eo E B6;omega
end
def WV{K:KV}(h:fK Q 152 none (λa=>bld Q 154 #[(0,a)] λa=>box Q 154 a K) w):Gives Q 31 #[] w K:=aw func31 kr (mpK h)
def rP(is1 d2 l4 C0:oF)(zf:oD):=zf 0::is1::d2::zf 3::l4::zT zf 5 8 (C0::zT zf 14 14 ([]))
def gN(K:KV):KE:=kZ f231 [1,1,1] K
def rn(K:KV):KE:=aj Q (cd f231 (b1 58)) (gN K) (xx xf (gN K) 0) (rk f231 K)
section
variable {K:KV}{is1 d2 l4 C0:oF}  
def Kj{K:KV}(h:bT .eql 116 H (.pointer none) (λa w=>cond a (K cN w) (bj H (λb=>aq Q 154 b 0 λc=>ld Q 152 c λd=>rng Q 152 d λe=>rn K (rP Z uu cN e (zV (zV zu 0 [H]) 7 [H,a,H,b,c,d]))) w)) w):Gives Q 231 #[H,Z] w K:=aw func231 kr (mpK h)
def HC(Inv:oF->oG->Prop)(μ:oF->oG->Nat)(f:Inv l4 w)(i:∀(a:oF) (e:oD) (w:oG) (m:Nat),Inv a w->m=μ a w ->
  nxt Q C0 false 0 (λb=>ext Q b 0 λc w=>cond c (ent Q C0 (λb=>ext Q b 1 λb=>bS Q is1 #[b] λc w=>cond c (cH Q 333 1 #[(0,b)] (λb=>blt Q .append #[333,333] 333 #[false,false] #[a,b] λa w=>(Inv a w)/\((μ a w)<m)) w) ((Inv a w)/\((μ a w)<m))) w) (gN K (rP is1 d2 a C0 (zV e 14 [b,c])) w)) w):rn K (rP is1 d2 l4 C0 zf) w:=by refine aZ (cd f231 (b1 116)) (zr [(4,1),(6,1),(14,11)]) kr (vP [4] Inv) (vQ [4] μ) f ?_;intro d j g;have h:=i _ (zM zf (gd d) (zr [(4,1),(6,1),(14,11)])) j _ g rfl;revert h;generalize (gN K)=qc0;exact mpF
def HD(h:call Q 250 #[l4,.func (.func 251) #[] #[]] (λ_=>K l4) w):gN K (rP is1 d2 l4 C0 zf) w:=mpK h
end
attribute [irreducible] gN rn
def sD(VP A3 A4 A5:oF)(zf:oD):=zf 0::zf 1::VP::zT zf 3 3 (A3::A4::A5::zT zf 9 12 ([]))
def ig(K:KV):KE:=kZ f208 [1,1] K
def rO(K:KV):KE:=aj Q (cd f208 [1,0,1,0]) (ig K) (xx xf (ig K) 0) (rk f208 K)
section
variable {K:KV}{VP A3 A4 A5:oF}  
def KZ{K:KV}(h:call Q 231 #[H,.func (.func 232) #[] #[]] (λa=>lN 333 a λb=>rO K (sD cN a b (ci 0) (zV (zV zu 0 [H]) 5 [H]))) w):Gives Q 208 #[H] w K:=aw func208 kr (mpK h)
def Je(Inv:oF->oF->oG->Prop)(μ:oF->oF->oG->Nat)(g:Inv VP A5 w)(j:∀(a b:oF) (f:oD) (w:oG) (m:Nat),Inv a b w->m=μ a b w ->
  lS b A4 (λc w=>cond c (bv Q 333 A3 b (λc=>ld Q 273 c λc=>bj c λc=>aq Q 278 c 0 λc=>ld Q 276 c λc=>cH Q 311 1 #[(0,c)] λc=>blt Q .append #[311,311] 311 #[false,false] #[a,c] λa=>nC b λb w=>(Inv a b w)/\((μ a b w)<m)) w) (ig K (sD a A3 A4 b (zV f 9 [c])) w)) w):rO K (sD VP A3 A4 A5 zf) w:=by refine aZ (cd f208 (b1 52)) (zr [(2,1),(4,1),(8,12)]) kr (vP [2,8] Inv) (vQ [2,8] μ) g ?_;intro d k i;have h:=j _ _ (zM zf (gd d) (zr [(2,1),(4,1),(8,12)])) k _ i rfl;revert h;generalize (ig K)=qc0;exact mpF
def Jf(h:K VP w):ig K (sD VP A3 A4 A5 zf) w:=mpK h
end
attribute [irreducible] ig rO
def Jd{K:KV}(h:K cT w):Gives Q 232 #[H] w K:=aw func232 kr (mpK h)
def tO(d2 jd kA A6 A7 A8:oF)(zf:oD):=zf 0::zf 1::d2::jd::kA::zT zf 5 4 (A6::A7::A8::zT zf 12 30 ([]))
def iF(K:KV):KE:=kZ f210 [1,1] K
def sC(K:KV):KE:=aj Q (cd f210 [1,0,1,0]) (iF K) (xx xf (iF K) 0) (rk f210 K)
section
variable {K:KV}{d2 jd kA A6 A7 A8:oF}  
def Mj{K:KV}(h:box Q 32 Z (λa=>call Q 231 #[H,.func (.func 235) #[] #[a]] λb=>lN 333 b λc=>sC K (tO uu a cN b c (ci 0) (zV (zV zu 0 [H,Z]) 7 [H,.func (.func 235) #[] #[a]]))) w):Gives Q 210 #[H,Z] w K:=aw func210 kr (mpK h)
def Kd(Inv:oF->oF->oG->Prop)(μ:oF->oF->oG->Nat)(g:Inv kA A8 w)(j:∀(a b:oF) (f:oD) (w:oG) (m:Nat),Inv a b w->m=μ a b w ->
  lS b A7 (λc w=>cond c (bv Q 333 A6 b (λc=>ld Q 273 c λc=>bj c λd=>aq Q 278 d 0 λd=>ld Q 276 d λd=>cH Q 311 1 #[(0,d)] λd=>blt Q .append #[311,311] 311 #[false,false] #[a,d] λa w=>sL 32 jd (λd=>sN c λe=>sF 278 e 2 λe=>sL 32 e λe=>sti (bF .add 32 d e) λd=>sN c λe=>sF 278 e 1 λe=>sto Q 32 e d λ_=>bj c λd=>aq Q 278 d 2 λd=>ld Q 32 d λd=>bin Q .mul 32 true false (cu 2) d λd=>blt Q .min #[32,32] 32 #[false,true] #[d,cu 16] λd=>bj c λc=>aq Q 278 c 2 λc=>sto Q 32 c d λ_=>nC b λb w=>(Inv a b w)/\((μ a b w)<m)) w.drew) w) (iF K (tO d2 jd a A6 A7 b (zV f 12 [c])) w)) w):sC K (tO d2 jd kA A6 A7 A8 zf) w:=by refine aZ (cd f210 (b1 52)) (zr [(4,1),(6,1),(11,30)]) kr (vP [4,11] Inv) (vQ [4,11] μ) g ?_;intro d k i;have h:=j _ _ (zM zf (gd d) (zr [(4,1),(6,1),(11,30)])) k _ i rfl;revert h;generalize (iF K)=qc0;exact mpF
def Ke(h:K kA w):iF K (tO d2 jd kA A6 A7 A8 zf) w:=mpK h
end
attribute [irreducible] iF sC
def VV{K:KV}(h:call Q 27 #[Z] (λa=>ext Q a 0 λc=>ext Q a 1 λa=>bT .neq 28 a (ci 0) λb w=>aT b false (λc=>bT .lss 3 H (ci 1) (λa=>c [H,a]) w) (λk=>k [uu,uu] w) λa=>pick b cT (gd a 1) λa w=>aT a false (λd=>bT .gtr 3 H (ci 6) (λa=>d [H,a]) w) (λk=>k [uu,uu] w) λb=>pick a cT (gd b 1) λa w=>cond a (K (.tuple #[.pointer none,ci 1]) w) (call Q 28 #[] (λa=>call Q 29 #[] λb=>call Q 30 #[] λd=>call Q 31 #[] λe=>bld Q 119 #[(0,H),(1,c),(2,a),(3,b),(4,d),(5,e)] λa=>box Q 119 a λa=>K (.tuple #[a,ci 0])) w)) w):Gives Q 20 #[Z,H] w K:=aw func20 kr (mpK h)
def yR{K:KV}(h:box Q 49 Z (λa w=>aL (λS w=>hN S H λb=>hF S 119 b 1 λb=>hL S 107 b λb=>hL S 49 a λc=>call Q 59 #[b,c] (λb=>aL λ_=>bT .neq 28 b (ci 0) λc w=>cond c (K b w) (aL (λS w=>hN S H λb=>hF S 119 b 2 λb=>hL S 110 b λb=>hL S 49 a λa=>call Q 60 #[b,a] (λ_=>K (ci 0)) w) w.drew)) w) w.drew) w):Gives Q 43 #[H,Z] w K:=aw func43 kr (mpK h)
def aH(r0 m3 dQ e6 e7 is8 A6 A7 A8:oF)(zf:oD):=r0::zf 1::zf 2::m3::dQ::zf 5::e6::e7::is8::zf 9::A6::A7::A8::zT zf 13 52 ([])
def eS(K:KV):KE:=kZ f217 [1,1] K
def rM(K:KV):KE:=aj Q (cd f217 [1,0,1,0]) (eS K) (xx xf (eS K) 0) (rk f217 K)
def cn(K:KV):KE:=kZ f217 [1,1,1] K
def kj(K:KV):KE:=aj Q (cd f217 (b1 58)) (cn K) (xx xf (cn K) 2) (rk f217 K)
def eU(K:KV)(B1:KE):KE:=kY f217 (b1 467) B1 (xx xf (cn K) 2) K
def mN(K:KV)(B1:KE):KE:=aj Q (cd f217 (b1 466)) (eU K B1) (xx xf (cn K) 2) (rk f217 K)
abbrev xu(K:KV)(hA0:KE)(r0 m1:oF)(w:oG):Prop :=
  box Q 268 m1 (λa=>aq Q 268 a 4 λb=>ld Q 100 b λc=>lN 100 c λd=>hA0 (aH r0 a cN uu uu uu c d (ci 0) (zV (zV zu 1 [m1]) 9 [b]))) w
section
variable {K:KV}{r0 m3 dQ e6 e7 is8 A6 A7 A8:oF}  
def FT{K:KV}(h:xu K (aj Q (cd f217 [1,0,1,0]) (aj Q (cd f217 [1,1]) (rk f217 K) (λ_ _ _=>False) (rk f217 K)) (λi=>@Bool.rec (λ_=>KE) ((λ_ _ _=>False) i) (aj Q (cd f217 [1,1]) (rk f217 K) (λ_ _ _=>False) (rk f217 K)) (Nat.beq i 0)) (rk f217 K)) Z H w):aj Q (cd f217 []) (rk f217 K) xf (rk f217 K) (aH Z uu uu uu uu uu uu uu uu (zV zu 1 [H])) w:=Eq.mp kr h
def Fm{K:KV}(h:xu K (rM K) Z H w):Gives Q 217 #[Z,H] w K:=aw func217 kr (Eq.mp (qH (λc=>aj Q c (rk f217 K) xf (rk f217 K) (aH Z uu uu uu uu uu uu uu uu (zV zu 1 [H])) w) (by kernel_rfl:(cd f217 [])=(cd f217 []))) (FT h))
def CT{K:KV}(B1:KE)(a:KE)(h:lS Z Y (λb w=>cond b (bv Q 100 U Z (λa=>ld Q 49 a λc=>alc Q 49 λd=>sto Q 49 d c λ_ w=>aL (λS w=>hN S H λe=>hF S 119 e 3 λf=>hL S 112 f λg=>hN S H λh=>hF S 119 h 1 λi=>hL S 107 i λj=>hL S 49 d λk=>call Q 240 #[j] (λl=>bw S λ_=>call Q 239 #[g,l,k] λm=>nC Z λn=>B1 (aH H J C d P2 Q2 U Y n (zV zf 13 [b,a,c,H,e,f,g,H,h,i,j,l,k,m,n]))) w) w.drew) w) (a (aH H J C (zf 6) P2 Q2 U Y Z (zV zf 13 [b])) w)) w):aj Q (cd f217 (b1 52)) B1 (xx xf a 0) (rk f217 K) (aH H J C (zf 6) P2 Q2 U Y Z zf) w:=Eq.mp kr h
def CU(Inv:oF->oG->Prop)(μ:oF->oG->Nat)(f:Inv A8 w)(j:∀(a:oF) (e:oD) (w:oG) (m:Nat),Inv a w->m=μ a w ->
  lS a A7 (λb w=>cond b (bv Q 100 A6 a (λb=>ld Q 49 b λb=>alc Q 49 λc=>sto Q 49 c b λ_ w=>aL (λS w=>hN S r0 λb=>hF S 119 b 3 λb=>hL S 112 b λb=>hN S r0 λd=>hF S 119 d 1 λd=>hL S 107 d λd=>hL S 49 c λc=>call Q 240 #[d] (λd=>bw S λ_=>call Q 239 #[b,d,c] λ_=>nC a λa w=>(Inv a w)/\((μ a w)<m)) w) w.drew) w) (eS K (aH r0 m3 dQ (e 6) e7 is8 A6 A7 a (zV e 13 [b])) w)) w):rM K (aH r0 m3 dQ e6 e7 is8 A6 A7 A8 zf) w:=by
 refine aZ (cd f217 (b1 52)) (zr [(6,1),(12,16)]) kr (vP [12] Inv) (vQ [12] μ) f ?_;intro d O i;have h:=j _ (zM zf (gd d) (zr [(6,1),(12,16)])) O _ i rfl
 have g:aj Q (cd f217 (b1 52)) (λb c=>Inv (gd b 12) c/\μ (gd b 12) c<μ (gd d 12) O) (xx xf (eS K) 0) (rk f217 K) (aH r0 m3 dQ (gd d 6) e7 is8 A6 A7 (gd d 12) (zM zf (gd d) (zr [(6,1),(12,16)]))) O:=CT (λb c=>Inv (gd b 12) c/\μ (gd b 12) c<μ (gd d 12) O) (eS K) (Eq.mp kr h);exact Eq.mp kr g
abbrev vj(K:KV)(hA0:KE)(r0 m3 dQ e6 e7 is8 A6 A7 A8:oF)(zf:oD)(w:oG):Prop :=
  aL (λS w=>hN S r0 λa=>hF S 119 a 3 λb=>hL S 112 b λc=>hN S r0 λd=>hF S 119 d 1 λe=>hL S 107 e λf=>(call Q 240 #[f] (λg=>bw S λS w=>(call Q 241 #[c,g] (λh=>aL λS w=>hld S (ext Q h 0) λi=>hld S (ext Q h 1) λj=>alc Q 49 (λk=>bw S λS=>sto Q 49 k i λ_=>bw S λ_=>hA0 (aH r0 m3 dQ e6 k j A6 A7 A8 (zV zf 28 [h,r0,a,b,c,r0,d,e,f,g,h,i,j]))) w) w)/\(alc Q 49 (λh=>bw S λ_=>call Q 241 #[c,g] λi=>aL λS w=>hld S (ext Q i 0) λj=>hld S (ext Q i 1) λk=>sto Q 49 h j (λ_=>bw S λ_=>hA0 (aH r0 m3 dQ e6 h k A6 A7 A8 (zV zf 28 [i,r0,a,b,c,r0,d,e,f,g,i,j,k]))) w) w)) w)/\(alc Q 49 (λg=>bw S λS=>call Q 240 #[f] λh=>bw S λ_=>call Q 241 #[c,h] λi=>aL λS w=>hld S (ext Q i 0) λj=>hld S (ext Q i 1) λk=>sto Q 49 g j (λ_=>bw S λ_=>hA0 (aH r0 m3 dQ e6 g k A6 A7 A8 (zV zf 28 [i,r0,a,b,c,r0,d,e,f,h,i,j,k]))) w) w)) w.drew
def CY{K:KV}(h:vj K (aj Q (cd f217 (b1 58)) (aj Q (cd f217 [1,1,1]) (rk f217 K) (λ_ _ _=>False) (rk f217 K)) (λi=>@Bool.rec (λ_=>KE) ((λ_ _ _=>False) i) (aj Q (cd f217 [1,1,1]) (rk f217 K) (λ_ _ _=>False) (rk f217 K)) (Nat.beq i 2)) (rk f217 K)) Z1 H Z U Y J C U2 V2 zf w):aj Q (cd f217 [1,1]) (rk f217 K) xf (rk f217 K) (aH Z1 H Z U Y J C U2 V2 zf) w:=Eq.mp kr h
def CZ(h:vj K (kj K) r0 m3 dQ e6 e7 is8 A6 A7 A8 zf w):eS K (aH r0 m3 dQ e6 e7 is8 A6 A7 A8 zf) w:=by delta eS;exact Eq.mp (qH (λc=>aj Q c (rk f217 K) xf (rk f217 K) (aH r0 m3 dQ e6 e7 is8 A6 A7 A8 zf) w) (by kernel_rfl:(cd f217 [1,1])=(cd f217 [1,1]))) (CY h)
def CV{K:KV}(B1:KE)(a:KE)(b:Code)(h:cond H (aj Q b (aj Q (cd f217 (b1 467)) B1 (λi=>@Bool.rec (λ_=>KE) ((λ_ _ _=>False) i) a (Nat.beq i 2)) (rk f217 K)) (λi=>@Bool.rec (λ_=>KE) ((λ_ _ _=>False) i) a (Nat.beq i 2)) (rk f217 K) (aH Z1 Z U Y J H C U2 V2 (zV zf 41 [H])) w) (a (aH Z1 Z U Y J H C U2 V2 (zV zf 41 [H])) w)):aj Q (rep [1,0] b (cd f217 (b1 116))) B1 (xx xf a 2) (rk f217 K) (aH Z1 Z U Y J H C U2 V2 zf) w:=Eq.mp kr h
def CW(Inv:vI 3)(μ:vM 3)(g:Inv dQ e7 is8 w)(k:∀(a e c:oF) (f:oD) (w:oG) (m:Nat),Inv a e c w->m=μ a e c w ->
  cond c (mN K (λb S=>(Inv (gd b 4) (gd b 7) (gd b 8) S)/\((μ (gd b 4) (gd b 7) (gd b 8) S)<m)) (aH r0 m3 a e6 e c A6 A7 A8 (zV f 41 [c])) w) (cn K (aH r0 m3 a e6 e c A6 A7 A8 (zV f 41 [c])) w)):kj K (aH r0 m3 dQ e6 e7 is8 A6 A7 A8 zf) w:=by
 refine aZ (cd f217 (b1 116)) (zr [(4,1),(7,2),(41,23)]) kr (vP [4,7,8] Inv) (vQ [4,7,8] μ) g ?_;intro d O j;have h:=k _ _ _ (zM zf (gd d) (zr [(4,1),(7,2),(41,23)])) O _ j rfl
 have i:aj Q (rep [1,0] (cd f217 (b1 466)) (cd f217 (b1 116))) (λb S=>Inv (gd b 4) (gd b 7) (gd b 8) S/\μ (gd b 4) (gd b 7) (gd b 8) S<μ (gd d 4) (gd d 7) (gd d 8) O) (xx xf (cn K) 2) (rk f217 K) (aH r0 m3 (gd d 4) e6 (gd d 7) (gd d 8) A6 A7 A8 (zM zf (gd d) (zr [(4,1),(7,2),(41,23)]))) O:=CV (λb S=>Inv (gd b 4) (gd b 7) (gd b 8) S/\μ (gd b 4) (gd b 7) (gd b 8) S<μ (gd d 4) (gd d 7) (gd d 8) O) (cn K) (cd f217 (b1 466)) (Eq.mp kr h)
 exact Eq.mp kr i
abbrev vi(K:KV)(B1:KE)(hA0:KE)(r0 m3 dQ e6 e7 is8 A6 A7 A8:oF)(zf:oD)(w:oG):Prop :=
  ld Q 49 e7 (λa=>call Q 43 #[r0,a] λb=>bT .eql 28 b (ci 0) λc w=>cond c (ld Q 49 e7 (λd=>cH Q 100 1 #[(0,d)] λe=>blt Q .append #[100,100] 100 #[false,false] #[dQ,e] λf=>hA0 (aH r0 m3 f e6 e7 is8 A6 A7 A8 (zV zf 55 [r0,a,b,c,dQ,d,e,f]))) w) (hA0 (aH r0 m3 dQ e6 e7 is8 A6 A7 A8 (zV zf 55 [r0,a,b,c])) w)) w
def CQ{K:KV}(B1:KE)(a:KE)(b:KE)(h:vi K B1 a Z1 H Z U Y J C U2 V2 zf w):aj Q (cd f217 (b1 466)) a (xx xf b 2) (rk f217 K) (aH Z1 H Z U Y J C U2 V2 zf) w:=Eq.mp kr h
def CR(h:vi K B1 (eU K B1) r0 m3 dQ e6 e7 is8 A6 A7 A8 zf w):mN K B1 (aH r0 m3 dQ e6 e7 is8 A6 A7 A8 zf) w:=by delta mN;exact Eq.mp (qH (λc=>aj Q c (eU K B1) (xx xf (cn K) 2) (rk f217 K) (aH r0 m3 dQ e6 e7 is8 A6 A7 A8 zf) w) (by kernel_rfl:(cd f217 (b1 466))=(cd f217 (b1 466)))) (CQ B1 (eU K B1) (cn K) h)
abbrev vk(K:KV)(r0 m3 dQ e6 e7 is8 A6 A7 A8:oF)(zf:oD)(w:oG):Prop :=
  K dQ w
def Da{K:KV}(h:vk K Z1 H Z U Y J C U2 V2 zf w):aj Q (cd f217 [1,1,1]) (rk f217 K) xf (rk f217 K) (aH Z1 H Z U Y J C U2 V2 zf) w:=Eq.mp kr h
def Db(h:vk K r0 m3 dQ e6 e7 is8 A6 A7 A8 zf w):cn K (aH r0 m3 dQ e6 e7 is8 A6 A7 A8 zf) w:=by delta cn;exact Eq.mp (qH (λc=>aj Q c (rk f217 K) xf (rk f217 K) (aH r0 m3 dQ e6 e7 is8 A6 A7 A8 zf) w) (by kernel_rfl:(cd f217 [1,1,1])=(cd f217 [1,1,1]))) (Da h)
abbrev vl(K:KV)(B1:KE)(r0 m3 dQ e6 e7 is8 A6 A7 A8:oF)(zf:oD)(w:oG):Prop :=
  ld Q 49 e7 (λa=>alc Q 49 λb=>sto Q 49 b a λ_ w=>aL (λS w=>hN S r0 λc=>hF S 119 c 3 λd=>hL S 112 d λe=>hN S r0 λf=>hF S 119 f 1 λg=>hL S 107 g λh=>call Q 240 #[h] (λi=>bw S λ_=>call Q 241 #[e,i] λj=>aL λS w=>hld S (ext Q j 0) λk=>hld S (ext Q j 1) λl=>sto Q 49 b k (λ_=>bw S λ_=>B1 (aH r0 m3 dQ e6 b l A6 A7 A8 (zV (zV zf 42 [j,r0,c,d,e,r0,f,g,h,i,j,k,l]) 63 [a]))) w) w) w.drew) w
def Dc{K:KV}(B1:KE)(a:KE)(h:vl K B1 Z1 H Z U Y J C U2 V2 zf w):aj Q (cd f217 (b1 467)) B1 (xx xf a 2) (rk f217 K) (aH Z1 H Z U Y J C U2 V2 zf) w:=Eq.mp kr h
def Dd(h:vl K B1 r0 m3 dQ e6 e7 is8 A6 A7 A8 zf w):eU K B1 (aH r0 m3 dQ e6 e7 is8 A6 A7 A8 zf) w:=by delta eU;exact Eq.mp (qH (λc=>aj Q c B1 (xx xf (cn K) 2) (rk f217 K) (aH r0 m3 dQ e6 e7 is8 A6 A7 A8 zf) w) (by kernel_rfl:(cd f217 (b1 467))=(cd f217 (b1 467)))) (Dc B1 (cn K) h)
end
attribute [irreducible] eS rM cn kj eU mN
def iN(r0 m4 e7 A8:oF)(zf:oD):=r0::zT zf 1 3 (m4::zf 5::zf 6::e7::zT zf 8 4 (A8::zT zf 13 31 ([])))
def eE(K:KV):KE:=kZ f196 [1,1] K
def gB(K:KV):KE:=kY f196 (b1 103) (eE K) (xx xf (eE K) 0) K
def mC(K:KV):KE:=aj Q (cd f196 (b1 205)) (gB K) (xx xf (eE K) 0) (rk f196 K)
section
variable {K:KV}{r0 m4 e7 A8:oF}  
def Js{K:KV}(h:box Q 268 Z (λa=>bT .eql 93 H (.pointer none) λb w=>cond b (K (.tuple #[cN,ci 2]) w) (ld Q 268 a (λc=>call Q 191 #[c] λd=>un Q .not d λe=>mC K (iN H a (ci 0) e (zV (zV (zV (zV zu 1 [Z,U]) 6 [cN]) 9 [b,H,b]) 13 [c,d,e]))) w)) w):Gives Q 196 #[H,Z,U] w K:=by refine aw func196 kr <|Eq.mp (qH (λc=>aj Q c _ _ _ _ w) (by kernel_rfl:(rep (b1 205) (cd f196 (b1 205)) (cd f196 []))=(cd f196 []))) ?_;revert h;delta mC eE gB;generalize (cd f196 (b1 205))=xc0;exact mpF
def GK(h:cond A8 (gB K (iN r0 m4 e7 A8 zf) w) (sF 268 m4 2 (λa=>sL 3 a λb=>sN r0 λc=>sF 119 c 0 λd=>sL 3 d λe=>sti (bF .neq 3 b e) λf=>gB K (iN r0 m4 e7 f (zV zf 16 [a,b,r0,c,d,e,f]))) w.drew)):mC K (iN r0 m4 e7 A8 zf) w:=by delta mC;revert h;generalize (gB K)=qc0;generalize (eE K)=qc1;exact mpF
def GM(h:cond A8 (K (.tuple #[cN,ci 1]) w) (eE K (iN r0 m4 e7 A8 zf) w)):gB K (iN r0 m4 e7 A8 zf) w:=by delta gB;revert h;generalize (eE K)=qc0;exact mpF
def GL(h:aL (λS w=>hN S r0 λa=>hF S 119 a 4 λa=>hL S 114 a λa=>hF S 268 m4 1 λb=>hL S 3 b λb=>hF S 268 m4 3 λc=>hL S 34 c λc=>call Q 216 #[a,b,c] (λ_=>fK Q 320 none λa=>fJ Q 320 a (cb 1) (.func (.func 217) #[r0] #[]) λ_=>fJ Q 320 a (cb 2) (.func (.func 218) #[r0] #[]) λ_=>aq Q 268 m4 0 λb=>ld Q 5 b λb=>lkp Q 320 a b false λa=>ld Q 268 m4 λb=>bS Q a #[b] λa=>K (.tuple #[a,ci 0])) w) w.drew):eE K (iN r0 m4 e7 A8 zf) w:=mpK h
end
attribute [irreducible] eE gB mC
def IL{K:KV}(h:alc Q 38 (λa=>bT .eql 93 H (.pointer none) λb w=>cond b (bld Q 38 #[] (λb=>sto Q 38 a b λ_=>bA Q [(some 38,a)] K) w) (bj H (λb=>aq Q 119 b 1 λb=>ld Q 107 b λb=>call Q 44 #[b] λb=>sto Q 38 a b λ_=>bA Q [(some 38,a)] K) w)) w):Gives Q 26 #[H] w K:=aw func26 kr (mpK h)
section
open Go.ChangeMaps
def Ch.add{F:List Nat}{a b c:oG}(h:Ch F a b)(k:Below a.heap.size b c):Ch F a c :=
 ⟨k.os.trans h.os,k.tape.trans h.tape,k.output.trans h.output,qR h.size k.size,λx d e=>(k.block x d).trans (h.block x d e)⟩
def Vt:(Tryz.prog.info? 49).map (λi=>(i.zero,i.size,i.bytes))=some (some (.agg (evC ⟨0,0,0,0,0,0,0,0,0,0,0,0,0,0⟩).toArray),14,112):=by kernel_rfl
def nQ(R:List jc):List (List (EV×Int)):=R.map (·.it)
structure RpB where
 p:Nat
 q:LB
 g:Nat
 h:Nat
 m:Nat
 e:Nat
 d:Nat
def RpF(R:RpB)(Rw:List jc):List Nat:=R.q.wv++(R.g::lrB Rw++[R.m,R.e])
def fZ{R:RpB}{Rw:List jc}{k:Nat}:k∈RpF R Rw↔k∈R.q.wv\/k=R.g\/k∈lrB Rw\/k=R.m\/k=R.e:=by simp[RpF,or_assoc]
structure RpM(w:oG) (R:RpB) (i:Nat) (l:PL) (W:HM) (Rw:List jc) (c:Int) (L:List (List Int)):Prop where
 b:blk w R.p 119 [iv (i:Nat),pB R.q.p,pB R.g,pB R.h,pB R.e,pB R.d]
 pm:PM w R.q l
 g:LoM w R.g Rw l.V c
 h:HoM w R.h R.m W
 e:GoM w R.e L
 pq:R.p∉R.q.l
 gq:∀k∈R.g::lrB Rw,k∉R.q.l
 hq:R.h∉R.q.l
 mq:R.m∉R.q.l
 eq:R.e∉R.q.l
 few:∀r∈Rw,(r.it.length:Int)<=c
 c0:0<=c
def zef{R:List jc}{e:EV}{c:Int}{r:jc}{a:Option Nat}{b:Nat}(h:R[e.q]? = some r):nQ (R.set e.q ⟨a,b,r.it++[(e,c)]⟩)=Fz (nQ R) e c:=by unfold nQ Fz;rw[List.map_set,oN,qC,h];rfl
def HoM.mb'{p q:Nat}{W:HM}{cs:oE}(h:HoM w p m W)(a:blk w q E cs):q≠m:=λe=>by
 obtain⟨d,c,b⟩:=h.mb;unfold blk at a;rw[e,b.heap]at a;cases a
def LoM.ty{R:List jc}{V:List Int}{c:Int}(h:LoM w g R V c){k:Nat}{cs:oE}(a:blk w k E cs)(d:E≠200):k∉lrB R:=λj=>by
 obtain⟨i,r,l,e⟩:=h.in j;obtain⟨b,f⟩:=h.cur l e;unfold blk at a;rw[f]at a;simp only[qD,Obj.cells.injEq]at a;exact d a.2.1.symm
section
variable  {R:RpB}  {l:PL}{W:HM}{Rw:List jc}{c:Int}{L:List (List Int)}
def RpM.below(h:RpM w R i l W Rw c L)(a:Below w.heap.size w S):RpM S R i l W Rw c L :=
 {h with b:=ae a h.b h.b.lt,pm:=h.pm.below a,g:=h.g.below a,h:=h.h.below a,e:=h.e.below a}
def RpM.lt(h:RpM w R i l W Rw c L):∀k∈RpF R Rw,k<w.heap.size:=λk a=>by
 rcases fZ.1 a with a|rfl|a|rfl|rfl
 .exact h.pm.lt k (LB.wl k a)
 .exact h.g.b.lt
 .exact h.g.lt k (oH _ a)
 .exact h.h.lt.2
 .exact h.e.b.lt
def RpM.ml(h:RpM w R i l W Rw c L):R.m∉lrB Rw:=λd=>by
 obtain⟨j,r,k,e⟩:=h.g.in d;obtain⟨b,a⟩:=h.g.cur k e;obtain⟨o,n,f⟩:=h.h.mb;rw[f.heap]at a;cases a
def RpM.out(h:RpM w R i l W Rw c L){k:Nat}{cs:oE}(d:blk w k E cs)(f:E≠200)(j:E≠145)(m:E≠151)(n:k∉R.q.l):k∉RpF R Rw:=λa=>by
 rcases fZ.1 a with a|rfl|a|rfl|rfl
 .exact n (LB.wl k a)
 .exact qI rfl (d.ne h.g.b j)
 .exact h.g.ty d f a
 .exact h.h.mb' d rfl
 .exact qI rfl (d.ne h.e.b m)
def RpM.wq(h:RpM w R i l W Rw c L){k:Nat}(b:k∉R.q.l):k∉R.q.wv:=λa=>b (LB.wl k a)
def RpM.setH{W':HM}(h:RpM w R i l W Rw c L)(d:Ch [R.m] w S)(f:HoM S R.h R.m W'):RpM S R i l W' Rw c L :=
 have n:∀k,k≠R.m->k∉[R.m]:=λk a f=>a (mS f)
 {h with
  b:=h.b.ch d (n _ (h.h.mb' h.b))
  pm:=h.pm.ch d λk a=>n k λe=>h.mq (e ▸ a)
  g:=h.g.ch d λk a=>n k λe=>(oO.1 a).elim (λj => h.h.mb' h.g.b (j.symm.trans e)) λa=>h.ml (e ▸ a)
  h:=f
  e:=h.e.ch d (n _ (h.h.mb' h.e.b))}
def RpM.setE{L':List (List Int)}(h:RpM w R i l W Rw c L)(d:Ch [R.e] w S)(f:GoM S R.e L'):RpM S R i l W Rw c L' :=
 have n:∀k,k≠R.e->k∉[R.e]:=λk a f=>a (mS f)
 {h with
  b:=h.b.ch d (n _ (h.b.ne h.e.b dc))
  pm:=h.pm.ch d λk a=>n k λe=>h.eq (e ▸ a)
  g:=h.g.ch d λk a=>n k λe=>(oO.1 a).elim (λj => h.g.b.ne h.e.b dc (j.symm.trans e)) λa=>h.g.ty h.e.b dc (e ▸ a)
  h:=h.h.ch d (n _ (h.h.b.ne h.e.b dc)) (n _ (h.h.mb' h.e.b).symm)
  e:=f}
def RpM.sub1(h:RpM w R i l W Rw c L)(a:Ch [R.m] w S):Ch (RpF R Rw) w S:=a.mono λk b=>fZ.2 (by rw[mS b];simp)
def RpM.sub2(h:RpM w R i l W Rw c L)(a:Ch [R.e] w S):Ch (RpF R Rw) w S:=a.mono λk b=>fZ.2 (by rw[mS b];simp)
end
def th{K:KV}(h:K (pA b (o+0)) w):aq Q 119 (pA b o) 0 K w:=aQ kr h
def rX{K:KV}(h:K (pA b (o+1)) w):aq Q 119 (pA b o) 1 K w:=aQ kr h
def RP{K:KV}(h:K (pA b (o+2)) w):aq Q 119 (pA b o) 2 K w:=aQ kr h
def RQ{K:KV}(h:K (pA b (o+3)) w):aq Q 119 (pA b o) 3 K w:=aQ kr h
def Yd{K:KV}(h:K (pA b (o+4)) w):aq Q 119 (pA b o) 4 K w:=aQ kr h
def Mw{K:KV}(h:K (pA b (o+5)) w):aq Q 119 (pA b o) 5 K w:=aQ kr h
section
variable  {K:KV}{R:RpB}  {l:PL}{W:HM}{Rw:List jc}{c:Int}{L:List (List Int)}{e:EV}
def Lf(h:K (.bool false) w):bin Q .eql 93 cx cy (pB b) (.pointer none) K w :=
 eH (by unfold eqG eqGuard;rfl) kr h
def zcR{x:oG}(h:RpM w0 R i l W Rw c L)(hi:PI l)(E:fW l.V e=true)(p:dI e=true)(Z:c<1000000)(T:PM x R.q (eff e l))(c2:Ch R.q.wv w0 x)(J:∀w' Rw',RpM w' R i (eff e l) W Rw' (c+1) L->Ch (R.g::lrB Rw) x w'->(∀k∈lrB Rw',k∈lrB Rw\/x.heap.size<=k)->nQ Rw'=Fz (nQ Rw) e c->K (ci 0) w'):call Q 60 #[pB R.g,evV e] K x:=by
 obtain⟨z,ho⟩:=vg p;have t:∀k,k∉R.q.l->k∉R.q.wv:=λk d=>h.wq d;have y:=h.pm.lt;have Y:=h.b.ch c2 (t _ h.pq);have C:=h.g.ch c2 λk d=>t _ (h.gq k d);have S:=h.h.ch c2 (t _ h.hq) (t _ h.mq);have G:=h.e.ch c2 (t _ h.eq);have w:e.q<Rw.length:=by rw[C.l6];exact z
 have u:Rw[e.q]? = some Rw[e.q]:=gE w;generalize Rw[e.q]=r at u;have N:=h.few r (mO u);have v:=h.c0;have U:=c2.size;refine zij C u E (λk d=>(hi.vb k d).1) ⟨v,by omega⟩ oo λX F o D P n=>?_;have M:l.V.set e.q e.s=(eff e l).V:=by
  show _=l.V.set e.q (l.V.getD e.q 0+1);rw[(yP E).1]
 rw[M]at D;have j:∀{k:Nat},k∉lrB Rw->k≠R.g->k∉R.g::lrB Rw:=λH I f=>(oO.1 f).elim I H;have m:∀k∈lrB (Rw.set e.q ⟨F,o,r.it++[(e,c)]⟩),k∈lrB Rw\/x.heap.size<=k:=λk d=>by
  obtain⟨A,a,B⟩:=List.mem_filterMap.1 d;rcases List.mem_or_eq_of_mem_set a with a|rfl
  .exact .inl (List.mem_filterMap.2 ⟨A,a,B⟩)
  .rcases P k B with f|f
   .exact .inl (List.mem_filterMap.2 ⟨r,mO u,f⟩)
   .exact .inr f
 refine J X _ ⟨Y.ch n (j (h.g.ty h.b dc) (h.b.ne h.g.b dc)),T.ch n λk d f=>h.gq k f d,D,S.ch n (j (h.g.ty h.h.b dc) (h.h.b.ne h.g.b dc)) (j h.ml (h.h.mb' h.g.b).symm),G.ch n (j (h.g.ty h.e.b dc) (h.e.b.ne h.g.b dc)),h.pq,λk d=>?_,h.hq,h.mq,h.eq,λA a=>?_,by omega⟩ n m (zef u)
 .rcases oO.1 d with rfl|d
  .exact h.gq _ oB
  .rcases m k d with f|f
   .exact h.gq k (oH _ f)
   .exact λO=>by have:=y k O;omega
 .rcases List.mem_or_eq_of_mem_set a with a|rfl
  .have:=h.few A a;omega
  .simp;omega
def YY(h:RpM w R i l W Rw c L)(hi:PI l)(N:fW l.V e=true)(t:eC e l=0)(J:c<1000000)(a:∀w' f,RpM w' R i (eff e l) W f (c+1) L->Ch (RpF R Rw) w w'->(∀k∈lrB f,k∈lrB Rw\/w.heap.size<=k)->nQ f=Fz (nQ Rw) e c->K (ci 0) w'):call Q 43 #[pB R.p,evV e] K w:=by
 have n:dI e=true:=((qn hi).1 t).may;refine ao (goK func43) (yR (Bj λr A z Z=>?_));have B:=h.below z;refine ax (λx=>blk x R.p 119 [iv (i:Nat),pB R.q.p,pB R.g,pB R.h,pB R.e,pB R.d]/\blk x w.heap.size 49 (evC e)) ⟨B.b.drew,A.drew⟩ ?_;refine ac (λx d _ a=>au a) (ac (λx d _ a=>rX a) (ac (v:=pB R.q.p) (λx d _ a=>lK d.1 rfl a) (ac (λx d _ a=>dN d.2 a) ?_)))
 have j:=B.below (jT _ r).drew;refine Sz j.pm hi λs D o=>?_;rw[t];rw[show lQ e l=eff e l by unfold lQ;rw[oJ t]]at D;have u:=h.pm.lt;have U:=j.b.ch o (j.wq h.pq);have H:=A.drew.ch o (j.wq λC=>by have:=u _ C;omega);refine ax (λ_=>True) trivial (bo (aB oB ?_))
 refine ax (λx=>blk x R.p 119 [iv (i:Nat),pB R.q.p,pB R.g,pB R.h,pB R.e,pB R.d]/\blk x w.heap.size 49 (evC e)) ⟨U.drew,H.drew⟩ ?_;refine ac (λx d _ a=>au a) (ac (λx d _ a=>RP a) (ac (v:=pB R.g) (λx d _ a=>lK d.1 rfl a) (ac (λx d _ a=>dN d.2 a) ?_)));have m:=o.add (jT _ s).drew;have S:=o.size;have X:r.drew.heap.size=r.heap.size:=rfl
 have Y:s.drew.heap.size=s.heap.size:=rfl;refine zcR j hi N n J D.drew m λT f I G P O=>a T f I ?_ (λk M=>(P k M).imp id λC=>by omega) O;have E:Ch (RpF R Rw) w r.drew:=Ch.of_below z.drew;have F:Ch (RpF R Rw) w s.drew:=E.trans m λx y=>.inl (fZ.2 (.inl y))
 exact F.trans G λx y=>.inl (fZ.2 ((oO.1 y).elim (λh=>.inr (.inl h)) λh=>.inr (.inr (.inl h))))
end
end
def V8(W:HM):Option EV->HM
 | none=>W
 | some e=>ud W (ph e)
structure HK(V:List Int) (W:HM):Prop where
 key:∀p∈W,p.1=ph p.2
 may:∀p∈W,dI p.2=true
 nd:(W.map (·.1)).Nodup
 new:∀p∈W,V.getD p.2.q 0<p.2.s
 few:W.length<=64
section
variable {V:List Int}{W W':HM}{l l':PL}{e:EV}{F:List EV}{n:Nat}{E:List EV}
def HK.nil:HK V []:=⟨by simp,by simp,by simp,by simp,by simp⟩
def HK.late(h:HK V W):∀x∈W,tQ V x.2=false:=λx a=>by
 refine Bool.eq_false_iff.2 λb=>?_
 have:=(JL (h.may x a)).1 b
 have:=h.new x a
 omega
def HK.put(h:HK V W):HK V (Px V W e):=by
 unfold Px;split
 .rename_i m;obtain⟨j,i,n,k⟩:=m;have f:∀p∈W++[(ph e,e)],p∈W\/p=(ph e,e):=λp c=>(oU.1 c).imp id mS;refine⟨λp c=>(f p c).elim (h.key p) λe=>by rw[e],λp c=>(f p c).elim (h.may p) λe=>by rw[e];exact j,?_,λp c=>(f p c).elim (h.new p) λd=>?_,by rw[oT,List.length_singleton];omega⟩
  .rw[jJ,List.nodup_append];refine⟨h.nd,by simp,λa l b g=>?_⟩;simp only[jK,List.map_nil,List.mem_singleton]at g;subst g;exact λd => wF.1 n (d ▸ l)
  .have : ¬e.s<=V.getD e.q 0:=λo=>by rw[(JL j).2 o]at i;cases i
   rw[d];show V.getD e.q 0<e.s;omega
 .exact h
def HK.puts:∀{L:List EV} {W:HM},HK V W->HK V (nM V W L)
 | [],_,h=>h
 | e::L,_,h=>HK.puts (L:=L) (h.put (e:=e))
def HK.step(h:HK l.V W)(hi:PI l)(w:eD l.V W 6=some e):dI e=true/\fW l.V e=true/\(ud W (ph e)).length+1=W.length/\HK (lQ e l).V (ud W (ph e)):=by
 obtain⟨n,i,t,j⟩:=GH (Nat.le_refl 6) w;have c:=wZ j;have u:=h.key _ c;have k:=h.may _ c;have f:dZ W (ph e)=some e:=by rw[<-u];exact j
 have v:=zeq h.nd f;obtain⟨y,z⟩:=yP n;refine⟨k,n,v,λp b=>h.key p (zC.1 b).1,λp b=>h.may p (zC.1 b).1,Ug h.nd,λp b=>?_,by have:=h.few;omega⟩;obtain⟨b,d⟩:=zC.1 b;have a:=h.new p b;unfold lQ;split
 .rename_i r;have o:=congrFun (Ew hi ((qn hi).1 r)) p.2.q;unfold kV upD at o;rw[o];split
  .rename_i m;have g:=h.may p b;rw[h.key p b]at d
   have:p.2.s≠e.s:=λx=>d (by rw[zci g,zci k,m,x])
   rw[m]at a;omega
  .exact a
 .exact a
inductive DG (l:PL) (W:HM):PL->HM->List EV->Prop
 | nil:DG l W l W []
 | snoc {l':PL} {W':HM} {F:List EV} {e:EV}:DG l W l' W' F->eD l'.V W' 6=some e->DG l W (lQ e l') (ud W' (ph e)) (if eC e l'=0 then F++[e]else F)
def DG.inv(h:DG l W l' W' F)(hi:PI l)(o:HK l.V W):PI l'/\HK l'.V W'/\W'.length+F.length<=W.length/\okL eff OK l F/\l'=je eff l F/\∀e∈F,dI e=true/\∃p∈W,p.2=e:=by
 have f:∀{l':PL} {W':HM} {F:List EV},DG l W l' W' F->∀p∈W',p∈W:=λh=>by
  induction h with
  | nil=>exact λ_ h=>h
  | snoc h hn ih=>exact λp r=>ih p (zC.1 r).1
 induction h with
 | nil=>exact⟨hi,o,Nat.le_refl _,trivial,rfl,by simp⟩
 | @snoc l' W' F e hd hn ih =>
  obtain⟨c,s,v,g,d,j⟩:=ih;obtain⟨q,u,t,b⟩:=s.step c hn;refine⟨XC c,b,?_,?_,?_,?_⟩
  .split
   .rw[oT,List.length_singleton];omega
   .omega
  .split
   .rename_i k;refine BW.2 ⟨g,?_,trivial⟩;rw[<-d];exact(qn c).1 k
   .exact g
  .unfold lQ;split
   .rw[BI, <-d];rfl
   .exact d
  .have m:∃p∈W,p.2=e:=by
    obtain⟨_,i,_,n⟩:=GH (Nat.le_refl 6) hn;exact⟨_,f hd _ (wZ n),rfl⟩
   split
   .intro x a;rcases oU.1 a with a|a
    .exact j x a
    .rw[mS a];exact⟨q,m⟩
   .exact j
end
end
end Go.Proofs.YtgohpbmmcgenpaaGreatDoor
