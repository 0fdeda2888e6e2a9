import Derived.Test.YtpaghmnnhedccaaGreatDoorQ4
set_option linter.all false
namespace Go.Proofs.YtpaghmnnhedccaaGreatDoor
set_option maxRecDepth 100000
set_option maxHeartbeats 4000000
open Go.Proofs.Tryz
open Go.RowKit
variable {w w' w0 w2 S O:oG}{K:KV}{zf:Nat->oF}{b c o i g m s j f z d c2 D hi:Nat}{a av a2:Option Addr}{x v r:Int}{E t e:TypeId}{A:List Int}{B1 N R:KE}{xs ys vs:oE}{cx:Bool}{α:Type}{T:List (Int×Int)}{N1:oE->oG->Prop}{X1 Z1 N2 O2 P2 Q2 R2 H Z U Y J C:oF}
section
def zfw(h:∀k,k<6->Tq A k=true):∀q,q<54->0<=nA A q/\nA A q<=MXA:=by
 have e:∀k,k<6->okA (nA A k)=true/\okA (nA A (6+k))=true/\okA (nA A (12+k))=true/\∀j,j<6->okA (nA A (18+6*k+j))=true:=by
  intro k c
  have:=h k c
  unfold Tq at this;simp only[oM]at this;exact⟨this.1.1.1.1.1,this.1.1.1.1.2,this.1.1.1.2,λj b=>jS.1 this.2 j (by simpa using b)⟩
 intro q g;refine sR.1 ?_;by_cases a:q<6
 .exact(e q a).1
 by_cases d:q<12
 .have:=(e (q-6) oo).2.1;rwa[show 6+(q-6)=q by omega]at this
 by_cases f:q<18
 .have:=(e (q-12) oo).2.2.1;rwa[show 12+(q-12)=q by omega]at this
 .have:=(e ((q-18) / 6) oo).2.2.2 ((q-18)%6) oo
  rwa[show 18+6*((q-18) / 6)+(q-18)%6=q by omega]at this
def Tg(h:nI A=true):∀q,q<54->0<=nA A q/\nA A q<=MXA:=by unfold nI at h;simp only[oM]at h;exact zfw λk a=>jS.1 h.1.1 k (by simpa using a)
def ndE(x:ND):oE:=u6 x.id::u6 x.par::(List.range 54).map λj=>iv (x.A.getD j 0)
def zdB{x:ND}(h:x.A.length=54):(List.range 54).map (λj=>iv (x.A.getD j 0))=x.A.map iv:=by
 apply List.ext_getElem
 .simp[h]
 .intro i b a;simp at b a;simp[List.getD,a]
def Vi{x:ND}(h:x.A.length=54):ndE x=ndC x:=by unfold ndE ndC;rw[zdB h];rfl
def Cp(x:ND):(ndE x).length=56:=by simp[ndE]
def WC(x:ND):∀v∈ndE x,v.oneCell'=true:=by simp[ndE,u6,iv,Value.oneCell']
def BC{L:List α}(h:L.length=6):∃a b c d e f,L=[a,b,c,d,e,f]:=by
 match L,h with
 | [a,b,c,d,e,f],_=>exact⟨a,b,c,d,e,f,rfl⟩
def Zn{enc:α->oE}(h:∀x,∀v∈enc x,v.oneCell'=true)(L:List α):∀v∈L.flatMap enc,v.oneCell'=true:=by intro v a;obtain⟨x,_,b⟩:=List.mem_flatMap.1 a;exact h x v b
def zkE{P:Program}{p:Nat}{cs:oE}{d:TypeDesc}(g:P.underlying t=some d)(b:d.isRow=true)(hi:(P.info? t).map (·.size)=some vs.length)(a:blk w p E cs)(i:cs=vs)(h:K (.agg vs.toArray) w):aY P [(some t,pA p 0)] K w:=by
 subst i;have f:=run_loadVar_mid (P:=P) w p 0 t cs d (λj v c=>by rw[a.cell,oK];exact c) g b hi;have e:(pR [(some t,pA p 0)]).run P w=.ok (.agg cs.toArray) w:=by
  simp[pR,asAddr,jY,f]
 unfold aY;rw[e];exact⟨rfl,h⟩
def xN{v:oF}{S:oG->Prop}{s:KV->oG->Prop}{k:oF->Prop}(b:asB v≠some cx)(a:k undef):hG v cx S s k:=⟨undef,λh=>qI h b,λ_=>rfl,a⟩
def zld{v:oF}{s:KV->oG->Prop}(b:asB v≠some cx)(h:K undef w):xG v cx s K w:=⟨λa=>qI a b,λ_=>h⟩
def zg3{p:Prop}[Decidable p](a : ¬p):asB (.bool (decide p))≠some true:=by rw[zk7 a];simp
def MS:fU Q 81 0 0 b o K w:=aJ kr
def Zh:fU Q 81 1 6 b o K w:=aJ kr
def Zi:fU Q 81 2 12 b o K w:=aJ kr
def zeN:fU Q 81 3 18 b o K w:=aJ kr
attribute [local irreducible] bin un conv call bA blt slc ao fld aW idx lkp fk mW eSt rng nxt ent ext alc box bld bM ld sto aU fl mkS ifc pick rdy wts aM sti cond aY Gives ai iy ke cOp
def ixV{k:Nat}{i:Int}(hi:i=(k:Nat))(c:k<6)(a:K (pA b (o+k)) w):aW Q 38 (pA b o) (ci i) K w:=by subst hi;exact fg underlying38 (s:=1) kf oo oo (by rw[oQ,Nat.mul_one];exact a)
def zck(A:List Int):∀v∈A.map iv,v.oneCell'=true:=by simp[iv,Value.oneCell']
def Hx{q:Nat}(a:q<A.length):(A.map iv)[q]? = some (iv (nA A q)):=by simp[nA,List.getD,a]
def ixR{k:Nat}{i:Int}(hi:i=(k:Nat))(c:k<6)(a:K (pA b (o+k)) w):aW Q 78 (pA b o) (ci i) K w:=by subst hi;exact fg underlying78 (s:=1) kf oo oo (by rw[oQ,Nat.mul_one];exact a)
structure RV3(w0 w:oG) (A:List Int):Prop where
 r:blk w w0.heap.size 81 (A.map iv)
 t:blk w (w0.heap.size+1) 81 (z54.map iv)
 bel:Below w0.heap.size w0 w
def RV3.fresh(g:RV3 O w A)(a:Below w.heap.size w S):RV3 O S A:=⟨ae a g.r g.r.lt,ae a g.t g.t.lt,g.bel.trans (a.mono g.bel.size)⟩
def RV3.make{K2:oF->KV}(i:A.length=54)(h:∀S,RV3 w S A->S.heap.size=w.heap.size+2->K2 (pA w.heap.size 0) (pA (w.heap.size+1) 0) S):box Q 81 (.agg (A.map iv).toArray) (λr w=>alc Q 81 (K2 r) w) w:=by
 refine bu λd b f g=>?_;have b:=cZ b
 refine bO (z:=.agg (z54.map iv).toArray) kr λe a c j=>?_;have a:=cZ a
 rw[g]at a |-;exact h e ⟨ae c b b.lt,a,f.trans (c.mono oo)⟩ oo
def RV3.no{S:oG}{A:List Int}{e:Int}(g:RV3 S w A)(h:nX S (K (.tuple #[.agg (z54.map iv).toArray,ci e]))):bld Q 81 #[] (λt w=>sto Q 81 (pA (S.heap.size+1) 0) t (λ_t w=>aY Q [(some 81,pA (S.heap.size+1) 0),(none,ci e)] K w) w) w:=ck (vs:=z54.map iv) kr (zdU (N:=54) underlying81 rfl kr g.t rfl rfl (zck _) λO o=>h O (fR g.bel o oo))
def zkY{k:Nat}{i:Int}(hi:i=(k:Nat))(c:k<6)(a:K (pA b (o+6*k)) w):aW Q 79 (pA b o) (ci i) K w:=by subst hi;exact fg underlying79 (s:=6) kf oo oo (by rw[oQ,Nat.mul_comm];exact a)
def RV3.drew(g:RV3 S w A):RV3 S w.drew A:=g.fresh (jU _ w).drew
end
def qe(f c b a e d t14:oF)(zf:oD):=zf 0::f::c::b::a::e::zT zf 6 4 (d::zT zf 11 3 (t14::zT zf 15 32 ([])))
def Je(e b a d c:oF)(zf:oD):=zf 0::e::zf 2::b::a::d::zT zf 6 4 (c::zT zf 11 36 ([]))
def kX(K:KV):KE:=kZ f328 [1,1] K
def lf(K:KV):KE:=kY f328 [1,0,0,1] (kX K) (xx xf (kX K) 0) K
def tF(K:KV):KE:=ai Q (cd f328 (b1 49)) (lf K) (xx xf (kX K) 0) (rk f328 K)
def TN(h:box Q 81 Z (λH=>alc Q 81 λJ=>ld Q 81 H λc=>call Q 231 #[c] λa=>un Q .not a λb=>tF K (qe C Z1 U Y H J b (zV (zV (zV zu 0 [Z]) 11 [ci 0]) 15 [c,a,b]))) w):Gives Q 328 #[Z,C,Z1,U,Y] w K:=by refine au func328 kr <|rpT [1,0,0,0,1] (cd f328 (b1 49)) (cd f328 []) ?_;revert h;delta tF kX lf;generalize (cd f328 (b1 49))=xc0;exact mpF
def Qj(h:cond R2 (lf K (qe H C Z U Y J R2 zf) w) (bT .lss 2 H (ci 1) (λa w=>cond a (lf K (qe H C Z U Y J a (zV zf 18 [H,a])) w) (bT .gtr 2 H (ci 1125899906842624) (λb=>lf K (qe H C Z U Y J b (zV zf 18 [H,a,H,b]))) w)) w)):tF K (qe H C Z U Y J R2 zf) w:=by delta tF;revert h;exact mpF
def zh(h:cond U (bld Q 81 #[] (λb=>sto Q 81 H b λ_=>aY Q [(some 81,H),(none,ci 1)] K) w) (un Q .not Z (λa w=>cond a (bld Q 81 #[] (λc=>sto Q 81 H c λ_=>aY Q [(some 81,H),(none,ci 10)] K) w) (kX K (Je X1 Y J C H (zV (zV (zV zf 2 [Z]) 14 [U]) 23 [a,Z,a])) w)) w)):lf K (qe X1 Z Y J C H U zf) w:=by delta lf;revert h;exact mpF
def Qk(h:bA Q U #[] (λb=>bT .neq 26 b (ci 0) λc w=>cond c (bld Q 81 #[] (λd=>sto Q 81 H d λ_=>aY Q [(some 81,H),(none,b)] K) w) (bA Q Y #[Z] (λa=>aU a λe=>ld Q 2 e λf=>bF .add 2 f J λg=>aU a λi=>sto Q 2 i g λ_=>aU a λj=>ld Q 2 j λk=>bT .gtr 2 k (ci 1125899906842624) λl w=>cond l (bld Q 81 #[] (λm=>sto Q 81 H m λ_=>aY Q [(some 81,H),(none,ci 6)] K) w) (ld Q 81 Z (λn=>sto Q 81 H n λ_=>aY Q [(some 81,H),(none,ci 0)] K) w)) w)) w):kX K (Je J U Y Z H zf) w:=mpK h
attribute [irreducible] kX lf tF
def WZ(h:cond H (K Z w) (K (ci 0) w)):Gives Q 330 #[H,Z] w K:=au func330 kr (mpK h)
def WY(h:box Q 81 Z (λe=>box Q 3 U λa=>box Q 2 H λg=>alc Q 81 λf w=>aF (λS w=>hL S 81 e λi=>hL S 2 g λj=>hL S 3 a λb=>call Q 230 #[b] (λc=>aX S λ_=>call Q 328 #[i,j,c,.func (.func 329) #[] #[g,e,a],.func (.func 331) #[] #[a]] λa=>aF λS w=>hld S (ext Q a 0) λb=>hld S (ext Q a 1) λd=>sto Q 81 f b (λ_=>aF λ_=>aY Q [(some 81,f),(none,d)] K) w) w) w.drew) w):Gives Q 316 #[Z,U,H] w K:=au func316 kr (mpK h)
def TI(h:aF (λS w=>hL S 2 Z λd=>hL S 81 U λa=>hL S 3 H λb=>call Q 212 #[a,b] (λc=>aX S λS w=>hld S (bF .gtr 2 d c) λd=>call Q 330 #[d,ci 11] (λe=>aF λ_=>K e) w) w) w.drew):Gives Q 329 #[Z,U,H] w K:=au func329 kr (mpK h)
def TJ(h:sL 3 Z (λa=>sti (bT .sub 3 a (ci 1)) λb=>sN H λc=>sF 81 c 1 λd=>sI 78 d b K) w.drew):Gives Q 331 #[H,Z] w K:=au func331 kr (mpK h)
def WV(h:box Q 81 Z (λe=>box Q 3 U λa=>box Q 2 H λg=>alc Q 81 λf w=>aF (λS w=>hL S 81 e λi=>hL S 2 g λj=>hL S 3 a λb=>call Q 230 #[b] (λc=>aX S λ_=>call Q 328 #[i,j,c,.func (.func 332) #[] #[g,e,a],.func (.func 333) #[] #[a]] λa=>aF λS w=>hld S (ext Q a 0) λb=>hld S (ext Q a 1) λd=>sto Q 81 f b (λ_=>aF λ_=>aY Q [(some 81,f),(none,d)] K) w) w) w.drew) w):Gives Q 319 #[Z,U,H] w K:=au func319 kr (mpK h)
def TA(h:aF (λS w=>hL S 2 U λd=>hL S 3 H λf=>hld (λ_=>True) (bT .sub 3 f (ci 1)) λg=>hF S 81 Z 1 λi=>hI S 78 i g λj=>hL S 2 j λk=>hL S 3 H λa=>hld (λ_=>True) (bT .sub 3 a (ci 1)) λb=>hF S 81 Z 2 λc=>hI S 78 c b λa=>hL S 2 a λa=>hld (λ_=>True) (bF .sub 2 k a) λa=>hld S (bF .gtr 2 d a) λd=>call Q 330 #[d,ci 12] (λe=>aF λ_=>K e) w) w.drew):Gives Q 332 #[U,Z,H] w K:=au func332 kr (mpK h)
def TC(h:sL 3 Z (λa=>sti (bT .sub 3 a (ci 1)) λb=>sN H λc=>sF 81 c 2 λd=>sI 78 d b K) w.drew):Gives Q 333 #[H,Z] w K:=au func333 kr (mpK h)
def WX(h:box Q 81 U (λl=>box Q 3 Y λb=>box Q 3 H λc=>box Q 2 Z λn=>alc Q 81 λm w=>aF (λS w=>hL S 81 l λd=>hL S 2 n λe=>hL S 3 b λf=>call Q 230 #[f] (λa=>aX S λS w=>hG a true S (ld Q 3 c) λf=>xG a true (call Q 230 #[f]) (λg=>aX S λS w=>hld S (pick a g cF) λi=>call Q 328 #[d,e,i,.func (.func 334) #[] #[b,c,n,l],.func (.func 335) #[] #[b,c]] (λa=>aF λS w=>hld S (ext Q a 0) λj=>hld S (ext Q a 1) λk=>sto Q 81 m j (λ_=>aF λ_=>aY Q [(some 81,m),(none,k)] K) w) w) w) w) w.drew) w):Gives Q 321 #[U,Y,H,Z] w K:=au func321 kr (mpK h)
def TE(h:ld Q 3 H (λd=>ld Q 3 Y λe=>bF .eql 3 d e λf w=>cond f (K (ci 1) w) (aF (λS w=>hL S 2 Z λg=>hL S 81 U λi=>hL S 3 H λa=>call Q 212 #[i,a] (λb=>aX S λS w=>hld S (bF .gtr 2 g b) λc=>call Q 330 #[c,ci 11] (λa=>aF λ_=>K a) w) w) w.drew)) w):Gives Q 334 #[H,Y,Z,U] w K:=au func334 kr (mpK h)
def TH(h:sL 3 U (λd=>sti (bT .sub 3 d (ci 1)) λe=>sL 3 H λf=>sti (bT .sub 3 f (ci 1)) λg=>sN Z λa=>sF 81 a 3 λb=>sI 79 b e λc=>sI 78 c g K) w.drew):Gives Q 335 #[Z,U,H] w K:=au func335 kr (mpK h)
def kv8(x:Int):oF:=.int .u8 x
def evC(e:EV):oE:=[iv e.o,u6 e.s,u6 e.d0,u6 e.d1,u6 e.d2,u6 e.d3,u6 e.d4,u6 e.d5,kv8 e.k,u6 e.n,iv e.t,iv e.a,u6 e.r,u6 e.f]
def zg9{e:EV}:∀{k:Nat},k<6->(evC e)[2+k]? = some (u6 (e.V.getD k 0))
 | 0,_=>rfl
 | 1,_=>rfl
 | 2,_=>rfl
 | 3,_=>rfl
 | 4,_=>rfl
 | 5,_=>rfl
def zgY{e e':EV}:evC e=evC e'↔e=e':=by cases e;cases e';simp[evC,u6,iv,kv8]
def Cf(e:EV):∀v∈evC e,v.oneCell'=true:=by simp[evC,u6,iv,kv8,Value.oneCell']
def dO:fU Q 54 0 0 b o K w:=aJ kr
def nB:fU Q 54 1 1 b o K w:=aJ kr
def BN:fU Q 54 2 2 b o K w:=aJ kr
def Ea:fU Q 54 3 8 b o K w:=aJ kr
def pY:fU Q 54 4 9 b o K w:=aJ kr
def yN:fU Q 54 5 10 b o K w:=aJ kr
def sX:fU Q 54 6 11 b o K w:=aJ kr
def wO:fU Q 54 7 12 b o K w:=aJ kr
def Eb:fU Q 54 8 13 b o K w:=aJ kr
def UJ(h:bT .geq 3 H (ci 1) (λb w=>aM b true (λb=>bT .leq 3 H (ci 6) (λc=>b [H,c]) w) (λk=>k [uu,uu] w) λa=>pick b (gd a 1) cF K) w):Gives Q 83 #[H] w K:=au func83 kr (mpK h)
def wD(b a:oF)(zf:oD):=b::zT zf 1 6 (a::zT zf 8 17 ([]))
def wF(a:oF)(zf:oD):=a::zT zf 1 24 ([])
def wG(c b a:oF)(zf:oD):=c::zf 1::zf 2::b::a::zT zf 5 20 ([])
def wI(a:oF)(zf:oD):=zT zf 0 3 (a::zT zf 4 21 ([]))
def gD(K:KV):KE:=kZ f84 [1,1] K
def jl(K:KV):KE:=ai Q (cd f84 [1,0,1]) (gD K) xf (rk f84 K)
def fE(K:KV):KE:=kZ f84 [1,1,1,1] K
def mB(K:KV):KE:=ai Q (cd f84 (b1 122)) (fE K) (xx xf (fE K) 0) (rk f84 K)
def Fo(h:lN 187 H (λa=>bT .lss 3 a (ci 1) λZ=>jl K (wD H Z (zV (zV zu 2 [cu 0]) 5 [H,a]))) w):Gives Q 84 #[H] w K:=by refine au func84 kr <|rpT [1,0,1] (cd f84 [1,0,1]) (cd f84 []) ?_;revert h;delta jl gD;generalize (cd f84 [1,0,1])=xc0;exact mpF
def DC(h:cond H (ifc Q 9 (Value.string (AA [115,108,105,99,101,115,46,77,97,120,58,32,101,109,112,116,121,32,108,105,115,116])) (λ_ _=>False) w) (gD K (wF Z (zV zf 7 [H])) w)):jl K (wD Z H zf) w:=by delta jl;revert h;exact mpF
def DE(h:aW Q 187 H (ci 0) (λa=>ld Q 36 a λb=>mB K (wG H b (ci 1) (zV zf 9 [H,a,b]))) w):gD K (wF H zf) w:=mpK h
def DD(Inv:oF->oF->oG->Prop)(μ:oF->oF->oG->Nat)(i:Inv U Z w)(j:∀(b a:oF) (g:oD) (w:oG) (m:Nat),Inv b a w->m=μ b a w ->
  lN 187 H (λc=>lS a c λd w=>cond d (aW Q 187 H a (λe=>ld Q 36 e λf=>blt Q .max #[36,36] 36 #[false,false] #[b,f] λd=>nC a λc w=>(Inv d c w)/\((μ d c w)<m)) w) (fE K (wI b (zV (zV (zV g 0 [H]) 4 [a]) 12 [a,H,c,d])) w)) w):mB K (wG H U Z zf) w:=by refine lW (cd f84 (b1 244)) [(3,2),(12,12)] 3 4 zf i j ?_;intro k l;exact mpF
def DH(h:K H w):fE K (wI H zf) w:=mpK h
attribute [irreducible] gD jl fE mB
def MI(h:aU H (λr=>ao Q 208 r 0 λs=>ao Q 54 s 6 λt=>ld Q 2 t λg=>bF .geq 2 g Z λa w=>aM a true (λf=>aU H (λa=>ao Q 208 a 0 λb=>ao Q 54 b 6 λc=>ld Q 2 c λd=>bT .leq 2 d (ci 1125899906842624) λi=>f [H,a,b,c,d,i]) w) (λk=>k [uu,uu,uu,uu,uu,uu] w) λe=>pick a (gd e 5) cF λj=>aU H λl=>ao Q 208 l 0 λm=>ao Q 54 m 4 λn=>sto Q 36 n (cu 0) λ_=>aU H λo=>ao Q 208 o 0 λp=>ao Q 54 p 6 λq=>sto Q 2 q (ci 0) λ_=>K j) w):Gives Q 101 #[H,Z] w K:=au func101 kr (mpK h)
def Ov(h:aU H (λc=>ao Q 208 c 0 λd=>ao Q 54 d 7 λe=>ld Q 36 e λf=>bT .gtr 36 f (cu 0) λg=>aU H λa=>ao Q 208 a 0 λb=>ao Q 54 b 7 λa=>sto Q 36 a (cu 0) λ_=>K g) w):Gives Q 102 #[H] w K:=au func102 kr (mpK h)
def Pn(h:sN H (λs=>sF 208 s 0 λt=>sF 54 t 8 λu=>sL 36 u λv=>sti (bT .gtr 36 v (cu 0)) λr w=>aM r true (λj=>sN H (λa=>sF 208 a 0 λf=>sF 54 f 8 λg=>sL 36 g λh=>sN H λb=>sF 208 b 0 λc=>sF 54 c 7 λd=>sL 36 d λe=>sti (bF .neq 36 h e) λm=>j [H,a,f,g,h,H,b,c,d,e,m]) w) (λk=>k [uu,uu,uu,uu,uu,uu,uu,uu,uu,uu,uu] w) λg=>sti (pick r (gd g 10) cF) λn=>aU H λo=>ao Q 208 o 0 λp=>ao Q 54 p 8 λq=>sto Q 36 q (cu 0) λ_=>call Q 102 #[H] λf w=>aM f true (λl=>l [n] w) (λk=>k [uu] w) λi=>pick f (gd i 0) cF K) w.drew):Gives Q 103 #[H] w K:=au func103 kr (mpK h)
def Po(h:sN H (λp=>sF 208 p 0 λq=>sF 54 q 5 λr=>sL 3 r λs=>sti (call Q 83 #[s]) λo w=>aM o true (λg=>sN H (λa=>sF 208 a 0 λf=>sF 54 f 5 λh=>sL 3 h λj=>sN H λb=>sF 208 b 0 λc=>sF 54 c 0 λd=>sL 3 d λe=>sti (bF .neq 3 j e) λi=>g [H,a,f,h,j,H,b,c,d,e,i]) w) (λk=>k [uu,uu,uu,uu,uu,uu,uu,uu,uu,uu,uu] w) λf=>sti (pick o (gd f 10) cF) λj=>aU H λl=>ao Q 208 l 0 λm=>ao Q 54 m 5 λn=>sto Q 3 n (ci 0) λ_=>K j) w.drew):Gives Q 104 #[H] w K:=au func104 kr (mpK h)
def CB(b c a:oF)(zf:oD):=b::zT zf 1 6 (c::zT zf 8 16 (a::zT zf 25 21 ([])))
def CC(a:oF)(zf:oD):=a::zT zf 1 45 ([])
def jv(K:KV):KE:=kZ f85 [1,1] K
def om(K:KV):KE:=ai Q (cd f85 (b1 3455)) (jv K) (xx xf (jv K) 0) (rk f85 K)
def MH(h:aU H (λb=>ao Q 208 b 0 λi=>ao Q 54 i 3 λj=>ld Q 5 j λZ=>bT .eql 5 Z (cb 1) λg w=>cond g (call Q 101 #[H,ci 0] K w) (bT .eql 5 Z (cb 2) (λd w=>cond d (call Q 101 #[H,ci 1] K w) (bT .eql 5 Z (cb 3) (λa w=>cond a (call Q 101 #[H,ci 1] (λb w=>aM b true (λe=>call Q 102 #[H] (λf=>e [H,f]) w) (λk=>k [uu,uu] w) λd=>pick b (gd d 1) cF K) w) (bT .eql 5 Z (cb 4) (λc=>om K (CB H Z c (zV (zV (zV (zV (zV zu 2 [cF,H,b,i,j]) 8 [g,g]) 12 [d,d]) 16 [a,a]) 25 [c]))) w)) w)) w)) w):Gives Q 85 #[H] w K:=by refine au func85 kr <|rpT [1,0,1,0,1,1,1,1,1,1,1] (cd f85 (b1 3455)) (cd f85 []) ?_;revert h;delta om jv;generalize (cd f85 (b1 3455))=xc0;exact mpF
def KH(h:cond U (call Q 103 #[H] K w) (bT .eql 5 Z (cb 5) (λa w=>cond a (call Q 101 #[H,ci 1] (λc w=>aM c true (λe=>call Q 104 #[H] (λf=>e [H,f]) w) (λk=>k [uu,uu] w) λd=>pick c (gd d 1) cF K) w) (bT .eql 5 Z (cb 6) (λb w=>cond b (call Q 104 #[H] K w) (jv K (CC H (zV (zV (zV (zV zf 7 [Z]) 24 [U]) 28 [a,a]) 36 [b,b])) w)) w)) w)):om K (CB H Z U zf) w:=by delta om;revert h;exact mpF
def KI(h:aU H (λa=>ao Q 208 a 0 λb=>ao Q 54 b 3 λc=>ld Q 5 c λd=>bT .eql 5 d (cb 7) K) w):jv K (CC H zf) w:=mpK h
attribute [irreducible] jv om
def HX(a b:oF)(zf:oD):=zf 0::a::zf 2::b::zT zf 4 51 ([])
def vL(K:KV):KE:=ai Q (cd f68 [1,1,1,1]) (rk f68 K) xf (rk f68 K)
def Za(h:box Q 54 U (λZ w=>sF 54 Z 0 (λf=>sL 3 f λG=>sti (call Q 83 #[G]) λH=>sti (un Q .not H) λA w=>aM A false (λJ=>sF 54 Z 1 (λI=>sL 36 I λf=>sti (bT .lss 36 f (cu 1)) λD=>J [I,f,D]) w) (λk=>k [uu,uu,uu] w) λe=>sti (pick A cT (gd e 2)) λc w=>aM c false (λB=>sF 54 Z 1 (λa=>sL 36 a λb=>sti (bT .geq 36 b (cu 1099511627776)) λE=>B [a,b,E]) w) (λk=>k [uu,uu,uu] w) λb=>sti (pick c cT (gd b 2)) λd w=>aM d false (λC=>sF 54 Z 0 (λg=>sL 3 g λi=>sti (bT .sub 3 i (ci 1)) λj=>sF 54 Z 2 λl=>sI 38 l j λm=>sL 36 m λn=>sF 54 Z 1 λo=>sL 36 o λp=>sti (bT .sub 36 p (cu 1)) λq=>sti (bF .neq 36 n q) λF=>C [g,i,j,l,m,n,o,p,q,F]) w) (λk=>k [uu,uu,uu,uu,uu,uu,uu,uu,uu,uu] w) λa=>sti (pick d cT (gd a 9)) λr w=>cond r (K cF w) (ao Q 54 Z 2 (λs=>slc Q 38 s none none none λt=>call Q 84 #[t] λu=>bT .geq 36 u (cu 1099511627776) λv w=>cond v (K cF w) (ld Q 54 Z (λx=>bld Q 208 #[(0,x)] λy=>box Q 208 y λz=>vL K (HX Z z (zV (zV (zV zu 0 [U]) 2 [cF]) 4 [f,G,H,A,A,gd e 0,gd e 1,gd e 2,c,c,gd b 0,gd b 1,gd b 2,d,d,gd a 0,gd a 1,gd a 2,gd a 3,gd a 4,gd a 5,gd a 6,gd a 7,gd a 8,gd a 9,r,s,t,u,v,x,y,z]))) w)) w)) w.drew) w):Gives Q 68 #[U] w K:=by refine au func68 kr <|rpT [1,1,1,1] (cd f68 [1,1,1,1]) (cd f68 []) ?_;revert h;delta vL;generalize (cd f68 [1,1,1,1])=xc0;exact mpF
def Wh(h:aF (λ_=>call Q 85 #[Z] λa=>aF λS w=>hG a true S (λk=>k Z) λb=>hG a true S (aU b) λc=>hG a true S (ao Q 208 c 0) λd=>hG a true S (ld Q 54 d) λe=>hG a true S (ao Q 54 H 0) λf=>hG a true S (ld Q 3 f) λg=>hG a true S (ao Q 54 H 1) λi=>hG a true S (ld Q 36 i) λj=>hG a true S (ao Q 54 H 2) λl=>hG a true S (ld Q 38 l) λm=>hG a true S (ao Q 54 H 3) λn=>hG a true S (ld Q 5 n) λo=>hG a true S (bld Q 54 #[(0,g),(1,j),(2,m),(3,o)]) λp=>hG a true S (bF .eql 54 e p) λq=>hld S (pick a q cF) λr=>K r w) w.drew):vL K (HX H Z zf) w:=mpK h
attribute [irreducible] vL
def Ub(h:bT .geq 3 H (ci 1) (λb w=>aM b true (λb=>bT .leq 3 H (ci 6) (λc=>b [H,c]) w) (λk=>k [uu,uu] w) λa=>pick b (gd a 1) cF K) w):Gives Q 120 #[H] w K:=au func120 kr (mpK h)
def Mn(of0 v2 t4:oF)(zf:oD):=of0::zf 1::v2::zf 3::t4::zT zf 5 9 ([])
def Mo(v2:oF)(zf:oD):=zf 0::zf 1::v2::zT zf 3 11 ([])
def qi(K:KV):KE:=kZ f80 [1,1] K
def Ai(K:KV):KE:=ai Q (cd f80 [1,0,1,0]) (qi K) (xx xf (qi K) 0) (rk f80 K)
section
variable {of0 v2 t4:oF}
def Xl(h:alc Q 38 (λa=>Ai K (Mn H a (ci 0) zu)) w):Gives Q 80 #[H] w K:=au func80 kr (mpK h)
def TZ(Inv:oF->oG->Prop)(μ:oF->oG->Nat)(g:Inv t4 w)(i:∀(a:oF) (f:oD) (w:oG) (m:Nat),Inv a w->m=μ a w ->
  bT .lss 3 a (ci 6) (λe w=>cond e (bA Q of0 #[a] (λc=>aW Q 38 v2 a λd=>sto Q 36 d c λ_=>nC a λb w=>(Inv b w)/\((μ b w)<m)) w) (qi K (Mo v2 (zV (zV f 0 [of0]) 4 [a,e])) w)) w):Ai K (Mn of0 v2 t4 zf) w:=by refine lV (cd f80 (b1 52)) [(3,10)] 4 zf g i ?_;intro j k;exact mpF
def U7(h:ld Q 38 v2 (λa=>sto Q 38 v2 a λ_=>aY Q [(some 38,v2)] K) w):qi K (Mo v2 zf) w:=mpK h
end
attribute [irreducible] qi Ai
def Mp(a t4 b c d e:oF)(zf:oD):=zT zf 0 3 (a::t4::b::zT zf 6 10 (c::d::e::zT zf 19 7 ([])))
def Mq(t4 a:oF)(zf:oD):=zT zf 0 4 (t4::a::zT zf 6 20 ([]))
def qj(K:KV):KE:=kZ f127 [1,1,1,1] K
def Aj(K:KV):KE:=ai Q (cd f127 (b1 122)) (qj K) (xx xf (qj K) 0) (rk f127 K)
def Xm(h:box Q 254 J (λb=>alc Q 38 λZ=>lN 252 H λc=>bT .eql 3 c (ci 0) λa w=>cond a (bld Q 38 #[] (λb=>sto Q 38 Z b λ_=>aY Q [(some 38,Z)] K) w) (aW Q 252 H (ci 0) (λd=>ld Q 38 d λe=>alc Q 38 λU=>sto Q 38 U e λ_=>slc Q 252 H (some (ci 1)) none none λY=>lN 252 Y λC=>Aj K (Mp b Z U Y C (ci 0) (zV (zV (zV zu 0 [H,J]) 8 [H,c,a]) 12 [H,d,e,H]))) w)) w):Gives Q 127 #[H,J] w K:=au func127 kr (mpK h)
def U9(Inv:oF->oG->Prop)(μ:oF->oG->Nat)(j:Inv J w)(k:∀(a:oF) (i:oD) (w:oG) (m:Nat),Inv a w->m=μ a w ->
  lS a U (λb w=>cond b (aW Q 252 Z a (λd=>ld Q 38 d λe=>alc Q 38 λg=>sto Q 38 g e λ_=>call Q 80 #[.func (.func 139) #[] #[Y,H,g]] λf=>sto Q 38 H f λ_=>nC a λc w=>(Inv c w)/\((μ c w)<m)) w) (qj K (Mq C H (zV (zV i 3 [Y]) 16 [Z,U,a,b])) w)) w):Aj K (Mp Y C H Z U J zf) w:=by refine lV (cd f127 (b1 244)) [(7,1),(18,7)] 18 zf j k ?_;intro l n;exact mpF
def Ua(h:ld Q 38 Z (λa=>sto Q 38 H a λ_=>aY Q [(some 38,H)] K) w):qj K (Mq H Z zf) w:=mpK h
attribute [irreducible] qj Aj
def U8(h:aF (λS w=>hL S 254 Y λc=>hI S 38 Z H λd=>hL S 36 d λe=>hI S 38 U H λa=>hL S 36 a λb=>bA Q c #[e,b] (λa=>aF λ_=>K a) w) w.drew):Gives Q 139 #[H,Y,Z,U] w K:=au func139 kr (mpK h)
def Xh(h:alc Q 38 (λa=>call Q 127 #[H,.func (.func 128) #[] #[]] λb=>sto Q 38 a b λ_=>aY Q [(some 38,a)] K) w):Gives Q 119 #[H] w K:=au func119 kr (mpK h)
def TW(h:blt Q .max #[36,36] 36 #[false,false] #[H,Z] K w):Gives Q 128 #[H,Z] w K:=au func128 kr (mpK h)
def Xi(h:box Q 38 H (λa=>box Q 38 Z λb w=>aF (λS w=>hL S 38 a λc=>hL S 38 b λd=>hL S 38 b λg=>bM Q 252 2 #[(0,c),(1,d)] (λe=>aX S λS=>call Q 119 #[e] λf=>aX S λS w=>hld S (bF .eql 38 f g) λa=>K a w) w) w.drew) w):Gives Q 99 #[H,Z] w K:=au func99 kr (mpK h)
def Yp(h:box Q 38 U (λm=>call Q 120 #[Z] λl w=>aM l true (λf=>bT .gtr 36 H (cu 0) (λi=>f [H,i]) w) (λk=>k [uu,uu] w) λd=>pick l (gd d 1) cF λa w=>aM a true (λg=>bT .sub 3 Z (ci 1) (λa=>aW Q 38 m a λb=>ld Q 36 b λc=>bF .geq 36 c H λj=>g [Z,a,b,c,H,j]) w) (λk=>k [uu,uu,uu,uu,uu,uu] w) λe=>pick a (gd e 5) cF K) w):Gives Q 105 #[U,Z,H] w K:=au func105 kr (mpK h)
def Yj(h:box Q 38 H (λa=>box Q 54 Z λe=>ld Q 54 e λm=>call Q 68 #[m] λg w=>aM g true (λl=>ld Q 38 a (λi=>ao Q 54 e 0 λj=>ld Q 3 j λb=>ao Q 54 e 1 λc=>ld Q 36 c λd=>call Q 105 #[i,b,d] λa=>l [i,j,b,c,d,a]) w) (λk=>k [uu,uu,uu,uu,uu,uu] w) λf=>pick g (gd f 5) cF K) w):Gives Q 87 #[H,Z] w K:=au func87 kr (mpK h)
def WO(h:box Q 38 H (λa=>box Q 54 Z λd w=>aF (λS w=>hL S 54 d λo=>call Q 68 #[o] (λc=>aF λS w=>hG c true S (ao Q 54 d 0) λp=>hG c true S (ld Q 3 p) λq=>hG c true S (bT .sub 3 q (ci 1)) λe=>hG c true S (aW Q 38 a e) λf=>hG c true S (ld Q 36 f) λg=>hG c true S (ao Q 54 d 1) λb=>hG c true S (ld Q 36 b) λb=>hG c true S (bT .sub 36 b (cu 1)) λb=>hG c true S (bF .eql 36 g b) λi=>hld S (pick c i cF) λb=>hG b true S (ao Q 54 d 2) λj=>hG b true S (ld Q 38 j) λk=>hG b true S (ld Q 38 a) λl=>xG b true (call Q 99 #[k,l]) (λm=>aF λS w=>hld S (pick b m cF) λn=>K n w) w) w) w.drew) w):Gives Q 88 #[H,Z] w K:=au func88 kr (mpK h)
section
attribute [local irreducible] bin un conv call bA blt slc ao fld aW idx lkp fk mW eSt rng nxt ent ext alc box bld bM ld sto aU fl mkS ifc pick rdy wts aM sti cond aY Gives ai iy ke cOp
def kM:fU Q 208 0 0 b o K w:=aJ kr
section
variable {e:EV}
def zda{i:Int}(h:K (.bool (bB i)) w):call Q 83 #[ci i] K w:=by
 refine aj (goK func83) (UJ (bR ?_));unfold bB at h;by_cases a:i≥1
 .rw[show decide (1<=i)=true from qF a,qZ]at h;exact bU a (iG (bI a h))
 .rw[show decide (1<=i)=false from qE a,jA]at h;exact cJ a (bw a h)
def QK{l:Int}(j:blk w f 208 (evC e))(h:∀S,blk S f 208 (evC {e with n:=0,a:=0})->Oth f w S->K (.bool (decide (l<=e.a)&&decide (e.a<=1125899906842624))) S):call Q 101 #[pA f 0,ci l] K w:=by
 refine aj (goK func101) (MI (aq (kM (sX (lK (v:=iv e.a) j rfl (bR ?_))))));have d:∀b:Bool,b=(decide (l<=e.a)&&decide (e.a<=1125899906842624))->aU (pA f 0) (λm=>ao Q 208 m 0 λo=>ao Q 54 o 4 λp=>sto Q 36 p (cu 0) λ_=>aU (pA f 0) λq=>ao Q 208 q 0 λr=>ao Q 54 r 6 λs=>sto Q 2 s (ci 0) λ_=>K (.bool b)) w:=by
  rintro b rfl;refine aq (kM (pY (cq kf j (by show 9<14;decide) rfl λy c g=>aq (kM (sX (cq kf c (by show 11<14;decide) rfl λx u i=>?_))))));exact h x u ⟨i.os.trans g.os,i.tape.trans g.tape,i.output.trans g.output,i.size.trans g.size,λk t=>(i.other k t).trans (g.other k t)⟩
 by_cases c:e.a≥l
 .refine bU c (aq (kM (sX (lK (v:=iv e.a) j rfl (iG (bI c ?_))))));exact d _ (by rw[show decide (l<=e.a)=true from qF c,qZ])
 .refine cJ c (bw c ?_);exact d _ (by rw[show decide (l<=e.a)=false from qE c,jA])
def zdd(a:blk w f 208 (evC e))(h:∀S,blk S f 208 (evC {e with r:=0})->Oth f w S->K (.bool (decide (0<e.r))) S):call Q 102 #[pA f 0] K w:=by refine aj (goK func102) (Ov (aq (kM (wO (lK (v:=u6 e.r) a rfl (cH ?_))))));exact aq (kM (wO (cq kf a (by show 12<14;decide) rfl λd b c=>h d b c)))
def zkp(x:blk w f 208 (evC e))(h:∀S,blk S f 208 (evC {e with f:=0,r:=0})->Oth f w S->K (.bool (decide (0<e.r)&&(decide (0<e.f)&&decide (e.f≠e.r)))) S):call Q 103 #[pA f 0] K w:=by
 have m:=x.drew;refine aj (goK func103) (Pn (ah (λ_=>aq) (ah (λ_=>kM) (ah (λ_=>Eb) (ah (v:=u6 e.f) (λ_=>lK m rfl) (ah (λ_=>cH) ?_))))))
 have d:∀b:Bool,b=(decide (0<e.f)&&decide (e.f≠e.r))->aU (pA f 0) (λp=>ao Q 208 p 0 λq=>ao Q 54 q 8 λs=>sto Q 36 s (cu 0) λ_=>call Q 102 #[pA f 0] λj w=>aM j true (λo=>o [.bool b] w) (λk=>k [undef] w) λl=>pick j (gd l 0) cF K) w.drew:=by
  rintro b rfl;refine aq (kM (Eb (cq kf m (by show 13<14;decide) rfl λz a g=>zdd (e:={e with f:=0}) a λy u i=>?_)));have n:=h y u ⟨i.os.trans g.os,i.tape.trans g.tape,i.output.trans g.output,i.size.trans g.size,λk t=>(i.other k t).trans (g.other k t)⟩;show aM (.bool (decide (0<e.r))) true _ _ _;by_cases c:0<e.r
  .rw[show decide (0<e.r)=true from qF c,qZ]at n;exact bU c (bI c n)
  .rw[show decide (0<e.r)=false from qE c,jA]at n;exact cJ c (bw c n)
 by_cases a:0<e.f
 .refine bU a (ah (λ_=>aq) (ah (λ_=>kM) (ah (λ_=>Eb) (ah (v:=u6 e.f) (λ_=>lK m rfl) (ah (λ_=>aq) (ah (λ_=>kM) (ah (λ_=>wO) (ah (v:=u6 e.r) (λ_=>lK m rfl) (ah (λ_=>aZ) (ah (λ_=>bI a) ?_))))))))));exact d _ (by rw[show decide (0<e.f)=true from qF a,qZ])
 .refine cJ a (ah (λ_=>bw a) ?_);exact d _ (by rw[show decide (0<e.f)=false from qE a,jA])
def zge(m:blk w f 208 (evC e))(h:∀S,blk S f 208 (evC {e with t:=0})->Oth f w S->K (.bool (bB e.t&&decide (e.t≠e.o))) S):call Q 104 #[pA f 0] K w:=by
 have d:=m.drew;refine aj (goK func104) (Po (ah (λ_=>aq) (ah (λ_=>kM) (ah (λ_=>yN) (ah (v:=iv e.t) (λ_=>lK d rfl) (ah (λ_=>zda) ?_))))));have a:∀b:Bool,b=(bB e.t&&decide (e.t≠e.o))->aU (pA f 0) (λg=>ao Q 208 g 0 λi=>ao Q 54 i 5 λj=>sto Q 3 j (ci 0) λ_=>K (.bool b)) w.drew:=by
  rintro b rfl;exact aq (kM (yN (cq kf d (by show 10<14;decide) rfl λn l c=>h n l ⟨c.os,c.tape,c.output,c.size,c.other⟩)))
 cases k:bB e.t with
 | true =>
  refine kN (ah (λ_=>aq) (ah (λ_=>kM) (ah (λ_=>yN) (ah (v:=iv e.t) (λ_=>lK d rfl) (ah (λ_=>aq) (ah (λ_=>kM) (ah (λ_=>dO) (ah (v:=iv e.o) (λ_=>lK d rfl) (ah (λ_=>aZ) (ah (λ_=>cA) ?_))))))))));exact a _ (by rw[k,qZ])
 | false =>
  refine kj (ah (λ_=>bZ) ?_);exact a _ (by rw[k,jA])
end
def Dm(e:EV):EV:={e with
 n:=if e.k=1\/e.k=2\/e.k=3\/e.k=5 then 0 else e.n
 a:=if e.k=1\/e.k=2\/e.k=3\/e.k=5 then 0 else e.a
 t:=if e.k=5\/e.k=6 then 0 else e.t
 r:=if e.k=3\/e.k=4 then 0 else e.r
 f:=if e.k=4 then 0 else e.f}
def zbU(e:EV):EV:={e with n:=0,a:=0,t:=0,r:=0,f:=0}
def zfZ{e:EV}:Dm e=zbU e↔e=Lg e:=by
 obtain⟨o,s,i,j,l,m,p,q,k,n,t,a,r,f⟩:=e;simp only[Dm,zbU,Lg,EV.mk.injEq,true_and];constructor
 .rintro⟨b,c,d,g,h⟩;refine⟨?_,?_,?_,?_,?_⟩<;>split<;>simp_all
 .rintro⟨b,c,d,g,h⟩;refine⟨?_,?_,?_,?_,?_⟩<;>split<;>simp_all
section
variable {e:EV}
def zh1(q:blk w f 208 (evC e))(h:∀O e',blk O f 208 (evC e')->Oth f w O->(fdE e=true->e'=Dm e)->K (.bool (fdE e)) O):call Q 85 #[pA f 0] K w:=by
 refine aj (goK func85) (MH (aq (kM (Ea (lK (v:=kv8 e.k) q rfl (aT ?_))))));have F:∀{j S:oG},Oth f w j->Oth f j S->Oth f w S:=λd u=>⟨u.os.trans d.os,u.tape.trans d.tape,u.output.trans d.output,u.size.trans d.size,λk E=>(u.other k E).trans (d.other k E)⟩
 by_cases m:e.k=1
 .refine ay m (QK q λj l d=>?_);have g:=h j _ l d (λ_=>by unfold Dm;rw[m];simp);rwa[show fdE e=(decide (0<=e.a)&&decide (e.a<=1125899906842624))by unfold fdE;rw[oJ m]]at g
 refine ax m (aT ?_);by_cases p:e.k=2
 .refine ay p (QK q λj l d=>?_);have g:=h j _ l d (λ_=>by unfold Dm;rw[p];simp);rwa[show fdE e=(decide (1<=e.a)&&decide (e.a<=1125899906842624))by unfold fdE smE;rw[oI m,oJ p]]at g
 refine ax p (aT ?_);by_cases s:e.k=3
 .have B:fdE e=((decide (1<=e.a)&&decide (e.a<=1125899906842624))&&decide (0<e.r)):=by
   unfold fdE smE;rw[oI m,oI p,oJ s];rfl
  refine ay s (QK q λj l d=>?_);cases i:(decide (1<=e.a)&&decide (e.a<=1125899906842624))with
  | true =>
   refine kN (zdd (e:={e with n:=0,a:=0}) l λS D u=>cA ?_);have g:=h S _ D (F d u) (λ_=>by unfold Dm;rw[s];simp);rwa[B,i,qZ]at g
  | false =>
   refine kj (bZ ?_);have g:=h j _ l d (λA=>by rw[B,i]at A;cases A);rwa[B,i,jA]at g
 refine ax s (aT (KH ?_));by_cases x:e.k=4
 .refine ay x (zkp q λj l d=>?_);have g:=h j _ l d (λ_=>by unfold Dm;rw[x];simp);rwa[show fdE e=(decide (0<e.r)&&(decide (0<e.f)&&decide (e.f≠e.r)))by
   unfold fdE;rw[oI m,oI p,oI s,oJ x,Bool.eq_iff_iff];simp only[oM,oP];constructor<;>(rintro⟨a,b,c⟩;exact⟨by omega,by omega,λh=>c h.symm⟩)]at g
 refine ax x (aT ?_);by_cases y:e.k=5
 .have C:fdE e=((decide (1<=e.a)&&decide (e.a<=1125899906842624))&&(bB e.t&&decide (e.t≠e.o))):=by
   unfold fdE smE otE;rw[oI m,oI p,oI s,oI x,oJ y]
  refine ay y (QK q λj l d=>?_);cases i:(decide (1<=e.a)&&decide (e.a<=1125899906842624))with
  | true =>
   refine kN (zge (e:={e with n:=0,a:=0}) l λS D u=>cA ?_);have g:=h S _ D (F d u) (λ_=>by unfold Dm;rw[y];simp);rwa[C,i,qZ]at g
  | false =>
   refine kj (bZ ?_);have g:=h j _ l d (λA=>by rw[C,i]at A;cases A);rwa[C,i,jA]at g
 refine ax y (aT ?_);by_cases z:e.k=6
 .refine ay z (zge q λj l d=>?_);have g:=h j _ l d (λ_=>by unfold Dm;rw[z];simp);rwa[show fdE e=(bB e.t&&decide (e.t≠e.o))by unfold fdE otE;rw[oI m,oI p,oI s,oI x,oI y,oJ z]]at g
 refine ax z (KI (aq (kM (Ea (lK (v:=kv8 e.k) q rfl (aT ?_))))));have g:=h w e q ⟨rfl,rfl,rfl,rfl,λ_ _=>rfl⟩ (λ_=>by unfold Dm;simp[m,p,s,x,y,z]);rwa[show fdE e=decide (e.k=7)by unfold fdE;rw[oI m,oI p,oI s,oI x,oI y,oI z]]at g
def zjL{cs:oE}{V:List Int}(c:blk w b E cs)(g:∀k,k<6->cs[2+k]? = some (u6 (V.getD k 0)))(h:∀m:Int,(∀k,k<6->V.getD k 0<=m)->(∃k,k<6/\m=V.getD k 0)->K (u6 m) w):call Q 84 #[.slice (some ⟨b,2,none⟩) 6 6] K w:=by
 refine aj (goK func84) (Fo (bv underlying187 (aL (DC (ax dc (DE ?_))))));refine fQ underlying187 (s:=1) kf dc dc <|lK (v:=u6 (V.getD 0 0)) c (g 0 oo) ?_;refine DD (Inv:=λm i q => ∃(x:Int) (k:Nat),m=u6 x/\i=ci (k:Nat)/\1<=k/\k<=6/\q=w/\(∀j,j<k->V.getD j 0<=x)/\∃j,j<6/\x=V.getD j 0) (μ:=λ_ i _=>6-(intOf i).toNat)
  ⟨_,1,rfl,rfl,by omega,by omega,rfl,λj d=>by rw[show j=0 by omega];exact Int.le_refl _,0,by omega,rfl⟩ ?_
 rintro _ _ r _ m ⟨x,k,rfl,rfl,n,o,rfl,a,l⟩ p;refine bv underlying187 (aL ?_);by_cases f:k<6
 .refine ay oo (fQ underlying187 (s:=1) kf oo oo ?_);rw[oQ,Nat.mul_one];refine lK (v:=u6 (V.getD k 0)) c (g k f) (QX (aR oo oo ?_));refine⟨⟨_,k+1,rfl,ivS,by omega,by omega,rfl,λj d=>?_,?_⟩,mD p⟩
  .by_cases e:j=k
   .subst e;split<;>omega
   .have:=a j oo;split<;>omega
  .split
   .exact⟨k,f,rfl⟩
   .exact l
 .refine ax oo (DH (h x (λj d=>a j oo) l))
end
def zhB{e:EV}(u:blk w b 54 (evC e))(z:blk w f 208 (evC e))(p:b≠f)(F:S.heap.size<=f)(D:H=pA b 0)(E:Z=pA f 0)(i:Below S.heap.size S w)(h:nX S (K (.bool (decide (e=Lg e)&&fdE e)))):vL K ((HX H Z zf)) w:=by
 subst D;subst E;refine Wh ?_;refine hRT (zh1 z.drew λO l t d A=>?_);have d:Oth f w O:=⟨d.os,d.tape,d.output,d.size,d.other⟩
 have m:blk O b 54 (evC e):=by unfold blk;rw[d.other b p];exact u
 have B:Below S.heap.size S O:=⟨d.os.trans i.os,d.tape.trans i.tape,d.output.trans i.output,by rw[d.size];exact i.size,λk g=>(d.other k oo).trans (i.block k g)⟩
 have j:=h O B;refine aw (λx=>blk x b 54 (evC e)/\blk x f 208 (evC l)) ⟨m,t⟩ ?_;cases g:fdE e with
 | true =>
  have y:l=Dm e:=A g;rw[g,Bool.and_true]at j
  refine jh rfl (λx c K a=>a) <|jh rfl (λx c _=>aq) <|jh rfl (λx c _=>kM) <|jh rfl (λx c _=>ldA (n:=14) (vs:=evC l) underlying54 rfl kr c.2 rfl rfl) <|jh rfl (λx c _=>dO) <|jh rfl (λx c _=>lK (v:=iv e.o) c.1 rfl) <|jh rfl (λx c _=>nB) <|jh rfl (λx c _=>lK (v:=u6 e.s) c.1 rfl) <|jh rfl (λx c _=>BN) <|jh rfl (λx c _=>ldA (n:=6) (vs:=[u6 e.d0,u6 e.d1,u6 e.d2,u6 e.d3,u6 e.d4,u6 e.d5]) underlying38 rfl kr c.1 rfl rfl) <|jh rfl (λx c _=>Ea) <|jh rfl (λx c _=>lK (v:=kv8 e.k) c.1 rfl) <|jh rfl (λx c _=>ck (vs:=evC (zbU e)) kr) ?_
  refine jh (x:=.bool (decide (e=Lg e))) rfl (λx c K a=>QF 3 oo kr kr kr kr λr q=>by
   have:r=decide (e=Lg e):=by rw[zgY,y,zfZ]at q;exact Bool.eq_iff_iff.2 (q.trans decide_eq_true_iff.symm)
   rw[this];exact a) ?_
  exact ac (λx c _=>cA) j
 | false =>
  rw[g,Bool.and_false]at j;have C:asB (.bool false)≠some true:=by simp[asB]
  iterate 14 refine xN C ?_
  exact ac (λx c _=>bZ) j
def Fg{e:EV}(h:nX w (K (.bool (co e)))):call Q 68 #[.agg (evC e).toArray] K w:=by
 refine aj (goK func68) (Za ?_);refine bu λf b g H=>?_;have b:=cZ b
 have b:blk f.drew w.heap.size 54 (evC e):=b.drew;have g:Below w.heap.size w f.drew:=g.drew;have j:co e=false->K (.bool false) f.drew:=λu=>by have:=h _ g;rw[u]at this;exact this
 refine ah (λ_=>dO) <|ah (v:=iv e.o) (λ_=>lK b rfl) <|ah (λ_=>zda) <|ah (λ_=>bc) ?_;cases d:bB e.o with
 | false =>
  refine iH <|ah (λ_=>cA) <|iH <|ah (λ_=>cA) <|iH <|ah (λ_=>cA) <|aV ?_;exact j (by simp[co,d])
 | true =>
  refine fF <|ah (λ_=>nB) <|ah (v:=u6 e.s) (λ_=>lK b rfl) <|ah (λ_=>aL) <|ah (λ_=>bZ) ?_;by_cases l:e.s<1
  .refine mF l <|ah (λ_=>bI l) <|iH <|ah (λ_=>cA) <|aV ?_;exact j (by simp[co,d];omega)
  refine df l <|ah (λ_=>nB) <|ah (v:=u6 e.s) (λ_=>lK b rfl) <|ah (λ_=>bR) <|ah (λ_=>bw l) ?_;by_cases p:e.s≥1099511627776
  .refine mF p <|ah (λ_=>bI p) <|aV ?_;exact j (by simp[co,d];omega)
  refine df p ?_;have G:1<=e.o/\e.o<=6:=by simpa[bB]using d
  obtain⟨k,z⟩:∃k:Nat,k=(e.o-1).toNat:=⟨_,rfl⟩
  refine ah (λ_=>dO) <|ah (v:=iv e.o) (λ_=>lK b rfl) <|ah (v:=ci ((k:Nat):Int)) (λK a=>nL (by rw[fM oo oo,show (e.o-1)=(k:Nat)by omega];exact a)) <|ah (λ_=>BN) <|ah (λ_=>ixV rfl oo) <|ah (v:=u6 (e.V.getD k 0)) (λ_=>lK b (zg9 oo)) <|ah (λ_=>nB) <|ah (v:=u6 e.s) (λ_=>lK b rfl) <|ah (v:=u6 (e.s-1)) (λK a=>nL (by rw[eJ,show (e.s-1)%18446744073709551616=e.s-1 by omega];exact a)) <|ah (λ_=>aZ) <|ah (λ_=>bw p) ?_
  by_cases c:e.V.getD k 0≠e.s-1
  .refine ay c ?_;exact j (by simp[co,d, <-z];intro _ _ u;exact qI u c)
  refine ax c ?_;have c:e.V.getD k 0=e.s-1:=by simpa using c
  refine BN (zea underlying38 (s:=1) kf (zjL (V:=e.V) b (λq i=>zg9 i) λm x C=>bR ?_));by_cases r:m≥1099511627776
  .refine ay r <|j ?_;obtain⟨q,i,rfl⟩:=C
   have:(List.range 6).all (λk=>decide (e.V.getD k 0<1099511627776))=false:=by
    rw[List.all_eq_false];exact⟨q,by simpa using i,by simp;simpa using r⟩
   unfold co;rw[this];simp
  refine ax r <|ldA (n:=14) (vs:=evC e) underlying54 rfl kr b rfl rfl <|ck (vs:=evC e) kr ?_;refine bu λE t y I=>?_;have t:=cZ t
  have B:w.heap.size<f.drew.heap.size:=b.lt;refine zhB (ae y b b.lt) t oo oo rfl rfl (tB g y) λF D=>?_
  have:=h F D
  have A:(List.range 6).all (λk=>decide (e.V.getD k 0<1099511627776))=true:=by
   rw[jS];exact λq i=>by have:=x q (by simpa using i);simpa using (by omega:e.V.getD q 0<1099511627776)
  unfold co at this;rw[d,A, <-z,c,show decide (1<=e.s)=true from qF oo,show decide (e.s<1099511627776)=true from qF oo]at this;simpa using this
end
section
def vCs(V:List Int):oE:=V.map u6
def leV(V W:List Int):Bool:=(List.range 6).all λk=>decide (V.getD k 0<=W.getD k 0)
def bh{V:List Int}:(vCs V).length=V.length:=by simp[vCs]
def Cs{V:List Int}{k:Nat}(a:V.length=6)(b:k<6):(vCs V)[k]? = some (u6 (V.getD k 0)):=by
 have:k<V.length:=by omega
 simp[vCs,List.getD,gE this]
def zbM{V W:List Int}:vCs V=vCs W↔V=W:=by
 constructor
 .intro h
  have:=qH (List.map intOf) h
  simpa[vCs,u6,intOf,Function.comp_def]using this
 .rintro rfl;rfl
def Rg{V:List Int}:∀v∈vCs V,v.oneCell'=true:=by intro v a;obtain⟨x,_,rfl⟩:=qU.1 a;rfl
def aD{n:Nat}(h:Below n w S)(o:Oth b S O)(c:n<=b):Below n w O :=
 ⟨o.os.trans h.os,o.tape.trans h.tape,o.output.trans h.output,by rw[o.size];exact h.size,λk a=>(o.other k oo).trans (h.block k a)⟩
def zad{V:List Int}(g:V.length=6):∃a b c d e f,V=[a,b,c,d,e,f]:=by
 match V,g with
 | [a,b,c,d,e,f],_=>exact⟨a,b,c,d,e,f,rfl⟩
def Yx{P:Program}{q:Nat}(d:P.underlying t=some (.slice e))(b:∀w,(sizeOf e).run P w=.ok s w){n:Nat}{k:IntKind}(g:q<=n)(f:n<=c)(h:K (.slice (if c=q then av else av.map (·.add (q*s))) (n-q) (c-q)) w):slc P t (.slice av n c) (some (.int k (q:Int))) none none K w:=by
 have a:(Instr.sliceBounds true n c (some (.int k (q:Int))) none none).run P w=.ok (q,n,c) w:=by
  have:=run_sliceBound (P:=P) w k (q:Int) n .sliceB oo oo
  simp[Instr.sliceBounds]at this |-;rw[this];simp
 unfold slc;refine dR (w':=w) ?_ h;simp only[Instr.sliceAt,Instr.slice,jY,jX,jW,jZ d,b,a]
attribute [local irreducible] bin un conv call bA blt slc ao fld aW idx lkp fk mW eSt rng nxt ent ext alc box bld bM ld sto aU fl mkS ifc pick rdy wts aM sti cond aY Gives ai iy ke cOp
def zbQ{o:Int}(h:K (.bool (bB o)) w):call Q 120 #[iv o] K w:=by
 refine aj (goK func120) (Ub (bR ?_));unfold bB at h;by_cases a:o≥1
 .rw[show decide (1<=o)=true from qF a,qZ]at h;exact bU a (iG (bI a h))
 .rw[show decide (1<=o)=false from qE a,jA]at h;exact cJ a (bw a h)
def zjU{V:List Int}{o s:Int}(d:V.length=6)(h:nX w (K (.bool (bB o&&(decide (s>0)&&decide (V.getD (o-1).toNat 0≥s)))))):call Q 105 #[.agg (vCs V).toArray,iv o,u6 s] K w:=by
 refine aj (goK func105) (Yp ?_);refine bu λg b e j=>?_;have b:blk g w.heap.size 38 (vCs V):=by obtain⟨_,_,_,_,_,_,rfl⟩:=zad d;simpa[Value.cells,vCs,u6]using b
 have h:=h _ e;refine zbQ ?_;cases c:bB o with
 | false =>
  rw[c,jA]at h;exact kj (bZ (kj (bZ h)))
 | true =>
  rw[c,qZ]at h;refine kN (cH (cA ?_));by_cases a:s>0
  .rw[show decide (s>0)=true from qF a,qZ]at h;have i:1<=o/\o<=6:=by simpa[bB]using c
   obtain⟨k,f⟩:∃k:Nat,k=(o-1).toNat:=⟨_,rfl⟩
   rw[<-f]at h;refine bU a (nL (by
    rw[fM oo oo,show (o-1)=(k:Nat)by omega];exact ixV rfl oo (by rw[oK];exact lK (v:=u6 (V.getD k 0)) b (Cs d oo) (bR (bI a h)))))
  .rw[show decide (s>0)=false from qE a,jA]at h;exact cJ a (bw a h)
def Xg{G:List Int}(hG:G.length=6)(y:∀k,k<6->∀w1,Below w.heap.size w w1->∀K':KV,(∀S,Below w1.heap.size w1 S->K' (u6 (G.getD k 0)) S)->bA Q Z #[iv (k:Nat)] K' w1)(h:nX w (K (.agg (vCs G).toArray))):call Q 80 #[Z] K w:=by
 refine aj (goK func80) (Xl ?_);refine bO (z:=.agg #[u6 0,u6 0,u6 0,u6 0,u6 0,u6 0]) kr λw1 o u H=>?_;have o:blk w1 w.heap.size 38 [u6 0,u6 0,u6 0,u6 0,u6 0,u6 0]:=by simpa[Value.cells,u6]using o
 refine TZ (Inv:=λi t=>∃(k:Nat) (f:oE),i=iv (k:Nat)/\k<=6/\f.length=6/\(∀j,j<k->f[j]? = some (u6 (G.getD j 0)))/\blk t w.heap.size 38 f/\Below w.heap.size w t) (μ:=λi _=>6-(intOf i).toNat)
  ⟨0,_,rfl,by omega,rfl,λj g=>by omega,o,u⟩ ?_
 rintro _ E S m ⟨k,f,rfl,F,A,d,b,l⟩ B;refine aL ?_;by_cases c:k<6
 .refine ay oo (y k c S l _ λs q=>?_);have a:=ae q b b.lt;refine ixV rfl c (by
   rw[oK];refine cq kf a oo rfl λI p D=>aR oo oo ?_;refine⟨⟨k+1,_,ivS,by omega,by rw[qN];exact A,λj g=>?_,p,aD (tB l q) D oA⟩,mD B⟩;by_cases e:j=k
   .subst e;rw[jC oo]
   .rw[jB oo];exact d j oo)
 .refine ax oo (U7 ?_);have c:k=6:=by omega
  subst c;have x:f=vCs G:=by
   refine List.ext_getElem? λj=>?_;by_cases g:j<6
   .rw[d j g,Cs hG g]
   .rw[jD oo,jD (by rw[bh];omega)]
  subst x;have r:((vCs G).drop 0).take 6=vCs G:=dTk;refine ldA (n:=6) (vs:=vCs G) underlying38 rfl kr b r oo ?_;refine eW (n:=6) kr oo b oo Rg λs a C=>?_;have a:blk s w.heap.size 38 (vCs G):=by
   have e:(vCs G).take 0++vCs G++(vCs G).drop (0+6)=vCs G:=by rw[qY,oV,oS oo,oW]
   rwa[e]at a
  exact uT (v:=.agg (vCs G).toArray) (λ_=>ldA (n:=6) (vs:=vCs G) underlying38 rfl kr a r oo) (h _ (aD l C oA))
def jV(A B:List Int):List Int:=(List.range 6).map λk=>if A.getD k 0<B.getD k 0 then B.getD k 0 else A.getD k 0
def th{B:List Int}:(jV A B).length=6:=by simp[jV]
def ZG{B:List Int}{k:Nat}(a:k<6):(jV A B).getD k 0=if A.getD k 0<B.getD k 0 then B.getD k 0 else A.getD k 0:=by unfold jV;rw[oN,qC,List.getElem?_range a];rfl
def zks{B:List Int}(f:B.length=6):jV A B=B↔leV A B=true:=by
 unfold leV;rw[jS];constructor
 .intro h k a;have a:k<6:=by simpa using a
  have:=ZG (A:=A) (B:=B) a
  rw[h]at this;rw[oP];split at this<;>omega
 .intro h;refine List.ext_getElem? λk=>?_;by_cases a:k<6
  .have d:=ZG (A:=A) (B:=B) a;have e:=h k (by simpa using a);rw[oP]at e;have b:(jV A B).getD k 0=(jV A B)[k]'(by rw[th];exact a):=by rw[oN,gE (by rw[th];exact a)];rfl
   have c:B.getD k 0=B[k]'oo:=by rw[oN,gE oo];rfl
   rw[gE (by rw[th];exact a),gE oo, <-b, <-c,d]
   congr 1
   split<;>omega
  .rw[jD (by rw[th];omega),jD oo]
def si{V:List Int}(a:V.length=6):(Value.agg (vCs V).toArray).cells.toList=vCs V:=by obtain⟨_,_,_,_,_,_,rfl⟩:=zad a;simp[Value.cells,vCs,u6]
def zq{V:List Int}(a:V.length=6)(h:∀S,blk S w.heap.size 38 (vCs V)->Below w.heap.size w S->S.heap.size=w.heap.size+1->K (pA w.heap.size 0) S):box Q 38 (.agg (vCs V).toArray) K w :=
 bu λS c b s=>h S (by rwa[si a]at c) b s
def Jj(h:∀S,blk S w.heap.size 38 (vCs [0,0,0,0,0,0])->Below w.heap.size w S->S.heap.size=w.heap.size+1->K (pA w.heap.size 0) S):alc Q 38 K w :=
 bO (z:=.agg #[u6 0,u6 0,u6 0,u6 0,u6 0,u6 0]) kr λS a b s=>h S (by simpa[Value.cells,vCs,u6]using a) b s
def tQ{V:List Int}(c:V.length=6)(a:blk w b 38 (vCs V))(h:K (.agg (vCs V).toArray) w):ld Q 38 (pA b 0) K w :=
 ldA (n:=6) (vs:=vCs V) underlying38 rfl kr a (dTk (by rw[bh];omega)) (by rw[bh];omega) h
def Fw{V W:List Int}(d:V.length=6)(hW:W.length=6)(c:blk w b 38 (vCs V))(h:∀S,blk S b 38 (vCs W)->Oth b w S->K undef S):sto Q 38 (pA b 0) (.agg (vCs W).toArray) K w:=by
 have f:=bh (V:=V);refine eW (n:=6) kr (by rw[bh,hW]) c oo Rg λS a o=>h S ?_ o;have e:(vCs V).take 0++vCs W++(vCs V).drop (0+6)=vCs W:=by rw[qY,oV,oS oo,oW]
 rwa[e]at a
def zhe{y:Int}(h:K (u6 (if x<y then y else x)) w):call Q 128 #[u6 x,u6 y] K w :=
 aj (goK func128) (TW (QX h))
def zh3{a:Nat}{B:List Int}{k:Nat}(g:A.length=6)(i:B.length=6)(f:k<6)(m:blk w c E [.func (.func 128) #[] #[]])(j:blk w a 38 (vCs A))(l:blk w b 38 (vCs B))(h:K (u6 ((jV A B).getD k 0)) w.drew):call Q 139 #[iv (k:Nat),pA c 0,pA a 0,pA b 0] K w:=by
 refine aj (goK func139) (U8 ?_)
 refine aw (λx=>blk x c E [.func (.func 128) #[] #[]]/\blk x a 38 (vCs A)/\blk x b 38 (vCs B)) ⟨m.drew,j.drew,l.drew⟩ <|ac (v:=.func (.func 128) #[] #[]) (λx e _=>lK e.1 rfl) <|ac (λx e _=>ixV rfl f) <|ac (v:=u6 (A.getD k 0)) (λx e _=>lK e.2.1 (by rw[oK];exact Cs g f)) <|ac (λx e _=>ixV rfl f) <|ac (v:=u6 (B.getD k 0)) (λx e _=>lK e.2.2 (by rw[oK];exact Cs i f)) ?_
 refine bS rfl (zhe (hRT ?_));rwa[ZG f]at h
end
section
attribute [local irreducible] bin un conv call bA blt slc ao fld aW idx lkp fk mW eSt rng nxt ent ext alc box bld bM ld sto aU fl mkS ifc pick rdy wts aM sti cond aY Gives ai iy ke cOp
def nU(A:List Int)(x:Int)(a:Bool)(E:Int)(q:Nat):List Int×Int :=
 if nI A=false\/x<1\/MXA<x then (z54,1)else if a=false then (z54,10)else if E≠0 then (z54,E)else EE A q x
def Ep{q:Nat}{E:Int}(a:A.length=54)(z:q<54)(j:nI A=true->1<=x->x<=MXA->cx=true->∀w1,Below w.heap.size w w1->∀K':KV,(∀S,Below w1.heap.size w1 S->K' (ci E) S)->bA Q Z #[] K' w1)(k:cx=true->∀w1 b,Below w.heap.size w w1->∀K':KV,K' (pA b q) w1.drew->bA Q U #[pA b 0] K' w1)(h:nX w (K (.tuple #[.agg ((nU A x cx E q).1.map iv).toArray,ci (nU A x cx E q).2]))):call Q 328 #[.agg (A.map iv).toArray,ci x,.bool cx,Z,U] K w:=by
 refine aj (goK func328) (TN ?_);refine RV3.make a λw1 B O=>?_;have g:((A.map iv).drop 0).take 54=A.map iv:=dTk (by simp[a]);refine ldA (n:=54) (vs:=A.map iv) underlying81 rfl kr B.r g (by simp[a]) ?_;refine zdZ a λS D=>bc (Qj ?_);have f:=B.fresh D;unfold nU at h;have G:MXA=1125899906842624:=rfl;rw[zdx];cases s:nI A with
 | false =>
  rw[oJ (.inl s)]at h;exact aV (zh (aV (f.no h)))
 | true =>
  have I:=Tg s;refine aA (aL ?_);by_cases l:x<1
  .rw[oJ (.inr (.inl l))]at h;exact ay l (zh (ay l (f.no h)))
  refine ax l (cH (zh ?_));by_cases y:1125899906842624<x
  .rw[oJ (.inr (.inr y))]at h;exact ay y (f.no h)
  refine ax y (bc ?_);rw[oI (by rw[s];simp;omega)]at h;cases cx with
  | false =>
   rw[oJ rfl]at h;exact aV (f.no h)
  | true =>
   rw[oI oB]at h;refine aA (Qk (j s oo oo rfl S f.bel _ λJ F=>aZ ?_));have d:=f.fresh F;by_cases p:E≠0
   .rw[oJ p]at h;exact ay p (d.no h)
   refine ax p (k rfl J _ d.bel _ ?_);rw[oI p]at h;have d:=d.drew;have H:=I q z;unfold EE at h;rw[G]at H h;refine aq (lK (v:=iv (nA A q)) d.r (Hx oo) (aR oo oo (aq (cq kf d.r (by simp[a];exact z) rfl λL m C=>?_))));have e:(A.map iv).set q (ci (nA A q+x))=(A.set q (nA A q+x)).map iv:=by rw[List.map_set];rfl
   rw[e]at m;have u:RV3 w L (A.set q (nA A q+x)):=⟨m,C.blk d.t oo,fR d.bel C oA⟩
   have M:(A.set q (nA A q+x)).length=54:=by simp[a]
   refine aq (lK (v:=iv (nA A q+x)) m (by
    rw[Hx oo];simp[nA,List.getD,a,z]) (cH ?_))
   by_cases c:1125899906842624<nA A q+x
   .rw[oJ c]at h;exact ay c (u.no h)
   rw[oI c]at h;refine ax c ?_;have i:(((A.set q (nA A q+x)).map iv).drop 0).take 54=(A.set q (nA A q+x)).map iv:=dTk (by simp[a]);exact ldA (n:=54) (vs:=(A.set q (nA A q+x)).map iv) underlying81 rfl kr m i (by simp[a]) (zdU (N:=54) underlying81 rfl kr u.t rfl (by simp[a]) (zck _) λw' o=>h w' (fR u.bel o oo))
def WT{b:Bool}{E:Int}(h:K (ci (if b=true then E else 0)) w):call Q 330 #[.bool b,ci E] K w:=by
 refine aj (goK func330) (WZ ?_);cases b with
 | true=>exact aV h
 | false=>exact aA h
def ZK{k:Nat}(a:k<6)(b:nI A=true):Ik A k=jx A k:=by rw[Zy A a,b]
def zbF{i:Int}:xg A i x=nU A x (bB i) (if jx A (i-1).toNat<x then 11 else 0) (6+(i-1).toNat):=by
 unfold xg nU Jd;generalize (i-1).toNat=k;by_cases a:nI A=false\/x<1\/MXA<x
 .simp only[oJ a];simp
 .simp only[oI a];cases bB i with
  | false=>simp
  | true =>
   by_cases b:jx A k<x
   .simp[b]
   .simp[b]
def zba{i:Int}:wT A i x=nU A x (bB i) (if nA A (6+(i-1).toNat)-nA A (12+(i-1).toNat)<x then 12 else 0) (12+(i-1).toNat):=by
 unfold wT nU Jd;obtain⟨k,d⟩:∃k:Nat,k=(i-1).toNat:=⟨_,rfl⟩
 rw[<-d];by_cases a:nI A=false\/x<1\/MXA<x
 .simp only[oJ a];simp
 .simp only[oI a];cases g:bB i with
  | false=>simp
  | true =>
   by_cases b:nA A (6+k)-nA A (12+k)<x
   .simp[b]
   .have e:nI A=true:=by cases f:nI A with|true=>rfl|false=>exact qI (.inl f) a
    have h:1<=i/\i<=6:=by simpa[bB]using g
    have:=Tg e (6+k) oo
    have c : ¬MXA<nA A (12+k)+x:=by omega
    unfold EE;rw[oI c];simp[b]
def zbq{i j:Int}:yg A i j x=nU A x (bB i&&bB j) (if i=j then 1 else if jx A (i-1).toNat<x then 11 else 0) (18+6*(i-1).toNat+(j-1).toNat):=by
 unfold yg nU Jd;generalize (i-1).toNat=k;generalize (j-1).toNat=m;by_cases b:nI A=false\/x<1\/MXA<x
 .simp only[oJ b];simp
 .simp only[oI b];cases bB i with
  | false=>simp
  | true =>
   cases bB j with
   | false=>simp
   | true =>
    by_cases a:i=j
    .simp[a]
    .by_cases c:jx A k<x
     .simp[c,a]
     .simp[c,a]
def M8(A:List Int)(x:Int)(b:Bool)(E:Int)(q:Nat)(a:A.length=54):(nU A x b E q).1.length=54:=by
 unfold nU EE;split
 .rfl
 split
 .rfl
 split
 .rfl
 split
 .rfl
 .simp[a]
def Vw(h:∀S,blk S w.heap.size 81 (A.map iv)->Below w.heap.size w S->S.heap.size=w.heap.size+1->K (pA w.heap.size 0) S):box Q 81 (.agg (A.map iv).toArray) K w :=
 bu λS a b s=>h S (by simpa[Value.cells]using a) b s
def PK(h:∀S,blk S w.heap.size t [iv x]->Below w.heap.size w S->S.heap.size=w.heap.size+1->K (pA w.heap.size 0) S):box Q t (iv x) K w :=
 bu λS a b s=>h S (by simpa[Value.cells,iv]using a) b s
def De(h:∀S,blk S w.heap.size 81 (z54.map iv)->Below w.heap.size w S->S.heap.size=w.heap.size+1->K (pA w.heap.size 0) S):alc Q 81 K w :=
 bO (z:=.agg (z54.map iv).toArray) kr λS a b s=>h S (by simpa[Value.cells]using a) b s
def uU(a:A.length=54)(c:blk w b 81 (A.map iv))(h:K (.agg (A.map iv).toArray) w):ld Q 81 (pA b 0) K w :=
 ldA (n:=54) (vs:=A.map iv) underlying81 rfl kr c (dTk (by simp[a])) (by simp[a]) h
structure R3(w0 w:oG) (A:List Int) (i x:Int):Prop where
 r:blk w w0.heap.size 81 (A.map iv)
 i:blk w (w0.heap.size+1) 3 [iv i]
 x:blk w (w0.heap.size+2) 2 [iv x]
 t:blk w (w0.heap.size+3) 81 (z54.map iv)
 bel:Below w0.heap.size w0 w
def R3.fresh{i:Int}(g:R3 O w A i x)(a:Below w.heap.size w S):R3 O S A i x :=
 ⟨ae a g.r g.r.lt,ae a g.i g.i.lt,ae a g.x g.x.lt,ae a g.t g.t.lt,g.bel.trans (a.mono g.bel.size)⟩
def R3.drew{i:Int}(g:R3 S w A i x):R3 S w.drew A i x:=g.fresh (jU _ w).drew
def zi0{i:Int}(f:A.length=54)(k:nI A=true)(j:bB i=true)(g:R3 S w A i x)(h:nX w (K (ci (if jx A (i-1).toNat<x then 11 else 0)))):call Q 329 #[pA (S.heap.size+2) 0,pA S.heap.size 0,pA (S.heap.size+1) 0] K w:=by
 have m:1<=i/\i<=6:=by simpa[bB]using j
 refine aj (goK func329) (TI ?_);have e:=g.drew;refine aw (λy=>R3 S y A i x) e <|ac (λy b _=>lK (v:=iv x) b.x rfl) <|ac (λy b _=>uU f b.r) <|ac (λy b _=>lK (v:=iv i) b.i rfl) ?_;refine Jf f λl d=>?_;refine aB (e.fresh d) ?_;rw[j,oJ rfl,ZK oo k];refine ac (λy b _=>cH) ?_;refine WT (hRT ?_)
 have:=h l ((jU _ w).drew.trans (d.mono oA))
 by_cases c:jx A (i-1).toNat<x
 .rw[oJ c]at this;rw[oJ (by simpa using c)];exact this
 .rw[oI c]at this;rw[oI (by simpa using c)];exact this
def zh4{i:Int}(p:A.length=54)(n:nI A=true)(o:bB i=true)(g:R3 S w A i x)(h:nX w (K (ci (if nA A (6+(i-1).toNat)-nA A (12+(i-1).toNat)<x then 12 else 0)))):call Q 332 #[pA (S.heap.size+2) 0,pA S.heap.size 0,pA (S.heap.size+1) 0] K w:=by
 have q:1<=i/\i<=6:=by simpa[bB]using o
 refine aj (goK func332) (TA ?_);have j:=g.drew;have d:=Tg n;obtain⟨k,m⟩:∃k:Nat,k=(i-1).toNat:=⟨_,rfl⟩
 rw[<-m]at h;have e:=d (6+k) oo;have f:=d (12+k) oo;have l:MXA=1125899906842624:=rfl;rw[l]at e f
 refine aw (λy=>R3 S y A i x) j <|ac (λy b _=>lK (v:=iv x) b.x rfl) <|ac (λy b _=>lK (v:=iv i) b.i rfl) <|ac (v:=iv (k:Nat)) (λy b K a=>nL (by rw[fM oo oo,show (i-1)=(k:Nat)by omega];exact a)) <|hW Zh <|ac (λy b _=>ixR rfl oo) <|ac (v:=iv (nA A (6+k))) (λy b _=>lK b.r (by rw[oK];exact Hx oo)) <|ac (λy b _=>lK (v:=iv i) b.i rfl) <|ac (v:=iv (k:Nat)) (λy b K a=>nL (by rw[fM oo oo,show (i-1)=(k:Nat)by omega];exact a)) <|hW Zi <|ac (λy b _=>ixR rfl oo) <|ac (v:=iv (nA A (12+k))) (λy b _=>lK b.r (by rw[oK];exact Hx oo)) <|ac (v:=iv (nA A (6+k)-nA A (12+k))) (λy b K a=>nL (by rw[fM oo oo];exact a)) <|ac (λy b _=>cH) ?_
 refine WT (hRT ?_)
 have:=h _ (jU _ w).drew
 by_cases c:nA A (6+k)-nA A (12+k)<x
 .rw[oJ c]at this;rw[oJ (by simpa using c)];exact this
 .rw[oI c]at this;rw[oI (by simpa using c)];exact this
def zi1{p:Nat}{i:Int}(e:bB i=true)(d:blk w p 3 [iv i])(h:K (pA b (6+(i-1).toNat)) w.drew):call Q 331 #[pA b 0,pA p 0] K w:=by
 have f:1<=i/\i<=6:=by simpa[bB]using e
 obtain⟨k,c⟩:∃k:Nat,k=(i-1).toNat:=⟨_,rfl⟩
 rw[<-c]at h;refine aj (goK func331) (TJ ?_);refine ah (λ_=>lK (v:=iv i) d.drew rfl) <|ah (v:=iv (k:Nat)) (λK a=>nL (by rw[fM oo oo,show (i-1)=(k:Nat)by omega];exact a)) ?_;refine ah (λ_=>aq) (ah (λ_=>Zh) (ah (λK a=>ixR rfl oo (by rw[oK];exact a)) h))
def zh5{p:Nat}{i:Int}(e:bB i=true)(d:blk w p 3 [iv i])(h:K (pA b (12+(i-1).toNat)) w.drew):call Q 333 #[pA b 0,pA p 0] K w:=by
 have f:1<=i/\i<=6:=by simpa[bB]using e
 obtain⟨k,c⟩:∃k:Nat,k=(i-1).toNat:=⟨_,rfl⟩
 rw[<-c]at h;refine aj (goK func333) (TC ?_);refine ah (λ_=>lK (v:=iv i) d.drew rfl) <|ah (v:=iv (k:Nat)) (λK a=>nL (by rw[fM oo oo,show (i-1)=(k:Nat)by omega];exact a)) ?_;refine ah (λ_=>aq) (ah (λ_=>Zi) (ah (λK a=>ixR rfl oo (by rw[oK];exact a)) h))
end
section
def ze{P:Program}{b:Addr}{v u:oF}(f:∀K':KV,K' v w->ld P t (.pointer (some b)) K' w)(h:K (.tuple #[v,u]) w):aY P [(some t,.pointer (some b)),(none,u)] K w:=by
 have e:(loadVar t b).run P w=.ok v w:=by
  have:=f (λc d => c=v/\d=w) ⟨rfl,rfl⟩
  unfold ld okV at this;unfold Instr.loadAt at this;simp only[Instr.sureAddr,jY,jX,jW]at this;split at this
  .rename_i c d a;rw[a,this.1,this.2]
  .exact this.elim
 unfold aY
 have:(pR [(some t,.pointer (some b)),(none,u)]).run P w=.ok (.tuple #[v,u]) w:=by simp[pR,asAddr,jY,e]
 rw[this];exact⟨rfl,h⟩
attribute [local irreducible] bin un conv call bA blt slc ao fld aW idx lkp fk mW eSt rng nxt ent ext alc box bld bM ld sto aU fl mkS ifc pick rdy wts aM sti cond aY Gives ai iy ke cOp
def Bb{B:List Int}(c:A.length=54)(d:B.length=54)(f:blk w b 81 (A.map iv))(h:∀S,blk S b 81 (B.map iv)->Oth b w S->K undef S):sto Q 81 (pA b 0) (.agg (B.map iv).toArray) K w:=by
 refine eW (n:=54) kr (by simp[d]) f (by simp[c]) (zck _) λS a o=>h S ?_ o;have e:(A.map iv).take 0++B.map iv++(A.map iv).drop (0+54)=B.map iv:=by rw[qY,oV,oS (by simp[c]),oW]
 rwa[e]at a
def R3.make{i:Int}{K4:oF->oF->oF->oF->oG->Prop}(h:∀S,R3 w S A i x->S.heap.size=w.heap.size+4->K4 (pA w.heap.size 0) (pA (w.heap.size+1) 0) (pA (w.heap.size+2) 0) (pA (w.heap.size+3) 0) S):box Q 81 (.agg (A.map iv).toArray) (λr=>box Q 3 (iv i) λj=>box Q 2 (iv x) λy=>alc Q 81 λt w=>K4 r j y t w) w:=by
 refine Vw λB f n m=>PK λp g c u=>PK λq k b v=>De λs l a z=>?_;have d:p.heap.size=w.heap.size+2:=by omega
 have e:q.heap.size=w.heap.size+3:=by omega
 have o:=h s ⟨ae a (ae b (ae c f f.lt) oo) oo,by rw[m]at g;exact ae a (ae b g oo) oo,by rw[d]at k;exact ae a k oo,by rw[e]at l;exact l,(((n.trans (c.mono oo)).trans (b.mono oo)).trans (a.mono oo))⟩ oo;rw[m,d,e];exact o
def R3.fin{B:List Int}{i e:Int}(c:B.length=54)(g:R3 O w A i x)(h:nX O (K (.tuple #[.agg (B.map iv).toArray,ci e]))):aF (λS w=>hld S (ext Q (.tuple #[.agg (B.map iv).toArray,ci e]) 0) λa=>hld S (ext Q (.tuple #[.agg (B.map iv).toArray,ci e]) 1) λb=>sto Q 81 (pA (O.heap.size+3) 0) a (λ_=>aF λ_=>aY Q [(some 81,pA (O.heap.size+3) 0),(none,b)] K) w) w:=by refine hRT ?_;refine hE2 (?_);exact Bb rfl c g.t λk d j=>hRT (ze (λ_=>uU c d) (h _ (fR g.bel j oo)))
def zhF{i:Int}(g:A.length=54)(h:nX w (K (.tuple #[.agg ((xg A i x).1.map iv).toArray,ci (xg A i x).2]))):call Q 316 #[.agg (A.map iv).toArray,iv i,iv x] K w:=by
 refine aj (goK func316) (WY (R3.make λt a s=>?_));have a:=a.drew;refine aw (λy=>R3 w y A i x) a <|ac (λy k _=>uU g k.r) <|ac (λy k _=>lK (v:=iv x) k.x rfl) <|ac (λy k _=>lK (v:=iv i) k.i rfl) ?_;refine Ja (aB a ?_);rw[zbF]at h;have l:=M8 A x (bB i) (if jx A (i-1).toNat<x then 11 else 0) (6+(i-1).toNat) g;by_cases f:bB i=true
 .have p:1<=i/\i<=6:=by simpa[bB]using f
  refine Ep (q:=6+(i-1).toNat) (E:=if jx A (i-1).toNat<x then 11 else 0) g oo (λo _ _ _ n c b d => bS rfl (zi0 g o f (a.fresh c) d))
   (λ_ n b c e d => bS rfl (zi1 f (a.fresh c).i d)) λn c=>(a.fresh c).fin l h
 .have f:bB i=false:=by simpa using f
  rw[f]at l h |-;have e:nU A x false (if jx A (i-1).toNat<x then 11 else 0) (6+(i-1).toNat)=nU A x false 0 0:=rfl;rw[e]at h l;exact Ep (q:=0) (E:=0) g oo (λ_ _ _ m=>by cases m) (λm=>by cases m) λn c=>(a.fresh c).fin l h
def zhz{i:Int}(g:A.length=54)(h:nX w (K (.tuple #[.agg ((wT A i x).1.map iv).toArray,ci (wT A i x).2]))):call Q 319 #[.agg (A.map iv).toArray,iv i,iv x] K w:=by
 refine aj (goK func319) (WV (R3.make λt a s=>?_));have a:=a.drew;refine aw (λy=>R3 w y A i x) a <|ac (λy k _=>uU g k.r) <|ac (λy k _=>lK (v:=iv x) k.x rfl) <|ac (λy k _=>lK (v:=iv i) k.i rfl) ?_;refine Ja (aB a ?_);rw[zba]at h;have l:=M8 A x (bB i) (if nA A (6+(i-1).toNat)-nA A (12+(i-1).toNat)<x then 12 else 0) (12+(i-1).toNat) g;by_cases f:bB i=true
 .have p:1<=i/\i<=6:=by simpa[bB]using f
  refine Ep (q:=12+(i-1).toNat) (E:=if nA A (6+(i-1).toNat)-nA A (12+(i-1).toNat)<x then 12 else 0) g oo (λo _ _ _ n c b d => bS rfl (zh4 g o f (a.fresh c) d))
   (λ_ n b c e d => bS rfl (zh5 f (a.fresh c).i d)) λn c=>(a.fresh c).fin l h
 .have f:bB i=false:=by simpa using f
  rw[f]at l h |-;have e:nU A x false (if nA A (6+(i-1).toNat)-nA A (12+(i-1).toNat)<x then 12 else 0) (12+(i-1).toNat)=nU A x false 0 0:=rfl;rw[e]at h l;exact Ep (q:=0) (E:=0) g oo (λ_ _ _ m=>by cases m) (λm=>by cases m) λn c=>(a.fresh c).fin l h
end
section
attribute [local irreducible] bin un conv call bA blt slc ao fld aW idx lkp fk mW eSt rng nxt ent ext alc box bld bM ld sto aU fl mkS ifc pick rdy wts aM sti cond aY Gives ai iy ke cOp
structure R4(w0 w:oG) (A:List Int) (i j x:Int):Prop where
 r:blk w w0.heap.size 81 (A.map iv)
 i:blk w (w0.heap.size+1) 3 [iv i]
 j:blk w (w0.heap.size+2) 3 [iv j]
 x:blk w (w0.heap.size+3) 2 [iv x]
 t:blk w (w0.heap.size+4) 81 (z54.map iv)
 bel:Below w0.heap.size w0 w
def R4.fresh{i j:Int}(g:R4 O w A i j x)(a:Below w.heap.size w S):R4 O S A i j x :=
 ⟨ae a g.r g.r.lt,ae a g.i g.i.lt,ae a g.j g.j.lt,ae a g.x g.x.lt,ae a g.t g.t.lt,g.bel.trans (a.mono g.bel.size)⟩
def R4.drew{i j:Int}(g:R4 S w A i j x):R4 S w.drew A i j x:=g.fresh (jU _ w).drew
def R4.make{i j:Int}{K5:oF->oF->oF->oF->oF->oG->Prop}(h:∀S,R4 w S A i j x->S.heap.size=w.heap.size+5->K5 (pA w.heap.size 0) (pA (w.heap.size+1) 0) (pA (w.heap.size+2) 0) (pA (w.heap.size+3) 0) (pA (w.heap.size+4) 0) S):box Q 81 (.agg (A.map iv).toArray) (λr=>box Q 3 (iv i) λp=>box Q 3 (iv j) λq=>box Q 2 (iv x) λy=>alc Q 81 λt w=>K5 r p q y t w) w:=by
 refine Vw λI k u s=>PK λz l d E=>PK λB m c F=>PK λC n b G=>De λD o a H=>?_;have e:z.heap.size=w.heap.size+2:=by omega
 have f:B.heap.size=w.heap.size+3:=by omega
 have g:C.heap.size=w.heap.size+4:=by omega
 have v:=h D ⟨ae a (ae b (ae c (ae d k k.lt) oo) oo) oo,by rw[s]at l;exact ae a (ae b (ae c l oo) oo) oo,by rw[e]at m;exact ae a (ae b m oo) oo,by rw[f]at n;exact ae a n oo,by rw[g]at o;exact o,((((u.trans (d.mono oo)).trans (c.mono oo)).trans (b.mono oo)).trans (a.mono oo))⟩ oo
 rw[s,e,f,g];exact v
def R4.fin{B:List Int}{i j e:Int}(c:B.length=54)(g:R4 O w A i j x)(h:nX O (K (.tuple #[.agg (B.map iv).toArray,ci e]))):aF (λS w=>hld S (ext Q (.tuple #[.agg (B.map iv).toArray,ci e]) 0) λa=>hld S (ext Q (.tuple #[.agg (B.map iv).toArray,ci e]) 1) λb=>sto Q 81 (pA (O.heap.size+4) 0) a (λ_=>aF λ_=>aY Q [(some 81,pA (O.heap.size+4) 0),(none,b)] K) w) w:=by refine hRT ?_;refine hE2 (?_);exact Bb rfl c g.t λl d k=>hRT (ze (λ_=>uU c d) (h _ (fR g.bel k oo)))
def zhq{i j:Int}(k:A.length=54)(m:nI A=true)(l:bB i=true)(g:R4 S w A i j x)(h:nX w (K (ci (if i=j then 1 else if jx A (i-1).toNat<x then 11 else 0)))):call Q 334 #[pA (S.heap.size+1) 0,pA (S.heap.size+2) 0,pA (S.heap.size+3) 0,pA S.heap.size 0] K w:=by
 have o:1<=i/\i<=6:=by simpa[bB]using l
 refine aj (goK func334) (TE (lK (v:=iv i) g.i rfl (lK (v:=iv j) g.j rfl (aT ?_))));by_cases a:i=j
 .have:=h _ (jU _ w)
  rw[oJ a]at this;exact ay a this
 refine ax a ?_;have f:=g.drew;refine aw (λy=>R4 S y A i j x) f <|ac (λy c _=>lK (v:=iv x) c.x rfl) <|ac (λy c _=>uU k c.r) <|ac (λy c _=>lK (v:=iv i) c.i rfl) ?_;refine Jf k λn e=>?_;refine aB (f.fresh e) ?_;rw[l,oJ rfl,ZK oo m];refine ac (λy c _=>cH) ?_;refine WT (hRT ?_)
 have:=h n ((jU _ w).drew.trans (e.mono oA))
 rw[oI a]at this;by_cases d:jx A (i-1).toNat<x
 .rw[oJ d]at this;rw[oJ (by simpa using d)];exact this
 .rw[oI d]at this;rw[oI (by simpa using d)];exact this
def zhr{p:Nat}{i j:Int}(l:bB i=true)(n:bB j=true)(g:blk w p 3 [iv i])(d:blk w c 3 [iv j])(h:K (pA b (18+6*(i-1).toNat+(j-1).toNat)) w.drew):call Q 335 #[pA b 0,pA p 0,pA c 0] K w:=by
 have o:1<=i/\i<=6:=by simpa[bB]using l
 have q:1<=j/\j<=6:=by simpa[bB]using n
 obtain⟨k,e⟩:∃k:Nat,k=(i-1).toNat:=⟨_,rfl⟩
 obtain⟨m,f⟩:∃m:Nat,m=(j-1).toNat:=⟨_,rfl⟩
 rw[<-e, <-f]at h;refine aj (goK func335) (TH ?_);refine ah (λ_=>lK (v:=iv i) g.drew rfl) <|ah (v:=iv (k:Nat)) (λK a=>nL (by rw[fM oo oo,show (i-1)=(k:Nat)by omega];exact a)) <|ah (λ_=>lK (v:=iv j) d.drew rfl) <|ah (v:=iv (m:Nat)) (λK a=>nL (by rw[fM oo oo,show (j-1)=(m:Nat)by omega];exact a)) ?_
 exact ah (λ_=>aq) (ah (λ_=>zeN) (ah (λ_=>zkY rfl oo) (ah (λK a=>ixR rfl oo (by rw[show 0+18+6*k+m=18+6*k+m by omega];exact a)) h)))
def zhC{i j:Int}(k:A.length=54)(h:nX w (K (.tuple #[.agg ((yg A i j x).1.map iv).toArray,ci (yg A i j x).2]))):call Q 321 #[.agg (A.map iv).toArray,iv i,iv j,iv x] K w:=by
 refine aj (goK func321) (WX (R4.make λD a C=>?_));have a:=a.drew;refine aw (λy=>R4 w y A i j x) a <|ac (λy f _=>uU k f.r) <|ac (λy f _=>lK (v:=iv x) f.x rfl) <|ac (λy f _=>lK (v:=iv i) f.i rfl) ?_;refine Ja (aB a ?_);rw[zbq]at h;generalize t:(if i=j then (1:Int)else if jx A (i-1).toNat<x then 11 else 0)=E at h
 have l:=M8 A x (bB i&&bB j) E (18+6*(i-1).toNat+(j-1).toNat) k;have p:(bB i&&bB j)=false->nU A x (bB i&&bB j) E (18+6*(i-1).toNat+(j-1).toNat)=nU A x false 0 0:=λe=>by rw[e];rfl
 have s:asB (.bool false)≠some true:=by simp[asB]
 cases m:bB i with
 | false =>
  rw[p (by rw[m];rfl)]at h l;refine xN s (xGn s (aB a (ac (λy f _=>bZ) ?_)));exact Ep (q:=0) (E:=0) k oo (λ_ _ _ e=>by cases e) (λe=>by cases e) λo d=>(a.fresh d).fin l h
 | true =>
  refine jh rfl (λy f _=>lK (v:=iv j) f.j rfl) ?_;refine Xp rfl (Ja (aB a (ac (λy f _=>cA) ?_)));cases n:bB j with
  | false =>
   rw[p (by rw[m,n];rfl)]at h l;exact Ep (q:=0) (E:=0) k oo (λ_ _ _ e=>by cases e) (λe=>by cases e) λo d=>(a.fresh d).fin l h
  | true =>
   have z:1<=i/\i<=6:=by simpa[bB]using m
   have B:1<=j/\j<=6:=by simpa[bB]using n
   rw[m,n]at h l;refine Ep (q:=18+6*(i-1).toNat+(j-1).toNat) (E:=E) k oo (λu _ _ _ o d b g => bS rfl (zhq k u m (a.fresh d) (by rw[t];exact g)))
    (λ_ o b d c g => bS rfl (zhr m n (a.fresh d).i (a.fresh d).j g)) λo d=>(a.fresh d).fin l h
end
section
def G(xs:List Int)(i:Nat):Int:=xs.getD i 0
def swp(xs:List Int)(i j:Nat):List Int:=(xs.set i (G xs j)).set j (G xs i)
def zfR{xs:List Int}(hi:i<xs.length)(a:j<xs.length):(swp xs i j).Perm xs:=by
 unfold swp;have b:G xs j=xs[j]:=by simp[G,List.getD,a]
 have c:G xs i=xs[i]:=by simp[G,List.getD,hi]
 rw[b,c];exact List.set_set_perm hi a
abbrev E64:TypeId:=36
abbrev uv(x:Int):oF:=.int .u64 x
def zdl{P:Program}{v x i:oF}(h:(Instr.index t x i).run P w=.ok v w')(a:K v w'):idx P t x i K w:=dR h a
def zja{n:Nat}{cs:Array Bool}(h:K (ci (n:Int)) w):blt Q .len #[187] E cs #[.slice a n c] K w:=bv underlying187 h
def SD(w:oG)(g n c:Nat)(xs:List Int):Prop:=∃a,blk w g E64 (xs.map uv++a)/\xs.length=n/\n<=c/\n<=4611686018427387904
attribute [local irreducible] bin un conv call bA blt slc ao fld aW idx lkp fk mW eSt rng nxt ent ext alc box bld bM ld sto aU fl mkS ifc pick rdy wts aM sti cond aY Gives ai iy ke cOp
section
variable {n:Nat}{xs:List Int}
def SD.drew(h:SD w g n c xs):SD w.drew g n c xs:=h
def SD.len(h:SD w g n c xs):xs.length=n:=by obtain⟨_,_,a,_⟩:=h;exact a
def zae:∀w,(sizeOf 36).run Q w=.ok 1 w:=λ_=>by kernel_rfl
def im{k:IntKind}(hi:i<m)(h:K (pA g (0+i*1)) w):aW Q 187 (.slice (some ⟨g,0,none⟩) m c) (.int k (i:Nat)) K w:=by refine fQ (s:=1) underlying187 zae oo oo ?_;rw[oQ];exact h
def ldS(d:SD w g n c xs)(hi:i<n)(h:K (uv (G xs i)) w):ld Q 36 (pA g (0+i*1)) K w:=by obtain⟨a,b,e,_⟩:=d;refine lK b ?_ h;rw[oK,Nat.mul_one,qO (by simp;omega),qC,gE oo];simp[G,List.getD,show i<xs.length by omega]
def Lj(f:SD w g n c xs)(hi:i<n)(h:∀S,SD S g n c (xs.set i v)->Oth g w S->K undef S):sto Q 36 (pA g (0+i*1)) (uv v) K w:=by obtain⟨b,d,j,e,k⟩:=f;refine cq zae d (by simp;omega) rfl ?_;intro S a l;refine h S ⟨b,?_,by simp[j],e,k⟩ l;rw[oK,Nat.mul_one,List.set_append_left _ _ (by simp;omega), <-List.map_set]at a;exact a
def xr{y:Int}(h:K (.bool (decide (x<y))) w):call Q 135 #[uv x,uv y] K w:=by
 refine aj (goK func135) (OZ ?_);have a:∀{z:Int} {K':KV},K' (.bool false) w->call Q 94 #[uv z] K' w:=by
  intro z K' b;refine aj (goK func94) (DI ?_);refine aZ ?_;rw[qE (λc=>c rfl)];exact b
 refine a ?_
 (repeat (first|refine aL ?_|refine bZ ?_|refine kj ?_|refine fF ?_))
 exact h
def cj{a b d:oG}(h:Oth g a b)(k:Oth g b d):Oth g a d:=⟨k.os.trans h.os,k.tape.trans h.tape,k.output.trans h.output,k.size.trans h.size,λi c=>(k.other i c).trans (h.other i c)⟩
def bV(h:Oth g w S):Oth g w S.drew:=⟨h.os,h.tape,h.output,h.size,h.other⟩
def mh(w:oG)(g:Nat):Oth g w w:=⟨rfl,rfl,rfl,rfl,λ_ _=>rfl⟩
end
end
section
attribute [local irreducible] bin un conv call bA blt slc ao fld aW idx lkp fk mW eSt rng nxt ent ext alc box bld bM ld sto aU fl mkS ifc pick rdy wts aM sti cond aY Gives ai iy ke cOp
def zg0{xs:List Int}{k:Nat}(hi:i<xs.length):G (xs.set i v) k=if k=i then v else G xs k:=by
 unfold G;by_cases h:k=i
 .subst h;simp[List.getD,hi]
 .have : ¬i=k:=λe=>h e.symm
  simp[List.getD,h,this]
def Gq{xs:List Int}{k:Nat}(hi:i<xs.length)(a:j<xs.length):G (swp xs i j) k=if k=j then G xs i else if k=i then G xs j else G xs k:=by unfold swp;rw[zg0 (by simpa using a),zg0 hi]
def Srt(xs:List Int)(a b:Nat):Prop:=∀i,a<=i->i+1<b->G xs i<=G xs (i+1)
structure Rng(a b:Nat) (xs ys:List Int):Prop where
 perm:ys.Perm xs
 out:∀k,k<a\/b<=k->G ys k=G xs k
def Rng.refl(a b:Nat)(xs:List Int):Rng a b xs xs:=⟨List.Perm.refl _,λ_ _=>rfl⟩
def Rng.trans{a:Nat}{xs ys zs:List Int}(h:Rng a b xs ys)(k:Rng a b ys zs):Rng a b xs zs:=⟨k.perm.trans h.perm,λi c=>(k.out i c).trans (h.out i c)⟩
def Rng.len{a:Nat}{xs ys:List Int}(h:Rng a b xs ys):ys.length=xs.length:=h.perm.length_eq
def Rng.mono{a:Nat}{xs ys:List Int}(h:Rng a b xs ys)(e:c<=a)(f:b<=d):Rng c d xs ys:=⟨h.perm,λk g=>h.out k oo⟩
def Rng.swp{a:Nat}{xs:List Int}(hi:i<xs.length)(c:j<xs.length)(d:a<=i/\i<b)(e:a<=j/\j<b):Rng a b xs (swp xs i j) :=
 ⟨zfR hi c,λk f=>by rw[Gq hi c,oI oo,oI oo]⟩
def Rng.from{a:Nat}{xs ys:List Int}(h:Rng a b xs ys)(t:b<=xs.length)(r:xs.Nodup):∀k,a<=k->k<b->∃j,a<=j/\j<b/\G ys k=G xs j:=by
 intro k u p;have v:=h.len;have e:G ys k=ys[k]'oo:=by simp[G,List.getD,show k<ys.length by omega]
 have q:G ys k∈xs:=by rw[e];exact h.perm.subset (List.getElem_mem _)
 obtain⟨j,o,c⟩:=List.getElem_of_mem q;have i:G xs j=xs[j]:=by simp[G,List.getD,o]
 by_cases n:a<=j/\j<b
 .exact⟨j,n.1,n.2,by rw[i,c]⟩
 .have s:=h.out j oo;have f:G ys j=ys[j]'oo:=by simp[G,List.getD,show j<ys.length by omega]
  have g:ys.Nodup:=h.perm.nodup_iff.2 r;have l:ys[j]'oo=ys[k]'oo:=by rw[<-f, <-e,s,i,c]
  have m:=List.pairwise_iff_getElem.1 g;rcases Nat.lt_trichotomy j k with d|d|d
  .exact qI l (m j k _ _ d)
  .omega
  .exact qI l.symm (m k j _ _ d)
section
variable {n:Nat}{xs:List Int}
def zfa{a:Nat}(O:SD w g n c xs)(X:a<=b)(hb:b<=n)(h:∀w' ys,SD w' g n c ys->Oth g w w'->Rng a b xs ys->Srt ys a b->K (.tuple #[]) w'):call Q 129 #[.slice (some ⟨g,0,none⟩) n c,ci (a:Nat),ci (b:Nat)] K w:=by
 have R:n<=4611686018427387904:=by obtain⟨_,_,_,_,R⟩:=O;exact R
 refine aj (goK func129) (qs ?_)
 (repeat (first|refine aR oo oo ?_))
 refine py (Inv:=λi C=>∃(p:Nat) (ys:List Int),i=ci (p:Nat)/\a+1<=p/\(p<=b\/p=a+1)/\SD C g n c ys/\Oth g w C/\Rng a b xs ys/\Srt ys a p)
  (μ:=λi _=>b-(intOf i).toNat) ⟨a+1,xs,by simp,Nat.le_refl _,.inr rfl,O,mh _ _,Rng.refl _ _ _,λi l u=>by omega⟩ ?_
 rintro _ _ w1 m ⟨p,ys,rfl,Y,Z,v,T,U,V⟩ A;by_cases aa:p<b
 rotate_left
 ·(repeat (first|refine aL ?_|refine ax oo ?_))
  exact h w1 ys v T U (λi l u=>V i l oo)
 (repeat (first|refine aL ?_|refine ay oo ?_))
 refine xD (Inv:=λj C=>∃(q:Nat) (e:List Int),j=ci (q:Nat)/\a<=q/\q<=p/\SD C g n c e/\Oth g w C/\Rng a b xs e /\
   (∀i,a<=i->i+1<=p->i+1≠q->G e i<=G e (i+1))/\(a<q->q<p->G e (q-1)<=G e (q+1)))
  (μ:=λj _=>(intOf j).toNat) ⟨p,ys,rfl,by omega,Nat.le_refl _,v,T,U,λi l u W=>V i l oo,λ_ h=>by omega⟩ ?_
 rintro _ _ w2 m2 ⟨q,e,rfl,ab,ad,y,M,N,o,J⟩ H;have f:=y.drew;refine ah (λ_=>cH) ?_;by_cases I:a<q
 .have t:((q:Nat):Int)-1=((q-1:Nat):Int):=by omega
  have B:q<e.length:=by rw[y.len];omega
  refine bU oo <|ah (λ_=>im oo) <|ah (λ_=>ldS f oo) <|ah (λ_=>bL oo oo) ?_;rw[t];refine ah (λ_=>im oo) <|ah (λ_=>ldS f oo) <|ah (λ_=>xr) <|ah (λ_=>bI oo) ?_;by_cases z:G e q<G e (q-1)
  .refine ay z <|aw (λx=>SD x g n c e) f.drew <|ac (λx r _=>bL oo oo) <|ac (λx r _=>bL oo oo) ?_;rw[t];refine ac (λx r _=>im oo) <|ac (λx r _=>ldS r oo) <|ac (λx r _=>im oo) <|ac (λx r _=>ldS r oo) <|ac (λx r _=>im oo) <|Lj f.drew oo ?_;intro w3 E o3
   refine hRT <|ac (λx r _=>im oo) <|Lj E oo ?_;intro w4 F o4;refine bL oo oo ?_;have s:q-1<e.length:=by omega
   have D:=λk=>Gq (k:=k) B s;refine⟨⟨q-1,swp e q (q-1),by rw[t],by omega,by omega,F,cj (cj (bV (bV M)) o3) o4,N.trans (Rng.swp B s oo oo),λi l u W=>?_,λl u=>?_⟩,?_⟩
   .rw[D,D];by_cases L:i=q-1
    .subst L;rw[oJ rfl,oI oo,oJ oo];omega
    by_cases S:i=q
    .subst S;rw[oI L,oJ rfl,oI oo,oI oo];exact J I oo
    by_cases i3:i+1=q-1
    .omega
    rw[oI L,oI S,oI i3,oI oo];exact o i l u oo
   .rw[D,D];rw[oI oo,oI oo,oI oo,oJ oo]
    have:=o (q-1-1) oo oo oo
    rw[show q-1-1+1=q-1 by omega]at this;exact this
   .rw[H];show (intOf (ci ((q:Int)-1))).toNat<_;simp only[intOf];omega
  .refine ax z <|pC ?_
   (repeat (first|refine aR oo oo ?_))
   refine⟨⟨p+1,e,(show Value.int .i64 ((p:Int)+1)=_ by simp),by omega,.inl oo,f,bV M,N,λi l u=>?_⟩,by rw[A];show b-(intOf (ci ((p:Int)+1))).toNat<_;simp only[intOf];omega⟩;by_cases P:i+1=q
   .have:i=q-1:=by omega
    rw[P,this];omega
   .exact o i l oo P
 .refine cJ oo <|ah (λ_=>bw oo) <|aA <|pC ?_
  (repeat (first|refine aR oo oo ?_))
  exact⟨⟨p+1,e,(show Value.int .i64 ((p:Int)+1)=_ by simp),by omega,.inl oo,f,bV M,N,λi l u=>o i l oo oo⟩,by rw[A];show b-(intOf (ci ((p:Int)+1))).toNat<_;simp only[intOf];omega⟩
end
section
variable {n:Nat}{xs:List Int}
def zkF{a:Nat}(t:SD w g n c xs)(G:b<=n)(h:∀S ys,SD S g n c ys->Oth g w S->Rng a b xs ys->K (.tuple #[]) S):call Q 133 #[.slice (some ⟨g,0,none⟩) n c,ci (a:Nat),ci (b:Nat)] K w:=by
 have u:n<=4611686018427387904:=by obtain⟨_,_,_,_,u⟩:=t;exact u
 refine aj (goK func133) (zo ?_);refine bL oo oo ?_;refine xR (Inv:=λi j z=>∃(p:Nat) (q:Int) (ys:List Int),i=ci (p:Nat)/\j=ci q/\a<=p/\(p:Int)<=q+2+a/\-1<=q/\q<b/\SD z g n c ys/\Oth g w z/\Rng a b xs ys)
  (μ:=λi j _=>(intOf j+1).toNat) ⟨a,(b:Int)-1,xs,rfl,rfl,Nat.le_refl _,by omega,by omega,by omega,t,mh _ _,Rng.refl _ _ _⟩ ?_
 rintro _ _ _ F m ⟨p,q,ys,rfl,rfl,I,A,B,C,e,v,y⟩ s;refine aL ?_;by_cases l:(p:Int)<q
 rotate_left
 .exact ax l (h F ys e v y)
 refine ay l ?_;obtain⟨k,rfl⟩:=Int.eq_ofNat_of_zero_le (show 0<=q by omega);have H:=e.len;refine aw (λx=>SD x g n c ys) e.drew <|ac (λx f _=>im oo) <|ac (λx f _=>ldS f oo) <|ac (λx f _=>im oo) <|ac (λx f _=>ldS f oo) <|ac (λx f _=>im oo) <|Lj e.drew oo ?_;intro J o D
 refine hRT <|ac (λx f _=>im oo) <|Lj o oo ?_;intro L r E;refine aR oo oo <|bL oo oo ?_;refine⟨⟨p+1,(k:Int)-1,swp ys p k,by simp,rfl,by omega,by omega,by omega,by omega,r,cj (cj (bV v) D) E,y.trans (Rng.swp oo oo oo oo)⟩,?_⟩;rw[s];simp only[intOf];omega
end
structure PIs(zs:List Int) (a b i j:Nat):Prop where
 hi:a+1<=i
 hj:a<=j/\j<b
 ij:i<=j+1
 lo:∀k,a<k->k<i->G zs k<G zs a
 up:∀k,j<k->k<b->G zs a<=G zs k
structure PR(ys:List Int) (a b m:Nat):Prop where
 hm:a<=m/\m<b
 lo:∀k,a<=k->k<m->G ys k<G ys m
 up:∀k,m<k->k<b->G ys m<=G ys k
def PIs.done{g:List Int}{a:Nat}(h:PIs g a b i j)(n : ¬i<=j)(r:b<=g.length):PR (swp g j a) a b j:=by
 have p:=h.hi;have m:=h.hj;have q:=h.ij;have f:=λk=>Gq (xs:=g) (i:=j) (j:=a) (k:=k) oo oo;refine⟨m,λk l o=>?_,λk l d=>?_⟩
 .rw[f,f];by_cases e:k=a
  .rw[oJ e,oI oo,oJ rfl];exact h.lo j oo oo
  .rw[oI e,oI oo,oI oo,oJ rfl];exact h.lo k oo oo
 .rw[f,f];rw[oI (c:=k=a) oo,oI (c:=k=j) oo];by_cases e:j=a
  .rw[oJ e,e]
   have:=h.up k oo d
   exact this
  .rw[oI e,oJ rfl];exact h.up k l d
def PIs.swap{c:List Int}{a:Nat}(h:PIs c a b i j)(n:i<=j)(t:b<=c.length)(hi : ¬G c i<G c a)(l:G c j<G c a):PIs (swp c i j) a b (i+1) (j-1)/\i<j:=by
 have q:=h.hi;have r:=h.hj;have s:=h.ij;have p:i≠j:=by rintro rfl;exact hi l
 have d:=λk=>Gq (xs:=c) (i:=i) (j:=j) (k:=k) oo oo;have g:G (swp c i j) a=G c a:=by rw[d,oI oo,oI oo]
 refine⟨⟨by omega,by omega,by omega,λk m o=>?_,λk m f=>?_⟩,by omega⟩
 .rw[g,d,oI oo];by_cases e:k=i
  .rw[oJ e];exact l
  .rw[oI e];exact h.lo k m oo
 .rw[g,d];by_cases e:k=j
  .rw[oJ e];omega
  .rw[oI e,oI oo];exact h.up k oo f
section
variable {n:Nat}{xs:List Int}
def Qu{K2:oF->oF->oF->oF->oF->oF->oG->Prop}(s:SD w g n c xs)(hi:i<n)(p:j<n)(h:∀O,SD O g n c (swp xs i j)->Oth g w O->K2 (pA g (0+j*1)) (uv (G xs j)) (pA g (0+i*1)) (uv (G xs i)) (pA g (0+i*1)) (pA g (0+j*1)) O):aF (λS w =>
   hld S (λk w=>aW Q 187 (.slice (some ⟨g,0,none⟩) n c) (ci (j:Nat)) k w) (λd =>
   hld S (λk w=>ld Q 36 d k w) (λe =>
   hld S (λk w=>aW Q 187 (.slice (some ⟨g,0,none⟩) n c) (ci (i:Nat)) k w) (λf =>
   hld S (λk w=>ld Q 36 f k w) (λl =>
   hld S (λk w=>aW Q 187 (.slice (some ⟨g,0,none⟩) n c) (ci (i:Nat)) k w) (λm =>
   sto Q 36 m e (λ_t w =>
   aF (λS w =>
   hld S (λk w=>aW Q 187 (.slice (some ⟨g,0,none⟩) n c) (ci (j:Nat)) k w) (λo =>
   sto Q 36 o l (λ_t w=>K2 d e f l m o w) w)) w) w)))))) w.drew:=by refine aw (λx=>SD x g n c xs) s.drew <|ac (λx b _=>im p) <|ac (λx b _=>ldS b p) <|ac (λx b _=>im hi) <|ac (λx b _=>ldS b hi) <|ac (λx b _=>im hi) <|Lj s.drew hi ?_;intro y q t;refine hRT <|ac (λx b _=>im p) <|Lj q p ?_;intro v r u;exact h v r (cj (cj (bV (mh _ _)) t) u)
def zhw{a:Nat}(e0:X1=.slice (some ⟨g,0,none⟩) n c)(v:Z1=ci (a:Nat))(B:N2=ci (i:Nat))(C:O2=ci (j:Nat))(I:SD w g n c xs)(hb:b<=n)(q:PIs xs a b i j)(hB:∀e w' (o p:Nat),gd e 10=ci ((o:Int)+1)->gd e 11=ci ((p:Int)-1)->i<=o->p<=j->o<p->SD w' g n c (swp xs o p)->Oth g w w'->PIs (swp xs o p) a b (o+1) (p-1)->N1 e w')(H:∀{j:Nat} {T:oG} {f:Bool},SD T g n c (swp xs j a)->Oth g w T->PIs xs a b (j+1) j->K (.tuple #[ci (j:Nat),.bool f]) T):gh K N1 ((aI X1 Z1 N2 O2 zf)) w:=by
 subst e0 v B C;have Z:n<=4611686018427387904:=by obtain⟨_,_,_,_,Z⟩:=I;exact Z
 have lz:=I.len;refine zZ (Inv:=λo z=>∃q:Nat,o=ci (q:Nat)/\i<=q/\PIs xs a b q j/\SD z g n c xs/\Oth g w z) (μ:=λi _=>b-(intOf i).toNat) ⟨i,rfl,Nat.le_refl _,q,I,mh _ _⟩ ?_;rintro _ _ w2 m2 ⟨i,rfl,J,s,t,P⟩ M;have ab:=s.hi;have ad:=s.hj;have X:=s.ij
 have l:∀{w3:oG},SD w3 g n c xs->Oth g w w3->(¬i<=j\/¬G xs i<G xs a)->∀{X1 Z1 N2 O2:oF} {zf:oD},X1=.slice (some ⟨g,0,none⟩) n c->Z1=ci (a:Nat)->N2=ci (i:Nat)->O2=ci (j:Nat)->db K N1 ((aI X1 Z1 N2 O2 zf)) w3:=by
  intro w3 d3 o3 O
  intros
  rename_i v D E F;subst v D E F;refine Ae <|Aa (Inv:=λp z=>∃q:Nat,p=ci (q:Nat)/\q<=j/\PIs xs a b i q/\SD z g n c xs/\Oth g w z) (μ:=λj _=>(intOf j).toNat) ⟨j,rfl,Nat.le_refl _,s,d3,o3⟩ ?_;rintro _ _ w4 m4 ⟨j,rfl,L,r,u,R⟩ N;have ac:=r.hi;have ae:=r.hj;have Y:=r.ij
  have m:∀{w5:oG},SD w5 g n c xs->Oth g w w5->(¬i<=j\/G xs j<G xs a)->∀{X1 Z1 N2 O2:oF} {zf:oD},X1=.slice (some ⟨g,0,none⟩) n c->Z1=ci (a:Nat)->N2=ci (i:Nat)->O2=ci (j:Nat)->de K N1 ((aI X1 Z1 N2 O2 zf)) w5:=by
   intro w5 U o5 y
   intros
   rename_i v D E F;subst v D E F;refine Ag <|cH ?_;by_cases aa:j<i
   .refine ay oo <|Ad <|Qu (i:=j) (j:=a) U oo oo ?_;intro w6 A S
    have:i=j+1:=by omega
    subst this;exact H A (cj o5 S) r
   .refine ax oo <|Qu (i:=i) (j:=j) U oo oo ?_;intro w6 A S;obtain⟨q6,x⟩:=r.swap oo oo (O.resolve_left oo) (y.resolve_left oo);exact aR oo oo <|bL oo oo (hB _ _ i j rfl rfl J L x A (cj o5 S) q6)
  refine ah (λ_=>iG) ?_;by_cases c4:i<=j
  .refine bU oo <|ah (λ_=>im oo) <|ah (λ_=>ldS u.drew oo) <|ah (λ_=>im oo) <|ah (λ_=>ldS u.drew oo) <|ah (λ_=>xr) <|ah (λ_=>xK) <|ah (λ_=>bI oo) ?_;by_cases h:G xs j<G xs a
   .exact ax oo (m u.drew (bV R) (.inr h) rfl rfl rfl rfl)
   .refine ay oo <|bL oo oo ?_;refine⟨⟨j-1,by show Value.int .i64 _=Value.int .i64 _;congr 1;omega,by omega,⟨r.hi,by omega,by omega,r.lo,λk V W=>?_⟩,u.drew,bV R⟩,by rw[N];show (intOf (ci ((j:Int)-1))).toNat<_;simp only[intOf];omega⟩;by_cases e:k=j
    .rw[e];omega
    .exact r.up k oo W
  .exact cJ oo <|ah (λ_=>bw oo) <|aA (m u.drew (bV R) (.inl c4) rfl rfl rfl rfl)
 refine ah (λ_=>iG) ?_;by_cases c2:i<=j
 .refine bU oo <|ah (λ_=>im oo) <|ah (λ_=>ldS t.drew oo) <|ah (λ_=>im oo) <|ah (λ_=>ldS t.drew oo) <|ah (λ_=>xr) <|ah (λ_=>bI oo) ?_;by_cases h:G xs i<G xs a
  .refine ay h <|aR oo oo ?_;refine⟨⟨i+1,(show Value.int .i64 ((i:Int)+1)=_ by simp),by omega,⟨by omega,s.hj,by omega,λk V W=>?_,s.up⟩,t.drew,bV P⟩,by rw[M];show b-(intOf (ci ((i:Int)+1))).toNat<_;simp only[intOf];omega⟩;by_cases e:k=i
   .rw[e];exact h
   .exact s.lo k V oo
  .exact ax h (l t.drew (bV P) (.inr h) rfl rfl rfl rfl)
 .exact cJ oo <|ah (λ_=>bw oo) <|aA (l t.drew (bV P) (.inl c2) rfl rfl rfl rfl)
def zjx{a p:Nat}(W:SD w g n c xs)(af:a<=p)(ap:p<b)(hb:b<=n)(h:∀w' ys m f,SD w' g n c ys->Oth g w w'->Rng a b xs ys->PR ys a b m->K (.tuple #[ci (m:Nat),.bool f]) w'):call Q 137 #[.slice (some ⟨g,0,none⟩) n c,ci (a:Nat),ci (b:Nat),ci (p:Nat)] K w:=by
 have hm:n<=4611686018427387904:=by obtain⟨_,_,_,_,hm⟩:=W;exact hm
 have ao:=W.len;refine aj (goK func137) (Bc ?_);refine Qu (i:=a) (j:=p) W oo oo ?_;intro O P o1;have r1:Rng a b xs (swp xs a p):=Rng.swp oo oo oo oo;obtain⟨zs,ab⟩:∃zs,swp xs a p=zs:=⟨_,rfl⟩
 rw[ab]at P r1;have lz:=P.len;have J:∀{z:List Int} {j:Nat} {wz:oG} {f:Bool},SD wz g n c (swp z j a)->Oth g w wz->Rng a b xs z->PIs z a b (j+1) j->K (.tuple #[ci (j:Nat),.bool f]) wz:=by
  intro z j wz f d o r q;have hl:=r.len;have hj:=q.hj;exact h wz _ j f d o (r.trans (Rng.swp oo oo oo oo)) (q.done oo oo)
 refine aR oo oo <|bL oo oo <|zW (Inv:=λi B=>∃q:Nat,i=ci (q:Nat)/\PIs zs a b q (b-1)/\SD B g n c zs/\Oth g O B) (μ:=λi _=>b-(intOf i).toNat) ⟨a+1,by simp,⟨Nat.le_refl _,by omega,by omega,λk L M=>by omega,λk L M=>by omega⟩,P,mh _ _⟩ ?_;rintro _ _ w2 m2 ⟨i,rfl,C,E,o2⟩ X;have ai:=C.hi;have al:=C.hj;have ac:=C.ij
 have x:∀{w3:oG},SD w3 g n c zs->Oth g O w3->(¬i<=b-1\/¬G zs i<G zs a)->∀{s D u v:oF} {zf:oD},s=.slice (some ⟨g,0,none⟩) n c->D=ci (a:Nat)->u=ci (i:Nat)->v=ci ((b:Int)-1)->cW K ((aI s D u v zf)) w3:=by
  intro w3 d3 o3 aa
  intros
  rename_i S T U V;subst S T U V;refine Ab <|zX (Inv:=λj B=>∃q:Nat,j=ci (q:Nat)/\q<=b-1/\PIs zs a b i q/\SD B g n c zs/\Oth g O B) (μ:=λj _=>(intOf j).toNat) ⟨b-1,by congr 1;omega,Nat.le_refl _,C,d3,o3⟩ ?_;rintro _ _ w4 m4 ⟨j,rfl,an,A,F,o4⟩ Y;have ak:=A.hi;have am:=A.hj;have ad:=A.ij
  have y:∀{w5:oG},SD w5 g n c zs->Oth g O w5->(¬i<=j\/G zs j<G zs a)->∀{s D u v:oF} {zf:oD},s=.slice (some ⟨g,0,none⟩) n c->D=ci (a:Nat)->u=ci (i:Nat)->v=ci (j:Nat)->cY K ((aI s D u v zf)) w5:=by
   intro w5 d5 o5 N
   intros
   rename_i S T U V;subst S T U V;refine Ac <|cH ?_;by_cases ag:j<i
   .refine ay oo <|Qu (i:=j) (j:=a) d5 oo oo ?_;intro w6 R o6
    have:i=j+1:=by omega
    subst this;exact J R (cj (cj o1 o5) o6) r1 A
   .refine ax oo <|Qu (i:=i) (j:=j) d5 oo oo ?_;intro w6 R o6;obtain⟨q6,ae⟩:=A.swap oo oo (aa.resolve_left oo) (N.resolve_left oo);have r6:=r1.trans (Rng.swp (xs:=zs) (i:=i) (j:=j) oo oo oo oo);refine zU <|aR oo oo <|bL oo oo ?_
    refine zY (Inv:=λi j B=>∃(i' j':Nat) (z:List Int),i=ci (i':Nat)/\j=ci (j':Nat)/\PIs z a b i' j'/\SD B g n c z/\Oth g w B/\Rng a b xs z)
     (μ:=λi j _=>(intOf j+2-intOf i).toNat) ⟨i+1,j-1,swp zs i j,by simp,by congr 1;omega,q6,R,cj (cj o1 o5) o6,r6⟩ ?_
    rintro _ _ _ w7 m7 ⟨i7,j7,z,rfl,rfl,q7,d7,o7,r7⟩ Z;have aq:=d7.len;refine zhw rfl rfl rfl rfl d7 hb q7 ?_ (λd o q=>J d (cj o7 o) r7 q);intro e w8 i8 j8 H I L M h3 d8 o8 q8
    have:=q7.hi
    have:=q7.hj
    refine⟨⟨i8+1,j8-1,swp z i8 j8,by rw[H];simp,by rw[I];congr 1;omega,q8,d8,cj o7 o8,r7.trans (Rng.swp oo oo oo oo)⟩,?_⟩;show (intOf (gd e 11)+2-intOf (gd e 10)).toNat<_;rw[H,I,Z];simp only[intOf];omega
  refine ah (λ_=>iG) ?_;by_cases c4:i<=j
  .refine bU oo <|ah (λ_=>im oo) <|ah (λ_=>ldS F.drew oo) <|ah (λ_=>im oo) <|ah (λ_=>ldS F.drew oo) <|ah (λ_=>xr) <|ah (λ_=>xK) <|ah (λ_=>bI oo) ?_;by_cases t:G zs j<G zs a
   .exact ax oo (y F.drew (bV o4) (.inr t) rfl rfl rfl rfl)
   .refine ay oo <|bL oo oo ?_;refine⟨⟨j-1,by show Value.int .i64 _=Value.int .i64 _;congr 1;omega,by omega,⟨A.hi,by omega,by omega,A.lo,λk L M=>?_⟩,F.drew,bV o4⟩,by rw[Y];show (intOf (ci ((j:Int)-1))).toNat<_;simp only[intOf];omega⟩;by_cases e:k=j
    .rw[e];omega
    .exact A.up k oo M
  .exact cJ oo <|ah (λ_=>bw oo) <|aA (y F.drew (bV o4) (.inl c4) rfl rfl rfl rfl)
 refine ah (λ_=>iG) ?_;by_cases c2:i<=b-1
 .refine bU oo <|ah (λ_=>im oo) <|ah (λ_=>ldS E.drew oo) <|ah (λ_=>im oo) <|ah (λ_=>ldS E.drew oo) <|ah (λ_=>xr) <|ah (λ_=>bI oo) ?_;by_cases t:G zs i<G zs a
  .refine ay t <|aR oo oo ?_;refine⟨⟨i+1,(show Value.int .i64 ((i:Int)+1)=_ by simp),⟨by omega,C.hj,by omega,λk L M=>?_,C.up⟩,E.drew,bV o2⟩,by rw[X];show b-(intOf (ci ((i:Int)+1))).toNat<_;simp only[intOf];omega⟩;by_cases e:k=i
   .rw[e];exact t
   .exact C.lo k L oo
  .exact ax t (x E.drew (bV o2) (.inr t) rfl rfl rfl rfl)
 .exact cJ oo <|ah (λ_=>bw oo) <|aA (x E.drew (bV o2) (.inl c2) rfl rfl rfl rfl)
end
end
end Go.Proofs.YtpaghmnnhedccaaGreatDoor
