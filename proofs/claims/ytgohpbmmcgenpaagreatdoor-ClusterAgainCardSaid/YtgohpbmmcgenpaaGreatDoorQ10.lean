import Derived.Test.YtgohpbmmcgenpaaGreatDoorQ2
import Derived.Test.YtgohpbmmcgenpaaGreatDoorQ9
import Derived.Test.YtgohpbmmcgenpaaGreatDoorQ3
import Derived.Test.YtgohpbmmcgenpaaGreatDoorQ1
import Derived.Test.YtgohpbmmcgenpaaGreatDoorChecked
namespace Go.Proofs.YtgohpbmmcgenpaaGreatDoor
set_option maxRecDepth 100000
set_option linter.defProp false
set_option maxHeartbeats 4000000
open Go.Proofs.Tryz
open Go.RowKit
variable {w w' w0 w2 S O:oG}{zf:Nat->oF}{b c o i g m s j z f d c2 gc D B' B2 ba hi:Nat}{a av a2:Option Addr}{x v r N fu:Int}{E t e:TypeId}{A:List Int}{B1:KE}{xs ys vs:oE}{P:Program}{cx cy:Bool}{T:List (Int×Int)}{k' Q0:IntKind}{Z1 N2 O2 P2 Q2 R2 T2 U2 V2 X2 N3 O3 P3 Q3 T3 U3 V3 W3 X3 N4 O4 P4 Q4 T4 U4 V4 Y4 Z4 j5 B5 N5 O5 P5 Q5 R5 T5 H Z U Y J C:oF}
def CG(l0 a2 i4 a5 du e7 x10:oF)(zf:oD):=l0::zf 1::a2::zf 3::i4::a5::du::e7::zf 8::zf 9::x10::zT zf 11 29 ([])
def Bp(K:KV):KE:=aj Q (cd f223 [1,1,1,1]) (rk f223 K) xf (rk f223 K)
abbrev PE(K:KV)(hA0:KE)(l0 i1 a2:oF)(w:oG):Prop :=
  box Q 42 a2 (λa=>alc Q 49 λb=>bT .eql 107 l0 (.pointer none) λc w=>cond c (ld Q 49 b (λa=>sto Q 49 b a λ_=>bA Q [(some 49,b),(none,ci 2)] K) w) (aL (λS w=>hL S 42 a λd=>call Q 44 #[l0] (λe=>bw S λ_=>call Q 244 #[e,i1,d] λf=>aL λS w=>hld S (ext Q f 0) λg=>hld S (ext Q f 1) λh=>cond g (ld Q 49 b (λa=>sto Q 49 b a λ_=>bA Q [(some 49,b),(none,h)] K) w) (ld Q 42 a (λi=>call Q 245 #[l0,i1,i] λj=>ext Q j 0 λk=>ext Q j 1 λl=>alc Q 49 λm=>sto Q 49 m k λ_=>hA0 (CG l0 a2 uu a b l m (zV (zV (zV (zV (zV zu 1 [i1]) 8 [g,h]) 11 [l0,c]) 14 [f,l0,e,i1,d,f,g,h,g]) 25 [j,l0,i1,i,j,k,l]))) w)) w) w.drew)) w
section
variable {K:KV}{l0 a2 i4 a5 du e7 x10:oF}  
def YZ{K:KV}(a:Code)(h:PE K (aj Q a (rk f223 K) (λ_ _ _=>False) (rk f223 K)) U H Z w):aj Q (rep [1,1,1,1] a (cd f223 [])) (rk f223 K) xf (rk f223 K) (CG U Z uu uu uu uu uu (zV zu 1 [H])) w:=Eq.mp kr h
def Xg{K:KV}(h:PE K (Bp K) U H Z w):Gives Q 223 #[U,H,Z] w K:=aw func223 kr (Eq.mp (qH (λc=>aj Q c (rk f223 K) xf (rk f223 K) (CG U Z uu uu uu uu uu (zV zu 1 [H])) w) (by kernel_rfl:(rep [1,1,1,1] (cd f223 [1,1,1,1]) (cd f223 []))=(cd f223 []))) (YZ (cd f223 [1,1,1,1]) h))
def JR(h:bT .neq 28 e7 (ci 0) (λa w=>cond a (ld Q 49 du (λa=>sto Q 49 du a λ_=>bA Q [(some 49,du),(none,e7)] K) w) (aL (λS w=>hL S 49 x10 λa=>hL S 49 x10 λb=>call Q 59 #[l0,b] (λb=>bw S λ_=>sto Q 49 du a λ_=>aL λ_=>bA Q [(some 49,du),(none,b)] K) w) w.drew)) w):Bp K (CG l0 a2 i4 a5 du e7 x10 zf) w:=mpK h
end
attribute [irreducible] Bp
def Cc(l0 a2 i4 a5 A4 f10 e11:oF)(zf:oD):=l0::zf 1::a2::zf 3::i4::a5::A4::zT zf 7 3 (f10::e11::zT zf 12 27 ([]))
def Be(K:KV):KE:=aj Q (cd f245 (b1 127)) (rk f245 K) xf (rk f245 K)
abbrev Oj(K:KV)(hA0:KE)(l0 i1 a2:oF)(w:oG):Prop :=
  box Q 3 i1 (λa=>box Q 42 a2 λb=>alc Q 49 λc=>bT .eql 107 l0 (.pointer none) λd w=>cond d (bld Q 49 #[] (λa=>sto Q 49 c a λ_=>bA Q [(some 49,c),(none,ci 2)] K) w) (call Q 240 #[l0] (λe=>alc Q 34 λf=>sto Q 34 f e λ_=>ld Q 34 f λg=>ld Q 3 a λh=>call Q 258 #[g,h] λi=>ext Q i 0 λj=>ext Q i 1 λk=>alc Q 32 λl=>sto Q 32 l j λ_=>bT .eql 28 k (ci 10) λm w=>cond m (bld Q 49 #[] (λa=>sto Q 49 c a λ_=>bA Q [(some 49,c),(none,k)] K) w) (ld Q 42 b (λn=>call Q 259 #[n,.func (.func 260) #[] #[a,l,f]] λo=>alc Q 49 λp=>sto Q 49 p o λ_=>hA0 (Cc l0 a2 a b c k p (zV (zV (zV (zV (zV zu 1 [i1]) 7 [ci 0,f,l]) 13 [l0,d]) 16 [l0,e,i,g,h,i,j,k,k,m]) 28 [n,.func (.func 260) #[] #[a,l,f],o]))) w)) w)) w
section
variable {K:KV}{l0 a2 i4 a5 A4 f10 e11:oF}  
def Xx{K:KV}(a:Code)(h:Oj K (aj Q a (rk f245 K) (λ_ _ _=>False) (rk f245 K)) U H Z w):aj Q (rep (b1 127) a (cd f245 [])) (rk f245 K) xf (rk f245 K) (Cc U Z uu uu uu uu uu (zV zu 1 [H])) w:=Eq.mp kr h
def WO{K:KV}(h:Oj K (Be K) U H Z w):Gives Q 245 #[U,H,Z] w K:=aw func245 kr (Eq.mp (qH (λc=>aj Q c (rk f245 K) xf (rk f245 K) (Cc U Z uu uu uu uu uu (zV zu 1 [H])) w) (by kernel_rfl:(rep (b1 127) (cd f245 (b1 127)) (cd f245 []))=(cd f245 []))) (Xx (cd f245 (b1 127)) h))
def Tj(h:ld Q 49 e11 (λa=>call Q 261 #[l0,a] λa=>bT .neq 28 a (ci 0) λb w=>cond b (bld Q 49 #[] (λb=>sto Q 49 A4 b λ_=>bA Q [(some 49,A4),(none,a)] K) w) (ld Q 49 e11 (λa=>sto Q 49 A4 a λ_=>bA Q [(some 49,A4),(none,ci 0)] K) w)) w):Be K (Cc l0 a2 i4 a5 A4 f10 e11 zf) w:=mpK h
end
attribute [irreducible] Be
def WQ{K:KV}(h:box Q 42 Z (λa=>alc Q 49 λb=>aq Q 42 a 0 λc=>ld Q 5 c λc=>aq Q 42 a 1 λd=>ld Q 32 d λd=>aq Q 42 a 2 λe=>ld Q 3 e λe=>aq Q 42 a 3 λf=>ld Q 2 f λf=>aq Q 42 a 4 λg=>ld Q 32 g λg=>aq Q 42 a 5 λa=>ld Q 32 a λa=>bld Q 49 #[(3,c),(4,d),(5,e),(6,f),(7,g),(8,a)] λa=>alc Q 49 λc=>sto Q 49 c a λ_=>bS Q H #[c] λ_=>ld Q 49 c λa=>sto Q 49 b a λ_=>bA Q [(some 49,b)] K) w):Gives Q 259 #[Z,H] w K:=aw func259 kr (mpK h)
def Ti{K:KV}(h:aL (λS w=>hL S 3 Z λa=>hL S 32 U λb=>hL S 34 Y λc=>hN S H λd=>hF S 49 d 0 λd=>sto Q 3 d a (λ_=>bw S λS w=>hN S H λa=>hF S 49 a 1 λa=>sto Q 32 a b (λ_=>bw S λS w=>hN S H λa=>hF S 49 a 2 λa=>sto Q 34 a c (λ_=>K (.tuple #[])) w) w) w) w.drew):Gives Q 260 #[H,Z,U,Y] w K:=aw func260 kr (mpK h)
def eX(r0 a1 a3 A3 du e7 D1:oF)(zf:oD):=r0::a1::zf 2::a3::A3::zf 5::du::e7::zT zf 8 15 (D1::zT zf 24 8 ([]))
def iA(K:KV):KE:=kZ f203 [1,1,1] K
def kt(K:KV):KE:=aj Q (cd f203 [1,1,0,1]) (iA K) xf (rk f203 K)
abbrev AN(K:KV)(hA0:KE)(r0 a1:oF)(w:oG):Prop :=
  box Q 42 a1 (λa=>alc Q 49 λb w=>aL (λS w=>hN S r0 λc=>hF S 119 c 1 λd=>hL S 107 d λe=>hN S r0 λf=>hF S 119 f 0 λg=>hL S 3 g λh=>hL S 42 a λi=>(call Q 223 #[e,h,i] (λj=>aL λS w=>hld S (ext Q j 0) λk=>hld S (ext Q j 1) λl=>alc Q 49 (λm=>bw S λS=>sto Q 49 m k λ_=>bw S λ_=>ld Q 49 m λn=>bld Q 49 #[] λo=>bF .neq 49 n o λp=>hA0 (eX r0 a1 a b m l p (zV (zV zu 5 [ci 0]) 8 [j,r0,c,d,e,r0,f,g,h,i,j,k,l,n,o]))) w) w)/\(alc Q 49 (λj=>bw S λ_=>call Q 223 #[e,h,i] λk=>aL λS w=>hld S (ext Q k 0) λl=>hld S (ext Q k 1) λm=>sto Q 49 j l (λ_=>bw S λ_=>ld Q 49 j λn=>bld Q 49 #[] λo=>bF .neq 49 n o λp=>hA0 (eX r0 a1 a b j m p (zV (zV zu 5 [ci 0]) 8 [k,r0,c,d,e,r0,f,g,h,i,k,l,m,n,o]))) w) w)) w.drew) w
section
variable {K:KV}{r0 a1 a3 A3 du e7 D1:oF}  
def KN{K:KV}(a:Code)(h:AN K (aj Q a (aj Q (cd f203 [1,1,1]) (rk f203 K) (λ_ _ _=>False) (rk f203 K)) (λ_ _ _=>False) (rk f203 K)) Z H w):aj Q (rep [1,1,0,1] a (cd f203 [])) (rk f203 K) xf (rk f203 K) (eX Z H uu uu uu uu uu zu) w:=Eq.mp kr h
def Ju{K:KV}(h:AN K (kt K) Z H w):Gives Q 203 #[Z,H] w K:=aw func203 kr (Eq.mp (qH (λc=>aj Q c (rk f203 K) xf (rk f203 K) (eX Z H uu uu uu uu uu zu) w) (by kernel_rfl:(rep [1,1,0,1] (cd f203 [1,1,0,1]) (cd f203 []))=(cd f203 []))) (KN (cd f203 [1,1,0,1]) h))
def yf(h:cond D1 (aL (λS w=>hN S r0 λa=>hF S 119 a 2 λb=>hL S 110 b λc=>hL S 49 du λd=>call Q 60 #[c,d] (λe=>iA K (eX r0 a1 a3 A3 du e7 D1 (zV zf 24 [r0,a,b,c,d,e]))) w) w.drew) (iA K (eX r0 a1 a3 A3 du e7 D1 zf) w)):kt K (eX r0 a1 a3 A3 du e7 D1 zf) w:=by delta kt;revert h;generalize (iA K)=qc0;exact mpF
def yg(h:ld Q 49 du (λa=>sto Q 49 A3 a λ_=>bA Q [(some 49,A3),(none,e7)] K) w):iA K (eX r0 a1 a3 A3 du e7 D1 zf) w:=mpK h
end
attribute [irreducible] iA kt
def gM(r0 a1 rJ a4 du e7 D3:oF)(zf:oD):=r0::a1::rJ::zf 3::a4::zf 5::du::e7::zT zf 8 17 (D3::zT zf 26 27 ([]))
def gh(K:KV):KE:=kZ f187 [1,1,1,1] K
def rS(K:KV):KE:=aj Q (cd f187 (b1 61)) (gh K) xf (rk f187 K)
abbrev CF(K:KV)(hA0:KE)(r0 a1 rJ:oF)(w:oG):Prop :=
  box Q 42 a1 (λa=>alc Q 49 λb=>bT .eql 93 r0 (.pointer none) λc w=>cond c (ld Q 49 b (λa=>sto Q 49 b a λ_=>bA Q [(some 49,b),(none,ci 2)] K) w) (ld Q 42 a (λd=>call Q 203 #[r0,d] λe=>ext Q e 0 λf=>ext Q e 1 λg=>sto Q 49 b f λ_=>bT .eql 28 g (ci 11) λh w=>aT h true (λb=>aq Q 42 a 0 (λa=>ld Q 5 a λc=>bT .eql 5 c (cb 3) λd=>b [a,c,d]) w) (λk=>k [uu,uu,uu] w) λi=>pick h (gd i 2) cF λj=>hA0 (gM r0 a1 rJ a b g j (zV (zV zu 10 [r0,c]) 13 [e,r0,d,e,f,g,g,h,h,gd i 0,gd i 1,gd i 2]))) w)) w
section
variable {K:KV}{r0 a1 rJ a4 du e7 D3:oF}  
def Nf{K:KV}(a:Code)(h:CF K (aj Q a (aj Q (cd f187 [1,1,1,1]) (rk f187 K) (λ_ _ _=>False) (rk f187 K)) (λ_ _ _=>False) (rk f187 K)) U H Z w):aj Q (rep (b1 61) a (cd f187 [])) (rk f187 K) xf (rk f187 K) (gM U H Z uu uu uu uu zu) w:=Eq.mp kr h
def LI{K:KV}(h:CF K (rS K) U H Z w):Gives Q 187 #[U,H,Z] w K:=aw func187 kr (Eq.mp (qH (λc=>aj Q c (rk f187 K) xf (rk f187 K) (gM U H Z uu uu uu uu zu) w) (by kernel_rfl:(rep (b1 61) (cd f187 (b1 61)) (cd f187 []))=(cd f187 []))) (Nf (cd f187 (b1 61)) h))
def uf(h:cond D3 (aL (λS w=>hN S r0 λa=>hF S 119 a 1 λb=>hL S 107 b λc=>hN S r0 λd=>hF S 119 d 0 λe=>hL S 3 e λf=>hF S 42 a4 1 λg=>hL S 32 g λh=>hF S 42 a4 3 λi=>hL S 2 i λj=>call Q 204 #[c,f,h,j] (λk=>aL λS w=>hld S (ext Q k 0) λl=>hld S (ext Q k 1) λm=>aL (λS w=>hN S r0 λn=>hF S 119 n 5 λo=>hL S 116 o λp=>hF S 42 a4 3 λr=>hL S 2 r λs=>call Q 205 #[p,l,s,rJ] (λt=>gh K (gM r0 a1 rJ a4 du e7 D3 (zV (zV zf 8 [l,m]) 26 [k,r0,a,b,c,r0,d,e,f,g,h,i,j,k,l,m,r0,n,o,p,l,r,s,rJ,t]))) w) w.drew) w) w.drew) (gh K (gM r0 a1 rJ a4 du e7 D3 zf) w)):rS K (gM r0 a1 rJ a4 du e7 D3 zf) w:=by delta rS;revert h;generalize (gh K)=qc0;exact mpF
def Jr(h:ld Q 49 du (λa=>sto Q 49 du a λ_=>bA Q [(some 49,du),(none,e7)] K) w):gh K (gM r0 a1 rJ a4 du e7 D3 zf) w:=mpK h
end
attribute [irreducible] gh rS
def Wi{K:KV}(h:box Q 34 Z (λa=>call Q 110 #[H] λb=>un Q .not b λb w=>cond b (K (.tuple #[cu 0,ci 10]) w) (bT .sub 3 H (ci 1) (λb=>bv Q 34 a b λb=>ld Q 32 b λb=>bT .geq 32 b (cu 1099511627776) λb w=>cond b (K (.tuple #[cu 0,ci 6]) w) (bT .sub 3 H (ci 1) (λb=>bv Q 34 a b λa=>ld Q 32 a λa=>bT .add 32 a (cu 1) λa=>K (.tuple #[a,ci 0])) w)) w)) w):Gives Q 258 #[Z,H] w K:=aw func258 kr (mpK h)
def Kw{K:KV}(h:box Q 49 H (λa=>ld Q 49 a λa=>call Q 76 #[Z,a] λa=>ext Q a 0 λ_=>ext Q a 1 K) w):Gives Q 261 #[Z,H] w K:=aw func261 kr (mpK h)
section
attribute [local irreducible] bin un conv call bS blt slc aq fld bv idx lkp fJ nl eSt rng nxt ent ext alc box bld cH ld sto bj fK mkS ifc pick rdy wts aT sti cond bA Gives aj iK kH cOp
structure AK where
 k:Int
 n:Int
 t:Int
 a:Int
 r:Int
 f:Int
def akC(x:AK):oE:=[kv8 x.k,u6 x.n,iv x.t,iv x.a,u6 x.r,u6 x.f]
def mkE(i s:Int)(V:List Int)(x:AK):EV:=⟨i,s,V.getD 0 0,V.getD 1 0,V.getD 2 0,V.getD 3 0,V.getD 4 0,V.getD 5 0,x.k,x.n,x.t,x.a,x.r,x.f⟩
def zfn{i s:Int}{V:List Int}{x:AK}(h:V.length=6):(mkE i s V x).V=V:=by obtain⟨_,_,_,_,_,_,rfl⟩:=Bn h;rfl
def agM(i:Int)(x:AK)(g:GR):Bool:=decide (g.o=i)&&(decide (g.q=x.r) || decide (g.b=x.r))
def agT(x:AK)(g:GR):Prop:=(x.k=3/\g.q=x.r/\g.n=x.n/\g.a=x.a)\/(x.k=4/\g.b=x.r/\g.q=x.f)
def zb3(x:AK):Prop:=x.r≠0/\(x.k=3\/x.k=4)
def sx(i:Int)(s:PL)(x:AK):Prop:=zb3 x->∀g∈s.G,agM i x g=false
def zaL(i:Int)(s:PL)(x:AK)(e:Int):Prop:=zb3 x/\∃g∈s.G,agM i x g=true/\(agT x g->e=0)/\(¬agT x g->e=14)
def yB{K:KV}(h:K (pA b (o+0)) w):aq Q 42 (pA b o) 0 K w:=aQ kr h
def Mn{K:KV}(h:K (pA b (o+1)) w):aq Q 42 (pA b o) 1 K w:=aQ kr h
def zdN{K:KV}(h:K (pA b (o+2)) w):aq Q 42 (pA b o) 2 K w:=aQ kr h
def Mo{K:KV}(h:K (pA b (o+3)) w):aq Q 42 (pA b o) 3 K w:=aQ kr h
def yC{K:KV}(h:K (pA b (o+4)) w):aq Q 42 (pA b o) 4 K w:=aQ kr h
def Y9{K:KV}(h:K (pA b (o+5)) w):aq Q 42 (pA b o) 5 K w:=aQ kr h
def Az(e:EV):jy Q 6 49 (evC e)=true:=by kernel_rfl
section
variable  {K:KV}{x:AK}
def Gs(a:blk w b 42 (akC x))(h:K (.agg (akC x).toArray) w):ld Q 42 (pB b) K w:=ldA (n:=6) (vs:=akC x) underlying42 rfl kr a rfl rfl h
def Me(h:∀S,blk S w.heap.size 42 (akC x)->Below w.heap.size w S->S.heap.size=w.heap.size+1->K (pB w.heap.size) S):box Q 42 (.agg (akC x).toArray) K w:=bU λS a b s=>h S (by simpa[Value.cells]using a) b s
def zhP{B n:Nat}{G:List GR}{f:oF}(C:w.ownsRow B 61 5 (.slice a n c) n (G.flatMap grC))(H:G.length=n)(N:n<=1000000){M:GR->Bool}(E:∀g (d:oG) (K1:KV),Below w.heap.size w d->(∀S,Below d.heap.size d S->K1 (.bool (M g)) S)->bS Q f #[.agg (grC g).toArray] K1 d)(h:∀w' (v:Int),((v<0/\∀g∈G,M g=false)\/∃(k:Nat) (g:GR),v=(k:Nat)/\G[k]? = some g/\M g=true)->Below w.heap.size w w'->K (iv v) w'):call Q 256 #[.slice a n c,f] K w:=by
 refine ao (goK func256) (xy (bM underlying36 ?_));refine wg (Inv:=λi I=>∃k:Nat,i=iv (k:Nat)/\k<=n/\Below w.heap.size w I/\∀(j:Nat) (g:GR),j<k->G[j]? = some g->M g=false) (μ:=λi _=>n-(intOf i).toNat) ⟨0,rfl,qG _,jT _ _,λj g h=>by omega⟩ ?_;rintro _ J d O ⟨k,rfl,A,l,b⟩ q;refine aW ?_;by_cases p:k<n
 .have m:G[k]? = some G[k]:=gE oo;generalize G[k]=g at m;have r:=dl C (w':=d) λk A=>l.block k (jS C k A).2;refine aG oo (GJ (i:=k) (enc:=grC) (s:=5) (L:=G) (x:=g) underlying36 kf underlying61 rfl kr vH r H m λ_=>E g d _ l λS D=>?_);have e:=l.trans (D.mono l.size);cases u:M g with
  | true=>exact bc (h S k (.inr ⟨k,g,rfl,m,u⟩) e)
  | false =>
   refine aD (aY oo oo ⟨⟨k+1,qH iv (by push_cast;rfl),p,e,λj y z t=>?_⟩,?_⟩)
   .by_cases o:j<k
    .exact b j y o t
    .obtain rfl:j=k:=by omega
     rw[m]at t;cases t;exact u
   .rw[q];show n-((k:Int)+1).toNat<n-(k:Int).toNat;omega
 .refine aB oo (wi (h d (-1) (.inl ⟨by omega,λg F=>?_⟩) l));obtain⟨j,z,rfl⟩:=List.mem_iff_getElem.1 F;exact b j _ oo (gE z)
def zdk{g:GR}{i:Int}(hi:blk w b 3 [iv i])(k:blk w ba 42 (akC x))(h:∀S,Below w.heap.size w S->K (.bool (agM i x g)) S):call Q 257 #[.agg (grC g).toArray,pB b,pB ba] K w:=by
 refine ao (goK func257) (Py (bU λf e d m=>?_));have e:=cZ e
 have l:=ae d hi hi.lt;have j:=ae d k k.lt;refine RE (lK (v:=iv g.o) e rfl (lK (v:=iv i) l rfl (aU ?_)));by_cases a:g.o=i
 .refine ck a (HN (lK (v:=u6 g.q) e rfl (yC (lK (v:=u6 x.r) j rfl (aU ?_)))));by_cases c:g.q=x.r
  .have:=h f d
   rw[show agM i x g=true by simp[agM,a,c]]at this;exact kW c (ck a (bR c (bR a this)))
  .refine dL c (Mq (lK (v:=u6 g.b) e rfl (yC (lK (v:=u6 x.r) j rfl (aU ?_)))))
   have:=h f d
   rw[show agM i x g=decide (g.b=x.r)by simp[agM,a,c]]at this;exact ck a (bG c (bR a this))
 .have:=h f d
  rw[show agM i x g=false by simp[agM,a]]at this;exact dt a (Lk (by simp[asB,gd,undef]) (dt a (bG a this)))
def Ok{b q:Bool}(h:(b || q)=false->K (.tuple #[cT,ci 14]) w)(g:(b || q)=true->K (.tuple #[cT,ci 0]) w):un Q .not (.bool b) (λa w=>aT a true (λd=>un Q .not (.bool q) (λe=>d [.bool q,e]) w) (λk=>k [uu,uu] w) λc=>pick a (gd c 1) cF λf w=>cond f (K (.tuple #[cT,ci 14]) w) (K (.tuple #[cT,ci 0]) w)) w:=by
 cases b with
 | true=>exact bH (js (cA (aD (g rfl))))
 | false =>
  refine bH (my (bH (dD ?_)));cases q with
  | true=>exact aD (g rfl)
  | false=>exact bc (h rfl)
def Mb{b:Bool}{g:GR}(t:blk w c 61 (grC g))(m:blk w ba 42 (akC x))(e1:H=pB ba)(u:Z=pB c)(e3:U=.bool b)(l:b=true↔(x.k=3/\g.q=x.r/\g.n=x.n/\g.a=x.a))(p : ¬agT x g->K (.tuple #[cT,ci 14]) w)(s:agT x g->K (.tuple #[cT,ci 0]) w):tE K ((gW Z1 J O2 P2 H R2 T2 Z U X2 C O3 P3 Q3 T3 U3 V3 W3 X3 N4 O4 P4 Q4 T4 U4 V4 Y4 Z4 j5 Y N5 O5 P5 Q5 R5 T5 zf)) w:=by
 subst e1 u e3;have j : ¬(x.k=4/\g.b=x.r/\g.q=x.f)->((b || false)=false->K (.tuple #[cT,ci 14]) w)/\((b || false)=true->K (.tuple #[cT,ci 0]) w):=λj =>
  ⟨λe=>p λo=>o.elim (λh=>by have:=l.2 h;simp_all) j,λe=>s (.inl (l.1 (by simpa using e)))⟩
 refine PD (yB (lK (v:=kv8 x.k) m rfl (aU ?_)));by_cases d:x.k=4
 .refine ck d (Mq (lK (v:=u6 g.b) t rfl (yC (lK (v:=u6 x.r) m rfl (aU (bR d ?_))))));by_cases i:g.b=x.r
  .refine ck i (HN (lK (v:=u6 g.q) t rfl (Y9 (lK (v:=u6 x.f) m rfl (aU (bR i ?_))))));refine Ok (λe=>p λo=>?_) λe=>s ?_
   .rw[Bool.or_eq_false_iff]at e;exact o.elim (λh=>by have:=l.2 h;rw[e.1]at this;cases this) λh=>by have:=decide_eq_false_iff_not.1 e.2;exact this h.2.2
   .rw[Bool.or_eq_true]at e;exact e.elim (λh=>.inl (l.1 h)) λh=>.inr ⟨d,i,of_decide_eq_true h⟩
  .exact dt i (bG i (Ok (q:=false) (j λh=>i h.2.1).1 (j λh=>i h.2.1).2))
 .exact dt d (bG d (js (cA (Ok (q:=false) (j λh=>d h.1).1 (j λh=>d h.1).2))))
def Xy{B:Nat}{s:PL}{t:STA}{i:Int}(u:SO w B s t a gc)(hi:PI s)(R:blk w c 38 (saC t))(I:blk w ba 42 (akC x))(D:(v<0/\∀g∈s.G,agM i x g=false)\/∃(k:Nat) (g:GR),v=(k:Nat)/\s.G[k]? = some g/\agM i x g=true)(M:zb3 x)(hG:s.G.length<=1000000)(e1:Y=pB c)(O:Q2=pB ba)(e3:T2=iv v)(P:sx i s x->K (.tuple #[cF,ci 0]) w)(h:∀w' e,zaL i s x e->Below w.heap.size w w'->K (.tuple #[cT,ci e]) w'):tD K ((gW Z1 Z Y P2 Q2 R2 T2 U2 V2 X2 N3 O3 P3 Q3 T3 U3 V3 W3 X3 N4 O4 P4 Q4 T4 U4 V4 Y4 Z4 j5 B5 N5 O5 P5 Q5 R5 T5 zf)) w:=by
 subst e1 O e3;refine PA (aW ?_);rcases D with⟨D,l⟩|⟨k,g,rfl,E,H⟩
 .exact aG D (P λ_=>l)
 have U:=(gS E).1;have J:g∈s.G:=mO E;have C:(saC t)[19]? = some (.slice a s.G.length gc):=by
  rw[<-u.gv];exact LM (by rw[u.eI];exact hi.i6) (by rw[u.eL];exact hi.l6) (by rw[u.eV];exact hi.v6)
 have y:∀w',¬agT x g->Below w.heap.size w w'->K (.tuple #[cT,ci 14]) w':=λw' f b=>h w' 14 ⟨M,g,J,H,λh=>qI h f,λ_=>rfl⟩ b;have A:∀w',agT x g->Below w.heap.size w w'->K (.tuple #[cT,ci 0]) w':=λw' f b=>h w' 0 ⟨M,g,J,H,λ_=>rfl,λh=>qI f h⟩ b;refine aB oo (rY (lK (v:=.slice a s.G.length gc) R C ?_))
 refine GJ (i:=k) (enc:=grC) (s:=5) (L:=s.G) (x:=g) underlying36 kf underlying61 rfl kr vH u.gr rfl E λ_=>?_;refine cD (z:=.agg (grC ⟨0,0,0,0,0⟩).toArray) kr λT F N V=>?_;have F:=cZ F
 refine fY (n:=5) (vs:=grC g) kr rfl F (by show 0+5<=5;omega) (Lj _) λw2 j S=>?_;have j:blk w2 w.heap.size 61 (grC g):=j;have d:Below w.heap.size w w2:=aK N S oA;have Z:=ae d I I.lt;refine yB (lK (v:=kv8 x.k) Z rfl (aU ?_));by_cases m:x.k=3
 .refine ck m (HN (lK (v:=u6 g.q) j rfl (yC (lK (v:=u6 x.r) Z rfl (aU (bR m ?_))))));by_cases o:g.q=x.r
  .refine ck o (Yb (lK (v:=u6 g.n) j rfl (Mn (lK (v:=u6 x.n) Z rfl (aU (bR o ?_))))));by_cases p:g.n=x.n
   .refine ck p (Yc (lK (v:=iv g.a) j rfl (Mo (lK (v:=iv x.a) Z rfl (aU (bR p ?_))))));exact Mb j Z rfl rfl rfl ⟨λe=>⟨m,o,p,of_decide_eq_true e⟩,λe=>qF e.2.2.2⟩ (λf=>y _ f d) λf=>A _ f d
   .exact dt p (bG p (Mb j Z rfl rfl (b:=false) rfl (by simp_all) (λf=>y _ f d) λf=>A _ f d))
  .exact dt o (bG o (js (cA (Mb j Z rfl rfl (b:=false) rfl (by simp_all) (λf=>y _ f d) λf=>A _ f d))))
 .exact dt m (bG m (js (cA (js (cA (Mb j Z rfl rfl (b:=false) rfl (by simp_all) (λf=>y _ f d) λf=>A _ f d))))))
def zfz{B:Nat}{s:PL}{t:STA}{i:Int}(z:SO w B s t a gc)(hi:PI s)(hG:s.G.length<=1000000)(hF:∀w',sx i s x->Below w.heap.size w w'->K (.tuple #[cF,ci 0]) w')(M:∀w' e,zaL i s x e->Below w.heap.size w w'->K (.tuple #[cT,ci e]) w'):call Q 244 #[.agg (saC t).toArray,iv i,.agg (akC x).toArray] K w:=by
 refine ao (goK func244) (SF (bU λA f F R=>bU λI o J S=>Me λw3 l H T=>?_));have f:=cZ f
 have o:blk I A.heap.size 3 [iv i]:=o;have u:Below A.heap.size A w3:=J.trans (H.mono oo);have c:=F.trans (u.mono F.size);have f:=ae u f f.lt;have o:=ae H o o.lt;have m:=z.fresh c;have y:(saC t)[19]? = some (.slice a s.G.length gc):=by
  rw[<-z.gv];exact LM (by rw[z.eI];exact hi.i6) (by rw[z.eL];exact hi.l6) (by rw[z.eV];exact hi.v6)
 have p:∀{K1:KV},(∀w' (v:Int),((v<0/\∀g∈s.G,agM i x g=false)\/∃(k:Nat) (g:GR),v=(k:Nat)/\s.G[k]? = some g/\agM i x g=true)->Below w3.heap.size w3 w'->K1 (iv v) w')->call Q 256 #[.slice a s.G.length gc,.func (.func 257) #[] #[pB A.heap.size,pB I.heap.size]] K1 w3:=λO =>
  zhP m.gr rfl hG (λg n a b L=>cB rfl (zdk (ae b o o.lt) (ae b l l.lt) λP D=>L P D)) O
 have j:∀{n:oG},Below w3.heap.size w3 n->(sx i s x->K (.tuple #[cF,ci 0]) n)/\∀w' e,zaL i s x e->Below n.heap.size n w'->K (.tuple #[cT,ci e]) w':=λb=>⟨λh=>hF _ h (c.trans (b.mono c.size)),λa e N D=>M a e N ((c.trans (b.mono c.size)).trans (D.mono (qR c.size b.size)))⟩
 refine yC (lK (v:=u6 x.r) l rfl (aU ?_));by_cases d:x.r=0
 .exact kW d (Lk (by simp[asB,gd,undef]) (kW d (bR d (bc (hF w3 (λp=>qI d p.1) c)))))
 refine dL d (yB (lK (v:=kv8 x.k) l rfl (bo ?_)));by_cases q:x.k≠3
 .refine ck q (yB (lK (v:=kv8 x.k) l rfl (bo (dL d (bR q (bG d ?_))))));by_cases C:x.k≠4
  .exact aG C (hF w3 (λp=>p.2.elim (λh=>qI h q) λh=>qI h C) c)
  .refine aB C (rY (lK (v:=.slice a s.G.length gc) f y (p λn v E b=>?_)));exact Xy (m.fresh b) hi (ae b f f.lt) (ae b l l.lt) E ⟨d,.inr (Classical.not_not.1 C)⟩ hG rfl rfl rfl (j b).1 (j b).2
 .refine dt q (dL d (bG q (bG d (aD (rY (lK (v:=.slice a s.G.length gc) f y (p λn v E b=>?_)))))));exact Xy (m.fresh b) hi (ae b f f.lt) (ae b l l.lt) E ⟨d,.inl (Classical.not_not.1 q)⟩ hG rfl rfl rfl (j b).1 (j b).2
def zh4{V:List Int}(e:V.length=6)(hi:i<6)(a:0<=V.getD i 0/\V.getD i 0<M40)(h:∀S,Below w.heap.size w S->K (.tuple #[u6 (V.getD i 0+1),ci 0]) S):call Q 258 #[.agg (vCs V).toArray,iv ((i:Int)+1)] K w:=by
 refine ao (goK func258) (Wi (yX e λf b d g=>?_));refine zaG (bH ?_);rw[show bO ((i:Int)+1)=true by unfold bO;simp;omega];have c:(vCs V)[0+i]? = some (u6 (V.getD i 0)):=by
  rw[oK];unfold vCs;rw[qC,oN,gE oo];rfl
 refine aD (co oo oo ?_);rw[show (i:Int)+1-1=(i:Nat)by omega];refine ixV (k:=i) rfl hi (lK (v:=u6 (V.getD i 0)) b c (cJ (aB (by unfold M40 at a;omega) ?_)));refine co oo oo ?_;rw[show (i:Int)+1-1=(i:Nat)by omega];refine ixV (k:=i) rfl hi (lK (v:=u6 (V.getD i 0)) b c (ze ?_));rw[gu,show (V.getD i 0+1)%18446744073709551616=V.getD i 0+1 by unfold M40 at a;omega]
 exact h f d
def ziw{q:LB}{s:PL}{e:EV}(h:PM w q s)(hi:PI s)(d:∀S,Below w.heap.size w S->K (ci (eC e s)) S):call Q 261 #[pB q.p,evV e] K w:=by
 refine ao (goK func261) (Kw (Bj λk f a j=>dN f ?_));refine YV (h.below a) hi (λc _ b=>bK (bJ (d c (a.trans (b.mono a.size))))) λg c i b _=>bK (bJ ?_)
 have:=d c (a.trans (b.mono a.size))
 rwa[g]at this
def zi8{i s:Int}{V:List Int}(X:V.length=6)(hi:blk w b 3 [iv i])(G:blk w c 32 [u6 s])(F:blk w o 34 (vCs V))(h:∀w',Below w.heap.size w w'->K (evV (mkE i s V x)) w'):call Q 259 #[.agg (akC x).toArray,.func (.func 260) #[] #[pB b,pB c,pB o]] K w:=by
 obtain⟨p,q,u,z,A,B,rfl⟩:=Bn X;refine ao (goK func259) (WQ (Me λw1 S T s1=>jj λM R N s2=>?_));have l:=ae N S S.lt;refine yB (lK (v:=kv8 x.k) l rfl (Mn (lK (v:=u6 x.n) l rfl (zdN (lK (v:=iv x.t) l rfl (Mo (lK (v:=iv x.a) l rfl (yC (lK (v:=u6 x.r) l rfl (Y9 (lK (v:=u6 x.f) l rfl ?_)))))))))))
 refine cE (vs:=evC ⟨0,0,0,0,0,0,0,0,x.k,x.n,x.t,x.a,x.r,x.f⟩) kr (jj λw3 U O s3=>?_);refine fG (e':=⟨0,0,0,0,0,0,0,0,x.k,x.n,x.t,x.a,x.r,x.f⟩) U λw4 W J=>?_;have g:Below w.heap.size w w4:=aK ((T.trans (N.mono oo)).trans (O.mono oo)) J oo;have H:=ae g hi hi.lt;have L:=ae g G G.lt;have I:=ae g F F.lt
 have t4:=J.blk (ae O R R.lt) oo;have li:=hi.lt;have ls:=G.lt;have lk:=F.lt;have z4:=J.size;refine cB rfl (ao (goK func260) (Ti ?_));refine ax (λy=>blk y b 3 [iv i]/\blk y c 32 [u6 s]/\blk y o 34 (vCs [p,q,u,z,A,B])) ⟨H.drew,L.drew,I.drew⟩ ?_
 refine ac (v:=iv i) (λy d _ e=>lK d.1 rfl e) (ac (v:=u6 s) (λy d _ e=>lK d.2.1 rfl e) (ac (λy d _ e=>tT rfl d.2.2 e) ?_));refine ac (λy d _ e=>au e) (ac (λy d _ e=>fS e) ?_);refine dw kf W.drew (by show 0+0<14;omega) rfl λw5 C j=>aI ⟨j.blk H.drew oo,j.blk L.drew oo,j.blk I.drew oo⟩ ?_
 have C:blk w5 M.heap.size 49 (evC ⟨i,0,0,0,0,0,0,0,x.k,x.n,x.t,x.a,x.r,x.f⟩):=C;have Y:=j.blk H.drew oo;have q5:=j.blk L.drew oo;have Z:=j.blk I.drew oo;refine ac (λy d _ e=>au e) (ac (λy d _ e=>pC e) ?_);refine dw kf C (by show 0+1<14;omega) rfl λw6 D m=>aI ⟨m.blk Y oo,m.blk q5 oo,m.blk Z oo⟩ ?_
 have D:blk w6 M.heap.size 49 (evC ⟨i,s,0,0,0,0,0,0,x.k,x.n,x.t,x.a,x.r,x.f⟩):=D;refine ac (λy d _ e=>au e) (ac (λy d _ e=>Bv e) ?_);refine fY (n:=6) (vs:=vCs [p,q,u,z,A,B]) kr rfl D (by show 0+2+6<=14;omega) Qu λw7 E P=>?_;have E:blk w7 M.heap.size 49 (evC (mkE i s [p,q,u,z,A,B] x)):=E
 have t7:=P.blk (m.blk (j.blk t4.drew oo) oo) oo;refine dN E (fG (e':=mkE i s [p,q,u,z,A,B] x) t7 λw8 t8 o8=>?_);exact uO (v:=evV (mkE i s [p,q,u,z,A,B] x)) (λ_ e=>dN t8 e) (h w8 (aK (aK (aK (aK g.drew j oo) m oo) P oo) o8 oo))
def Ci{q:Nat}{u:oF}{e:EV}(b:blk w q 49 (evC e))(h:K (.tuple #[evV e,u]) w):bA Q [(some 49,pA q 0),(none,u)] K w:=yS (v:=evV e) (λ_ a=>dN b a) h
def mkP(i:Nat)(s:PL)(x:AK):EV:=mkE ((i:Int)+1) (s.V.getD i 0+1) s.V x
def NoP(i:Nat)(s:PL)(x:AK)(e:Int):Prop:=zaL ((i:Int)+1) s x e\/sx ((i:Int)+1) s x/\eC (mkP i s x) s≠0/\e=eC (mkP i s x) s
def NoP.old{s:PL}{x:AK}{e:Int}(h:NoP i s x e)(a:x.r=0):eC (mkP i s x) s≠0:=h.elim (λh=>qI a h.1.1) λh=>h.2.1
def zi9{q:LB}{s:PL}(h:PM w q s)(r:PI s)(hi:i<6)(no:∀w',eC (mkP i s x) s≠0->Below w.heap.size w w'->K (.tuple #[evV evZ,ci (eC (mkP i s x) s)]) w')(N:∀w',eC (mkP i s x) s=0->Below w.heap.size w w'->K (.tuple #[evV (mkP i s x),ci 0]) w'):call Q 245 #[pB q.p,iv ((i:Int)+1),.agg (akC x).toArray] K w:=by
 refine ao (goK func245) (WO (bU λw1 C b1 s1=>Me λw2 z2 S s2=>jj λw3 Z E s3=>Dy (aD ?_)));have C:blk w1 w.heap.size 3 [iv ((i:Int)+1)]:=C;have g:=(b1.trans (S.mono oo)).trans (E.mono oo);refine IJ (h.below g) λw4 y=>IU λw5 k5 b5 s5=>Fx (W:=s.V) rfl r.v6 k5 λw6 I X=>?_;have t:=g.trans (y.mono g.size);have z4:=y.size;have z6:=X.size
 have d:Below w4.heap.size w4 w6:=aK b5 X oA;have c:=t.trans (d.mono t.size);have H:=ae d (ae y (ae E (ae S C C.lt) oo) oo) oo;have P:=ae d (ae y (ae E z2 z2.lt) oo) oo;have t6:=ae d (ae y Z Z.lt) oo;refine tT r.v6 I (lK (v:=iv ((i:Int)+1)) H rfl (zh4 r.v6 hi (r.vb i hi) λM o=>bK (bJ ?_)))
 have U:=ae o I I.lt;have T:=ae o H H.lt;have R:=ae o P P.lt;have t7:=ae o t6 t6.lt;have z7:=o.size;refine yG (x:=u6 0) kr rfl λw8 q8 b8 s8=>dw kf q8 oB rfl λw9 L Y=>?_;have L:blk w9 M.heap.size 32 [u6 (s.V.getD i 0+1)]:=L;have b:Below M.heap.size M w9:=aK b8 Y oA;have k9:=ae b U U.lt;have i9:=ae b T T.lt
 have a9:=ae b R R.lt;have t9:=ae b t7 t7.lt;have z9:=Y.size;refine aU (aB oo (Gs a9 (zi8 r.v6 i9 L k9 λab u=>jj λac F D aa=>fG (e':=mkP i s x) F λw12 k J=>?_)));have O:=u.size;have f:Below w9.heap.size w9 w12:=aK (u.trans (D.mono O)) J oo
 have a:=((c.trans (o.mono c.size)).trans (b.mono (by have:=c.size;omega))).trans (f.mono (by have:=c.size;omega));have z:=ae f t9 t9.lt;refine Tj (dN k (ziw (h.below a) r λad j=>bo ?_));have G:=ae j k k.lt;have A:=ae j z z.lt;have e:=a.trans (j.mono a.size);by_cases B:eC (mkP i s x) s≠0
 .refine aG B (cE (vs:=evC evZ) kr (fG (e':=evZ) A λn m l=>?_));exact Ci m (no n B (aK e l oo))
 .refine aB B (dN G (fG (e':=mkP i s x) A λn m l=>?_));exact Ci m (N n (Classical.not_not.1 B) (aK e l oo))
def zcV{q:LB}{s:PL}(h:PM w q s)(z:PI s)(hi:i<6)(hG:s.G.length<=1000000)(Y:∀w' (e:Int),NoP i s x e->Below w.heap.size w w'->K (.tuple #[evV evZ,ci e]) w')(R:∀w',eC (mkP i s x) s=0->sx ((i:Int)+1) s x->PM w' q (eff (mkP i s x) s)->Ch q.wv w w'->K (.tuple #[evV (mkP i s x),ci 0]) w'):call Q 223 #[pB q.p,iv ((i:Int)+1),.agg (akC x).toArray] K w:=by
 have u:=h.lt;refine ao (goK func223) (Xg (Me λw1 z1 b1 s1=>jj λC L U s2=>Dy (aD ?_)));have r:=b1.trans (U.mono oo);have h2:=(h.below r).below (jT _ C).drew;have S:=ae U z1 z1.lt;refine ax (λy=>blk y w.heap.size 42 (akC x)) S.drew (ac (λy d _ c=>Gs d c) ?_);refine SE h2 z hG λw3 t ga gc so b3=>?_
 have m:Below C.heap.size C w3:=(jT _ C).drew.trans b3;have T:=ae m S S.lt;have A:=ae m L L.lt;have f:=r.trans (m.mono oo);have l2:=L.lt;have X:w.heap.size<=w1.heap.size:=by omega
 refine aI T (zfz so z hG (λv g o=>?_) λv e4 g o=>?_)
 rotate_left
 .have n:=ae o A A.lt;have a:=f.trans (o.mono f.size);refine ax (λ_=>True) trivial (ac (λy _ _ c=>bK c) (ac (λy _ _ c=>bJ c) ?_));exact bc (dN n (fG (e':=evZ) n λD b c=>Ci b (Y D e4 (.inl g) (aK a c X))))
 have z4:=ae o T T.lt;have n:=ae o A A.lt;have a:=f.trans (o.mono f.size);refine ax (λ_=>True) trivial (ac (λy _ _ c=>bK c) (ac (λy _ _ c=>bJ c) ?_));refine aD (Gs z4 (zi9 (h.below a) z hi (λD V j=>bK (bJ ?_)) λD H j=>bK (bJ ?_)))
 .refine jj λw6 O E s6=>fG (e':=evZ) O λw7 P J=>JR (bo (aG V ?_));have b:Below v.heap.size v w7:=aK (j.trans (E.mono j.size)) J j.size;have B:=ae b n n.lt;exact dN B (fG (e':=evZ) B λN M c=>Ci M (Y N _ (.inr ⟨g,V,rfl⟩) (aK (a.trans (b.mono a.size)) c X)))
 .refine jj λw6 O E s6=>fG (e':=mkP i s x) O λw7 P J=>JR (bo (aB oB ?_));have b:Below v.heap.size v w7:=aK (j.trans (E.mono j.size)) J j.size;have l:=a.trans (b.mono a.size);have h7:=(h.below l).below (jT _ w7).drew;have B:=ae b n n.lt;have s7:=l.size;have s5:=j.size
  refine ax (λy=>blk y D.heap.size 49 (evC (mkP i s x))) P.drew (ac (λy d _ c=>dN d c) (ac (λy d _ c=>dN d c) ?_));refine Sz h7 z λN p8 F=>?_;rw[H];rw[show lQ (mkP i s x) s=eff (mkP i s x) s by unfold lQ;rw[oJ H]]at p8;have W:∀k,w.heap.size<=k->k∉q.wv:=λk hk I=>by have:=u k (LB.wl k I);omega
  have ab:=b.size;have aa:=a.size;have x8:=P.drew.ch F (W _ oo);have M:=B.drew.ch F (W _ oo);refine aI x8 (fG (e':=mkP i s x) M λw9 t9 Z=>ax (λ_=>True) trivial (Ci t9 (R w9 H g (p8.oth Z λI=>by have:=u _ I;omega) ?_)));exact((Ch.of_below l.drew:Ch q.wv w w7.drew).trans F λy a=>.inl a).add (aK (jT _ N) Z oo)
end
def Lo{K:KV}(h:bT .eql 107 H (.pointer none) (λa w=>cond a (K cN w) (bj H (λa=>aq Q 141 a 3 λa=>ld Q 133 a λa=>call Q 246 #[a,Z] K) w)) w):Gives Q 224 #[H,Z] w K:=aw func224 kr (mpK h)
def Cb(l0 i1 x3 i5 x7 n12 C3 C4 C5:oF)(zf:oD):=l0::i1::zf 2::x3::zf 4::i5::zf 6::x7::zT zf 8 4 (n12::zf 13::zf 14::C3::C4::C5::zT zf 18 15 ([]))
def pL(K:KV):KE:=kZ f204 [1,1] K
def Bd(K:KV):KE:=aj Q (cd f204 [1,0,1,0]) (pL K) (xx xf (pL K) 0) (rk f204 K)
section
variable {K:KV}{l0 i1 x3 i5 x7 n12 C3 C4 C5:oF}  
def WN{K:KV}(h:call Q 224 #[Z,H] (λa=>lN 172 a λb=>Bd K (Cb Z U Y uu uu uu a b (ci 0) (zV (zV (zV zu 2 [H]) 8 [cu 0,ci 0]) 13 [Z,H]))) w):Gives Q 204 #[Z,U,H,Y] w K:=aw func204 kr (mpK h)
def Tg(Inv:oF->oG->Prop)(μ:oF->oG->Nat)(f:Inv C5 w)(i:∀(a:oF) (d:oD) (w:oG) (m:Nat),Inv a w->m=μ a w ->
  lS a C4 (λb w=>cond b (bv Q 172 C3 a (λb=>ld Q 32 b λb=>call Q 154 #[l0,i1,b] λc=>bF .lss 2 c x3 λd w=>cond d (bF .sub 2 x3 c (λa=>K (.tuple #[b,a])) w) (nC a (λa w=>(Inv a w)/\((μ a w)<m)) w)) w) (pL K (Cb l0 i1 x3 i5 x7 (d 12) C3 C4 a (zV d 18 [b])) w)) w):Bd K (Cb l0 i1 x3 i5 x7 n12 C3 C4 C5 zf) w:=by refine aZ (cd f204 (b1 52)) (zr [(8,2),(11,2),(17,16)]) kr (vP [17] Inv) (vQ [17] μ) f ?_;intro e j g;have h:=i _ (zM zf (gd e) (zr [(8,2),(11,2),(17,16)])) j _ g rfl;revert h;generalize (pL K)=qc0;exact mpF
def Th(h:K (.tuple #[cu 0,ci 0]) w):pL K (Cb l0 i1 x3 i5 x7 n12 C3 C4 C5 zf) w:=mpK h
end
attribute [irreducible] pL Bd
def XT{K:KV}(h:bT .geq 2 H (ci 1) (λb w=>aT b true (λb=>bT .leq 2 H (ci 1125899906842624) (λa=>b [H,a]) w) (λk=>k [uu,uu] w) λa=>pick b (gd a 1) cF K) w):Gives Q 255 #[H] w K:=aw func255 kr (mpK h)
def Va{K:KV}(h:call Q 255 #[Z] (λa=>un Q .not a λb w=>aT b false (λb=>call Q 255 #[H] (λa=>un Q .not a λc=>b [H,a,c]) w) (λk=>k [uu,uu,uu] w) λa=>pick b cT (gd a 2) λa w=>cond a (K (ci 0) w) (bT .add 2 Z (ci 1) (λa=>bT .quo 2 a (ci 2) λa=>blt Q .min #[2,2] 2 #[false,false] #[H,a] K) w)) w):Gives Q 242 #[Z,H] w K:=aw func242 kr (mpK h)
def mU(of0 dA xb j4 n5:oF)(zf:oD):=of0::zf 1::dA::xb::j4::n5::zT zf 6 13 ([])
def jo(K:KV):KE:=kZ f236 [1,1,1] K
def Bi(K:KV):KE:=aj Q (cd f236 (b1 58)) (jo K) (xx xf (jo K) 0) (rk f236 K)
def pN(K:KV)(B1:KE):KE:=kY f236 (b1 467) B1 (xx xf (jo K) 0) K
def xk(K:KV)(B1:KE):KE:=aj Q (cd f236 (b1 466)) (pN K B1) (xx xf (jo K) 0) (rk f236 K)
section
variable {K:KV}{of0 dA xb j4 n5:oF}  
def WZ{K:KV}(h:Bi K (mU H (ci 0) (ci 0) (ci 1) uu zu) w):Gives Q 236 #[H] w K:=aw func236 kr (mpK h)
def TC(Inv:vI 3)(μ:vM 3)(j:Inv dA xb j4 w)(l:∀(b a d:oF) (f:oD) (w:oG) (m:Nat),Inv b a d w->m=μ b a d w ->
  bT .leq 3 d (ci 6) (λc w=>cond c (xk K (λe S=>(Inv (gd e 2) (gd e 3) (gd e 4) S)/\((μ (gd e 2) (gd e 3) (gd e 4) S)<m)) (mU of0 b a d (f 5) (zV f 6 [d,c])) w) (jo K (mU of0 b a d (f 5) (zV f 6 [d,c])) w)) w):Bi K (mU of0 dA xb j4 n5 zf) w:=by refine aZ (cd f236 (b1 116)) (zr [(2,16)]) kr (vP [2,3,4] Inv) (vQ [2,3,4] μ) j ?_;intro g i k;have h:=l _ _ _ (zM zf (gd g) (zr [(2,16)])) i _ k rfl;refine Eq.mp (qH (λc=>aj Q c _ _ _ _ i) (by kernel_rfl:(rep [1,0] (cd f236 (b1 466)) (cd f236 (b1 116)))=(cd f236 (b1 116)))) ?_;revert h;delta xk pN;generalize (cd f236 (b1 466))=xc0;generalize (jo K)=qc0;exact mpF
def TA(h:bS Q of0 #[j4] (λa=>bF .gtr 2 a xb λb w=>cond b (pN K B1 (mU of0 j4 a j4 a (zV zf 10 [of0,j4,a,a,xb,b,j4,a])) w) (pN K B1 (mU of0 dA xb j4 a (zV zf 10 [of0,j4,a,a,xb,b])) w)) w):xk K B1 (mU of0 dA xb j4 n5 zf) w:=by delta xk;revert h;generalize (pN K B1)=qc0;generalize (jo K)=qc1;exact mpF
def TD(h:K dA w):jo K (mU of0 dA xb j4 n5 zf) w:=mpK h
def JD(h:nC j4 (λa=>B1 (mU of0 dA xb a n5 (zV zf 8 [j4,a]))) w):pN K B1 (mU of0 dA xb j4 n5 zf) w:=by delta pN;revert h;generalize (jo K)=qc0;exact mpF
end
attribute [irreducible] jo Bi pN xk
def WY{K:KV}(h:box Q 38 U (λb=>box Q 3 H λc=>box Q 32 Z λa=>call Q 236 #[.func (.func 237) #[] #[c,b,a]] K) w):Gives Q 211 #[U,H,Z] w K:=aw func211 kr (mpK h)
def kU(j0 A2 j4 n5 x7 D5 D6 D7:oF)(zf:oD):=j0::zf 1::zf 2::A2::j4::n5::zf 6::x7::zT zf 8 19 (D5::D6::D7::zT zf 30 15 ([]))
def gV(K:KV):KE:=kZ f237 [1,1,1] K
def xR(K:KV):KE:=aj Q (cd f237 (b1 58)) (gV K) (xx xf (gV K) 0) (rk f237 K)
def mK(K:KV)(B1:KE):KE:=kY f237 (b1 935) B1 (xx xf (gV K) 0) K
def uD(K:KV)(B1:KE):KE:=aj Q (cd f237 (b1 934)) (mK K B1) (xx xf (gV K) 0) (rk f237 K)
section
variable {K:KV}{j0 A2 j4 n5 x7 D5 D6 D7:oF}  
def Tz{K:KV}(h:ld Q 3 U (λc=>bF .eql 3 H c λd w=>aT d false (λc=>bT .sub 3 H (ci 1) (λa=>aq Q 38 Z 0 λb=>bv Q 31 b a λd=>ld Q 4 d λe=>un Q .not e λf=>c [H,a,b,d,e,f]) w) (λk=>k [uu,uu,uu,uu,uu,uu] w) λa=>pick d cT (gd a 5) λe w=>aT e false (λd=>bT .sub 3 H (ci 1) (λa=>aq Q 38 Z 1 λb=>bv Q 31 b a λc=>ld Q 4 c λe=>d [H,a,b,c,e]) w) (λk=>k [uu,uu,uu,uu,uu] w) λb=>pick e cT (gd b 4) λf w=>cond f (K (ci 0) w) (aq Q 38 Z 3 (λg=>ld Q 35 g λh=>lN 35 h λi=>xR K (kU H Y uu (ci 0) uu h i (ci 0) (zV (zV zu 1 [U,Z]) 8 [H,c,d,d,gd a 0,gd a 1,gd a 2,gd a 3,gd a 4,gd a 5,e,e,gd b 0,gd b 1,gd b 2,gd b 3,gd b 4,f,g]))) w)) w):Gives Q 237 #[H,U,Z,Y] w K:=aw func237 kr (mpK h)
def QE(Inv:oF->oF->oG->Prop)(μ:oF->oF->oG->Nat)(i:Inv n5 D7 w)(k:∀(d a:oF) (e:oD) (w:oG) (m:Nat),Inv d a w->m=μ d a w ->
  lS a D6 (λb w=>cond b (uD K (λb S=>(Inv (gd b 5) (gd b 29) S)/\((μ (gd b 5) (gd b 29) S)<m)) (kU j0 A2 j4 d (e 7) D5 D6 a (zV e 30 [b])) w) (gV K (kU j0 A2 j4 d (e 7) D5 D6 a (zV e 30 [b])) w)) w):xR K (kU j0 A2 j4 n5 x7 D5 D6 D7 zf) w:=by
 refine aZ (cd f237 (b1 116)) (zr [(5,1),(7,1),(29,15)]) kr (vP [5,29] Inv) (vQ [5,29] μ) i ?_;intro f g j;have h:=k _ _ (zM zf (gd f) (zr [(5,1),(7,1),(29,15)])) g _ j rfl;refine Eq.mp (qH (λc=>aj Q c _ _ _ _ g) (by kernel_rfl:(rep [1,1,0] (cd f237 (b1 934)) (cd f237 (b1 116)))=(cd f237 (b1 116)))) ?_;revert h;delta uD mK;generalize (cd f237 (b1 934))=xc0
 generalize (gV K)=qc0;exact mpF
def QD(h:bv Q 35 D5 D7 (λa=>ld Q 58 a λb=>alc Q 58 λc=>sto Q 58 c b λ_=>aq Q 58 c 0 λd=>ld Q 32 d λe=>ld Q 32 A2 λf=>bF .eql 32 e f λg w=>cond g (aq Q 58 c 2 (λh=>ld Q 56 h λi=>call Q 202 #[i,j0] λj=>blt Q .max #[2,2] 2 #[false,false] #[n5,j] λk=>mK K B1 (kU j0 A2 j4 k c D5 D6 D7 (zV zf 31 [a,b,d,e,f,g,n5,h,i,j0,j,k]))) w) (mK K B1 (kU j0 A2 j4 n5 c D5 D6 D7 (zV zf 31 [a,b,d,e,f,g])) w)) w):uD K B1 (kU j0 A2 j4 n5 x7 D5 D6 D7 zf) w:=by delta uD;revert h;generalize (mK K B1)=qc0;generalize (gV K)=qc1;exact mpF
def QF(h:K n5 w):gV K (kU j0 A2 j4 n5 x7 D5 D6 D7 zf) w:=mpK h
def FZ(h:nC D7 (λa=>B1 (kU j0 A2 j4 n5 x7 D5 D6 a (zV zf 43 [a]))) w):mK K B1 (kU j0 A2 j4 n5 x7 D5 D6 D7 zf) w:=by delta mK;revert h;generalize (gV K)=qc0;exact mpF
end
attribute [irreducible] gV xR mK uD
def PI.nle{s:PL}(h:PI s):s.N.length<=30:=by
 rw[Vz λx f=>by
  obtain⟨o,q,a,b,c,d,e,_⟩:=h.ids x f;exact⟨o,q,a,b,c,d,e⟩]
 have g:=h.own 1;have i:=h.own 2;have j:=h.own 3;have k:=h.own 4;have l:=h.own 5;have m:=h.own 6;omega
def DW(s:PL)(i a:Int):Int:=if bO i=true then Kp (aN s.N a) (i-1).toNat else 0
def zg2{k:Nat}(a:k<6):0<=Kp A k:=by
 rw[Yu A a];cases h:nu A with
 | false=>exact Int.le_refl _
 | true =>
  unfold nu at h;simp only[oM,jR,jQ,oP]at h;exact h.1.2 k a
def zgg{s:PL}{i node:Int}:0<=DW s i node:=by
 unfold DW;split
 .rename_i h;unfold bO at h;simp only[oM,oP]at h;exact zg2 oo
 .exact Int.le_refl _
def RO{K:KV}(h:K (pA b (o+0)) w):aq Q 58 (pA b o) 0 K w:=aQ kr h
def zdR{K:KV}(h:K (pA b (o+2)) w):aq Q 58 (pA b o) 2 K w:=aQ kr h
section
variable  {K:KV}{q:LB}{s:PL}
def zii{B n:Nat}{L:List Int}{K2:oF->KV}(k:w.ownsRow B 32 1 (.slice a n c) n (L.map u6))(i:L.length=n)(e:L[j]? = some x)(h:∀u,K2 u (u6 x) w):bv Q 172 (.slice a n c) (iv (j:Nat)) (λu w=>ld Q 32 u (K2 u) w) w:=by
 have l:j<n:=by rw[<-i];exact(gS e).1
 obtain⟨g,b,rfl,f⟩:=iM k oo;refine gO underlying172 (s:=1) kf oo oo ?_;rw[oQ];refine lK (v:=u6 x) f.blk ?_ (h _);have d:(b.take (n*1))[j]? = some (u6 x):=by rw[f.take,qC,e];rfl
 rw[jN oo]at d;rw[oK,Nat.mul_one];exact d
def zi0{i d:Int}(h:PM w q s)(hi:PI s)(A:∀w' a b,Below w.heap.size w w'->K (.tuple #[u6 a,iv b]) w'):call Q 204 #[pB q.p,iv i,u6 d,iv x] K w:=by
 obtain⟨O,o⟩:=hi.tk;have L:=hi.nle;refine ao (goK func204) (WN (ao (goK func224) (Lo (Dy (aD (au (Bw (lK (v:=pB q.t) h.b (by rw[oK];exact h.c18) (Qs o h.tm (by unfold tr;rw[oY];omega) λE a c r y=>bM underlying172 ?_)))))))));have n:(fy (tr s.N) d).length<=(tr s.N).length+1:=SB _ _;have G:(tr s.N).length=s.N.length:=by unfold tr;rw[oY]
 generalize fy (tr s.N) d=P at r n |-;refine Tg (Inv:=λj I=>∃k:Nat,j=iv (k:Nat)/\k<=P.length/\Below E.heap.size E I) (μ:=λj _=>P.length-(intOf j).toNat) ⟨0,rfl,qG _,jT _ _⟩ ?_;rintro _ J F M ⟨k,rfl,C,g⟩ m;have e:=y.trans (g.mono y.size);refine aW ?_;by_cases f:k<P.length
 .have D:P[k]? = some P[k]:=gE f;generalize P[k]=id at D;have u:=dl r (w':=F) λk C=>g.block k (jS r k C).2;refine aG oo (zii u rfl D λ_=>Nc (h.below e) hi λH z=>aW ?_);have l:=e.trans (z.mono e.size);by_cases B:(if bO i=true then Kp (aN s.N id) (i-1).toNat else 0)<x
  .exact aG B (nT (A H _ _ l))
  .refine aB B (aY oo oo ⟨⟨k+1,qH iv (by push_cast;rfl),f,g.trans (z.mono g.size)⟩,?_⟩);rw[m];show P.length-((k:Int)+1).toNat<P.length-(k:Int).toNat;omega
 .exact aB oo (Th (A F 0 0 e))
def zbY(h:∀b,K (.bool b) w):call Q 255 #[iv x] K w:=by
 refine ao (goK func255) (XT (cJ ?_));by_cases a:x≥1
 .exact ck a (kq (bR a (h _)))
 .exact dt a (bG a (h _))
def zgL{y:Int}(h:∀z,K (iv z) w):call Q 242 #[iv x,iv y] K w:=by
 refine ao (goK func242) (Va (zbY λb=>bH ?_));cases b with
 | false=>exact iQ (dD (bc (h 0)))
 | true =>
  refine eK (zbY λb=>bH (cA ?_));cases b with
  | false=>exact bc (h 0)
  | true=>exact aD (ze (ZO oo (zb7 (h _))))
def ziZ{x:ND}(b:x.A.length=54){K2:oF->KV}(h:∀S,blk S w.heap.size 58 (ndC x)->Below w.heap.size w S->K2 (pB w.heap.size) (undef) S):alc Q 58 (λp=>sto Q 58 p (.agg (ndC x).toArray) (K2 p)) w:=by
 refine cD (z:=.agg (ndE ⟨0,0,z54⟩).toArray) kr λg a d j=>?_;have a:=cZ a
 have e:=zam b;refine fY (n:=56) (vs:=ndC x) kr e a (by rw[Hm];omega) (by rw[<-YK b];exact zan x) λi c f=>?_;rw[qX,oV,oS (by rw[Hm];omega),oW]at c;exact h i c (aK d f oA)
def Oi(s:PL)(i j:Int):Prop:=1<=j/\j<=6/\j≠i/\s.I.getD (j-1).toNat false=true/\s.L.getD (j-1).toNat false=false
def zh5{t:STA}{i d j:Int}(M:1<=j/\j<=6)(k:SK w t)(S:t.I=s.I)(T:t.L=s.L)(hi:blk w c 3 [iv i])(D:blk w o 38 (saC t))(N:blk w g 32 [u6 d])(h:∀w' n,(0<n->Oi s i j)->Below w.heap.size w w'->K (iv n) w'):call Q 237 #[iv j,pB c,pB o,pB g] K w:=by
 refine ao (goK func237) (Tz (lK (v:=iv i) hi rfl (aU ?_)));have G:∀{w':oG},Below w.heap.size w w'->K (iv 0) w':=λb=>h _ 0 (λh=>by omega) b;by_cases a:j=i
 .exact kW a (bR a (iQ (dD (bc (G (jT _ _))))))
 have r:(j-1).toNat<6:=by omega
 have H:j-1=((j-1).toNat:Nat):=by omega
 refine dL a (co oo oo (My ?_));rw[H];refine fB underlying31 (s:=1) kf oo oo ?_;refine lK (v:=.bool (t.I.getD (j-1).toNat false)) D (by rw[oQ,Nat.mul_one];exact(qH (λn=>(saC t)[n]?) oo).trans (zjA k r)) (bH (bG a ?_));cases U:t.I.getD (j-1).toNat false with
 | false=>exact iQ (dD (bc (G (jT _ _))))
 | true =>
 refine eK (co oo oo (Mz ?_));rw[H];refine fB underlying31 (s:=1) kf oo oo ?_;refine lK (v:=.bool (t.L.getD (j-1).toNat false)) D (by rw[oQ,Nat.mul_one];exact(qH (λn=>(saC t)[n]?) oo).trans (zfu k r)) (cA ?_);cases V:t.L.getD (j-1).toNat false with
 | true=>exact bc (G (jT _ _))
 | false =>
 have W:Oi s i j:=⟨M.1,M.2,a,by rw[<-S];exact U,by rw[<-T];exact V⟩
 have B:=Ee k.i6 k.l6 k.v6;refine aD (nP (lK (v:=.slice t.na t.nodes.length t.nc) D B (bM underlying35 ?_)));have J:=k.few;refine QE (Inv:=λn i Y=>∃(q:Nat) (v:Int),i=iv (q:Nat)/\n=iv v/\q<=t.nodes.length/\Below w.heap.size w Y) (μ:=λ_ i _=>t.nodes.length-(intOf i).toNat) ⟨0,0,rfl,rfl,qG _,jT _ _⟩ ?_;rintro _ _ Z X mu ⟨q,v,rfl,rfl,hq,u⟩ C;refine aW ?_
 by_cases f:q<t.nodes.length
 .have E:t.nodes[q]? = some t.nodes[q]:=gE f;generalize t.nodes[q]=x at E;have F:=(k.bel u oA).nr;obtain⟨p1,o1,m⟩:=F.some_ oo;have y:=F.A54 x (mO E);refine aG oo (QD ?_);rw[m];refine gO underlying35 (s:=56) kf oo oo ?_;rw[oQ]
  refine zei F m E (ziZ y λw3 O P=>?_);have e:=u.trans (P.mono u.size);have z:=ae e N N.lt;refine RO (lK (v:=u6 x.id) O rfl (lK (v:=u6 d) z rfl (aU ?_)));have l:t.nodes.length-(intOf (iv ((q:Int)+1))).toNat<mu:=by rw[C];show t.nodes.length-((q:Int)+1).toNat<t.nodes.length-((q:Nat):Int).toNat;omega
  by_cases p:x.id=d
  .refine aG p (zdR (ldA (n:=54) (vs:=x.A.map iv) underlying56 rfl kr O (by
    show ((ndC x).drop 2).take 54=_;unfold ndC;rw[List.drop_succ_cons,List.drop_succ_cons,oX,tL (by simp[y])]) (by simp[y]) (Ng y λa R=>Uf (FZ (aY oo oo ⟨⟨q+1,_,qH iv (by push_cast;rfl),rfl,f,e.trans (R.mono e.size)⟩,l⟩)))))
  .exact aB p (FZ (aY oo oo ⟨⟨q+1,v,qH iv (by push_cast;rfl),rfl,f,e⟩,l⟩))
 .exact aB oo (QF (h X v (λ_=>W) u))
def ziU{t:STA}{i c:Int}(k:SK w t)(H:t.I=s.I)(J:t.L=s.L)(h:∀w' j,(j=0\/Oi s i j)->Below w.heap.size w w'->K (iv j) w'):call Q 211 #[.agg (saC t).toArray,iv i,u6 c] K w:=by
 refine ao (goK func211) (WY (bU λq e B U=>bU λE f F V=>bU λw3 r C W=>?_));have e:=cZ e
 have f:blk E q.heap.size 3 [iv i]:=f;have r:blk w3 E.heap.size 32 [u6 c]:=r;have g:Below q.heap.size q w3:=F.trans (C.mono oo);have b:=B.trans (g.mono B.size);have e:=ae g e e.lt;have f:=ae C f f.lt;refine ao (goK func236) (WZ ?_)
 refine TC (Inv:=λa m j R=>∃(x y z:Int),a=iv x/\m=iv y/\j=iv z/\1<=z/\z<=7/\0<=y/\(x=0\/Oi s i x)/\Below w3.heap.size w3 R) (μ:=λ_ _ j _=>7-(intOf j).toNat)
  ⟨0,0,1,rfl,rfl,rfl,by omega,by omega,by omega,.inl rfl,jT _ _⟩ ?_
 rintro _ _ _ S P mu ⟨x,y,z,rfl,rfl,rfl,M,T,O,D,d⟩ A;refine kq ?_;by_cases v:z<=6
 .have o:7-(intOf (iv (z+1))).toNat<mu:=by rw[A];show 7-(z+1).toNat<7-z.toNat;omega
  have u:=b.trans (d.mono b.size);refine aG v (TA (cB rfl (zh5 ⟨M,v⟩ (k.bel u oA) H J (ae d f f.lt) (ae d e e.lt) (ae d r r.lt) λX n N G=>dE ?_)));have l:=d.trans (G.mono d.size);by_cases p:y<n
  .exact aG p (JD (aY oo oo ⟨⟨z,n,z+1,rfl,rfl,rfl,by omega,by omega,by omega,.inr (N oo),l⟩,o⟩))
  .exact aB p (JD (aY oo oo ⟨⟨x,y,z+1,rfl,rfl,rfl,by omega,by omega,O,D,l⟩,o⟩))
 .exact aB v (TD (h P x D (b.trans (d.mono b.size))))
end
section
open Go.ChangeMaps
def mkP_q{l:PL}{x:AK}:(mkP i l x).q=i:=by show ((i:Int)+1-1).toNat=i;omega
def zb8{l:PL}{x:AK}{r:Bool}(h:r=true↔evC (mkP i l x)=evC evZ):r=false:=by
 cases r with
 | false=>rfl
 | true =>
  have:=qH (λl=>l[0]?) (h.1 rfl)
  simp[evC,mkP,mkE,iv,evZ]at this;omega
abbrev rpC(R:RpB)(i:Nat):oE:=[iv ((i+1:Nat)),pB R.q.p,pB R.g,pB R.h,pB R.e,pB R.d]
section
variable  {K:KV}{R:RpB}  {l:PL}{W:HM}{Rw:List jc}{c:Int}{L:List (List Int)}{x:AK}
def XR{y:oG}{e:Int}{a:EV}(d:blk y z 49 (evC evZ))(c:blk y b 49 (evC a))(h:∀S,Oth b y S->K (.tuple #[evV evZ,ci e]) S):kt K (eX U H Z (pB b) (pB z) (ci e) (.bool false) zf) y :=
 yf (aD (yg (dN d (fG (e':=evZ) c λi g f=>Ci g (h i f)))))
def XS{y wB:oG}{e I:EV}(h:RpM w0 R (i+1) l W Rw c L)(hi:PI l)(M:fW l.V e=true)(m:dI e=true)(J:c<1000000)(P:PM y R.q (eff e l))(c2:Ch R.q.wv w0 y)(x:blk y z 49 (evC e))(E:blk y b 49 (evC I))(w:∀k∈R.q.l,k<b)(D:Below wB.heap.size wB w0)(u:wB.heap.size<=b)(j:∀w' a,RpM w' R (i+1) (eff e l) W a (c+1) L->Ch (RpF R Rw) wB w'->(∀k∈lrB a,k∈lrB Rw\/wB.heap.size<=k)->nQ a=Fz (nQ Rw) e c->K (.tuple #[evV e,ci 0]) w'):kt K (eX (pB R.p) Z1 N2 (pB b) (pB z) (ci 0) (.bool true) zf) y:=by
 have Z:=h.b.ch c2 (h.wq h.pq);have C:=h.g.ch c2 λk f=>h.wq (h.gq k f);refine yf (bc ?_);refine ax (λv=>blk v R.p 119 (rpC R i)/\blk v z 49 (evC e)) ⟨Z.drew,x.drew⟩ ?_;refine ac (λv d _ j=>au j) (ac (λv d _ j=>RP j) (ac (v:=pB R.g) (λv d _ j=>lK d.1 rfl j) (ac (λv d _ j=>dN d.2 j) ?_)));have s:=c2.add (jT _ y).drew;have d2:y.drew.heap.size=y.heap.size:=rfl
 have sz:=c2.size;have T:=D.size;refine zcR h hi M m J P.drew s λX a S t O N=>?_;have o:∀{k:Nat} {H:oE},blk y k 49 H->k∉R.g::lrB Rw:=λf r=>(oO.1 r).elim (λe=>f.ne C.b dc e) λr=>C.ty f dc r;have A:=x.drew.ch t (o x);have n:=E.drew.ch t (o E)
 refine yg (dN A (fG (e':=e) n λY U F=>Ci U (j Y a (S.othE (B:=b) w n oA F) ?_ (λk f=>(O k f).imp id λr=>by omega) N)));have Z1:Ch (RpF R Rw) wB w0:=Ch.of_below D;have G:Ch (RpF R Rw) wB y:=Z1.trans c2 λk f=>.inl (fZ.2 (.inl f))
 have N2:=(G.add (jT _ y).drew).trans t λk f=>.inl (fZ.2 ((oO.1 f).elim (λh=>.inr (.inl h)) λh=>.inr (.inr (.inl h))));exact N2.add (aK (jT _ X) F u)
def zbZ(h:RpM w R (i+1) l W Rw c L)(J:PI l)(hi:i<6)(hG:l.G.length<=1000000)(hc:c<1000000)(no:∀w' e,NoP i l x e->Below w.heap.size w w'->K (.tuple #[evV evZ,ci e]) w')(T:∀w' g,eC (mkP i l x) l=0->sx ((i:Int)+1) l x->RpM w' R (i+1) (eff (mkP i l x) l) W g (c+1) L->Ch (RpF R Rw) w w'->(∀k∈lrB g,k∈lrB Rw\/w.heap.size<=k)->nQ g=Fz (nQ Rw) (mkP i l x) c->K (.tuple #[evV (mkP i l x),ci 0]) w'):call Q 203 #[pB R.p,.agg (akC x).toArray] K w:=by
 have u:=h.pm.lt;refine ao (goK func203) (Ju (Me λw1 z1 b1 s1=>jj λN M b2 s2=>?_));have O:=b1.trans (b2.mono oo);have h2:=h.below O;have z2:=ae b2 z1 z1.lt;refine ax (λy=>blk y R.p 119 (rpC R i)/\blk y w.heap.size 42 (akC x)) ⟨h2.b.drew,z2.drew⟩ ?_;refine ac (λy d _ a=>au a) (ac (λy d _ a=>rX a) (ac (v:=pB R.q.p) (λy d _ a=>lK d.1 rfl a) ?_))
 refine ac (λy d _ a=>au a) (ac (λy d _ a=>th a) (ac (v:=iv ((i:Int)+1)) (λy d _ a=>lK (v:=iv ((i:Int)+1)) d.1 (show some (iv ((i+1:Nat)))=some (iv ((i:Int)+1))from qH (λz=>some (iv z)) (by push_cast;rfl)) a) (ac (λy d _ a=>Gs d.2 a) ?_)));have m:=h2.below (jT _ N).drew;have f:Below w.heap.size w N.drew:=O.drew
 have nq:∀k,w.heap.size<=k->k∉R.q.wv:=λk X hh=>by have:=u k (LB.wl k hh);omega
 have l2:=M.lt;have ah:w1.heap.size=w.heap.size+1:=s1;have ag:N.drew.heap.size=N.heap.size:=rfl;have A:eC (mkP i l x) l=0->fW l.V (mkP i l x)=true/\dI (mkP i l x)=true:=λo=>⟨((qn J).1 o).rdy,((qn J).1 o).may⟩
 refine⟨?_,?_⟩
 .refine zcV m.pm J hi hG (λF e3 ab t=>?_) λF o D p3 c3=>?_
  .refine ax (λ_=>True) trivial (ac (λy _ _ a=>bK a) (ac (λy _ _ a=>bJ a) ?_));have S:=(f.trans (t.mono f.size))
   have B:=ae t M.drew M.drew.lt;refine jj λY I C s4=>aI trivial (fG (e':=evZ) I λw5 n s=>aI trivial ?_);have j:Below F.heap.size F w5:=aK C s oA;refine dN n (cE (vs:=evC evZ) kr (zh 6 oo kr kr (Az _) (Az _) λr E=>?_));rw[E.2 rfl]
   exact XR n (ae j B B.lt) λH o6=>no H e3 ab (aK (S.trans (j.mono S.size)) o6 oo)
  .have B:=M.drew.ch c3 (nq _ oo);have af:=c3.size;refine ax (λ_=>True) trivial (ac (λy _ _ a=>bK a) (ac (λy _ _ a=>bJ a) ?_));refine jj λY I C s4=>aI trivial (fG (e':=mkP i l x) I λw5 n s=>aI trivial ?_);have j:Below F.heap.size F w5:=aK C s oA
   refine dN n (cE (vs:=evC evZ) kr (zh 6 oo kr kr (Az _) (Az _) λr E=>?_));rw[zb8 E];exact XS (wB:=w) m J (A o).1 (A o).2 hc (p3.below j) (c3.add (j.mono af)) n (ae j B B.lt) (λk X=>by have:=u k X;omega) f oo λH g Z a2 a3 a4=>T H g o D Z a2 a3 a4
 .refine jj λF z3 t s3=>aI (by
   have:=m.below t
   exact⟨this.b,ae t z2.drew z2.drew.lt⟩) ?_
  have h3:=m.below t;have B:=ae t M.drew M.drew.lt;have P:=f.trans (t.mono f.size);refine zcV h3.pm J hi hG (λY e4 ad C=>?_) λY o D p4 U=>?_
  .have I:=ae C z3 z3.lt;have t4:=ae C B B.lt;have aa:=P.trans (C.mono P.size);refine ax (λ_=>True) trivial (ac (λy _ _ a=>bK a) (ac (λy _ _ a=>bJ a) ?_));refine fG (e':=evZ) I λw5 n s=>aI trivial ?_;refine dN n (cE (vs:=evC evZ) kr (zh 6 oo kr kr (Az _) (Az _) λr E=>?_));rw[E.2 rfl]
   exact XR n (s.blk t4 oo) λH o6=>no H e4 ad (aK (aK aa s oo) o6 oo)
  .have I:=z3.ch U (nq _ oo);have t4:=B.ch U (nq _ oo);refine ax (λ_=>True) trivial (ac (λy _ _ a=>bK a) (ac (λy _ _ a=>bJ a) ?_));refine fG (e':=mkP i l x) I λw5 n s=>aI trivial ?_;have ai:=U.size;refine dN n (cE (vs:=evC evZ) kr (zh 6 oo kr kr (Az _) (Az _) λr E=>?_));rw[zb8 E]
   have c5:Ch R.q.wv N.drew w5:=((Ch.of_below t:Ch R.q.wv N.drew F).trans U λy a=>.inl a).add (aK (jT _ Y) s oo);exact XS (wB:=w) m J (A o).1 (A o).2 hc (p4.oth s λa=>by have:=u _ a;omega) c5 n (s.blk t4 oo) (λk X=>by have:=u k X;omega) f oo λH g Z a2 a3 a4=>T H g o D Z a2 a3 a4
def zhR{f t n a:Int}{V:List Int}(h:RpM w R (i+1) l W Rw c L)(hV:V.length=6)(hp:PI l)(hi:i<6)(hG:l.G.length<=1000000)(hc:c<1000000)(no:∀w',Below w.heap.size w w'->K (.slice none 0 0) w')(X:∀w' m z av cv,eC (mkP i l ⟨5,n,f,z,0,0⟩) l=0->VR w' av 1 cv [mkP i l ⟨5,n,f,z,0,0⟩]->RpM w' R (i+1) (eff (mkP i l ⟨5,n,f,z,0,0⟩) l) W m (c+1) L->Ch (RpF R Rw) w w'->(∀k∈lrB m,k∈lrB Rw\/w.heap.size<=k)->nQ m=Fz (nQ Rw) (mkP i l ⟨5,n,f,z,0,0⟩) c->K (.slice av 1 cv) w'):call Q 218 #[pB R.p,.agg (mgC 2 f t V Z1 n a).toArray] K w:=by
 generalize O:mgC 2 f t V Z1 n a=ms;have M:(Value.agg ms.toArray).cells.toList=ms:=by simp[Value.cells]
 have m1:ms[1]? = some (iv f):=by rw[<-O];rfl
 have A:ms[10]? = some (u6 n):=by
  rw[<-O];unfold mgC;rw[show 10=3+7 by rfl,fh (n:=3) rfl,show 7=6+1 by rfl,fh (n:=6) (by rw[bE,hV])];rfl
 have S:ms[11]? = some (iv a):=by
  rw[<-O];unfold mgC;rw[show 11=3+8 by rfl,fh (n:=3) rfl,show 8=6+2 by rfl,fh (n:=6) (by rw[bE,hV])];rfl
 refine ao (goK func218) (FQ (bU λB C E s1=>?_));rw[M]at C;have h1:=h.below E;refine ax (λy=>blk y R.p 119 (rpC R i)/\blk y w.heap.size 268 ms) ⟨h1.b.drew,C.drew⟩ ?_;refine ac (λy d _ g=>au g) (ac (λy d _ g=>rX g) (ac (v:=pB R.q.p) (λy d _ g=>lK d.1 rfl g) ?_))
 refine ac (λy d _ g=>au g) (ac (λy d _ g=>th g) (ac (v:=iv ((i:Int)+1)) (λy d _ g=>lK (v:=iv ((i:Int)+1)) d.1 (show some (iv ((i+1:Nat)))=some (iv ((i:Int)+1))from qH (λz=>some (iv z)) (by push_cast;rfl)) g) ?_));refine ac (λy d _ g=>Mt g) (ac (v:=u6 n) (λy d _ g=>lK d.2 A g) (ac (λy d _ g=>Mu g) (ac (v:=iv a) (λy d _ g=>lK d.2 S g) ?_)))
 have J:=h1.below (jT _ B).drew;refine Nc J.pm hp λw2 b2=>?_;have r:Below B.heap.size B w2:=(jT _ B).drew.trans b2;have j:=E.trans (r.mono E.size);have h2:=h.below j;have Y:=ae r C C.lt;refine aI ⟨h2.b,Y⟩ (zgL λz=>ax (λ_=>True) trivial (aU ?_));by_cases hz:z=0
 .exact aG hz (no w2 j)
 refine aB hz (Mt (lK (v:=u6 n) Y A (Bx (lK (v:=iv f) Y m1 ?_))));refine cE (vs:=akC ⟨5,n,f,z,0,0⟩) kr (zbZ h2 hp hi hG hc (λU e P b3=>bK (bJ ?_)) λU m h0 _ r3 c3 n3 i3=>bK (bJ ?_))
 .have o:=j.trans (b3.mono j.size);refine jj λw4 Z F s4=>fG (e':=evZ) Z λw5 z5 T=>bo ?_;have D:Below w.heap.size w w5:=aK (o.trans (F.mono o.size)) T o.size;exact aG (P.elim (λh=>qI rfl h.1.1) λh=>by rw[h.2.2];exact h.2.1) (no w5 D)
 .refine jj λw4 Z F s4=>fG (e':=mkP i l ⟨5,n,f,z,0,0⟩) Z λw5 z5 T=>bo (aB oB (dN z5 ?_));have u:Below U.heap.size U w5:=aK F T oA;refine qb [evV (mkP i l ⟨5,n,f,z,0,0⟩)] underlying100 (s:=14) kr kr oo rfl oB dc rfl (by
   intro v hv;rw[mS hv];rfl) λw6 I b6 s6=>?_
  have x:=u.trans (b6.mono u.size);have aa:=j.size;have s3:=c3.size;have H:Ch (RpF R Rw) w w6:=((Ch.of_below j:Ch (RpF R Rw) w w2).trans c3 λk N=>.inl N).add (x.mono oo);have I:blk w6 w5.heap.size 49 (evC (mkP i l ⟨5,n,f,z,0,0⟩)):=by simpa[Value.cells,evV]using I
  exact X w6 m z _ _ h0 (VR.one I) (r3.below x) H (λk N=>(n3 k N).imp id λa=>by omega) i3
def zcn{n a f t:Int}{V:List Int}(q:n≠0)(j:1<=a/\a<=Ca)(d:V.length=6)(y:leV V (List.replicate 6 1099511627776)=true)(u:bO f=true)(x:bO t=true)(e:f≠t)(h:∀S,Below w.heap.size w S->K (.bool true) S):call Q 191 #[.agg (mgC 2 f t V (.slice none 0 0) n a).toArray] K w:=by
 generalize c:mgC 2 f t V (.slice none 0 0) n a=ms;have l:(Value.agg ms.toArray).cells.toList=ms:=by simp[Value.cells]
 have z:ms[0]? = some (kv8 2):=by rw[<-c];rfl
 have r:ms[1]? = some (iv f):=by rw[<-c];rfl
 have s:ms[2]? = some (iv t):=by rw[<-c];rfl
 have A:(ms.drop 3).take 6=vCs V:=by
  rw[<-c];unfold mgC;rw[show 3=[Value.int .u8 2,iv f,iv t].length+0 by rfl,qS,oS oB];simp only[oV,oZ,List.length_nil,jO];rw[oX,qJ (by rw[bE];omega),tL (by rw[bE];omega)]
 have B:ms[9]? = some (.slice none 0 0):=by
  rw[<-c];unfold mgC;rw[show 9=3+6 by rfl,fh (n:=3) rfl,show 6=6+0 by rfl,fh (n:=6) (by rw[bE,d])];rfl
 have m:ms[10]? = some (u6 n):=by
  rw[<-c];unfold mgC;rw[show 10=3+7 by rfl,fh (n:=3) rfl,show 7=6+1 by rfl,fh (n:=6) (by rw[bE,d])];rfl
 have i:ms[11]? = some (iv a):=by
  rw[<-c];unfold mgC;rw[show 11=3+8 by rfl,fh (n:=3) rfl,show 8=6+2 by rfl,fh (n:=6) (by rw[bE,d])];rfl
 refine ao (goK func191) (Lu (bU λE b o D=>?_));rw[l]at b;refine Bx (lK (v:=iv f) b r (Uh (bH ?_)));rw[u];refine eK (yE (lK (v:=iv t) b s (Uh (bH ?_))));rw[x];refine cA (eK (Bx (lK (v:=iv f) b r (yE (lK (v:=iv t) b s (aU (cA (dL e ?_))))))));refine RN (ldA (n:=6) (vs:=vCs V) underlying34 rfl kr b A (by rw[bE];exact d) (Zj d λC p=>bH ?_));rw[y]
 have g:=ae p b b.lt;have k:=o.trans (p.mono o.size);refine bG e (aD (RM (lK (v:=kv8 2) g z (IC (aU (aB dc (aU (Sp (aG rfl ?_)))))))));unfold Ca at j;refine DL (lK (v:=.slice none 0 0) g B (bM underlying100 (aU (ck oB ?_))));refine Mt (lK (v:=u6 n) g m (bo (bR oB (ck q ?_))));refine Mu (lK (v:=iv a) g i (cJ (bR q (ck j.1 ?_))))
 exact Mu (lK (v:=iv a) g i (kq (bR j.1 (by have:=h C k;simpa[gd,j.2]using this))))
end
def StpX.nz{d:oG}{X X':RpX}(c:StpX S d X X')(a:∀k∈AF X,k<w.heap.size)(e:w.heap.size<=z)(f:z<S.heap.size):z∉AF X':=λb =>
 (c.af z b).elim (λh=>by have:=a z h;omega) λh=>by omega
def RepW.oth{X:RpX}{s:RS}(h:RepW w i X s)(o:Oth z w S)(b:z∉AF X):RepW S i X s:=h.keep λk a=>o.other k λe=>b (e ▸ a)
def StpX.oth{X X':RpX}(h:StpX w S X X')(o:Oth z S O)(a:w.heap.size<=z):StpX w O X X' :=
 ⟨h.R,h.m,h.ch.add (aK (jT _ S) o a),h.new⟩
def ziX(i:Nat)(s s':RS)(x:AK)(v:oF):Prop:=s'=s/\(∃e,NoP i s.l x e/\v=.tuple #[evV evZ,ci e])\/eC (mkP i s.l x) s.l=0/\sx ((i:Int)+1) s.l x/\s'=⟨eff (mkP i s.l x) s.l,s.A++[mkP i s.l x],s.P⟩/\v=.tuple #[evV (mkP i s.l x),ci 0]
section
variable  {K:KV}  {X:RpX}{s:RS}{x:AK}
def RepW.add{b:oG}{a:List jc}{e:EV}(h:RepW S i X s)(d:e.q<6)(f:RpM b X.R (i+1) (eff e s.l) X.W a ((s.A.length:Nat)+1) s.P)(c:Ch (RpF X.R X.Rw) S b)(i3:nQ a=Fz (nQ X.Rw) e (s.A.length:Nat)):RepW b i {X with Rw:=a} ⟨eff e s.l,s.A++[e],s.P⟩:=by
 refine h.turn ?_ ?_ c
 .have:((s.A++[e]).length:Int)=(s.A.length:Nat)+1:=by rw[oT];push_cast;rfl
  show RpM b X.R (i+1) (eff e s.l) X.W a ((s.A++[e]).length:Nat) s.P;rw[this];exact f
 .show nQ a=yi (s.A++[e]);rw[i3,h.it,UF d]
def zcU{e a:EV}{v:oF}(c:blk w b 49 (evC a))(h:∀S,Oth b w S->K (.tuple #[evV a,v]) S):gh K (gM (pB X.R.p) Y H Z (pB b) v U zf) w :=
 Jr (dN c (fG (e':=a) c λg f d=>Ci f (h g d)))
def zcL{F:Int}(h:RepW w i X s)(hp:PI s.l)(hi:i<6)(hG:s.l.G.length<=1000000)(hA:s.A.length<1000000)(c:∀w' X' s' v,StpX w w' X X'->RepW w' i X' s'->ziX i s s' x v->(x.r=0->eC (mkP i s.l x) s.l=0->X'.ws=X.ws)->X'.W=X.W->K v w'):call Q 187 #[pB X.R.p,.agg (akC x).toArray,u6 F] K w:=by
 have hX:=h.lt;refine ao (goK func187) (LI (Me λm z1 b1 s1=>jj λw2 J b2 s2=>Lf (aD ?_)));have g:=b1.trans (b2.mono oo);have Z:=h.below g;have z2:=ae b2 z1 z1.lt;have l2:=J.lt;have t:w.heap.size<=m.heap.size:=by omega
 refine Gs z2 (zbZ Z.rp hp hi hG oo (λw3 e E T=>bK (bJ ?_)) λw3 O Y ab r3 U n3 i3=>bK (bJ ?_))
 .have P:=g.trans (T.mono g.size);have t3:=ae T J J.lt;have z:m.heap.size∉AF X:=λD=>by have:=hX _ D;omega
  refine fG (e':=evZ) t3 λw4 u H=>aU ?_;have f:Below w.heap.size w w4:=aK P H t;have B:=h.below f;have N:=H.blk (ae T z2 z2.lt) (by omega:w.heap.size≠m.heap.size)
  have o:∀{a4:oF} {zf:oD} {w5:oG} {X':RpX},StpX w w5 X X'->RepW w5 i X' s->X'.W=X.W->m.heap.size∉AF X'->blk w5 m.heap.size 49 (evC evZ)->gh K (gM (pB X.R.p) (.agg (akC x).toArray) (u6 F) (pB w.heap.size) (pB m.heap.size) (ci e) a4 zf) w5:=λhs hr hW hz ht =>
   zcU (X:=X) (e:=evZ) ht λM o6=>c M _ s _ (hs.oth o6 t) (hr.oth o6 hz) (.inl ⟨rfl,e,E,rfl⟩) (λa Y=>qI Y (E.old a)) hW
  by_cases L:e=11
  .refine ck L (yB (lK (v:=kv8 x.k) N rfl (aU (bR L (uf ?_)))));by_cases hk:x.k=3
   .refine aG hk <|ax (λy=>blk y X.R.p 119 (rpC X.R i)/\blk y w.heap.size 42 (akC x)) ⟨B.rp.b.drew,N.drew⟩ ?_;refine ac (λy d _ c=>au c) (ac (λy d _ c=>rX c) (ac (v:=pB X.R.q.p) (λy d _ c=>lK d.1 rfl c) ?_));refine ac (λy d _ c=>au c) (ac (λy d _ c=>th c) (ac (v:=iv ((i+1:Nat))) (λy d _ c=>lK d.1 rfl c) ?_))
    refine ac (λy d _ c=>Mn c) (ac (v:=u6 x.n) (λy d _ c=>lK d.2 rfl c) (ac (λy d _ c=>Mo c) (ac (v:=iv x.a) (λy d _ c=>lK d.2 rfl c) ?_)));have aa:=B.below (jT _ w4).drew;refine zi0 aa.rp.pm hp λw5 ag ah b5=>?_;have j:Below w4.heap.size w4 w5:=(jT _ w4).drew.trans b5;have h5:=B.below j;have z5:=ae j N N.lt;have t5:=ae j u u.lt
    refine ax (λ_=>True) trivial (ac (λy _ _ c=>bK c) (ac (λy _ _ c=>bJ c) ?_));refine ax (λy=>blk y X.R.p 119 (rpC X.R i)/\blk y w.heap.size 42 (akC x)) ⟨h5.rp.b.drew,z5.drew⟩ ?_;refine ac (λy d _ c=>au c) (ac (λy d _ c=>Mw c) (ac (v:=pB X.R.d) (λy d _ c=>lK d.1 rfl c) ?_));refine ac (λy d _ c=>Mo c) (ac (v:=iv x.a) (λy d _ c=>lK d.2 rfl c) ?_)
    have C:=h5.below (jT _ w5).drew;refine zhH C.dm λM af e6 d6 V n6=>?_;have S:Below w.heap.size w w5.drew:=(f.trans (j.mono f.size)).drew;have I:StpX w5.drew M X {X with ws:=af}:=.ws V n6;have dd:w5.drew.heap.size=w5.heap.size:=rfl;have ad:=t5.drew;have ai:=t5.lt
    have t6:blk M m.heap.size 49 (evC evZ):=ad.ch V λD=>z (pG.2 (.inr (.inr (.inr (.inr (nB.2 (.inr (oO.1 D))))))));exact o ((StpX.refl S).trans I) (C.want d6 V n6) rfl (I.nz hX t oo) t6
   .exact aB hk (o (.refl f) B rfl z u)
  .exact dt L (bG L (uf (aD (o (.refl f) B rfl z u))))
 .have I:StpX w2 w3 X {X with Rw:=O}:=.rw U n3;have h3:=Z.add (by rw[mkP_q];exact hi) r3 U i3;have z:=I.nz hX t l2;have t3:blk w3 m.heap.size 49 (evC evZ):=J.ch U (Z.rp.out J dc dc dc λD=>by have:=h.rp.pm.lt _ D;omega);have sw:=(StpX.refl g:StpX w w2 X X).trans I
  refine fG (e':=mkP i s.l x) t3 λw4 u H=>aU (dt dc (bG dc (uf (aD ?_))));exact zcU (X:=X) (e:=mkP i s.l x) u λw5 o5=>c w5 _ _ _ ((sw.oth H t).oth o5 t) ((h3.oth H z).oth o5 z) (.inr ⟨Y,ab,rfl,rfl⟩) (λ_ _=>rfl) rfl
def zce{V:List Int}{M:oF}(G:r=1\/r=2)(h:RepW w i X s)(hf:f<6)(E:V.length=6)(hA:s.P[f]? = some A)(j:∀(c:oG) (K1:KV),Below w.heap.size w c->(∀w2,Below c.heap.size c w2->K1 (.bool true) w2)->call Q 191 #[.agg (mgC r ((f:Int)+1) ((i:Int)+1) V Z1 N fu).toArray] K1 c)(W:∀c,RepW c i X ⟨s.l,s.A,s.P.set f (jV A V)⟩->StpX w c X X->call Q (if r=1 then 217 else 218) #[pB X.R.p,.agg (mgC r ((f:Int)+1) ((i:Int)+1) V Z1 N fu).toArray] (λv w=>K (.tuple #[v,ci 0]) w) c):call Q 196 #[pB X.R.p,.agg (mgC r ((f:Int)+1) ((i:Int)+1) V Z1 N fu).toArray,M] K w:=by
 generalize t:mgC r ((f:Int)+1) ((i:Int)+1) V Z1 N fu=ms at j W |-;have H:ms.length=12:=by rw[<-t];simp[mgC,bE,E]
 have F:(Value.agg ms.toArray).cells.toList=ms:=by simp[Value.cells]
 have m0:ms[0]? = some (kv8 r):=by rw[<-t];rfl
 have m1:ms[1]? = some (iv ((f:Int)+1)):=by rw[<-t];rfl
 have m2:ms[2]? = some (iv ((i:Int)+1)):=by rw[<-t];rfl
 have m3:(ms.drop 3).take 6=vCs V:=by
  rw[<-t];unfold mgC;rw[show 3=[Value.int .u8 r,iv ((f:Int)+1),iv ((i:Int)+1)].length+0 by rfl,qS,oS oB];simp only[oV,oZ,List.length_nil,jO];rw[oX,qJ (by rw[bE];omega),tL (by rw[bE];omega)]
 refine ao (goK func196) (Js (bU λc C D s1=>Lf (aD ?_)));rw[F]at C;have u:∀{y:oG} {K:KV},blk y w.heap.size 268 ms->K (.agg ms.toArray) y->ld Q 268 (pB w.heap.size) K y:=λhy a=>ldA (n:=12) (vs:=ms) underlying268 rfl kr hy (by rw[oX,tL oo]) H a;refine u C (j c _ D λw2 U=>bH ?_);have o:=D.trans (U.mono D.size)
 have h2:=h.below o;have Y:=ae U C C.lt;refine GK (aD ?_);refine ah (λ_=>yE) (ah (v:=iv ((i:Int)+1)) (λ_=>lK Y.drew m2) ?_);refine ah (λ_=>au) (ah (λ_=>th) (ah (v:=iv ((i+1:Nat))) (λ_=>lK h2.rp.b.drew rfl) ?_));refine ah (v:=.bool false) (λK a=>bo (by rw[qE (by push_cast;simp)];exact a)) ?_;refine GM (aD (GL ?_))
 have q:Below w.heap.size w w2.drew.drew:=o.drew.drew;have g:=h.below q;have T:blk w2.drew.drew w.heap.size 268 ms:=Y;refine ax (λy=>blk y X.R.p 119 (rpC X.R i)/\blk y w.heap.size 268 ms) ⟨g.rp.b,T⟩ ?_;refine ac (λy d _ a=>au a) (ac (λy d _ a=>Yd a) (ac (v:=pB X.R.e) (λy d _ a=>lK d.1 rfl a) ?_))
 refine ac (λy d _ a=>Bx a) (ac (v:=iv ((f:Int)+1)) (λy d _ a=>lK d.2 m1 a) ?_);refine ac (λy d _ a=>RN a) (ac (λy d _ a=>ldA (n:=6) (vs:=vCs V) underlying34 rfl kr d.2 m3 (by rw[bE];exact E) a) ?_);refine ziI g.rp.e hf hA E λB e4 z=>?_
 have h4:RepW B i {X with Rw:=X.Rw} ⟨s.l,s.A,s.P.set f (jV A V)⟩:=g.turn (s':=⟨s.l,s.A,s.P.set f (jV A V)⟩) (g.rp.setE z e4) g.it (g.rp.sub2 z);have Z:=T.ch z λhh=>qI (mS hh) (T.ne g.rp.e.b dc);have O:StpX w B X X:=(StpX.refl q:StpX w _ X X).trans (.rw (g.rp.sub2 z) λk a=>.inl a)
 refine xa underlying320 rfl (Value.int .u8) (id:oF->oF) λw5 I b5 s5=>?_;refine vK (v:=Value.func (.func 217) #[pB X.R.p] #[]) (x:=1) u8K underlying320 I λw6 J o6=>?_;refine vK (v:=Value.func (.func 218) #[pB X.R.p] #[]) (x:=2) u8K underlying320 J λw7 L o7=>?_;have m:Below B.heap.size B w7:=aK (aK b5 o6 oA) o7 oA;have h7:=h4.below m
 have z7:=ae m Z Z.lt;have S:StpX w w7 X X:=O.trans (.refl m);refine RM (lK (v:=kv8 r) z7 m0 ?_);refine Sg (x:=r) (z0:=Value.nilFunc) u8K underlying320 kf L (u z7 ?_)
 have:=W w7 h7 S
 rcases G with rfl|rfl
 .exact cB (all:=#[pB X.R.p,.agg ms.toArray]) rfl this
 .exact cB (all:=#[pB X.R.p,.agg ms.toArray]) rfl this
theorem Zz {w : World} {B B' : Nat} {E : TypeId} {s : Nat} {v : Value} {n : Nat} {xs : List Value} (h : w.ownsRow B E s v n xs) (hB : B' ≤ B) : w.ownsRow B' E s v n xs :=
  ⟨h.1, h.2.imp id fun ⟨g, cap, cur, hv, hb, r⟩ => ⟨g, cap, cur, hv, Nat.le_trans hB hb, r⟩⟩
def zeN{L:List EV}{V:List Int}{y:oF}(h:RepW w i X s)(hi:i<6)(E:PI s.l)(D:HK s.l.V X.W)(M:s.A.length<=999000)(u:VR w a c g L)(x:∀b o,a=some ⟨b,o,none⟩->b∉FF X)(U:∀e∈L,dI e=true)(k:c<=16)(S:f<6)(T:f≠i)(r:V.length=6)(t:leV V (List.replicate 6 1099511627776)=true)(J:s.P[f]? = some A)(N:∀w' X' l' F m n,StpX w w' X X'->RepW w' i X' ⟨l',s.A++F,s.P.set f (jV A V)⟩->DG s.l (nM s.l.V X.W L) l' X'.W F->eD l'.V X'.W 6=none->X'.ws=X.ws->w'.ownsRow w.heap.size 49 14 (.slice m F.length n) F.length (F.flatMap evC)->K (.tuple #[.slice m F.length n,ci 0]) w'):call Q 196 #[pB X.R.p,.agg (mgC 1 ((f:Int)+1) ((i:Int)+1) V (.slice a c g) 0 0).toArray,y] K w:=by
 refine zce (.inl rfl) h S r J (λa b H I=>zal (u.bel H oA) k U r t (by unfold bO;simp;omega) (by unfold bO;simp;omega) oo I) λw1 z j=>?_;rw[oJ rfl];have v:=u.ch j.ch x;have hl:=u.len;refine zgH z.rp E D (by show ((s.A.length:Nat):Int)+100<=1000000;omega) v k r λG l' W' d F m n r2 C n2 o2 B k2 Z=>?_
 have Y:∀e∈F,e.q<6:=λe O=>(vg ((C.inv E D.puts).2.2.2.2.2 e O).1).1;refine N G {X with Rw:=d,W:=W'} l' F m n (j.trans (StpX.rww (W':=W') B k2)) (z.turn (W':=W') (s':=⟨l',s.A++F,s.P.set f (jV A V)⟩) ?_ ?_ B) C n2 rfl (Zz o2 j.ch.size)
 .show RpM G X.R (i+1) l' W' d ((s.A++F).length:Nat) _;rw[oT];push_cast;exact r2
 .show nQ d=yi (s.A++F);rw[Z,z.it,zbq Y]
theorem zeM {nn aa : Int} {f : Nat} {V A : List Int} {now : Value} (h : RepW w i X s) (hp : PI s.l) (hi : i < 6) (hG : s.l.G.length ≤ 1000000) (hAl : s.A.length ≤ 999000) (hn : nn ≠ 0) (ha : 1 ≤ aa ∧ aa ≤ Ca)
    (hf : f < 6) (hfi : f ≠ i) (hV : V.length = 6) (hle : leV V (List.replicate 6 1099511627776) = true) (hA : s.P[f]? = some A)
    (no : ∀ w', StpX w w' X X → RepW w' i X ⟨s.l, s.A, s.P.set f (jV A V)⟩ → K (.tuple #[.slice none 0 0, ci 0]) w')
    (yes : ∀ w' X' z av cv, StpX w w' X X' → eC (mkP i s.l ⟨5, nn, (f : Int) + 1, z, 0, 0⟩) s.l = 0 → RepW w' i X' ⟨eff (mkP i s.l ⟨5, nn, (f : Int) + 1, z, 0, 0⟩) s.l, s.A ++ [mkP i s.l ⟨5, nn, (f : Int) + 1, z, 0, 0⟩], s.P.set f (jV A V)⟩ → VR w' av 1 cv [mkP i s.l ⟨5, nn, (f : Int) + 1, z, 0, 0⟩] → X'.W = X.W → K (.tuple #[.slice av 1 cv, ci 0]) w') :
    call Tryz.prog 196 #[pB X.R.p, .agg (mgC 2 ((f : Int) + 1) ((i : Int) + 1) V (.slice none 0 0) nn aa).toArray, now] K w := by
  refine zce (.inr rfl) h hf hV hA (fun w1 K1 b1 h1 => zcn hn ha hV hle (by unfold bO; simp; omega) (by unfold bO; simp; omega) (by omega) h1) fun w1 r1 st1 => ?_
  rw [if_neg (by decide)]
  refine zhR r1.rp hV hp hi hG (by show ((s.A.length : Nat) : Int) < 1000000; omega) (fun w2 b2 => no w2 (st1.trans (.refl b2)) (r1.below b2)) fun w2 Rw' z av cv h0 vr r2 c2 n2 i2 => ?_
  exact yes w2 { X with Rw := Rw' } z av cv (st1.trans (.rw c2 n2)) h0 (r1.add (by rw [mkP_q]; exact hi) r2 c2 i2) vr rfl
end
end
def JI(t6 t7 t8:oF)(zf:oD):=zT zf 0 6 (t6::t7::t8::zT zf 9 9 ([]))
def JJ(zf:oD):=zT zf 0 18 ([])
def mL(K:KV):KE:=kZ f34 [1,1] K
def xW(K:KV):KE:=aj Q (cd f34 [1,0,1,0]) (mL K) (xx xf (mL K) 0) (rk f34 K)
section
variable {K:KV}{t6 t7 t8:oF}  
def U8{K:KV}(h:lN 160 H (λa=>xW K (JI H a (ci 0) (zV (zV zu 0 [H]) 2 [ci 0]))) w):Gives Q 34 #[H] w K:=aw func34 kr (mpK h)
def QN(Inv:oF->oG->Prop)(μ:oF->oG->Nat)(f:Inv t8 w)(i:∀(a:oF) (e:oD) (w:oG) (m:Nat),Inv a w->m=μ a w ->
  lS a t7 (λb w=>cond b (bv Q 160 t6 a (λb=>ld Q 126 b λb=>bS Q b #[] λb=>bT .neq 28 b (ci 0) λc w=>cond c (K b w) (nC a (λa w=>(Inv a w)/\((μ a w)<m)) w)) w) (mL K (JJ (zV e 6 [t6,t7,a,b])) w)) w):xW K (JI t6 t7 t8 zf) w:=by refine aZ (cd f34 (b1 52)) (zr [(2,1),(4,2),(8,10)]) kr (vP [8] Inv) (vQ [8] μ) f ?_;intro d j g;have h:=i _ (zM zf (gd d) (zr [(2,1),(4,2),(8,10)])) j _ g rfl;revert h;generalize (mL K)=qc0;exact mpF
def QO(h:K (ci 0) w):mL K (JJ zf) w:=mpK h
end
attribute [irreducible] mL xW
def Se{K:KV}(h:call Q 32 #[H,ci 1] (λa=>ext Q a 0 λc=>ext Q a 1 λb=>bT .neq 28 b (ci 0) λd w=>aT d false (λb=>lN 87 c (λa=>bT .eql 3 a (ci 0) λd=>b [c,a,d]) w) (λk=>k [uu,uu,uu] w) λa=>pick d cT (gd a 2) λa w=>cond a (K b w) (call Q 36 #[H,ci 1,ci 0] K w)) w):Gives Q 38 #[H] w K:=aw func38 kr (mpK h)
def JH(d1 b5 l6 at7:oF)(zf:oD):=zf 0::d1::zT zf 2 3 (b5::l6::at7::zT zf 8 26 ([]))
def uF(K:KV):KE:=aj Q (cd f21 [1,1,1,1]) (rk f21 K) xf (rk f21 K)
section
variable {K:KV}{d1 b5 l6 at7:oF}  
def U7{K:KV}(h:box Q 66 H (λa=>ld Q 66 a λb=>call Q 32 #[b,ci 0] λc=>ext Q c 0 λd=>ext Q c 1 λe=>alc Q 87 λf=>sto Q 87 f d λ_=>bT .neq 28 e (ci 0) λg w=>cond g (K (.tuple #[.pointer none,cN,e]) w) (ld Q 87 f (λh=>call Q 33 #[h] λi=>ext Q i 0 λj=>ext Q i 1 λk=>alc Q 3 λl=>sto Q 3 l k λ_=>uF K (JH a f j l (zV (zV (zV (zV zu 0 [H]) 2 [.pointer none,cN,e]) 8 [c,b,c,d,e,e,g]) 16 [i,h,i,j,k]))) w)) w):Gives Q 21 #[H] w K:=by refine aw func21 kr <|Eq.mp (qH (λc=>aj Q c _ _ _ _ w) (by kernel_rfl:(rep [1,1,1,1] (cd f21 [1,1,1,1]) (cd f21 []))=(cd f21 []))) ?_;revert h;delta uF;generalize (cd f21 [1,1,1,1])=xc0;exact mpF
def QL(h:cH Q 160 3 #[(0,.func (.func 35) #[] #[at7,b5,d1]),(1,.func (.func 37) #[] #[d1]),(2,.func (.func 39) #[] #[d1])] (λa=>call Q 34 #[a] λa=>bT .neq 28 a (ci 0) λb w=>cond b (K (.tuple #[.pointer none,cN,a]) w) (ld Q 66 d1 (λa=>ld Q 3 at7 λb=>bld Q 129 #[(0,a),(1,b)] λa=>box Q 129 a λa=>K (.tuple #[a,l6,ci 0])) w)) w):uF K (JH d1 b5 l6 at7 zf) w:=mpK h
end
attribute [irreducible] uF
def QI{K:KV}(h:ld Q 3 H (λa=>ld Q 87 Z λb=>lN 87 b λb=>bF .eql 3 a b λa w=>cond a (K (ci 0) w) (ld Q 66 U (λa=>ld Q 3 H λb=>call Q 36 #[a,ci 0,b] K) w)) w):Gives Q 35 #[H,Z,U] w K:=aw func35 kr (mpK h)
def QJ{K:KV}(h:ld Q 66 H (λa=>call Q 38 #[a] K) w):Gives Q 37 #[H] w K:=aw func37 kr (mpK h)
def QK{K:KV}(h:ld Q 66 H (λa=>call Q 40 #[a] λa=>bT .eql 3 a (ci 0) λa w=>cond a (K (ci 0) w) (ld Q 66 H (λa=>call Q 41 #[a] K) w)) w):Gives Q 39 #[H] w K:=aw func39 kr (mpK h)
def HZ{K:KV}(h:bT .eql 96 H (.pointer none) (λa w=>cond a (K (.tuple #[cN,ci 2]) w) (bj H (λa=>aq Q 129 a 2 λa=>ld Q 4 a λa w=>cond a (K (.tuple #[cN,ci 3]) w) (call Q 248 #[cN,Z] (λa=>ext Q a 0 λb=>ext Q a 1 λa=>K (.tuple #[b,a])) w)) w)) w):Gives Q 227 #[H,Z] w K:=aw func227 kr (mpK h)
def Aj(j0 zJ e_2 t13:oF)(zf:oD):=j0::zJ::e_2::zT zf 3 10 (t13::zT zf 14 5 ([]))
def ub(e_2:oF)(zf:oD):=zf 0::zf 1::e_2::zT zf 3 16 ([])
def gA(K:KV):KE:=kZ f230 [1,1,1] K
def mA(K:KV):KE:=aj Q (cd f230 [1,1,0,1]) (gA K) xf (rk f230 K)
section
variable {K:KV}{j0 zJ e_2 t13:oF}  
def Jl{K:KV}(h:bT .eql 28 H (ci 8) (λa=>bj Z λb=>aq Q 129 b 2 λc=>sto Q 4 c a λ_=>bT .eql 28 H (ci 0) λd=>mA K (Aj Z U H d (zV zu 6 [ci 0,Z,H,a,b,c,H]))) w):Gives Q 230 #[Z,U,H] w K:=by refine aw func230 kr <|Eq.mp (qH (λc=>aj Q c _ _ _ _ w) (by kernel_rfl:(rep [1,1,0,1] (cd f230 [1,1,0,1]) (cd f230 []))=(cd f230 []))) ?_;revert h;delta mA gA;generalize (cd f230 [1,1,0,1])=xc0;exact mpF
def xU(h:cond t13 (bj j0 (λa=>aq Q 129 a 1 λb=>sto Q 3 b zJ λ_=>gA K (ub e_2 (zV (zV zf 0 [j0,zJ]) 13 [t13,j0,zJ,a,b]))) w) (gA K (ub e_2 (zV (zV zf 0 [j0,zJ]) 13 [t13])) w)):mA K (Aj j0 zJ e_2 t13 zf) w:=by delta mA;revert h;generalize (gA K)=qc0;exact mpF
def xV(h:K e_2 w):gA K (ub e_2 zf) w:=mpK h
end
attribute [irreducible] gA mA
def uZ(j2 b5 e6:oF)(zf:oD):=zf 0::zf 1::j2::zf 3::zf 4::b5::e6::zT zf 7 32 ([])
def kX(K:KV):KE:=aj Q (cd f207 [1,1,1,1]) (rk f207 K) xf (rk f207 K)
section
variable {K:KV}{j2 b5 e6:oF}  
def Ks{K:KV}(h:box Q 96 Z (λc=>ld Q 96 c λd=>call Q 227 #[d,H] λe=>ext Q e 0 λf=>ext Q e 1 λg=>alc Q 87 λh=>sto Q 87 h f λ_=>bT .neq 28 g (ci 0) λi w=>aT i false (λd=>lN 97 H (λa=>bT .eql 3 a (ci 0) λb=>d [H,a,b]) w) (λk=>k [uu,uu,uu] w) λa=>pick i cT (gd a 2) λj w=>cond j (K g w) (ld Q 96 c (λb=>bj b λk=>aq Q 129 k 0 λl=>ld Q 66 l λm=>cH Q 160 2 #[(0,.func (.func 228) #[] #[c,h]),(1,.func (.func 41) #[m] #[])] λn=>call Q 34 #[n] λo=>kX K (uZ c h o (zV (zV (zV (zV zu 0 [Z,H]) 4 [ci 0]) 7 [e,d,H,e,f,g,g,i,i,gd a 0,gd a 1,gd a 2,j]) 21 [.func (.func 228) #[] #[c,h],b,k,l,m,.func (.func 41) #[m] #[],n,o]))) w)) w):Gives Q 207 #[Z,H] w K:=by refine aw func207 kr <|Eq.mp (qH (λc=>aj Q c _ _ _ _ w) (by kernel_rfl:(rep [1,1,1,1] (cd f207 [1,1,1,1]) (cd f207 []))=(cd f207 []))) ?_;revert h;delta kX;generalize (cd f207 [1,1,1,1])=xc0;exact mpF
def HY(h:aL (λS w=>hL S 96 j2 λb=>hL S 96 j2 λa=>hN S a λa=>hF S 129 a 1 λa=>hL S 3 a λa=>hL S 87 b5 λc=>hld S (blt Q .len #[87] 3 #[false] #[c]) λc=>hld (λ_=>True) (bF .add 3 a c) λa=>call Q 230 #[b,a,e6] (λa=>aL λ_=>K a) w) w.drew):kX K (uZ j2 b5 e6 zf) w:=mpK h
end
attribute [irreducible] kX
def HX{K:KV}(h:aL (λS w=>hL S 96 Z λa=>hN S a λa=>hF S 129 a 0 λa=>hL S 66 a λa=>hL S 87 H λb=>call Q 229 #[a,ci 0,b] (λa=>aL λ_=>K a) w) w.drew):Gives Q 228 #[Z,H] w K:=aw func228 kr (mpK h)
def KW(s0 t3:oF)(zf:oD):=s0::zf 1::zf 2::t3::zT zf 4 9 ([])
def KX(s0:oF)(zf:oD):=s0::zT zf 1 12 ([])
def nX(K:KV):KE:=kZ f107 [1,1] K
def zv(K:KV):KE:=aj Q (cd f107 [1,0,1,0]) (nX K) (xx xf (nX K) 0) (rk f107 K)
section
variable {K:KV}{s0 t3:oF}  
def V7{K:KV}(h:zv K (KW H (ci 0) (zV zu 2 [Value.int IntKind.u32 0])) w):Gives Q 107 #[H] w K:=aw func107 kr (mpK h)
def Rv(Inv:oF->oF->oG->Prop)(μ:oF->oF->oG->Nat)(g:Inv s0 t3 w)(j:∀(a b:oF) (f:oD) (w:oG) (m:Nat),Inv a b w->m=μ a b w ->
  bT .lss 3 b (ci 8) (λc w=>cond c (bT .shr 206 a (cu 1) (λc=>bT .and 206 a (Value.int IntKind.u32 1) λa=>bin Q .mul 206 true false (Value.int IntKind.u32 3988292384) a λa=>bF .xor 206 c a λa=>nC b λb w=>(Inv a b w)/\((μ a b w)<m)) w) (nX K (KX a (zV f 3 [b,c])) w)) w):zv K (KW s0 t3 zf) w:=by refine aZ (cd f107 (b1 52)) (zr [(0,1),(3,9)]) kr (vP [0,3] Inv) (vQ [0,3] μ) g ?_;intro d k i;have h:=j _ _ (zM zf (gd d) (zr [(0,1),(3,9)])) k _ i rfl;revert h;generalize (nX K)=qc0;exact mpF
def Rx(h:K s0 w):nX K (KX s0 zf) w:=mpK h
end
attribute [irreducible] nX zv
def Rg(s5 t10 t11 t12:oF)(zf:oD):=zT zf 0 5 (s5::zT zf 6 4 (t10::t11::t12::zT zf 13 11 ([])))
def Rh(s5:oF)(zf:oD):=zT zf 0 5 (s5::zT zf 6 18 ([]))
def sG(K:KV):KE:=kZ f86 [1,1,1] K
def Em(K:KV):KE:=aj Q (cd f86 (b1 58)) (sG K) (xx xf (sG K) 0) (rk f86 K)
section
variable {K:KV}{s5 t10 t11 t12:oF}  
def Zt{K:KV}(h:un Q .xor Z (λa=>lN 87 H λb=>Em K (Rg a H b (ci 0) (zV (zV (zV zu 0 [Z,H]) 4 [Value.int IntKind.u32 0]) 8 [Z,a]))) w):Gives Q 86 #[Z,H] w K:=aw func86 kr (mpK h)
def WT(Inv:oF->oF->oG->Prop)(μ:oF->oF->oG->Nat)(g:Inv s5 t12 w)(j:∀(b a:oF) (f:oD) (w:oG) (m:Nat),Inv b a w->m=μ b a w ->
  lS a t11 (λc w=>cond c (bv Q 87 t10 a (λc=>ld Q 5 c λc=>conv Q 5 206 c λc=>bF .xor 206 b c λb=>call Q 107 #[b] λb=>nC a λa w=>(Inv b a w)/\((μ b a w)<m)) w) (sG K (Rh b (zV f 10 [t10,t11,a,c])) w)) w):Em K (Rg s5 t10 t11 t12 zf) w:=by refine aZ (cd f86 (b1 116)) (zr [(5,1),(7,1),(12,10)]) kr (vP [5,12] Inv) (vQ [5,12] μ) g ?_;intro d k i;have h:=j _ _ (zM zf (gd d) (zr [(5,1),(7,1),(12,10)])) k _ i rfl;revert h;generalize (sG K)=qc0;exact mpF
def WU(h:un Q .xor s5 K w):sG K (Rh s5 zf) w:=mpK h
end
attribute [irreducible] sG Em
def zaQ{K:KV}(h:call Q 86 #[Value.int IntKind.u32 0,H] K w):Gives Q 87 #[H] w K:=aw func87 kr (mpK h)
def TU{K:KV}(h:conv Q 206 32 H (λa=>call Q 108 #[cN,a,ci 4] λa=>ext Q a 0 λb=>ext Q a 1 λ_=>K b) w):Gives Q 88 #[H] w K:=aw func88 kr (mpK h)
def P8(kM t13 t14 t15:oF)(zf:oD):=zT zf 0 6 (kM::zT zf 7 6 (t13::t14::t15::zT zf 16 24 ([])))
def P9(kM:oF)(zf:oD):=zT zf 0 6 (kM::zT zf 7 33 ([]))
def rG(K:KV):KE:=kZ f248 [1,1,1] K
def Cl(K:KV):KE:=aj Q (cd f248 (b1 58)) (rG K) (xx xf (rG K) 0) (rk f248 K)
section
variable {K:KV}{kM t13 t14 t15:oF}  
def Ym{K:KV}(h:call Q 48 #[Z] (λa=>lN 97 H λb=>Cl K (P8 a H b (ci 0) (zV (zV (zV zu 0 [Z,H]) 4 [cN,ci 0]) 11 [Z,a]))) w):Gives Q 248 #[Z,H] w K:=aw func248 kr (mpK h)
def Vo(Inv:oF->oF->oG->Prop)(μ:oF->oF->oG->Nat)(g:Inv kM t15 w)(j:∀(b a:oF) (f:oD) (w:oG) (m:Nat),Inv b a w->m=μ b a w ->
  lS a t14 (λc w=>cond c (bv Q 97 t13 a (λc=>ld Q 87 c λc=>lN 87 c λd=>bT .gtr 3 d (ci 4096) λd w=>cond d (K (.tuple #[cN,ci 6]) w) (lN 87 c (λd=>conv Q 3 206 d λd=>call Q 88 #[d] λd=>call Q 87 #[d] λe=>call Q 86 #[e,c] λe=>blt Q .append #[87,87] 87 #[false,false] #[b,d] λb=>call Q 88 #[e] λd=>blt Q .append #[87,87] 87 #[false,false] #[b,d] λb=>blt Q .append #[87,87] 87 #[false,false] #[b,c] λb=>nC a λa w=>(Inv b a w)/\((μ b a w)<m)) w)) w) (rG K (P9 b (zV f 13 [t13,t14,a,c])) w)) w):Cl K (P8 kM t13 t14 t15 zf) w:=by refine aZ (cd f248 (b1 116)) (zr [(4,3),(8,3),(15,24)]) kr (vP [6,15] Inv) (vQ [6,15] μ) g ?_;intro d k i;have h:=j _ _ (zM zf (gd d) (zr [(4,3),(8,3),(15,24)])) k _ i rfl;revert h;generalize (rG K)=qc0;exact mpF
def Vp(h:K (.tuple #[kM,ci 0]) w):rG K (P9 kM zf) w:=mpK h
end
attribute [irreducible] rG Cl
def Lg{K:KV}(h:aL (λS w=>hN S H λa=>hF S 184 a 0 λa=>hL S 87 a λa=>hN S H λb=>hF S 184 b 1 λb=>hL S 3 b λb=>call Q 56 #[a,b,ci 4] (λa=>aL λS w=>hld S (ext Q a 0) λb=>hld S (ext Q a 1) λc=>hld S (ext Q a 2) λa=>bT .neq 28 a (ci 0) (λa w=>cond a (K (.tuple #[Value.int IntKind.u32 0,cF]) w) (bj H (λa=>aq Q 184 a 1 λa=>sto Q 3 a c λ_=>conv Q 32 206 b λa=>K (.tuple #[a,cT])) w)) w) w) w.drew):Gives Q 85 #[H] w K:=aw func85 kr (mpK h)
def BQ(p0 q4 UG zbz s9:oF)(zf:oD):=p0::zT zf 1 3 (q4::UG::zf 6::zbz::zf 8::s9::zT zf 10 56 ([]))
def BR(p0:oF)(zf:oD):=p0::zT zf 1 65 ([])
def rQ(K:KV):KE:=aj Q (cd f67 (b1 127)) (rk f67 K) xf (rk f67 K)
abbrev Cm(K:KV)(hA0:KE)(p0:oF)(w:oG):Prop :=
  bj p0 (λa=>ld Q 184 a λb=>alc Q 184 λc=>sto Q 184 c b λ_=>call Q 85 #[c] λd=>ext Q d 0 λe=>ext Q d 1 λf=>call Q 85 #[c] λg=>ext Q g 0 λh=>ext Q g 1 λi=>un Q .not f λj w=>aT j false (λa=>un Q .not i (λb=>a [i,b]) w) (λk=>k [uu,uu] w) λk=>pick j cT (gd k 1) λl w=>aT l false (λa=>bT .gtr 206 e (Value.int IntKind.u32 4096) (λb=>a [e,b]) w) (λk=>k [uu,uu] w) λm=>pick l cT (gd m 1) λn w=>aT n false (λa=>conv Q 206 3 e (λb=>aq Q 184 c 0 λd=>ld Q 87 d λf=>lN 87 f λg=>aq Q 184 c 1 λc=>ld Q 3 c λh=>bF .sub 3 g h λi=>bF .gtr 3 b i λj=>a [e,b,d,f,g,c,h,i,j]) w) (λk=>k [uu,uu,uu,uu,uu,uu,uu,uu,uu] w) λo=>pick n cT (gd o 8) λp w=>cond p (K (.tuple #[cN,cF]) w) (aq Q 184 c 0 (λr=>ld Q 87 r λs=>aq Q 184 c 1 λt=>ld Q 3 t λu=>slc Q 87 s (some u) none none λv=>slc Q 87 v none (some e) none λw=>hA0 (BQ p0 c e h w (zV (zV (zV (zV zu 2 [cN,cF]) 6 [f]) 8 [i]) 10 [p0,a,b,d,d,e,f,g,g,h,i,f,j,j,gd k 0,gd k 1,l,l,gd m 0,gd m 1,n,n,gd o 0,gd o 1,gd o 2,gd o 3,gd o 4,gd o 5,gd o 6,gd o 7,gd o 8,p,r,s,t,u,v,e,w]))) w)) w
section
variable {K:KV}{p0 q4 UG zbz s9:oF}  
def MF{K:KV}(a:Code)(h:Cm K (aj Q a (rk f67 K) (λ_ _ _=>False) (rk f67 K)) H w):aj Q (rep (b1 127) a (cd f67 [])) (rk f67 K) xf (rk f67 K) (BR H zu) w:=Eq.mp kr h
def Lh{K:KV}(h:Cm K (rQ K) H w):Gives Q 67 #[H] w K:=aw func67 kr (Eq.mp (qH (λc=>aj Q c (rk f67 K) xf (rk f67 K) (BR H zu) w) (by kernel_rfl:(rep (b1 127) (cd f67 (b1 127)) (cd f67 []))=(cd f67 []))) (MF (cd f67 (b1 127)) h))
def Jk(h:call Q 88 #[UG] (λa=>call Q 87 #[a] λa=>call Q 86 #[a,s9] λb=>bF .neq 206 b zbz λc w=>cond c (K (.tuple #[cN,cF]) w) (aq Q 184 q4 1 (λa=>ld Q 3 a λa=>conv Q 206 3 UG λd=>bF .add 3 a d λa=>bj p0 λe=>aq Q 184 e 1 λf=>sto Q 3 f a λ_=>call Q 48 #[s9] λg=>K (.tuple #[g,cT])) w)) w):rQ K (BQ p0 q4 UG zbz s9 zf) w:=mpK h
end
attribute [irreducible] rQ
def Yl{K:KV}(h:call Q 48 #[H] (λa=>bld Q 184 #[(0,a)] λa=>bld Q 186 #[(0,a)] λa=>box Q 186 a K) w):Gives Q 49 #[H] w K:=aw func49 kr (mpK h)
def ME{K:KV}(h:bT .eql 156 H (.pointer none) (λa w=>cond a (K (.tuple #[cN,cF]) w) (bj H (λa=>aq Q 186 a 0 λa=>call Q 67 #[a] λa=>ext Q a 0 λb=>ext Q a 1 λa=>K (.tuple #[b,a])) w)) w):Gives Q 50 #[H] w K:=aw func50 kr (mpK h)
def Pa{K:KV}(h:bT .eql 156 H (.pointer none) (λa w=>cond a (K (ci 0) w) (bj H (λa=>aq Q 186 a 0 λa=>aq Q 184 a 1 λa=>ld Q 3 a K) w)) w):Gives Q 51 #[H] w K:=aw func51 kr (mpK h)
def OZ(l2 r4:oF)(zf:oD):=zf 0::zf 1::l2::zf 3::r4::zT zf 5 18 ([])
def Ck(K:KV):KE:=aj Q (cd f33 [1,1,0]) (rk f33 K) (xx xf (rk f33 K) 0) (rk f33 K)
section
variable {K:KV}{l2 r4:oF}  
def Yk{K:KV}(h:call Q 49 #[H] (λa=>Ck K (OZ cN a (zV (zV (zV zu 0 [H]) 3 [ci 0]) 7 [H,a]))) w):Gives Q 33 #[H] w K:=aw func33 kr (mpK h)
def Vn(Inv:oF->oG->Prop)(μ:oF->oG->Nat)(f:Inv l2 w)(i:∀(a:oF) (k:oD) (w:oG) (m:Nat),Inv a w->m=μ a w ->
  call Q 50 #[r4] (λb=>ext Q b 0 λc=>ext Q b 1 λb=>un Q .not b λb w=>cond b (call Q 51 #[r4] (λb=>K (.tuple #[a,b])) w) (cH Q 97 1 #[(0,c)] (λb=>blt Q .append #[97,97] 97 #[false,false] #[a,b] λb w=>(Inv b w)/\((μ b w)<m)) w)) w):Ck K (OZ l2 r4 zf) w:=by refine aZ (cd f33 [1,1,0,0]) (zr [(2,2),(5,2),(9,14)]) kr (vP [2] Inv) (vQ [2] μ) f ?_;intro e j g;have h:=i _ (zM zf (gd e) (zr [(2,2),(5,2),(9,14)])) j _ g rfl;exact mpK h
end
attribute [irreducible] Ck
def Eg:∀w,(sizeOf 5).run Q w=.ok 1 w:=λ_=>by kernel_rfl
def Lm:(Tryz.prog.info? 5).map (λi=>(i.zero,i.size,i.bytes))=some (some (.int .u8 0),1,1):=by kernel_rfl
def zbg(l:List UInt8):∀u∈l.map u8v,u.oneCell'=true:=by intro u a;obtain⟨_,_,rfl⟩:=qT.1 a;rfl
def OB(w:oG)(B:Nat)(a:Option Addr)(n c:Nat)(l:List UInt8):Prop:=OV w B 5 a n c (l.map u8v)
def OB.rb{B:Nat}{n:Nat}{l:List UInt8}(h:OB w B a n c l):RB w a n c l:=OV.rv h
def OB.below{B:Nat}{n:Nat}{l:List UInt8}(h:OB w B a n c l)(d:Below D w S)(b:w.heap.size<=D):OB S B a n c l:=OV.below h d b
def OB.nil(w:oG)(B:Nat):OB w B none 0 0 []:=OV.nil w B _
def OB.len{B:Nat}{n:Nat}{l:List UInt8}(h:OB w B a n c l):l.length=n:=(OB.rb h).len
section
variable  {K:KV}

def zjP{a:Int}(b:0<=a)(c:a<=18446744073709551615)(h:K (.int .u64 a) w):conv Q 3 32 (ci a) K w :=
 dP underlying3 underlying32 (by rw[gu,show a%18446744073709551616=a by omega];exact h)
def wY{cs:Array Bool}{n:Nat}(h:K (ci (n:Int)) w):blt Q .len #[87] E cs #[.slice av n c] K w:=bM underlying87 h
def Om{cs:Array Bool}(base:Nat){n:Nat}{xs:List UInt8}{ys:List UInt8}(b:OB w base av n c xs)(o:RB w a2 m c2 ys)(e:n+m<=140737488355328)(a:base<=w.heap.size)(h:∀d c' S,OB S base d (n+m) c' (xs++ys)->w.grownBy S (Value.slice av n c).ownBlock->K (.slice d (n+m) c') S):blt Q .append #[87,87] E cs #[.slice av n c,.slice a2 m c2] K w:=by obtain⟨i,k,p,g,f⟩:=info_parts Lm;refine ZN underlying87 k p g f rfl b o (zbg ys) oo oo a ?_;intro d c' S l j;exact h d c' S (by simpa[OB]using l) j
def zhl{v:oF}{c:UInt8}(g:v=u8v c)(h:∀S,Below w.heap.size w S->RB S (some ⟨w.heap.size,0,none⟩) 1 1 [c]->S.heap.size=w.heap.size+1->K (.slice (some ⟨w.heap.size,0,none⟩) 1 1) S):cH Q 87 1 #[(0,v)] K w:=by obtain⟨i,d,j,a,b⟩:=info_parts Lm;subst g;exact zf6 underlying87 d j a rfl rfl λf=>h _ (cS (World.grownBy_alloc _ _ none) oA (λk e=>by cases e)) f oB
def mk8{C:Int}(base n:Nat)(d:C=(n:Int))(b2:n<=140737488355328)(b4:base<=w.heap.size)(h:∀c S,OB S base c 0 n []->Below w.heap.size w S->K (.slice c 0 n) S):mkS Q 87 (.int k' 0) (.int Q0 C) K w:=by obtain⟨i,e,f,b,a⟩:=info_parts Lm;exact zjW underlying87 e f b a d oo oo b4 h
def ze4{n:Nat}{k:IntKind}{l:List UInt8}(a:RB w av n c l)(d:0<=x)(e:x<n)(h:w.cell? (rV av x.toNat)=some (.int .u8 ((l.getD x.toNat 0).toNat:Int))->K (.pointer (some (rV av x.toNat))) w):bv Q 87 (.slice av n c) (.int k x) K w:=by
 refine Ll underlying87 Eg d e a.some_ (h ?_);have b:x.toNat<l.length:=by rw[a.len];omega
 rw[a.cell _ b];simp[List.getD,b]
def ld8{a:Addr}{n:Int}(b:w.cell? a=some (.int .u8 n))(h:K (.int .u8 n) w):ld Q 5 (.pointer (some a)) K w:=ux kf b h
def zaR{n:Nat}{l:Nat}{xs:List UInt8}(j:RB w av n c xs){g hi:Option oF}(e:(g=none/\l=0)\/∃k,g=some (.int k (l:Int)))(b:(hi=none/\m=n)\/∃k,hi=some (.int k (m:Int)))(d:l<=m)(f:m<=n)(h:∀a,RB w a (m-l) (c-l) ((xs.take m).drop l)->K (.slice a (m-l) (c-l)) w):slc Q 87 (.slice av n c) g hi none K w:=by refine ziE underlying87 Eg j e b d f λa i=>h a ?_;simpa[RB,List.map_drop,List.map_take]using i
def zhJ(base:Nat)(a:base<=w.heap.size)(h:∀c S,OB S base c 0 0 []->Below w.heap.size w S->K (.slice c 0 0) S):cH Q 87 0 #[] K w:=by obtain⟨i,e,f,b,d⟩:=info_parts Lm;exact zj4 underlying87 e b a h
end
def Ef:∀w,(sizeOf 87).run Q w=.ok 1 w:=λ_=>by kernel_rfl
def zab:(Tryz.prog.info? 87).map (λi=>(i.zero,i.size,i.bytes))=some (some (.slice none 0 0),1,24):=by kernel_rfl
def slv(v:Option Addr×Nat×Nat):oF:=.slice v.1 v.2.1 v.2.2
def zbf(l:List (Option Addr×Nat×Nat)):∀u∈l.map slv,u.oneCell'=true:=by intro u a;obtain⟨_,_,rfl⟩:=qT.1 a;rfl
structure RBB(w:oG) (a:Option Addr) (n c:Nat) (vs:List (Option Addr×Nat×Nat)) (L:List (List UInt8)):Prop where
 row:RV w a n c (vs.map slv)
 len:vs.length=L.length
 each:∀(i:Nat) (v:Option Addr×Nat×Nat) (l:List UInt8),vs[i]? = some v->L[i]? = some l->RB w v.1 v.2.1 v.2.2 l
def RBB.below{B:Nat}{n:Nat}{vs:List (Option Addr×Nat×Nat)}{L:List (List UInt8)}(h:RBB w a n c vs L)(d:Below B w S)(b:w.heap.size<=B):RBB S a n c vs L :=
 ⟨h.row.below d b,h.len,λi v l f e=>(h.each i v l f e).below d b⟩
def RBB.lenL{n:Nat}{vs:List (Option Addr×Nat×Nat)}{L:List (List UInt8)}(h:RBB w a n c vs L):L.length=n:=by
 have:=h.row.len
 simp only[oY]at this;rw[<-h.len];exact this
structure OBB(w:oG) (B:Nat) (a:Option Addr) (n c:Nat) (vs:List (Option Addr×Nat×Nat)) (L:List (List UInt8)):Prop where
 row:OV w B 87 a n c (vs.map slv)
 len:vs.length=L.length
 each:∀(i:Nat) (v:Option Addr×Nat×Nat) (l:List UInt8),vs[i]? = some v->L[i]? = some l->OB w B v.1 v.2.1 v.2.2 l
def OBB.rbb{B:Nat}{n:Nat}{vs:List (Option Addr×Nat×Nat)}{L:List (List UInt8)}(h:OBB w B a n c vs L):RBB w a n c vs L :=
 ⟨h.row.rv,h.len,λi v l d b=>(h.each i v l d b).rb⟩
def OBB.below{B:Nat}{n:Nat}{vs:List (Option Addr×Nat×Nat)}{L:List (List UInt8)}(h:OBB w B a n c vs L)(d:Below D w S)(b:w.heap.size<=D):OBB S B a n c vs L :=
 ⟨h.row.below d b,h.len,λi v l f e=>(h.each i v l f e).below d b⟩
def OBB.nil(w:oG)(B:Nat):OBB w B none 0 0 [] []:=⟨OV.nil w B _,rfl,λi v l h=>by simp at h⟩
def OB.grown_sl{B:Nat}{n:Nat}{l:List UInt8}{vs:List (Option Addr×Nat×Nat)}(h:OB w B a n c l)(p:OV w B2 87 a2 b c2 (vs.map slv))(r:w.grownBy S (Value.slice a2 b c2).ownBlock):OB S B a n c l:=by
 refine World.ownsRow.kept h r ?_;rcases h.2 with⟨f,_⟩|⟨g,m,o,f,_,k,_⟩
 .left;rw[f];rfl
 .right;rw[f];rcases p.2 with⟨d,_⟩|⟨s,i,j,d,_,e,_⟩
  .rw[d];simp[Value.ownBlock]
  .rw[d];simp only[Value.ownBlock,ne_eq,qD];intro q;rw[q,e]at k;simp at k
section
variable  {K:KV}
def zjn{cs:Array Bool}{n:Nat}(h:K (ci (n:Int)) w):blt Q .len #[97] E cs #[.slice av n c] K w:=bM underlying97 h
def zcI{cs:Array Bool}(base:Nat){n:Nat}{vs:List (Option Addr×Nat×Nat)}{L:List (List UInt8)}{v:Option Addr×Nat×Nat}{l:List UInt8}(a:OBB w base av n c vs L)(t:RV w a2 1 c2 [slv v])(r:OB w base v.1 v.2.1 v.2.2 l)(j:n<4294967296)(e:base<=w.heap.size)(h:∀g c' S,OBB S base g (n+1) c' (vs++[v]) (L++[l])->w.grownBy S (Value.slice av n c).ownBlock->K (.slice g (n+1) c') S):blt Q .append #[97,97] E cs #[.slice av n c,.slice a2 1 c2] K w:=by
 obtain⟨i,q,u,o,k⟩:=info_parts zab;refine ZN underlying97 q u o k rfl a.row t (zbf [v]) oo oo e ?_;intro g c' S s m;refine h g c' S ⟨by simpa using s,by simp[a.len],?_⟩ m;intro i y x b d;by_cases f:i<vs.length
 .rw[qO f]at b;rw[qO (by rw[<-a.len];exact f)]at d;exact(a.each i y x b d).grown_sl a.row m
 .rw[qP oo]at b;rw[qP (by rw[<-a.len];omega)]at d;have p:i-vs.length=0:=by
   have:=(gS b).1
   simpa using this
  rw[p]at b;rw[<-a.len,p]at d;simp at b d;subst b d;exact r.grown_sl a.row m
def zf5{v:Option Addr×Nat×Nat}(h:∀S,Below w.heap.size w S->RV S (some ⟨w.heap.size,0,none⟩) 1 1 [slv v]->S.heap.size=w.heap.size+1->K (.slice (some ⟨w.heap.size,0,none⟩) 1 1) S):cH Q 97 1 #[(0,.slice v.1 v.2.1 v.2.2)] K w:=by obtain⟨i,c,f,a,b⟩:=info_parts zab;exact zf6 underlying97 c f a rfl rfl λe=>h _ (cS (World.grownBy_alloc _ _ none) oA (λk d=>by cases d)) e oB
def zfi{n:Nat}{k:IntKind}{vs:List (Option Addr×Nat×Nat)}{L:List (List UInt8)}(b:RBB w av n c vs L)(e:0<=x)(f:x<n)(h:∀v l,vs[x.toNat]? = some v->L[x.toNat]? = some l->w.cell? (rV av x.toNat)=some (.slice v.1 v.2.1 v.2.2)->RB w v.1 v.2.1 v.2.2 l->K (.pointer (some (rV av x.toNat))) w):bv Q 97 (.slice av n c) (.int k x) K w:=by
 refine Ll underlying97 Ef e f b.row.some_ ?_;have g:=b.row.len;simp only[oY]at g;have d:x.toNat<vs.length:=by omega
 have a:x.toNat<L.length:=by rw[<-b.len];exact d
 refine h vs[x.toNat] L[x.toNat] (gE d) (gE a) ?_ (b.each _ _ _ (gE d) (gE a));exact b.row.cell _ _ (by simp[qC,gE d,slv])
def zi3{b:Addr}{n:Nat}(d:w.cell? b=some (.slice a n c))(h:K (.slice a n c) w):ld Q 87 (.pointer (some b)) K w :=
 ux kf d h
end
def zhx:BitVec 32:=0xedb88320#32
def cst(s:BitVec 32):BitVec 32:=(s >>> 1) ^^^ (if s.getLsbD 0 then zhx else 0#32)
def Ry:Nat->BitVec 32->BitVec 32
 | 0,s=>s
 | n+1,s=>cst (Ry n s)
def Tr(c:UInt8):BitVec 32:=BitVec.ofNat 32 c.toNat
def Mi(s:BitVec 32)(l:List UInt8):BitVec 32:=l.foldl (λs c=>Ry 8 (s ^^^ Tr c)) s
def Bt(a:BitVec 32)(l:List UInt8):BitVec 32 := ~~~ (Mi (~~~ a) l)
def XN(s:BitVec 32)(x y:List UInt8):Mi s (x++y)=Mi (Mi s x) y:=by simp[Mi,List.foldl_append]
def XO(s:BitVec 32)(x y:List UInt8):Bt (Bt s x) y=Bt s (x++y):=by simp[Bt,XN]
def zbU(s:BitVec 32)(x:List UInt8)(c:UInt8):Mi s (x++[c])=Ry 8 (Mi s x ^^^ Tr c):=by rw[XN];rfl
def td(s:BitVec 32):oF:=.int .u32 (s.toNat:Int)
section
variable  {K:KV}   
def BV(s:BitVec 32):BitVec.ofInt 32 (s.toNat:Int)=s:=by rw[BitVec.ofInt_natCast];simp
def Wn(s:BitVec 32):IntKind.u32.wrap (s.toNat:Int)=(s.toNat:Int):=by rw[Nq];have:=s.isLt;omega
def zfy{x y:BitVec 32}(h:K (td (x ^^^ y)) w):bin P .xor t cx cy (td x) (td y) K w:=by
 refine Qc ?_;have e:rC .xor .u32 (x.toNat:Int) (y.toNat:Int)=((x ^^^ y).toNat:Int):=by
  show IntKind.u32.wrap ((BitVec.ofInt 32 (x.toNat:Int) ^^^ BitVec.ofInt 32 (y.toNat:Int)).toNat:Int)=_;rw[BV,BV];exact Wn _
 rw[e];exact h
def zj0{x y:BitVec 32}(h:K (td (x &&& y)) w):bin P .and t cx cy (td x) (td y) K w:=by
 refine US ?_;have e:rC .and .u32 (x.toNat:Int) (y.toNat:Int)=((x &&& y).toNat:Int):=by
  show IntKind.u32.wrap ((BitVec.ofInt 32 (x.toNat:Int) &&& BitVec.ofInt 32 (y.toNat:Int)).toNat:Int)=_;rw[BV,BV];exact Wn _
 rw[e];exact h
def zf7{x:BitVec 32}(h:K (td (~~~ x)) w):un P .xor (td x) K w:=by
 refine ziL ?_;have e:rC .xor .u32 (if IntKind.u32.signed=true then -1 else IntKind.u32.max) (x.toNat:Int)=((~~~ x).toNat:Int):=by
  rw[show (if IntKind.u32.signed=true then -1 else IntKind.u32.max)=(((BitVec.allOnes 32).toNat:Nat):Int)from rfl];show IntKind.u32.wrap ((BitVec.ofInt 32 ((BitVec.allOnes 32).toNat:Int) ^^^ BitVec.ofInt 32 (x.toNat:Int)).toNat:Int)=_;rw[BV,BV,BitVec.allOnes_xor];exact Wn _
 rw[e];exact h
def zjC{x:BitVec 32}{k:IntKind}(h:K (td (x >>> 1)) w):bin P .shr t cx cy (td x) (.int k 1) K w:=by
 refine He oo ?_;have e:((x.toNat:Int)).fdiv (2 ^ min (1:Int).toNat IntKind.u32.bits)=((x >>> 1).toNat:Int):=by
  rw[show (2:Int) ^ min (1:Int).toNat IntKind.u32.bits=2 from rfl,BitVec.toNat_ushiftRight,Nat.shiftRight_eq_div_pow,Int.fdiv_eq_ediv_of_nonneg _ oo];omega
 rw[e];exact h
def zjt{x y:BitVec 32}(h:K (td (x*y)) w):bin P .mul t cx cy (td x) (td y) K w:=by
 refine UU ?_;have e:IntKind.u32.wrap ((x.toNat:Int)*(y.toNat:Int))=((x*y).toNat:Int):=by
  rw[Nq,BitVec.toNat_mul];omega
 rw[e];exact h
def zfC(s:BitVec 32):s &&& 1#32=if s.getLsbD 0 then 1#32 else 0#32:=by
 apply BitVec.eq_of_toNat_eq;rw[BitVec.toNat_and];have a:(1#32).toNat=1:=rfl;rw[a,Nat.and_one_is_mod];have b:s.getLsbD 0=decide (s.toNat%2=1):=by simp[BitVec.getLsbD,Nat.testBit_zero]
 rw[b];by_cases h:s.toNat%2=1
 .simp[h]
 .simp[h];omega
end
def zd5{s:BitVec 32}{K:KV}(h:K (td (Ry 8 s)) w):call Q 107 #[td s] K w:=by
 refine ao (goK func107) (V7 ?_);refine Rv (Inv:=λx i c=>∃j:Nat,j<=8/\i=ci (j:Nat)/\x=td (Ry j s)/\c=w) (μ:=λ_ i _=>8-(intOf i).toNat) ⟨0,by omega,rfl,rfl,rfl⟩ ?_;rintro _ _ _ e m ⟨j,d,rfl,rfl,rfl⟩ b;by_cases a:j<8
 ·(repeat (first|refine aW ?_|refine aG oo ?_))
  refine zjC <|zj0 (y:=1#32) <|zjt (x:=zhx) <|zfy ?_
  (repeat (first|refine aY oo oo ?_))
  refine⟨⟨j+1,by omega,by simp,?_,rfl⟩,by rw[b];simp only[intOf];omega⟩;show td _=td (cst (Ry j s));rw[zfC];unfold cst;cases (Ry j s).getLsbD 0<;>simp
 .have:j=8:=by omega
  subst this
  (repeat (first|refine Rx ?_|refine aW ?_|refine aD ?_))
  exact h
def zhq{c:UInt8}{K:KV}(h:K (td (Tr c)) w):conv Q 5 206 (.int .u8 (c.toNat:Int)) K w:=by
 refine dP underlying5 underlying206 ?_;have e:IntKind.u32.wrap (c.toNat:Int)=((Tr c).toNat:Int):=by
  have:=c.toNat_lt
  rw[Nq];simp only[Tr,BitVec.toNat_ofNat];omega
 rw[e];exact h
def zbB(l:List UInt8)(j:Nat)(h:j<l.length):l.take (j+1)=l.take j++[l.getD j 0]:=by rw[List.take_succ_eq_append_getElem h];simp[List.getD,h]
def YH{s:BitVec 32}{n:Nat}{l:List UInt8}{K:KV}(b:RB w a n c l)(p:n<=9223372036854775807)(h:K (td (Bt s l)) w):call Q 86 #[td s,.slice a n c] K w:=by
 have o:=b.len;refine ao (goK func86) (Zt ?_);refine zf7 ?_
 (repeat (first|refine wY ?_))
 refine WT (Inv:=λx i g=>∃j:Nat,j<=n/\i=ci (j:Nat)/\x=td (Mi (~~~ s) (l.take j))/\g=w) (μ:=λ_ i _=>n-(intOf i).toNat) ⟨0,by omega,rfl,by simp[Mi],rfl⟩ ?_;rintro _ _ _ q m ⟨j,k,rfl,rfl,rfl⟩ f;by_cases e:j<n
 ·(repeat (first|refine aW ?_|refine aG oo ?_))
  refine ze4 b oo oo ?_;intro d;refine ld8 d <|zhq <|zfy <|zd5 ?_
  (repeat (first|refine aY oo oo ?_))
  refine⟨⟨j+1,by omega,by simp,?_,rfl⟩,by rw[f];simp only[intOf];omega⟩;rw[zbB _ _ oo,zbU];simp
 .have:j=n:=by omega
  subst this
  (repeat (first|refine WU ?_|refine aW ?_|refine aB oo ?_))
  refine zf7 ?_;rw[tL oo];exact h
def zfv{n:Nat}{l:List UInt8}{K:KV}(b:RB w a n c l)(d:n<=9223372036854775807)(h:K (td (Bt 0 l)) w):call Q 87 #[.slice a n c] K w:=by refine ao (goK func87) (zaQ ?_);exact YH (s:=0) b d h
end
end Go.Proofs.YtgohpbmmcgenpaaGreatDoor
