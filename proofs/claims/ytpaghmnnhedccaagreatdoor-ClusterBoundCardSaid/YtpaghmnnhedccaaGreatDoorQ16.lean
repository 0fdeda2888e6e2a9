import Derived.Test.YtpaghmnnhedccaaGreatDoorQ15
set_option linter.all false
namespace Go.Proofs.YtpaghmnnhedccaaGreatDoor
set_option maxRecDepth 100000
set_option maxHeartbeats 4000000
open Go.Proofs.Tryz
open Go.RowKit
variable {w w' w0 w2 S O:oG}{K:KV}{zf:Nat->oF}{b c o i g m s j f z d c2 D gc B2 hi:Nat}{a av a2:Option Addr}{x v r P0:Int}{E t e:TypeId}{A:List Int}{B1 N R:KE}{xs vs:oE}{cx:Bool}{α:Type}{T:List (Int×Int)}{X1 Z1 N2 O2 P2 Q2 R2 T2 H Z U Y J C:oF}
def Fb(c a b:oF)(zf:oD):=zf 0::c::zf 2::a::b::zT zf 5 61 ([])
def Fc(zf:oD):=zT zf 0 66 ([])
def uL(K:KV):KE:=ai Q (cd f6 (b1 63)) (rk f6 K) xf (rk f6 K)
abbrev Gf(K:KV)(hA0:KE)(w:oG):Prop :=
  call Q 7 #[ci 2] (λa=>ext Q a 0 λb=>ext Q a 1 λc=>bT .neq 26 c (ci 0) λd w=>aM d false (λa=>bT .eql 25 b (.pointer none) (λc=>a [b,c]) w) (λk=>k [uu,uu] w) λe=>pick d cT (gd e 1) λf w=>cond f (K cF w) (bld Q 46 #[(0,cb 1),(3,ci 10)] (λg=>bld Q 49 #[(0,cb 1),(1,ci 1),(2,g)] λh=>call Q 10 #[b,h] λi=>alc Q 56 λj=>sto Q 56 j i λ_=>bld Q 49 #[(0,cb 2),(1,ci 1)] λk=>call Q 10 #[b,k] λl=>alc Q 56 λm=>sto Q 56 m l λ_=>hA0 (Fb b j m (zV (zV (zV zu 0 [cF]) 2 [c]) 8 [a,a,b,c,c,d,d,gd e 0,gd e 1,f,b,g,h,i,b,k,l]))) w)) w
def RD(a:Code)(h:Gf K (ai Q a (rk f6 K) (λ_ _ _=>False) (rk f6 K)) w):ai Q (rep (b1 63) a (cd f6 [])) (rk f6 K) xf (rk f6 K) (Fc zu) w:=Eq.mp kr h
def PS(h:Gf K (uL K) w):Gives Q 6 #[] w K:=au func6 kr (Eq.mp (qH (λc=>ai Q c (rk f6 K) xf (rk f6 K) (Fc zu) w) (by kernel_rfl:(rep (b1 63) (cd f6 (b1 63)) (cd f6 []))=(cd f6 []))) (RD (cd f6 (b1 63)) h))
def Nn(h:bld Q 49 #[(0,cb 4)] (λH=>call Q 10 #[Z,H] λI=>alc Q 56 λU=>sto Q 56 U I λ_=>call Q 8 #[Z,ci 2] λa=>ext Q a 0 λJ=>ext Q a 1 λL=>alc Q 42 λV=>sto Q 42 V J λ_=>ao Q 56 Y 1 λM=>ld Q 26 M λN=>bT .eql 26 N (ci 0) λb w=>aM b true (λB=>ao Q 56 Y 0 (λc=>ao Q 54 c 1 λd=>ld Q 36 d λe=>bT .eql 36 e (cu 1) λO=>B [c,d,e,O]) w) (λk=>k [uu,uu,uu,uu] w) λu=>pick b (gd u 3) cF λf w=>aM f true (λC=>ao Q 56 N2 1 (λg=>ld Q 26 g λi=>bT .eql 26 i (ci 0) λP=>C [g,i,P]) w) (λk=>k [uu,uu,uu] w) λv=>pick f (gd v 2) cF λj w=>aM j true (λD=>ao Q 56 U 1 (λl=>ld Q 26 l λm=>bT .eql 26 m (ci 0) λR=>D [l,m,R]) w) (λk=>k [uu,uu,uu] w) λx=>pick j (gd x 2) cF λn w=>aM n true (λE=>E [L] w) (λk=>k [uu] w) λy=>pick n (gd y 0) cF λo w=>aM o true (λF=>ao Q 42 V 3 (λp=>ld Q 39 p λq=>lN 39 q λr=>bT .eql 3 r (ci 1) λS=>F [p,q,r,S]) w) (λk=>k [uu,uu,uu,uu] w) λz=>pick o (gd z 3) cF λs w=>aM s true (λG=>call Q 16 #[Z] (λt=>bT .eql 3 t (ci 0) λT=>G [Z,t,T]) w) (λk=>k [uu,uu,uu] w) λA=>pick s (gd A 2) cF K) w):uL K (Fb Z Y N2 zf) w:=mpK h
attribute [irreducible] uL
def Is(b a:oF)(zf:oD):=b::zf 1::zf 2::a::zT zf 4 17 ([])
def Iu(zf:oD):=zT zf 0 21 ([])
def nH(K:KV):KE:=kZ f5 [1,1,1] K
def wV(K:KV):KE:=ai Q (cd f5 (b1 58)) (nH K) (xx xf (nH K) 0) (rk f5 K)
def Ta(h:lN 22 H (λa=>bT .gtr 3 a (ci 100) λb w=>cond b (K cF w) (wV K (Is H (ci 0) (zV (zV zu 2 [cF]) 4 [H,a,b])) w)) w):Gives Q 5 #[H] w K:=au func5 kr (mpK h)
def PN(Inv:oF->oG->Prop)(μ:oF->oG->Nat)(l:Inv Z w)(n:∀(a:oF) (k:oD) (w:oG) (m:Nat),Inv a w->m=μ a w ->
  lN 22 H (λj=>lS a j λb w=>cond b (aW Q 22 H a (λb=>ao Q 51 b 0 λd=>ao Q 49 d 6 λe=>ld Q 47 e λf=>lN 47 f λg=>bT .gtr 3 g (ci 20) λi w=>cond i (K cF w) (nC a (λc w=>(Inv c w)/\((μ c w)<m)) w)) w) (nH K (Iu (zV (zV (zV k 0 [H]) 3 [a]) 7 [a,H,j,b])) w)) w):wV K (Is H Z zf) w:=by refine lV (cd f5 (b1 116)) [(2,2),(7,14)] 3 zf l n ?_;intro o p;exact mpF
def PO(h:K cT w):nH K (Iu zf) w:=mpK h
attribute [irreducible] nH wV
def AR(x2 s3 t4 y5 t15:oF)(zf:oD):=zf 0::zf 1::x2::s3::t4::y5::zT zf 6 9 (t15::zT zf 16 15 ([]))
def qu(t4 y5:oF)(zf:oD):=zT zf 0 4 (t4::y5::zT zf 6 25 ([]))
def fW(K:KV):KE:=kZ f9 [1,1,1] K
def mI(K:KV):KE:=ai Q (cd f9 [1,1,0,1]) (fW K) xf (rk f9 K)
section
variable {x2 s3 t4 y5 t15:oF}
def KR(h:box Q 51 H (λb=>box Q 42 Z λc=>alc Q 49 λe=>ao Q 51 b 0 λf=>ld Q 49 f λg=>alc Q 49 λh=>sto Q 49 h g λ_=>ao Q 51 b 1 λi=>ld Q 4 i λd w=>aM d true (λe=>ao Q 42 c 3 (λb=>ld Q 39 b λc=>lN 39 c λa=>bT .gtr 3 a (ci 0) λd=>e [b,c,a,d]) w) (λk=>k [uu,uu,uu,uu] w) λa=>pick d (gd a 3) cF λj=>mI K (AR b c e h j (zV (zV zu 0 [H,Z]) 6 [f,g,i,d,d,gd a 0,gd a 1,gd a 2,gd a 3]))) w):Gives Q 9 #[H,Z] w K:=by refine au func9 kr <|rpT [1,1,0,1] (cd f9 [1,1,0,1]) (cd f9 []) ?_;revert h;delta mI fW;generalize (cd f9 [1,1,0,1])=xc0;exact mpF
def yT(h:cond t15 (sF 42 s3 3 (λa=>sL 39 a λb=>sF 51 x2 2 λc=>sL 5 c λd=>sti (conv Q 5 3 d) λe=>sF 42 s3 3 λf=>sL 39 f λg=>sti (blt Q .len #[39] 3 #[false] #[g]) λi=>sti (bF .rem 3 e i) λj=>sI 39 b j λk=>sF 83 k 0 λl=>sL 36 l λm=>sF 49 y5 2 λn=>sF 46 n 1 λo=>sto Q 36 o m λ_=>fW K (qu t4 y5 (zV (zV zf 2 [x2,s3]) 15 [t15,a,b,c,d,e,f,g,i,j,k,l,m,n,o]))) w.drew) (fW K (qu t4 y5 (zV (zV zf 2 [x2,s3]) 15 [t15])) w)):mI K (AR x2 s3 t4 y5 t15 zf) w:=by delta mI;revert h;exact mpF
def Iv(h:ld Q 49 y5 (λa=>sto Q 49 t4 a λ_=>aY Q [(some 49,t4)] K) w):fW K (qu t4 y5 zf) w:=mpK h
end
attribute [irreducible] fW mI
def yc(c b a:oF)(zf:oD):=zf 0::c::zT zf 2 4 (b::zf 7::a::zT zf 9 92 ([]))
def cP(d b a c:oF)(zf:oD):=zf 0::d::zT zf 2 4 (b::zf 7::a::c::zT zf 10 91 ([]))
def kD(e c a d b:oF)(zf:oD):=zf 0::e::zT zf 2 4 (c::zf 7::a::d::zf 10::zf 11::b::zT zf 13 88 ([]))
def yd(a:oF)(zf:oD):=zT zf 0 6 (a::zT zf 7 94 ([]))
def sv(g e c f d a b:oF)(zf:oD):=zf 0::g::zT zf 2 4 (e::zf 7::c::f::zf 10::zf 11::d::a::zT zf 14 71 (b::zT zf 86 15 ([])))
def kC(K:KV):KE:=ai Q (cd f3 (b1 127)) (rk f3 K) xf (rk f3 K)
def cQ(K:KV):KE:=kZ f3 (b1 255) K
def kE(K:KV):KE:=ai Q (cd f3 (b1 1018)) (cQ K) (xx xf (cQ K) 0) (rk f3 K)
def cS(K:KV)(B1:KE):KE:=kY f3 (b1 8147) B1 (xx xf (cQ K) 0) K
def eY(K:KV)(B1:KE):KE:=ai Q (cd f3 (b1 65171)) (cS K B1) (xx (xx xf (cQ K) 0) (cS K B1) 1) (rk f3 K)
def eZ(K:KV)(B1:KE):KE:=kY f3 (b1 521375) (cS K B1) (xx (xx xf (cQ K) 0) (cS K B1) 1) K
def iI(K:KV)(B1:KE):KE:=ai Q (cd f3 (b1 1042749)) (eZ K B1) (xx (xx xf (cQ K) 0) (cS K B1) 1) (rk f3 K)
def Gy(h:call Q 5 #[H] (λh=>un Q .not h λg w=>cond g (call Q 6 #[] K w) (conv Q 5 3 Z (λi=>bT .rem 3 i (ci 6) λj=>bin Q .add 3 true false (ci 1) j λb=>call Q 7 #[b] λc=>ext Q c 0 λd=>ext Q c 1 λe=>bT .neq 26 e (ci 0) λf w=>aM f false (λo=>bT .eql 25 d (.pointer none) (λp=>o [d,p]) w) (λk=>k [uu,uu] w) λa=>pick f cT (gd a 1) λl w=>cond l (K cF w) (bld Q 34 #[] (λm=>box Q 34 m λn=>kC K (yc H d n (zV (zV (zV (zV (zV zu 0 [Z]) 4 [cF,b]) 7 [e]) 14 [H,h,g]) 18 [Z,i,j,b,c,b,c,d,e,e,f,f,gd a 0,gd a 1,l,m,n]))) w)) w)) w):Gives Q 3 #[Z,H] w K:=by refine au func3 kr <|rpT [1,1,1,1,1,1] (cd f3 (b1 127)) (cd f3 []) ?_;revert h;delta kC;generalize (cd f3 (b1 127))=xc0;exact mpF
def EM(h:kE K (cP Z U H (ci 0) zf) w):kC K (yc Z U H zf) w:=mpK h
def ER(Inv:oF->oG->Prop)(μ:oF->oG->Nat)(x:Inv J w)(y:∀(a:oF) (t:oD) (w:oG) (m:Nat),Inv a w->m=μ a w ->
  lN 22 H (λg=>lS a g λi w=>cond i (aW Q 22 H a (λn=>ao Q 51 n 0 λo=>ao Q 49 o 1 λp=>ld Q 3 p λq=>call Q 8 #[Z,q] λb=>ext Q b 0 λr=>ext Q b 1 λj=>alc Q 42 λf=>sto Q 42 f r λ_ w=>aF (λS w=>hI S 22 H a λs=>hL S 51 s λk=>hL S 42 f λl=>(call Q 9 #[k,l] (λd=>aF λ_=>alc Q 49 λU=>aF λ_=>sto Q 49 U d λ_=>eY K (λe O=>(Inv (gd e 9) O)/\((μ (gd e 9) O)<m)) (kD H Z Y a U (zV (zV (zV t 10 [f,j]) 35 [a,H,g,i]) 41 [b,Z,H,a,n,o,p,q,b,r,j,H,a,s,k,l,d]))) w)/\(alc Q 49 (λU=>aX S λ_=>call Q 9 #[k,l] λd=>aF λ_=>sto Q 49 U d λ_=>eY K (λe O=>(Inv (gd e 9) O)/\((μ (gd e 9) O)<m)) (kD H Z Y a U (zV (zV (zV t 10 [f,j]) 35 [a,H,g,i]) 41 [b,Z,H,a,n,o,p,q,b,r,j,H,a,s,k,l,d]))) w)) w.drew) w) (cQ K (yd Z (zV (zV (zV t 1 [H]) 8 [Y,a]) 35 [a,H,g,i])) w)) w):kE K (cP H Z Y J zf) w:=by refine dC (cd f3 (b1 2036)) (zr [(4,1),(9,5),(35,61)]) kr (vP [9] Inv) (vQ [9] μ) x ?_;intro u v hI;have h:=y _ (zM zf (gd u) (zr [(4,1),(9,5),(35,61)])) v _ hI rfl;refine Eq.mp (qH (λc=>ai Q c _ _ _ _ v) (by kernel_rfl:(rep (b1 51) (cd f3 (b1 65171)) (cd f3 (b1 2036)))=(cd f3 (b1 2036)))) ?_;revert h;delta eY cS;generalize (cd f3 (b1 65171))=xc0;exact mpF
def EO(h:ld Q 49 Z (λg=>call Q 10 #[Y,g] λi=>alc Q 56 λU=>sto Q 56 U i λ_=>ao Q 56 U 0 λj=>ao Q 54 j 0 λl=>ld Q 3 l λm=>bT .gtr 3 m (ci 0) λe w=>aM e true (λC=>ao Q 56 U 1 (λn=>ld Q 26 n λo=>bT .neq 26 o (ci 0) λp=>C [n,o,p,p]) w) (λk=>k [uu,uu,uu,uu] w) λb w=>aM (gd b 3) false (λD=>ao Q 49 Z 0 (λq=>ld Q 5 q λr=>bT .neq 5 r (cb 1) λH=>D [q,r,H]) w) (λk=>k [uu,uu,uu] w) λc w=>aM e true (λE=>pick (gd b 3) cT (gd c 2) (λs=>E [s,s]) w) (λk=>k [uu,uu] w) λd w=>aM (gd d 1) false (λF=>ao Q 56 U 0 (λt=>ao Q 54 t 0 λu=>ld Q 3 u λv=>ao Q 49 Z 1 λx=>ld Q 3 x λy=>bF .neq 3 v y λI=>F [t,u,v,x,y,I]) w) (λk=>k [uu,uu,uu,uu,uu,uu] w) λa w=>aM e true (λG=>pick (gd d 1) cT (gd a 5) (λJ=>G [J]) w) (λk=>k [uu] w) λf=>pick e (gd f 0) cF λz w=>cond z (K cF w) (ao Q 49 Z 0 (λA=>ld Q 5 A λB=>bT .eql 5 B (cb 1) λh=>iI K B1 (sv X1 Y N2 O2 Z U h (zV zf 58 [Y,g,i,j,l,m,e,e,gd b 0,gd b 1,gd b 2,gd b 3,gd c 0,gd c 1,gd c 2,gd d 0,gd d 1,gd a 0,gd a 1,gd a 2,gd a 3,gd a 4,gd a 5,gd f 0,z,A,B]))) w)) w):eY K B1 (kD X1 Y N2 O2 Z zf) w:=by delta eY;refine rpT [1,1,0,1] (cd f3 (b1 1042749)) (cd f3 (b1 65171)) ?_;revert h;delta iI eZ;generalize (cd f3 (b1 1042749))=xc0;exact mpF
def ES(h:call Q 13 #[H] (λa w=>aM a true (λc=>call Q 6 #[] (λd=>c [d]) w) (λk=>k [uu] w) λb=>pick a (gd b 0) cF K) w):cQ K (yd H zf) w:=mpK h
def EQ(h:cond Y (ao Q 49 Z 1 (λa=>ld Q 3 a λb=>ao Q 49 Z 2 λc=>ld Q 46 c λd=>ld Q 56 U λe=>call Q 11 #[H,b,d,e] λf=>eZ K B1 (cP C Z1 H J (zV (zV zf 12 [Z,U]) 85 [Y,H,a,b,c,d,e,f]))) w) (eZ K B1 (cP C Z1 H J (zV (zV zf 12 [Z,U]) 85 [Y])) w)):iI K B1 (sv C Z1 H J Z U Y zf) w:=by delta iI;revert h;exact mpF
def EW(h:call Q 12 #[H] (λa=>un Q .not a λb w=>cond b (K cF w) (cS K B1 (cP U Y H Z (zV zf 93 [H,a,b])) w)) w):eZ K B1 (cP U Y H Z zf) w:=by delta eZ;revert h;exact mpF
def EU(h:nC H (λa=>B1 (cP U Y Z a (zV zf 39 [H,a]))) w):cS K B1 (cP U Y Z H zf) w:=by delta cS;revert h;exact mpF
attribute [irreducible] kC cQ kE cS eY eZ iI
def nO(c0 a:oF)(zf:oD):=c0::zf 1::zf 2::a::zT zf 4 43 ([])
def EX(c0 b d a c:oF)(zf:oD):=c0::zf 1::zf 2::b::d::a::c::zT zf 7 40 ([])
def EY(zf:oD):=zT zf 0 47 ([])
def ip(K:KV):KE:=kZ f13 [1,1] K
def uH(K:KV):KE:=ai Q (cd f13 [1,0,1,0]) (ip K) (xx xf (ip K) 0) (rk f13 K)
def iq(K:KV)(B1:KE):KE:=kY f13 (b1 211) B1 (xx xf (ip K) 0) K
def uI(K:KV)(B1:KE):KE:=ai Q (cd f13 (b1 3366)) (iq K B1) (xx (xx (xx xf (ip K) 0) (iq K B1) 1) (iq K B1) 2) (rk f13 K)
def PP(h:uH K (nO H (ci 1) (zV zu 2 [cF])) w):Gives Q 13 #[H] w K:=au func13 kr (mpK h)
def Nd(Inv:oF->oG->Prop)(μ:oF->oG->Nat)(i:Inv U w)(j:∀(a:oF) (f:oD) (w:oG) (m:Nat),Inv a w->m=μ a w ->
  bT .leq 3 a (ci 6) (λc w=>cond c (call Q 8 #[H,a] (λb=>ext Q b 0 λd=>ext Q b 1 λe=>alc Q 42 λZ=>sto Q 42 Z d λ_=>uI K (λg S=>(Inv (gd g 3) S)/\((μ (gd g 3) S)<m)) (EX H a Z e (ci 1) (zV (zV f 9 [a,c]) 13 [b,H,a,b,d,e]))) w) (ip K (EY (zV (zV (zV f 0 [H]) 3 [a]) 9 [a,c])) w)) w):uH K (nO H U zf) w:=by refine lV (cd f13 (b1 52)) [(2,45)] 3 zf i j ?_;intro k l;delta uI iq;exact mpF
def CI(Inv:oF->oG->Prop)(μ:oF->oG->Nat)(E:Inv P2 w)(F:∀(a:oF) (D:oD) (w:oG) (m:Nat),Inv a w->m=μ a w ->
  lS a U (λb w=>aM b true (λu=>u [Y] w) (λk=>k [uu] w) λc=>pick b (gd c 0) cF λd w=>cond d (call Q 8 #[J,a] (λf=>ext Q f 0 λy=>ext Q f 1 λg=>alc Q 42 λC=>sto Q 42 C y λ_ w=>aM g true (λv=>ao Q 42 Z 2 (λi=>ld Q 38 i λj=>ao Q 42 C 2 λl=>ld Q 38 l λn=>bF .eql 38 j n λz=>v [i,j,l,n,z]) w) (λk=>k [uu,uu,uu,uu,uu] w) λs=>pick g (gd s 4) cF λo w=>aM o true (λx=>ld Q 42 Z (λp=>ld Q 42 C λq=>call Q 15 #[p,q] λr=>un Q .not r λA=>x [p,q,r,A]) w) (λk=>k [uu,uu,uu,uu] w) λt=>pick o (gd t 3) cF λB w=>cond B (K cF w) (nC a (λe w=>(Inv e w)/\((μ e w)<m)) w)) w) (iq K B1 (nO J U (zV (zV D 4 [Z,Y,a]) 19 [a,U,b,b,gd c 0,d])) w)) w):uI K B1 (EX J U Z Y P2 zf) w:=by refine lV (cd f13 (b1 6732)) [(2,1),(6,3),(19,28)] 6 zf E F ?_;intro G H;exact mpF
def Nf(h:K cT w):ip K (EY zf) w:=mpK h
def Ng(h:nC H (λa=>B1 (nO Z a (zV zf 11 [H,a]))) w):iq K B1 (nO Z H zf) w:=by delta iq;revert h;exact mpF
attribute [irreducible] ip uH iq uI
def rt(a c d b:oF)(zf:oD):=a::c::d::zT zf 3 4 (b::zT zf 8 32 ([]))
def ir(a c d b up8 e:oF)(zf:oD):=a::c::d::zT zf 3 4 (b::up8::e::zT zf 10 30 ([]))
def EZ(zf:oD):=zT zf 0 40 ([])
def Fa(a c b up8:oF)(zf:oD):=a::zf 1::c::zT zf 3 4 (b::up8::zT zf 9 31 ([]))
def eC(K:KV):KE:=kZ f27 [1,1] K
def uJ(K:KV):KE:=ai Q (cd f27 [1,0,1,0]) (eC K) (xx xf (eC K) 0) (rk f27 K)
def fX(K:KV)(B1:KE):KE:=kY f27 (b1 211) B1 (xx xf (eC K) 0) K
def iu(K:KV)(B1:KE):KE:=kY f27 (b1 3367) (fX K B1) (xx (xx xf (eC K) 0) (fX K B1) 1) K
def uK(K:KV)(B1:KE):KE:=ai Q (cd f27 (b1 13466)) (iu K B1) (xx (xx (xx xf (eC K) 0) (fX K B1) 1) (iu K B1) 2) (rk f27 K)
def ji(K:KV)(B1:KE)(B2:KE):KE:=kY f27 (b1 107731) B2 (xx (xx (xx xf (eC K) 0) (fX K B1) 1) (iu K B1) 2) K
def rh(K:KV)(B1:KE)(B2:KE):KE:=ai Q (cd f27 (b1 107730)) (ji K B1 B2) (xx (xx (xx xf (eC K) 0) (fX K B1) 1) (iu K B1) 2) (rk f27 K)
def PQ(h:uJ K (rt Z U H (ci 0) (zV zu 6 [cF])) w):Gives Q 27 #[Z,U,H] w K:=au func27 kr (mpK h)
def Ni(Inv:oF->oF->oG->Prop)(μ:oF->oF->oG->Nat)(j:Inv Y U w)(l:∀(b a:oF) (i:oD) (w:oG) (m:Nat),Inv b a w->m=μ b a w ->
  bT .leq 3 a (ci 4) (λd w=>aM d true (λg=>bT .neq 36 b (cu 0) (λa=>g [b,a]) w) (λk=>k [uu,uu] w) λc=>pick d (gd c 1) cF λf w=>cond f (bF .eql 36 b H (λe w=>cond e (K cT w) (uK K (λf S=>(Inv (gd f 1) (gd f 7) S)/\((μ (gd f 1) (gd f 7) S)<m)) (ir Z b H a (cu 0) (ci 0) (zV (zV i 10 [a,d,d,gd c 0,gd c 1,f]) 18 [b,H,e])) w)) w) (eC K (EZ (zV (zV (zV i 0 [Z,b,H]) 7 [a]) 10 [a,d,d,gd c 0,gd c 1,f])) w)) w):uJ K (rt Z Y H U zf) w:=by refine lW (cd f27 (b1 52)) [(1,1),(6,34)] 1 7 zf j l ?_;intro n o;delta uK iu fX;exact mpF
def Nj(Inv:oF->oF->oG->Prop)(μ:oF->oF->oG->Nat)(k:Inv J C w)(n:∀(b a:oF) (i:oD) (w:oG) (m:Nat),Inv b a w->m=μ b a w ->
  lN 30 H (λe=>lS a e λf w=>cond f (rh K B1 (λd S=>(Inv (gd d 8) (gd d 9) S)/\((μ (gd d 8) (gd d 9) S)<m)) (ir H Y Z U b a (zV i 21 [a,H,e,f])) w) (iu K B1 (Fa H Z U b (zV (zV (zV i 1 [Y]) 9 [a]) 21 [a,H,e,f])) w)) w):uK K B1 (ir H Y Z U J C zf) w:=by refine dC (cd f27 (b1 26932)) (zr [(8,2),(21,18)]) kr (vP [8,9] Inv) (vQ [8,9] μ) k ?_;intro g j l;have h:=n _ _ (zM zf (gd g) (zr [(8,2),(21,18)])) j _ l rfl;refine Eq.mp (qH (λc=>ai Q c _ _ _ _ j) (by kernel_rfl:(rep [1,0] (cd f27 (b1 107730)) (cd f27 (b1 26932)))=(cd f27 (b1 26932)))) ?_;revert h;delta rh ji;generalize (cd f27 (b1 107730))=xc0;exact mpF
def CJ(h:K cF w):eC K (EZ zf) w:=mpK h
def Nh(h:aW Q 30 Z H (λa=>ld Q 54 a λb=>call Q 26 #[b] λc=>bF .eql 36 c U λd w=>cond d (aW Q 30 Z H (λe=>ao Q 54 e 4 λf=>ld Q 36 f λg=>ji K B1 N (ir Z U Y J g H (zV zf 27 [Z,H,a,b,c,U,d,Z,H,e,f,g]))) w) (ji K B1 N (ir Z U Y J C H (zV zf 27 [Z,H,a,b,c,U,d])) w)) w):rh K B1 N (ir Z U Y J C H zf) w:=by delta rh;revert h;exact mpF
def Nl(h:fX K B1 (rt Y H Z U (zV (zV zf 8 [H]) 39 [H])) w):iu K B1 (Fa Y Z U H zf) w:=by delta iu;revert h;exact mpF
def Nm(h:nC H (λa=>N (ir J C Z U Y a (zV zf 25 [H,a]))) w):ji K B1 N (ir J C Z U Y H zf) w:=by delta ji;revert h;exact mpF
def Nk(h:nC H (λa=>B1 (rt U Y Z a (zV zf 16 [H,a]))) w):fX K B1 (rt U Y Z H zf) w:=by delta fX;revert h;exact mpF
attribute [irreducible] eC uJ fX iu uK ji rh
def Ay(c b a d:oF)(zf:oD):=c::b::a::zT zf 3 4 (d::zT zf 8 32 ([]))
def Az(zf:oD):=zT zf 0 40 ([])
def gW(K:KV):KE:=kZ f24 [1,1] K
def pL(K:KV):KE:=ai Q (cd f24 [1,0,1,0]) (gW K) (xx xf (gW K) 0) (rk f24 K)
def JD(h:pL K (Ay Z U H (ci 0) (zV zu 6 [ci 0])) w):Gives Q 24 #[Z,U,H] w K:=au func24 kr (mpK h)
def GO(Inv:oF->oG->Prop)(μ:oF->oG->Nat)(B:Inv Y w)(C:∀(a:oF) (A:oD) (w:oG) (m:Nat),Inv a w->m=μ a w ->
  aU H (λb=>ao Q 34 b 2 λc=>ld Q 32 c λd=>lN 32 d λe=>lS a e λf w=>cond f (aU H (λr=>ao Q 34 r 2 λs=>ld Q 32 s λt=>aW Q 32 t a λu=>ao Q 92 u 0 λv=>ld Q 3 v λx=>bF .eql 3 x U λf w=>aM f true (λq=>aU H (λg=>ao Q 34 g 2 λi=>ld Q 32 i λj=>aW Q 32 j a λl=>ao Q 92 l 1 λn=>ld Q 36 n λo=>bF .eql 36 o Z λy=>q [H,g,i,j,a,l,n,o,Z,y]) w) (λk=>k [uu,uu,uu,uu,uu,uu,uu,uu,uu,uu] w) λp=>pick f (gd p 9) cF λz w=>cond z (K a w) (nC a (λe w=>(Inv e w)/\((μ e w)<m)) w)) w) (gW K (Az (zV (zV A 0 [H,U,Z]) 7 [a,a,H,b,c,d,e,f])) w)) w):pL K (Ay H U Z Y zf) w:=by refine lV (cd f24 (b1 52)) [(6,34)] 7 zf B C ?_;intro D E;exact mpF
def GP(h:K (ci (-1)) w):gW K (Az zf) w:=mpK h
attribute [irreducible] gW pL
def Aw(c b a d:oF)(zf:oD):=c::b::a::zT zf 3 4 (d::zT zf 8 31 ([]))
def Ax(zf:oD):=zT zf 0 39 ([])
def gV(K:KV):KE:=kZ f25 [1,1] K
def pK(K:KV):KE:=ai Q (cd f25 [1,0,1,0]) (gV K) (xx xf (gV K) 0) (rk f25 K)
def JC(h:pK K (Aw Z U H (ci 0) (zV zu 6 [cF])) w):Gives Q 25 #[Z,U,H] w K:=au func25 kr (mpK h)
def GM(Inv:oF->oG->Prop)(μ:oF->oG->Nat)(B:Inv Y w)(C:∀(a:oF) (A:oD) (w:oG) (m:Nat),Inv a w->m=μ a w ->
  aU H (λb=>ao Q 34 b 3 λc=>ld Q 32 c λd=>lN 32 d λe=>lS a e λf w=>cond f (aU H (λr=>ao Q 34 r 3 λs=>ld Q 32 s λt=>aW Q 32 t a λu=>ao Q 92 u 0 λv=>ld Q 3 v λx=>bF .eql 3 x U λf w=>aM f true (λq=>aU H (λg=>ao Q 34 g 3 λi=>ld Q 32 i λj=>aW Q 32 j a λl=>ao Q 92 l 1 λn=>ld Q 36 n λo=>bF .eql 36 o Z λy=>q [H,g,i,j,a,l,n,o,Z,y]) w) (λk=>k [uu,uu,uu,uu,uu,uu,uu,uu,uu,uu] w) λp=>pick f (gd p 9) cF λz w=>cond z (K cT w) (nC a (λe w=>(Inv e w)/\((μ e w)<m)) w)) w) (gV K (Ax (zV (zV A 0 [H,U,Z]) 7 [a,a,H,b,c,d,e,f])) w)) w):pK K (Aw H U Z Y zf) w:=by refine lV (cd f25 (b1 52)) [(6,33)] 7 zf B C ?_;intro D E;exact mpF
def GN(h:K cF w):gV K (Ax zf) w:=mpK h
attribute [irreducible] gV pK
def Cl(c a d b:oF)(zf:oD):=c::a::zT zf 2 4 (d::zT zf 7 53 (b::zT zf 61 51 ([])))
def Cm(c a d b:oF)(zf:oD):=c::a::zT zf 2 4 (d::zT zf 7 76 (b::zT zf 84 28 ([])))
def nP(K:KV):KE:=ai Q (cd f11 (b1 3965)) (rk f11 K) (xx xf (rk f11 K) 0) (rk f11 K)
def nQ(K:KV):KE:=ai Q (cd f11 (b1 3967)) (rk f11 K) (xx xf (rk f11 K) 0) (rk f11 K)
def LM(h:box Q 46 P2 (λY=>box Q 56 Q2 λo=>ao Q 56 o 1 λX=>ld Q 26 X λl=>bT .neq 26 l (ci 0) λd w=>aM d true (λv=>ao Q 56 o 1 (λa=>ld Q 26 a λb=>bT .neq 26 b (ci 8) λc=>v [a,b,c]) w) (λk=>k [uu,uu,uu] w) λa=>pick d (gd a 2) cF λm w=>cond m (K (.tuple #[]) w) (ao Q 46 Y 0 (λn=>ld Q 5 n λe=>bT .eql 5 e (cb 1) λf w=>cond f (ao Q 56 o 0 (λy=>ao Q 54 y 0 λz=>ld Q 3 z λA=>bT .gtr 3 A (ci 0) λB w=>cond B (aF (λS w=>hN S Z λC=>hF S 34 C 0 λD=>hL S 30 D λE=>hF S 56 o 0 λF=>hL S 54 F λG=>bM Q 30 1 #[(0,G)] (λH=>aX S λ_=>blt Q .append #[30,30] 30 #[false,false] #[E,H] λI=>aF λS w=>hN S Z λJ=>hF S 34 J 0 λL=>sto Q 30 L I (λ_=>K (.tuple #[])) w) w) w.drew) (K (.tuple #[]) w)) w) (bT .eql 5 e (cb 2) (λg w=>cond g (aF (λS w=>hN S Z λM=>hF S 34 M 1 λN=>hL S 31 N λO=>hL S 46 Y λP=>bM Q 31 1 #[(0,P)] (λR=>aX S λ_=>blt Q .append #[31,31] 31 #[false,false] #[O,R] λT=>aF λS w=>hN S Z λU=>hF S 34 U 1 λV=>sto Q 31 V T (λ_=>K (.tuple #[])) w) w) w.drew) (bT .eql 5 e (cb 3) (λi w=>cond i (ao Q 56 o 1 (λp=>ld Q 26 p λq=>bT .eql 26 q (ci 0) λj w=>aM j true (λx=>ao Q 46 Y 4 (λr=>ld Q 36 r λs=>call Q 24 #[Z,Z1,s] λt=>bT .lss 3 t (ci 0) λW=>x [Z,Z1,r,s,t,W]) w) (λk=>k [uu,uu,uu,uu,uu,uu] w) λb=>pick j (gd b 5) cF λc=>nP K (Cl Z Z1 Y c (zV (zV (zV (zV (zV zu 2 [P2,Q2]) 7 [o]) 9 [X,l,d,d,gd a 0,gd a 1,gd a 2,m,n,e,f,f]) 36 [g,g]) 48 [i,i,p,q,j,j,gd b 0,gd b 1,gd b 2,gd b 3,gd b 4,gd b 5]))) w) (bT .eql 5 e (cb 4) (λu=>nQ K (Cm Z Z1 Y u (zV (zV (zV (zV (zV (zV zu 2 [P2,Q2]) 7 [o]) 9 [X,l,d,d,gd a 0,gd a 1,gd a 2,m,n,e,f,f]) 36 [g,g]) 48 [i,i]) 84 [u]))) w)) w)) w)) w)) w):Gives Q 11 #[Z,Z1,P2,Q2] w K:=by refine au func11 kr <|Eq.mp (qH (λc=>ai Q c _ _ _ _ w) (by kernel_rfl:(rep (b1 3967) (cd f11 (b1 3967)) (rep (b1 3965) (cd f11 (b1 3965)) (cd f11 [])))=(cd f11 []))) ?_;revert h;delta nQ nP;generalize (cd f11 (b1 3965))=xc0;generalize (cd f11 (b1 3967))=xc1;exact mpF
def ua(h:cond Y (aF (λS w=>hN S Z λa=>hF S 34 a 2 λb=>hL S 32 b λc=>hF S 46 H 4 λd=>hL S 36 d λe=>hF S 46 H 1 λf=>hL S 36 f λg=>hF S 46 H 3 λi=>hL S 2 i λj=>hF S 46 H 4 λk=>hL S 36 k λl=>call Q 25 #[Z,U,l] (λm=>aX S λS w=>hld S (bld Q 92 #[(0,U),(1,e),(2,g),(3,j),(4,m)]) λn=>bM Q 32 1 #[(0,n)] (λo=>aX S λ_=>blt Q .append #[32,32] 32 #[false,false] #[c,o] λp=>aF λS w=>hN S Z λq=>hF S 34 q 2 λr=>sto Q 32 r p (λ_=>K (.tuple #[])) w) w) w) w.drew) (K (.tuple #[]) w)):nP K (Cl Z U H Y zf) w:=mpK h
def JE(h:cond Y (aF (λS w=>hN S H λk=>hF S 34 k 3 λl=>hL S 32 l λm=>hF S 46 Z 5 λn=>hL S 36 n λo=>hld S (bld Q 92 #[(0,U),(1,o)]) λp=>bM Q 32 1 #[(0,p)] (λq=>aX S λ_=>blt Q .append #[32,32] 32 #[false,false] #[m,q] λr=>aF λS w=>hN S H λs=>hF S 34 s 3 λt=>sto Q 32 t r (λ_=>ao Q 46 Z 5 λb=>ld Q 36 b λc=>call Q 24 #[H,U,c] λa=>bT .geq 3 a (ci 0) λd w=>cond d (aU H (λe=>ao Q 34 e 2 λf=>ld Q 32 f λg=>aW Q 32 g a λi=>ao Q 92 i 4 λj=>sto Q 4 j cT λ_=>K (.tuple #[])) w) (K (.tuple #[]) w)) w) w) w.drew) (K (.tuple #[]) w)):nQ K (Cm H U Z Y zf) w:=mpK h
attribute [irreducible] nP nQ
def lL(a b:oF)(zf:oD):=a::zf 1::zf 2::b::zT zf 4 112 ([])
def Ar(c d b a:oF)(zf:oD):=c::zf 1::zf 2::d::b::a::zT zf 6 110 ([])
def As(zf:oD):=zT zf 0 116 ([])
def eO(d f c a b e:oF)(zf:oD):=d::zf 1::zf 2::f::c::a::b::e::zT zf 8 108 ([])
def At(d e c a b:oF)(zf:oD):=d::zf 1::zf 2::e::c::a::b::zT zf 7 109 ([])
def eP(d f c a b e:oF)(zf:oD):=d::zf 1::zf 2::f::c::a::b::zf 7::e::zT zf 9 107 ([])
def Au(c d a b:oF)(zf:oD):=c::zf 1::zf 2::d::zf 4::a::b::zT zf 7 109 ([])
def Av(e g c a b f d:oF)(zf:oD):=e::zf 1::zf 2::g::c::a::b::zf 7::f::zT zf 9 89 (d::zT zf 99 17 ([]))
def bG(K:KV):KE:=kZ f12 [1,1] K
def pH(K:KV):KE:=ai Q (cd f12 [1,0,1,0]) (bG K) (xx xf (bG K) 0) (rk f12 K)
def bH(K:KV)(B1:KE):KE:=kY f12 (b1 211) B1 (xx xf (bG K) 0) K
def lE(K:KV)(B1:KE):KE:=ai Q (cd f12 (b1 1683)) (bH K B1) (xx (xx xf (bG K) 0) (bH K B1) 1) (rk f12 K)
def eQ(K:KV)(B1:KE):KE:=kY f12 (b1 6735) (bH K B1) (xx (xx xf (bG K) 0) (bH K B1) 1) K
def pI(K:KV)(B1:KE):KE:=ai Q (cd f12 (b1 26938)) (eQ K B1) (xx (xx (xx xf (bG K) 0) (bH K B1) 1) (eQ K B1) 2) (rk f12 K)
def fN(K:KV)(B1:KE)(B2:KE):KE:=kY f12 (b1 215507) B2 (xx (xx (xx xf (bG K) 0) (bH K B1) 1) (eQ K B1) 2) K
def lH(K:KV)(B1:KE)(B2:KE):KE:=ai Q (cd f12 (b1 215506)) (fN K B1 B2) (xx (xx (xx xf (bG K) 0) (bH K B1) 1) (eQ K B1) 2) (rk f12 K)
def dK(K:KV)(B1:KE):KE:=kY f12 (b1 13471) (bH K B1) (xx (xx xf (bG K) 0) (bH K B1) 1) K
def pJ(K:KV)(B1:KE):KE:=ai Q (cd f12 (b1 53882)) (dK K B1) (xx (xx (xx xf (bG K) 0) (bH K B1) 1) (dK K B1) 4) (rk f12 K)
def dL(K:KV)(B1:KE)(B2:KE):KE:=kY f12 (b1 431059) B2 (xx (xx (xx xf (bG K) 0) (bH K B1) 1) (dK K B1) 4) K
def lI(K:KV)(B1:KE)(B2:KE):KE:=ai Q (cd f12 (b1 431058)) (dL K B1 B2) (xx (xx (xx xf (bG K) 0) (bH K B1) 1) (dK K B1) 4) (rk f12 K)
def lJ(K:KV)(B1:KE)(B2:KE):KE:=ai Q (cd f12 (b1 1724233)) (dL K B1 B2) (λi=>@Bool.rec (λ_=>KE) ((xx (xx (xx xf (bG K) 0) (bH K B1) 1) (dK K B1) 4) i) (dL K B1 B2) (Nat.beq i 5)) (rk f12 K)
def JB(h:pH K (lL H (ci 0) (zV zu 2 [cF])) w):Gives Q 12 #[H] w K:=au func12 kr (mpK h)
def GC(Inv:oF->oG->Prop)(μ:oF->oG->Nat)(x:Inv Z w)(z:∀(a:oF) (t:oD) (w:oG) (m:Nat),Inv a w->m=μ a w ->
  aU H (λb=>ao Q 34 b 0 λd=>ld Q 30 d λc=>lN 30 c λe=>lS a e λh w=>cond h (aU H (λf=>ao Q 34 f 0 λg=>ld Q 30 g λi=>aW Q 30 i a λj=>ld Q 54 j λk=>call Q 26 #[k] λl=>aU H λn=>ao Q 34 n 0 λo=>ld Q 30 o λp=>aW Q 30 p a λq=>ao Q 54 q 6 λr=>ld Q 2 r λs=>lE K (λe S=>(Inv (gd e 3) S)/\((μ (gd e 3) S)<m)) (Ar H a l s (zV (zV t 9 [a,H,b,d,c,e,h]) 18 [H,f,g,i,a,j,k,l,H,n,o,p,a,q,r,s]))) w) (bG K (As (zV (zV (zV t 0 [H]) 3 [a]) 9 [a,H,b,d,c,e,h])) w)) w):pH K (lL H Z zf) w:=by refine dC (cd f12 (b1 52)) (zr [(2,114)]) kr (vP [3] Inv) (vQ [3] μ) x ?_;intro u v y;have h:=z _ (zM zf (gd u) (zr [(2,114)])) v _ y rfl;refine Eq.mp (qH (λc=>ai Q c _ _ _ _ v) (by kernel_rfl:(rep (b1 51) (cd f12 (b1 1683)) (cd f12 (b1 52)))=(cd f12 (b1 52)))) ?_;revert h;delta lE bH;generalize (cd f12 (b1 1683))=xc0;exact mpF
def Gz(h:pI K B1 (eO U Y H Z (ci 0) (ci 0) zf) w):lE K B1 (Ar U Y H Z zf) w:=mpK h
def GG(h:K cT w):bG K (As zf) w:=mpK h
def GE(Inv:oF->oF->oG->Prop)(μ:oF->oF->oG->Nat)(o:Inv J C w)(q:∀(a b:oF) (l:oD) (w:oG) (m:Nat),Inv a b w->m=μ a b w ->
  aU H (λe=>ao Q 34 e 1 λf=>ld Q 31 f λg=>lN 31 g λi=>lS b i λj w=>cond j (lH K B1 (λd S=>(Inv (gd d 5) (gd d 7) S)/\((μ (gd d 5) (gd d 7) S)<m)) (eO H Y Z a U b (zV l 34 [b,H,e,f,g,i,j])) w) (eQ K B1 (At H Y Z a U (zV (zV l 7 [b]) 34 [b,H,e,f,g,i,j])) w)) w):pI K B1 (eO H Y Z J U C zf) w:=by
 refine dC (cd f12 (b1 53876)) (zr [(5,1),(7,1),(34,31)]) kr (vP [5,7] Inv) (vQ [5,7] μ) o ?_;intro k n p;have h:=q _ _ (zM zf (gd k) (zr [(5,1),(7,1),(34,31)])) n _ p rfl;refine Eq.mp (qH (λc=>ai Q c _ _ _ _ n) (by kernel_rfl:(rep [1,0] (cd f12 (b1 215506)) (cd f12 (b1 53876)))=(cd f12 (b1 53876)))) ?_;revert h;delta lH fN;generalize (cd f12 (b1 215506))=xc0
 exact mpF
def GA(h:aU Z (λa=>ao Q 34 a 1 λb=>ld Q 31 b λc=>aW Q 31 c H λd=>ao Q 46 d 1 λe=>ld Q 36 e λf=>bF .eql 36 f U λg w=>cond g (aU Z (λi=>ao Q 34 i 1 λj=>ld Q 31 j λk=>aW Q 31 k H λl=>ao Q 46 l 3 λm=>ld Q 2 m λn=>blt Q .min #[2,2] 2 #[false,true] #[n,ci 1125899906842624] λo=>blt Q .max #[2,2] 2 #[true,false] #[ci 0,o] λp=>bF .add 2 Y p λq=>fN K B1 N (eO Z C U q J H (zV zf 43 [Z,a,b,c,H,d,e,f,U,g,Y,Z,i,j,k,H,l,m,n,o,p,q]))) w) (fN K B1 N (eO Z C U Y J H (zV zf 43 [Z,a,b,c,H,d,e,f,U,g])) w)) w):lH K B1 N (eO Z C U Y J H zf) w:=by delta lH;revert h;exact mpF
def GI(h:pJ K B1 (eP Y J H Z U (ci 0) zf) w):eQ K B1 (At Y J H Z U zf) w:=mpK h
def GJ(h:nC H (λa=>N (eO J C Z U Y a (zV zf 41 [H,a]))) w):fN K B1 N (eO J C Z U Y H zf) w:=by delta fN;revert h;exact mpF
def GF(Inv:oF->oF->oG->Prop)(μ:oF->oF->oG->Nat)(o:Inv J C w)(q:∀(a b:oF) (l:oD) (w:oG) (m:Nat),Inv a b w->m=μ a b w ->
  aU H (λe=>ao Q 34 e 2 λf=>ld Q 32 f λg=>lN 32 g λi=>lS b i λj w=>cond j (lI K B1 (λd S=>(Inv (gd d 6) (gd d 8) S)/\((μ (gd d 6) (gd d 8) S)<m)) (eP H Y Z U a b (zV l 65 [b,H,e,f,g,i,j])) w) (dK K B1 (Au H Y U a (zV (zV (zV l 4 [Z]) 8 [b]) 65 [b,H,e,f,g,i,j])) w)) w):pJ K B1 (eP H Y Z U J C zf) w:=by
 refine dC (cd f12 (b1 107764)) (zr [(6,1),(8,1),(65,44)]) kr (vP [6,8] Inv) (vQ [6,8] μ) o ?_;intro k n p;have h:=q _ _ (zM zf (gd k) (zr [(6,1),(8,1),(65,44)])) n _ p rfl;refine Eq.mp (qH (λc=>ai Q c _ _ _ _ n) (by kernel_rfl:(rep [1,0] (cd f12 (b1 431058)) (cd f12 (b1 107764)))=(cd f12 (b1 107764)))) ?_;revert h;delta lI dL;generalize (cd f12 (b1 431058))=xc0
 exact mpF
def GB(h:aF (λS w=>hN S H λb=>hF S 34 b 2 λc=>hL S 32 c λd=>hI S 32 d Z λe=>hF S 92 e 4 λf=>hL S 4 f λg=>hld S (un Q .not g) λa=>hG a true S (λk=>k H) λi=>hG a true S (aU i) λj=>hG a true S (ao Q 34 j 0) λl=>hG a true S (ld Q 30 l) λm=>hG a true S (λk=>k H) λn=>hG a true S (aU n) λo=>hG a true S (ao Q 34 o 2) λp=>hG a true S (ld Q 32 p) λq=>hG a true S (λk=>k Z) λr=>hG a true S (aW Q 32 q r) λs=>hG a true S (ao Q 92 s 2) λt=>hG a true S (ld Q 36 t) λu=>hG a true S (λk=>k U) λv=>xG a true (call Q 27 #[m,u,v]) (λx=>aF λS w=>hld S (pick a x cF) λC=>lJ K B1 N (Av H Z1 U Y J Z C (zV zf 74 [H,b,c,d,Z,e,f,g,a,a,i,j,l,m,n,o,p,q,r,s,t,u,v,x])) w) w) w.drew):lI K B1 N (eP H Z1 U Y J Z zf) w:=by delta lI;refine rpT [0,1] (cd f12 (b1 1724233)) (cd f12 (b1 431058)) ?_;revert h;delta lJ;generalize (cd f12 (b1 1724233))=xc0;exact mpF
def GK(h:bT .lss 2 H (ci 0) (λb w=>aM b false (λd=>bF .gtr 2 H Z (λe=>d [H,Z,e]) w) (λk=>k [uu,uu,uu] w) λa=>pick b cT (gd a 2) λc w=>cond c (K cF w) (bH K B1 (lL U Y (zV (zV zf 5 [Z,H]) 109 [H,b,b,gd a 0,gd a 1,gd a 2,c])) w)) w):dK K B1 (Au U Y Z H zf) w:=by delta dK;revert h;exact mpF
def ye(h:cond Y (aU Z (λa=>ao Q 34 a 2 λb=>ld Q 32 b λc=>aW Q 32 c H λd=>ao Q 92 d 3 λe=>ld Q 2 e λf=>bF .add 2 U f λg=>dL K B1 N (eP Z Z1 J C g H (zV zf 98 [Y,U,Z,a,b,c,H,d,e,f,g]))) w) (dL K B1 N (eP Z Z1 J C U H (zV zf 98 [Y])) w)):lJ K B1 N (Av Z Z1 J C U H Y zf) w:=by delta lJ;revert h;exact mpF
def GH(h:nC H (λa=>B1 (lL Z a (zV zf 16 [H,a]))) w):bH K B1 (lL Z H zf) w:=by delta bH;revert h;exact mpF
def GL(h:nC H (λa=>N (eP J C Z U Y a (zV zf 72 [H,a]))) w):dL K B1 N (eP J C Z U Y H zf) w:=by delta dL;revert h;exact mpF
attribute [irreducible] bG pH bH lE eQ pI fN lH dK pJ dL lI lJ
def UZ(h:box Q 54 H (λa=>ao Q 54 a 0 λb=>ld Q 3 b λb=>ao Q 54 a 1 λc=>ld Q 36 c λd=>call Q 36 #[b,d] K) w):Gives Q 26 #[H] w K:=au func26 kr (mpK h)
def UY(h:bT .lss 3 Z (ci 1) (λm w=>aM m false (λn=>bT .gtr 3 Z (ci 6) (λo=>n [Z,o]) w) (λk=>k [uu,uu] w) λl=>pick m cT (gd l 1) λa w=>aM a false (λd=>bT .lss 36 H (cu 1) (λa=>d [H,a]) w) (λk=>k [uu,uu] w) λb=>pick a cT (gd b 1) λa w=>aM a false (λe=>bT .geq 36 H (cu 1099511627776) (λf=>e [H,f]) w) (λk=>k [uu,uu] w) λc=>pick a cT (gd c 1) λg w=>cond g (K (cu 0) w) (conv Q 3 36 Z (λi=>bT .shl 36 i (cu 40) λj=>bF .add 36 j H K) w)) w):Gives Q 36 #[Z,H] w K:=au func36 kr (mpK h)
section
attribute [local irreducible] bin un conv call bA blt slc ao fld aW idx lkp fk mW eSt rng nxt ent ext alc box bld bM ld sto aU fl mkS ifc pick rdy wts aM sti cond aY Gives ai iy ke cOp
section
open Go.ChangeMaps
def zeL:fU Q 87 0 0 b o K w:=aJ kr
def Zc:fU Q 87 1 1 b o K w:=aJ kr
inductive DoR (s:STP) (c:CX):CX->EV->Int->Prop
 | ask {i:Nat} {c':CX} {e:EV} {y:Int} (hd:s.d=(1:Nat)) (hw:s.who=(i:Int)+1) (hi:i<6) (h:AskR i s.ak c c' e y):DoR s c c' e y
 | sp {c':CX} {y:Int} (h:SP c c') (hy:s.d=1->y≠0):DoR s c c' evZ y
section
variable {B0 n t:Nat}{Z:List Nat}{c:CX}{s:STP}{v:oF}
def wL{f:FuncId}{b':Nat}{R:CX->EV->Int->Prop}(h:CM w B0 n b Z c)(hd:s.d=(d:Nat))(h1:1<=d)(W:d<13)(hf:doingsV[d*2]? = some (.func (.func f) #[] #[]))(H:doingsV[d*2+1]? = some (.bool cx))(hr:cx=false->bB s.who=true)(V:∀{w2:oG} {Z2:List Nat} {K2:KV},CM w2 B0 n b Z2 c->Below w.heap.size w w2->(∀w' c' e y,R c' e y->CM w' B0 n b' Z2 c'->CS w2 w' B0 Z2->K2 (anV e y) w')->call Q f #[pB c.p,.agg (stC s v).toArray] K2 w2)(B:∀w' c' e y,R c' e y->CM w' B0 n b' Z c'->CS w w' B0 Z->K (anV e y) w'):call Q 10 #[pB c.p,.agg (stC s v).toArray] K w:=by
 refine aj (goK func10) (vH (bu λx y0 A l0=>bO (z:=anV evZ 0) kr λr y1 l l1=>?_));have a:blk x w.heap.size 49 (stC s v):=by simpa[Value.cells]using y0
 have N:blk r x.heap.size 56 (anC evZ 0):=by simpa[Value.cells]using y1
 have k:=tB A l;have o:=(h.new A oA a.lt).new l oA N.lt;have s1:=h.csb k;have n4:x.heap.size∉w.heap.size::Z:=λD=>(oO.1 D).elim (λe=>by omega) λD=>by have:=(h.own _ D).1;omega
 have a:=ae l a a.lt;have q:∀{y:oG} {K:KV},blk y w.heap.size 49 (stC s v)->K (.int .u8 (d:Nat)) y->ld Q 5 (pA w.heap.size 0) K y:=λhy B=>lK (v:=.int .u8 (d:Nat)) hy (by rw[<-hd];rfl) B;refine DV (aA (tc (q a (aT (df oo (tc (q a (dE underlying5 underlying3 ?_))))))));rw[fM oo oo];refine bR (bw oo (ax oo (tc (q a ?_))))
 refine fg underlying88 (s:=2) kf oo oo ?_;rw[oQ,oK];obtain⟨E,fr,C⟩:=o.kd.cd;have m:∀(j:Nat) u,[.func (.func f) #[] #[],.bool cx][j]? = some u->r.cell? ⟨0,d*2+j,none⟩=some u:=λj u P=>by
  unfold World.cell?;rw[C]
  have:doingsV[d*2+j]? = some u:=by
   match j with
   | 0=>rw[<-P];exact hf
   | 1=>rw[<-P];exact H
  simpa using this
 refine ldC (n:=2) (vs:=[.func (.func f) #[] #[],.bool cx]) underlying87 rfl kr m rfl ?_;refine bO (z:=.agg #[.nilFunc,.bool false]) kr λw2 y2 U l2=>?_;have z2:blk w2 r.heap.size 87 [.nilFunc,.bool false]:=by simpa[Value.cells]using y2
 refine eW (n:=2) (vs:=[.func (.func f) #[] #[],.bool cx]) kr rfl z2 dc (λu S=>by simp only[oO,oR,or_false]at S;rcases S with rfl|rfl<;>rfl) λw3 i o3=>?_;have i:blk w3 r.heap.size 87 [.func (.func f) #[] #[],.bool cx]:=i;have g:=aD U o3 oA;have F:=o.below g;have O:=ae g N N.lt;have a:=ae g a a.lt
 have s3:=s1.trans ((o.csb g).sub sub2);refine Zc (lK (v:=.bool cx) i rfl (bc ?_));have t:ao Q 87 (pB r.heap.size) 0 (λI=>ld Q 85 I λJ=>ld Q 49 (pB w.heap.size) λL=>bA Q J #[pB c.p,L] λM=>sto Q 56 (pB x.heap.size) M λ_=>aY Q [(some 56,pB x.heap.size)] K) w3:=by
  refine zeL (lK (v:=.func (.func f) #[] #[]) i rfl (KQ a (bS rfl (V F (tB k g) λw4 c' e y G X T=>?_))));exact X.fin' (T.blk oL O) rfl n4 λw5 Y s5=>B w5 c' e y G (Y.sub λ_ h=>oH _ h) ((s3.trans (T.sub sub2)).trans (s5.sub λ_ h=>oH _ h))
 cases cx with
 | true=>exact kj (bZ (aA t))
 | false =>
  refine kN (wQ (lK (v:=iv s.who) a rfl (P9 (bc (cA ?_)))));rw[hr rfl];exact aA t
def zix(h:CM w B0 n b Z c)(l:STW s)(y:s.d=0\/13<=s.d)(k:∀S,CM S B0 n b Z c->CS w S B0 Z->K (anV evZ 1) S):call Q 10 #[pB c.p,.agg (stC s v).toArray] K w:=by
 refine aj (goK func10) (vH (h.pro λB z A i r o q g x=>DV (aA (tc (lK (v:=.int .u8 s.d) g rfl (aT ?_))))));have a:=i.fin (K:=K) (e:=1) x rfl o q λu j t=>k u j (r.trans t);by_cases f:s.d=0
 .exact mF f (bI f (aV a))
 have m:=l.d;refine df f (tc (lK (v:=.int .u8 s.d) g rfl (dE underlying5 underlying3 ?_)));rw[fM oo oo];exact bR (bw f (ay oo a))
def ziF{f:FuncId}(h:CM w B0 n b Z c)(G:s.d=(d:Nat))(W:1<=d)(D:d<13)(H:doingsV[d*2]? = some (.func (.func f) #[] #[]))(r:doingsV[d*2+1]? = some (.bool false))(I:bB s.who=false)(o:∀w',CM w' B0 n b Z c->CS w w' B0 Z->K (anV evZ 10) w'):call Q 10 #[pB c.p,.agg (stC s v).toArray] K w:=by
 refine aj (goK func10) (vH (h.pro λl A Y g O L M m B=>?_));have i:∀{y:oG} {K:KV},blk y A 49 (stC s v)->K (.int .u8 (d:Nat)) y->ld Q 5 (pA A 0) K y:=λJ o=>lK (v:=.int .u8 (d:Nat)) J (by rw[<-G];rfl) o;refine DV (aA (tc (i m (aT (df oo (tc (i m (dE underlying5 underlying3 ?_))))))));rw[fM oo oo]
 refine bR (bw oo (ax oo (tc (i m ?_))));refine fg underlying88 (s:=2) kf oo oo ?_;rw[oQ,oK];obtain⟨E,V,q⟩:=g.kd.cd;have e:∀(j:Nat) u,[.func (.func f) #[] #[],.bool false][j]? = some u->l.cell? ⟨0,d*2+j,none⟩=some u:=λj u t=>by
  unfold World.cell?;rw[q]
  have:doingsV[d*2+j]? = some u:=by
   match j with
   | 0=>rw[<-t];exact H
   | 1=>rw[<-t];exact r
  simpa using this
 refine ldC (n:=2) (vs:=[.func (.func f) #[] #[],.bool false]) underlying87 rfl kr e rfl ?_;refine bO (z:=.agg #[.nilFunc,.bool false]) kr λR T C X=>?_;have U:blk R l.heap.size 87 [.nilFunc,.bool false]:=by simpa[Value.cells]using T
 refine eW (n:=2) (vs:=[.func (.func f) #[] #[],.bool false]) kr rfl U dc (λu x=>by simp only[oO,oR,or_false]at x;rcases x with rfl|rfl<;>rfl) λw3 k N=>?_;have k:blk w3 l.heap.size 87 [.func (.func f) #[] #[],.bool false]:=k;have a:=aD C N oA
 refine Zc (lK (v:=.bool false) k rfl (bc (kN (wQ (lK (v:=iv s.who) (ae a m m.lt) rfl (P9 (bc (cA ?_))))))));rw[I];exact aV ((g.below a).fin (ae a B B.lt) rfl L M λS F P=>o S F ((O.trans ((g.csb a).sub sub2)).trans P))
def zgM(h:CM w B0 n b Z c)(H:b<=20000)(E:STW s)(hi:STI s)(G:RIn w a s.picks.length o s.picks)(J:∀w' c' e y,CM w' B0 n (b+64) Z c'->CS w w' B0 Z->DoR s c c' e y->K (anV e y) w'):call Q 10 #[pB c.p,.agg (stC s (.slice a s.picks.length o)).toArray] K w:=by
 have hd:=E.d;have hx:Cv s.ak:=⟨⟨E.node.1,by have:=E.node.2;show s.node<18446744073709551616;omega⟩,⟨E.req.1,by have:=E.req.2;show s.req<18446744073709551616;omega⟩,⟨E.of_.1,by have:=E.of_.2;show s.of_<18446744073709551616;omega⟩⟩
 by_cases I:s.d=0\/13<=s.d
 .exact zix h E I λw' g k => J w' c _ _ (g.le oo) k (.sp .refl λ_=>by decide)
 obtain⟨d,e⟩:∃d:Nat,s.d=(d:Nat):=⟨s.d.toNat,by omega⟩
 have A:bB s.who=true->∃i:Nat,i<6/\s.who=(i:Int)+1:=λG=>by
  simp only[bB,oM,oP]at G;exact⟨(s.who-1).toNat,by omega,by omega⟩
 have u:∀w' c' e y,DoR s c c' e y->CM w' B0 n (b+64) Z c'->CS w w' B0 Z->K (anV e y) w':=λw' c' e y v g k => J w' c' e y g k v;have z:∀{d:Nat} {y:Int},s.d=(d:Int)->d≠1->s.d=1->y≠0:=λP l S=>qI oo l
 have F:∀{d:Nat} {f:FuncId},s.d=(d:Nat)->1<=d->d<13->doingsV[d*2]? = some (.func (.func f) #[] #[])->doingsV[d*2+1]? = some (.bool false)->(bB s.who=true->call Q 10 #[pB c.p,.agg (stC s (.slice a s.picks.length o)).toArray] K w)->call Q 10 #[pB c.p,.agg (stC s (.slice a s.picks.length o)).toArray] K w:=λW P l hf N V=>by
  cases G:bB s.who with
  | true=>exact V G
  | false=>exact ziF h W P l hf N G λw' g k => J w' c _ _ (g.le oo) k (.sp .refl λ_=>by decide)
 match d,e with
 | 0,e=>omega
 | 1,e =>
  refine F e oo oo rfl rfl λj=>?_;obtain⟨i,q,C⟩:=A j;refine wL (R:=DoR s c) (b':=b+64) h e oo oo rfl rfl (λ_=>j) (λl B t=>zcV l H C q hx (λa _ g k => t a c _ _ (.sp .refl λ_=>by decide) (g.le oo) k) λa b O y M g k => t a b O y (.ask e C q M) (g.le oo) k) u
 | 2,e =>
  refine F e oo oo rfl rfl λj=>?_;obtain⟨i,q,C⟩:=A j;refine wL (R:=DoR s c) (b':=b+64) h e oo oo rfl rfl (λ_=>j) (λl B t=>zaZ l H C q (λa _ g k => t a c _ _ (.sp .refl (z e dc)) (g.le oo) k) λa b M g k => t a b _ _ (.sp M.sp (z e dc)) (g.le oo) k) u
 | 3,e=>exact wL (R:=DoR s c) (b':=b+64) h e oo oo rfl rfl (λD=>by cases D) (λl B t=>zgN l λa b _ g k v=>t a b _ _ (.sp v (z e dc)) (g.le oo) k) u
 | 4,e =>
  refine wL (R:=DoR s c) (b':=b+64) h e oo oo rfl rfl (λD=>by cases D) (λl B t=>zcW (b':=b+64) (R:=λ_ T a _=>SP T a) l (λ{w3 Z3 c3 x Y r fu K3} _ U S X m tk kk L=>?_) (λa _ g k => t a c _ _ (.sp .refl (z e dc)) (g.le oo) k) (λa x _ _ g k => t a _ _ _ (.sp (by exact .of rfl (λ_ h=>h) rfl) (z e dc)) (g.le oo) k) λa b x O _ v g k => t a b _ _ (.sp ⟨v.p,v.m,v.r⟩ (z e dc)) g k) u
  subst U;exact S.hear (x:=x) H X m tk kk (K:=K3) λw' c' e g k v=>L w' c' e v g k
 | 5,e=>exact wL (R:=DoR s c) (b':=b+64) h e oo oo rfl rfl (λD=>by cases D) (λl B t=>zgH l λa b _ g k v=>t a b _ _ (.sp v (z e dc)) (g.le oo) k) u
 | 6,e=>exact wL (R:=DoR s c) (b':=b+64) h e oo oo rfl rfl (λD=>by cases D) (λl B t=>zeF l λa b _ g k v=>t a b _ _ (.sp v (z e dc)) (g.le oo) k) u
 | 7,e =>
  refine F e oo oo rfl rfl λj=>?_;exact wL (R:=DoR s c) (b':=b+64) h e oo oo rfl rfl (λ_=>j) (λl B t=>ziy l λa b _ g k v=>t a b _ _ (.sp v (z e dc)) (g.le oo) k) u
 | 8,e=>exact wL (R:=DoR s c) (b':=b+64) h e oo oo rfl rfl (λD=>by cases D) (λl B t=>zgJ l λa b _ g k v=>t a b _ _ (.sp v (z e dc)) (g.le oo) k) u
 | 9,e =>
  refine F e oo oo rfl rfl λj=>?_;obtain⟨i,q,C⟩:=A j;exact wL (R:=DoR s c) (b':=b+64) h e oo oo rfl rfl (λ_=>j) (λl B t=>zgI l C q hi.n λa g k => t a _ _ _ (.sp (by exact .of rfl (λ_ h=>h) rfl) (z e dc)) (g.le oo) k) u
 | 10,e =>
  refine F e oo oo rfl rfl λj=>?_;obtain⟨i,q,C⟩:=A j;exact wL (R:=DoR s c) (b':=b+64) h e oo oo rfl rfl (λ_=>j) (λl B t=>ziB l C q λa g k => t a _ _ _ (.sp (by exact .of rfl (λ_ h=>h) rfl) (z e dc)) (g.le oo) k) u
 | 11,e =>
  refine F e oo oo rfl rfl λj=>?_;obtain⟨i,q,C⟩:=A j;exact wL (R:=DoR s c) (b':=b+64) h e oo oo rfl rfl (λ_=>j) (λl B t=>zkg l H C q (G.below B oA) λa b _ c g k => t a b _ _ (.sp (c.sp q) (z e dc)) (g.le oo) k) u
 | 12,e =>
  refine F e oo oo rfl rfl λj=>?_;obtain⟨i,q,C⟩:=A j;exact wL (R:=DoR s c) (b':=b+64) h e oo oo rfl rfl (λ_=>j) (λl B t=>zeC l H C q λa b y v g k => t a b _ _ (.sp v (z e dc)) g k) u
 | d+13,e=>omega
end
end
structure TG where
 who:Int
 req:Int
 node:Int
 am:Int
 back:Bool
 deriving DecidableEq
structure TLD where
 N:List EV
 R:List AK
 G:List TG
 F:List TG
def isG(b a:Int)(g:TG):Bool:=decide (g.who=b)&&decide (g.req=a)
def AD(b a:Int):List TG->List TG
 | []=>[]
 | g::G=>match isG b a g with|true=>{g with back:=true} :: G|false=>g::AD b a G
def xP(b:Int)(a:AK)(m:EV)(y:Int)(w:TLD):TLD :=
 if y≠0/\y≠8 then w else
 if a.k=1 then (if 0<m.o then {w with N:=w.N++[m]} else w)else
 if a.k=2 then {w with R:=w.R++[a]} else
 if a.k=3 then (if y=0/\w.G.any (isG b a.r)=false then {w with G:=w.G++[⟨b,a.r,a.n,a.a,w.F.any (isG b a.r)⟩]} else w)else
 if a.k=4 then {w with F:=w.F++[⟨b,a.f,0,0,false⟩],G:=AD b a.f w.G} else w
def uA(x:Int):Int:=max 0 (min x MXA)
def upE(N:List EV)(id:Int):Int:=N.foldl (λu e=>if idE e=id then e.n else u) 0
def xM(N:List EV):Nat->Int->Int->Bool
 | 0,_,_=>false
 | f+1,id,of_=>if id=0 then false else if id=of_ then true else xM N f (upE N id) of_
def ZI(w:TLD)(e:EV):Int:=e.a+(w.R.map λa=>if a.n=idE e then uA a.a else 0).sum
def AN(N:List EV)(id:Int)(g:TG):Int:=if g.back=false/\xM N 5 g.node id=true then g.am else 0
def QC(w:TLD)(e:EV):Int:=(w.G.map (AN w.N (idE e))).sum
def raN(id:Int)(e:EV):Int:=if e.k=2/\e.n=id then e.a else 0
structure TD(T:TT) (w:TLD):Prop where
 nd:∀e∈w.N,e∈T.E/\e.k=1
 rs:∀id,(T.P.map (raN id)).sum<=(w.R.map λa=>if a.n=id then uA a.a else 0).sum
 gs:∀g∈w.G,∃e∈T.E,e.k=3/\e.o=g.who/\e.r=g.req/\e.n=g.node/\e.a=g.am
 gu:w.G.Pairwise λg h=>¬(g.who=h.who/\g.req=h.req)
 ff:∀e∈T.P,e.k=4->w.F.any (isG e.o e.f)=true
 fs:∀e∈T.P,e.k=4->∀g∈w.G,g.who=e.o->g.req=e.f->g.back=true
 pm:∀e∈T.P,co e=true
def TD.zero:TD T00 ⟨[],[],[],[]⟩:=⟨by simp,by simp[T00],by simp,.nil,by simp[T00],by simp[T00],by simp[T00]⟩
def vR{g:TG}:isG x v g=true↔g.who=x/\g.req=v:=by simp[isG]
def NL{b a:Int}{g:TG}:∀{G:List TG},g∈AD b a G->g∈G\/∃h∈G,h.who=b/\h.req=a/\g={h with back:=true}
 | [],h=>by cases h
 | x::G,h=>by
  unfold AD at h;cases c:isG b a x with
  | true =>
   rw[c]at h;rcases oO.1 h with h|h
   .exact .inr ⟨x,oL,(vR.1 c).1,(vR.1 c).2,h⟩
   .exact .inl (oH _ h)
  | false =>
   rw[c]at h;rcases oO.1 h with rfl|h
   .exact .inl oL
   .exact(NL h).imp (oH _) λ⟨y,d,r⟩=>⟨y,oH _ d,r⟩
def zbC{b a:Int}:∀{G:List TG},(G.Pairwise λg h=>¬(g.who=h.who/\g.req=h.req))->(AD b a G).Pairwise λg h=>¬(g.who=h.who/\g.req=h.req)
 | [],_=>.nil
 | x::G,h=>by
  have h:=List.pairwise_cons.1 h;unfold AD;cases e:isG b a x with
  | true=>exact List.pairwise_cons.2 h
  | false =>
   refine List.pairwise_cons.2 ⟨λy c=>?_,zbC h.2⟩;rcases NL c with c|⟨z,d,_,_,rfl⟩
   .exact h.1 y c
   .exact h.1 z d
def XL{b a:Int}:∀{G:List TG},(G.Pairwise λg h=>¬(g.who=h.who/\g.req=h.req))->∀g∈AD b a G,g.who=b->g.req=a->g.back=true
 | [],_,g,h,_,_=>by cases h
 | x::G,d,g,h,h1,h2=>by
  have d:=List.pairwise_cons.1 d;unfold AD at h;cases c:isG b a x with
  | true =>
   rw[c]at h;rcases oO.1 h with rfl|h
   .rfl
   .have:=vR.1 c
    exact qI ⟨this.1.trans h1.symm,this.2.trans h2.symm⟩ (d.1 g h)
  | false =>
   rw[c]at h;rcases oO.1 h with rfl|h
   .rw[vR.2 ⟨h1,h2⟩]at c;cases c
   .exact XL d.2 g h h1 h2
def zgL:0<=uA x:=by unfold uA;omega
def zjE{id:Int}{a:AK}(c:a.k=2):∀{P:List EV},P.length<=1->(∀e∈P,co e=true/\e.k=a.k/\e.n=a.n/\e.a=a.a)->(P.map (raN id)).sum<=([a].map λa=>if a.n=id then uA a.a else 0).sum
 | [],_,_=>by
  simp only[List.map_nil,List.sum_nil,jK,List.sum_cons];split
  .have:=zgL (x:=a.a);omega
  .omega
 | [e],_,hP=>by
  obtain⟨i,g,d,f⟩:=hP e oL;simp only[List.map_nil,List.sum_nil,jK,List.sum_cons];have c:=g.trans c;have j:1<=e.a/\e.a<=MXA:=by
   rcases ov i with⟨k,_⟩|⟨_,h⟩|⟨k,_⟩|⟨k,_⟩|⟨k,_⟩|⟨k,_⟩|k
   .omega
   .exact h
   all_goals omega
  unfold raN;by_cases b:e.n=id
  .rw[oJ ⟨c,b⟩,oJ (d ▸ b), <-f];unfold uA;omega
  .rw[oI λh=>b h.2,oI (d ▸ b)];omega
 | _::_::_,h,_=>by simp at h
section
variable {T T':TT}{w:TLD}{o:Int}
def TD.more{X:List EV}(h:TD T w)(d:∀e∈T.E,e∈T'.E)(c:T'.P=T.P++X)(f:∀e∈X,e.k=5\/e.k=7)(l:∀e∈X,co e=true):TD T' w:=by
 have i:∀e∈X,e.k=4->False:=λe a b=>by have:=f e a;omega
 refine⟨λe a=>⟨d e (h.nd e a).1,(h.nd e a).2⟩,λid=>?_,λg j=>?_,h.gu,λe a b=>?_,λe a b=>?_,λe a=>?_⟩
 .rw[c,jJ,List.sum_append,Qt (L:=X) λe a=>by unfold raN;rw[oI λm=>by have:=f e a;omega]]
  have:=h.rs id;omega
 .obtain⟨e,a,r⟩:=h.gs g j;exact⟨e,d e a,r⟩
 .rw[c]at a;exact(oU.1 a).elim (λa=>h.ff e a b) λa=>(i e a b).elim
 .rw[c]at a;exact(oU.1 a).elim (λa=>h.fs e a b) λa=>(i e a b).elim
 .rw[c]at a;exact(oU.1 a).elim (h.pm e) (l e)
def TD.say{a:AK}{m:EV}{y:Int}{P:List EV}(h:TD T w)(W:∀e∈T.E,e∈T'.E)(v:T'.P=T.P++P)(j:∀e∈P,co e=true/\e.o=o/\e.k=a.k/\e.n=a.n/\e.a=a.a/\e.f=a.f)(J:P.length<=1)(hy:P≠[]->y=0\/y=8)(hN:y=0\/y=8->a.k=1->0<m.o->m∈T'.E/\m.k=1)(hG:y=0->a.k=3->∃e∈T'.E,e.k=3/\e.o=o/\e.r=a.r/\e.n=a.n/\e.a=a.a):TD T' (xP o a m y w):=by
 have p:∀g∈w.G,∃e∈T'.E,e.k=3/\e.o=g.who/\e.r=g.req/\e.n=g.node/\e.a=g.am:=λg d=>by
  obtain⟨e,b,r⟩:=h.gs g d;exact⟨e,W e b,r⟩
 have q:∀e∈w.N,e∈T'.E/\e.k=1:=λe b=>⟨W e (h.nd e b).1,(h.nd e b).2⟩
 have s:∀e∈T'.P,co e=true:=λe b=>by
  rw[v]at b;exact(oU.1 b).elim (h.pm e) λb=>(j e b).1
 have z:a.k≠2->∀id,(T'.P.map (raN id)).sum<=(w.R.map λa=>if a.n=id then uA a.a else 0).sum:=λc id=>by
  rw[v,jJ,List.sum_append,Qt (L:=P) λe b=>by unfold raN;rw[oI λM=>c ((j e b).2.2.1.symm.trans M.1)]]
  have:=h.rs id;omega
 have l:a.k≠4->∀e∈T'.P,e.k=4->e∈T.P:=λc e b I=>by
  rw[v]at b;exact(oU.1 b).elim id λb=>qI ((j e b).2.2.1.symm.trans I) c
 unfold xP;split
 .rename_i D
  have:P=[]:=Decidable.byContradiction λZ=>by have:=hy Z;omega
  subst this;rw[oW]at v;exact⟨q,λa=>by rw[v];exact h.rs a,p,h.gu,by rw[v];exact h.ff,by rw[v];exact h.fs,s⟩
 rename_i D;have S:y=0\/y=8:=by omega
 split
 .rename_i B;have i:TD T' w:=⟨q,z oo,p,h.gu,λe b c=>h.ff e (l oo e b c) c,λe b c=>h.fs e (l oo e b c) c,s⟩
  split
  .rename_i Y;exact {i with nd:=λe b=>(oU.1 b).elim (q e) λb=>by rw[mS b];exact hN S B Y}
  .exact i
 split
 .rename_i B C;refine⟨q,λid=>?_,p,h.gu,λe b c=>h.ff e (l oo e b c) c,λe b c=>h.fs e (l oo e b c) c,s⟩;rw[v,jJ,List.sum_append,jJ,List.sum_append];have t:=h.rs id;have u:=zjE (id:=id) C J λe b=>⟨(j e b).1,(j e b).2.2.1,(j e b).2.2.2.1,(j e b).2.2.2.2.1⟩
  omega
 split
 .rename_i B C U;have i:TD T' w:=⟨q,z oo,p,h.gu,λe b c=>h.ff e (l oo e b c) c,λe b c=>h.fs e (l oo e b c) c,s⟩
  split
  .rename_i D;have O:∀g∈w.G,¬(g.who=o/\g.req=a.r):=λg d M=>by
    have:=List.any_eq_false.1 D.2 g d
    exact this (vR.2 M)
   refine {i with gs:=λg d=>?_,gu := ?_,fs:=λe b c g d t u=>?_}
   .rcases oU.1 d with d|d
    .exact p g d
    .rw[mS d];exact hG D.1 U
   .refine List.pairwise_append.2 ⟨h.gu,List.pairwise_singleton _ _,λg d H x=>?_⟩;rw[mS x];exact O g d
   .rcases oU.1 d with d|d
    .exact i.fs e b c g d t u
    .rw[mS d]at t u |-
     have:=i.ff e b c
     rw[<-t, <-u]at this;exact this
  .exact i
 split
 .rename_i B C U V;have A:∀e∈T'.P,e.k=4->e∈T.P\/e.o=o/\e.f=a.f:=λe b c=>by
   rw[v]at b;exact(oU.1 b).imp id λb=>⟨(j e b).2.1,(j e b).2.2.2.2.2⟩
  refine⟨q,z oo,λg d=>?_,zbC h.gu,λe b c=>?_,λe b c g d t u=>?_,s⟩
  .rcases NL d with d|⟨H,x,_,_,rfl⟩
   .exact p g d
   .exact p H x
  .show (w.F++[_]).any _=true;rw[List.any_append,jR];rcases A e b c with b|⟨t,u⟩
   .exact .inl (h.ff e b c)
   .exact .inr (by rw[t,u];simp[isG])
  .rcases A e b c with b|⟨X,I⟩
   .rcases NL d with d|⟨H,x,_,_,rfl⟩
    .exact h.fs e b c g d t u
    .rfl
   .exact XL h.gu g d (t.trans X) (u.trans I)
 .rename_i B C U V;exact⟨q,z C,p,h.gu,λe b c=>h.ff e (l V e b c) c,λe b c=>h.fs e (l V e b c) c,s⟩
end
def zcn{N:List ND}{x:ND}(d:N.Pairwise (·.id < ·.id))(a:∃rk,TK (tr N) rk)(f:x∈N):cB N x.id=x.id::cB N x.par:=by
 obtain⟨rk,a⟩:=a;have b:(x.id,x.par)∈tr N:=qU.2 ⟨x,f,rfl⟩;have h:dB (tr N) x.id=true:=iA.2 ⟨_,b,rfl⟩;have c:fm (tr N) x.id=x.par:=HA (Re d) b;have e:cB N x.id=x.id::cU (tr N) (tr N).length x.par:=by
  unfold cB eA;simp only[cU,h,if_true,c]
 rw[e];unfold cB eA;rw[Kj a (tr N).length ((tr N).length+1) x.par (Fv a _) (by have:=Fv a x.par;omega)]
def zjw{N:List ND}{x:ND}(a:∃rk,TK (tr N) rk)(b:x∈N):x.par=0\/cK N x.par=true:=by
 obtain⟨rk,a⟩:=a;rcases a.up (x.id,x.par) (qU.2 ⟨x,b,rfl⟩)with h|⟨y,c,e,_⟩
 .exact .inl h
 .exact .inr (by rw[<-lu];exact iA.2 ⟨y,c,e⟩)
def zgv{id:Int}:∀{N:List EV} {u:Int},N.foldl (λu e=>if idE e=id then e.n else u) u=u\/∃e∈N,idE e=id/\N.foldl (λu e=>if idE e=id then e.n else u) u=e.n
 | [],_=>.inl rfl
 | x::N,u=>by
  rw[List.foldl_cons];rcases zgv (N:=N) (u:=if idE x=id then x.n else u)with h|⟨e,d,b,c⟩
  .rw[h];by_cases a:idE x=id
   .rw[oJ a];exact .inr ⟨x,oL,a,rfl⟩
   .rw[oI a];exact .inl rfl
  .exact .inr ⟨e,oH _ d,b,c⟩
def YK{s:PL}{L:List EV}(a:PI s)(l:∀e∈L,∃x∈s.N,x.id=idE e/\x.par=e.n){d:Int}:∀(f:Nat) (id:Int),(id=0\/cK s.N id=true)->xM L f id d=true->d∈cB s.N id
 | 0,_,_,h=>by cases h
 | f+1,id,hi,h=>by
  unfold xM at h;by_cases c:id=0
  .rw[oJ c]at h;cases h
  rw[oI c]at h;obtain⟨x,i,e⟩:=nD.1 (hi.resolve_left c);have b:=zcn a.srt a.tk i;rw[e]at b;rw[b];by_cases k:id=d
  .rw[k];exact oL
  rw[oI k]at h;refine oH _ ?_;rcases zgv (N:=L) (u:=0) (id:=id)with t|⟨m,g,o,p⟩
  .have:upE L id=0:=t
   rw[this]at h;cases f with
   | zero=>cases h
   | succ f=>unfold xM at h;rw[oJ rfl]at h;cases h
  .obtain⟨y,v,q,r⟩:=l m g;have j:y=x:=zdj a.srt v i (by rw[q,o,e])
   have:upE L id=x.par:=by rw[<-j,r];exact p
   rw[this]at h;exact YK a l f x.par (zjw a.tk i) h
def Xb{α:Type}{φ:α->Int}:∀{L:List α},(∀x∈L,0<=φ x)->0<=(L.map φ).sum
 | [],_=>Int.le_refl _
 | x::L,h=>by
  have b:=h x oL;have c:=Xb λy a=>h y (oH _ a);simp only[jK,List.sum_cons];omega
def Mj{α β:Type}{φ:α->Int}{ψ:β->Int}{D:α->α->Prop}{R:α->β->Prop}(g:∀a k b,R a b->R k b->¬D a k):∀{L:List α} {M:List β},L.Pairwise D->(∀b∈M,0<=ψ b)->(∀a∈L,φ a<=0\/∃b∈M,R a b/\φ a<=ψ b)->(L.map φ).sum<=(M.map ψ).sum
 | [],_,_,h0,_=>Xb h0
 | a::L,M,e,h0,h=>by
  have e:=List.pairwise_cons.1 e;rcases h a oL with p|⟨b,m,o,n⟩
  .have:=Mj g e.2 h0 λx c=>h x (oH _ c)
   simp only[jK,List.sum_cons];omega
  .obtain⟨M1,M2,rfl⟩:=List.append_of_mem m
   have:=Mj g (M:=M1++M2) e.2 (λx c=>h0 x ((oU.1 c).elim (List.mem_append_left _) λh=>List.mem_append_right _ (oH _ h))) λx c=>by
    rcases h x (oH _ c)with j|⟨l,i,f,d⟩
    .exact .inl j
    .refine .inr ⟨l,?_,f,d⟩;rcases oU.1 i with h|h
     .exact List.mem_append_left _ h
     .rcases oO.1 h with rfl|h
      .exact qI (e.1 x c) (g a x _ o f)
      .exact List.mem_append_right _ h
   simp only[jJ,List.sum_append,jK,List.sum_cons]at this |-;omega
def zbB{b a:Int}:∀{G:List TG},(∀g∈G,isG b a g=false)->AD b a G=G
 | [],_=>rfl
 | g::G,h=>by
  unfold AD;rw[h g oL,zbB λx c=>h x (oH _ c)]
def zbA{b a:Int}{x:TG}(c:isG b a x=true):∀{G:List TG} {i:Nat},G[i]? = some x->(∀j g,j<i->G[j]? = some g->isG b a g=false)->AD b a G=G.set i {x with back:=true}
 | [],_,h,_=>by simp at h
 | g::G,0,h,_=>by
  simp only[qL,qD]at h;subst h;unfold AD;rw[c];rfl
 | g::G,i+1,h,hn=>by
  unfold AD;rw[hn 0 g oo rfl,zbA c (by simpa using h) λj y e d=>hn (j+1) y oo (by simpa using d)];rfl
def zbf{e f:EV}(h:co e=true)(k:co f=true)(hi:idE e=idE f):e.o=f.o/\e.s=f.s:=by obtain⟨_,_,a,b⟩:=fZ h;obtain⟨_,_,c,d⟩:=fZ k;unfold idE at hi;simp only[M40]at hi;omega
section
variable {n:Nat}{T:TT}{w:TLD}
def zgu(k:TOK n T):T.E.Pairwise λe f=>idE e≠idE f:=by obtain⟨h,i⟩:=k.hist.uniq;refine List.Pairwise.imp_of_mem (λ{a b} d g c m=>c ?_) h;obtain⟨j,l⟩:=zbf (k.hist.may a d) (k.hist.may b g) m;exact i a d b g (by unfold EV.q;rw[j]) l
def zkD{id:Int}{e:EV}(h:co e=true):0<=raN id e:=by
 unfold raN;split
 .rename_i a
  have:=a.1
  rcases ov h with⟨k,_⟩|⟨_,h,_⟩|⟨k,_⟩|⟨k,_⟩|⟨k,_⟩|⟨k,_⟩|k
  all_goals omega
 .omega
def zdy{id:Int}:∀{E:List EV},(E.map (mkN id)).sum=(E.map λe=>if e.k=1/\idE e=id then e.a else 0).sum+(E.map (raN id)).sum
 | []=>rfl
 | e::E=>by
  have:=zdy (id:=id) (E:=E)
  simp only[jK,List.sum_cons,this];unfold mkN raN;by_cases d:e.k=1
  .have b : ¬(e.k=2/\e.n=id):=λh=>by omega
   rw[oI b];by_cases f:idE e=id
   .rw[oJ (.inl ⟨d,f⟩),oJ ⟨d,f⟩];omega
   .rw[oI (λh=>h.elim (λh=>f h.2) b),oI λh=>f h.2];omega
  .rw[oI (c:=e.k=1/\idE e=id) λh=>d h.1];by_cases b:e.k=2/\e.n=id
   .rw[oJ (.inr b),oJ b];omega
   .rw[oI (λh=>h.elim (λh=>d h.1) b),oI b];omega
def TD.am(h:TD T w)(k:TOK n T):∀g∈w.G,1<=g.am/\g.am<=MXA:=λg f=>by
 obtain⟨e,d,i,_,_,_,c⟩:=h.gs g f;rcases ov (k.hist.may e d)with⟨k,_⟩|⟨k,_⟩|⟨_,a,b,_⟩|⟨k,_⟩|⟨k,_⟩|⟨k,_⟩|k
 .omega
 .omega
 .rw[<-c];exact⟨a,b⟩
 all_goals omega
def TD.na(h:TD T w)(k:TOK n T):∀e∈w.N,0<=e.a/\e.a<=MXA:=λe b=>by
 have c:=(h.nd e b).2;rcases ov (k.hist.may e (h.nd e b).1)with⟨_,h⟩|⟨k,_⟩|⟨k,_⟩|⟨k,_⟩|⟨k,_⟩|⟨k,_⟩|k
 .exact h
 all_goals omega
def TD.bound(h:TD T w)(k:TOK n T):∀e∈w.N,0<=QC w e/\QC w e<=ZI w e:=λe l=>by
 obtain⟨u,_⟩:=k.hist.all;have v:=ledger_sys.invs (Dd n) u;have p:=EI.of u;generalize dU eff (pl0 n) T.E=s at v p;have t:∀e∈w.N,∃x∈s.N,x.id=idE e/\x.par=e.n:=λe l=>p.nd e (h.nd e l).1 (h.nd e l).2;obtain⟨x,I,V,_⟩:=t e l;refine⟨Xb λg z=>?_,?_⟩
 .unfold AN;split
  .have:=(h.am k g z).1;omega
  .omega
 have i:QC w e<=us s x.id:=by
  unfold QC us;refine Mj (D:=λg h:TG=>¬(g.who=h.who/\g.req=h.req)) (R:=λ(g:TG) (r:GR)=>r.o=g.who/\r.q=g.req) (λa J b i j d=>d ⟨i.1.symm.trans j.1,i.2.symm.trans j.2⟩) h.gu (λr A=>?_) λg z=>?_
  .unfold usG;split
   .have:=(v.gk r A).2.1;omega
   .omega
  .by_cases y:g.back=false/\xM w.N 5 g.node (idE e)=true
   .right;obtain⟨f,c,Y,M,O,L,W⟩:=h.gs g z;obtain⟨r,A,ro,rq,U,ra,rb⟩:=p.gr f c Y;have C:r.b=0:=Decidable.byContradiction λG=>by
     obtain⟨B,F,Z,d,S⟩:=rb G;have X:B∈T.P:=(k.isP B F).resolve_left oo
     have:=h.fs B X Z g z (by rw[d,M]) (by rw[S,O])
     rw[y.1]at this;cases this
    refine⟨r,A,⟨ro.trans M,rq.trans O⟩,?_⟩;have H:=YK v t 5 g.node (.inr (by rw[<-L, <-U];exact(v.gk r A).1)) y.2;unfold AN usG;rw[oJ y,V,oJ ⟨C,by rw[U,L];exact H⟩,ra,W];exact Int.le_refl _
   .left;unfold AN;rw[oI y];exact Int.le_refl _
 have j:us s x.id<=(T.E.map (mkN (idE e))).sum:=by
  rw[<-p.ts x I, <-V, <-p.gs x I];exact zjP (BU.1 (v.may x I).1)
 have d:(T.E.map λf=>if f.k=1/\idE f=idE e then f.a else 0).sum<=([e].map λf:EV=>f.a).sum:=by
  refine Mj (D:=λf g:EV=>idE f≠idE g) (R:=λf g:EV=>idE f=idE g) (λa J b i j d=>d (i.trans j.symm)) (zgu k) (λf c=>by rw[mS c];exact(h.na k e l).1) λf c=>?_;by_cases m:f.k=1/\idE f=idE e
  .right;refine⟨e,by simp,m.2,?_⟩;rw[oJ m];obtain⟨a,b⟩:=zbf (k.hist.may f c) (k.hist.may e (h.nd e l).1) m.2;rw[k.hist.uniq.2 f c e (h.nd e l).1 (by unfold EV.q;rw[a]) b];exact Int.le_refl _
  .left;rw[oI m];exact Int.le_refl _
 have S:(T.E.map (raN (idE e))).sum<=(T.P.map (raN (idE e))).sum:=by
  refine Mj (D:=λf g:EV=>idE f≠idE g) (R:=λf g:EV=>f=g) (λa J b i j d=>d (by rw[i,j])) (zgu k) (λf c=>zkD (h.pm f c)) λf c=>?_;by_cases m:f.k=2/\f.n=idE e
  .right;exact⟨f,(k.isP f c).resolve_left (by have:=m.1;omega),rfl,Int.le_refl _⟩
  .left;unfold raN;rw[oI m];exact Int.le_refl _
 have h5:=h.rs (idE e);have h6:(T.E.map (mkN (idE e))).sum=_:=zdy;simp only[jK,List.map_nil,List.sum_cons,List.sum_nil]at d;unfold ZI;omega
end
section
variable {B0 n:Nat}{Z:List Nat}{c c':CX}{s:STP}{t:TLD}{e:EV}{y:Int}
def TD.sp(h:TD c.T t)(k:SP c c'):TD c'.T t:=by obtain⟨X,d,b⟩:=k.r;exact h.more k.m d (λe a=>(b e a).1) λe a=>(b e a).2
def TD.do_(h:TD c.T t)(v:CM w B0 n b Z c)(M:DoR s c c' e y):TD c'.T (if s.d=1 then xP s.who s.ak e y t else t):=by
 cases M with
 | sp hsp hy =>
  have x:=h.sp hsp;split
  .rename_i p;exact x.say (P:=[]) (λ_ h=>h) oB oB oB (λh=>qI rfl h) (λ_ _ j=>by cases j) λj=>qI j (hy p)
  .exact x
 | @ask i _ _ _ hd hw hi ha =>
  rw[oJ (show s.d=1 by omega),hw];cases ha with
  | @no Y Y' r fu _ hX hn =>
   have k:=v.st i hi;rw[hX]at k;refine h.say (P:=[]) (λ_ h=>h) oB oB oB (λh=>qI rfl h) (λ_ _ j=>by cases j) λj A=>?_;rcases hn with⟨_,g,J,o,p,q⟩|⟨_,p,q⟩
   .have u:agT s.ak g:=Classical.byContradiction λL=>by have:=q L;omega
    rcases u with⟨_,B,C,D⟩|⟨O,_⟩
    .have z:=EI.of k.2.d.ok;rw[<-k.2.d.st]at z;obtain⟨f,m,E,H,I,G,F⟩:=z.ge g J;unfold agM at o;simp only[oM,oP]at o;exact⟨f,k.2.a f m,E,H.trans o.1,I.trans B,G.trans C,F.trans D⟩
    .omega
   .exact qI (q.symm.trans j) p
  | @yes Y Y' r fu fu' hX j hna m hw' =>
   have k:=v.st i hi;rw[hX]at k;have o:=((mE k.2.d.pi).1 j).may;exact h.say (P:=[mkP i r.l s.ak]) (λ_ h=>List.mem_append_left _ h) rfl (λf m=>by rw[mS m];exact⟨o,rfl,rfl,rfl,rfl,rfl⟩) oA (λ_=>.inl rfl) (λ_ N _=>⟨by simp[zam,TT.add],N⟩) λ_ A=>⟨mkP i r.l s.ak,by simp[zam,TT.add],A,rfl,rfl,rfl,rfl⟩
  | @off Y r fu hX j hna m =>
   have k:=v.st i hi;rw[hX]at k;have o:=((mE k.2.d.pi).1 j).may;exact h.say (P:=[mkP i r.l s.ak]) (λ_ h=>h) rfl (λf m=>by rw[mS m];exact⟨o,rfl,rfl,rfl,rfl,rfl⟩) oA (λ_=>.inr rfl) (λ_ _ j=>by cases j) λj=>by cases j
def DoR.org(a:DoR s c c' e y):¬0<e.o\/y=0/\s.d=1/\e.o=s.who:=by
 cases a with
 | sp=>exact .inl dc
 | ask hd hw hi ha =>
  cases ha with
  | no=>exact .inl dc
  | yes=>exact .inr ⟨rfl,by omega,hw.symm⟩
  | off=>exact .inl dc
def CM.tok(h:CM w B0 n b Z c):TOK n c.T:=(h.st 0 oo).tok
end
section
open Go.ChangeMaps
def HY:fU Q 56 0 0 b o K w:=aJ kr
def DX:fU Q 56 1 14 b o K w:=aJ kr
def SL:fU Q 51 0 0 b o K w:=aJ kr
def zeO:fU Q 51 1 12 b o K w:=aJ kr
def zeP:fU Q 51 2 13 b o K w:=aJ kr
section
variable {B0 n b' t:Nat}{Z Z':List Nat}{c:CX}
def SO.rw{B:Nat}{l:PL}{t:STA}(h:SO w B l t a gc):∀k∈rwB t.na++rwB a,B<=k/\k<w.heap.size:=λk b =>
 (oU.1 b).elim (λb=>jT h.nd k (wi b h.nd)) λb=>jT h.gr k (wi b h.gr)
end
def Rb{s:STP}{n:Nat}:∀v∈stC s (.slice a n c),v.oneCell'=true:=by intro v b;simp only[stC,oO,oR,or_false]at b;rcases b with rfl|rfl|rfl|rfl|rfl|rfl|rfl|rfl|rfl|rfl|rfl|rfl<;>rfl
def NO:STP:=⟨0,0,0,0,0,0,0,0,0,0,0,[]⟩
structure StB(w:oG) (st:STA):Prop where
 i:st.I.length=6/\st.L.length=6/\st.V.length=6
 nr:NR w st.na st.nodes.length st.nc st.nodes
 few:st.nodes.length<=1000000
 id:∀y∈st.nodes,0<=y.id/\y.id<M64
 gv:st.gv.oneCell'=true
def StB.bel{st:STA}(h:StB w st)(a:Below w.heap.size w S):StB S st:={h with nr:=h.nr.bel a oA}
section
variable {B0 n t:Nat}{Z:List Nat}{c:CX}{l:PL}{y nd a:Int}
def CM.alcAn{e:EV}{K2:oF->KV}(h:CM w B0 n b Z c)(i:∀S q,CM S B0 n b (q::Z) c->CS w S B0 Z->q∉Z->blk S q 56 (anC e x)->K2 (pB q) undef S):alc Q 56 (λp=>sto Q 56 p (anV e x) (K2 p)) w:=by
 refine bO (z:=anV evZ 0) kr λl d g m=>?_;have d:=cZ d
 refine eW (n:=15) (vs:=anC e x) kr rfl d dc VQ λO a k=>?_;have a:blk O w.heap.size 56 (anC e x):=a;have f:=aD g k oA;exact i O _ (h.new f oA a.lt) (h.csb f) (λj=>by have:=(h.own _ j).1;omega) a
def CM.alcSt{r:RS}{K2:oF->KV}{d:STA}(h:CM O B0 n b Z c)(k:Below O.heap.size O w)(e:SO w O.heap.size r.l d av gc)(m:PI r.l)(A:∀S q,CM S B0 n b (q::(rwB d.na++rwB av)++Z) c->CS O S B0 Z->SO S O.heap.size r.l d av gc->blk S q 42 (saC d)->K2 (pB q) undef S):alc Q 42 (λp=>sto Q 42 p (.agg (saC d).toArray) (K2 p)) w:=by
 have g:(saC d).length=20:=rD (by rw[e.eI];exact m.i6) (by rw[e.eL];exact m.l6) (by rw[e.eV];exact m.v6);refine bO (z:=.agg (saC stZ).toArray) kr λC s x F=>?_;have s:=cZ s
 have o:∀v∈saC d,v.oneCell'=true:=by
  intro v i;unfold saC at i;rw[e.gv]at i;simp only[oU,qU,oO,oR,or_false]at i;rcases i with((⟨_,_,rfl⟩|⟨_,_,rfl⟩)|⟨_,_,rfl⟩)|(rfl|rfl)<;>rfl
 refine eW (n:=20) (vs:=saC d) kr g s dc o λw3 u B=>?_;rw[qY,oV,oS dc,oW]at u;have j:=aD x B oA;have f:=tB k j;have E:=k.size;have G:=j.size;refine A w3 _ (h.newL f λt a=>?_) (h.csb f) (e.fresh j) u;rw[jF]at a;rcases oO.1 a with rfl|a
 .exact .inr ⟨by omega,u.lt⟩
 .rcases oU.1 a with a|a
  .obtain⟨y,D⟩:=e.rw t a;exact .inr ⟨y,by omega⟩
  .exact .inl a
def zfe{q:Nat}{e:EV}{K2:oF->KV}(b:blk w q 56 (anC e x))(a:∀u,K2 u (ci x) w):ao Q 56 (pB q) 1 (λu=>ld Q 26 u (K2 u)) w:=DX (lK (v:=ci x) b rfl (a _))
def zj7{B q:Nat}{r:RS}{a:STA}(d:SO S B r.l a av gc)(c:PI r.l)(f:blk w q 42 (saC a))(e:K (.agg (saC a).toArray) w):ld Q 42 (pB q) K w:=by have b:(saC a).length=20:=rD (by rw[d.eI];exact c.i6) (by rw[d.eL];exact c.l6) (by rw[d.eV];exact c.v6);exact ldA (n:=20) (vs:=saC a) underlying42 rfl kr f dTk b e
def zko{a:Option Addr}{L:List S24}(h:S24R w a m b L)(i:K cF w)(e:m<=100->K cT w):call Q 5 #[.slice a m b] K w:=by
 have t:=h.len;refine aj (goK func5) (Ta (bv underlying22 (cH ?_)));by_cases r:100<m
 .exact ay oo i
 refine ax oo <|PN (Inv:=λu n=>∃q:Nat,u=ci (q:Nat)/\q<=m/\w=n) (μ:=mU m) ⟨0,rfl,qG _,rfl⟩ ?_;rintro _ p _ z ⟨q,rfl,y,rfl⟩ d;refine bv underlying22 (aL ?_);by_cases c:q<m
 .have g:L[q]? = some L[q]:=gE oo;generalize L[q]=x at g;obtain⟨j,o,k⟩:=h.some_ oo;subst k;have l:=h.cell q x g j o rfl;refine ay oo (fQ underlying22 (s:=14) kf oo oo (SL (Zk ?_)));rw[oQ]
  refine vS (v:=.slice x.pa x.s.picks.length x.pc) kf (l 11 _ rfl) (bv underlying47 (cH ?_));by_cases f:(20:Int)<(x.s.picks.length:Nat)
  .exact ay f i
  .exact ax f (aR oo oo ⟨⟨q+1,ivS,c,rfl⟩,mD d⟩)
 .exact ax oo (PO (e oo))
def zem{x:S24}{b:STA}(Y:ZV w x)(hI:b.I.length=6/\b.L.length=6/\b.V.length=6)(E:NR w b.na b.nodes.length b.nc b.nodes)(aa:b.nodes.length<=1000000)(R:∀y∈b.nodes,0<=y.id/\y.id<M64)(hg:b.gv.oneCell'=true)(a:∀w' nd,(0<=nd/\nd<=18446744073709551615)->Below w.heap.size w w'->K (.agg (stC {x.s with node:=nd} (.slice x.pa x.s.picks.length x.pc)).toArray) w'):call Q 9 #[.agg (Qn x).toArray,.agg (saC b).toArray] K w:=by
 have f:=Et (t:=b) hI.1 hI.2.1 hI.2.2;refine aj (goK func9) (KR (bu λG J D s1=>bu λr M O s2=>bO (z:=.agg (stC NO (.slice none 0 0)).toArray) kr λw3 B U s3=>?_));have J:=cZ J
 have M:=cZ M
 have B:=cZ B
 have d:=tB O U;have l:=tB D d;have h:=ae d J J.lt;have A:=ae U M M.lt;obtain⟨v,hv⟩:∃v,v=Value.slice x.pa x.s.picks.length x.pc:=⟨_,rfl⟩
 refine SL (ldA (n:=12) (vs:=stC x.s (.slice x.pa x.s.picks.length x.pc)) underlying49 rfl kr h rfl rfl ?_);refine bO (z:=.agg (stC NO (.slice none 0 0)).toArray) kr λw4 T b4 s4=>?_;have T:=cZ T
 refine eW (n:=12) (vs:=stC x.s (.slice x.pa x.s.picks.length x.pc)) kr rfl T dc Rb λw5 N o5=>?_;have N:blk w5 w3.heap.size 49 (stC x.s (.slice x.pa x.s.picks.length x.pc)):=N;have c:=aD b4 o5 oA;have m:=tB l c;have u:=ae c h h.lt;have i:=ae c A A.lt;have C:=ae c B B.lt;have ab:=c.size
 have o:∀{y:oG} {nd:Int} {zf:oD},(0<=nd/\nd<=18446744073709551615)->Below w.heap.size w y->blk y w3.heap.size 49 (stC {x.s with node:=nd} (.slice x.pa x.s.picks.length x.pc))->blk y r.heap.size 49 (stC NO (.slice none 0 0))->fW K (qu (pB r.heap.size) (pB w3.heap.size) zf) y:=λ{y nd zf} E P zy zt=>by
  refine Iv (KQ (s:={x.s with node:=nd}) zy (eW (n:=12) (vs:=stC {x.s with node:=nd} (.slice x.pa x.s.picks.length x.pc)) kr rfl zt dc Rb λH j F=>?_));have j:blk H r.heap.size 49 (stC {x.s with node:=nd} (.slice x.pa x.s.picks.length x.pc)):=j
  exact uT (v:=.agg (stC {x.s with node:=nd} (.slice x.pa x.s.picks.length x.pc)).toArray) (λ_ a=>KQ (s:={x.s with node:=nd}) j a) (a H nd E (aD P F (by have:=d.size;have:=D.size;have:=O.size;omega)))
 refine zeO (lK (v:=.bool x.near) u rfl ?_);have e:=λzf=>o (zf:=zf) (nd:=x.s.node) Y.wd.node m N C;cases S:x.near with
 | false=>exact kj (bZ (yT (aA (e _))))
 | true =>
  refine kN (pZ (lK (v:=.slice b.na b.nodes.length b.nc) i f (bv underlying39 (cH (cA (yT ?_))))));by_cases X:(0:Int)<(b.nodes.length:Nat)
  .refine ay X ?_;have hN:=Y.nd;obtain⟨k,hk⟩:∃k:Nat,(x.node%(b.nodes.length:Int))=(k:Nat):=⟨(x.node%(b.nodes.length:Int)).toNat,by have:=Int.emod_nonneg x.node (show (b.nodes.length:Int)≠0 by omega);omega⟩
   have p:k<b.nodes.length:=by have:=Int.emod_lt_of_pos x.node (show 0<(b.nodes.length:Int)by omega);omega
   have Z:b.nodes[k]? = some b.nodes[k]:=gE p;have g:=R _ (List.getElem_mem p);generalize b.nodes[k]=y at Z g;obtain⟨nb,no,q⟩:=E.some_ oo;have W:Below w.heap.size w w5.drew:=m.drew;refine ah (λ_=>pZ) (ah (v:=.slice b.na b.nodes.length b.nc) (λ_=>lK i.drew f) ?_)
   refine ah (λ_=>zeP) (ah (v:=.int .u8 x.node) (λ_=>lK u.drew rfl) (ah (v:=iv x.node) (λK a=>dE underlying5 underlying3 (by rw[fM oo oo];exact a)) ?_));refine ah (λ_=>pZ) (ah (v:=.slice b.na b.nodes.length b.nc) (λ_=>lK i.drew f) (ah (λ_=>bv underlying39) (ah (v:=iv (k:Nat)) (λK a=>za5 hN.1 oo (by rw[hk];exact a)) ?_)));rw[q]
   refine ah (v:=pA nb (no+k*56)) (λK a=>fQ underlying39 (s:=56) kf oo oo (by rw[oQ];exact a)) ?_;refine ah (λ_=>SH) (ah (v:=u6 y.id) (λ_=>vS kf ((E.bel W oA).cell k y Z nb no q 0 _ rfl)) ?_)
   refine ah (λ_=>SM) (ah (λ_=>HZ) (cq (v:=u6 y.id) kf N.drew (by show 0+2+1<12;decide) rfl λH j F=>?_));have j:blk H w3.heap.size 49 (stC {x.s with node:=y.id} (.slice x.pa x.s.picks.length x.pc)):=j;exact o ⟨g.1,by have:=g.2;simp only[M64]at this;omega⟩ (aD W F (by have:=d.size;have:=D.size;omega)) j (F.blk C.drew (by have:=B.lt;omega))
  .exact ax X (e _)
def zii{s:STP}{a:Option Addr}{K2:oF->KV}(h:∀S,blk S w.heap.size 49 (stC s (.slice a m b))->Below w.heap.size w S->K2 (pB w.heap.size) undef S):alc Q 49 (λc=>aF λ_=>sto Q 49 c (.agg (stC s (.slice a m b)).toArray) (K2 c)) w:=by
 refine bO (z:=.agg (stC NO (.slice none 0 0)).toArray) kr λg d e k=>hRT ?_;have d:=cZ d
 refine eW (n:=12) (vs:=stC s (.slice a m b)) kr rfl d dc Rb λi j f=>h i j (aD e f oA)
def zcZ(h:CM w B0 n b Z c)(s:b<=20000)(u:FG P0)(l:∀S f v,StB S f->Below w.heap.size w S->K (.tuple #[.agg (saC f).toArray,v]) S):call Q 8 #[pB c.p,iv P0] K w:=by
 refine MD h s u (λk g _=>l k stZ _ ⟨⟨rfl,rfl,rfl⟩,⟨rfl,Nat.le_refl _,λh=>qI h (qX _),by simp[stZ],λi x y=>by simp[stZ]at y⟩,by simp[stZ],by simp[stZ],rfl⟩ g) λk i Y r z f A B t e q j g=>?_;have o:=h.st i t;rw[q]at o;have m:=o.2.d.pi;have a:=j.sk m
 exact l k f _ ⟨⟨a.i6,a.l6,a.v6⟩,a.nr,by have:=a.few;omega,by rw[j.eN];exact m.idb,by rw[j.gv];rfl⟩ g
end
def tgC(g:TG):oE:=[iv g.who,u6 g.req,u6 g.node,iv g.am,.bool g.back]
theorem Rc(g:TG):(tgC g).length=5:=rfl
def zbG(g:TG):∀u∈tgC g,u.oneCell'=true:=λu a=>by
 simp only[tgC,oO,oR,or_false]at a;rcases a with rfl|rfl|rfl|rfl|rfl<;>rfl
structure TQ where
 p:Nat
 na:Option Addr
 nc:Nat
 ra:Option Addr
 rc:Nat
 ga:Option Addr
 gc:Nat
 fa:Option Addr
 fc:Nat
def TQ.ad(q:TQ):Nat->Option Addr×Nat
 | 0=>(q.na,q.nc)
 | 1=>(q.ra,q.rc)
 | 2=>(q.ga,q.gc)
 | _=>(q.fa,q.fc)
def TLD.rw(t:TLD):Nat->TypeId×Nat×Nat×oE
 | 0=>(54,14,t.N.length,t.N.flatMap evC)
 | 1=>(46,6,t.R.length,t.R.flatMap akC)
 | 2=>(92,5,t.G.length,t.G.flatMap tgC)
 | _=>(92,5,t.F.length,t.F.flatMap tgC)
def TQ.F(q:TQ):List Nat:=q.p::(List.range 4).flatMap λi=>rwB (q.ad i).1
def TQ.mem{q:TQ}{k:Nat}:k∈q.F↔k=q.p\/∃i,i<4/\k∈rwB (q.ad i).1:=by simp only[TQ.F,oO,List.mem_flatMap,jQ]
def pE(t:TLD)(q:TQ):oE:=[.slice q.na t.N.length q.nc,.slice q.ra t.R.length q.rc,.slice q.ga t.G.length q.gc,.slice q.fa t.F.length q.fc]
structure TM(w:oG) (B:Nat) (t:TLD) (q:TQ):Prop where
 b:blk w q.p 34 (pE t q)
 rw:∀i,i<4->w.ownsRow B (t.rw i).1 (t.rw i).2.1 (.slice (q.ad i).1 (t.rw i).2.2.1 (q.ad i).2) (t.rw i).2.2.1 (t.rw i).2.2.2
 ap:∀i j,i<4->j<4->i≠j->∀k∈rwB (q.ad i).1,k∉rwB (q.ad j).1
 lo:B<=q.p
structure TS(w w':oG) (q q':TQ):Prop where
 ch:Ch q.F w w'
 nw:∀k∈q'.F,k∈q.F\/w.heap.size<=k
 p:q'.p=q.p
section
variable {w1:oG}{B B0 n:Nat}{t:TLD}{q q':TQ}{Z Z' F:List Nat}{c:CX}
def iP{B n c:Nat}(h:w.ownsRow B E s (.slice a n c) n xs){k:Nat}(b:k∈rwB a):(∃cs,blk w k E cs)/\B<=k/\k<w.heap.size:=wg h (wi b h)
def lg{B n c:Nat}(h:w.ownsRow B E s (.slice a n c) n xs)(d:∀k∈rwB a,S.heap[k]? = w.heap[k]?):S.ownsRow B E s (.slice a n c) n xs:=cn h λk b=>d k (xJ b)
def TM.rn(h:TM w B t q):w.ownsRow B 54 14 (.slice q.na t.N.length q.nc) t.N.length (t.N.flatMap evC):=h.rw 0 oo
def TM.rr(h:TM w B t q):w.ownsRow B 46 6 (.slice q.ra t.R.length q.rc) t.R.length (t.R.flatMap akC):=h.rw 1 oo
def TM.rg(h:TM w B t q):w.ownsRow B 92 5 (.slice q.ga t.G.length q.gc) t.G.length (t.G.flatMap tgC):=h.rw 2 oo
def TM.rf(h:TM w B t q):w.ownsRow B 92 5 (.slice q.fa t.F.length q.fc) t.F.length (t.F.flatMap tgC):=h.rw 3 oo
def TM.kp(h:TM w B t q)(c:∀k∈q.F,S.heap[k]? = w.heap[k]?):TM S B t q :=
 ⟨by have:=h.b;unfold blk at this |-; rw[c _ (TQ.mem.2 (.inl rfl))];exact this,λi a=>lg (h.rw i a) λk d=>c k (TQ.mem.2 (.inr ⟨i,a,d⟩)),h.ap,h.lo⟩
def TLD.ty(t:TLD)(i:Nat):(t.rw i).1=54\/(t.rw i).1=46\/(t.rw i).1=92:=by unfold TLD.rw;split<;>simp
def TM.ty(h:TM w B t q){k:Nat}(a:k∈q.F):B<=k/\k<w.heap.size/\∃E cs,blk w k E cs/\(E=34\/E=54\/E=46\/E=92):=by
 rcases TQ.mem.1 a with rfl|⟨i,c,a⟩
 .exact⟨h.lo,h.b.lt,_,_,h.b,.inl rfl⟩
 .obtain⟨⟨cs,x⟩,d,e⟩:=iP (h.rw i c) a;exact⟨d,e,_,cs,x,.inr (t.ty i)⟩
def TM.ne(h:TM w B t q)(hi:i<4):q.p∉rwB (q.ad i).1:=λa=>by
 obtain⟨⟨c,x⟩,_⟩:=iP (h.rw i hi) a
 have:=mG h.b x
 rcases t.ty i with e|e|e<;>rw[e]at this<;>exact qI this dc
def TM.below(h:TM w B t q)(a:Below w.heap.size w S):TM S B t q:=h.kp λk b=>a.block k (h.ty b).2.1
def TM.cs(h:TM w B t q)(s:CS w S B0 Z)(b:∀k∈q.F,k∈Z):TM S B t q:=h.kp λk a=>s.z k (b k a)
def TM.noBy(h:TM w B t q):noBy w q.F:=λk E g d a f=>by
 obtain⟨_,_,E',b,c,e⟩:=h.ty f
 have:=mG d c
 subst this;simp only[oO,oR,or_false]at a;rcases e with rfl|rfl|rfl|rfl<;>rcases a with a|a|a<;>exact qI a dc
def CM.chZ(h:CM w B0 n b Z c)(f:Ch F w S)(hF:∀k∈F,k∈Z)(v:Go.Proofs.YtpaghmnnhedccaaGreatDoor.noBy w F)(s:∀t∈Z',t∈Z\/(w.heap.size<=t/\t<S.heap.size)):CM S B0 n b Z' c :=
 have o:=λk l=>h.own k (hF k l)
 have A:=h.b0
 have z:=f.size
 {h with
  cb:=h.cb.ch f λa=>(o _ a).2.2.1 rfl
  nm:=h.nm.chN f (λk l a=>(o k a).2.2.2.1 l) (λx q k j m a=>h.mz k (hF k a) x q k j m rfl) LeT.refl
  st:=λi p=>(h.st i p).ch f v λk l a=>(o k a).2.2.2.2 i p l
  kd:=h.kd.ch f λg u a=>by have:=h.gt g u;have:=(o g a).2.1;omega
  own:=λt d=>(s t d).elim (λd=>⟨qQ (h.own t d).1 z,(h.own t d).2⟩) λr=>⟨r.2,by omega,λe=>by have:=h.cb.lt;omega,λa=>by have:=h.nm.lt t a;omega,λi p a=>by have:=(h.st i p).lt t a;omega⟩
  mz:=λt d x q k y m=>(s t d).elim (λd=>h.mz t d x q k y m) λr=>by have:=h.nm.elt q m;omega}
def CM.told{f:TLD}(h:CM w B0 n b q.F c)(m:TM w B t q)(e:TM S B f q')(s:TS w S q q'):CM S B0 n b q'.F c :=
 h.chZ s.ch (λ_ a=>a) m.noBy λk a=>(s.nw k a).imp id λd=>⟨d,(e.ty a).2.1⟩
def TS.refl(a:Below w.heap.size w S):TS w S q q:=⟨Ch.of_below a,λ_ b=>.inl b,rfl⟩
def TS.trans{q2:TQ}(h:TS w w1 q q')(k:TS w1 S q' q2):TS w S q q2:=⟨h.ch.trans k.ch h.nw,λx a=>(k.nw x a).elim (h.nw x) λb=>.inr (by have:=h.ch.size;omega),k.p.trans h.p⟩
def TS.bel(h:TS w S q q')(m:TM w B t q)(a:B<=w.heap.size):Below B w S:=h.ch.below (λk b=>(m.ty b).1) a
def TM.add{t':TLD}(h:TM w B t q)(hi:i<4)(v:q'.p=q.p)(r:∀j,j<4->j≠i->t'.rw j=t.rw j/\q'.ad j=q.ad j)(I:t'.rw i=((t.rw i).1,(t.rw i).2.1,o,xs))(E:w1.ownsRow B (t.rw i).1 (t.rw i).2.1 (.slice (q'.ad i).1 o (q'.ad i).2) o xs)(l:w.grownBy w1 (Value.slice (q.ad i).1 (t.rw i).2.2.1 (q.ad i).2).ownBlock)(u:(Value.slice (q'.ad i).1 o (q'.ad i).2).ownBlock=(Value.slice (q.ad i).1 (t.rw i).2.2.1 (q.ad i).2).ownBlock\/(Value.slice (q'.ad i).1 o (q'.ad i).2).ownBlock=some w.heap.size)(z2:blk S q.p 34 (pE t' q'))(A:Oth q.p w1 S):TM S B t' q'/\TS w S q q':=by
 have y:∀k∈rwB (q'.ad i).1,k∈rwB (q.ad i).1\/w.heap.size<=k:=λk c=>by
  have c:=wi c E;rcases u with u|u
  .exact .inl (xJ (u ▸ c))
  .rw[u,qD]at c;exact .inr oo
 have G:Ch q.F w w1:=⟨l.os,l.tape,l.output,l.size,λk c H=>l.block k c λe=>H (TQ.mem.2 (.inr ⟨i,hi,xJ e.symm⟩))⟩
 have z:∀{j k},j<4->k∈rwB (q.ad j).1->k<w.heap.size:=λd c=>(iP (h.rw _ d) c).2.2;refine⟨⟨by rw[v];exact z2,λj d=>?_,λa b s m g k c n=>?_,by rw[v];exact h.lo⟩,G.trans (Ch.of_oth A (TQ.mem.2 (.inl rfl))) λk c=>.inl c,λk c=>?_,v⟩
 .by_cases e:j=i
  .subst e;rw[I];exact lg E λk c=>A.other k λe=>(y k c).elim (λf=>h.ne hi (e ▸ f)) λf=>by have:=h.b.lt;omega
  .rw[(r j d e).1,(r j d e).2];exact lg (h.rw j d) λk c=>by rw[A.other k λe=>h.ne d (e ▸ c),l.block k (z d c) λx=>h.ap j i d hi e k c (xJ x.symm)]
 .by_cases C:a=i
  .subst C;rw[(r b m λe=>g e.symm).2]at n;exact(y k c).elim (λf=>h.ap a b s m g k f n) λf=>by have:=z m n;omega
  .rw[(r a s C).2]at c;by_cases D:b=i
   .subst D;exact(y k n).elim (λf=>h.ap a b s m g k c f) λf=>by have:=z s c;omega
   .rw[(r b m D).2]at n;exact h.ap a b s m g k c n
 .rcases TQ.mem.1 c with e|⟨j,d,c⟩
  .exact .inl (TQ.mem.2 (.inl (e.trans v)))
  .by_cases e:j=i
   .subst e;exact(y k c).imp (λf=>TQ.mem.2 (.inr ⟨j,d,f⟩)) id
   .rw[(r j d e).2]at c;exact .inl (TQ.mem.2 (.inr ⟨j,d,c⟩))
def TM.setG{x:TG}(h:TM w B t q)(o:q.ga=some ⟨g,0,none⟩)(r:Opn w B 92 5 t.G.length q.gc g xs (t.G.flatMap tgC))(s:t.G[i]? = some x)(z2:blk S g 92 (xs.set (i*5+4) cT))(f:Oth g w S):TM S B {t with G:=t.G.set i {x with back:=true} } q/\TS w S q q:=by
 have p:g∈rwB (q.ad 2).1:=by show g∈rwB q.ga;rw[o];exact List.mem_singleton.2 rfl
 have m:=r.set1 (x':={x with back:=true}) Rc rfl s oo rfl z2;have l:(t.G.set i {x with back:=true}).length=t.G.length:=qN;have n:∀j,j<4->j≠2->S.ownsRow B (t.rw j).1 (t.rw j).2.1 (.slice (q.ad j).1 (t.rw j).2.2.1 (q.ad j).2) (t.rw j).2.2.1 (t.rw j).2.2.2:=λj a d=>lg (h.rw j a) λk c=>f.other k λe=>h.ap j 2 a oo d k c (e ▸ p)
 refine⟨⟨?_,λj a=>?_,h.ap,h.lo⟩,Ch.of_oth f (TQ.mem.2 (.inr ⟨2,by omega,p⟩)),λ_ c=>.inl c,rfl⟩
 .unfold pE;rw[l];exact f.blk h.b (h.b.ne r.blk dc)
 .match j,a with
  | 0,a=>exact n 0 a oo
  | 1,a=>exact n 1 a oo
  | 2,_ =>
   show S.ownsRow B _ 5 (.slice q.ga (t.G.set i _).length q.gc) (t.G.set i _).length _;rw[l,o];exact m.own
  | 3,a=>exact n 3 a oo
end
def Eg:fU Q 34 0 0 b o K w:=aJ kr
def Ig:fU Q 34 1 1 b o K w:=aJ kr
def vh:fU Q 34 2 2 b o K w:=aJ kr
def Ih:fU Q 34 3 3 b o K w:=aJ kr
def zbK{L:List EV}{x:EV}{id:Int}:upE (L++[x]) id=if idE x=id then x.n else upE L id:=by unfold upE;rw[List.foldl_append];rfl
section
variable {B:Nat}{t:TLD}{q:TQ}
def zgf{e:EV}(f:co e=true)(h:nX w (K (u6 (idE e)))):call Q 26 #[evV e] K w:=by
 obtain⟨i,j,k,l⟩:=fZ f;refine aj (goK func26) (UZ (bu λb a c g=>?_));have a:blk b w.heap.size 54 (evC e):=by simpa[Value.cells,evV]using a
 refine dO (lK (v:=iv e.o) a rfl (nB (lK (v:=u6 e.s) a rfl ?_)));refine aj (goK func36) (UY (aL (df oo (cH (bw oo (df oo (aL (bw oo (df oo (bR (bw oo (ax oo (dE underlying3 underlying36 ?_)))))))))))));rw[eJ,show e.o%18446744073709551616=e.o by omega];refine Cc oo ?_
 have d:e.o*2 ^ (min (40:Int).toNat IntKind.u64.bits)=e.o*1099511627776:=rfl;rw[d,eJ,show e.o*1099511627776%18446744073709551616=e.o*1099511627776 by omega];refine xE ?_;rw[eJ,show (e.o*1099511627776+e.s)%18446744073709551616=idE e by unfold idE;simp only[M40];omega];exact h b c
def rdE{f':Nat}{v:oF}{n:Nat}{L:List EV}{x:EV}{K3:oF->oF->oF->oG->Prop}(g:∀w,(isAgg E).run Q w=.ok false w)(j:Wl Q 54 f=some f')(e:f'<14)(l:w.ownsRow B 54 14 (.slice a n c) n (L.flatMap evC))(k:L.length=n)(o:L[i]? = some x)(m:(evC x)[f']? = some v)(h:∀b d,K3 b d v w):aW Q 30 (.slice a n c) (ci (i:Nat)) (λb w=>ao Q 54 b f (λd w=>ld Q E d (λp w=>K3 b d p w) w) w) w :=
 rd3 (enc:=evC) (s:=14) (f':=f') underlying30 kf (λ_=>rfl) g j e l k o m h
def rdG{f':Nat}{v:oF}{n:Nat}{L:List TG}{x:TG}{K3:oF->oF->oF->oG->Prop}(g:∀w,(isAgg E).run Q w=.ok false w)(j:Wl Q 92 f=some f')(e:f'<5)(l:w.ownsRow B 92 5 (.slice a n c) n (L.flatMap tgC))(k:L.length=n)(o:L[i]? = some x)(m:(tgC x)[f']? = some v)(h:∀b d,K3 b d v w):aW Q 32 (.slice a n c) (ci (i:Nat)) (λb w=>ao Q 92 b f (λd w=>ld Q E d (λp w=>K3 b d p w) w) w) w :=
 rd3 (enc:=tgC) (s:=5) (f':=f') underlying32 kf (λ_=>rfl) g j e l k o m h
def zgD{L:List EV}{id d:Int}(H:w.ownsRow B 54 14 (.slice a L.length c) L.length (L.flatMap evC))(Y:∀e∈L,co e=true)(hl:L.length<=1000)(h:nX w (K (.bool (xM L 5 id d)))):call Q 27 #[.slice a L.length c,u6 id,u6 d] K w:=by
 refine aj (goK func27) (PQ ?_);refine Ni (Inv:=λu v U=>∃(r:Nat) (x:Int),u=u6 x/\v=ci (r:Nat)/\r<=5/\xM L 5 id d=xM L (5-r) x d/\Below w.heap.size w U) (μ:=λ_ v _=>5-(intOf v).toNat) ⟨0,id,rfl,rfl,by omega,rfl,jU _ _⟩ ?_;rintro _ _ dd w1 mu ⟨r,x,rfl,rfl,Z,F,J⟩ O;have T:xM L (5-r) x d=false->K cF w1:=λX=>by have:=h w1 J;rw[F,X]at this;exact this
 refine iG ?_;by_cases D:(r:Int)<=4
 rotate_left
 .exact cJ D (bw D (aA (CJ (T (by rw[show 5-r=0 by omega];rfl)))))
 obtain⟨k,m⟩:∃k,5-r=k+1:=⟨4-r,by omega⟩
 rw[m]at F T;refine bU D (aZ (bI D ?_));by_cases l:x=0
 .exact ax (Lf l) (CJ (T (by unfold xM;rw[oJ l])))
 refine ay l (aT ?_);by_cases E:x=d
 .refine ay E ?_
  have:=h w1 J
  rw[F]at this;unfold xM at this;rw[oI l,oJ E]at this;exact this
 have N:xM L 5 id d=xM L k (upE L x) d:=by rw[F];conv=>lhs;unfold xM;rw[oI l,oI E]
 refine ax E (Nj (Inv:=λu v U=>∃q:Nat,u=u6 (upE (L.take q) x)/\v=ci (q:Nat)/\q<=L.length/\Below w.heap.size w U) (μ:=mV L.length) ⟨0,rfl,rfl,qG _,J⟩ ?_);rintro _ _ W A S ⟨p,rfl,rfl,hp,C⟩ o;have P:A.ownsRow B 54 14 (.slice a L.length c) L.length (L.flatMap evC):=cn H λk m=>C.block k (jT H k m).2;refine bv underlying30 (aL ?_);by_cases g:p<L.length
 .have I:L[p]? = some L[p]:=gE g;have z:=Y _ (List.getElem_mem g);generalize L[p]=y at I z;have t:L.take (p+1)=L.take p++[y]:=by rw[List.take_add_one,I];rfl
  have j:∀{w3:oG} {u:Int} {V:oD},upE (L.take (p+1)) x=u->Below w.heap.size w w3->ji K (λf A=>(∃(r:Nat) (x:Int),gd f 1=u6 x/\gd f 7=ci (r:Nat)/\r<=5/\xM L 5 id d=xM L (5-r) x d/\Below w.heap.size w A)/\5-(intOf (gd f 7)).toNat<mu) (λf A=>(∃q:Nat,gd f 8=u6 (upE (L.take q) x)/\gd f 9=ci (q:Nat)/\q<=L.length/\Below w.heap.size w A)/\L.length-(intOf (gd f 9)).toNat<S) (ir (.slice a L.length c) (u6 x) (u6 d) (ci (r:Nat)) (u6 u) (ci (p:Nat)) V) w3:=λ{w3 u V} hu M =>
   Nm (aR oo oo ⟨⟨p+1,by rw[hu];rfl,ivS,g,M⟩,mD o⟩)
  refine ay oo (Nh (BE (i:=p) (enc:=evC) (s:=14) (L:=L) (x:=y) underlying30 kf underlying54 rfl kr (λ_=>rfl) P rfl I λ_=>zgf z λw3 M=>aT ?_));have b:=tB C M;have R:w3.ownsRow B 54 14 (.slice a L.length c) L.length (L.flatMap evC):=cn H λk m=>b.block k (jT H k m).2;by_cases G:idE y=x
  .refine ay G (rdE (f':=9) (v:=u6 y.n) kf kr oo R rfl I rfl λ_ _=>j ?_ b);rw[t,zbK,oJ G]
  .refine ax G (j ?_ b);rw[t,zbK,oI G]
 .obtain rfl:p=L.length:=by omega
  rw[List.take_length];refine ax oo (Nl (Nk (aR oo oo ⟨⟨r+1,_,rfl,ivS,by omega,by rw[N,show 5-(r+1)=k by omega],C⟩,mD O⟩)))
def zak(h:TM w B t q)(H:t.G.length<=1000)(E:(∀g∈t.G,isG r P0 g=false)->K (ci (-1)) w)(u:∀(i:Nat) x,t.G[i]? = some x->isG r P0 x=true->(∀j g,j<i->t.G[j]? = some g->isG r P0 g=false)->K (ci (i:Nat)) w):call Q 24 #[pB q.p,iv r,u6 P0] K w:=by
 refine aj (goK func24) (JD ?_);refine GO (Inv:=λv s=>∃p:Nat,v=ci (p:Nat)/\p<=t.G.length/\w=s/\∀j g,j<p->t.G[j]? = some g->isG r P0 g=false) (μ:=mU t.G.length) ⟨0,rfl,qG _,rfl,λj g m=>by omega⟩ ?_;rintro _ F _ D ⟨p,rfl,I,rfl,o⟩ n;refine aq (vh (lK (v:=.slice q.ga t.G.length q.gc) h.b rfl (bv underlying32 (aL ?_))));by_cases d:p<t.G.length
 .have f:t.G[p]? = some t.G[p]:=gE d;generalize t.G[p]=g at f;refine ay oo (aq (vh (lK (v:=.slice q.ga t.G.length q.gc) h.b rfl (rdG (f':=0) (v:=iv g.who) kf kr oo h.rg rfl f rfl λ_ _=>aT ?_))))
  have y:isG r P0 g=false->bT .add 3 (ci (p:Nat)) (ci 1) (λv s=>(∃p:Nat,v=ci (p:Nat)/\p<=t.G.length/\w=s/\∀j g,j<p->t.G[j]? = some g->isG r P0 g=false)/\t.G.length-(intOf v).toNat<D) w:=λA =>
   aR oo oo ⟨⟨p+1,ivS,d,rfl,λj z m a => by
    by_cases e:j=p
    .subst e;rw[f]at a;rw[<-Option.some.inj a];exact A
    .exact o j z oo a⟩,mD n⟩
  by_cases c:g.who=r
  .refine bU c (aq (vh (lK (v:=.slice q.ga t.G.length q.gc) h.b rfl (rdG (f':=1) (v:=u6 g.req) kf kr oo h.rg rfl f rfl λ_ _=>aT (bI c ?_)))));by_cases k:g.req=P0
   .exact ay k (u p g f (vR.2 ⟨c,k⟩) o)
   .exact ax k (y (Bool.eq_false_iff.2 λl=>k (vR.1 l).2))
  .exact cJ c (bw c (aA (y (Bool.eq_false_iff.2 λl=>c (vR.1 l).1))))
 .refine ax oo (GP (E λg C=>?_));obtain⟨j,m,e⟩:=List.getElem_of_mem C;exact o j g oo (by rw[gE m,e])
def zfX(h:TM w B t q)(E:t.F.length<=1000)(k:K (.bool (t.F.any (isG x r))) w):call Q 25 #[pB q.p,iv x,u6 r] K w:=by
 refine aj (goK func25) (JC ?_);refine GM (Inv:=λv o=>∃p:Nat,v=ci (p:Nat)/\p<=t.F.length/\w=o/\∀j g,j<p->t.F[j]? = some g->isG x r g=false) (μ:=mU t.F.length) ⟨0,rfl,qG _,rfl,λj g m=>by omega⟩ ?_;rintro _ D _ C ⟨p,rfl,G,rfl,s⟩ n;refine aq (Ih (lK (v:=.slice q.fa t.F.length q.fc) h.b rfl (bv underlying32 (aL ?_))));by_cases d:p<t.F.length
 .have f:t.F[p]? = some t.F[p]:=gE d;generalize t.F[p]=g at f;refine ay oo (aq (Ih (lK (v:=.slice q.fa t.F.length q.fc) h.b rfl (rdG (f':=0) (v:=iv g.who) kf kr oo h.rf rfl f rfl λ_ _=>aT ?_))))
  have u:isG x r g=false->bT .add 3 (ci (p:Nat)) (ci 1) (λv o=>(∃p:Nat,v=ci (p:Nat)/\p<=t.F.length/\w=o/\∀j g,j<p->t.F[j]? = some g->isG x r g=false)/\t.F.length-(intOf v).toNat<C) w:=λz =>
   aR oo oo ⟨⟨p+1,ivS,d,rfl,λj y m a => by
    by_cases e:j=p
    .subst e;rw[f]at a;rw[<-Option.some.inj a];exact z
    .exact s j y oo a⟩,mD n⟩
  by_cases c:g.who=x
  .refine bU c (aq (Ih (lK (v:=.slice q.fa t.F.length q.fc) h.b rfl (rdG (f':=1) (v:=u6 g.req) kf kr oo h.rf rfl f rfl λ_ _=>aT (bI c ?_)))));by_cases i:g.req=r
   .refine ay i ?_;rw[List.any_eq_true.2 ⟨g,mO f,vR.2 ⟨c,i⟩⟩]at k;exact k
   .exact ax i (u (Bool.eq_false_iff.2 λl=>i (vR.1 l).2))
  .exact cJ c (bw c (aA (u (Bool.eq_false_iff.2 λl=>c (vR.1 l).1))))
 .refine ax oo (GN ?_);rw[List.any_eq_false.2 λg A=>by
   obtain⟨j,m,e⟩:=List.getElem_of_mem A;rw[s j g oo (by rw[gE m,e])];exact Bool.false_ne_true]at k
  exact k
end
end
end
end Go.Proofs.YtpaghmnnhedccaaGreatDoor
