import Derived.Test.YtpaghmnnhedccaaGreatDoorQ7
set_option linter.all false
namespace Go.Proofs.YtpaghmnnhedccaaGreatDoor
set_option maxRecDepth 100000
set_option maxHeartbeats 4000000
open Go.Proofs.Tryz
open Go.RowKit
variable {w w' w2 S O:oG}{K:KV}{zf:Nat->oF}{b c o i g m s j f z d c2 D B' hi:Nat}{a av a2:Option Addr}{x v r:Int}{E t e:TypeId}{A:List Int}{B1 N R:KE}{vs:oE}{cx cy:Bool}{α κ:Type}{T:List (Int×Int)}{k':IntKind}{X1 Z1 N2 O2 P2 Q2 R2 T2 U2 H Z U Y J C:oF}
def AS(d e a b c:oF)(zf:oD):=d::zf 1::e::zT zf 3 24 (a::b::c::zT zf 30 42 ([]))
def vj(a b:oF)(zf:oD):=a::zf 1::b::zT zf 3 69 ([])
def AT(b a:oF)(zf:oD):=zf 0::zf 1::b::zT zf 3 54 (a::zT zf 58 14 ([]))
def AU(a:oF)(zf:oD):=zf 0::zf 1::a::zT zf 3 69 ([])
def fY(K:KV):KE:=kZ f54 [1,1,1,1] K
def qv(K:KV):KE:=ai Q (cd f54 (b1 122)) (fY K) (xx xf (fY K) 0) (rk f54 K)
def iB(K:KV):KE:=kZ f54 (b1 63) K
def qw(K:KV):KE:=ai Q (cd f54 (b1 250)) (iB K) (xx xf (iB K) 2) (rk f54 K)
def KX(h:alc Q 42 (λZ=>bT .eql 121 H (.pointer none) λm w=>cond m (ld Q 42 Z (λn=>sto Q 42 Z n λ_=>aY Q [(some 42,Z)] K) w) (sN H (λa=>sF 156 a 0 λb=>sL 35 b λh=>sN H λn=>sF 156 n 1 λc=>sL 35 c λd=>sN H λe=>sF 156 e 2 λf=>sL 38 f λg=>sti (bld Q 42 #[(0,h),(1,d),(2,g)]) λi=>sto Q 42 Z i λ_=>aU H λj=>ao Q 156 j 3 λk=>ld Q 148 k λl=>call Q 71 #[l] λU=>lN 187 U λY=>qv K (AS H Z U Y (ci 0) (zV (zV zu 7 [H,m]) 10 [H,a,b,h,H,n,c,d,H,e,f,g,i,H,j,k,l]))) w.drew)) w):Gives Q 54 #[H] w K:=au func54 kr (mpK h)
def Ix(Inv:oF->oG->Prop)(μ:oF->oG->Nat)(x:Inv J w)(y:∀(a:oF) (v:oD) (w:oG) (m:Nat),Inv a w->m=μ a w ->
  lS a Y (λc w=>cond c (aW Q 187 U a (λe=>ld Q 36 e λb w=>aF (λS w=>hF S 42 Z 3 λf=>hL S 39 f λg=>hN S H λi=>hF S 156 i 4 λj=>hL S 150 j λk=>hld S (lkp Q 150 k b false) λl=>hN S H λn=>hF S 156 n 5 λo=>hL S 151 o λp=>hld S (lkp Q 151 p b false) λq=>hld S (bld Q 83 #[(0,b),(1,l),(2,q)]) λr=>bM Q 39 1 #[(0,r)] (λs=>aX S λ_=>blt Q .append #[39,39] 39 #[false,false] #[g,s] λt=>aF λS w=>hF S 42 Z 3 λu=>sto Q 39 u t (λ_=>nC a λd w=>(Inv d w)/\((μ d w)<m)) w) w) w.drew) w) (fY K (vj H Z (zV v 27 [U,Y,a,c])) w)) w):qv K (AS H Z U Y J zf) w:=by refine lV (cd f54 (b1 244)) [(4,1),(29,24)] 29 zf x y ?_;intro z A;exact mpF
def Iz(h:aU H (λa=>ao Q 156 a 7 λb=>ld Q 152 b λc=>rng Q 152 c λZ=>qw K (AT U Z (zV (zV zf 0 [H]) 53 [H,a,b,c]))) w):fY K (vj H U zf) w:=mpK h
def Iy(Inv:oG->Prop)(μ:oG->Nat)(r:Inv w)(t:∀(o:oD) (w:oG) (m:Nat),Inv w->m=μ w ->
  nxt Q H false 0 (λa=>ext Q a 0 λb w=>cond b (ent Q H (λc=>ext Q c 1 λd=>alc Q 96 λn=>sto Q 96 n d λ_=>ao Q 42 Z 4 λe=>ld Q 40 e λf=>ld Q 96 n λg=>bM Q 40 1 #[(0,g)] λi=>blt Q .append #[40,40] 40 #[false,false] #[f,i] λj=>ao Q 42 Z 4 λk=>sto Q 40 k j λ_ w=>(Inv w)/\((μ w)<m)) w) (iB K (AU Z (zV o 57 [H,a,b])) w)) w):qw K (AT Z H zf) w:=by refine dC (cd f54 (b1 500)) (zr [(6,1),(58,10)]) kr (λq l=>Inv l) (λq l=>μ l) r ?_;intro p u s;have h:=t (zM zf (gd p) (zr [(6,1),(58,10)])) u _ s rfl;revert h;exact mpF
def IA(h:ao Q 42 H 4 (λa=>ld Q 40 a λb=>call Q 72 #[b,.func (.func 73) #[] #[]] λ_=>ld Q 42 H λc=>sto Q 42 H c λ_=>aY Q [(some 42,H)] K) w):iB K (AU H zf) w:=mpK h
attribute [irreducible] fY qv iB qw
def Iw(h:box Q 96 H (λa=>box Q 96 Z λe w=>aF (λS w=>hF S 96 a 0 λf=>hL S 3 f λg=>hF S 96 e 0 λi=>hL S 3 i λj=>hF S 96 a 1 λa=>hL S 36 a λb=>hF S 96 e 1 λc=>hL S 36 c λa=>call Q 75 #[g,j] (λk=>aX S λ_=>call Q 76 #[b,a] λa=>aF λ_=>bM Q 47 2 #[(0,k),(1,a)] λa=>aF λ_=>call Q 74 #[a] λd=>aF λ_=>K d) w) w.drew) w):Gives Q 73 #[H,Z] w K:=au func73 kr (mpK h)
def KU(h:alc Q 38 (λa=>bT .eql 121 H (.pointer none) λb w=>cond b (bld Q 38 #[] (λb=>sto Q 38 a b λ_=>aY Q [(some 38,a)] K) w) (aU H (λc=>ao Q 156 c 2 λd=>ld Q 38 d λe=>sto Q 38 a e λ_=>aY Q [(some 38,a)] K) w)) w):Gives Q 250 #[H] w K:=au func250 kr (mpK h)
def KW(h:bT .eql 121 H (.pointer none) (λd w=>cond d (K (ci 0) w) (aU H (λa=>ao Q 156 a 5 λb=>ld Q 151 b λc=>lkp Q 151 c Z false λa=>call Q 212 #[a,U] K) w)) w):Gives Q 164 #[H,U,Z] w K:=au func164 kr (mpK h)
def zaF(h:fl Q 161 none (λa=>bld Q 163 #[(0,a)] λb=>box Q 163 b K) w):Gives Q 39 #[] w K:=au func39 kr (mpK h)
def Il(c a e d b:oF)(zf:oD):=c::zT zf 1 3 (a::e::zf 6::d::zf 8::b::zT zf 10 38 ([]))
def Im(b e c a d:oF)(zf:oD):=b::zT zf 1 4 (e::zf 6::c::zf 8::a::zT zf 10 20 (d::zT zf 31 17 ([])))
def BS(a d b c:oF)(zf:oD):=a::zT zf 1 4 (d::zf 6::b::zT zf 8 22 (c::zT zf 31 17 ([])))
def Io(a c b:oF)(zf:oD):=a::zT zf 1 4 (c::zf 6::b::zT zf 8 40 ([]))
def te(K:KV):KE:=ai Q (cd f249 [1,1,1,1]) (rk f249 K) xf (rk f249 K)
def kO(K:KV):KE:=kZ f249 (b1 63) K
def nE(K:KV):KE:=kY f249 (b1 999) (kO K) (xx xf (kO K) 0) K
def tf(K:KV):KE:=ai Q (cd f249 (b1 1997)) (nE K) (xx xf (kO K) 0) (rk f249 K)
def SV(h:box Q 38 Y (λC=>box Q 54 J λZ=>bT .eql 126 H (.pointer none) λb w=>cond b (K (ci 2) w) (ao Q 54 Z 0 (λc=>ld Q 3 c λh=>ao Q 54 Z 1 λm=>ld Q 36 m λn=>bld Q 286 #[(0,h),(1,n)] λd=>alc Q 286 λU=>sto Q 286 U d λ_ w=>aF (λS w=>hN S H λe=>hF S 163 e 0 λf=>hL S 161 f λg=>hL S 286 U λi=>hld S (lkp Q 161 g i true) λa=>hld S (ext Q a 0) λj=>hld S (ext Q a 1) λk=>alc Q 54 (λl=>aX S λS=>sto Q 54 l j λ_=>aX S λ_=>te K (Il H C Z U k (zV (zV (zV (zV zu 1 [Y,J]) 6 [ci 0]) 8 [l]) 10 [H,b,c,h,m,n,d,a,H,e,f,g,i,a,j,k]))) w) w.drew) w)) w):Gives Q 249 #[H,Y,J] w K:=by refine au func249 kr <|rpT [1,1,1,1] (cd f249 [1,1,1,1]) (cd f249 []) ?_;revert h;delta te;generalize (cd f249 [1,1,1,1])=xc0;exact mpF
def PG(h:ld Q 54 H (λb=>call Q 68 #[b] λc=>un Q .not c λa w=>cond a (K (ci 1) w) (ld Q 38 Z (λd=>ld Q 54 H λe=>call Q 87 #[d,e] λf=>tf K (Im J H U Y f (zV (zV (zV zf 4 [Z]) 26 [a,b,c,a]) 31 [d,e,f]))) w)) w):te K (Il J Z H U Y zf) w:=by delta te;refine rpT [0,0,1,1,0,1] (cd f249 (b1 1997)) (cd f249 [1,1,1,1]) ?_;revert h;delta tf kO nE;generalize (cd f249 (b1 1997))=xc0;exact mpF
def PH(h:cond Y (nE K (BS J Z U Y (zV zf 9 [H])) w) (nE K (BS J Z U H (zV (zV zf 9 [H]) 34 [H])) w)):tf K (Im J Z U H Y zf) w:=by delta tf;revert h;exact mpF
def EK(h:cond Z (K (ci 14) w) (aU H (λb=>ao Q 163 b 0 λc=>ld Q 161 c λd=>lN 161 d λe=>bT .geq 3 e (ci 64) λa w=>cond a (K (ci 7) w) (kO K (Io H U Y (zV (zV zf 30 [Z]) 35 [a,H,b,c,d,e,a])) w)) w)):nE K (BS H U Y Z zf) w:=by delta nE;revert h;exact mpF
def PJ(h:aF (λS w=>hN S U λa=>hF S 163 a 0 λb=>hL S 161 b λc=>hL S 286 Z λd=>hL S 54 H λe=>fk Q 161 c d e (λ_=>K (ci 0)) w) w.drew):kO K (Io U H Z zf) w:=mpK h
attribute [irreducible] te kO nE tf
def Gb(b a t4 c:oF)(zf:oD):=b::zf 1::zf 2::a::t4::zT zf 5 15 (c::zT zf 21 46 ([]))
def Gc(b a t4:oF)(zf:oD):=b::zf 1::zf 2::a::t4::zT zf 5 62 ([])
def rZ(b a t4 c d:oF)(zf:oD):=b::zf 1::zf 2::a::t4::zT zf 5 29 (c::d::zT zf 36 31 ([]))
def Gd(d a t4 b c e f g:oF)(zf:oD):=d::zf 1::zf 2::a::t4::zT zf 5 5 (b::c::zT zf 12 22 (e::f::zT zf 36 22 (g::zT zf 59 8 ([]))))
def Ge(t4:oF)(zf:oD):=zT zf 0 4 (t4::zT zf 5 62 ([]))
def lY(K:KV):KE:=kZ f251 [1,1,1] K
def vA(K:KV):KE:=ai Q (cd f251 (b1 58)) (lY K) (xx xf (lY K) 0) (rk f251 K)
def iU(K:KV):KE:=kZ f251 [1,1,1,1] K
def vB(K:KV):KE:=ai Q (cd f251 (b1 122)) (iU K) (xx xf (iU K) 2) (rk f251 K)
def lZ(K:KV)(B1:KE):KE:=kY f251 (b1 1959) B1 (xx xf (iU K) 2) K
def rY(K:KV)(B1:KE):KE:=ai Q (cd f251 (b1 62671)) (lZ K B1) (xx (xx xf (iU K) 2) (lZ K B1) 3) (rk f251 K)
def Ru(h:box Q 38 U (λJ=>alc Q 54 λZ=>bT .eql 126 H (.pointer none) λd w=>cond d (bld Q 54 #[] (λa=>sto Q 54 Z a λ_=>aY Q [(some 54,Z),(none,cF)] K) w) (aU H (λa=>ao Q 163 a 0 λb=>ld Q 161 b λc=>rng Q 161 c λY=>vA K (Gb H J Z Y (zV (zV (zV (zV zu 1 [U]) 5 [cF]) 13 [H,d]) 16 [H,a,b,c]))) w)) w):Gives Q 251 #[H,U] w K:=au func251 kr (mpK h)
def Ow(Inv:oG->Prop)(μ:oG->Nat)(u:Inv w)(x:∀(r:oD) (w:oG) (m:Nat),Inv w->m=μ w ->
  nxt Q H false 0 (λb=>ext Q b 0 λc w=>cond c (ent Q H (λd=>ext Q d 0 λe=>ext Q d 1 λf=>alc Q 286 λa=>alc Q 54 λq=>sto Q 286 a e λ_=>sto Q 54 q f λ_=>ld Q 38 U λg=>ld Q 54 q λi=>call Q 87 #[g,i] λj w=>cond j (aF (λS w=>hN S Z λk=>hF S 163 k 0 λl=>hL S 161 l λn=>hL S 286 a λo=>blt Q .delete #[161,286] 0 #[false,false] #[n,o] (λ_ w=>(Inv w)/\((μ w)<m)) w) w.drew) ((Inv w)/\((μ w)<m))) w) (lY K (Gc Z U Y (zV r 20 [H,b,c])) w)) w):vA K (Gb Z U Y H zf) w:=by refine dC (cd f251 (b1 116)) (zr [(6,2),(21,13)]) kr (λt p=>Inv p) (λt p=>μ p) u ?_;intro s y v;have h:=x (zM zf (gd s) (zr [(6,2),(21,13)])) y _ v rfl;revert h;exact mpF
def Oy(h:ld Q 38 H (λU=>vB K (rZ Y H Z U (ci 0) zf)) w):lY K (Gc Y H Z zf) w:=mpK h
def Ox(Inv:oF->oG->Prop)(μ:oF->oG->Nat)(B:Inv T2 w)(D:∀(a:oF) (y:oD) (w:oG) (m:Nat),Inv a w->m=μ a w ->
  bT .lss 3 a (ci 6) (λg w=>cond g (idx Q 38 Y a (λe=>nC a λj=>bT .add 36 e (cu 1) λl=>bld Q 286 #[(0,j),(1,l)] λn=>alc Q 286 λZ=>sto Q 286 Z n λ_ w=>aF (λS w=>hN S H λo=>hF S 163 o 0 λp=>hL S 161 p λq=>hL S 286 Z λr=>hld S (lkp Q 161 q r true) λf=>hld S (ext Q f 0) λs=>hld S (ext Q f 1) λd=>alc Q 54 (λU=>aX S λS=>sto Q 54 U s λ_=>aX S λ_ w=>aM d true (λv=>ld Q 38 J (λt=>ld Q 54 U λu=>call Q 88 #[t,u] λx=>v [t,u,x]) w) (λk=>k [uu,uu,uu] w) λb=>pick d (gd b 2) cF λc=>rY K (λi O=>(Inv (gd i 35) O)/\((μ (gd i 35) O)<m)) (Gd H J N2 Z U Y a c (zV (zV (zV y 8 [a,e]) 12 [d]) 36 [g,a,e,a,j,e,l,n,f,H,o,p,q,r,f,s,d,d,d,gd b 0,gd b 1,gd b 2]))) w) w.drew) w) (iU K (Ge N2 (zV (zV (zV y 0 [H]) 3 [J]) 34 [Y,a,g])) w)) w):vB K (rZ H J N2 Y T2 zf) w:=by refine dC (cd f251 (b1 244)) (zr [(5,1),(8,5),(35,31)]) kr (vP [35] Inv) (vQ [35] μ) B ?_;intro z A C;have h:=D _ (zM zf (gd z) (zr [(5,1),(8,5),(35,31)])) A _ C rfl;refine Eq.mp (qH (λc=>ai Q c _ _ _ _ A) (by kernel_rfl:(rep (b1 463) (cd f251 (b1 62671)) (cd f251 (b1 244)))=(cd f251 (b1 244)))) ?_;revert h;delta rY lZ;generalize (cd f251 (b1 62671))=xc0;exact mpF
def DL(h:cond Y (aF (λS w=>hN S J λa=>hF S 163 a 0 λb=>hL S 161 b λc=>hL S 286 Z λd=>blt Q .delete #[161,286] 0 #[false,false] #[c,d] (λ_=>ld Q 54 U λe=>sto Q 54 H e λ_=>aY Q [(some 54,H),(none,cT)] K) w) w.drew) (lZ K B1 (rZ J Z1 H C T2 (zV (zV zf 10 [Z,U]) 58 [Y])) w)):rY K B1 (Gd J Z1 H Z U C T2 Y zf) w:=by delta rY;revert h;exact mpF
def Oz(h:bld Q 54 #[] (λa=>sto Q 54 H a λ_=>aY Q [(some 54,H),(none,cF)] K) w):iU K (Ge H zf) w:=mpK h
def DM(h:nC U (λa=>B1 (rZ Y J H Z a (zV zf 65 [a]))) w):lZ K B1 (rZ Y J H Z U zf) w:=by delta lZ;revert h;exact mpF
attribute [irreducible] lY vA iU vB lZ rY
def RL(h:bT .geq 3 H (ci 1) (λb w=>aM b true (λb=>bT .leq 3 H (ci 6) (λc=>b [H,c]) w) (λk=>k [uu,uu] w) λa=>pick b (gd a 1) cF K) w):Gives Q 222 #[H] w K:=au func222 kr (mpK h)
def LT(b a:oF)(zf:oD):=zf 0::b::zT zf 2 26 (a::zT zf 29 44 ([]))
def LU(b a:oF)(zf:oD):=zf 0::b::zT zf 2 50 (a::zT zf 53 20 ([]))
def WB(zf:oD):=zT zf 0 73 ([])
def sQ(K:KV):KE:=kZ f201 [1,1,1] K
def vV(K:KV):KE:=ai Q (cd f201 [1,1,0,1]) (sQ K) xf (rk f201 K)
def vW(K:KV):KE:=ai Q (cd f201 (b1 471)) (sQ K) (xx xf (sQ K) 0) (rk f201 K)
def LW(h:box Q 282 Z (λH=>ao Q 282 H 1 λe=>ld Q 3 e λx=>call Q 222 #[x] λy=>un Q .not y λq w=>aM q false (λA=>ao Q 282 H 2 (λz=>ld Q 3 z λe=>call Q 222 #[e] λf=>un Q .not f λt=>A [z,e,f,t]) w) (λk=>k [uu,uu,uu,uu] w) λc=>pick q cT (gd c 3) λf w=>aM f false (λr=>ao Q 282 H 1 (λa=>ld Q 3 a λg=>ao Q 282 H 2 λi=>ld Q 3 i λj=>bF .eql 3 g j λu=>r [a,g,i,j,u]) w) (λk=>k [uu,uu,uu,uu,uu] w) λa=>pick f cT (gd a 4) λd w=>aM d false (λs=>ao Q 282 H 3 (λl=>ld Q 38 l λm=>call Q 82 #[m] λn=>un Q .not n λv=>s [l,m,n,v]) w) (λk=>k [uu,uu,uu,uu] w) λb=>pick d cT (gd b 3) λo w=>cond o (K cF w) (ao Q 282 H 0 (λp=>ld Q 5 p λU=>vV K (LT H U (zV (zV (zV zu 0 [Z]) 2 [cF]) 4 [e,x,y,q,q,gd c 0,gd c 1,gd c 2,gd c 3,f,f,gd a 0,gd a 1,gd a 2,gd a 3,gd a 4,d,d,gd b 0,gd b 1,gd b 2,gd b 3,o,p]))) w)) w):Gives Q 201 #[Z] w K:=by refine au func201 kr <|rpT [1,1,0,1] (cd f201 [1,1,0,1]) (cd f201 []) ?_;revert h;delta vV sQ;generalize (cd f201 [1,1,0,1])=xc0;exact mpF
def IU(h:bT .eql 5 Z (cb 1) (λa w=>cond a (ao Q 282 H 4 (λu=>ld Q 30 u λv=>call Q 223 #[v,.func (.func 224) #[] #[]] λx=>un Q .not x λb w=>aM b true (λr=>ao Q 282 H 4 (λc=>ld Q 30 c λd=>lN 30 d λe=>bT .leq 3 e (ci 16) λy=>r [c,d,e,y]) w) (λk=>k [uu,uu,uu,uu] w) λo=>pick b (gd o 3) cF λf w=>aM f true (λs=>ao Q 282 H 5 (λg=>ld Q 36 g λi=>bT .eql 36 i (cu 0) λz=>s [g,i,z]) w) (λk=>k [uu,uu,uu] w) λp=>pick f (gd p 2) cF λj w=>aM j true (λt=>ao Q 282 H 6 (λl=>ld Q 2 l λm=>bT .eql 2 m (ci 0) λA=>t [l,m,A]) w) (λk=>k [uu,uu,uu] w) λq=>pick j (gd q 2) cF K) w) (bT .eql 5 Z (cb 2) (λn=>vW K (LU H n (zV (zV zf 28 [Z,a,a]) 53 [n]))) w)) w):vV K (LT H Z zf) w:=by delta vV;refine rpT [0,1,1,1] (cd f201 (b1 471)) (cd f201 [1,1,0,1]) ?_;revert h;delta vW;generalize (cd f201 (b1 471))=xc0;exact mpF
def Tl(h:cond Z (ao Q 282 H 4 (λr=>ld Q 30 r λs=>lN 30 s λt=>bT .eql 3 t (ci 0) λa w=>aM a true (λo=>ao Q 282 H 5 (λb=>ld Q 36 b λc=>bT .neq 36 c (cu 0) λu=>o [b,c,u]) w) (λk=>k [uu,uu,uu] w) λl=>pick a (gd l 2) cF λd w=>aM d true (λp=>ao Q 282 H 6 (λe=>ld Q 2 e λf=>bT .geq 2 f (ci 1) λv=>p [e,f,v]) w) (λk=>k [uu,uu,uu] w) λm=>pick d (gd m 2) cF λg w=>aM g true (λq=>ao Q 282 H 6 (λi=>ld Q 2 i λj=>bT .leq 2 j (ci 1125899906842624) λx=>q [i,j,x]) w) (λk=>k [uu,uu,uu] w) λn=>pick g (gd n 2) cF K) w) (sQ K (WB (zV (zV zf 1 [H]) 52 [Z])) w)):vW K (LU H Z zf) w:=by delta vW;revert h;exact mpF
attribute [irreducible] sQ vV vW
def Tk(h:box Q 54 H (λa=>ld Q 54 a λb=>call Q 68 #[b] λa=>un Q .not a K) w):Gives Q 224 #[H] w K:=au func224 kr (mpK h)
def wj(h:call Q 248 #[H,Z] (λa=>bT .geq 3 a (ci 0) K) w):Gives Q 223 #[H,Z] w K:=au func223 kr (mpK h)
def pp(s0 a b c:oF)(zf:oD):=s0::a::zT zf 2 5 (b::c::zT zf 9 10 ([]))
def pw(zf:oD):=zT zf 0 19 ([])
def cE(K:KV):KE:=kZ f248 [1,1] K
def gl(K:KV):KE:=ai Q (cd f248 [1,0,1,0]) (cE K) (xx xf (cE K) 0) (rk f248 K)
def xw(h:lN 30 H (λZ=>gl K (pp H U Z (ci 0) (zV (zV zu 4 [ci 0]) 6 [H]))) w):Gives Q 248 #[H,U] w K:=au func248 kr (mpK h)
def wo(Inv:oF->oG->Prop)(μ:oF->oG->Nat)(f:Inv Y w)(g:∀(a:oF) (e:oD) (w:oG) (m:Nat),Inv a w->m=μ a w ->
  lS a H (λd w=>cond d (aW Q 30 Z a (λb=>ld Q 54 b λb=>bA Q U #[b] λc w=>cond c (K a w) (nC a (λb w=>(Inv b w)/\((μ b w)<m)) w)) w) (cE K (pw (zV (zV e 0 [Z,U]) 7 [H,a,d])) w)) w):gl K (pp Z U H Y zf) w:=by refine lV (cd f248 (b1 52)) [(4,2),(8,11)] 8 zf f g ?_;intro i j;exact mpF
def wu(h:K (ci (-1)) w):cE K (pw zf) w:=mpK h
attribute [irreducible] cE gl
def Yq(h:box Q 38 H (λc w=>aF (λS w=>hL S 38 c λa=>call Q 80 #[.func (.func 100) #[] #[]] (λb=>aX S λ_=>call Q 99 #[a,b] λb=>aF λ_=>K b) w) w.drew) w):Gives Q 82 #[H] w K:=au func82 kr (mpK h)
def VM(h:K (cu 1099511627776) w):Gives Q 100 #[H] w K:=au func100 kr (mpK h)
def Ye(h:bld Q 166 #[] (λa=>box Q 166 a K) w):Gives Q 40 #[] w K:=au func40 kr (mpK h)
def SU(h:bT .geq 3 H (ci 1) (λb w=>aM b true (λb=>bT .leq 3 H (ci 6) (λc=>b [H,c]) w) (λk=>k [uu,uu] w) λa=>pick b (gd a 1) cF K) w):Gives Q 244 #[H] w K:=au func244 kr (mpK h)
def N8{v2:oF}(h:box Q 38 v2 (λp=>bT .eql 128 H (.pointer none) λo w=>cond o (K (ci 2) w) (call Q 244 #[Z] (λa=>un Q .not a λa w=>cond a (K (ci 10) w) (aF (λS w=>hld (λ_=>True) (bT .sub 3 Z (ci 1)) λb=>hld (λ_=>True) (bT .sub 3 Z (ci 1)) λc=>hN S H λd=>hF S 166 d 0 λe=>hI S 164 e c λf=>hL S 38 f λg=>hL S 38 p λi=>hN S H λl=>hF S 166 l 0 λm=>bM Q 252 2 #[(0,g),(1,i)] (λj=>aX S λS=>call Q 119 #[j] λk=>aX S λS w=>hI S 164 m b λn=>sto Q 38 n k (λ_=>K (ci 0)) w) w) w.drew)) w)) w):Gives Q 226 #[H,Z,v2] w K:=au func226 kr (mpK h)
def PE(h:alc Q 38 (λa=>bT .eql 128 Z (.pointer none) λj w=>aM j false (λm=>call Q 244 #[H] (λl=>un Q .not l λa=>m [H,l,a]) w) (λk=>k [uu,uu,uu] w) λi=>pick j cT (gd i 2) λb w=>cond b (bld Q 38 #[] (λc=>sto Q 38 a c λ_=>aY Q [(some 38,a)] K) w) (bT .sub 3 H (ci 1) (λb=>aU Z λd=>ao Q 166 d 0 λe=>aW Q 164 e b λf=>ld Q 38 f λg=>sto Q 38 a g λ_=>aY Q [(some 38,a)] K) w)) w):Gives Q 167 #[Z,H] w K:=au func167 kr (mpK h)
def LG(h:bT .eql 128 H (.pointer none) (λa w=>cond a (K cN w) (call Q 167 #[H,Y] (λa=>call Q 243 #[Z,a,U] K) w)) w):Gives Q 219 #[H,Y,Z,U] w K:=au func219 kr (mpK h)
def noJ(E:List EV):Prop:=∀e∈E,e.k≠6/\e.k≠7
def ZC{x:GR}:∀{G:List GR},(ky x G).length=G.length+1
 | []=>rfl
 | y::G=>by
  unfold ky;split
  .rfl
  .rw[oZ,ZC,oZ]
def LK.same{n:Nat}{E:List EV}{l m:PL}(h:LK n E l)(k:LK n E m)(a:l.V=m.V):l=m:=by rw[h.st,k.st];unfold kV;rw[a]
def cnE(E:List EV)(V:List Int):Nat:=E.countP λf=>decide (f.s<=V.getD f.q 0)
def Fy(T:List (List (EV×Int)))(e:EV)(c:Int):List (List (EV×Int)):=T.set e.q (T.getD e.q []++[(e,c)])
def JS(T:List (List (EV×Int)))(c:Int)(F:List EV):List (List (EV×Int)):=F.zipIdx.foldl (λT p=>Fy T p.1 (c+(p.2:Nat))) T
def Uc{T:List (List (EV×Int))}{c:Int}{F:List EV}{e:EV}:JS T c (F++[e])=Fy (JS T c F) e (c+(F.length:Nat)):=by unfold JS;rw[List.zipIdx_append,List.foldl_append];simp
def xO(A:List EV)(q:Nat):List (EV×Int):=(A.zipIdx.filter λp=>decide (p.1.q=q)).map λp=>(p.1,(p.2:Int))
def yp(A:List EV):List (List (EV×Int)):=(List.range 6).map (xO A)
def ze0{A:List EV}{e:EV}{q:Nat}:xO (A++[e]) q=if e.q=q then xO A q++[(e,(A.length:Int))]else xO A q:=by
 unfold xO;rw[List.zipIdx_append,List.filter_append,jJ];by_cases h:e.q=q
 .rw[oJ h];simp[h]
 .rw[oI h];simp[h]
def NJ{A:List EV}{q:Nat}(h:q<6):(yp A)[q]? = some (xO A q):=by unfold yp;rw[qC,List.getElem?_range h];rfl
def VE{A:List EV}{e:EV}(h:e.q<6):yp (A++[e])=Fy (yp A) e (A.length:Nat):=by
 have b:∀A,(yp A).length=6:=λA=>by simp[yp]
 unfold Fy;rw[oN,NJ h,Option.getD_some];refine List.ext_getElem? λq=>?_;by_cases c:q<6
 .rw[NJ c,ze0,List.getElem?_set,b];by_cases a:e.q=q
  .rw[oJ a,oJ a,oJ h,a]
  .rw[oI a,oI a,NJ c]
 .rw[jD (by rw[b];omega),jD (by rw[qN,b];omega)]
def zcy{A:List EV}:∀{F:List EV},(∀e∈F,e.q<6)->yp (A++F)=JS (yp A) (A.length:Nat) F:=by
 intro F;generalize a:F.length=m
 induction m generalizing F with
 | zero=>intro _;rw[List.eq_nil_of_length_eq_zero a,oW];rfl
 | succ m ih =>
  intro h;rcases List.eq_nil_or_concat F with rfl|⟨F',e,rfl⟩
  .simp at a
  .rw[List.concat_eq_append]at a h |-;have b:F'.length=m:=by simpa using a
   rw[Uc, <-ih b λx c=>h x (List.mem_append_left _ c), <-jE,VE (h e oB),oT];push_cast;rfl
structure zkQ(E A:List EV) (l:PL):Prop where
 mem:∀f,f∈A↔f∈E/\f.s<=l.V.getD f.q 0
 nd:A.Nodup
 inc:A.Pairwise λa b=>a.q=b.q->a.s<b.s
 ord:∀X e Y,A=X++e::Y->∀f∈E,f.s<=Pb e f.q->f∈X
def ChE(E:List EV)(P:List Int)(L:List EV):Prop:=∀X e Y,L=X++e::Y->e∈E/\∀f∈E,f.s<=Pb e f.q->f.s<=P.getD f.q 0\/f∈X
section
variable {n:Nat}{E A:List EV}{l l':PL}{W W':HM}{e:EV}{P:List Int}{L F:List EV}
def my(V:List Int)(W:HM)(E:List EV):HM:=E.foldl (Qb V) W
end
section
attribute [local irreducible] bin un conv call bA blt slc ao fld aW idx lkp fk mW eSt rng nxt ent ext alc box bld bM ld sto aU fl mkS ifc pick rdy wts aM sti cond aY Gives ai iy ke cOp
section
open Go.ChangeMaps
def zb8{g:List Int->Int}{N:List ND}:∀{P:List Int} {k:Nat} {id:Int},P[k]? = some id->(∀j y,j<k->P[j]? = some y->g (aN N y)=0)->g (aN N id)≠0->CA g N P=g (aN N id)
 | [],_,_,h,_,_=>by simp at h
 | y::P,0,id,h,_,hn=>by
  simp at h;subst h;unfold CA;rw[oJ hn]
 | y::P,k+1,id,h,h0,hn=>by
  unfold CA;rw[oI (by rw[h0 0 y oo rfl];simp)];exact zb8 (by simpa using h) (λj z b a=>h0 (j+1) z oo (by simpa using a)) hn
def zbV{a b:List Int}(h:∀y,y∈a↔y∈b):dT a c x=dT b c x:=by
 funext y;by_cases d:y.id∈a
 .rw[BI d,BI ((h _).1 d)]
 .rw[zD d,zD (λe=>d ((h _).2 e))]
def zaH{s:PL}(hi:PI s)(id:Int):(cB s.N id).Nodup:=by obtain⟨f,c⟩:=hi.tk;exact(NF c _ _).imp λ{a b} d e=>by subst e;omega
section
variable {q:LB}{s:PL}
def zer{y:Nat}{P:List Int}{f:List Int->List Int×Int}(hz:blk w z 121 [pB q.p])(hy:blk w y 151 [.map (some b)])(hf:MB u6 rgV w b (P.map λa=>(a,(f (aN s.N a)).1)))(aa:z∉q.l)(X:b∉q.l)(h:PM w q s)(hi:PI s)(hP:∀id∈P,cK s.N id=true/\(f (aN s.N id)).1=(aN s.N id).set c (nA (aN s.N id) c+x))(hl:∀A,A.length=54->(f A).1.length=54)(d:∀w',PM w' q {s with N:=s.N.map (dT P c x)}->Ch q.wv w w'->K (.tuple #[]) w'):call Q 327 #[pB y,pB z] K w:=by
 have B:=h.lt;have C:q.rm∈q.l:=by simp[LB.l]
 refine aj (goK func327) (IB (lK (v:=.map (some b)) hy rfl (Ql underlying151 hf λw1 ab T s1=>?_)));have ag:=hf.lt;have F:b≠q.rm:=λe=>X (e ▸ C);have H:w.heap.size≠q.rm:=λe=>by have:=B _ C;omega
 refine FH (Inv:=λE=>∃a,IT u6 rgV E w.heap.size b (P.map λa=>(a,(f (aN s.N a)).1)) a/\PM E q {s with N:=s.N.map (dT a c x)}/\blk E z 121 [pB q.p]/\Ch q.wv w E/\w.heap.size+1<=E.heap.size) (μ:=λE=>iV E b w.heap.size)
  ⟨[],ab,by rw[YL];exact h.below T,ae T hz hz.lt,Ch.of_below T,by omega⟩ ?_
 rintro dd w2 m ⟨a,M,p2,z2,c2,s2⟩ hm;refine PW M oo (λn=>?_) λid v w3 I Z i W S af=>?_
 .refine sU rfl (aA (d w2 ?_ c2));have o:=M.nodup.2.2;rw[jH]at n o;have e:∀y,y∈a↔y∈P:=λy=>⟨λj=>by simpa using o y j,λj=>n y (by simpa using j)⟩
  rw[<-zbV e];exact p2
 .obtain⟨g,G,V⟩:=qU.1 I;simp only[Prod.mk.injEq]at V;obtain⟨rfl,rfl⟩:=V;obtain⟨j,J⟩:=hP g G;have L:=hl _ (Mu hi g);refine sU rfl (aV (Ph W (bo (bj (De λw4 r4 U s4=>Bb rfl L r4 λw5 r5 o5=>?_)))));have s3:=S.size;have Y:w.heap.size∉q.l:=λj=>by have:=B _ j;omega
  have p3:=p2.oth S Y;have z3:=S.blk z2 (by have:=hz.lt;omega);have p5:=((p3.below U).oth o5 λj=>by have:=B _ j;omega).drew;have z5:=(o5.blk (ae U z3 z3.lt) (by have:=z3.lt;omega)).drew;have t:Ch [w3.heap.size] w3 w5:=(Ch.of_below U:Ch [w3.heap.size] w3 w4).trans (Ch.of_oth o5 oB:Ch [w3.heap.size] w4 w5) (λx a=>.inl a)
  have c3:Ch q.wv w w3:=c2.trans (Ch.of_oth S oB:Ch [w.heap.size] w2 w3) oB;have c5:Ch q.wv w w5.drew:=(c3.trans t (by
   intro k O;have O:k=w3.heap.size:=by simpa using O
   exact .inr oo)).trans (Ch.of_below (jU _ w5).drew:Ch [] w5 w5.drew) oB
  have s5:=t.size;have R:∀k,k<w3.heap.size->w5.drew.heap[k]? = w3.heap[k]? := λk O=>(t.block k O (by simp;omega))
  have ad:IT u6 rgV w5.drew w.heap.size b _ (a++[g]):=i.kept (R _ i.lt.2) (R _ i.lt.1);refine aw (λu=>PM u q {s with N:=s.N.map (dT a c x)}/\blk u z 121 [pB q.p]/\blk u w3.heap.size 81 ((f (aN s.N g)).1.map iv)) ⟨p5,z5,r5.drew⟩ ?_;refine ac (λu r _=>lK (v:=pB q.p) r.2.1 rfl) (hZ (hW wP ?_))
  refine ac (λu r _=>lK (v:=.map (some q.rm)) r.1.b (by rw[oK];exact r.1.c20)) <|ac (λu r _=>uU L r.2.2) ?_;refine p5.put_c hi Z j J λw6 p6 D=>⟨⟨a++[g],?_,p6,?_,?_,by rw[D.size];show _<=w5.heap.size;omega⟩,?_⟩
  .exact ad.kept (D.other _ F) (D.other _ H)
  .exact D.blk z5 λe=>aa (e ▸ C)
  .exact c5.trans (Ch.of_oth D oB:Ch [q.rm] w5.drew w6) (by simp[LB.wv])
  .rw[hm];have V:iV w6 b w.heap.size=iV w3 b w.heap.size:=xd ((D.other _ F).trans (R _ i.lt.2)) ((D.other _ H).trans (R _ i.lt.1));omega
def ZY{node:Int}{f:List Int->List Int×Int}(h:PM w q s)(hi:PI s)(hl:∀A,A.length=54->(f A).1.length=54)(Y:∀A,(f A).2=0->(f A).1=A.set c (nA A c+x))(L:∀A,A.length=54->∀w1,Below w.heap.size w w1->∀K':KV,(∀w2,Below w1.heap.size w1 w2->K' (.tuple #[rgV (f A).1,ci (f A).2]) w2)->bA Q X1 #[rgV A] K' w1)(no:∀w',CA (λA=>(f A).2) s.N (cB s.N node)≠0->Below w.heap.size w w'->K (.tuple #[.nilFunc,ci (CA (λA=>(f A).2) s.N (cB s.N node))]) w')(ac:CA (λA=>(f A).2) s.N (cB s.N node)=0->∀w' fv,fv.oneCell'=true->Below w.heap.size w w'->zif w' q {s with N:=s.N.map (dT (cB s.N node) c x)} fv->K (.tuple #[fv,ci 0]) w'):call Q 314 #[pB q.p,u6 node,X1] K w:=by
 have ak:=h.lt;obtain⟨rk,an⟩:=hi.tk;have ar:=hi.len30;have J:=hi.plen node;have G:=zaH hi node;have C:∀id∈cB s.N node,cK s.N id=true:=λid=>rA;refine aj (goK func314) (KY (bu λw1 h1 b1 s1=>wZ underlying151 rfl u6 rgV λw2 m2 b2 s2=>bO (z:=.map none) kr λw3 h3 b3 s3=>?_));have h1:=cZ h1
 have h3:=cZ h3
 refine cq kf h3 (by show 0<1;decide) rfl λw4 T o4=>?_;have T:blk w4 w2.heap.size 151 [.map (some w1.heap.size)]:=T;have B:Below w.heap.size w w4:=fR (b1.trans ((b2.mono oo).trans (b3.mono oo))) o4 oo;have z4:blk w4 w.heap.size 121 [pB q.p]:=o4.blk (ae b3 (ae b2 h1 h1.lt) oo) oo;have m4:=(m2.below b3).oth o4 oo
 have p4:=h.below B;have s4:w4.heap.size=w.heap.size+3:=by rw[o4.size];omega
 rw[show w2.heap.size=w.heap.size+2 by omega]at T |-;rw[s1]at T m4;refine lK (v:=pB q.p) z4 rfl (aq (BO (lK (v:=pB q.t) p4.b (by rw[oK];exact p4.c18) ?_)));refine Rd an p4.tm (by rw[Xe];omega) λw5 a ca ho S=>bv underlying187 ?_;change World.ownsRow w5 w4.heap.size _ 1 (.slice a (cB s.N node).length ca) (cB s.N node).length ((cB s.N node).map u6)at ho;show mJ K _ w5
 obtain⟨P,W⟩:∃P,P=cB s.N node:=⟨_,rfl⟩
 have X:eA (tr s.N) node=P:=by rw[W];rfl
 rw[X];rw[<-W]at J G C no ac ho;have r:IdR w5 w4.heap.size a ca P:=IdR.own ho rfl;have nz:∀b,w.heap.size<=b->b∉q.l:=λb U hh=>by have:=ak _ hh;omega
 refine IC (Inv:=λi R=>∃k:Nat,i=iv (k:Nat)/\k<=P.length/\PM R q s/\blk R w.heap.size 121 [pB q.p]/\blk R (w.heap.size+2) 151 [.map (some (w.heap.size+1))] /\
   MB u6 rgV R (w.heap.size+1) ((P.take k).map λa=>(a,(f (aN s.N a)).1))/\IdR R w4.heap.size a ca P/\Below w.heap.size w R/\(∀j y,j<k->P[j]? = some y->(f (aN s.N y)).2=0)/\w.heap.size+3<=R.heap.size)
  (μ:=mU P.length) ⟨0,rfl,qG _,p4.below S,ae S z4 z4.lt,ae S T T.lt,m4.below S,r,tB B S,λj y a=>by omega,by have:=S.size;omega⟩ ?_
 rintro _ dd w6 m ⟨k,rfl,au,p6,V,y6,m6,aa,n,hz,av⟩ hm;refine aL ?_;by_cases d:k<P.length
 .refine ay oo (aa.at2 d λpt=>?_);have M:P[k]? = some P[k]:=gE d;generalize P[k]=id at M |-;have ap:id∈P:=mO M;refine lK (v:=pB q.p) V rfl (aq (wP (lK (v:=.map (some q.rm)) p6.b (by rw[oK];exact p6.c20) ?_)))
  refine p6.rg_l hi (L _ (Mu hi id) w6 n _ λw7 D=>bo (bj (De λw8 r8 b8 s8=>Bb rfl (hl _ (Mu hi id)) r8 λw9 r9 O=>aZ ?_)));have o:=tB D b8;have E:Below w.heap.size w w9:=fR (tB n o) O (by have:=D.size;omega);have s7:=D.size;by_cases H:(f (aN s.N id)).2≠0
  .refine ay H ?_;have ee:=zb8 (g:=λA=>(f A).2) M hz H
   have:=no w9 (by rw[ee];exact H) E
   rwa[ee]at this
  have H:(f (aN s.N id)).2=0:=by simpa using H
  have z9:=O.blk (ae o V V.lt) (by have:=V.lt;omega);have y9:=O.blk (ae o y6 y6.lt) (by have:=y6.lt;omega);have m9:=(m6.below o).oth O (by have:=m6.lt;omega);have p9:=(p6.below o).oth O (nz _ oo)
  refine ax (by simp[H]) (lK (v:=.map (some (w.heap.size+1))) y9 rfl (uU (hl _ (Mu hi id)) r9 (vT (v:=(f (aN s.N id)).1) u6K underlying151 m9 λao ab u=>aR oo oo ?_)));have I:dA ((P.take k).map λa=>(a,(f (aN s.N a)).1)) id=none:=by
   rw[wy,jH];intro hh;obtain⟨y,Z,e⟩:=qU.1 hh;have e:y=id:=e;subst e;obtain⟨i,ag,e2⟩:=List.getElem_of_mem Z;rw[List.getElem_take]at e2;have ah:i<k:=by simp at ag;omega
   have:=(List.pairwise_iff_getElem.1 G) i k oo d ah
   rw[gE d]at M;exact this (e2.trans (Option.some.inj M).symm)
  rw[yY I]at ab;have ad:P.take (k+1)=P.take k++[id]:=by rw[List.take_add_one,M];rfl
  refine⟨⟨k+1,ivS,d,p9.oth u (nz _ oo),u.blk z9 oo,u.blk y9 oo,by rw[ad,jJ];exact ab,?_,fR E u oo,λj y hj Z=>?_,by rw[u.size,O.size];omega⟩,mD hm⟩
  .have am:∀g cs,blk w9 g 36 cs->blk ao g 36 cs:=λg cs U=>u.blk U λe=>by
    subst e;obtain⟨es,cc,al⟩:=m9;exact Hz al.heap oB _ U
   refine((aa.below o).imp λg cs _ U=>O.blk U λe=>?_).imp λg cs _=>am g cs;subst e;exact qI (mG U r8) dc
  .by_cases e:j=k
   .subst e;rw[M]at Z;cases Z;exact H
   .exact hz j y oo Z
 .have ai:k=P.length:=by omega
  refine ax oo (ID ?_);have F:∀id∈P,(f (aN s.N id)).2=0:=λid r=>by
   obtain⟨j,hj,e⟩:=List.getElem_of_mem r;exact hz j id oo (by rw[gE hj,e])
  rw[ai,List.take_length]at m6;exact ac (Hs.2 F) w6 _ rfl n λw7 K2 D af=>bS rfl (zer (ae D V V.lt) (ae D y6 y6.lt) (m6.below D) (nz _ oo) (nz _ oo) (p6.below D) hi (λa r=>⟨C a r,Y _ (F a r)⟩) hl af)
end
def zev{R:List (List Int)}{k:Nat}(a:k<R.length):pT (R.set k (R.getD k []++[r])) j x=(pT R j x || (decide (j=k)&&decide (x=r))):=by
 unfold pT;rw[yQ a];by_cases h:j=k
 .subst h;rw[oJ rfl,Bool.eq_iff_iff];simp
 .rw[oI h];simp[h]
def zeX{G:List GR}{o f:Int}:lr (G.map (mj o f r)) o f=(lr G o f).map λg=>{g with b:=r}:=by
 unfold lr;rw[List.find?_map];have e:((λg:GR=>g.o==o&&g.q==f) ∘ mj o f r)=λg:GR=>g.o==o&&g.q==f:=by
  funext g;show ((mj o f r g).o==o&&(mj o f r g).q==f)=_;rw[(pb g).1,(pb g).2]
 rw[e];cases c:G.find? λg=>g.o==o&&g.q==f with
 | none=>rfl
 | some g =>
  have a:=List.find?_some c;rw[oM,beq_iff_eq,beq_iff_eq]at a;simp only[jP]
  congr 1
  unfold mj;rw[oJ a]
def zc8{s:PL}(hi:PI s){o:Int}(h:pT s.R (o-1).toNat r=false):lr s.G o r=none:=by
 cases d:lr s.G o r with
 | none=>rfl
 | some g =>
  obtain⟨c,a,b⟩:=yR d
  have:=(hi.gk g c).2.2.2.2.2.2
  rw[a,b,h]at this;cases this
section
variable {q:LB}{s:PL}{e:EV}
def PM.ask_c{o:Int}(h:PM w q s)(M:1<=o)(N:o<=6)(u:s.R.length=6)(t:∀S,PM S q {s with R:=s.R.set (o-1).toNat (s.R.getD (o-1).toNat []++[r])}->Oth q.am w S->K undef S):fk Q 153 (.map (some q.am)) (rqV (o,r)) (.bool true) K w:=by
 have a:=h.nd;obtain⟨m,x,y⟩:=h.am;refine vT (v:=true) rqK underlying153 x λL g c=>t L ?_ c;obtain⟨z,B,J,b,I,⟨C,F,l⟩,⟨D,G,n⟩,⟨E,H,p⟩,_,_,A⟩:=h;refine⟨z,B,J,c.blk b (LN.pa a),I.oth c (LN.ta a) (LN.da a),⟨C,F.oth c (LN.ma a),l⟩,⟨D,G.oth c (LN.ra a),n⟩,⟨E,H.oth c (LN.ga a),p⟩,⟨_,g,λi j d e=>?_⟩,a,A.keep (c.other 1 (LN.za a))⟩
 rw[Nw,y i j d e,zev (by rw[u];omega)];by_cases f:i=o/\j=r
 .obtain⟨rfl,rfl⟩:=f;simp
 .rw[oI (by simpa using f)]
  have:(decide ((i-1).toNat=(o-1).toNat)&&decide (j=r))=false:=by
   rw[Bool.eq_false_iff];intro k;rw[oM,oP,oP]at k;exact f ⟨by omega,k.2⟩
  rw[this,Bool.or_false]
def PM.gm_c{g:GR}{G':List GR}(h:PM w q s)(p:s.G.Pairwise ltG)(e:G'.Pairwise ltG)(hG:∀o r,lr G' o r=if (o,r)=(g.o,g.q)then some g else lr s.G o r)(l:∀S,PM S q {s with G:=G'}->Oth q.gm w S->K undef S):fk Q 152 (.map (some q.gm)) (rqV (g.o,g.q)) (grV g) K w:=by
 have a:=h.nd;obtain⟨m,f,n⟩:=h.gm;refine vT (v:=g) rqK underlying152 f λI d c=>l I ?_ c;obtain⟨t,x,H,b,F,⟨z,C,i⟩,⟨A,D,j⟩,_,⟨B,E,k⟩,_,u⟩:=h;refine⟨t,x,H,c.blk b (LN.pg a),F.oth c (LN.tg a) (LN.dg a),⟨z,C.oth c (LN.mg a),i⟩,⟨A,D.oth c (LN.rg a),j⟩,⟨_,d,?_⟩,⟨B,E.oth c (LN.ag a),k⟩,a,u.keep (c.other 1 (LN.zg a))⟩
 refine XH (CZ f.nodup) (N9 e) λy=>?_;obtain⟨o,r⟩:=y;rw[Nw,pk n (N9 p),Hw,Hw,hG]
def Jg{o:Int}(a:blk w b 190 [iv o,u6 r])(h:K (rqV (o,r)) w):ld Q 190 (pB b) K w :=
 ldA (n:=2) (vs:=[iv o,u6 r]) underlying190 rfl kr a rfl rfl h
def zhL{o:Int}{K2:oF->KV}(h:∀S,blk S w.heap.size 190 [iv o,u6 r]->Below w.heap.size w S->K2 (pB w.heap.size) undef S):alc Q 190 (λb=>sto Q 190 b (.agg [iv o,u6 r].toArray) (K2 b)) w:=by
 refine bO (z:=.agg #[iv 0,u6 0]) kr λf a c i=>?_;have a:blk f w.heap.size 190 [iv 0,u6 0]:=by simpa[Value.cells,iv,u6]using a
 exact eW (n:=2) kr rfl a oB (by simp[iv,u6,Value.oneCell']) λg d e=>h g (by simpa using d) (fR c e oA)
def zfU(d:A.length=54)(h:blk w (z+1) 54 (evC e))(n:nX w (K (.tuple #[rgV (xg A e.o e.a).1,ci (xg A e.o e.a).2]))):call Q 315 #[rgV A,pB (z+1)] K w:=by
 have j:=Vt (i:=e.o) (x:=e.a) d;refine aj (goK func315) (IQ (Vw λt k m r=>De λu l f s=>?_));have b:=m.trans (f.mono oo);have c:=ae b h h.lt;refine uU d (ae f k k.lt) (dO (lK (v:=iv e.o) c rfl (sX (lK (v:=iv e.a) c rfl ?_))));refine zhF d λy g=>bo (bj (Bb rfl j (ae g l l.lt) λB q p=>?_))
 exact ze (λ_=>uU j q) (n _ (fR (tB b g) p oo))
def zfV{x y:Nat}(g:LV w z q e)(hx:blk w x 209 [X1])(M:blk w y 190 [iv e.o,u6 e.r])(L:∀k∈q.l,k<z)(aa:z<=x)(O:z<=y)(hi:PI s)(hm:co e=true)(A:e.k=3)(j:pT s.R e.q e.r=false)(t:cK s.N e.n=true)(Z:∀K2:KV,(∀i,PM i q {s with N:=s.N.map (dT (cB s.N e.n) (6+e.q) e.a)}->Ch q.wv w i->K2 (.tuple #[]) i)->bA Q X1 #[] K2 w)(c:∀w',PM w' q (vK e s)->Ch q.wv w w'->K (.tuple #[]) w'):call Q 317 #[pB x,pB z,pB y,pB (z+1)] K w:=by
 have B:=fZ hm;have U:∀k∈q.wv,k<z:=λk A=>L k (LB.wl k A);have zn:∀b,z<=b->b∉q.wv:=λb hb t=>by have:=U b t;omega
 refine aj (goK func317) (IR (lK (v:=X1) hx rfl (Z _ λF D I=>?_)));have S:=(g.ch I λk A=>.inl (U k A)).drew;have V:=(M.ch I (zn _ O)).drew;have D:=D.drew;refine aw (λu=>LV u z q e/\blk u y 190 [iv e.o,u6 e.r]/\PM u q {s with N:=s.N.map (dT (cB s.N e.n) (6+e.q) e.a)}) ⟨S,V,D⟩ ?_;refine ac (λu d _=>lK (v:=pB q.p) d.1.l rfl) (hZ (hW MN ?_))
 refine ac (λu d _=>lK (v:=.map (some q.am)) d.2.2.b (by rw[oK];exact d.2.2.c28)) <|ac (λu d _=>Jg d.2.1) ?_;refine D.ask_c B.1 B.2.1 hi.r6 λw2 E P=>?_;have H:q.am<z:=L _ (by simp[LB.l]);have Y:q.gm<z:=L _ (by simp[LB.l]);have X:=(S.oth P (.inl H)).drew;have y2:=(P.blk V oo).drew;have E:=E.drew
 refine aw (λu=>LV u z q e/\blk u y 190 [iv e.o,u6 e.r]/\PM u q {s with N:=s.N.map (dT (cB s.N e.n) (6+e.q) e.a),R:=s.R.set (e.o-1).toNat (s.R.getD (e.o-1).toNat []++[e.r])}) ⟨X,y2,E⟩ ?_;refine ac (λu d _=>lK (v:=pB q.p) d.1.l rfl) (hZ (hW MM ?_));refine ac (λu d _=>lK (v:=.map (some q.gm)) d.2.2.b (by rw[oK];exact d.2.2.c27)) <|ac (λu d _=>Jg d.2.1) ?_
 refine hW dO (ac (λu d _=>lK (v:=iv e.o) d.1.e rfl) ?_);refine hW wO (ac (λu d _=>lK (v:=u6 e.r) d.1.e rfl) ?_);refine hW pY (ac (λu d _=>lK (v:=u6 e.n) d.1.e rfl) ?_);refine hW sX (ac (λu d _=>lK (v:=iv e.a) d.1.e rfl) ?_);refine ac (λu d _=>ck (vs:=grC ⟨e.o,e.r,e.n,e.a,0⟩) kr) ?_;have f:lr s.G e.o e.r=none:=zc8 hi j
 have C:(ky ⟨e.o,e.r,e.n,e.a,0⟩ s.G).Pairwise ltG:=KN hi.gs λy M t=>by
  have T:lr s.G y.o y.q≠none:=by
   unfold lr;intro hn
   have:=List.find?_eq_none.1 hn y M
   simp at this
  rw[t.1,t.2]at T;exact T f
 have h:(grL (ky ⟨e.o,e.r,e.n,e.a,0⟩ s.G)).Perm (grL s.G++[((e.o,e.r),⟨e.o,e.r,e.n,e.a,0⟩)]):=(insG_perm.map _).trans (List.perm_append_singleton _ _).symm;refine E.gm_c (g:=⟨e.o,e.r,e.n,e.a,0⟩) (G':=ky ⟨e.o,e.r,e.n,e.a,0⟩ s.G) hi.gs C (λo r=>?_) λi p3 o3=>c i ?_ ?_
 .have J:((grL s.G++[((e.o,e.r),(⟨e.o,e.r,e.n,e.a,0⟩:GR))]).map (·.1)).Nodup:=(h.map (·.1)).nodup_iff.1 (N9 C);show _=if (o,r)=(e.o,e.r)then _ else _
  rw[<-Hw,pk h J, <-yY (m:=grL s.G) (x:=(e.o,e.r)) (by rw[Hw];exact f),Nw, <-Hw]
 .rw[zgT A];exact p3
 .have W:Ch q.wv w w2:=(I.trans (Ch.of_below (jU _ F).drew:Ch [] F F.drew) oB).trans (Ch.of_oth P oB:Ch [q.am] F.drew w2) (by simp[LB.wv]);exact(W.trans (Ch.of_below (jU _ w2).drew:Ch [] w2 w2.drew) oB).trans (Ch.of_oth o3 oB:Ch [q.gm] w2.drew i) (by simp[LB.wv])
def zi3(h:PM w q s)(hi:PI s)(hm:co e=true)(hk:e.k=3)(kd:Kind w q s e K):call Q 304 #[pB q.p,.agg (evC e).toArray] K w:=by
 have ab:=kd.y;obtain⟨no,_⟩:=kd;obtain⟨ad,ho⟩:=ue hm;have J:=fZ hm;have aa:=h.lt;have g:pX e s=if pT s.R e.q e.r=true then 14 else if cK s.N e.n=false then 9 else CA (λA=>(xg A e.o e.a).2) s.N (cB s.N e.n):=by unfold pX;rw[oI oo,oI oo,oJ hk]
 refine aj (goK func304) (Le (LE.make λw1 G s1=>?_));have p1:=h.below G.bel;refine dO (lK (v:=iv e.o) G.e rfl (wO (lK (v:=u6 e.r) G.e rfl (ck (vs:=[iv e.o,u6 e.r]) kr (zhL λw2 O b2=>?_)))));have U:=(G.fresh b2).drew;have P:=(p1.below b2).drew;have O:=O.drew;have zy:w.heap.size+2<=w1.heap.size:=G.sz
 refine ah (λ_=>lK (v:=pB q.p) U.l rfl) (ah (λ_=>aq) (ah (λ_=>MN) ?_));refine ah (λ_=>lK (v:=.map (some q.am)) P.b (by rw[oK];exact P.c28)) (ah (λ_=>Jg O) (ah (λ_=>P.ask_l J.1 J.2.1) ?_));rw[show (e.o-1).toNat=e.q from rfl];cases i:pT s.R e.q e.r with
 | true =>
  rw[i,oJ rfl]at g
  have:=no _ (by rw[g];decide) U.bel
  rw[g]at this;exact aV this
 | false =>
 rw[i,oI oB]at g;have C:=U.drew;have p3:=P.drew;refine aA (aw (λu=>LE w u q e/\PM u q s) ⟨C,p3⟩ ?_);refine ac (λu j _=>lK (v:=pB q.p) j.1.l rfl) (hZ (hW BO ?_));refine ac (λu j _=>lK (v:=pB q.t) j.2.b (by rw[oK];exact j.2.c18)) ?_;refine hW pY (ac (λu j _=>lK (v:=u6 e.n) j.1.e rfl) ?_);refine VI p3.tm (hRT (ac (λu j _=>bc) ?_));rw[lu]
 cases hh:cK s.N e.n with
 | false =>
  rw[hh,oJ rfl]at g
  have:=no _ (by rw[g];decide) C.bel
  rw[g]at this;exact aV this
 | true =>
 rw[hh,oI oB]at g;refine aA (lK (v:=pB q.p) C.l rfl (pY (lK (v:=u6 e.n) C.e rfl ?_)));refine ZY (f:=λA=>xg A e.o e.a) (c:=6+e.q) (x:=e.a) p3 hi (λA I=>Vt I) (λA I=>zfS I) (λA I m E a V => bS rfl (zfU I (C.fresh E).e V)) (λm L E=>?_) λh0 m fv Z E Y=>?_
 .have H:=C.fresh E;refine bo (bj (bO (z:=.nilFunc) kr λw5 D S s5=>?_));have D:=cZ D
  refine cq kf D oB rfl λw6 M o6=>yX (aZ (ay L ?_))
  have:=no w6 (by rw[g];exact L) (fR (H.fresh S).bel o6 (by have:=H.sz;omega))
  rwa[g]at this
 .have H:=C.fresh E;refine bo (bj (bO (z:=.nilFunc) kr λw5 D S s5=>?_));have D:=cZ D
  refine cq kf D oB Z λw6 M o6=>yX (aZ (ax oB ?_));have M:blk w6 m.heap.size 209 [fv]:=M;have B:Below m.heap.size m w6:=fR S o6 oA;have g6:=H.fresh B;have af:=H.sz;refine ab (by rw[g];exact h0) w6 _ g6.bel λw7 K2 T W=>bS rfl ?_;have F:=tB B T;have y4:=ae E O.drew O.lt
  exact zfV (g6.fresh T).lv (ae T M M.lt) (ae F y4 y4.lt) aa oo oo hi hm hk i hh (λa X=>Y w7 a F X) W
end
section
variable {q:LB}{s:PL}{e:EV}
def R9(h:∀S,blk S w.heap.size 190 [iv 0,u6 0]->Below w.heap.size w S->S.heap.size=w.heap.size+1->K (pB w.heap.size) S):alc Q 190 K w :=
 bO (z:=.agg #[iv 0,u6 0]) kr λd b a c=>h d (by simpa[Value.cells,iv,u6]using b) a c
def zbz{o:Int}(c:blk w b 190 [iv 0,u6 0])(h:∀S,blk S b 190 [iv o,u6 r]->Oth b w S->K undef S):sto Q 190 (pB b) (.agg [iv o,u6 r].toArray) K w :=
 eW (n:=2) kr rfl c oB (by simp[iv,u6,Value.oneCell']) λe a d=>h e (by simpa using a) d
def zky{S0:oG->Prop}{T:oF->oF->(oG->Prop)->oG->Prop}(f:∀O,Below w.heap.size w O->S0 O)(h:∀O e bk,blk O e 190 [iv 0,u6 0]->blk O bk 190 [iv 0,u6 0]->e≠bk->w.heap.size<=e->w.heap.size<=bk->Below w.heap.size w O->T (pB e) (pB bk) S0 O):(alc Q 190 (λi=>aX S0 λS=>alc Q 190 λk=>aX S λS=>T i k S) w)/\(alc Q 190 (λk=>aX S0 λS=>alc Q 190 λi=>aX S λS=>T i k S) w):=by
 refine⟨R9 λn d a l=>aB (f _ a) (R9 λj g b m=>?_),R9 λn d a l=>aB (f _ a) (R9 λj g b m=>?_)⟩
 .have c:=a.trans (b.mono oo);exact aB (f _ c) (h j _ _ (ae b d d.lt) g oo oo oo c)
 .have c:=a.trans (b.mono oo);exact aB (f _ c) (h j _ _ g (ae b d d.lt) oo oo oo c)
def zeT{y:Nat}{g:GR}(c:A.length=54)(k:blk w (z+1) 54 (evC e))(m:blk w y 96 (grC g))(r:nX w (K (.tuple #[rgV (wT A e.o g.a).1,ci (wT A e.o g.a).2]))):call Q 318 #[rgV A,pB (z+1),pB y] K w:=by
 have l:=Vs (i:=e.o) (x:=g.a) c;refine aj (goK func318) (II (Vw λC n q u=>De λD p h B=>?_));have b:=q.trans (h.mono oo);have d:=ae b k k.lt;have f:=ae b m m.lt;refine uU c (ae h n n.lt) (dO (lK (v:=iv e.o) d rfl (Ze (lK (v:=iv g.a) f rfl ?_))));refine zhz c λE j=>bo (bj (Bb rfl l (ae j p p.lt) λF t s=>?_))
 exact ze (λ_=>uU l t) (r _ (fR (tB b j) s oo))
def zeU{x y v u:Nat}{gr:GR}(g:LV w z q e)(O:blk w x 209 [X1])(hy:blk w y 190 [iv e.o,u6 e.r])(hv:blk w v 96 (grC gr))(d:blk w u 190 [iv e.o,u6 e.f])(B:∀k∈q.l,k<z)(ab:z<=x)(S:z<=y)(M:z+2<=v)(L:z<=u)(hi:PI s)(hm:co e=true)(m:e.k=4)(I:lr s.G e.o e.f=some gr)(hf:∀K2:KV,(∀h,PM h q {s with N:=s.N.map (dT (cB s.N gr.n) (12+e.q) gr.a)}->Ch q.wv w h->K2 (.tuple #[]) h)->bA Q X1 #[] K2 w)(c:∀w',PM w' q (vK e s)->Ch (v::q.wv) w w'->K (.tuple #[]) w'):call Q 320 #[pB x,pB z,pB y,pB (z+1),pB v,pB u] K w:=by
 have t:=fZ hm;have Z:∀k∈q.wv,k<z:=λk m=>B k (LB.wl k m);have T:∀b,z<=b->b∉q.wv:=λb hb i=>by have:=Z b i;omega
 obtain⟨_,W,X⟩:=yR I;refine aj (goK func320) (IJ (lK (v:=X1) O rfl (hf _ λF E j=>?_)));have U:=(g.ch j λk m=>.inl (Z k m)).drew;have y1:=(hy.ch j (T _ S)).drew;have v1:=(hv.ch j (T _ oo)).drew;have u1:=(d.ch j (T _ L)).drew;have E:=E.drew
 refine aw (λk=>LV k z q e/\blk k y 190 [iv e.o,u6 e.r]/\PM k q {s with N:=s.N.map (dT (cB s.N gr.n) (12+e.q) gr.a)}) ⟨U,y1,E⟩ ?_;refine ac (λu d _=>lK (v:=pB q.p) d.1.l rfl) (hZ (hW MN ?_));refine ac (λu d _=>lK (v:=.map (some q.am)) d.2.2.b (by rw[oK];exact d.2.2.c28)) <|ac (λu d _=>Jg d.2.1) ?_;refine E.ask_c t.1 t.2.1 hi.r6 λw2 p2 C=>?_
 have H:q.am<z:=B _ (by simp[LB.l]);have aa:q.gm<z:=B _ (by simp[LB.l]);have V:=U.oth C (.inl H);have v2:=C.blk v1 oo;have u2:=C.blk u1 oo;refine wO (lK (v:=u6 e.r) V.e rfl (ML (cq kf v2 (by simp[grC]) rfl λh A D=>?_)));have A:blk h v 96 (grC {gr with b:=e.r}):=A;have g3:=(V.oth D (.inr M)).drew
 have uv:u≠v:=λe=>qI (mG u2 (e ▸ v2)) dc;have u3:=(D.blk u2 uv).drew;have p3:=(p2.oth D λi=>by have:=B _ i;omega).drew;have A:=A.drew;refine aw (λk=>LV k z q e/\blk k u 190 [iv e.o,u6 e.f]/\blk k v 96 (grC {gr with b:=e.r})/\PM k q {s with N:=s.N.map (dT (cB s.N gr.n) (12+e.q) gr.a),R:=s.R.set (e.o-1).toNat (s.R.getD (e.o-1).toNat []++[e.r])}) ⟨g3,u3,A,p3⟩ ?_
 refine ac (λu d _=>lK (v:=pB q.p) d.1.l rfl) (hZ (hW MM ?_));refine ac (λu d _=>lK (v:=.map (some q.gm)) d.2.2.2.b (by rw[oK];exact d.2.2.2.c27)) <|ac (λu d _=>Jg d.2.1) <|ac (v:=grV {gr with b:=e.r}) (λu d _=>ldA (n:=5) (vs:=grC {gr with b:=e.r}) underlying96 rfl kr d.2.2.1 rfl rfl) ?_
 have ek:rqV (e.o,e.f)=rqV (({gr with b:=e.r}:GR).o,({gr with b:=e.r}:GR).q):=by show _=rqV (gr.o,gr.q);rw[W,X]
 rw[ek];have J:(s.G.map (mj e.o e.f e.r)).Pairwise ltG:=by
  rw[List.pairwise_map];refine hi.gs.imp λ{x y} P=>?_;unfold ltG at *;rw[(pb x).1,(pb x).2,(pb y).1,(pb y).2];exact P
 refine p3.gm_c (g:={gr with b:=e.r}) (G':=s.G.map (mj e.o e.f e.r)) hi.gs J (λo r=>?_) λw4 p4 o4=>c w4 ?_ ?_
 .show _=if (o,r)=(gr.o,gr.q)then _ else _
  rw[show (gr.o,gr.q)=(e.o,e.f)by rw[W,X]];by_cases i:(o,r)=(e.o,e.f)
  .rw[oJ i];obtain⟨rfl,rfl⟩:=Prod.mk.inj i;rw[zeX,I];rfl
  .rw[oI i];refine ST pb λy e1 e2=>?_;unfold mj;rw[oI λY=>i (by rw[<-e1, <-e2,Y.1,Y.2])]
 .rw[zgU m]
  have:gOf s e=gr:=by unfold gOf;rw[I];rfl
  rw[this];exact p4
 .have c2:Ch (v::q.wv) w w2:=((j.mono λx O=>oH _ O).trans (Ch.of_below (jU _ F).drew:Ch [] F F.drew) oB).trans (Ch.of_oth C oB:Ch [q.am] F.drew w2) (by simp[LB.wv])
  exact((c2.trans (Ch.of_oth D oB:Ch [v] w2 h) oB).trans (Ch.of_below (jU _ h).drew:Ch [] h h.drew) oB).trans (Ch.of_oth o4 oB:Ch [q.gm] h.drew w4) (by simp[LB.wv])
def zh6(h:PM w q s)(hi:PI s)(hm:co e=true)(hk:e.k=4)(kd:Kind w q s e K):call Q 305 #[pB q.p,.agg (evC e).toArray] K w:=by
 obtain⟨no,al⟩:=kd;obtain⟨an,ho⟩:=ue hm;have W:=fZ hm;have C:=h.lt;have j:pX e s=if pT s.R e.q e.r=true then 14 else match lr s.G e.o e.f with|none=>12|some g=>if g.b≠0 then 12 else CA (λA=>(wT A e.o g.a).2) s.N (cB s.N g.n):=by unfold pX;rw[oI oo,oI oo,oI oo,oJ hk];rfl
 refine aj (goK func305) (La (LE.make λw1 J s1=>?_));have J:=J.drew;have p1:=h.below J.bel;refine aw (λu=>LE w u q e/\PM u q s) ⟨J,p1⟩ ?_;refine hW dO (ac (λu i _=>lK (v:=iv e.o) i.1.e rfl) ?_);refine hW wO (ac (λu i _=>lK (v:=u6 e.r) i.1.e rfl) ?_);refine ac (λu i _=>ck (vs:=[iv e.o,u6 e.r]) kr) ?_;refine hW dO (ac (λu i _=>lK (v:=iv e.o) i.1.e rfl) ?_)
 refine hW Eb (ac (λu i _=>lK (v:=u6 e.f) i.1.e rfl) ?_);refine ac (λu i _=>ck (vs:=[iv e.o,u6 e.f]) kr) ?_;refine zky (λa b=>⟨J.fresh b,p1.below b⟩) λw2 bi bk i2 k2 V zi zk b2=>?_;have z2:w.heap.size+2<=w1.drew.heap.size:=J.sz;have zi:w.heap.size+2<=bi:=qR z2 zi;have zk:w.heap.size+2<=bk:=qR z2 zk;have g2:=J.fresh b2;have p2:=p1.below b2
 refine zbz i2 λw3 i3 o3=>?_;have g3:=g2.oth o3 zi;have p3:=p2.oth o3 λU=>by have:=C _ U;omega
 have k3:=o3.blk k2 (λe=>V e.symm);refine aB ⟨g3,p3⟩ (zbz k3 λw4 k4 o4=>?_);have i4:=(o4.blk i3 V).drew;have k4:=k4.drew;have g4:=(g3.oth o4 zk).drew;have p4:=(p3.oth o4 λU=>by have:=C _ U;omega).drew;refine ah (λ_=>lK (v:=pB q.p) g4.l rfl) (ah (λ_=>aq) (ah (λ_=>MN) ?_))
 refine ah (λ_=>lK (v:=.map (some q.am)) p4.b (by rw[oK];exact p4.c28)) (ah (λ_=>Jg i4) (ah (λ_=>p4.ask_l W.1 W.2.1) ?_));rw[show (e.o-1).toNat=e.q from rfl];cases E:pT s.R e.q e.r with
 | true =>
  rw[E,oJ rfl]at j
  have:=no _ (by rw[j];decide) g4.bel
  rw[j]at this;exact aV this
 | false =>
 rw[E,oI oB]at j;have g5:=g4.drew;have p5:=p4.drew;have i5:=i4.drew;have k5:=k4.drew;refine aA (aw (λu=>LE w u q e/\PM u q s/\blk u bk 190 [iv e.o,u6 e.f]) ⟨g5,p5,k5⟩ ?_);refine ac (λu i _=>lK (v:=pB q.p) i.1.l rfl) (hZ (hW MM ?_));refine ac (λu i _=>lK (v:=.map (some q.gm)) i.2.1.b (by rw[oK];exact i.2.1.c27)) ?_
 refine ac (λu i _=>Jg i.2.2) (ac (λu i _=>i.2.1.gr_l hi) (hE2 (?_)));generalize B:(lr s.G e.o e.f).getD ⟨0,0,0,0,0⟩=gr;refine bO (z:=grV ⟨0,0,0,0,0⟩) kr λw6 Y Z s6=>?_;have Y:blk w6 w4.drew.drew.heap.size 96 (grC ⟨0,0,0,0,0⟩):=by simpa[Value.cells,grV]using Y
 have g6:=g5.fresh Z;have p6:=p5.below Z;have i6:=ae Z i5 i5.lt;have k6:=ae Z k5 k5.lt;have z6:w.heap.size+2<=w4.drew.drew.heap.size:=g5.sz;refine aB ⟨g6,p6,k6⟩ (eW (n:=5) (vs:=grC gr) kr rfl Y (by simp[grC]) (LH _) λw7 F o7=>?_);generalize hv:w4.drew.drew.heap.size=v at *;have F:blk w7 v 96 (grC gr):=F;have L:=g6.oth o7 z6;have p7:=p6.oth o7 λU=>by have:=C _ U;omega
 have ai:bi≠v:=λe=>qI (mG i6 (e ▸ Y)) dc;have ak:bk≠v:=λe=>qI (mG k6 (e ▸ Y)) dc;have i7:=o7.blk i6 ai;have k7:=o7.blk k6 ak;refine aB ⟨L,p7,k7⟩ (IK (bc ?_));cases hq:lr s.G e.o e.f with
 | none =>
  rw[hq]at j;have j:pX e s=12:=j;refine iH (cA (aV ?_))
  have:=no _ (by rw[j];decide) L.bel
  rwa[j]at this
 | some g0 =>
 rw[hq]at j B;have B:g0=gr:=B;subst B;simp only at j;refine fF (ML (lK (v:=u6 g0.b) F rfl (aZ (bZ ?_))));by_cases hb:g0.b≠0
 .refine ay hb ?_;rw[oJ hb]at j
  have:=no _ (by rw[j];decide) L.bel
  rwa[j]at this
 rw[oI hb]at j;refine ax hb (lK (v:=pB q.p) L.l rfl (Zd (lK (v:=u6 g0.n) F rfl ?_)));refine ZY (f:=λA=>wT A e.o g0.a) (c:=12+e.q) (x:=g0.a) p7 hi (λA T=>Vs T) (λA T=>zeS T) (λA T D t a b => bS rfl (zeT T (L.fresh t).e (ae t F F.lt) b)) (λD X t=>?_) λh0 D fv ag t af=>?_
 .have S:=L.fresh t;refine bo (bj (bO (z:=.nilFunc) kr λw9 O b9 s9=>?_));have O:=cZ O
  refine cq kf O oB rfl λw10 m M=>aZ (ay X ?_)
  have:=no w10 (by rw[j];exact X) (fR (S.fresh b9).bel M (by have:=S.sz;omega))
  rwa[j]at this
 .have S:=L.fresh t;refine bo (bj (bO (z:=.nilFunc) kr λw9 O b9 s9=>?_));have O:=cZ O
  refine cq kf O oB ag λw10 m M=>aZ (ax oB ?_);have m:blk w10 D.heap.size 209 [fv]:=m;have I:Below D.heap.size D w10:=fR b9 M oA;have P:=S.fresh I;have ao:=S.sz;refine al (by rw[j];exact h0) w10 _ P.bel ⟨[v],by simp;omega,λw11 K2 H ab=>bS rfl ?_⟩;have y:=tB I H;have i8:=ae t i7 i7.lt;have k8:=ae t k7 k7.lt
  have v8:=ae t F F.lt;exact zeU (P.fresh H).lv (ae H m m.lt) (ae y i8 i8.lt) (ae y v8 v8.lt) (ae y k8 k8.lt) C oo oo z6 oo hi hm hk hq (λa b=>af w11 a y b) ab
end
def DoesB.mono{B:Nat}{q:LB}{a:PL}(h:DoesB B S q a H)(d:B'<=B):DoesB B' S q a H:=by obtain⟨X,b,c⟩:=h;exact⟨X,λk e=>qR d (b k e),c⟩
section
variable {q:LB}{s:PL}{e:EV}
def DW(h:K (.bool false) w):bin Q .eql 121 cx cy (pB b) (.pointer none) K w :=
 dZ (by unfold eqG eqGuard;rfl) kr h
def PM.cutV(h:PM w q s):((plC q s).drop 12).take 6=vCs s.V:=by unfold plC;rw[show (12:Nat)=(s.I.map Value.bool++s.L.map Value.bool).length by simp[h.i6,h.l6], <-jE,List.drop_left',qJ (by rw[bh,h.v6];omega),tL (by rw[bh,h.v6];omega)];rfl
def PM.ldV(h:PM w q s)(a:K (.agg (vCs s.V).toArray) w):ld Q 38 (pA q.p (0+12)) K w :=
 ldA (n:=6) (vs:=vCs s.V) underlying38 rfl kr h.b h.cutV (by rw[bh,h.v6]) a
def za1(h:PM w q s)(hi:PI s)(C:∀w',gF e s≠0->Below w.heap.size w w'->K (.tuple #[.nilFunc,ci (gF e s)]) w')(ad:gF e s=0->∀w' z,Below w.heap.size w w'->DoesB w.heap.size w' q (vK e s) z->K (.tuple #[z,ci 0]) w'):call Q 86 #[pB q.p,.agg (evC e).toArray] K w:=by
 have g:gF e s=if co e=false then 1 else if vC s.V e=true then 14 else if fS s.V e=false then 13 else if s.I.getD e.q false=false\/s.L.getD e.q false=true then 10 else pX e s:=rfl
 refine aj (goK func86) (KZ (By λw1 T b1 s1=>DW (aA (dh T (Fg λw2 b2=>bc ?_)))));have i:=tB b1 b2;have D:=ae b2 T T.lt;have M:=h.below i;cases r:co e with
 | false =>
  rw[r,oJ rfl]at g
  have:=C _ (by rw[g];decide) i
  rw[g]at this;exact aV this
 | true =>
 rw[r,oI oB]at g;obtain⟨A,ho⟩:=ue r;have ag:=fZ r;have M:=M.drew;have D:=D.drew;have i:=i.drew;refine aA (aw (λu=>PM u q s/\blk u w.heap.size 54 (evC e)) ⟨M,D⟩ ?_);refine hZ (hW Ed (ac (λu d _=>d.1.ldV) (ac (λu d _=>dh d.2) ?_)));refine R8 h.v6 λw3 O=>hRT ?_;have l:=tB i O;have F:=ae O D D.lt;have N:=M.below O;cases hL:vC s.V e with
 | true =>
  rw[hL,oJ rfl]at g
  have:=C _ (by rw[g];decide) l
  rw[g]at this;exact aV this
 | false =>
 rw[hL,oI oB]at g;have N:=N.drew;have F:=F.drew;have l:=l.drew;refine aA (aw (λu=>PM u q s/\blk u w.heap.size 54 (evC e)) ⟨N,F⟩ ?_);refine hZ (hW Ed (ac (λu d _=>d.1.ldV) (ac (λu d _=>dh d.2) ?_)));refine Tx h.v6 (λk J=>(hi.vb k J).1) λw4 P=>hRT (ac (λu d _=>bc) ?_);have c:=tB l P;have y:=ae P F F.lt;have j:=N.below P;refine IE ?_
 cases Y:fS s.V e with
 | false =>
  rw[Y,oJ rfl]at g
  have:=C _ (by rw[g];decide) c
  rw[g]at this;exact aV this
 | true =>
 rw[Y,oI oB]at g;have j:=j.drew;have y:=y.drew;have c:=c.drew;refine aA (ah (λ_=>dO) (ah (λ_=>lK (v:=iv e.o) y rfl) ?_));refine ah (v:=iv (e.q:Nat)) (λK a=>bL oo oo (by rw[show e.o-1=(e.q:Nat)by omega];exact a)) ?_;refine ah (λ_=>aq) (ah (λ_=>Id) (ah (λ_=>WR rfl A) ?_))
 refine ah (λ_=>lK (v:=.bool (s.I.getD e.q false)) j.b (by rw[oK];exact j.cI A)) (ah (λ_=>bc) (IF ?_));cases U:s.I.getD e.q false with
 | false =>
  rw[U,oJ (.inl rfl)]at g
  have:=C _ (by rw[g];decide) c
  rw[g]at this;exact aV (yV (aV this))
 | true =>
 have j:=j.drew;have y:=y.drew;have c:=c.drew;refine aA (ah (λ_=>dO) (ah (λ_=>lK (v:=iv e.o) y rfl) ?_));refine ah (v:=iv (e.q:Nat)) (λK a=>bL oo oo (by rw[show e.o-1=(e.q:Nat)by omega];exact a)) ?_;refine ah (λ_=>aq) (ah (λ_=>Sy) (ah (λ_=>WR rfl A) ?_))
 refine ah (λ_=>lK (v:=.bool (s.L.getD e.q false)) j.b (by rw[oK];exact j.cL A)) (yV ?_);cases H:s.L.getD e.q false with
 | true =>
  rw[U,H,oJ (.inr rfl)]at g
  have:=C _ (by rw[g];decide) c
  rw[g]at this;exact aV this
 | false =>
 rw[U,H,oI oB]at g;have j:=j.drew;have y:=y.drew;have c:=c.drew;refine aA (IG (aw (λu=>PM u q s/\blk u w.heap.size 54 (evC e)) ⟨j,y⟩ ?_));refine hW Ea (ac (λu d _=>lK (v:=kv8 e.k) d.2 rfl) ?_)
 have n:∀(z:oF) (f:FuncId),z=.func (.func f) #[] #[]->kindsV[e.k.toNat]? = some z->0<=e.k->call Q f #[pB q.p,.agg (evC e).toArray] (λm w=>aF (λS w=>hld S (ext Q m 0) λt=>hld S (ext Q m 1) λx=>K (.tuple #[t,x]) w) w) _ ->
   hld (λu=>PM u q s/\blk u w.heap.size 54 (evC e)) (aW Q 229 (pA 1 0) (.int .u8 e.k)) λZ=>hld (λu=>PM u q s/\blk u w.heap.size 54 (evC e)) (ld Q 228 Z) λaa=>hld (λu=>PM u q s/\blk u w.heap.size 54 (evC e)) (ld Q 54 (pB w.heap.size)) λab=>bA Q aa #[pB q.p,ab] (λm w=>aF (λS w=>hld S (ext Q m 0) λt=>hld S (ext Q m 1) λx=>K (.tuple #[t,x]) w) w) w4.drew.drew.drew:=λz f W J G hc=>by
  have af:e.k.toNat<8:=(gS J).1;refine ac (v:=pA 1 e.k.toNat) (λu d K a=>fg underlying229 (s:=1) kf G oo (by rw[Nat.mul_one,oK];exact a)) ?_;refine ac (v:=z) (λu d K a=>by
   obtain⟨E,fr,G⟩:=d.1.kd;refine vS kf ?_ a;unfold World.cell?;rw[G];simpa using J) (ac (λu d _=>dh d.2) ?_)
  subst W;exact bS rfl hc
 have B:Kind w4.drew.drew.drew q s e (λm w=>aF (λS w=>hld S (ext Q m 0) λt=>hld S (ext Q m 1) λx=>K (.tuple #[t,x]) w) w):=by
  refine⟨λw5 X R=>hRT (hE2 (?_)),λG w5 z R hd=>hRT (hE2 (?_))⟩
  .have:=C w5 (by rw[g];exact X) (tB c R)
   rwa[g]at this
  .exact ad (by rw[g];exact G) w5 z (tB c R) (hd.mono c.size)
 have hn:=hi.new r Y;rcases ov r with⟨k,_⟩|⟨k,_⟩|⟨k,_⟩|⟨k,_⟩|⟨k,_⟩|⟨k,_⟩|k
 .exact n _ _ rfl (by rw[k];rfl) oo (zho j hi r k hn B)
 .exact n _ _ rfl (by rw[k];rfl) oo (zfI j hi r k B)
 .exact n _ _ rfl (by rw[k];rfl) oo (zi3 j hi r k B)
 .exact n _ _ rfl (by rw[k];rfl) oo (zh6 j hi r k B)
 .exact n _ _ rfl (by rw[k];rfl) oo (zfG j hi r k B)
 .exact n _ _ rfl (by rw[k];rfl) oo (zhf j r k B)
 .exact n _ _ rfl (by rw[k];rfl) oo (zfh j r k B)
def Tu(h:PM w q s)(hi:PI s)(a:∀w',PM w' q (kJ e s)->Ch q.wv w w'->K (ci (gF e s)) w'):call Q 69 #[pB q.p,.agg (evC e).toArray] K w:=by
 have E:=h.lt;refine aj (goK func69) (KS (By λw1 j x s1=>dh j ?_));have p1:=h.below x;refine za1 p1 hi (λr n u=>bo (bj (aZ (ay n ?_)))) λB r fv u P=>bo (bj (aZ (ax oB ?_)))
 .have d:=x.trans (u.mono oo);refine a r ?_ (Ch.of_below d);unfold kJ;rw[oI n];exact h.below d
 .obtain⟨X,J,C⟩:=P;have F:=(mE hi).1 B;have L:=F.may;obtain⟨c,ho⟩:=ue L;have R:=fZ L;refine C r _ (jU _ r) λt f I=>?_;have z:=ae u j j.lt;have A:=(z.ch I λl=>by
   rcases oU.1 l with l|l
   .have:=J _ l;omega
   .have:=E _ (LB.wl _ l);omega).drew
  have f:=f.drew;have d:=x.trans (u.mono oo);have y:Ch q.wv w t.drew:=((Ch.of_below d:Ch q.wv w r).trans I (λk m=>by
   rcases oU.1 m with m|m
   .right;have:=J _ m;omega
   .exact .inl m)).trans (Ch.of_below (jU _ t).drew:Ch [] t t.drew) oB
  refine ah (λ_=>dO) (ah (λ_=>lK (v:=iv e.o) A rfl) ?_);refine ah (v:=iv (e.q:Nat)) (λK a=>bL oo oo (by rw[show e.o-1=(e.q:Nat)by omega];exact a)) ?_;refine ah (λ_=>aq) (ah (λ_=>Ed) (ah (λ_=>ixV rfl c) ?_));have G:=hi.vb _ c
  refine ah (λ_=>lK (v:=u6 (s.V.getD e.q 0)) f.b (by rw[show 0+12+e.q=12+e.q by omega];exact f.cV c)) <|ah (v:=u6 (s.V.getD e.q 0+1)) (λK a=>xE (by rw[eJ,show (s.V.getD e.q 0+1)%18446744073709551616=s.V.getD e.q 0+1 by simp only[M40]at G;omega];exact a)) ?_;refine ah (λ_=>aq) (ah (λ_=>Ed) (ah (λ_=>ixV rfl c) ?_))
  refine cq kf f.b (by rw[f.len];omega) rfl λM H i=>?_;rw[show 0+12+e.q=12+e.q by omega,f.sV c]at H;rw[B]at a;refine a M ?_ (y.trans (Ch.of_oth i oB:Ch [q.p] t.drew M) (by simp[LB.wv]));have O:kJ e s={vK e s with V:=s.V.set e.q (s.V.getD e.q 0+1)}:=by unfold kJ;rw[oJ B];rfl
  rw[O];have g:=f.nd;obtain⟨S,T,v6,b,tm,⟨U,x1,j⟩,⟨W,x2,z⟩,⟨Y,x3,A⟩,⟨Z,x4,N⟩,_,D⟩:=f;exact⟨S,T,by show (s.V.set _ _).length=6;rw[qN];exact h.v6,H,tm.oth i (LN.tp g) (LN.dp g),⟨U,x1.oth i (LN.mp g),j⟩,⟨W,x2.oth i (LN.rp g),z⟩,⟨Y,x3.oth i (LN.gp g),A⟩,⟨Z,x4.oth i (LN.ap g),N⟩,g,D.keep (i.other 1 (LN.zp g))⟩
def IZ(h:PM w q s)(b:nX w (K (.agg (vCs s.V).toArray))):call Q 250 #[pB q.p] K w:=by refine aj (goK func250) (KU (Jj λg d a f=>DW (aA (aq (Ed ?_)))));refine(h.below a).ldV (Fw rfl h.v6 d λi e c=>?_);exact uT (v:=.agg (vCs s.V).toArray) (λ_=>tQ h.v6 e) (b _ (aD a c oA))
def NG{i a:Int}(h:PM w q s)(hi:PI s)(c:nX w (K (ci (if bB i=true then Ik (aN s.N a) (i-1).toNat else 0)))):call Q 164 #[pB q.p,iv i,u6 a] K w:=by refine aj (goK func164) (KW (DW (aA (aq (wP (lK (v:=.map (some q.rm)) h.b (by rw[oK];exact h.c20) ?_))))));exact h.rg_l hi (Jf (Mu hi a) c)
end
def evV(e:EV):oF:=.agg (evC e).toArray
abbrev evZ:EV:=⟨0,0,0,0,0,0,0,0,0,0,0,0,0,0⟩
def hkK:HE Q 286 rqV:=by
 refine YE _ underlying286 (λx=>⟨_,rfl⟩) (λx y h=>?_) (λw g x=>by kernel_rfl) (λw x y=>⟨decide (x=y),?_,?_⟩) (λx=>?_)
 .simp only[rqV,Value.agg.injEq]at h;simp at h;exact Prod.ext h.1 h.2
 .have c:Tryz.prog.underlying 286=some (.struct (Tryz.prog.fieldsOf 286)):=by kernel_rfl
  have d:Tryz.prog.stoodInHeld 286=false:=by kernel_rfl
  have i:=underlying3;have j:=underlying36;have e:=Tryz.isAgg3;have f:=Tryz.isAgg36;have k:=Tryz.sizeOf3;have l:=Tryz.sizeOf36;simp only[rqV];show (Op.equalIn (9999+1) _ _ _).run _ w=_;rw[run_equalIn_agg w 9999 286 _ _ c d];simp only[Program.fieldsOf,underlying286]
  go_simp
  by_cases a:x.1=y.1<;>by_cases b:x.2=y.2<;>simp[a,b,Prod.ext_iff]
 .simp[rqV];constructor
  .rintro rfl;exact⟨rfl,rfl⟩
  .rintro⟨a,b⟩;exact Prod.ext a b
 .unfold Instr.sameBits;simp[rqV];constructor<;>(unfold Instr.sameBits;simp)
structure HoM(w:oG) (p m:Nat) (W:HM):Prop where
 b:blk w p 163 [.map (some m)]
 mb:MB rqV evV w m W
section
variable {p:Nat}{W:HM}
def HoM.ne(h:HoM w p m W):p≠m:=λe=>by
 obtain⟨d,c,a⟩:=h.mb
 have:=h.b
 unfold blk at this;rw[e,a.heap]at this;cases this
def HoM.lt(h:HoM w p m W):p<w.heap.size/\m<w.heap.size:=⟨h.b.lt,h.mb.lt⟩
def HoM.below(h:HoM w p m W)(a:Below w.heap.size w S):HoM S p m W:=⟨ae a h.b h.b.lt,h.mb.below a⟩
def HoM.ch{F:List Nat}(h:HoM w p m W)(a:Ch F w S)(c:p∉F)(d:m∉F):HoM S p m W:=⟨h.b.ch a c,h.mb.ch a d⟩
end
def Ec:fU Q 163 0 0 b o K w:=aJ kr
section
variable {p:Nat}{W:HM}{V:List Int}{e:EV}
def zga{q:Nat}{b:Bool}(c:blk w q 54 (evC e))(h:K (.tuple #[evV e,.bool b]) w):aY Q [(some 54,pA q 0),(none,.bool b)] K w :=
 ze (v:=evV e) (λ_ a=>dh c a) h
def zb5(h:K (.bool false) w):bin Q .eql 126 cx cy (pB b) (.pointer none) K w :=
 dZ (by unfold eqG eqGuard;rfl) kr h
def zkZ{k e:TypeId}{kv:κ->oF}{vv:α->oF}{m:List (κ×α)}(c:Tryz.prog.underlying t=some (.map k e))(a:MB kv vv w b m)(h:K (ci (m.length:Int)) w):lN t (.map (some b)) K w:=zcd c a h
def eX{e e':EV}(c:blk w b 54 (evC e))(h:∀S,blk S b 54 (evC e')->Oth b w S->K undef S):sto Q 54 (pA b 0) (evV e') K w :=
 eW (n:=14) (vs:=evC e') kr rfl c (by show 0+14<=14;omega) (Cf _) λS a o=>h S a o
def il(h:∀S,blk S w.heap.size 54 (evC evZ)->Below w.heap.size w S->S.heap.size=w.heap.size+1->K (pA w.heap.size 0) S):alc Q 54 K w :=
 bO (z:=evV evZ) kr λS a b s=>h S (by simpa[Value.cells,evV]using a) b s
def zgn{x:Int×Int}{F:oF->KV}(h:∀S,blk S w.heap.size 286 [iv x.1,u6 x.2]->Below w.heap.size w S->S.heap.size=w.heap.size+1->F (rqV x) (pB w.heap.size) S):bld Q 286 #[(0,iv x.1),(1,u6 x.2)] (λv=>alc Q 286 λk=>sto Q 286 k v λ_=>F v k) w:=by refine ck (vs:=[iv x.1,u6 x.2]) kr (bO (z:=.agg #[iv 0,u6 0]) kr λg c b e=>?_);refine eW (n:=2) (vs:=[iv x.1,u6 x.2]) kr rfl (by simpa[Value.cells]using c) (by show 0+2<=2;omega) (by simp[u6,iv,Value.oneCell']) λf d a=>?_;exact h f d (aD b a oA) (by rw[a.size,e])
def zci{x:Int×Int}(a:blk w b 286 [iv x.1,u6 x.2])(h:K (rqV x) w):ld Q 286 (pA b 0) K w :=
 ldA (n:=2) (vs:=[iv x.1,u6 x.2]) underlying286 rfl kr a rfl rfl h
def zdb(w:oG):(zeroValue 54).run Q w=.ok (evV evZ) w:=by kernel_rfl
def zj0(h:HoM w p m W)(D:V.length=6)(hW:W.length<=1000)(a:∀w' (f:Int),HoM w' p m (Qb V W e)->Ch [m] w w'->K (ci f) w'):call Q 249 #[pB p,.agg (vCs V).toArray,evV e] K w:=by
 have u:∀{w':oG} (f:Int),¬(co e=true/\vC V e=false/\dA W (nY e)=none/\W.length<64)->Below w.heap.size w w'->K (ci f) w':=λf hn N=>a _ f (by unfold Qb;rw[oI hn];exact h.below N) (Ch.of_below N);refine aj (goK func249) (SV ?_);refine zq D λw1 U b1 s1=>By λw2 r J s2=>zb5 (aA ?_);have X:=ae J U U.lt;refine dO (lK (v:=iv e.o) r rfl (nB (lK (v:=u6 e.s) r rfl ?_)))
 refine zgn (x:=nY e) λI G z s3=>?_;have i:=(b1.trans (J.mono oo)).trans (z.mono oo);have Y:=ae z X X.lt;have L:=ae z r r.lt;have h3:=h.below i;have F:=h.lt;refine aw (λx=>HoM x p m W/\blk x w2.heap.size 286 [iv (nY e).1,u6 (nY e).2]) ⟨h3.below (jU _ I).drew,G.drew⟩ ?_
 refine ac (λx d _ a=>aq a) (ac (λx d _ a=>Ec a) (ac (λx d _ a=>lK (v:=.map (some m)) d.1.b rfl a) ?_));refine ac (λx d _ a=>zci d.2 a) (ac (v:=.tuple #[evV ((dA W (nY e)).getD evZ),.bool (dA W (nY e)).isSome]) (λx d _ a=>ZJ hkK underlying161 zdb d.1.mb a) ?_);refine ac (λx d _ a=>bo a) (ac (λx d _ a=>bj a) ?_);refine il λw4 t4 q s4=>?_
 have hd:I.drew.heap.size=I.heap.size:=rfl;have j:Below w.heap.size w w4:=i.drew.trans (q.mono (by rw[hd];omega));have h4:=h.below j;have R:=ae q G.drew G.drew.lt;have e4:=ae q L.drew L.drew.lt;have v4:=ae q Y.drew Y.drew.lt;refine aB ⟨h4,R⟩ (eX t4 λw5 t5 n=>?_);have k:Below w.heap.size w w5:=aD j n oo;have h5:=h.below k;have H:=n.blk R oo
 have B:=n.blk e4 oo;have Z:=n.blk v4 oo;have s5:=n.size;refine aB ⟨h5,H⟩ ?_;refine PG (dh B (Fg λw6 l=>bc ?_));have g:=k.trans (l.mono oo);have v6:=ae l Z Z.lt;have C:=ae l B B.lt;have S:=ae l H H.lt;have h6:=h.below g;cases P:co e with
 | false=>exact aV (u 1 (by rw[P];simp) g)
 | true =>
 refine aA (tQ D v6 (dh C (R8 D λy A=>?_)));have s6:=l.size;have c:=g.trans (A.mono g.size);have e7:=ae A C C.lt;have k7:=ae A S S.lt;have t:=h.below c;refine PH ?_;cases F:vC V e with
 | true=>exact aV (EK (aV (u 14 (by rw[F];simp) c)))
 | false =>
 refine aA (EK ?_);cases E:dA W (nY e)with
 | some f=>exact aV (u 14 (by rw[E];simp) c)
 | none =>
 refine aA (aq (Ec (lK (v:=.map (some m)) t.b rfl (zkZ underlying161 t.mb (bR ?_)))));by_cases O:(64:Int)<=(W.length:Nat)
 .exact ay O (u 7 oo c)
 refine ax O (PJ ?_);refine aw (λx=>HoM x p m W/\blk x w2.heap.size 286 [iv (nY e).1,u6 (nY e).2]/\blk x w1.heap.size 54 (evC e)) ⟨t.below (jU _ y).drew,k7.drew,e7.drew⟩ ?_;refine ac (λx d _ a=>aq a) (ac (λx d _ a=>Ec a) (ac (λx d _ a=>lK (v:=.map (some m)) d.1.b rfl a) ?_));refine ac (λx d _ a=>zci d.2.1 a) (ac (v:=evV e) (λx d _ a=>dh d.2.2 a) ?_)
 have M:=t.below (jU _ y).drew;refine vT (v:=e) hkK underlying161 M.mb λw8 m8 T=>?_;refine a w8 0 ?_ ((Ch.of_below c.drew:Ch [m] w y.drew).trans (Ch.of_oth T oB:Ch [m] y.drew w8) oB);unfold Qb;rw[oJ ⟨P,F,E,by omega⟩, <-yY E];exact⟨T.blk M.b h.ne,m8⟩
def ziZ(d:∀S,HoM S (w.heap.size+1) w.heap.size []->Below w.heap.size w S->S.heap.size=w.heap.size+2->K (pB (w.heap.size+1)) S):call Q 39 #[] K w:=by refine aj (goK func39) (zaF (wZ underlying161 rfl rqV evV λi e c f=>ck (vs:=[.map (some w.heap.size)]) kr (bu λg b a h=>?_)));rw[f]at b |-;exact d g ⟨by simpa[Value.cells]using b,e.below a⟩ (c.trans (a.mono oo)) oo
end
end
structure VR(w:oG) (a:Option Addr) (n c:Nat) (L:List EV):Prop where
 len:L.length=n
 some_:0<n->∃b o,a=some ⟨b,o,none⟩
 cell:∀(i:Nat) (x:EV),L[i]? = some x->∀b o,a=some ⟨b,o,none⟩->∀(j:Nat) (u:oF),(evC x)[j]? = some u->w.cell? ⟨b,o+i*14+j,none⟩=some u
def VR.bel{B:Nat}{n:Nat}{L:List EV}(h:VR w a n c L)(g:Below B w S)(e:w.heap.size<=B):VR S a n c L :=
 ⟨h.len,h.some_,λi x l b o f j u k=>by
  have:=h.cell i x l b o f j u k
  have d:=zB w _ this
  rw[g.cell (p:=⟨b,o+i*14+j,none⟩) (qQ d e)];exact this⟩
def VR.one{e:EV}(h:blk w b 54 (evC e)):VR w (some ⟨b,0,none⟩) 1 c [e]:=by
 refine⟨rfl,λ_=>⟨_,_,rfl⟩,λi x a g o d j u f=>?_⟩;cases d;cases i with
 | zero =>
  simp only[qL,qD]at a;subst a;rw[h.cell,show 0+0*14+j=j by omega];exact f
 | succ i=>simp at a
def mgC(k f t:Int)(V:List Int)(s:oF)(n x:Int):oE:=[.int .u8 k,iv f,iv t]++(vCs V++[s,u6 n,iv x])
def gpC(L:List (List Int)):oE:=L.flatMap vCs
structure GoM(w:oG) (p:Nat) (L:List (List Int)):Prop where
 b:blk w p 166 (gpC L)
 l6:L.length=6
 v6:∀v∈L,v.length=6
def Zv:∀{L:List (List Int)} {k:Nat} {V:List Int},(∀v∈L,v.length=6)->L[k]? = some V->((gpC L).drop (k*6)).take 6=vCs V
 | [],k,V,_,h=>by simp at h
 | v::L,0,V,hv,h=>by
  simp only[qL,qD]at h;subst h
  have:=hv v oB
  show ((vCs v++gpC L).drop (0*6)).take 6=_;rw[Nat.zero_mul,oX,qJ (by rw[bh];omega),tL (by rw[bh];omega)]
 | v::L,k+1,V,hv,h=>by
  rw[qK]at h;have b:=hv v oB;show ((vCs v++gpC L).drop ((k+1)*6)).take 6=_;rw[show (k+1)*6=(vCs v).length+k*6 by rw[bh];omega,qS,oS oo,oV,show (vCs v).length+k*6-(vCs v).length=k*6 by omega];exact Zv (λu a=>hv u (oH _ a)) h
def zbb:∀{L:List (List Int)},(∀v∈L,v.length=6)->(gpC L).length=L.length*6
 | [],_=>rfl
 | v::L,hv=>by
  show (vCs v++gpC L).length=_;rw[oT,bh,hv v oB,zbb λu a=>hv u (oH _ a),oZ];omega
def zbc:∀{L:List (List Int)} {k:Nat} {V:List Int},(∀v∈L,v.length=6)->k<L.length->V.length=6->(gpC L).take (k*6)++vCs V++(gpC L).drop (k*6+6)=gpC (L.set k V)
 | [],k,V,_,h,_=>by simp at h
 | v::L,0,V,hv,h,_=>by
  have:=hv v oB
  show (vCs v++gpC L).take (0*6)++vCs V++(vCs v++gpC L).drop (0*6+6)=vCs V++gpC L;rw[Nat.zero_mul,qY,oV,show 0+6=(vCs v).length+0 by rw[bh];omega,qS,oS oo];simp
 | v::L,k+1,V,hv,h,h6=>by
  have a:=hv v oB;have b:(vCs v).length=6:=by rw[bh];exact a
  show (vCs v++gpC L).take ((k+1)*6)++vCs V++(vCs v++gpC L).drop ((k+1)*6+6)=vCs v++gpC (L.set k V);rw[<-zbc (λu c=>hv u (oH _ c)) (by simpa using h) h6,qT,qS,tL oo,oS oo,b,show (k+1)*6-6=k*6 by omega,show (k+1)*6+6-6=k*6+6 by omega];simp
section
variable {p:Nat}{L:List (List Int)}
def GoM.below(h:GoM w p L)(a:Below w.heap.size w S):GoM S p L:=⟨ae a h.b h.b.lt,h.l6,h.v6⟩
def GoM.ch{F:List Nat}(h:GoM w p L)(c:Ch F w S)(a:p∉F):GoM S p L:=⟨h.b.ch c a,h.l6,h.v6⟩
end
def SF:fU Q 282 0 0 b o K w:=aJ kr
def BP:fU Q 282 1 1 b o K w:=aJ kr
def yO:fU Q 282 2 2 b o K w:=aJ kr
def SG:fU Q 282 3 3 b o K w:=aJ kr
def Ee:fU Q 282 4 9 b o K w:=aJ kr
def MO:fU Q 282 5 10 b o K w:=aJ kr
def MP:fU Q 282 6 11 b o K w:=aJ kr
def Sw:fU Q 166 0 0 b o K w:=aJ kr
section
variable {p:Nat}{L:List (List Int)}{V:List Int}
def Wd(h:K (.bool false) w):bin Q .eql 128 cx cy (pB b) (.pointer none) K w :=
 dZ (by unfold eqG eqGuard;rfl) kr h
def Vh{i:Int}(h:K (.bool (bB i)) w):call Q 222 #[ci i] K w:=by
 refine aj (goK func222) (RL (bR ?_));unfold bB at h;by_cases a:i≥1
 .rw[show decide (1<=i)=true from qF a,qZ]at h;exact bU a (iG (bI a h))
 .rw[show decide (1<=i)=false from qE a,jA]at h;exact cJ a (bw a h)
def zdf{i:Int}(h:K (.bool (bB i)) w):call Q 244 #[ci i] K w:=by
 refine aj (goK func244) (SU (bR ?_));unfold bB at h;by_cases a:i≥1
 .rw[show decide (1<=i)=true from qF a,qZ]at h;exact bU a (iG (bI a h))
 .rw[show decide (1<=i)=false from qE a,jA]at h;exact cJ a (bw a h)
def zaq(e:V.length=6)(h:nX w (K (.bool (leV V (List.replicate 6 1099511627776))))):call Q 82 #[.agg (vCs V).toArray] K w:=by
 refine aj (goK func82) (Yq (zq e λn f g p=>?_));refine aw (λx=>blk x w.heap.size 38 (vCs V)) f.drew <|ac (λx d _ j=>tQ e d j) ?_;refine Xg (G:=List.replicate 6 1099511627776) rfl (λk l S b a c => bS rfl (aj (goK func100) (VM (by
  have:=c S (jU _ _)
  rwa[show (List.replicate 6 (1099511627776:Int)).getD k 0=1099511627776 by rw[oN,jL,oJ l];rfl]at this)))) λS b=>?_
 have m:=ae b f.drew f.drew.lt;refine aB m (zbP e rfl λo i=>hRT (h o ?_));have a:=g.drew.trans (b.mono (by show _<=n.heap.size;omega));exact tB a i
def zcc{n:Nat}{E:List EV}{x:EV}(h:VR w a n c E)(e:a=some ⟨b,o,none⟩)(g:E[i]? = some x)(d:K (evV x) w):ld Q 54 (pA b (o+i*14)) K w :=
 UX (run_loadVar_mid w b (o+i*14) 54 (evC x) _ (λj u f=>h.cell i x g b o e j u f) underlying54 rfl kr) d
def zdC{n:Nat}{E:List EV}(j:VR w a n c E)(D:n<=1000000)(y:∀e∈E,co e=true)(h:nX w (K (.bool false))):call Q 223 #[.slice a n c,.func (.func 224) #[] #[]] K w:=by
 refine aj (goK func223) (wj ?_);refine aj (goK func248) (xw (bv underlying30 ?_));refine wo (Inv:=λi A=>∃k:Nat,i=iv (k:Nat)/\k<=n/\Below w.heap.size w A) (μ:=mU n) ⟨0,rfl,qG _,jU _ _⟩ ?_;rintro _ B z F ⟨k,rfl,C,g⟩ p;refine aL ?_;by_cases f:k<n
 .have l:=j.bel g oA;have m:k<E.length:=by rw[j.len];exact f
  obtain⟨x,q⟩:=gX m;obtain⟨b,o,v⟩:=j.some_ oo;subst v;refine ay oo (fQ underlying30 (s:=14) kf oo oo ?_);rw[oQ];refine zcc l rfl q (bS rfl ?_);refine aj (goK func224) (Tk (By λH u r G=>dh u (Fg λI t=>bc ?_)));rw[y x (mO q)];have d:=tB g r
  refine aA (aR oo oo ⟨⟨k+1,ivS,f,tB d t⟩,?_⟩);exact mD p
 .refine ax oo <|wu ?_;exact bR (by have:=h z g;simpa using this)
def zbr{n:Nat}{E:List EV}{f t:Int}(x:VR w a n c E)(F:n<=16)(z:∀e∈E,co e=true)(g:V.length=6)(B:leV V (List.replicate 6 1099511627776)=true)(y:bB f=true)(A:bB t=true)(i:f≠t)(h:nX w (K (.bool true))):call Q 201 #[.agg (mgC 1 f t V (.slice a n c) 0 0).toArray] K w:=by
 have D:(mgC 1 f t V (.slice a n c) 0 0).length=12:=by simp[mgC,bh,g]
 have m:(Value.agg (mgC 1 f t V (.slice a n c) 0 0).toArray).cells.toList=mgC 1 f t V (.slice a n c) 0 0:=by simp[Value.cells]
 refine aj (goK func201) (LW (bu λH b p G=>?_));rw[m]at b;have s:(mgC 1 f t V (.slice a n c) 0 0)[9]? = some (.slice a n c):=by
  unfold mgC;rw[show 9=3+6 by rfl,eB (n:=3) rfl,show 6=6+0 by rfl,eB (n:=6) (by rw[bh,g])];rfl
 have k:(mgC 1 f t V (.slice a n c) 0 0)[10]? = some (u6 0):=by
  unfold mgC;rw[show 10=3+(6+1)by rfl,eB (n:=3) rfl,eB (n:=6) (by rw[bh,g])];rfl
 have l:(mgC 1 f t V (.slice a n c) 0 0)[11]? = some (iv 0):=by
  unfold mgC;rw[show 11=3+(6+2)by rfl,eB (n:=3) rfl,eB (n:=6) (by rw[bh,g])];rfl
 have u:((mgC 1 f t V (.slice a n c) 0 0).drop 3).take 6=vCs V:=by
  unfold mgC;rw[show 3=[Value.int .u8 1,iv f,iv t].length+0 by rfl,qS,oS oB];simp only[oV,oZ,List.length_nil,jO];rw[oX,qJ (by rw[bh];omega),tL (by rw[bh];omega)]
 refine BP (lK (v:=iv f) b rfl (Vh (bc ?_)));rw[y];refine fF (yO (lK (v:=iv t) b rfl (Vh (bc ?_))));rw[A];refine bZ (fF (BP (lK (v:=iv f) b rfl (yO (lK (v:=iv t) b rfl (aT (bZ (df i ?_))))))));refine SG (ldA (n:=6) (vs:=vCs V) underlying38 rfl kr b u (by rw[bh];exact g) (zaq g λI q=>bc ?_));rw[B];have j:=ae q b b.lt;have d:=tB p q
 refine bw i (aA (SF (lK (v:=.int .u8 1) j rfl (IU (aT (ay rfl ?_))))));refine Ee (lK (v:=.slice a n c) j s (zdC (x.bel d oA) oo z λC r=>bc (kN ?_)));have o:=ae r j j.lt;refine Ee (lK (v:=.slice a n c) o s (bv underlying30 (iG (cA (bU oo ?_)))));refine MO (lK (v:=u6 0) o k (aT (bI oo (bU rfl ?_))))
 exact MP (lK (v:=iv 0) o l (aT (bI rfl (by have:=h C (tB d r);simpa[gd]using this))))
def zjN{k:Nat}(h:GoM w p L)(H:k<6)(B:L[k]? = some A)(g:V.length=6)(a:∀S,GoM S p (L.set k (jV A V))->Ch [p] w S->K (ci 0) S):call Q 226 #[pB p,iv ((k:Int)+1),.agg (vCs V).toArray] K w:=by
 have c:=h.v6 A (mO B);have J:=h.b.lt;refine aj (goK func226) (N8 (zq g λq m r M=>Wd (aA (zdf (bc ?_)))));rw[show bB ((k:Int)+1)=true by unfold bB;simp;omega];have G:=h.below r;refine aA (aw (λx=>GoM x p L/\blk x w.heap.size 38 (vCs V)) ⟨G.below (jU _ q).drew,m.drew⟩ ?_)
 refine ac (v:=iv (k:Nat)) (λx _ _ a=>bL oo oo (by rw[show (k:Int)+1-1=(k:Nat)by omega];exact a)) (ac (v:=iv (k:Nat)) (λx _ _ a=>bL oo oo (by rw[show (k:Int)+1-1=(k:Nat)by omega];exact a)) ?_)
 have C:∀{x:oG} {K:KV},K (pA p (k*6)) x->aW Q 164 (pB p) (iv (k:Nat)) K x:=λa=>fg underlying164 (s:=6) kf oo oo (by rw[oK,oQ];exact a);refine hZ (hW Sw (ac (λx d _ a=>C a) ?_));refine ac (λx d _ a=>ldA (n:=6) (vs:=vCs A) underlying38 rfl kr d.1.b (Zv h.v6 B) (by rw[bh];exact c) a) ?_
 refine ac (λx d _ a=>tQ g d.2 a) (hZ (hW Sw ?_));refine nV [.agg (vCs A).toArray,.agg (vCs V).toArray] underlying252 (s:=6) kr kr oo rfl oB dc rfl (by
  intro v i;simp only[oO,oR,or_false]at i;rcases i with rfl|rfl
  .have:=qH List.length (si c);rw[bh,c]at this;simpa using this
  .have:=qH List.length (si g);rw[bh,g]at this;simpa using this) λw3 l t N=>?_
 have l:blk w3 q.drew.heap.size 38 (vCs A++vCs V):=by
  have e:([Value.agg (vCs A).toArray,.agg (vCs V).toArray].flatMap λv=>v.cells.toList)=vCs A++vCs V:=by
   simp only[jI,List.flatMap_nil,oW,si c,si g]
  rwa[e]at l
 have f:=r.drew.trans (t.mono (by show _<=q.heap.size;omega));have F:=h.below f;have o:=ae t m.drew m.drew.lt;refine aB ⟨F,o⟩ (zbO c g l λD u=>?_);have j:=tB f u;have y:=h.below j;refine aB ⟨y,ae u o o.lt⟩ <|ac (λx d _ a=>C a) ?_;refine eW (n:=6) (vs:=vCs (jV A V)) kr (by rw[bh];exact th) y.b (by rw[zbb h.v6,h.l6];omega) Rg λE z I=>?_
 rw[zbc h.v6 (by rw[h.l6];exact H) th]at z;refine a E ⟨z,by rw[qN];exact h.l6,λv i=>?_⟩ ((Ch.of_below j:Ch [p] w D).trans (Ch.of_oth I oB:Ch [p] D E) oB);rcases List.mem_or_eq_of_mem_set i with i|rfl
 .exact h.v6 v i
 .exact th
def ziW(c:∀S,GoM S w.heap.size (List.replicate 6 (List.replicate 6 0))->Below w.heap.size w S->S.heap.size=w.heap.size+1->K (pB w.heap.size) S):call Q 40 #[] K w:=by refine aj (goK func40) (Ye (ck (vs:=gpC (List.replicate 6 (List.replicate 6 0))) kr (bu λf b a e=>?_)));exact c f ⟨by simpa[Value.cells]using b,rfl,λv d=>by rw[List.eq_of_mem_replicate d];rfl⟩ a e
end
def rotB(x:Nat):Nat:=x%72057594037927936*256+x / 72057594037927936
def rotI(j x:Nat):Nat:=x%256 ^ (8-j)*256 ^ j+x / 256 ^ (8-j)
def zfL{x:Nat}(b:x<18446744073709551616)(a:j<8):rotB (rotI j x)=rotI (j+1) x/\rotI (j+1) x%256=x / 256 ^ (7-j)%256/\rotI j x<18446744073709551616:=by rcases(by omega:j=0\/j=1\/j=2\/j=3\/j=4\/j=5\/j=6\/j=7)with rfl|rfl|rfl|rfl|rfl|rfl|rfl|rfl<;>(simp only[rotI,rotB];omega)
def zjR{a:Nat}(h:a%256=b%256):UInt8.ofNat a=UInt8.ofNat b:=by rw[<-UInt8.toNat_inj];simpa using h
def wM{V:List Int}:(eE (km V)).length=8*V.length:=by
 induction V with
 | nil=>rfl
 | cons v V ih =>
  unfold km eE at *;rw[jK,jI,oT,ih,bE,oZ];omega
def zd5{V:List Int}(h:V[i]? = some v):eE (km (V.take (i+1)))=eE (km (V.take i))++bf v.toNat 8:=by rw[List.take_add_one,h];unfold km;rw[jJ,HV];simp[eE]
def zc1{s:TypeId}{k:IntKind}{b:TypeDesc}(a:Tryz.prog.underlying s=some b)(c:0<=x)(d:x<18446744073709551616)(h:K (.int .u64 x) w):conv Q s 36 (.int k x) K w:=by refine dE a underlying36 ?_;rw[eJ,show x%18446744073709551616=x by omega];exact h
def zjG{x:Nat}(b:x<18446744073709551616)(h:K (.int .u64 (rotB x:Nat)) w):call Q 257 #[.int .u64 (x:Nat),ci 8] K w:=by
 refine aj (goK func257) (GW (dE underlying3 underlying147 (VT ?_)));rw[show qy .and .u64 (IntKind.u64.wrap 8) 63=8 by decide];refine Cc oo (nL ?_);rw[show IntKind.u64.wrap (64-8)=56 by decide];refine Hq oo (Ul ?_);have e:=Qq x 7 oo;rw[show (8*((7:Nat):Int))=56 by omega]at e;rw[e,show (256 ^ 7:Nat)=72057594037927936 by decide]
 have m:x%72057594037927936<72057594037927936:=by omega
 have o:=WN (n:=x%72057594037927936) (c:=x / 72057594037927936) m oo;have a:(2:Int) ^ min (8:Int).toNat IntKind.u64.bits=256:=rfl;rw[a,eJ]at o |-;rw[show (x:Int)*256%18446744073709551616=((x%72057594037927936:Nat):Int)*256%18446744073709551616 by omega,o];exact h
def zfY{V:List Int}(t:V.length=6)(P:∀v∈V,0<=v/\v<18446744073709551616)(h:∀w' a n c,OB w' w.heap.size a n c (eE (km V))->Below w.heap.size w w'->K (.slice a n c) w'):call Q 236 #[.agg (vCs V).toArray] K w:=by
 refine aj (goK func236) (VL (zq t λw1 E I s1=>?_));refine mk8 w.heap.size 48 rfl oo oo λa2 w2 U B=>?_;have z2:=ae B E E.lt;have o:=I.trans (B.mono oo);refine ldA (n:=6) (vs:=vCs V) underlying38 rfl kr z2 (dTk (by rw[bh];omega)) (by rw[bh];exact t) ?_
 refine RU (Inv:=λe i f=>∃(p:Nat) (a:Option Addr) (c:Nat),p<=6/\i=ci p/\e=.slice a (8*p) c/\OB f w.heap.size a (8*p) c (eE (km (V.take p)))/\Below w.heap.size w f) (μ:=λ_ i _=>6-(intOf i).toNat)
  ⟨0,_,_,qG _,rfl,rfl,U,o⟩ ?_
 rintro _ _ N w3 m ⟨p,F,J,hp,rfl,rfl,A,C⟩ S;refine aL ?_;by_cases b:p<6
 .have z:V[p]? = some V[p]:=gE oo;obtain⟨D,v1⟩:=P V[p] (List.getElem_mem _);have y:=zd5 z;refine ay oo (Yw underlying38 kf kf b (v:=u6 V[p]) (by rw[Cs t b,oN,z];rfl) ?_);generalize V[p]=v at D v1 y z;obtain⟨x,rfl⟩:=Int.eq_ofNat_of_zero_le D;rw[oQ]at y
  have T:x<18446744073709551616:=by omega
  refine RW (Inv:=λe n j f=>∃(q:Nat) (a:Option Addr) (c:Nat),q<=8/\j=ci q/\n=.int .u64 (rotI q x:Nat)/\e=.slice a (8*p+q) c/\OB f w.heap.size a (8*p+q) c (eE (km (V.take p))++(bf x 8).take q)/\Below w.heap.size w f) (μ:=λ_ _ j _=>8-(intOf j).toNat)
   ⟨0,F,J,qG _,rfl,by simp[rotI,u6];omega,rfl,by rw[qY,oW];exact A,C⟩ ?_
  rintro _ _ _ N w4 m4 ⟨q,G,L,hq,rfl,rfl,rfl,g,r⟩ u;refine aL ?_;by_cases d:q<8
  .obtain⟨X,Y,Z⟩:=zfL T d;refine ay oo (zjG Z (dE underlying36 underlying5 ?_));rw[X,YN,zjR Y];have z4:=r.size;refine zir rfl λw5 s r5 s5=>OT w.heap.size (g.below s oo) r5 oo oo λH M w6 W O=>?_
   refine aR oo oo ⟨⟨q+1,H,M,d,ivS,rfl,rfl,?_,(r.trans (s.mono oo)).grown O oo (λk R=>(OV.block (g.below s oo) k R).1)⟩,mD u⟩;rw[OU x 8 q d, <-jE];exact W
  .obtain rfl:q=8:=by omega
   refine ax oo (RY (aR oo oo ⟨⟨p+1,G,L,b,ivS,rfl,?_,r⟩,mD S⟩));rw[y];rw[tL (l:=bf x 8) (i:=8) (by rw[bE];exact Nat.le_refl _)]at g;exact g
 .obtain rfl:p=6:=by omega
  refine ax oo (RX (h w3 _ _ _ ?_ C));rw[tL oo]at A;exact A
def zjW{V:List Int}{n k:Nat}(D:V.length=6)(B:∀v∈V,0<=v/\v<18446744073709551616)(E:blk w b 101 [.slice a n c])(u:RB w a n c (eE (km V)))(P:k<6)(h:K (u6 (V.getD k 0)) w):call Q 81 #[iv (k:Nat),pB b] K w:=by
 have G:=u.len;rw[wM,D]at G;have y:V[k]? = some V[k]:=gE oo;obtain⟨A,I⟩:=B V[k] (List.getElem_mem _);rw[oN,y,Option.getD_some]at h;have o:eE (km V)=eE ((km V).take k)++bf V[k].toNat 8++eE ((km V).drop (k+1)):=Z8 (by unfold km;rw[qC,y];rfl);have R:(eE ((km V).take k)).length=8*k:=by
  rw[show (km V).take k=km (V.take k)by unfold km;rw[List.map_take],wM,qA];omega
 generalize V[k]=v at h A I o;obtain⟨x,rfl⟩:=Int.eq_ofNat_of_zero_le A;rw[oQ]at o;refine aj (goK func81) (Xk (lK (v:=.slice a n c) E rfl (Nx oo oo ?_)));rw[show (k:Int)*8=((8*k:Nat):Int)by omega];refine zc0 (l:=8*k) (m:=n) u (.inr ⟨_,rfl⟩) (.inl ⟨rfl,rfl⟩) oo oA λL H=>?_
 refine zc0 (l:=0) (m:=8) H (.inl ⟨rfl,rfl⟩) (.inr ⟨_,rfl⟩) oo oo λM z=>?_;have e:(((eE (km V)).take n).drop (8*k)).take 8=bf x 8:=by
  have C:(eE (km V)).length<=n:=by rw[wM];omega
  rw[tL C,o,jE,List.drop_append_of_le_length oo,oS oo,oV,qJ (by rw[bE];omega),tL (by rw[bE];omega)]
 rw[oX,e]at z;refine wW <|TX (Inv:=λn i J=>∃j:Nat,j<=8/\i=ci j/\n=.int .u64 (ey ((bf x 8).take j):Nat)/\J=w) (μ:=λ_ i _=>8-(intOf i).toNat) ⟨0,qG _,rfl,rfl,rfl⟩ ?_;rintro _ _ N _ m ⟨j,O,rfl,rfl,rfl⟩ F;refine aL ?_;by_cases r:j<8
 .refine ay oo (zeZ z oo oo λd=>ld8 d (Cc oo (dE underlying5 underlying36 ?_)));have t:=Mz ((bf x 8).take j);have s:((bf x 8).take j).length=j:=by rw[qA,bE];omega
  rw[s]at t;have g:ey ((bf x 8).take j)<72057594037927936:=by
   have:256 ^ j<=256 ^ 7:=Nat.pow_le_pow_right oo oo
   omega
  generalize q:(bf x 8).getD (((j:Nat):Int)).toNat 0=cc;have p:=cc.toNat_lt;refine Ul ?_;rw[eJ (cc.toNat:Int),show (cc.toNat:Int)%18446744073709551616=((cc.toNat:Nat):Int)by omega,WN g oo];have f:(bf x 8).getD j 0=cc:=by simpa using q
  refine aR oo oo ⟨⟨j+1,r,ivS,?_,rfl⟩,mD F⟩;rw[XN _ _ (by rw[bE];omega),Uk,f]
 .obtain rfl:j=8:=by omega
  refine ax oo (TY ?_);rw[tL (by rw[bE];omega),HF,Nat.mod_eq_of_lt oo];exact h
def zkN{V:List Int}{n:Nat}(d:V.length=6)(F:∀v∈V,0<=v/\v<18446744073709551616)(t:leV V (List.replicate 6 1099511627776)=true)(B:RB w a n c (eE (km V)))(h:nX w (K (.tuple #[.agg (vCs V).toArray,ci 0]))):call Q 67 #[.slice a n c] K w:=by
 have H:=B.len;rw[wM,d]at H;refine aj (goK func67) (zap (bu λf o m O=>?_));have o:blk f w.heap.size 101 [.slice a n c]:=o;refine bO (z:=.agg (vCs [0,0,0,0,0,0]).toArray) kr λu p x P=>?_;have p:=cZ p
 have g:=ae x o o.lt;have b:=tB m x;refine lK (v:=.slice a n c) g rfl (wW (aZ (ax oo ?_)));have M:RB u a n c (eE (km V)):=RV.below B b oA;refine Xg d (λk G C l a s => bS (all:=#[iv (k:Nat),pB w.heap.size]) rfl (zjW d F (ae l g g.lt) (RV.below M l oA) G (s C (jU _ _)))) λC l=>?_;have N:=ae l p p.lt
 refine eW (n:=6) (vs:=vCs V) kr (by rw[bh];exact d) N (by show 0+6<=6;omega) (by simp[vCs,u6,Value.oneCell']) λw4 i J=>?_;have i:blk w4 f.heap.size 38 (vCs V):=by
  rw[qY,oV,oS (by show 6<=0+6;omega),oW]at i;exact i
 have e:∀{y:oG} {K:KV},blk y f.heap.size 38 (vCs V)->K (.agg (vCs V).toArray) y->ld Q 38 (pB f.heap.size) K y:=λI r=>ldA (n:=6) (vs:=vCs V) underlying38 rfl kr I (dTk (by rw[bh];omega)) (by rw[bh];exact d) r;refine e i (zaq d λR A=>bc ?_);rw[t];have E:=ae A i i.lt;have j:=aD (l.mono oo) J oA
 refine aA (e E (eW (n:=6) (vs:=vCs V) kr (by rw[bh];exact d) E (by rw[bh];omega) (by simp[vCs,u6,Value.oneCell']) λD q L=>?_));have q:blk D f.heap.size 38 (vCs V):=by
  rw[qY,oV,oS (by rw[bh];omega),oW]at q;exact q
 exact ze (v:=.agg (vCs V).toArray) (λ_ r=>e q r) (h D (aD ((b.trans (j.mono m.size)).trans (A.mono (by have:=b.size;have:=j.size;omega))) L m.size))
section
open Go.ChangeMaps
def ZR{V:List Int}{W:HM}{k:Nat}(c:k<6)(h:∀f,dA W ((k:Int)+1,V.getD k 0+1)=some f->fS V f=false):dJ V W (6-k)=dJ V W (6-(k+1)):=by
 obtain⟨j,b⟩:∃j,6-k=j+1:=⟨5-k,by omega⟩
 rw[b,show 6-(k+1)=j by omega];show (match dA W (((5-j:Nat):Int)+1,V.getD (5-j) 0+1)with|some e=>if fS V e=true then some e else dJ V W j|none=>dJ V W j)=_;rw[show 5-j=k by omega];cases a:dA W ((k:Int)+1,V.getD k 0+1)with
 | none=>rfl
 | some f=>show (if _ then _ else _)=_;rw[oI (by rw[h f a];simp)]
def zft{V:List Int}{W:HM}{k:Nat}{f:EV}(c:k<6)(a:dA W ((k:Int)+1,V.getD k 0+1)=some f)(h:fS V f=true):dJ V W (6-k)=some f:=by
 obtain⟨j,b⟩:∃j,6-k=j+1:=⟨5-k,by omega⟩
 rw[b];show (match dA W (((5-j:Nat):Int)+1,V.getD (5-j) 0+1)with|some e=>if fS V e=true then some e else dJ V W j|none=>dJ V W j)=_;rw[show 5-j=k by omega,a];show (if _ then _ else _)=_;rw[oJ h]
section
variable {p:Nat}{W:HM}{V:List Int}{e:EV}
def zh8(h:HoM w p m W)(M:V.length=6)(hv:∀k,k<6->0<=V.getD k 0/\V.getD k 0<M40)(aa:∀x∈W,x.1=nY x.2)(ag:∀x∈W,vC V x.2=false)(no:dJ V W 6=none->nX w (K (.tuple #[evV evZ,.bool false])))(aH:∀e,dJ V W 6=some e->∀w',HoM w' p m (ud W (nY e))->Ch [m] w w'->K (.tuple #[evV e,.bool true]) w'):call Q 251 #[pB p,.agg (vCs V).toArray] K w:=by
 have hl:=h.lt;have au:=h.ne;refine aj (goK func251) (Ru ?_);refine zq M λw1 v1 b1 s1=>il λw2 t2 b2 s2=>zb5 (aA (aq (Ec ?_)));have v2:=ae b2 v1 v1.lt;have L:=b1.trans (b2.mono oo);have h2:=h.below L;refine lK (v:=.map (some m)) h2.b rfl (Ql underlying161 h2.mb λw3 ai b3 s3=>?_);generalize hr:w2.heap.size=r at ai s3
 refine Ow (Inv:=λa=>∃D,IT rqV evV a r m W D/\blk a w.heap.size 38 (vCs V)/\blk a w1.heap.size 54 (evC evZ)/\Below w.heap.size w a/\r+1<=a.heap.size) (μ:=λa=>iV a m r)
  ⟨[],ai,ae b3 v2 v2.lt,ae b3 t2 t2.lt,L.trans (b3.mono oo),by omega⟩ ?_
 rintro dd w4 mu ⟨D,az,v4,t4,X,z4⟩ ap;refine PW az oo (λ_=>?_) λx f w5 ad aK ak am o5 aI=>?_
 .refine sU rfl (aA (Oy (tQ M v4 ?_)));refine Ox (Inv:=λi a=>∃k:Nat,i=iv (k:Nat)/\k<=6/\dJ V W 6=dJ V W (6-k)/\blk a w.heap.size 38 (vCs V)/\blk a w1.heap.size 54 (evC evZ)/\Below w.heap.size w a/\r+1<=a.heap.size) (μ:=λi _=>6-(intOf i).toNat)
   ⟨0,rfl,by omega,rfl,v4,t4,X,z4⟩ ?_
  rintro _ dd w5 mu2 ⟨k,rfl,hk,hn,J,G,j,z5⟩ af;refine aL ?_;by_cases t:k<6
  .refine ay oo (Yw underlying38 kf kf t (Cs M t) (aR oo oo ?_));have av:=hv k t;simp only[M40]at av;refine xE ?_;rw[eJ,show (V.getD k 0+1)%18446744073709551616=V.getD k 0+1 by omega];refine zgn (x:=((k:Int)+1,V.getD k 0+1)) λR H y s6=>?_;have A:=tB j y;have h6:=h.below A;have v6:=ae y J J.lt
   have t6:=ae y G G.lt;refine aw (λx=>HoM x p m W/\blk x w5.heap.size 286 [iv ((k:Int)+1),u6 (V.getD k 0+1)]) ⟨h6.below (jU _ R).drew,H.drew⟩ ?_;refine hZ (hW Ec (ac (λx d _ g=>lK (v:=.map (some m)) d.1.b rfl g) ?_))
   refine ac (λx d _ g=>zci (x:=((k:Int)+1,V.getD k 0+1)) d.2 g) (ac (v:=.tuple #[evV ((dA W ((k:Int)+1,V.getD k 0+1)).getD evZ),.bool (dA W ((k:Int)+1,V.getD k 0+1)).isSome]) (λx d _ g=>ZJ hkK underlying161 zdb d.1.mb g) ?_);refine hE2 (?_);refine il λw7 t7 u s7=>?_;have T:R.drew.heap.size=R.heap.size:=rfl;have B:=A.drew.trans (u.mono (by rw[T];exact A.size))
   have h7:=h.below B;have k7:=ae u H.drew H.drew.lt;have v7:=ae u v6.drew v6.drew.lt;have aG:=ae u t6.drew t6.drew.lt;have z6:=y.size;have lv:=J.lt;have lt:=G.lt;refine aB ⟨h7,k7⟩ (eX t7 λw8 t8 o=>?_);have s8:=o.size;have C:=aD B o (by rw[T];exact A.size);have h8:=h.below C;have k8:=o.blk k7 (by rw[T];omega);have v8:=o.blk v7 (by rw[T];omega)
   have P:=o.blk aG (by rw[T];omega);have z8:r+1<=w8.heap.size:=by rw[s8,s7,T];omega
   refine aB ⟨h8,k8⟩ ?_;have next:∀a,dJ V W (6-k)=dJ V W (6-(k+1))->blk a w.heap.size 38 (vCs V)->blk a w1.heap.size 54 (evC evZ)->Below w.heap.size w a->r+1<=a.heap.size ->
     (∃k':Nat,iv ((k:Int)+1)=iv (k':Nat)/\k'<=6/\dJ V W 6=dJ V W (6-k')/\blk a w.heap.size 38 (vCs V)/\blk a w1.heap.size 54 (evC evZ)/\Below w.heap.size w a/\r+1<=a.heap.size)/\6-(intOf (iv ((k:Int)+1))).toNat<mu2:=λa e1 e2 e3 e4 e5 =>
    ⟨⟨k+1,ivS,by omega,hn.trans e1,e2,e3,e4,e5⟩,by rw[af];show 6-((k:Int)+1).toNat<6-((k:Nat):Int).toNat;omega⟩
   cases Z:dA W ((k:Int)+1,V.getD k 0+1)with
   | none =>
    refine kj (bZ (DL (aA (DM (aR oo oo ?_)))));exact next w8 (ZR t λf Y=>by rw[Z]at Y;cases Y) v8 P C z8
   | some f =>
    rw[Z]at t8;refine kN (tQ M v8 (dh (e:=f) t8 (Tx M (λk a=>(hv k a).1) λw9 S=>cA ?_)));have s:=tB C S;refine DL ?_;have v9:=ae S v8 v8.lt;have U:=ae S P P.lt;cases ah:fS V f with
    | false =>
     refine aA (DM (aR oo oo ?_));exact next w9 (ZR t λa Y=>by rw[Z]at Y;cases Y;exact ah) v9 U s (qR z8 S.size)
    | true =>
     have ar:dJ V W 6=some f:=hn.trans (zft t Z ah);have ao:nY f=((k:Int)+1,V.getD k 0+1):=(aa _ (wY Z)).symm;have h9:=(h.below s).below (jU _ w9).drew;have k9:=(ae S k8 k8.lt).drew;have f9:=(ae S t8 t8.lt).drew;refine aV (aw (λx=>HoM x p m W/\blk x w5.heap.size 286 [iv ((k:Int)+1),u6 (V.getD k 0+1)]) ⟨h9,k9⟩ ?_)
     refine hZ (hW Ec (ac (λx d _ g=>lK (v:=.map (some m)) d.1.b rfl g) ?_));refine ac (λx d _ g=>zci (x:=((k:Int)+1,V.getD k 0+1)) d.2 g) ?_;refine zd0 hkK underlying161 h9.mb λw10 aE F=>?_;have ab:∀{q:Nat} {E:TypeId} {cs:oE},blk w9.drew q E cs->q≠m:=λhb e=>by
      obtain⟨es,c,hm⟩:=h9.mb;unfold blk at hb;rw[e,hm.heap]at hb;cases hb
     refine dh (F.blk f9 (ab f9)) (eX (F.blk U.drew (ab U.drew)) λal aF O=>?_);refine zga aF (aH f ar al ?_ ?_)
     .rw[ao];exact⟨O.blk (F.blk h9.b au) oo,aE.oth O oo⟩
     .have hc:Ch [m] w w10:=(Ch.of_below s.drew:Ch [m] w w9.drew).trans (Ch.of_oth F oB:Ch [m] w9.drew w10) oB;exact hc.trans (Ch.of_oth O oB:Ch [w1.heap.size] w10 al) (by simp;omega)
  .have an:k=6:=by omega
   subst an;refine ax oo (Oz ?_);refine ck (vs:=evC evZ) kr (eX (e':=evZ) G λR t6 o6=>?_);exact zga t6 (no hn R (aD j o6 oo))
 .refine sU rfl (aV (Ph am (bo (bj ?_))));have aJ:=ak.lt;refine bO (z:=.agg #[iv 0,u6 0]) kr λR H y s6=>il λw7 f7 u s7=>?_;have H:=cZ H
  have k7:=ae u H H.lt;have aM:=o5.size;have J:=o5.blk v4 (by have:=v2.lt;omega);have G:=o5.blk t4 (by have:=t2.lt;omega);have j:=aD X o5 (by have:=L.size;omega);have B:=(tB j y).trans (u.mono (by have:=j.size;omega));have aC:=(ak.below y).below u;have v7:=ae u (ae y J J.lt) (by have:=J.lt;omega);have t7:=ae u (ae y G G.lt) (by have:=G.lt;omega)
  refine eW (n:=2) (vs:=[iv x.1,u6 x.2]) kr rfl k7 (by show 0+2<=2;omega) (by simp[u6,iv,Value.oneCell']) λw8 k8 o=>?_;have f8:=o.blk f7 oo;refine eX (e':=f) f8 λw9 f9 I=>?_;have aN:=o.size;have aO:=I.size;have lv:=J.lt;have lt:=G.lt;have v9:=I.blk (o.blk v7 oo) oo;have U:=I.blk (o.blk t7 oo) oo
  have s:=aD (aD B o (by have:=j.size;omega)) I (by have:=j.size;omega);have N:=aC.kept ((I.other m oo).trans (o.other m oo)) ((I.other r oo).trans (o.other r oo));refine tQ M v9 (dh f9 (R8 M λw10 l=>?_));rw[ag _ ad];refine aA ⟨⟨D++[x],N.below l,ae l v9 v9.lt,ae l U U.lt,tB s l,by have:=l.size;omega⟩,?_⟩;rw[ap]
  have e1:iV w10 m r=iV w5 m r:=xd ((l.block m N.lt.2).trans ((I.other m oo).trans ((o.other m oo).trans ((u.block m oo).trans (y.block m oo))))) ((l.block r N.lt.1).trans ((I.other r oo).trans ((o.other r oo).trans ((u.block r oo).trans (y.block r oo)))));omega
end
end
end
end Go.Proofs.YtpaghmnnhedccaaGreatDoor
