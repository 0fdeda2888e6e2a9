import Derived.DeepKeys
import Derived.Test.YtpaghmnnhedccaaGreatDoorQ3
set_option linter.all false
namespace Go.Proofs.YtpaghmnnhedccaaGreatDoor
set_option maxRecDepth 100000
set_option maxHeartbeats 4000000
open Go.Proofs.Tryz
open Go.RowKit
variable {w w' w2 S O:oG}{K:KV}{zf:Nat->oF}{b c o i g m s j f z d c2 D B' hi:Nat}{a av a2:Option Addr}{x v r:Int}{E t e:TypeId}{A:List Int}{B1 N R:KE}{xs ys vs:oE}{cx cy:Bool}{T:List (Int×Int)}{k':IntKind}{X1 Z1 N2 O2 P2 Q2 R2 T2 U2 V2 X2 N3 O3 P3 H Z U Y J C:oF}
def tG(b a d c e:oF)(zf:oD):=b::zT zf 1 5 (a::d::c::e::zT zf 10 46 ([]))
def tH(b a d c:oF)(zf:oD):=b::zT zf 1 5 (a::d::c::zT zf 9 47 ([]))
def tI(b a d c:oF)(zf:oD):=b::zT zf 1 5 (a::d::zf 8::zf 9::c::zT zf 11 45 ([]))
def dI(K:KV):KE:=kZ f130 [1,1,1,1] K
def jy(K:KV):KE:=ai Q (cd f130 (b1 122)) (dI K) (xx xf (dI K) 0) (rk f130 K)
def jz(K:KV):KE:=ai Q (cd f130 (b1 126)) (rk f130 K) (xx xf (rk f130 K) 2) (rk f130 K)
def Ca(h:bF .sub 3 Z H (λc=>bT .sub 3 c (ci 1) λa=>bT .quo 3 a (ci 2) λb=>jy K (tG U H (ci 0) c b (zV (zV zu 1 [H,Z]) 11 [H,Z,H,c,c,a,b]))) w):Gives Q 130 #[U,H,Z] w K:=au func130 kr (mpK h)
def AH(Inv:oF->oG->Prop)(μ:oF->oG->Nat)(e:Inv J w)(f:∀(a:oF) (d:oD) (w:oG) (m:Nat),Inv a w->m=μ a w ->
  bT .geq 3 a (ci 0) (λb w=>cond b (call Q 140 #[Z,a,H,U] (λ_=>bT .sub 3 a (ci 1) λc w=>(Inv c w)/\((μ c w)<m)) w) (dI K (tH Z U Y H (zV (zV d 9 [a]) 18 [a,b])) w)) w):jy K (tG Z U Y H J zf) w:=by refine lV (cd f130 (b1 244)) [(9,1),(18,9)] 9 zf e f ?_;intro g i;exact mpF
def AJ(h:bT .sub 3 H (ci 1) (λa=>jz K (tI U Y Z a (zV (zV zf 8 [H]) 27 [H,a]))) w):dI K (tH U Y Z H zf) w:=mpK h
def AI(Inv:oF->oG->Prop)(μ:oF->oG->Nat)(q:Inv Y w)(r:∀(a:oF) (t:oD) (w:oG) (m:Nat),Inv a w->m=μ a w ->
  bT .geq 3 a (ci 0) (λd w=>cond d (aF (λS w=>hld (λ_=>True) (bF .add 3 Z a) λe=>hld (λ_=>True) (bF .add 3 Z a) λf=>hI S 187 H f λg=>hL S 36 g λi=>hI S 187 H Z λj=>hL S 36 j λk=>hI S 187 H Z λl=>sto Q 36 l i (λ_=>aF λS w=>hI S 187 H e λn=>sto Q 36 n k (λ_=>call Q 140 #[H,U,a,Z] λ_=>bT .sub 3 a (ci 1) λb w=>(Inv b w)/\((μ b w)<m)) w) w) w.drew) (K (.tuple #[]) w)) w):jz K (tI H Z U Y zf) w:=by refine dC (cd f130 (b1 252)) (zr [(10,1),(29,27)]) kr (vP [10] Inv) (vQ [10] μ) q ?_;intro p s hI;have h:=r _ (zM zf (gd p) (zr [(10,1),(29,27)])) s _ hI rfl;exact mpK h
attribute [irreducible] dI jy jz
def nJ(b d a c:oF)(zf:oD):=b::zf 1::d::a::zT zf 4 4 (c::zT zf 9 67 ([]))
def tJ(c e b d a f:oF)(zf:oD):=c::zf 1::e::b::zT zf 4 4 (d::a::zT zf 10 26 (f::zT zf 37 39 ([])))
def ka(c e b d a:oF)(zf:oD):=c::zf 1::e::b::zT zf 4 4 (d::a::zT zf 10 66 ([]))
def kb(K:KV):KE:=ai Q (cd f140 [1,0]) (rk f140 K) (xx xf (rk f140 K) 0) (rk f140 K)
def dl(K:KV)(B1:KE):KE:=kY f140 (b1 199) B1 (xx (xx xf (rk f140 K) 0) B1 1) K
def gA(K:KV)(B1:KE):KE:=ai Q (cd f140 (b1 397)) (dl K B1) (xx (xx xf (rk f140 K) 0) B1 1) (rk f140 K)
def Cb(h:kb K (nJ U Y Z H (zV (zV zu 1 [H]) 10 [H])) w):Gives Q 140 #[U,H,Y,Z] w K:=au func140 kr (mpK h)
def AL(Inv:oF->oG->Prop)(μ:oF->oG->Nat)(y:Inv Y w)(A:∀(b:oF) (x:oD) (w:oG) (m:Nat),Inv b w->m=μ b w ->
  bin Q .mul 3 true false (ci 2) b (λf=>nC f λc=>bF .geq 3 c U λg w=>cond g (K (.tuple #[]) w) (sti (bT .add 3 c (ci 1)) (λi=>sti (bF .lss 3 i U) λd w=>aM d true (λs=>sti (bF .add 3 H c) (λj=>sI 187 Z j λl=>sL 36 l λn=>sti (bF .add 3 H c) λo=>sti (bT .add 3 o (ci 1)) λp=>sI 187 Z p λq=>sL 36 q λr=>sti (call Q 135 #[n,r]) λt=>s [Z,H,c,j,l,n,Z,H,c,o,p,q,r,t]) w) (λk=>k [uu,uu,uu,uu,uu,uu,uu,uu,uu,uu,uu,uu,uu,uu] w) λa=>sti (pick d (gd a 13) cF) λJ=>gA K (λe S=>(Inv (gd e 8) S)/\((μ (gd e 8) S)<m)) (tJ Z U H b c J (zV x 11 [b,f,c,c,U,g,c,i,U,d,d,gd a 0,gd a 1,gd a 2,gd a 3,gd a 4,gd a 5,gd a 6,gd a 7,gd a 8,gd a 9,gd a 10,gd a 11,gd a 12,gd a 13]))) w.drew)) w):kb K (nJ Z U H Y zf) w:=by refine dC (cd f140 [1,0,0]) (zr [(8,2),(11,65)]) kr (vP [8] Inv) (vQ [8] μ) y ?_;intro u v z;have h:=A _ (zM zf (gd u) (zr [(8,2),(11,65)])) v _ z rfl;refine Eq.mp (qH (λc=>ai Q c _ _ _ _ v) (by kernel_rfl:(rep (b1 45) (cd f140 (b1 397)) (cd f140 [1,0,0]))=(cd f140 [1,0,0]))) ?_;revert h;delta gA dl;generalize (cd f140 (b1 397))=xc0;exact mpF
def sh(h:cond Z (nC H (λa=>dl K B1 (ka J C U Y a (zV zf 36 [Z,H,a]))) w) (dl K B1 (ka J C U Y H (zV zf 36 [Z])) w)):gA K B1 (tJ J C U Y H Z zf) w:=by delta gA;revert h;exact mpF
def AM(h:aF (λS w=>hld (λ_=>True) (bF .add 3 H Y) λa=>hI S 187 Z a λb=>hL S 36 b λc=>hld (λ_=>True) (bF .add 3 H U) λd=>hI S 187 Z d λe=>hL S 36 e λf=>call Q 135 #[c,f] (λg=>aF λS w=>hld S (un Q .not g) λi=>cond i (K (.tuple #[]) w) (aF (λS w=>hld (λ_=>True) (bF .add 3 H Y) λj=>hld (λ_=>True) (bF .add 3 H U) λk=>hld (λ_=>True) (bF .add 3 H U) λl=>hI S 187 Z l λm=>hL S 36 m λn=>hld (λ_=>True) (bF .add 3 H Y) λo=>hI S 187 Z o λp=>hL S 36 p λq=>hI S 187 Z j λr=>sto Q 36 r n (λ_=>aF λS w=>hI S 187 Z k λs=>sto Q 36 s q (λ_=>B1 (nJ Z J H U (zV (zV zf 9 [U]) 39 [Z,H,Y,a,b,c,Z,H,U,d,e,f,g,i,Z,H,Y,j,Z,H,U,k,Z,H,U,l,m,n,Z,H,Y,o,p,q,r,s,U]))) w) w) w.drew)) w) w.drew):dl K B1 (ka Z J H Y U zf) w:=mpK h
attribute [irreducible] kb dl gA
def rE(a b c:oF)(zf:oD):=a::zT zf 1 5 (b::c::zT zf 8 24 ([]))
def iw(K:KV):KE:=ai Q (cd f133 [1,1,0]) (rk f133 K) (xx xf (rk f133 K) 0) (rk f133 K)
def zo(h:bT .sub 3 H (ci 1) (λa=>iw K (rE U Z a (zV (zV zu 1 [Z,H]) 8 [Z,H,a]))) w):Gives Q 133 #[U,Z,H] w K:=au func133 kr (mpK h)
def xR(Inv:oF->oF->oG->Prop)(μ:oF->oF->oG->Nat)(p:Inv U Z w)(q:∀(a b:oF) (s:oD) (w:oG) (m:Nat),Inv a b w->m=μ a b w ->
  lS a b (λc w=>cond c (aF (λS w=>hI S 187 H b λg=>hL S 36 g λi=>hI S 187 H a λj=>hL S 36 j λk=>hI S 187 H a λl=>sto Q 36 l i (λ_=>aF λS w=>hI S 187 H b λn=>sto Q 36 n k (λ_=>nC a λd=>bT .sub 3 b (ci 1) λe w=>(Inv d e w)/\((μ d e w)<m)) w) w) w.drew) (K (.tuple #[]) w)) w):iw K (rE H U Z zf) w:=by refine dC (cd f133 [1,1,0,0]) (zr [(6,2),(11,21)]) kr (vP [6,7] Inv) (vQ [6,7] μ) p ?_;intro f r hI;have h:=q _ _ (zM zf (gd f) (zr [(6,2),(11,21)])) r _ hI rfl;exact mpK h
attribute [irreducible] iw
def aI(a d b c:oF)(zf:oD):=a::d::zT zf 2 8 (b::c::zT zf 12 156 ([]))
def sx(a c b:oF)(zf:oD):=a::c::zT zf 2 9 (b::zT zf 12 156 ([]))
def cW(K:KV):KE:=kZ f137 [1,1,1,1] K
def jd(K:KV):KE:=ai Q (cd f137 (b1 60)) (cW K) (xx xf (cW K) 0) (rk f137 K)
def cY(K:KV):KE:=kZ f137 (b1 63) K
def je(K:KV):KE:=ai Q (cd f137 (b1 124)) (cY K) (xx xf (cY K) 2) (rk f137 K)
def gg(K:KV):KE:=ai Q (cd f137 (b1 255)) (rk f137 K) xf (rk f137 K)
def bQ(K:KV):KE:=kZ f137 (b1 2047) K
def jf(K:KV):KE:=ai Q (cd f137 (b1 4092)) (bQ K) (xx xf (bQ K) 4) (rk f137 K)
def db(K:KV)(B1:KE):KE:=kY f137 (b1 32737) B1 (xx (xx xf (bQ K) 4) B1 5) K
def gh(K:KV)(B1:KE):KE:=ai Q (cd f137 (b1 65472)) (db K B1) (xx (xx (xx xf (bQ K) 4) B1 5) (db K B1) 6) (rk f137 K)
def de(K:KV)(B1:KE):KE:=kY f137 (b1 65475) B1 (xx (xx xf (bQ K) 4) B1 5) K
def jg(K:KV)(B1:KE):KE:=ai Q (cd f137 (b1 130948)) (de K B1) (xx (xx (xx xf (bQ K) 4) B1 5) (de K B1) 8) (rk f137 K)
def Bc(h:aF (λS w=>hI S 187 H U λa=>hL S 36 a λb=>hI S 187 H Z λc=>hL S 36 c λd=>hI S 187 H Z λe=>sto Q 36 e b (λ_=>aF λS w=>hI S 187 H U λf=>sto Q 36 f d (λ_=>nC Z λg=>bT .sub 3 Y (ci 1) λi=>jd K (aI H Z g i (zV (zV (zV zu 2 [Y,U]) 8 [ci 0,cF]) 12 [H,Z,H,U,H,U,a,b,H,Z,c,d,e,f,Z,g,Y,i]))) w) w) w.drew):Gives Q 137 #[H,Z,Y,U] w K:=au func137 kr (mpK h)
def zW(Inv:oF->oG->Prop)(μ:oF->oG->Nat)(p:Inv Y w)(q:∀(b:oF) (o:oD) (w:oG) (m:Nat),Inv b w->m=μ b w ->
  sti (bF .leq 3 b Z) (λc w=>aM c true (λl=>sI 187 H b (λd=>sL 36 d λe=>sI 187 H U λf=>sL 36 f λg=>sti (call Q 135 #[e,g]) λn=>l [H,b,d,e,H,U,f,g,n]) w) (λk=>k [uu,uu,uu,uu,uu,uu,uu,uu,uu] w) λa=>sti (pick c (gd a 8) cF) λi w=>cond i (nC b (λj w=>(Inv j w)/\((μ j w)<m)) w) (cW K (aI H U b Z (zV o 30 [b,Z,c,c,gd a 0,gd a 1,gd a 2,gd a 3,gd a 4,gd a 5,gd a 6,gd a 7,gd a 8,i])) w)) w.drew):jd K (aI H U Y Z zf) w:=by refine lV (cd f137 (b1 120)) [(10,1),(30,16)] 10 zf p q ?_;intro r s;exact mpF
def Ab(h:je K (aI U Y H Z zf) w):cW K (aI U Y H Z zf) w:=mpK h
def zX(Inv:oF->oG->Prop)(μ:oF->oG->Nat)(q:Inv Y w)(r:∀(b:oF) (p:oD) (w:oG) (m:Nat),Inv b w->m=μ b w ->
  sti (bF .leq 3 Z b) (λc w=>aM c true (λn=>sI 187 H b (λd=>sL 36 d λe=>sI 187 H U λf=>sL 36 f λg=>sti (call Q 135 #[e,g]) λi=>sti (un Q .not i) λo=>n [H,b,d,e,H,U,f,g,i,o]) w) (λk=>k [uu,uu,uu,uu,uu,uu,uu,uu,uu,uu] w) λa=>sti (pick c (gd a 9) cF) λj w=>cond j (bT .sub 3 b (ci 1) (λl w=>(Inv l w)/\((μ l w)<m)) w) (cY K (aI H U Z b (zV p 46 [Z,b,c,c,gd a 0,gd a 1,gd a 2,gd a 3,gd a 4,gd a 5,gd a 6,gd a 7,gd a 8,gd a 9,j])) w)) w.drew):je K (aI H U Z Y zf) w:=by refine lV (cd f137 (b1 248)) [(11,1),(46,17)] 11 zf q r ?_;intro s t;exact mpF
def Ac(h:bF .gtr 3 U Z (λa w=>cond a (aF (λS w=>hI S 187 H Y λi=>hL S 36 i λj=>hI S 187 H Z λk=>hL S 36 k λl=>hI S 187 H Z λm=>sto Q 36 m j (λ_=>aF λS w=>hI S 187 H Y λn=>sto Q 36 n l (λ_=>K (.tuple #[Z,cT])) w) w) w.drew) (aF (λS w=>hI S 187 H Z λb=>hL S 36 b λc=>hI S 187 H U λd=>hL S 36 d λe=>hI S 187 H U λf=>sto Q 36 f c (λ_=>aF λS w=>hI S 187 H Z λg=>sto Q 36 g e (λ_=>gg K (aI H Y U Z (zV (zV zf 63 [U,Z,a]) 81 [H,U,H,Z,H,Z,b,c,H,U,d,e,f,g]))) w) w) w.drew)) w):cY K (aI H Y U Z zf) w:=by delta cY;refine rpT [1,1] (cd f137 (b1 255)) (cd f137 (b1 63)) ?_;revert h;delta gg;generalize (cd f137 (b1 255))=xc0;exact mpF
def zU(h:nC H (λa=>bT .sub 3 Z (ci 1) λb=>jf K (aI U Y a b (zV zf 95 [H,a,Z,b]))) w):gg K (aI U Y H Z zf) w:=mpK h
def zY(Inv:oF->oF->oG->Prop)(μ:oF->oF->oG->Nat)(e:Inv H Z w)(f:∀(a b:oF) (d:oD) (w:oG) (m:Nat),Inv a b w->m=μ a b w ->
  gh K (λc S=>(Inv (gd c 10) (gd c 11) S)/\((μ (gd c 10) (gd c 11) S)<m)) (aI U Y a b d) w):jf K (aI U Y H Z zf) w:=by refine lW (cd f137 (b1 8184)) [(10,2),(99,54)] 10 11 zf e f ?_;intro g i;delta gh db;exact mpF
def zZ(Inv:oF->oG->Prop)(μ:oF->oG->Nat)(p:Inv Y w)(q:∀(b:oF) (o:oD) (w:oG) (m:Nat),Inv b w->m=μ b w ->
  sti (bF .leq 3 b Z) (λc w=>aM c true (λl=>sI 187 H b (λd=>sL 36 d λe=>sI 187 H U λf=>sL 36 f λg=>sti (call Q 135 #[e,g]) λn=>l [H,b,d,e,H,U,f,g,n]) w) (λk=>k [uu,uu,uu,uu,uu,uu,uu,uu,uu] w) λa=>sti (pick c (gd a 8) cF) λi w=>cond i (nC b (λj w=>(Inv j w)/\((μ j w)<m)) w) (db K B1 (aI H U b Z (zV o 99 [b,Z,c,c,gd a 0,gd a 1,gd a 2,gd a 3,gd a 4,gd a 5,gd a 6,gd a 7,gd a 8,i])) w)) w.drew):gh K B1 (aI H U Y Z zf) w:=by refine lV (cd f137 (b1 130944)) [(10,1),(99,16)] 10 zf p q ?_;intro r s;exact mpF
def Ae(h:jg K B1 (aI U Y H Z zf) w):db K B1 (aI U Y H Z zf) w:=mpK h
def Aa(Inv:oF->oG->Prop)(μ:oF->oG->Nat)(q:Inv Y w)(r:∀(b:oF) (p:oD) (w:oG) (m:Nat),Inv b w->m=μ b w ->
  sti (bF .leq 3 Z b) (λc w=>aM c true (λn=>sI 187 H b (λd=>sL 36 d λe=>sI 187 H U λf=>sL 36 f λg=>sti (call Q 135 #[e,g]) λi=>sti (un Q .not i) λo=>n [H,b,d,e,H,U,f,g,i,o]) w) (λk=>k [uu,uu,uu,uu,uu,uu,uu,uu,uu,uu] w) λa=>sti (pick c (gd a 9) cF) λj w=>cond j (bT .sub 3 b (ci 1) (λl w=>(Inv l w)/\((μ l w)<m)) w) (de K B1 (aI H U Z b (zV p 115 [Z,b,c,c,gd a 0,gd a 1,gd a 2,gd a 3,gd a 4,gd a 5,gd a 6,gd a 7,gd a 8,gd a 9,j])) w)) w.drew):jg K B1 (aI H U Z Y zf) w:=by refine lV (cd f137 (b1 261896)) [(11,1),(115,17)] 11 zf q r ?_;intro s t;exact mpF
def Ag(h:bF .gtr 3 H Z (λa w=>cond a (bQ K (sx U Y Z (zV (zV zf 10 [H]) 132 [H,Z,a])) w) (aF (λS w=>hI S 187 U Z λb=>hL S 36 b λc=>hI S 187 U H λd=>hL S 36 d λe=>hI S 187 U H λf=>sto Q 36 f c (λ_=>aF λS w=>hI S 187 U Z λg=>sto Q 36 g e (λ_=>nC H λi=>bT .sub 3 Z (ci 1) λj=>B1 (aI U Y i j (zV zf 132 [H,Z,a,U,H,U,Z,U,Z,b,c,U,H,d,e,f,g,H,i,Z,j]))) w) w) w.drew)) w):de K B1 (aI U Y H Z zf) w:=by delta de;revert h;exact mpF
def Ad(h:aF (λS w=>hI S 187 H U λa=>hL S 36 a λb=>hI S 187 H Z λc=>hL S 36 c λd=>hI S 187 H Z λe=>sto Q 36 e b (λ_=>aF λS w=>hI S 187 H U λf=>sto Q 36 f d (λ_=>K (.tuple #[Z,cF])) w) w) w.drew):bQ K (sx H U Z zf) w:=mpK h
attribute [irreducible] cW jd cY je gg bQ jf db gh de jg
def wk(h:lN 187 H (λc=>conv Q 3 147 c λa=>call Q 92 #[a] λb=>call Q 121 #[H,ci 0,c,b] λ_=>K (.tuple #[])) w):Gives Q 106 #[H] w K:=au func106 kr (mpK h)
def dQ(d e f c b a:oF)(zf:oD):=d::e::f::c::zT zf 4 4 (b::a::zT zf 10 124 ([]))
def tR(b c d a:oF)(zf:oD):=b::c::d::a::zT zf 4 130 ([])
def gI(e g h d b a c f:oF)(zf:oD):=e::g::h::d::zT zf 4 4 (b::a::c::zT zf 11 24 (f::zT zf 36 98 ([])))
def fB(e f g d b a c:oF)(zf:oD):=e::f::g::d::zT zf 4 4 (b::a::c::zT zf 11 123 ([]))
def ks(g i j f b a c d e h:oF)(zf:oD):=g::i::j::f::zT zf 4 4 (b::a::c::d::e::zT zf 13 37 (h::zT zf 51 83 ([])))
def fC(g h i f b a c d e:oF)(zf:oD):=g::h::i::f::zT zf 4 4 (b::a::c::d::e::zT zf 13 121 ([]))
def gJ(f h i e b a c d g:oF)(zf:oD):=f::h::i::e::zT zf 4 4 (b::a::c::d::zT zf 12 56 (g::zT zf 69 65 ([])))
def fD(f g h e b a c d:oF)(zf:oD):=f::g::h::e::zT zf 4 4 (b::a::c::d::zT zf 12 122 ([]))
def gK(d f g c b e a:oF)(zf:oD):=d::f::g::c::zT zf 4 6 (b::zT zf 11 3 (e::a::zT zf 16 118 ([])))
def nZ(K:KV):KE:=ai Q (cd f121 [1,1,0]) (rk f121 K) (xx xf (rk f121 K) 0) (rk f121 K)
def du(K:KV)(B1:KE):KE:=kY f121 (b1 911) B1 (xx (xx xf (rk f121 K) 0) B1 1) K
def ko(K:KV)(B1:KE):KE:=ai Q (cd f121 (b1 1821)) (du K B1) (xx (xx xf (rk f121 K) 0) B1 1) (rk f121 K)
def dv(K:KV)(B1:KE):KE:=kY f121 (b1 3647) B1 (xx (xx xf (rk f121 K) 0) B1 1) K
def kq(K:KV)(B1:KE):KE:=ai Q (cd f121 (b1 7293)) (dv K B1) (xx (xx xf (rk f121 K) 0) B1 1) (rk f121 K)
def dw(K:KV)(B1:KE):KE:=kY f121 (b1 7295) B1 (xx (xx xf (rk f121 K) 0) B1 1) K
def gG(K:KV)(B1:KE):KE:=ai Q (cd f121 (b1 14589)) (dw K B1) (xx (xx xf (rk f121 K) 0) B1 1) (rk f121 K)
def gH(K:KV)(B1:KE):KE:=ai Q (cd f121 (b1 29183)) B1 (xx (xx xf (rk f121 K) 0) B1 1) (rk f121 K)
abbrev uV(K:KV)(hA0:KE)(data0 a1 b2 limit3:oF)(w:oG):Prop :=
  hA0 (dQ data0 a1 b2 limit3 cT cT zu) w
def Dl(h:uV K (ai Q (cd f121 [1,1,0]) (rk f121 K) (λi=>@Bool.rec (λ_=>KE) ((λ_ _ _=>False) i) (rk f121 K) (Nat.beq i 0)) (rk f121 K)) U Y H Z w):ai Q (cd f121 []) (rk f121 K) xf (rk f121 K) (tR U Y H Z zu) w:=Eq.mp kr h
def tS(h:uV K (nZ K) U Y H Z w):Gives Q 121 #[U,Y,H,Z] w K:=au func121 kr (Eq.mp (qH (λc=>ai Q c (rk f121 K) xf (rk f121 K) (tR U Y H Z zu) w) (by kernel_rfl:(cd f121 [])=(cd f121 []))) (Dl h))
def Bl(B1:KE)(d:Code)(h:bF .sub 3 H Z (λa=>bT .leq 3 a (ci 12) λb w=>cond b (call Q 129 #[J,Z,H] (λ_=>K (.tuple #[])) w) (bT .eql 3 U (ci 0) (λc w=>cond c (call Q 130 #[J,Z,H] (λ_=>K (.tuple #[])) w) (un Q .not Y (λC=>ai Q d (ai Q (cd f121 (b1 911)) B1 (λi=>@Bool.rec (λ_=>KE) ((λi=>@Bool.rec (λ_=>KE) ((λ_ _ _=>False) i) (rk f121 K) (Nat.beq i 0)) i) B1 (Nat.beq i 1)) (rk f121 K)) (λi=>@Bool.rec (λ_=>KE) ((λi=>@Bool.rec (λ_=>KE) ((λ_ _ _=>False) i) (rk f121 K) (Nat.beq i 0)) i) B1 (Nat.beq i 1)) (rk f121 K) (gI J Z H U Y Q2 a C (zV (zV (zV zf 19 [H,Z,a,a,b]) 28 [U,c]) 34 [Y]))) w)) w)) w):ai Q (rep (b1 93) d (cd f121 [1,1,0,0])) B1 (xx xf (rk f121 K) 0) (rk f121 K) (dQ J Z H U Y Q2 zf) w:=Eq.mp kr h
def sG(Inv:vI 5)(μ:vM 5)(n:Inv Z1 Z Y J C w)(q:∀(f g d a b:oF) (l:oD) (w:oG) (m:Nat),Inv f g d a b w->m=μ f g d a b w ->
  bF .sub 3 g f (λi=>bT .leq 3 i (ci 12) λj w=>cond j (call Q 129 #[H,f,g] (λ_=>K (.tuple #[])) w) (bT .eql 3 d (ci 0) (λk w=>cond k (call Q 130 #[H,f,g] (λ_=>K (.tuple #[])) w) (un Q .not a (λU=>ko K (λc S=>(Inv (gd c 1) (gd c 2) (gd c 3) (gd c 8) (gd c 9) S)/\((μ (gd c 1) (gd c 2) (gd c 3) (gd c 8) (gd c 9) S)<m)) (gI H f g d a b i U (zV (zV (zV l 19 [g,f,i,i,j]) 28 [d,k]) 34 [a]))) w)) w)) w):nZ K (dQ H Z1 Z Y J C zf) w:=by
 refine dC (cd f121 [1,1,0,0]) (zr [(1,3),(8,126)]) kr (vP [1,2,3,8,9] Inv) (vQ [1,2,3,8,9] μ) n ?_;intro e O p;have h:=q _ _ _ _ _ (zM zf (gd e) (zr [(1,3),(8,126)])) O _ p rfl
 have o:ai Q (rep (b1 93) (cd f121 (b1 1821)) (cd f121 [1,1,0,0])) (λc S=>Inv (gd c 1) (gd c 2) (gd c 3) (gd c 8) (gd c 9) S/\μ (gd c 1) (gd c 2) (gd c 3) (gd c 8) (gd c 9) S<μ (gd e 1) (gd e 2) (gd e 3) (gd e 8) (gd e 9) O) (xx xf (rk f121 K) 0) (rk f121 K) (dQ H (gd e 1) (gd e 2) (gd e 3) (gd e 8) (gd e 9) (zM zf (gd e) (zr [(1,3),(8,126)]))) O:=Bl (λc S=>Inv (gd c 1) (gd c 2) (gd c 3) (gd c 8) (gd c 9) S/\μ (gd c 1) (gd c 2) (gd c 3) (gd c 8) (gd c 9) S<μ (gd e 1) (gd e 2) (gd e 3) (gd e 8) (gd e 9) O) (cd f121 (b1 1821)) (Eq.mp kr h)
 exact Eq.mp kr o
abbrev sA(K:KV)(B1:KE)(hA0:KE)(X1 Z1 N2 O2 P2 Q2 R2 N3:oF)(zf:oD)(w:oG):Prop :=
  cond N3 (call Q 131 #[X1,Z1,N2] (λa=>bT .sub 3 O2 (ci 1) λb=>hA0 (fB X1 Z1 N2 b P2 Q2 R2 (zV zf 35 [N3,X1,Z1,N2,a,O2,b]))) w) (hA0 (fB X1 Z1 N2 O2 P2 Q2 R2 (zV zf 35 [N3])) w)
def Bd(B1:KE)(a:KE)(h:sA K B1 a X1 Z1 H U Y J C Z zf w):ai Q (cd f121 (b1 1821)) a (xx (xx xf (rk f121 K) 0) B1 1) (rk f121 K) (gI X1 Z1 H U Y J C Z zf) w:=Eq.mp kr h
def Be(h:sA K B1 (du K B1) X1 Z1 H U Y J C Z zf w):ko K B1 (gI X1 Z1 H U Y J C Z zf) w:=by delta ko;exact Eq.mp (qH (λc=>ai Q c (du K B1) (xx (xx xf (rk f121 K) 0) B1 1) (rk f121 K) (gI X1 Z1 H U Y J C Z zf) w) (by kernel_rfl:(cd f121 (b1 1821))=(cd f121 (b1 1821)))) (Bd B1 (du K B1) h)
abbrev sH(K:KV)(B1:KE)(hA0:KE)(X1 Z1 N2 O2 P2 Q2 R2:oF)(zf:oD)(w:oG):Prop :=
  call Q 132 #[X1,Z1,N2] (λa=>ext Q a 0 λb=>ext Q a 1 λc=>bT .eql 233 c (ci 2) λd=>hA0 (ks X1 Z1 N2 O2 P2 Q2 R2 b c d (zV zf 42 [a,X1,Z1,N2,a,b,c,c]))) w
def Bm(B1:KE)(a:Code)(h:sH K B1 (ai Q a (ai Q (cd f121 (b1 3647)) B1 (λi=>@Bool.rec (λ_=>KE) ((λi=>@Bool.rec (λ_=>KE) ((λ_ _ _=>False) i) (rk f121 K) (Nat.beq i 0)) i) B1 (Nat.beq i 1)) (rk f121 K)) (λi=>@Bool.rec (λ_=>KE) ((λi=>@Bool.rec (λ_=>KE) ((λ_ _ _=>False) i) (rk f121 K) (Nat.beq i 0)) i) B1 (Nat.beq i 1)) (rk f121 K)) C Z1 H Z U Y J zf w):ai Q (rep [1,0,1] a (cd f121 (b1 911))) B1 (xx (xx xf (rk f121 K) 0) B1 1) (rk f121 K) (fB C Z1 H Z U Y J zf) w:=Eq.mp kr h
def Bn(h:sH K B1 (kq K B1) C Z1 H Z U Y J zf w):du K B1 (fB C Z1 H Z U Y J zf) w:=by delta du;exact Eq.mp (qH (λc=>ai Q c B1 (xx (xx xf (rk f121 K) 0) B1 1) (rk f121 K) (fB C Z1 H Z U Y J zf) w) (by kernel_rfl:(rep [1,0,1] (cd f121 (b1 7293)) (cd f121 (b1 911)))=(cd f121 (b1 911)))) (Bm B1 (cd f121 (b1 7293)) h)
abbrev sC(K:KV)(B1:KE)(hA0:KE)(X1 Z1 N2 O2 P2 Q2 R2 T2 U2 O3:oF)(zf:oD)(w:oG):Prop :=
  cond O3 (call Q 133 #[X1,Z1,N2] (λa=>bT .sub 3 N2 (ci 1) λb=>bF .sub 3 T2 Z1 λc=>bF .sub 3 b c λd=>hA0 (fC X1 Z1 N2 O2 P2 Q2 R2 d (ci 1) (zV zf 50 [O3,X1,Z1,N2,a,N2,b,T2,Z1,c,d]))) w) (hA0 (fC X1 Z1 N2 O2 P2 Q2 R2 T2 U2 (zV zf 50 [O3])) w)
def Bf(B1:KE)(a:KE)(h:sC K B1 a X1 Z1 H Z Y J C T2 U2 U zf w):ai Q (cd f121 (b1 7293)) a (xx (xx xf (rk f121 K) 0) B1 1) (rk f121 K) (ks X1 Z1 H Z Y J C T2 U2 U zf) w:=Eq.mp kr h
def Bg(h:sC K B1 (dv K B1) X1 Z1 H Z Y J C T2 U2 U zf w):kq K B1 (ks X1 Z1 H Z Y J C T2 U2 U zf) w:=by delta kq;exact Eq.mp (qH (λc=>ai Q c (dv K B1) (xx (xx xf (rk f121 K) 0) B1 1) (rk f121 K) (ks X1 Z1 H Z Y J C T2 U2 U zf) w) (by kernel_rfl:(cd f121 (b1 7293))=(cd f121 (b1 7293)))) (Bf B1 (dv K B1) h)
abbrev sJ(K:KV)(B1:KE)(hA0:KE)(X1 Z1 N2 O2 P2 Q2 R2 T2 U2:oF)(zf:oD)(w:oG):Prop :=
  aM P2 true (λa=>a [Q2] w) (λk=>k [uu] w) λus63=>pick P2 (gd us63 0) cF λt64 w=>aM t64 true (λa=>bT .eql 233 U2 (ci 1) (λb=>a [U2,b]) w) (λk=>k [uu,uu] w) λus66=>pick t64 (gd us66 1) cF λP3=>hA0 (gJ X1 Z1 N2 O2 P2 Q2 R2 T2 P3 (zV (zV zf 12 [U2]) 61 [P2,P2,gd us63 0,t64,t64,gd us66 0,gd us66 1]))
def Bo(B1:KE)(a:Code)(h:sJ K B1 (ai Q a (ai Q (cd f121 (b1 7295)) B1 (λi=>@Bool.rec (λ_=>KE) ((λi=>@Bool.rec (λ_=>KE) ((λ_ _ _=>False) i) (rk f121 K) (Nat.beq i 0)) i) B1 (Nat.beq i 1)) (rk f121 K)) (λi=>@Bool.rec (λ_=>KE) ((λi=>@Bool.rec (λ_=>KE) ((λ_ _ _=>False) i) (rk f121 K) (Nat.beq i 0)) i) B1 (Nat.beq i 1)) (rk f121 K)) X1 Z1 H Z U Y J C U2 zf w):ai Q (rep [0,1] a (cd f121 (b1 3647))) B1 (xx (xx xf (rk f121 K) 0) B1 1) (rk f121 K) (fC X1 Z1 H Z U Y J C U2 zf) w:=Eq.mp kr h
def Bp(h:sJ K B1 (gG K B1) X1 Z1 H Z U Y J C U2 zf w):dv K B1 (fC X1 Z1 H Z U Y J C U2 zf) w:=by delta dv;exact Eq.mp (qH (λc=>ai Q c B1 (xx (xx xf (rk f121 K) 0) B1 1) (rk f121 K) (fC X1 Z1 H Z U Y J C U2 zf) w) (by kernel_rfl:(rep [0,1] (cd f121 (b1 14589)) (cd f121 (b1 3647)))=(cd f121 (b1 3647)))) (Bo B1 (cd f121 (b1 14589)) h)
abbrev sD(K:KV)(B1:KE)(hA0:KE)(X1 Z1 N2 O2 P2 Q2 R2 T2 P3:oF)(zf:oD)(w:oG):Prop :=
  cond P3 (call Q 134 #[X1,Z1,N2] (λa w=>cond a (K (.tuple #[]) w) (hA0 (fD X1 Z1 N2 O2 P2 Q2 R2 T2 (zV zf 68 [P3,X1,Z1,N2,a])) w)) w) (hA0 (fD X1 Z1 N2 O2 P2 Q2 R2 T2 (zV zf 68 [P3])) w)
def Bh(B1:KE)(a:KE)(h:sD K B1 a X1 Z1 H Z U J C T2 Y zf w):ai Q (cd f121 (b1 14589)) a (xx (xx xf (rk f121 K) 0) B1 1) (rk f121 K) (gJ X1 Z1 H Z U J C T2 Y zf) w:=Eq.mp kr h
def Bi(h:sD K B1 (dw K B1) X1 Z1 H Z U J C T2 Y zf w):gG K B1 (gJ X1 Z1 H Z U J C T2 Y zf) w:=by delta gG;exact Eq.mp (qH (λc=>ai Q c (dw K B1) (xx (xx xf (rk f121 K) 0) B1 1) (rk f121 K) (gJ X1 Z1 H Z U J C T2 Y zf) w) (by kernel_rfl:(cd f121 (b1 14589))=(cd f121 (b1 14589)))) (Bh B1 (dw K B1) h)
abbrev sK(K:KV)(B1:KE)(hA0:KE)(X1 Z1 N2 O2 P2 Q2 R2 T2:oF)(zf:oD)(w:oG):Prop :=
  sti (bT .gtr 3 Z1 (ci 0)) (λa w=>aM a true (λa=>sti (bT .sub 3 Z1 (ci 1)) (λb=>sI 187 X1 b λc=>sL 36 c λd=>sI 187 X1 T2 λe=>sL 36 e λf=>sti (call Q 135 #[d,f]) λg=>sti (un Q .not g) λh=>a [X1,Z1,b,c,d,X1,T2,e,f,g,h]) w) (λk=>k [uu,uu,uu,uu,uu,uu,uu,uu,uu,uu,uu] w) λb=>sti (pick a (gd b 10) cF) λc w=>cond c (call Q 136 #[X1,Z1,N2,T2] (λd=>B1 (dQ X1 d N2 O2 P2 Q2 (zV (zV (zV zf 10 [R2,T2]) 13 [d]) 73 [Z1,a,a,gd b 0,gd b 1,gd b 2,gd b 3,gd b 4,gd b 5,gd b 6,gd b 7,gd b 8,gd b 9,gd b 10,c,X1,Z1,N2,T2,d,d]))) w) (call Q 137 #[X1,Z1,N2,T2] (λd=>ext Q d 0 λe=>ext Q d 1 λf=>hA0 (gK X1 Z1 N2 O2 R2 e f (zV (zV (zV (zV zf 8 [P2,Q2]) 11 [T2]) 73 [Z1,a,a,gd b 0,gd b 1,gd b 2,gd b 3,gd b 4,gd b 5,gd b 6,gd b 7,gd b 8,gd b 9,gd b 10,c]) 94 [d,X1,Z1,N2,T2,d,e,f]))) w)) w.drew
def Bq(B1:KE)(a:Code)(h:sK K B1 (ai Q a B1 (λi=>@Bool.rec (λ_=>KE) ((λi=>@Bool.rec (λ_=>KE) ((λ_ _ _=>False) i) (rk f121 K) (Nat.beq i 0)) i) B1 (Nat.beq i 1)) (rk f121 K)) X1 Z1 H Z U Y J C zf w):ai Q (rep [1,1] a (cd f121 (b1 7295))) B1 (xx (xx xf (rk f121 K) 0) B1 1) (rk f121 K) (fD X1 Z1 H Z U Y J C zf) w:=Eq.mp kr h
def Br(h:sK K B1 (gH K B1) X1 Z1 H Z U Y J C zf w):dw K B1 (fD X1 Z1 H Z U Y J C zf) w:=by delta dw;exact Eq.mp (qH (λc=>ai Q c B1 (xx (xx xf (rk f121 K) 0) B1 1) (rk f121 K) (fD X1 Z1 H Z U Y J C zf) w) (by kernel_rfl:(rep [1,1] (cd f121 (b1 29183)) (cd f121 (b1 7295)))=(cd f121 (b1 7295)))) (Bq B1 (cd f121 (b1 29183)) h)
abbrev sE(K:KV)(B1:KE)(X1 Z1 N2 O2 R2 V2 X2:oF)(zf:oD)(w:oG):Prop :=
  bF .sub 3 V2 Z1 (λa=>bF .sub 3 N2 V2 λb=>bT .quo 3 R2 (ci 8) λc=>lS a b λd w=>cond d (bF .geq 3 a c (λe=>call Q 121 #[X1,Z1,V2,O2] λf=>nC V2 λg=>B1 (dQ X1 g N2 O2 e X2 (zV (zV (zV zf 10 [R2]) 14 [V2,X2,a,b,c]) 102 [X2,V2,Z1,a,N2,V2,b,R2,c,a,b,d,a,c,e,X1,Z1,V2,O2,f,V2,g]))) w) (bF .geq 3 b c (λe=>nC V2 λf=>call Q 121 #[X1,f,N2,O2] λg=>B1 (dQ X1 Z1 V2 O2 e X2 (zV (zV (zV (zV zf 10 [R2]) 14 [V2,X2,a,b,c]) 102 [X2,V2,Z1,a,N2,V2,b,R2,c,a,b,d]) 124 [b,c,e,X1,V2,f,N2,O2,g,V2]))) w)) w
def Bj(B1:KE)(h:sE K B1 J Z1 H Z U Y C zf w):ai Q (cd f121 (b1 29183)) B1 (xx (xx xf (rk f121 K) 0) B1 1) (rk f121 K) (gK J Z1 H Z U Y C zf) w:=Eq.mp kr h
def Bk(h:sE K B1 J Z1 H Z U Y C zf w):gH K B1 (gK J Z1 H Z U Y C zf) w:=by delta gH;exact Eq.mp (qH (λc=>ai Q c B1 (xx (xx xf (rk f121 K) 0) B1 1) (rk f121 K) (gK J Z1 H Z U Y C zf) w) (by kernel_rfl:(cd f121 (b1 29183))=(cd f121 (b1 29183)))) (Bj B1 h)
attribute [irreducible] nZ du ko dv kq dw gG gH
def IS(h:cond cF (conv Q 147 220 H (λa=>call Q 115 #[a] K) w) (call Q 116 #[H] K w)):Gives Q 92 #[H] w K:=au func92 kr (mpK h)
def fj(a b c d:oF)(zf:oD):=a::b::c::zT zf 3 3 (d::zT zf 7 42 ([]))
def qr(a b c d e:oF)(zf:oD):=a::b::c::zT zf 3 3 (d::e::zT zf 8 41 ([]))
def gO(K:KV):KE:=ai Q (cd f129 [1,0]) (rk f129 K) (xx xf (rk f129 K) 0) (rk f129 K)
def cz(K:KV)(B1:KE):KE:=kY f129 (b1 51) B1 (xx xf (rk f129 K) 0) K
def gP(K:KV)(B1:KE):KE:=ai Q (cd f129 (b1 402)) (cz K B1) (xx (xx (xx xf (rk f129 K) 0) (cz K B1) 1) (cz K B1) 2) (rk f129 K)
def qs(h:nC H (λa=>gO K (fj U H Z a (zV zu 8 [H,a]))) w):Gives Q 129 #[U,H,Z] w K:=au func129 kr (mpK h)
def py(Inv:oF->oG->Prop)(μ:oF->oG->Nat)(e:Inv Z w)(f:∀(a:oF) (d:oD) (w:oG) (m:Nat),Inv a w->m=μ a w ->
  lS a H (λb w=>cond b (gP K (λc S=>(Inv (gd c 6) S)/\((μ (gd c 6) S)<m)) (qr U Y H a a (zV (zV d 10 [a,H,b]) 15 [a])) w) (K (.tuple #[]) w)) w):gO K (fj U Y H Z zf) w:=by refine lV (cd f129 [1,0,0]) [(6,2),(10,39)] 6 zf e f ?_;intro g i;delta gP cz;exact mpF
def xD(Inv:oF->oG->Prop)(μ:oF->oG->Nat)(z:Inv J w)(A:∀(b:oF) (y:oD) (w:oG) (m:Nat),Inv b w->m=μ b w ->
  sti (bF .gtr 3 b Z) (λc w=>aM c true (λn=>sI 187 H b (λd=>sL 36 d λe=>sti (bT .sub 3 b (ci 1)) λf=>sI 187 H f λg=>sL 36 g λi=>sti (call Q 135 #[e,i]) λo=>n [H,b,d,e,H,b,f,g,i,o]) w) (λk=>k [uu,uu,uu,uu,uu,uu,uu,uu,uu,uu] w) λa=>sti (pick c (gd a 9) cF) λj w=>cond j (aF (λS w=>hld (λ_=>True) (bT .sub 3 b (ci 1)) λp=>hld (λ_=>True) (bT .sub 3 b (ci 1)) λq=>hI S 187 H q λr=>hL S 36 r λs=>hI S 187 H b λt=>hL S 36 t λu=>hI S 187 H b λv=>sto Q 36 v s (λ_=>aF λS w=>hI S 187 H p λx=>sto Q 36 x u (λ_=>bT .sub 3 b (ci 1) λl w=>(Inv l w)/\((μ l w)<m)) w) w) w.drew) (cz K B1 (fj H Z U Y (zV (zV y 7 [b]) 16 [b,Z,c,c,gd a 0,gd a 1,gd a 2,gd a 3,gd a 4,gd a 5,gd a 6,gd a 7,gd a 8,gd a 9,j])) w)) w.drew):gP K B1 (qr H Z U Y J zf) w:=by refine lV (cd f129 (b1 804)) [(7,1),(16,33)] 7 zf z A ?_;intro B C;exact mpF
def pC(h:nC H (λa=>B1 (fj U Y Z a (zV zf 13 [H,a]))) w):cz K B1 (fj U Y Z H zf) w:=mpK h
attribute [irreducible] gO cz gP
def OZ(h:call Q 94 #[Z] (λf w=>aM f true (λi=>call Q 94 #[H] (λg=>un Q .not g λd=>i [H,g,d]) w) (λk=>k [uu,uu,uu] w) λe=>pick f (gd e 2) cF λa w=>aM a false (λc=>bF .lss 36 Z H (λa=>c [Z,H,a]) w) (λk=>k [uu,uu,uu] w) λb=>pick a cT (gd b 2) K) w):Gives Q 135 #[Z,H] w K:=au func135 kr (mpK h)
def DI(h:bF .neq 36 H H K w):Gives Q 94 #[H] w K:=au func94 kr (mpK h)
def uP(b a t4:oF)(zf:oD):=b::zf 1::a::zf 3::t4::zT zf 5 20 ([])
def Fe(a:oF)(zf:oD):=a::zT zf 1 24 ([])
def di(b a:oF)(zf:oD):=b::zf 1::a::zT zf 3 22 ([])
def uQ(c a b:oF)(zf:oD):=c::zf 1::a::zT zf 3 5 (b::zT zf 9 16 ([]))
def uR(b a t14:oF)(zf:oD):=b::zf 1::a::zT zf 3 11 (t14::zT zf 15 10 ([]))
def kR(K:KV):KE:=kZ f116 [1,1] K
def uM(K:KV):KE:=ai Q (cd f116 [1,0,1]) (kR K) xf (rk f116 K)
def kS(K:KV):KE:=kZ f116 [1,1,1] K
def uN(K:KV):KE:=ai Q (cd f116 [1,1,0,1]) (kS K) xf (rk f116 K)
def kU(K:KV):KE:=kZ f116 [1,1,1,1] K
def uO(K:KV):KE:=ai Q (cd f116 (b1 61)) (kU K) xf (rk f116 K)
abbrev Gk(K:KV)(hA0:KE)(x0:oF)(w:oG):Prop :=
  bT .geq 36 x0 (cu 4294967296) (λa=>hA0 (uP x0 (ci 0) a (zV zu 3 [x0]))) w
def RF(a:Code)(h:Gk K (ai Q a (ai Q (cd f116 [1,1]) (rk f116 K) (λ_ _ _=>False) (rk f116 K)) (λ_ _ _=>False) (rk f116 K)) H w):ai Q (rep [1,0,1] a (cd f116 [])) (rk f116 K) xf (rk f116 K) (Fe H zu) w:=Eq.mp kr h
def Ff(h:Gk K (uM K) H w):Gives Q 116 #[H] w K:=au func116 kr (Eq.mp (qH (λc=>ai Q c (rk f116 K) xf (rk f116 K) (Fe H zu) w) (by kernel_rfl:(rep [1,0,1] (cd f116 [1,0,1]) (cd f116 []))=(cd f116 []))) (RF (cd f116 [1,0,1]) h))
abbrev CK(K:KV)(hA0:KE)(X1 Z1 N2:oF)(zf:oD)(w:oG):Prop :=
  cond N2 (bT .shr 36 X1 (cu 32) (λa=>hA0 (di a (ci 32) (zV zf 4 [N2,X1,a]))) w) (hA0 (di X1 Z1 (zV zf 4 [N2])) w)
def Np(a:KE)(h:CK K a Z U H zf w):ai Q (cd f116 [1,0,1]) a xf (rk f116 K) (uP Z U H zf) w:=Eq.mp kr h
def CL(h:CK K (kR K) Z U H zf w):uM K (uP Z U H zf) w:=by delta uM;exact Eq.mp (qH (λc=>ai Q c (kR K) xf (rk f116 K) (uP Z U H zf) w) (by kernel_rfl:(cd f116 [1,0,1])=(cd f116 [1,0,1]))) (Np (kR K) h)
abbrev CR(K:KV)(hA0:KE)(X1 Z1:oF)(zf:oD)(w:oG):Prop :=
  bT .geq 36 X1 (cu 65536) (λa=>hA0 (uQ X1 Z1 a (zV zf 7 [X1]))) w
def Ns(a:Code)(h:CR K (ai Q a (ai Q (cd f116 [1,1,1]) (rk f116 K) (λ_ _ _=>False) (rk f116 K)) (λ_ _ _=>False) (rk f116 K)) H Z zf w):ai Q (rep [0,1] a (cd f116 [1,1])) (rk f116 K) xf (rk f116 K) (di H Z zf) w:=Eq.mp kr h
def CT(h:CR K (uN K) H Z zf w):kR K (di H Z zf) w:=by delta kR;exact Eq.mp (qH (λc=>ai Q c (rk f116 K) xf (rk f116 K) (di H Z zf) w) (by kernel_rfl:(rep [0,1] (cd f116 [1,1,0,1]) (cd f116 [1,1]))=(cd f116 [1,1]))) (Ns (cd f116 [1,1,0,1]) h)
abbrev CN(K:KV)(hA0:KE)(X1 Z1 O2:oF)(zf:oD)(w:oG):Prop :=
  cond O2 (bT .shr 36 X1 (cu 16) (λa=>bT .add 3 Z1 (ci 16) λb=>hA0 (di a b (zV zf 8 [O2,X1,a,Z1,b]))) w) (hA0 (di X1 Z1 (zV zf 8 [O2])) w)
def Nq(a:KE)(h:CN K a Z U H zf w):ai Q (cd f116 [1,1,0,1]) a xf (rk f116 K) (uQ Z U H zf) w:=Eq.mp kr h
def CO(h:CN K (kS K) Z U H zf w):uN K (uQ Z U H zf) w:=by delta uN;exact Eq.mp (qH (λc=>ai Q c (kS K) xf (rk f116 K) (uQ Z U H zf) w) (by kernel_rfl:(cd f116 [1,1,0,1])=(cd f116 [1,1,0,1]))) (Nq (kS K) h)
abbrev CU(K:KV)(hA0:KE)(X1 Z1:oF)(zf:oD)(w:oG):Prop :=
  bT .geq 36 X1 (cu 256) (λa=>hA0 (uR X1 Z1 a (zV zf 13 [X1]))) w
def Nt(a:Code)(h:CU K (ai Q a (ai Q (cd f116 [1,1,1,1]) (rk f116 K) (λ_ _ _=>False) (rk f116 K)) (λ_ _ _=>False) (rk f116 K)) H Z zf w):ai Q (rep [0,1] a (cd f116 [1,1,1])) (rk f116 K) xf (rk f116 K) (di H Z zf) w:=Eq.mp kr h
def CV(h:CU K (uO K) H Z zf w):kS K (di H Z zf) w:=by delta kS;exact Eq.mp (qH (λc=>ai Q c (rk f116 K) xf (rk f116 K) (di H Z zf) w) (by kernel_rfl:(rep [0,1] (cd f116 (b1 61)) (cd f116 [1,1,1]))=(cd f116 [1,1,1]))) (Nt (cd f116 (b1 61)) h)
abbrev CP(K:KV)(hA0:KE)(X1 Z1 P2:oF)(zf:oD)(w:oG):Prop :=
  cond P2 (bT .shr 36 X1 (cu 8) (λa=>bT .add 3 Z1 (ci 8) λb=>hA0 (di a b (zV zf 14 [P2,X1,a,Z1,b]))) w) (hA0 (di X1 Z1 (zV zf 14 [P2])) w)
def Nr(a:KE)(h:CP K a Z U H zf w):ai Q (cd f116 (b1 61)) a xf (rk f116 K) (uR Z U H zf) w:=Eq.mp kr h
def CQ(h:CP K (kU K) Z U H zf w):uO K (uR Z U H zf) w:=by delta uO;exact Eq.mp (qH (λc=>ai Q c (kU K) xf (rk f116 K) (uR Z U H zf) w) (by kernel_rfl:(cd f116 (b1 61))=(cd f116 (b1 61)))) (Nr (kU K) h)
abbrev CW(K:KV)(X1 Z1:oF)(zf:oD)(w:oG):Prop :=
  conv Q 36 5 X1 (λa=>idx Q 9 (Value.string (AA [0,1,2,2,3,3,3,3,4,4,4,4,4,4,4,4,5,5,5,5,5,5,5,5,5,5,5,5,5,5,5,5,6,6,6,6,6,6,6,6,6,6,6,6,6,6,6,6,6,6,6,6,6,6,6,6,6,6,6,6,6,6,6,6,7,7,7,7,7,7,7,7,7,7,7,7,7,7,7,7,7,7,7,7,7,7,7,7,7,7,7,7,7,7,7,7,7,7,7,7,7,7,7,7,7,7,7,7,7,7,7,7,7,7,7,7,7,7,7,7,7,7,7,7,7,7,7,7,8,8,8,8,8,8,8,8,8,8,8,8,8,8,8,8,8,8,8,8,8,8,8,8,8,8,8,8,8,8,8,8,8,8,8,8,8,8,8,8,8,8,8,8,8,8,8,8,8,8,8,8,8,8,8,8,8,8,8,8,8,8,8,8,8,8,8,8,8,8,8,8,8,8,8,8,8,8,8,8,8,8,8,8,8,8,8,8,8,8,8,8,8,8,8,8,8,8,8,8,8,8,8,8,8,8,8,8,8,8,8,8,8,8,8,8,8,8,8,8,8,8,8,8,8,8,8,8])) a λa=>conv Q 5 3 a λa=>bF .add 3 Z1 a K) w
def Nu(h:CW K H Z zf w):ai Q (cd f116 [1,1,1,1]) (rk f116 K) xf (rk f116 K) (di H Z zf) w:=Eq.mp kr h
def CY(h:CW K H Z zf w):kU K (di H Z zf) w:=by delta kU;exact Eq.mp (qH (λc=>ai Q c (rk f116 K) xf (rk f116 K) (di H Z zf) w) (by kernel_rfl:(cd f116 [1,1,1,1])=(cd f116 [1,1,1,1]))) (Nu h)
attribute [irreducible] kR uM kS uN kU uO
def Xd{l:List Int}(h:(od l).2=true):l.all okA=true/\od l=(l.sum,true):=by
 unfold od at *;cases a:l.all okA with
 | true=>exact⟨rfl,rfl⟩
 | false=>rw[a]at h;cases h
def Xc{l:List Int}(h:l.all okA=true):od l=(l.sum,true):=by unfold od;rw[h]
def zah{l:List Int}:(od l).2=true↔l.all okA=true:=⟨λh=>(Xd h).1,λh=>by rw[Xc h]⟩
def r6{p:Nat->Prop}:(∀k∈List.range 6,p k)↔p 0/\p 1/\p 2/\p 3/\p 4/\p 5:=by
 constructor
 .intro h;exact⟨h 0 oB,h 1 oB,h 2 oB,h 3 oB,h 4 oB,h 5 oB⟩
 .rintro⟨a,b,c,d,e,f⟩ k g
  have:k<6:=by simpa using g
  match k,this with
  | 0,_=>exact a
  | 1,_=>exact b
  | 2,_=>exact c
  | 3,_=>exact d
  | 4,_=>exact e
  | 5,_=>exact f
def zbm{k:Nat}:(uc A k).2=true↔okA (nA A k)=true/\okA (nA A (6+k))=true/\okA (nA A (12+k))=true/\(∀j∈List.range 6,okA (nA A (18+6*k+j))=true)/\∀j∈List.range 6,okA (nA A (18+6*j+k))=true:=by
 unfold uc;simp only[oM,zah,xb,inL,List.all_cons,List.all_map,jS,Function.comp];constructor
 .rintro⟨⟨a,b⟩,c,d,e⟩;exact⟨c,a,d,b,e⟩
 .rintro⟨c,a,d,b,e⟩;exact⟨⟨a,b⟩,c,d,e⟩
def Tf{k:Nat}(h:(uc A k).2=true):(uc A k).1=jx A k:=by have a:=h;unfold uc at a;simp only[oM]at a;obtain⟨b,c⟩:=a;unfold uc;simp only;rw[(Xd b).2,(Xd c).2];simp only[xb,inL,jx,List.range,List.range.loop,jK,List.map_nil,List.sum_cons,List.sum_nil];omega
def zdx(A:List Int):FM A=nI A:=by
 have c:FM A=true↔nI A=true:=by
  unfold FM nI;simp only[oM,jS,oP,Tq,zah];constructor
  .rintro⟨h,d,e⟩;have r:∀k∈List.range 6,jx A k=(uc A k).1:=λk a=>(Tf (h k a).1.1.1).symm;refine⟨⟨λk a=>?_,λk a=>?_⟩,?_⟩
   .obtain⟨⟨⟨g,u⟩,i⟩,l⟩:=h k a;obtain⟨m,n,o,p,v⟩:=zbm.1 g;exact⟨⟨⟨⟨⟨m,n⟩,o⟩,i⟩,l⟩,p⟩
   .rw[r k a];exact(h k a).1.1.2
   .rw[Xc (by simpa only[jS]using d)]at e;exact e
  .rintro⟨⟨h,t⟩,e⟩;have b:∀k∈List.range 6,(uc A k).2=true:=λk a=>zbm.2 ⟨(h k a).1.1.1.1.1,(h k a).1.1.1.1.2,(h k a).1.1.1.2,(h k a).2,λj s=>(h j s).2 k a⟩;have d:(gL A).all okA=true:=by
    simp only[gL,List.all_map,jS,Function.comp];exact λk a=>(h k a).1.1.1.1.1
   refine⟨λk a=>⟨⟨⟨b k a,?_⟩,(h k a).1.1.2⟩,(h k a).1.2⟩,jS.1 d,?_⟩
   .rw[Tf (b k a)];exact t k a
   .rw[Xc d];exact e
 cases f:FM A with
 | true=>rw[c.1 f]
 | false =>
  cases q:nI A with
  | false=>rfl
  | true=>rw[c.2 q]at f;cases f
def Ik(A:List Int)(k:Nat):Int:=match FM A with|true=>(uc A k).1|false=>0
def Zy(A:List Int){k:Nat}(a:k<6):Ik A k=match nI A with|true=>jx A k|false=>0:=by
 unfold Ik;rw[<-zdx];cases h:FM A with
 | false=>rfl
 | true =>
  unfold FM at h;simp only[oM,jS,oP]at h;exact Tf (h.1 k (by simpa using a)).1.1.1
def shr(a:Int)(c k:Nat):Int:=a / (c:Int)+if (k:Int)<a%(c:Int)then 1 else 0
def ziU(p:Nat->Bool)(n:Nat):Nat->Nat
 | 0=>n
 | f+1=>if p (n-(f+1))then n-(f+1)else ziU p n f
def fs(p:Nat->Bool)(n i:Nat):Nat:=ziU p n (n-i)
def Oj(a b c d:oF)(zf:oD):=zf 0::zf 1::a::zT zf 3 3 (b::c::d::zT zf 9 14 ([]))
def Ok(a:oF)(zf:oD):=zf 0::zf 1::a::zT zf 3 20 ([])
def rW(K:KV):KE:=kZ f253 [1,1] K
def BH(K:KV):KE:=ai Q (cd f253 [1,0,1,0]) (rW K) (xx xf (rW K) 0) (rk f253 K)
def Yn(h:lN 359 H (λZ=>BH K (Oj (ci 0) H Z (ci 0) (zV (zV zu 0 [H]) 3 [cF]))) w):Gives Q 253 #[H] w K:=au func253 kr (mpK h)
def VC(Inv:oF->oF->oG->Prop)(μ:oF->oF->oG->Nat)(p:Inv Y U w)(q:∀(a b:oF) (o:oD) (w:oG) (m:Nat),Inv a b w->m=μ a b w ->
  lS b H (λn w=>cond n (aW Q 359 Z b (λi=>ld Q 2 i λc=>bT .lss 2 c (ci 0) λd w=>aM d false (λg=>bT .gtr 2 c (ci 1125899906842624) (λj=>g [c,j]) w) (λk=>k [uu,uu] w) λf=>pick d cT (gd f 1) λl w=>cond l (K (.tuple #[ci 0,cF]) w) (bF .add 2 a c (λd=>nC b λe w=>(Inv d e w)/\((μ d e w)<m)) w)) w) (rW K (Ok a (zV o 6 [Z,H,b,n])) w)) w):BH K (Oj Y Z H U zf) w:=by refine lW (cd f253 (b1 52)) [(2,2),(5,1),(8,14)] 2 8 zf p q ?_;intro r s;exact mpF
def VD(h:K (.tuple #[H,cT]) w):rW K (Ok H zf) w:=mpK h
attribute [irreducible] rW BH
def yo(d b tA a c:oF)(zf:oD):=d::b::zT zf 2 4 (tA::a::zT zf 8 25 (c::zT zf 34 42 ([])))
def Ko(tA a:oF)(zf:oD):=zT zf 0 6 (tA::a::zT zf 8 68 ([]))
def oz(K:KV):KE:=kZ f232 [1,1,1] K
def rK(K:KV):KE:=ai Q (cd f232 (b1 58)) (oz K) (xx xf (oz K) 0) (rk f232 K)
def VB(h:aF (λS w=>hN S H λh=>hF S 81 h 1 λf=>hI S 78 f Z λg=>hL S 2 g λc=>hN S H λi=>hF S 81 i 0 λj=>hI S 78 j Z λk=>hL S 2 k λd=>hN S H λl=>hF S 81 l 2 λm=>hI S 78 m Z λn=>hL S 2 n λe=>(bM Q 359 1 #[(0,c)] (λa=>aX S λS=>bM Q 359 2 #[(0,d),(1,e)] λb=>aX S λ_=>rK K (yo H Z a b (ci 0) (zV (zV zu 4 [ci 0,cF]) 13 [H,Z,h,f,g,c,a,H,Z,i,j,k,d,H,Z,l,m,n,e,b]))) w)/\(bM Q 359 2 #[(0,d),(1,e)] (λb=>aX S λ_=>bM Q 359 1 #[(0,c)] λa=>aF λ_=>rK K (yo H Z a b (ci 0) (zV (zV zu 4 [ci 0,cF]) 13 [H,Z,h,f,g,c,a,H,Z,i,j,k,d,H,Z,l,m,n,e,b]))) w)) w.drew):Gives Q 232 #[H,Z] w K:=au func232 kr (mpK h)
def RO(Inv:vI 3)(μ:vM 3)(A:Inv U Y J w)(B:∀(b c a:oF) (z:oD) (w:oG) (m:Nat),Inv b c a w->m=μ b c a w ->
  bT .lss 3 a (ci 6) (λl w=>cond l (aF (λS w=>hN S H λp=>hF S 81 p 3 λq=>hI S 79 q Z λr=>hI S 78 r a λs=>hL S 2 s λn=>hN S H λt=>hF S 81 t 3 λu=>hI S 79 u a λv=>hI S 78 v Z λx=>hL S 2 x λk=>(bM Q 359 1 #[(0,n)] (λi=>aX S λS w=>(blt Q .append #[359,359] 359 #[false,false] #[b,i] (λd=>aX S λ_=>bM Q 359 1 #[(0,k)] λg=>aF λ_=>blt Q .append #[359,359] 359 #[false,false] #[c,g] λe=>aF λ_=>nC a λf w=>(Inv d e f w)/\((μ d e f w)<m)) w)/\(bM Q 359 1 #[(0,k)] (λg=>aF λ_=>blt Q .append #[359,359] 359 #[false,false] #[b,i] λd=>aF λ_=>blt Q .append #[359,359] 359 #[false,false] #[c,g] λe=>aF λ_=>nC a λf w=>(Inv d e f w)/\((μ d e f w)<m)) w)) w)/\(bM Q 359 1 #[(0,k)] (λg=>aX S λ_=>bM Q 359 1 #[(0,n)] λi=>aF λ_=>blt Q .append #[359,359] 359 #[false,false] #[b,i] λd=>aF λ_=>blt Q .append #[359,359] 359 #[false,false] #[c,g] λe=>aF λ_=>nC a λf w=>(Inv d e f w)/\((μ d e f w)<m)) w)) w.drew) (oz K (Ko b c (zV (zV z 0 [H,Z]) 33 [a,l])) w)) w):rK K (yo H Z U Y J zf) w:=by refine dC (cd f232 (b1 116)) (zr [(6,3),(33,26)]) kr (vP [6,7,33] Inv) (vQ [6,7,33] μ) A ?_;intro o C hI;have h:=B _ _ _ (zM zf (gd o) (zr [(6,3),(33,26)])) C _ hI rfl;revert h;exact mpF
def RP(h:call Q 253 #[H] (λa=>ext Q a 0 λf=>ext Q a 1 λb=>call Q 253 #[Z] λc=>ext Q c 0 λg=>ext Q c 1 λi=>bF .sub 2 g f λj w=>aM b true (λe=>e [i] w) (λk=>k [uu] w) λd=>pick b (gd d 0) cF λl=>K (.tuple #[j,l])) w):oz K (Ko H Z zf) w:=mpK h
attribute [irreducible] oz rK
def TL(h:bT .geq 3 H (ci 1) (λb w=>aM b true (λb=>bT .leq 3 H (ci 6) (λc=>b [H,c]) w) (λk=>k [uu,uu] w) λa=>pick b (gd a 1) cF K) w):Gives Q 230 #[H] w K:=au func230 kr (mpK h)
def Oh(a b:oF)(zf:oD):=zf 0::a::zT zf 2 6 (b::zT zf 9 45 ([]))
def Oi(a:oF)(zf:oD):=zf 0::a::zT zf 2 52 ([])
def rV(K:KV):KE:=kZ f231 [1,1] K
def BG(K:KV):KE:=ai Q (cd f231 [1,0,1,0]) (rV K) (xx xf (rV K) 0) (rk f231 K)
def Ym(h:box Q 81 H (λZ=>BG K (Oh Z (ci 0) (zV (zV zu 0 [H]) 2 [cF]))) w):Gives Q 231 #[H] w K:=au func231 kr (mpK h)
def Vz(Inv:oF->oG->Prop)(μ:oF->oG->Nat)(F:Inv U w)(G:∀(a:oF) (E:oD) (w:oG) (m:Nat),Inv a w->m=μ a w ->
  bT .lss 3 a (ci 6) (λD w=>cond D (call Q 232 #[Z,a] (λb=>ext Q b 0 λc=>ext Q b 1 λb w=>sti (un Q .not b) (λb w=>aM b false (λv=>sti (bT .lss 2 c (ci 0)) (λz=>v [c,z]) w) (λk=>k [uu,uu] w) λs=>sti (pick b cT (gd s 1)) λc w=>aM c false (λx=>sF 81 Z 2 (λd=>sI 78 d a λe=>sL 2 e λf=>sF 81 Z 1 λg=>sI 78 g a λi=>sL 2 i λj=>sti (bF .gtr 2 f j) λA=>x [a,d,e,f,a,g,i,j,A]) w) (λk=>k [uu,uu,uu,uu,uu,uu,uu,uu,uu] w) λt=>sti (pick c cT (gd t 8)) λl w=>aM l false (λy=>sF 81 Z 3 (λn=>sI 79 n a λo=>sI 78 o a λp=>sL 2 p λq=>sti (bT .neq 2 q (ci 0)) λB=>y [a,a,n,o,p,q,B]) w) (λk=>k [uu,uu,uu,uu,uu,uu,uu] w) λu=>sti (pick l cT (gd u 6)) λC w=>cond C (K cF w) (nC a (λr w=>(Inv r w)/\((μ r w)<m)) w)) w.drew) w) (rV K (Oi Z (zV E 8 [a,D])) w)) w):BG K (Oh Z U zf) w:=by refine lV (cd f231 (b1 52)) [(2,4),(8,35)] 8 zf F G ?_;intro H I;exact mpF
def VA(h:ao Q 81 H 0 (λf=>slc Q 78 f none none none λg=>call Q 253 #[g] λa=>ext Q a 0 λb=>ext Q a 1 λc w=>aM c true (λe=>bT .leq 2 b (ci 1125899906842624) (λi=>e [b,i]) w) (λk=>k [uu,uu] w) λd=>pick c (gd d 1) cF K) w):rV K (Oi H zf) w:=mpK h
attribute [irreducible] rV BG
def Vy(h:box Q 81 Z (λi=>call Q 230 #[H] λl=>un Q .not l λj w=>aM j false (λe=>ld Q 81 i (λa=>call Q 231 #[a] λb=>un Q .not b λc=>e [a,b,c]) w) (λk=>k [uu,uu,uu] w) λd=>pick j cT (gd d 2) λa w=>cond a (K (ci 0) w) (bT .sub 3 H (ci 1) (λf=>call Q 232 #[i,f] λc=>ext Q c 0 λg=>ext Q c 1 λ_=>K g) w)) w):Gives Q 212 #[Z,H] w K:=au func212 kr (mpK h)
def HN(P:Program):List Field->Nat->Nat->Bool
 | [],o,n=>Nat.beq o n
 | f::fs,o,n=>Nat.beq f.offset o&&HN P fs (o+P.cellsOf f.type) n
def jc (P:Program):Nat→TypeId→List Value→Bool
 | 0,_,_=>false
 | d+1,t,cs=>match P.underlying t with
  | some .bool=>(match cs with | [.bool _]=>true | _=>false)
  | some (.int q)=>(match cs with | [.int q' _]=>decide (q'=q) | _=>false)
  | some (.array n e)=>(P.info? e).isSome && (Nat.beq cs.length (n * P.cellsOf e) && (List.range n).all fun i=>jc P d e ((cs.drop (i * P.cellsOf e)).take (P.cellsOf e)))
  | some (.struct fs) => !P.stoodInHeld t && (HN P fs.toList 0 cs.length && fs.toList.all fun f=>f.name != "_" && jc P d f.type ((cs.drop f.offset).take (P.cellsOf f.type)))
  | _=>false
def Ev(P:Program)(t:TypeId)(cs:oE):oF:=match P.underlying t with
 | some (.array _ _)=>.agg cs.toArray
 | some (.struct _)=>.agg cs.toArray
 | _=>cs.headD undef
def Sa{P:Program}:∀(fs:List Field) (o n m:Nat),HN P fs o n=true->HN P fs o m=true->n=m
 | [],o,n,m,h1,h2=>by
  have:=Nat.eq_of_beq_eq_true h1
  have:=Nat.eq_of_beq_eq_true h2
  omega
 | f::fs,o,n,m,h1,h2=>by
  unfold HN at h1 h2;rw[oM]at h1 h2;exact Sa fs _ n m h1.2 h2.2
def Pt{P:Program}{cs:oE}(a:P.underlying t=some .bool)(h:jc P (d+1) t cs=true):∃b,cs=[.bool b]:=by
 unfold jc at h;simp only[a]at h;split at h
 .exact⟨_,rfl⟩
 .cases h
def SS{P:Program}{q:IntKind}{cs:oE}(a:P.underlying t=some (.int q))(h:jc P (d+1) t cs=true):∃n,cs=[.int q n]:=by
 unfold jc at h;simp only[a]at h;split at h
 .have:=of_decide_eq_true h;subst this;exact⟨_,rfl⟩
 .cases h
section
variable {P:Program}
def Us{a n:Nat}{v:oF}(h:(xs.drop a).take n=[v]):xs.toArray[a]? = some v:=by
 have b:((xs.drop a).take n)[0]? = some v:=by rw[h];rfl
 rw[List.getElem?_take]at b;split at b
 .rw[jM]at b;simpa using b
 .cases b
def NE{c:Nat}(w:oG)(h:jc P d e ((xs.drop c).take (P.cellsOf e))=true):(part e xs.toArray c).run P w=.ok (Ev P e ((xs.drop c).take (P.cellsOf e))) w:=by
 cases d with
 | zero=>simp[jc]at h
 | succ d =>
  cases a:P.underlying e with
  | none=>simp[jc,a]at h
  | some kd =>
   have j:(xs.toArray.extract c (c+P.cellsOf e))=((xs.drop c).take (P.cellsOf e)).toArray:=by
    apply Array.toList_inj.1;rw[Array.toList_extract];simp[List.extract]
   cases kd
   case bool =>
    obtain⟨b,f⟩:=Pt a h;rw[run_part_plain w (by simp[Program.plainKey,a]) (Us f),f];simp[Ev,a]
   case int q =>
    obtain⟨b,f⟩:=SS a h;rw[run_part_plain w (by simp[Program.plainKey,a]) (Us f),f];simp[Ev,a]
   case array n e' =>
    obtain⟨i,g⟩:=info_of_underlying a;simp only[part,isAgg,jY,jZ a,run_sizeOf w g,jW,jX,if_true,Ev,a,j]
   case struct fs =>
    obtain⟨i,g⟩:=info_of_underlying a;simp only[part,isAgg,jY,jZ a,run_sizeOf w g,jW,jX,if_true,Ev,a,j]
   all_goals (simp[jc,a]at h;done)
def XM(f:xs.length=ys.length):(xs.drop o).take c=(ys.drop o).take c/\xs.drop (o+c)=ys.drop (o+c)↔xs.drop o=ys.drop o:=by
 have e:∀a:oE,a.drop o=(a.drop o).take c++a.drop (o+c):=λa=>by rw[<-List.drop_drop];exact(List.take_append_drop c (a.drop o)).symm
 constructor
 .rintro⟨b,d⟩;rw[e xs,e ys,b,d]
 .intro h;refine⟨by rw[h],?_⟩;rw[<-List.drop_drop, <-List.drop_drop,h]
def EqB(P:Program)(D d:Nat):Prop:=∀(t:TypeId) (w:oG) (a b:oE),jc P d t a=true->jc P d t b=true->∃r:Bool,(Op.equalIn D t (Ev P t a) (Ev P t b)).run P w=.ok r w/\(r=true↔a=b)
theorem zb4 {D d:Nat} (IH:EqB P D d) {xs ys:List Value} (e:xs.length=ys.length) (w:World):∀ (fs:List Field) (o:Nat),HN P fs o xs.length=true →
  (∀ f ∈ fs,f.name≠"_"∧jc P d f.type ((xs.drop f.offset).take (P.cellsOf f.type))=true∧jc P d f.type ((ys.drop f.offset).take (P.cellsOf f.type))=true) →
  ∃ r:Bool,(Op.eqFields D xs.toArray ys.toArray fs).run P w=.ok r w∧(r=true↔xs.drop o=ys.drop o)
 | [],o,hc,_=>by
  have:=Nat.eq_of_beq_eq_true hc
  subst this;exact ⟨true,by simp [Op.eqFields],by rw [List.drop_length,e,List.drop_length]; simp⟩
 | f::fs,o,hc,hall=>by
  unfold HN at hc;rw [Bool.and_eq_true] at hc;have m:=Nat.eq_of_beq_eq_true hc.1;obtain ⟨l,i,j⟩:=hall f oB;obtain ⟨r,n,b⟩:=IH f.type w _ _ i j;obtain ⟨p,h,a⟩:=zb4 IH e w fs (o+P.cellsOf f.type) hc.2 (fun g k=>hall g (by simp [k]));simp only [Op.eqFields,l,ne_eq,not_false_eq_true,if_true,Sem.run_bind,NE w i,NE w j,n,Result.andThen_ok]
  rw [← XM e (c:=P.cellsOf f.type), ← a, ← m, ← b];cases r
  ·exact ⟨false,by simp,by simp⟩
  ·exact ⟨p,by simpa using h,by simp⟩
def zb6{D d:Nat}(IH:EqB P D d){xs ys:oE}{e:TypeId}{n:Nat}(g:xs.length=ys.length)(j:xs.length=n*P.cellsOf e)(w:oG)(b:∀i,i<n->jc P d e ((xs.drop (i*P.cellsOf e)).take (P.cellsOf e))=true/\jc P d e ((ys.drop (i*P.cellsOf e)).take (P.cellsOf e))=true):∀(m i:Nat),i+m=n ->
  ∃r:Bool,(Op.eqItems D e (P.cellsOf e) xs.toArray ys.toArray (List.range' i m)).run P w=.ok r w/\(r=true↔xs.drop (i*P.cellsOf e)=ys.drop (i*P.cellsOf e))
 | 0,i,hi=>by
  obtain rfl:i=n:=by omega
  exact⟨true,by simp[Op.eqItems],by rw[<-j,List.drop_length,g,List.drop_length];simp⟩
 | m+1,i,hi=>by
  obtain⟨k,l⟩:=b i oo;obtain⟨r,o,f⟩:=IH e w _ _ k l;obtain⟨p,h,a⟩:=zb6 IH g j w b m (i+1) oo;simp only[List.range'_succ,Op.eqItems,jY,NE w k,NE w l,o,jW];rw[<-XM g (c:=P.cellsOf e), <-f];rw[show (i+1)*P.cellsOf e=i*P.cellsOf e+P.cellsOf e by rw[Nat.add_mul,Nat.one_mul]]at a;rw[<-a];cases r
  .exact⟨false,by simp,by simp⟩
  .exact⟨p,by simpa using h,by simp⟩
def zb3(D:Nat):∀d:Nat,EqB P (D+d) d
 | 0=>λt w v x c _=>by simp[jc]at c
 | d+1=>λt w v x c j=>by
  have IH:=zb3 D d;cases g:P.underlying t with
  | none=>simp[jc,g]at c
  | some kd =>
   cases kd
   case bool =>
    obtain⟨a,rfl⟩:=Pt g c;obtain⟨b,rfl⟩:=Pt g j;refine⟨a==b,?_,by simp⟩;simp only[Ev,g,List.headD_cons];exact run_equalIn_bool' w (D+d) t a b g
   case int q =>
    obtain⟨a,rfl⟩:=SS g c;obtain⟨b,rfl⟩:=SS g j;refine⟨a==b,?_,by simp⟩;simp only[Ev,g,List.headD_cons];exact run_equalIn_int w (D+d) t q q a b g
   case array n e =>
    unfold jc at c j;simp only[g,oM,jS,jQ]at c j;have p:=Nat.eq_of_beq_eq_true c.2.1;have u:=Nat.eq_of_beq_eq_true j.2.1;obtain⟨i,l⟩:=Option.isSome_iff_exists.1 c.1;obtain⟨r,o,h⟩:=zb6 IH (p.trans u.symm) p w (λi l=>⟨c.2.2 i l,j.2.2 i l⟩) n 0 oo;refine⟨r,?_,by simpa using h⟩;simp only[Ev,g]
    rw[show D+(d+1)=(D+d)+1 from rfl,run_equalIn_array w (D+d) _ _ g l,List.range_eq_range'];exact o
   case struct fs =>
    unfold jc at c j;simp only[g,oM,jS,Bool.not_eq_true',bne_iff_ne,ne_eq]at c j;have s:=Sa fs.toList 0 _ _ c.2.1 j.2.1;have k:P.fieldsOf t=fs:=by simp[Program.fieldsOf,g]
    obtain⟨r,o,h⟩:=zb4 IH s w fs.toList 0 c.2.1 (λf m=>⟨(c.2.2 f m).1,(c.2.2 f m).2,(j.2.2 f m).2⟩);refine⟨r,?_,by simpa using h⟩;simp only[Ev,g];rw[show D+(d+1)=(D+d)+1 from rfl,run_equalIn_struct w (D+d) t _ _ (by rw[k];exact g) c.1,k];exact o
   all_goals (simp[jc,g]at c;done)
def zar{cs:oE}(b:(match P.underlying t with|some (.array _ _)|some (.struct _)=>true|_=>false)=true):Ev P t cs=.agg cs.toArray:=by
 unfold Ev;cases a:P.underlying t with
 | none=>simp[a]at b
 | some kd=>cases kd<;>simp_all
def zd7(d:Nat)(e:d<=10000)(a:(match P.underlying t with|some (.array _ _)|some (.struct _)=>true|_=>false)=true)(b:jc P d t xs=true)(c:jc P d t ys=true):∃r:Bool,(Op.equalIn 10000 t (.agg xs.toArray) (.agg ys.toArray)).run P w=.ok r w/\(r=true↔xs=ys):=by
 have:=zb3 (P:=P) (10000-d) d t w xs ys b c
 rw[show 10000-d+d=10000 by omega,zar a,zar a]at this;exact this
def QF(d:Nat)(b:d<=10000)(f:(match P.underlying t with|some (.array _ _)|some (.struct _)=>true|_=>false)=true)(c:P.eqGuardType P.depth t=false)(g:jc P d t xs=true)(i:jc P d t ys=true)(h:∀r:Bool,(r=true↔xs=ys)->K (.bool r) w):bin P .eql t cx cy (.agg xs.toArray) (.agg ys.toArray) K w:=by obtain⟨r,e,a⟩:=zd7 (w:=w) d b f g i;exact dZ (v:=.bool r) (by unfold eqG;exact run_eqGuard_agg w _ _ _ _ _ _ c) (by rw[run_eql_struct w,e];rfl) (h r a)
def zC(d:Nat)(b:d<=10000)(f:(match P.underlying t with|some (.array _ _)|some (.struct _)=>true|_=>false)=true)(c:P.eqGuardType P.depth t=false)(g:jc P d t xs=true)(i:jc P d t ys=true)(h:∀r:Bool,(r=true↔xs=ys)->K (.bool (!r)) w):bin P .neq t cx cy (.agg xs.toArray) (.agg ys.toArray) K w:=by obtain⟨r,e,a⟩:=zd7 (w:=w) d b f g i;exact dZ (v:=.bool (!r)) (by unfold eqG;exact run_eqGuard_agg w _ _ _ _ _ _ c) (by rw[run_neq_struct w,e];rfl) (h r a)
end
def nR(b a c d:oF)(zf:oD):=zf 0::b::a::zT zf 3 3 (c::d::zT zf 8 18 ([]))
def LS(a:oF)(zf:oD):=zf 0::zf 1::a::zT zf 3 23 ([])
def lw(K:KV):KE:=kZ f209 [1,1] K
def zN(K:KV):KE:=ai Q (cd f209 [1,0,1,0]) (lw K) (xx xf (lw K) 0) (rk f209 K)
def qb(K:KV)(B1:KE):KE:=kY f209 (b1 423) B1 (xx xf (lw K) 0) K
def vU(K:KV)(B1:KE):KE:=ai Q (cd f209 (b1 422)) (qb K B1) (xx xf (lw K) 0) (rk f209 K)
def WA(h:box Q 42 Z (λH=>ao Q 42 H 0 λa=>ld Q 35 a λU=>zN K (nR H cN U (ci 0) (zV (zV zu 0 [Z]) 5 [a]))) w):Gives Q 209 #[Z] w K:=au func209 kr (mpK h)
def Ti(Inv:oF->oF->oG->Prop)(μ:oF->oF->oG->Nat)(j:Inv Y U w)(l:∀(d a:oF) (g:oD) (w:oG) (m:Nat),Inv d a w->m=μ d a w ->
  bT .lss 3 a (ci 6) (λf w=>cond f (vU K (λb S=>(Inv (gd b 2) (gd b 7) S)/\((μ (gd b 2) (gd b 7) S)<m)) (nR Z d H a (zV g 8 [f])) w) (lw K (LS d (zV (zV g 1 [Z]) 6 [H,a,f])) w)) w):zN K (nR Z Y H U zf) w:=by refine dC (cd f209 (b1 52)) (zr [(2,3),(7,18)]) kr (vP [2,7] Inv) (vQ [2,7] μ) j ?_;intro e i k;have h:=l _ _ (zM zf (gd e) (zr [(2,3),(7,18)])) i _ k rfl;refine Eq.mp (qH (λc=>ai Q c _ _ _ _ i) (by kernel_rfl:(rep [1,1,0] (cd f209 (b1 422)) (cd f209 (b1 52)))=(cd f209 (b1 52)))) ?_;revert h;delta vU qb;generalize (cd f209 (b1 422))=xc0;exact mpF
def Th(h:idx Q 35 Z H (λb w=>aM b true (λi=>ao Q 42 U 1 (λa=>aW Q 35 a H λb=>ld Q 4 b λd=>un Q .not d λj=>i [H,a,b,d,j]) w) (λk=>k [uu,uu,uu,uu,uu] w) λa=>pick b (gd a 4) cF λc w=>cond c (nC H (λe=>bM Q 47 1 #[(0,e)] λf=>blt Q .append #[47,47] 47 #[false,false] #[Y,f] λg=>qb K B1 (nR U g Z H (zV (zV zf 3 [H,b]) 9 [H,b,b,b,gd a 0,gd a 1,gd a 2,gd a 3,gd a 4,c,Y,H,e,f,g]))) w) (qb K B1 (nR U Y Z H (zV (zV zf 3 [H,b]) 9 [H,b,b,b,gd a 0,gd a 1,gd a 2,gd a 3,gd a 4,c])) w)) w):vU K B1 (nR U Y Z H zf) w:=by delta vU;revert h;exact mpF
def Tj(h:K H w):lw K (LS H zf) w:=mpK h
def BV(h:nC Z (λa=>B1 (nR U Y H a (zV zf 24 [a]))) w):qb K B1 (nR U Y H Z zf) w:=by delta qb;revert h;exact mpF
attribute [irreducible] lw zN qb vU
section
attribute [local irreducible] bin un conv call bA blt slc ao fld aW idx lkp fk mW eSt rng nxt ent ext alc box bld bM ld sto aU fl mkS ifc pick rdy wts aM sti cond aY Gives ai iy ke cOp
def zaa{n:Nat}{l:List Int}(q:RV w a n c (l.map iv))(E:n<=1000)(h:K (.tuple #[iv (od l).1,.bool (od l).2]) w):call Q 253 #[.slice a n c] K w:=by
 have D:l.length=n:=by simpa using q.len
 refine aj (goK func253) (Yn ?_);refine bv underlying359 <|VC (Inv:=λs i A=>∃j:Nat,s=iv (l.take j).sum/\i=ci (j:Nat)/\j<=n/\A=w/\(l.take j).all okA=true) (μ:=λ_ i _=>n-(intOf i).toNat) ⟨0,by simp[iv],rfl,by omega,rfl,by simp⟩ ?_;rintro _ _ B _ m ⟨j,rfl,rfl,C,rfl,b⟩ y;by_cases x:j<n
 ·(repeat (first|refine aL ?_|refine ay oo ?_))
  have z:(l.map iv)[j]? = some (iv (nA l j)):=by
   simp[nA,List.getD,gE (show j<l.length by omega)]
  refine LI underlying359 kf oo oo q.some_ ?_;rw[oQ];refine vS kf (q.cell _ _ z) ?_;have v:nA l j=l[j]:=by simp[nA,List.getD,show j<l.length by omega]
  have d:l.all okA=true->okA (nA l j)=true:=λh=>by rw[v];exact jS.1 h _ (List.getElem_mem _)
  have e:okA (nA l j)=false->od l=(0,false):=λt=>by
   unfold od;cases g:l.all okA with
   | false=>rfl
   | true=>rw[d g]at t;cases t
  have u:l.take (j+1)=l.take j++[nA l j]:=by rw[v,List.take_append_getElem oo]
  unfold iv;refine aL ?_;by_cases o:nA l j<0
  .refine mF o <|bI o <|aV ?_
   have:okA (nA l j)=false:=by
    cases g:okA (nA l j)with
    | false=>rfl
    | true=>have:=sR.1 g;omega
   rw[e this]at h;exact h
  .refine df o <|cH <|bw o ?_;by_cases r:nA l j>1125899906842624
   .refine ay r ?_
    have:okA (nA l j)=false:=by
     cases g:okA (nA l j)with
     | false=>rfl
     | true=>have:=sR.1 g;simp only[MXA]at this;omega
    rw[e this]at h;exact h
   .refine ax r ?_;have p:okA (nA l j)=true:=sR.2 ⟨by omega,by simp only[MXA];omega⟩;have k:=NP b;have f:(l.take j).length=j:=by rw[qA];omega
    rw[f]at k;simp only[MXA]at k;refine aR oo oo <|aR oo oo ?_;refine⟨⟨j+1,?_,by simp,by omega,rfl,?_⟩,?_⟩
    .rw[u];simp[iv]
    .rw[u,List.all_append,b];simp[p]
    .rw[y];simp[intOf];omega
 .obtain rfl:j=n:=by omega
  (repeat (first|refine VD ?_|refine aL ?_|refine ax oo ?_))
  rw[tL oo]at b |-;unfold od at h;rw[b]at h;exact h
abbrev OI(w:oG)(B p n c:Nat)(l:List Int):Prop:=OV w B 2 (some ⟨p,0,none⟩) n c (l.map iv)
def OI.lt{B p n:Nat}{l:List Int}(h:OI w B p n c l):B<=p/\p<w.heap.size:=OV.block h p rfl
def OI.keep{B p n:Nat}{l:List Int}(h:OI w B p n c l)(a:S.heap[p]? = w.heap[p]?):OI S B p n c l:=cn h λk e=>by cases e;exact a
def bl1(h:∀S,blk S w.heap.size 2 [iv x]->Below w.heap.size w S->S.heap.size=w.heap.size+1->K (.slice (some ⟨w.heap.size,0,none⟩) 1 1) S):bM Q 359 1 #[(0,iv x)] K w :=
 nV (vs:=[iv x]) underlying359 (s:=1) kr kr oo rfl oB oB oB (by simp[Value.cells,iv]) λS a b s=>h S (by simpa[iv,Value.cells]using a) b s
def bl2{y:Int}(h:∀S,blk S w.heap.size 2 [iv x,iv y]->Below w.heap.size w S->S.heap.size=w.heap.size+1->K (.slice (some ⟨w.heap.size,0,none⟩) 2 2) S):bM Q 359 2 #[(0,iv x),(1,iv y)] K w :=
 nV (vs:=[iv x,iv y]) underlying359 (s:=1) kr kr oo rfl oB oB oB (by simp[Value.cells,iv]) λS a b s=>h S (by simpa[iv,Value.cells]using a) b s
def zf5:(Tryz.prog.info? 2).map (λi=>(i.zero,i.size,i.bytes))=some (some (ci 0),1,8):=by kernel_rfl
def ap1{cs:Array Bool}{B p n:Nat}{l:List Int}(z:OI w B p n c l)(G:blk w g 2 [iv x])(y:B<=w.heap.size)(M:n<=1000)(h:∀a c' S,OI S B a (n+1) c' (l++[x])->(a=p\/a=w.heap.size)->(∀k,k<w.heap.size->k≠p->S.heap[k]? = w.heap[k]?)->Below B w S->K (.slice (some ⟨a,0,none⟩) (n+1) c') S):blt Q .append #[359,359] E cs #[.slice (some ⟨p,0,none⟩) n c,.slice (some ⟨g,0,none⟩) 1 1] K w:=by
 obtain⟨i,H,J,t,j⟩:=info_parts zf5;refine zil (base:=B) (s:=1) (m:=1) (ys:=[iv x]) underlying359 H J t j rfl oo z G rfl (by simp[iv,Value.oneCell']) oo oo y ?_;intro v c' S d b f;have F:Below B w S:=bX b y (λk o=>by cases o;exact z.lt.1)
 have r:∀k,k<w.heap.size->k≠p->S.heap[k]? = w.heap[k]? := λk o q=>b.block k o λe=>q (by cases e;rfl);have I:∀a,v=some ⟨a,0,none⟩->K (.slice v (n+1) c') S:=by
  rintro a rfl;refine h a c' S (by simpa[OV]using d) ?_ r F;rcases f with e|e
  .cases e;exact .inl rfl
  .cases e;exact .inr rfl
 rcases d.2 with⟨u,L⟩|⟨D,A,C,u,_⟩
 .omega
 .simp only[Value.slice.injEq]at u;exact I D u.1
structure RtA(w:oG) (b o:Nat) (E:TypeId) (cs:oE) (A:List Int):Prop where
 bk:blk w b E cs
 cut:(cs.drop o).take 54=A.map iv
 len:A.length=54
def RtA.get{cs:oE}(h:RtA w b o E cs A)(hi:i<54):cs[o+i]? = some (iv (nA A i)):=by
 have a:((cs.drop o).take 54)[i]? = (A.map iv)[i]? := by rw[h.cut]
 rw[jN hi,jM]at a;rw[a]
 have:=h.len
 simp[nA,List.getD,show i<A.length by omega]
def RtA.below{B:Nat}{cs:oE}(h:RtA w b o E cs A)(c:Below B w S)(a:b<B):RtA S b o E cs A:=⟨ae c h.bk a,h.cut,h.len⟩
def zdF(A:List Int)(k j:Nat):xb A k (j+1)=xb A k j++[nA A (18+6*k+j)]:=by simp[xb,List.range_succ]
def zf2(A:List Int)(k j:Nat):inL A k (j+1)=inL A k j++[nA A (18+6*j+k)]:=by simp[inL,List.range_succ]
def zfC(A:List Int)(k j:Nat):(xb A k j).length=1+j:=by simp[xb];omega
def zhb(A:List Int)(k j:Nat):(inL A k j).length=2+j:=by simp[inL];omega
def Two(w:oG)(B p n c q m d:Nat)(l r:List Int):Prop:=p≠q/\OI w B p n c l/\OI w B q m d r
def Two.bel{B p n q:Nat}{l r:List Int}(h:Two w B p n c q m d l r)(a:Below w.heap.size w S):Two S B p n c q m d l r :=
 ⟨h.1,h.2.1.keep (a.block _ h.2.1.lt.2),h.2.2.keep (a.block _ h.2.2.lt.2)⟩
def apL{cs:Array Bool}{B p n q:Nat}{l r:List Int}(i:Two w B p n c q m d l r)(s:blk w g 2 [iv x])(j:B<=w.heap.size)(u:n<=1000)(h:∀a c' S,Two S B a (n+1) c' q m d (l++[x]) r->(∀k,k<w.heap.size->k≠p->S.heap[k]? = w.heap[k]?)->Below B w S->K (.slice (some ⟨a,0,none⟩) (n+1) c') S):blt Q .append #[359,359] E cs #[.slice (some ⟨p,0,none⟩) n c,.slice (some ⟨g,0,none⟩) 1 1] K w:=by
 obtain⟨b,t,e⟩:=i;refine ap1 t s j u λa c' S v y f o=>h a c' S ⟨?_,v,e.keep (f q e.lt.2 (Ne.symm b))⟩ f o
 have:=e.lt
 rcases y with rfl|rfl<;>omega
def apR{cs:Array Bool}{B p n q:Nat}{l r:List Int}(i:Two w B p n c q m d l r)(s:blk w g 2 [iv x])(j:B<=w.heap.size)(t:m<=1000)(h:∀q' a S,Two S B p n c q' (m+1) a l (r++[x])->(∀k,k<w.heap.size->k≠q->S.heap[k]? = w.heap[k]?)->Below B w S->K (.slice (some ⟨q',0,none⟩) (m+1) a) S):blt Q .append #[359,359] E cs #[.slice (some ⟨q,0,none⟩) m d,.slice (some ⟨g,0,none⟩) 1 1] K w:=by
 obtain⟨e,b,y⟩:=i;refine ap1 y s j t λq' a S u v f o=>h q' a S ⟨?_,b.keep (f p b.lt.2 e),u⟩ f o
 have:=b.lt
 rcases v with rfl|rfl<;>omega
def V9{k B p q:Nat}{cs:oE}(hA:RtA w b o E cs A)(u:b<B)(hB:B<=w.heap.size)(hk:k<6)(h2:Two w B p 1 1 q 2 2 (xb A k 0) (inL A k 0))(h:∀w',Below B w w'->K (.tuple #[iv (uc A k).1,.bool (uc A k).2]) w')(e0:X1=pA b o)(e1:Z1=ci (k:Nat))(e2:N2=.slice (some ⟨p,0,none⟩) 1 1)(e3:O2=.slice (some ⟨q,0,none⟩) 2 2)(e4:P2=ci 0):rK K ((yo X1 Z1 N2 O2 P2 zf)) w:=by
 subst e0 e1 e2 e3 e4;refine RO (Inv:=λa c i b=>∃(j p q H I:Nat),j<=6/\a=.slice (some ⟨p,0,none⟩) (1+j) H/\c=.slice (some ⟨q,0,none⟩) (2+j) I/\i=ci (j:Nat)/\Two b B p (1+j) H q (2+j) I (xb A k j) (inL A k j)/\Below B w b)
  (μ:=λ_ _ i _=>6-(intOf i).toNat) ⟨0,p,q,1,2,by omega,rfl,rfl,rfl,h2,jU _ _⟩ ?_
 rintro _ _ _ dd g m ⟨j,p1,q1,H,I,hj,rfl,rfl,rfl,ht,t⟩ hm;have e:RtA g b o E cs A:=hA.below t u;have ab:B<=g.heap.size:=qR hB t.size;refine aL ?_;by_cases ag:j<6
 .refine ay oo ?_;have J:∀{W X S T:Nat} {G:oG},Two G B W (1+j+1) S X (2+j+1) T (xb A k j++[nA A (18+6*k+j)]) (inL A k j++[nA A (18+6*j+k)])->Below B g G ->
    (∃(D p q H I:Nat),D<=6/\Value.slice (some ⟨W,0,none⟩) (1+j+1) S=.slice (some ⟨p,0,none⟩) (1+D) H/\Value.slice (some ⟨X,0,none⟩) (2+j+1) T=.slice (some ⟨q,0,none⟩) (2+D) I/\Value.int .i64 ((j:Int)+1)=ci (D:Nat)/\Two G B p (1+D) H q (2+D) I (xb A k D) (inL A k D)/\Below B w G) /\
     6-(intOf (ci ((j:Int)+1))).toNat<m:=by
   intro W X S T G af ad;refine⟨⟨j+1,W,X,S,T,by omega,rfl,rfl,by simp,?_,t.trans ad⟩,by rw[hm];simp[intOf];omega⟩;rw[zdF,zf2];exact af
  have F:∀{wa wb:oG},B<=wa.heap.size->Below wa.heap.size wa wb->Below B wa wb:=λh hb=>hb.mono h
  refine aw (λx=>RtA x b o E cs A) ⟨e.bk.drew,e.cut,e.len⟩ <|hZ <|ac (λx f _=>aJ (off:=18) kr) <|ac (λx f K d=>fg underlying79 (s:=6) kf oo oo d) <|ac (λx f K d=>fg underlying78 (s:=1) kf oo oo d) <|ac (v:=iv (nA A (18+6*k+j))) (λx f _=>lK f.bk (by rw[<-f.get (i:=18+6*k+j) oo];congr 1;simp;omega)) <|hZ <|ac (λx f _=>aJ (off:=18) kr) <|ac (λx f K d=>fg underlying79 (s:=6) kf oo oo d) <|ac (λx f K d=>fg underlying78 (s:=1) kf oo oo d) <|ac (v:=iv (nA A (18+6*j+k))) (λx f _=>lK f.bk (by rw[<-f.get (i:=18+6*j+k) oo];congr 1;simp;omega)) ?_
  have N:Two g.drew B p1 (1+j) H q1 (2+j) I (xb A k j) (inL A k j):=ht;have r:B<=g.drew.heap.size:=ab;have M:RtA g.drew b o E cs A:=⟨e.bk.drew,e.cut,e.len⟩
  have b0:=(jU B g).drew;generalize g.drew=G at *;refine⟨?_,?_⟩
  .refine bl1 λY U z s3=>?_;have P:=N.bel z;have B3:B<=Y.heap.size:=by omega
   have y:=b0.trans (F r z);refine aB (M.below (F r z) u) ?_;refine⟨?_,?_⟩
   .refine apL P U B3 oo λp4 c4 w4 t4 k4 n=>?_;refine aB ((M.below (F r z) u).below n u) ?_;refine bl1 λZ g5 C s5=>?_;have B4:=qR B3 n.size;exact hRT (apR (t4.bel C) g5 oo oo λq6 d6 w6 R k6 O=>hRT <|aR oo oo (J R (((y.trans n).trans (F B4 C)).trans O)))
   .refine bl1 λw4 g4 n s4=>?_;refine hRT ?_;have L:blk w4 G.heap.size 2 [iv (nA A (18+6*k+j))]:=ae n U oo;refine apL (P.bel n) L oo oo λp5 c5 Z t5 k5 C=>?_;refine hRT ?_;have aa:blk Z Y.heap.size 2 [iv (nA A (18+6*j+k))]:=by
     unfold blk;rw[k5 _ oo (by have:=P.2.1.lt;omega)];exact g4
    refine apR t5 aa (by have:=C.size;omega) oo λq6 d6 w6 R k6 O=>?_;exact hRT <|aR oo oo (J R (((y.trans (F B3 n)).trans C).trans O))
  .refine bl1 λY U z s3=>?_;have P:=N.bel z;have B3:B<=Y.heap.size:=by omega
   have y:=b0.trans (F r z);refine aB (M.below (F r z) u) ?_;refine bl1 λw4 g4 n s4=>?_;refine hRT ?_;refine apL (P.bel n) g4 oo oo λp5 c5 Z t5 k5 C=>?_;refine hRT ?_;have L:blk Z G.heap.size 2 [iv (nA A (18+6*j+k))]:=by
    unfold blk;rw[k5 _ oo (by have:=N.2.1.lt;omega)];exact ae n U oo
   refine apR t5 L (by have:=C.size;omega) oo λq6 d6 w6 R k6 O=>?_;exact hRT <|aR oo oo (J R (((y.trans (F B3 n)).trans C).trans O))
 .obtain rfl:j=6:=by omega
  refine ax oo <|RP <|zaa ht.2.1.rv oo <|bo <|bj <|zaa ht.2.2.rv oo <|bo <|bj ?_;have bd:∀l:List Int,l.length<=8->0<=(od l).1/\(od l).1<=9007199254740992:=by
   intro l hl;unfold od;cases V:l.all okA with
   | false=>simp
   | true =>
    have:=NP V
    simp only[MXA]at this;simp only;omega
  have h1:=bd (xb A k 6) (by rw[zfC];omega);have h3:=bd (inL A k 6) (by rw[zhb];omega);unfold iv at *;refine bL oo oo ?_;have hl:uc A k=((od (inL A k 6)).1-(od (xb A k 6)).1,(od (xb A k 6)).2&&(od (inL A k 6)).2):=rfl;cases V:(od (xb A k 6)).2 with
  | true =>
   refine kN <|cA ?_;rw[hl,V]at h;exact h g t
  | false =>
   refine kj <|bZ ?_;rw[hl,V]at h;exact h g t
def zbn{k:Nat}{cs:oE}(d:RtA w b o E cs A)(z:k<6)(h:nX w (K (.tuple #[iv (uc A k).1,.bool (uc A k).2]))):call Q 232 #[pA b o,ci (k:Nat)] K w:=by
 have e:=d.bk.lt;refine aj (goK func232) (VB ?_)
 refine aw (λx=>RtA x b o E cs A) ⟨d.bk.drew,d.cut,d.len⟩ <|hZ <|ac (λx c _=>aJ (off:=6) kr) <|ac (λx c K a=>fg underlying78 (s:=1) kf oo oo a) <|ac (v:=iv (nA A (6+k))) (λx c _=>lK c.bk (by rw[<-c.get (i:=6+k) oo];congr 1;simp;omega)) <|hZ <|ac (λx c _=>aJ (off:=0) kr) <|ac (λx c K a=>fg underlying78 (s:=1) kf oo oo a) <|ac (v:=iv (nA A k)) (λx c _=>lK c.bk (by rw[<-c.get (i:=k) oo];congr 1;simp)) <|hZ <|ac (λx c _=>aJ (off:=12) kr) <|ac (λx c K a=>fg underlying78 (s:=1) kf oo oo a) <|ac (v:=iv (nA A (12+k))) (λx c _=>lK c.bk (by rw[<-c.get (i:=12+k) oo];congr 1;simp;omega)) ?_
 have j:RtA w.drew b o E cs A:=⟨d.bk.drew,d.cut,d.len⟩
 have m:=bDr w;have L:w.drew.heap.size=w.heap.size:=rfl;generalize w.drew=O at *;have l:∀{p q:Nat} {y:oG},p≠q->blk y p 2 [iv (nA A (6+k))]->blk y q 2 [iv (nA A k),iv (nA A (12+k))]->w.heap.size<=p->w.heap.size<=q->Two y w.heap.size p 1 1 q 2 2 (xb A k 0) (inL A k 0) :=
  λu D F B C=>⟨u,zdG D rfl B (by simp[maxLen]),zdG F rfl C (by simp[maxLen])⟩
 refine⟨?_,?_⟩
 .refine bl1 λI n f G=>?_;refine aB (j.below f oo) ?_;refine bl2 λJ r g H=>?_;refine aB ((j.below f oo).below g oo) ?_;refine V9 ((d.below m e).below (f.trans (g.mono oo)) oo) e oo z (l oo (ae g n oo) r oo oo) (λS t=>h S ?_) rfl rfl rfl rfl rfl
  exact((m.trans (f.mono oo)).trans (g.mono oo)).trans t
 .refine bl2 λI n f G=>?_;refine aB (j.below f oo) ?_;refine bl1 λJ r g H=>?_;refine hRT ?_;refine V9 ((d.below m e).below (f.trans (g.mono oo)) oo) e oo z (l oo r (ae g n oo) oo oo) (λS t=>h S ?_) rfl rfl rfl rfl rfl;exact((m.trans (f.mono oo)).trans (g.mono oo)).trans t
def okM(A:List Int)(k:Nat):Bool:=(uc A k).2&&decide (0<=(uc A k).1)&&decide (nA A (12+k)<=nA A (6+k))&&decide (nA A (18+6*k+k)=0)
theorem zbo(A:List Int):FM A=((List.range 6).all (okM A)&&((od (gL A)).2&&decide ((od (gL A)).1<=MXA))):=rfl
def zfm{k:Nat}(a:k<6)(h:okM A k=false):FM A=false:=by
 rw[zbo]
 have:(List.range 6).all (okM A)=false:=by
  cases b:(List.range 6).all (okM A)with
  | false=>rfl
  | true=>have:=jS.1 b k (by simpa using a);rw[this]at h;cases h
 rw[this];rfl
def zdw(h:∀j,j<6->okM A j=true):FM A=((od (gL A)).2&&decide ((od (gL A)).1<=MXA)):=by
 rw[zbo]
 have:(List.range 6).all (okM A)=true:=jS.2 λk a=>h k (by simpa using a)
 rw[this];rfl
def zea{P:Program}{n:Nat}(d:P.underlying t=some (.array n e))(c:∀w,(sizeOf e).run P w=.ok s w)(h:K (.slice (some ⟨b,o,none⟩) n n) w):slc P t (pA b o) none none none K w:=by unfold slc;refine dR (w':=w) ?_ h;simp only[Instr.sliceAt,Instr.sureAddr,Instr.sliceBounds,jY,jX,jW,jZ d,c];by_cases a:n=0<;>simp[a,Addr.add]
def RtA.rvG{cs:oE}(h:RtA w b 0 E cs A):RV w (some ⟨b,0,none⟩) 6 6 ((gL A).map iv) :=
 ⟨by simp[gL],Nat.le_refl _,λ_=>⟨b,0,rfl⟩,(λh=>by cases h),λi v a=>by
  have c:i<6:=by have:=(gS a).1;simpa[gL]using this
  rw[show rM (some ⟨b,0,none⟩) i=⟨b,0+i,none⟩from rfl,h.bk.cell,h.get oo]
  rw[<-a]
  simp[gL,c]⟩
def Ja{i:Int}(h:K (.bool (bB i)) w):call Q 230 #[ci i] K w:=by
 refine aj (goK func230) (TL ?_);unfold bB at h;refine bR ?_;by_cases a:i≥1
 .refine bU a <|iG <|bI a ?_;rw[show decide (1<=i)=true from qF a,qZ]at h;exact h
 .refine cJ a <|bw a ?_;rw[show decide (1<=i)=false from qE a,jA]at h;exact h
def zdZ(D:A.length=54)(h:nX w (K (.bool (FM A)))):call Q 231 #[.agg (A.map iv).toArray] K w:=by
 refine aj (goK func231) (Ym ?_);refine bu λg x B O=>?_;have x:=cZ x
 have G:RtA g w.heap.size 0 81 (A.map iv) A:=⟨x,dTk (by simp[D]),D⟩
 have n:=x.lt;refine Vz (Inv:=λi M=>∃k:Nat,i=ci (k:Nat)/\k<=6/\Below g.heap.size g M/\∀j,j<k->okM A j=true)
  (μ:=λi _=>6-(intOf i).toNat) ⟨0,rfl,by omega,jU _ _,λj H=>by omega⟩ ?_
 rintro _ N L m ⟨k,rfl,I,q,d⟩ J;have e:=G.below q n;have o:=q.size;refine aL ?_;by_cases F:k<6
 .refine ay oo ?_;refine zbn e F λp C=>?_;refine bo <|bj ?_;have c:RtA p.drew w.heap.size 0 81 (A.map iv) A:=by have:=e.below C oo;exact⟨this.bk.drew,this.cut,this.len⟩
  have E:=(q.trans (C.mono o)).drew;have y:okM A k=false->K (.bool false) p.drew:=λf=>by
   have:=h p.drew (B.trans (E.mono oo))
   rw[zfm F f]at this;exact this
  generalize p.drew=w4 at *;cases f:(uc A k).2 with
  | false =>
   refine ah (λ_=>bc) <|iH <|ah (λ_=>cA) <|iH <|ah (λ_=>cA) <|iH <|ah (λ_=>cA) <|aV ?_;exact y (by unfold okM;rw[f];rfl)
  | true =>
   refine ah (λ_=>bc) <|fF ?_;unfold iv;refine ah (λ_=>aL) <|ah (λ_=>bZ) ?_;by_cases r:(uc A k).1<0
   .refine mF r <|ah (λ_=>bI r) <|iH <|ah (λ_=>cA) <|aV <|y ?_;unfold okM;rw[show decide (0<=(uc A k).1)=false from qE oo];simp
   .refine df r <|ah (λ_=>aJ (off:=12) kr) <|ah (λK a=>fg underlying78 (s:=1) kf oo oo a) <|ah (v:=iv (nA A (12+k))) (λ_=>lK c.bk (by rw[<-c.get (i:=12+k) oo];congr 1;simp)) <|ah (λ_=>aJ (off:=6) kr) <|ah (λK a=>fg underlying78 (s:=1) kf oo oo a) <|ah (v:=iv (nA A (6+k))) (λ_=>lK c.bk (by rw[<-c.get (i:=6+k) oo];congr 1;simp)) ?_
    unfold iv;refine ah (λ_=>cH) <|ah (λ_=>bw r) ?_;by_cases t:nA A (6+k)<nA A (12+k)
    .refine mF t <|ah (λ_=>bI t) <|aV <|y ?_;unfold okM;rw[show decide (nA A (12+k)<=nA A (6+k))=false from qE oo];simp
    .refine df t <|ah (λ_=>aJ (off:=18) kr) <|ah (λK a=>fg underlying79 (s:=6) kf oo oo a) <|ah (λK a=>fg underlying78 (s:=1) kf oo oo a) <|ah (v:=iv (nA A (18+6*k+k))) (λ_=>lK c.bk (by rw[<-c.get (i:=18+6*k+k) oo];congr 1;simp;omega)) ?_;unfold iv
     refine ah (λ_=>aZ) <|ah (λ_=>bw t) ?_;by_cases u:nA A (18+6*k+k)≠0
     .refine ay u <|y ?_;unfold okM;rw[show decide (nA A (18+6*k+k)=0)=false from qE u];simp
     .refine ax u <|aR oo oo ?_;refine⟨⟨k+1,by simp,by omega,E,λj H=>?_⟩,by rw[J];simp[intOf];omega⟩;by_cases z:j=k
      .subst z;unfold okM;rw[f,qF (by omega:0<=(uc A j).1),qF (by omega:nA A (12+j)<=nA A (6+j)),qF (Classical.not_not.1 u)];rfl
      .exact d j oo
 .refine ax oo ?_;obtain rfl:k=6:=by omega
  refine VA <|aJ (off:=0) kr <|zea underlying78 (s:=1) kf <|zaa (l:=gL A) e.rvG oo <|bo <|bj ?_;have b:=h L (B.trans (q.mono oo));rw[zdw d]at b;cases f:(od (gL A)).2 with
  | false =>
   refine kj <|bZ ?_;rw[f]at b;exact b
  | true =>
   refine kN ?_;unfold iv;refine iG <|cA ?_;rw[f]at b;exact b
def Jf{i:Int}(a:A.length=54)(h:nX w (K (iv (if bB i then Ik A (i-1).toNat else 0)))):call Q 212 #[.agg (A.map iv).toArray,ci i] K w:=by
 refine aj (goK func212) (Vy ?_);refine bu λf b d q=>?_;have b:=cZ b
 have k:RtA f w.heap.size 0 81 (A.map iv) A:=⟨b,dTk (by simp[a]),a⟩
 refine Ja <|bc ?_;cases e:bB i with
 | false =>
  refine iH <|cA <|aV ?_;rw[e]at h;exact h f d
 | true =>
  have p:1<=i/\i<=6:=by simpa[bB]using e
  refine fF <|ldA (n:=54) (vs:=A.map iv) underlying81 rfl kr b (dTk (by simp[a])) (by simp[a]) ?_;refine zdZ a λm c=>?_;refine bc <|bZ ?_;rw[e,oJ rfl]at h;cases g:FM A with
  | false =>
   refine aV ?_
   have:=h m (d.trans (c.mono oo))
   unfold Ik at this;rw[g]at this;exact this
  | true =>
   refine aA <|bL oo oo ?_;have l:i-1=(((i-1).toNat:Nat):Int):=by omega
   rw[l];refine zbn (k.below c b.lt) oo λo j=>?_;refine bo <|bj ?_
   have:=h o (d.trans ((c.mono oo).trans (j.mono (by have:=c.size;omega))))
   unfold Ik at this;rw[g]at this;exact this
def ndC(x:ND):oE:=.int .u64 x.id::.int .u64 x.par::x.A.map iv
def Hy{x:ND}(h:x.A.length=54):(ndC x).length=56:=by simp[ndC,h]
structure NR(w:oG) (a:Option Addr) (n c:Nat) (L:List ND):Prop where
 len:L.length=n
 cap:n<=c
 some_:0<n->∃b o,a=some ⟨b,o,none⟩
 A54:∀x∈L,x.A.length=54
 cell:∀(i:Nat) (x:ND),L[i]? = some x->∀b o,a=some ⟨b,o,none⟩->∀(j:Nat) (u:oF),(ndC x)[j]? = some u->w.cell? ⟨b,o+i*56+j,none⟩=some u
def NR.bel{B:Nat}{n:Nat}{L:List ND}(h:NR w a n c L)(g:Below B w S)(e:w.heap.size<=B):NR S a n c L :=
 ⟨h.len,h.cap,h.some_,h.A54,λi x l b o f j u k=>by
  have:=h.cell i x l b o f j u k
  have d:=zB w _ this
  rw[g.cell (p:=⟨b,o+i*56+j,none⟩) (qQ d e)];exact this⟩
structure STA where
 I:List Bool
 L:List Bool
 V:List Int
 nodes:List ND
 na:Option Addr
 nc:Nat
 gv:oF
def saC(s:STA):oE:=s.I.map .bool++s.L.map .bool++s.V.map (.int .u64)++[.slice s.na s.nodes.length s.nc,s.gv]
structure SK(w:oG) (s:STA):Prop where
 i6:s.I.length=6
 l6:s.L.length=6
 v6:s.V.length=6
 nr:NR w s.na s.nodes.length s.nc s.nodes
 few:s.nodes.length<=1000000
 gv:s.gv.oneCell'=true
def SK.bel{B:Nat}{s:STA}(h:SK w s)(b:Below B w S)(a:w.heap.size<=B):SK S s:=⟨h.i6,h.l6,h.v6,h.nr.bel b a,h.few,h.gv⟩
def SK.len{s:STA}(h:SK w s):(saC s).length=20:=by simp[saC,h.i6,h.l6,h.v6]
def zkH{s:STA}(h:SK w s){k:Nat}(a:k<6):(saC s)[k]? = some (.bool (s.I.getD k false)):=by
 have:=h.i6
 unfold saC;rw[jE,jE,qO (by simp;omega),qC,gE oo];simp[List.getD,show k<s.I.length by omega]
def zgr{s:STA}(h:SK w s){k:Nat}(a:k<6):(saC s)[6+k]? = some (.bool (s.L.getD k false)):=by
 have:=h.i6
 have:=h.l6
 unfold saC;rw[jE,jE,qP (by simp;omega),qO (by simp;omega),qC];rw[show 6+k-(s.I.map Value.bool).length=k by simp;omega,gE oo];simp[List.getD,show k<s.L.length by omega]
def MT:fU Q 42 0 0 b o K w:=aJ kr
def MU:fU Q 42 1 6 b o K w:=aJ kr
def Ef:fU Q 42 2 12 b o K w:=aJ kr
def pZ:fU Q 42 3 18 b o K w:=aJ kr
def sZ:fU Q 42 4 19 b o K w:=aJ kr
def zff{n:Nat}{L:List ND}{x:ND}(h:NR w a n c L)(f:a=some ⟨b,o,none⟩)(d:L[i]? = some x)(e:K (.agg (ndC x).toArray) w):ld Q 83 (pA b (o+i*56)) K w :=
 UX (run_loadVar_mid w b (o+i*56) 83 (ndC x) _ (λj v g=>h.cell i x d b o f j v g) underlying83 rfl (by rw[Hy (h.A54 x (mO d))];kernel_rfl)) e
abbrev ON(w:oG)(B:Nat)(a:Option Addr)(n c:Nat)(l:List Int):Prop:=w.ownsRow B 3 1 (.slice a n c) n (l.map iv)
def ON.nil(w:oG)(B:Nat):ON w B none 0 0 []:=World.ownsRow_nil w B _ 1
def ON.bel{B n:Nat}{l:List Int}(h:ON w B a n c l)(b:Below w.heap.size w S):ON S B a n c l:=cn h λk d=>b.block k (jT h k d).2
def ON.len{B n:Nat}{l:List Int}(h:ON w B a n c l):l.length=n:=by have b:=h.1;simpa using b
def ON.mono{B n:Nat}{l:List Int}(h:ON w B a n c l)(i:B'<=B):ON w B' a n c l:=by
 refine⟨h.1,?_⟩;rcases h.2 with e|⟨g,b,d,f,j,r⟩
 .exact .inl e
 .exact .inr ⟨g,b,d,f,by omega,r⟩
def zf6:(Tryz.prog.info? 3).map (λi=>(i.zero,i.size,i.bytes))=some (some (ci 0),1,8):=by kernel_rfl
def PT(I L:List Bool)(k:Nat):mT I L (k+1)=mT I L k++if I.getD k false && !L.getD k false then [((k:Nat):Int)+1]else []:=by
 unfold mT;rw[List.range_succ,List.filter_append,jJ]
 congr 1
 cases h:I.getD k false && !L.getD k false with
 | false=>rw[List.filter_cons_of_neg (by rw[h];simp)];rfl
 | true=>rw[List.filter_cons_of_pos (by rw[h])];rfl
def Tb(I L:List Bool):∀k,(mT I L k).length<=k
 | 0=>by simp[mT]
 | k+1=>by
  have:=Tb I L k
  rw[PT,oT];split<;>simp<;>omega
def Yw{P:Program}{n:Nat}{k:IntKind}{cs:oE}{v:oF}(f:P.underlying t=some (.array n e))(c:∀w,(isAgg e).run P w=.ok false w)(d:∀w,(sizeOf e).run P w=.ok 1 w)(hi:i<n)(g:cs[i]? = some v)(h:K v w):idx P t (.agg cs.toArray) (.int k (i:Nat)) K w:=by
 unfold idx;refine dR (w':=w) (v:=v) ?_ h;have a:(0:Int)<=(i:Int):=by omega
 have b:(i:Int)<(n:Int):=by omega
 simp only[Instr.index,asIntOf,jY,jX,jW,jZ f,a,b,and_self,if_true,d,part,c,oQ,Nat.mul_one];simp[g]
def zl0(h:∀S,blk S w.heap.size 3 [iv x]->Below w.heap.size w S->S.heap.size=w.heap.size+1->K (.slice (some ⟨w.heap.size,0,none⟩) 1 1) S):bM Q 47 1 #[(0,iv x)] K w :=
 nV (vs:=[iv x]) underlying47 (s:=1) kr kr oo rfl oB oB oB (by simp[Value.cells,iv]) λS a b s=>h S (by simpa[iv,Value.cells]using a) b s
def apN{cs:Array Bool}{B n:Nat}{l:List Int}(p:ON w B a n c l)(q:blk w g 3 [iv x])(o:B<=w.heap.size)(v:n<=100000)(h:∀b c' S,ON S B b (n+1) c' (l++[x])->Below B w S->K (.slice b (n+1) c') S):blt Q .append #[47,47] E cs #[.slice a n c,.slice (some ⟨g,0,none⟩) 1 1] K w:=by obtain⟨i,r,u,j,d⟩:=info_parts zf6;refine zil (base:=B) (s:=1) (m:=1) (ys:=[iv x]) underlying47 r u j d rfl oo p q rfl (by simp[iv,Value.oneCell']) oo oo o ?_;intro b c' S f e _;refine h b c' S (by simpa[ON]using f) (bX e o (λk t=>?_));exact(jT p k t).1
def zds{s:STA}(r:SK w s)(h:∀w' a c,ON w' w.heap.size a (mT s.I s.L 6).length c (mT s.I s.L 6)->Below w.heap.size w w'->K (.slice a (mT s.I s.L 6).length c) w'):call Q 209 #[.agg (saC s).toArray] K w:=by
 refine aj (goK func209) (WA ?_);refine bu λd o H W=>?_;have o:=cZ o
 refine MT ?_;refine ldA (n:=6) (vs:=s.I.map .bool) underlying35 rfl kr o (by
  rw[oX];unfold saC;rw[jE,jE,List.take_left' (by simp[r.i6])]) (by simp[r.i6]) ?_
 refine Ti (Inv:=λl i G=>∃(k n:Nat) (a:Option Addr) (c:Nat),l=.slice a n c/\i=ci (k:Nat)/\k<=6/\ON G d.heap.size a n c (mT s.I s.L k)/\Below d.heap.size d G) (μ:=λ_ i _=>6-(intOf i).toNat)
  ⟨0,0,none,0,rfl,rfl,by omega,ON.nil _ _,jU _ _⟩ ?_
 rintro _ _ V B m ⟨k,n,a,c,rfl,rfl,P,q,f⟩ S;have x:=ae f o o.lt;have p:=q.len;have R:=Tb s.I s.L k;have z:=f.size;refine aL ?_;by_cases E:k<6
 .refine ay oo <|Th ?_;refine Yw (v:=.bool (s.I.getD k false)) underlying35 kf kf E (by
   have:=r.i6
   rw[qC,gE oo];simp[List.getD,show k<s.I.length by omega]) ?_
  have b:∀(j:oG) (e:Option Addr) (t g:Nat),ON j d.heap.size e t g (mT s.I s.L (k+1))->Below d.heap.size d j ->
    (∃(A n:Nat) (a:Option Addr) (c:Nat),Value.slice e t g=.slice a n c/\Value.int .i64 ((k:Int)+1)=ci (A:Nat)/\A<=6/\ON j d.heap.size a n c (mT s.I s.L A)/\Below d.heap.size d j)/\6-(intOf (ci ((k:Int)+1))).toNat<m :=
   λj e t g N O=>⟨⟨k+1,t,e,g,rfl,by simp,by omega,N,O⟩,by rw[S];simp[intOf];omega⟩
  have F:(s.I.getD k false && !s.L.getD k false)=false->mT s.I s.L (k+1)=mT s.I s.L k:=λT=>by rw[PT,T];simp
  cases u:s.I.getD k false with
  | false =>
   refine kj <|bZ <|aA <|BV <|aR oo oo ?_;exact b B a n c (by rw[F (by rw[u];rfl)];exact q) f
  | true =>
   refine kN <|MU <|fg underlying35 (s:=1) kf oo oo <|lK (v:=.bool (s.L.getD k false)) x (by rw[show 0+6+(k:Int).toNat*1=6+k by omega];exact zgr r E) <|bc <|cA ?_;cases D:s.L.getD k false with
   | true =>
    refine aA <|BV <|aR oo oo ?_;exact b B a n c (by rw[F (by rw[u,D];rfl)];exact q) f
   | false =>
    refine aV <|aR oo oo ?_;refine zl0 λj M C X=>?_;refine apN (q.bel C) M oo oo λe g U y J=>?_;refine BV <|aR oo oo ?_;exact b U e (n+1) g (by rw[PT,u,D];exact y) ((f.trans (C.mono z)).trans J)
 .refine ax oo ?_;obtain rfl:k=6:=by omega
  refine Tj ?_
  have:=h B a c (by rw[p];exact q.mono oo) (H.trans (f.mono oo))
  rw[p]at this;exact this
end
end Go.Proofs.YtpaghmnnhedccaaGreatDoor
