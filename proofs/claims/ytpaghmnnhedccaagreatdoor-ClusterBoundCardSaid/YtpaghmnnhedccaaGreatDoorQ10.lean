import Derived.Test.YtpaghmnnhedccaaGreatDoorQ9
set_option linter.all false
namespace Go.Proofs.YtpaghmnnhedccaaGreatDoor
set_option maxRecDepth 100000
set_option maxHeartbeats 4000000
open Go.Proofs.Tryz
open Go.RowKit
variable {w w' w0 w2 S O:oG}{K:KV}{zf:Nat->oF}{b c o i g m s j f z d c2 D gc hi:Nat}{a av a2:Option Addr}{x v r:Int}{E t e:TypeId}{A:List Int}{N R:KE}{xs vs:oE}{cx cy:Bool}{α:Type}{T:List (Int×Int)}{X0:List Nat}{X1 Z1 N2 O2 P2 Q2 R2 T2 U2 V2 X2 N3 O3 P3 Q3 T3 U3 V3 W3 X3 Y3 u4 N4 O4 P4 Q4 T4 U4 V4 Y4 Z4 j5 u5 B5 N5 O5 H Z U Y J C:oF}
def gj(s0 a2 s3 f c d b e a D2 D3 D4 D5 D6 D8 D9 E0 E1 E2 E4 E5 E6 E7 E8 F3 F4 F5 F6 F7 F9 G0 G1 G2 G3 G6 G7:oF)(zf:oD):=s0::zf 1::a2::s3::f::c::zf 6::d::b::e::a::zT zf 11 29 (D2::D3::D4::D5::D6::zf 45::zf 46::D8::D9::E0::E1::E2::zf 52::zf 53::E4::E5::E6::E7::E8::zT zf 59 5 (F3::F4::F5::F6::F7::zf 69::zf 70::F9::G0::G1::G2::G3::zT zf 76 4 (G6::G7::zf 82::[])))
def tD(K:KV):KE:=ai Q (cd f254 [1,1,1]) (rk f254 K) xf (rk f254 K)
def tE(K:KV):KE:=ai Q (cd f254 (b1 127)) (rk f254 K) xf (rk f254 K)
abbrev Kl(K:KV)(hA0:KE)(s0 i1 a2:oF)(w:oG):Prop :=
  box Q 42 s0 (λa=>box Q 3 i1 λb=>box Q 46 a2 λc=>ao Q 46 c 4 λd=>ld Q 36 d λe=>bT .eql 36 e (cu 0) λf w=>aM f false (λa=>ao Q 46 c 0 (λb=>ld Q 5 b λc=>bT .neq 5 c (cb 3) λd=>a [b,c,d,d]) w) (λk=>k [uu,uu,uu,uu] w) λg w=>aM (gd g 3) true (λa=>ao Q 46 c 0 (λb=>ld Q 5 b λc=>bT .neq 5 c (cb 4) λd=>a [b,c,d]) w) (λk=>k [uu,uu,uu] w) λh w=>aM f false (λa=>pick (gd g 3) (gd h 2) cF (λb=>a [b]) w) (λk=>k [uu] w) λi=>pick f cT (gd i 0) λj w=>cond j (K (.tuple #[cF,ci 0]) w) (ao Q 42 a 4 (λk=>ld Q 40 k λl=>call Q 266 #[l,.func (.func 267) #[] #[b,c]] λm=>hA0 (gj s0 a2 a b c (ci 0) m uu uu uu uu uu uu uu uu uu uu uu uu uu uu uu uu uu uu uu uu uu uu uu uu uu uu uu uu uu (zV (zV (zV zu 1 [i1]) 6 [cF]) 12 [d,e,f,f,gd g 0,gd g 1,gd g 2,gd g 3,gd h 0,gd h 1,gd h 2,gd i 0,j,k,l,.func (.func 267) #[] #[b,c],m]))) w)) w
def Vx(a:Code)(h:Kl K (ai Q a (rk f254 K) (λ_ _ _=>False) (rk f254 K)) Z H U w):ai Q (rep [1,1,1] a (cd f254 [])) (rk f254 K) xf (rk f254 K) (gj Z U uu uu uu uu uu uu uu uu uu uu uu uu uu uu uu uu uu uu uu uu uu uu uu uu uu uu uu uu uu uu uu uu uu uu (zV zu 1 [H])) w:=Eq.mp kr h
def Tz(h:Kl K (tD K) Z H U w):Gives Q 254 #[Z,H,U] w K:=au func254 kr (Eq.mp (qH (λc=>ai Q c (rk f254 K) xf (rk f254 K) (gj Z U uu uu uu uu uu uu uu uu uu uu uu uu uu uu uu uu uu uu uu uu uu uu uu uu uu uu uu uu uu uu uu uu uu uu (zV zu 1 [H])) w) (by kernel_rfl:(rep [1,1,1] (cd f254 [1,1,1]) (cd f254 []))=(cd f254 []))) (Vx (cd f254 [1,1,1]) h))
abbrev Fl(K:KV)(hA0:KE)(X1 Z1 N2 O2 P2 Q2 R2 T2 U2 V2 X2 N3 O3 P3 Q3 T3 U3 V3 W3 X3 Y3 u4 N4 O4 P4 Q4 T4 U4 V4 Y4 Z4 j5 u5 B5 N5 O5:oF)(zf:oD)(w:oG):Prop :=
  bT .lss 3 R2 (ci 0) (λa w=>cond a (K (.tuple #[cF,ci 0]) w) (ao Q 42 N2 4 (λb=>ld Q 40 b λc=>aW Q 40 c R2 λd=>ld Q 96 d λe=>alc Q 96 λf=>sto Q 96 f e λ_=>ao Q 46 P2 0 λg=>ld Q 5 g λh=>bT .eql 5 h (cb 3) λi w=>aM i true (λa=>ao Q 96 f 1 (λb=>ld Q 36 b λc=>ao Q 46 P2 4 λd=>ld Q 36 d λe=>bF .eql 36 c e λf=>a [b,c,d,e,f]) w) (λk=>k [uu,uu,uu,uu,uu] w) λj=>pick i (gd j 4) cF λk w=>aM k true (λa=>ao Q 96 f 2 (λb=>ld Q 36 b λc=>ao Q 46 P2 1 λd=>ld Q 36 d λe=>bF .eql 36 c e λf=>a [b,c,d,e,f]) w) (λk=>k [uu,uu,uu,uu,uu] w) λl=>pick k (gd l 4) cF λm w=>aM m true (λa=>ao Q 96 f 3 (λb=>ld Q 2 b λc=>ao Q 46 P2 3 λd=>ld Q 2 d λe=>bF .eql 2 c e λf=>a [b,c,d,e,f]) w) (λk=>k [uu,uu,uu,uu,uu] w) λn=>pick m (gd n 4) cF λo=>hA0 (gj X1 Z1 N2 O2 P2 Q2 R2 f o (gd j 0) (gd j 1) (gd j 2) (gd j 3) (gd j 4) (gd l 0) (gd l 1) (gd l 2) (gd l 3) (gd l 4) (gd n 0) (gd n 1) (gd n 2) (gd n 3) (gd n 4) P4 Q4 T4 U4 V4 Y4 Z4 j5 u5 B5 N5 O5 (zV (zV (zV (zV zf 29 [R2,a,b,c,R2,d,e,g,h,i,i]) 45 [k,k]) 52 [m,m]) 59 [o]))) w)) w
def Qd(a:Code)(h:Fl K (ai Q a (rk f254 K) (λ_ _ _=>False) (rk f254 K)) X1 Z1 Z C P2 Q2 R2 T2 U2 V2 X2 U O3 P3 Q3 T3 U3 V3 W3 X3 Y3 u4 Y O4 P4 Q4 T4 U4 V4 Y4 Z4 j5 u5 H J O5 zf w):ai Q (rep [1,1,1] a (cd f254 [1,1,1])) (rk f254 K) xf (rk f254 K) (gj X1 Z1 Z C P2 Q2 R2 T2 U2 V2 X2 U O3 P3 Q3 T3 U3 V3 W3 X3 Y3 u4 Y O4 P4 Q4 T4 U4 V4 Y4 Z4 j5 u5 H J O5 zf) w:=Eq.mp kr h
def Qe(h:Fl K (tE K) X1 Z1 Z C P2 Q2 R2 T2 U2 V2 X2 U O3 P3 Q3 T3 U3 V3 W3 X3 Y3 u4 Y O4 P4 Q4 T4 U4 V4 Y4 Z4 j5 u5 H J O5 zf w):tD K (gj X1 Z1 Z C P2 Q2 R2 T2 U2 V2 X2 U O3 P3 Q3 T3 U3 V3 W3 X3 Y3 u4 Y O4 P4 Q4 T4 U4 V4 Y4 Z4 j5 u5 H J O5 zf) w:=by delta tD;exact Eq.mp (qH (λc=>ai Q c (rk f254 K) xf (rk f254 K) (gj X1 Z1 Z C P2 Q2 R2 T2 U2 V2 X2 U O3 P3 Q3 T3 U3 V3 W3 X3 Y3 u4 Y O4 P4 Q4 T4 U4 V4 Y4 Z4 j5 u5 H J O5 zf) w) (by kernel_rfl:(rep [1,1,1] (cd f254 (b1 127)) (cd f254 [1,1,1]))=(cd f254 [1,1,1]))) (Qd (cd f254 (b1 127)) h)
abbrev Fm(K:KV)(X1 Z1 N2 O2 P2 Q2 R2 T2 U2 V2 X2 N3 O3 P3 Q3 T3 U3 V3 W3 X3 Y3 u4 N4 O4 P4 Q4 T4 U4 V4 Y4 Z4 j5 u5 B5 N5 O5:oF)(zf:oD)(w:oG):Prop :=
  ao Q 46 P2 0 (λa=>ld Q 5 a λa=>bT .eql 5 a (cb 4) λa w=>aM a true (λa=>ao Q 96 T2 4 (λb=>ld Q 36 b λc=>ao Q 46 P2 4 λd=>ld Q 36 d λe=>bF .eql 36 c e λf=>a [b,c,d,e,f]) w) (λk=>k [uu,uu,uu,uu,uu] w) λb=>pick a (gd b 4) cF λa w=>aM a true (λa=>ao Q 96 T2 1 (λb=>ld Q 36 b λc=>ao Q 46 P2 5 λd=>ld Q 36 d λe=>bF .eql 36 c e λf=>a [b,c,d,e,f]) w) (λk=>k [uu,uu,uu,uu,uu] w) λb=>pick a (gd b 4) cF λa=>un Q .not U2 λb w=>aM b true (λb=>un Q .not a (λc=>b [a,c]) w) (λk=>k [uu,uu] w) λa=>pick b (gd a 1) cF λa w=>cond a (K (.tuple #[cT,ci 14]) w) (K (.tuple #[cT,ci 0]) w)) w
def Qf(h:Fm K X1 Z1 Z C P2 Q2 R2 T2 U2 V2 X2 U O3 P3 Q3 T3 U3 V3 W3 X3 Y3 u4 Y O4 P4 Q4 T4 U4 V4 Y4 Z4 j5 u5 H J O5 zf w):ai Q (cd f254 (b1 127)) (rk f254 K) xf (rk f254 K) (gj X1 Z1 Z C P2 Q2 R2 T2 U2 V2 X2 U O3 P3 Q3 T3 U3 V3 W3 X3 Y3 u4 Y O4 P4 Q4 T4 U4 V4 Y4 Z4 j5 u5 H J O5 zf) w:=Eq.mp kr h
def Qg(h:Fm K X1 Z1 Z C P2 Q2 R2 T2 U2 V2 X2 U O3 P3 Q3 T3 U3 V3 W3 X3 Y3 u4 Y O4 P4 Q4 T4 U4 V4 Y4 Z4 j5 u5 H J O5 zf w):tE K (gj X1 Z1 Z C P2 Q2 R2 T2 U2 V2 X2 U O3 P3 Q3 T3 U3 V3 W3 X3 Y3 u4 Y O4 P4 Q4 T4 U4 V4 Y4 Z4 j5 u5 H J O5 zf) w:=by delta tE;exact Eq.mp (qH (λc=>ai Q c (rk f254 K) xf (rk f254 K) (gj X1 Z1 Z C P2 Q2 R2 T2 U2 V2 X2 U O3 P3 Q3 T3 U3 V3 W3 X3 Y3 u4 Y O4 P4 Q4 T4 U4 V4 Y4 Z4 j5 u5 H J O5 zf) w) (by kernel_rfl:(cd f254 (b1 127))=(cd f254 (b1 127)))) (Qf h)
attribute [irreducible] tD tE
def Dg(f a2 e c a d b:oF)(zf:oD):=f::zf 1::a2::zf 3::e::c::a::d::zf 8::zf 9::b::zT zf 11 29 ([])
def BF(K:KV):KE:=ai Q (cd f233 [1,1,1,1]) (rk f233 K) xf (rk f233 K)
abbrev Qh(K:KV)(hA0:KE)(l0 i1 a2:oF)(w:oG):Prop :=
  box Q 46 a2 (λa=>alc Q 54 λb=>bT .eql 121 l0 (.pointer none) λc w=>cond c (ld Q 54 b (λa=>sto Q 54 b a λ_=>aY Q [(some 54,b),(none,ci 2)] K) w) (aF (λS w=>hL S 46 a λd=>call Q 54 #[l0] (λe=>aX S λ_=>call Q 254 #[e,i1,d] λf=>aF λS w=>hld S (ext Q f 0) λg=>hld S (ext Q f 1) λh=>cond g (ld Q 54 b (λa=>sto Q 54 b a λ_=>aY Q [(some 54,b),(none,h)] K) w) (ld Q 46 a (λi=>call Q 255 #[l0,i1,i] λj=>ext Q j 0 λk=>ext Q j 1 λl=>alc Q 54 λm=>sto Q 54 m k λ_=>hA0 (Dg l0 a2 uu a b l m (zV (zV (zV (zV (zV zu 1 [i1]) 8 [g,h]) 11 [l0,c]) 14 [f,l0,e,i1,d,f,g,h,g]) 25 [j,l0,i1,i,j,k,l]))) w)) w) w.drew)) w
def za6(a:Code)(h:Qh K (ai Q a (rk f233 K) (λ_ _ _=>False) (rk f233 K)) Z H U w):ai Q (rep [1,1,1,1] a (cd f233 [])) (rk f233 K) xf (rk f233 K) (Dg Z U uu uu uu uu uu (zV zu 1 [H])) w:=Eq.mp kr h
def Yl(h:Qh K (BF K) Z H U w):Gives Q 233 #[Z,H,U] w K:=au func233 kr (Eq.mp (qH (λc=>ai Q c (rk f233 K) xf (rk f233 K) (Dg Z U uu uu uu uu uu (zV zu 1 [H])) w) (by kernel_rfl:(rep [1,1,1,1] (cd f233 [1,1,1,1]) (cd f233 []))=(cd f233 []))) (za6 (cd f233 [1,1,1,1]) h))
def Km(h:bT .neq 26 Z (ci 0) (λa w=>cond a (ld Q 54 H (λa=>sto Q 54 H a λ_=>aY Q [(some 54,H),(none,Z)] K) w) (aF (λS w=>hL S 54 U λa=>hL S 54 U λb=>call Q 69 #[Y,b] (λb=>aX S λ_=>sto Q 54 H a λ_=>aF λ_=>aY Q [(some 54,H),(none,b)] K) w) w.drew)) w):BF K (Dg Y Z1 J C H Z U zf) w:=mpK h
attribute [irreducible] BF
def Cy(e a2 d c A4 b a:oF)(zf:oD):=e::zf 1::a2::zf 3::d::c::A4::zT zf 7 3 (b::a::zT zf 12 27 ([]))
def Bt(K:KV):KE:=ai Q (cd f255 (b1 127)) (rk f255 K) xf (rk f255 K)
abbrev OR(K:KV)(hA0:KE)(l0 i1 a2:oF)(w:oG):Prop :=
  box Q 3 i1 (λa=>box Q 46 a2 λb=>alc Q 54 λc=>bT .eql 121 l0 (.pointer none) λd w=>cond d (bld Q 54 #[] (λa=>sto Q 54 c a λ_=>aY Q [(some 54,c),(none,ci 2)] K) w) (call Q 250 #[l0] (λe=>alc Q 38 λf=>sto Q 38 f e λ_=>ld Q 38 f λg=>ld Q 3 a λh=>call Q 268 #[g,h] λi=>ext Q i 0 λj=>ext Q i 1 λk=>alc Q 36 λl=>sto Q 36 l j λ_=>bT .eql 26 k (ci 10) λm w=>cond m (bld Q 54 #[] (λa=>sto Q 54 c a λ_=>aY Q [(some 54,c),(none,k)] K) w) (ld Q 46 b (λn=>call Q 269 #[n,.func (.func 270) #[] #[a,l,f]] λo=>alc Q 54 λp=>sto Q 54 p o λ_=>hA0 (Cy l0 a2 a b c k p (zV (zV (zV (zV (zV zu 1 [i1]) 7 [ci 0,f,l]) 13 [l0,d]) 16 [l0,e,i,g,h,i,j,k,k,m]) 28 [n,.func (.func 270) #[] #[a,l,f],o]))) w)) w)) w
def YC(a:Code)(h:OR K (ai Q a (rk f255 K) (λ_ _ _=>False) (rk f255 K)) Z H U w):ai Q (rep (b1 127) a (cd f255 [])) (rk f255 K) xf (rk f255 K) (Cy Z U uu uu uu uu uu (zV zu 1 [H])) w:=Eq.mp kr h
def XS(h:OR K (Bt K) Z H U w):Gives Q 255 #[Z,H,U] w K:=au func255 kr (Eq.mp (qH (λc=>ai Q c (rk f255 K) xf (rk f255 K) (Cy Z U uu uu uu uu uu (zV zu 1 [H])) w) (by kernel_rfl:(rep (b1 127) (cd f255 (b1 127)) (cd f255 []))=(cd f255 []))) (YC (cd f255 (b1 127)) h))
def Ug(h:ld Q 54 Z (λa=>call Q 271 #[U,a] λa=>bT .neq 26 a (ci 0) λb w=>cond b (bld Q 54 #[] (λb=>sto Q 54 H b λ_=>aY Q [(some 54,H),(none,a)] K) w) (ld Q 54 Z (λa=>sto Q 54 H a λ_=>aY Q [(some 54,H),(none,ci 0)] K) w)) w):Bt K (Cy U Z1 Y J H C Z zf) w:=mpK h
attribute [irreducible] Bt
def XT(h:box Q 46 H (λa=>alc Q 54 λb=>ao Q 46 a 0 λc=>ld Q 5 c λc=>ao Q 46 a 1 λd=>ld Q 36 d λd=>ao Q 46 a 2 λe=>ld Q 3 e λe=>ao Q 46 a 3 λf=>ld Q 2 f λf=>ao Q 46 a 4 λg=>ld Q 36 g λg=>ao Q 46 a 5 λa=>ld Q 36 a λa=>bld Q 54 #[(3,c),(4,d),(5,e),(6,f),(7,g),(8,a)] λc=>alc Q 54 λa=>sto Q 54 a c λ_=>bA Q Z #[a] λ_=>ld Q 54 a λa=>sto Q 54 b a λ_=>aY Q [(some 54,b)] K) w):Gives Q 269 #[H,Z] w K:=au func269 kr (mpK h)
def Uf(h:aF (λS w=>hL S 3 Y λa=>hL S 36 Z λb=>hL S 38 U λc=>hN S H λd=>hF S 54 d 0 λd=>sto Q 3 d a (λ_=>aX S λS w=>hN S H λa=>hF S 54 a 1 λa=>sto Q 36 a b (λ_=>aX S λS w=>hN S H λa=>hF S 54 a 2 λa=>sto Q 38 a c (λ_=>K (.tuple #[])) w) w) w) w.drew):Gives Q 270 #[H,Y,Z,U] w K:=au func270 kr (mpK h)
def dY(e b c A3 a d D1:oF)(zf:oD):=e::b::zf 2::c::A3::zf 5::a::d::zT zf 8 15 (D1::zT zf 24 8 ([]))
def jp(K:KV):KE:=kZ f213 [1,1,1] K
def jo(K:KV):KE:=ai Q (cd f213 [1,1,0,1]) (jp K) xf (rk f213 K)
abbrev Ba(K:KV)(hA0:KE)(r0 a1:oF)(w:oG):Prop :=
  box Q 46 a1 (λa=>alc Q 54 λb w=>aF (λS w=>hN S r0 λc=>hF S 133 c 1 λd=>hL S 121 d λe=>hN S r0 λf=>hF S 133 f 0 λg=>hL S 3 g λh=>hL S 46 a λi=>(call Q 233 #[e,h,i] (λj=>aF λS w=>hld S (ext Q j 0) λk=>hld S (ext Q j 1) λl=>alc Q 54 (λm=>aX S λS=>sto Q 54 m k λ_=>aX S λ_=>ld Q 54 m λn=>bld Q 54 #[] λo=>bF .neq 54 n o λp=>hA0 (dY r0 a1 a b m l p (zV (zV zu 5 [ci 0]) 8 [j,r0,c,d,e,r0,f,g,h,i,j,k,l,n,o]))) w) w)/\(alc Q 54 (λj=>aX S λ_=>call Q 233 #[e,h,i] λk=>aF λS w=>hld S (ext Q k 0) λl=>hld S (ext Q k 1) λm=>sto Q 54 j l (λ_=>aX S λ_=>ld Q 54 j λn=>bld Q 54 #[] λo=>bF .neq 54 n o λp=>hA0 (dY r0 a1 a b j m p (zV (zV zu 5 [ci 0]) 8 [k,r0,c,d,e,r0,f,g,h,i,k,l,m,n,o]))) w) w)) w.drew) w
def Li(a:Code)(h:Ba K (ai Q a (ai Q (cd f213 [1,1,1]) (rk f213 K) (λ_ _ _=>False) (rk f213 K)) (λ_ _ _=>False) (rk f213 K)) H Z w):ai Q (rep [1,1,0,1] a (cd f213 [])) (rk f213 K) xf (rk f213 K) (dY H Z uu uu uu uu uu zu) w:=Eq.mp kr h
def JO(h:Ba K (jo K) H Z w):Gives Q 213 #[H,Z] w K:=au func213 kr (Eq.mp (qH (λc=>ai Q c (rk f213 K) xf (rk f213 K) (dY H Z uu uu uu uu uu zu) w) (by kernel_rfl:(rep [1,1,0,1] (cd f213 [1,1,0,1]) (cd f213 []))=(cd f213 []))) (Li (cd f213 [1,1,0,1]) h))
def ym(h:cond U (aF (λS w=>hN S H λa=>hF S 133 a 2 λb=>hL S 124 b λc=>hL S 54 Z λd=>call Q 70 #[c,d] (λe=>jp K (dY H Z1 Y J Z C U (zV zf 24 [H,a,b,c,d,e]))) w) w.drew) (jp K (dY H Z1 Y J Z C U zf) w)):jo K (dY H Z1 Y J Z C U zf) w:=by delta jo;revert h;exact mpF
def yn(h:ld Q 54 Z (λa=>sto Q 54 H a λ_=>aY Q [(some 54,H),(none,U)] K) w):jp K (dY C Z1 Y H Z U J zf) w:=mpK h
attribute [irreducible] jp jo
def fT(f c b d a e D3:oF)(zf:oD):=f::c::b::zf 3::d::zf 5::a::e::zT zf 8 17 (D3::zT zf 26 27 ([]))
def gC(K:KV):KE:=kZ f197 [1,1,1,1] K
def rJ(K:KV):KE:=ai Q (cd f197 (b1 61)) (gC K) xf (rk f197 K)
abbrev Df(K:KV)(hA0:KE)(r0 a1 now2:oF)(w:oG):Prop :=
  box Q 46 a1 (λa=>alc Q 54 λb=>bT .eql 107 r0 (.pointer none) λc w=>cond c (ld Q 54 b (λa=>sto Q 54 b a λ_=>aY Q [(some 54,b),(none,ci 2)] K) w) (ld Q 46 a (λd=>call Q 213 #[r0,d] λe=>ext Q e 0 λf=>ext Q e 1 λg=>sto Q 54 b f λ_=>bT .eql 26 g (ci 11) λh w=>aM h true (λb=>ao Q 46 a 0 (λa=>ld Q 5 a λc=>bT .eql 5 c (cb 3) λd=>b [a,c,d]) w) (λk=>k [uu,uu,uu] w) λi=>pick h (gd i 2) cF λj=>hA0 (fT r0 a1 now2 a b g j (zV (zV zu 10 [r0,c]) 13 [e,r0,d,e,f,g,g,h,h,gd i 0,gd i 1,gd i 2]))) w)) w
def NI(a:Code)(h:Df K (ai Q a (ai Q (cd f197 [1,1,1,1]) (rk f197 K) (λ_ _ _=>False) (rk f197 K)) (λ_ _ _=>False) (rk f197 K)) Z U H w):ai Q (rep (b1 61) a (cd f197 [])) (rk f197 K) xf (rk f197 K) (fT Z U H uu uu uu uu zu) w:=Eq.mp kr h
def Me(h:Df K (rJ K) Z U H w):Gives Q 197 #[Z,U,H] w K:=au func197 kr (Eq.mp (qH (λc=>ai Q c (rk f197 K) xf (rk f197 K) (fT Z U H uu uu uu uu zu) w) (by kernel_rfl:(rep (b1 61) (cd f197 (b1 61)) (cd f197 []))=(cd f197 []))) (NI (cd f197 (b1 61)) h))
def uf(h:cond Y (aF (λS w=>hN S H λa=>hF S 133 a 1 λb=>hL S 121 b λc=>hN S H λd=>hF S 133 d 0 λe=>hL S 3 e λf=>hF S 46 Z 1 λg=>hL S 36 g λh=>hF S 46 Z 3 λi=>hL S 2 i λj=>call Q 214 #[c,f,h,j] (λk=>aF λS w=>hld S (ext Q k 0) λl=>hld S (ext Q k 1) λm=>aF (λS w=>hN S H λn=>hF S 133 n 5 λo=>hL S 130 o λp=>hF S 46 Z 3 λr=>hL S 2 r λs=>call Q 215 #[p,l,s,U] (λt=>gC K (fT H Z1 U Z J C Y (zV (zV zf 8 [l,m]) 26 [k,H,a,b,c,H,d,e,f,g,h,i,j,k,l,m,H,n,o,p,l,r,s,U,t]))) w) w.drew) w) w.drew) (gC K (fT H Z1 U Z J C Y zf) w)):rJ K (fT H Z1 U Z J C Y zf) w:=by delta rJ;revert h;exact mpF
def JL(h:ld Q 54 H (λa=>sto Q 54 H a λ_=>aY Q [(some 54,H),(none,Z)] K) w):gC K (fT C Z1 U Y H Z J zf) w:=mpK h
attribute [irreducible] gC rJ
def Xj(h:box Q 38 Z (λa=>call Q 120 #[H] λb=>un Q .not b λb w=>cond b (K (.tuple #[cu 0,ci 10]) w) (bT .sub 3 H (ci 1) (λb=>aW Q 38 a b λb=>ld Q 36 b λb=>bT .geq 36 b (cu 1099511627776) λb w=>cond b (K (.tuple #[cu 0,ci 6]) w) (bT .sub 3 H (ci 1) (λb=>aW Q 38 a b λa=>ld Q 36 a λa=>bT .add 36 a (cu 1) λa=>K (.tuple #[a,ci 0])) w)) w)) w):Gives Q 268 #[Z,H] w K:=au func268 kr (mpK h)
def KT(h:box Q 54 Z (λa=>ld Q 54 a λa=>call Q 86 #[H,a] λa=>ext Q a 0 λ_=>ext Q a 1 K) w):Gives Q 271 #[H,Z] w K:=au func271 kr (mpK h)
def gB(s0 a d b c A4 A5:oF)(zf:oD):=s0::a::d::b::zf 4::c::zf 6::A4::A5::zT zf 9 10 ([])
def cG(K:KV):KE:=kZ f266 [1,1] K
def gn(K:KV):KE:=ai Q (cd f266 [1,0,1,0]) (cG K) (xx xf (cG K) 0) (rk f266 K)
def xy(h:lN 40 H (λZ=>gn K (gB H U uu uu uu Z (ci 0) (zV (zV zu 4 [ci 0]) 6 [H]))) w):Gives Q 266 #[H,U] w K:=au func266 kr (mpK h)
def ww(Inv:oF->oG->Prop)(μ:oF->oG->Nat)(c:Inv C w)(d:∀(a:oF) (b:oD) (w:oG) (m:Nat),Inv a w->m=μ a w ->
  lS a H (λc w=>cond c (aW Q 40 Z a (λb=>ld Q 96 b λb=>bA Q U #[b] λb w=>cond b (K a w) (nC a (λa w=>(Inv a w)/\((μ a w)<m)) w)) w) (cG K (gB Z U Y J (b 5) H a (zV b 9 [c])) w)) w):gn K (gB Z U Y J P2 H C zf) w:=by refine lV (cd f266 (b1 52)) [(4,2),(8,11)] 8 zf c d ?_;intro e f;exact mpF
def wx(h:K (ci (-1)) w):cG K (gB C Z1 H Z U Y J zf) w:=mpK h
attribute [irreducible] cG gn
def Qc(h:box Q 96 Z (λd=>ao Q 96 d 0 λa=>ld Q 3 a λa=>ld Q 3 U λb=>bF .eql 3 a b λe w=>aM e true (λe=>ao Q 96 d 1 (λa=>ld Q 36 a λb=>ao Q 46 H 4 λc=>ld Q 36 c λd=>bF .eql 36 b d λf=>e [a,b,c,d,f,f]) w) (λk=>k [uu,uu,uu,uu,uu,uu] w) λa w=>aM (gd a 5) false (λf=>ao Q 96 d 4 (λa=>ld Q 36 a λb=>ao Q 46 H 4 λc=>ld Q 36 c λd=>bF .eql 36 b d λe=>f [a,b,c,d,e]) w) (λk=>k [uu,uu,uu,uu,uu] w) λb w=>aM e true (λg=>pick (gd a 5) cT (gd b 4) (λa=>g [a]) w) (λk=>k [uu] w) λc=>pick e (gd c 0) cF K) w):Gives Q 267 #[Z,U,H] w K:=au func267 kr (mpK h)
def FP(h:box Q 282 Z (λb w=>aF (λS w=>hN S H λa=>hF S 133 a 1 λa=>hL S 121 a λa=>hN S H λc=>hF S 133 c 0 λc=>hL S 3 c λc=>hF S 282 b 5 λd=>hL S 36 d λd=>hF S 282 b 6 λe=>hL S 2 e λe=>call Q 164 #[a,c,d] (λa=>aX S λ_=>call Q 252 #[a,e] λa=>aF λ_=>bT .eql 2 a (ci 0) λc w=>cond c (K cN w) (ao Q 282 b 5 (λc=>ld Q 36 c λc=>ao Q 282 b 1 λb=>ld Q 3 b λb=>bld Q 46 #[(0,cb 5),(1,c),(2,b),(3,a)] λa=>call Q 213 #[H,a] λa=>ext Q a 0 λb=>ext Q a 1 λc=>alc Q 54 λa=>sto Q 54 a b λ_=>bT .neq 26 c (ci 0) λb w=>cond b (K cN w) (ld Q 54 a (λa=>bM Q 30 1 #[(0,a)] K) w)) w)) w) w.drew) w):Gives Q 228 #[H,Z] w K:=au func228 kr (mpK h)
structure RS where
 l:PL
 A:List EV
 P:List (List Int)
structure MW(k:Nat) (E:List EV) (S:Nat->RS):Prop where
 hist:HistL k E
 noj:noJ E
 few:∀e∈E,e.q<k
 lk:∀i,i<k->LK k E (S i).l
 own:∀i,i<k->∀e∈E,e.q=i->e.s<=(S i).l.V.getD i 0
 app:∀i,i<k->zkQ E (S i).A (S i).l
 kn:∀i j,i<k->j<k->∀v,(S i).P[j]? = some v->∀q,v.getD q 0<=(S j).l.V.getD q 0
structure MG where
 k:Int
 f:Nat
 t:Nat
 V:List Int
 n:Int
 a:Int
 L:List EV
structure MgOK(k:Nat) (E:List EV) (S:Nat->RS) (m:MG):Prop where
 ft:m.f<k/\m.t<k/\m.f≠m.t
 v6:m.V.length=6
 le:∀q,m.V.getD q 0<=(S m.f).l.V.getD q 0
 is:(m.k=1/\m.n=0/\m.a=0/\m.L.length<=16/\∃P,ChE E P m.L/\∀q,P.getD q 0<=(S m.t).l.V.getD q 0)\/(m.k=2/\m.L=[]/\m.n≠0/\1<=m.a/\m.a<=1125899906842624)
structure RdI(k:Nat) (E:List EV) (S:Nat->RS) (a b:Nat) (D:Nat->Nat->Prop):Prop where
 ra:∀j,j<k->min E.length a<=cnE E (S j).l.V
 rb:∀o j,o<k->j<k->o≠j->∀v,(S o).P[j]? = some v->min E.length b<=cnE E v
 rc:∀o j,o<k->j<k->o≠j->D o j->min E.length (b+1)<=cnE E (S j).l.V\/∀f∈E,f.q=o->f.s<=(S j).l.V.getD o 0
 rd:∀o j,o<k->j<k->o≠j->D o j->∀v,(S j).P[o]? = some v->min E.length a<=cnE E v
def DU{y:Int}:re x y<0↔x<y:=by
 unfold re;split
 .omega
 .split<;>omega
def swoZ(f:α->Int):Go.Sort.SWO (Go.Proofs.ltOf λx y:α=>re (f x) (f y)) where
 irrefl x:=qE (by rw[DU];omega)
 trans x y z h k:=qF (by
  have h:=DU.1 (of_decide_eq_true h);have k:=DU.1 (of_decide_eq_true k);rw[DU];omega)
 ntrans x y z h k:=qE (by
  have h:=mt DU.2 (of_decide_eq_false h);have k:=mt DU.2 (of_decide_eq_false k);rw[DU];omega)
open Go.Sort in
theorem XU [Inhabited α]{k0:Nat}{enc:α->oE}(e:0<k0)(a:∀x,(enc x).length=k0){G:List α}{n:Nat}(b:G.length=n)(l:n*k0<=xs.length):putCells id 0 (flatK enc k0 G.toArray) xs.toArray=(G.flatMap enc++xs.drop (n*k0)).toArray:=by
 have i:(flatK enc k0 G.toArray).size=n*k0:=by rw[size_flatK];simp[b]
 have c:(G.flatMap enc).length=n*k0:=by rw[qa a,b]
 apply Array.ext_getElem?;intro k;unfold putCells;rw[Array.getElem?_mapIdx,i,List.getElem?_toArray,List.getElem?_toArray];by_cases h:k<n*k0
 .have d:k<xs.length:=by omega
  have g:k / k0<G.length:=by rw[b];exact Nat.div_lt_of_lt_mul (by rw[Nat.mul_comm];exact h)
  rw[gE d,jP,oJ ⟨qG _,by omega⟩,qO oo,Nat.sub_zero,get_flatK _ _ _ _ (by simp[b];exact h)];have j:G[k / k0]? = some G[k / k0]:=gE g
  have:=Ht a G (k / k0) _ (k%k0) j (Nat.mod_lt _ e)
  rw[show k / k0*k0+k%k0=k from Nat.div_add_mod' _ _]at this;rw[this];have f:k%k0<(enc G[k / k0]).length:=by rw[a];exact Nat.mod_lt _ e
  rw[gE f];simp[g,f]
 .rw[qP oo,c,jM,show n*k0+(k-n*k0)=k by omega];cases m:xs[k]? with
  | none=>rfl
  | some v=>rw[jP,oI oo]
open Go.Sort in
theorem Ol [Inhabited α]{k0:Nat}{enc:α->oE}{T:TypeId}(j:0<k0)(f:∀x,(enc x).length=k0){G G':List α}{B n:Nat}{os:Array Obj}(a:Opn w B T k0 n c g xs (G.flatMap enc))(i:G'.length=n):Opn (sortWorldK enc k0 w g 0 m G'.toArray os) B T k0 n c g (G'.flatMap enc++xs.drop (n*k0)) (G'.flatMap enc)/\w.grownBy (sortWorldK enc k0 w g 0 m G'.toArray os) (some g):=by
 have o:n*k0<=xs.length:=by rw[a.len];exact Nat.mul_le_mul_right _ a.nc
 have d:(G'.flatMap enc).length=n*k0:=by rw[qa f,i]
 have p:=a.blk.lt;have l:(sortWorldK enc k0 w g 0 m G'.toArray os).heap[g]? = some (.cells (G'.flatMap enc++xs.drop (n*k0)).toArray T):=by
  show (w.heap.modify g (onCells (putCells id 0 (flatK enc k0 G'.toArray)))++os)[g]? = _;have b:=a.blk;unfold Go.Proofs.YtpaghmnnhedccaaGreatDoor.blk at b;rw[Array.getElem?_append_left (by simpa using p),Array.getElem?_modify,oJ rfl,b,jP];unfold onCells;simp only;rw[XU j f i o]
 refine⟨⟨l,a.lo,a.nc,a.cm,?_,?_,?_⟩,⟨rfl,rfl,rfl,?_,λk q h=>?_⟩⟩
 .rw[oT,d,qB,a.len]
  have:=a.len
  omega
 .rw[qJ oo,tL oo]
 .exact d
 .show w.heap.size<=(w.heap.modify g _++os).size;simp
 .show (w.heap.modify g _++os)[k]? = _;rw[Array.getElem?_append_left (by simpa using q),Array.getElem?_modify,oI (λe=>h (by rw[e]))]
open Go.Sort in
theorem zhZ [Inhabited α]{k0:Nat}{enc:α->oE}{T:TypeId}(A:0<k0)(b:∀x,(enc x).length=k0)(Z:∀x,∀v∈enc x,v.oneCell'=true){r:Go.Shelf.Ren}(L:SlLaysF0.n6 Q r)(N:∀w,(isAgg (r.t 24)).run Q w=.ok true w)(zE:∀w,(Go.sizeOf (r.t 24)).run Q w=.ok k0 w){s:α->α->Int}(hO:SWO (Go.Proofs.ltOf s))(U:∀d w,(callFunc f d).run Q w=.ok (.enter f d) w)(D:KO Q (r.f 6))(O:∀x y W,Calls Q f (#[.agg (enc x).toArray,.agg (enc y).toArray]++#[]) W λe a => e=.returned (ci (s x y))/\∃q os',a=grow (W.drewN q) os'){G:List α}{B n:Nat}(M:w.ownsRow B T k0 (.slice a n c) n (G.flatMap enc))(I:G.length=n)(hn:n<4611686018427387904)(h:∀(w':oG) (G':List α),G'.Perm G->G'.Pairwise (λx y=>¬s y x<0)->w'.ownsRow B T k0 (.slice a n c) n (G'.flatMap enc)->w.grownBy w' (Value.slice a n c).ownBlock->K (.tuple #[]) w'):call Q (r.f 6) #[.slice a n c,.func (.func f) #[] #[]] K w:=by
 refine aj D ?_;unfold Gives;by_cases hz:n=0
 .subst hz;have hG:G=[]:=List.eq_nil_of_length_eq_zero I;subst hG;have u:=AnyF.slices_SortFunc_none L a c (.func (.func f) #[] #[]) w;refine Calls.mono u λe w' C=>?_;obtain⟨rfl,rfl⟩:=C;exact⟨_,rfl,h _ [] (List.Perm.refl _) List.Pairwise.nil M ⟨rfl,rfl,rfl,Nat.le_refl _,λ_ _ _=>rfl⟩⟩
 .obtain⟨g,P,rfl,p⟩:=gy M oo;subst I;have hH:HoldsK enc k0 w g 0 G.toArray:=by
   intro j k;rw[size_flatK]at k;have k:j<G.length*k0:=by simpa using k
   have z:j / k0<G.length:=Nat.div_lt_of_lt_mul (by rw[Nat.mul_comm];exact k);have hx:G[j / k0]? = some G[j / k0]:=gE z;have H:j%k0<(enc G[j / k0]).length:=by rw[b];exact Nat.mod_lt _ A
   refine⟨?_,?_⟩
   .rw[p.blk.cell,oK,get_flatK _ _ _ _ (by simpa using k)]
    have:=p.cell b rfl hx (Nat.mod_lt j A)
    rw[show j / k0*k0+j%k0=j from Nat.div_add_mod' _ _]at this;rw[this,gE H];simp[z,H]
   .have o:=p.blk;unfold Go.Proofs.YtpaghmnnhedccaaGreatDoor.blk at o;unfold World.frozen?;rw[o];rfl
  have u:=AnyQ.slices_SortFunc L k0 N zE enc b Z s hO f #[] g 0 c G.toArray w U (λm a b _ x y=>O x y _) hH p.blk.lt (by simpa using hn);rw[List.size_toArray]at u;refine Calls.mono u λe w' C=>?_;obtain⟨rfl,d',m,os,J,hs,rfl⟩:=C;have hd:d'.toList.toArray=d':=rfl;have l:d'.toList.length=G.length:=by
   have:=J.1
   simpa using this
  rw[<-hd];obtain⟨o2,Y⟩:=Ol (m:=m) (os:=os) A b p (G':=d'.toList) l;refine⟨_,rfl,h _ d'.toList ?_ ?_ o2.own Y⟩
  .have F:=J.2.2;have R:d'.extract 0 G.length=d':=by rw[<-l];simp
   have S:G.toArray.extract 0 G.length=G.toArray:=by simp
   rw[R,S]at F;exact F
  .rw[List.pairwise_iff_getElem];intro i j z k E
   have:=hs i j (qG _) E (by rw[<-l];exact k)
   unfold Go.Proofs.ltOf at this;rw[decide_eq_false_iff_not]at this;have V:d'[i]! = d'.toList[i]:=by simp[show i<d'.size by simpa using z]
   have X:d'[j]! = d'.toList[j]:=by simp[show j<d'.size by simpa using k]
   rw[V,X]at this;exact this
end Go.Proofs.YtpaghmnnhedccaaGreatDoor
namespace Go.Proofs
open Go.Shelf
def Tryz.sortWt_ren:Go.Shelf.Ren:=⟨λ|6=>260|15=>92|14=>273|28=>115|29=>116|20=>278|21=>279|22=>280|23=>281|24=>282|25=>283|26=>284|27=>285|46=>294|47=>123|48=>124|49=>295|50=>296|57=>300|n=>n,λ|22=>346|24=>287|25=>365|3=>3|39=>147|0=>0|53=>220|55=>36|4=>4|46=>234|45=>233|50=>238|5=>5|9=>9|66=>246|70=>250|76=>261|77=>262|n=>n,λ|n=>n⟩
theorem Tryz.sortWt : Go.Proofs.SlLaysF.n6 Tryz.prog Tryz.sortWt_ren := {
  mixed := by kernel_rfl
  f6 := ⟨Tryz.f260.name, by decide, Tryz.func260.trans (congrArg some (by kernel_rfl))⟩
  f14 := ⟨Tryz.f273.name, by decide, Tryz.func273.trans (congrArg some (by kernel_rfl))⟩
  f15 := Tryz.func92.trans (congrArg some (by kernel_rfl))
  f20 := ⟨Tryz.f278.name, by decide, Tryz.func278.trans (congrArg some (by kernel_rfl))⟩
  f21 := ⟨Tryz.f279.name, by decide, Tryz.func279.trans (congrArg some (by kernel_rfl))⟩
  f22 := ⟨Tryz.f280.name, by decide, Tryz.func280.trans (congrArg some (by kernel_rfl))⟩
  f23 := ⟨Tryz.f281.name, by decide, Tryz.func281.trans (congrArg some (by kernel_rfl))⟩
  f24 := ⟨Tryz.f282.name, by decide, Tryz.func282.trans (congrArg some (by kernel_rfl))⟩
  f25 := ⟨Tryz.f283.name, by decide, Tryz.func283.trans (congrArg some (by kernel_rfl))⟩
  f26 := ⟨Tryz.f284.name, by decide, Tryz.func284.trans (congrArg some (by kernel_rfl))⟩
  f27 := ⟨Tryz.f285.name, by decide, Tryz.func285.trans (congrArg some (by kernel_rfl))⟩
  f28 := Tryz.func115.trans (congrArg some (by kernel_rfl))
  f29 := Tryz.func116.trans (congrArg some (by kernel_rfl))
  f46 := ⟨Tryz.f294.name, by decide, Tryz.func294.trans (congrArg some (by kernel_rfl))⟩
  f47 := Tryz.func123.trans (congrArg some (by kernel_rfl))
  f48 := Tryz.func124.trans (congrArg some (by kernel_rfl))
  f49 := ⟨Tryz.f295.name, by decide, Tryz.func295.trans (congrArg some (by kernel_rfl))⟩
  f50 := ⟨Tryz.f296.name, by decide, Tryz.func296.trans (congrArg some (by kernel_rfl))⟩
  f57 := ⟨Tryz.f300.name, by decide, Tryz.func300.trans (congrArg some (by kernel_rfl))⟩
  t0 := Tryz.underlying0
  a0 := Tryz.isAgg0
  z0 := Tryz.sizeOf0
  v0 := Tryz.zeroValue0
  t3 := Tryz.underlying3
  a3 := Tryz.isAgg3
  z3 := Tryz.sizeOf3
  v3 := Tryz.zeroValue3
  t4 := Tryz.underlying4
  a4 := Tryz.isAgg4
  z4 := Tryz.sizeOf4
  v4 := Tryz.zeroValue4
  t5 := Tryz.underlying5
  a5 := Tryz.isAgg5
  z5 := Tryz.sizeOf5
  v5 := Tryz.zeroValue5
  t9 := Tryz.underlying9
  a9 := Tryz.isAgg9
  z9 := Tryz.sizeOf9
  v9 := Tryz.zeroValue9
  t22 := Tryz.underlying346
  a22 := Tryz.isAgg346
  z22 := Tryz.sizeOf346
  v22 := Tryz.zeroValue346
  a24 := Tryz.isAgg287
  z24 := Tryz.sizeOf287
  t25 := Tryz.underlying365
  a25 := Tryz.isAgg365
  z25 := Tryz.sizeOf365
  v25 := Tryz.zeroValue365
  t39 := Tryz.underlying147
  a39 := Tryz.isAgg147
  z39 := Tryz.sizeOf147
  v39 := Tryz.zeroValue147
  t45 := Tryz.underlying233
  a45 := Tryz.isAgg233
  z45 := Tryz.sizeOf233
  v45 := Tryz.zeroValue233
  t46 := Tryz.underlying234
  a46 := Tryz.isAgg234
  z46 := Tryz.sizeOf234
  v46 := Tryz.zeroValue234
  t50 := Tryz.underlying238
  a50 := Tryz.isAgg238
  z50 := Tryz.sizeOf238
  v50 := Tryz.zeroValue238
  t53 := Tryz.underlying220
  a53 := Tryz.isAgg220
  z53 := Tryz.sizeOf220
  v53 := Tryz.zeroValue220
  t55 := Tryz.underlying36
  a55 := Tryz.isAgg36
  z55 := Tryz.sizeOf36
  v55 := Tryz.zeroValue36
  t66 := Tryz.underlying246
  a66 := Tryz.isAgg246
  z66 := Tryz.sizeOf246
  v66 := Tryz.zeroValue246
  t70 := Tryz.underlying250
  a70 := Tryz.isAgg250
  z70 := Tryz.sizeOf250
  v70 := Tryz.zeroValue250
  t76 := Tryz.underlying261
  a76 := Tryz.isAgg261
  z76 := Tryz.sizeOf261
  v76 := Tryz.zeroValue261
  t77 := Tryz.underlying262
  a77 := Tryz.isAgg262
  z77 := Tryz.sizeOf262
  v77 := Tryz.zeroValue262 }
end Go.Proofs
namespace Go.Proofs.YtpaghmnnhedccaaGreatDoor
variable {w w' w0 w2 S O:oG}{K:KV}{zf:Nat->oF}{b c o i g m s j f z d c2 D gc hi:Nat}{a av a2:Option Addr}{x v r:Int}{E t e:TypeId}{A:List Int}{N R:KE}{xs vs:oE}{cx cy:Bool}{α:Type}{T:List (Int×Int)}{X0:List Nat}{X1 Z1 N2 O2 P2 Q2 R2 T2 U2 V2 X2 N3 O3 P3 Q3 T3 U3 V3 W3 X3 Y3 u4 N4 O4 P4 Q4 T4 U4 V4 Y4 Z4 j5 u5 B5 N5 O5 H Z U Y J C:oF}
set_option maxRecDepth 100000
open Go.Proofs.Tryz
open Go.RowKit
def fJ(d a x2 b c:oF)(zf:oD):=d::a::x2::b::zT zf 4 5 (c::zT zf 10 52 ([]))
def js(K:KV):KE:=kZ f215 [1,1,1,1] K
def ss(K:KV):KE:=ai Q (cd f215 (b1 61)) (js K) xf (rk f215 K)
abbrev DJ(K:KV)(hA0:KE)(d0 node1 x2 now3:oF)(w:oG):Prop :=
  bT .eql 130 d0 (.pointer none) (λa w=>cond a (K (ci 2) w) (bT .lss 2 x2 (ci 1) (λb w=>aM b false (λa=>bT .gtr 2 x2 (ci 1125899906842624) (λb=>a [x2,b]) w) (λk=>k [uu,uu] w) λc=>pick b cT (gd c 1) λd w=>aM d false (λa=>bT .eql 36 node1 (cu 0) (λb=>a [node1,b]) w) (λk=>k [uu,uu] w) λe=>pick d cT (gd e 1) λf w=>aM f false (λa=>bT .gtr 36 now3 (cu 4611686018427387904) (λb=>a [now3,b]) w) (λk=>k [uu,uu] w) λg=>pick f cT (gd g 1) λh w=>cond h (K (ci 1) w) (aU d0 (λi=>ao Q 169 i 0 λj=>ld Q 167 j λk=>lkp Q 167 k node1 false λl=>hA0 (fJ d0 node1 x2 now3 l (zV (zV zu 8 [ci 0]) 10 [d0,a,x2,b,b,gd c 0,gd c 1,d,d,gd e 0,gd e 1,f,f,gd g 0,gd g 1,h,d0,i,j,k,node1,l]))) w)) w)) w
def Oo(a:Code)(h:DJ K (ai Q a (ai Q (cd f215 [1,1,1,1]) (rk f215 K) (λ_ _ _=>False) (rk f215 K)) (λ_ _ _=>False) (rk f215 K)) U Y H Z w):ai Q (rep (b1 61) a (cd f215 [])) (rk f215 K) xf (rk f215 K) (fJ U Y H Z uu zu) w:=Eq.mp kr h
def MF(h:DJ K (ss K) U Y H Z w):Gives Q 215 #[U,Y,H,Z] w K:=au func215 kr (Eq.mp (qH (λc=>ai Q c (rk f215 K) xf (rk f215 K) (fJ U Y H Z uu zu) w) (by kernel_rfl:(rep (b1 61) (cd f215 (b1 61)) (cd f215 []))=(cd f215 []))) (Oo (cd f215 (b1 61)) h))
abbrev AO(K:KV)(hA0:KE)(X1 Z1 N2 O2 P2:oF)(zf:oD)(w:oG):Prop :=
  bT .neq 287 P2 (.pointer none) (λa w=>cond a (aU P2 (λa=>ao Q 292 a 0 λa=>ao Q 290 a 1 λa=>ld Q 2 a λa=>blt Q .max #[2,2] 2 #[false,false] #[a,N2] λa=>aU P2 λb=>ao Q 292 b 0 λb=>ao Q 290 b 1 λb=>sto Q 2 b a λ_=>K (ci 0)) w) (hA0 (fJ X1 Z1 N2 O2 P2 (zV zf 32 [P2,a])) w)) w
def KA(a:KE)(h:AO K a Y J H Z U zf w):ai Q (cd f215 (b1 61)) a xf (rk f215 K) (fJ Y J H Z U zf) w:=Eq.mp kr h
def KB(h:AO K (js K) Y J H Z U zf w):ss K (fJ Y J H Z U zf) w:=by delta ss;exact Eq.mp (qH (λc=>ai Q c (js K) xf (rk f215 K) (fJ Y J H Z U zf) w) (by kernel_rfl:(cd f215 (b1 61))=(cd f215 (b1 61)))) (KA (js K) h)
abbrev AP(K:KV)(X1 Z1 N2 O2 P2:oF)(zf:oD)(w:oG):Prop :=
  aU X1 (λa=>ao Q 169 a 0 λa=>ld Q 167 a λa=>lN 167 a λa=>bT .geq 3 a (ci 32) λa w=>cond a (K (ci 7) w) (aU X1 (λa=>ao Q 169 a 0 λa=>ld Q 167 a λa=>bld Q 290 #[(0,Z1),(1,N2)] λb=>bld Q 292 #[(0,b),(1,O2),(2,cu 1)] λb=>box Q 292 b λb=>fk Q 167 a Z1 b λ_=>K (ci 0)) w)) w
def KC(h:AP K Y J H Z U zf w):ai Q (cd f215 [1,1,1,1]) (rk f215 K) xf (rk f215 K) (fJ Y J H Z U zf) w:=Eq.mp kr h
def KF(h:AP K Y J H Z U zf w):js K (fJ Y J H Z U zf) w:=by delta js;exact Eq.mp (qH (λc=>ai Q c (rk f215 K) xf (rk f215 K) (fJ Y J H Z U zf) w) (by kernel_rfl:(cd f215 [1,1,1,1])=(cd f215 [1,1,1,1]))) (KC h)
attribute [irreducible] js ss
def Lt(h:bT .eql 130 H (.pointer none) (λb w=>aM b false (λb=>aU H (λa=>ao Q 169 a 0 λc=>ld Q 167 c λd=>lkp Q 167 d Z false λe=>bT .eql 287 e (.pointer none) λf=>b [H,a,c,d,Z,e,f]) w) (λk=>k [uu,uu,uu,uu,uu,uu,uu] w) λa=>pick b cT (gd a 6) λa w=>cond a (K cF w) (aU H (λa=>ao Q 169 a 0 λa=>ld Q 167 a λa=>blt Q .delete #[167,36] 0 #[false,false] #[a,Z] λ_=>K cT) w)) w):Gives Q 168 #[H,Z] w K:=au func168 kr (mpK h)
def HO(h:aF (λS w=>hN S H λa=>hF S 292 a 0 λa=>hF S 290 a 0 λa=>hL S 36 a λa=>hN S Z λb=>hF S 292 b 0 λb=>hF S 290 b 0 λb=>hL S 36 b λb=>call Q 76 #[a,b] (λa=>aF λ_=>K a) w) w.drew):Gives Q 261 #[H,Z] w K:=au func261 kr (mpK h)
def Kx(h:sN H (λa=>sF 292 a 1 λa=>sL 36 a λa=>sL 36 Z λb=>sti (bF .leq 36 a b) K) w.drew):Gives Q 245 #[H,Z] w K:=au func245 kr (mpK h)
def Sd{α:Type}{p:α->Bool}:∀{l:List α} {i:Nat},(∀(k:Nat) x,l[k]? = some x->k<i->p x=false)->(∀(k:Nat) x,l[k]? = some x->i<=k->p x=true)->l.drop i=l.filter p
 | [],i,_,_=>by simp
 | a::l,0,h1,h2=>by
  rw[oX,List.filter_eq_self.2 λx b=>by
   obtain⟨k,c⟩:=List.getElem?_of_mem b;exact h2 k x c (qG _)]
 | a::l,i+1,h1,h2=>by
  rw[List.drop_succ_cons,List.filter_cons_of_neg (by rw[h1 0 a rfl (Nat.succ_pos _)];exact Bool.false_ne_true)];exact Sd (λk x b c=>h1 (k+1) x b oo) λk x b c=>h2 (k+1) x b oo
def toI(p:EV×Nat):EV×Int:=(p.1,(p.2:Int))
def zA(A:List EV)(v:List Int):List (EV×Int):=(A.zipIdx.filter λp=>decide (v.getD p.1.q 0<p.1.s)).map toI
def lh(A:List EV)(v:List Int)(n:Nat):List (EV×Int):=(List.range n).flatMap λq=>(xO A q).filter λp=>decide (v.getD q 0<p.1.s)
def zdk{A:List EV}:A.zipIdx.Pairwise λx y=>x.2<y.2:=by rw[List.pairwise_iff_getElem];intro i j b c a;rw[List.getElem_zipIdx,List.getElem_zipIdx];simp only;omega
def zie{A:List EV}{p:EV×Nat}(h:p∈A.zipIdx):p.1∈A:=by
 have e:A.zipIdx.map (·.1)=A:=by rw[List.zipIdx_map_fst]
 rw[<-e];exact qU.2 ⟨p,h,rfl⟩
def zA_sorted{A:List EV}{v:List Int}:(zA A v).Pairwise λx y=>x.2<y.2:=by
 unfold zA;rw[List.pairwise_map];refine(List.Pairwise.filter _ zdk).imp λ{a b} h=>?_;show (a.2:Int)<(b.2:Int)
 omega
def zk1{A:List EV}{v:List Int}:(zA A v).map (·.1)=A.filter λe=>decide (v.getD e.q 0<e.s):=by
 have h:A.zipIdx.map (·.1)=A:=by rw[List.zipIdx_map_fst]
 conv=>rhs;rw[<-h]
 unfold zA;rw[jH,List.filter_map];rfl
def zk2{A:List EV}{v:List Int}{x:EV×Int}:x∈zA A v↔∃p∈A.zipIdx,v.getD p.1.q 0<p.1.s/\toI p=x:=by unfold zA;simp only[qU,qV,oP,and_assoc]
def TO{A:List EV}{q:Nat}{x:EV×Int}:x∈xO A q↔∃p∈A.zipIdx,p.1.q=q/\toI p=x:=by unfold xO;simp only[qU,qV,oP,and_assoc];rfl
def zhK{A:List EV}{q:Nat}:(xO A q).Nodup:=by
 unfold xO;rw[List.nodup_iff_pairwise_ne,List.pairwise_map];refine(List.Pairwise.filter _ zdk).imp λ{a b} h e=>?_
 have:=qH (·.2) e
 simp only at this;omega
def NN{A:List EV}{v:List Int}{n:Nat}{x:EV×Int}:x∈lh A v n↔∃p∈A.zipIdx,p.1.q<n/\v.getD p.1.q 0<p.1.s/\toI p=x:=by
 unfold lh;simp only[List.mem_flatMap,jQ,qV,oP];constructor
 .rintro⟨q,b,d,c⟩;obtain⟨p,a,rfl,rfl⟩:=TO.1 d;exact⟨p,a,b,c,rfl⟩
 .rintro⟨p,a,b,c,rfl⟩;exact⟨p.1.q,b,TO.2 ⟨p,a,rfl,rfl⟩,c⟩
def Qr{A:List EV}{v:List Int}:∀{n:Nat},(lh A v n).Nodup
 | 0=>List.nodup_nil
 | n+1=>by
  have e:lh A v (n+1)=lh A v n++(xO A n).filter λp=>decide (v.getD n 0<p.1.s):=by
   unfold lh;rw[List.range_succ,List.flatMap_append];simp
  rw[e,List.nodup_append];refine⟨Qr,List.Nodup.sublist List.filter_sublist zhK,λa h b i c=>?_⟩;subst c;obtain⟨p,_,d,_,f⟩:=NN.1 h;obtain⟨k,_,j,g⟩:=TO.1 (qV.1 i).1
  have:=qH (·.1) (f.trans g.symm)
  simp only[toI]at this;rw[this]at d;omega
def zfP{A:List EV}{v:List Int}{L:List (EV×Int)}(u:∀e∈A,e.q<6)(t:L.Perm (lh A v 6))(w:L.Pairwise λx y=>¬y.2<x.2):L=zA A v:=by
 have k:(zA A v).Nodup:=by
  rw[List.nodup_iff_pairwise_ne];exact zA_sorted.imp λ{a b} h e=>by rw[e]at h;omega
 have f:L.Perm (zA A v):=t.trans ((List.perm_ext_iff_of_nodup Qr k).2 λx=>by
  rw[NN,zk2];constructor
  .rintro⟨p,c,_,d,g⟩;exact⟨p,c,d,g⟩
  .rintro⟨p,c,d,g⟩;exact⟨p,c,u _ (zie c),d,g⟩)
 refine List.Perm.eq_of_pairwise (le:=λx y=>¬y.2<x.2) (λa b n o c d=>?_) w (zA_sorted.imp λ{x y} h=>by omega) f;obtain⟨i,r⟩:=List.getElem?_of_mem (f.mem_iff.1 n);obtain⟨j,s⟩:=List.getElem?_of_mem o;obtain⟨l,rfl⟩:=gS r;obtain⟨m,rfl⟩:=gS s;rcases Nat.lt_trichotomy i j with e|e|e
 .exact qI (List.pairwise_iff_getElem.1 zA_sorted i j l m e) d
 .subst e;rfl
 .exact qI (List.pairwise_iff_getElem.1 zA_sorted j i m l e) c
def zfM{A:List EV}{q:Nat}(h:A.Pairwise λa b=>a.q=b.q->a.s<b.s):(xO A q).Pairwise λx y=>x.1.s<y.1.s:=by
 unfold xO;rw[List.pairwise_map];have d:A.zipIdx.Pairwise λx y=>x.1.q=y.1.q->x.1.s<y.1.s:=by
  have e:A.zipIdx.map (·.1)=A:=by rw[List.zipIdx_map_fst]
  rw[<-e,List.pairwise_map]at h;exact h
 refine List.Pairwise.imp_of_mem (λ{a b} i j c=>?_) (List.Pairwise.filter _ d);have f:=of_decide_eq_true (qV.1 i).2;have g:=of_decide_eq_true (qV.1 j).2;exact c (f.trans g.symm)
def zhJ{A:List EV}{q:Nat}:(xO A q).length<=A.length:=by unfold xO;rw[oY];refine qR (List.length_filter_le _ _) ?_;rw[List.length_zipIdx];exact Nat.le_refl _
end Go.Proofs.YtpaghmnnhedccaaGreatDoor
namespace Go.Proofs
open Go.Shelf
def Tryz.sortIt_ren:Go.Shelf.Ren:=⟨λ|6=>263|15=>92|14=>276|28=>115|29=>116|20=>286|21=>287|22=>288|23=>289|24=>290|25=>291|26=>292|27=>293|46=>297|47=>123|48=>124|49=>298|50=>299|57=>301|n=>n,λ|22=>157|24=>214|25=>368|3=>3|39=>147|0=>0|53=>220|55=>36|4=>4|46=>234|45=>233|50=>238|5=>5|9=>9|66=>246|70=>250|76=>261|77=>262|n=>n,λ|n=>n⟩
theorem Tryz.sortIt : Go.Proofs.SlLaysF0.n6 Tryz.prog Tryz.sortIt_ren := {
  mixed := by kernel_rfl
  f6 := ⟨Tryz.f263.name, by decide, Tryz.func263.trans (congrArg some (by kernel_rfl))⟩
  f14 := ⟨Tryz.f276.name, by decide, Tryz.func276.trans (congrArg some (by kernel_rfl))⟩
  f15 := Tryz.func92.trans (congrArg some (by kernel_rfl))
  f20 := ⟨Tryz.f286.name, by decide, Tryz.func286.trans (congrArg some (by kernel_rfl))⟩
  f21 := ⟨Tryz.f287.name, by decide, Tryz.func287.trans (congrArg some (by kernel_rfl))⟩
  f22 := ⟨Tryz.f288.name, by decide, Tryz.func288.trans (congrArg some (by kernel_rfl))⟩
  f23 := ⟨Tryz.f289.name, by decide, Tryz.func289.trans (congrArg some (by kernel_rfl))⟩
  f24 := ⟨Tryz.f290.name, by decide, Tryz.func290.trans (congrArg some (by kernel_rfl))⟩
  f25 := ⟨Tryz.f291.name, by decide, Tryz.func291.trans (congrArg some (by kernel_rfl))⟩
  f26 := ⟨Tryz.f292.name, by decide, Tryz.func292.trans (congrArg some (by kernel_rfl))⟩
  f27 := ⟨Tryz.f293.name, by decide, Tryz.func293.trans (congrArg some (by kernel_rfl))⟩
  f28 := Tryz.func115.trans (congrArg some (by kernel_rfl))
  f29 := Tryz.func116.trans (congrArg some (by kernel_rfl))
  f46 := ⟨Tryz.f297.name, by decide, Tryz.func297.trans (congrArg some (by kernel_rfl))⟩
  f47 := Tryz.func123.trans (congrArg some (by kernel_rfl))
  f48 := Tryz.func124.trans (congrArg some (by kernel_rfl))
  f49 := ⟨Tryz.f298.name, by decide, Tryz.func298.trans (congrArg some (by kernel_rfl))⟩
  f50 := ⟨Tryz.f299.name, by decide, Tryz.func299.trans (congrArg some (by kernel_rfl))⟩
  f57 := ⟨Tryz.f301.name, by decide, Tryz.func301.trans (congrArg some (by kernel_rfl))⟩
  t0 := Tryz.underlying0
  a0 := Tryz.isAgg0
  z0 := Tryz.sizeOf0
  v0 := Tryz.zeroValue0
  t3 := Tryz.underlying3
  a3 := Tryz.isAgg3
  z3 := Tryz.sizeOf3
  v3 := Tryz.zeroValue3
  t4 := Tryz.underlying4
  a4 := Tryz.isAgg4
  z4 := Tryz.sizeOf4
  v4 := Tryz.zeroValue4
  t5 := Tryz.underlying5
  a5 := Tryz.isAgg5
  z5 := Tryz.sizeOf5
  v5 := Tryz.zeroValue5
  t9 := Tryz.underlying9
  a9 := Tryz.isAgg9
  z9 := Tryz.sizeOf9
  v9 := Tryz.zeroValue9
  t22 := Tryz.underlying157
  a22 := Tryz.isAgg157
  z22 := Tryz.sizeOf157
  v22 := Tryz.zeroValue157
  t25 := Tryz.underlying368
  a25 := Tryz.isAgg368
  z25 := Tryz.sizeOf368
  v25 := Tryz.zeroValue368
  t39 := Tryz.underlying147
  a39 := Tryz.isAgg147
  z39 := Tryz.sizeOf147
  v39 := Tryz.zeroValue147
  t45 := Tryz.underlying233
  a45 := Tryz.isAgg233
  z45 := Tryz.sizeOf233
  v45 := Tryz.zeroValue233
  t46 := Tryz.underlying234
  a46 := Tryz.isAgg234
  z46 := Tryz.sizeOf234
  v46 := Tryz.zeroValue234
  t50 := Tryz.underlying238
  a50 := Tryz.isAgg238
  z50 := Tryz.sizeOf238
  v50 := Tryz.zeroValue238
  t53 := Tryz.underlying220
  a53 := Tryz.isAgg220
  z53 := Tryz.sizeOf220
  v53 := Tryz.zeroValue220
  t55 := Tryz.underlying36
  a55 := Tryz.isAgg36
  z55 := Tryz.sizeOf36
  v55 := Tryz.zeroValue36
  t66 := Tryz.underlying246
  a66 := Tryz.isAgg246
  z66 := Tryz.sizeOf246
  v66 := Tryz.zeroValue246
  t70 := Tryz.underlying250
  a70 := Tryz.isAgg250
  z70 := Tryz.sizeOf250
  v70 := Tryz.zeroValue250
  t76 := Tryz.underlying261
  a76 := Tryz.isAgg261
  z76 := Tryz.sizeOf261
  v76 := Tryz.zeroValue261
  t77 := Tryz.underlying262
  a77 := Tryz.isAgg262
  z77 := Tryz.sizeOf262
  v77 := Tryz.zeroValue262 }
end Go.Proofs
namespace Go.Proofs.YtpaghmnnhedccaaGreatDoor
variable {w w' w0 w2 S O:oG}{K:KV}{zf:Nat->oF}{b c o i g m s j f z d c2 D gc hi:Nat}{a av a2:Option Addr}{x v r:Int}{E t e:TypeId}{A:List Int}{N R:KE}{xs vs:oE}{cx cy:Bool}{α:Type}{T:List (Int×Int)}{X0:List Nat}{X1 Z1 N2 O2 P2 Q2 R2 T2 U2 V2 X2 N3 O3 P3 Q3 T3 U3 V3 W3 X3 Y3 u4 N4 O4 P4 Q4 T4 U4 V4 Y4 Z4 j5 u5 B5 N5 O5 H Z U Y J C:oF}
set_option maxRecDepth 100000
open Go.Proofs.Tryz
open Go.RowKit
section
attribute [local irreducible] bin un conv call bA blt slc ao fld aW idx lkp fk mW eSt rng nxt ent ext alc box bld bM ld sto aU fl mkS ifc pick rdy wts aM sti cond aY Gives ai iy ke cOp
section
open Go.ChangeMaps
section
variable {R:RpB} {l:PL}{W:HM}{Rw:List iQ}{c:Int}{L:List (List Int)}{e:EV}{n ct:Nat}{E:List EV}
def zhM{k:Nat}{E1:List EV}{f t:Int}{V:List Int}(h:RpM w R i l W Rw c L)(hi:PI l)(hr:HK l.V W)(hc:c+100<=1000000)(hv:VR w a k g E1)(hk:k<=16)(hV:V.length=6)(r:∀w' l' W' O F fa fc,RpM w' R i l' W' O (c+(F.length:Nat)) L->DG l (my l.V W E1) l' W' F->dJ l'.V W' 6=none->w'.ownsRow w.heap.size 54 14 (.slice fa F.length fc) F.length (F.flatMap evC)->Ch (RpF R Rw) w w'->(∀k∈lrB O,k∈lrB Rw\/w.heap.size<=k)->nG O=JS (nG Rw) c F->K (.slice fa F.length fc) w'):call Q 227 #[pB R.p,.agg (mgC 1 f t V (.slice a k g) 0 0).toArray] K w:=by
 have hq:=h.pm.lt;have al:(Value.agg (mgC 1 f t V (.slice a k g) 0 0).toArray).cells.toList=mgC 1 f t V (.slice a k g) 0 0:=by simp[Value.cells]
 have c9:(mgC 1 f t V (.slice a k g) 0 0)[9]? = some (.slice a k g):=by
  unfold mgC;rw[show 9=3+6 by rfl,eB (n:=3) rfl,show 6=6+0 by rfl,eB (n:=6) (by rw[bh,hV])];rfl
 refine aj (goK func227) (Fk (bu λw1 m1 b1 s1=>?_));rw[al]at m1;refine Ee (lK (v:=.slice a k g) m1 c9 (bv underlying30 ?_));have h1:=h.below b1;refine Dr (Inv:=λj a=>∃q:Nat,j=iv (q:Nat)/\q<=k/\RpM a R i l (my l.V W (E1.take q)) Rw c L/\Ch [R.m] w a) (μ:=mU k)
  ⟨0,rfl,qG _,by rw[qY];exact h1,Ch.of_below b1⟩ ?_
 rintro _ dd w2 mu ⟨q,rfl,aE,h2,c2⟩ au;have aA:=hv.len;have B:HK l.V (my l.V W (E1.take q)):=hr.puts;have ap:=B.few;refine aL ?_;by_cases ah:q<k
 .have ao:q<E1.length:=by rw[hv.len];exact ah
  have E:E1[q]? = some E1[q]:=gE ao;have H:E1.take (q+1)=E1.take q++[E1[q]]:=by rw[List.take_add_one,E];rfl
  generalize E1[q]=x at E H;obtain⟨b,o,Y⟩:=hv.some_ oo;obtain⟨es,cl,ar⟩:=h.h.mb;have az:VR w2 a k g E1:=hv.ch c2 λb o Y hh=>hv.nm oo ar.heap b o Y (mS hh);subst Y;refine ay oo (fQ underlying30 (s:=14) kf oo oo ?_);rw[oQ]
  refine zcc az rfl E (il λw3 z3 D s3=>eX (e':=x) z3 λw4 I o4=>?_);have ab:=aD D o4 oA;have C:=h2.below ab;refine aw (λy=>blk y R.p 133 [iv (i:Nat),pB R.q.p,pB R.g,pB R.h,pB R.e,pB R.d]/\blk y w2.heap.size 54 (evC x)) ⟨C.b.drew,I.drew⟩ ?_;refine hZ (hW SJ (ac (v:=pB R.h) (λy d _ r=>lK d.1 rfl r) ?_))
  refine hZ (hW rS (ac (v:=pB R.q.p) (λy d _ r=>lK d.1 rfl r) (ac (λy d _ r=>dh d.2 r) ?_)));have ag:=C.below (jU _ w4).drew;refine IZ ag.pm λw5 b5=>?_;have ad:Below w4.heap.size w4 w5:=(jU _ w4).drew.trans b5;have X:=ag.below b5;refine aB ⟨X.b,ae ad I I.lt⟩ <|zj0 X.h hi.v6 oo λw6 _ an c6=>aR oo oo ?_;have h6:=X.setH c6 an
  refine⟨⟨q+1,ivS,ah,?_,?_⟩,mD au⟩
  .rw[H];unfold my;rw[List.foldl_append];exact h6
  .have a1:=c2.add (ab.mono c2.size);have a2:=a1.add (ad.mono a1.size);exact a2.trans c6 λx E=>.inl E
 .have av:q=k:=by omega
  subst av;have H:E1.take q=E1:=by rw[<-hv.len];exact List.take_length
  rw[H]at h2 B ap;refine ax oo (Dv ?_);have aG:=c2.size;have ai:Ch (RpF R Rw) w w2:=h.sub1 c2;have aF:∀k∈R.q.l,k<w.heap.size:=hq;refine aw (λy=>blk y R.p 133 [iv (i:Nat),pB R.q.p,pB R.g,pB R.h,pB R.e,pB R.d]) h2.b.drew ?_;refine hZ (hW SJ (ac (v:=pB R.h) (λy d _ r=>lK d rfl r) ?_));refine hZ (hW rS (ac (v:=pB R.q.p) (λy d _ r=>lK d rfl r) ?_))
  have A:=h2.below (jU _ w2).drew;have u:Ch (RpF R Rw) w w2.drew:=ai.add (jU _ w2).drew
  have U:∀{wr:oG} {z:Nat} {zf:oD} {e6:oF},RpM wr R i l (W8 (my l.V W E1) (dJ l.V (my l.V W E1) 6)) Rw c L->blk wr z 54 (evC ((dJ l.V (my l.V W E1) 6).getD evZ))->w.heap.size<=z->Ch (RpF R Rw) w wr ->
    jj K (aC (pB R.p) (pB w.heap.size) (.slice none 0 0) e6 (pB z) (.bool (dJ l.V (my l.V W E1) 6).isSome) (.slice a q g) (iv (q:Nat)) (iv (q:Nat)) zf) wr:=λY hb hz ak =>
   zkG hi B hc hq Y hb hz ak (λk a=>.inl a) r
  have aa:∀{wr w':oG} {z:Nat},RpM wr R i l (W8 (my l.V W E1) (dJ l.V (my l.V W E1) 6)) Rw c L->blk wr z 54 (evC evZ)->w.heap.size<=z->Oth z wr w'->RpM w' R i l (W8 (my l.V W E1) (dJ l.V (my l.V W E1) 6)) Rw c L:=λY hb hz o=>Y.othE hq hb hz o;refine⟨?_,?_⟩
  .refine IZ A.pm λw3 D=>aB (A.below D).b ⟨?_,?_⟩
   .have G:=A.below D;have P:=u.add (D.mono u.size);refine Nc G.h hi B λw4 am c4=>?_;have C:=G.setH c4 am;have af:=P.trans c4 λx E=>.inl (fG.2 (by rw[mS E];simp));refine hRT (hE2 (?_));refine il λw5 N b5 s5=>aB trivial (eX (e':=(dJ l.V (my l.V W E1) 6).getD evZ) N λw6 z6 M=>aB trivial ?_);have s4:=af.size
    exact U (aa (C.below b5) N s4 M) z6 s4 ((af.add (b5.mono s4)).add (aD (jU _ w5) M s4))
   .have G:=A.below D;have P:=u.add (D.mono u.size);refine il λw4 I J s4=>aB (G.below J).b ?_;have C:=G.below J;have s3:=P.size;have c4:=P.add (J.mono s3);refine Nc C.h hi B λw5 Z S=>?_;have X:=C.setH S Z;have N:=I.ch S λhh=>C.h.mb' I (mS hh);have T:=c4.trans S λx E=>.inl (fG.2 (by rw[mS E];simp))
    refine hRT (hE2 (?_));exact eX (e':=(dJ l.V (my l.V W E1) 6).getD evZ) N λw6 z6 M=>aB trivial (U (aa X N s3 M) z6 s3 (T.add (aD (jU _ w5) M s3)))
  .refine il λw3 z3 D s3=>aB (A.below D).b ?_;have G:=A.below D;have P:=u.add (D.mono u.size);have s2:=u.size;refine IZ G.pm λw4 J=>aB (G.below J).b ?_;have C:=G.below J;have I:=ae J z3 z3.lt;have c4:=P.add (J.mono P.size);refine Nc C.h hi B λw5 Z S=>?_;have X:=C.setH S Z;have N:=I.ch S λhh=>C.h.mb' I (mS hh)
   have T:=c4.trans S λx E=>.inl (fG.2 (by rw[mS E];simp));refine hRT (hE2 (?_));exact eX (e':=(dJ l.V (my l.V W E1) 6).getD evZ) N λw6 z6 M=>aB trivial (U (aa X N s2 M) z6 s2 (T.add (aD (jU _ w5) M s2)))
def u8K:HE Q 5 (Value.int .u8):=ZF underlying5
end
abbrev lr0:List iQ:=List.replicate 6 ⟨none,0,[]⟩
abbrev gp0:List (List Int):=List.replicate 6 (List.replicate 6 0)
def SO.oth{B:Nat}{s:PL}{t:STA}(h:SO w B s t a gc)(o:Oth z w S)(c:z<B):SO S B s t a gc :=
 {h with
  nd:=cn h.nd λk b=>o.other k λe=>by have:=(jT h.nd k b).1;omega
  gr:=cn h.gr λk b=>o.other k λe=>by have:=(jT h.gr k b).1;omega}
def SO.fresh{B:Nat}{s:PL}{t:STA}(h:SO w B s t a gc)(b:Below w.heap.size w S):SO S B s t a gc :=
 {h with
  nd:=cn h.nd λk c=>b.block k (jT h.nd k c).2
  gr:=cn h.gr λk c=>b.block k (jT h.gr k c).2}
def pV :Option Nat->Value
 | some b=>pB b
 | none=>.pointer none
structure DmM (w:World) (d m:Nat):Prop where
 b:blk w d 169 [.map (some m)]
 mb:MB u6 pV w m []
theorem DmM.below (h:DmM w d m)(a:Below w.heap.size w S):DmM S d m:=⟨ae a h.b h.b.lt,h.mb.below a⟩
section
variable {R:RpB} {l:PL}{W:HM}{Rw:List iQ}{c:Int}{L:List (List Int)}
def zfN(h:RpM w R i l W Rw c L)(hi:PI l)(B:l.G.length<=1000000)(k:∀S t j gc,SO S (w.heap.size+2) l t j gc->Below w.heap.size w S->K (.agg (saC t).toArray) S):call Q 35 #[pB R.p] K w:=by
 refine aj (goK func35) (Jb ?_);refine bO (z:=.agg (saC ⟨List.replicate 6 false,List.replicate 6 false,List.replicate 6 0,[],none,0,.slice none 0 0⟩).toArray) kr λE a g D=>?_;have a:=cZ a
 generalize m:saC ⟨List.replicate 6 false,List.replicate 6 false,List.replicate 6 0,[],none,0,.slice none 0 0⟩=zs at a;have C:zs.length=20:=by rw[<-m];rfl
 have s:=h.below g;refine LC (aA (aq (rS (lK (v:=pB R.q.p) s.b rfl ?_))));refine Ty s.pm hi B λH t j gc d r=>?_;have A:=ae r a a.lt;have x:(saC t).length=20:=rD (by rw[d.eI];exact hi.i6) (by rw[d.eL];exact hi.l6) (by rw[d.eV];exact hi.v6);have o:∀v∈saC t,v.oneCell'=true:=by
  intro v f;unfold saC at f;rw[d.gv]at f;simp only[oU,qU,oO,oR,or_false]at f;rcases f with((⟨_,_,rfl⟩|⟨_,_,rfl⟩)|⟨_,_,rfl⟩)|(rfl|rfl)<;>rfl
 refine eW (n:=20) (vs:=saC t) kr x A oo o λF u y=>?_;rw[qY,oV,oS oo,oW]at u;refine uT (v:=.agg (saC t).toArray) (λ_ k=>ldA (n:=20) (vs:=saC t) underlying42 rfl kr u dTk x k) ?_;have e:=d.oth y oo;rw[D]at e;exact k F t j gc e (aD (tB g r) y oA)
def ziN(d:∀S,DmM S (w.heap.size+1) w.heap.size->Below w.heap.size w S->S.heap.size=w.heap.size+2->K (pB (w.heap.size+1)) S):call Q 41 #[] K w:=by refine aj (goK func41) (XY (wZ underlying167 rfl u6 pV λi e a f=>ck (vs:=[.map (some w.heap.size)]) kr (bu λg c b h=>?_)));rw[f]at c |-;exact d g ⟨by simpa[Value.cells]using c,e.below b⟩ (a.trans (b.mono a.size)) oo
end
end
structure AK where
 k:Int
 n:Int
 t:Int
 a:Int
 r:Int
 f:Int
def akC(x:AK):oE:=[kv8 x.k,u6 x.n,iv x.t,iv x.a,u6 x.r,u6 x.f]
def mkE(i s:Int)(V:List Int)(x:AK):EV:=⟨i,s,V.getD 0 0,V.getD 1 0,V.getD 2 0,V.getD 3 0,V.getD 4 0,V.getD 5 0,x.k,x.n,x.t,x.a,x.r,x.f⟩
def zce{i s:Int}{V:List Int}{x:AK}(h:V.length=6):(mkE i s V x).V=V:=by obtain⟨_,_,_,_,_,_,rfl⟩:=BC h;rfl
def agM(i:Int)(x:AK)(g:GR):Bool:=decide (g.o=i)&&(decide (g.q=x.r) || decide (g.b=x.r))
def agT(x:AK)(g:GR):Prop:=(x.k=3/\g.q=x.r/\g.n=x.n/\g.a=x.a)\/(x.k=4/\g.b=x.r/\g.q=x.f)
def zf8(x:AK):Prop:=x.r≠0/\(x.k=3\/x.k=4)
def wJ(i:Int)(s:PL)(x:AK):Prop:=zf8 x->∀g∈s.G,agM i x g=false
def zbT(i:Int)(s:PL)(x:AK)(e:Int):Prop:=zf8 x/\∃g∈s.G,agM i x g=true/\(agT x g->e=0)/\(¬agT x g->e=14)
def BK:fU Q 46 0 0 b o K w:=aJ kr
def HZ:fU Q 46 1 1 b o K w:=aJ kr
def zeJ:fU Q 46 2 2 b o K w:=aJ kr
def Ia:fU Q 46 3 3 b o K w:=aJ kr
def wN:fU Q 46 4 4 b o K w:=aJ kr
def MJ:fU Q 46 5 5 b o K w:=aJ kr
def AQ(e:EV):jc Q 6 54 (evC e)=true:=by kernel_rfl
section
variable {x:AK}
def JT(a:blk w b 46 (akC x))(h:K (.agg (akC x).toArray) w):ld Q 46 (pB b) K w:=ldA (n:=6) (vs:=akC x) underlying46 rfl kr a rfl rfl h
def My(h:∀S,blk S w.heap.size 46 (akC x)->Below w.heap.size w S->S.heap.size=w.heap.size+1->K (pB w.heap.size) S):box Q 46 (.agg (akC x).toArray) K w:=bu λS a b s=>h S (by simpa[Value.cells]using a) b s
def ziV{B n:Nat}{G:List GR}{f:oF}(A:w.ownsRow B 96 5 (.slice a n c) n (G.flatMap grC))(F:G.length=n)(J:n<=1000000){M:GR->Bool}(D:∀g (w1:oG) (K1:KV),Below w.heap.size w w1->(nX w1 (K1 (.bool (M g))))->bA Q f #[.agg (grC g).toArray] K1 w1)(h:∀w' (v:Int),((v<0/\∀g∈G,M g=false)\/∃(k:Nat) (g:GR),v=(k:Nat)/\G[k]? = some g/\M g=true)->Below w.heap.size w w'->K (iv v) w'):call Q 266 #[.slice a n c,f] K w:=by
 refine aj (goK func266) (xy (bv underlying40 ?_));refine ww (Inv:=λi H=>∃k:Nat,i=iv (k:Nat)/\k<=n/\Below w.heap.size w H/\∀(j:Nat) (g:GR),j<k->G[j]? = some g->M g=false) (μ:=mU n) ⟨0,rfl,qG _,jU _ _,λj g h=>by omega⟩ ?_;rintro _ I w1 N ⟨k,rfl,z,e,b⟩ p;refine aL ?_;by_cases o:k<n
 .have l:G[k]? = some G[k]:=gE oo;generalize G[k]=g at l;have q:=cn A (w':=w1) λk z=>e.block k (jT A k z).2;refine ay oo (BE (i:=k) (enc:=grC) (s:=5) (L:=G) (x:=g) underlying40 kf underlying96 rfl kr vN q F l λ_=>D g w1 _ e λS C=>?_);have d:=tB e C;cases t:M g with
  | true=>exact aV (h S k (.inr ⟨k,g,rfl,l,t⟩) d)
  | false =>
   refine aA (aR oo oo ⟨⟨k+1,ivS,o,d,λj y u r=>?_⟩,?_⟩)
   .by_cases m:j<k
    .exact b j y m r
    .obtain rfl:j=k:=by omega
     rw[l]at r;cases r;exact t
   .exact mD p
 .refine ax oo (wx (h w1 (-1) (.inl ⟨by omega,λg E=>?_⟩) e));obtain⟨j,u,rfl⟩:=List.mem_iff_getElem.1 E;exact b j _ oo (gE u)
def zep{g:GR}{i:Int}(hi:blk w b 3 [iv i])(l:blk w c 46 (akC x))(h:nX w (K (.bool (agM i x g)))):call Q 267 #[.agg (grC g).toArray,pB b,pB c] K w:=by
 refine aj (goK func267) (Qc (bu λj f e n=>?_));have f:=cZ f
 have m:=ae e hi hi.lt;have k:=ae e l l.lt;refine Sx (lK (v:=iv g.o) f rfl (lK (v:=iv i) m rfl (aT ?_)));by_cases a:g.o=i
 .refine bU a (Ic (lK (v:=u6 g.q) f rfl (wN (lK (v:=u6 x.r) k rfl (aT ?_)))));by_cases d:g.q=x.r
  .have:=h j e
   rw[show agM i x g=true by simp[agM,a,d]]at this;exact mF d (bU a (bI d (bI a this)))
  .refine df d (ML (lK (v:=u6 g.b) f rfl (wN (lK (v:=u6 x.r) k rfl (aT ?_)))))
   have:=h j e
   rw[show agM i x g=decide (g.b=x.r)by simp[agM,a,d]]at this;exact bU a (bw d (bI a this))
 .have:=h j e
  rw[show agM i x g=false by simp[agM,a]]at this;exact cJ a (Ij (by simp[asB,gd,undef]) (cJ a (bw a this)))
def OS{b q:Bool}(h:(b || q)=false->K (.tuple #[cT,ci 14]) w)(g:(b || q)=true->K (.tuple #[cT,ci 0]) w):un Q .not (.bool b) (λa w=>aM a true (λd=>un Q .not (.bool q) (λe=>d [.bool q,e]) w) (λk=>k [uu,uu] w) λc=>pick a (gd c 1) cF λf w=>cond f (K (.tuple #[cT,ci 14]) w) (K (.tuple #[cT,ci 0]) w)) w:=by
 cases b with
 | true=>exact bc (kj (bZ (aA (g rfl))))
 | false =>
  refine bc (kN (bc (cA ?_)));cases q with
  | true=>exact aA (g rfl)
  | false=>exact aV (h rfl)
def Mv{b:Bool}{g:GR}(u:blk w c 96 (grC g))(m:blk w o 46 (akC x))(y:H=pB o)(z:Z=pB c)(A:U=.bool b)(l:b=true↔(x.k=3/\g.q=x.r/\g.n=x.n/\g.a=x.a))(s : ¬agT x g->K (.tuple #[cT,ci 14]) w)(t:agT x g->K (.tuple #[cT,ci 0]) w):tE K ((gj X1 Z1 J O2 H Q2 R2 Z U V2 X2 C O3 P3 Q3 T3 U3 V3 W3 X3 Y3 u4 N4 O4 P4 Q4 T4 U4 V4 Y4 Z4 j5 u5 Y N5 O5 zf)) w:=by
 subst y z A;have j : ¬(x.k=4/\g.b=x.r/\g.q=x.f)->((b || false)=false->K (.tuple #[cT,ci 14]) w)/\((b || false)=true->K (.tuple #[cT,ci 0]) w):=λj =>
  ⟨λe=>s λp=>p.elim (λh=>by have:=l.2 h;simp_all) j,λe=>t (.inl (l.1 (by simpa using e)))⟩
 refine Qg (BK (lK (v:=kv8 x.k) m rfl (aT ?_)));by_cases d:x.k=4
 .refine bU d (ML (lK (v:=u6 g.b) u rfl (wN (lK (v:=u6 x.r) m rfl (aT (bI d ?_))))));by_cases i:g.b=x.r
  .refine bU i (Ic (lK (v:=u6 g.q) u rfl (MJ (lK (v:=u6 x.f) m rfl (aT (bI i ?_))))));refine OS (λe=>s λp=>?_) λe=>t ?_
   .rw[Bool.or_eq_false_iff]at e;exact p.elim (λh=>by have:=l.2 h;rw[e.1]at this;cases this) λh=>by have:=decide_eq_false_iff_not.1 e.2;exact this h.2.2
   .rw[jR]at e;exact e.elim (λh=>.inl (l.1 h)) λh=>.inr ⟨d,i,of_decide_eq_true h⟩
  .exact cJ i (bw i (OS (q:=false) (j λh=>i h.2.1).1 (j λh=>i h.2.1).2))
 .exact cJ d (bw d (kj (bZ (OS (q:=false) (j λh=>d h.1).1 (j λh=>d h.1).2))))
def YD{B:Nat}{s:PL}{t:STA}{i:Int}(y:SO w B s t a gc)(hi:PI s)(U:blk w c 42 (saC t))(J:blk w o 46 (akC x))(E:(v<0/\∀g∈s.G,agM i x g=false)\/∃(k:Nat) (g:GR),v=(k:Nat)/\s.G[k]? = some g/\agM i x g=true)(N:zf8 x)(hG:s.G.length<=1000000)(P:N2=pB c)(R:P2=pB o)(S:R2=iv v)(T:wJ i s x->K (.tuple #[cF,ci 0]) w)(h:∀w' e,zbT i s x e->Below w.heap.size w w'->K (.tuple #[cT,ci e]) w'):tD K ((gj X1 Z N2 O2 P2 Q2 R2 T2 U2 V2 X2 N3 O3 P3 Q3 T3 U3 V3 W3 X3 Y3 u4 N4 O4 P4 Q4 T4 U4 V4 Y4 Z4 j5 u5 B5 N5 O5 zf)) w:=by
 subst P R S;refine Qe (aL ?_);rcases E with⟨E,l⟩|⟨k,g,rfl,F,I⟩
 .exact ay E (T λ_=>l)
 have X:=(gS F).1;have M:g∈s.G:=mO F;have D:(saC t)[19]? = some (.slice a s.G.length gc):=by
  rw[<-y.gv];exact Ra (by rw[y.eI];exact hi.i6) (by rw[y.eL];exact hi.l6) (by rw[y.eV];exact hi.v6)
 have A:∀w',¬agT x g->Below w.heap.size w w'->K (.tuple #[cT,ci 14]) w':=λw' f b=>h w' 14 ⟨N,g,M,I,λh=>qI h f,λ_=>rfl⟩ b;have C:∀w',agT x g->Below w.heap.size w w'->K (.tuple #[cT,ci 0]) w':=λw' f b=>h w' 0 ⟨N,g,M,I,λ_=>rfl,λh=>qI f h⟩ b;refine ax oo (sZ (lK (v:=.slice a s.G.length gc) U D ?_))
 refine BE (i:=k) (enc:=grC) (s:=5) (L:=s.G) (x:=g) underlying40 kf underlying96 rfl kr vN y.gr rfl F λ_=>?_;refine bO (z:=.agg (grC ⟨0,0,0,0,0⟩).toArray) kr λW H O Y=>?_;have H:=cZ H
 refine eW (n:=5) (vs:=grC g) kr rfl H (by show 0+5<=5;omega) (LH _) λw2 j V=>?_;have j:blk w2 w.heap.size 96 (grC g):=j;have d:=aD O V oA;have Z:=ae d J J.lt;refine BK (lK (v:=kv8 x.k) Z rfl (aT ?_));by_cases m:x.k=3
 .refine bU m (Ic (lK (v:=u6 g.q) j rfl (wN (lK (v:=u6 x.r) Z rfl (aT (bI m ?_))))));by_cases p:g.q=x.r
  .refine bU p (Zd (lK (v:=u6 g.n) j rfl (HZ (lK (v:=u6 x.n) Z rfl (aT (bI p ?_))))));by_cases u:g.n=x.n
   .refine bU u (Ze (lK (v:=iv g.a) j rfl (Ia (lK (v:=iv x.a) Z rfl (aT (bI u ?_))))));exact Mv j Z rfl rfl rfl ⟨λe=>⟨m,p,u,of_decide_eq_true e⟩,λe=>qF e.2.2.2⟩ (λf=>A _ f d) λf=>C _ f d
   .exact cJ u (bw u (Mv j Z rfl rfl (b:=false) rfl (by simp_all) (λf=>A _ f d) λf=>C _ f d))
  .exact cJ p (bw p (kj (bZ (Mv j Z rfl rfl (b:=false) rfl (by simp_all) (λf=>A _ f d) λf=>C _ f d))))
 .exact cJ m (bw m (kj (bZ (kj (bZ (Mv j Z rfl rfl (b:=false) rfl (by simp_all) (λf=>A _ f d) λf=>C _ f d))))))
def zgy{B:Nat}{s:PL}{t:STA}{i:Int}(z:SO w B s t a gc)(hi:PI s)(hG:s.G.length<=1000000)(hF:∀w',wJ i s x->Below w.heap.size w w'->K (.tuple #[cF,ci 0]) w')(M:∀w' e,zbT i s x e->Below w.heap.size w w'->K (.tuple #[cT,ci e]) w'):call Q 254 #[.agg (saC t).toArray,iv i,.agg (akC x).toArray] K w:=by
 refine aj (goK func254) (Tz (bu λA f F R=>bu λI o J S=>My λw3 l H T=>?_));have f:=cZ f
 have o:blk I A.heap.size 3 [iv i]:=o;have u:=J.trans (H.mono oo);have c:=tB F u;have f:=ae u f f.lt;have o:=ae H o o.lt;have m:=z.fresh c;have y:(saC t)[19]? = some (.slice a s.G.length gc):=by
  rw[<-z.gv];exact Ra (by rw[z.eI];exact hi.i6) (by rw[z.eL];exact hi.l6) (by rw[z.eV];exact hi.v6)
 have p:∀{K1:KV},(∀w' (v:Int),((v<0/\∀g∈s.G,agM i x g=false)\/∃(k:Nat) (g:GR),v=(k:Nat)/\s.G[k]? = some g/\agM i x g=true)->Below w3.heap.size w3 w'->K1 (iv v) w')->call Q 266 #[.slice a s.G.length gc,.func (.func 267) #[] #[pB A.heap.size,pB I.heap.size]] K1 w3:=λO =>
  ziV m.gr rfl hG (λg n a b L=>bS rfl (zep (ae b o o.lt) (ae b l l.lt) λP D=>L P D)) O
 have j:∀{n:oG},Below w3.heap.size w3 n->(wJ i s x->K (.tuple #[cF,ci 0]) n)/\∀w' e,zbT i s x e->Below n.heap.size n w'->K (.tuple #[cT,ci e]) w':=λb=>⟨λh=>hF _ h (tB c b),λa e N D=>M a e N ((tB c b).trans (D.mono (qR c.size b.size)))⟩
 refine wN (lK (v:=u6 x.r) l rfl (aT ?_));by_cases d:x.r=0
 .exact mF d (Ij (by simp[asB,gd,undef]) (mF d (bI d (aV (hF w3 (λp=>qI d p.1) c)))))
 refine df d (BK (lK (v:=kv8 x.k) l rfl (aZ ?_)));by_cases q:x.k≠3
 .refine bU q (BK (lK (v:=kv8 x.k) l rfl (aZ (df d (bI q (bw d ?_))))));by_cases C:x.k≠4
  .exact ay C (hF w3 (λp=>p.2.elim (λh=>qI h q) λh=>qI h C) c)
  .refine ax C (sZ (lK (v:=.slice a s.G.length gc) f y (p λn v E b=>?_)));exact YD (m.fresh b) hi (ae b f f.lt) (ae b l l.lt) E ⟨d,.inr (Classical.not_not.1 C)⟩ hG rfl rfl rfl (j b).1 (j b).2
 .refine cJ q (df d (bw q (bw d (aA (sZ (lK (v:=.slice a s.G.length gc) f y (p λn v E b=>?_)))))));exact YD (m.fresh b) hi (ae b f f.lt) (ae b l l.lt) E ⟨d,.inl (Classical.not_not.1 q)⟩ hG rfl rfl rfl (j b).1 (j b).2
def zi9{V:List Int}(e:V.length=6)(hi:i<6)(a:0<=V.getD i 0/\V.getD i 0<M40)(h:nX w (K (.tuple #[u6 (V.getD i 0+1),ci 0]))):call Q 268 #[.agg (vCs V).toArray,iv ((i:Int)+1)] K w:=by
 refine aj (goK func268) (Xj (zq e λf b d g=>?_));refine zbQ (bc ?_);rw[show bB ((i:Int)+1)=true by unfold bB;simp;omega];have c:(vCs V)[0+i]? = some (u6 (V.getD i 0)):=by
  rw[oK];unfold vCs;rw[qC,oN,gE oo];rfl
 refine aA (bL oo oo ?_);rw[show (i:Int)+1-1=(i:Nat)by omega];refine ixV (k:=i) rfl hi (lK (v:=u6 (V.getD i 0)) b c (bR (ax (by unfold M40 at a;omega) ?_)));refine bL oo oo ?_;rw[show (i:Int)+1-1=(i:Nat)by omega];refine ixV (k:=i) rfl hi (lK (v:=u6 (V.getD i 0)) b c (xE ?_));rw[eJ,show (V.getD i 0+1)%18446744073709551616=V.getD i 0+1 by unfold M40 at a;omega]
 exact h f d
def zjA{q:LB}{s:PL}{e:EV}(h:PM w q s)(hi:PI s)(d:nX w (K (ci (gF e s)))):call Q 271 #[pB q.p,evV e] K w:=by
 refine aj (goK func271) (KT (By λk f a j=>dh f ?_));refine za1 (h.below a) hi (λc _ b=>bo (bj (d c (tB a b)))) λg c i b _=>bo (bj ?_)
 have:=d c (tB a b)
 rwa[g]at this
def zjc{i s:Int}{V:List Int}(X:V.length=6)(hi:blk w b 3 [iv i])(G:blk w c 36 [u6 s])(F:blk w o 38 (vCs V))(h:nX w (K (evV (mkE i s V x)))):call Q 269 #[.agg (akC x).toArray,.func (.func 270) #[] #[pB b,pB c,pB o]] K w:=by
 obtain⟨p,q,u,z,A,B,rfl⟩:=BC X;refine aj (goK func269) (XT (My λw1 S T s1=>il λM R N s2=>?_));have l:=ae N S S.lt;refine BK (lK (v:=kv8 x.k) l rfl (HZ (lK (v:=u6 x.n) l rfl (zeJ (lK (v:=iv x.t) l rfl (Ia (lK (v:=iv x.a) l rfl (wN (lK (v:=u6 x.r) l rfl (MJ (lK (v:=u6 x.f) l rfl ?_)))))))))))
 refine ck (vs:=evC ⟨0,0,0,0,0,0,0,0,x.k,x.n,x.t,x.a,x.r,x.f⟩) kr (il λw3 U O s3=>?_);refine eX (e':=⟨0,0,0,0,0,0,0,0,x.k,x.n,x.t,x.a,x.r,x.f⟩) U λw4 W J=>?_;have g:=aD ((T.trans (N.mono oo)).trans (O.mono oo)) J oo;have H:=ae g hi hi.lt;have L:=ae g G G.lt;have I:=ae g F F.lt;have t4:=J.blk (ae O R R.lt) oo
 have li:=hi.lt;have ls:=G.lt;have lk:=F.lt;have z4:=J.size;refine bS rfl (aj (goK func270) (Uf ?_));refine aw (λy=>blk y b 3 [iv i]/\blk y c 36 [u6 s]/\blk y o 38 (vCs [p,q,u,z,A,B])) ⟨H.drew,L.drew,I.drew⟩ ?_;refine ac (v:=iv i) (λy d _ e=>lK d.1 rfl e) (ac (v:=u6 s) (λy d _ e=>lK d.2.1 rfl e) (ac (λy d _ e=>tQ rfl d.2.2 e) ?_));refine hZ (hW dO ?_)
 refine cq kf W.drew (by show 0+0<14;omega) rfl λw5 C j=>aB ⟨j.blk H.drew oo,j.blk L.drew oo,j.blk I.drew oo⟩ ?_;have C:blk w5 M.heap.size 54 (evC ⟨i,0,0,0,0,0,0,0,x.k,x.n,x.t,x.a,x.r,x.f⟩):=C;have Y:=j.blk H.drew oo;have q5:=j.blk L.drew oo;have Z:=j.blk I.drew oo;refine hZ (hW nB ?_)
 refine cq kf C (by show 0+1<14;omega) rfl λw6 D m=>aB ⟨m.blk Y oo,m.blk q5 oo,m.blk Z oo⟩ ?_;have D:blk w6 M.heap.size 54 (evC ⟨i,s,0,0,0,0,0,0,x.k,x.n,x.t,x.a,x.r,x.f⟩):=D;refine hZ (hW BN ?_);refine eW (n:=6) (vs:=vCs [p,q,u,z,A,B]) kr rfl D (by show 0+2+6<=14;omega) Rg λw7 E P=>?_
 have E:blk w7 M.heap.size 54 (evC (mkE i s [p,q,u,z,A,B] x)):=E;have t7:=P.blk (m.blk (j.blk t4.drew oo) oo) oo;refine dh E (eX (e':=mkE i s [p,q,u,z,A,B] x) t7 λw8 t8 o8=>?_);exact uT (v:=evV (mkE i s [p,q,u,z,A,B] x)) (λ_ e=>dh t8 e) (h w8 (aD (aD (aD (aD g.drew j oo) m oo) P oo) o8 oo))
def CD{q:Nat}{u:oF}{e:EV}(b:blk w q 54 (evC e))(h:K (.tuple #[evV e,u]) w):aY Q [(some 54,pA q 0),(none,u)] K w:=ze (v:=evV e) (λ_ a=>dh b a) h
def mkP(i:Nat)(s:PL)(x:AK):EV:=mkE ((i:Int)+1) (s.V.getD i 0+1) s.V x
def NoP(i:Nat)(s:PL)(x:AK)(e:Int):Prop:=zbT ((i:Int)+1) s x e\/wJ ((i:Int)+1) s x/\gF (mkP i s x) s≠0/\e=gF (mkP i s x) s
def NoP.old{s:PL}{x:AK}{e:Int}(h:NoP i s x e)(a:x.r=0):gF (mkP i s x) s≠0:=h.elim (λh=>qI a h.1.1) λh=>h.2.1
def zjd{q:LB}{s:PL}(h:PM w q s)(r:PI s)(hi:i<6)(no:∀w',gF (mkP i s x) s≠0->Below w.heap.size w w'->K (.tuple #[evV evZ,ci (gF (mkP i s x) s)]) w')(N:∀w',gF (mkP i s x) s=0->Below w.heap.size w w'->K (.tuple #[evV (mkP i s x),ci 0]) w'):call Q 255 #[pB q.p,iv ((i:Int)+1),.agg (akC x).toArray] K w:=by
 refine aj (goK func255) (XS (bu λw1 C b1 s1=>My λw2 z2 S s2=>il λw3 Z E s3=>DW (aA ?_)));have C:blk w1 w.heap.size 3 [iv ((i:Int)+1)]:=C;have g:=(b1.trans (S.mono oo)).trans (E.mono oo);refine IZ (h.below g) λw4 y=>Jj λw5 k5 b5 s5=>Fw (W:=s.V) rfl r.v6 k5 λw6 I X=>?_;have t:=tB g y;have z4:=y.size;have z6:=X.size
 have d:=aD b5 X oA;have c:=tB t d;have H:=ae d (ae y (ae E (ae S C C.lt) oo) oo) oo;have P:=ae d (ae y (ae E z2 z2.lt) oo) oo;have t6:=ae d (ae y Z Z.lt) oo;refine tQ r.v6 I (lK (v:=iv ((i:Int)+1)) H rfl (zi9 r.v6 hi (r.vb i hi) λM o=>bo (bj ?_)));have U:=ae o I I.lt;have T:=ae o H H.lt
 have R:=ae o P P.lt;have t7:=ae o t6 t6.lt;have z7:=o.size;refine yS (x:=u6 0) kr rfl λw8 q8 b8 s8=>cq kf q8 oB rfl λw9 L Y=>?_;have L:blk w9 M.heap.size 36 [u6 (s.V.getD i 0+1)]:=L;have b:=aD b8 Y oA;have k9:=ae b U U.lt;have i9:=ae b T T.lt;have a9:=ae b R R.lt;have t9:=ae b t7 t7.lt;have z9:=Y.size
 refine aT (ax oo (JT a9 (zjc r.v6 i9 L k9 λab u=>il λac F D aa=>eX (e':=mkP i s x) F λw12 k J=>?_)));have O:=u.size;have f:=aD (u.trans (D.mono O)) J oo;have a:=((tB c o).trans (b.mono (by have:=c.size;omega))).trans (f.mono (by have:=c.size;omega));have z:=ae f t9 t9.lt
 refine Ug (dh k (zjA (h.below a) r λad j=>aZ ?_));have G:=ae j k k.lt;have A:=ae j z z.lt;have e:=tB a j;by_cases B:gF (mkP i s x) s≠0
 .refine ay B (ck (vs:=evC evZ) kr (eX (e':=evZ) A λn m l=>?_));exact CD m (no n B (aD e l oo))
 .refine ax B (dh G (eX (e':=mkP i s x) A λn m l=>?_));exact CD m (N n (Classical.not_not.1 B) (aD e l oo))
def ze2{q:LB}{s:PL}(h:PM w q s)(z:PI s)(hi:i<6)(hG:s.G.length<=1000000)(Y:∀w' (e:Int),NoP i s x e->Below w.heap.size w w'->K (.tuple #[evV evZ,ci e]) w')(R:∀w',gF (mkP i s x) s=0->wJ ((i:Int)+1) s x->PM w' q (eff (mkP i s x) s)->Ch q.wv w w'->K (.tuple #[evV (mkP i s x),ci 0]) w'):call Q 233 #[pB q.p,iv ((i:Int)+1),.agg (akC x).toArray] K w:=by
 have u:=h.lt;refine aj (goK func233) (Yl (My λw1 z1 b1 s1=>il λC L U s2=>DW (aA ?_)));have r:=b1.trans (U.mono oo);have h2:=(h.below r).below (jU _ C).drew;have S:=ae U z1 z1.lt;refine aw (λy=>blk y w.heap.size 46 (akC x)) S.drew (ac (λy d _ c=>JT d c) ?_);refine Ty h2 z hG λw3 t ga gc so b3=>?_
 have m:Below C.heap.size C w3:=(jU _ C).drew.trans b3;have T:=ae m S S.lt;have A:=ae m L L.lt;have f:=r.trans (m.mono oo);have l2:=L.lt;have X:w.heap.size<=w1.heap.size:=by omega
 refine aB T (zgy so z hG (λv g o=>?_) λv e4 g o=>?_)
 rotate_left
 .have n:=ae o A A.lt;have a:=tB f o;refine hRT (hE2 (?_));exact aV (dh n (eX (e':=evZ) n λD b c=>CD b (Y D e4 (.inl g) (aD a c X))))
 have z4:=ae o T T.lt;have n:=ae o A A.lt;have a:=tB f o;refine hRT (hE2 (?_));refine aA (JT z4 (zjd (h.below a) z hi (λD V j=>bo (bj ?_)) λD H j=>bo (bj ?_)))
 .refine il λw6 O E s6=>eX (e':=evZ) O λw7 P J=>Km (aZ (ay V ?_));have b:=aD (tB j E) J j.size;have B:=ae b n n.lt;exact dh B (eX (e':=evZ) B λN M c=>CD M (Y N _ (.inr ⟨g,V,rfl⟩) (aD (tB a b) c X)))
 .refine il λw6 O E s6=>eX (e':=mkP i s x) O λw7 P J=>Km (aZ (ax oB ?_));have b:=aD (tB j E) J j.size;have l:=tB a b;have h7:=(h.below l).below (jU _ w7).drew;have B:=ae b n n.lt;have s7:=l.size;have s5:=j.size;refine aw (λy=>blk y D.heap.size 54 (evC (mkP i s x))) P.drew (ac (λy d _ c=>dh d c) (ac (λy d _ c=>dh d c) ?_))
  refine Tu h7 z λN p8 F=>?_;rw[H];rw[show kJ (mkP i s x) s=eff (mkP i s x) s by unfold kJ;rw[oJ H]]at p8;have W:∀k,w.heap.size<=k->k∉q.wv:=λk hk I=>by have:=u k (LB.wl k I);omega
  have ab:=b.size;have aa:=a.size;have x8:=P.drew.ch F (W _ oo);have M:=B.drew.ch F (W _ oo);refine aB x8 (eX (e':=mkP i s x) M λw9 t9 Z=>hRT (CD t9 (R w9 H g (p8.oth Z λI=>by have:=u _ I;omega) ?_)));exact((Ch.of_below l.drew:Ch q.wv w w7.drew).trans F λy a=>.inl a).add (aD (jU _ N) Z oo)
end
section
open Go.ChangeMaps
abbrev Cw:Int:=1125899906842624
structure DmW (w:World) (d m:Nat) (ws:List (Int×Option Nat)):Prop where
 b:blk w d 169 [.map (some m)]
 mb:MB u6 pV w m ws
 wt:∀p∈ws,∃b a t x,p.2=some b/\blk w b 292 [u6 p.1,iv a,u6 t,u6 x]/\1<=a/\a<=Cw/\p.1≠0
 few:ws.length<=32
def wB(ws:List (Int×Option Nat)):List Nat:=ws.filterMap (·.2)
def ti{ws:List (Int×Option Nat)}{k:Nat}:k∈wB ws↔∃p∈ws,p.2=some k:=by unfold wB;rw[List.mem_filterMap]
section
variable {ws:List (Int×Option Nat)}
def DmW.wlt(h:DmW w d m ws){k:Nat}(f:k∈wB ws):∃cs,blk w k 292 cs:=by obtain⟨p,g,e⟩:=ti.1 f;obtain⟨b,a,t,x,c,i,_⟩:=h.wt p g;rw[c]at e;cases e;exact⟨_,i⟩
def DmW.lt(h:DmW w d m ws):∀k∈d::m::wB ws,k<w.heap.size:=by
 intro k a;rcases oO.1 a with rfl|a
 .exact h.b.lt
 .rcases oO.1 a with rfl|a
  .exact h.mb.lt
  .obtain⟨cs,c⟩:=h.wlt a;exact c.lt
def DmW.keep(h:DmW w d m ws)(c:∀k∈d::m::wB ws,S.heap[k]? = w.heap[k]?):DmW S d m ws :=
 ⟨by have:=h.b;unfold blk at *; rw[c d oB];exact this,h.mb.kept (c m oB),λp f=>by
  obtain⟨b,a,t,x,e,i,g⟩:=h.wt p f;refine⟨b,a,t,x,e,?_,g⟩;unfold blk at *;rw[c b (by simp[ti];exact .inr (.inr ⟨p.1,by rw[<-e];exact f⟩))];exact i,h.few⟩
def DmW.below(h:DmW w d m ws)(a:Below w.heap.size w S):DmW S d m ws:=h.keep λk b=>a.block k (h.lt k b)
end
structure RpX where
 R:RpB
 m:Nat
 ws:List (Int×Option Nat)
 Rw:List iQ
 W:HM
def FF(X:RpX):List Nat:=RpF X.R X.Rw++X.m::wB X.ws
def AF(X:RpX):List Nat:=X.R.p::X.R.h::X.R.d::X.R.q.l++FF X
def mX{X:RpX}{k:Nat}:k∈FF X↔k∈RpF X.R X.Rw\/k=X.m\/k∈wB X.ws:=by simp[FF]
def ow{X:RpX}{k:Nat}:k∈AF X↔k=X.R.p\/k=X.R.h\/k=X.R.d\/k∈X.R.q.l\/k∈FF X:=by simp[AF]
structure RepW(w:oG) (i:Nat) (X:RpX) (s:RS):Prop where
 rp:RpM w X.R (i+1) s.l X.W X.Rw (s.A.length:Nat) s.P
 it:nG X.Rw=yp s.A
 dm:DmW w X.R.d X.m X.ws
 dq:X.R.d∉X.R.q.l
 nq:X.m∉X.R.q.l
 nm:X.m≠X.R.m
 wq:∀k∈wB X.ws,k∉X.R.q.l
section
variable {X:RpX}{s:RS}
def RepW.lt(h:RepW w i X s):∀k∈AF X,k<w.heap.size:=λk a=>by
 rcases ow.1 a with rfl|rfl|rfl|a|a
 .exact h.rp.b.lt
 .exact h.rp.h.b.lt
 .exact h.dm.b.lt
 .exact h.rp.pm.lt k a
 .rcases mX.1 a with a|rfl|a
  .exact h.rp.lt k a
  .exact h.dm.mb.lt
  .exact h.dm.lt k (by simp[a])
def RepW.keep(h:RepW w i X s)(b:∀k∈AF X,S.heap[k]? = w.heap[k]?):RepW S i X s :=
 {h with
  rp:=h.rp.keep λk a => b k (ow.2 (by
   rcases a with h|h|h|h
   .exact .inl h
   .exact .inr (.inl h)
   .exact .inr (.inr (.inr (.inl h)))
   .exact .inr (.inr (.inr (.inr (mX.2 (.inl h)))))))
  dm:=h.dm.keep λk a => b k (ow.2 (by
   rcases oO.1 a with h|h
   .exact .inr (.inr (.inl h))
   .exact .inr (.inr (.inr (.inr (mX.2 (.inr (oO.1 h))))))))}
def RepW.below(h:RepW w i X s)(a:Below w.heap.size w S):RepW S i X s:=h.keep λk b=>a.block k (h.lt k b)
def RepW.ch{F:List Nat}(h:RepW w i X s)(b:Ch F w S)(hF:∀k∈AF X,k∉F):RepW S i X s:=h.keep λk a=>b.block k (h.lt k a) (hF k a)
theorem MB.ne {kv:Int->Value}{ws:List (Int×Option Nat)}{k:Nat}{cs:List Value}(h:MB kv pV w b ws)(a:blk w k E cs):k≠b:=λe=>by
 obtain⟨f,c,d⟩:=h;unfold blk at a;rw[e,d.heap]at a;cases a
def RepW.dF(h:RepW w i X s):∀k∈X.R.d::X.m::wB X.ws,k∉RpF X.R X.Rw:=λk c=>by
 rcases oO.1 c with rfl|c
 .exact h.rp.out h.dm.b dc dc dc h.dq
 .rcases oO.1 c with rfl|c
  .intro a;rcases fG.1 a with a|a|a|a|a
   .exact h.nq (LB.wl _ a)
   .exact h.dm.mb.ne h.rp.g.b a.symm
   .obtain⟨j,r,o,e⟩:=h.rp.g.in a;obtain⟨f,n⟩:=h.rp.g.cur o e;exact h.dm.mb.ne (show blk w X.m 214 f.toList by unfold blk;rw[n]) rfl
   .exact h.nm a
   .exact h.dm.mb.ne h.rp.e.b a.symm
  .obtain⟨p,l⟩:=h.dm.wlt c;exact h.rp.out l dc dc dc (h.wq k c)
def RepW.turn{a:List iQ}{s':RS}(h:RepW w i X s){W':HM}(d:RpM S X.R (i+1) s'.l W' a (s'.A.length:Nat) s'.P)(hi:nG a=yp s'.A)(c:Ch (RpF X.R X.Rw) w S):RepW S i {X with Rw:=a,W:=W'} s' :=
 {h with
  rp:=d
  it:=hi
  dm:=h.dm.keep λk b=>c.block k (h.dm.lt k b) (h.dF k b)}
def RepW.want{f:List (Int×Option Nat)}(h:RepW w i X s)(q:DmW S X.R.d X.m f)(p:Ch (X.m::wB X.ws) w S)(r:∀k∈wB f,k∈wB X.ws\/w.heap.size<=k):RepW S i {X with ws:=f} s:=by
 refine {h with dm:=q,wq:=λk c n=>(r k c).elim (λl=>h.wq k l n) (λl=>by have:=h.rp.pm.lt k n;omega),rp:=h.rp.keep λk c=>?_};have j:k<w.heap.size:=h.lt k (ow.2 (by
   rcases c with h|h|h|h
   .exact .inl h
   .exact .inr (.inl h)
   .exact .inr (.inr (.inr (.inl h)))
   .exact .inr (.inr (.inr (.inr (mX.2 (.inl h)))))))
 refine p.block k j λa=>?_;rcases c with rfl|rfl|c|c
 .rcases oO.1 a with e|a
  .exact h.dm.mb.ne h.rp.b e
  .obtain⟨o,g⟩:=h.dm.wlt a;exact qI rfl (g.ne h.rp.b dc)
 .rcases oO.1 a with e|a
  .exact h.dm.mb.ne h.rp.h.b e
  .obtain⟨o,g⟩:=h.dm.wlt a;exact qI rfl (g.ne h.rp.h.b dc)
 .rcases oO.1 a with rfl|a
  .exact h.nq c
  .exact h.wq k a c
 .exact h.dF k (oH _ a) c
end
structure StpX(w w':oG) (X X':RpX):Prop where
 R:X'.R=X.R
 m:X'.m=X.m
 ch:Ch (FF X) w w'
 new:∀k∈FF X',k∈FF X\/w.heap.size<=k
def StpX.af{X X':RpX}(h:StpX w S X X'):∀k∈AF X',k∈AF X\/w.heap.size<=k:=λk a=>by
 rcases ow.1 a with a|a|a|a|a
 .exact .inl (ow.2 (.inl (h.R ▸ a)))
 .exact .inl (ow.2 (.inr (.inl (h.R ▸ a))))
 .exact .inl (ow.2 (.inr (.inr (.inl (h.R ▸ a)))))
 .exact .inl (ow.2 (.inr (.inr (.inr (.inl (h.R ▸ a))))))
 .exact(h.new k a).imp (λb=>ow.2 (.inr (.inr (.inr (.inr b))))) id
def StpX.refl{X:RpX}(h:Below w.heap.size w S):StpX w S X X:=⟨rfl,rfl,Ch.of_below h,λ_ a=>.inl a⟩
def StpX.trans{a b c:oG}{X Y Z:RpX}(h:StpX a b X Y)(k:StpX b c Y Z):StpX a c X Z :=
 have f:=h.ch.size
 ⟨k.R.trans h.R,k.m.trans h.m,h.ch.trans k.ch h.new,λx e=>(k.new x e).elim (λd=>h.new x d) λd=>.inr oo⟩
def StpX.rww{W':HM}{X:RpX}{b:List iQ}(c:Ch (RpF X.R X.Rw) w S)(d:∀k∈lrB b,k∈lrB X.Rw\/w.heap.size<=k):StpX w S X {X with Rw:=b,W:=W'} :=
 ⟨rfl,rfl,c.mono λk a=>mX.2 (.inl a),λk a=>by
  rcases mX.1 a with a|a
  .rcases fG.1 a with a|a|a|a
   .exact .inl (mX.2 (.inl (fG.2 (.inl a))))
   .exact .inl (mX.2 (.inl (fG.2 (.inr (.inl a)))))
   .exact(d k a).imp (λa=>mX.2 (.inl (fG.2 (.inr (.inr (.inl a)))))) id
   .exact .inl (mX.2 (.inl (fG.2 (.inr (.inr (.inr a))))))
  .exact .inl (mX.2 (.inr a))⟩
def StpX.rw{X:RpX}{a:List iQ}(b:Ch (RpF X.R X.Rw) w S)(c:∀k∈lrB a,k∈lrB X.Rw\/w.heap.size<=k):StpX w S X {X with Rw:=a}:=StpX.rww (W':=X.W) b c
def StpX.ws{X:RpX}{b:List (Int×Option Nat)}(c:Ch (X.m::wB X.ws) w S)(d:∀k∈wB b,k∈wB X.ws\/w.heap.size<=k):StpX w S X {X with ws:=b} :=
 ⟨rfl,rfl,c.mono λk a=>mX.2 (.inr (oO.1 a)),λk a=>by
  rcases mX.1 a with a|a|a
  .exact .inl (mX.2 (.inl a))
  .exact .inl (mX.2 (.inr (.inl a)))
  .exact(d k a).imp (λa=>mX.2 (.inr (.inr a))) id⟩
structure WW(w:oG) (B k:Nat) (X:Nat->RpX) (S:Nat->RS) (Z:List Nat):Prop where
 rp:∀i,i<k->RepW w i (X i) (S i)
 sep:∀i j,i<k->j<k->i≠j->∀x∈AF (X i),x∉FF (X j)
 z:∀i,i<k->∀x∈Z,x∉AF (X i)
 zl:∀x∈Z,x<w.heap.size
 lo:∀i,i<k->∀x∈FF (X i),B<=x
end
def DZ:fU Q 169 0 0 b o K w:=aJ kr
def Ei:fU Q 292 0 0 b o K w:=aJ kr
def Zm:fU Q 292 1 2 b o K w:=aJ kr
def SQ:fU Q 292 2 3 b o K w:=aJ kr
def BR:fU Q 290 0 0 b o K w:=aJ kr
def MV:fU Q 290 1 1 b o K w:=aJ kr
def wtC(k a t x:Int):oE:=[u6 k,iv a,u6 t,u6 x]
def IsW(w:oG)(p:Int×Nat):Prop:=∃a t x,blk w p.2 292 (wtC p.1 a t x)
def Wc(h:K (.bool false) w):bin Q .eql 130 cx cy (pB b) (.pointer none) K w :=
 dZ (by unfold eqG eqGuard;rfl) kr h
def zkb{p q:Int×Nat}{W:oG}(f:IsW W p)(g:IsW W q):Calls Q 261 (#[pB p.2,pB q.2]++#[]) W λe S => e=.returned (ci (re p.1 q.1))/\∃n os',S=Go.Sort.grow (W.drewN n) os':=by
 obtain⟨a,t,x,f⟩:=f;obtain⟨h,l,m,g⟩:=g;have d:Gives Q 261 #[pB p.2,pB q.2] W λv S => v=ci (re p.1 q.1)/\∃n os',S=Go.Sort.grow (W.drewN n) os':=by
  refine HO <|aw (λu=>blk u p.2 292 (wtC p.1 a t x)/\blk u q.2 292 (wtC q.1 h l m)) ⟨f.drew,g.drew⟩ ?_;refine hZ (hW Ei (hW BR (ac (λu c _=>lK (v:=u6 p.1) c.1 rfl) ?_)));refine hZ (hW Ei (hW BR (ac (λu c _=>lK (v:=u6 q.1) c.2 rfl) ?_)));refine zbX (hRT ⟨rfl,1,#[],?_⟩);unfold Go.Sort.grow World.drewN World.drew;simp
 rw[show (#[pB p.2,pB q.2]++#[]:Array oF)=#[pB p.2,pB q.2]from rfl];unfold Gives at d;exact Calls.mono d λ_ _ ⟨v,i,j,k⟩=>⟨by rw[i,j],k⟩
open Go.Sort in
theorem zai [Inhabited α]{enc:α->oF}{d:Array α}{c:Array Obj}(f:b<w.heap.size)(a:b≠g):(sortWorld enc w g 0 m d c).heap[b]? = w.heap[b]? := by
 show (w.heap.modify g _++c)[b]? = _;rw[Array.getElem?_append_left (by simpa using f),Array.getElem?_modify,oI (λe=>a e.symm)]
open Go.Sort in
theorem zl8 [Inhabited α]{enc:α->oF}{d:Array α}{os:Array Obj}:sortWorld enc w g 0 m d os=sortWorldK (λx=>[enc x]) 1 w g 0 m d os:=by
 have e:∀c:Array oF,putCells enc 0 d c=putCells id 0 (flatK (λx=>[enc x]) 1 d) c:=λc=>by
  apply Array.ext_getElem?;intro k;unfold putCells;rw[Array.getElem?_mapIdx,Array.getElem?_mapIdx,size_flatK,Nat.mul_one];by_cases a:0<=k/\k<0+d.size
  .have b:k<d.size*1:=by omega
   cases c[k]? with
   | none=>rfl
   | some v =>
    rw[jP,jP,oJ a,oJ a,Nat.sub_zero,get_flatK _ _ _ _ b,Nat.div_one,Nat.mod_one];rfl
  .cases c[k]? with
   | none=>rfl
   | some v=>rw[jP,jP,oI a,oI a]
 show grow (mapBlock (Go.Sort.ahead w m) g (putCells enc 0 d)) os=grow (mapBlock (Go.Sort.ahead w m) g (putCells id 0 (flatK (λx=>[enc x]) 1 d))) os;rw[show putCells enc 0 d=putCells id 0 (flatK (λx=>[enc x]) 1 d)from funext e]
open Go.Sort in
theorem zhW {B n:Nat}(H:w.ownsRow B 287 1 (.slice a n c) n (X0.flatMap λb=>[pB b]))(M:X0.length=n)(N:n<4611686018427387904)(O:∀b∈X0,∃k,IsW w (k,b))(h:∀(w':oG) (o:List Nat),o.Perm X0->w'.ownsRow B 287 1 (.slice a n c) n (o.flatMap λb=>[pB b])->w.grownBy w' (Value.slice a n c).ownBlock->K (.tuple #[]) w'):call Q 260 #[.slice a n c,.func (.func 261) #[] #[]] K w:=by
 have G:KO Q 260:=⟨_,func260,by kernel_rfl,by kernel_rfl⟩
 refine aj G ?_;unfold Gives;by_cases P:n=0
 .subst P;have V:X0=[]:=List.eq_nil_of_length_eq_zero M;subst V;have l:=AnyF.slices_SortFunc_none {Tryz.sortWt with} a c (.func (.func 261) #[] #[]) w;change Calls Q 260 _ _ _ at l;refine Calls.mono l λe w' E=>?_;obtain⟨rfl,rfl⟩:=E;exact⟨_,rfl,h _ [] (List.Perm.refl _) H ⟨rfl,rfl,rfl,Nat.le_refl _,λ_ _ _=>rfl⟩⟩
 .obtain⟨g,R,rfl,i⟩:=gy H oo;subst M;obtain⟨D,r⟩:∃D:List {p:Int×Nat // IsW w p},D.map (λp=>p.1.2)=X0:=by
   clear h H i P N
   induction X0 with
   | nil=>exact⟨[],rfl⟩
   | cons b X0 ih =>
    obtain⟨D,r⟩:=ih λb X=>O b (oH _ X);obtain⟨k,Z⟩:=O b oB;exact⟨⟨(k,b),Z⟩::D,by rw[jK,r]⟩
  have d:D.length=X0.length:=by rw[<-r,oY]
  haveI:Inhabited {p:Int×Nat // IsW w p}:=⟨D[0]'oo⟩
  have F:X0.flatMap (λb=>[pB b])=D.flatMap λp=>[pB p.1.2]:=by rw[<-r,List.flatMap_map]
  rw[F]at i;have f:∀p : {p:Int×Nat // IsW w p},p.1.2≠g/\p.1.2<w.heap.size:=λp=>by
   obtain⟨_,_,_,v⟩:=p.2;exact⟨λe=>(v.ne i.blk dc) e,v.lt⟩
  have W:Holds (λp : {p:Int×Nat // IsW w p} => pB p.1.2) w g 0 D.toArray:=by
   intro j z;have z:j<D.length:=by simpa using z
   have hx:D[j]? = some D[j]:=gE z;refine⟨?_,?_⟩
   .have:=i.cell (s:=1) (enc:=λp : {p:Int×Nat // IsW w p} => [pB p.1.2]) (λ_=>rfl) d hx (show 0<1 by omega)
    rw[i.blk.cell,oK];rw[show j*1+0=j by omega]at this;rw[this];simp[z]
   .have t:=i.blk;unfold Go.Proofs.YtpaghmnnhedccaaGreatDoor.blk at t;unfold World.frozen?;rw[t];rfl
  have l:=Any.slices_SortFunc Tryz.sortWt (λp : {p:Int×Nat // IsW w p} => pB p.1.2) (λ_=>rfl) (λx y=>re x.1.1 y.1.1) (swoZ λx : {p:Int×Nat // IsW w p} => x.1.1) 261 #[] g 0 c D.toArray w
   (enters_of func261 kr rfl) (λm os dk _ x y=>zkb (p:=x.1) (q:=y.1) (by
    obtain⟨A,I,J,C⟩:=x.2;refine⟨A,I,J,?_⟩;unfold Go.Proofs.YtpaghmnnhedccaaGreatDoor.blk at *;rw[zai (f x).2 (f x).1];exact C) (by
    obtain⟨A,I,J,C⟩:=y.2;refine⟨A,I,J,?_⟩;unfold Go.Proofs.YtpaghmnnhedccaaGreatDoor.blk at *;rw[zai (f y).2 (f y).1];exact C)) W i.blk.lt (by simpa[d]using N)
  change Calls Q 260 _ _ _ at l;rw[List.size_toArray,d]at l;refine Calls.mono l λe w' E=>?_;obtain⟨rfl,d',m,os,v,hs,rfl⟩:=E;have Y:d'.toList.toArray=d':=rfl;have u:d'.toList.length=X0.length:=by
   have:=v.1
   simpa[d]using this
  rw[<-Y,zl8];obtain⟨o2,U⟩:=Ol (k0:=1) (m:=m) (os:=os) Nat.one_pos (λ_=>rfl) i (G':=d'.toList) u;refine⟨_,rfl,h _ (d'.toList.map λp=>p.1.2) ?_ ?_ U⟩
  .have L:=v.2.2;have S:d'.extract 0 X0.length=d':=by rw[<-u];simp
   have T:D.toArray.extract 0 X0.length=D.toArray:=by rw[<-d];simp
   rw[S,T]at L;rw[<-r];exact List.Perm.map _ L
  .rw[List.flatMap_map];exact o2.own
end
section
def zjF{P:Program}{a b:Addr}{v v2 u:oF}(e:∀K':KV,K' v w->ld P t (.pointer (some a)) K' w)(f:∀K':KV,K' v2 w->ld P E (.pointer (some b)) K' w)(h:K (.tuple #[v,v2,u]) w):aY P [(some t,.pointer (some a)),(some E,.pointer (some b)),(none,u)] K w:=by
 have d:∀{t:TypeId} {a:Addr} {v:oF},(∀K':KV,K' v w->ld P t (.pointer (some a)) K' w)->(loadVar t a).run P w=.ok v w:=λ{t a v} e=>by
  have:=e (λg i => g=v/\i=w) ⟨rfl,rfl⟩
  unfold ld okV at this;unfold Instr.loadAt at this;simp only[Instr.sureAddr,jY,jX,jW]at this;split at this
  .rename_i g i c;rw[c,this.1,this.2]
  .exact this.elim
 unfold aY
 have:(pR [(some t,.pointer (some a)),(some E,.pointer (some b)),(none,u)]).run P w=.ok (.tuple #[v,v2,u]) w:=by simp[pR,asAddr,jY,d e,d f]
 rw[this];exact⟨rfl,h⟩
def OB.ne{B n:Nat}{cs:oE}{l:List UInt8}(o:OB w B a n c l)(b:blk w g E cs)(i:E≠5):∀k,(Value.slice a n c).ownBlock=some k->k≠g:=λk e m=>by
 subst m;rcases o.2 with⟨d,_⟩|⟨g,f,h,d,_,j,_⟩
 .rw[d]at e;cases e
 .rw[d]at e;simp only[Value.ownBlock,qD]at e;subst e;unfold blk at b;rw[j]at b;simp only[qD,Obj.cells.injEq]at b;exact i b.2.1.symm
def Zw{B n:Nat}{cs:oE}{l:List UInt8}(d:blk w b E cs)(h:OB w B a n c l)(g:w.grownBy S (Value.slice a n c).ownBlock)(f:E≠5):blk S b E cs :=
 d.kp (g.block b d.lt λe=>h.ne d f b e.symm rfl)
def OB.othT{B n:Nat}{cs:oE}{l:List UInt8}(b:OB w B a n c l)(e:blk w g E cs)(d:E≠5)(o:Oth g w S):OB S B a n c l:=cn b λk f=>o.other k (b.ne e d k f)
def RV.oth3{n B:Nat}{l:List UInt8}(h:RB w a n c l)(f:∀i,i<n->(rM a i).block<B)(o:Oth g w S)(j:B<=g):RB S a n c l :=
 ⟨RV.len h,RV.cap h,RV.some_ h,RV.nil_ h,λi u b=>by
  have e:i<n:=by have:=(gS b).1;rw[RV.len h]at this;exact this
  have d:=RV.cell h i u b
  have:=f i e
  rw[World.cell?_of_block (o.other _ oo)];exact d⟩
def zgb{e:EV}(c:co e=true):0<=e.a/\e.a<=1125899906842624:=by
 have g:e=Lg e:=by
  unfold co at c;simp only[oM,oP]at c;exact c.2.2.2.2.2.1
 have f:=ov c;by_cases d:e.k=1\/e.k=2\/e.k=3\/e.k=5
 .rcases f with⟨k,a,b⟩|⟨k,a,b⟩|⟨k,a,b,_⟩|⟨k,_⟩|⟨k,a,b,_⟩|⟨k,_⟩|k<;>first|omega|(simp only[MXA]at *; omega)
 .have:e.a=0:=by rw[g];unfold Lg;exact oI d
  omega
def zgd{e:EV}(c:co e=true):0<=e.t/\e.t<=6:=by
 have g:e=Lg e:=by
  unfold co at c;simp only[oM,oP]at c;exact c.2.2.2.2.2.1
 have f:=ov c;by_cases d:e.k=5\/e.k=6
 .rcases f with⟨k,_⟩|⟨k,_⟩|⟨k,_⟩|⟨k,_⟩|⟨k,_,_,a,b,_⟩|⟨k,a,b,_⟩|k<;>omega
 .have:e.t=0:=by rw[g];unfold Lg;exact oI d
  omega
structure EP(w0 w:oG) (q p:Nat) (e:EV) (l:List UInt8):Prop where
 bq:blk w q 54 (evC e)
 bp:∃a n c,blk w p 101 [.slice a n c]/\OB w w0.heap.size a n c l
 ne:q≠p
 lo:w0.heap.size<=p
 bel:Below w0.heap.size w0 w
attribute [local irreducible] bin un conv call bA blt slc ao fld aW idx lkp fk mW eSt rng nxt ent ext alc box bld bM ld sto aU fl mkS ifc pick rdy wts aM sti cond aY Gives ai iy ke cOp
section
variable {e:EV}
def Pi{q p:Nat}{l:List UInt8}(k:Nat)(h:EP O w q p e l)(G:l.length<=1000)(j:k=1\/k=8)(y:0<=v)(I:v<((256 ^ k:Nat):Int))(f:r=(k:Nat))(z:∀S,EP O S q p e (l++bf v.toNat k)->K (.tuple #[]) S):bA Q (.func (.func 235) #[] #[pB p]) #[.int .u64 v,ci r] K w:=by
 subst f;obtain⟨x,rfl⟩:=Int.eq_ofNat_of_zero_le y;obtain⟨a,n,c,g,m⟩:=h.bp;have H:=m.len;have J:x<256 ^ k:=by omega
 have b:x<18446744073709551616:=by rcases j with rfl|rfl<;>omega
 refine bS (all:=#[.int .u64 (x:Nat),ci (k:Nat),pB p]) rfl (aj (goK func235) (Wi (lK (v:=.slice a n c) g rfl ?_)));refine put_c m.rb oo b λt C u L o d=>bo (bj ?_);have B:uy (k:Nat)≠0:=by rcases j with rfl|rfl<;>decide
 have A:FO l x (k:Nat)=(l++bf x k,0):=by
  unfold FO;rw[oI B,oQ,oI oo]
 rw[A]at o;have s:=ae d g g.lt;have E:=ae d h.bq h.bq.lt;refine cq Eu s oB rfl λF D i=>z F ⟨i.blk E h.ne,⟨t,C,u,D,?_⟩,h.ne,h.lo,aD (h.bel.trans (d.mono h.bel.size)) i h.lo⟩;exact OV.mono (o.othT s dc i) h.bel.size
def zh0(u:co e=true)(l:tT e)(h:∀w' a n c,OB w' w.heap.size a n c (evB e)->Below w.heap.size w w'->K (.slice a n c) w'):call Q 216 #[.agg (evC e).toArray] K w:=by
 obtain⟨o1,o6,ad,sM⟩:=fZ u;obtain⟨k1,k7⟩:=zgc u;have N:=Vb u;have ha:=zgb u;have ht:=zgd u;refine aj (goK func216) (Zb (By λw1 T X s1=>dh T (Fg λJ L=>bc ?_)));rw[u];have z2:=ae L T T.lt;have j:=tB X L;have af:=L.size;refine aA (bO (z:=.slice none 0 0) kr λw3 U Y s3=>?_);have U:blk w3 J.heap.size 101 [.slice none 0 0]:=U
 have p:EP w w3 w.heap.size J.heap.size e []:=⟨ae Y z2 z2.lt,⟨none,0,0,U,OB.nil _ _⟩,by omega,j.size,tB j Y⟩
 refine dO (lK (v:=iv e.o) p.bq rfl (zc1 underlying3 oo oo (Pi 1 p oB (.inl rfl) oo oo rfl λw4 e4=>?_)));refine nB (lK (v:=u6 e.s) e4.bq rfl (Pi 8 e4 (by simp[bE]) (.inr rfl) oo oo rfl λS q=>?_));obtain⟨W,I,Z,P,o5⟩:=q.bp
 refine aw (λy=>blk y w.heap.size 54 (evC e)/\blk y J.heap.size 101 [.slice W I Z]) ⟨q.bq.drew,P.drew⟩ <|ac (v:=.slice W I Z) (λy d _ F=>lK d.2 rfl F) ?_;refine hW BN (ac (v:=.agg (vCs e.V).toArray) (λy d _ F=>ldA (n:=6) (vs:=vCs e.V) underlying38 rfl kr d.1 rfl rfl F) ?_);refine zfY rfl (λv hv=>⟨l.d v hv,?_⟩) λw6 a6 n6 c6 G b6=>?_
 .obtain⟨k,O,rfl⟩:=List.mem_iff_getElem.1 hv
  have:=N.2 k
  rw[oN,gE O,Option.getD_some]at this;unfold M40 at this;omega
 have g:Below S.heap.size S w6:=(jU _ S).drew.trans b6;have q6:=ae g q.bq q.bq.lt;have p6:=ae g P P.lt;have i:=o5.below g oA;have b:=q.bel.trans (g.mono q.bel.size);have l5:=o5.len;have l6:=G.len;have aa:I=9:=by rw[<-l5];simp[bE]
 have ab:n6=48:=by rw[<-l6,wM];rfl
 refine aB ⟨q6,p6⟩ (OT w.heap.size i G.rb oo b.size λa7 c7 w7 o7 M=>?_);have q7:=Zw q6 i M dc;have p7:=Zw p6 i M dc;have x:Below w.heap.size w w7:=b.grown M b.size λk O=>(OV.block i k O).1;refine hRT (cq Eu p7 oB rfl λw8 p8 m=>?_)
 have e8:EP w w8 w.heap.size J.heap.size e ([]++bf e.o.toNat 1++bf e.s.toNat 8++eE (km e.V)):=⟨m.blk q7 p.ne,⟨a7,I+n6,c7,p8,OB.othT o7 p7 dc m⟩,p.ne,p.lo,aD x m p.lo⟩
 have H:∀{r:List UInt8},([]++bf e.o.toNat 1++bf e.s.toNat 8++eE (km e.V)++r).length=57+r.length:=by
  intro r;rw[oT,oT,wM];simp[bE,EV.V]
 refine Ea (lK (v:=kv8 e.k) e8.bq rfl (zc1 underlying5 oo oo (Pi 1 e8 (by rw[<-oW (_++eE _),H];simp) (.inl rfl) oo oo rfl λw9 e9=>?_)));refine Wj (pY (lK (v:=u6 e.n) e9.bq rfl (Pi 8 e9 (by rw[H];simp[bE]) (.inr rfl) l.n.1 (by have:=l.n.2;omega) rfl λag A=>?_)))
 refine yN (lK (v:=iv e.t) A.bq rfl (zc1 underlying3 ht.1 oo (Pi 1 A (by rw[jE _ (bf _ _),H];simp[bE]) (.inl rfl) ht.1 oo rfl λah B=>?_)));refine sX (lK (v:=iv e.a) B.bq rfl (zc1 underlying2 ha.1 oo (Pi 8 B (by rw[jE _ (bf _ _),jE _ (bf _ _),H];simp[bE]) (.inr rfl) ha.1 oo rfl λai C=>?_)))
 refine wO (lK (v:=u6 e.r) C.bq rfl (Pi 8 C (by simp[bE,wM,EV.V]) (.inr rfl) l.r.1 (by have:=l.r.2;omega) rfl λak D=>?_));refine Eb (lK (v:=u6 e.f) D.bq rfl (Pi 8 D (by simp[bE,wM,EV.V]) (.inr rfl) l.f.1 (by have:=l.f.2;omega) rfl λR E=>?_));obtain⟨a,n,c,hp,ho⟩:=E.bp;refine lK (v:=.slice a n c) hp rfl (h R a n c ?_ E.bel)
 have:evB e=[]++bf e.o.toNat 1++bf e.s.toNat 8++eE (km e.V)++bf e.k.toNat 1++bf e.n.toNat 8++bf e.t.toNat 1++bf e.a.toNat 8++bf e.r.toNat 8++bf e.f.toNat 8:=by
  unfold evB FN;simp[eE,km,EV.V]
 rw[this];exact ho
structure ET(w0 w:oG) (a:Option Addr) (c:Nat) (e:EV) (cs:oE) (pos:Nat):Prop where
 bb:blk w w0.heap.size 101 [.slice a 91 c]
 be:blk w (w0.heap.size+1) 54 cs
 bn:blk w (w0.heap.size+2) 3 [ci (pos:Nat)]
 rb:RB w a 91 c (evB e)
 rl:∀i,i<91->(rM a i).block<w0.heap.size
 bel:Below w0.heap.size w0 w
def Pj{pos':Nat}{cs:oE}(i k:Nat)(h:ET S w a c e cs b)(hi:(FN e)[i]? = some (v.toNat,k))(n:k=1\/k=8)(l:0<=v)(t:v<((256 ^ k:Nat):Int))(f:r=(k:Nat))(o:(eE ((FN e).take i)).length=b)(g:pos'=b+k)(m:∀O,ET S O a c e cs pos'->K (.int .u64 v) O):bA Q (.func (.func 65) #[] #[pB S.heap.size,pB (S.heap.size+2)]) #[ci r] K w:=by
 subst f g;obtain⟨x,rfl⟩:=Int.eq_ofNat_of_zero_le l;rw[oQ]at hi;refine bS (all:=#[ci (k:Nat),pB S.heap.size,pB (S.heap.size+2)]) rfl (aj (goK func65) (UC (lK (v:=.slice a 91 c) h.bb rfl (lK (v:=ci (b:Nat)) h.bn rfl ?_))));have j:=zef hi n oo;rw[o]at j;refine zeg h.rb oo ?_;rw[show rN (evB e) (b:Nat) (k:Nat)=_ from j]
 have s:S.heap.size+2<w.heap.size:=h.bn.lt;refine UK (UL (UM (cq kf h.bn oB rfl λq p d=>m q ⟨d.blk h.bb oo,d.blk h.be oo,p,RV.oth3 h.rb h.rl d oo,h.rl,aD h.bel d oo⟩)))
def Pk{cs:oE}{v:oF}(h:ET S w a c e cs b)(j:∀w,(sizeOf t).run Q w=.ok 1 w)(n:f<cs.length)(k:v.oneCell'=true)(i:∀O,ET S O a c e (cs.set f v) b->K undef O):sto Q t (pA (S.heap.size+1) (0+f)) v K w:=by have m:S.heap.size+2<w.heap.size:=h.bn.lt;refine cq j h.be oo k λl g d=>i l ⟨d.blk h.bb oo,by rw[oK]at g;exact g,d.blk h.bn oo,RV.oth3 h.rb h.rl d oo,h.rl,aD h.bel d oo⟩
def zeG{d:TypeId}(a:Tryz.prog.underlying d=some (.int .i64))(b:0<=x)(c:x<9223372036854775808)(h:K (ci x) w):conv Q 36 d (.int .u64 x) K w:=by refine dE underlying36 a ?_;rw[fM oo oo];exact h
def zkm:((evB e).take 57).drop 9=eE (km e.V):=by
 have b:evB e=eE [(e.o.toNat,1),(e.s.toNat,8)]++eE (km e.V)++eE [(e.k.toNat,1),(e.n.toNat,8),(e.t.toNat,1),(e.a.toNat,8),(e.r.toNat,8),(e.f.toNat,8)]:=by
  rw[<-HV, <-HV];rfl
 have c:(eE [(e.o.toNat,1),(e.s.toNat,8)]).length=9:=by simp[eE,bE]
 have d:(eE (km e.V)).length=48:=wM;rw[b,qJ (by rw[oT];omega),tL (by rw[oT];omega),List.drop_append_of_le_length oo,oS oo,oV]
def zeI(E:co e=true)(U:tT e)(hr:RB w a 91 c (evB e))(b:∀i,i<91->(rM a i).block<w.heap.size)(h:nX w (K (.tuple #[evV e,ci 91,ci 0]))):call Q 52 #[.slice a 91 c,ci 0] K w:=by
 obtain⟨o1,o6,aG,sM⟩:=fZ E;obtain⟨k1,k7⟩:=zgc E;have I:=Vb E;have ha:=zgb E;have ht:=zgd E;obtain⟨n0,n1⟩:=U.n;obtain⟨r0,r1⟩:=U.r;obtain⟨f0,f1⟩:=U.f;simp only[M64]at n1 r1 f1;refine aj (goK func52) (Yc (bu λw1 X b1 s1=>il λw2 z2 b2 s2=>bO (z:=ci 0) kr λw3 Y b3 s3=>?_));have X:blk w1 w.heap.size 101 [.slice a 91 c]:=X
 have Y:blk w3 w2.heap.size 3 [ci ((0:Nat):Int)]:=Y;have G:=b2.trans (b3.mono oo);have F:=b1.trans (G.mono oo);have aF:=ae G X X.lt;have T:=ae b3 z2 z2.lt;rw[s1]at T s2 |-;rw[s2]at Y |-;have x:ET w w3 a c e (evC evZ) 0:=⟨aF,T,Y,RV.below hr F oA,b,F⟩
 refine aL (UD (ax oo (lK (v:=.slice a 91 c) x.bb rfl (wW (cH (UI (ax oo ?_)))))));refine lK (v:=.slice a 91 c) x.bb rfl (wW (bL oo oo (aL (ax oo (UH ?_)))));refine cq kf x.bn oB rfl λw4 n4 W=>?_;have l3:w.heap.size+2<w3.heap.size:=x.bn.lt
 have e4:ET w w4 a c e (evC evZ) 0:=⟨W.blk x.bb oo,W.blk x.be oo,n4,RV.oth3 x.rb b W oo,b,aD x.bel W oo⟩
 refine Pj 0 1 e4 rfl (.inl rfl) oo oo rfl rfl (pos':=1) rfl λw5 e5=>zeG underlying3 oo oo ?_;refine Pj 1 8 e5 rfl (.inr rfl) oo oo rfl (by simp[FN,eE,bE]) (pos':=9) rfl λw6 e6=>?_;refine dO (Pk (f:=0) e6 kf (by simp[evC]) rfl λw7 e7=>nB (Pk (f:=1) e7 kf (by simp[evC]) rfl λw8 g=>?_))
 refine lK (v:=.slice a 91 c) g.bb rfl (lK (v:=ci ((9:Nat):Int)) g.bn rfl (lK (v:=ci ((9:Nat):Int)) g.bn rfl (aR oo oo ?_)));refine zc0 (l:=9) (m:=57) g.rb (.inr ⟨_,rfl⟩) (.inr ⟨_,rfl⟩) oo oo λa' r8=>?_;rw[zkm]at r8;have hV:∀v∈e.V,0<=v/\v<1099511627776:=λv J=>by
  refine⟨U.d v J,?_⟩;obtain⟨k,hk,rfl⟩:=List.mem_iff_getElem.1 J
  have:=I.2 k
  rw[oN,gE hk,Option.getD_some]at this;exact this
 have aq:leV e.V (List.replicate 6 1099511627776)=true:=by
  unfold leV;rw[jS];intro k hk
  have:=I.2 k
  simp only[M40]at this;have ap:=jQ.1 hk;have ar:(List.replicate 6 (1099511627776:Int)).getD k 0=1099511627776:=by rw[oN,jL,oJ ap];rfl
  rw[oP,ar];omega
 refine zkN rfl (λv J=>⟨(hV v J).1,by have:=(hV v J).2;omega⟩) aq r8 λw9 H=>bo (bj (BN ?_));have l8:=g.bn.lt;have e9:blk w9 (w.heap.size+1) 54 _:=ae H g.be g.be.lt;refine eW (n:=6) (vs:=vCs e.V) kr rfl e9 (by show 2+6<=14;omega) (by simp[vCs,EV.V,u6,Value.oneCell']) λw10 aE t=>?_;have j:=aD (g.bel.trans (H.mono g.bel.size)) t oo
 have S:RB w10 a 91 c (evB e):=RV.oth3 (RV.below g.rb H oA) b t oo;have q:ET w w10 a c e [iv e.o,u6 e.s,u6 e.d0,u6 e.d1,u6 e.d2,u6 e.d3,u6 e.d4,u6 e.d5,kv8 0,u6 0,iv 0,iv 0,u6 0,u6 0] 9:=⟨t.blk (ae H g.bb g.bb.lt) oo,aE,t.blk (ae H g.bn g.bn.lt) oo,S,b,j⟩
 refine UE (lK (v:=ci ((9:Nat):Int)) q.bn rfl (aR oo oo (cq kf q.bn oB rfl λaz au u=>?_)));have aa:ET w az a c e [iv e.o,u6 e.s,u6 e.d0,u6 e.d1,u6 e.d2,u6 e.d3,u6 e.d4,u6 e.d5,kv8 0,u6 0,iv 0,iv 0,u6 0,u6 0] 57:=⟨u.blk q.bb oo,u.blk q.be oo,au,RV.oth3 S b u oo,b,aD j u oo⟩
 have pl:∀{r:List (Nat×Nat)},(eE ((e.o.toNat,1)::(e.s.toNat,8)::km e.V++r)).length=57+(eE r).length:=λ{r} => by
  rw[HV,oT];simp[eE,km,EV.V,bE]
 refine Pj 8 1 aa rfl (.inl rfl) oo oo rfl (by simp[FN,km,EV.V,eE,bE]) (pos':=58) rfl λaH ab=>dE underlying36 underlying5 ?_;rw[show IntKind.u8.wrap e.k=e.k by rw[Ri];omega];refine Pj 9 8 ab rfl (.inr rfl) n0 oo rfl (by simp[FN,km,EV.V,eE,bE]) (pos':=66) rfl λaI ad=>?_
 refine Pj 10 1 ad rfl (.inl rfl) ht.1 oo rfl (by simp[FN,km,EV.V,eE,bE]) (pos':=67) rfl λaJ af=>zeG underlying3 ht.1 oo ?_;refine Ea (Pk (f:=8) af kf oB rfl λaK ag=>pY (Pk (f:=9) ag kf oB rfl λaM ah=>yN (Pk (f:=10) ah kf oB rfl λaN ai=>?_)))
 refine Pj 11 8 ai rfl (.inr rfl) ha.1 oo rfl (by simp[FN,km,EV.V,eE,bE]) (pos':=75) rfl λaO ak=>zeG underlying2 ha.1 oo ?_;refine Pj 12 8 ak rfl (.inr rfl) r0 oo rfl (by simp[FN,km,EV.V,eE,bE]) (pos':=83) rfl λaP al=>?_;refine Pj 13 8 al rfl (.inr rfl) f0 oo rfl (by simp[FN,km,EV.V,eE,bE]) (pos':=91) rfl λaQ am=>?_
 refine sX (Pk (f:=11) am kf oB rfl λaS an=>wO (Pk (f:=12) an kf oB rfl λaT ao=>Eb (Pk (f:=13) ao kf oB rfl λaC p=>?_)));have D:blk aC (w.heap.size+1) 54 (evC e):=p.be;refine UF (aZ (df oB (dh D (Fg λaU A=>bc (bw oB ?_)))));rw[E];have P:=ae A D D.lt
 have L:=ae A p.bn p.bn.lt;have B:=p.bel.trans (A.mono p.bel.size);refine aA (aw (λy=>blk y (w.heap.size+1) 54 (evC e)/\blk y (w.heap.size+2) 3 [ci ((91:Nat):Int)]) ⟨P.drew,L.drew⟩ ?_);refine ac (v:=evV e) (λy d _ C=>dh d.1 C) (ac (v:=ci ((91:Nat):Int)) (λy d _ C=>lK d.2 rfl C) ?_);refine eX (e':=e) P.drew λaV R N=>?_
 have M:=N.blk L.drew oo;refine aB ⟨R,M⟩ (cq kf M oB rfl λw26 av O=>?_);have ay:=O.blk R oo;have Z:=aD (aD B.drew N oo) O oo;exact hRT (zjF (v:=evV e) (v2:=ci 91) (λ_ C=>dh ay C) (λ_ C=>lK (v:=ci 91) av rfl C) (h _ Z))
end
end
end Go.Proofs.YtpaghmnnhedccaaGreatDoor
