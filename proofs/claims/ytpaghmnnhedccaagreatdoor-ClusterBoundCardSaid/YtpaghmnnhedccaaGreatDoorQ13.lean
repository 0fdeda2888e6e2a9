import Derived.Test.YtpaghmnnhedccaaGreatDoorQ12
import Derived.Test.YtpaghmnnhedccaaGreatDoorQ11
set_option linter.all false
namespace Go.Proofs.YtpaghmnnhedccaaGreatDoor
set_option maxRecDepth 100000
set_option maxHeartbeats 4000000
open Go.Proofs.Tryz
open Go.RowKit
variable {w w' w2 S O:oG}{K:KV}{zf:Nat->oF}{b c o i g m s j f z d c2 D gc B' B2 hi:Nat}{a av a2:Option Addr}{x v r P0:Int}{E t e:TypeId}{A U0:List Int}{B1 N R:KE}{xs vs:oE}{cx cy:Bool}{α κ:Type}{T:List (Int×Int)}{X1 Z1 N2 O2 P2 Q2 R2 T2 U2 V2 X2 N3 O3 P3 Q3 H Z U Y J C:oF}
def FZ(c d a b:oF)(zf:oD):=zf 0::zf 1::c::zT zf 3 6 (d::a::b::zT zf 12 23 ([]))
def Ga(a:oF)(zf:oD):=zf 0::zf 1::a::zT zf 3 32 ([])
def lX(K:KV):KE:=kZ f31 [1,1] K
def vz(K:KV):KE:=ai Q (cd f31 [1,0,1,0]) (lX K) (xx xf (lX K) 0) (rk f31 K)
def Rt(h:lN 111 H (λZ=>vz K (FZ cN H Z (ci 0) (zV (zV zu 0 [H]) 3 [cF]))) w):Gives Q 31 #[H] w K:=au func31 kr (mpK h)
def Ot(Inv:oF->oF->oG->Prop)(μ:oF->oF->oG->Nat)(x:Inv Y U w)(y:∀(b a:oF) (v:oD) (w:oG) (m:Nat),Inv b a w->m=μ b a w ->
  lS a H (λd w=>cond d (aW Q 111 Z a (λc=>ld Q 101 c λd=>call Q 52 #[d,ci 0] λc=>ext Q c 0 λo=>ext Q c 1 λe=>ext Q c 2 λp=>alc Q 54 λu=>sto Q 54 u o λ_=>bT .neq 26 p (ci 0) λf w=>aM f false (λn=>lN 101 d (λg=>bF .neq 3 e g λq=>n [e,d,g,q]) w) (λk=>k [uu,uu,uu,uu] w) λl=>pick f cT (gd l 3) λr w=>cond r (K (.tuple #[cN,cF]) w) (ld Q 54 u (λs=>bM Q 30 1 #[(0,s)] λt=>blt Q .append #[30,30] 30 #[false,false] #[b,t] λi=>nC a λj w=>(Inv i j w)/\((μ i j w)<m)) w)) w) (lX K (Ga b (zV v 9 [Z,H,a,d])) w)) w):vz K (FZ Y Z H U zf) w:=by refine lW (cd f31 (b1 52)) [(2,2),(5,4),(11,23)] 2 11 zf x y ?_;intro z A;exact mpF
def Ou(h:K (.tuple #[H,cT]) w):lX K (Ga H zf) w:=mpK h
attribute [irreducible] lX vz
def Ly(d c b a:oF)(zf:oD):=zT zf 0 8 (d::c::b::a::zT zf 12 39 ([]))
def Lz(c b a:oF)(zf:oD):=c::b::a::zT zf 3 48 ([])
def zI(K:KV):KE:=ai Q (cd f19 (b1 63)) (rk f19 K) xf (rk f19 K)
abbrev O9(K:KV)(hA0:KE)(n0 i1 d2:oF)(w:oG):Prop :=
  bT .eql 66 d2 (.pointer none) (λa w=>cond a (K (.tuple #[.pointer none,ci 2]) w) (call Q 29 #[n0,i1] (λb=>ext Q b 0 λc=>ext Q b 1 λd=>bT .neq 26 d (ci 0) λe w=>cond e (K (.tuple #[.pointer none,d]) w) (call Q 30 #[d2] (λf=>ext Q f 0 λg=>ext Q f 1 λh=>ext Q f 2 λi=>hA0 (Ly c i g h (zV (zV (zV (zV zu 0 [n0,i1,d2]) 6 [.pointer none,ci 0]) 14 [d2,a,b,n0,i1,b,c,d,d,e]) 25 [f,d2,f,g,h,i]))) w)) w)) w
def Yb(a:Code)(h:O9 K (ai Q a (rk f19 K) (λ_ _ _=>False) (rk f19 K)) Z U H w):ai Q (rep (b1 63) a (cd f19 [])) (rk f19 K) xf (rk f19 K) (Lz Z U H zu) w:=Eq.mp kr h
def Wb(h:O9 K (zI K) Z U H w):Gives Q 19 #[Z,U,H] w K:=au func19 kr (Eq.mp (qH (λc=>ai Q c (rk f19 K) xf (rk f19 K) (Lz Z U H zu) w) (by kernel_rfl:(rep (b1 63) (cd f19 (b1 63)) (cd f19 []))=(cd f19 []))) (Yb (cd f19 (b1 63)) h))
def Sv(h:bT .neq 26 Z (ci 0) (λg w=>cond g (K (.tuple #[.pointer none,Z]) w) (call Q 31 #[Y] (λa=>ext Q a 0 λb=>ext Q a 1 λi=>un Q .not i λc w=>aM c false (λf=>call Q 32 #[H,b] (λd=>bT .neq 26 d (ci 0) λj=>f [H,b,d,j]) w) (λk=>k [uu,uu,uu,uu] w) λe=>pick c cT (gd e 3) λl w=>cond l (K (.tuple #[.pointer none,ci 5]) w) (bld Q 118 #[(0,H),(1,U)] (λm=>box Q 118 m λn=>K (.tuple #[n,ci 0])) w)) w)) w):zI K (Ly H Z U Y zf) w:=mpK h
attribute [irreducible] zI
def HU(h:bT .eql 67 H (.pointer none) (λd w=>cond d (K (ci 2) w) (aU H (λa=>ao Q 118 a 2 λb=>ld Q 4 b λc w=>cond c (K (ci 8) w) (bA Q Z #[] K w)) w)) w):Gives Q 195 #[H,Z] w K:=au func195 kr (mpK h)
def Ao(c a b t13 t14:oF)(zf:oD):=c::zT zf 1 4 (a::zT zf 6 6 (b::t13::t14::zT zf 15 21 ([])))
def Ap(b a:oF)(zf:oD):=b::zT zf 1 4 (a::zT zf 6 30 ([]))
def gT(K:KV):KE:=kZ f198 [1,1,1,1] K
def pG(K:KV):KE:=ai Q (cd f198 (b1 122)) (gT K) (xx xf (gT K) 0) (rk f198 K)
def Jy(h:lN 30 H (λa=>bT .eql 3 a (ci 0) λb w=>cond b (K (ci 0) w) (lN 30 H (λZ=>pG K (Ao U cN H Z (ci 0) (zV (zV (zV zu 1 [H]) 4 [ci 0]) 9 [H,a,b]))) w)) w):Gives Q 198 #[U,H] w K:=au func198 kr (mpK h)
def Gw(Inv:oF->oF->oG->Prop)(μ:oF->oF->oG->Nat)(n:Inv J U w)(o:∀(a b:oF) (l:oD) (w:oG) (m:Nat),Inv a b w->m=μ a b w ->
  lS b Z (λc w=>cond c (aW Q 30 H b (λe=>ld Q 54 e λf=>alc Q 54 λk=>sto Q 54 k f λ_=>ld Q 54 k λg=>call Q 216 #[g] λi=>bM Q 111 1 #[(0,i)] λj=>blt Q .append #[111,111] 111 #[false,false] #[a,j] λc=>nC b λd w=>(Inv c d w)/\((μ c d w)<m)) w) (gT K (Ap Y a (zV l 12 [H,Z,b,c])) w)) w):pG K (Ao Y J H Z U zf) w:=by refine lW (cd f198 (b1 244)) [(5,1),(7,1),(14,10)] 5 14 zf n o ?_;intro p q;exact mpF
def Gx(h:aU H (λb=>ao Q 118 b 1 λc=>ld Q 110 c λd=>call Q 217 #[d,Z] λa=>bT .neq 26 a (ci 0) λe=>aU H λf=>ao Q 118 f 2 λg=>sto Q 4 g e λ_=>K a) w):gT K (Ap H Z zf) w:=mpK h
attribute [irreducible] gT pG
def Lx(h:box Q 67 Z (λc=>box Q 46 U λf=>box Q 36 H λb=>alc Q 54 λa=>ld Q 67 c λg=>call Q 195 #[g,.func (.func 196) #[] #[c,f,b,a]] λd=>ld Q 54 a λe=>sto Q 54 a e λ_=>aY Q [(some 54,a),(none,d)] K) w):Gives Q 184 #[Z,U,H] w K:=au func184 kr (mpK h)
def jm(c b d a:oF)(zf:oD):=zT zf 0 3 (c::b::d::zT zf 6 19 (a::zf 26::zf 27::[]))
def tX(a:oF)(zf:oD):=zT zf 0 4 (a::zT zf 5 23 ([]))
def gR(K:KV):KE:=kZ f196 [1,1,1,1] K
def eK(K:KV):KE:=ai Q (cd f196 (b1 123)) (gR K) xf (rk f196 K)
def Jw(h:aF (λS w=>hL S 67 Z λl=>hN S l λm=>hF S 118 m 0 λn=>hL S 107 n λi=>hL S 46 Y λj=>hL S 36 J λk=>(call Q 197 #[i,j,k] (λh=>aF λS w=>hld S (ext Q h 0) λo=>hld S (ext Q h 1) λp=>alc Q 54 (λH=>aX S λS=>sto Q 54 H o λ_=>aX S λ_=>ld Q 54 H λb=>bld Q 54 #[] λc=>bF .eql 54 b c λd w=>cond d (K p w) (ld Q 67 Z (λe=>ld Q 54 H λf=>bM Q 30 1 #[(0,f)] λg=>call Q 198 #[e,g] λa=>bT .eql 26 a (ci 0) λU=>eK K (jm C a H U (zV (zV (zV zu 0 [Z,Y,J]) 6 [h,l,m,n,i,j,k,h,o,p,b,c,d]) 20 [e,f,g,a,a]))) w)) w) w)/\(alc Q 54 (λH=>aX S λ_=>call Q 197 #[i,j,k] λh=>aF λS w=>hld S (ext Q h 0) λo=>hld S (ext Q h 1) λp=>sto Q 54 H o (λ_=>aX S λ_=>ld Q 54 H λb=>bld Q 54 #[] λc=>bF .eql 54 b c λd w=>cond d (K p w) (ld Q 67 Z (λe=>ld Q 54 H λf=>bM Q 30 1 #[(0,f)] λg=>call Q 198 #[e,g] λa=>bT .eql 26 a (ci 0) λU=>eK K (jm C a H U (zV (zV (zV zu 0 [Z,Y,J]) 6 [h,l,m,n,i,j,k,h,o,p,b,c,d]) 20 [e,f,g,a,a]))) w)) w) w)) w.drew):Gives Q 196 #[Z,Y,J,C] w K:=by refine au func196 kr <|rpT [1,1,1,0,1,1] (cd f196 (b1 123)) (cd f196 []) ?_;revert h;delta eK gR;generalize (cd f196 (b1 123))=xc0;exact mpF
def Gu(h:cond Z (ld Q 54 H (λa=>sto Q 54 U a λ_=>gR K (tX Y (zV (zV (zV zf 3 [U]) 5 [H]) 25 [Z,a]))) w) (gR K (tX Y (zV (zV (zV zf 3 [U]) 5 [H]) 25 [Z])) w)):eK K (jm U Y H Z zf) w:=by delta eK;revert h;exact mpF
def xX(h:K H w):gR K (tX H zf) w:=mpK h
attribute [irreducible] gR eK
def Am(h:box Q 67 Z (λb=>box Q 282 U λc=>box Q 36 H λa=>ld Q 67 b λd=>call Q 195 #[d,.func (.func 205) #[] #[b,c,a]] K) w):Gives Q 188 #[Z,U,H] w K:=au func188 kr (mpK h)
def xY(h:aF (λS w=>hL S 67 H λf=>hN S f λg=>hF S 118 g 0 λi=>hL S 107 i λa=>hL S 282 U λb=>hL S 36 Z λc=>call Q 206 #[a,b,c] (λa=>aF λS w=>hld S (ext Q a 0) λb=>hld S (ext Q a 1) λa=>bT .neq 26 a (ci 0) (λd w=>cond d (K a w) (ld Q 67 H (λe=>call Q 198 #[e,b] K) w)) w) w) w.drew):Gives Q 205 #[H,U,Z] w K:=au func205 kr (mpK h)
def HT(h:alc Q 42 (λa=>bT .eql 67 H (.pointer none) λb w=>cond b (bld Q 42 #[] (λc=>sto Q 42 a c λ_=>aY Q [(some 42,a)] K) w) (aU H (λd=>ao Q 118 d 0 λe=>ld Q 107 e λf=>call Q 35 #[f] λb=>sto Q 42 a b λ_=>aY Q [(some 42,a)] K) w)) w):Gives Q 22 #[H] w K:=au func22 kr (mpK h)
def Jv(h:bT .eql 67 H (.pointer none) (λb w=>aM b false (λd=>aU H (λb=>ao Q 118 b 2 λc=>ld Q 4 c λe=>d [H,b,c,e]) w) (λk=>k [uu,uu,uu,uu] w) λa=>pick b cT (gd a 3) K) w):Gives Q 34 #[H] w K:=au func34 kr (mpK h)
def yh(d a b c:oF)(zf:oD):=d::zT zf 1 9 (a::b::c::zT zf 13 10 ([]))
def yi(zf:oD):=zT zf 0 23 ([])
def fV(K:KV):KE:=kZ f32 [1,1,1] K
def nW(K:KV):KE:=ai Q (cd f32 (b1 58)) (fV K) (xx xf (fV K) 0) (rk f32 K)
def Hb(h:bT .eql 107 H (.pointer none) (λa w=>cond a (K (ci 2) w) (lN 30 Z (λU=>nW K (yh H Z U (ci 0) (zV (zV (zV zu 1 [Z]) 4 [ci 0]) 8 [H,a]))) w)) w):Gives Q 32 #[H,Z] w K:=au func32 kr (mpK h)
def Fi(Inv:oF->oG->Prop)(μ:oF->oG->Nat)(i:Inv Y w)(j:∀(a:oF) (g:oD) (w:oG) (m:Nat),Inv a w->m=μ a w ->
  lS a H (λb w=>cond b (aW Q 30 U a (λb=>ld Q 54 b λb=>alc Q 54 λf=>sto Q 54 f b λ_=>ld Q 54 f λd=>call Q 53 #[Z,d] λb=>bT .neq 26 b (ci 0) λe w=>cond e (K b w) (nC a (λc w=>(Inv c w)/\((μ c w)<m)) w)) w) (fV K (yi (zV (zV g 0 [Z]) 10 [U,H,a,b])) w)) w):nW K (yh Z U H Y zf) w:=by refine lV (cd f32 (b1 116)) [(4,1),(6,2),(12,11)] 12 zf i j ?_;intro k l;exact mpF
def Fj(h:K (ci 0) w):fV K (yi zf) w:=mpK h
attribute [irreducible] fV nW
def aQ(e b c f a d C5 C6 C7 F0 F1 F2 H9 I0 I1:oF)(zf:oD):=e::b::zf 2::zf 3::c::f::a::zf 7::d::zT zf 9 25 (C5::C6::C7::zT zf 37 25 (F0::F1::F2::zT zf 65 36 (H9::I0::I1::zT zf 104 42 ([]))))
def fP(K:KV):KE:=kZ f200 (b1 127) K
def ug(K:KV):KE:=ai Q (cd f200 (b1 506)) (fP K) (xx xf (fP K) 0) (rk f200 K)
def gY(K:KV)(B1:KE):KE:=kY f200 (b1 8103) B1 (xx xf (fP K) 0) K
def lP(K:KV)(B1:KE):KE:=ai Q (cd f200 (b1 8102)) (gY K B1) (xx xf (fP K) 0) (rk f200 K)
def eR(K:KV):KE:=kZ f200 (b1 255) K
def pN(K:KV):KE:=ai Q (cd f200 (b1 1018)) (eR K) (xx xf (eR K) 2) (rk f200 K)
def gZ(K:KV)(B1:KE):KE:=kY f200 (b1 16295) B1 (xx xf (eR K) 2) K
def lQ(K:KV)(B1:KE):KE:=ai Q (cd f200 (b1 16294)) (gZ K B1) (xx xf (eR K) 2) (rk f200 K)
def eU(K:KV):KE:=kZ f200 (b1 511) K
def pO(K:KV):KE:=ai Q (cd f200 (b1 2042)) (eU K) (xx xf (eU K) 4) (rk f200 K)
def hJ(K:KV)(B1:KE):KE:=kY f200 (b1 32679) B1 (xx xf (eU K) 4) K
def lT(K:KV)(B1:KE):KE:=ai Q (cd f200 (b1 32678)) (hJ K B1) (xx xf (eU K) 4) (rk f200 K)
abbrev B9(K:KV)(hA0:KE)(r0 now1:oF)(w:oG):Prop :=
  bT .eql 107 r0 (.pointer none) (λa w=>cond a (K cN w) (aU r0 (λb=>ao Q 133 b 1 λc=>ld Q 121 c λd=>call Q 54 #[d] λe=>alc Q 42 λf=>sto Q 42 f e λ_=>ld Q 42 f λg=>call Q 209 #[g] λh=>aU r0 λi=>ao Q 133 i 0 λj=>ld Q 3 j λk=>call Q 210 #[h,k] λl=>un Q .not l λm w=>cond m (K cN w) (aU r0 (λn=>ao Q 133 n 5 λo=>ld Q 130 o λp=>call Q 218 #[p] λr=>lN 324 r λs=>hA0 (aQ r0 now1 cN f h uu r s (ci 0) uu uu uu uu uu uu (zV zu 14 [r0,a,r0,b,c,d,e,g,h,h,r0,i,j,k,l,m,r0,n,o,p]))) w)) w)) w
def Lh(h:B9 K (ai Q (cd f200 (b1 506)) (ai Q (cd f200 (b1 127)) (rk f200 K) (λ_ _ _=>False) (rk f200 K)) (λi=>@Bool.rec (λ_=>KE) ((λ_ _ _=>False) i) (ai Q (cd f200 (b1 127)) (rk f200 K) (λ_ _ _=>False) (rk f200 K)) (Nat.beq i 0)) (rk f200 K)) H Z w):ai Q (cd f200 []) (rk f200 K) xf (rk f200 K) (aQ H Z uu uu uu uu uu uu uu uu uu uu uu uu uu zu) w:=Eq.mp kr h
def JN(h:B9 K (ug K) H Z w):Gives Q 200 #[H,Z] w K:=au func200 kr (Eq.mp (qH (λc=>ai Q c (rk f200 K) xf (rk f200 K) (aQ H Z uu uu uu uu uu uu uu uu uu uu uu uu uu zu) w) (by kernel_rfl:(cd f200 [])=(cd f200 []))) (Lh h))
def Hf(Inv:oF->oG->Prop)(μ:oF->oG->Nat)(g:Inv U2 w)(j:∀(a:oF) (d:oD) (w:oG) (m:Nat),Inv a w->m=μ a w ->
  lS a H (λb w=>cond b (lP K (λb S=>(Inv (gd b 36) S)/\((μ (gd b 36) S)<m)) (aQ X1 Z1 Z Y C (d 8) R2 H a V2 X2 U J P3 Q3 (zV d 37 [b])) w) (fP K (aQ X1 Z1 Z Y C (d 8) R2 H a V2 X2 U J P3 Q3 (zV d 37 [b])) w)) w):ug K (aQ X1 Z1 Z Y C Q2 R2 H U2 V2 X2 U J P3 Q3 zf) w:=by refine dC (cd f200 (b1 1012)) (zr [(8,1),(36,26)]) kr (vP [36] Inv) (vQ [36] μ) g ?_;intro e f i;have h:=j _ (zM zf (gd e) (zr [(8,1),(36,26)])) f _ i rfl;refine Eq.mp (qH (λc=>ai Q c _ _ _ _ f) (by kernel_rfl:(rep [1,1,0] (cd f200 (b1 8102)) (cd f200 (b1 1012)))=(cd f200 (b1 1012)))) ?_;revert h;delta lP gY;generalize (cd f200 (b1 8102))=xc0;exact mpF
def Hc(h:aW Q 324 U Y (λa=>ld Q 290 a λb=>alc Q 290 λZ=>sto Q 290 Z b λ_ w=>aF (λS w=>hN S H λc=>hF S 133 c 1 λd=>hL S 121 d λe=>hN S H λf=>hF S 133 f 0 λg=>hL S 3 g λh=>hF S 290 Z 0 λi=>hL S 36 i λj=>hF S 290 Z 1 λk=>hL S 2 k λl=>call Q 164 #[e,h,j] (λm=>aX S λS w=>hld S (bF .geq 2 m l) λn=>cond n (aF (λS w=>hN S H λo=>hF S 133 o 5 λp=>hL S 130 p λr=>hF S 290 Z 0 λs=>hL S 36 s λt=>call Q 168 #[r,t] (λu=>gY K B1 (aQ H Z1 J O2 P2 Z U T2 Y V2 X2 C O3 P3 Q3 (zV zf 38 [a,b,H,c,d,e,H,f,g,h,i,j,m,k,l,n,H,o,p,r,s,t,u]))) w) w.drew) (gY K B1 (aQ H Z1 J O2 P2 Z U T2 Y V2 X2 C O3 P3 Q3 (zV zf 38 [a,b,H,c,d,e,H,f,g,h,i,j,m,k,l,n])) w)) w) w.drew) w):lP K B1 (aQ H Z1 J O2 P2 Z U T2 Y V2 X2 C O3 P3 Q3 zf) w:=by delta lP;revert h;exact mpF
def Hi(h:lN 47 H (λZ=>pN K (aQ X1 Z1 U Y H Q2 R2 T2 U2 H Z (ci 0) J C Q3 zf)) w):fP K (aQ X1 Z1 U Y H Q2 R2 T2 U2 V2 Z N3 J C Q3 zf) w:=mpK h
def yj(h:nC U2 (λa=>B1 (aQ X1 Z1 H U J Q2 R2 T2 a V2 X2 Z Y C Q3 (zV zf 61 [a]))) w):gY K B1 (aQ X1 Z1 H U J Q2 R2 T2 U2 V2 X2 Z Y C Q3 zf) w:=by delta gY;revert h;exact mpF
def Hg(Inv:oF->oF->oG->Prop)(μ:oF->oF->oG->Nat)(i:Inv N2 N3 w)(k:∀(a b:oF) (f:oD) (w:oG) (m:Nat),Inv a b w->m=μ a b w ->
  lS b H (λc w=>cond c (lQ K (λd S=>(Inv (gd d 4) (gd d 64) S)/\((μ (gd d 4) (gd d 64) S)<m)) (aQ X1 Z1 a Z Y C R2 T2 U2 V2 H b U J Q3 (zV f 65 [c])) w) (eR K (aQ X1 Z1 a Z Y C R2 T2 U2 V2 H b U J Q3 (zV f 65 [c])) w)) w):pN K (aQ X1 Z1 N2 Z Y C R2 T2 U2 V2 H N3 U J Q3 zf) w:=by
 refine dC (cd f200 (b1 2036)) (zr [(4,1),(10,1),(64,32)]) kr (vP [4,64] Inv) (vQ [4,64] μ) i ?_;intro e g j;have h:=k _ _ (zM zf (gd e) (zr [(4,1),(10,1),(64,32)])) g _ j rfl;refine Eq.mp (qH (λc=>ai Q c _ _ _ _ g) (by kernel_rfl:(rep [1,1,0] (cd f200 (b1 16294)) (cd f200 (b1 2036)))=(cd f200 (b1 2036)))) ?_;revert h;delta lQ gZ;generalize (cd f200 (b1 16294))=xc0
 exact mpF
def Hd(h:aW Q 47 J U (λa=>ld Q 3 a λb=>aU H λc=>ao Q 133 c 0 λd=>ld Q 3 d λe=>bF .neq 3 b e λf w=>cond f (aF (λS w=>hN S H λg=>hF S 133 g 0 λh=>hL S 3 h λi=>hF S 42 Y 2 λj=>hL S 38 j λk=>hN S H λl=>hF S 133 l 4 λm=>hL S 128 m λn=>hN S H λo=>hF S 133 o 2 λp=>hL S 124 p λr=>call Q 219 #[n,b,r,ci 16] (λs=>aX S λS w=>hld S (bld Q 282 #[(0,cb 1),(1,i),(2,b),(3,k),(4,s)]) λt=>bM Q 97 1 #[(0,t)] (λu=>aF λ_=>blt Q .append #[97,97] 97 #[false,false] #[Z,u] λv=>aF λ_=>gZ K B1 (aQ H Z1 v Y P2 Q2 R2 T2 U2 J X2 U C P3 Q3 (zV (zV zf 10 [b]) 66 [a,b,b,H,c,d,e,f,Z,H,g,h,i,b,j,k,H,l,m,n,b,H,o,p,r,s,t,u,v]))) w) w) w.drew) (gZ K B1 (aQ H Z1 Z Y P2 Q2 R2 T2 U2 J X2 U C P3 Q3 (zV (zV zf 10 [b]) 66 [a,b,b,H,c,d,e,f])) w)) w):lQ K B1 (aQ H Z1 Z Y P2 Q2 R2 T2 U2 J X2 U C P3 Q3 zf) w:=by delta lQ;revert h;exact mpF
def Hj(h:aU Z (λa=>ao Q 133 a 5 λb=>ld Q 130 b λc=>call Q 220 #[c,U] λH=>lN 324 H λY=>pO K (aQ Z U J O2 P2 Q2 R2 T2 U2 V2 X2 C H Y (ci 0) (zV zf 96 [Z,a,b,c,U]))) w):eR K (aQ Z U J O2 P2 Q2 R2 T2 U2 V2 X2 C H Y Q3 zf) w:=mpK h
def yk(h:nC Z (λa=>B1 (aQ X1 Z1 H U J Q2 R2 T2 U2 V2 X2 a Y C Q3 (zV zf 95 [a]))) w):gZ K B1 (aQ X1 Z1 H U J Q2 R2 T2 U2 V2 X2 Z Y C Q3 zf) w:=by delta gZ;revert h;exact mpF
def Hh(Inv:oF->oF->oG->Prop)(μ:oF->oF->oG->Nat)(i:Inv N2 Q3 w)(k:∀(a b:oF) (f:oD) (w:oG) (m:Nat),Inv a b w->m=μ a b w ->
  lS b H (λc w=>cond c (lT K (λd S=>(Inv (gd d 4) (gd d 103) S)/\((μ (gd d 4) (gd d 103) S)<m)) (aQ X1 Z1 a U J C R2 T2 U2 V2 X2 Z Y H b (zV f 104 [c])) w) (eU K (aQ X1 Z1 a U J C R2 T2 U2 V2 X2 Z Y H b (zV f 104 [c])) w)) w):pO K (aQ X1 Z1 N2 U J C R2 T2 U2 V2 X2 Z Y H Q3 zf) w:=by
 refine dC (cd f200 (b1 4084)) (zr [(4,1),(12,2),(103,42)]) kr (vP [4,103] Inv) (vQ [4,103] μ) i ?_;intro e g j;have h:=k _ _ (zM zf (gd e) (zr [(4,1),(12,2),(103,42)])) g _ j rfl;refine Eq.mp (qH (λc=>ai Q c _ _ _ _ g) (by kernel_rfl:(rep [1,1,0] (cd f200 (b1 32678)) (cd f200 (b1 4084)))=(cd f200 (b1 4084)))) ?_;revert h;delta lT hJ
 generalize (cd f200 (b1 32678))=xc0;exact mpF
def He(h:aW Q 324 Y J (λb=>ld Q 290 b λc=>alc Q 290 λa=>sto Q 290 a c λ_ w=>aF (λS w=>hL S 42 Z λd=>hN S H λe=>hF S 133 e 0 λf=>hL S 3 f λg=>hF S 290 a 0 λh=>hL S 36 h λi=>call Q 221 #[d,g,i] (λj=>aF λ_=>bT .neq 3 j (ci 0) λk w=>cond k (aF (λS w=>hN S H λl=>hF S 133 l 0 λm=>hL S 3 m λn=>hF S 42 Z 2 λo=>hL S 38 o λp=>hF S 290 a 0 λr=>hL S 36 r λs=>hF S 290 a 1 λt=>hL S 2 t λu=>hN S H λv=>hF S 133 v 1 λx=>hL S 121 x λy=>hN S H λz=>hF S 133 z 0 λA=>hL S 3 A λB=>hF S 290 a 0 λD=>hL S 36 D λE=>call Q 164 #[y,B,E] (λF=>aX S λS w=>hld (λ_=>True) (bF .sub 2 u F) λG=>hld S (bld Q 282 #[(0,cb 2),(1,n),(2,j),(3,p),(5,s),(6,G)]) λI=>bM Q 97 1 #[(0,I)] (λw=>aF λ_=>blt Q .append #[97,97] 97 #[false,false] #[U,w] λL=>aF λ_=>hJ K B1 (aQ H Z1 L Z P2 Q2 R2 T2 U2 V2 X2 C Y P3 J (zV (zV zf 12 [a,j]) 105 [b,c,d,H,e,f,g,h,i,j,j,k,U,H,l,m,n,j,o,p,r,s,t,u,H,v,x,y,H,z,A,B,D,E,F,G,I,w,L]))) w) w) w.drew) (hJ K B1 (aQ H Z1 U Z P2 Q2 R2 T2 U2 V2 X2 C Y P3 J (zV (zV zf 12 [a,j]) 105 [b,c,d,H,e,f,g,h,i,j,j,k])) w)) w) w.drew) w):lT K B1 (aQ H Z1 U Z P2 Q2 R2 T2 U2 V2 X2 C Y P3 J zf) w:=by delta lT;revert h;exact mpF
def Hk(h:K H w):eU K (aQ X1 Z1 H U J Q2 R2 T2 U2 V2 X2 Z Y C Q3 zf) w:=mpK h
def yl(h:nC Q3 (λa=>B1 (aQ X1 Z1 H U J Q2 R2 T2 U2 V2 X2 Z Y C a (zV zf 144 [a]))) w):hJ K B1 (aQ X1 Z1 H U J Q2 R2 T2 U2 V2 X2 Z Y C Q3 zf) w:=by delta hJ;revert h;exact mpF
attribute [irreducible] fP ug gY lP eR pN gZ lQ eU pO hJ lT
def FT(h:call Q 229 #[H,Z] (λa=>bT .geq 3 a (ci 0) K) w):Gives Q 210 #[H,Z] w K:=au func210 kr (mpK h)
def qx(s0 c b a A0 A1:oF)(zf:oD):=s0::c::b::zf 3::zf 4::a::zf 6::A0::A1::zT zf 9 10 ([])
def hU(K:KV):KE:=kZ f229 [1,1] K
def pP(K:KV):KE:=ai Q (cd f229 [1,0,1,0]) (hU K) (xx xf (hU K) 0) (rk f229 K)
def JP(h:lN 47 H (λZ=>pP K (qx H U uu uu Z (ci 0) (zV (zV zu 4 [ci 0]) 6 [H]))) w):Gives Q 229 #[H,U] w K:=au func229 kr (mpK h)
def Hm(Inv:oF->oG->Prop)(μ:oF->oG->Nat)(c:Inv J w)(d:∀(a:oF) (b:oD) (w:oG) (m:Nat),Inv a w->m=μ a w ->
  lS a H (λc w=>cond c (aW Q 47 Z a (λb=>ld Q 3 b λb=>bF .eql 3 U b λb w=>cond b (K a w) (nC a (λa w=>(Inv a w)/\((μ a w)<m)) w)) w) (hU K (qx Z U Y (b 5) H a (zV b 9 [c])) w)) w):pP K (qx Z U Y C H J zf) w:=by refine lV (cd f229 (b1 52)) [(4,2),(8,11)] 8 zf c d ?_;intro e f;exact mpF
def Hn(h:K (ci (-1)) w):hU K (qx J C H Z U Y zf) w:=mpK h
attribute [irreducible] hU pP
def Gg(a2 a b:oF)(zf:oD):=zf 0::zf 1::a2::a::zf 4::b::zT zf 6 74 ([])
def Gh(a2 a:oF)(zf:oD):=zf 0::zf 1::a2::a::zT zf 4 76 ([])
def Gi(a2 a b:oF)(zf:oD):=zf 0::zf 1::a2::a::zf 4::zf 5::b::zT zf 7 73 ([])
def Gj(zf:oD):=zT zf 0 80 ([])
def me(K:KV):KE:=kZ f15 [1,1,1] K
def vD(K:KV):KE:=ai Q (cd f15 (b1 58)) (me K) (xx xf (me K) 0) (rk f15 K)
def mf(K:KV):KE:=kZ f15 [1,1,1,1] K
def vE(K:KV):KE:=ai Q (cd f15 (b1 122)) (mf K) (xx xf (mf K) 2) (rk f15 K)
def RE(h:box Q 42 Y (λZ=>box Q 42 O2 λU=>ao Q 42 Z 0 λN=>ld Q 35 N λO=>ao Q 42 U 0 λP=>ld Q 35 P λj=>bF .neq 35 O j λe w=>aM e false (λE=>ao Q 42 Z 1 (λa=>ld Q 35 a λb=>ao Q 42 U 1 λc=>ld Q 35 c λl=>bF .neq 35 b l λI=>E [a,b,c,l,I]) w) (λk=>k [uu,uu,uu,uu,uu] w) λc=>pick e cT (gd c 4) λf w=>aM f false (λF=>ao Q 42 Z 2 (λm=>ld Q 38 m λn=>ao Q 42 U 2 λo=>ld Q 38 o λp=>bF .neq 38 n p λJ=>F [m,n,o,p,J]) w) (λk=>k [uu,uu,uu,uu,uu] w) λd=>pick f cT (gd d 4) λg w=>aM g false (λG=>ao Q 42 Z 3 (λq=>ld Q 39 q λr=>lN 39 r λs=>ao Q 42 U 3 λt=>ld Q 39 t λu=>lN 39 u λv=>bF .neq 3 s v λL=>G [q,r,s,t,u,v,L]) w) (λk=>k [uu,uu,uu,uu,uu,uu,uu] w) λa=>pick g cT (gd a 6) λi w=>aM i false (λH=>ao Q 42 Z 4 (λx=>ld Q 40 x λy=>lN 40 y λz=>ao Q 42 U 4 λA=>ld Q 40 A λB=>lN 40 B λC=>bF .neq 3 z C λM=>H [x,y,z,A,B,C,M]) w) (λk=>k [uu,uu,uu,uu,uu,uu,uu] w) λb=>pick i cT (gd b 6) λD w=>cond D (K cF w) (vD K (Gg Z U (ci 0) (zV (zV (zV zu 0 [Y,O2]) 4 [cF]) 7 [N,O,P,j,e,e,gd c 0,gd c 1,gd c 2,gd c 3,gd c 4,f,f,gd d 0,gd d 1,gd d 2,gd d 3,gd d 4,g,g,gd a 0,gd a 1,gd a 2,gd a 3,gd a 4,gd a 5,gd a 6,i,i,gd b 0,gd b 1,gd b 2,gd b 3,gd b 4,gd b 5,gd b 6,D])) w)) w):Gives Q 15 #[Y,O2] w K:=au func15 kr (mpK h)
def OA(Inv:oF->oG->Prop)(μ:oF->oG->Nat)(s:Inv U w)(t:∀(a:oF) (r:oD) (w:oG) (m:Nat),Inv a w->m=μ a w ->
  ao Q 42 H 3 (λb=>ld Q 39 b λc=>lN 39 c λd=>lS a d λe w=>cond e (sF 42 H 3 (λg=>sL 39 g λi=>sI 39 i a λj=>sL 83 j λk=>sF 42 Z 3 λl=>sL 39 l λn=>sI 39 n a λo=>sL 83 o λp=>sti (bF .neq 83 k p) λq w=>cond q (K cF w) (nC a (λf w=>(Inv f w)/\((μ f w)<m)) w)) w.drew) (me K (Gh H Z (zV (zV r 5 [a]) 44 [a,b,c,d,e])) w)) w):vD K (Gg H Z U zf) w:=by refine lV (cd f15 (b1 116)) [(4,2),(44,18)] 5 zf s t ?_;intro u v;exact mpF
def OD(h:vE K (Gi H Z (ci 0) zf) w):me K (Gh H Z zf) w:=mpK h
def OC(Inv:oF->oG->Prop)(μ:oF->oG->Nat)(s:Inv U w)(t:∀(a:oF) (r:oD) (w:oG) (m:Nat),Inv a w->m=μ a w ->
  ao Q 42 H 4 (λb=>ld Q 40 b λc=>lN 40 c λd=>lS a d λe w=>cond e (sF 42 H 4 (λg=>sL 40 g λi=>sI 40 i a λj=>sL 96 j λk=>sF 42 Z 4 λl=>sL 40 l λn=>sI 40 n a λo=>sL 96 o λp=>sti (bF .neq 96 k p) λq w=>cond q (K cF w) (nC a (λf w=>(Inv f w)/\((μ f w)<m)) w)) w.drew) (mf K (Gj (zV (zV (zV r 2 [H,Z]) 6 [a]) 62 [a,b,c,d,e])) w)) w):vE K (Gi H Z U zf) w:=by refine lV (cd f15 (b1 244)) [(4,1),(6,1),(62,18)] 6 zf s t ?_;intro u v;exact mpF
def OE(h:K cT w):mf K (Gj zf) w:=mpK h
attribute [irreducible] me vD mf vE
section
attribute [local irreducible] bin un conv call bA blt slc ao fld aW idx lkp fk mW eSt rng nxt ent ext alc box bld bM ld sto aU fl mkS ifc pick rdy wts aM sti cond aY Gives ai iy ke cOp
def JK(w:oG)(p q:Nat)(f:List UInt8)(fu:Int):Prop:=DK w p ⟨f,.no,false,fu⟩/\blk w q 143 [ptr p,ci (f.length:Nat),.bool false]
def dec(fu:Int):Int:=if fu<0 then fu else fu-1
def ziM(h:x≠1):dec x≠0:=by unfold dec;split<;>omega
def zcT{D:DS}(h:D.fu=0):oe D=(true, {D with off:=true,fu := -1}):=by simp[oe,h]
def YM{D:DS}(h:D.fu≠0):oe D=(false, {D with fu:=dec D.fu}):=by unfold oe dec;rw[oI h];split<;>rfl
def OBB.mono{B:Nat}{n:Nat}{vs:List (Option Addr×Nat×Nat)}{L:List (List UInt8)}(h:OBB w B a n c vs L)(b:B'<=B):OBB w B' a n c vs L :=
 ⟨OV.mono h.row b,h.len,λi v l e d=>OV.mono (h.each i v l e d) b⟩
def zjo{B:Nat}{F:List Nat}{n:Nat}{vs:List (Option Addr×Nat×Nat)}{L:List (List UInt8)}(h:OBB w B a n c vs L)(f:Ch F w S)(hF:∀k,B<=k->k∉F):OBB S B a n c vs L :=
 ⟨cn h.row λk b=>f.block k (jT h.row k b).2 (hF k (jT h.row k b).1),h.len,λi v l e d=>cn (h.each i v l e d) λk b=>f.block k (jT (h.each i v l e d) k b).2 (hF k (jT (h.each i v l e d) k b).1)⟩
section
variable {p q:Nat}{f:List UInt8}{fu:Int}{F:List Nat}{D:DS}
def JK.ch(h:JK w p q f fu)(a:Ch F w S)(b:noBy w F)(c:p∉F)(d:q∉F):JK S p q f fu:=⟨h.1.ch a b c,h.2.ch a d⟩
def JK.below(h:JK w p q f fu)(a:Below w.heap.size w S):JK S p q f fu:=⟨h.1.below a,ae a h.2 h.2.lt⟩
def Pq:fU Q 143 0 0 b o K w:=aJ kr
def Pr:fU Q 143 1 1 b o K w:=aJ kr
def Ps:fU Q 143 2 2 b o K w:=aJ kr
def Wx{cs:oE}(v:oF)(a:blk w b E cs)(c:cs[o]? = some v)(h:K v w):ld Q 3 (pA b o) K w:=lK a c h
def zhi{cs:oE}(v:oF)(a:blk w b E cs)(c:cs[o]? = some v)(h:K v w):ld Q 4 (pA b o) K w:=lK a c h
def El{cs:oE}(v:oF)(a:blk w b E cs)(c:cs[o]? = some v)(h:K v w):ld Q 66 (pA b o) K w:=lK a c h
def zbk{cs:oE}(v:oF)(a:blk w b E cs)(c:cs[o]? = some v)(h:K v w):ld Q 110 (pA b o) K w:=lK a c h
def zbl{cs:oE}(v:oF)(a:blk w b E cs)(c:cs[o]? = some v)(h:K v w):ld Q 101 (pA b o) K w:=lK a c h
abbrev TFN:TypeId:=140
def zbg:(Tryz.prog.info? TFN).map (λi=>(i.zero,i.size,i.bytes))=some (some .nilFunc,1,8):=by kernel_rfl
def zd4{St:Nat->oG->Prop}{Er:oG->Prop}{n:Nat}(b:∀i w,St i w->OV w B' TFN a n c xs)(e:∀i v,xs[i]? = some v->∀(w:oG) (K:KV),St i w->(∀S,St (i+1) S->K (ci 0) S)->(∀S,Er S->K (ci 8) S)->bA Q v #[] K w)(k:St 0 w)(hN:n<=1000)(h:∀S,St n S->K (ci 0) S)(q:∀S,Er S->K (ci 8) S):call Q 44 #[.slice a n c] K w:=by
 have x:xs.length=n:=RV.len (b _ _ k).rv;refine aj (goK func44) (UV ?_);refine bv underlying175 <|RA (Inv:=λi t=>∃j:Nat,j<=n/\i=ci (j:Nat)/\St j t) (μ:=λi _=>n-(intOf i).toNat) ⟨0,by omega,rfl,k⟩ ?_;rintro _ _ o m ⟨j,u,rfl,f⟩ s;by_cases r:j<n
 ·(repeat (first|refine aL ?_|refine ay oo ?_))
  have l:xs[j]? = some xs[j]:=gE oo;refine zf1 underlying175 kf (b _ _ f).rv oo (v:=xs[j]) (by rw[oQ];exact l) ?_;intro d;refine vS kf d (e j _ l o _ f (λp g=>?_) λp g=>?_)
  ·(repeat (first|refine aZ ?_|refine aR oo oo ?_|refine aA ?_))
   exact⟨⟨j+1,by omega,by simp,g⟩,by rw[s];simp only[intOf];omega⟩
  ·(repeat (first|refine aZ ?_|refine aV ?_))
   exact q p g
 obtain rfl:j=n:=by omega
 (repeat (first|refine RC ?_|refine aL ?_|refine ax oo ?_))
 exact h o f
def zfd(d:DK w p D)(e:D.off=false)(h:nX w (K (ci 0))):call Q 48 #[ptr p] K w:=by
 refine aj (goK func48) (T9 ?_);refine zhH d e λa c f b=>?_
 (repeat (first|refine aT ?_|refine aZ ?_|refine bo ?_|refine bj ?_|refine wW ?_|refine bZ ?_|refine aV ?_|refine fF ?_))
 exact h f b
def zjt{L:List (List UInt8)}(X:DK w p ⟨f,.no,false, -1⟩)(hL:tU f=(L,b))(ab:b<=f.length)(h:∀w' q a n c vs,Ch [p] w w'->OBB w' w.heap.size a n c vs L->DK w' p ⟨f.take b,.no,false, -1⟩->blk w' q 143 [ptr p,ci (b:Nat),.bool false]->w.heap.size<=q->K (.tuple #[ptr q,.slice a n c,ci 0]) w'):call Q 30 #[ptr p] K w:=by
 refine aj (goK func30) (UU ?_);refine bu ?_;intro w1 m b1 _;have m:blk w1 w.heap.size 66 [ptr p]:=m
 (repeat (first|(refine El ?_ (by assumption) ?_ ?_;rotate_left;exact rfl)))
 refine zhG (X.below b1) rfl ?_;intro a n c D Z b2;have hn:=Z.len;have ai:f.length<=4194304:=X.len;have hn:f.length=n:=hn;have Z:OB D w1.heap.size a n c f:=Z;have hp:((a,n,c):Option Addr×Nat×Nat).2.1=n:=rfl;have S:=ae b2 m m.lt
 (repeat (first|refine bo ?_|refine bj ?_))
 refine bO (z:=.slice none 0 0) kr ?_;intro w3 t b3 S3;have t:blk w3 D.heap.size 101 [.slice none 0 0]:=t;refine cq kf t oB rfl ?_;intro w4 j o4;have j:blk w4 D.heap.size 101 [slv (a,n,c)]:=j;have o:=b3.trans o4.below;have S1:=b1.size;have S2:=b2.size;have S4:=o4.size;have T:=ae o S S.lt
 have aa:=(b1.trans (b2.mono S1)).trans (o.mono oo)
 (repeat (first|(refine zbl ?_ (by assumption) ?_ ?_;rotate_left;exact rfl)|refine aZ ?_|refine aA ?_))
 refine ziR (OB.below Z o oA).rb oo ?_;rw[hL];intro a5 n5 c5 af V L5 b5;have S5:=b5.size
 (repeat (first|refine bo ?_|refine bj ?_))
 refine bO (z:=ci 0) kr ?_;intro w6 x b6 S6;have x:blk w6 V.heap.size 3 [ci 0]:=x;refine cq kf x oB rfl ?_;intro w7 l o7;have l:blk w7 V.heap.size 3 [ci (b:Nat)]:=l;have S7:=o7.size;have J:=b6.trans o7.below;have r:=b5.trans (J.mono S5);have G:=aa.trans (r.mono oo);have U:=ae r T T.lt;have O:=ae r j j.lt
 (repeat (first|refine Rz ?_))
 obtain⟨i,hi,Y,ad,ah⟩:=info_parts zbg;refine zaW (vs:=[.func (.func 45) #[] #[ptr V.heap.size,ptr D.heap.size,ptr w.heap.size],.func (.func 47) #[] #[ptr w.heap.size],.func (.func 49) #[] #[ptr w.heap.size]]) rfl rfl underlying175 hi Y ad rfl oB oB (by simp[Value.cells]) ?_;intro g s;generalize (w7.alloc _)=w8 at g s |-;have S8:=s.size
 have H:=G.trans (s.mono oo);have d8:=X.below H;have ag:=X.lt;obtain⟨ds,ac⟩:=d8.blk;have z8:=ae s U U.lt;have y8:=ae s l l.lt;have x8:=ae s O O.lt;have A:∀{w':oG} {z:Nat} {E:TypeId} {cs:oE},Ch [p] w8 w'->blk w8 z E cs->E≠106->blk w' z E cs:=λe Y hE=>Y.ch e λu=>Y.ne ac hE (mS u)
 refine zd4 (Er:=λ_=>False) (St:=λi a => Ch [p] w8 a/\match i with|0=>DK a p ⟨f,.no,false, -1⟩|1=>DK a p ⟨f,if b=f.length then .no else .cut b,false, -1⟩|2=>DK a p ⟨f,if b=f.length then .no else .cut b,false, -1⟩|_=>DK a p ⟨f.take b,.no,false, -1⟩)
  (λ_ _ R=>cn g λk a=>R.1.block k (jT g k a).2 λu=>by have:=(jT g k a).1;have:=mS u;have:=G.size;omega) ?_ ⟨Ch.refl _ _,d8⟩ oB (λw9 s9=>?_) (λ_ u=>u.elim)
 .intro i v y w K R N _
  match i with
  | 0 =>
   simp only[qL,qD]at y;subst y;obtain⟨e,d⟩:=R;have h0:=A e z8 dc;have h1:=A e y8 dc;have h2:=A e x8 dc;refine bS rfl (aj (goK func45) (Rv ?_))
   (repeat (first|(refine Wx ?_ (by assumption) ?_ ?_;rotate_left;exact rfl)|(refine zbl ?_ (by assumption) ?_ ?_;rotate_left;exact rfl)|refine aT ?_|refine wW ?_))
   by_cases C:b=n
   ·(repeat (first|refine ay oo ?_))
    exact N w ⟨e,by show DK w p _;rw[oJ oo];exact d⟩
   ·(repeat (first|(refine Wx ?_ (by assumption) ?_ ?_;rotate_left;exact rfl)|(refine El ?_ (by assumption) ?_ ?_;rotate_left;exact rfl)|refine ax oo ?_))
    exact zkh d ab λw' d' c' => N w' ⟨e.trans c' λ_ h=>.inl h,by show DK w' p _;rw[oI oo];exact d'⟩
  | 1 =>
   simp only[qK,qL,qD]at y;subst y;obtain⟨e,d⟩:=R;have h0:=A e z8 dc;refine bS rfl (aj (goK func47) (Rx ?_))
   (repeat (first|(refine El ?_ (by assumption) ?_ ?_;rotate_left;exact rfl)))
   exact zfd d rfl λw' b' => N w' ⟨e.trans (Ch.of_below (F:=[]) b') (λ_ h=>by cases h),DK.below d b'⟩
  | 2 =>
   simp only[qK,qL,qD]at y;subst y;obtain⟨e,d⟩:=R;have d:DK w p ⟨f,if b=f.length then .no else .cut b,false, -1⟩:=d;have h0:=A e z8 dc;refine bS rfl (aj (goK func49) (Ry ?_))
   (repeat (first|(refine El ?_ (by assumption) ?_ ?_;rotate_left;exact rfl)))
   refine zhm d ?_;by_cases C:b=f.length
   .simp only[oJ C,LO.k];simp only[oJ C]at d
    (repeat (first|refine aT ?_|refine aV ?_))
    exact N w ⟨e,by show DK w p ⟨f.take b,_,_,_⟩;rw[C,List.take_length];exact d⟩
   .simp only[oI C,LO.k];simp only[oI C]at d
    (repeat (first|(refine El ?_ (by assumption) ?_ ?_;rotate_left;exact rfl)|refine aT ?_|refine aA ?_))
    refine zed d rfl ?_;rw[YM (show (-1:Int)≠0 by decide)];intro w' d' c';exact N w' ⟨e.trans c' λ_ h=>.inl h,d'⟩
  | i+3=>simp at y
 obtain⟨W,d9⟩:=s9;have d9:DK w9 p ⟨f.take b,.no,false, -1⟩:=d9;have h0:=A W z8 dc;have h1:=A W y8 dc
 (repeat (first|(refine Wx ?_ (by assumption) ?_ ?_;rotate_left;exact rfl)|(refine El ?_ (by assumption) ?_ ?_;rotate_left;exact rfl)|refine aZ ?_|refine aA ?_))
 refine ck (vs:=[ptr p,ci (b:Nat),.bool false]) kr <|bu ?_;intro w10 P I _;have S9:=W.size;have M:Ch [p] w8 w10:=W.trans (Ch.of_below (F:=[]) I) λ_ h=>by cases h
 have L8:=(L5.below J oA).below s oA;refine h w10 _ _ _ _ af ((Ch.of_below H).trans M λ_ h=>.inl h) (OBB.mono (B:=w4.heap.size) ?_ oo) (d9.below I) P oo;exact zjo L8 M (λk a u=>by have:=mS u;omega)
def zfc{x:oF}{n:Nat}{vs:List (Option Addr×Nat×Nat)}{L:List (List UInt8)}(j:blk w q 143 [ptr p,x,.bool false])(hL:RBB w a n c vs L)(f:n<=4294967296)(g:FU L<=1000000000000)(ok:okR L)(h:∀b d c' S,OB S w.heap.size b d c' (aK L)->Below w.heap.size w S->K (.tuple #[.slice b d c',ci 0]) S):call Q 237 #[ptr q,.slice a n c] K w:=by
 refine aj (goK func237) (Ir ?_);refine dZ (v:=.bool false) (by unfold eqG eqGuard;rfl) kr ?_
 (repeat (first|refine aq ?_|refine Ps ?_|(refine zhi ?_ (by assumption) ?_ ?_;rotate_left;exact rfl)|refine aA ?_))
 refine ziT hL f g ok ?_;intro b d c' S i e
 (repeat (first|refine bo ?_|refine bj ?_))
 exact h b d c' S i e
def zhd{x:oF}{e:Int}(i:H.oneCell'=true)(g:blk w q 143 [ptr p,x,.bool false])(h:∀S,blk S q 143 [ptr p,if e=0 then H else x,.bool (decide (e=8))]->Ch [q] w S->K (ci e) S):call Q 240 #[ptr q,H,ci e] K w:=by
 refine aj (goK func240) (JA ?_)
 (repeat (first|refine aq ?_|refine Ps ?_|refine aT ?_))
 refine cq kf g oB rfl ?_;intro d a c;have a:blk d q 143 [ptr p,x,.bool (decide (e=8))]:=a;by_cases b:e=0
 .rw[oJ b]at h
  (repeat (first|refine aq ?_|refine Pr ?_|refine xZ ?_|refine aT ?_|refine ay oo ?_))
  refine cq kf a oB i ?_;intro k f j
  (repeat (first|refine ya ?_))
  exact h k f ((Ch.of_oth c oB).trans (Ch.of_oth (F:=[q]) j oB) λ_ h=>.inl h)
 .rw[oI b]at h
  (repeat (first|refine ya ?_|refine xZ ?_|refine aT ?_|refine ax oo ?_))
  exact h d a (Ch.of_oth c oB)
def ACj(p q a c:Nat)(x:oF)(v:Option Addr×Nat×Nat)(b:List UInt8)(w:oG):Prop :=
 blk w a 110 [ptr q]/\blk w c 101 [slv v]/\blk w q 143 [ptr p,x,.bool false]/\TB w v b
def ACj.ch{x:oF}{v:Option Addr×Nat×Nat}{b:List UInt8}(h:ACj p q c o x v b w)(d:DK w p D)(a:Ch [p] w S):ACj p q c o x v b S:=by refine⟨h.1.dk d a dc,h.2.1.dk d a dc,h.2.2.1.dk d a dc,h.2.2.2.ch a ?_⟩;obtain⟨f,e⟩:=d.blk;exact noBy.of e dc
def ACj.drew{x:oF}{v:Option Addr×Nat×Nat}{b:List UInt8}(h:ACj p q c o x v b w):ACj p q c o x v b w.drew:=⟨h.1.drew,h.2.1.drew,h.2.2.1.drew,h.2.2.2.ch (F:=[]) ⟨rfl,rfl,rfl,Nat.le_refl _,λ_ _ _=>rfl⟩ (noBy.nil w)⟩
def zk4{n:Nat}{vs:List (Option Addr×Nat×Nat)}{L:List (List UInt8)}(M:JK w p q f fu)(hL:RBB w a n c vs L)(ag:L≠[])(ok:okR L)(ak:f.length+(aK L).length<=4194304)(h:∀w',fu≠0->fu≠1->JK w' p q (f++aK L) (dec (dec fu))->Ch [p,q] w w'->K (ci 0) w')(h8:∀w',DK w' p ⟨f,.app (aK L),true, -1⟩->fu≠-1->Ch [p,q] w w'->K (ci 8) w'):call Q 217 #[ptr q,.slice a n c] K w:=by
 have am:=hL.lenL;have ar:=KM L;have ao:0<L.length:=List.length_pos_iff.2 ag;obtain⟨hd,M⟩:=M;refine aj (goK func217) (KP ?_);refine bu ?_;intro w1 y b1 _;have y:blk w1 w.heap.size 110 [ptr q]:=y
 (repeat (first|(refine zbk ?_ (by assumption) ?_ ?_;rotate_left;exact rfl)))
 refine zfc (ae b1 M M.lt) (hL.below b1 oA) oo oo ok ?_;intro A o G w2 o2 b2;have ap:=o2.len;have aa:=ae b2 y y.lt;have R:=tB b1 b2
 (repeat (first|refine bo ?_|refine bj ?_))
 refine bO (z:=.slice none 0 0) kr ?_;intro w3 I b3 S3;have I:blk w3 w2.heap.size 101 [.slice none 0 0]:=I;refine cq kf I oB rfl ?_;intro w4 u o4;have u:blk w4 w2.heap.size 101 [slv (A,o,G)]:=u;have B:=b3.trans o4.below;have t:=tB R B;have d4:=hd.below t;have W:=ae t M M.lt;have ab:=ae B aa aa.lt
 have t4:=TB.of_ob (OB.below o2 B oA)
 (repeat (first|refine zgj ?_|refine aq ?_|refine Pq ?_|(refine El ?_ (by assumption) ?_ ?_;rotate_left;exact rfl)|(refine zbk ?_ (by assumption) ?_ ?_;rotate_left;exact rfl)|refine aT ?_|refine aZ ?_|refine bZ ?_|refine ax oo ?_|refine fF ?_))
 obtain⟨i,hi,hz,Y,al⟩:=info_parts zbg;refine zaW (vs:=[.func (.func 238) #[] #[ptr w.heap.size,ptr w2.heap.size],.func (.func 51) #[ptr p] #[]]) rfl rfl underlying175 hi hz Y rfl oB oB (by simp[Value.cells]) ?_;intro j C;generalize (w4.alloc _)=w5 at j C |-;have S:=d4.below C;have an:=d4.lt
 have s:ACj p q w.heap.size w2.heap.size (ci (f.length:Nat)) (A,o,G) (aK L) w5:=⟨ae C ab ab.lt,ae C u u.lt,ae C W W.lt,t4.below C⟩
 have ad:Ch [p,q] w w5:=Ch.of_below (tB t C);have X:p≠q:=λe=>by
  subst e;obtain⟨ds,hb⟩:=hd.blk;exact qI rfl (hb.ne M dc)
 have T:∀{w6:oG} {e:Int} {zf:oD},Ch [p] w5 w6->(∀r,blk r q 143 [ptr p,if e=0 then ci (((f++aK L).length:Nat):Int)else ci (f.length:Nat),.bool (decide (e=8))]->Ch [q] w6.drew r->Ch [p,q] w r->K (ci e) r) ->
   ku K (vi (ptr w.heap.size) (ptr w2.heap.size) (ci e) zf) w6:=by
  intro w6 e zf c6 b;have P:=(s.ch S c6).drew
  refine Iq <|aw (ACj p q w.heap.size w2.heap.size (ci (f.length:Nat)) (A,o,G) (aK L)) P <|ac (λx d _=>lK (v:=ptr q) d.1 rfl) <|ac (λx d _=>lK (v:=ptr q) d.1 rfl) <|hZ <|hW Pr <|ac (λx d _=>lK (v:=ci (f.length:Nat)) d.2.2.1 rfl) <|ac (λx d _=>lK (v:=slv (A,o,G)) d.2.1 rfl) <|ac (λx d _=>wW) <|ac (λx d _=>aR (by show _<=(f.length:Int)+(o:Int);omega) (by show (f.length:Int)+(o:Int)<=_;omega)) <|zhd rfl P.2.2.1 ?_
  intro r m O;refine hRT ?_;have ai:((f.length:Nat):Int)+(((A,o,G):Option Addr×Nat×Nat).2.1:Int)=(((f++aK L).length:Nat):Int):=by rw[oT];show _+(o:Int)=_;omega
  rw[ai]at m;have af:Ch [p,q] w w6.drew:=((ad.trans c6 λx d=>.inl (by simp_all)).trans (Ch.of_below (F:=[]) (jU _ w6).drew) λ_ h=>by cases h)
  exact b r m O (af.trans O λx d=>.inl (by simp_all))
 refine zd4 (Er:=λa => Ch [p] w5 a/\fu≠-1/\DK a p ⟨f,.app (aK L),true, -1⟩) (St:=λi a => Ch [p] w5 a/\match i with|0=>DK a p ⟨f,.no,false,fu⟩|1=>fu≠0/\DK a p ⟨f,.app (aK L),false,dec fu⟩|_=>(fu≠0/\fu≠1)/\DK a p ⟨f++aK L,.no,false,dec (dec fu)⟩) (λ_ _ a=>cn j λk b=>a.1.block k (jT j k b).2 λa=>by have:=(jT j k b).1;have:=mS a;omega) ?_ ⟨Ch.refl _ _,S⟩ oB (λw6 N=>?_) (λw6 N=>?_)
 .intro i v Z w K hs b hE
  match i with
  | 0 =>
   simp only[qL,qD]at Z;subst Z;obtain⟨H,J⟩:=hs;refine bS rfl (aj (goK func238) (Ip ?_));have V:=(s.ch S H).drew
   refine aw (ACj p q _ w2.heap.size (ci (f.length:Nat)) (A,o,G) (aK L)) V <|ac (λx d _=>lK (v:=ptr q) d.1 rfl) <|hZ <|hW Pq <|ac (λx d _=>lK (v:=ptr p) d.2.2.1 rfl) <|ac (λx d _=>lK (v:=slv (A,o,G)) d.2.1 rfl) <|zeu (DK.below J (jU _ w).drew) V.2.2.2.rb ak ?_
   have dr:∀{w':oG},Ch [p] w.drew w'->Ch [p] w5 w':=λl => H.trans (show Ch [p] w _ from⟨l.os,l.tape,l.output,l.size,l.block⟩) λ_ h=>.inl h;by_cases U:fu=0
   .rw[zcT U];intro w' g l;exact hRT (hE w' ⟨dr l,by omega,g⟩)
   .rw[YM U];intro w' g l;exact hRT (b w' ⟨dr l,U,g⟩)
  | 1 =>
   simp only[qK,qL,qD]at Z;subst Z;obtain⟨H,U,J⟩:=hs;refine bS rfl (zed J rfl ?_);by_cases h1:fu=1
   .rw[zcT (by show dec fu=0;rw[h1];rfl)];intro w' g l;exact hE w' ⟨H.trans l λ_ h=>.inl h,by omega,g⟩
   .have ah:=YM (D:=⟨f,.app (aK L),false,dec fu⟩) (ziM h1);unfold syn;rw[ah];intro w' g l;exact b w' ⟨H.trans l λ_ h=>.inl h,⟨U,h1⟩,g⟩
  | i+2=>simp at Z
 .refine T N.1 λr m O E=>?_;obtain⟨H,⟨n0,n1⟩,d6⟩:=N;have d6:DK w6.drew p ⟨f++aK L,.no,false,dec (dec fu)⟩:=DK.below d6 (jU _ w6).drew;exact h r n0 n1 ⟨d6.ch O (noBy.of (s.ch S H).drew.2.2.1 dc) (by simpa using X),m⟩ E
 .exact T N.1 λr m O E=>h8 r (DK.ch (DK.below N.2.2 (jU _ w6).drew) O (noBy.of (s.ch S N.1).drew.2.2.1 dc) (by simpa using X)) N.2.1 E
end
section
open Go.ChangeMaps
def MB.nblk{kv:κ->oF}{vv:α->oF}{k:Nat}{M:List (κ×α)}{cs:oE}(h:MB kv vv w m M)(a:blk w k E cs):k≠m:=λe=>by
 obtain⟨d,c,b⟩:=h;unfold blk at a;rw[e,b.heap]at a;cases a
def RepW.ty{X:RpX}{s:RS}(h:RepW w i X s){k:Nat}{cs:oE}(c:blk w k E cs)(f:E∉[156,160,214,166,292]):k∉FF X:=λa=>by
 simp only[oO,oR,or_false,not_or]at f;obtain⟨l,m,n,o,p⟩:=f;have d:=h.rp.pm;rcases mX.1 a with a|rfl|a
 .rcases fG.1 a with a|rfl|a|rfl|rfl
  .simp only[LB.wv,oO,oR,or_false]at a;obtain⟨y,r,_⟩:=d.tm.mp;obtain⟨z,t,_⟩:=d.pm;obtain⟨A,u,_⟩:=d.rm;obtain⟨B,v,_⟩:=d.gm;obtain⟨C,x,_⟩:=d.am;rcases a with a|a|a|a|a|a
   .exact c.ne d.b l a
   .exact r.nblk c a
   .exact t.nblk c a
   .exact u.nblk c a
   .exact v.nblk c a
   .exact x.nblk c a
  .exact c.ne h.rp.g.b m rfl
  .exact h.rp.g.ty c n a
  .exact h.rp.h.mb' c rfl
  .exact c.ne h.rp.e.b o rfl
 .exact h.dm.mb.nblk c rfl
 .obtain⟨j,q⟩:=h.dm.wlt a;exact c.ne q p rfl
structure DuX where
 X:RpX
 p:Nat
 q:Nat
 u:Nat
def DF(Y:DuX):List Nat:=FF Y.X++[Y.p,Y.q,Y.u]
def DA(Y:DuX):List Nat:=AF Y.X++[Y.p,Y.q,Y.u]
def ru{Y:DuX}{k:Nat}:k∈DF Y↔k∈FF Y.X\/k∈[Y.p,Y.q,Y.u]:=by simp[DF]
def pQ{Y:DuX}{k:Nat}:k∈DA Y↔k∈AF Y.X\/k∈[Y.p,Y.q,Y.u]:=by simp[DA]
def JR{X:RpX}{k:Nat}(h:k∈FF X):k∈AF X:=ow.2 (.inr (.inr (.inr (.inr h))))
def Mt{Y:DuX}{k:Nat}(h:k∈DF Y):k∈DA Y:=(ru.1 h).elim (λh=>pQ.2 (.inl (JR h))) λh=>pQ.2 (.inr h)
abbrev io(A:List EV):List (List UInt8):=A.map evB
structure DuM(w:oG) (i:Nat) (Y:DuX) (s:RS) (A:List EV) (fu:Int):Prop where
 b:blk w Y.u 118 [pB Y.X.R.p,pB Y.q,.bool false]
 rp:RepW w i Y.X s
 jk:JK w Y.p Y.q (aK (io A)) fu
 xf:∀k∈[Y.p,Y.q,Y.u],k∉AF Y.X
structure DuS(w w':oG) (Y Y':DuX):Prop where
 ch:Ch (DF Y) w w'
 nf:∀k∈DF Y',k∈DF Y\/w.heap.size<=k
 na:∀k∈DA Y',k∈DA Y\/w.heap.size<=k
section
variable {Y Y' Y2:DuX}{s s':RS}{A A':List EV}{fu fu':Int}{X':RpX}
def DuS.refl(a:Below w.heap.size w S):DuS w S Y Y:=⟨Ch.of_below a,λ_ h=>.inl h,λ_ h=>.inl h⟩
def DuS.trans(h:DuS w S Y Y')(k:DuS S O Y' Y2):DuS w O Y Y2 :=
 have c:=h.ch.size
 ⟨h.ch.trans k.ch h.nf,λx a=>(k.nf x a).elim (h.nf x) λb=>.inr oo,λx a=>(k.na x a).elim (h.na x) λb=>.inr oo⟩
def DuM.ltq(h:DuM w i Y s A fu):∀k∈[Y.p,Y.q,Y.u],k<w.heap.size:=by
 simp only[oO,oR,or_false];rintro k (rfl|rfl|rfl)
 .exact h.jk.1.lt
 .exact h.jk.2.lt
 .exact h.b.lt
def DuM.lt(h:DuM w i Y s A fu):∀k∈DA Y,k<w.heap.size:=λk a=>(pQ.1 a).elim (h.rp.lt k) (h.ltq k)
def RepW.noBy(h:RepW w i Y.X s):Go.Proofs.YtpaghmnnhedccaaGreatDoor.noBy w (FF Y.X):=λk E c b a=>h.ty b (by simp only[oO,oR,or_false]at a;rcases a with rfl|rfl|rfl<;>decide)
def DuS.add(h:DuS w S Y Y')(k:Below w.heap.size S O):DuS w O Y Y':=⟨h.ch.add k,h.nf,h.na⟩
def mp1{a:Nat}:a∈[a,b,c]:=by simp
def mp2{a:Nat}:b∈[a,b,c]:=by simp
def mp3{a:Nat}:c∈[a,b,c]:=by simp
def DuM.oth{cs:oE}(h:DuM w i Y s A fu)(o:Oth z w S)(g:z∉DA Y)(e:blk w z E cs)(d:E∉[5,3,180]):DuM S i Y s A fu:=by
 have c:Ch [z] w S:=Ch.of_oth o oB;have n:∀k∈DA Y,k∉[z]:=λk a f=>g (mS f ▸ a);have m:∀k∈[Y.p,Y.q,Y.u],k∉[z]:=λk a=>n k (pQ.2 (.inr a));exact {h with
  b:=h.b.ch c (m _ mp3)
  rp:=h.rp.ch c λk a=>n k (pQ.2 (.inl a))
  jk:=h.jk.ch c (noBy.of e d) (m _ mp1) (m _ mp2)}
def DuM.below(h:DuM w i Y s A fu)(a:Below w.heap.size w S):DuM S i Y s A fu :=
 {h with b:=ae a h.b h.b.lt,rp:=h.rp.below a,jk:=h.jk.below a}
def DuM.step(h:DuM w i Y s A fu)(c:StpX w S Y.X X')(g:RepW S i X' s'):DuM S i {Y with X:=X'} s' A fu/\DuS w S Y {Y with X:=X'}:=by
 have e:∀k∈[Y.p,Y.q,Y.u],k∉FF Y.X:=λk a d=>h.xf k a (JR d);refine⟨⟨?_,g,h.jk.ch c.ch h.rp.noBy (e _ mp1) (e _ mp2),λk a f=>(c.af k f).elim (h.xf k a) λd=>by have:=h.ltq k a;omega⟩,c.ch.mono λk a=>ru.2 (.inl a),λk a=>?_,λk a=>?_⟩
 .have:=h.b.ch c.ch (e _ mp3)
  rw[<-c.R]at this;exact this
 .rcases ru.1 a with a|a
  .exact(c.new k a).imp (λd=>ru.2 (.inl d)) id
  .exact .inl (ru.2 (.inr a))
 .rcases pQ.1 a with a|a
  .exact(c.af k a).imp (λd=>pQ.2 (.inl d)) id
  .exact .inl (pQ.2 (.inr a))
def DuM.jrn(h:DuM w i Y s A fu)(a:Ch [Y.p,Y.q] w S)(g:JK S Y.p Y.q (aK (io A')) fu'):DuM S i Y s A' fu'/\DuS w S Y Y:=by
 have m:∀k∈[Y.p,Y.q],k∈[Y.p,Y.q,Y.u]:=by simp_all
 refine⟨⟨h.b.ch a λc=>?_,h.rp.ch a λk d c=>h.xf k (m k c) d,g,h.xf⟩,a.mono λk d=>ru.2 (.inr (m k d)),λ_ h=>.inl h,λ_ h=>.inl h⟩;obtain⟨j,f⟩:=h.jk.1.blk;rcases oO.1 c with e|e
 .exact h.b.ne f dc e
 .exact h.b.ne h.jk.2 dc (mS e)
def DuM.die(h:DuM w i Y s A fu)(o:Oth Y.u w S)(e:blk S Y.u 118 [pB Y.X.R.p,pB Y.q,.bool false]):DuM S i Y s A fu/\DuS w S Y Y:=by
 have c:Ch [Y.u] w S:=Ch.of_oth o oB;obtain⟨g,f⟩:=h.jk.1.blk
 exact⟨{h with b:=e,rp:=h.rp.ch c λk d a=>h.xf _ mp3 (mS a ▸ d),jk:=h.jk.ch c (noBy.of h.b dc) (λa=>f.ne h.b dc (mS a)) λa=>h.jk.2.ne h.b dc (mS a)},c.mono λk d=>ru.2 (.inr (mS d ▸ mp3)),λ_ h=>.inl h,λ_ h=>.inl h⟩
structure DnM(w:oG) (p u:Nat) (A L:List EV):Prop where
 dk:∃z,DK w p ⟨aK (io A),if L=[]then .no else .app (aK (io L)),true,z⟩
 b:∃r q d,blk w u 118 [pB r,pB q,.bool d]
def DnM.ne{p u:Nat}{L:List EV}(h:DnM w p u A L):p≠u:=λe=>by
 obtain⟨_,f⟩:=h.dk;obtain⟨g,c⟩:=f.blk;obtain⟨r,q,d,a⟩:=h.b;exact c.ne a dc e
def DnM.ch{F:List Nat}{p u:Nat}{L:List EV}(h:DnM w p u A L)(a:Ch F w S)(f:noBy w F)(g:p∉F)(i:u∉F):DnM S p u A L :=
 ⟨by obtain⟨z,e⟩:=h.dk;exact⟨z,e.ch a f g⟩,by obtain⟨r,q,d,c⟩:=h.b;exact⟨r,q,d,c.ch a i⟩⟩
def DuM.dn(h:DuM w i Y s A fu)(a:DK S Y.p ⟨aK (io A),.no,true, -1⟩)(o:Oth Y.p w S):DnM S Y.p Y.u A []:=by obtain⟨d,c⟩:=h.jk.1.blk;exact⟨⟨-1,by simpa using a⟩,_,_,_,o.blk h.b λe=>h.b.ne c dc e⟩
end
def zdI{B n:Nat}{L:List EV}(h:w.ownsRow B 54 14 (.slice a n c) n (L.flatMap evC))(f:L.length=n):VR w a n c L:=by
 refine⟨f,λr=>?_,λi x q b o k j u p=>?_⟩
 .obtain⟨g,d,e,_⟩:=gy h r;exact⟨g,0,e⟩
 .have v:i<n:=by rw[<-f];exact(gS q).1
  obtain⟨g,d,e,m⟩:=gy h oo;rw[e]at k;cases k;have s:=m.elem (enc:=evC) (λx=>(rfl:(evC x).length=14)) f q;have t:j<14:=(gS p).1;rw[m.blk.cell,oK]
  have:=qH (λl=>l[j]?) s
  simp only[List.getElem?_take,jM]at this;rw[oJ t]at this;rw[this];exact p
def RB.blt{n:Nat}{l:List UInt8}(h:RB w a n c l)(hi:i<n):(rM a i).block<w.heap.size:=by have b:=RV.len h;exact zB w _ (RV.cell h i _ (gE oo))
def Ib:fU Q 118 0 0 b o K w:=aJ kr
def zeM:fU Q 118 1 1 b o K w:=aJ kr
def MK:fU Q 118 2 2 b o K w:=aJ kr
section
variable {X:RpX}{s:RS}
def ze3{n:Nat}{L:List EV}(h:RepW w i X s)(V:PI s.l)(hA:s.A.length+L.length<=999000)(r:okL eff OK s.l L)(B:VR w a n c L)(D:∀b o,a=some ⟨b,o,none⟩->b∉FF X)(S:∀w' d,StpX w w' X {X with Rw:=d}->RepW w' i {X with Rw:=d} ⟨dU eff s.l L,s.A++L,s.P⟩->K (ci 0) w'):call Q 32 #[pB X.R.p,.slice a n c] K w:=by
 have hl:=B.len;refine aj (goK func32) (Hb (LC (aA (bv underlying30 ?_))));refine Fi (Inv:=λj N=>∃(k:Nat) (d:List iQ),j=ci k/\k<=n/\StpX w N X {X with Rw:=d}/\RepW N i {X with Rw:=d} ⟨dU eff s.l (L.take k),s.A++L.take k,s.P⟩) (μ:=mU n)
  ⟨0,X.Rw,rfl,qG _,.refl (jU _ _),by simpa[dU]using h⟩ ?_
 rintro _ dd H m ⟨k,v,rfl,hk,g,G⟩ U;refine aL ?_;by_cases y:k<n
 .have E:L[k]? = some L[k]:=gE oo;have u:L.take (k+1)=L.take k++[L[k]]:=by rw[List.take_add_one,E];rfl
  have t:L=L.take k++L[k]::L.drop (k+1):=by rw[<-List.drop_eq_getElem_cons oo,List.take_append_drop]
  generalize L[k]=x at E u t;rw[t]at r;obtain⟨F,f,_⟩:=sS.1 r;have J:PI (dU eff s.l (L.take k)):=ledger_sys.invs V F;obtain⟨b,o,T⟩:=B.some_ oo;have C:=B.ch g.ch D;subst T;refine ay oo (fQ underlying30 (s:=14) kf oo oo ?_);rw[oQ]
  refine zcc C rfl E (il λw2 z2 O s2=>eX (e':=x) z2 λw3 z3 Z=>dh z3 ?_);have q:=aD O Z oA;have M:=G.below q;have z:(L.take k).length=k:=by rw[qA];omega
  refine za4 (e:=x) M.rp J f.rdy ((mE J).2 f) (by show (((s.A++L.take k).length:Nat):Int)<1000000;rw[oT,z];omega) λw4 d r4 I Y W=>aZ (ax oB ?_);refine aR oo oo ⟨⟨k+1,d,ivS,y,(g.trans (.refl q)).trans (.rw I Y),?_⟩,mD U⟩
  have:=M.add (ue f.may).1 r4 I W
  rw[u,qf, <-jE];exact this
 .obtain rfl:k=n:=by omega
  rw[tL oo]at G;exact ax oo (Fj (S H v g G))
def zd1{A:List EV}{n:Nat}{vs:List (Option Addr×Nat×Nat)}(P:RBB w a n c vs (io A))(hm:∀e∈A,co e=true/\tT e)(hn:n<=999000)(h:∀w' ra rc,w'.ownsRow w.heap.size 54 14 (.slice ra n rc) n (A.flatMap evC)->Below w.heap.size w w'->K (.tuple #[.slice ra n rc,cT]) w'):call Q 31 #[.slice a n c] K w:=by
 have hl:A.length=n:=by have:=P.lenL;simpa[io]using this
 refine aj (goK func31) (Rt (bv underlying111 ?_));refine Ot (Inv:=λl j V=>∃(k:Nat) (ra:Option Addr) (rc:Nat),j=ci k/\k<=n/\l=.slice ra k rc/\V.ownsRow w.heap.size 54 14 (.slice ra k rc) k ((A.take k).flatMap evC)/\Below w.heap.size w V) (μ:=mV n)
  ⟨0,none,0,rfl,qG _,rfl,World.ownsRow_nil _ _ _ _,jU _ _⟩ ?_
 rintro _ _ dd w1 m ⟨k,ra,rc,rfl,t,rfl,d,r⟩ F;refine aL ?_;by_cases D:k<n
 .have I:A[k]? = some A[k]:=gE oo;have o:A.take (k+1)=A.take k++[A[k]]:=by rw[List.take_add_one,I];rfl
  obtain⟨S,T⟩:=hm A[k] (List.getElem_mem _);generalize A[k]=x at I o S T;have G:=P.below r oA;refine ay oo (zgg G oo oo λv l R b g L=>zj8 g ?_);have E:l=evB x:=by
   rw[oQ]at b;unfold io at b;rw[qC,I]at b;exact(Option.some.inj b).symm
  subst E;have p:=L.len;rw[Wg]at p;obtain⟨va,vn,vc⟩:=v;obtain rfl:91=vn:=p;refine zeI S T L (λi a=>L.blt a) λU N=>UK (UL (UM (il λw3 z3 X s3=>eX (e':=x) z3 λw4 z4 o4=>aZ (df oB (wW (aZ (bw oB (ax oB ?_))))))));have y:=aD X o4 oA;have f:=tB N y;have s1:=r.size;have aa:=f.size
  refine dh z4 (nV [evV x] underlying30 (s:=14) kr kr oo rfl oB dc rfl (by
   intro v R;rw[mS R];rfl) λw5 z O s5=>?_)
  have z:blk w5 w4.heap.size 54 (evC x):=by simpa[Value.cells,evV]using z
  have q:=cn d (w':=w4) λk t=>f.block k (jT d k t).2;have M:=cn q λk t=>O.block k (jT q k t).2;obtain⟨ii,C,J,H,B⟩:=info_parts Ws;refine wK (enc:=evC) (x:=x) underlying30 C J H B rfl oo (λ_=>rfl) M z (Cf _) oo oo oo λW Z w6 r6 g6 Y k6=>?_
  have u:=((r.trans (f.mono s1)).trans (O.mono oo)).trans (Y.mono oo);refine aR oo oo ⟨⟨k+1,W,Z,ivS,D,rfl,by rw[o];exact r6,u⟩,mD F⟩
 .obtain rfl:k=n:=by omega
  rw[tL oo]at d;exact ax oo (Ou (h w1 ra rc d r))
end
section
variable {Y:DuX}{s:RS}{A:List EV}{fu:Int}
def Wk(A:List EV):okR (io A):=λs a=>by
 obtain⟨e,_,rfl⟩:=qU.1 a;rw[Wg];decide
def zbN:∀A:List EV,FU (io A)=91*A.length
 | []=>rfl
 | e::A=>by
  have:=zbN A
  unfold io at *;rw[jK,FU,this,Wg,oZ];omega
def zdc(A:List EV):(aK (io A)).length=99*A.length:=by rw[KM,zbN];unfold io;rw[oY];omega
def UW{n:Nat}{L:List EV}(h:DuM w i Y s A fu)(D:VR w a n c L)(hm:∀e∈L,co e=true/\tT e)(aa:A.length+L.length<=40000)(J:∀w' fu',(fu = -1->fu' = -1)->DuM w' i Y s (A++L) fu'->DuS w w' Y Y->K (ci 0) w')(h8:∀w',fu≠-1->L≠[]->DnM w' Y.p Y.u A L->Ch (DF Y) w w'->K (ci 8) w'):call Q 198 #[pB Y.u,.slice a n c] K w:=by
 have hl:=D.len;refine aj (goK func198) (Jy (bv underlying30 (aT ?_)));by_cases h0:n=0
 .have B:L=[]:=List.eq_nil_of_length_eq_zero oo;subst B;rw[oW]at J;exact ay oo (J w fu id h (.refl (jU _ _)))
 have B:L≠[]:=λe=>h0 (by rw[<-hl,e];rfl);refine ax oo (bv underlying30 ?_);refine Gw (Inv:=λl j a=>∃(k:Nat) (T:Option Addr) (U:Nat) (vs:List (Option Addr×Nat×Nat)),j=ci k/\k<=n/\l=.slice T k U/\OBB a w.heap.size T k U vs (io (L.take k))/\Below w.heap.size w a) (μ:=mV n)
  ⟨0,none,0,[],rfl,qG _,rfl,⟨OV.nil _ _ _,rfl,λi v l D=>by simp at D⟩,jU _ _⟩ ?_
 rintro _ _ dd H m ⟨k,T,U,vs,rfl,d,rfl,g,y⟩ O;refine aL ?_;by_cases N:k<n
 .have S:L[k]? = some L[k]:=gE oo;have C:L.take (k+1)=L.take k++[L[k]]:=by rw[List.take_add_one,S];rfl
  obtain⟨m1,m2⟩:=hm L[k] (List.getElem_mem _);generalize L[k]=x at S C m1 m2;obtain⟨b,o,ha⟩:=D.some_ oo;have P:=D.bel y oA;subst ha;refine ay oo (fQ underlying30 (s:=14) kf oo oo ?_);rw[oQ];refine zcc P rfl S (il λW z2 F s2=>eX (e':=x) z2 λw3 t E=>dh t ?_);have z:=aD F E oA
  have s1:=y.size;have V:=z.size;refine zh0 m1 m2 λw4 Z n4 c4 o4 b4=>?_;have s4:=b4.size;refine zg5 (v:=(Z,n4,c4)) λw5 b5 r5 s5=>?_;have f:=(z.trans (b4.mono V)).trans (b5.mono oo);refine zdP w.heap.size (v:=(Z,n4,c4)) (l:=evB x) (g.below f oA) r5 (OV.mono (OV.below o4 b5 oA) oo) oo oo λa6 c6 w6 o6 g6=>?_
  have I:=(y.trans (f.mono s1)).grown g6 (by have:=f.size;omega) λk d=>(OV.block (g.below f oA).row k d).1;refine aR oo oo ⟨⟨k+1,a6,c6,_,ivS,N,rfl,by unfold io at *; rw[C,jJ];exact o6,I⟩,mD O⟩
 .obtain rfl:k=n:=by omega
  rw[tL oo]at g;have r:=h.below y;refine ax oo (Gx (aq (zeM (lK (v:=pB Y.q) r.b rfl ?_))));refine zk4 r.jk g.rbb (by simpa using B) (Wk L) (by rw[zdc,zdc];omega) (λW n0 n1 j2 G=>?_) λW d2 n2 G=>?_
  .rw[<-xH, <-jJ]at j2;obtain⟨h2,t2⟩:=r.jrn G j2;refine aZ (aq (MK (cq kf h2.b oB rfl λw3 t E=>?_)));obtain⟨h3,t3⟩:=h2.die E t;exact J w3 _ (λe=>by rw[e];rfl) h3 (((DuS.refl y).trans t2).trans t3)
  .have hu:∀k∈[Y.p,Y.q],k≠Y.u:=by
    obtain⟨ds,hd⟩:=r.jk.1.blk;intro k d;rcases oO.1 d with rfl|d
    .exact λe=>hd.ne r.b dc e
    .rw[mS d];exact λe=>r.jk.2.ne r.b dc e
   have F:=r.b.ch G λM=>hu _ M rfl;refine aZ (aq (MK (cq kf F oB rfl λw3 t E=>?_)));have t:blk w3 Y.u 118 [pB Y.X.R.p,pB Y.q,.bool true]:=t;have c3:Ch [Y.u] W w3:=Ch.of_oth E oB;have d3:=d2.ch c3 (noBy.of F dc) (λM=>hu _ oB (mS M))
   refine h8 w3 n2 B ⟨⟨-1,by rw[oI B];exact d3⟩,_,_,_,t⟩ (((Ch.of_below y).trans (G.mono λk d=>?_) λ_ h=>.inl h).trans (c3.mono λk d=>?_) λ_ h=>.inl h)
   .exact ru.2 (.inr (by simp only[oO,oR,or_false]at d |-; exact d.imp id .inl))
   .exact ru.2 (.inr (by rw[mS d];exact mp3))
end
def s0R(n:Nat):RS:=⟨pl0 n,[],gp0⟩
def zhI{n:Nat}(A:KD w)(N:1<=n)(P:n<=6)(hi:i<6)(T:∀w' X,RepW w' i X (s0R n)->(∀k∈AF X,k=1\/w.heap.size<=k)->(∀k∈FF X,w.heap.size<=k)->Below w.heap.size w w'->X.ws=[]/\X.W=[]->K (.tuple #[pB X.R.p,ci 0]) w'):call Q 29 #[iv (n:Nat),iv ((i:Int)+1)] K w:=by
 refine aj (goK func29) (WU (zjD N P A λf q B G C=>bo (bj (aZ (df oB (aL (bw oB (df oo (cH (bw oo (ax oo ?_)))))))))));have H:=C.size;refine zjq λd M D s2=>ziZ λg O I s3=>ziW λe L E s4=>ziN λm J u aa=>?_
 refine ck (vs:=[iv ((i:Int)+1),pB q.p,pB f.heap.size,pB (d.heap.size+1),pB g.heap.size,pB (e.heap.size+1)]) kr (bu λw6 x v s6=>?_);have x:=cZ x
 rw[show iv ((i:Int)+1)=iv ((i+1:Nat))from ivS]at x;have s5:=u.size;have V:=B.lt;have Y:=B.below D;have h:=((I.trans (E.mono oo)).trans (u.mono oo)).trans (v.mono oo);have y:=(E.trans (u.mono oo)).trans (v.mono oo);have z:=u.trans (v.mono oo);have Z:∀k∈q.l,k<f.heap.size:=V
 have j:∀k,f.heap.size<=k->k∉q.l:=λk a c=>by have:=Z k c;omega
 have F:lrB lr0=[]:=rfl;have rp:RpM w6 ⟨m.heap.size,q,f.heap.size,d.heap.size+1,d.heap.size,g.heap.size,e.heap.size+1⟩ (i+1) (pl0 n) [] lr0 0 gp0:=⟨x,Y.below h,M.below h,O.below y,L.below z,j m.heap.size oo,λk a=>by
  rw[F,List.mem_singleton]at a;rw[a];exact j _ oA,j (d.heap.size+1) oo,j d.heap.size oo,j g.heap.size oo,λr U=>by rw[List.eq_of_mem_replicate U];exact Int.le_refl _,Int.le_refl _⟩
 have S:∀k∈RpF ⟨m.heap.size,q,f.heap.size,d.heap.size+1,d.heap.size,g.heap.size,e.heap.size+1⟩ lr0,w.heap.size<=k:=λk a=>by
  rcases fG.1 a with a|rfl|a|rfl|rfl
  .rcases G k (LB.wl k a)with rfl|c
   .exact qI a (by
     have o:=B.nd;intro c;simp only[LB.wv,oO,oR,or_false]at c;rcases c with c|c|c|c|c|c
     .exact LN.zp o c
     .exact LN.zd o c
     .exact LN.zm o c
     .exact LN.zr o c
     .exact LN.zg o c
     .exact LN.za o c)
   .exact c
  .exact H
  .rw[F]at a;cases a
  .show w.heap.size<=d.heap.size;omega
  .show w.heap.size<=g.heap.size;omega
 have t:∀k∈FF ⟨⟨m.heap.size,q,f.heap.size,d.heap.size+1,d.heap.size,g.heap.size,e.heap.size+1⟩,e.heap.size,[],lr0,[]⟩,w.heap.size<=k:=λk a=>by
  rcases mX.1 a with a|rfl|a
  .exact S k a
  .show w.heap.size<=e.heap.size;omega
  .cases a
 have s:=J.below v
 refine T w6 ⟨⟨m.heap.size,q,f.heap.size,d.heap.size+1,d.heap.size,g.heap.size,e.heap.size+1⟩,e.heap.size,[],lr0,[]⟩ ⟨rp,rfl,⟨s.b,s.mb,by simp,by simp⟩,j _ (by show f.heap.size<=e.heap.size+1;omega),j _ (by show f.heap.size<=e.heap.size;omega),by show e.heap.size≠d.heap.size;omega,λk a=>by cases a⟩ (λk a=>?_) t (((C.trans (D.mono H)).trans (h.mono oo))) ⟨rfl,rfl⟩
 rcases ow.1 a with rfl|rfl|rfl|a|a
 .exact .inr (by show w.heap.size<=m.heap.size;omega)
 .exact .inr (by show w.heap.size<=d.heap.size+1;omega)
 .exact .inr (by show w.heap.size<=e.heap.size+1;omega)
 .exact G k a
 .exact .inr (t k a)
section
variable {Y:DuX}{s:RS}{A:List EV}{fu:Int}{x:AK}
def Wf(h:K (.bool false) w):bin Q .eql 67 cx cy (pB b) (.pointer none) K w :=
 dZ (by unfold eqG eqGuard;rfl) kr h
def QE{f:oF}(h:DuM w i Y s A fu)(a:bA Q f #[] K w):call Q 195 #[pB Y.u,f] K w :=
 aj (goK func195) (HU (Wf (aA (aq (MK (lK (v:=.bool false) h.b rfl (aA a)))))))
def ziL(h:DuM w i Y s A fu)(a:K (.bool false) w):call Q 34 #[pB Y.u] K w :=
 aj (goK func34) (Jv (Wf (fF (aq (MK (lK (v:=.bool false) h.b rfl (bZ a)))))))
def YZ(h:DuM w i Y s A fu)(hi:PI s.l)(C:s.l.G.length<=1000000)(j:∀S t g gc,SO S (w.heap.size+3) s.l t g gc->Below w.heap.size w S->K (.agg (saC t).toArray) S):call Q 22 #[pB Y.u] K w:=by
 refine aj (goK func22) (HT ?_);refine bO (z:=.agg (saC ⟨List.replicate 6 false,List.replicate 6 false,List.replicate 6 0,[],none,0,.slice none 0 0⟩).toArray) kr λF a f E=>?_;have a:=cZ a
 generalize k:saC ⟨List.replicate 6 false,List.replicate 6 false,List.replicate 6 0,[],none,0,.slice none 0 0⟩=zs at a;have D:zs.length=20:=by rw[<-k];rfl
 have q:=h.below f;refine Wf (aA (aq (Ib (lK (v:=pB Y.X.R.p) q.b rfl ?_))));refine zfN q.rp.rp hi C λI t g gc c o=>?_;have B:=ae o a a.lt;have x:(saC t).length=20:=rD (by rw[c.eI];exact hi.i6) (by rw[c.eL];exact hi.l6) (by rw[c.eV];exact hi.v6);have m:∀v∈saC t,v.oneCell'=true:=by
  intro v e;unfold saC at e;rw[c.gv]at e;simp only[oU,qU,oO,oR,or_false]at e;rcases e with((⟨_,_,rfl⟩|⟨_,_,rfl⟩)|⟨_,_,rfl⟩)|(rfl|rfl)<;>rfl
 refine eW (n:=20) (vs:=saC t) kr x B oo m λH r y=>?_;rw[qY,oV,oS oo,oW]at r;refine uT (v:=.agg (saC t).toArray) (λ_ j=>ldA (n:=20) (vs:=saC t) underlying42 rfl kr r dTk x j) ?_;have d:=c.oth y oo;rw[E]at d;exact j H t g gc d (aD (tB f o) y oA)
def zb0{L:List EV}{V:List Int}{k:Int}(h:DuM w i Y s A fu)(hi:i<6)(hp:PI s.l)(U:HK s.l.V Y.X.W)(ai:s.A.length<=990000)(hv:VR w a c g L)(af:∀b o,a=some ⟨b,o,none⟩->b∉FF Y.X)(hm:∀e∈L,co e=true/\tT e)(hW:∀p∈Y.X.W,tT p.2)(M:c<=16)(hf:f<6)(T:f≠i)(hV:V.length=6)(Z:leV V (List.replicate 6 1099511627776)=true)(hA:s.P[f]? = some U0)(ak:A.length<=30000)(j:∀w' Y' l' F fu',(fu = -1->fu' = -1)->F.length<=64->DuM w' i Y' ⟨l',s.A++F,s.P.set f (jV U0 V)⟩ (A++F) fu'->DuS w w' Y Y'->DG s.l (my s.l.V Y.X.W L) l' Y'.X.W F->dJ l'.V Y'.X.W 6=none->Y'.p=Y.p/\Y'.u=Y.u->K (ci 0) w')(h8:∀w' l' W' F,fu≠-1->F.length<=64->DG s.l (my s.l.V Y.X.W L) l' W' F->DnM w' Y.p Y.u A F->Ch (DF Y) w w'->K (ci 8) w'):call Q 188 #[pB Y.u,.agg (mgC 1 ((f:Int)+1) ((i:Int)+1) V (.slice a c g) 0 0).toArray,u6 k] K w:=by
 generalize E:mgC 1 ((f:Int)+1) ((i:Int)+1) V (.slice a c g) 0 0=ms;have aa:ms.length=12:=by rw[<-E];simp[mgC,bh,hV]
 have N:(Value.agg ms.toArray).cells.toList=ms:=by simp[Value.cells]
 refine aj (goK func188) (Am (bu λB m b1 s1=>bu λw2 H b2 s2=>bu λw3 z3 b3 s3=>?_));have m:blk B w.heap.size 67 [pB Y.u]:=m;rw[N]at H;have z3:blk w3 w2.heap.size 36 [u6 k]:=z3;have C:Below B.heap.size B w3:=b2.trans (b3.mono b2.size);have r:=b1.trans (C.mono b1.size);have m:=ae C m m.lt;have H:=ae b3 H H.lt;have h3:=h.below r
 have ad:=hv.bel r oA;have ah:∀{y:oG} {K:KV},blk y B.heap.size 282 ms->K (.agg ms.toArray) y->ld Q 282 (pB B.heap.size) K y:=λhy j=>ldA (n:=12) (vs:=ms) underlying282 rfl kr hy (by rw[oX,tL oo]) aa j
 refine lK (v:=pB Y.u) m rfl (QE h3 (bS (all:=#[pB w.heap.size,pB B.heap.size,pB w2.heap.size]) rfl (aj (goK func205) (xY ?_))));have t:=h3.below (jU _ w3).drew;refine aw (λy=>blk y w.heap.size 67 [pB Y.u]/\blk y B.heap.size 282 ms/\blk y w2.heap.size 36 [u6 k]/\blk y Y.u 118 [pB Y.X.R.p,pB Y.q,.bool false]) ⟨m.drew,H.drew,z3.drew,t.b⟩ ?_
 refine ac (v:=pB Y.u) (λy d _ j=>lK d.1 rfl j) (ac (λy d _ j=>aq j) (ac (λy d _ j=>Ib j) (ac (v:=pB Y.X.R.p) (λy d _ j=>lK d.2.2.2 rfl j) ?_)));refine ac (λy d _ j=>ah d.2.1 j) (ac (v:=u6 k) (λy d _ j=>lK d.2.2.1 rfl j) ?_);rw[<-E];have ag:VR w3.drew a c g L:=ad.bel (jU _ w3).drew oA
 refine zfK t.rp hi hp U oo ag af (λe S=>(hm e S).1) M hf T hV Z hA λw4 X4 l' F fa fc G r4 I n4 e4 o4=>?_;obtain⟨h4,t4⟩:=t.step G r4;have z4:blk w4 w.heap.size 67 [pB Y.u]:=m.drew.ch G.ch λhh=>by have:=h.rp.lt _ (JR hh);omega
 refine aw (λ_=>True) trivial (ac (λy _ _ j=>bo j) (ac (λy _ _ j=>bj j) (aZ (ax oB (lK (v:=pB Y.u) z4 rfl ?_)))));have O:=I.inv hp U.puts;have D:F.length<=64:=by have:=U.puts (L:=L);have:=this.few;omega
 have hF:∀e∈F,co e=true/\tT e:=λe S=>by
  obtain⟨m1,p,ab,rfl⟩:=O.2.2.2.2.2 e S;refine⟨m1,?_⟩;rcases NH p ab with J|⟨J,_⟩
  .exact hW p J
  .exact(hm _ J).2
 have z:=(DuS.refl r.drew).trans t4;refine UW (Y:={Y with X:=X4}) h4 (zdI o4 rfl) hF oo (λw5 fu' x h5 t5=>?_) λw5 x hL d5 c5=>?_
 .exact j w5 {Y with X:=X4} l' F fu' x D h5 (z.trans t5) I n4 ⟨rfl,rfl⟩
 .exact h8 w5 l' X4.W F x D I d5 (z.ch.trans c5 z.nf)
def VS{l:PL}{t z:Int}(a:PI l)(b:gF (mkP i l ⟨5,v,t,z,0,0⟩) l=0):Cv ⟨5,v,t,z,0,0⟩:=by
 have d:cK l.N v=true:=(((mE a).1 b).k5 rfl).1;obtain⟨x,f,e⟩:=List.any_eq_true.1 d;obtain⟨o,q,g,h,j,k,c,_⟩:=a.ids x f;have e:x.id=v:=by simpa using e
 refine⟨?_,(by show (0:Int)<=0/\(0:Int)<M64;decide),(by show (0:Int)<=0/\(0:Int)<M64;decide)⟩;show 0<=v/\v<M64;rw[<-e,c];simp only[M40,M64]at *;omega
def ziJ{V:List Int}{m:Int}(h:DuM w i Y s A fu)(hi:i<6)(J:PI s.l)(hG:s.l.G.length<=1000000)(af:s.A.length<=990000)(hn:r≠0)(ha:1<=P0/\P0<=Cw)(hf:f<6)(S:f≠i)(hV:V.length=6)(U:leV V (List.replicate 6 1099511627776)=true)(hA:s.P[f]? = some U0)(ag:A.length<=30000)(no:∀w' Y' fu',(fu = -1->fu' = -1)->DuM w' i Y' ⟨s.l,s.A,s.P.set f (jV U0 V)⟩ A fu'->DuS w w' Y Y'->Y'.X.W=Y.X.W->Y'.p=Y.p/\Y'.u=Y.u->K (ci 0) w')(ad:∀w' Y' z fu',(fu = -1->fu' = -1)->gF (mkP i s.l ⟨5,r,(f:Int)+1,z,0,0⟩) s.l=0->DuM w' i Y' ⟨eff (mkP i s.l ⟨5,r,(f:Int)+1,z,0,0⟩) s.l,s.A++[mkP i s.l ⟨5,r,(f:Int)+1,z,0,0⟩],s.P.set f (jV U0 V)⟩ (A++[mkP i s.l ⟨5,r,(f:Int)+1,z,0,0⟩]) fu'->DuS w w' Y Y'->Y'.X.W=Y.X.W->Y'.p=Y.p/\Y'.u=Y.u->K (ci 0) w')(h8:∀w' z,fu≠-1->gF (mkP i s.l ⟨5,r,(f:Int)+1,z,0,0⟩) s.l=0->DnM w' Y.p Y.u A [mkP i s.l ⟨5,r,(f:Int)+1,z,0,0⟩]->Ch (DF Y) w w'->K (ci 8) w'):call Q 188 #[pB Y.u,.agg (mgC 2 ((f:Int)+1) ((i:Int)+1) V (.slice none 0 0) r P0).toArray,u6 m] K w:=by
 generalize F:mgC 2 ((f:Int)+1) ((i:Int)+1) V (.slice none 0 0) r P0=ms;have Z:ms.length=12:=by rw[<-F];simp[mgC,bh,hV]
 have N:(Value.agg ms.toArray).cells.toList=ms:=by simp[Value.cells]
 refine aj (goK func188) (Am (bu λB o b1 s1=>bu λw2 H b2 s2=>bu λw3 z3 b3 s3=>?_));have o:blk B w.heap.size 67 [pB Y.u]:=o;rw[N]at H;have z3:blk w3 w2.heap.size 36 [u6 m]:=z3;have E:=tB b2 b3;have t:=tB b1 E;have o:=ae E o o.lt;have H:=ae b3 H H.lt;have h3:=h.below t
 have aa:∀{y:oG} {K:KV},blk y B.heap.size 282 ms->K (.agg ms.toArray) y->ld Q 282 (pB B.heap.size) K y:=λhy a=>ldA (n:=12) (vs:=ms) underlying282 rfl kr hy dTk Z a;refine lK (v:=pB Y.u) o rfl (QE h3 (bS (all:=#[pB w.heap.size,pB B.heap.size,pB w2.heap.size]) rfl (aj (goK func205) (xY ?_))));have k:=h3.below (jU _ w3).drew
 refine aw (λy=>blk y w.heap.size 67 [pB Y.u]/\blk y B.heap.size 282 ms/\blk y w2.heap.size 36 [u6 m]/\blk y Y.u 118 [pB Y.X.R.p,pB Y.q,.bool false]) ⟨o.drew,H.drew,z3.drew,k.b⟩ ?_;refine ac (v:=pB Y.u) (λy d _ a=>lK d.1 rfl a) (hZ (hW Ib (ac (v:=pB Y.X.R.p) (λy d _ a=>lK d.2.2.2 rfl a) ?_)))
 refine ac (λy d _ a=>aa d.2.1 a) (ac (v:=u6 m) (λy d _ a=>lK d.2.2.1 rfl a) ?_);rw[<-F];refine zfJ k.rp J hi hG oo hn ha hf S hV U hA (λw4 g r4=>?_) λw4 X4 z av cv g C r4 ab W4=>?_
 .obtain⟨M,t4⟩:=k.step g r4;have z4:blk w4 w.heap.size 67 [pB Y.u]:=o.drew.ch g.ch λT=>by have:=h.rp.lt _ (JR T);omega
  refine hRT (hE2 ((aZ (ax oB (lK (v:=pB Y.u) z4 rfl ?_)))));have j:=(DuS.refl t.drew).trans t4;refine UW (L:=[]) M ⟨rfl,λC=>qI C (qX _),λi x a=>by simp at a⟩ (λe O=>by cases O) (by simp;omega) (λD fu' c I t5=>?_) λD _ hL _ _=>qI rfl hL;rw[oW]at I;exact no D _ fu' c I (j.trans t5) rfl ⟨rfl,rfl⟩
 .obtain⟨M,t4⟩:=k.step g r4;have z4:blk w4 w.heap.size 67 [pB Y.u]:=o.drew.ch g.ch λT=>by have:=h.rp.lt _ (JR T);omega
  refine hRT (hE2 ((aZ (ax oB (lK (v:=pB Y.u) z4 rfl ?_)))));have j:=(DuS.refl t.drew).trans t4;refine UW (Y:={Y with X:=X4}) M ab (λe O=>?_) (by show A.length+1<=_;omega) (λD fu' c I t5=>?_) λD c hL d5 c5=>?_
  .rw[mS O];exact⟨((mE J).1 C).may,LY J (VS J C)⟩
  .exact ad D {Y with X:=X4} z fu' c C I (j.trans t5) W4 ⟨rfl,rfl⟩
  .exact h8 D z c C d5 (j.ch.trans c5 j.nf)
abbrev doK(m:Nat)(K:KV):KV:=λt10=>ld Q 54 (pB m) λt11=>sto Q 54 (pB m) t11 λ_=>aY Q [(some 54,pB m),(none,t10)] K
def zc2{b:EV}{e:Int}(c:blk w m 54 (evC b))(d:∀a,Oth m w a->K (.tuple #[evV b,ci e]) a):doK m K (ci e) w :=
 dh c (eX (e':=b) c λa g f=>CD g (d a f))
def zg8{i:EV}{e:Int}(j:blk w m 54 (evC evZ))(g:blk w b 54 (evC i))(k:b≠m)(f:∀h,Oth m w h->K (.tuple #[if e=0 then evV i else evV evZ,ci e]) h):eK (doK m K) (jm (pB m) (ci e) (pB b) (.bool (decide (e=0))) zf) w:=by
 refine Gu ?_;by_cases d:e=0
 .rw[oJ d]at f;exact ay d (dh g (eX (e':=i) j λn l a=>xX (zc2 l λh c=>f h ⟨c.os.trans a.os,c.tape.trans a.tape,c.output.trans a.output,c.size.trans a.size,λx g=>(c.other x g).trans (a.other x g)⟩)))
 .rw[oI d]at f;exact ax d (xX (zc2 j f))
def Yv{G:Nat}{a:EV}{t15:oF}{K2:oF->oF->oF->oF->oF->oF->oF->KV}(h:DuM w i Y s A fu)(t:blk w b 54 (evC a))(T:blk w G 67 [pB Y.u])(n:b∉DA Y)(R:A.length<=30000)(I:evC a=evC evZ->K t15 w)(J:evC a≠evC evZ->co a=true/\tT a)(L:∀c d f g j k w' fu',evC a≠evC evZ->(fu = -1->fu' = -1)->DuM w' i Y s (A++[a]) fu'->DuS w w' Y Y->blk w' b 54 (evC a)->K2 c d f g j k (ci 0) (.bool (decide ((0:Int)=0))) w')(O:∀c d f g j k w',evC a≠evC evZ->fu≠-1->DnM w' Y.p Y.u A [a]->Ch (DF Y) w w'->blk w' b 54 (evC a)->K2 c d f g j k (ci 8) (.bool (decide ((8:Int)=0))) w'):ld Q 54 (pB b) (λc=>bld Q 54 #[] λd=>bF .eql 54 c d λf w=>cond f (K t15 w) (ld Q 67 (pB G) (λg=>ld Q 54 (pB b) λj=>bM Q 30 1 #[(0,j)] λk=>call Q 198 #[g,k] λo=>bT .eql 26 o (ci 0) λz=>K2 c d f g j k o z) w)) w:=by
 refine dh t (ck (vs:=evC evZ) kr (QF 6 oo kr kr (AQ _) (AQ _) λr D=>?_));cases r with
 | true=>exact aV (I (D.1 rfl))
 | false =>
  have m:evC a≠evC evZ:=λe=>by have:=D.2 e;cases this
  refine aA (lK (v:=pB Y.u) T rfl (dh t (nV [evV a] underlying30 (s:=14) kr kr oo rfl oB dc rfl (by
   intro v S;rw[mS S];rfl) λU x q W=>?_)))
  have x:blk U w.heap.size 54 (evC a):=by simpa[Value.cells,evV]using x
  have F:=ae q t t.lt;have M:=h.below q;refine UW M (VR.one x) (λe P=>by rw[mS P];exact J m) (by show A.length+1<=_;omega) (λB fu' l N E=>aT (L _ _ _ _ _ _ B fu' m l N ((DuS.refl q).trans E) ?_)) λB l V H C=>aT (O _ _ _ _ _ _ B m l H ((Ch.of_below q).trans C λ_ h=>.inl h) ?_)
  .exact F.ch E.ch λy=>n (Mt y)
  .exact F.ch C λy=>n (Mt y)
def zki{L:Int}(h:DuM w i Y s A fu)(hi:i<6)(hp:PI s.l)(hG:s.l.G.length<=1000000)(hA:s.A.length<990000)(hx:Cv x)(I:A.length<=30000)(am:∀w' Y' e,NoP i s.l x e->DuM w' i Y' s A fu->DuS w w' Y Y'->Y'.X.W=Y.X.W->Y'.p=Y.p/\Y'.u=Y.u->K (.tuple #[evV evZ,ci e]) w')(ai:∀w' Y' fu',gF (mkP i s.l x) s.l=0->wJ ((i:Int)+1) s.l x->(fu = -1->fu' = -1)->DuM w' i Y' ⟨eff (mkP i s.l x) s.l,s.A++[mkP i s.l x],s.P⟩ (A++[mkP i s.l x]) fu'->DuS w w' Y Y'->(Y'.X.W=Y.X.W/\(x.r=0->Y'.X.ws=Y.X.ws))->Y'.p=Y.p/\Y'.u=Y.u->K (.tuple #[evV (mkP i s.l x),ci 0]) w')(h8:∀w',gF (mkP i s.l x) s.l=0->wJ ((i:Int)+1) s.l x->fu≠-1->DnM w' Y.p Y.u A [mkP i s.l x]->Ch (DF Y) w w'->K (.tuple #[evV evZ,ci 8]) w'):call Q 184 #[pB Y.u,.agg (akC x).toArray,u6 L] K w:=by
 refine aj (goK func184) (Lx (bu λw1 z1 b1 s1=>My λw2 z2 b2 s2=>bu λn z3 b3 s3=>il λw4 z4 b4 s4=>?_));have z1:blk w1 w.heap.size 67 [pB Y.u]:=z1;have z3:blk n w2.heap.size 36 [u6 L]:=z3;have ag:=tB b3 b4;have af:=tB b2 ag;have ad:=tB b1 af;have z1:=ae af z1 z1.lt;have z2:=ae ag z2 z2.lt;have z3:=ae b4 z3 z3.lt;have h4:=h.below ad;have C:=h.lt
 refine lK (v:=pB Y.u) z1 rfl (QE h4 (bS (all:=#[pB w.heap.size,pB w1.heap.size,pB w2.heap.size,pB n.heap.size]) rfl (aj (goK func196) (Jw ?_))));have H:=h4.below (jU _ w4).drew;have t:=z1.drew;have F:=z4.drew;have S:Below w.heap.size w w4.drew:=ad.drew;have dd:w4.drew.heap.size=w4.heap.size:=rfl;have ah:n.heap.size<w4.heap.size:=z4.lt
 have J:w.heap.size<=n.heap.size:=(tB b1 (tB b2 b3)).size;have ak:∀{D:oG} {Y5:DuX},DuS w4.drew D Y Y5->∀z,w.heap.size<=z->z<w4.heap.size->z∉DA Y5:=λN z h1 h2 j=>(N.na z j).elim (λj=>by have:=C _ j;omega) λj=>by omega
 have up:∀{D:oG} {Y5:DuX},DuS w4.drew D Y Y5->DuS w D Y Y5:=λN=>(DuS.refl S).trans N;have V:∀{D:oG} {Y5:DuX} {z:Nat} {E:TypeId} {cs:oE},DuS w4.drew D Y Y5->blk w4.drew z E cs->w.heap.size<=z->blk D z E cs:=λN hb hz=>hb.ch N.ch λj=>by have:=C _ (Mt j);omega
 refine aw (λy=>blk y w.heap.size 67 [pB Y.u]/\blk y w1.heap.size 46 (akC x)/\blk y w2.heap.size 36 [u6 L]/\blk y Y.u 118 [pB Y.X.R.p,pB Y.q,.bool false]) ⟨t,z2.drew,z3.drew,H.b⟩ ?_;refine ac (v:=pB Y.u) (λy d _ c=>lK d.1 rfl c) (hZ (hW Ib (ac (v:=pB Y.X.R.p) (λy d _ c=>lK d.2.2.2 rfl c) ?_)))
 refine ac (λy d _ c=>JT d.2.1 c) (ac (v:=u6 L) (λy d _ c=>lK d.2.2.1 rfl c) ?_)
 have nn:∀{w7:oG} {Y7:DuX} {e:Int},NoP i s.l x e->DuM w7 i Y7 s A fu->DuS w4.drew w7 Y Y7->Y7.X.W=Y.X.W->Y7.p=Y.p/\Y7.u=Y.u->doK n.heap.size K (ci e) w7:=λhn U f e1 e2 =>
  zc2 (V f F J) λw8 Z=>am w8 _ _ hn (U.oth Z (ak f _ J ah) (V f F J) dc) ((up f).add (aD (jU _ _) Z J)) e1 e2
 have mm:∀{w7:oG} {Y7:DuX} {x5:Nat} {zf:oD} {fu':Int},gF (mkP i s.l x) s.l=0->wJ ((i:Int)+1) s.l x->(fu = -1->fu' = -1)->DuM w7 i Y7 ⟨eff (mkP i s.l x) s.l,s.A++[mkP i s.l x],s.P⟩ (A++[mkP i s.l x]) fu'->DuS w4.drew w7 Y Y7->(Y7.X.W=Y.X.W/\(x.r=0->Y7.X.ws=Y.X.ws))->Y7.p=Y.p/\Y7.u=Y.u->blk w7 x5 54 (evC (mkP i s.l x))->x5≠n.heap.size ->
   eK (doK n.heap.size K) (jm (pB n.heap.size) (ci 0) (pB x5) (.bool (decide ((0:Int)=0))) zf) w7:=λo m g U f e1 e2 ab a =>
  zg8 (V f F J) ab a λw8 Z=>ai w8 _ _ o m g (U.oth Z (ak f _ J ah) (V f F J) dc) ((up f).add (aD (jU _ _) Z J)) e1 e2
 have m8:∀{w7:oG} {x5:Nat} {zf:oD},gF (mkP i s.l x) s.l=0->wJ ((i:Int)+1) s.l x->fu≠-1->DnM w7 Y.p Y.u A [mkP i s.l x]->Ch (DF Y) w4.drew w7->blk w7 x5 54 (evC (mkP i s.l x))->x5≠n.heap.size ->
   eK (doK n.heap.size K) (jm (pB n.heap.size) (ci 8) (pB x5) (.bool (decide ((8:Int)=0))) zf) w7:=by
  intro w7 x5 zf o m g d7 c7 ab a;have nF:n.heap.size∉DF Y:=λj=>by have:=C _ (Mt j);omega
  refine zg8 (F.ch c7 nF) ab a λw8 Z=>?_;have c8:Ch [n.heap.size] w7 w8:=Ch.of_oth Z oB;have pu:∀k∈[Y.p,Y.q,Y.u],k∉[n.heap.size]:=λk hk j=>by have:=C k (pQ.2 (.inr hk));have:=mS j;omega
  exact h8 w8 o m g (d7.ch c8 (noBy.of (F.ch c7 nF) dc) (pu _ mp1) (pu _ mp3)) (((Ch.of_below S).trans c7 λ_ h=>.inl h).add (aD (jU _ w7) Z J))
 have nz : ¬evC (mkP i s.l x)=evC evZ:=λhe=>by have:=zcf (r:=true) ⟨λ_=>he,λ_=>rfl⟩;cases this
 have ok:gF (mkP i s.l x) s.l=0->co (mkP i s.l x)=true/\tT (mkP i s.l x):=λo=>⟨((mE hp).1 o).may,LY hp hx⟩
 refine⟨?_,?_⟩
 .refine zdS H.rp hp hi hG oo λD X5 s5 v ap r5 an au W5=>?_;obtain⟨T,N⟩:=H.step ap r5;rcases an with⟨rfl,e,hn,rfl⟩|⟨o,m,rfl,rfl⟩
  .refine hRT (hE2 (?_));refine il λw6 z6 b6 s6=>aB trivial (eX (e':=evZ) z6 λw7 z7 M=>aB trivial ?_);have B:=aD b6 M oA;have f:=N.trans (.refl B)
   exact Yv (T.below B) z7 (V f t oA) (λj=>by have:=T.lt _ j;omega) I (λ_=>nn hn (T.below B) f W5 ⟨rfl,rfl⟩) (λa=>qI rfl a) (λ_ _ _ _ _ _ _ _ a=>qI rfl a) λ_ _ _ _ _ _ _ a=>qI rfl a
  .refine hRT (hE2 (?_));refine il λw6 z6 b6 s6=>aB trivial (eX (e':=mkP i s.l x) z6 λw7 z7 M=>aB trivial ?_);have B:=aD b6 M oA;have f:=N.trans (.refl B);have ax:=N.ch.size
   refine Yv (K:=doK n.heap.size K) (t15:=ci 0) (T.below B) z7 (V f t oA) (λj=>by have:=T.lt _ j;omega) I (λa=>qI a nz) (λ_=>ok o) (λ_ _ _ _ _ _ w8 fu' _ g aa t8 x8=>?_) λ_ _ _ _ _ _ w8 _ g d8 c8 x8=>?_
   .exact mm o m g aa (f.trans t8) ⟨W5,λa=>au a o⟩ ⟨rfl,rfl⟩ x8 oo
   .exact m8 o m g d8 (f.ch.trans c8 f.nf) x8 oo
 .refine il λD z5 b5 s5=>aB ⟨ae b5 t t.lt,ae b5 z2.drew z2.drew.lt,ae b5 z3.drew z3.drew.lt,(H.below b5).b⟩ ?_;have T:=H.below b5;refine zdS T.rp hp hi hG oo λw6 X6 s6 v ar r6 ao av W6=>?_;obtain⟨h6,t6⟩:=T.step ar r6;have al:=(DuS.refl b5).trans t6
  have n5:w4.drew.heap.size∉DA {Y with X:=X6}:=λj=>(t6.na _ j).elim (λj=>by have:=C _ j;omega) λj=>by omega
  have O:=z5.ch t6.ch λj=>by have:=C _ (Mt j);omega
  rcases ao with⟨rfl,e,hn,rfl⟩|⟨o,m,rfl,rfl⟩
  .refine hRT (hE2 (?_));refine eX (e':=evZ) O λw7 z7 M=>aB trivial ?_;have U:=h6.oth M n5 O dc;have f:=al.add (aD (jU _ w6) M oA);exact Yv U z7 (V f t oA) n5 I (λ_=>nn hn U f W6 ⟨rfl,rfl⟩) (λa=>qI rfl a) (λ_ _ _ _ _ _ _ _ a=>qI rfl a) λ_ _ _ _ _ _ _ a=>qI rfl a
  .refine hRT (hE2 (?_));refine eX (e':=mkP i s.l x) O λw7 z7 M=>aB trivial ?_;have U:=h6.oth M n5 O dc;have f:=al.add (aD (jU _ w6) M oA);refine Yv (K:=doK n.heap.size K) (t15:=ci 0) U z7 (V f t oA) n5 I (λa=>qI a nz) (λ_=>ok o) (λ_ _ _ _ _ _ w8 fu' _ g aa t8 x8=>?_) λ_ _ _ _ _ _ w8 _ g d8 c8 x8=>?_
   .exact mm o m g aa (f.trans t8) ⟨W6,λa=>av a o⟩ ⟨rfl,rfl⟩ x8 oo
   .exact m8 o m g d8 (f.ch.trans c8 f.nf) x8 oo
def zb2{n p:Nat}(r:KD w)(h1:1<=n)(h6:n<=6)(hi:i<6){f:List UInt8}(Z:DK w p ⟨f,.no,false, -1⟩)(hL:tU f=(io A,(aK (io A)).length))(m:f.take (aK (io A)).length=aK (io A))(s:p≠1)(hm:∀e∈A,co e=true/\tT e)(J:okL eff OK (pl0 n) A)(hA:A.length<=900000)(hK:∀w' Y,Y.p=p->DuM w' i Y ⟨dU eff (pl0 n) A,A,gp0⟩ A (-1)->Y.X.ws=[]->Y.X.W=[]->Ch [p] w w'->(∀k∈DF Y,k=p\/w.heap.size<=k)->(∀k∈DA Y,k=1\/k=p\/w.heap.size<=k)->K (.tuple #[pB Y.u,ci 0]) w'):call Q 19 #[iv (n:Nat),iv ((i:Int)+1),ptr p] K w:=by
 have ab:=Z.lt;have ac:1<w.heap.size:=r.lt;refine aj (goK func19) (Wb (LA (aA (zhI r h1 h6 hi λw1 X r1 B U C T=>bo (bj (aZ (ax oB ?_)))))));have ad:=C.size;have H:(aK (io A)).length<=f.length:=by rw[<-m,qA];exact Nat.min_le_right _ _
 refine zjt (Z.below C) hL H λw2 q a nn c vs G L2 S L q2=>UK (UL (UM (Sv (aZ (ax oB ?_)))));rw[m]at S;have L:JK w2 p q (aK (io A)) (-1):=⟨S,L⟩
 have ae:=G.size;have r2:=r1.ch G λk d g=>by rw[mS g]at d;exact(B _ d).elim s λg=>by omega
 have I:A.length=nn:=by have:=L2.rbb.lenL;simpa[io]using this
 refine zd1 L2.rbb hm oo λw3 ra rc t y=>bo (bj (bc (fF ?_)));have r3:=r2.below y;have M:=L.below y;have ag:=y.size;refine ze3 r3 (Dd n) (by show 0+A.length<=999000;omega) J (zdI t I) (λb o ha g=>?_) λw4 z j O=>aZ (bZ (ax oB ?_))
 .have aa:=(jT t b (by rw[ha];rfl)).1
  have:=r2.lt _ (JR g)
  omega
 have N:∀k∈[p,q],k<w3.heap.size/\k∉AF X:=by
  simp only[oO,oR,or_false];rintro k (rfl|rfl)
  .exact⟨M.1.lt,λg=>(B _ g).elim s λg=>by omega⟩
  .exact⟨M.2.lt,λg=>by have:=r1.lt _ g;omega⟩
 have j4:=M.ch j.ch (λk E a b V=>r3.ty b (by simp only[oO,oR,or_false]at V;rcases V with rfl|rfl|rfl<;>decide)) (λg=>(N p oB).2 (JR g)) λg=>(N q oB).2 (JR g);refine ck (vs:=[pB X.R.p,pB q,.bool false]) kr (bu λw5 P D s5=>?_);have P:=cZ P
 have ah:=j.ch.size;have l4:=O.lt;have e0:(s0R n).A++A=A:=oV _;rw[e0]at O;have F:Ch [p] w w3:=((Ch.of_below C).trans G λ_ h=>.inl h).add (y.mono oo);have l:Ch [p] w w4:=F.trans j.ch λx hx=>.inr (U x hx)
 refine hK w5 ⟨{X with Rw:=z},p,q,w4.heap.size⟩ rfl ⟨P,O.below D,j4.below D,λk d hf=>?_⟩ T.1 T.2 (l.add (D.mono l.size)) (λk d=>?_) λk d=>?_
 .simp only[oO,oR,or_false]at d;have v:k=p\/k=q->False:=λe=>by
   obtain⟨x1,x2⟩:=N k (by simpa using e);exact(j.af _ hf).elim x2 λg=>by omega
  rcases d with d|d|d
  .exact v (.inl d)
  .exact v (.inr d)
  .have:=l4 k hf
   rw[d]at this;exact qX _ this
 .rcases ru.1 d with d|d
  .exact .inr ((j.new k d).elim (U k) λg=>by omega)
  .simp only[oO,oR,or_false]at d;rcases d with rfl|rfl|rfl
   .exact .inl rfl
   .exact .inr oo
   .exact .inr (by show w.heap.size<=w4.heap.size;omega)
 .rcases pQ.1 d with d|d
  .rcases j.af k d with g|g
   .exact(B k g).imp id .inr
   .exact .inr (.inr oo)
  .simp only[oO,oR,or_false]at d;rcases d with rfl|rfl|rfl
   .exact .inr (.inl rfl)
   .exact .inr (.inr oo)
   .exact .inr (.inr (by show w.heap.size<=w4.heap.size;omega))
end
abbrev MGT:=MG×(Option Addr×Nat)
def tmC(x:MGT):oE:=[kv8 x.1.k,iv ((x.1.f:Int)+1),iv ((x.1.t:Int)+1)]++(((List.range 6).map λk=>u6 (x.1.V.getD k 0))++[.slice x.2.1 x.1.L.length x.2.2,u6 x.1.n,iv x.1.a])
def dN(x:MGT):(tmC x).length=12:=by simp[tmC]
def Qv{x:MGT}(h:x.1.V.length=6):tmC x=mgC x.1.k ((x.1.f:Int)+1) ((x.1.t:Int)+1) x.1.V (.slice x.2.1 x.1.L.length x.2.2) x.1.n x.1.a:=by obtain⟨⟨k,f,t,V,n,a,L⟩,b,c⟩:=x;obtain⟨_,_,_,_,_,_,rfl⟩:=BC h;rfl
def wm(x:MGT):∀v∈tmC x,v.oneCell'=true:=by intro v a;unfold tmC at a;simp only[oU,oO,oR,or_false,qU]at a;rcases a with(rfl|rfl|rfl)|(⟨_,_,rfl⟩|rfl|rfl|rfl)<;>rfl
def SW:(Tryz.prog.info? 282).map (λi=>(i.zero,i.size,i.bytes))=some (some (.agg (mgC 0 0 0 (List.replicate 6 0) (.slice none 0 0) 0 0).toArray),12,112):=by kernel_rfl
structure TMok(k i:Nat) (s:RS) (x:MGT):Prop where
 f:x.1.f=i
 t:x.1.t<k
 ne:x.1.t≠i
 V:x.1.V=s.l.V
 is:(x.1.k=1/\x.1.n=0/\x.1.a=0/\∃v,s.P[x.1.t]? = some v/\x.1.L=tl s.A v)\/(x.1.k=2/\x.1.L=[]/\x.2.1=none/\x.2.2=0/\x.1.n≠0/\1<=x.1.a/\x.1.a<=Cw)
structure TMk(B:Nat) (w:oG) (x:MGT):Prop where
 vr:VR w x.2.1 x.1.L.length x.2.2 x.1.L
 ev:∀b o,x.2.1=some ⟨b,o,none⟩->B<=b/\∃cs,blk w b 54 cs
def VR.kp{n:Nat}{L:List EV}(h:VR w a n c L)(e:∀b o,a=some ⟨b,o,none⟩->S.heap[b]? = w.heap[b]?):VR S a n c L :=
 ⟨h.len,h.some_,λi x g b o d j u f=>by rw[World.cell?_of_block (e b o d)];exact h.cell i x g b o d j u f⟩
def TMk.kp{B:Nat}{x:MGT}(h:TMk B w x)(d:∀b cs,blk w b 54 cs->S.heap[b]? = w.heap[b]?):TMk B S x :=
 ⟨h.vr.kp λb o c=>by obtain⟨_,cs,a⟩:=h.ev b o c;exact d b cs a,λb o c=>by
  obtain⟨e,cs,a⟩:=h.ev b o c;exact⟨e,cs,a.kp (d b cs a)⟩⟩
def TMk.below{B:Nat}{x:MGT}(h:TMk B w x)(b:Below w.heap.size w S):TMk B S x:=h.kp λk c a=>b.block k a.lt
def TMk.grow{B n:Nat}{x:MGT}{v:oF}(h:TMk B w x)(j:w.ownsRow B' 282 12 v n xs)(i:w.grownBy S v.ownBlock):TMk B S x:=h.kp λk l a=>i.block k a.lt λe=>by
 rcases j.2 with⟨b,_⟩|⟨g,c,d,b,_,f,_⟩
 .rw[b]at e;cases e
 .rw[b]at e;simp only[Value.ownBlock,qD]at e;subst e;unfold blk at a;rw[f]at a;simp only[qD,Obj.cells.injEq]at a;exact qI a.2.1 dc
def zdH{B n:Nat}{L:List EV}(h:w.ownsRow B 54 14 (.slice a n c) n (L.flatMap evC))(m:L.length=n):VR w a n c L/\∀b o,a=some ⟨b,o,none⟩->B<=b/\∃cs,blk w b 54 cs:=by
 refine⟨⟨m,λt=>?_,λi x q b o d j u p=>?_⟩,λb o d=>?_⟩
 .obtain⟨g,e,d,l⟩:=gy h t;exact⟨g,0,d⟩
 .have A:=(gS q).1;obtain⟨g,e,f,l⟩:=gy h oo;rw[d]at f;cases f;have z:j<14:=(gS p).1
  have:=l.cell (s:=14) (enc:=evC) (λ_=>rfl) m q z
  rw[l.blk.cell,oK,this];exact p
 .rcases h.2 with⟨k,_⟩|⟨g,r,e,k,v,y,_⟩
  .simp only[Value.slice.injEq]at k;rw[k.1]at d;cases d
  .simp only[Value.slice.injEq]at k;rw[k.1]at d;cases d;exact⟨v,e.toList,by unfold Go.Proofs.YtpaghmnnhedccaaGreatDoor.blk;rw[y]⟩
def zhk{I L:List Bool}{q:Nat}(h:(mT I L 6)[q]? = some v):∃t:Nat,v=(t:Int)+1/\t<6/\I.getD t false=true/\L.getD t false=false:=by have a:=mO h;unfold mT at a;simp only[qU,qV,jQ,oM,Bool.not_eq_true']at a;obtain⟨t,⟨b,c,d⟩,rfl⟩:=a;exact⟨t,rfl,b,c,d⟩
def zfj(I L:List Bool):(mT I L 6).length<=6:=by unfold mT;rw[oY];exact qR (List.length_filter_le _ _) oB
def zkx{l:PL}{j:Int}(h:OQ l ((i+1:Nat)) j):∃t:Nat,j=(t:Int)+1/\t<6/\t≠i:=by obtain⟨a,b,c,d,_⟩:=h;exact⟨(j-1).toNat,by omega,by omega,by omega⟩
section
variable {X:RpX}{s:RS}
def zbZ{B n:Nat}(u:ON w B a n c A)(E:A.length=n)(F:n<=1000)(h:K (.bool (decide (x∈A))) w):call Q 210 #[.slice a n c,iv x] K w:=by
 refine aj (goK func210) (FT (aj (goK func229) (JP (bv underlying47 ?_))));refine Hm (Inv:=λi z=>∃q:Nat,i=iv (q:Nat)/\q<=n/\(x∈A↔x∈A.drop q)/\w=z) (μ:=mU n) ⟨0,rfl,qG _,by simp,rfl⟩ ?_;rintro _ C _ H ⟨q,rfl,G,b,rfl⟩ k;rcases Nat.lt_or_ge q n with g|g
 rotate_left
 .rw[oS oo]at b;refine aL (ax oo (Hn (bR ?_)));rw[qE (by omega : ¬(-1:Int)≥0)];rwa[qE (λj=>by cases b.1 j)]at h
 obtain⟨D,e,t,m⟩:=gy u oo;have l:A[q]? = some A[q]:=gE oo;have f:A[q]∈A:=List.getElem_mem _;rw[List.drop_eq_getElem_cons oo]at b;generalize A[q]=y at l b f;have o:e[q]? = some (iv y):=by
  have p:=m.take;have r:(e.take (n*1))[q]? = some (iv y):=by rw[p,qC,l];rfl
  rwa[jN oo]at r
 rw[t];refine aL (ay oo (fQ underlying47 (s:=1) kf oo oo (lK (v:=iv y) m.blk (by rw[oQ,oK,Nat.mul_one];exact o) (aT ?_))));by_cases d:x=y
 .rw[qF (d ▸ f)]at h;exact ay d (bR (by rw[qF oo];exact h))
 .refine ax d (aR oo oo ⟨⟨q+1,ivS,g,b.trans ⟨λj=>(oO.1 j).resolve_left d,oH _⟩,rfl⟩,?_⟩);exact mD k
def zg2{x:Int×Int}{K2:oF->KV}(h:∀S,blk S w.heap.size 290 (wnC x)->Below w.heap.size w S->K2 (pB w.heap.size) undef S):alc Q 290 (λp=>sto Q 290 p (.agg (wnC x).toArray) (K2 p)) w:=by
 refine bO (z:=.agg (wnC (0,0)).toArray) kr λd a b g=>?_;have a:=cZ a
 refine eW (n:=2) (vs:=wnC x) kr rfl a (by show 0+2<=2;omega) (Xn x) λe f c=>?_;exact h e f (aD b c oA)
def zk8{f t:Int}{V:List Int}{n:Nat}(b:V.length=6)(h:K (.agg (mgC 1 f t V (.slice a n c) 0 0).toArray) w):bld Q 282 #[(0,cb 1),(1,iv f),(2,iv t),(3,.agg (vCs V).toArray),(4,.slice a n c)] K w:=by obtain⟨_,_,_,_,_,_,rfl⟩:=BC b;exact ck kr h
def zk9{f t n:Int}{V:List Int}(a:V.length=6)(h:K (.agg (mgC 2 f t V (.slice none 0 0) n x).toArray) w):bld Q 282 #[(0,cb 2),(1,iv f),(2,iv t),(3,.agg (vCs V).toArray),(5,u6 n),(6,iv x)] K w:=by obtain⟨_,_,_,_,_,_,rfl⟩:=BC a;exact ck kr h
end
end
def Mg{t:STA}(a:t.I.length=6)(b:t.L.length=6)(c:t.V.length=6):((saC t).drop 0).take 6=t.I.map .bool/\((saC t).drop 6).take 6=t.L.map .bool/\((saC t).drop 12).take 6=vCs t.V:=by obtain⟨I,L,V,N,e,f,d⟩:=t;obtain⟨_,_,_,_,_,_,rfl⟩:=BC a;obtain⟨_,_,_,_,_,_,rfl⟩:=BC b;obtain⟨_,_,_,_,_,_,rfl⟩:=BC c;exact⟨rfl,rfl,rfl⟩
def JU{I:List Bool}(h:I.length=6):jc Q 3 35 (I.map .bool)=true:=by
 obtain⟨_,_,_,_,_,_,rfl⟩:=BC h
 kernel_rfl
def zfu{x:ND}(h:x.A.length=54):jc Q 6 83 (ndC x)=true:=by
 rw[<-Vi h]
 kernel_rfl
def Xv(g:GR):jc Q 3 96 (grC g)=true:=by kernel_rfl
def zjH{e m:STA}{G:List GR}(f:SK w e)(y:SK w m)(eI:m.I=e.I)(eL:m.L=e.L)(eV:m.V=e.V)(X:m.nodes=e.nodes)(v1:e.gv=.slice a G.length c)(v2:m.gv=.slice av G.length c2)(H:w.ownsRow b 96 5 (.slice a G.length c) G.length (G.flatMap grC))(J:w.ownsRow B2 96 5 (.slice av G.length c2) G.length (G.flatMap grC))(hG:G.length<=1000000)(h:nX w (K cT)):call Q 15 #[.agg (saC e).toArray,.agg (saC m).toArray] K w:=by
 have Y:∀t:STA,(Value.agg (saC t).toArray).cells.toList=saC t:=λt=>by simp[Value.cells]
 obtain⟨a1,a2,a3⟩:=Mg f.i6 f.l6 f.v6;obtain⟨b1,b2,b3⟩:=Mg y.i6 y.l6 y.v6;rw[eI]at b1;rw[eL]at b2;rw[eV]at b3;refine aj (goK func15) (RE (bu λw1 l l1 s1=>bu λU z l2 s2=>?_));rw[Y]at l z;have l:=ae l2 l l.lt;have j:=tB l1 l2;have aa:=f.bel j oA;have ab:=y.bel j oA;have o:=Et f.i6 f.l6 f.v6;have p:=Et y.i6 y.l6 y.v6
 have g:=Ra f.i6 f.l6 f.v6;have q:=Ra y.i6 y.l6 y.v6;rw[X]at p;rw[v1]at g;rw[v2]at q;refine MT (ldA (n:=6) (vs:=e.I.map .bool) underlying35 rfl kr l a1 (by simp[f.i6]) (MT (ldA (n:=6) (vs:=e.I.map .bool) underlying35 rfl kr z b1 (by simp[f.i6]) ?_)));refine zC 3 oo kr kr (JU f.i6) (JU f.i6) λr D=>?_
 rw[D.2 rfl];refine fF (MU (ldA (n:=6) (vs:=e.L.map .bool) underlying35 rfl kr l a2 (by simp[f.l6]) (MU (ldA (n:=6) (vs:=e.L.map .bool) underlying35 rfl kr z b2 (by simp[f.l6]) ?_))));refine zC 3 oo kr kr (JU f.l6) (JU f.l6) λr D=>?_;rw[D.2 rfl]
 refine bZ (fF (Ef (ldA (n:=6) (vs:=vCs e.V) underlying38 rfl kr l a3 (by rw[bh];exact f.v6) (Ef (ldA (n:=6) (vs:=vCs e.V) underlying38 rfl kr z b3 (by rw[bh];exact f.v6) ?_)))));refine zC 3 oo kr kr (HD f.v6) (HD f.v6) λr D=>?_;rw[D.2 rfl]
 refine bZ (fF (pZ (lK (v:=.slice e.na e.nodes.length e.nc) l o (bv underlying39 (pZ (lK (v:=.slice m.na e.nodes.length m.nc) z p (bv underlying39 (aZ ?_))))))));refine bZ (df oB (sZ (lK (v:=.slice a G.length c) l g (bv underlying40 (sZ (lK (v:=.slice av G.length c2) z q (bv underlying40 (aZ ?_))))))));refine bw oB (ax oB ?_);have hn:=f.few
 refine OA (Inv:=λi a=>∃k:Nat,i=iv (k:Nat)/\k<=e.nodes.length/\Below U.heap.size U a) (μ:=mU e.nodes.length) ⟨0,rfl,qG _,jU _ _⟩ ?_;rintro _ dd W mu ⟨k,rfl,C,M⟩ F;have S:=ae M l l.lt;have y2:=ae M z z.lt;refine pZ (lK (v:=.slice e.na e.nodes.length e.nc) S o (bv underlying39 (aL ?_)));by_cases u:k<e.nodes.length
 .have E:e.nodes[k]? = some e.nodes[k]:=gE u;generalize e.nodes[k]=x at E;have Z:m.nodes[k]? = some x:=by rw[X];exact E
  have O:=(aa.bel M oA).nr;have T:=(ab.bel M oA).nr;obtain⟨p1,o1,A⟩:=O.some_ oo;obtain⟨p2,o2,B⟩:=T.some_ (by rw[X];omega);have O:=O.bel (jU W.heap.size W).drew oA;have T:=T.bel (jU W.heap.size W).drew oA;refine ay oo ?_
  refine ah (λ_=>pZ) (ah (v:=.slice e.na e.nodes.length e.nc) (λ_=>lK S.drew o) ?_);refine ah (v:=pA p1 (o1+k*56)) (λK d=>by
   rw[A];exact fQ underlying39 (s:=56) kf oo oo (by rw[oQ];exact d)) ?_
  refine ah (v:=.agg (ndC x).toArray) (λ_=>zff O A E) ?_;refine ah (λ_=>pZ) (ah (v:=.slice m.na e.nodes.length m.nc) (λ_=>lK y2.drew p) ?_);refine ah (v:=pA p2 (o2+k*56)) (λK d=>by
   rw[B];exact fQ underlying39 (s:=56) kf oo oo (by rw[oQ];exact d)) ?_
  refine ah (v:=.agg (ndC x).toArray) (λ_=>zff T B Z) ?_;have hf:=zfu (O.A54 x (mO E));refine ah (v:=.bool false) (λK d=>zC 6 oo kr kr hf hf λr D=>by rw[D.2 rfl];exact d) ?_;refine aA (aR oo oo ⟨⟨k+1,ivS,u,M.drew⟩,?_⟩);exact mD F
 refine ax oo (OD ?_);have H:=cn H λk C=>j.block k (jT H k C).2;have J:=cn J λk C=>j.block k (jT J k C).2;refine OC (Inv:=λi a=>∃k:Nat,i=iv (k:Nat)/\k<=G.length/\Below U.heap.size U a) (μ:=mU G.length) ⟨0,rfl,qG _,M⟩ ?_;rintro _ dd w4 mu ⟨k,rfl,C,N⟩ F;have S:=ae N l l.lt;have y2:=ae N z z.lt
 refine sZ (lK (v:=.slice a G.length c) S g (bv underlying40 (aL ?_)));by_cases u:k<G.length
 .have E:G[k]? = some G[k]:=gE u;generalize G[k]=x at E;have H:=cn H (w':=w4.drew) λk C=>N.drew.block k (jT H k C).2;have J:=cn J (w':=w4.drew) λk C=>N.drew.block k (jT J k C).2;refine ay oo ?_;refine ah (λ_=>sZ) (ah (v:=.slice a G.length c) (λ_=>lK S.drew g) ?_);obtain⟨p1,ac,A,P⟩:=gy H oo
  obtain⟨p2,ad,B,R⟩:=gy J oo;refine ah (v:=pA p1 (0+k*5)) (λK d=>by
   rw[A];exact fQ underlying40 (s:=5) kf oo oo (by rw[oQ];exact d)) ?_
  refine ah (v:=.agg (grC x).toArray) (λ_=>ldA (n:=5) (vs:=grC x) underlying96 rfl kr P.blk (by rw[oK];exact P.elem vN rfl E) rfl) ?_;refine ah (λ_=>sZ) (ah (v:=.slice av G.length c2) (λ_=>lK y2.drew q) ?_);refine ah (v:=pA p2 (0+k*5)) (λK d=>by
   rw[B];exact fQ underlying40 (s:=5) kf oo oo (by rw[oQ];exact d)) ?_
  refine ah (v:=.agg (grC x).toArray) (λ_=>ldA (n:=5) (vs:=grC x) underlying96 rfl kr R.blk (by rw[oK];exact R.elem vN rfl E) rfl) <|ah (v:=.bool false) (λK d=>zC 3 oo kr kr (Xv x) (Xv x) λr D=>by rw[D.2 rfl];exact d) ?_;refine aA (aR oo oo ⟨⟨k+1,ivS,u,N.drew⟩,?_⟩);exact mD F
 exact ax oo (OE (h w4 (tB j N)))
end
end Go.Proofs.YtpaghmnnhedccaaGreatDoor
