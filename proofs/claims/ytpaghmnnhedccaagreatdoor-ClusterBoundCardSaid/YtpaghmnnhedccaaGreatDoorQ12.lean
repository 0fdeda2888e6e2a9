import Derived.Test.YtpaghmnnhedccaaGreatDoorQ3
set_option linter.all false
namespace Go.Proofs.YtpaghmnnhedccaaGreatDoor
set_option maxRecDepth 100000
set_option maxHeartbeats 4000000
open Go.Proofs.Tryz
open Go.RowKit
variable {w w' w2 S O:oG}{K:KV}{zf:Nat->oF}{b c o i g m s j f z d c2 D B2 hi:Nat}{a av a2:Option Addr}{x v r:Int}{E t e:TypeId}{A:List Int}{N R:KE}{xs ys vs:oE}{cx cy:Bool}{T:List (Int×Int)}{X1 Z1 N2 O2 P2 Q2 R2 T2 H Z U Y J C:oF}
def Kc(a b c:oF)(zf:oD):=zT zf 0 6 (a::b::c::zT zf 9 9 ([]))
def Kd(zf:oD):=zT zf 0 18 ([])
def oq(K:KV):KE:=kZ f44 [1,1] K
def yb(K:KV):KE:=ai Q (cd f44 [1,0,1,0]) (oq K) (xx xf (oq K) 0) (rk f44 K)
def UV(h:lN 175 H (λZ=>yb K (Kc H Z (ci 0) (zV (zV zu 0 [H]) 2 [ci 0]))) w):Gives Q 44 #[H] w K:=au func44 kr (mpK h)
def RA(Inv:oF->oG->Prop)(μ:oF->oG->Nat)(g:Inv U w)(i:∀(a:oF) (f:oD) (w:oG) (m:Nat),Inv a w->m=μ a w ->
  lS a Z (λe w=>cond e (aW Q 175 H a (λc=>ld Q 140 c λd=>bA Q d #[] λb=>bT .neq 26 b (ci 0) λc w=>cond c (K b w) (nC a (λb w=>(Inv b w)/\((μ b w)<m)) w)) w) (oq K (Kd (zV f 6 [H,Z,a,e])) w)) w):yb K (Kc H Z U zf) w:=by refine lV (cd f44 (b1 52)) [(2,1),(4,2),(8,10)] 8 zf g i ?_;intro j k;exact mpF
def RC(h:K (ci 0) w):oq K (Kd zf) w:=mpK h
attribute [irreducible] oq yb
def T9(h:call Q 42 #[H,ci 1] (λe=>ext Q e 0 λf=>ext Q e 1 λg=>bT .neq 26 g (ci 0) λa w=>aM a false (λc=>lN 101 f (λa=>bT .eql 3 a (ci 0) λb=>c [f,a,b]) w) (λk=>k [uu,uu,uu] w) λb=>pick a cT (gd b 2) λd w=>cond d (K g w) (call Q 46 #[H,ci 1,ci 0] K w)) w):Gives Q 48 #[H] w K:=au func48 kr (mpK h)
def Kb(c b d a:oF)(zf:oD):=zf 0::c::zT zf 2 3 (b::d::a::zT zf 8 26 ([]))
def uG(K:KV):KE:=ai Q (cd f30 [1,1,1,1]) (rk f30 K) xf (rk f30 K)
def UU(h:box Q 66 Z (λY=>ld Q 66 Y λi=>call Q 42 #[i,ci 0] λb=>ext Q b 0 λd=>ext Q b 1 λa=>alc Q 101 λH=>sto Q 101 H d λ_=>bT .neq 26 a (ci 0) λh w=>cond h (K (.tuple #[.pointer none,cN,a]) w) (ld Q 101 H (λe=>call Q 43 #[e] λc=>ext Q c 0 λf=>ext Q c 1 λg=>alc Q 3 λU=>sto Q 3 U g λ_=>uG K (Kb Y H f U (zV (zV (zV (zV zu 0 [Z]) 2 [.pointer none,cN,a]) 8 [b,i,b,d,a,a,h]) 16 [c,e,c,f,g]))) w)) w):Gives Q 30 #[Z] w K:=by refine au func30 kr <|rpT [1,1,1,1] (cd f30 [1,1,1,1]) (cd f30 []) ?_;revert h;delta uG;generalize (cd f30 [1,1,1,1])=xc0;exact mpF
def Rz(h:bM Q 175 3 #[(0,.func (.func 45) #[] #[Z,Y,H]),(1,.func (.func 47) #[] #[H]),(2,.func (.func 49) #[] #[H])] (λb=>call Q 44 #[b] λa=>bT .neq 26 a (ci 0) λc w=>cond c (K (.tuple #[.pointer none,cN,a]) w) (ld Q 66 H (λd=>ld Q 3 Z λe=>bld Q 143 #[(0,d),(1,e)] λf=>box Q 143 f λg=>K (.tuple #[g,U,ci 0])) w)) w):uG K (Kb H Y U Z zf) w:=mpK h
attribute [irreducible] uG
def Rv(h:ld Q 3 H (λc=>ld Q 101 U λa=>lN 101 a λb=>bF .eql 3 c b λc w=>cond c (K (ci 0) w) (ld Q 66 Z (λd=>ld Q 3 H λe=>call Q 46 #[d,ci 0,e] K) w)) w):Gives Q 45 #[H,U,Z] w K:=au func45 kr (mpK h)
def Rx(h:ld Q 66 H (λa=>call Q 48 #[a] K) w):Gives Q 47 #[H] w K:=au func47 kr (mpK h)
def Ry(h:ld Q 66 H (λa=>call Q 50 #[a] λb=>bT .eql 3 b (ci 0) λa w=>cond a (K (ci 0) w) (ld Q 66 H (λc=>call Q 51 #[c] K) w)) w):Gives Q 49 #[H] w K:=au func49 kr (mpK h)
def Ir(h:bT .eql 110 H (.pointer none) (λe w=>cond e (K (.tuple #[cN,ci 2]) w) (aU H (λa=>ao Q 143 a 2 λb=>ld Q 4 b λa w=>cond a (K (.tuple #[cN,ci 3]) w) (call Q 258 #[cN,Z] (λa=>ext Q a 0 λc=>ext Q a 1 λd=>K (.tuple #[c,d])) w)) w)) w):Gives Q 237 #[H,Z] w K:=au func237 kr (mpK h)
def Aq(c a b t13:oF)(zf:oD):=c::a::b::zT zf 3 10 (t13::zT zf 14 5 ([]))
def tZ(a:oF)(zf:oD):=zf 0::zf 1::a::zT zf 3 16 ([])
def gU(K:KV):KE:=kZ f240 [1,1,1] K
def lD(K:KV):KE:=ai Q (cd f240 [1,1,0,1]) (gU K) xf (rk f240 K)
def JA(h:bT .eql 26 H (ci 8) (λc=>aU Z λa=>ao Q 143 a 2 λb=>sto Q 4 b c λ_=>bT .eql 26 H (ci 0) λU=>lD K (Aq Z Y H U (zV zu 6 [ci 0,Z,H,c,a,b,H]))) w):Gives Q 240 #[Z,Y,H] w K:=by refine au func240 kr <|rpT [1,1,0,1] (cd f240 [1,1,0,1]) (cd f240 []) ?_;revert h;delta lD gU;generalize (cd f240 [1,1,0,1])=xc0;exact mpF
def xZ(h:cond U (aU H (λa=>ao Q 143 a 1 λb=>sto Q 3 b Z λ_=>gU K (tZ Y (zV (zV zf 0 [H,Z]) 13 [U,H,Z,a,b]))) w) (gU K (tZ Y (zV (zV zf 0 [H,Z]) 13 [U])) w)):lD K (Aq H Z Y U zf) w:=by delta lD;revert h;exact mpF
def ya(h:K H w):gU K (tZ H zf) w:=mpK h
attribute [irreducible] gU lD
def vi(c a b:oF)(zf:oD):=zf 0::zf 1::c::zf 3::zf 4::a::b::zT zf 7 32 ([])
def ku(K:KV):KE:=ai Q (cd f217 [1,1,1,1]) (rk f217 K) xf (rk f217 K)
def KP(h:box Q 110 Y (λZ=>ld Q 110 Z λq=>call Q 237 #[q,H] λb=>ext Q b 0 λe=>ext Q b 1 λc=>alc Q 101 λU=>sto Q 101 U e λ_=>bT .neq 26 c (ci 0) λf w=>aM f false (λo=>lN 111 H (λf=>bT .eql 3 f (ci 0) λp=>o [H,f,p]) w) (λk=>k [uu,uu,uu] w) λa=>pick f cT (gd a 2) λg w=>cond g (K c w) (ld Q 110 Z (λi=>aU i λj=>ao Q 143 j 0 λl=>ld Q 66 l λd=>bM Q 175 2 #[(0,.func (.func 238) #[] #[Z,U]),(1,.func (.func 51) #[d] #[])] λm=>call Q 44 #[m] λn=>ku K (vi Z U n (zV (zV (zV (zV zu 0 [Y,H]) 4 [ci 0]) 7 [b,q,H,b,e,c,c,f,f,gd a 0,gd a 1,gd a 2,g]) 21 [.func (.func 238) #[] #[Z,U],i,j,l,d,.func (.func 51) #[d] #[],m,n]))) w)) w):Gives Q 217 #[Y,H] w K:=by refine au func217 kr <|rpT [1,1,1,1] (cd f217 [1,1,1,1]) (cd f217 []) ?_;revert h;delta ku;generalize (cd f217 [1,1,1,1])=xc0;exact mpF
def Iq(h:aF (λS w=>hL S 110 H λa=>hL S 110 H λb=>hN S b λc=>hF S 143 c 1 λd=>hL S 3 d λe=>hL S 101 U λf=>hld S (blt Q .len #[101] 3 #[false] #[f]) λg=>hld (λ_=>True) (bF .add 3 e g) λi=>call Q 240 #[a,i,Z] (λj=>aF λ_=>K j) w) w.drew):ku K (vi H U Z zf) w:=mpK h
attribute [irreducible] ku
def Ip(h:aF (λS w=>hL S 110 H λa=>hN S a λa=>hF S 143 a 0 λb=>hL S 66 b λc=>hL S 101 Z λd=>call Q 239 #[c,ci 0,d] (λe=>aF λ_=>K e) w) w.drew):Gives Q 238 #[H,Z] w K:=au func238 kr (mpK h)
def Lq(s0 a:oF)(zf:oD):=s0::zf 1::zf 2::a::zT zf 4 9 ([])
def Lr(s0:oF)(zf:oD):=s0::zT zf 1 12 ([])
def pW(K:KV):KE:=kZ f117 [1,1] K
def zH(K:KV):KE:=ai Q (cd f117 [1,0,1,0]) (pW K) (xx xf (pW K) 0) (rk f117 K)
def W7(h:zH K (Lq H (ci 0) (zV zu 2 [Value.int IntKind.u32 0])) w):Gives Q 117 #[H] w K:=au func117 kr (mpK h)
def Sp(Inv:oF->oF->oG->Prop)(μ:oF->oF->oG->Nat)(f:Inv H Z w)(g:∀(a b:oF) (e:oD) (w:oG) (m:Nat),Inv a b w->m=μ a b w ->
  bT .lss 3 b (ci 8) (λc w=>cond c (bT .shr 220 a (cu 1) (λi=>bT .and 220 a (Value.int IntKind.u32 1) λj=>bin Q .mul 220 true false (Value.int IntKind.u32 3988292384) j λk=>bF .xor 220 i k λc=>nC b λd w=>(Inv c d w)/\((μ c d w)<m)) w) (pW K (Lr a (zV e 3 [b,c])) w)) w):zH K (Lq H Z zf) w:=by refine lW (cd f117 (b1 52)) [(0,1),(3,9)] 0 3 zf f g ?_;intro l n;exact mpF
def Sq(h:K H w):pW K (Lr H zf) w:=mpK h
attribute [irreducible] pW zH
def Sb(d a b c:oF)(zf:oD):=zT zf 0 5 (d::zT zf 6 4 (a::b::c::zT zf 13 11 ([])))
def Sc(a:oF)(zf:oD):=zT zf 0 5 (a::zT zf 6 18 ([]))
def vf(K:KV):KE:=kZ f96 [1,1,1] K
def EA(K:KV):KE:=ai Q (cd f96 (b1 58)) (vf K) (xx xf (vf K) 0) (rk f96 K)
def zaz(h:un Q .xor H (λa=>lN 101 Z λU=>EA K (Sb a Z U (ci 0) (zV (zV (zV zu 0 [H,Z]) 4 [Value.int IntKind.u32 0]) 8 [H,a]))) w):Gives Q 96 #[H,Z] w K:=au func96 kr (mpK h)
def XW(Inv:oF->oF->oG->Prop)(μ:oF->oF->oG->Nat)(i:Inv Y U w)(j:∀(b a:oF) (g:oD) (w:oG) (m:Nat),Inv b a w->m=μ b a w ->
  lS a H (λc w=>cond c (aW Q 101 Z a (λc=>ld Q 5 c λc=>conv Q 5 220 c λe=>bF .xor 220 b e λf=>call Q 117 #[f] λc=>nC a λd w=>(Inv c d w)/\((μ c d w)<m)) w) (vf K (Sc b (zV g 10 [Z,H,a,c])) w)) w):EA K (Sb Y Z H U zf) w:=by refine lW (cd f96 (b1 116)) [(5,1),(7,1),(12,10)] 5 12 zf i j ?_;intro k l;exact mpF
def XX(h:un Q .xor H K w):vf K (Sc H zf) w:=mpK h
attribute [irreducible] vf EA
def zbY(h:call Q 96 #[Value.int IntKind.u32 0,H] K w):Gives Q 97 #[H] w K:=au func97 kr (mpK h)
def UP(h:conv Q 220 36 H (λb=>call Q 118 #[cN,b,ci 4] λa=>ext Q a 0 λc=>ext Q a 1 λ_=>K c) w):Gives Q 98 #[H] w K:=au func98 kr (mpK h)
def Py(tA t13 t14 t15:oF)(zf:oD):=zT zf 0 6 (tA::zT zf 7 6 (t13::t14::t15::zT zf 16 24 ([])))
def Pz(tA:oF)(zf:oD):=zT zf 0 6 (tA::zT zf 7 33 ([]))
def td(K:KV):KE:=kZ f258 [1,1,1] K
def CG(K:KV):KE:=ai Q (cd f258 (b1 58)) (td K) (xx xf (td K) 0) (rk f258 K)
section
variable {tA t13 t14 t15:oF}
def Zr(h:call Q 58 #[H] (λa=>lN 111 Z λb=>CG K (Py a Z b (ci 0) (zV (zV (zV zu 0 [H,Z]) 4 [cN,ci 0]) 11 [H,a]))) w):Gives Q 258 #[H,Z] w K:=au func258 kr (mpK h)
def Wn(Inv:oF->oF->oG->Prop)(μ:oF->oF->oG->Nat)(u:Inv tA t15 w)(v:∀(b a:oF) (t:oD) (w:oG) (m:Nat),Inv b a w->m=μ b a w ->
  lS a t14 (λd w=>cond d (aW Q 111 t13 a (λi=>ld Q 101 i λc=>lN 101 c λj=>bT .gtr 3 j (ci 4096) λk w=>cond k (K (.tuple #[cN,ci 6]) w) (lN 101 c (λl=>conv Q 3 220 l λn=>call Q 98 #[n] λe=>call Q 97 #[e] λo=>call Q 96 #[o,c] λp=>blt Q .append #[101,101] 101 #[false,false] #[b,e] λq=>call Q 98 #[p] λr=>blt Q .append #[101,101] 101 #[false,false] #[q,r] λs=>blt Q .append #[101,101] 101 #[false,false] #[s,c] λf=>nC a λg w=>(Inv f g w)/\((μ f g w)<m)) w)) w) (td K (Pz b (zV t 13 [t13,t14,a,d])) w)) w):CG K (Py tA t13 t14 t15 zf) w:=by refine lW (cd f258 (b1 116)) [(4,3),(8,3),(15,24)] 6 15 zf u v ?_;intro x y;exact mpF
def Wo(h:K (.tuple #[tA,ci 0]) w):td K (Pz tA zf) w:=mpK h
end
attribute [irreducible] td CG
def LD(h:aF (λS w=>hN S H λl=>hF S 199 l 0 λb=>hL S 101 b λc=>hN S H λa=>hF S 199 a 1 λa=>hL S 3 a λa=>call Q 66 #[c,a,ci 4] (λa=>aF λS w=>hld S (ext Q a 0) λd=>hld S (ext Q a 1) λe=>hld S (ext Q a 2) λf=>bT .neq 26 f (ci 0) (λg w=>cond g (K (.tuple #[Value.int IntKind.u32 0,cF]) w) (aU H (λi=>ao Q 199 i 1 λj=>sto Q 3 j e λ_=>conv Q 36 220 d λk=>K (.tuple #[k,cT])) w)) w) w) w.drew):Gives Q 95 #[H] w K:=au func95 kr (mpK h)
def Ci(c d a b e:oF)(zf:oD):=c::zT zf 1 3 (d::a::zf 6::b::zf 8::e::zT zf 10 56 ([]))
def Cj(a:oF)(zf:oD):=a::zT zf 1 65 ([])
def rH(K:KV):KE:=ai Q (cd f77 (b1 127)) (rk f77 K) xf (rk f77 K)
abbrev CH(K:KV)(hA0:KE)(p0:oF)(w:oG):Prop :=
  aU p0 (λa=>ld Q 199 a λb=>alc Q 199 λc=>sto Q 199 c b λ_=>call Q 95 #[c] λd=>ext Q d 0 λe=>ext Q d 1 λf=>call Q 95 #[c] λg=>ext Q g 0 λh=>ext Q g 1 λi=>un Q .not f λj w=>aM j false (λa=>un Q .not i (λb=>a [i,b]) w) (λk=>k [uu,uu] w) λk=>pick j cT (gd k 1) λl w=>aM l false (λa=>bT .gtr 220 e (Value.int IntKind.u32 4096) (λb=>a [e,b]) w) (λk=>k [uu,uu] w) λm=>pick l cT (gd m 1) λn w=>aM n false (λa=>conv Q 220 3 e (λb=>ao Q 199 c 0 λd=>ld Q 101 d λf=>lN 101 f λg=>ao Q 199 c 1 λc=>ld Q 3 c λh=>bF .sub 3 g h λi=>bF .gtr 3 b i λj=>a [e,b,d,f,g,c,h,i,j]) w) (λk=>k [uu,uu,uu,uu,uu,uu,uu,uu,uu] w) λo=>pick n cT (gd o 8) λp w=>cond p (K (.tuple #[cN,cF]) w) (ao Q 199 c 0 (λr=>ld Q 101 r λs=>ao Q 199 c 1 λt=>ld Q 3 t λu=>slc Q 101 s (some u) none none λv=>slc Q 101 v none (some e) none λw=>hA0 (Ci p0 c e h w (zV (zV (zV (zV zu 2 [cN,cF]) 6 [f]) 8 [i]) 10 [p0,a,b,d,d,e,f,g,g,h,i,f,j,j,gd k 0,gd k 1,l,l,gd m 0,gd m 1,n,n,gd o 0,gd o 1,gd o 2,gd o 3,gd o 4,gd o 5,gd o 6,gd o 7,gd o 8,p,r,s,t,u,v,e,w]))) w)) w
def MZ(a:Code)(h:CH K (ai Q a (rk f77 K) (λ_ _ _=>False) (rk f77 K)) H w):ai Q (rep (b1 127) a (cd f77 [])) (rk f77 K) xf (rk f77 K) (Cj H zu) w:=Eq.mp kr h
def LF(h:CH K (rH K) H w):Gives Q 77 #[H] w K:=au func77 kr (Eq.mp (qH (λc=>ai Q c (rk f77 K) xf (rk f77 K) (Cj H zu) w) (by kernel_rfl:(rep (b1 127) (cd f77 (b1 127)) (cd f77 []))=(cd f77 []))) (MZ (cd f77 (b1 127)) h))
def Jz(h:call Q 98 #[H] (λa=>call Q 97 #[a] λb=>call Q 96 #[b,Z] λc=>bF .neq 220 c U λd w=>cond d (K (.tuple #[cN,cF]) w) (ao Q 199 J 1 (λe=>ld Q 3 e λf=>conv Q 220 3 H λg=>bF .add 3 f g λi=>aU Y λj=>ao Q 199 j 1 λk=>sto Q 3 k i λ_=>call Q 58 #[Z] λl=>K (.tuple #[l,cT])) w)) w):rH K (Ci Y J H U Z zf) w:=mpK h
attribute [irreducible] rH
def Zq(h:call Q 58 #[H] (λa=>bld Q 199 #[(0,a)] λa=>bld Q 201 #[(0,a)] λb=>box Q 201 b K) w):Gives Q 59 #[H] w K:=au func59 kr (mpK h)
def MY(h:bT .eql 171 H (.pointer none) (λd w=>cond d (K (.tuple #[cN,cF]) w) (aU H (λe=>ao Q 201 e 0 λf=>call Q 77 #[f] λc=>ext Q c 0 λa=>ext Q c 1 λb=>K (.tuple #[a,b])) w)) w):Gives Q 60 #[H] w K:=au func60 kr (mpK h)
def PA(h:bT .eql 171 H (.pointer none) (λa w=>cond a (K (ci 0) w) (aU H (λa=>ao Q 201 a 0 λb=>ao Q 199 b 1 λc=>ld Q 3 c K) w)) w):Gives Q 61 #[H] w K:=au func61 kr (mpK h)
def Px(a b:oF)(zf:oD):=zf 0::zf 1::a::zf 3::b::zT zf 5 18 ([])
def CF(K:KV):KE:=ai Q (cd f43 [1,1,0]) (rk f43 K) (xx xf (rk f43 K) 0) (rk f43 K)
def Zp(h:call Q 59 #[H] (λa=>CF K (Px cN a (zV (zV (zV zu 0 [H]) 3 [ci 0]) 7 [H,a]))) w):Gives Q 43 #[H] w K:=au func43 kr (mpK h)
def Wm(Inv:oF->oG->Prop)(μ:oF->oG->Nat)(k:Inv Z w)(n:∀(a:oF) (p:oD) (w:oG) (m:Nat),Inv a w->m=μ a w ->
  call Q 60 #[H] (λb=>ext Q b 0 λe=>ext Q b 1 λb=>un Q .not b λb w=>cond b (call Q 61 #[H] (λf=>K (.tuple #[a,f])) w) (bM Q 111 1 #[(0,e)] (λg=>blt Q .append #[111,111] 111 #[false,false] #[a,g] λc w=>(Inv c w)/\((μ c w)<m)) w)) w):CF K (Px Z H zf) w:=by refine dC (cd f43 [1,1,0,0]) (zr [(2,2),(5,2),(9,14)]) kr (vP [2] Inv) (vQ [2] μ) k ?_;intro j o l;have h:=n _ (zM zf (gd j) (zr [(2,2),(5,2),(9,14)])) o _ l rfl;exact mpK h
attribute [irreducible] CF
def FU:List (List UInt8)->Nat
 | []=>0
 | s::r=>s.length+FU r
def zel(L:List (List UInt8))(j:Nat)(s:List UInt8)(h:L[j]? = some s):FU (L.take j)+s.length+FU (L.drop (j+1))=FU L:=by
 induction L generalizing j with
 | nil=>simp at h
 | cons x L ih =>
  cases j with
  | zero=>simp at h;subst h;simp[FU]
  | succ j =>
   simp at h
   have:=ih j h
   simp only[List.take_succ_cons,List.drop_succ_cons,FU];omega
abbrev ptr(b:Nat):oF:=pA b 0
def Jh:∀w,(sizeOf 3).run Q w=.ok 1 w:=λ_=>by kernel_rfl
def RV.drew{n:Nat}(h:RV w a n c xs):RV w.drew a n c xs:=⟨h.len,h.cap,h.some_,h.nil_,h.cell⟩
def RB.drew{n:Nat}{xs:List UInt8}(h:RB w a n c xs):RB w.drew a n c xs:=RV.drew h
def ZX{T:List TypeId}{B:Nat}{v:oF}{n:Nat}(h:w.ownsRow B2 E s v n xs)(j:Keep T B w S)(d:E∉T):S.ownsRow B2 E s v n xs:=by
 refine⟨h.1,?_⟩;rcases h.2 with c|⟨g,a,b,k,f,i,r⟩
 .exact .inl c
 .exact .inr ⟨g,a,b,k,f,j.block _ _ i (.inr λl a z e=>by cases e;exact d),r⟩
def OB.keep{T:List TypeId}{B:Nat}{n:Nat}{l:List UInt8}(h:OB w B2 a n c l)(d:Keep T B w S)(b:5∉T):OB S B2 a n c l:=ZX h d b
def zaA(h:bld Q 106 #[] (λa=>box Q 106 a K) w):Gives Q 18 #[] w K:=au func18 kr (mpK h)
def XZ(h:bT .eql 3 H (ci 0) (λb w=>aM b false (λb=>bT .eql 3 H (ci 1) (λc=>b [H,c]) w) (λk=>k [uu,uu] w) λa=>pick b cT (gd a 1) K) w):Gives Q 57 #[H] w K:=au func57 kr (mpK h)
def Pg(h:bT .eql 66 H (.pointer none) (λb w=>cond b (K (ci 2) w) (aU H (λc=>ao Q 106 c 3 λd=>ld Q 4 d λa w=>cond a (K (ci 8) w) (K (ci 0) w)) w)) w):Gives Q 56 #[H] w K:=au func56 kr (mpK h)
def Pf(h:aU H (λa=>ao Q 106 a 4 λk=>ld Q 4 k λl=>un Q .not l λm w=>cond m (K cF w) (aU H (λn=>ao Q 106 n 5 λa=>ld Q 3 a λb=>bT .eql 3 b (ci 0) λc w=>cond c (call Q 78 #[H] (λ_=>K cT) w) (aU H (λd=>ao Q 106 d 5 λe=>ld Q 3 e λf=>bT .sub 3 f (ci 1) λg=>aU H λi=>ao Q 106 i 5 λj=>sto Q 3 j g λ_=>K cF) w)) w)) w):Gives Q 64 #[H] w K:=au func64 kr (mpK h)
def Rp(h:box Q 180 Z (λa w=>aF (λS w=>hN S H λl=>hF S 106 l 2 λm=>hL S 104 m λn=>hL S 180 a λb=>bM Q 104 1 #[(0,b)] (λc=>aX S λ_=>blt Q .append #[104,104] 104 #[false,false] #[n,c] λd=>aF λS w=>hN S H λb=>hF S 106 b 2 λb=>sto Q 104 b d (λ_ w=>aF (λS w=>hF S 180 a 0 λb=>hL S 178 b λe=>hN S H λf=>hF S 106 f 1 λg=>hF S 180 a 1 λi=>hL S 101 i λj=>bA Q e #[g,j] (λ_=>call Q 64 #[H] λk w=>cond k (K (ci 8) w) (K (ci 0) w)) w) w.drew) w) w) w.drew) w):Gives Q 62 #[H,Z] w K:=au func62 kr (mpK h)
def Oq(h:box Q 3 U (λa=>call Q 56 #[H] λu=>bT .neq 26 u (ci 0) λb w=>cond b (K u w) (ld Q 3 a (λb=>call Q 57 #[b] λb=>un Q .not b λc w=>cond c (K (ci 1) w) (sN H (λd=>sF 106 d 1 λe=>sI 103 e (ci 0) λf=>sL 101 f λg=>sti (blt Q .len #[101] 3 #[false] #[g]) λi=>sN H λj=>sF 106 j 1 λk=>sI 103 k (ci 1) λl=>sL 101 l λm=>sti (blt Q .len #[101] 3 #[false] #[m]) λn=>sti (bF .add 3 i n) λo=>sti (blt Q .len #[101] 3 #[false] #[Z]) λp=>sti (bF .add 3 o p) λq=>sti (bT .gtr 3 q (ci 4194304)) λr w=>cond r (K (ci 7) w) (call Q 58 #[Z] (λs=>bld Q 180 #[(1,s),(2,cT),(0,.func (.func 259) #[] #[a])] λt=>call Q 62 #[H,t] K) w)) w.drew)) w)) w):Gives Q 239 #[H,U,Z] w K:=au func239 kr (mpK h)
def Lw(h:aF (λS w=>hL S 3 H λo=>hL S 3 H λp=>hN S Z λq=>hI S 103 q p λa=>hL S 101 a λb=>hL S 3 H λa=>hN S Z λc=>hI S 103 c a λa=>hL S 101 a λc=>hld S (blt Q .len #[101] 3 #[false] #[c]) λd=>hL S 3 H λe=>hN S Z λf=>hI S 103 f e λg=>hL S 101 g λi=>hld S (blt Q .len #[101] 3 #[false] #[i]) λj=>hld S (slc Q 101 b none (some d) (some j)) λk=>hN S Z λm=>blt Q .append #[101,101] 101 #[false,false] #[k,U] (λl=>aX S λS w=>hI S 103 m o λn=>sto Q 101 n l (λ_=>K (.tuple #[])) w) w) w.drew):Gives Q 259 #[Z,U,H] w K:=au func259 kr (mpK h)
def Ss(h:box Q 3 U (λa=>box Q 3 Z λq=>call Q 56 #[H] λx=>bT .neq 26 x (ci 0) λr w=>cond r (K x w) (sL 3 a (λb=>sti (call Q 57 #[b]) λb=>sti (un Q .not b) λb w=>aM b false (λo=>sL 3 q (λb=>sti (bT .lss 3 b (ci 0)) λs=>o [b,s]) w) (λk=>k [uu,uu] w) λm=>sti (pick b cT (gd m 1)) λc w=>aM c false (λp=>sL 3 q (λd=>sL 3 a λe=>sN H λf=>sF 106 f 1 λg=>sI 103 g e λi=>sL 101 i λj=>sti (blt Q .len #[101] 3 #[false] #[j]) λl=>sti (bF .gtr 3 d l) λt=>p [d,H,e,f,g,i,j,l,t]) w) (λk=>k [uu,uu,uu,uu,uu,uu,uu,uu,uu] w) λn=>sti (pick c cT (gd n 8)) λu w=>cond u (K (ci 1) w) (bld Q 180 #[(0,.func (.func 63) #[] #[a,q])] (λv=>call Q 62 #[H,v] K) w)) w.drew)) w):Gives Q 46 #[H,U,Z] w K:=au func46 kr (mpK h)
def Pc(h:sL 3 H (λf=>sL 3 H λg=>sN U λa=>sI 103 a g λb=>sL 101 b λc=>sL 3 Z λa=>sL 3 Z λb=>sti (slc Q 101 c none (some a) (some b)) λa=>sN U λd=>sI 103 d f λe=>sto Q 101 e a λ_=>K (.tuple #[])) w.drew):Gives Q 63 #[U,Y,H,Z] w K:=au func63 kr (mpK h)
def Ro(h:call Q 56 #[H] (λg=>bT .neq 26 g (ci 0) λi w=>cond i (K g w) (call Q 64 #[H] (λa w=>cond a (K (ci 8) w) (aU H (λa=>ao Q 106 a 1 λa=>ld Q 103 a λb=>aU H λc=>ao Q 106 c 0 λd=>sto Q 103 d b λ_=>aU H λe=>ao Q 106 e 2 λf=>sto Q 104 f cN λ_=>K (ci 0)) w)) w)) w):Gives Q 51 #[H] w K:=au func51 kr (mpK h)
def FX(h:call Q 56 #[H] (λg=>bT .neq 26 g (ci 0) λa w=>cond a (K (.tuple #[cN,g]) w) (call Q 57 #[Z] (λa=>un Q .not a λa w=>cond a (K (.tuple #[cN,ci 1]) w) (aU H (λb=>ao Q 106 b 1 λc=>aW Q 103 c Z λd=>ld Q 101 d λe=>call Q 58 #[e] λf=>K (.tuple #[f,ci 0])) w)) w)) w):Gives Q 42 #[H,Z] w K:=au func42 kr (mpK h)
def Su(h:bT .neq 66 H (.pointer none) (λa w=>cond a (aU H (λb=>ao Q 106 b 3 λc=>sto Q 4 c cT λ_=>aU H λd=>ao Q 106 d 4 λe=>sto Q 4 e cF λ_=>K (.tuple #[])) w) (K (.tuple #[]) w)) w):Gives Q 78 #[H] w K:=au func78 kr (mpK h)
def YU(h:lN 47 H (λi=>bF .geq 3 Z i λa w=>aM a false (λc=>aW Q 47 H Z (λa=>ld Q 3 a λb=>bT .lss 3 b (ci 0) λd=>c [H,Z,a,b,d]) w) (λk=>k [uu,uu,uu,uu,uu] w) λb=>pick a cT (gd b 4) λe w=>cond e (K (ci 0) w) (aW Q 47 H Z (λf=>ld Q 3 f λg=>bF .rem 3 g U K) w)) w):Gives Q 208 #[H,Z,U] w K:=au func208 kr (mpK h)
def xT(c a b d:oF)(zf:oD):=c::a::zT zf 2 3 (b::d::zT zf 7 74 ([]))
def JV(f a b g c d e:oF)(zf:oD):=f::a::zT zf 2 3 (b::g::zT zf 7 29 (c::d::e::zT zf 39 42 ([])))
def JW(d a b e c:oF)(zf:oD):=d::a::zT zf 2 3 (b::e::zT zf 7 47 (c::zT zf 55 26 ([])))
def xU(a b:oF)(zf:oD):=a::zT zf 1 5 (b::zT zf 7 74 ([]))
def uB(K:KV):KE:=ai Q (cd f193 [1,1,1,1]) (rk f193 K) xf (rk f193 K)
def oh(K:KV):KE:=kZ f193 (b1 63) K
def xV(K:KV):KE:=ai Q (cd f193 (b1 250)) (oh K) (xx xf (oh K) 1) (rk f193 K)
def mn(K:KV):KE:=kZ f193 (b1 127) K
def uD(K:KV):KE:=ai Q (cd f193 (b1 253)) (mn K) xf (rk f193 K)
def JX(h:bT .eql 66 H (.pointer none) (λa w=>cond a (K (ci 2) w) (aU H (λh=>ao Q 106 h 3 λc=>ld Q 4 c λd=>un Q .not d λb w=>cond b (K (ci 3) w) (aU H (λe=>ao Q 106 e 2 λf=>ld Q 104 f λg=>lN 104 g λi=>nC i λj=>call Q 208 #[Z,ci 0,j] λk=>aU H λl=>ao Q 106 l 0 λm=>ld Q 103 m λn=>alc Q 103 λU=>sto Q 103 U n λ_=>uB K (xT H Z k U (zV (zV zu 4 [ci 0]) 10 [a,H,a,b,H,h,c,d,b,Z,H,e,f,g,i,j,k,H,l,m,n]))) w)) w)) w):Gives Q 193 #[H,Z] w K:=by refine au func193 kr <|rpT [1,1,1,1] (cd f193 [1,1,1,1]) (cd f193 []) ?_;revert h;delta uB;generalize (cd f193 [1,1,1,1])=xc0;exact mpF
def Rn(h:aU Z (λa=>ao Q 106 a 2 λb=>ld Q 104 b λc=>slc Q 104 c none (some H) none λU=>lN 104 U λJ=>xV K (JV Z C H Y U J (ci 0) (zV zf 31 [Z,a,b,c,H]))) w):uB K (xT Z C H Y zf) w:=mpK h
def FV(Inv:oF->oG->Prop)(μ:oF->oG->Nat)(n:Inv J w)(o:∀(a:oF) (l:oD) (w:oG) (m:Nat),Inv a w->m=μ a w ->
  lS a U (λb w=>cond b (aW Q 104 Z a (λe=>ld Q 180 e λf=>alc Q 180 λd=>sto Q 180 d f λ_=>ao Q 180 d 0 λg=>ld Q 178 g λi=>ao Q 180 d 1 λj=>ld Q 101 j λk=>bA Q i #[H,k] λ_=>nC a λc w=>(Inv c w)/\((μ c w)<m)) w) (oh K (xT C Z1 Y H (zV l 36 [Z,U,a,b])) w)) w):xV K (JV C Z1 Y H Z U J zf) w:=by refine lV (cd f193 (b1 500)) [(8,1),(38,10)] 38 zf n o ?_;intro p q;exact mpF
def FW(h:aU Z (λa=>ao Q 106 a 2 λb=>ld Q 104 b λc=>lN 104 c λd=>lS H d λY=>uD K (JW Z J H U Y (zV zf 48 [H,Z,a,b,c,d]))) w):oh K (xT Z J H U zf) w:=by delta oh;refine rpT [0,1] (cd f193 (b1 253)) (cd f193 (b1 63)) ?_;revert h;delta uD mn;generalize (cd f193 (b1 253))=xc0;exact mpF
def AB(h:cond J (aU Z (λb=>ao Q 106 b 2 λc=>ld Q 104 c λd=>aW Q 104 d H λe=>ld Q 180 e λf=>alc Q 180 λa=>sto Q 180 a f λ_=>ao Q 180 a 2 λg=>ld Q 4 g λi w=>cond i (aF (λS w=>hF S 180 a 0 λj=>hL S 178 j λk=>hF S 180 a 1 λl=>hL S 101 l λm=>hF S 180 a 1 λn=>hL S 101 n λo=>hld S (blt Q .len #[101] 3 #[false] #[o]) λp=>hld (λ_=>True) (bT .add 3 p (ci 1)) λq=>call Q 208 #[U,ci 1,q] (λr=>aX S λS w=>hld S (slc Q 101 m none (some r) none) λs=>bA Q k #[Y,s] (λt=>mn K (xU Z Y (zV (zV (zV (zV zf 1 [U]) 5 [H]) 9 [a]) 54 [J,Z,b,c,d,H,e,f,g,i,j,k,l,m,U,n,o,p,q,r,s,t]))) w) w) w.drew) (mn K (xU Z Y (zV (zV (zV (zV zf 1 [U]) 5 [H]) 9 [a]) 54 [J,Z,b,c,d,H,e,f,g,i])) w)) w) (mn K (xU Z Y (zV (zV (zV zf 1 [U]) 5 [H]) 54 [J])) w)):uD K (JW Z U H Y J zf) w:=by delta uD;revert h;exact mpF
def AC(h:ld Q 103 H (λa=>ld Q 103 H λb=>bld Q 106 #[(0,a),(1,b)] λc=>aU Z λd=>sto Q 106 d c λ_=>K (ci 0)) w):mn K (xU Z H zf) w:=mpK h
attribute [irreducible] uB oh xV mn uD
def Pd(h:bT .eql 66 H (.pointer none) (λa w=>cond a (K (ci 0) w) (aU H (λa=>ao Q 106 a 2 λb=>ld Q 104 b λc=>lN 104 c K) w)) w):Gives Q 50 #[H] w K:=au func50 kr (mpK h)
def Rm(h:bT .neq 66 H (.pointer none) (λc w=>cond c (bT .geq 3 Z (ci 0) (λd=>aU H λa=>ao Q 106 a 4 λb=>sto Q 4 b d λ_=>aU H λa=>ao Q 106 a 5 λa=>sto Q 3 a Z λ_=>K (.tuple #[])) w) (K (.tuple #[]) w)) w):Gives Q 192 #[H,Z] w K:=au func192 kr (mpK h)
def Pe(h:bT .neq 66 H (.pointer none) (λa w=>aM a true (λf=>aU H (λc=>ao Q 106 c 3 λd=>ld Q 4 d λe=>un Q .not e λa=>f [H,c,d,e,a]) w) (λk=>k [uu,uu,uu,uu,uu] w) λb=>pick a (gd b 4) cF K) w):Gives Q 33 #[H] w K:=au func33 kr (mpK h)
section
attribute [local irreducible] bin un conv call bA blt slc ao fld aW idx lkp fk mW eSt rng nxt ent ext alc box bld bM ld sto aU fl mkS ifc pick rdy wts aM sti cond aY Gives ai iy ke cOp
def ziE:BitVec 32:=0xedb88320#32
def cst(s:BitVec 32):BitVec 32:=(s >>> 1) ^^^ (if s.getLsbD 0 then ziE else 0#32)
def Sr:Nat->BitVec 32->BitVec 32
 | 0,s=>s
 | n+1,s=>cst (Sr n s)
def Uo(c:UInt8):BitVec 32:=BitVec.ofNat 32 c.toNat
def MC(s:BitVec 32)(l:List UInt8):BitVec 32:=l.foldl (λs c=>Sr 8 (s ^^^ Uo c)) s
def BJ(a:BitVec 32)(l:List UInt8):BitVec 32 := ~~~ (MC (~~~ a) l)
def YR(s:BitVec 32)(x y:List UInt8):MC s (x++y)=MC (MC s x) y:=by simp[MC,List.foldl_append]
def YS(s:BitVec 32)(x y:List UInt8):BJ (BJ s x) y=BJ s (x++y):=by simp[BJ,YR]
def zcY(s:BitVec 32)(x:List UInt8)(c:UInt8):MC s (x++[c])=Sr 8 (MC s x ^^^ Uo c):=by rw[YR];rfl
def sT(s:BitVec 32):oF:=.int .u32 (s.toNat:Int)
section
variable {P:Program}
def Cq(s:BitVec 32):BitVec.ofInt 32 (s.toNat:Int)=s:=by rw[BitVec.ofInt_natCast];simp
def Xo(s:BitVec 32):IntKind.u32.wrap (s.toNat:Int)=(s.toNat:Int):=by rw[NW];have:=s.isLt;omega
def zgx{x y:BitVec 32}(h:K (sT (x ^^^ y)) w):bin P .xor t cx cy (sT x) (sT y) K w:=by
 refine QG ?_;have e:qy .xor .u32 (x.toNat:Int) (y.toNat:Int)=((x ^^^ y).toNat:Int):=by
  show IntKind.u32.wrap ((BitVec.ofInt 32 (x.toNat:Int) ^^^ BitVec.ofInt 32 (y.toNat:Int)).toNat:Int)=_;rw[Cq,Cq];exact Xo _
 rw[e];exact h
def zk6{x y:BitVec 32}(h:K (sT (x &&& y)) w):bin P .and t cx cy (sT x) (sT y) K w:=by
 refine VT ?_;have e:qy .and .u32 (x.toNat:Int) (y.toNat:Int)=((x &&& y).toNat:Int):=by
  show IntKind.u32.wrap ((BitVec.ofInt 32 (x.toNat:Int) &&& BitVec.ofInt 32 (y.toNat:Int)).toNat:Int)=_;rw[Cq,Cq];exact Xo _
 rw[e];exact h
def zg7{x:BitVec 32}(h:K (sT (~~~ x)) w):un P .xor (sT x) K w:=by
 refine zjS ?_;have e:qy .xor .u32 (if IntKind.u32.signed=true then -1 else IntKind.u32.max) (x.toNat:Int)=((~~~ x).toNat:Int):=by
  rw[show (if IntKind.u32.signed=true then -1 else IntKind.u32.max)=(((BitVec.allOnes 32).toNat:Nat):Int)from rfl];show IntKind.u32.wrap ((BitVec.ofInt 32 ((BitVec.allOnes 32).toNat:Int) ^^^ BitVec.ofInt 32 (x.toNat:Int)).toNat:Int)=_;rw[Cq,Cq,BitVec.allOnes_xor];exact Xo _
 rw[e];exact h
def zkJ{x:BitVec 32}{k:IntKind}(h:K (sT (x >>> 1)) w):bin P .shr t cx cy (sT x) (.int k 1) K w:=by
 refine Hq oo ?_;have e:((x.toNat:Int)).fdiv (2 ^ min (1:Int).toNat IntKind.u32.bits)=((x >>> 1).toNat:Int):=by
  rw[show (2:Int) ^ min (1:Int).toNat IntKind.u32.bits=2 from rfl,BitVec.toNat_ushiftRight,Nat.shiftRight_eq_div_pow,Int.fdiv_eq_ediv_of_nonneg _ oo];omega
 rw[e];exact h
def zkz{x y:BitVec 32}(h:K (sT (x*y)) w):bin P .mul t cx cy (sT x) (sT y) K w:=by
 refine VU ?_;have e:IntKind.u32.wrap ((x.toNat:Int)*(y.toNat:Int))=((x*y).toNat:Int):=by
  rw[NW,BitVec.toNat_mul];omega
 rw[e];exact h
def zgC(s:BitVec 32):s &&& 1#32=if s.getLsbD 0 then 1#32 else 0#32:=by
 apply BitVec.eq_of_toNat_eq;rw[BitVec.toNat_and];have a:(1#32).toNat=1:=rfl;rw[a,Nat.and_one_is_mod];have b:s.getLsbD 0=decide (s.toNat%2=1):=by simp[BitVec.getLsbD,Nat.testBit_zero]
 rw[b];by_cases h:s.toNat%2=1
 .simp[h]
 .simp[h];omega
end
def zec{s:BitVec 32}(h:K (sT (Sr 8 s)) w):call Q 117 #[sT s] K w:=by
 refine aj (goK func117) (W7 ?_);refine Sp (Inv:=λx i c=>∃j:Nat,j<=8/\i=ci (j:Nat)/\x=sT (Sr j s)/\c=w) (μ:=λ_ i _=>8-(intOf i).toNat) ⟨0,by omega,rfl,rfl,rfl⟩ ?_;rintro _ _ _ e m ⟨j,d,rfl,rfl,rfl⟩ b;by_cases a:j<8
 ·(repeat (first|refine aL ?_|refine ay oo ?_))
  refine zkJ <|zk6 (y:=1#32) <|zkz (x:=ziE) <|zgx ?_
  (repeat (first|refine aR oo oo ?_))
  refine⟨⟨j+1,by omega,by simp,?_,rfl⟩,by rw[b];simp only[intOf];omega⟩;show sT _=sT (cst (Sr j s));rw[zgC];unfold cst;cases (Sr j s).getLsbD 0<;>simp
 .have:j=8:=by omega
  subst this
  (repeat (first|refine Sq ?_|refine aL ?_|refine aA ?_))
  exact h
def ziw{c:UInt8}(h:K (sT (Uo c)) w):conv Q 5 220 (.int .u8 (c.toNat:Int)) K w:=by
 refine dE underlying5 underlying220 ?_;have e:IntKind.u32.wrap (c.toNat:Int)=((Uo c).toNat:Int):=by
  have:=c.toNat_lt
  rw[NW];simp only[Uo,BitVec.toNat_ofNat];omega
 rw[e];exact h
def zcI(l:List UInt8)(j:Nat)(h:j<l.length):l.take (j+1)=l.take j++[l.getD j 0]:=by rw[List.take_succ_eq_append_getElem h];simp[List.getD,h]
def ZO{s:BitVec 32}{n:Nat}{l:List UInt8}(b:RB w a n c l)(p:n<=9223372036854775807)(h:K (sT (BJ s l)) w):call Q 96 #[sT s,.slice a n c] K w:=by
 have o:=b.len;refine aj (goK func96) (zaz ?_);refine zg7 ?_
 (repeat (first|refine wW ?_))
 refine XW (Inv:=λx i g=>∃j:Nat,j<=n/\i=ci (j:Nat)/\x=sT (MC (~~~ s) (l.take j))/\g=w) (μ:=λ_ i _=>n-(intOf i).toNat) ⟨0,by omega,rfl,by simp[MC],rfl⟩ ?_;rintro _ _ _ q m ⟨j,k,rfl,rfl,rfl⟩ f;by_cases e:j<n
 ·(repeat (first|refine aL ?_|refine ay oo ?_))
  refine zeZ b oo oo ?_;intro d;refine ld8 d <|ziw <|zgx <|zec ?_
  (repeat (first|refine aR oo oo ?_))
  refine⟨⟨j+1,by omega,by simp,?_,rfl⟩,by rw[f];simp only[intOf];omega⟩;rw[zcI _ _ oo,zcY];simp
 .have:j=n:=by omega
  subst this
  (repeat (first|refine XX ?_|refine aL ?_|refine ax oo ?_))
  refine zg7 ?_;rw[tL oo];exact h
def zgs{n:Nat}{l:List UInt8}(b:RB w a n c l)(d:n<=9223372036854775807)(h:K (sT (BJ 0 l)) w):call Q 97 #[.slice a n c] K w:=by refine aj (goK func97) (zbY ?_);exact ZO (s:=0) b d h
def zag(l:List UInt8):List UInt8:=bf (BJ 0 l).toNat 4
def rX(s:List UInt8):List UInt8:=bf s.length 4++zag (bf s.length 4++s)++s
def aK:List (List UInt8)->List UInt8
 | []=>[]
 | s::r=>rX s++aK r
def okR(L:List (List UInt8)):Prop:=∀s∈L,s.length<=4096
def rB(b:List UInt8)(p:Nat):Option (List UInt8×Nat) :=
 if p+8<=b.length/\ey ((b.drop p).take 4)<=4096/\p+8+ey ((b.drop p).take 4)<=b.length /\
   (BJ 0 (bf (ey ((b.drop p).take 4)) 4++(b.drop (p+8)).take (ey ((b.drop p).take 4)))).toNat=ey ((b.drop (p+4)).take 4)
 then some ((b.drop (p+8)).take (ey ((b.drop p).take 4)),p+8+ey ((b.drop p).take 4))else none
def tV(b:List UInt8):Nat->Nat->List (List UInt8)×Nat
 | 0,p=>([],p)
 | f+1,p=>match rB b p with|none=>([],p)|some (s,q)=>(s::(tV b f q).1,(tV b f q).2)
def CE(s:List UInt8):(rX s).length=8+s.length:=by simp[rX,zag,bE];omega
def xH(x y:List (List UInt8)):aK (x++y)=aK x++aK y:=by
 induction x with
 | nil=>rfl
 | cons s r ih=>simp[aK,ih]
def KM(L:List (List UInt8)):(aK L).length=8*L.length+FU L:=by
 induction L with
 | nil=>rfl
 | cons s r ih=>simp only[aK,oT,CE,ih,oZ,FU];omega
def PB(L:List (List UInt8))(j:Nat)(s:List UInt8)(h:L[j]? = some s):aK (L.take (j+1))=aK (L.take j)++rX s:=by have a:=gS h;rw[List.take_succ_eq_append_getElem a.1,xH,a.2];simp[aK]
def zee{l:List UInt8}{p:Nat}(h:p+4<=l.length):rN l p 4=(ey ((l.drop p).take 4),(p:Int)+4,0):=by unfold rN;rw[oI (by rintro(a|a|a)<;>first|exact qI a dc|omega),oI oo];rfl
def zcH{l:List UInt8}{p:Nat}(h:l.length<p+4):(rN l p 4).2.2≠0:=by
 unfold rN;split
 .decide
 .rw[oJ oo];decide
def YI(l:List UInt8)(p:Nat):ey ((l.drop p).take 4)<4294967296:=by
 have:=Mz ((l.drop p).take 4)
 have a:((l.drop p).take 4).length<=4:=by simp;omega
 have b:256 ^ ((l.drop p).take 4).length<=256 ^ 4:=Nat.pow_le_pow_right oo a;omega
def zgj{cs:Array Bool}{n:Nat}(h:K (ci (n:Int)) w):blt Q .len #[111] E cs #[.slice av n c] K w:=zkt h
def Pw{x:Nat}(g:x<4294967296)(h:∀a b c' S,OB S w.heap.size a b c' (bf x 4)->Below w.heap.size w S->K (.slice a b c') S):call Q 98 #[.int .u32 (x:Int)] K w:=by
 refine aj (goK func98) (UP ?_);refine dE underlying220 underlying36 ?_;rw[eJ,show (x:Int)%18446744073709551616=((x:Nat):Int)by omega];refine put_c (l:=[]) (k:=4) (RV.nil w) oo oo ?_;rw[show FO [] x 4=(bf x 4,0)by unfold FO;rw[oI dc,oI (by show ¬256 ^ 4<=x;omega)];rfl];intro e i f j d c
 (repeat (first|refine bo ?_|refine bj ?_))
 exact h _ _ _ _ d c
def zek{x:Nat}(h:x<4294967296):IntKind.u32.wrap (x:Int)=(x:Int):=by rw[NW];omega
def ziT{vs:List (Option Addr×Nat×Nat)}{L:List (List UInt8)}(hL:RBB w a2 b c2 vs L)(U:b<=4294967296)(hv:FU L<=1000000000000)(ok:okR L)(h:∀c n c' w',OB w' w.heap.size c n c' (aK L)->Below w.heap.size w w'->K (.tuple #[.slice c n c',ci 0]) w'):call Q 258 #[.slice none 0 0,.slice a2 b c2] K w:=by
 have S:=hL.lenL;refine aj (goK func258) (Zr ?_);refine Hr (l:=[]) (RV.nil w) oo ?_;intro a1 c1 w1 X H;refine zgj ?_;refine Wn (Inv:=λy i G=>∃(j:Nat) (c:Option Addr) (n c':Nat),j<=b/\i=ci (j:Nat)/\y=.slice c n c'/\OB G w.heap.size c n c' (aK (L.take j))/\Below w.heap.size w G)
  (μ:=λ_ i _=>b-(intOf i).toNat) ⟨0,_,_,_,by omega,rfl,rfl,by simpa[aK]using X,H⟩ ?_
 rintro _ _ _ w2 m ⟨j,a3,n3,c3,hj,rfl,rfl,o,p⟩ T;by_cases R:j<b
 ·(repeat (first|refine aL ?_|refine ay oo ?_))
  refine zgg (hL.below p oA) oo oo ?_;intro v s g a P z;rw[oQ]at g a;refine zj8 P ?_;have u:=z.len;have V:=ok s (mO a);have r:=o.len;rw[KM,qA]at r;have A:=zel L j s a
  (repeat (first|refine cH ?_|refine wW ?_|refine ax oo ?_))
  refine dE underlying3 underlying220 ?_;rw[zek oo];refine Pw oo ?_;intro a4 n4 c4 w4 x d;have N:=x.len;rw[bE]at N;refine zgs x.rb oo ?_;have t:=z.below d oA;refine ZO t oo ?_;have s3:=p.size;have s4:=d.size;refine OT w.heap.size (o.below d oA) x.rb oo oo ?_;intro a5 c5 w5 D I
  have B:Below w.heap.size w4 w5:=bX I oo (λk f=>(OV.block (OB.below o d oA) k f).1);refine Pw (BitVec.isLt _) ?_;intro a6 n6 c6 w6 E q;have O:=E.len;rw[bE]at O;have s5:=B.size;have s6:=q.size;refine OT w.heap.size (OB.below D q oA) E.rb oo oo ?_;intro a7 c7 w7 F J
  have C:Below w.heap.size w6 w7:=bX J oo (λk f=>(OV.block (OB.below D q oA) k f).1);have s7:=C.size;have B7:=(((p.trans (d.mono s3)).trans B).trans (q.mono oo)).trans C;have Z:RB w7 v.1 v.2.1 v.2.2 s:=(hL.below B7 oA).each j v s g a;refine OT w.heap.size F Z oo oo ?_;intro a8 c8 w8 Y M
  have W:Below w.heap.size w7 w8:=bX M oo (λk f=>(OV.block F k f).1)
  (repeat (first|refine aR oo oo ?_))
  refine⟨⟨j+1,_,_,_,by omega,by simp,rfl,?_,B7.trans W⟩,by rw[T];simp only[intOf];omega⟩;rw[PB L j s a];have e:aK (L.take j)++rX s=aK (L.take j)++bf v.2.1 4++bf (BJ (BJ 0 (bf v.2.1 4)) s).toNat 4++s:=by
   rw[YS];simp only[rX,zag,u,jE]
  rw[e];exact Y
 .have:j=b:=by omega
  subst this;rw[tL oo]at o
  (repeat (first|refine Wo ?_|refine aL ?_|refine ax oo ?_))
  exact h _ _ _ _ o p
def MX:fU Q 199 0 0 b o K w:=aJ kr
def wR:fU Q 199 1 1 b o K w:=aJ kr
def Se:fU Q 201 0 0 b o K w:=aJ kr
def RB.oth{p:Nat}{n:Nat}{l:List UInt8}(h:RB w a n c l)(g:Oth p w S)(j:0<n->∀d,a=some d->d.block≠p):RB S a n c l :=
 ⟨RV.len h,RV.cap h,RV.some_ h,RV.nil_ h,λi v f=>by
  have e:=RV.cell h i v f
  have k:i<n:=by have:=(gS f).1;rw[RV.len h]at this;exact this
  obtain⟨b,o,rfl⟩:=RV.some_ h oo
  rw[uW]at e |-
  rw[World.cell?_of_block (w:=w) (g.other b (j oo _ rfl))];exact e⟩
def Q8{p q:Nat}{v:Option Addr×Nat×Nat}{b:List UInt8}(h:blk w p E [slv v,ci (q:Nat)])(j:RB w v.1 v.2.1 v.2.2 b)(s:v.2.1<=4294967296)(m:b.length<q+4->∀S,Below w.heap.size w S->blk S p E [slv v,ci (q:Nat)]->K (.tuple #[.int .u32 0,.bool false]) S)(n:q+4<=b.length->∀S,blk S p E [slv v,ci ((q+4:Nat):Int)]->Keep [E] p w S->K (.tuple #[.int .u32 (ey ((b.drop q).take 4):Nat),.bool true]) S):call Q 95 #[ptr p] K w:=by
 have r:=j.len;refine aj (goK func95) (LD ?_);refine aw (λw=>blk w p E [slv v,ci (q:Nat)]) h <|hZ <|hW MX <|ac (λw c _=>lK c rfl) <|hZ <|hW wR <|ac (λw c _=>lK c rfl) <|zeg (w:=w.drew) (l:=b) j.drew oo <|hRT <|ac (λw c _=>UK) <|ac (λw c _=>UL) <|ac (λw c _=>UM) ?_;have d:blk w.drew p E [slv v,ci (q:Nat)]:=h;by_cases i:q+4<=b.length
 .rw[zee i]
  (repeat (first|refine aZ ?_|refine aA ?_))
  refine aq <|wR <|cq Jh d oB rfl ?_;intro k e g;refine dE underlying36 underlying220 ?_;have f:=YI b q;rw[zek f];refine n i k ?_ (g.keep (w:=w.drew) d oB oA).undrew;have e:blk k p E [slv v,ci ((q:Int)+4)]:=e;rw[show ((q+4:Nat):Int)=(q:Int)+4 by omega];exact e
 .have o:=zcH (l:=b) (p:=q) oo;exact aZ <|ay o (m oo _ ((jU _ w).drew) d)
def Fh{b:List UInt8}{q:Nat}(h : ¬(q+8<=b.length/\ey ((b.drop q).take 4)<=4096/\q+8+ey ((b.drop q).take 4)<=b.length /\
   (BJ 0 (bf (ey ((b.drop q).take 4)) 4++(b.drop (q+8)).take (ey ((b.drop q).take 4)))).toNat=ey ((b.drop (q+4)).take 4))):rB b q=none:=oI h
def zj6{p:Nat}{v:Option Addr×Nat×Nat}{x:oF}(a:blk w p E [slv v,x])(h:K (.slice v.1 v.2.1 v.2.2) w):ld Q 101 (pA p (0+0)) K w:=lK a rfl h
def zfg{p:Nat}{v:Option Addr×Nat×Nat}{x:oF}(a:blk w p E [slv v,x])(h:K x w):ld Q 3 (pA p (0+1)) K w:=lK a rfl h
def zhT{n q:Nat}{l:List UInt8}(i:RB w av n c l)(k:q<=n)(h:∀g,RB w g (n-q) (c-q) (l.drop q)->(∀f,g=some f->∃d,av=some d/\f.block=d.block)->K (.slice g (n-q) (c-q)) w):slc Q 101 (.slice av n c) (some (ci (q:Nat))) none none K w:=by
 have e:=RV.cap i;have j:(Instr.sliceBounds true n c (some (ci (q:Nat))) none none).run Q w=.ok (q,n,c) w:=by
  have:=run_sliceBound (P:=Q) w .i64 (q:Int) n .sliceB oo oo
  simp[Instr.sliceBounds]at this |-;rw[this];simp
 have b:=i.cut q n c k e oA oA;rw[tL (by rw[i.len];exact Nat.le_refl _)]at b;unfold slc;refine dR (w':=w) ?_ (h (if c=q then av else av.map (·.add (q*1))) b ?_)
 .simp only[Instr.sliceAt,Instr.slice,jY,jX,jW,jZ underlying101,Cr,j]
 .intro f a;split at a
  .exact⟨f,a,rfl⟩
  .cases av with
   | none=>cases a
   | some a0 =>
    simp only[jP,qD]at a;subst a;refine⟨a0,rfl,?_⟩;unfold Addr.add;split<;>rfl
def RB.upTo{n:Nat}{l:List UInt8}(h:RB w a n c l)(j:m<=n):RB w a m c (l.take m):=by
 have d:=RV.cap h;have g:=h.len;refine⟨by simp;omega,by omega,λf=>RV.some_ h oo,λe=>?_,λi u b=>?_⟩
 .have:=RV.nil_ h e
  omega
 .refine RV.cell h i u ?_;rw[List.map_take,List.getElem?_take]at b;split at b
  .exact b
  .cases b
def zdO{p q:Nat}{v:Option Addr×Nat×Nat}{b:List UInt8}(G:blk w p E [slv v,ci (q:Nat)])(o:RB w v.1 v.2.1 v.2.2 b)(O:v.2.1<=4294967296)(hq:q<=b.length)(P:0<v.2.1->∀D,v.1=some D->D.block≠p)(h0:rB b q=none->∀w',Below w.heap.size w w'->blk w' p E [slv v,ci (q:Nat)]->K (.tuple #[.slice none 0 0,.bool false]) w')(h1:∀s q2,rB b q=some (s,q2)->∀a n c w',OB w' w.heap.size a n c s->blk w' p E [slv v,ci (q2:Nat)]->Keep [E] p w w'->K (.tuple #[.slice a n c,.bool true]) w'):call Q 77 #[ptr p] K w:=by
 have hl:=o.len;refine aj (goK func77) (LF ?_);refine aq <|ldA (n:=2) underlying199 rfl kr G rfl rfl <|bO (z:=.agg #[.slice none 0 0,ci 0]) kr ?_;intro w1 U b1 s1;refine eW (n:=2) kr rfl U (by show 0+2<=2;omega) (by simp only[List.take,List.drop,oO,oR,or_false];rintro u (rfl|rfl)<;>rfl) ?_;intro w2 j R
 have j:blk w2 w.heap.size 199 [slv v,ci (q:Nat)]:=j;have B2:=b1.trans R.below;have S2:=B2.size;have y:=G.lt;have g:∀{w':oG},Below w.heap.size w w'->rB b q=none->K (.tuple #[.slice none 0 0,.bool false]) w':=λr d=>h0 d _ r (ae r G y);refine Q8 j (o.below B2 oA) O ?_ ?_
 ·-- not even a length
  intro i w3 b3 k;have d:rB b q=none:=Fh oo;have B3:=B2.trans (b3.mono S2)
  (repeat (first|refine bo ?_|refine bj ?_))
  refine Q8 k (o.below B3 oA) O ?_ ?_
  .intro _ w4 I f
   (repeat (first|refine bo ?_|refine bj ?_))
   refine bc ?_
   (repeat (first|refine cA ?_|refine aV ?_|refine iH ?_))
   exact g (B3.trans (I.mono B3.size)) d
  .intro hh;omega
 intro ab w3 k k3;have B3:=B2.trans (k3.below (by have:=j.lt;omega));have A:=YI b q
 (repeat (first|refine bo ?_|refine bj ?_))
 refine Q8 k (o.below B3 oA) O ?_ ?_
 .intro i w4 I f;have d:rB b q=none:=Fh oo
  (repeat (first|refine bo ?_|refine bj ?_))
  refine bc ?_
  (repeat (first|refine fF ?_))
  refine bc ?_
  (repeat (first|refine cA ?_|refine bZ ?_|refine aV ?_|refine iH ?_))
  exact g (B3.trans (I.mono B3.size)) d
 intro ac w4 f k4;have B4:=B3.trans (k4.below (by have:=k.lt;omega));have aa:=YI b (q+4);generalize F:ey ((b.drop q).take 4)=N at *;generalize X:ey ((b.drop (q+4)).take 4)=M at *
 (repeat (first|refine bo ?_|refine bj ?_))
 refine bc ?_
 (repeat (first|refine fF ?_))
 refine bc ?_
 (repeat (first|refine cH ?_|refine bZ ?_|refine fF ?_))
 by_cases Y:4096<N
 .have d:rB b q=none:=Fh (by rw[F];omega)
  (repeat (first|refine aV ?_|refine mF oo ?_|refine bI oo ?_))
  exact g B4 d
 have x:∀{w':oG} {K':KV},K' (ci (N:Int)) w'->conv Q 220 3 (.int .u32 (N:Int)) K' w':=by
  intro w' K' hK;refine dE underlying220 underlying3 ?_;rw[fM oo oo];exact hK
 (repeat (first|refine df oo ?_))
 refine x <|MX <|zj6 f ?_
 (repeat (first|refine wW ?_))
 refine wR <|zfg f ?_
 (repeat (first|refine cH ?_|refine bL oo oo ?_|refine bw oo ?_))
 by_cases Z:b.length<q+8+N
 .have d:rB b q=none:=Fh (by rw[F];omega)
  (repeat (first|refine ay oo ?_))
  exact g B4 d
 have S:=o.below B4 oA
 (repeat (first|refine ax oo ?_))
 refine MX <|zj6 f <|wR <|zfg f ?_;rw[show ((q+4+4:Nat):Int)=((q+8:Nat):Int)by omega]at *;refine zhT S oo ?_;intro a5 r5 t;have r6:=r5.upTo (m:=N) oo;refine VG (s:=1) (m:=N) underlying101 Cr (by have:=RV.cap o;omega) ?_;generalize T:(b.drop (q+8)).take N=s at *;have af:s.length=N:=by rw[<-T];simp;omega
 (repeat (first|refine Jz ?_))
 refine Pw A ?_;intro a7 n7 c7 w7 o7 J;have B7:=B4.trans (J.mono B4.size);have h7:=o7.len;rw[bE]at h7;refine zgs o7.rb oo ?_;have r7:=r6.below J oA;refine ZO r7 oo ?_;rw[YS];refine aZ ?_;have V:=ae J f f.lt;by_cases C:(BJ 0 (bf N 4++s)).toNat=M
 case neg =>
  have d:rB b q=none:=Fh (by rw[F,X,T];omega);exact ay oo (g B7 d)
 have d:rB b q=some (s,q+8+N):=by
  unfold rB;rw[F,X,T,oJ ⟨by omega,by omega,by omega,C⟩]
 refine ax oo <|wR <|zfg V <|x ?_
 (repeat (first|refine aR oo oo ?_))
 refine aq <|wR ?_;have B:=ae B7 G y;refine cq Jh B oB rfl ?_;intro w8 h l;have h:blk w8 p E [slv v,ci (((q+8:Nat):Int)+(N:Int))]:=h;have r8:RB w8 a5 N (v.2.2-(q+8)) s:=r7.oth l (λ_ D L=>by
  obtain⟨H,h2,e⟩:=t D L;rw[e];exact P oo H h2)
 refine Hr r8 oo ?_;intro a9 c9 w9 o9 W;have K9:Keep [E] p w w9:=((Keep.of B7).trans (l.keep B oB oA)).trans (Keep.of W);refine h1 s _ d a9 N c9 w9 (OV.mono o9 ?_) ?_ K9
 .have e1:=B7.size;have e2:=l.size;omega
 .have:=ae W h h.lt
  rw[show ((q+8+N:Nat):Int)=((q+8:Nat):Int)+(N:Int)by omega];exact this
def FR(w:oG)(B p:Nat)(b:List UInt8)(q:Nat):Prop:=∃v:Option Addr×Nat×Nat,blk w p 201 [slv v,ci (q:Nat)]/\OB w B v.1 v.2.1 v.2.2 b/\B<=p/\(∀a,v.1=some a->a.block<p)/\q<=b.length/\b.length<=4294967296
def ziS{n:Nat}{b:List UInt8}(k:RB w a n c b)(r:n<=4294967296)(h:∀p S,FR S w.heap.size p b 0->Below w.heap.size w S->K (ptr p) S):call Q 59 #[.slice a n c] K w:=by
 have q:=k.len;refine aj (goK func59) (Zq ?_);refine Hr k oo ?_;intro d f t l e;refine ck (vs:=[slv (d,n,f),ci 0]) kr <|ck (vs:=[slv (d,n,f),ci 0]) kr <|bu ?_;intro o g j s;refine h _ o ⟨(d,n,f),g,OB.below l j oA,e.size,λi m=>?_,by omega,by omega⟩ (tB e j)
 have:=(OV.block l i.block (by rw[show d=some i from m];rfl)).2
 exact this
def zh2{B p q:Nat}{b:List UInt8}(z:FR w B p b q)(t:rB b q=none->∀S,Below w.heap.size w S->FR S B p b q->K (.tuple #[.slice none 0 0,.bool false]) S)(u:∀s i,rB b q=some (s,i)->∀a n c S,OB S w.heap.size a n c s->FR S B p b i->Keep [201] p w S->K (.tuple #[.slice a n c,.bool true]) S):call Q 60 #[ptr p] K w:=by
 obtain⟨v,y,h,l,f,m,g⟩:=z;have A:=h.len;refine aj (goK func60) (MY ?_);refine dZ (v:=.bool false) (by unfold eqG eqGuard;rfl) kr ?_
 (repeat (first|refine aA ?_))
 refine aq <|Se ?_;refine zdO (v:=v) y h.rb oo m (λ_ r x=>by have:=f r x;omega) ?_ ?_
 .intro d j k e
  (repeat (first|refine bo ?_|refine bj ?_))
  exact t d j k ⟨v,e,OB.below h k oA,l,f,m,g⟩
 .intro s i d a n c j C e o
  (repeat (first|refine bo ?_|refine bj ?_))
  refine u s i d a n c j C ⟨v,e,h.keep o dc,l,f,?_,g⟩ o;unfold rB at d;split at d
  .rename_i D;cases d;omega
  .cases d
def zkn{B p q:Nat}{b:List UInt8}(d:FR w B p b q)(h:K (ci (q:Nat)) w):call Q 61 #[ptr p] K w:=by
 obtain⟨v,a,g,f,e,i,c⟩:=d;refine aj (goK func61) (PA ?_);refine dZ (v:=.bool false) (by unfold eqG eqGuard;rfl) kr ?_
 (repeat (first|refine aA ?_))
 exact aq <|Se <|wR <|lK a rfl h
def tU(b:List UInt8):List (List UInt8)×Nat:=tV b (b.length+1) 0
def XI{b:List UInt8}{q:Nat}{s:List UInt8}(h:rB b q=some (s,c)):c=q+8+s.length/\c<=b.length/\s.length<=4096/\s=(b.drop (q+8)).take s.length/\s.length=ey ((b.drop q).take 4)/\(BJ 0 (bf s.length 4++s)).toNat=ey ((b.drop (q+4)).take 4):=by
 unfold rB at h;split at h
 .rename_i e;obtain⟨g,a,i,d⟩:=e;simp only[qD,Prod.mk.injEq]at h;obtain⟨rfl,rfl⟩:=h;have f:((b.drop (q+8)).take (ey ((b.drop q).take 4))).length=ey ((b.drop q).take 4):=by rw[qA,qB];omega
  rw[f];exact⟨rfl,by omega,a,rfl,rfl,d⟩
 .cases h
def OBB.keep{T:List TypeId}{B:Nat}{n:Nat}{vs:List (Option Addr×Nat×Nat)}{L:List (List UInt8)}(h:OBB w B2 a n c vs L)(j:Keep T B w S)(k:5∉T)(m:101∉T):OBB S B2 a n c vs L:=by
 refine⟨⟨h.row.1,?_⟩,h.len,λi v l f s=>(h.each i v l f s).keep j k⟩;rcases h.row.2 with o|⟨g,b,d,f,p,q,r⟩
 .exact .inl o
 .exact .inr ⟨g,b,d,f,p,j.block _ _ q (.inr λt a z e=>by cases e;exact m),r⟩
def FR.keep{T:List TypeId}{B p q:Nat}{b:List UInt8}(h:FR w B2 p b q)(a:Keep T B w S)(c:5∉T)(d:201∉T):FR S B2 p b q:=by obtain⟨v,e,f,r⟩:=h;exact⟨v,a.blk e (.inr d),f.keep a c,r⟩
def FR.below{B p q:Nat}{b:List UInt8}(h:FR w B p b q)(a:Below w.heap.size w S):FR S B p b q:=h.keep (Keep.of a:Keep [] 0 w S) oB oB
def zhv{B:Nat}{n:Nat}{vs:List (Option Addr×Nat×Nat)}{L:List (List UInt8)}(h:OBB w B a n c vs L):L.length=n:=h.rbb.lenL
def ziR{n:Nat}{b:List UInt8}(F:RB w a n c b)(V:n<=4294967296)(h:∀j i c' vs w',OBB w' w.heap.size j i c' vs (tU b).1->Below w.heap.size w w'->K (.tuple #[.slice j i c',ci (tU b).2]) w'):call Q 43 #[.slice a n c] K w:=by
 have hl:=F.len;refine aj (goK func43) (Zp ?_);refine ziS F V ?_;intro p w1 O M;refine Wm (Inv:=λx C=>∃(j:Option Addr) (i c':Nat) (vs:List (Option Addr×Nat×Nat)) (L:List (List UInt8)) (f q:Nat),x=.slice j i c'/\OBB C w.heap.size j i c' vs L/\FR C w.heap.size p b q/\Below w.heap.size w C /\
   q<=b.length/\b.length<q+f/\8*L.length<=q/\tU b=(L++(tV b f q).1,(tV b f q).2)) (μ:=λx _=>match x with | .slice _ i _=>4294967297-i|_=>0) ⟨none,0,0,[],[],b.length+1,0,rfl,OBB.nil _ _,O,M,by omega,by omega,by simp,by simp[tU]⟩ ?_
 rintro _ _ w2 m ⟨a2,A,c2,vs,L,f,q,rfl,y,E,k,hq,T,h8,e⟩ U;obtain⟨t,rfl⟩:∃t,f=t+1:=⟨f-1,by omega⟩
 have S:=zhv y;refine zh2 E ?_ ?_
 .intro d w3 D u;have g:tU b=(L,q):=by rw[e];simp[tV,d]
  rw[g]at h
  (repeat (first|refine bo ?_|refine bj ?_))
  refine bc ?_
  (repeat (first|refine aV ?_))
  refine zkn u ?_
  skip
  exact h _ _ _ _ _ (y.below D oA) (tB k D)
 .intro s Y d o B r w3 W u G;have hs:=XI d;have z:w.heap.size<=p:=by obtain⟨v,_,_,R,_⟩:=E;exact R
  have L3:=y.keep G dc dc;have B3:=k.trans ((G.mono (T':=[201]) oB z).below k.size)
  (repeat (first|refine bo ?_|refine bj ?_))
  refine bc ?_
  (repeat (first|refine aA ?_))
  refine zg5 (v:=(o,B,r)) ?_;intro I l Z s4;have X:OB I w.heap.size o B r s:=OB.below (OV.mono W k.size) l oA;refine zdP (v:=(o,B,r)) w.heap.size (L3.below l oA) Z X oo (by have:=B3.size;omega) ?_;intro J N w5 L5 P;have H:Keep [101] w.heap.size I w5:=Keep.grown P (L3.below l oA).row oB oA
  refine⟨⟨J,A+1,N,_,L++[s],t,Y,rfl,L5,(u.below l).keep H dc dc,(B3.trans (l.mono B3.size)).trans (H.below (by have:=B3.size;omega)),by omega,by omega,by simp;omega,?_⟩,?_⟩
  .rw[e];simp[tV,d]
  .rw[U];show 4294967297-(A+1)<4294967297-A;omega
def UB(b:List UInt8)(q N:Nat):(b.drop q).take (8+N)=(b.drop q).take 4++(b.drop (q+4)).take 4++(b.drop (q+8)).take N:=by rw[show 8+N=4+(4+N)by omega,List.take_add,List.take_add,List.drop_drop,List.drop_drop,jE]
def Zs{b:List UInt8}{q N:Nat}(i:q+8+N<=b.length)(hN:ey ((b.drop q).take 4)=N):rX ((b.drop (q+8)).take N)=(b.drop q).take (8+N)↔(BJ 0 (bf N 4++(b.drop (q+8)).take N)).toNat=ey ((b.drop (q+4)).take 4):=by
 have g:((b.drop (q+8)).take N).length=N:=by rw[qA,qB];omega
 have e:((b.drop q).take 4).length=4:=by rw[qA,qB];omega
 have c:((b.drop (q+4)).take 4).length=4:=by rw[qA,qB];omega
 have f:bf N 4=(b.drop q).take 4:=by
  have:=YJ ((b.drop q).take 4)
  rw[e,hN]at this;exact this
 have d:=YJ ((b.drop (q+4)).take 4);rw[c]at d;rw[UB];unfold rX zag;rw[g, <-f,List.append_left_inj,List.append_right_inj];constructor
 .intro h;have a:=qH ey h;rw[HF]at a
  have:=(BJ 0 (bf N 4++(b.drop (q+8)).take N)).isLt
  rw[Nat.mod_eq_of_lt oo]at a;exact a
 .intro h;rw[h,d]
def Xq(b:List UInt8):∀(f q:Nat),q<=b.length->b.length<q+f ->
  q<=(tV b f q).2/\(tV b f q).2<=b.length/\aK (tV b f q).1=(b.drop q).take ((tV b f q).2-q)/\(∀s∈(tV b f q).1,s.length<=4096)/\rB b (tV b f q).2=none:=by
 intro f
 induction f with
 | zero=>intro q i n;omega
 | succ f ih =>
  intro q i n;simp only[tV];cases a:rB b q with
  | none=>exact⟨Nat.le_refl _,i,by simp[aK],by simp,a⟩
  | some sq =>
   obtain⟨s,c⟩:=sq;obtain⟨v,j,k,g,l,m⟩:=XI a;obtain⟨w,o,p,r,u⟩:=ih c j oo;dsimp only;refine⟨by omega,o,?_,?_,u⟩
   .show rX s++aK (tV b f c).1=_;have d:=(Zs (b:=b) (q:=q) (N:=s.length) oo l.symm).2 (by rw[<-g];exact m);rw[<-g]at d;have h:c=q+(8+s.length):=by omega
    rw[p,d];generalize 8+s.length=M at h;rw[show (tV b f c).2-q=M+((tV b f c).2-c)by omega,List.take_add,List.drop_drop, <-h]
   .intro t e;rcases oO.1 e with rfl|e
    .exact k
    .exact r t e
def zcM(b:List UInt8):(tU b).2<=b.length/\aK (tU b).1=b.take (tU b).2/\(∀s∈(tU b).1,s.length<=4096)/\rB b (tU b).2=none:=by obtain⟨_,a,c,d,e⟩:=Xq b (b.length+1) 0 oo oo;exact⟨a,by unfold tU;simpa using c,d,e⟩
def zcs{b s:List UInt8}{q:Nat}(k:s.length<=4096)(j:q+8+s.length<=b.length)(h:(b.drop q).take (8+s.length)=rX s):rB b q=some (s,q+8+s.length):=by
 have a:=UB b q s.length;rw[h]at a;unfold rX zag at a;have g:((b.drop q).take 4).length=4:=by rw[qA,qB];omega
 have e:((b.drop (q+4)).take 4).length=4:=by rw[qA,qB];omega
 obtain⟨d,f⟩:=List.append_inj a (by simp[bE,g,e]);obtain⟨d,l⟩:=List.append_inj d (by simp[bE,g]);have i:ey ((b.drop q).take 4)=s.length:=by rw[<-d,HF,Nat.mod_eq_of_lt oo]
 have c:=(Zs j i).1 (by rw[<-f,h]);unfold rB;rw[i,oJ ⟨by omega,k,j,c⟩, <-f]
def YF(b:List UInt8):∀(L:List (List UInt8)) (f q:Nat),(∀s∈L,s.length<=4096)->(b.drop q).take (aK L).length=aK L->q+(aK L).length<=b.length->b.length<q+f ->
  ∃a,b.length<q+(aK L).length+a/\tV b f q=(L++(tV b a (q+(aK L).length)).1,(tV b a (q+(aK L).length)).2)
 | [],f,q,_,_,_,h3=>⟨f,by simpa[aK]using h3,by simp[aK]⟩
 | s::L,f,q,h0,h1,h2,h3=>by
  have i:(aK (s::L)).length=8+s.length+(aK L).length:=by simp[aK,CE]
  rw[i]at h1 h2 |-;rw[List.take_add,List.drop_drop]at h1;obtain⟨d,e⟩:=List.append_inj (show _=rX s++aK L from h1) (by rw[CE,qA,qB];omega);obtain⟨f,rfl⟩:∃g,f=g+1:=⟨f-1,by omega⟩
  have c:=zcs (h0 s oB) oo d;obtain⟨a,k,h⟩:=YF b L f (q+(8+s.length)) (λt j=>h0 t (by simp[j])) e oo oo;refine⟨a,by omega,?_⟩;simp only[tV,c];rw[show q+8+s.length=q+(8+s.length)by omega,h,show q+(8+s.length+(aK L).length)=q+(8+s.length)+(aK L).length by omega];simp
def zeq{b:List UInt8}{L:List (List UInt8)}(h:∀s∈L,s.length<=4096)(i:b.take (aK L).length=aK L)(j:(aK L).length<=b.length):(tU b).1.take L.length=L/\L.length<=(tU b).1.length/\(aK L).length<=(tU b).2/\(rB b (aK L).length=none->tU b=(L,(aK L).length)):=by
 obtain⟨a,d,e⟩:=YF b L (b.length+1) 0 h (by simpa using i) oo oo;rw[oK]at d e;have f:=(Xq b a (aK L).length j d).1;unfold tU;rw[e];refine⟨by simp,by simp,f,λc=>?_⟩;obtain⟨a,rfl⟩:∃g,a=g+1:=⟨a-1,by omega⟩
 simp[tV,c]
def FE(L:List (List UInt8))(n:Nat):aK L=aK (L.take n)++aK (L.drop n):=by rw[<-xH,List.take_append_drop]
def Wp(L:List (List UInt8))(n:Nat):(aK (L.take n)).length<=(aK L).length:=by rw[FE L n];simp
def zc6(L:List (List UInt8))(n:Nat)(a:n<L.length):((aK L).drop (aK (L.take n)).length).take (8+L[n].length)=rX L[n]:=by rw[FE L n,List.drop_left,List.drop_eq_getElem_cons a];show (rX L[n]++aK (L.drop (n+1))).take _=_;rw[<-CE L[n],List.take_left]
def zc7(L:List (List UInt8))(n:Nat)(b:n<L.length):(aK (L.take n)).length+8+L[n].length<=(aK L).length/\(aK (L.take (n+1))).length=(aK (L.take n)).length+8+L[n].length:=by
 have h:=PB L n L[n] (gE b);have a:=qH List.length h;rw[oT,CE]at a
 have:=Wp L (n+1)
 omega
def zct{b s:List UInt8}{q:Nat}(j:s.length<4294967296)(h:∀i,i<4->q+i<b.length->b[q+i]? = (rX s)[i]?)(c:b.length<q+8+s.length):rB b q=none:=by
 unfold rB;by_cases f:q+8<=b.length
 .have e:(b.drop q).take 4=bf s.length 4:=by
   apply List.ext_getElem?;intro i;by_cases a:i<4
   .rw[jN a,jM,h i a oo];unfold rX;rw[jE,qO (by rw[bE];exact a)]
   .rw[jD (by simp;omega),jD (by rw[bE];omega)]
  rw[oI];rintro⟨_,_,d,_⟩;rw[e,HF,Nat.mod_eq_of_lt oo]at d;omega
 .rw[oI (λg=>f g.1)]
def zgA(L:List (List UInt8))(b:∀s∈L,s.length<=4096)(n k:Nat)(m:n<=L.length)(l:k<=(aK L).length)(c:(aK (L.take n)).length<=k)(e:∀h:n<L.length,k<(aK (L.take n)).length+8+L[n].length):tU ((aK L).take k)=(L.take n,(aK (L.take n)).length):=by
 have d:((aK L).take k).length=k:=by rw[qA];omega
 refine(zeq (λs f=>b s (List.mem_of_mem_take f)) ?_ oo).2.2.2 ?_
 .rw[List.take_take,Nat.min_eq_left c,FE L n,List.take_left]
 .by_cases a:n<L.length
  .refine zct (s:=L[n]) (by have:=b L[n] (List.getElem_mem _);omega) ?_ (by have:=e a;omega);intro i j g;rw[jN oo, <-zc6 L n a,jN oo,jM]
  .unfold rB;rw[oI]
   have:L.take n=L:=tL oo
   rw[this]at c |-;rintro⟨h,_⟩;omega
def ziH(L:List (List UInt8))(k:Nat):∀j,j<=L.length->∃n,n<=j/\(aK (L.take n)).length<=k/\∀h:n<j,∀a:n<L.length,k<(aK (L.take n)).length+8+L[n].length:=by
 intro j
 induction j with
 | zero=>intro _;exact⟨0,by omega,by simp[aK],λh=>by omega⟩
 | succ j ih =>
  intro e;obtain⟨n,d,a,b⟩:=ih oo;by_cases c:n<j
  .exact⟨n,by omega,a,λ_=>b c⟩
  .have:n=j:=by omega
   subst this;have g:=(zc7 L n oo).2;by_cases f:(aK (L.take n)).length+8+L[n].length<=k
   .exact⟨n+1,by omega,by omega,λh=>by omega⟩
   .exact⟨n,by omega,a,λ_ _=>by omega⟩
def zcN{A L:List (List UInt8)}(l:okR A)(hL:okR L)(q:m<=(aK L).length):∃j,j<=L.length/\tU (aK A++(aK L).take m)=(A++L.take j,(aK (A++L.take j)).length)/\(aK A++(aK L).take m).take (aK (A++L.take j)).length=aK (A++L.take j):=by
 have o:okR (A++L):=λs b=>(oU.1 b).elim (l s) (hL s);have c:aK A++(aK L).take m=(aK (A++L)).take ((aK A).length+m):=by rw[xH,List.take_length_add_append]
 obtain⟨n,i,p,k⟩:=ziH L m L.length oA;have e:(A++L).take (A.length+n)=A++L.take n:=List.take_length_add_append n;have d:(aK (A++L)).length=(aK A).length+(aK L).length:=by rw[xH,oT]
 have a:(aK (A++L.take n)).length=(aK A).length+(aK (L.take n)).length:=by rw[xH,oT]
 have:=zgA (A++L) o (A.length+n) ((aK A).length+m) (by simp;omega) oo (by rw[e,a];omega) (λh=>by
  rw[e,a];have f:n<L.length:=by simp at h;omega
  have:=k f f
  have g:(A++L)[A.length+n]=L[n]:=by rw[List.getElem_append_right oo];simp
  rw[g];omega)
 rw[e, <-c]at this;refine⟨n,i,this,?_⟩;have b:=(zcM (aK A++(aK L).take m)).2.1;rw[this]at b;exact b.symm
def Qs:∀w,(sizeOf 4).run Q w=.ok 1 w:=λ_=>by kernel_rfl
def TB(w:oG)(v:Option Addr×Nat×Nat)(l:List UInt8):Prop:=RB w v.1 v.2.1 v.2.2 l/\∀a,v.1=some a->∃b,blk w a.block 5 b
def noBy(w:oG)(F:List Nat):Prop:=∀k E cs,blk w k E cs->E∈[5,3,180]->k∉F
inductive LO where
 | no
 | app (b:List UInt8)
 | cut (n:Nat)
def LO.on:LO->List UInt8->List UInt8
 | .no,f=>f
 | .app b,f=>f++b
 | .cut n,f=>f.take n
def LO.k:LO->Nat
 | .no=>0
 | _=>1
structure DS where
 f:List UInt8
 l:LO
 off:Bool
 fu:Int
def DS.now(D:DS):List UInt8:=D.l.on D.f
def LR(w:oG)(a:Option Addr)(c:Nat):LO->Prop
 | .no=>a=none/\c=0
 | .app b=>∃g q v cs,a=some ⟨g,0,none⟩/\blk w g 180 cs/\cs.take 3=[.func (.func 259) #[] #[ptr q],slv v,.bool true]/\blk w q 3 [ci 0]/\TB w v b/\1<=c
 | .cut _=>True
def DK(w:oG)(p:Nat)(D:DS):Prop :=
 ∃s n a b fz,blk w p 106 [slv s,.slice none 0 0,slv n,.slice none 0 0,.slice a D.l.k b,.bool D.off,.bool (decide (0<=D.fu)),ci fz]/\(0<=D.fu->fz=D.fu)/\(-1<=D.fu/\D.fu<=9223372036854775807)/\LR w a b D.l/\TB w s D.f/\TB w n D.now/\D.f.length<=4194304/\D.now.length<=4194304
section
variable {F:List Nat}{v:Option Addr×Nat×Nat}{l:List UInt8}{p:Nat}{D:DS}
def TB.rb(h:TB w v l):RB w v.1 v.2.1 v.2.2 l:=h.1
def TB.len(h:TB w v l):l.length=v.2.1:=RB.len h.1
def TB.ch(h:TB w v l)(f:Ch F w S)(g:noBy w F):TB S v l:=by
 refine⟨⟨RV.len h.1,RV.cap h.1,RV.some_ h.1,RV.nil_ h.1,λi u j=>?_⟩,λk m=>?_⟩
 .have n:i<v.2.1:=by have:=(gS j).1;rw[RV.len h.1]at this;exact this
  obtain⟨b,o,d⟩:=RV.some_ h.1 oo;obtain⟨e,c⟩:=h.2 _ d;have a:=RV.cell h.1 i u j;rw[d,uW]at a |-;rw[c.cell]at a;rw[(c.ch f (g _ _ _ c dc)).cell];exact a
 .obtain⟨e,c⟩:=h.2 k m;exact⟨e,c.ch f (g _ _ _ c dc)⟩
def TB.nil(w:oG):TB w (none,0,0) []:=⟨RV.nil w,λa h=>by cases h⟩
def TB.of_blk{cs:oE}{n:Nat}(h:blk w g 5 cs)(f:cs.take n=l.map u8v)(j:l.length=n)(d:n<=c):TB w (some ⟨g,0,none⟩,n,c) l:=by
 refine⟨⟨by simpa using j,d,λ_=>⟨g,0,rfl⟩,(λh=>by cases h),λi u a=>?_⟩,λk b=>by cases b;exact⟨cs,h⟩⟩;rw[uW,h.cell,oK];have e:i<n:=by have:=(gS a).1;simp at this;omega
 rw[<-f,List.getElem?_take,oJ e]at a;exact a
def TB.cut{q:Nat}(h:TB w v l)(e:m<=v.2.1)(b:m<=q)(g:q<=v.2.2):TB w (v.1,m,q) (l.take m):=by
 have f:=h.len;refine⟨⟨by simp;omega,b,λc=>RV.some_ h.1 (qQ c e),λd=>?_,λi u a=>?_⟩,h.2⟩
 .have:=RV.nil_ h.1 d
  show m=0/\q=0;omega
 .refine RV.cell h.1 i u ?_;rw[List.map_take,List.getElem?_take]at a;split at a
  .exact a
  .cases a
def TB.of_ob{B:Nat}{n:Nat}(h:OB w B a n c l):TB w (a,n,c) l:=by
 refine⟨h.rb,λj e=>?_⟩;rcases h.2 with⟨d,_⟩|⟨g,f,b,d,k,i,_⟩
 .cases d;cases e
 .cases d;cases e;exact⟨b.toList,i⟩
def noBy.of{cs:oE}(c:blk w p E cs)(b:E∉[5,3,180]):noBy w [p]:=λk E' g f a d=>f.ne c (λe=>b (e ▸ a)) (mS d)
def noBy.nil(w:oG):noBy w []:=λ_ _ _ _ _=>by simp
def TB.below(h:TB w v l)(a:Below w.heap.size w S):TB S v l:=h.ch (F:=[]) (Ch.of_below a) (noBy.nil w)
def LR.ch{x:LO}(h:LR w a c x)(d:Ch F w S)(f:noBy w F):LR S a c x:=by
 cases x with
 | no=>exact h
 | app b =>
  obtain⟨g,q,v,k,e,i,l,j,o,m⟩:=h;exact⟨g,q,v,k,e,i.ch d (f _ _ _ i dc),l,j.ch d (f _ _ _ j dc),o.ch d f,m⟩
 | cut n=>exact h
def DK.ch(h:DK w p D)(a:Ch F w S)(b:noBy w F)(j:p∉F):DK S p D:=by obtain⟨s,n,k,l,f,g,c,d,i,m,o,e⟩:=h;exact⟨s,n,k,l,f,g.ch a j,c,d,i.ch a b,m.ch a b,o.ch a b,e⟩
def DK.below(h:DK w p D)(a:Below w.heap.size w S):DK S p D:=h.ch (F:=[]) (Ch.of_below a) (noBy.nil w) oB
def DK.blk(h:DK w p D):∃cs,Go.Proofs.YtpaghmnnhedccaaGreatDoor.blk w p 106 cs:=by obtain⟨s,n,c,d,b,a,_⟩:=h;exact⟨_,a⟩
def DK.lt(h:DK w p D):p<w.heap.size:=by obtain⟨cs,a⟩:=h.blk;exact Go.Proofs.YtpaghmnnhedccaaGreatDoor.blk.lt a
def DK.len(h:DK w p D):D.now.length<=4194304:=by obtain⟨s,n,g,i,d,e,b,c,f,j,k,a⟩:=h;exact a.2
def blk.dk{cs:oE}(h:blk w z E cs)(d:DK w p D)(c:Ch [p] w S)(a:E≠106):blk S z E cs:=by obtain⟨f,b⟩:=d.blk;exact h.ch c λe=>h.ne b a (mS e)
def oe(D:DS):Bool×DS:=if D.fu=0 then (true, {D with off:=true,fu := -1})else if D.fu<0 then (false,D)else (false, {D with fu:=D.fu-1})
end
def Xt:fU Q 106 0 0 b o K w:=aJ kr
def Cg:fU Q 106 1 2 b o K w:=aJ kr
def uF:fU Q 106 2 4 b o K w:=aJ kr
def EJ:fU Q 106 3 5 b o K w:=aJ kr
def K8:fU Q 106 4 6 b o K w:=aJ kr
def Pp:fU Q 106 5 7 b o K w:=aJ kr
def KJ:fU Q 180 0 0 b o K w:=aJ kr
def EB:fU Q 180 1 1 b o K w:=aJ kr
def zaB:fU Q 180 2 2 b o K w:=aJ kr
def Wv{cs:oE}(v:oF)(a:blk w b E cs)(c:cs[o]? = some v)(h:K v w):ld Q 3 (pA b o) K w:=lK a c h
def Ek{cs:oE}(v:oF)(a:blk w b E cs)(c:cs[o]? = some v)(h:K v w):ld Q 4 (pA b o) K w:=lK a c h
def Ww{cs:oE}(v:oF)(a:blk w b E cs)(c:cs[o]? = some v)(h:K v w):ld Q 101 (pA b o) K w:=lK a c h
def Hv{cs:oE}(v:oF)(a:blk w b E cs)(c:cs[o]? = some v)(h:K v w):ld Q 104 (pA b o) K w:=lK a c h
def zhh{cs:oE}(v:oF)(a:blk w b E cs)(c:cs[o]? = some v)(h:K v w):ld Q 178 (pA b o) K w:=lK a c h
def LA(h:K (.bool false) w):bin Q .eql 66 cx cy (ptr b) (.pointer none) K w :=
 dZ (by unfold eqG eqGuard;rfl) kr h
def WD(h:K (.bool true) w):bin Q .neq 66 cx cy (ptr b) (.pointer none) K w :=
 dZ (by unfold eqG eqGuard;rfl) kr h
section
variable {p:Nat}{D:DS}{f:List UInt8}
def HR(b:DK w p D)(c:D.off=false)(h:K (ci 0) w):call Q 56 #[ptr p] K w:=by
 obtain⟨s,n,e,f,d,a,_⟩:=b;rw[c]at a;refine aj (goK func56) (Pg ?_)
 (repeat (first|refine LA ?_|refine aq ?_|refine EJ ?_|(refine Ek ?_ (by assumption) ?_ ?_;rotate_left;exact rfl)|refine aA ?_))
 exact h
def YY(a:DK w p D)(h:K (.bool (!D.off)) w):call Q 33 #[ptr p] K w:=by
 obtain⟨s,n,d,e,b,c,_⟩:=a;refine aj (goK func33) (Pe ?_)
 (repeat (first|refine WD ?_|refine aq ?_|refine EJ ?_|(refine Ek ?_ (by assumption) ?_ ?_;rotate_left;exact rfl)|refine kN ?_))
 refine bc ?_
 (repeat (first|refine cA ?_))
 exact h
def zcj(t:DK w p D)(h:∀S,DK S p {D with off:=true,fu := -1}->Oth p w S->K (.tuple #[]) S):call Q 78 #[ptr p] K w:=by
 obtain⟨s,n,m,q,g,i,A,B,u,v,y,r⟩:=t;refine aj (goK func78) (Su ?_)
 (repeat (first|refine WD ?_|refine aq ?_|refine EJ ?_|refine aV ?_))
 refine cq Qs i oB rfl ?_;intro z a b;have a:blk z p _ [slv s,.slice none 0 0,slv n,.slice none 0 0,.slice m D.l.k q,.bool true,.bool (decide (0<=D.fu)),ci g]:=a
 (repeat (first|refine aq ?_|refine K8 ?_))
 refine cq Qs a oB rfl ?_;intro O d c;have o:Oth p w O:=⟨c.os.trans b.os,c.tape.trans b.tape,c.output.trans b.output,c.size.trans b.size,λx j=>(c.other x j).trans (b.other x j)⟩
 have e:Ch [p] w O:=Ch.of_oth o oB;have f:=noBy.of i dc;exact h O ⟨s,n,m,q,g,d,(λh=>by simp at h),by simp,u.ch e f,v.ch e f,y.ch e f,r⟩ o
def zde{n:Int}(u:DK w p D)(E : -9223372036854775808<=n/\n<=9223372036854775807)(h:∀O,DK O p {D with fu:=if 0<=n then n else -1}->Oth p w O->K (.tuple #[]) O):call Q 192 #[ptr p,ci n] K w:=by
 obtain⟨s,m,g,i,t,j,B,C,v,y,z,r⟩:=u;refine aj (goK func192) (Rm ?_)
 (repeat (first|refine WD ?_|refine aq ?_|refine K8 ?_|refine bR ?_|refine aV ?_))
 refine cq Qs j oB rfl ?_;intro A c d;have c:blk A p _ [slv s,.slice none 0 0,slv m,.slice none 0 0,.slice g D.l.k i,.bool D.off,.bool (decide (0<=n)),ci t]:=c
 (repeat (first|refine aq ?_|refine Pp ?_))
 refine cq Jh c oB rfl ?_;intro S a e;have a:blk S p _ [slv s,.slice none 0 0,slv m,.slice none 0 0,.slice g D.l.k i,.bool D.off,.bool (decide (0<=n)),ci n]:=a;have o:Oth p w S:=⟨e.os.trans d.os,e.tape.trans d.tape,e.output.trans d.output,e.size.trans d.size,λx q=>(e.other x q).trans (d.other x q)⟩
 have f:Ch [p] w S:=Ch.of_oth o oB;have b:=noBy.of j dc;refine h S ⟨s,m,g,i,n,?_,?_,?_,v.ch f b,y.ch f b,z.ch f b,r⟩ o
 .by_cases b:0<=n
  .simp only[b,if_true];simp only[b]at a;exact a
  .simp only[b,if_false];simp only[b]at a;exact a
 .by_cases b:0<=n<;>simp[b]
 .show -1<=(if 0<=n then n else -1)/\(if 0<=n then n else -1)<=9223372036854775807;split<;>omega
def zaX(m:DK w p D)(h:∀S,DK S p (oe D).2->Ch [p] w S->K (.bool (oe D).1) S):call Q 64 #[ptr p] K w:=by
 have c:=m;obtain⟨s,n,q,r,B,j,e,A,v,y,z,t⟩:=m;refine aj (goK func64) (Pf ?_);by_cases u:0<=D.fu
 .have e:=e u;subst e
  (repeat (first|refine aq ?_|refine K8 ?_|refine Pp ?_|(refine Wv ?_ (by assumption) ?_ ?_;rotate_left;exact rfl)|(refine Ek ?_ (by assumption) ?_ ?_;rotate_left;exact rfl)|refine aT ?_|refine xK ?_|refine ax oo ?_))
  by_cases i:D.fu=0
  .have a:oe D=(true, {D with off:=true,fu := -1}):=by simp[oe,i]
   rw[a]at h
   (repeat (first|refine ay oo ?_))
   exact zcj c λS f o=>h S f (Ch.of_oth o (List.mem_singleton.2 rfl))
  .have a:oe D=(false, {D with fu:=D.fu-1}):=by unfold oe;rw[oI i,oI oo]
   rw[a]at h
   (repeat (first|refine aq ?_|refine Pp ?_|(refine Wv ?_ (by assumption) ?_ ?_;rotate_left;exact rfl)|refine bL oo oo ?_|refine ax oo ?_))
   refine cq Jh j oB rfl ?_;intro w1 b x;have d:Ch [p] w w1:=Ch.of_oth x oB;have g:=noBy.of j dc;refine h w1 ⟨s,n,q,r,D.fu-1,?_,λ_=>rfl,⟨by show -1<=D.fu-1;omega,by show D.fu-1<=9223372036854775807;omega⟩,v.ch d g,y.ch d g,z.ch d g,t⟩ d
   have b:blk w1 p _ [slv s,.slice none 0 0,slv n,.slice none 0 0,.slice q D.l.k r,.bool D.off,.bool (decide (0<=D.fu)),ci (D.fu-1)]:=b;rw[show decide (0<=D.fu)=decide (0<=D.fu-1)from decide_eq_decide.2 oo]at b;exact b
 .have a:oe D=(false,D):=by unfold oe;rw[oI oo,oJ oo]
  rw[a]at h
  (repeat (first|refine aq ?_|refine K8 ?_|(refine Ek ?_ (by assumption) ?_ ?_;rotate_left;exact rfl)|refine xK ?_|refine ay oo ?_))
  exact h w c (Ch.refl _ _)
def zhm(a:DK w p D)(h:K (ci (D.l.k:Nat)) w):call Q 50 #[ptr p] K w:=by
 obtain⟨s,n,d,e,b,c,_⟩:=a;refine aj (goK func50) (Pd ?_)
 (repeat (first|refine LA ?_|refine aq ?_|refine uF ?_|(refine Hv ?_ (by assumption) ?_ ?_;rotate_left;exact rfl)|refine aA ?_))
 exact bv underlying104 h
def QW{f:Int}(a:f=0\/f=1)(h:K (.bool true) w):call Q 57 #[ci f] K w:=by
 refine aj (goK func57) (XZ ?_);rcases a with rfl|rfl
 ·(repeat (first|refine aT ?_|refine cA ?_|refine iH ?_))
  exact h
 ·(repeat (first|refine aT ?_|refine bZ ?_|refine fF ?_))
  exact h
def QU(h:K (pA b o) w):aW Q 103 (pA b o) (ci 0) K w:=fg underlying103 Eu dc dc h
def zgh(h:K (pA b (o+1)) w):aW Q 103 (pA b o) (ci 1) K w:=fg underlying103 Eu dc dc h
def RV.full{n:Nat}(h:RV w a n c xs):RV w a n n xs:=⟨h.len,Nat.le_refl _,h.some_,λb=>⟨(h.nil_ b).1,(h.nil_ b).1⟩,h.cell⟩
def Xr{q:Nat}{v x:Option Addr×Nat×Nat}{m l:List UInt8}(u:blk w q 3 [ci 0])(t:blk w p E xs)(B:xs[o]? = some (slv x))(k:TB w x m)(G:TB w v l)(O:m.length+l.length<=140737488355328)(C:E∉[5,3,180])(h:∀w' y,blk w' p E (xs.set o (slv y))->TB w' y (m++l)->Ch [p] w w'->K (.tuple #[]) w'):call Q 259 #[pA p o,slv v,ptr q] K w:=by
 have U:=k.len;have z:=G.len;obtain⟨i,J,P,N,s⟩:=info_parts LJ;refine aj (goK func259) (Lw ?_);refine aw (λw=>blk w p E xs/\blk w q 3 [ci 0]) ⟨t,u⟩ ?_
 repeat (first|refine ac (λw d _=>lK d.2 rfl) ?_|refine hZ ?_|refine ac (λw d _=>QU) ?_|refine ac (λw d _=>lK d.1 B) ?_|refine ac (λw d _=>wW) ?_|refine ac (λw d _=>zjI underlying101 Cr oA k.rb.cap) ?_)
 refine zes (w:=w.drew) underlying101 J P N s rfl (RV.full (RB.drew k.rb).rv) (RB.drew G.rb).rv oo oo ?_;intro S H w1 f a;have c:blk w1 p E xs:=ae a t.drew t.lt;refine aB ⟨c,ae a u.drew u.lt⟩ <|ac (λw d _=>QU) ?_;refine cq Eu c (gS B).1 rfl ?_;intro w2 j R
 have A:Below w.heap.size w w1:=⟨a.os,a.tape,a.output,a.size,a.block⟩
 have M:=noBy.of c C;have n:Ch [p] w1 w2:=Ch.of_oth R oB;have g:Ch [p] w w2:=(Ch.of_below A).trans n λ_ h=>.inl h;rcases f with⟨rfl,rfl,F⟩|⟨V,D,T,rfl⟩
 .have L:l=[]:=List.eq_nil_of_length_eq_zero (by rw[z];exact F);subst L;refine h w2 (x.1,x.2.1+v.2.1,x.2.1) j ?_ g;rw[F,qW,oW]
  have:=((k.cut (m:=x.2.1) (q:=x.2.1) oA oA k.rb.cap).below A).ch n M
  rw[tL oo]at this;exact this
 .have r:=D.ch n λI=>D.ne c (λe=>C (e ▸ by decide)) (mS I);refine h w2 (some ⟨w.drew.heap.size,0,none⟩,x.2.1+v.2.1,H) j (TB.of_blk r ?_ (by simp;omega) oo) g;rw[<-jJ,qJ (by simp;omega),tL (by simp;omega)]
def zf3:(Tryz.prog.info? 180).map (λi=>(i.zero,i.size,i.bytes))=some (some (.agg #[.nilFunc,.slice none 0 0,.bool false]),3,40):=by kernel_rfl
def zb1{v:Option Addr×Nat×Nat}{x:LO}(hd:DK w p ⟨f,.no,false,r⟩)(ad:X1.oneCell'=true)(af:Z1.oneCell'=true)(hx:x.k=1)(ak:(x.on f).length<=4194304)(ab:∀(w':oG) (cs:oE) (n:Option Addr×Nat×Nat) (K':KV),blk w' p 106 cs->cs[0+2]? = some (slv n)->TB w' n f->Ch [p] w w'->(∀t y,blk t p 106 (cs.set (0+2) (slv y))->TB t y (x.on f)->Ch [p] w' t->K' (.tuple #[]) t)->bA Q X1 #[pA p (0+2),slv v] K' w')(Y:∀(w':oG) (g c:Nat) (cs:oE),blk w' g 180 cs->cs.take 3=[X1,slv v,Z1]->Ch [p] w w'->1<=c->LR w' (some ⟨g,0,none⟩) c x)(h:∀w',DK w' p (oe ⟨f,x,false,r⟩).2->Ch [p] w w'->K (ci (if (oe ⟨f,x,false,r⟩).1 then 8 else 0)) w'):call Q 62 #[ptr p,.agg #[X1,slv v,Z1]] K w:=by
 obtain⟨s,n,la,lc,P,U,e1,e2,⟨rfl,rfl⟩,t0,t1,e3⟩:=hd;have t1:TB w n f:=t1;have hn:=noBy.of U dc;refine aj (goK func62) (Rp ?_);refine bu ?_;intro S o C av;have o:blk S w.heap.size 180 [X1,slv v,Z1]:=o;have F:=ae C U U.lt
 refine aw (λa => blk a p 106 [slv s,.slice none 0 0,slv n,.slice none 0 0,.slice none 0 0,.bool false,.bool (decide (0<=r)),ci P]/\blk a w.heap.size 180 [X1,slv v,Z1]) ⟨F,o⟩ <|hZ <|hW uF <|ac (λw d _=>lK d.1 rfl) <|ac (λw d _=>ldA (n:=3) underlying180 rfl kr d.2 rfl rfl) <|nV (s:=3) [.agg #[X1,slv v,Z1]] underlying104 kr kr oo rfl oB oo rfl (by simp[Value.cells]) ?_
 intro w2 J b ax;have J:blk w2 S.heap.size 180 [X1,slv v,Z1]:=J;have G:=ae b F.drew F.lt;have H:=ae b o.drew o.lt;refine aB ⟨G,H⟩ ?_;obtain⟨i,hi,hz,an,Z⟩:=info_parts zf3;have S1:=C.size;have S2:S.heap.size<=w2.heap.size:=b.size;have au:=U.lt
 refine zcO (base:=w2.heap.size) (s:=3) (m:=1) (ys:=[X1,slv v,Z1]) underlying104 hi hz an Z rfl oo (World.ownsRow_nil _ _ _ _) J rfl (by simp only[oO,oR,or_false];rintro u (rfl|rfl|rfl)<;>first|exact ad|exact af|rfl) oo oo oo ?_;intro T L w3 ai e ap
 have X:Below w2.heap.size w2 w3:=(jU _ w2).grown e oA (λk a=>by cases a);have j:=ae X G G.lt;have I:=ae X H H.lt
 refine aw (λa => blk a p 106 [slv s,.slice none 0 0,slv n,.slice none 0 0,.slice none 0 0,.bool false,.bool (decide (0<=r)),ci P]/\blk a w.heap.size 180 [X1,slv v,Z1]) ⟨j,I⟩ <|hZ <|hW uF <|cq (by intro w;kernel_rfl) j oB rfl ?_;intro w4 q o4;have q:blk w4 p 106 [slv s,.slice none 0 0,slv n,.slice none 0 0,.slice T (0+1) L,.bool false,.bool (decide (0<=r)),ci P]:=q
 have V:=C.trans ((show Below S.heap.size S w2 from⟨b.os,b.tape,b.output,b.size,b.block⟩).mono S1);have W:=V.trans (X.mono oo);have A:Ch [p] w3 w4:=Ch.of_oth o4 (List.mem_singleton.2 rfl);have N:Ch [p] w w4:=(Ch.of_below W).trans A λ_ h=>.inl h;have am:=I.ch A λE=>I.ne j dc (mS E)
 refine aw (λa => blk a p 106 [slv s,.slice none 0 0,slv n,.slice none 0 0,.slice T (0+1) L,.bool false,.bool (decide (0<=r)),ci P]/\blk a w.heap.size 180 [X1,slv v,Z1]) ⟨q,am⟩ <|hW KJ <|ac (λw d _=>lK d.2 rfl) <|hZ <|hW Cg <|hW EB <|ac (λw d _=>lK d.2 rfl) ?_;have B:Ch [p] w w4.drew:=⟨N.os,N.tape,N.output,N.size,N.block⟩
 refine ab w4.drew _ n _ q.drew rfl (t1.ch B hn) B ?_;intro w5 y al ty c5;have z:Ch [p] w w5:=B.trans c5 λ_ h=>.inl h;have ah:LR w5 T L x:=by
  rcases ai.2 with⟨hv,h0⟩|⟨g,ao,O,hv,hB,E,ar,hm,hs,ht⟩
  .cases hv
  .cases hv;have e:blk w3 g 180 O.toList:=E;have ag:=e.ch A λE=>e.ne j dc (mS E);exact Y w5 g L O.toList (ag.drew.ch c5 λE=>e.ne j dc (mS E)) (by simpa using ht) z oo
 have aa:DK w5 p ⟨f,x,false,r⟩:=by
  refine⟨s,y,T,L,P,?_,e1,e2,ah,t0.ch z hn,ty,e3.1,ak⟩;rw[show LO.k (DS.l ⟨f,x,false,r⟩)=0+1 from hx];exact al
 refine zaX aa ?_;intro w6 R c6;have M:=z.trans c6 λ_ h=>.inl h;refine ziC ?_ ?_
 .intro D
  have:=h w6 R M
  rw[D]at this;exact this
 .intro D
  have:=h w6 R M
  rw[D]at this;exact this
def zkA(h:∀S,DK S w.heap.size ⟨[],.no,false, -1⟩->Below w.heap.size w S->K (ptr w.heap.size) S):call Q 18 #[] K w:=by refine aj (goK func18) (zaA ?_);refine ck (vs:=[.slice none 0 0,.slice none 0 0,.slice none 0 0,.slice none 0 0,.slice none 0 0,.bool false,.bool false,ci 0]) kr <|bu ?_;intro c b a _;exact h c ⟨(none,0,0),(none,0,0),none,0,0,b,(λh=>qI h dc),by decide,⟨rfl,rfl⟩,TB.nil _,TB.nil _,by simp,by simp[DS.now,LO.on]⟩ a
def zeu{n:Nat}{l:List UInt8}(L:DK w p ⟨f,.no,false,v⟩)(H:RB w a n c l)(O:f.length+l.length<=4194304)(h:∀w',DK w' p (oe ⟨f,.app l,false,v⟩).2->Ch [p] w w'->K (ci (if (oe ⟨f,.app l,false,v⟩).1 then 8 else 0)) w'):call Q 239 #[ptr p,ci 0,.slice a n c] K w:=by
 have Z:=H.len;refine aj (goK func239) (Oq ?_);refine bu ?_;intro t d o _;have d:blk t w.heap.size 3 [ci 0]:=d;have i:=L.below o;refine HR i rfl ?_
 (repeat (first|(refine Wv ?_ (by assumption) ?_ ?_;rotate_left;exact rfl)|refine aZ ?_|refine aA ?_))
 refine QW (.inl rfl) <|bc ?_
 (repeat (first|refine aA ?_))
 obtain⟨s,m,la,lc,Y,A,U,V,X,t0,E,W⟩:=id i;have E:TB t m f:=E;have M:=E.len;have z:=A.drew;have N:=d.drew
 (repeat (first|refine ah (λ_=>aq) ?_|refine ah (λ_=>Cg) ?_|refine ah (λ_=>QU) ?_|refine ah (λ_=>zgh) ?_|refine ah (λ_=>lK z rfl) ?_|refine ax oo ?_|refine ah (λ_ b=>cH b) ?_|refine ah (λ_ b=>aR oo oo b) ?_|refine ah (λ_ b=>wW b) ?_))
 refine Hr (RB.drew (RB.below H o oA)) oo ?_;intro u y w2 R e;have e:Below t.heap.size t w2:=⟨e.os,e.tape,e.output,e.size,e.block⟩
 have r:=ae e d d.lt;have I:=TB.of_ob R;obtain⟨T,C⟩:=(i.below e).blk;have q:noBy w2 [p]:=noBy.of C dc;refine ck (vs:=[.func (.func 259) #[] #[ptr w.heap.size],slv (u,n,y),.bool true]) kr ?_;refine zb1 (x:=.app l) (i.below e) rfl rfl rfl (by show (f++l).length<=_;rw[oT];exact O) ?_ ?_ ?_
 .intro F G x K' k D S j b;exact bS (all:=#[pA p (0+2),slv (u,n,y),ptr w.heap.size]) rfl (Xr (r.ch j (q _ _ _ r dc)) k D S (I.ch j q) oo dc b)
 .intro F g c G k P j J;exact⟨g,w.heap.size,(u,n,y),G,rfl,k,P,r.ch j (q _ _ _ r dc),I.ch j q,J⟩
 .intro F B j;exact h F B ((Ch.of_below (tB o e)).trans j λ_ h=>.inl h)
def ziG{q r n:Nat}{v x:Option Addr×Nat×Nat}{m:List UInt8}(o:blk w q 3 [ci 0])(s:blk w r 3 [ci (n:Nat)])(k:blk w p E xs)(i:xs[0+2]? = some (slv x))(g:TB w x m)(u:n<=m.length)(l:E∉[5,3,180])(h:∀S y,blk S p E (xs.set (0+2) (slv y))->TB S y (m.take n)->Ch [p] w S->K (.tuple #[]) S):call Q 63 #[pA p (0+2),slv v,ptr q,ptr r] K w:=by
 have z:=g.len;have j:=g.rb.cap;refine aj (goK func63) (Pc ?_);have e:blk w.drew q 3 [ci 0]:=o;have f:blk w.drew r 3 [ci (n:Nat)]:=s;have c:blk w.drew p E xs:=k
 repeat (first|refine ah (λ_=>lK e rfl) ?_|refine ah (λ_=>lK f rfl) ?_|refine ah (λ_=>aq) ?_|refine ah (λ_=>QU) ?_|refine ah (λ_=>lK c i) ?_|refine ah (λ_=>zjI underlying101 Cr oA oo) ?_)
 refine cq Eu c (gS i).1 rfl ?_;intro O d t;have b:Ch [p] w O:=by
  have b:=Ch.of_oth (F:=[p]) t oB;exact⟨b.os,b.tape,b.output,b.size,b.block⟩
 refine h O (x.1,n,n) d ?_ b;exact(g.cut oo oA oo).ch b (noBy.of k l)
def zkh{n:Nat}(I:DK w p ⟨f,.no,false, -1⟩)(L:n<=f.length)(h:∀w',DK w' p ⟨f,.cut n,false, -1⟩->Ch [p] w w'->K (ci 0) w'):call Q 46 #[ptr p,ci 0,ci (n:Nat)] K w:=by
 refine aj (goK func46) (Ss ?_);refine bu ?_;intro u d D _;have d:blk u w.heap.size 3 [ci 0]:=d;refine bu ?_;intro w2 e E _;have e:blk w2 u.heap.size 3 [ci (n:Nat)]:=e;have q:=ae E d d.lt;have j:=tB D E;have i:=I.below j;refine HR i rfl ?_
 (repeat (first|refine aZ ?_|refine aA ?_))
 obtain⟨s,m,U,V,R,l,N,O,P,W,C,H⟩:=id i;have C:TB w2 m f:=C;have J:=C.len;have z:=l.drew;have r:=q.drew;have t:=e.drew;have o:=noBy.of l dc
 (repeat (first|refine ah (λ_=>QW (.inl rfl)) ?_|refine ah (λ_=>bc) ?_|refine ah (λ_=>lK t rfl) ?_|refine ah (λ_=>aq) ?_|refine ah (λ_=>Cg) ?_|refine ah (λ_=>QU) ?_|refine ah (λ_=>lK z rfl) ?_|refine ah (λ_=>lK r rfl) ?_|refine ax oo ?_|refine fF ?_|refine ah (λ_ a=>aL a) ?_|refine ah (λ_ a=>cH a) ?_|refine ah (λ_ a=>wW a) ?_|refine ah (λ_ a=>bZ a) ?_))
 refine ck (vs:=[.func (.func 63) #[] #[ptr w.heap.size,ptr u.heap.size],slv (none,0,0),.bool false]) kr ?_;have G:Ch ([]:List Nat) w2 w2.drew:=⟨rfl,rfl,rfl,Nat.le_refl _,λ_ _ _=>rfl⟩
 refine zb1 (w:=w2.drew) (v:=(none,0,0)) (x:=.cut n) (i.ch G (noBy.nil w2) oB) rfl rfl rfl (qR (by show (f.take n).length<=f.length;rw[qA];exact Nat.min_le_right _ _) H.1) ?_ ?_ ?_
 .intro y F x K' k B M b a;exact bS (all:=#[pA p (0+2),slv (none,0,0),ptr w.heap.size,ptr u.heap.size]) rfl (ziG (r.ch b (o _ _ _ q dc)) (t.ch b (o _ _ _ e dc)) k B M L dc a)
 .intro y g c F k T b S;trivial
 .intro y A b;exact h y A ((Ch.of_below j).trans (show Ch [p] w2 y from⟨b.os,b.tape,b.output,b.size,b.block⟩) λ_ h=>.inl h)
def syn(D:DS):DS:=⟨D.now,.no,(oe D).2.off,(oe D).2.fu⟩
def ziv(D:DS):(oe D).2.f=D.f/\(oe D).2.l=D.l:=by
 unfold oe;split
 .exact⟨rfl,rfl⟩
 .split<;>exact⟨rfl,rfl⟩
def zed(m:DK w p D)(A:D.off=false)(h:∀S,DK S p (if (oe D).1 then (oe D).2 else syn D)->Ch [p] w S->K (ci (if (oe D).1 then 8 else 0)) S):call Q 51 #[ptr p] K w:=by
 refine aj (goK func51) (Ro ?_);refine HR m A ?_
 (repeat (first|refine aZ ?_|refine aA ?_))
 refine zaX m ?_;intro t c g;cases b:(oe D).1 with
 | true =>
  rw[b]at h
  (repeat (first|refine aV ?_))
  exact h t c g
 | false =>
  rw[b]at h;obtain⟨s,n,B,C,j,e,v,x,I,J,q,d⟩:=c;have z:=noBy.of e dc;have o:=ziv D;have y:(oe D).2.now=D.now:=by unfold DS.now;rw[o.1,o.2]
  rw[y]at q d
  (repeat (first|refine aq ?_|refine Cg ?_|refine aA ?_))
  refine ldA (n:=2) underlying103 rfl kr e rfl rfl ?_
  (repeat (first|refine aq ?_|refine Xt ?_))
  refine eW (n:=2) kr rfl e oB (by simp only[List.take,List.drop,oO,oR,or_false];rintro u (rfl|rfl)<;>rfl) ?_;intro H a E;have a:blk H p 106 [slv n,.slice none 0 0,slv n,.slice none 0 0,.slice B (oe D).2.l.k C,.bool (oe D).2.off,.bool (decide (0<=(oe D).2.fu)),ci j]:=a
  (repeat (first|refine aq ?_|refine uF ?_))
  refine cq (by intro w;kernel_rfl) a oB rfl ?_;intro w3 f G;have i:Ch [p] t w3:=(Ch.of_oth E oB).trans (Ch.of_oth (F:=[p]) G oB) λ_ h=>.inl h;have r:=q.ch i z;exact h w3 ⟨n,n,none,0,j,f,v,x,⟨rfl,rfl⟩,r,r,d.2,d.2⟩ (g.trans i λ_ h=>.inl h)
def zhG(b:DK w p D)(g:D.off=false)(h:∀a n c S,OB S w.heap.size a n c D.now->Below w.heap.size w S->K (.tuple #[.slice a n c,ci 0]) S):call Q 42 #[ptr p,ci 0] K w:=by
 refine aj (goK func42) (FX ?_);refine HR b g ?_
 (repeat (first|refine aZ ?_|refine aA ?_))
 refine QW (.inl rfl) <|bc ?_
 (repeat (first|refine aA ?_))
 obtain⟨s,n,q,r,m,o,j,k,f,t,d,l⟩:=b;have f:=d.len
 (repeat (first|refine aq ?_|refine Cg ?_|(refine Ww ?_ (by assumption) ?_ ?_;rotate_left;exact rfl)|refine QU ?_))
 refine Hr d.rb oo ?_;intro a c u i e;exact h _ _ _ _ i e
def zhH(b:DK w p D)(e:D.off=false)(h:∀a c S,Below w.heap.size w S->K (.tuple #[.slice a 0 c,ci 0]) S):call Q 42 #[ptr p,ci 1] K w:=by
 refine aj (goK func42) (FX ?_);refine HR b e ?_
 (repeat (first|refine aZ ?_|refine aA ?_))
 refine QW (.inr rfl) <|bc ?_
 (repeat (first|refine aA ?_))
 obtain⟨s,n,i,j,f,g,_⟩:=b
 (repeat (first|refine aq ?_|refine Cg ?_|(refine Ww ?_ (by assumption) ?_ ?_;rotate_left;exact rfl)|refine zgh ?_))
 refine Hr (l:=[]) (RV.nil w) oo ?_;intro a c m k d;exact h _ _ _ d
end
def RIn(w:oG)(a:Option Addr)(n c:Nat)(l:List Int):Prop:=RV w a n c (l.map (Value.int .i64))
section
variable {p:Nat}{D:DS}{f:List UInt8}
def RIn.len{n:Nat}{l:List Int}(h:RIn w a n c l):l.length=n:=by simpa using RV.len h
def RIn.below{B:Nat}{n:Nat}{l:List Int}(h:RIn w a n c l)(d:Below B w S)(b:w.heap.size<=B):RIn S a n c l:=RV.below h d b
def RIn.drew{n:Nat}{l:List Int}(h:RIn w a n c l):RIn w.drew a n c l:=RV.drew h
def zj2{n:Nat}{l:List Int}(a:RIn w av n c l)(d:0<=x)(e:x<n)(h:w.cell? (rM av x.toNat)=some (ci (l.getD x.toNat 0))->K (.pointer (some (rM av x.toNat))) w):aW Q 47 (.slice av n c) (ci x) K w:=by
 refine LI underlying47 Jh d e (RV.some_ a) (h ?_);have b:x.toNat<l.length:=by rw[a.len];omega
 rw[RV.cell a x.toNat (ci (l[x.toNat])) (by simp[qC,gE b])];simp[List.getD,b]
def zdN{n:Nat}{l:List Int}(j:x=(m:Nat))(d:0<m)(e:RIn w a n c l)(h:∀k:Nat,k<m->K (ci (k:Nat)) w):call Q 208 #[.slice a n c,ci (i:Nat),ci x] K w:=by
 subst j;refine aj (goK func208) (YU ?_);refine bv underlying47 ?_;by_cases p:n<=i
 ·(repeat (first|refine bR ?_|refine aV ?_|refine mF oo ?_|refine bI oo ?_))
  exact h 0 d
 (repeat (first|refine bR ?_|refine df oo ?_))
 refine zj2 e oo oo ?_;intro b;refine vS kf b ?_;rw[oQ];by_cases q:l.getD i 0<0
 ·(repeat (first|refine aL ?_|refine ay oo ?_|refine bw oo ?_))
  exact h 0 d
 (repeat (first|refine aL ?_|refine ax oo ?_|refine bw oo ?_))
 refine zj2 e oo oo ?_;intro b;refine vS kf b ?_;rw[oQ];refine za5 (show 0<=l.getD i 0 by omega) oo ?_;have f:=Int.emod_nonneg (l.getD i 0) (show (m:Int)≠0 by omega);have o:=Int.emod_lt_of_pos (l.getD i 0) (show (0:Int)<m by omega);obtain⟨k,g⟩:=Int.eq_ofNat_of_zero_le f;rw[g];exact h k oo
abbrev TF:TypeId:=103
def ZW{q:Nat}{y:Option Addr×Nat×Nat}{a:List UInt8}(o:DK w p D)(k:blk w q TF [slv y,.slice none 0 0])(t:TB w y a)(j:a.length<=4194304)(h:∀S,DK S p ⟨a,.no,false, -1⟩->Ch [p] w S->K (ci 0) S):ld Q TF (ptr q) (λc w=>ld Q TF (ptr q) (λd w=>bld Q 106 #[(0,c),(1,d)] (λe w=>aU (ptr p) (λf w=>sto Q 106 f e (λ_t w=>K (ci 0) w) w) w) w) w) w:=by
 obtain⟨s,m,x,z,v,i,_⟩:=o
 refine ldA (n:=2) underlying103 rfl kr k rfl rfl <|ldA (n:=2) underlying103 rfl kr k rfl rfl <|ck (vs:=[slv y,.slice none 0 0,slv y,.slice none 0 0,.slice none 0 0,.bool false,.bool false,ci 0]) kr <|aq <|eW (n:=8) kr rfl i oB (by simp only[oO,oR,or_false];rintro u (rfl|rfl|rfl|rfl|rfl|rfl|rfl|rfl)<;>rfl) ?_
 intro w3 b r;have g:Ch [p] w w3:=Ch.of_oth r oB;have l:=t.ch g (noBy.of i dc);exact h w3 ⟨y,y,none,0,0,b,(λh=>by simp at h),by simp,⟨rfl,rfl⟩,l,l,j,j⟩ g
def zl6{n:Nat}(hd:DK w p D)(ho:D.off=true)(hD:∀n,D.l≠.cut n)(hr:RIn w a n c A)(h:∀w' f',(D.l=.no->f'=D.f)->(∀b,D.l=.app b->∃m,m<=b.length/\f'=D.f++b.take m)->DK w' p ⟨f',.no,false, -1⟩->Ch [p] w w'->K (ci 0) w'):call Q 193 #[ptr p,.slice a n c] K w:=by
 have T:=hd;obtain⟨s,m,la,lc,fz,M,e1,e2,hl,t0,t1,e3⟩:=hd;rw[ho]at M;have hn:=noBy.of M dc;refine aj (goK func193) (JX ?_)
 (repeat (first|refine LA ?_|refine aq ?_|refine EJ ?_|(refine Ek ?_ (by assumption) ?_ ?_;rotate_left;exact rfl)|refine aA ?_))
 refine bc ?_
 (repeat (first|refine aq ?_|refine uF ?_|(refine Hv ?_ (by assumption) ?_ ?_;rotate_left;exact rfl)|refine aA ?_))
 refine bv underlying104 ?_;have aE:D.l.k<=1:=by cases D.l<;>simp[LO.k]
 (repeat (first|refine aR oo oo ?_))
 refine zdN (i:=0) (m:=D.l.k+1) (by push_cast;rfl) oo hr λk hk=>?_
 (repeat (first|refine aq ?_|refine Xt ?_))
 refine ldA (n:=2) underlying103 rfl kr M rfl rfl <|bO (z:=.agg #[.slice none 0 0,.slice none 0 0]) kr ?_;intro w1 I b1 _;have I:blk w1 w.heap.size TF [.slice none 0 0,.slice none 0 0]:=I;refine eW (n:=2) kr rfl I oB (by simp only[List.take,List.drop,oO,oR,or_false];rintro u (rfl|rfl)<;>rfl) ?_;intro w2 J o2
 have J:blk w2 w.heap.size TF [slv s,.slice none 0 0]:=J;have O:=b1.trans o2.below;have ai:=ae O M M.lt;have ao:=T.below O;have N:=hl.ch (F:=[]) (Ch.of_below O) (noBy.nil w);have Y:=t0.below O;have aH:=Y.len
 (repeat (first|refine aq ?_|refine uF ?_|(refine Hv ?_ (by assumption) ?_ ?_;rotate_left;exact rfl)|refine Rn ?_))
 refine VG (s:=3) (m:=k) underlying104 kf (by cases B:D.l<;>rw[B]at hl hk<;>simp_all [LR,LO.k]<;>omega) <|bv underlying104 ?_;cases B:D.l with
 | cut n=>exact qI B (hD n)
 | no =>
  rw[B]at hk N ai;obtain⟨rfl,rfl⟩:=N;obtain rfl:k=0:=by simp[LO.k]at hk;omega
  refine FV (Inv:=λi a=>i=ci 0/\a=w2) (μ:=λ_ _=>0) ⟨rfl,rfl⟩ ?_;rintro _ _ _ _ ⟨rfl,rfl⟩ _
  (repeat (first|refine aq ?_|refine uF ?_|(refine Hv ?_ (by assumption) ?_ ?_;rotate_left;exact rfl)|refine FW ?_|refine aL ?_|refine aA ?_))
  refine bv underlying104 ?_
  (repeat (first|refine AC ?_|refine AB ?_|refine aL ?_|refine aA ?_))
  refine ZW ao J Y e3.1 ?_;intro w3 ap P;exact h w3 D.f (λ_=>rfl) (λb M=>by rw[B]at M;cases M) ap ((Ch.of_below O).trans P λ_ h=>.inl h)
 | app b =>
  rw[B]at hk N ai;obtain⟨g,q,v,cs,rfl,ag,S,ak,Z,aF⟩:=N;have hk:k<2:=hk;have ad:D.f.length+b.length<=4194304:=by have:=e3.2;unfold DS.now at this;rw[B]at this;show _;simpa[LO.on]using this
  have az:=Z.len;generalize af:Value.func (.func 259) #[] #[ptr q]=fv at S;have I:fv.oneCell'=true:=by rw[<-af];rfl
  have call:∀{w3:oG} {K':KV} {y v':Option Addr×Nat×Nat} {m' l':List UInt8},Below w.heap.size w w3->blk w3 q 3 [ci 0]->blk w3 w.heap.size TF [slv y,.slice none 0 0]->TB w3 y m'->TB w3 v' l'->m'.length+l'.length<=4194304->(∀w' y',blk w' w.heap.size TF [slv y',.slice none 0 0]->TB w' y' (m'++l')->Ch [w.heap.size] w3 w'->K' (.tuple #[]) w')->bA Q fv #[pA w.heap.size 0,slv v'] K' w3:=by
   intro w3 K' y v' m' l' b3 t G ty tv hl d;subst af;exact bS (all:=#[pA w.heap.size 0,slv v',ptr q]) rfl (Xr (o:=0) t G rfl ty tv oo dc d)
  refine FV (Inv:=λi a=>∃(j:Nat) (y:Option Addr×Nat×Nat),i=ci j/\j<=k/\Ch [w.heap.size] w2 a/\blk a w.heap.size TF [slv y,.slice none 0 0]/\TB a y (D.f++if j=0 then []else b)) (μ:=λi _=>k-(intOf i).toNat) ⟨0,s,rfl,by omega,Ch.refl _ _,J,by simpa using Y⟩ ?_;rintro _ _ w3 mu ⟨j,y,rfl,hj,P,G,ty⟩ au;have X:noBy w2 [w.heap.size]:=noBy.of J dc
  have ah:=ag.ch P (X _ _ _ ag dc);have t:=ak.ch P (X _ _ _ ak dc);have al:=Z.ch P X;have C:=O.trans (P.below (λx B=>by rw[mS B];exact Nat.le_refl _) O.size);by_cases ar:j<k
  .obtain rfl:j=0:=by omega
   (repeat (first|refine aL ?_|refine ay oo ?_))
   refine fQ (s:=3) underlying104 kf oo oo <|ldA (n:=3) (vs:=[fv,slv v,.bool true]) underlying180 rfl kr ah (by simpa using S) rfl <|bO (z:=.agg #[.nilFunc,.slice none 0 0,.bool false]) kr ?_;intro w4 R b4 _
   refine eW (n:=3) kr rfl R (by simp[Value.cells]) (by simp only[oO,oR,or_false];rintro u (rfl|rfl|rfl)<;>first|exact I|rfl) ?_;intro w5 E o5;have E:blk w5 w3.heap.size 180 [fv,slv v,.bool true]:=E;have H:=b4.trans o5.below;have r:=tB C H;have V:=ae H G G.lt
   (repeat (first|refine KJ ?_|refine EB ?_|(refine Ww ?_ (by assumption) ?_ ?_;rotate_left;exact rfl)|(refine zhh ?_ (by assumption) ?_ ?_;rotate_left;exact rfl)))
   refine call r (ae H t t.lt) V (ty.below H) (al.below H) (by simpa using ad) λw6 y6 W aa c6=>?_;have am:Ch [w.heap.size] w2 w6:=(P.trans (Ch.of_below (F:=[]) H) λ_ h=>by cases h).trans c6 λ_ h=>.inl h
   (repeat (first|refine aR oo oo ?_))
   exact⟨⟨1,y6,by simp,ar,am,W,by simpa using aa⟩,by rw[au];simp only[intOf];omega⟩
  .obtain rfl:j=k:=by omega
   have av:=ae C M M.lt;rw[B]at av
   (repeat (first|refine aq ?_|refine uF ?_|(refine Hv ?_ (by assumption) ?_ ?_;rotate_left;exact rfl)|refine FW ?_|refine aL ?_|refine ax oo ?_))
   refine bv underlying104 ?_;have an:(LO.app b).k=1:=rfl;rw[an];by_cases h1:j=1
   .subst h1
    (repeat (first|refine AC ?_|refine AB ?_|refine aL ?_|refine aA ?_))
    refine ZW (T.below C) G ty (by simpa using ad) ?_;intro w7 U c7;exact h w7 (D.f++b) (λe=>by rw[B]at e;cases e) (λa e=>by rw[B]at e;cases e;exact⟨b.length,Nat.le_refl _,by rw[List.take_length]⟩) (by simpa using U) ((Ch.of_below C).trans c7 λ_ h=>.inl h)
   .obtain rfl:j=0:=by omega
    (repeat (first|refine aq ?_|refine uF ?_|(refine Hv ?_ (by assumption) ?_ ?_;rotate_left;exact rfl)|refine AB ?_|refine aL ?_|refine aV ?_))
    refine fQ (s:=3) underlying104 kf oo oo <|ldA (n:=3) (vs:=[fv,slv v,.bool true]) underlying180 rfl kr ah (by simpa using S) rfl <|bO (z:=.agg #[.nilFunc,.slice none 0 0,.bool false]) kr ?_;intro w4 R b4 _
    refine eW (n:=3) kr rfl R (by simp[Value.cells]) (by simp only[oO,oR,or_false];rintro u (rfl|rfl|rfl)<;>first|exact I|rfl) ?_;intro w5 E o5;have E:blk w5 w3.heap.size 180 [fv,slv v,.bool true]:=E;have H:=b4.trans o5.below;have r:=tB C H;have V:=ae H G G.lt
    (repeat (first|refine zaB ?_|(refine Ek ?_ (by assumption) ?_ ?_;rotate_left;exact rfl)|refine aV ?_))
    refine aw (λa => blk a w3.heap.size 180 [fv,slv v,.bool true]) E <|hW KJ <|ac (λw L _=>lK L rfl) <|hW EB <|ac (λw L _=>lK L rfl) <|hW EB <|ac (λw L _=>lK L rfl) <|ac (λw L _=>wW) <|ac (λw L _=>aR oo oo) ?_;have dr:=bDr w5
    refine zdN (w:=w5.drew) (i:=1) (m:=b.length+1) (by rw[az];push_cast;rfl) oo ((RIn.below hr r oA).drew) λmm aG=>?_;refine aB E ?_;have aD:=Z.rb.cap;refine ac (λw L _=>VG (s:=1) (m:=mm) underlying101 Cr oo) ?_;have aC:=(al.below H).below dr
    refine call (w3:=w5.drew) (tB r dr) (ae dr (ae H t t.lt) (ae H t t.lt).lt) V.drew ((ty.below H).below dr) (aC.cut (m:=mm) (q:=v.2.2) oo oo oA) (by rw[qA];simp;omega) λw6 y6 W aa c6=>?_;have ab:=(tB r dr).trans (c6.below (λx B=>by rw[mS B];exact Nat.le_refl _) r.size)
    (repeat (first|refine AC ?_))
    refine ZW (T.below ab) W aa (by rw[oT,qA];simp;omega) ?_;intro w7 U c7;exact h w7 _ (λe=>by rw[B]at e;cases e) (λa e=>by rw[B]at e;cases e;exact⟨mm,by omega,by simp⟩) U ((Ch.of_below ab).trans c7 λ_ h=>.inl h)
end
end
end Go.Proofs.YtpaghmnnhedccaaGreatDoor
