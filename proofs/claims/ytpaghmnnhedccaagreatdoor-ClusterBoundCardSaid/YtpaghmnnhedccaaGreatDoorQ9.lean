import Derived.Shelf.SlSortCmp.NoneTotal
import Derived.Shelf.SlGeneric
import Derived.Ground.SlsfProg
import Derived.Test.YtpaghmnnhedccaaGreatDoorQ8
set_option linter.all false
namespace Go.Proofs.YtpaghmnnhedccaaGreatDoor
set_option maxRecDepth 100000
set_option maxHeartbeats 4000000
open Go.Proofs.Tryz
open Go.RowKit
variable {w w' w0 w2 S O:oG}{K:KV}{zf:Nat->oF}{b c o i g m s j f z d c2 D gc hi:Nat}{a av a2:Option Addr}{x v r:Int}{E t e:TypeId}{A:List Int}{B1 N R:KE}{xs vs:oE}{cx cy:Bool}{T:List (Int×Int)}{X1 Z1 N2 O2 P2 Q2 R2 T2 U2 H Z U Y J C:oF}
def Yk(h:bld Q 160 #[] (λa=>box Q 160 a K) w):Gives Q 38 #[] w K:=au func38 kr (mpK h)
def Gl(c b a:oF)(zf:oD):=c::zf 1::zf 2::b::zf 4::a::zT zf 6 58 ([])
def Gm(a:oF)(zf:oD):=a::zT zf 1 63 ([])
def sc(K:KV):KE:=ai Q (cd f70 [1,1,1]) (rk f70 K) xf (rk f70 K)
def se(K:KV):KE:=ai Q (cd f70 (b1 63)) (rk f70 K) xf (rk f70 K)
def RM(h:box Q 54 U (λZ=>bT .eql 124 H (.pointer none) λr w=>cond r (K (ci 2) w) (ld Q 54 Z (λd=>call Q 68 #[d] λe=>un Q .not e λa w=>cond a (K (ci 1) w) (aF (λS w=>hN S H λh=>hF S 160 h 1 λf=>hL S 38 f λg=>hL S 54 Z λi=>call Q 87 #[g,i] (λb=>aF λ_ w=>cond b (K (ci 14) w) (aF (λS w=>hN S H λj=>hF S 160 j 1 λk=>hL S 38 k λl=>hL S 54 Z λm=>call Q 88 #[l,m] (λn=>aF λS w=>hld S (un Q .not n) λc=>cond c (K (ci 13) w) (ao Q 54 Z 0 (λo=>ld Q 3 o λp=>bT .sub 3 p (ci 1) λq=>sc K (Gl H Z q (zV (zV (zV zu 1 [U]) 4 [ci 0]) 6 [r,H,r,a,d,e,a,b,H,h,f,g,i,b,c,H,j,k,l,m,n,c,o,p,q]))) w)) w) w.drew)) w) w.drew)) w)) w):Gives Q 70 #[H,U] w K:=by refine au func70 kr <|rpT [1,1,1] (cd f70 [1,1,1]) (cd f70 []) ?_;revert h;delta sc;generalize (cd f70 [1,1,1])=xc0;exact mpF
def OF(h:aF (λS w=>hN S H λa=>hF S 160 a 0 λb=>hI S 158 b Z λc=>hL S 157 c λd=>hL S 54 U λe=>hN S H λf=>hF S 160 f 2 λg=>hL S 36 g λi=>hld S (bld Q 214 #[(0,e),(1,i)]) λj=>hN S H λm=>hF S 160 m 0 λn=>bM Q 157 1 #[(0,j)] (λk=>aX S λS=>blt Q .append #[157,157] 157 #[false,false] #[d,k] λl=>aX S λS w=>hI S 158 n Z λo=>sto Q 157 o l (λ_ w=>sF 54 U 1 (λp=>sL 36 p λq=>sN H λr=>sF 160 r 1 λs=>sI 38 s Z λt=>sto Q 36 t q λ_=>se K (Gm H (zV (zV (zV zf 3 [U]) 5 [Z]) 31 [H,Z,H,Z,a,b,c,d,e,H,f,g,i,j,k,l,m,n,o,H,Z,p,q,r,s,t]))) w.drew) w) w) w.drew):sc K (Gl H U Z zf) w:=by delta sc;refine rpT [1,1] (cd f70 (b1 63)) (cd f70 [1,1,1]) ?_;revert h;delta se;generalize (cd f70 (b1 63))=xc0;exact mpF
def OG(h:aU H (λa=>ao Q 160 a 2 λb=>ld Q 36 b λc=>bT .add 36 c (cu 1) λd=>aU H λe=>ao Q 160 e 2 λf=>sto Q 36 f d λ_=>K (ci 0)) w):se K (Gm H zf) w:=mpK h
attribute [irreducible] sc se
def Vr(h:call Q 274 #[H,Z,.func (.func 275) #[] #[]] (λa=>ext Q a 0 λb=>ext Q a 1 λ_=>K b) w):Gives Q 262 #[H,Z] w K:=au func262 kr (mpK h)
def RN(h:box Q 214 H (λa=>ao Q 214 a 0 λa=>ao Q 54 a 1 λb=>ld Q 36 b λc=>bF .leq 36 c Z λd w=>cond d (K (ci (-1)) w) (K (ci 1) w)) w):Gives Q 275 #[H,Z] w K:=au func275 kr (mpK h)
def iS(f a b e d c:oF)(zf:oD):=f::a::b::zT zf 3 5 (e::d::c::zT zf 11 38 ([]))
def iT(e a b d c:oF)(zf:oD):=e::a::b::zT zf 3 5 (d::c::zT zf 10 39 ([]))
def bC(K:KV):KE:=kZ f274 [1,1,1,1] K
def dt(K:KV):KE:=ai Q (cd f274 (b1 60)) (bC K) (xx xf (bC K) 0) (rk f274 K)
def pS(h:lN 157 H (λa=>dt K (iS H U Z a (ci 0) a (zV (zV zu 6 [ci 0,cF]) 12 [H,a,a]))) w):Gives Q 274 #[H,U,Z] w K:=au func274 kr (mpK h)
def pf(Inv:oF->oF->oG->Prop)(μ:oF->oF->oG->Nat)(p:Inv J C w)(q:∀(b a:oF) (o:oD) (w:oG) (m:Nat),Inv b a w->m=μ b a w ->
  lS b a (λd w=>cond d (bF .add 3 b a (λf=>conv Q 3 147 f λg=>bT .shr 147 g (cu 1) λi=>conv Q 147 3 i λc=>aW Q 157 Z c λj=>ld Q 214 j λk=>bA Q H #[k,U] λl=>bT .lss 3 l (ci 0) λn w=>cond n (nC c (λe w=>(Inv e a w)/\((μ e a w)<m)) w) ((Inv b c w)/\((μ b c w)<m))) w) (bC K (iT Z U H Y b (zV (zV o 10 [a]) 15 [b,a,d])) w)) w):dt K (iS Z U H Y J C zf) w:=by refine lW (cd f274 (b1 120)) [(9,3),(15,20)] 9 10 zf p q ?_;intro r s;exact mpF
def ph(h:lS H J (λa w=>aM a true (λf=>aW Q 157 U H (λb=>ld Q 214 b λc=>bA Q Z #[c,Y] λd=>bT .eql 3 d (ci 0) λg=>f [Z,U,H,b,c,Y,d,g]) w) (λk=>k [uu,uu,uu,uu,uu,uu,uu,uu] w) λe=>pick a (gd e 7) cF λi=>K (.tuple #[H,i])) w):bC K (iT U Y Z J H zf) w:=mpK h
attribute [irreducible] bC dt
def DN(a e tA b c d:oF)(zf:oD):=zf 0::zf 1::a::zf 3::e::zf 5::tA::b::zT zf 8 9 (c::d::zT zf 19 34 ([]))
def DO(a tA b:oF)(zf:oD):=zf 0::zf 1::a::zT zf 3 3 (tA::b::zT zf 8 45 ([]))
def DP(tA a b c:oF)(zf:oD):=zT zf 0 6 (tA::zT zf 7 33 (a::b::c::zT zf 43 10 ([])))
def DQ(tA:oF)(zf:oD):=zT zf 0 6 (tA::zT zf 7 46 ([]))
def kz(K:KV):KE:=kZ f243 [1,1,1,1] K
def tO(K:KV):KE:=ai Q (cd f243 (b1 122)) (kz K) (xx xf (kz K) 0) (rk f243 K)
def kA(K:KV):KE:=kZ f243 (b1 127) K
def tP(K:KV):KE:=ai Q (cd f243 (b1 506)) (kA K) (xx xf (kA K) 2) (rk f243 K)
def OH(h:box Q 38 Z (λJ=>bT .eql 124 H (.pointer none) λb w=>cond b (K cN w) (aU H (λc=>ao Q 160 c 0 λa=>ld Q 158 a λU=>tO K (DN Y J cN cN U (ci 0) (zV (zV zu 0 [H,Z]) 12 [H,b,H,c,a]))) w)) w):Gives Q 243 #[H,Z,Y] w K:=au func243 kr (mpK h)
def Ma(Inv:oF->oF->oG->Prop)(μ:oF->oF->oG->Nat)(n:Inv Y J w)(o:∀(b a:oF) (l:oD) (w:oG) (m:Nat),Inv b a w->m=μ b a w ->
  bT .lss 3 a (ci 6) (λc w=>cond c (idx Q 158 H a (λd=>aW Q 38 Z a λg=>ld Q 36 g λi=>call Q 262 #[d,i] λj=>slc Q 157 d (some j) none none λk=>blt Q .append #[157,157] 157 #[false,false] #[b,k] λe=>nC a λf w=>(Inv e f w)/\((μ e f w)<m)) w) (kz K (DO C U b (zV (zV l 4 [Z]) 17 [H,a,c])) w)) w):tO K (DN C Z U Y H J zf) w:=by refine lW (cd f243 (b1 244)) [(7,3),(18,14)] 7 18 zf n o ?_;intro p q;exact mpF
def Mc(h:call Q 263 #[H,.func (.func 264) #[] #[]] (λd=>lN 157 H λa=>blt Q .min #[3,3] 3 #[false,false] #[Z,a] λb=>blt Q .max #[3,3] 3 #[false,true] #[b,ci 0] λc=>slc Q 157 H none (some c) none λU=>lN 157 U λJ=>tP K (DP Y U J (ci 0) (zV (zV (zV zf 2 [Z]) 7 [H]) 32 [H,d,H,Z,H,a,b,c]))) w):kz K (DO Z Y H zf) w:=mpK h
def Mb(Inv:oF->oF->oG->Prop)(μ:oF->oF->oG->Nat)(o:Inv U Y w)(p:∀(b a:oF) (n:oD) (w:oG) (m:Nat),Inv b a w->m=μ b a w ->
  lS a Z (λc w=>cond c (aW Q 157 H a (λg=>ld Q 214 g λi=>alc Q 214 λf=>sto Q 214 f i λ_=>ao Q 214 f 0 λj=>ld Q 54 j λk=>bM Q 30 1 #[(0,k)] λl=>blt Q .append #[30,30] 30 #[false,false] #[b,l] λd=>nC a λe w=>(Inv d e w)/\((μ d e w)<m)) w) (kA K (DQ b (zV n 40 [H,Z,a,c])) w)) w):tP K (DP U H Z Y zf) w:=by refine lW (cd f243 (b1 1012)) [(6,1),(11,1),(42,10)] 6 42 zf o p ?_;intro q r;exact mpF
def Md(h:K H w):kA K (DQ H zf) w:=mpK h
attribute [irreducible] kz tO kA tP
def M9(h:box Q 214 H (λa=>box Q 214 Z λe=>ao Q 214 a 1 λa=>ld Q 36 a λb=>ao Q 214 e 1 λc=>ld Q 36 c λd=>call Q 76 #[b,d] K) w):Gives Q 264 #[H,Z] w K:=au func264 kr (mpK h)
end Go.Proofs.YtpaghmnnhedccaaGreatDoor
namespace Go.Proofs
open Go.Shelf
def Tryz.sortGr_ren:Go.Shelf.Ren:=⟨λ|6=>72|15=>92|14=>91|28=>115|29=>116|20=>107|21=>108|22=>109|23=>110|24=>111|25=>112|26=>113|27=>114|46=>122|47=>123|48=>124|49=>125|50=>126|57=>138|n=>n,λ|22=>40|24=>96|25=>195|3=>3|39=>147|0=>0|53=>220|55=>36|4=>4|46=>234|45=>233|50=>238|5=>5|9=>9|66=>246|70=>250|76=>261|77=>262|n=>n,λ|n=>n⟩
theorem Tryz.sortGr : Go.Proofs.SlLaysF0.n6 Tryz.prog Tryz.sortGr_ren := {
  mixed := by kernel_rfl
  f6 := ⟨Tryz.f72.name, by decide, Tryz.func72.trans (congrArg some (by kernel_rfl))⟩
  f14 := ⟨Tryz.f91.name, by decide, Tryz.func91.trans (congrArg some (by kernel_rfl))⟩
  f15 := Tryz.func92.trans (congrArg some (by kernel_rfl))
  f20 := ⟨Tryz.f107.name, by decide, Tryz.func107.trans (congrArg some (by kernel_rfl))⟩
  f21 := ⟨Tryz.f108.name, by decide, Tryz.func108.trans (congrArg some (by kernel_rfl))⟩
  f22 := ⟨Tryz.f109.name, by decide, Tryz.func109.trans (congrArg some (by kernel_rfl))⟩
  f23 := ⟨Tryz.f110.name, by decide, Tryz.func110.trans (congrArg some (by kernel_rfl))⟩
  f24 := ⟨Tryz.f111.name, by decide, Tryz.func111.trans (congrArg some (by kernel_rfl))⟩
  f25 := ⟨Tryz.f112.name, by decide, Tryz.func112.trans (congrArg some (by kernel_rfl))⟩
  f26 := ⟨Tryz.f113.name, by decide, Tryz.func113.trans (congrArg some (by kernel_rfl))⟩
  f27 := ⟨Tryz.f114.name, by decide, Tryz.func114.trans (congrArg some (by kernel_rfl))⟩
  f28 := Tryz.func115.trans (congrArg some (by kernel_rfl))
  f29 := Tryz.func116.trans (congrArg some (by kernel_rfl))
  f46 := ⟨Tryz.f122.name, by decide, Tryz.func122.trans (congrArg some (by kernel_rfl))⟩
  f47 := Tryz.func123.trans (congrArg some (by kernel_rfl))
  f48 := Tryz.func124.trans (congrArg some (by kernel_rfl))
  f49 := ⟨Tryz.f125.name, by decide, Tryz.func125.trans (congrArg some (by kernel_rfl))⟩
  f50 := ⟨Tryz.f126.name, by decide, Tryz.func126.trans (congrArg some (by kernel_rfl))⟩
  f57 := ⟨Tryz.f138.name, by decide, Tryz.func138.trans (congrArg some (by kernel_rfl))⟩
  t0 := Tryz.underlying0
  a0 := Tryz.isAgg0
  z0 := Tryz.sizeOf0
  v0 := Tryz.zeroValue0
  t3 := Tryz.underlying3
  a3 := Tryz.isAgg3
  z3 := Tryz.sizeOf3
  v3 := Tryz.zeroValue3
  t4 := Tryz.underlying4
  a4 := Tryz.isAgg4
  z4 := Tryz.sizeOf4
  v4 := Tryz.zeroValue4
  t5 := Tryz.underlying5
  a5 := Tryz.isAgg5
  z5 := Tryz.sizeOf5
  v5 := Tryz.zeroValue5
  t9 := Tryz.underlying9
  a9 := Tryz.isAgg9
  z9 := Tryz.sizeOf9
  v9 := Tryz.zeroValue9
  t22 := Tryz.underlying40
  a22 := Tryz.isAgg40
  z22 := Tryz.sizeOf40
  v22 := Tryz.zeroValue40
  t25 := Tryz.underlying195
  a25 := Tryz.isAgg195
  z25 := Tryz.sizeOf195
  v25 := Tryz.zeroValue195
  t39 := Tryz.underlying147
  a39 := Tryz.isAgg147
  z39 := Tryz.sizeOf147
  v39 := Tryz.zeroValue147
  t45 := Tryz.underlying233
  a45 := Tryz.isAgg233
  z45 := Tryz.sizeOf233
  v45 := Tryz.zeroValue233
  t46 := Tryz.underlying234
  a46 := Tryz.isAgg234
  z46 := Tryz.sizeOf234
  v46 := Tryz.zeroValue234
  t50 := Tryz.underlying238
  a50 := Tryz.isAgg238
  z50 := Tryz.sizeOf238
  v50 := Tryz.zeroValue238
  t53 := Tryz.underlying220
  a53 := Tryz.isAgg220
  z53 := Tryz.sizeOf220
  v53 := Tryz.zeroValue220
  t55 := Tryz.underlying36
  a55 := Tryz.isAgg36
  z55 := Tryz.sizeOf36
  v55 := Tryz.zeroValue36
  t66 := Tryz.underlying246
  a66 := Tryz.isAgg246
  z66 := Tryz.sizeOf246
  v66 := Tryz.zeroValue246
  t70 := Tryz.underlying250
  a70 := Tryz.isAgg250
  z70 := Tryz.sizeOf250
  v70 := Tryz.zeroValue250
  t76 := Tryz.underlying261
  a76 := Tryz.isAgg261
  z76 := Tryz.sizeOf261
  v76 := Tryz.zeroValue261
  t77 := Tryz.underlying262
  a77 := Tryz.isAgg262
  z77 := Tryz.sizeOf262
  v77 := Tryz.zeroValue262 }
end Go.Proofs
namespace Go.Proofs.YtpaghmnnhedccaaGreatDoor
variable {w w' w0 w2 S O:oG}{K:KV}{zf:Nat->oF}{b c o i g m s j f z d c2 D gc hi:Nat}{a av a2:Option Addr}{x v r:Int}{E t e:TypeId}{A:List Int}{B1 N R:KE}{xs vs:oE}{cx cy:Bool}{T:List (Int×Int)}{X1 Z1 N2 O2 P2 Q2 R2 T2 U2 H Z U Y J C:oF}
set_option maxRecDepth 100000
open Go.Proofs.Tryz
open Go.RowKit
def NZ(a b c d:oF)(zf:oD):=zT zf 0 3 (a::zf 4::zf 5::b::c::d::zT zf 9 9 ([]))
def O8(a:oF)(zf:oD):=zT zf 0 3 (a::zT zf 4 14 ([]))
def rP(K:KV):KE:=kZ f74 [1,1,1] K
def Bw(K:KV):KE:=ai Q (cd f74 (b1 58)) (rP K) (xx xf (rP K) 0) (rk f74 K)
def XV(h:lN 47 H (λZ=>Bw K (NZ (ci 0) H Z (ci 0) (zV (zV zu 0 [H]) 2 [ci 0]))) w):Gives Q 74 #[H] w K:=au func74 kr (mpK h)
def Uu(Inv:oF->oG->Prop)(μ:oF->oG->Nat)(g:Inv Y w)(i:∀(a:oF) (f:oD) (w:oG) (m:Nat),Inv a w->m=μ a w ->
  lS a H (λe w=>cond e (aW Q 47 U a (λd=>ld Q 3 d λb=>bF .neq 3 b Z λc w=>cond c (K b w) (nC a (λc w=>(Inv c w)/\((μ c w)<m)) w)) w) (rP K (O8 Z (zV f 6 [U,H,a,e])) w)) w):Bw K (NZ Z U H Y zf) w:=by refine lV (cd f74 (b1 116)) [(2,1),(5,1),(8,9)] 8 zf g i ?_;intro j k;exact mpF
def Uv(h:K H w):rP K (O8 H zf) w:=mpK h
attribute [irreducible] rP Bw
def OY(h:call Q 93 #[H] (λd=>call Q 93 #[Z] λa w=>cond d (cond a (K (ci 0) w) (K (ci (-1)) w)) (cond a (K (ci 1) w) (lS H Z (λb w=>cond b (K (ci (-1)) w) (bF .gtr 3 H Z (λc w=>cond c (K (ci 1) w) (K (ci 0) w)) w)) w))) w):Gives Q 75 #[H,Z] w K:=au func75 kr (mpK h)
def Lp(h:call Q 94 #[H] (λd=>call Q 94 #[Z] λa w=>cond d (cond a (K (ci 0) w) (K (ci (-1)) w)) (cond a (K (ci 1) w) (bF .lss 36 H Z (λb w=>cond b (K (ci (-1)) w) (bF .gtr 36 H Z (λc w=>cond c (K (ci 1) w) (K (ci 0) w)) w)) w))) w):Gives Q 76 #[H,Z] w K:=au func76 kr (mpK h)
def So(h:bF .neq 3 H H K w):Gives Q 93 #[H] w K:=au func93 kr (mpK h)
def XY(h:fl Q 167 none (λa=>bld Q 169 #[(0,a)] λa=>box Q 169 a K) w):Gives Q 41 #[] w K:=au func41 kr (mpK h)
def rG(a b c C0:oF)(zf:oD):=zf 0::a::b::zf 3::c::zT zf 5 8 (C0::zT zf 14 14 ([]))
def iz(K:KV):KE:=kZ f241 [1,1,1] K
def qt(K:KV):KE:=ai Q (cd f241 (b1 58)) (iz K) (xx xf (iz K) 0) (rk f241 K)
def KG(h:bT .eql 130 H (.pointer none) (λa w=>cond a (K cN w) (aU H (λb=>ao Q 169 b 0 λc=>ld Q 167 c λd=>rng Q 167 d λZ=>qt K (rG U uu cN Z (zV (zV zu 0 [H]) 7 [H,a,H,b,c,d]))) w)) w):Gives Q 241 #[H,U] w K:=au func241 kr (mpK h)
def HP(Inv:oF->oG->Prop)(μ:oF->oG->Nat)(c:Inv U w)(d:∀(a:oF) (b:oD) (w:oG) (m:Nat),Inv a w->m=μ a w ->
  nxt Q H false 0 (λc=>ext Q c 0 λd w=>cond d (ent Q H (λb=>ext Q b 1 λb=>bA Q Z #[b] λc w=>cond c (bM Q 346 1 #[(0,b)] (λb=>blt Q .append #[346,346] 346 #[false,false] #[a,b] λa w=>(Inv a w)/\((μ a w)<m)) w) ((Inv a w)/\((μ a w)<m))) w) (iz K (rG Z Y a H (zV b 14 [c,d])) w)) w):qt K (rG Z Y U H zf) w:=by refine lV (cd f241 (b1 116)) [(4,1),(6,1),(14,11)] 4 zf c d ?_;intro e f;exact mpF
def HQ(h:call Q 260 #[H,.func (.func 261) #[] #[]] (λ_=>K H) w):iz K (rG U Y H Z zf) w:=mpK h
attribute [irreducible] iz qt
def sr(a A3 A4 A5:oF)(zf:oD):=zf 0::zf 1::a::zT zf 3 3 (A3::A4::A5::zT zf 9 12 ([]))
def iZ(K:KV):KE:=kZ f218 [1,1] K
def rF(K:KV):KE:=ai Q (cd f218 [1,0,1,0]) (iZ K) (xx xf (iZ K) 0) (rk f218 K)
def Lu(h:call Q 241 #[H,.func (.func 242) #[] #[]] (λZ=>lN 346 Z λU=>rF K (sr cN Z U (ci 0) (zV (zV zu 0 [H]) 5 [H]))) w):Gives Q 218 #[H] w K:=au func218 kr (mpK h)
def Jt(Inv:oF->oF->oG->Prop)(μ:oF->oF->oG->Nat)(d:Inv Y U w)(e:∀(a b:oF) (c:oD) (w:oG) (m:Nat),Inv a b w->m=μ a b w ->
  lS b H (λd w=>cond d (aW Q 346 Z b (λc=>ld Q 287 c λc=>aU c λc=>ao Q 292 c 0 λc=>ld Q 290 c λc=>bM Q 324 1 #[(0,c)] λc=>blt Q .append #[324,324] 324 #[false,false] #[a,c] λa=>nC b λb w=>(Inv a b w)/\((μ a b w)<m)) w) (iZ K (sr a Z H b (zV c 9 [d])) w)) w):rF K (sr Y Z H U zf) w:=by refine lW (cd f218 (b1 52)) [(2,1),(4,1),(8,12)] 2 8 zf d e ?_;intro f g;exact mpF
def Ju(h:K H w):iZ K (sr H Y Z U zf) w:=mpK h
attribute [irreducible] iZ rF
def Js(h:K cT w):Gives Q 242 #[H] w K:=au func242 kr (mpK h)
def tM(c a b A6 A7 A8:oF)(zf:oD):=zf 0::zf 1::c::a::b::zT zf 5 4 (A6::A7::A8::zT zf 12 30 ([]))
def jr(K:KV):KE:=kZ f220 [1,1] K
def sj(K:KV):KE:=ai Q (cd f220 [1,0,1,0]) (jr K) (xx xf (jr K) 0) (rk f220 K)
def ME(h:box Q 36 U (λZ=>call Q 241 #[H,.func (.func 245) #[] #[Z]] λY=>lN 346 Y λJ=>sj K (tM uu Z cN Y J (ci 0) (zV (zV zu 0 [H,U]) 7 [H,.func (.func 245) #[] #[Z]]))) w):Gives Q 220 #[H,U] w K:=au func220 kr (mpK h)
def Ky(Inv:oF->oF->oG->Prop)(μ:oF->oF->oG->Nat)(d:Inv Y J w)(e:∀(a b:oF) (c:oD) (w:oG) (m:Nat),Inv a b w->m=μ a b w ->
  lS b Z (λd w=>cond d (aW Q 346 H b (λc=>ld Q 287 c λc=>aU c λd=>ao Q 292 d 0 λd=>ld Q 290 d λd=>bM Q 324 1 #[(0,d)] λd=>blt Q .append #[324,324] 324 #[false,false] #[a,d] λa w=>sL 36 U (λd=>sN c λe=>sF 292 e 2 λe=>sL 36 e λe=>sti (bF .add 36 d e) λd=>sN c λe=>sF 292 e 1 λe=>sto Q 36 e d λ_=>aU c λd=>ao Q 292 d 2 λd=>ld Q 36 d λd=>bin Q .mul 36 true false (cu 2) d λd=>blt Q .min #[36,36] 36 #[false,true] #[d,cu 16] λd=>aU c λc=>ao Q 292 c 2 λc=>sto Q 36 c d λ_=>nC b λb w=>(Inv a b w)/\((μ a b w)<m)) w.drew) w) (jr K (tM C U a H Z b (zV c 12 [d])) w)) w):sj K (tM C U Y H Z J zf) w:=by refine lW (cd f220 (b1 52)) [(4,1),(6,1),(11,30)] 4 11 zf d e ?_;intro f g;exact mpF
def Kz(h:K H w):jr K (tM J C H Z U Y zf) w:=mpK h
attribute [irreducible] jr sj
def WU(h:call Q 37 #[Z] (λa=>ext Q a 0 λc=>ext Q a 1 λa=>bT .neq 26 a (ci 0) λb w=>aM b false (λc=>bT .lss 3 H (ci 1) (λa=>c [H,a]) w) (λk=>k [uu,uu] w) λa=>pick b cT (gd a 1) λa w=>aM a false (λd=>bT .gtr 3 H (ci 6) (λa=>d [H,a]) w) (λk=>k [uu,uu] w) λb=>pick a cT (gd b 1) λa w=>cond a (K (.tuple #[.pointer none,ci 1]) w) (call Q 38 #[] (λa=>call Q 39 #[] λb=>call Q 40 #[] λd=>call Q 41 #[] λe=>bld Q 133 #[(0,H),(1,c),(2,a),(3,b),(4,d),(5,e)] λa=>box Q 133 a λa=>K (.tuple #[a,ci 0])) w)) w):Gives Q 29 #[Z,H] w K:=au func29 kr (mpK h)
def zc(h:box Q 54 Z (λa w=>aF (λS w=>hN S H λb=>hF S 133 b 1 λb=>hL S 121 b λb=>hL S 54 a λc=>call Q 69 #[b,c] (λb=>aF λ_=>bT .neq 26 b (ci 0) λc w=>cond c (K b w) (aF (λS w=>hN S H λb=>hF S 133 b 2 λb=>hL S 124 b λb=>hL S 54 a λa=>call Q 70 #[b,a] (λ_=>K (ci 0)) w) w.drew)) w) w.drew) w):Gives Q 53 #[H,Z] w K:=au func53 kr (mpK h)
def aC(f e a c d b A6 A7 A8:oF)(zf:oD):=f::zf 1::zf 2::e::a::zf 5::c::d::b::zf 9::A6::A7::A8::zT zf 13 52 ([])
def dV(K:KV):KE:=kZ f227 [1,1] K
def rC(K:KV):KE:=ai Q (cd f227 [1,0,1,0]) (dV K) (xx xf (dV K) 0) (rk f227 K)
def bK(K:KV):KE:=kZ f227 [1,1,1] K
def jj(K:KV):KE:=ai Q (cd f227 (b1 58)) (bK K) (xx xf (bK K) 2) (rk f227 K)
def dW(K:KV)(B1:KE):KE:=kY f227 (b1 467) B1 (xx xf (bK K) 2) K
def mA(K:KV)(B1:KE):KE:=ai Q (cd f227 (b1 466)) (dW K B1) (xx xf (bK K) 2) (rk f227 K)
abbrev xu(K:KV)(hA0:KE)(r0 m1:oF)(w:oG):Prop :=
  box Q 282 m1 (λa=>ao Q 282 a 4 λb=>ld Q 30 b λc=>lN 30 c λd=>hA0 (aC r0 a cN uu uu uu c d (ci 0) (zV (zV zu 1 [m1]) 9 [b]))) w
def FQ(h:xu K (ai Q (cd f227 [1,0,1,0]) (ai Q (cd f227 [1,1]) (rk f227 K) (λ_ _ _=>False) (rk f227 K)) (λi=>@Bool.rec (λ_=>KE) ((λ_ _ _=>False) i) (ai Q (cd f227 [1,1]) (rk f227 K) (λ_ _ _=>False) (rk f227 K)) (Nat.beq i 0)) (rk f227 K)) H Z w):ai Q (cd f227 []) (rk f227 K) xf (rk f227 K) (aC H uu uu uu uu uu uu uu uu (zV zu 1 [Z])) w:=Eq.mp kr h
def Fk(h:xu K (rC K) H Z w):Gives Q 227 #[H,Z] w K:=au func227 kr (Eq.mp (qH (λc=>ai Q c (rk f227 K) xf (rk f227 K) (aC H uu uu uu uu uu uu uu uu (zV zu 1 [Z])) w) (by kernel_rfl:(cd f227 [])=(cd f227 []))) (FQ h))
def Dq(B1:KE)(a:KE)(h:lS Z J (λb w=>cond b (aW Q 30 Y Z (λa=>ld Q 54 a λc=>alc Q 54 λU=>sto Q 54 U c λ_ w=>aF (λS w=>hN S H λd=>hF S 133 d 3 λe=>hL S 126 e λf=>hN S H λg=>hF S 133 g 1 λh=>hL S 121 h λi=>hL S 54 U λj=>call Q 250 #[i] (λk=>aX S λ_=>call Q 249 #[f,k,j] λl=>nC Z λm=>B1 (aC H Z1 C U P2 Q2 Y J m (zV zf 13 [b,a,c,H,d,e,f,H,g,h,i,k,j,l,m]))) w) w.drew) w) (a (aC H Z1 C (zf 6) P2 Q2 Y J Z (zV zf 13 [b])) w)) w):ai Q (cd f227 (b1 52)) B1 (xx xf a 0) (rk f227 K) (aC H Z1 C (zf 6) P2 Q2 Y J Z zf) w:=Eq.mp kr h
def Dr(Inv:oF->oG->Prop)(μ:oF->oG->Nat)(f:Inv U2 w)(j:∀(a:oF) (e:oD) (w:oG) (m:Nat),Inv a w->m=μ a w ->
  lS a Y (λb w=>cond b (aW Q 30 U a (λb=>ld Q 54 b λb=>alc Q 54 λZ=>sto Q 54 Z b λ_ w=>aF (λS w=>hN S H λb=>hF S 133 b 3 λb=>hL S 126 b λb=>hN S H λc=>hF S 133 c 1 λc=>hL S 121 c λc=>hL S 54 Z λd=>call Q 250 #[c] (λc=>aX S λ_=>call Q 249 #[b,c,d] λ_=>nC a λa w=>(Inv a w)/\((μ a w)<m)) w) w.drew) w) (dV K (aC H Z1 J (e 6) C Q2 U Y a (zV e 13 [b])) w)) w):rC K (aC H Z1 J Z C Q2 U Y U2 zf) w:=by
 refine dC (cd f227 (b1 52)) (zr [(6,1),(12,16)]) kr (vP [12] Inv) (vQ [12] μ) f ?_;intro d O i;have h:=j _ (zM zf (gd d) (zr [(6,1),(12,16)])) O _ i rfl
 have g:ai Q (cd f227 (b1 52)) (λb c=>Inv (gd b 12) c/\μ (gd b 12) c<μ (gd d 12) O) (xx xf (dV K) 0) (rk f227 K) (aC H Z1 J (gd d 6) C Q2 U Y (gd d 12) (zM zf (gd d) (zr [(6,1),(12,16)]))) O:=Dq (λb c=>Inv (gd b 12) c/\μ (gd b 12) c<μ (gd d 12) O) (dV K) (Eq.mp kr h);exact Eq.mp kr g
abbrev vt(K:KV)(hA0:KE)(X1 Z1 N2 O2 P2 Q2 R2 T2 U2:oF)(zf:oD)(w:oG):Prop :=
  aF (λS w=>hN S X1 λa=>hF S 133 a 3 λb=>hL S 126 b λc=>hN S X1 λd=>hF S 133 d 1 λe=>hL S 121 e λf=>(call Q 250 #[f] (λg=>aX S λS w=>(call Q 251 #[c,g] (λh=>aF λS w=>hld S (ext Q h 0) λi=>hld S (ext Q h 1) λj=>alc Q 54 (λk=>aX S λS=>sto Q 54 k i λ_=>aX S λ_=>hA0 (aC X1 Z1 N2 O2 k j R2 T2 U2 (zV zf 28 [h,X1,a,b,c,X1,d,e,f,g,h,i,j]))) w) w)/\(alc Q 54 (λh=>aX S λ_=>call Q 251 #[c,g] λi=>aF λS w=>hld S (ext Q i 0) λj=>hld S (ext Q i 1) λk=>sto Q 54 h j (λ_=>aX S λ_=>hA0 (aC X1 Z1 N2 O2 h k R2 T2 U2 (zV zf 28 [i,X1,a,b,c,X1,d,e,f,g,i,j,k]))) w) w)) w)/\(alc Q 54 (λg=>aX S λS=>call Q 250 #[f] λh=>aX S λ_=>call Q 251 #[c,h] λi=>aF λS w=>hld S (ext Q i 0) λj=>hld S (ext Q i 1) λk=>sto Q 54 g j (λ_=>aX S λ_=>hA0 (aC X1 Z1 N2 O2 g k R2 T2 U2 (zV zf 28 [i,X1,a,b,c,X1,d,e,f,h,i,j,k]))) w) w)) w.drew
def Du(h:vt K (ai Q (cd f227 (b1 58)) (ai Q (cd f227 [1,1,1]) (rk f227 K) (λ_ _ _=>False) (rk f227 K)) (λi=>@Bool.rec (λ_=>KE) ((λ_ _ _=>False) i) (ai Q (cd f227 [1,1,1]) (rk f227 K) (λ_ _ _=>False) (rk f227 K)) (Nat.beq i 2)) (rk f227 K)) X1 Z1 H Z U Y J C U2 zf w):ai Q (cd f227 [1,1]) (rk f227 K) xf (rk f227 K) (aC X1 Z1 H Z U Y J C U2 zf) w:=Eq.mp kr h
def Dv(h:vt K (jj K) X1 Z1 H Z U Y J C U2 zf w):dV K (aC X1 Z1 H Z U Y J C U2 zf) w:=by delta dV;exact Eq.mp (qH (λc=>ai Q c (rk f227 K) xf (rk f227 K) (aC X1 Z1 H Z U Y J C U2 zf) w) (by kernel_rfl:(cd f227 [1,1])=(cd f227 [1,1]))) (Du h)
def Ds(B1:KE)(a:KE)(b:Code)(h:cond H (ai Q b (ai Q (cd f227 (b1 467)) B1 (λi=>@Bool.rec (λ_=>KE) ((λ_ _ _=>False) i) a (Nat.beq i 2)) (rk f227 K)) (λi=>@Bool.rec (λ_=>KE) ((λ_ _ _=>False) i) a (Nat.beq i 2)) (rk f227 K) (aC X1 Z1 Z U Y H J C U2 (zV zf 41 [H])) w) (a (aC X1 Z1 Z U Y H J C U2 (zV zf 41 [H])) w)):ai Q (rep [1,0] b (cd f227 (b1 116))) B1 (xx xf a 2) (rk f227 K) (aC X1 Z1 Z U Y H J C U2 zf) w:=Eq.mp kr h
def Dt(Inv:vI 3)(μ:vM 3)(g:Inv N2 P2 Q2 w)(k:∀(a e c:oF) (f:oD) (w:oG) (m:Nat),Inv a e c w->m=μ a e c w ->
  cond c (mA K (λb S=>(Inv (gd b 4) (gd b 7) (gd b 8) S)/\((μ (gd b 4) (gd b 7) (gd b 8) S)<m)) (aC J C a H e c Z U Y (zV f 41 [c])) w) (bK K (aC J C a H e c Z U Y (zV f 41 [c])) w)):jj K (aC J C N2 H P2 Q2 Z U Y zf) w:=by
 refine dC (cd f227 (b1 116)) (zr [(4,1),(7,2),(41,23)]) kr (vP [4,7,8] Inv) (vQ [4,7,8] μ) g ?_;intro d O j;have h:=k _ _ _ (zM zf (gd d) (zr [(4,1),(7,2),(41,23)])) O _ j rfl
 have i:ai Q (rep [1,0] (cd f227 (b1 466)) (cd f227 (b1 116))) (λb S=>Inv (gd b 4) (gd b 7) (gd b 8) S/\μ (gd b 4) (gd b 7) (gd b 8) S<μ (gd d 4) (gd d 7) (gd d 8) O) (xx xf (bK K) 2) (rk f227 K) (aC J C (gd d 4) H (gd d 7) (gd d 8) Z U Y (zM zf (gd d) (zr [(4,1),(7,2),(41,23)]))) O:=Ds (λb S=>Inv (gd b 4) (gd b 7) (gd b 8) S/\μ (gd b 4) (gd b 7) (gd b 8) S<μ (gd d 4) (gd d 7) (gd d 8) O) (bK K) (cd f227 (b1 466)) (Eq.mp kr h)
 exact Eq.mp kr i
abbrev vp(K:KV)(B1:KE)(hA0:KE)(X1 Z1 N2 O2 P2 Q2 R2 T2 U2:oF)(zf:oD)(w:oG):Prop :=
  ld Q 54 P2 (λa=>call Q 53 #[X1,a] λb=>bT .eql 26 b (ci 0) λc w=>cond c (ld Q 54 P2 (λd=>bM Q 30 1 #[(0,d)] λe=>blt Q .append #[30,30] 30 #[false,false] #[N2,e] λf=>hA0 (aC X1 Z1 f O2 P2 Q2 R2 T2 U2 (zV zf 55 [X1,a,b,c,N2,d,e,f]))) w) (hA0 (aC X1 Z1 N2 O2 P2 Q2 R2 T2 U2 (zV zf 55 [X1,a,b,c])) w)) w
def Do(B1:KE)(a:KE)(b:KE)(h:vp K B1 a X1 Z1 H Z U Y J C U2 zf w):ai Q (cd f227 (b1 466)) a (xx xf b 2) (rk f227 K) (aC X1 Z1 H Z U Y J C U2 zf) w:=Eq.mp kr h
def Dp(h:vp K B1 (dW K B1) X1 Z1 H Z U Y J C U2 zf w):mA K B1 (aC X1 Z1 H Z U Y J C U2 zf) w:=by delta mA;exact Eq.mp (qH (λc=>ai Q c (dW K B1) (xx xf (bK K) 2) (rk f227 K) (aC X1 Z1 H Z U Y J C U2 zf) w) (by kernel_rfl:(cd f227 (b1 466))=(cd f227 (b1 466)))) (Do B1 (dW K B1) (bK K) h)
abbrev vu(K:KV)(X1 Z1 N2 O2 P2 Q2 R2 T2 U2:oF)(zf:oD)(w:oG):Prop :=
  K N2 w
def Dw(h:vu K X1 Z1 H Z U Y J C U2 zf w):ai Q (cd f227 [1,1,1]) (rk f227 K) xf (rk f227 K) (aC X1 Z1 H Z U Y J C U2 zf) w:=Eq.mp kr h
def Dx(h:vu K X1 Z1 H Z U Y J C U2 zf w):bK K (aC X1 Z1 H Z U Y J C U2 zf) w:=by delta bK;exact Eq.mp (qH (λc=>ai Q c (rk f227 K) xf (rk f227 K) (aC X1 Z1 H Z U Y J C U2 zf) w) (by kernel_rfl:(cd f227 [1,1,1])=(cd f227 [1,1,1]))) (Dw h)
abbrev vw(K:KV)(B1:KE)(X1 Z1 N2 O2 P2 Q2 R2 T2 U2:oF)(zf:oD)(w:oG):Prop :=
  ld Q 54 P2 (λa=>alc Q 54 λb=>sto Q 54 b a λ_ w=>aF (λS w=>hN S X1 λc=>hF S 133 c 3 λd=>hL S 126 d λe=>hN S X1 λf=>hF S 133 f 1 λg=>hL S 121 g λh=>call Q 250 #[h] (λi=>aX S λ_=>call Q 251 #[e,i] λj=>aF λS w=>hld S (ext Q j 0) λk=>hld S (ext Q j 1) λl=>sto Q 54 b k (λ_=>aX S λ_=>B1 (aC X1 Z1 N2 O2 b l R2 T2 U2 (zV (zV zf 42 [j,X1,c,d,e,X1,f,g,h,i,j,k,l]) 63 [a]))) w) w) w.drew) w
def Dy(B1:KE)(a:KE)(h:vw K B1 X1 Z1 H Z U Y J C U2 zf w):ai Q (cd f227 (b1 467)) B1 (xx xf a 2) (rk f227 K) (aC X1 Z1 H Z U Y J C U2 zf) w:=Eq.mp kr h
def Dz(h:vw K B1 X1 Z1 H Z U Y J C U2 zf w):dW K B1 (aC X1 Z1 H Z U Y J C U2 zf) w:=by delta dW;exact Eq.mp (qH (λc=>ai Q c B1 (xx xf (bK K) 2) (rk f227 K) (aC X1 Z1 H Z U Y J C U2 zf) w) (by kernel_rfl:(cd f227 (b1 467))=(cd f227 (b1 467)))) (Dy B1 (bK K) h)
attribute [irreducible] dV rC bK jj dW mA
def iE(c b a A8:oF)(zf:oD):=c::zT zf 1 3 (b::zf 5::zf 6::a::zT zf 8 4 (A8::zT zf 13 31 ([])))
def fO(K:KV):KE:=kZ f206 [1,1] K
def QO(K:KV):KE:=kY f206 (b1 103) (fO K) (xx xf (fO K) 0) K
def lO(K:KV):KE:=ai Q (cd f206 (b1 205)) (QO K) (xx xf (fO K) 0) (rk f206 K)
def JM(h:box Q 282 Z (λU=>bT .eql 107 H (.pointer none) λa w=>cond a (K (.tuple #[cN,ci 2]) w) (ld Q 282 U (λb=>call Q 201 #[b] λc=>un Q .not c λd=>lO K (iE H U (ci 0) d (zV (zV (zV (zV zu 1 [Z,Y]) 6 [cN]) 9 [a,H,a]) 13 [b,c,d]))) w)) w):Gives Q 206 #[H,Z,Y] w K:=by refine au func206 kr <|rpT [1,0,0,1,1,0,1] (cd f206 (b1 205)) (cd f206 []) ?_;revert h;delta lO fO QO;generalize (cd f206 (b1 205))=xc0;exact mpF
def GY(h:cond Y (QO K (iE H Z U Y zf) w) (sF 282 Z 2 (λa=>sL 3 a λb=>sN H λc=>sF 133 c 0 λd=>sL 3 d λe=>sti (bF .neq 3 b e) λf=>QO K (iE H Z U f (zV zf 16 [a,b,H,c,d,e,f]))) w.drew)):lO K (iE H Z U Y zf) w:=by delta lO;revert h;exact mpF
def Ha(h:cond H (K (.tuple #[cN,ci 1]) w) (fO K (iE U Y Z H zf) w)):QO K (iE U Y Z H zf) w:=by delta QO;revert h;exact mpF
def GZ(h:aF (λS w=>hN S Z λa=>hF S 133 a 4 λa=>hL S 128 a λa=>hF S 282 H 1 λb=>hL S 3 b λb=>hF S 282 H 3 λc=>hL S 38 c λc=>call Q 226 #[a,b,c] (λ_=>fl Q 333 none λa=>fk Q 333 a (cb 1) (.func (.func 227) #[Z] #[]) λ_=>fk Q 333 a (cb 2) (.func (.func 228) #[Z] #[]) λ_=>ao Q 282 H 0 λb=>ld Q 5 b λb=>lkp Q 333 a b false λa=>ld Q 282 H λb=>bA Q a #[b] λa=>K (.tuple #[a,ci 0])) w) w.drew):fO K (iE Z H U Y zf) w:=mpK h
attribute [irreducible] fO QO lO
def Jb(h:alc Q 42 (λa=>bT .eql 107 H (.pointer none) λb w=>cond b (bld Q 42 #[] (λb=>sto Q 42 a b λ_=>aY Q [(some 42,a)] K) w) (aU H (λb=>ao Q 133 b 1 λb=>ld Q 121 b λb=>call Q 54 #[b] λb=>sto Q 42 a b λ_=>aY Q [(some 42,a)] K) w)) w):Gives Q 35 #[H] w K:=au func35 kr (mpK h)
def W8(W:HM):Option EV->HM
 | none=>W
 | some e=>ud W (nY e)
structure HK(V:List Int) (W:HM):Prop where
 key:∀p∈W,p.1=nY p.2
 may:∀p∈W,co p.2=true
 nd:(W.map (·.1)).Nodup
 new:∀p∈W,V.getD p.2.q 0<p.2.s
 few:W.length<=64
section
variable {V:List Int}{W W':HM}{l l':PL}{e:EV}{F:List EV}{n:Nat}{E:List EV}
def HK.nil:HK V []:=⟨by simp,by simp,by simp,by simp,by simp⟩
def HK.late(h:HK V W):∀x∈W,vC V x.2=false:=λx a=>by
 refine Bool.eq_false_iff.2 λb=>?_
 have:=(Ke (h.may x a)).1 b
 have:=h.new x a
 omega
def HK.put(h:HK V W):HK V (Qb V W e):=by
 unfold Qb;split
 .rename_i m;obtain⟨j,i,n,k⟩:=m;have f:∀p∈W++[(nY e,e)],p∈W\/p=(nY e,e):=λp c=>(oU.1 c).imp id mS;refine⟨λp c=>(f p c).elim (h.key p) λe=>by rw[e],λp c=>(f p c).elim (h.may p) λe=>by rw[e];exact j,?_,λp c=>(f p c).elim (h.new p) λd=>?_,by rw[oT,List.length_singleton];omega⟩
  .rw[jJ,List.nodup_append];refine⟨h.nd,by simp,λa l b g=>?_⟩;simp only[jK,List.map_nil,List.mem_singleton]at g;subst g;exact λd => wy.1 n (d ▸ l)
  .have : ¬e.s<=V.getD e.q 0:=λo=>by rw[(Ke j).2 o]at i;cases i
   rw[d];show V.getD e.q 0<e.s;omega
 .exact h
def HK.puts:∀{L:List EV} {W:HM},HK V W->HK V (my V W L)
 | [],_,h=>h
 | e::L,_,h=>HK.puts (L:=L) (h.put (e:=e))
def HK.step(h:HK l.V W)(hi:PI l)(w:dJ l.V W 6=some e):co e=true/\fS l.V e=true/\(ud W (nY e)).length+1=W.length/\HK (kJ e l).V (ud W (nY e)):=by
 obtain⟨n,i,t,j⟩:=GX (Nat.le_refl 6) w;have c:=wY j;have u:=h.key _ c;have k:=h.may _ c;have f:dA W (nY e)=some e:=by rw[<-u];exact j
 have v:=zfn h.nd f;obtain⟨y,z⟩:=tC n;refine⟨k,n,v,λp b=>h.key p (zK.1 b).1,λp b=>h.may p (zK.1 b).1,Vc h.nd,λp b=>?_,by have:=h.few;omega⟩;obtain⟨b,d⟩:=zK.1 b;have a:=h.new p b;unfold kJ;split
 .rename_i r;have o:=congrFun (EL hi ((mE hi).1 r)) p.2.q;unfold kV upD at o;rw[o];split
  .rename_i m;have g:=h.may p b;rw[h.key p b]at d
   have:p.2.s≠e.s:=λx=>d (by rw[zdo g,zdo k,m,x])
   rw[m]at a;omega
  .exact a
 .exact a
inductive DG (l:PL) (W:HM):PL->HM->List EV->Prop
 | nil:DG l W l W []
 | snoc {l':PL} {W':HM} {F:List EV} {e:EV}:DG l W l' W' F->dJ l'.V W' 6=some e->DG l W (kJ e l') (ud W' (nY e)) (if gF e l'=0 then F++[e]else F)
def DG.inv(h:DG l W l' W' F)(hi:PI l)(o:HK l.V W):PI l'/\HK l'.V W'/\W'.length+F.length<=W.length/\okL eff OK l F/\l'=dU eff l F/\∀e∈F,co e=true/\∃p∈W,p.2=e:=by
 have f:∀{l':PL} {W':HM} {F:List EV},DG l W l' W' F->∀p∈W',p∈W:=λh=>by
  induction h with
  | nil=>exact λ_ h=>h
  | snoc h hn ih=>exact λp r=>ih p (zK.1 r).1
 induction h with
 | nil=>exact⟨hi,o,Nat.le_refl _,trivial,rfl,by simp⟩
 | @snoc l' W' F e hd hn ih =>
  obtain⟨c,s,v,g,d,j⟩:=ih;obtain⟨q,u,t,b⟩:=s.step c hn;refine⟨YG c,b,?_,?_,?_,?_⟩
  .split
   .rw[oT,List.length_singleton];omega
   .omega
  .split
   .rename_i k;refine sS.2 ⟨g,?_,trivial⟩;rw[<-d];exact(mE c).1 k
   .exact g
  .unfold kJ;split
   .rw[qf, <-d];rfl
   .exact d
  .have m:∃p∈W,p.2=e:=by
    obtain⟨_,i,_,n⟩:=GX (Nat.le_refl 6) hn;exact⟨_,f hd _ (wY n),rfl⟩
   split
   .intro x a;rcases oU.1 a with a|a
    .exact j x a
    .rw[mS a];exact⟨q,m⟩
   .exact j
end
section
attribute [local irreducible] bin un conv call bA blt slc ao fld aW idx lkp fk mW eSt rng nxt ent ext alc box bld bM ld sto aU fl mkS ifc pick rdy wts aM sti cond aY Gives ai iy ke cOp
structure iQ where
 a:Option Nat
 cap:Nat
 it:List (EV×Int)
def lrV(r:iQ):oF:=.slice (r.a.map λb=>⟨b,0,none⟩) r.it.length r.cap
def itC(x:EV×Int):oE:=evC x.1++[u6 x.2]
def loC(R:List iQ)(V:List Int)(c:Int):oE:=R.map lrV++(vCs V++[u6 c])
theorem Ck(x:EV×Int):(itC x).length=15:=rfl
def QV(x:EV×Int):∀v∈itC x,v.oneCell'=true:=by
 intro v a;rcases oU.1 a with a|a
 .exact Cf _ v a
 .rw[mS a];rfl
def En(r:iQ):(lrV r).ownBlock=r.a:=by unfold lrV;cases r.a<;>rfl
def lrB(R:List iQ):List Nat:=R.filterMap (·.a)
structure LoM(w:oG) (g:Nat) (R:List iQ) (V:List Int) (c:Int):Prop where
 b:blk w g 160 (loC R V c)
 l6:R.length=6
 v6:V.length=6
 row:∀(i:Nat) r,R[i]? = some r->w.ownsRow 0 214 15 (lrV r) r.it.length (r.it.flatMap itC)
 nd:∀(i j:Nat) ri rj,i≠j->R[i]? = some ri->R[j]? = some rj->∀b,ri.a=some b->rj.a≠some b
 few:∀r∈R,r.it.length<=1000000
section
variable {R:List iQ}{V:List Int}{c:Int}
def LoM.in(h:LoM w g R V c)(d:b∈lrB R):∃(i:Nat) (r:iQ),R[i]? = some r/\r.a=some b:=by obtain⟨r,j,e⟩:=List.mem_filterMap.1 d;obtain⟨i,f⟩:=List.getElem?_of_mem j;exact⟨i,r,f,e⟩
def LoM.cur(h:LoM w g R V c){r:iQ}(l:R[i]? = some r)(f:r.a=some b):∃cs,w.heap[b]? = some (.cells cs 214 (0,0)):=by
 rcases(h.row i r l).2 with⟨e,_⟩|⟨g,j,d,e,_,k,_⟩
 .have:=En r;rw[e,f]at this;cases this
 .have:=En r
  rw[e,f]at this;simp only[Value.ownBlock,qD]at this;subst this;exact⟨d,k⟩
def LoM.ng(h:LoM w g R V c):g∉lrB R:=λd=>by
 obtain⟨i,r,f,e⟩:=h.in d;obtain⟨j,a⟩:=h.cur f e
 have:=h.b
 unfold blk at this;rw[a]at this;simp only[qD,Obj.cells.injEq]at this;exact qI this.2.1 dc
def LoM.lt(h:LoM w g R V c):∀k∈g::lrB R,k<w.heap.size:=by
 intro k a;rcases oO.1 a with rfl|a
 .exact h.b.lt
 .obtain⟨i,r,f,e⟩:=h.in a;obtain⟨cs,d⟩:=h.cur f e;exact(qM.1 d).1
def LoM.keep(h:LoM w g R V c)(d:∀k∈g::lrB R,S.heap[k]? = w.heap[k]?):LoM S g R V c :=
 {h with
  b:=by have:=h.b;unfold blk at *; rw[d g oB];exact this
  row:=λi r e=>cn (h.row i r e) λk a => d k (by rw[En]at a;exact oH _ (List.mem_filterMap.2 ⟨r,mO e,a⟩))}
def LoM.below(h:LoM w g R V c)(a:Below w.heap.size w S):LoM S g R V c:=h.keep λk b=>a.block k (h.lt k b)
def LoM.ch{F:List Nat}(h:LoM w g R V c)(b:Ch F w S)(hF:∀k∈g::lrB R,k∉F):LoM S g R V c:=h.keep λk a=>b.block k (h.lt k a) (hF k a)
def LoM.len(h:LoM w g R V c):(loC R V c).length=13:=by simp[loC,h.l6,bh,h.v6]
def LoM.cR(h:LoM w g R V c){k:Nat}{r:iQ}(a:R[k]? = some r):(loC R V c)[k]? = some (lrV r):=by
 have:=(gS a).1
 unfold loC;rw[qO (by simpa using this),qC,a];rfl
def LoM.c12(h:LoM w g R V c):(loC R V c)[12]? = some (u6 c):=by unfold loC;rw[show 12=6+(6+0)by rfl,eB (n:=6) (by rw[oY,h.l6]),eB (n:=6) (by rw[bh,h.v6])];rfl
def LoM.cV(h:LoM w g R V c):((loC R V c).drop 6).take 6=vCs V:=by unfold loC;rw[qS,oS (by rw[oY,h.l6];omega),oV,oY,h.l6,jO,oX,qJ (by rw[bh,h.v6];omega),tL (by rw[bh,h.v6];omega)]
def zku{k:Nat}{r:iQ}(a:R.length=6)(b:k<6):(loC R V c).set k (lrV r)=loC (R.set k r) V c:=by unfold loC;rw[List.set_append_left _ _ (by rw[oY,a];exact b),List.map_set]
def zkv{k:Nat}(a:R.length=6)(d:V.length=6)(b:k<6):(loC R V c).set (6+k) (u6 x)=loC R (V.set k x) c:=by unfold loC;rw[xv (n:=6) (by rw[oY,a]),Qp (n:=6) (by rw[bh,d]) b];unfold vCs;rw[List.map_set]
def zkw(a:R.length=6)(b:V.length=6):(loC R V c).set 12 (u6 x)=loC R V x:=by unfold loC;rw[show 12=6+(6+0)by rfl,xv (n:=6) (by rw[oY,a]),xv (n:=6) (by rw[bh,b])];rfl
end
def Xx:(Tryz.prog.info? 214).map (λi=>(i.zero,i.size,i.bytes))=some (some (.agg (itC (evZ,0)).toArray),15,120):=by kernel_rfl
def SB:fU Q 160 0 0 b o K w:=aJ kr
def SC:fU Q 160 1 6 b o K w:=aJ kr
def SE:fU Q 160 2 12 b o K w:=aJ kr
section
variable {R:List iQ}{V:List Int}{c:Int}{e:EV}
def zb7(h:K (.bool false) w):bin Q .eql 124 cx cy (pB b) (.pointer none) K w :=
 dZ (by unfold eqG eqGuard;rfl) kr h
def zjq(f:∀S,LoM S w.heap.size (List.replicate 6 ⟨none,0,[]⟩) (List.replicate 6 0) 0->Below w.heap.size w S->S.heap.size=w.heap.size+1->K (pB w.heap.size) S):call Q 38 #[] K w:=by
 refine aj (goK func38) (Yk (ck (vs:=loC (List.replicate 6 ⟨none,0,[]⟩) (List.replicate 6 0) 0) kr (bu λm e d l=>?_)));have a:∀(i:Nat) (r:iQ),(List.replicate 6 (⟨none,0,[]⟩:iQ))[i]? = some r->r=⟨none,0,[]⟩:=λi r a=>List.eq_of_mem_replicate (mO a)
 refine f m ⟨by simpa[Value.cells]using e,rfl,rfl,λi r h=>?_,λi j k n _ g _ b c=>?_,λr h=>?_⟩ d l
 .rw[a i r h];exact World.ownsRow_nil _ _ _ _
 .rw[a i k g]at c;cases c
 .rw[List.eq_of_mem_replicate h];exact qG _
def zjn{r:iQ}(h:LoM w g R V c)(I:R[e.q]? = some r)(hm:fS V e=true)(hv:∀k,k<6->0<=V.getD k 0)(hc:0<=c/\c<=1000000)(hl:r.it.length<1000000)(f:∀w' a' cap',LoM w' g (R.set e.q ⟨a',cap',r.it++[(e,c)]⟩) (V.set e.q e.s) (c+1)->(∀b,a'=some b->r.a=some b\/w.heap.size<=b)->Ch (g::lrB R) w w'->K (ci 0) w'):call Q 70 #[pB g,evV e] K w:=by
 have y:co e=true:=by unfold fS at hm;simp only[oM]at hm;exact hm.1
 obtain⟨B,ho⟩:=ue y;obtain⟨o1,o6,aE,aF⟩:=fZ y;have aD:=tC hm;have T:vC V e=false:=by
  refine Bool.eq_false_iff.2 λu=>?_
  have:=(Ke y).1 u
  omega
 have ax:=h.b.lt;refine aj (goK func70) (RM (By λw1 e1 b1 s1=>zb7 (aA (dh e1 (Fg λw2 b2=>bc ?_)))));rw[y];have L:=b1.trans (b2.mono oo);have h2:=h.below L;have e2:=ae b2 e1 e1.lt;refine aA (aw (λx=>LoM x g R V c/\blk x w.heap.size 54 (evC e)) ⟨h2.below (jU _ w2).drew,e2.drew⟩ ?_)
 refine hZ (hW SC (ac (λx d _ f=>ldA (n:=6) (vs:=vCs V) underlying38 rfl kr d.1.b d.1.cV (by rw[bh];exact d.1.v6) f) ?_));refine ac (λx d _ f=>dh d.2 f) (R8 h.v6 λw3 b3=>?_);rw[T];have M:=L.drew.trans (b3.mono L.size);have h3:=h.below M;have e3:=ae b3 e2.drew e2.drew.lt;refine hRT (aA ?_)
 refine aw (λx=>LoM x g R V c/\blk x w.heap.size 54 (evC e)) ⟨h3.below (jU _ w3).drew,e3.drew⟩ ?_;refine hZ (hW SC (ac (λx d _ f=>ldA (n:=6) (vs:=vCs V) underlying38 rfl kr d.1.b d.1.cV (by rw[bh];exact d.1.v6) f) ?_));refine ac (λx d _ f=>dh d.2 f) (Tx h.v6 hv λw4 b4=>?_);rw[hm];have N:=M.drew.trans (b4.mono M.size);have h4:=h.below N
 have e4:=ae b4 e3.drew e3.drew.lt;refine hRT (ac (v:=.bool false) (λx _ _ f=>bc f) (aA ?_));refine dO (lK (v:=iv e.o) e4 rfl (bL oo oo ?_));rw[show e.o-1=(e.q:Nat)by omega];refine OF <|aw (λx=>blk x g 160 (loC R V c)/\blk x w.heap.size 54 (evC e)) ⟨h4.b.drew,e4.drew⟩ ?_
 have ix:∀{x:oG} {K:KV},K (pA g e.q) x->aW Q 158 (pB g) (iv (e.q:Nat)) K x:=λf=>fg underlying158 (s:=1) kf oo oo (by rw[oK,oQ,Nat.mul_one];exact f);refine hZ (hW SB (ac (λx d _ f=>ix f) ?_));refine ac (v:=lrV r) (λx d _ f=>lK d.1 (h.cR I) f) (ac (λx d _ f=>dh d.2 f) ?_)
 refine hZ (hW SE (ac (v:=u6 c) (λx d _ f=>lK d.1 h.c12 f) ?_));refine ac (v:=.agg (itC (e,c)).toArray) (λx d _ f=>ck (vs:=itC (e,c)) kr f) ?_;refine hZ (hW SB ?_);refine nV [.agg (itC (e,c)).toArray] underlying157 (s:=15) kr kr oo rfl oB dc rfl (by
  intro v hv;rw[mS hv];rfl) λw5 i5 b5 s5=>?_
 have i5:=cZ i5
 have z:=N.drew.trans (b5.mono N.size);have Z:=h.below z;have e5:=ae b5 e4.drew e4.drew.lt;refine aB ⟨Z.b,e5⟩ ?_;obtain⟨ii,am,ar,ap,ag⟩:=info_parts Xx;refine wK (enc:=itC) (x:=(e,c)) underlying157 am ar ap ag rfl oo Ck (Z.row e.q r I) i5 (QV _) oo oo (qG _) λa' c' w6 r6 Y _ W=>?_;obtain⟨A,av,af,ad⟩:=gy r6 oo;subst af
 have P:r.a=some A\/A=w5.heap.size:=by
  have:=En r
  unfold lrV at this;rcases W with W|W
  .rw[this]at W;exact .inl W.symm
  .simp only[Value.ownBlock,qD]at W;exact .inr W
 have au:(Value.slice (r.a.map λb=>(⟨b,0,none⟩:Addr)) r.it.length r.cap).ownBlock=r.a:=En r;rw[au]at Y
 have o6:∀k,k<w5.heap.size->r.a≠some k->w6.heap[k]? = w5.heap[k]? := λk m ao=>Y.block k m λe=>ao e.symm;have al:r.a≠some g:=λe=>h.ng (List.mem_filterMap.2 ⟨r,mO I,e⟩);have ai:r.a≠some w.heap.size:=λe=>by
  have:=h.lt w.heap.size (oH _ (List.mem_filterMap.2 ⟨r,mO I,e⟩))
  omega
 have O:blk w6 g 160 (loC R V c):=by
  have:=Z.b;unfold blk at *; rw[o6 g Z.b.lt al];exact this
 have e6:blk w6 w.heap.size 54 (evC e):=by
  have G:=e5.lt;unfold blk at *; rw[o6 _ G ai];exact e5
 have X:∀(j:Nat) D,j≠e.q->R[j]? = some D->w6.ownsRow 0 214 15 (lrV D) D.it.length (D.it.flatMap itC):=λj D F U=>by
  refine cn (Z.row j D U) λk m=>o6 k (jT (Z.row j D U) k m).2 λl=>?_;rw[En]at m;exact h.nd j e.q D r F U I k m l
 refine aB ⟨O,e6⟩ (ac (λx d _ f=>ix f) ?_);have ay:=z.size;have az:=Y.size;have aC:A<w6.heap.size:=ad.blk.lt;have ak:A≠g:=λl => by
  have:=ad.blk
  rw[l]at this;exact qI this (λu=>qI rfl (O.ne u dc))
 refine cq kf O (by rw[h.len];omega) rfl λw7 z7 o7=>?_;rw[show (Value.slice (some ⟨A,0,none⟩) (r.it.length+1) c')=lrV ⟨some A,c',r.it++[(e,c)]⟩by unfold lrV;rw[oT];rfl,zku h.l6 B]at z7;have e7:=(o7.blk e6 oo).drew;have z7:=z7.drew;have C:(R.set e.q ⟨some A,c',r.it++[(e,c)]⟩).length=6:=by rw[qN];exact h.l6
 refine ah (λ_=>nB) (ah (v:=u6 e.s) (λ_=>lK e7 rfl) ?_);refine ah (λ_=>aq) (ah (λ_=>SC) (ah (λ_=>ixV rfl B) ?_));refine cq kf z7 (by simp only[loC,oT,oY,C,bh,h.v6,List.length_singleton];omega) rfl λw8 z8 o8=>?_;rw[oK,zkv C h.v6 B]at z8;have H:(V.set e.q e.s).length=6:=by rw[qN];exact h.v6
 refine OG (aq (SE (lK (v:=u6 c) z8 ?_ (xE ?_))))
 .unfold loC;rw[show 0+12=6+(6+0)by rfl,eB (n:=6) (by rw[oY,C]),eB (n:=6) (by rw[bh,H])];rfl
 rw[eJ,show (c+1)%18446744073709551616=c+1 by omega];refine aq (SE (cq kf z8 (by simp only[loC,oT,oY,C,bh,H,List.length_singleton];omega) rfl λw9 z9 o9=>?_));have z9:blk w9 g 160 (loC (R.set e.q ⟨some A,c',r.it++[(e,c)]⟩) (V.set e.q e.s) (c+1)):=by rw[<-zkw (c:=c) C H];exact z9
 have t9:∀k,k≠g->w9.heap[k]? = w6.heap[k]? := λk m=>(o9.other k m).trans ((o8.other k m).trans (o7.other k m));refine f w9 (some A) c' ⟨z9,C,H,λi J p=>?_,λi j J D S p F b E=>?_,λJ p=>?_⟩ (λb E=>?_) ?_
 .by_cases t:i=e.q
  .subst t;rw[jC (by rw[h.l6];exact B)]at p;cases p;rw[show (r.it++[(e,c)]).length=r.it.length+1 by simp]
   have:=cn r6 (w':=w9) λk m=>t9 k (by
    simp only[Value.ownBlock,qD]at m;rw[<-m];exact ak)
   unfold lrV;simpa using this
  .rw[jB (λl => t l.symm)]at p;refine cn (X i J t p) λk m=>t9 k λl=>?_;rw[En,l]at m;exact h.ng (List.mem_filterMap.2 ⟨J,mO p,m⟩)
 .have G:∀(x:Nat) (rx:iQ) (b:Nat),R[x]? = some rx->rx.a=some b->b<w.heap.size:=λx rx b hx E=>h.lt b (oH _ (List.mem_filterMap.2 ⟨rx,mO hx,E⟩));have ab:∀b,b<w.heap.size->b≠w5.heap.size:=λb E=>by omega
  by_cases t:i=e.q
  .subst t;rw[jC (by rw[h.l6];exact B)]at p;rw[jB S]at F;cases p;cases E;rcases P with u|u
   .exact h.nd e.q j r D S I F A u
   .exact λl => ab _ (G j D A F l) u
  .rw[jB (λl => t l.symm)]at p;by_cases aa:j=e.q
   .subst aa;rw[jC (by rw[h.l6];exact B)]at F;cases F;intro l;cases l;rcases P with u|u
    .exact h.nd i e.q J r t p I A E u
    .exact ab _ (G i J A p E) u
   .rw[jB (λl => aa l.symm)]at F;exact h.nd i j J D S p F b E
 .rcases List.mem_or_eq_of_mem_set p with p|rfl
  .exact h.few J p
  .simp;omega
 .cases E;rcases P with u|u
  .exact .inl u
  .exact .inr oo
 .refine⟨?_,?_,?_,?_,λk m hn=>?_⟩
  .exact o9.os.trans (o8.os.trans (o7.os.trans (Y.os.trans z.os)))
  .exact o9.tape.trans (o8.tape.trans (o7.tape.trans (Y.tape.trans z.tape)))
  .exact o9.output.trans (o8.output.trans (o7.output.trans (Y.output.trans z.output)))
  .have a9:=o9.size;have a8:=o8.size;have a7:=o7.size;have d7:w7.drew.heap.size=w7.heap.size:=rfl;omega
  .have an:k≠g:=λl => hn (by simp[l]);rw[t9 k an,o6 k oo (λl => hn (oH _ (List.mem_filterMap.2 ⟨r,mO I,l⟩))),z.block k m]
end
section
open Go.ChangeMaps
def zfF(k:Nat)(a:k<6):({pl0 k with I:=(pl0 k).I.set k true}:PL)=pl0 (k+1):=by
 unfold pl0
 congr 1
 match k,a with
 | 0,_=>rfl
 | 1,_=>rfl
 | 2,_=>rfl
 | 3,_=>rfl
 | 4,_=>rfl
 | 5,_=>rfl
def zex{q:LB}:Tryz.prog.built 156 [(3,pB q.t),(4,.map (some q.pm)),(5,.map (some q.rm)),(7,.map (some q.gm)),(8,.map (some q.am))]=some (plC q (pl0 0)).toArray:=by kernel_rfl
def zjD{n:Nat}(h1:1<=n)(h6:n<=6)(c:KD w)(hK:∀w' q,PM w' q (pl0 n)->(∀k∈q.l,k=1\/w.heap.size<=k)->Below w.heap.size w w'->K (.tuple #[pB q.p,ci 0]) w'):call Q 37 #[iv (n:Nat)] K w:=by
 refine aj (goK func37) (Yf (aL (df oo (cH (bw oo (ax oo ?_))))));refine zeh λF t tp X Y ht ad=>?_;refine wZ underlying150 rfl u6 u6 λG U b2 s2=>wZ underlying151 rfl u6 rgV λH V b3 s3=>wZ underlying152 rfl rqV grV λI W Z s4=>wZ underlying153 rfl rqV Value.bool λw5 m5 x s5=>?_;have ac:=X.lt;have T:=Y.size;have h0:=c.lt
 obtain⟨q,g⟩:∃q:LB,q=⟨w5.heap.size,t,tp,F.heap.size,G.heap.size,H.heap.size,I.heap.size⟩:=⟨_,rfl⟩
 have C:q.p=w5.heap.size:=by rw[g]
 have E:q.t=t:=by rw[g]
 have M:q.tp=tp:=by rw[g]
 have B:q.pm=F.heap.size:=by rw[g]
 have D:q.rm=G.heap.size:=by rw[g]
 have A:q.gm=H.heap.size:=by rw[g]
 have z:q.am=I.heap.size:=by rw[g]
 have ab:=X.ne;have P:q.l.Nodup:=by
  unfold LB.l;rw[C,E,M,B,D,A,z];simp only[jG,oO,oR,or_false,not_or,List.nodup_nil,and_true];refine⟨⟨?_,?_,?_,?_,?_,?_,?_⟩,⟨?_,?_,?_,?_,?_,?_⟩,⟨?_,?_,?_,?_,?_⟩,⟨?_,?_,?_,?_⟩,⟨?_,?_,?_⟩,⟨?_,?_⟩,?_,not_false⟩<;>omega
 rw[<-E, <-B, <-D, <-A, <-z];refine ck zex (bu λw6 f y s6=>?_);rw[<-C]at f |-;have a:(Value.agg (plC q (pl0 0)).toArray).cells.toList=plC q (pl0 0):=by simp[Value.cells]
 rw[a]at f;have v:=b3.trans ((Z.mono oo).trans ((x.mono oo).trans (y.mono oo)));have J:=Z.trans ((x.mono oo).trans (y.mono oo));have L:=x.trans (y.mono oo);have u:=b2.trans (v.mono oo);have s:=Y.trans (u.mono T)
 have p6:PM w6 q (pl0 0):=⟨rfl,rfl,rfl,f,by rw[E,M];exact X.below u,⟨[],by rw[B];exact U.below v,.refl _⟩,⟨[],by rw[D];exact V.below J,.refl _⟩,⟨[],by rw[A];exact W.below L,.refl _⟩,⟨[],by rw[z];exact m5.below y,λo r a b=>by
  have:pT (pl0 0).R (o-1).toNat r=false:=by
   unfold pT
   have:(pl0 0).R.getD (o-1).toNat []=[]:=by
    show (List.replicate 6 ([]:List Int)).getD _ []=[]
    rw[oN,jL];split<;>rfl
   rw[this];rfl
  rw[this];rfl⟩,P,c.below s⟩
 have S:∀k∈q.l,k=1\/w.heap.size<=k:=by
  intro k N;unfold LB.l at N;rw[C,E,M,B,D,A,z]at N;simp only[oO,oR,or_false]at N;omega
 refine V7 (Inv:=λi a=>∃k:Nat,i=iv (k:Nat)/\k<=n/\PM a q (pl0 k)/\Below w.heap.size w a) (μ:=mU n) ⟨0,rfl,qG _,p6,s⟩ ?_;rintro _ dd w7 m ⟨k,rfl,aa,j,b7⟩ hm;refine aL ?_;by_cases O:k<n
 .refine ay oo (aq (Id (WR rfl oo (cq kf j.b (by rw[j.len];omega) rfl λw8 h8 h=>aR oo oo ?_))));have d:=j.nd;rw[oK,j.sI oo,zfF k oo]at h8;refine⟨⟨k+1,ivS,O,?_,fR b7 h (by rw[C];have:=x.size;omega)⟩,mD hm⟩;obtain⟨i6,l6,v6,b,tm,⟨m1,x1,e1⟩,⟨U,x2,e2⟩,⟨V,x3,e3⟩,⟨W,x4,e4⟩,_,c⟩:=j
  exact⟨by simp[pl0],l6,v6,h8,tm.oth h (LN.tp d) (LN.dp d),⟨m1,x1.oth h (LN.mp d),e1⟩,⟨U,x2.oth h (LN.rp d),e2⟩,⟨V,x3.oth h (LN.gp d),e3⟩,⟨W,x4.oth h (LN.ap d),e4⟩,d,c.keep (h.other 1 (LN.zp d))⟩
 .have e:k=n:=by omega
  subst e;exact ax oo (V8 (hK w7 q j S b7))
def zin{l k:List Int}(e:l.Perm k)(c:l.Pairwise (· < ·))(d:k.Pairwise (· < ·)):l=k :=
 List.Perm.eq_of_pairwise (le:=(· < ·)) (λa b _ _ c d=>by omega) c d e
theorem Mf(t:STA):saC t=(t.I.map .bool++t.L.map .bool++t.V.map (.int .u64))++[.slice t.na t.nodes.length t.nc,t.gv]:=rfl
def zhO{t:STA}(b:t.I.length=6)(d:t.L.length=6)(e:t.V.length=6){N:List ND}{n:Nat}(f:N.length=n):(saC t).set 18 (.slice a n c)=saC {t with nodes:=N,na:=a,nc:=c}:=by subst f;rw[Mf,show (18:Nat)=18+0 by omega,xv (n:=18) (by simp[b,d,e])];rfl
def zhP{t:STA}(a:t.I.length=6)(b:t.L.length=6)(c:t.V.length=6){v:oF}:(saC t).set 19 v=saC {t with gv:=v}:=by rw[Mf,show (19:Nat)=18+1 by omega,xv (n:=18) (by simp[a,b,c])];rfl
def Et{t:STA}(a:t.I.length=6)(b:t.L.length=6)(c:t.V.length=6):(saC t)[18]? = some (.slice t.na t.nodes.length t.nc):=by rw[Mf,show (18:Nat)=18+0 by omega,eB (n:=18) (by simp[a,b,c])];rfl
def Ra{t:STA}(a:t.I.length=6)(b:t.L.length=6)(c:t.V.length=6):(saC t)[19]? = some t.gv:=by rw[Mf,show (19:Nat)=18+1 by omega,eB (n:=18) (by simp[a,b,c])];rfl
def rD{t:STA}(a:t.I.length=6)(b:t.L.length=6)(c:t.V.length=6):(saC t).length=20:=by simp[saC,a,b,c]
def NR.own{B n:Nat}{L:List ND}(h:w.ownsRow B 83 56 (.slice a n c) n (L.flatMap ndE))(k:L.length=n)(p:∀x∈L,x.A.length=54):NR w a n c L:=by
 refine⟨k,?_,?_,p,?_⟩
 .rcases h.2 with⟨y,z⟩|⟨g,r,d,v,_,_,D,_⟩
  .omega
  .simp only[Value.slice.injEq]at v;omega
 .intro s;obtain⟨g,d,e,_⟩:=gy h s;exact⟨g,0,e⟩
 .intro i x m b o e j u l;have C:i<n:=by rw[<-k];exact(gS m).1
  obtain⟨g,d,f,q⟩:=gy h oo;rw[f]at e;cases e;rw[<-Vi (p x (mO m))]at l;have t:j<56:=by rw[<-Cp x];exact(gS l).1
  rw[q.blk.cell,oK,q.cell Cp k m t];exact l
structure SO(w:oG) (B:Nat) (s:PL) (t:STA) (ga:Option Addr) (gc:Nat):Prop where
 eI:t.I=s.I
 eL:t.L=s.L
 eV:t.V=s.V
 eN:t.nodes=s.N
 gv:t.gv=.slice ga s.G.length gc
 nd:w.ownsRow B 83 56 (.slice t.na s.N.length t.nc) s.N.length (s.N.flatMap ndE)
 gr:w.ownsRow B 96 5 (.slice ga s.G.length gc) s.G.length (s.G.flatMap grC)
def SO.sk{B:Nat}{s:PL}{t:STA}(h:SO w B s t a gc)(hi:PI s):SK w t:=by have j:=hi.len30;obtain⟨I,L,V,b,m,n,k⟩:=t;obtain⟨c,d,e,f,g,i,l⟩:=h;simp only at c d e f g i;subst c d e f g;exact⟨hi.i6,hi.l6,hi.v6,NR.own i rfl hi.A54,by show s.N.length<=_;omega,rfl⟩
def zdm:(Tryz.prog.info? 83).map (λi=>(i.zero,i.size,i.bytes))=some (some (.agg (ndE ⟨0,0,[]⟩).toArray),56,448):=by kernel_rfl
def zew{x:ND}(h:x.A.length=54):Tryz.prog.built 83 [(0,u6 x.id),(1,u6 x.par),(2,rgV x.A)]=some (ndE x).toArray:=by
 unfold rgV;rw[<-zdB h]
 kernel_rfl
def zcQ{I L:List Bool}{V:List Int}(a:I.length=6)(b:L.length=6)(c:V.length=6):Tryz.prog.built 42 [(0,.agg (I.map .bool).toArray),(1,.agg (L.map .bool).toArray),(2,.agg (vCs V).toArray)]=some (saC ⟨I,L,V,[],none,0,.slice none 0 0⟩).toArray:=by
 obtain⟨_,_,_,_,_,_,rfl⟩:=BC a;obtain⟨_,_,_,_,_,_,rfl⟩:=BC b;obtain⟨_,_,_,_,_,_,rfl⟩:=BC c
 kernel_rfl
def Mh{t:STA}(b:t.gv.oneCell'=true):∀v∈saC t,v.oneCell'=true:=by
 intro v a;unfold saC at a;simp only[oU,qU,oO,oR,or_false]at a;rcases a with((⟨_,_,rfl⟩|⟨_,_,rfl⟩)|⟨_,_,rfl⟩)|(rfl|rfl)
 .rfl
 .rfl
 .rfl
 .rfl
 .exact b
section
variable {q:LB}{s:PL}
def PM.ldI(h:PM w q s)(a:K (.agg (s.I.map .bool).toArray) w):ld Q 35 (pA q.p (0+0)) K w:=by refine ldA (n:=6) (vs:=s.I.map .bool) underlying35 rfl kr h.b ?_ (by simp[h.i6]) a;unfold plC;rw[oK,oX,qJ (by simp[h.i6]),tL (by simp[h.i6])]
def PM.ldL(h:PM w q s)(a:K (.agg (s.L.map .bool).toArray) w):ld Q 35 (pA q.p (0+6)) K w:=by refine ldA (n:=6) (vs:=s.L.map .bool) underlying35 rfl kr h.b ?_ (by simp[h.l6]) a;unfold plC;rw[oK,show (6:Nat)=(s.I.map Value.bool).length by simp[h.i6],List.drop_left',qJ (by simp[h.i6,h.l6]),tL (by simp[h.i6,h.l6])];rfl
def zfH(h:PM w q s)(hi:PI s)(hP:∀{l0 s2:oF} {zf:oD} (w':oG) l o,l0=pB q.p->s2=pB w.heap.size->blk w' w.heap.size 42 (saC ⟨s.I,s.L,s.V,s.N,l,o,.slice none 0 0⟩)->w'.ownsRow (w.heap.size+1) 83 56 (.slice l s.N.length o) s.N.length (s.N.flatMap ndE)->Below w.heap.size w w'->fY K ((vj l0 s2 zf)) w'):call Q 54 #[pB q.p] K w:=by
 have av:=h.lt;have ap:=hi.len30;refine aj (goK func54) (KX ?_);refine bO (z:=.agg (saC ⟨List.replicate 6 false,List.replicate 6 false,List.replicate 6 0,[],none,0,.slice none 0 0⟩).toArray) kr λw1 T W s1=>DW (aA ?_);have T:=cZ T
 have p1:=(h.below W).drew;have T:=T.drew;have W:=W.drew;refine ah (λ_=>aq) (ah (λ_=>Id) (ah (λ_=>p1.ldI) ?_));refine ah (λ_=>aq) (ah (λ_=>Sy) (ah (λ_=>p1.ldL) ?_));refine ah (λ_=>aq) (ah (λ_=>Ed) (ah (λ_=>p1.ldV) ?_));refine ah (λ_=>ck (vs:=saC ⟨s.I,s.L,s.V,[],none,0,.slice none 0 0⟩) (zcQ hi.i6 hi.l6 hi.v6)) ?_
 refine eW (n:=20) kr (rD hi.i6 hi.l6 hi.v6) T (by simp[saC]) (Mh rfl) λw2 U o2=>?_;have U:blk w2 w.heap.size 42 (saC ⟨s.I,s.L,s.V,[],none,0,.slice none 0 0⟩):=by
  rw[qY,oV,oS (by simp[saC]),oW]at U;exact U
 have b2:=fR W o2 oA;have p2:=h.below b2;refine aq (BO (lK (v:=pB q.t) p2.b (by rw[oK];exact p2.c18) ?_));refine zbw p2.tm (by rw[Xe];omega) λw3 a c ids C al ag b3=>bv underlying187 ?_;have B:ids=s.N.map (·.id):=by
  refine zin ?_ al ?_
  .have e:(tr s.N).map (·.1)=s.N.map (·.id):=by unfold tr;rw[jH];rfl
   rw[<-e];exact C
  .exact List.pairwise_map.2 hi.srt
 have ar:ids.length=s.N.length:=by rw[B,oY]
 have z3:=ae b3 U U.lt;have F:=tB b2 b3;have az:=z3.lt;obtain⟨ii,af,hz,P,ad⟩:=info_parts zdm;refine Ix (Inv:=λi b=>∃(k:Nat) (l:Option Addr) (o:Nat),i=iv (k:Nat)/\k<=ids.length/\blk b w.heap.size 42 (saC ⟨s.I,s.L,s.V,s.N.take k,l,o,.slice none 0 0⟩)/\b.ownsRow (w.heap.size+1) 83 56 (.slice l k o) k ((s.N.take k).flatMap ndE)/\IdR b w2.heap.size a c ids/\Below w.heap.size w b)
  (μ:=mU ids.length) ⟨0,none,0,rfl,qG _,z3,World.ownsRow_nil _ _ _ _,ag,F⟩ ?_
 rintro _ dd Z m ⟨k,l,o,rfl,au,D,r4,R,j⟩ hm;refine aL ?_;by_cases r:k<ids.length
 .have ai:k<s.N.length:=by omega
  obtain⟨x,Y⟩:=gX ai;have y:x∈s.N:=mO Y;have M:ids[k]=x.id:=by
   have:ids[k]? = some x.id:=by rw[B,qC,Y];rfl
   rw[gE r]at this;exact Option.some.inj this
  have am:(s.N.take k).length=k:=by rw[qA];omega
  refine ay oo (R.at2 r λpt=>?_);rw[M];have hT:dB (tr s.N) x.id=true:=by rw[lu];exact nD.2 ⟨x,y,rfl⟩
  have O:fm (tr s.N) x.id=x.par:=HA (Re hi.srt) (qU.2 ⟨x,y,rfl⟩);have hA:aN s.N x.id=x.A:=Ex hi.srt y;have p4:=(h.below j).drew;have D:=D.drew;have aa:(saC ⟨s.I,s.L,s.V,s.N.take k,l,o,.slice none 0 0⟩)[18]? = some (.slice l k o):=by rw[Et hi.i6 hi.l6 hi.v6];show some (Value.slice l (s.N.take k).length o)=_;rw[am]
  refine aw (λu=>blk u w.heap.size 42 (saC ⟨s.I,s.L,s.V,s.N.take k,l,o,.slice none 0 0⟩)/\PM u q s) ⟨D,p4⟩ ?_;refine hW pZ (ac (λu f _=>lK (v:=.slice l k o) f.1 (by rw[oK];exact aa)) ?_);refine hZ (hW Sz (ac (λu f _=>lK (v:=.map (some q.pm)) f.2.b (by rw[oK];exact f.2.c19)) (ac (λu f _=>f.2.par_l hi hT) ?_)))
  refine hZ (hW wP (ac (λu f _=>lK (v:=.map (some q.rm)) f.2.b (by rw[oK];exact f.2.c20)) (ac (λu f _=>f.2.rg_l hi) ?_)));rw[O,hA];refine ac (λu f _=>ck (vs:=ndE x) (zew (hi.A54 x y))) ?_;refine nV (vs:=[.agg (ndE x).toArray]) underlying39 (s:=56) kr kr oo rfl oB oB oB (by simp[Value.cells,Cp]) λw5 k5 E s5=>?_
  have k5:=cZ k5
  have z5:=ae E D D.lt;have p5:=p4.below E;have S:Z.drew.ownsRow (w.heap.size+1) 83 56 (.slice l k o) k ((s.N.take k).flatMap ndE):=r4;have r5:=cn S λg hg=>E.block g (jT S g hg).2;have an:=(R.below (jU _ Z).drew).below E;have G:=j.drew.trans (E.mono j.drew.size);refine aB ⟨z5,p5⟩ ?_
  refine wK (base:=w.heap.size+1) (enc:=ndE) (x:=x) underlying39 af hz P ad rfl oo Cp r5 k5 (WC x) oo oo (by have:=z5.lt;omega) λa6 c6 w6 r6 J b6 _=>?_;have z6:=uz z5 r5 dc J;have ao:IdR w6 w2.heap.size a c ids:=an.imp λg cs _ X=>uz X r5 dc J;have H:=G.trans (b6.mono oo);refine hRT (hW pZ ?_)
  refine cq kf z6 (by rw[rD hi.i6 hi.l6 hi.v6];omega) rfl λw7 z7 o7=>aR oo oo ?_;have ab:s.N.take (k+1)=s.N.take k++[x]:=by rw[List.take_add_one,Y];rfl
  rw[oK,zhO hi.i6 hi.l6 hi.v6 (N:=s.N.take (k+1)) (by rw[qA];omega)]at z7;refine⟨⟨k+1,a6,c6,ivS,r,z7,by rw[ab];exact Eo r6 z6 dc o7,ao.imp λg cs _ X=>o7.blk X λe=>?_,fR H o7 oA⟩,mD hm⟩;subst e;exact qI (mG X z6) dc
 .have ak:k=s.N.length:=by omega
  subst ak;rw[List.take_length]at D r4;exact ax oo (hP Z l o rfl rfl D r4 j)
end
end
def re(x y:Int):Int:=if x<y then -1 else if y<x then 1 else 0
def VZ(x y:GR):Int:=if re x.o y.o≠0 then re x.o y.o else re x.q y.q
def QH{x y:GR}:Go.Proofs.ltOf VZ x y=decide (ltG x y):=by rw[Bool.eq_iff_iff,oP];unfold Go.Proofs.ltOf VZ re ltG;rw[oP];split<;>split<;>(try split)<;>omega
def zl9:Go.Sort.SWO (Go.Proofs.ltOf VZ) where
 irrefl x:=by rw[QH];unfold ltG;simp
 trans x y z h k:=by rw[QH,oP]at *; unfold ltG at *; omega
 ntrans x y z h k:=by rw[QH,decide_eq_false_iff_not]at *; unfold ltG at *; omega
def zgl(h:K (.bool false) w):call Q 93 #[ci x] K w:=by refine aj (goK func93) (So ?_);refine aZ ?_;rw[qE oB];exact h
def zgm(h:K (.bool false) w):call Q 94 #[.int .u64 x] K w:=by refine aj (goK func94) (DI ?_);refine aZ ?_;rw[qE oB];exact h
def zke{y:Int}(h:K (ci (re x y)) w):call Q 75 #[ci x,ci y] K w:=by
 refine aj (goK func75) (OY (zgl (zgl (aA (aA ?_)))));refine aL ?_;by_cases a:x<y
 .rw[show re x y = -1 from oJ a]at h;exact ay a h
 .refine ax a (cH ?_);by_cases b:y<x
  .rw[show re x y=1 from(oI a).trans (oJ b)]at h;exact ay b h
  .rw[show re x y=0 from(oI a).trans (oI b)]at h;exact ax b h
def zbX{y:Int}(h:K (ci (re x y)) w):call Q 76 #[.int .u64 x,.int .u64 y] K w:=by
 refine aj (goK func76) (Lp (zgm (zgm (aA (aA ?_)))));refine aL ?_;by_cases a:x<y
 .rw[show re x y = -1 from oJ a]at h;exact ay a h
 .refine ax a (cH ?_);by_cases b:y<x
  .rw[show re x y=1 from(oI a).trans (oJ b)]at h;exact ay b h
  .rw[show re x y=0 from(oI a).trans (oI b)]at h;exact ax b h
def ziA{y:Int}(c:blk w g 3 [iv x,iv y])(h:K (ci (if x≠0 then x else y)) w):call Q 74 #[.slice (some ⟨g,0,none⟩) 2 2] K w:=by
 refine aj (goK func74) (XV ?_);refine bv underlying47 <|Uu (Inv:=λi f=>f=w/\(i=ci 0\/i=ci 1/\x=0\/i=ci 2/\x=0/\y=0)) (μ:=λi _=>2-(intOf i).toNat) ⟨rfl,.inl rfl⟩ ?_;rintro _ j k m ⟨rfl,rfl|⟨rfl,b⟩|⟨rfl,b,e⟩⟩ d
 .refine aL (ay dc ?_);refine fQ underlying47 (s:=1) kf oo oo ?_;refine lK (v:=iv x) c rfl (aZ ?_);by_cases a:x≠0
  .rw[oJ a]at h;exact ay a h
  .refine ax a (aR oo oo ⟨⟨rfl,.inr (.inl ⟨rfl,by simpa using a⟩)⟩,by rw[d];decide⟩)
 .refine aL (ay dc ?_);refine fQ underlying47 (s:=1) kf oo oo ?_;refine lK (v:=iv y) c rfl (aZ ?_);rw[oI (by simp[b])]at h;by_cases a:y≠0
  .exact ay a h
  .refine ax a (aR oo oo ⟨⟨rfl,.inr (.inr ⟨rfl,b,by simpa using a⟩)⟩,by rw[d];decide⟩)
 .refine aL (ax dc ?_);refine Uv ?_;rw[oI (by simp[b]),e]at h;exact h
def Un{P:Program}{v:oF}(h:K (pA w.heap.size 0) (w.alloc (.cells v.cells t))):box P t v K w:=by unfold box;exact dR (by simp[Instr.box,newVar,newRow]) h
def zgF{y:Int}(h:K (.slice (some ⟨w.heap.size,0,none⟩) 2 2) (w.alloc (.cells #[iv x,iv y] 3))):bM Q 47 2 #[(0,iv x),(1,iv y)] K w:=by
 unfold bM;obtain⟨i,b,c,a⟩:∃i,Tryz.prog.info? 3=some i/\i.zero=some (ci 0)/\i.size=1:=⟨_,rfl,by kernel_rfl,by kernel_rfl⟩
 refine dR (run_buildSlice w _ _ 2 _ #[iv x,iv y] i _ underlying47 b c (by rw[a];decide) (by rw[a];decide) ?_) h;rw[a];refine(Go.Great.fill_whole (s:=1) oo [iv x,iv y] _ (by simp[iv,Value.cells]) oB).trans ?_;simp[iv,Value.cells]
def zkc(x y:GR)(W:oG):Calls Q 73 (#[.agg (grC x).toArray,.agg (grC y).toArray]++#[]) W λe S => e=.returned (ci (VZ x y))/\∃q os',S=Go.Sort.grow (W.drewN q) os':=by
 have c:Gives Q 73 #[.agg (grC x).toArray,.agg (grC y).toArray] W λv S => v=ci (VZ x y)/\∃q os',S=Go.Sort.grow (W.drewN q) os':=by
  refine Iw ?_;refine Un (Un ?_);generalize i:W.alloc (.cells (Value.agg (grC x).toArray).cells 96)=w1;have f:blk w1 W.heap.size 96 (grC x):=by
   rw[<-i];unfold Go.Proofs.YtpaghmnnhedccaaGreatDoor.blk;rw[heap_alloc_new];rfl
  generalize d:w1.alloc (.cells (Value.agg (grC y).toArray).cells 96)=O;have h:blk O.drew w1.heap.size 96 (grC y):=by
   rw[<-d];unfold Go.Proofs.YtpaghmnnhedccaaGreatDoor.blk;show (w1.alloc _).heap[_]? = _;rw[heap_alloc_new];rfl
  have g:blk O.drew W.heap.size 96 (grC x):=by
   rw[<-d];exact(ae (bX (World.grownBy_alloc _ _ none) oA (λk l=>by cases l)) f f.lt).drew
  refine aw (λu=>blk u W.heap.size 96 (grC x)/\blk u w1.heap.size 96 (grC y)) ⟨g,h⟩ ?_;refine hW Sx (ac (λu b _=>lK (v:=iv x.o) b.1 rfl) ?_);refine hW Sx (ac (λu b _=>lK (v:=iv y.o) b.2 rfl) ?_);refine hW Ic (ac (λu b _=>lK (v:=u6 x.q) b.1 rfl) ?_);refine hW Ic (ac (λu b _=>lK (v:=u6 y.q) b.2 rfl) ?_);refine zke (aB ⟨g,h⟩ (zbX (hRT (zgF ?_))))
  refine hRT (ziA (x:=re x.o y.o) (y:=re x.q y.q) ?_ (hRT ⟨rfl,1,#[.cells (Value.agg (grC x).toArray).cells 96,.cells (Value.agg (grC y).toArray).cells 96,.cells #[iv (re x.o y.o),iv (re x.q y.q)] 3],?_⟩))
  .unfold Go.Proofs.YtpaghmnnhedccaaGreatDoor.blk;rw[heap_alloc_new]
  .rw[<-d, <-i];unfold Go.Sort.grow World.drewN World.drew World.alloc;simp only[Array.push_eq_append,Array.append_assoc,List.append_toArray,jF,oV]
 rw[show (#[.agg (grC x).toArray,.agg (grC y).toArray]++#[]:Array oF)=#[.agg (grC x).toArray,.agg (grC y).toArray]from rfl];unfold Gives at c;exact Calls.mono c λ_ _ ⟨v,j,m,n⟩=>⟨by rw[j,m],n⟩
instance:Inhabited GR:=⟨⟨0,0,0,0,0⟩⟩
open Go.Sort in
theorem YP {G:List GR}{n:Nat}(c:G.length=n)(i:n*5<=xs.length):putCells id 0 (flatK grC 5 G.toArray) xs.toArray=(G.flatMap grC++xs.drop (n*5)).toArray:=by
 have f:(flatK grC 5 G.toArray).size=n*5:=by rw[size_flatK];simp[c]
 have a:(G.flatMap grC).length=n*5:=by rw[qa vN,c]
 apply Array.ext_getElem?;intro k;unfold putCells;rw[Array.getElem?_mapIdx,f,List.getElem?_toArray,List.getElem?_toArray];by_cases g:k<n*5
 .have b:k<xs.length:=by omega
  have e:k / 5<G.length:=by omega
  rw[gE b,jP,oJ ⟨qG _,by omega⟩,qO oo,Nat.sub_zero,get_flatK _ _ _ _ (by simp[c];exact g)];have h:G[k / 5]? = some G[k / 5]:=gE e
  have:=Ht vN G (k / 5) _ (k%5) h (Nat.mod_lt _ oo)
  rw[show k / 5*5+k%5=k by omega]at this;rw[this];have d:k%5<(grC G[k / 5]).length:=Nat.mod_lt _ dc;rw[gE d];simp[e,d]
 .rw[qP oo,a,jM,show n*5+(k-n*5)=k by omega];cases j:xs[k]? with
  | none=>rfl
  | some v=>rw[jP,oI oo]
open Go.Sort in
theorem zat {G G':List GR}{B n:Nat}{os:Array Obj}(a:Opn w B 96 5 n c g xs (G.flatMap grC))(h:G'.length=n):Opn (sortWorldK grC 5 w g 0 m G'.toArray os) B 96 5 n c g (G'.flatMap grC++xs.drop (n*5)) (G'.flatMap grC)/\w.grownBy (sortWorldK grC 5 w g 0 m G'.toArray os) (some g):=by
 have j:n*5<=xs.length:=by rw[a.len];exact Nat.mul_le_mul_right _ a.nc
 have d:(G'.flatMap grC).length=n*5:=by rw[qa vN,h]
 have l:=a.blk.lt;have i:(sortWorldK grC 5 w g 0 m G'.toArray os).heap[g]? = some (.cells (G'.flatMap grC++xs.drop (n*5)).toArray 96):=by
  show (w.heap.modify g (onCells (putCells id 0 (flatK grC 5 G'.toArray)))++os)[g]? = _;have b:=a.blk;unfold Go.Proofs.YtpaghmnnhedccaaGreatDoor.blk at b;rw[Array.getElem?_append_left (by simpa using l),Array.getElem?_modify,oJ rfl,b,jP];unfold onCells;simp only;rw[YP h j]
 refine⟨⟨i,a.lo,a.nc,a.cm,?_,?_,?_⟩,⟨rfl,rfl,rfl,?_,λk o f=>?_⟩⟩
 .rw[oT,d,qB,a.len]
  have:=a.len
  omega
 .rw[qJ oo,tL oo]
 .exact d
 .show w.heap.size<=(w.heap.modify g _++os).size;simp
 .show (w.heap.modify g _++os)[k]? = _;rw[Array.getElem?_append_left (by simpa using o),Array.getElem?_modify,oI (λe=>f (by rw[e]))]
open Go.Sort in
theorem zhX {G:List GR}{B n:Nat}(z:w.ownsRow B 96 5 (.slice a n c) n (G.flatMap grC))(u:G.length=n)(N:n<4611686018427387904)(h:∀(w':oG) (G':List GR),G'.Perm G->G'.Pairwise (λx y=>¬ltG y x)->w'.ownsRow B 96 5 (.slice a n c) n (G'.flatMap grC)->w.grownBy w' (Value.slice a n c).ownBlock->K (.tuple #[]) w'):call Q 72 #[.slice a n c,.func (.func 73) #[] #[]] K w:=by
 have q:KO Q 72:=⟨_,func72,by kernel_rfl,by kernel_rfl⟩
 refine aj q ?_;unfold Gives;by_cases I:n=0
 .subst I;have J:G=[]:=List.eq_nil_of_length_eq_zero u;subst J;have f:=AnyF.slices_SortFunc_none Tryz.sortGr a c (.func (.func 73) #[] #[]) w;change Calls Q 72 _ _ _ at f;refine Calls.mono f λe w' p=>?_;obtain⟨rfl,rfl⟩:=p;exact⟨_,rfl,h _ [] (List.Perm.refl _) List.Pairwise.nil z ⟨rfl,rfl,rfl,Nat.le_refl _,λ_ _ _=>rfl⟩⟩
 .obtain⟨g,A,rfl,l⟩:=gy z oo;subst u;have L:HoldsK grC 5 w g 0 G.toArray:=by
   intro j d;rw[size_flatK]at d;have d:j<G.length*5:=by simpa using d
   have o:j / 5<G.length:=by omega
   have P:G[j / 5]? = some G[j / 5]:=gE o;have t:j%5<(grC G[j / 5]).length:=Nat.mod_lt _ dc;refine⟨?_,?_⟩
   .rw[l.blk.cell,oK,get_flatK _ _ _ _ (by simpa using d)]
    have:=l.cell vN rfl P (Nat.mod_lt j (show 0<5 by omega))
    rw[show j / 5*5+j%5=j by omega]at this;rw[this,gE t];simp[o,t]
   .have k:=l.blk;unfold Go.Proofs.YtpaghmnnhedccaaGreatDoor.blk at k;unfold World.frozen?;rw[k];rfl
  have f:=AnyQ.slices_SortFunc Tryz.sortGr 5 (by intro W;kernel_rfl) (by intro W;kernel_rfl) grC vN LH VZ zl9 73 #[] g 0 c G.toArray w
   (enters_of func73 kr rfl) (λm a S _ x y=>zkc x y _) L l.blk.lt (by simpa using N)
  change Calls Q 72 _ _ _ at f;rw[List.size_toArray]at f;refine Calls.mono f λe w' p=>?_;obtain⟨rfl,d',m,os,v,O,rfl⟩:=p;have M:d'.toList.toArray=d':=rfl;have b:d'.toList.length=G.length:=by
   have:=v.1
   simpa using this
  rw[<-M];obtain⟨R,H⟩:=zat (m:=m) (os:=os) l (G':=d'.toList) b;refine⟨_,rfl,h _ d'.toList ?_ ?_ R.own H⟩
  .have s:=v.2.2;have C:d'.extract 0 G.length=d':=by rw[<-b];simp
   have D:G.toArray.extract 0 G.length=G.toArray:=by simp
   rw[C,D]at s;exact s
  .rw[List.pairwise_iff_getElem];intro i j o d r
   have:=O i j (qG _) r (by rw[<-b];exact d)
   rw[QH,decide_eq_false_iff_not]at this;have E:d'[i]! = d'.toList[i]:=by simp[show i<d'.size by simpa using o]
   have F:d'[j]! = d'.toList[j]:=by simp[show j<d'.size by simpa using d]
   rw[E,F]at this;exact this
def zf4:(Tryz.prog.info? 96).map (λi=>(i.zero,i.size,i.bytes))=some (some (.agg (grC ⟨0,0,0,0,0⟩).toArray),5,40):=by kernel_rfl
def zeb{G G':List GR}(f:G.Pairwise ltG)(n:G'.Perm G)(h:G'.Pairwise λx y=>¬ltG y x):G'=G:=by
 have s:∀x∈G,∀y∈G,¬ltG x y->¬ltG y x->x=y:=by
  intro x t y u c d;obtain⟨i,q⟩:=List.getElem?_of_mem t;obtain⟨j,r⟩:=List.getElem?_of_mem u;obtain⟨l,rfl⟩:=gS q;obtain⟨m,rfl⟩:=gS r;rcases Nat.lt_trichotomy i j with e|e|e
  .exact qI (List.pairwise_iff_getElem.1 f i j l m e) c
  .subst e;rfl
  .exact qI (List.pairwise_iff_getElem.1 f j i m l e) d
 refine List.Perm.eq_of_pairwise (le:=λx y=>¬ltG y x) (λa b o p c d=>s a (n.mem_iff.1 o) b p d c) h (f.imp λ{x y} g k=>zhn (zdt g k)) n
section
variable {q:LB}{s:PL}
def Ty(h:PM w q s)(hi:PI s)(hn:s.G.length<=1000000)(hK:∀w' t d gc,SO w' (w.heap.size+1) s t d gc->Below w.heap.size w w'->K (.agg (saC t).toArray) w'):call Q 54 #[pB q.p] K w:=by
 have aw:=h.lt;refine zfH h hi ?_;intro l0 s2 zf w1 B C q0 q1 z1 n1 j;subst q0 q1;have p1:=h.below j;obtain⟨m,hm,i⟩:=p1.gm;refine Iz ?_;refine aq (MM (lK (v:=.map (some q.gm)) p1.b (by rw[oK];exact p1.c27) (Ql underlying152 hm λw2 Z b2 s2=>?_)));have hz:=z1.lt;have aS:q.gm<w.heap.size:=aw _ (by simp[LB.l]);have z2:=ae b2 z1 z1.lt
 have n2:=cn n1 λk f=>b2.block k (jT n1 k f).2;have aa:=tB j b2;have X:(m.map (·.1)).Nodup:=Z.nodup.2.1;have ax:m.length=s.G.length:=by rw[i.length_eq];unfold grL;rw[oY]
 generalize hr:w1.heap.size=r at Z s2;obtain⟨ii,av,aD,aC,au⟩:=info_parts zf4;refine Iy (Inv:=λR=>∃(D:List ((Int×Int)×GR)) (d:Option Addr) (gc:Nat),IT rqV grV R r q.gm m (D.map (·.1))/\(∀x∈D,x∈m)/\blk R w.heap.size 42 (saC ⟨s.I,s.L,s.V,s.N,B,C,.slice d D.length gc⟩) /\
   R.ownsRow (r+1) 96 5 (.slice d D.length gc) D.length ((D.map (·.2)).flatMap grC)/\R.ownsRow (w.heap.size+1) 83 56 (.slice B s.N.length C) s.N.length (s.N.flatMap ndE)/\Below w.heap.size w R/\r+1<=R.heap.size) (μ:=λR=>iV R q.gm r)
  ⟨[],none,0,Z,by simp,z2,World.ownsRow_nil _ _ _ _,n2,aa,by omega⟩ ?_
 rintro dd w3 mu ⟨D,d,gc,u,hD,z3,r3,n3,F,aJ⟩ ay;have ah:(D.map (·.1)).Nodup:=u.nodup.1;have aQ:D.length<=s.G.length:=by
  have:=wA ah u.nodup.2.2
  simpa[ax]using this
 refine PW u oo (λaj=>?_) λid v w4 O aT E ao o4 aO=>?_
 .refine sU rfl (aA ?_);refine IA ?_;have ap:D.Perm m:=by
   have aF:D.Nodup:=(List.pairwise_map.1 ah).imp λY e=>Y (by rw[e]);have aG:m.Nodup:=(List.pairwise_map.1 X).imp λY e=>Y (by rw[e]);refine(List.perm_ext_iff_of_nodup aF aG).2 λx=>⟨hD x,λhx=>?_⟩
   obtain⟨y,hy,e⟩:=qU.1 (aj x.1 (qU.2 ⟨x,hx,rfl⟩));have h1:=mY (x:=x.1) (v:=x.2) X hx;have h2:=mY (x:=y.1) (v:=y.2) X (hD y hy);rw[e,h1]at h2
   have:x=y:=Prod.ext e.symm (Option.some.inj h2)
   rw[this];exact hy
  have ai:(D.map (·.2)).Perm s.G:=by
   have:=(ap.trans i).map (·.2)
   have e:(grL s.G).map (·.2)=s.G:=by unfold grL;rw[jH];exact List.map_id _
   rw[e]at this;exact this
  have ag:D.length=s.G.length:=by have:=ai.length_eq;rwa[oY]at this
  have T:(saC ⟨s.I,s.L,s.V,s.N,B,C,.slice d D.length gc⟩)[19]? = some (.slice d D.length gc):=by
   rw[Mf,show (19:Nat)=18+1 by omega,qP (by simp[hi.i6,hi.l6,hi.v6])];simp[hi.i6,hi.l6,hi.v6]
  refine sZ (lK (v:=.slice d D.length gc) z3 (by rw[oK];exact T) ?_);refine zhX r3 (by rw[oY]) oo λw5 G' az aB r5 U=>?_;have ar:G'=s.G:=zeb hi.gs (az.trans ai) aB;subst ar;have z5:=uz z3 r3 dc U;have n5:=PY n3 r3 dc U;have ab:=F.trans (bX U oo λk f=>by have:=(jT r3 k f).1;omega);rw[ag]at z5 r5
  have ak:((saC ⟨s.I,s.L,s.V,s.N,B,C,.slice d s.G.length gc⟩).drop 0).take 20=saC ⟨s.I,s.L,s.V,s.N,B,C,.slice d s.G.length gc⟩:=by
   rw[oX,tL (by rw[rD hi.i6 hi.l6 hi.v6];omega)]
  refine ldA (n:=20) (vs:=saC ⟨s.I,s.L,s.V,s.N,B,C,.slice d s.G.length gc⟩) underlying42 rfl kr z5 ak (rD hi.i6 hi.l6 hi.v6) ?_;refine eW (n:=20) (vs:=saC ⟨s.I,s.L,s.V,s.N,B,C,.slice d s.G.length gc⟩) kr (rD hi.i6 hi.l6 hi.v6) z5 (by rw[rD hi.i6 hi.l6 hi.v6];omega) (Mh rfl) λw6 z6 o6=>?_
  refine zkE (vs:=saC ⟨s.I,s.L,s.V,s.N,B,C,.slice d s.G.length gc⟩) underlying42 rfl (by rw[rD hi.i6 hi.l6 hi.v6];kernel_rfl) z6 (by rw[qY,oV,oS (by rw[rD hi.i6 hi.l6 hi.v6];omega),oW]) ?_;have r6:=Eo r5 z5 dc o6
  refine hK w6 _ d gc ⟨rfl,rfl,rfl,rfl,rfl,Eo n5 z5 dc o6,⟨r6.1,r6.2.imp id λ⟨g,an,af,a,b,c⟩=>⟨g,an,af,a,by omega,c⟩⟩⟩ (fR ab o6 oA)
 .have hv:(id,v)∈grL s.G:=i.mem_iff.1 O;obtain⟨g0,aR,e1⟩:=qU.1 hv;simp only[Prod.mk.injEq]at e1;obtain⟨rfl,rfl⟩:=e1;have aN:D.length<s.G.length:=by
   have h1:(D.map (·.1)++[(g0.o,g0.q)]).Nodup:=E.nodup.1
   have:=wA h1 E.nodup.2.2
   simp only[oT,oY,List.length_singleton]at this;omega
  refine sU rfl (aV (Ph ao (bj ?_)));have aU:=u.lt;have z4:=o4.blk z3 oo;have r4:=cn r3 λk f=>o4.other k (by have:=(jT r3 k f).1;omega);have n4:w4.ownsRow (w.heap.size+1) 83 56 (.slice B s.N.length C) s.N.length (s.N.flatMap ndE):=cn n3 λk f=>o4.other k (λe=>by
   obtain⟨⟨af,hc⟩,_⟩:=wg n3 f;subst e;obtain⟨es,c,aI,aP,c0,_,hh,_⟩:=u;unfold Go.Proofs.YtpaghmnnhedccaaGreatDoor.blk at hc;rw[hc]at hh;cases hh)
  have H:=fR F o4 oo;have aK:r+1<=w4.heap.size:=by rw[o4.size];exact aJ
  refine bO (z:=.agg (grC ⟨0,0,0,0,0⟩).toArray) kr λw5 g5 b5 s5=>?_;have g5:=cZ g5
  refine eW (n:=5) (vs:=grC g0) kr rfl g5 (by show 0+5<=5;omega) (LH _) λw6 g6 o6=>?_;have g6:blk w6 w4.heap.size 96 (grC g0):=g6;have B6:Below w4.heap.size w4 w6:=fR b5 o6 oA;have z6:=ae B6 z4 z4.lt;have r6:=cn r4 λk f=>B6.block k (jT r4 k f).2;have n6:=cn n4 λk f=>B6.block k (jT n4 k f).2;have al:=E.below B6
  have J:=tB H B6;have aL:=qR aK B6.size;have T:(saC ⟨s.I,s.L,s.V,s.N,B,C,.slice d D.length gc⟩)[19]? = some (.slice d D.length gc):=by
   rw[Mf,show (19:Nat)=18+1 by omega,qP (by simp[hi.i6,hi.l6,hi.v6])];simp[hi.i6,hi.l6,hi.v6]
  refine sZ (lK (v:=.slice d D.length gc) z6 (by rw[oK];exact T) ?_);refine ldA (n:=5) (vs:=grC g0) underlying96 rfl kr g6 rfl rfl ?_;refine nV (vs:=[.agg (grC g0).toArray]) underlying40 (s:=5) kr kr oo rfl oB oB oB (by simp[Value.cells,vN]) λw7 g7 S s7=>?_
  have g7:=cZ g7
  have z7:=ae S z6 z6.lt;have r7:=cn r6 λk f=>S.block k (jT r6 k f).2;have n7:=cn n6 λk f=>S.block k (jT n6 k f).2;have A:=al.below S;have ac:=tB J S;have am:=qR aL S.size;refine wK (base:=r+1) (enc:=grC) (x:=g0) underlying40 av aD aC au rfl oo vN r7 g7 (LH _) oo oo am λa8 c8 w8 r8 W b8 _=>?_
  have z8:=uz z7 r7 dc W;have n8:=PY n7 r7 dc W;have k8:∀k,k<r+1->k<w7.heap.size->w8.heap[k]? = w7.heap[k]? := λk f hl=>W.block k hl λe=>by have:=(jT r7 k e.symm).1;omega
  have aE:=A.kept (k8 _ oo A.lt.2) (k8 _ oo A.lt.1);have ad:=ac.trans (b8.mono oo);refine sZ (cq kf z8 (by rw[rD hi.i6 hi.l6 hi.v6];omega) rfl λw9 z9 P=>?_);rw[oK,zhP hi.i6 hi.l6 hi.v6]at z9;have aM:=qR am b8.size;have M:(D++[((g0.o,g0.q),g0)]).length=D.length+1:=by simp
  refine⟨⟨D++[((g0.o,g0.q),g0)],a8,c8,?_,?_,by rw[M];exact z9,?_,Eo n8 z8 dc P,fR ad P oA,by rw[P.size];exact aM⟩,?_⟩
  .rw[jJ];exact aE.kept (P.other _ oo) (P.other _ oo)
  .intro x hx;rcases oU.1 hx with hh|hh
   .exact hD x hh
   .rw[mS hh];exact O
  .rw[M,jJ,List.flatMap_append];have e2:([((g0.o,g0.q),g0)].map (λx:(Int×Int)×GR=>x.2)).flatMap grC=grC g0:=by simp
   rw[e2];have aH:w8.ownsRow (r+1) 96 5 (.slice a8 (D.length+1) c8) (D.length+1) ((D.map (·.2)).flatMap grC++grC g0):=by
    have:=r8
    rw[List.flatMap_append]at this;simpa using this
   exact Eo aH z8 dc P
  .rw[ay];have e1:iV w9 q.gm r=iV w8 q.gm r:=xd (P.other _ oo) (P.other _ oo);have e2:iV w8 q.gm r=iV w7 q.gm r:=xd (k8 _ oo A.lt.2) (k8 _ oo A.lt.1);have e3:iV w7 q.gm r=iV w6 q.gm r:=ED al S;have e4:iV w6 q.gm r=iV w4 q.gm r:=ED E B6;omega
end
section
open Go.ChangeMaps
def Ch.add{F:List Nat}{a b c:oG}(h:Ch F a b)(k:Below a.heap.size b c):Ch F a c :=
 ⟨k.os.trans h.os,k.tape.trans h.tape,k.output.trans h.output,qR h.size k.size,λx d e=>(k.block x d).trans (h.block x d e)⟩
def Ws:(Tryz.prog.info? 54).map (λi=>(i.zero,i.size,i.bytes))=some (some (.agg (evC ⟨0,0,0,0,0,0,0,0,0,0,0,0,0,0⟩).toArray),14,112):=by kernel_rfl
def nG(R:List iQ):List (List (EV×Int)):=R.map (·.it)
structure RpB where
 p:Nat
 q:LB
 g:Nat
 h:Nat
 m:Nat
 e:Nat
 d:Nat
def RpF(R:RpB)(Rw:List iQ):List Nat:=R.q.wv++(R.g::lrB Rw++[R.m,R.e])
def fG{R:RpB}{Rw:List iQ}{k:Nat}:k∈RpF R Rw↔k∈R.q.wv\/k=R.g\/k∈lrB Rw\/k=R.m\/k=R.e:=by simp[RpF,or_assoc]
structure RpM(w:oG) (R:RpB) (i:Nat) (l:PL) (W:HM) (Rw:List iQ) (c:Int) (L:List (List Int)):Prop where
 b:blk w R.p 133 [iv (i:Nat),pB R.q.p,pB R.g,pB R.h,pB R.e,pB R.d]
 pm:PM w R.q l
 g:LoM w R.g Rw l.V c
 h:HoM w R.h R.m W
 e:GoM w R.e L
 pq:R.p∉R.q.l
 gq:∀k∈R.g::lrB Rw,k∉R.q.l
 hq:R.h∉R.q.l
 mq:R.m∉R.q.l
 eq:R.e∉R.q.l
 few:∀r∈Rw,(r.it.length:Int)<=c
 c0:0<=c
def zfb{R:List iQ}{e:EV}{c:Int}{r:iQ}{a:Option Nat}{b:Nat}(h:R[e.q]? = some r):nG (R.set e.q ⟨a,b,r.it++[(e,c)]⟩)=Fy (nG R) e c:=by unfold nG Fy;rw[List.map_set,oN,qC,h];rfl
def HoM.mb'{p q:Nat}{W:HM}{cs:oE}(h:HoM w p m W)(a:blk w q E cs):q≠m:=λe=>by
 obtain⟨d,c,b⟩:=h.mb;unfold blk at a;rw[e,b.heap]at a;cases a
def LoM.ty{R:List iQ}{V:List Int}{c:Int}(h:LoM w g R V c){k:Nat}{cs:oE}(a:blk w k E cs)(d:E≠214):k∉lrB R:=λj=>by
 obtain⟨i,r,l,e⟩:=h.in j;obtain⟨b,f⟩:=h.cur l e;unfold blk at a;rw[f]at a;simp only[qD,Obj.cells.injEq]at a;exact d a.2.1.symm
section
variable {R:RpB} {l:PL}{W:HM}{Rw:List iQ}{c:Int}{L:List (List Int)}
def RpM.below(h:RpM w R i l W Rw c L)(a:Below w.heap.size w S):RpM S R i l W Rw c L :=
 {h with b:=ae a h.b h.b.lt,pm:=h.pm.below a,g:=h.g.below a,h:=h.h.below a,e:=h.e.below a}
def RpM.lt(h:RpM w R i l W Rw c L):∀k∈RpF R Rw,k<w.heap.size:=λk a=>by
 rcases fG.1 a with a|rfl|a|rfl|rfl
 .exact h.pm.lt k (LB.wl k a)
 .exact h.g.b.lt
 .exact h.g.lt k (oH _ a)
 .exact h.h.lt.2
 .exact h.e.b.lt
def RpM.ml(h:RpM w R i l W Rw c L):R.m∉lrB Rw:=λd=>by
 obtain⟨j,r,k,e⟩:=h.g.in d;obtain⟨b,a⟩:=h.g.cur k e;obtain⟨o,n,f⟩:=h.h.mb;rw[f.heap]at a;cases a
def RpM.out(h:RpM w R i l W Rw c L){k:Nat}{cs:oE}(d:blk w k E cs)(f:E≠214)(j:E≠160)(m:E≠166)(n:k∉R.q.l):k∉RpF R Rw:=λa=>by
 rcases fG.1 a with a|rfl|a|rfl|rfl
 .exact n (LB.wl k a)
 .exact qI rfl (d.ne h.g.b j)
 .exact h.g.ty d f a
 .exact h.h.mb' d rfl
 .exact qI rfl (d.ne h.e.b m)
def RpM.wq(h:RpM w R i l W Rw c L){k:Nat}(b:k∉R.q.l):k∉R.q.wv:=λa=>b (LB.wl k a)
def RpM.setH{W':HM}(h:RpM w R i l W Rw c L)(d:Ch [R.m] w S)(f:HoM S R.h R.m W'):RpM S R i l W' Rw c L :=
 have n:∀k,k≠R.m->k∉[R.m]:=λk a f=>a (mS f)
 {h with
  b:=h.b.ch d (n _ (h.h.mb' h.b))
  pm:=h.pm.ch d λk a=>n k λe=>h.mq (e ▸ a)
  g:=h.g.ch d λk a=>n k λe=>(oO.1 a).elim (λj => h.h.mb' h.g.b (j.symm.trans e)) λa=>h.ml (e ▸ a)
  h:=f
  e:=h.e.ch d (n _ (h.h.mb' h.e.b))}
def RpM.setE{L':List (List Int)}(h:RpM w R i l W Rw c L)(d:Ch [R.e] w S)(f:GoM S R.e L'):RpM S R i l W Rw c L' :=
 have n:∀k,k≠R.e->k∉[R.e]:=λk a f=>a (mS f)
 {h with
  b:=h.b.ch d (n _ (h.b.ne h.e.b dc))
  pm:=h.pm.ch d λk a=>n k λe=>h.eq (e ▸ a)
  g:=h.g.ch d λk a=>n k λe=>(oO.1 a).elim (λj => h.g.b.ne h.e.b dc (j.symm.trans e)) λa=>h.g.ty h.e.b dc (e ▸ a)
  h:=h.h.ch d (n _ (h.h.b.ne h.e.b dc)) (n _ (h.h.mb' h.e.b).symm)
  e:=f}
def RpM.sub1(h:RpM w R i l W Rw c L)(a:Ch [R.m] w S):Ch (RpF R Rw) w S:=a.mono λk b=>fG.2 (by rw[mS b];simp)
def RpM.sub2(h:RpM w R i l W Rw c L)(a:Ch [R.e] w S):Ch (RpF R Rw) w S:=a.mono λk b=>fG.2 (by rw[mS b];simp)
end
def sY:fU Q 133 0 0 b o K w:=aJ kr
def rS:fU Q 133 1 1 b o K w:=aJ kr
def SI:fU Q 133 2 2 b o K w:=aJ kr
def SJ:fU Q 133 3 3 b o K w:=aJ kr
def Zg:fU Q 133 4 4 b o K w:=aJ kr
def MR:fU Q 133 5 5 b o K w:=aJ kr
section
variable {R:RpB} {l:PL}{W:HM}{Rw:List iQ}{c:Int}{L:List (List Int)}{e:EV}
def LC(h:K (.bool false) w):bin Q .eql 107 cx cy (pB b) (.pointer none) K w :=
 dZ (by unfold eqG eqGuard;rfl) kr h
def zdY{x:oG}(h:RpM w0 R i l W Rw c L)(hi:PI l)(E:fS l.V e=true)(p:co e=true)(Z:c<1000000)(T:PM x R.q (eff e l))(c2:Ch R.q.wv w0 x)(J:∀w' Rw',RpM w' R i (eff e l) W Rw' (c+1) L->Ch (R.g::lrB Rw) x w'->(∀k∈lrB Rw',k∈lrB Rw\/x.heap.size<=k)->nG Rw'=Fy (nG Rw) e c->K (ci 0) w'):call Q 70 #[pB R.g,evV e] K x:=by
 obtain⟨z,ho⟩:=ue p;have t:∀k,k∉R.q.l->k∉R.q.wv:=λk d=>h.wq d;have y:=h.pm.lt;have Y:=h.b.ch c2 (t _ h.pq);have C:=h.g.ch c2 λk d=>t _ (h.gq k d);have S:=h.h.ch c2 (t _ h.hq) (t _ h.mq);have G:=h.e.ch c2 (t _ h.eq);have w:e.q<Rw.length:=by rw[C.l6];exact z
 have u:Rw[e.q]? = some Rw[e.q]:=gE w;generalize Rw[e.q]=r at u;have N:=h.few r (mO u);have v:=h.c0;have U:=c2.size;refine zjn C u E (λk d=>(hi.vb k d).1) ⟨v,by omega⟩ oo λX F o D P n=>?_;have M:l.V.set e.q e.s=(eff e l).V:=by
  show _=l.V.set e.q (l.V.getD e.q 0+1);rw[(tC E).1]
 rw[M]at D;have j:∀{k:Nat},k∉lrB Rw->k≠R.g->k∉R.g::lrB Rw:=λH I f=>(oO.1 f).elim I H;have m:∀k∈lrB (Rw.set e.q ⟨F,o,r.it++[(e,c)]⟩),k∈lrB Rw\/x.heap.size<=k:=λk d=>by
  obtain⟨A,a,B⟩:=List.mem_filterMap.1 d;rcases List.mem_or_eq_of_mem_set a with a|rfl
  .exact .inl (List.mem_filterMap.2 ⟨A,a,B⟩)
  .rcases P k B with f|f
   .exact .inl (List.mem_filterMap.2 ⟨r,mO u,f⟩)
   .exact .inr f
 refine J X _ ⟨Y.ch n (j (h.g.ty h.b dc) (h.b.ne h.g.b dc)),T.ch n λk d f=>h.gq k f d,D,S.ch n (j (h.g.ty h.h.b dc) (h.h.b.ne h.g.b dc)) (j h.ml (h.h.mb' h.g.b).symm),G.ch n (j (h.g.ty h.e.b dc) (h.e.b.ne h.g.b dc)),h.pq,λk d=>?_,h.hq,h.mq,h.eq,λA a=>?_,by omega⟩ n m (zfb u)
 .rcases oO.1 d with rfl|d
  .exact h.gq _ oB
  .rcases m k d with f|f
   .exact h.gq k (oH _ f)
   .exact λO=>by have:=y k O;omega
 .rcases List.mem_or_eq_of_mem_set a with a|rfl
  .have:=h.few A a;omega
  .simp;omega
def za4(h:RpM w R i l W Rw c L)(hi:PI l)(N:fS l.V e=true)(t:gF e l=0)(J:c<1000000)(a:∀w' f,RpM w' R i (eff e l) W f (c+1) L->Ch (RpF R Rw) w w'->(∀k∈lrB f,k∈lrB Rw\/w.heap.size<=k)->nG f=Fy (nG Rw) e c->K (ci 0) w'):call Q 53 #[pB R.p,evV e] K w:=by
 have n:co e=true:=((mE hi).1 t).may;refine aj (goK func53) (zc (By λr A z Z=>?_));have B:=h.below z;refine aw (λx=>blk x R.p 133 [iv (i:Nat),pB R.q.p,pB R.g,pB R.h,pB R.e,pB R.d]/\blk x w.heap.size 54 (evC e)) ⟨B.b.drew,A.drew⟩ ?_;refine hZ (hW rS (ac (v:=pB R.q.p) (λx d _ a=>lK d.1 rfl a) (ac (λx d _ a=>dh d.2 a) ?_)));have j:=B.below (jU _ r).drew
 refine Tu j.pm hi λs D o=>?_;rw[t];rw[show kJ e l=eff e l by unfold kJ;rw[oJ t]]at D;have u:=h.pm.lt;have U:=j.b.ch o (j.wq h.pq);have H:=A.drew.ch o (j.wq λC=>by have:=u _ C;omega);refine hRT (aZ (ax oB ?_));refine aw (λx=>blk x R.p 133 [iv (i:Nat),pB R.q.p,pB R.g,pB R.h,pB R.e,pB R.d]/\blk x w.heap.size 54 (evC e)) ⟨U.drew,H.drew⟩ ?_
 refine hZ (hW SI (ac (v:=pB R.g) (λx d _ a=>lK d.1 rfl a) (ac (λx d _ a=>dh d.2 a) ?_)));have m:=o.add (jU _ s).drew;have S:=o.size;have X:r.drew.heap.size=r.heap.size:=rfl;have Y:s.drew.heap.size=s.heap.size:=rfl;refine zdY j hi N n J D.drew m λT f I G P O=>a T f I ?_ (λk M=>(P k M).imp id λC=>by omega) O
 have E:Ch (RpF R Rw) w r.drew:=Ch.of_below z.drew;have F:Ch (RpF R Rw) w s.drew:=E.trans m λx y=>.inl (fG.2 (.inl y));exact F.trans G λx y=>.inl (fG.2 ((oO.1 y).elim (λh=>.inr (.inl h)) λh=>.inr (.inr (.inl h))))
end
def bN:oF->Nat
 | .bool true=>1
 | _=>0
def mapN(w:oG)(m:Nat):Nat:=match w.heap[m]? with|some (.map es _)=>es.size|_=>0
def HoM.mapN{p:Nat}{W:HM}(h:HoM w p m W):Go.Proofs.YtpaghmnnhedccaaGreatDoor.mapN w m=W.length:=by obtain⟨b,c,a⟩:=h.mb;unfold Go.Proofs.YtpaghmnnhedccaaGreatDoor.mapN;rw[a.heap];exact a.len
def VR.ch{F:List Nat}{n:Nat}{L:List EV}(h:VR w a n c L)(f:Ch F w S)(hF:∀b o,a=some ⟨b,o,none⟩->b∉F):VR S a n c L :=
 ⟨h.len,h.some_,λi x k b o e j u g=>by
  have:=h.cell i x k b o e j u g
  have d:=zB w _ this
  rw[World.cell?_of_block (f.block b d (hF b o e))];exact this⟩
def VR.nm{n:Nat}{L:List EV}(h:VR w a n c L)(d:0<n){es:Array MapEntry}(j:w.heap[m]? = some (.map es i)):∀b o,a=some ⟨b,o,none⟩->b≠m:=λb o f e=>by
 have g:0<L.length:=by rw[h.len];exact d
 have:=h.cell 0 L[0] (gE g) b o f 0 _ rfl
 subst e;simp[World.cell?,j]at this
section
variable {R:RpB} {l:PL}{W:HM}{Rw:List iQ}{c:Int}{L:List (List Int)}{B:Nat}
def blk.kp{k:Nat}{cs:oE}(h:blk w k E cs)(a:S.heap[k]? = w.heap[k]?):blk S k E cs:=by unfold Go.Proofs.YtpaghmnnhedccaaGreatDoor.blk at *; rw[a];exact h
def RpM.keep(h:RpM w R i l W Rw c L)(a:∀k,k=R.p\/k=R.h\/k∈R.q.l\/k∈RpF R Rw->S.heap[k]? = w.heap[k]?):RpM S R i l W Rw c L :=
 {h with
  b:=h.b.kp (a _ (.inl rfl))
  pm:=h.pm.keep λk d _=>a k (.inr (.inr (.inl d)))
  g:=h.g.keep λk d=>a k (.inr (.inr (.inr (fG.2 ((oO.1 d).elim (λe=>.inr (.inl e)) λe=>.inr (.inr (.inl e)))))))
  h:=⟨h.h.b.kp (a _ (.inr (.inl rfl))),h.h.mb.kept (a _ (.inr (.inr (.inr (fG.2 oB)))))⟩
  e:=⟨h.e.b.kp (a _ (.inr (.inr (.inr (fG.2 oB))))),h.e.l6,h.e.v6⟩}
def RpM.neE(h:RpM w R i l W Rw c L)(f:∀k∈R.q.l,k<B){cs:oE}(d:blk w z 54 cs)(j:B<=z):∀k,k=R.p\/k=R.h\/k∈R.q.l\/k∈RpF R Rw->k≠z:=λk a e=>by
 subst e;rcases a with rfl|rfl|a|a
 .exact qI rfl (d.ne h.b dc)
 .exact qI rfl (d.ne h.h.b dc)
 .have:=f _ a;omega
 .exact h.out d dc dc dc (λg=>by have:=f _ g;omega) a
def RpM.othE(h:RpM w R i l W Rw c L)(d:∀k∈R.q.l,k<B){cs:oE}(e:blk w z 54 cs)(a:B<=z)(o:Oth z w S):RpM S R i l W Rw c L :=
 h.keep λk b=>o.other k (h.neE d e a k b)
def RpM.grow(h:RpM w R i l W Rw c L)(r:∀k∈R.q.l,k<B){v:oF}{n:Nat}(s:w.ownsRow B 54 14 v n xs)(f:w.grownBy S v.ownBlock):RpM S R i l W Rw c L:=by
 have t:∀k,k=R.p\/k=R.h\/k∈R.q.l\/k∈RpF R Rw->some k≠v.ownBlock:=λk a e=>by
  rcases s.2 with⟨j,_⟩|⟨g,m,d,j,o,f,_⟩
  .rw[j]at e;cases e
  .rw[j]at e;simp only[Value.ownBlock,qD]at e;exact h.neE r (show blk w g 54 d.toList by unfold blk;rw[f]) o k a e
 refine h.keep λk a=>f.block k ?_ (t k a);rcases a with rfl|rfl|a|a
 .exact h.b.lt
 .exact h.h.b.lt
 .exact h.pm.lt k a
 .exact h.lt k a
def RpM.row(h:RpM w R i l W Rw c L)(p:∀k∈R.q.l,k<B){v:oF}{n:Nat}(d:w.ownsRow B 54 14 v n xs)(j:Ch (RpF R Rw) w S):S.ownsRow B 54 14 v n xs:=by
 refine cn d λk a=>j.block k (jT d k a).2 ?_;rcases d.2 with⟨e,_⟩|⟨g,f,b,e,r,m,_⟩
 .rw[e]at a;cases a
 .rw[e]at a;simp only[Value.ownBlock,qD]at a;subst a;exact h.out (show blk w g 54 b.toList by unfold blk;rw[m]) dc dc dc λo=>by have:=p _ o;omega
def RpM.ev(h:RpM w R i l W Rw c L)(f:∀k∈R.q.l,k<B){e:EV}(a:blk w z 54 (evC e))(g:B<=z)(b:Ch (RpF R Rw) w S):blk S z 54 (evC e) :=
 a.ch b (h.out a dc dc dc λd=>by have:=f _ d;omega)
end
section
variable {R:RpB} {l:PL}{W:HM}{Rw:List iQ}{c:Int}{L:List (List Int)}{e:EV}{n ct:Nat}{E:List EV}
def Nc{p:Nat}(h:HoM w p m W)(hi:PI l)(d:HK l.V W)(c:∀S,HoM S p m (W8 W (dJ l.V W 6))->Ch [m] w S->K (.tuple #[evV ((dJ l.V W 6).getD evZ),.bool (dJ l.V W 6).isSome]) S):call Q 251 #[pB p,.agg (vCs l.V).toArray] K w:=by
 refine zh8 h hi.v6 (λk i=>hi.vb k i) (λx j=>d.key x j) d.late (λa S b=>?_) λe a S g f=>?_
 .have:=c S (by rw[a];exact h.below b) (Ch.of_below b)
  rwa[a]at this
 .have:=c S (by rw[a];exact g) f
  rwa[a]at this
def rsI(S:oG)(R:RpB)(i:Nat)(l:PL)(W:HM)(Rw b:List iQ)(c:Int)(L:List (List Int))(j h g:oF)(wr:oG):Prop :=
 ∃(d:PL) (W1:HM) (F:List EV) (e:Option Addr) (f:Nat) (a:List iQ) (z:Nat),j=.slice e F.length f/\h=pB z/\g=.bool (dJ d.V W1 6).isSome/\DG l W d W1 F /\
   RpM wr R i d (W8 W1 (dJ d.V W1 6)) a (c+(F.length:Nat)) L/\blk wr z 54 (evC ((dJ d.V W1 6).getD evZ))/\S.heap.size<=z/\wr.ownsRow S.heap.size 54 14 (.slice e F.length f) F.length (F.flatMap evC)/\Ch (RpF R b) S wr/\(∀k∈lrB a,k∈lrB b\/S.heap.size<=k)/\(Value.slice e F.length f).ownBlock≠some z/\nG a=JS (nG Rw) c F
def zgq{n r:List iQ}{y:PL}{W2:HM}{F2:List EV}{e:EV}(hi:PI y)(t:HK y.V W2)(X:∀k∈R.q.l,k<w0.heap.size)(h4:RpM w R i y W2 r (c+(F2.length:Nat)) L)(I:blk w b 54 (evC e))(E:w.ownsRow w0.heap.size 54 14 (.slice a F2.length o) F2.length (F2.flatMap evC))(B:Ch (RpF R n) w0 w)(G:∀k∈lrB r,k∈lrB n\/w0.heap.size<=k)(hd:DG l W y W2 F2)(it:nG r=JS (nG Rw) c F2)(hB:∀S z J O w',rsI w0 R i l W Rw n c L S z J w'->mapN w' R.m+bN J<W2.length+1->B1 (aC (pB R.p) X1 S Z1 z J O2 P2 Q2 O) w'):dW K B1 (aC (pB R.p) X1 (.slice a F2.length o) Z1 (pB b) N2 O2 P2 Q2 zf) w:=by
 have ab:=B.size;refine Dz (dh I (il λw5 z5 b5 s5=>eX (e':=e) z5 λw6 N o6=>?_));have s:=aD b5 o6 oA;have T:=h4.below s;have aa:=s.size;have ad:w.heap.size<w6.heap.size:=N.lt;refine aw (λx=>blk x R.p 133 [iv (i:Nat),pB R.q.p,pB R.g,pB R.h,pB R.e,pB R.d]) T.b.drew ?_;refine hZ (hW SJ (ac (v:=pB R.h) (λx d _ j=>lK d rfl j) ?_))
 refine hZ (hW rS (ac (v:=pB R.q.p) (λx d _ j=>lK d rfl j) ?_));have C:=T.below (jU _ w6).drew;refine IZ C.pm λw7 P=>?_;have A:=C.below P;have u:Below w6.heap.size w6 w7:=(jU _ w6).drew.trans P;have z7:=ae u N N.lt;refine aB A.b ?_;refine Nc A.h hi t λZ H D=>?_;have h8:=A.setH D H;refine hRT (hE2 (?_))
 have z8:blk Z w.heap.size 54 (evC e):=z7.ch D λhh=>A.h.mb' z7 (mS hh);refine eX (e':=(dJ y.V W2 6).getD evZ) z8 λw9 z9 M=>?_;refine aB trivial ?_;have Y:=cn E λk t=>s.block k (jT E k t).2;have r7:=cn Y λk t=>u.block k (jT Y k t).2;have r8:=A.row X r7 (A.sub1 D)
 have r9:=cn r8 (w':=w9) λk t=>M.other k λe' => by have:=(jT E k t).2;omega
 have F:Ch (RpF R n) w0 w9:=(((B.add (s.mono oo)).add (u.mono oo)).trans D λx a=>.inl (fG.2 (by rw[mS a];simp))).add (aD (jU _ Z) M oo);have U:=h8.othE X z8 oo M;refine hB _ _ _ _ w9 ⟨y,W2,F2,a,o,r,w.heap.size,rfl,rfl,rfl,hd,U,z9,by omega,r9,F,G,(λe'=>?_),it⟩ ?_
 .have:=(jT E _ e').2
  omega
 .rw[U.h.mapN];cases hn:dJ y.V W2 6 with
  | none=>exact Nat.lt_succ_self _
  | some f =>
   have:=(t.step hi hn).2.2.1
   show (ud W2 (nY f)).length+1<_;omega
def zdR(h:RpM w R i l W Rw c L)(hi:PI l)(r:gF e l≠0)(f:∀S,RpM S R i l W Rw c L->Ch (RpF R Rw) w S->K (ci (gF e l)) S):call Q 53 #[pB R.p,evV e] K w:=by
 refine aj (goK func53) (zc (By λu A o E=>?_));have s:=h.below o;refine aw (λx=>blk x R.p 133 [iv (i:Nat),pB R.q.p,pB R.g,pB R.h,pB R.e,pB R.d]/\blk x w.heap.size 54 (evC e)) ⟨s.b.drew,A.drew⟩ ?_;refine hZ (hW rS (ac (v:=pB R.q.p) (λx d _ f=>lK d.1 rfl f) (ac (λx d _ f=>dh d.2 f) ?_)));have a:=s.below (jU _ u).drew;refine Tu a.pm hi λy t j=>?_
 rw[show kJ e l=l by unfold kJ;rw[oI r]]at t;have n:∀k,k∉R.q.l->k∉R.q.wv:=λk m B=>m (LB.wl k B);have D:RpM y R i l W Rw c L:={a with
  b:=a.b.ch j (n _ h.pq)
  pm:=t
  g:=a.g.ch j λk m=>n _ (h.gq k m)
  h:=a.h.ch j (n _ h.hq) (n _ h.mq)
  e:=a.e.ch j (n _ h.eq)}
 refine hRT (aZ (ay r (f y D ?_)));have z:Ch (RpF R Rw) w u.drew:=Ch.of_below o.drew;exact z.trans j λx C=>.inl (fG.2 (.inl C))
def zkG{a:List iQ}(hi:PI l)(hr:HK l.V W)(hc:c+100<=1000000)(D:∀k∈R.q.l,k<w0.heap.size)(h:RpM w R i l (W8 W (dJ l.V W 6)) Rw c L)(hz:blk w z 54 (evC ((dJ l.V W 6).getD evZ)))(zz:w0.heap.size<=z)(ag:Ch (RpF R a) w0 w)(hB:∀k∈lrB Rw,k∈lrB a\/w0.heap.size<=k)(hK:∀w' l' W' y F X Y,RpM w' R i l' W' y (c+(F.length:Nat)) L->DG l W l' W' F->dJ l'.V W' 6=none->w'.ownsRow w0.heap.size 54 14 (.slice X F.length Y) F.length (F.flatMap evC)->Ch (RpF R a) w0 w'->(∀k∈lrB y,k∈lrB a\/w0.heap.size<=k)->nG y=JS (nG Rw) c F->K (.slice X F.length Y) w'):jj K (aC (pB R.p) X1 (.slice none 0 0) Z1 (pB z) (.bool (dJ l.V W 6).isSome) N2 O2 P2 zf) w:=by
 refine Dt (Inv:=rsI w0 R i l W Rw a c L) (μ:=λ_ _ a b=>mapN b R.m+bN a)
  ⟨l,W,[],none,0,Rw,z,rfl,rfl,rfl,.nil,by rw[List.length_nil];simpa using h,hz,zz,World.ownsRow_nil _ _ _ _,ag,hB,(λe=>by cases e),rfl⟩ ?_
 rintro _ _ _ dd w1 mu ⟨t,W1,F,X,Y,A,z1,rfl,rfl,rfl,hd,f,d,U,H,n,o,O,G⟩ r;obtain⟨i1,i2,i3,_⟩:=hd.inv hi hr;have ar:=hr.few;cases J:dJ t.V W1 6 with
 | none =>
  rw[J]at f;exact aA (Dx (hK w1 t W1 A F X Y f hd J H n o G))
 | some e =>
  rw[J]at f d;obtain⟨au,aj,hg,Z⟩:=i2.step i1 J;have r:mu=(ud W1 (nY e)).length+1:=by
   rw[r,f.h.mapN,J];rfl
  have d:blk w1 z1 54 (evC e):=d;have f:RpM w1 R i t (ud W1 (nY e)) A (c+(F.length:Nat)) L:=f;have b:=hd.snoc J;have p2:PI (kJ e t):=YG i1;have av:=n.size;have T:∀x∈RpF R A,x∈RpF R a\/w0.heap.size<=x:=λx g=>by
   rcases fG.1 g with g|g|g|g
   .exact .inl (fG.2 (.inl g))
   .exact .inl (fG.2 (.inr (.inl g)))
   .exact(o x g).imp (λg=>fG.2 (.inr (.inr (.inl g)))) id
   .exact .inl (fG.2 (.inr (.inr (.inr g))))
  refine aV (Dp (dh d ?_));by_cases B:gF e t=0
  .rw[oJ B]at b;rw[show kJ e t=eff e t by unfold kJ;rw[oJ B]]at b p2 Z;refine za4 f i1 aj B oo λw2 aa h2 j n2 ao=>aT (ay rfl ?_);have E:=f.ev D d U j;have S:=f.row D H j;have ap:=j.size;refine dh E (nV [evV e] underlying30 (s:=14) kr kr oo rfl oB dc rfl (by
    intro v hv;rw[mS hv];rfl) λw3 e3 M s3=>?_)
   have e3:blk w3 w2.heap.size 54 (evC e):=by simpa[Value.cells,evV]using e3
   have h3:=h2.below M;have P:=ae M E E.lt;have I:=cn S λk u=>M.block k (jT S k u).2;obtain⟨ii,ah,al,ak,af⟩:=info_parts Ws;refine wK (enc:=evC) (x:=e) underlying30 ah al ak af rfl oo (λ_=>rfl) I e3 (Cf _) oo oo oo λa' c' w4 r4 g4 b4 k4=>?_;have aw:=M.size;have h4:=h3.grow D I g4;have ai:=jT I
   have ab:Below w0.heap.size w3 w4:=bX g4 oo λk u=>(ai k u).1;have ac:Ch (RpF R a) w0 w4:=((n.trans j T).add (M.mono oo)).add ab;have ad:∀k∈lrB aa,k∈lrB a\/w0.heap.size<=k:=λk u=>(n2 k u).elim (λu=>o k u) λu=>.inr oo;have am:blk w4 z1 54 (evC e):=P.kp (g4.block z1 P.lt λa => O a.symm)
   have N:(F++[e]).length=F.length+1:=by simp
   rw[<-N]at r4 |-;rw[show c+(F.length:Nat)+1=c+((F++[e]).length:Nat)by rw[N];omega]at h4;refine zgq p2 Z D h4 am r4 ac ad b (by rw[ao,G,Uc]) λfr z is aq w' hI C=>⟨hI,by rw[r];exact C⟩
  .rw[oI B]at b;rw[show kJ e t=t by unfold kJ;rw[oI B]]at b p2 Z;refine zdR f i1 B λw2 h2 j=>aT (ax B ?_);have ap:=j.size;refine zgq p2 Z D h2 (f.ev D d U j) (f.row D H j) (n.trans j T) o b G λfr z is aq w' hI C=>⟨hI,by rw[r];exact C⟩
end
end
end
end Go.Proofs.YtpaghmnnhedccaaGreatDoor
