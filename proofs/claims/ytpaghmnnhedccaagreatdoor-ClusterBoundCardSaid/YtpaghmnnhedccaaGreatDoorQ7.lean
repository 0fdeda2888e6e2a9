import Derived.Test.YtpaghmnnhedccaaGreatDoorQ6
set_option linter.all false
namespace Go.Proofs.YtpaghmnnhedccaaGreatDoor
set_option maxRecDepth 100000
set_option maxHeartbeats 4000000
open Go.Proofs.Tryz
open Go.RowKit
variable {w w' w0 w2 S O:oG}{K:KV}{zf:Nat->oF}{b c o i g m s j f z d c2 D hi:Nat}{a av a2:Option Addr}{x v r:Int}{E t e:TypeId}{A:List Int}{B1 N R:KE}{vs:oE}{α κ:Type}{T:List (Int×Int)}{X1 Z1 N2 O2 P2 Q2 R2 T2 U2 V2 X2 N3 O3 P3 Q3 T3 U3 V3 W3 X3 Y3 u4 N4 O4 P4 Q4 T4 U4 V4 Y4 Z4 j5 u5 B5 N5 O5 P5 Q5 R5 T5 U5 V5 Z5 M6 N6 O6 P6 Q6 R6 T6 U6 V6 u7 y7 H Z U Y J C:oF}
def Oc(c a b:oF)(zf:oD):=zT zf 0 4 (c::zT zf 5 14 (a::b::zT zf 21 9 ([])))
def Od(a:oF)(zf:oD):=zT zf 0 4 (a::zT zf 5 25 ([]))
def rT(K:KV):KE:=kZ f37 [1,1,1,1] K
def BB(K:KV):KE:=ai Q (cd f37 (b1 122)) (rT K) (xx xf (rT K) 0) (rk f37 K)
def Yf(h:bT .lss 3 H (ci 1) (λg w=>aM g false (λj=>bT .gtr 3 H (ci 6) (λi=>j [H,i]) w) (λk=>k [uu,uu] w) λa=>pick g cT (gd a 1) λb w=>cond b (K (.tuple #[.pointer none,ci 1]) w) (call Q 55 #[] (λc=>fl Q 150 none λh=>fl Q 151 none λi=>fl Q 152 none λj=>fl Q 153 none λd=>bld Q 156 #[(3,c),(4,h),(5,i),(7,j),(8,d)] λe=>box Q 156 e λf=>BB K (Oc f H (ci 0) (zV (zV (zV zu 0 [H]) 2 [.pointer none,ci 0]) 6 [H,g,g,gd a 0,gd a 1,b,c,h,i,j,d,e,f]))) w)) w):Gives Q 37 #[H] w K:=au func37 kr (mpK h)
def V7(Inv:oF->oG->Prop)(μ:oF->oG->Nat)(i:Inv U w)(j:∀(a:oF) (g:oD) (w:oG) (m:Nat),Inv a w->m=μ a w ->
  lS a Z (λb w=>cond b (aU H (λd=>ao Q 156 d 0 λe=>aW Q 35 e a λf=>sto Q 4 f cT λ_=>nC a λc w=>(Inv c w)/\((μ c w)<m)) w) (rT K (Od H (zV g 19 [Z,a,b])) w)) w):BB K (Oc H Z U zf) w:=by refine lV (cd f37 (b1 244)) [(5,1),(20,9)] 20 zf i j ?_;intro k l;exact mpF
def V8(h:K (.tuple #[H,ci 0]) w):rT K (Od H zf) w:=mpK h
attribute [irreducible] rT BB
def rI(K:KV)(D:Nat):KE:=ai Q (cd f310 [1,1,1,1]) (Cz Q Tryz.f310.results.toList K D) xf (Cz Q Tryz.f310.results.toList K D)
def QN(K:KV)(D:Nat):KE:=ai Q (cd f310 (b1 63)) (Cz Q Tryz.f310.results.toList K D) xf (Cz Q Tryz.f310.results.toList K D)
def ou(K:KV)(D:Nat):KE:=ai Q (cd f310 (b1 250)) (QN K D) (xx xf (QN K D) 2) (Cz Q Tryz.f310.results.toList K D)
def gx(K:KV)(D:Nat)(B1:KE):KE:=ai Q (cd f310 (b1 4007)) B1 (xx xf (QN K D) 2) (Cz Q Tryz.f310.results.toList K D)
def kQ(K:KV)(D:Nat)(B1:KE):KE:=ai Q (cd f310 (b1 4006)) (gx K D B1) (xx xf (QN K D) 2) (Cz Q Tryz.f310.results.toList K D)
def JH{t15:oF}(h:ld Q 121 C (λJ=>aU J λH=>ao Q 156 H 3 λZ=>ld Q 148 Z λU=>call Q 71 #[U] λY=>lN 187 Y λa=>ou K D (X1::Z1::N2::C::P2::Q2::R2::T2::U2::V2::X2::N3::O3::P3::Q3::t15::T3::U3::V3::W3::X3::Y3::u4::N4::O4::P4::Q4::T4::U4::V4::Y4::Z4::j5::J::H::Z::U::Y::a::(ci 0)::T5::U5::V5::Z5::M6::N6::O6::P6::Q6::R6::T6::U6::V6::u7::y7::[])) w):rI K D (X1::Z1::N2::C::P2::Q2::R2::T2::U2::V2::X2::N3::O3::P3::Q3::t15::T3::U3::V3::W3::X3::Y3::u4::N4::O4::P4::Q4::T4::U4::V4::Y4::Z4::j5::J::H::Z::U::Y::Q5::R5::T5::U5::V5::Z5::M6::N6::O6::P6::Q6::R6::T6::U6::V6::u7::y7::[]) w:=mpK h
def FK{t15:oF}(Inv:oF->oG->Prop)(μ:oF->oG->Nat)(g:Inv R5 w)(j:∀(b:oF) (a:oD) (w:oG) (m:Nat),Inv b w->m=μ b w ->
  lS b Z (λH w=>cond H (kQ K D (λd S=>(Inv (gd d 39) S)/\((μ (gd d 39) S)<m)) (X1::Z1::Y::O2::P2::Q2::R2::T2::U2::V2::X2::J::(a 12)::P3::Q3::t15::T3::U3::V3::W3::X3::Y3::u4::C::O4::P4::Q4::T4::U4::V4::Y4::Z4::j5::u5::U::N5::O5::P5::Z::b::H::(a 41)::(a 42)::(a 43)::(a 44)::(a 45)::(a 46)::(a 47)::(a 48)::(a 49)::(a 50)::U6::V6::u7::y7::[]) w) (QN K D (X1::Z1::Y::O2::P2::Q2::R2::T2::U2::V2::X2::J::(a 12)::P3::Q3::t15::T3::U3::V3::W3::X3::Y3::u4::C::O4::P4::Q4::T4::U4::V4::Y4::Z4::j5::u5::U::N5::O5::P5::Z::b::H::(a 41)::(a 42)::(a 43)::(a 44)::(a 45)::(a 46)::(a 47)::(a 48)::(a 49)::(a 50)::U6::V6::u7::y7::[]) w)) w):ou K D (X1::Z1::Y::O2::P2::Q2::R2::T2::U2::V2::X2::J::O3::P3::Q3::t15::T3::U3::V3::W3::X3::Y3::u4::C::O4::P4::Q4::T4::U4::V4::Y4::Z4::j5::u5::U::N5::O5::P5::Z::R5::H::U5::V5::Z5::M6::N6::O6::P6::Q6::R6::T6::U6::V6::u7::y7::[]) w:=by refine dC (cd f310 (b1 500)) (zr [(12,1),(39,12)]) kr (vP [39] Inv) (vQ [39] μ) g ?_;intro e f i;have h:=j _ (gd e) f _ i rfl;refine Eq.mp (qH (λc=>ai Q c _ _ _ _ f) (by kernel_rfl:(rep [1,1,0] (cd f310 (b1 4006)) (cd f310 (b1 500)))=(cd f310 (b1 500)))) ?_;revert h;delta kQ gx;generalize (cd f310 (b1 4006))=xc0;exact mpF
def FJ{t15:oF}(h:aW Q 187 P5 R5 (λC=>ld Q 36 C λH=>call Q 326 #[Z,H] λU=>un Q .not U λY w=>cond Y (ld Q 148 T2 (λJ=>call Q 312 #[J,H,cu 0] λa=>gx K D B1 (X1::Z1::N2::O2::P2::Q2::R2::T2::Z::V2::X2::N3::H::P3::Q3::t15::T3::U3::V3::W3::X3::Y3::u4::N4::O4::P4::Q4::T4::U4::V4::Y4::Z4::j5::u5::B5::N5::O5::P5::Q5::R5::T5::C::H::Z::H::U::Y::J::H::a::T6::U6::V6::u7::y7::[])) w) (gx K D B1 (X1::Z1::N2::O2::P2::Q2::R2::T2::Z::V2::X2::N3::H::P3::Q3::t15::T3::U3::V3::W3::X3::Y3::u4::N4::O4::P4::Q4::T4::U4::V4::Y4::Z4::j5::u5::B5::N5::O5::P5::Q5::R5::T5::C::H::Z::H::U::Y::J::Q6::R6::T6::U6::V6::u7::y7::[]) w)) w):kQ K D B1 (X1::Z1::N2::O2::P2::Q2::R2::T2::Z::V2::X2::N3::O3::P3::Q3::t15::T3::U3::V3::W3::X3::Y3::u4::N4::O4::P4::Q4::T4::U4::V4::Y4::Z4::j5::u5::B5::N5::O5::P5::Q5::R5::T5::C::H::Z5::M6::U::Y::J::Q6::R6::T6::U6::V6::u7::y7::[]) w:=by delta kQ;revert h;exact mpF
def FL{t15:oF}(h:ld Q 148 Y (λH=>call Q 312 #[H,J,U] λZ w=>(dM D w)/\(K Z (w.putObj D (Obj.deferred none)))) w):QN K D (X1::J::U::O2::P2::Q2::R2::Y::U2::V2::X2::N3::O3::P3::Q3::t15::T3::U3::V3::W3::X3::Y3::u4::N4::O4::P4::Q4::T4::U4::V4::Y4::Z4::j5::u5::C::N5::O5::P5::Q5::R5::T5::U5::V5::Z5::M6::N6::O6::P6::Q6::R6::T6::H::V6::u7::Z::[]) w:=mpK h
def xq{t15:oF}(h:nC R5 (λH=>B1 (X1::Z1::Y::O2::P2::Q2::R2::T2::U2::V2::X2::J::O3::P3::Q3::t15::T3::U3::V3::W3::X3::Y3::u4::C::O4::P4::Q4::T4::U4::V4::Y4::Z4::j5::u5::Z::N5::O5::P5::Q5::H::T5::U5::V5::Z5::U::N6::O6::P6::Q6::R6::H::U6::V6::u7::y7::[])) w):gx K D B1 (X1::Z1::Y::O2::P2::Q2::R2::T2::U2::V2::X2::J::O3::P3::Q3::t15::T3::U3::V3::W3::X3::Y3::u4::C::O4::P4::Q4::T4::U4::V4::Y4::Z4::j5::u5::Z::N5::O5::P5::Q5::R5::T5::U5::V5::Z5::U::N6::O6::P6::Q6::R6::H::U6::V6::u7::y7::[]) w:=by delta gx;revert h;exact mpF
attribute [irreducible] QN ou gx kQ
noncomputable def mP :Func:={Tryz.f310 with body:=some (zim (cd f310 (b1 122)))}
def Cn(NB:KE)(XB:Nat->KE)(RB:KE):KE:=ai Q (cd mP []) NB XB RB
def JI{XB:Nat->KE}{t15:oF}(h:B1 (X1::Z1::Y::O2::P2::Q2::R2::T2::U2::V2::H::J::O3::P3::Q3::t15::T3::U3::V3::W3::X3::Y3::u4::H::O4::P4::Q4::T4::U4::V4::Y4::Z4::j5::u5::Z::C::O5::P5::Q5::R5::T5::U5::V5::Z5::U::N6::O6::P6::Q6::R6::T6::U6::V6::u7::y7::[]) w):Cn B1 XB N (X1::Z1::Y::O2::P2::Q2::R2::T2::U2::V2::X2::J::O3::P3::Q3::t15::T3::U3::V3::W3::X3::Y3::u4::H::O4::P4::Q4::T4::U4::V4::Y4::Z4::j5::u5::Z::C::O5::P5::Q5::R5::T5::U5::V5::Z5::U::N6::O6::P6::Q6::R6::T6::U6::V6::u7::y7::[]) w:=mpK h
noncomputable def mQ :Func:={Tryz.f310 with body:=some (ziq (cd f310 (b1 122)))}
def Co(NB:KE)(XB:Nat->KE)(RB:KE):KE:=ai Q (cd mQ []) NB XB RB
def JJ{XB:Nat->KE}{t15:oF}(h:aF (λS w=>hL S 148 T2 λZ=>hL S 121 O2 λU=>hN S U λY=>hF S 156 Y 4 λJ=>hL S 150 J λC=>hld S (lkp Q 150 C H false) λa=>call Q 312 #[Z,H,a] (λb=>B1 (X1::Z1::N2::O2::P2::Q2::R2::T2::U2::V2::H::N3::O3::P3::Q3::t15::T3::U3::V3::W3::X3::Y3::u4::N4::Z::H::U::Y::J::C::H::a::b::u5::B5::N5::O5::P5::Q5::R5::T5::U5::V5::Z5::M6::N6::O6::P6::Q6::R6::T6::U6::V6::u7::y7::[])) w) w.drew):Co B1 XB N (X1::Z1::N2::O2::P2::Q2::R2::T2::U2::V2::H::N3::O3::P3::Q3::t15::T3::U3::V3::W3::X3::Y3::u4::N4::Z::P4::U::Y::J::C::Y4::Z4::j5::u5::B5::N5::O5::P5::Q5::R5::T5::U5::V5::Z5::M6::N6::O6::P6::Q6::R6::T6::U6::V6::u7::y7::[]) w:=mpK h
def LQ(h:box Q 121 Z (λf=>call Q 55 #[] λe=>alc Q 148 λg=>sto Q 148 g e λ_=>ld Q 121 f λh=>aU h λi=>ao Q 156 i 3 λb=>ld Q 148 b λc=>call Q 256 #[c,H] λa=>call Q 325 #[a] λd=>rfS Q (cd f310 (b1 122)) (rI K) (λi D e w=>(i=0)/\(rI K D e w)) (Cz Q Tryz.f310.results.toList K) (Z::U::H::f::uu::uu::(ci 0)::g::a::uu::uu::uu::uu::e::h::i::b::c::H::a::a::d::uu::uu::uu::uu::uu::uu::uu::uu::uu::uu::uu::uu::uu::uu::uu::uu::uu::uu::uu::uu::uu::uu::uu::uu::uu::uu::uu::uu::uu::uu::uu::uu::uu::[])) w):Gives Q 310 #[Z,U,H] w K:=zd6 func310 kr (Eq.mp kr h)
def Lc(h:box Q 121 H (λz=>box Q 54 Z λy w=>aF (λS w=>hF S 54 y 0 λE=>hL S 3 E λB=>hF S 54 y 1 λD=>hL S 36 D λC=>hF S 54 y 0 λa=>hL S 3 a λa=>hld (λ_=>True) (bT .sub 3 a (ci 1)) λA=>(call Q 309 #[B,C] (λc=>aX S λS w=>(alc Q 36 (λa=>aX S λS=>alc Q 3 λb=>aX S λS=>sto Q 36 a c λ_=>aX S λ_=>sto Q 3 b A λ_ w=>sL 121 z (λj=>sL 3 b λl=>sN j λm=>sF 156 m 6 λn=>sI 154 n l λo=>sL 3 o λp=>sti (bT .geq 3 p (ci 5)) λc w=>aM c false (λi=>sF 54 y 6 (λd=>sL 2 d λe=>sti (bT .gtr 2 e (ci 140737488355328)) λq=>i [d,e,q]) w) (λk=>k [uu,uu,uu] w) λg=>sti (pick c cT (gd g 2)) λr w=>cond r (K (.tuple #[Value.nilFunc,ci 6]) w) (ld Q 121 z (λs=>ld Q 36 a λt=>ao Q 54 y 4 λu=>ld Q 36 u λv=>call Q 310 #[s,t,v] λf=>bT .neq 26 f (ci 0) λx w=>cond x (K (.tuple #[Value.nilFunc,f]) w) (K (.tuple #[.func (.func 311) #[] #[z,a,y,b],ci 0]) w)) w)) w.drew) w)/\(alc Q 3 (λb=>aX S λS=>alc Q 36 λa=>aX S λS=>sto Q 36 a c λ_=>aX S λ_=>sto Q 3 b A λ_ w=>sL 121 z (λj=>sL 3 b λl=>sN j λm=>sF 156 m 6 λn=>sI 154 n l λo=>sL 3 o λp=>sti (bT .geq 3 p (ci 5)) λc w=>aM c false (λi=>sF 54 y 6 (λd=>sL 2 d λe=>sti (bT .gtr 2 e (ci 140737488355328)) λq=>i [d,e,q]) w) (λk=>k [uu,uu,uu] w) λg=>sti (pick c cT (gd g 2)) λr w=>cond r (K (.tuple #[Value.nilFunc,ci 6]) w) (ld Q 121 z (λs=>ld Q 36 a λt=>ao Q 54 y 4 λu=>ld Q 36 u λv=>call Q 310 #[s,t,v] λf=>bT .neq 26 f (ci 0) λx w=>cond x (K (.tuple #[Value.nilFunc,f]) w) (K (.tuple #[.func (.func 311) #[] #[z,a,y,b],ci 0]) w)) w)) w.drew) w)) w)/\((alc Q 36 (λa=>aX S λS w=>(call Q 309 #[B,C] (λc=>aX S λS=>alc Q 3 λb=>aX S λS=>sto Q 36 a c λ_=>aX S λ_=>sto Q 3 b A λ_ w=>sL 121 z (λj=>sL 3 b λl=>sN j λm=>sF 156 m 6 λn=>sI 154 n l λo=>sL 3 o λp=>sti (bT .geq 3 p (ci 5)) λc w=>aM c false (λi=>sF 54 y 6 (λd=>sL 2 d λe=>sti (bT .gtr 2 e (ci 140737488355328)) λq=>i [d,e,q]) w) (λk=>k [uu,uu,uu] w) λg=>sti (pick c cT (gd g 2)) λr w=>cond r (K (.tuple #[Value.nilFunc,ci 6]) w) (ld Q 121 z (λs=>ld Q 36 a λt=>ao Q 54 y 4 λu=>ld Q 36 u λv=>call Q 310 #[s,t,v] λf=>bT .neq 26 f (ci 0) λx w=>cond x (K (.tuple #[Value.nilFunc,f]) w) (K (.tuple #[.func (.func 311) #[] #[z,a,y,b],ci 0]) w)) w)) w.drew) w)/\(alc Q 3 (λb=>aX S λS=>call Q 309 #[B,C] λc=>aX S λS=>sto Q 36 a c λ_=>aX S λ_=>sto Q 3 b A λ_ w=>sL 121 z (λj=>sL 3 b λl=>sN j λm=>sF 156 m 6 λn=>sI 154 n l λo=>sL 3 o λp=>sti (bT .geq 3 p (ci 5)) λc w=>aM c false (λi=>sF 54 y 6 (λd=>sL 2 d λe=>sti (bT .gtr 2 e (ci 140737488355328)) λq=>i [d,e,q]) w) (λk=>k [uu,uu,uu] w) λg=>sti (pick c cT (gd g 2)) λr w=>cond r (K (.tuple #[Value.nilFunc,ci 6]) w) (ld Q 121 z (λs=>ld Q 36 a λt=>ao Q 54 y 4 λu=>ld Q 36 u λv=>call Q 310 #[s,t,v] λf=>bT .neq 26 f (ci 0) λx w=>cond x (K (.tuple #[Value.nilFunc,f]) w) (K (.tuple #[.func (.func 311) #[] #[z,a,y,b],ci 0]) w)) w)) w.drew) w)) w)/\(alc Q 3 (λb=>aX S λS w=>(call Q 309 #[B,C] (λc=>aX S λS=>alc Q 36 λa=>aX S λS=>sto Q 36 a c λ_=>aX S λ_=>sto Q 3 b A λ_ w=>sL 121 z (λj=>sL 3 b λl=>sN j λm=>sF 156 m 6 λn=>sI 154 n l λo=>sL 3 o λp=>sti (bT .geq 3 p (ci 5)) λc w=>aM c false (λi=>sF 54 y 6 (λd=>sL 2 d λe=>sti (bT .gtr 2 e (ci 140737488355328)) λq=>i [d,e,q]) w) (λk=>k [uu,uu,uu] w) λg=>sti (pick c cT (gd g 2)) λr w=>cond r (K (.tuple #[Value.nilFunc,ci 6]) w) (ld Q 121 z (λs=>ld Q 36 a λt=>ao Q 54 y 4 λu=>ld Q 36 u λv=>call Q 310 #[s,t,v] λf=>bT .neq 26 f (ci 0) λx w=>cond x (K (.tuple #[Value.nilFunc,f]) w) (K (.tuple #[.func (.func 311) #[] #[z,a,y,b],ci 0]) w)) w)) w.drew) w)/\(alc Q 36 (λa=>aX S λS=>call Q 309 #[B,C] λc=>aX S λS=>sto Q 36 a c λ_=>aX S λ_=>sto Q 3 b A λ_ w=>sL 121 z (λj=>sL 3 b λl=>sN j λm=>sF 156 m 6 λn=>sI 154 n l λo=>sL 3 o λp=>sti (bT .geq 3 p (ci 5)) λc w=>aM c false (λi=>sF 54 y 6 (λd=>sL 2 d λe=>sti (bT .gtr 2 e (ci 140737488355328)) λq=>i [d,e,q]) w) (λk=>k [uu,uu,uu] w) λg=>sti (pick c cT (gd g 2)) λr w=>cond r (K (.tuple #[Value.nilFunc,ci 6]) w) (ld Q 121 z (λs=>ld Q 36 a λt=>ao Q 54 y 4 λu=>ld Q 36 u λv=>call Q 310 #[s,t,v] λf=>bT .neq 26 f (ci 0) λx w=>cond x (K (.tuple #[Value.nilFunc,f]) w) (K (.tuple #[.func (.func 311) #[] #[z,a,y,b],ci 0]) w)) w)) w.drew) w)) w))) w.drew) w):Gives Q 302 #[H,Z] w K:=au func302 kr (mpK h)
def yW(a b c d:oF)(zf:oD):=a::b::c::d::zT zf 4 38 ([])
def kP(K:KV):KE:=ai Q (cd f311 [1,1,1]) (rk f311 K) xf (rk f311 K)
def IM(h:aF (λS w=>hL S 121 H λs=>hN S s λt=>hF S 156 t 3 λu=>hL S 148 u λv=>hL S 36 U λx=>hF S 54 Z 4 λc=>hL S 36 c λd=>call Q 312 #[v,x,d] (λr w=>aF (λS w=>hL S 121 H λh=>hN S h λy=>hF S 156 y 4 λz=>hL S 150 z λe=>hL S 36 U λf=>hF S 54 Z 4 λg=>hL S 36 g λi=>fk Q 150 e f i (λ_ w=>sL 121 H (λa=>sL 3 Y λb=>sN a λj=>sF 156 j 6 λk=>sI 154 k b λl=>sL 3 l λm=>sti (bT .add 3 m (ci 1)) λn=>sN a λo=>sF 156 o 6 λp=>sI 154 p b λq=>sto Q 3 q n λ_=>kP K (yW H U Z Y (zV zu 5 [s,t,u,v,x,c,d,r,h,y,z,e,f,g,i,a,b,j,k,l,m,n,o,p,q]))) w.drew) w) w.drew) w) w.drew):Gives Q 311 #[H,U,Z,Y] w K:=by refine au func311 kr <|rpT [1,1,1] (cd f311 [1,1,1]) (cd f311 []) ?_;revert h;delta kP;generalize (cd f311 [1,1,1])=xc0;exact mpF
def FI(h:bld Q 81 #[] (λb=>alc Q 81 λa=>sto Q 81 a b λ_=>ld Q 3 Z λc=>ao Q 54 H 6 λd=>ld Q 2 d λe=>ao Q 81 a 0 λf=>aW Q 78 f c λg=>sto Q 2 g e λ_ w=>aF (λS w=>hL S 121 U λi=>hN S i λj=>hF S 156 j 5 λk=>hL S 151 k λl=>hL S 36 Y λm=>hL S 81 a λn=>fk Q 151 l m n (λ_=>K (.tuple #[])) w) w.drew) w):kP K (yW U Y H Z zf) w:=mpK h
attribute [irreducible] kP
def pM(b a r6:oF)(zf:oD):=zf 0::zf 1::b::a::zf 4::zf 5::r6::zT zf 7 32 ([])
def jn(K:KV):KE:=kZ f303 [1,1,1,1] K
def lM(K:KV):KE:=ai Q (cd f303 (b1 61)) (jn K) xf (rk f303 K)
def JG(h:box Q 121 U (λJ=>box Q 54 Y λZ w=>aF (λS w=>hL S 121 J λs=>hN S s λc=>hF S 156 c 5 λd=>hL S 151 d λe=>hF S 54 Z 4 λh=>hL S 36 h λt=>hld S (lkp Q 151 e t true) λu=>hld S (ext Q u 0) λf=>hld S (ext Q u 1) λa=>alc Q 81 (λH=>aX S λS=>sto Q 81 H f λ_=>aX S λ_=>un Q .not a λg w=>cond g (K (.tuple #[Value.nilFunc,ci 9]) w) (sF 54 Z 0 (λi=>sL 3 i λj=>sti (bT .sub 3 j (ci 1)) λb=>sF 81 H 0 λk=>sI 78 k b λl=>sL 2 l λm=>sF 54 Z 6 λn=>sL 2 n λo=>sti (bF .add 2 m o) λp=>sF 81 H 0 λq=>sI 78 q b λr=>sto Q 2 r p λ_=>lM K (pM J Z H (zV (zV (zV zu 0 [U,Y]) 4 [Value.nilFunc,ci 0]) 7 [a,u,s,c,d,e,h,t,u,f,a,a,g,i,j,b,k,l,m,n,o,p,q,r]))) w.drew)) w) w.drew) w):Gives Q 303 #[U,Y] w K:=by refine au func303 kr <|rpT [1,1,1,0,1] (cd f303 (b1 61)) (cd f303 []) ?_;revert h;delta lM jn;generalize (cd f303 (b1 61))=xc0;exact mpF
def GU(h:ao Q 54 Z 0 (λa=>ld Q 3 a λb=>bT .sub 3 b (ci 1) λc=>ao Q 81 H 0 λd=>aW Q 78 d c λe=>ld Q 2 e λf=>bT .gtr 2 f (ci 140737488355328) λg w=>cond g (K (.tuple #[Value.nilFunc,ci 6]) w) (jn K (pM U Z H (zV zf 31 [a,b,c,d,e,f,g])) w)) w):lM K (pM U Z H zf) w:=by delta lM;revert h;exact mpF
def GV(h:K (.tuple #[.func (.func 313) #[] #[H,Z,U],ci 0]) w):jn K (pM Z U H zf) w:=mpK h
attribute [irreducible] jn lM
def GS(h:aF (λS w=>hL S 121 U λa=>hN S a λa=>hF S 156 a 5 λb=>hL S 151 b λc=>hF S 54 H 4 λd=>hL S 36 d λe=>hL S 81 Z λf=>fk Q 151 c e f (λ_=>K (.tuple #[])) w) w.drew):Gives Q 313 #[Z,U,H] w K:=au func313 kr (mpK h)
def AV(b f a c d e:oF)(zf:oD):=zf 0::zf 1::b::f::zT zf 4 4 (a::zT zf 9 10 (c::d::e::zT zf 22 22 ([])))
def AW(b a:oF)(zf:oD):=zT zf 0 3 (b::zT zf 4 4 (a::zT zf 9 35 ([])))
def iC(K:KV):KE:=kZ f314 [1,1,1] K
def mJ(K:KV):KE:=ai Q (cd f314 (b1 58)) (iC K) (xx xf (iC K) 0) (rk f314 K)
def KY(h:box Q 121 Y (λJ=>fl Q 151 none λc=>alc Q 151 λZ=>sto Q 151 Z c λ_=>ld Q 121 J λd=>aU d λe=>ao Q 156 e 3 λa=>ld Q 148 a λb=>call Q 256 #[b,H] λU=>lN 187 U λC=>mJ K (AV X1 J Z U C (ci 0) (zV (zV (zV zu 0 [Y,H]) 6 [Value.nilFunc,ci 0]) 13 [c,d,e,a,b,H]))) w):Gives Q 314 #[Y,H,X1] w K:=au func314 kr (mpK h)
def IC(Inv:oF->oG->Prop)(μ:oF->oG->Nat)(u:Inv C w)(v:∀(a:oF) (t:oD) (w:oG) (m:Nat),Inv a w->m=μ a w ->
  lS a U (λc w=>cond c (aW Q 187 Z a (λi=>ld Q 36 i λd=>ld Q 121 J λj=>aU j λk=>ao Q 156 k 5 λl=>ld Q 151 l λn=>lkp Q 151 n d false λo=>bA Q Y #[o] λe=>ext Q e 0 λp=>ext Q e 1 λf=>alc Q 81 λb=>sto Q 81 b p λ_=>bT .neq 26 f (ci 0) λq w=>cond q (K (.tuple #[Value.nilFunc,f]) w) (ld Q 151 H (λr=>ld Q 81 b λs=>fk Q 151 r d s λ_=>nC a λg w=>(Inv g w)/\((μ g w)<m)) w)) w) (iC K (AW J H (zV (zV t 2 [Y]) 19 [Z,U,a,c])) w)) w):mJ K (AV Y J H Z U C zf) w:=by refine lV (cd f314 (b1 116)) [(6,2),(10,3),(21,22)] 21 zf u v ?_;intro x y;exact mpF
def ID(h:K (.tuple #[.func (.func 327) #[] #[H,Z],ci 0]) w):iC K (AW Z H zf) w:=mpK h
attribute [irreducible] iC mJ
def yU(a b:oF)(zf:oD):=zf 0::a::zT zf 2 3 (b::zT zf 6 11 ([]))
def zle(K:KV):KE:=ai Q (cd f327 [1,0]) (rk f327 K) (xx xf (rk f327 K) 0) (rk f327 K)
def IB(h:ld Q 151 H (λa=>rng Q 151 a λU=>zle K (yU Z U (zV (zV zu 0 [H]) 4 [a]))) w):Gives Q 327 #[H,Z] w K:=au func327 kr (mpK h)
def FH(Inv:oG->Prop)(μ:oG->Nat)(k:Inv w)(n:∀(s:oD) (w:oG) (m:Nat),Inv w->m=μ w ->
  nxt Q H false 0 (λo=>ext Q o 0 λp w=>cond p (ent Q H (λg=>ext Q g 0 λq=>ext Q g 1 λa=>alc Q 81 λf=>sto Q 81 f a λ_ w=>aF (λS w=>hL S 121 Z λb=>hN S b λc=>hF S 156 c 5 λa=>hL S 151 a λa=>hL S 81 f λd=>fk Q 151 a q d (λ_ w=>(Inv w)/\((μ w)<m)) w) w.drew) w) (K (.tuple #[]) w)) w):zle K (yU Z H zf) w:=by refine dC (cd f327 [1,0,0]) (zr [(2,2),(6,11)]) kr (λj e=>Inv e) (λj e=>μ e) k ?_;intro i r l;have h:=n (zM zf (gd i) (zr [(2,2),(6,11)])) r _ l rfl;exact mpK h
attribute [irreducible] zle
def B8(d b e a c:oF)(zf:oD):=zf 0::zf 1::d::b::zf 4::zf 5::e::a::c::zT zf 9 31 ([])
def mR(K:KV):KE:=ai Q (cd f304 (b1 63)) (rk f304 K) xf (rk f304 K)
def Le(h:box Q 121 J (λZ=>box Q 54 C λH=>ao Q 54 H 0 λx=>ld Q 3 x λb=>ao Q 54 H 7 λc=>ld Q 36 c λd=>bld Q 190 #[(0,b),(1,d)] λh=>alc Q 190 λU=>sto Q 190 U h λ_ w=>sL 121 Z (λy=>sN y λz=>sF 156 z 8 λe=>sL 153 e λf=>sL 190 U λg=>sti (lkp Q 153 f g false) λi w=>cond i (K (.tuple #[Value.nilFunc,ci 14]) w) (aF (λS w=>hL S 121 Z λj=>hN S j λk=>hF S 156 k 3 λl=>hL S 148 l λm=>hF S 54 H 4 λn=>hL S 36 n λo=>call Q 169 #[m,o] (λp=>aF λS w=>hld S (un Q .not p) λq=>cond q (K (.tuple #[Value.nilFunc,ci 9]) w) (ld Q 121 Z (λr=>ao Q 54 H 4 λs=>ld Q 36 s λt=>call Q 314 #[r,t,.func (.func 315) #[] #[H]] λa=>ext Q a 0 λu=>ext Q a 1 λv=>alc Q 209 λY=>sto Q 209 Y u λ_=>mR K (B8 Z H U Y v (zV (zV (zV zu 0 [J,C]) 4 [Value.nilFunc,ci 0]) 9 [x,b,c,d,h,y,z,e,f,g,i,j,k,l,m,n,o,p,q,a,r,s,t,.func (.func 315) #[] #[H],a,u,v]))) w)) w) w.drew)) w.drew) w):Gives Q 304 #[J,C] w K:=by refine au func304 kr <|rpT [1,1,1,1,1] (cd f304 (b1 63)) (cd f304 []) ?_;revert h;delta mR;generalize (cd f304 (b1 63))=xc0;exact mpF
def yX(h:bT .neq 26 H (ci 0) (λa w=>cond a (K (.tuple #[Value.nilFunc,H]) w) (K (.tuple #[.func (.func 317) #[] #[U,Y,Z,J],ci 0]) w)) w):mR K (B8 Y J Z U H zf) w:=mpK h
attribute [irreducible] mR
def IQ(h:box Q 81 Z (λe=>alc Q 81 λd=>ld Q 81 e λf=>ao Q 54 H 0 λg=>ld Q 3 g λi=>ao Q 54 H 6 λj=>ld Q 2 j λk=>call Q 316 #[f,i,k] λa=>ext Q a 0 λb=>ext Q a 1 λc=>sto Q 81 d b λ_=>aY Q [(some 81,d),(none,c)] K) w):Gives Q 315 #[Z,H] w K:=au func315 kr (mpK h)
def IR(h:ld Q 209 Y (λa=>bA Q a #[] λ_ w=>aF (λS w=>hL S 121 U λn=>hN S n λo=>hF S 156 o 8 λp=>hL S 153 p λq=>hL S 190 Z λa=>fk Q 153 q a cT (λ_ w=>aF (λS w=>hL S 121 U λb=>hN S b λc=>hF S 156 c 7 λa=>hL S 152 a λa=>hL S 190 Z λb=>hF S 54 H 0 λd=>hL S 3 d λe=>hF S 54 H 7 λf=>hL S 36 f λg=>hF S 54 H 4 λi=>hL S 36 i λj=>hF S 54 H 6 λk=>hL S 2 k λl=>hld S (bld Q 96 #[(0,e),(1,g),(2,j),(3,l)]) λm=>fk Q 152 a b m (λ_=>K (.tuple #[])) w) w.drew) w) w.drew) w):Gives Q 317 #[Y,U,Z,H] w K:=au func317 kr (mpK h)
def vk(e c f b d a:oF)(zf:oD):=zf 0::zf 1::e::c::zf 4::zf 5::f::b::d::a::zT zf 10 46 ([])
def kw(K:KV):KE:=ai Q (cd f305 [1,1,1,1]) (rk f305 K) xf (rk f305 K)
def La(h:box Q 121 C (λU=>box Q 54 R2 λY w=>aF (λS w=>hF S 54 Y 0 λr=>hL S 3 r λh=>hF S 54 Y 7 λx=>hL S 36 x λy=>hld S (bld Q 190 #[(0,h),(1,y)]) λp=>hF S 54 Y 0 λs=>hL S 3 s λt=>hF S 54 Y 8 λu=>hL S 36 u λv=>hld S (bld Q 190 #[(0,t),(1,v)]) λq=>(alc Q 190 (λH=>aX S λS=>alc Q 190 λZ=>aX S λS=>sto Q 190 H p λ_=>aX S λ_=>sto Q 190 Z q λ_ w=>sL 121 U (λb=>sN b λc=>sF 156 c 8 λd=>sL 153 d λe=>sL 190 H λf=>sti (lkp Q 153 e f false) λg w=>cond g (K (.tuple #[Value.nilFunc,ci 14]) w) (aF (λS w=>hL S 121 U λi=>hN S i λj=>hF S 156 j 7 λk=>hL S 152 k λl=>hL S 190 Z λm=>hld S (lkp Q 152 l m true) λa=>hld S (ext Q a 0) λn=>hld S (ext Q a 1) λo=>alc Q 96 (λJ=>aX S λS=>sto Q 96 J n λ_=>aX S λ_=>kw K (vk U Y H Z J o (zV (zV (zV zu 0 [C,R2]) 4 [Value.nilFunc,ci 0]) 12 [r,h,x,y,p,s,t,u,v,q,b,c,d,e,f,g,a,i,j,k,l,m,a,n,o]))) w) w.drew)) w.drew) w)/\(alc Q 190 (λZ=>aX S λS=>alc Q 190 λH=>aX S λS=>sto Q 190 H p λ_=>aX S λ_=>sto Q 190 Z q λ_ w=>sL 121 U (λb=>sN b λc=>sF 156 c 8 λd=>sL 153 d λe=>sL 190 H λf=>sti (lkp Q 153 e f false) λg w=>cond g (K (.tuple #[Value.nilFunc,ci 14]) w) (aF (λS w=>hL S 121 U λi=>hN S i λj=>hF S 156 j 7 λk=>hL S 152 k λl=>hL S 190 Z λm=>hld S (lkp Q 152 l m true) λa=>hld S (ext Q a 0) λn=>hld S (ext Q a 1) λo=>alc Q 96 (λJ=>aX S λS=>sto Q 96 J n λ_=>aX S λ_=>kw K (vk U Y H Z J o (zV (zV (zV zu 0 [C,R2]) 4 [Value.nilFunc,ci 0]) 12 [r,h,x,y,p,s,t,u,v,q,b,c,d,e,f,g,a,i,j,k,l,m,a,n,o]))) w) w.drew)) w.drew) w)) w.drew) w):Gives Q 305 #[C,R2] w K:=by refine au func305 kr <|rpT [1,1,1,1] (cd f305 [1,1,1,1]) (cd f305 []) ?_;revert h;delta kw;generalize (cd f305 [1,1,1,1])=xc0;exact mpF
def IK(h:un Q .not C (λb w=>aM b false (λi=>ao Q 96 H 4 (λc=>ld Q 36 c λd=>bT .neq 36 d (cu 0) λj=>i [c,d,j]) w) (λk=>k [uu,uu,uu] w) λg=>pick b cT (gd g 2) λl w=>cond l (K (.tuple #[Value.nilFunc,ci 12]) w) (ld Q 121 Z (λm=>ao Q 96 H 2 λn=>ld Q 36 n λo=>call Q 314 #[m,o,.func (.func 318) #[] #[U,H]] λe=>ext Q e 0 λp=>ext Q e 1 λf=>alc Q 209 λa=>sto Q 209 a p λ_=>bT .neq 26 f (ci 0) λq w=>cond q (K (.tuple #[Value.nilFunc,f]) w) (K (.tuple #[.func (.func 320) #[] #[a,Z,Y,U,H,J],ci 0]) w)) w)) w):kw K (vk Z U Y J H C zf) w:=mpK h
attribute [irreducible] kw
def II(h:box Q 81 Z (λd=>alc Q 81 λh=>ld Q 81 d λe=>ao Q 54 U 0 λf=>ld Q 3 f λg=>ao Q 96 H 3 λi=>ld Q 2 i λb=>call Q 319 #[e,g,b] λa=>ext Q a 0 λc=>ext Q a 1 λa=>sto Q 81 h c λ_=>aY Q [(some 81,h),(none,a)] K) w):Gives Q 318 #[Z,U,H] w K:=au func318 kr (mpK h)
def IJ(h:ld Q 209 C (λk=>bA Q k #[] λ_ w=>aF (λS w=>hL S 121 Z λl=>hN S l λm=>hF S 156 m 8 λa=>hL S 153 a λb=>hL S 190 U λc=>fk Q 153 b c cT (λ_=>ao Q 54 Y 7 λa=>ld Q 36 a λa=>ao Q 96 H 4 λb=>sto Q 36 b a λ_ w=>aF (λS w=>hL S 121 Z λd=>hN S d λe=>hF S 156 e 7 λf=>hL S 152 f λg=>hL S 190 J λi=>hL S 96 H λj=>fk Q 152 g i j (λ_=>K (.tuple #[])) w) w.drew) w) w.drew) w):Gives Q 320 #[C,Z,U,Y,H,J] w K:=au func320 kr (mpK h)
def AZ(c a r6 b:oF)(zf:oD):=zf 0::zf 1::c::a::zf 4::zf 5::r6::zf 7::b::zT zf 9 38 ([])
def mN(K:KV):KE:=ai Q (cd f306 [1,1,1,1]) (rk f306 K) xf (rk f306 K)
def Ld(h:box Q 121 Y (λU=>box Q 54 J λH w=>aF (λS w=>hL S 121 U λf=>hN S f λg=>hF S 156 g 5 λi=>hL S 151 i λh=>hF S 54 H 4 λC=>hL S 36 C λD=>hld S (lkp Q 151 h D true) λa=>hld S (ext Q a 0) λj=>hld S (ext Q a 1) λb=>alc Q 81 (λZ=>aX S λS=>sto Q 81 Z j λ_=>aX S λ_=>un Q .not b λd w=>cond d (K (.tuple #[Value.nilFunc,ci 9]) w) (sL 121 U (λk=>sF 54 H 5 λl=>sL 3 l λm=>sti (bT .sub 3 m (ci 1)) λn=>sN k λo=>sF 156 o 0 λp=>sI 35 p n λq=>sL 4 q λr=>sti (un Q .not r) λe w=>cond e (K (.tuple #[Value.nilFunc,ci 10]) w) (ld Q 81 Z (λs=>ao Q 54 H 0 λt=>ld Q 3 t λu=>ao Q 54 H 5 λv=>ld Q 3 v λx=>ao Q 54 H 6 λy=>ld Q 2 y λz=>call Q 321 #[s,u,x,z] λc=>ext Q c 0 λA=>ext Q c 1 λB=>sto Q 81 Z A λ_=>mN K (AZ U H Z B (zV (zV (zV (zV zu 0 [Y,J]) 4 [Value.nilFunc,ci 0]) 7 [b]) 9 [a,f,g,i,h,C,D,a,j,b,d,b,d,e,k,l,m,n,o,p,q,r,e,c,s,t,u,v,x,y,z,c,A,B]))) w)) w.drew)) w) w.drew) w):Gives Q 306 #[Y,J] w K:=by refine au func306 kr <|rpT [1,1,1,1] (cd f306 [1,1,1,1]) (cd f306 []) ?_;revert h;delta mN;generalize (cd f306 [1,1,1,1])=xc0;exact mpF
def IP(h:bT .neq 26 H (ci 0) (λa w=>cond a (K (.tuple #[Value.nilFunc,H]) w) (K (.tuple #[.func (.func 322) #[] #[Z,U,Y],ci 0]) w)) w):mN K (AZ U Y Z H zf) w:=mpK h
attribute [irreducible] mN
def IN(h:aF (λS w=>hL S 121 U λa=>hN S a λa=>hF S 156 a 5 λb=>hL S 151 b λc=>hF S 54 H 4 λd=>hL S 36 d λe=>hL S 81 Z λf=>fk Q 151 c e f (λ_=>K (.tuple #[])) w) w.drew):Gives Q 322 #[Z,U,H] w K:=au func322 kr (mpK h)
def Lb(h:box Q 121 H (λb=>box Q 54 Z λa=>K (.tuple #[.func (.func 323) #[] #[b,a],ci 0])) w):Gives Q 307 #[H,Z] w K:=au func307 kr (mpK h)
def IL(h:sL 121 H (λa=>sF 54 Z 5 λb=>sL 3 b λb=>sti (bT .sub 3 b (ci 1)) λc=>sN a λd=>sF 156 d 0 λe=>sI 35 e c λf=>sto Q 4 f cT λ_=>K (.tuple #[])) w.drew):Gives Q 323 #[H,Z] w K:=au func323 kr (mpK h)
def JF(h:box Q 121 H (λb=>box Q 54 Z λa=>K (.tuple #[.func (.func 324) #[] #[b,a],ci 0])) w):Gives Q 308 #[H,Z] w K:=au func308 kr (mpK h)
def GQ(h:sL 121 H (λa=>sF 54 Z 0 λb=>sL 3 b λb=>sti (bT .sub 3 b (ci 1)) λc=>sN a λd=>sF 156 d 1 λe=>sI 35 e c λf=>sto Q 4 f cT λ_=>K (.tuple #[])) w.drew):Gives Q 324 #[H,Z] w K:=au func324 kr (mpK h)
def AX(c b a:oF)(zf:oD):=c::zf 1::zf 2::b::zT zf 4 16 (a::zT zf 21 34 ([]))
def mM(c b a:oF)(zf:oD):=c::zf 1::zf 2::b::zT zf 4 24 (a::zT zf 29 26 ([]))
def AY(b a:oF)(zf:oD):=b::zf 1::zf 2::a::zT zf 4 51 ([])
def dX(K:KV):KE:=kZ f86 [1,1] K
def mK(K:KV):KE:=ai Q (cd f86 (b1 1663)) (dX K) (xx xf (dX K) 0) (rk f86 K)
def iD(K:KV):KE:=kY f86 (b1 6655) (dX K) (xx xf (dX K) 0) K
def mL(K:KV):KE:=ai Q (cd f86 (b1 13309)) (iD K) (xx xf (dX K) 0) (rk f86 K)
def KZ(h:box Q 54 U (λZ=>bT .eql 121 H (.pointer none) λo w=>cond o (K (.tuple #[Value.nilFunc,ci 2]) w) (ld Q 54 Z (λc=>call Q 68 #[c] λd=>un Q .not d λa w=>cond a (K (.tuple #[Value.nilFunc,ci 1]) w) (aF (λS w=>hN S H λh=>hF S 156 h 2 λe=>hL S 38 e λf=>hL S 54 Z λg=>call Q 87 #[f,g] (λb=>aF λ_ w=>cond b (K (.tuple #[Value.nilFunc,ci 14]) w) (aF (λS w=>hN S H λi=>hF S 156 i 2 λj=>hL S 38 j λk=>hL S 54 Z λl=>call Q 88 #[k,l] (λm=>aF λS w=>hld S (un Q .not m) λn=>mK K (AX H Z n (zV (zV (zV zu 1 [U]) 4 [Value.nilFunc,ci 0,o,H,o,a,c,d,a,b,H,h,e,f,g,b]) 21 [H,i,j,k,l,m,n])) w) w) w.drew)) w) w.drew)) w)) w):Gives Q 86 #[H,U] w K:=by refine au func86 kr <|rpT [1,0,0,1,1,1,1,1,1,1] (cd f86 (b1 1663)) (cd f86 []) ?_;revert h;delta mK dX;generalize (cd f86 (b1 1663))=xc0;exact mpF
def IE(h:cond Z (K (.tuple #[Value.nilFunc,ci 13]) w) (sF 54 U 0 (λa=>sL 3 a λb=>sti (bT .sub 3 b (ci 1)) λc=>sN H λd=>sF 156 d 0 λe=>sI 35 e c λf=>sL 4 f λg=>sti (un Q .not g) λi=>mL K (mM H U i (zV (zV zf 20 [Z]) 29 [H,a,b,c,d,e,f,g,i]))) w.drew)):mK K (AX H U Z zf) w:=by delta mK;refine rpT [1,0,1] (cd f86 (b1 13309)) (cd f86 (b1 1663)) ?_;revert h;delta mL iD;generalize (cd f86 (b1 13309))=xc0;exact mpF
def IF(h:cond U (iD K (mM H Z U zf) w) (sF 54 Z 0 (λa=>sL 3 a λb=>sti (bT .sub 3 b (ci 1)) λc=>sN H λd=>sF 156 d 1 λe=>sI 35 e c λf=>sL 4 f λg=>iD K (mM H Z g (zV zf 38 [H,a,b,c,d,e,f,g]))) w.drew)):mL K (mM H Z U zf) w:=by delta mL;revert h;exact mpF
def yV(h:cond H (K (.tuple #[Value.nilFunc,ci 10]) w) (dX K (AY Z U (zV zf 28 [H])) w)):iD K (mM Z U H zf) w:=by delta iD;revert h;exact mpF
def IG(h:aF (λS w=>hF S 54 H 3 λb=>hL S 5 b λc=>hI S 229 (pA 1 0) c λd=>hL S 228 d λe=>hL S 54 H λf=>bA Q e #[Z,f] (λa=>aF λS w=>hld S (ext Q a 0) λg=>hld S (ext Q a 1) λi=>K (.tuple #[g,i]) w) w) w.drew):dX K (AY Z H zf) w:=mpK h
attribute [irreducible] dX mK iD mL
def KS(h:box Q 54 Z (λp=>ld Q 54 p λq=>call Q 86 #[H,q] λa=>ext Q a 0 λd=>ext Q a 1 λb=>bT .neq 26 b (ci 0) λa w=>cond a (K b w) (bA Q d #[] (λ_ w=>sF 54 p 0 (λe=>sL 3 e λf=>sti (bT .sub 3 f (ci 1)) λc=>sN H λg=>sF 156 g 2 λi=>sI 38 i c λj=>sL 36 j λk=>sti (bT .add 36 k (cu 1)) λl=>sN H λm=>sF 156 m 2 λn=>sI 38 n c λo=>sto Q 36 o l λ_=>K (ci 0)) w.drew) w)) w):Gives Q 69 #[H,Z] w K:=au func69 kr (mpK h)
def grC(x:GR):oE:=[iv x.o,u6 x.q,u6 x.n,iv x.a,u6 x.b]
theorem vN(x:GR):(grC x).length=5:=rfl
def LH(x:GR):∀v∈grC x,v.oneCell'=true:=by simp[grC,u6,iv,Value.oneCell']
def Sx:fU Q 96 0 0 b o K w:=aJ kr
def Ic:fU Q 96 1 1 b o K w:=aJ kr
def Zd:fU Q 96 2 2 b o K w:=aJ kr
def Ze:fU Q 96 3 3 b o K w:=aJ kr
def ML:fU Q 96 4 4 b o K w:=aJ kr
section
attribute [local irreducible] bin un conv call bA blt slc ao fld aW idx lkp fk mW eSt rng nxt ent ext alc box bld bM ld sto aU fl mkS ifc pick rdy wts aM sti cond aY Gives ai iy ke cOp
section
open Go.ChangeMaps
structure LB where
 p:Nat
 t:Nat
 tp:Nat
 pm:Nat
 rm:Nat
 gm:Nat
 am:Nat
def LB.wv(q:LB):List Nat:=[q.p,q.tp,q.pm,q.rm,q.gm,q.am]
def LB.l(q:LB):List Nat:=[q.p,q.t,q.tp,q.pm,q.rm,q.gm,q.am,1]
def LB.wl{q:LB}:∀k∈q.wv,k∈q.l:=by intro k a;simp only[LB.wv,LB.l,oO,oR,or_false]at a |-;omega
section
variable {q:LB}
def LN.pt(h:q.l.Nodup):q.p≠q.t:=λe=>by simp[LB.l,e]at h
def LN.pd(h:q.l.Nodup):q.p≠q.tp:=λe=>by simp[LB.l,e]at h
def LN.pm(h:q.l.Nodup):q.p≠q.pm:=λe=>by simp[LB.l,e]at h
def LN.pr(h:q.l.Nodup):q.p≠q.rm:=λe=>by simp[LB.l,e]at h
def LN.pg(h:q.l.Nodup):q.p≠q.gm:=λe=>by simp[LB.l,e]at h
def LN.pa(h:q.l.Nodup):q.p≠q.am:=λe=>by simp[LB.l,e]at h
def LN.pz(h:q.l.Nodup):q.p≠1:=λe=>by simp[LB.l,e]at h
def LN.tm(h:q.l.Nodup):q.t≠q.pm:=λe=>by simp[LB.l,e]at h
def LN.tr(h:q.l.Nodup):q.t≠q.rm:=λe=>by simp[LB.l,e]at h
def LN.tg(h:q.l.Nodup):q.t≠q.gm:=λe=>by simp[LB.l,e]at h
def LN.ta(h:q.l.Nodup):q.t≠q.am:=λe=>by simp[LB.l,e]at h
def LN.dm(h:q.l.Nodup):q.tp≠q.pm:=λe=>by simp[LB.l,e]at h
def LN.dr(h:q.l.Nodup):q.tp≠q.rm:=λe=>by simp[LB.l,e]at h
def LN.dg(h:q.l.Nodup):q.tp≠q.gm:=λe=>by simp[LB.l,e]at h
def LN.da(h:q.l.Nodup):q.tp≠q.am:=λe=>by simp[LB.l,e]at h
def LN.dz(h:q.l.Nodup):q.tp≠1:=λe=>by simp[LB.l,e]at h
def LN.mr(h:q.l.Nodup):q.pm≠q.rm:=λe=>by simp[LB.l,e]at h
def LN.mg(h:q.l.Nodup):q.pm≠q.gm:=λe=>by simp[LB.l,e]at h
def LN.ma(h:q.l.Nodup):q.pm≠q.am:=λe=>by simp[LB.l,e]at h
def LN.mz(h:q.l.Nodup):q.pm≠1:=λe=>by simp[LB.l,e]at h
def LN.rg(h:q.l.Nodup):q.rm≠q.gm:=λe=>by simp[LB.l,e]at h
def LN.ra(h:q.l.Nodup):q.rm≠q.am:=λe=>by simp[LB.l,e]at h
def LN.rz(h:q.l.Nodup):q.rm≠1:=λe=>by simp[LB.l,e]at h
def LN.ga(h:q.l.Nodup):q.gm≠q.am:=λe=>by simp[LB.l,e]at h
def LN.gz(h:q.l.Nodup):q.gm≠1:=λe=>by simp[LB.l,e]at h
def LN.az(h:q.l.Nodup):q.am≠1:=λe=>by simp[LB.l,e]at h
def LN.tp(h:q.l.Nodup):q.t≠q.p:=(LN.pt h).symm
def LN.dp(h:q.l.Nodup):q.tp≠q.p:=(LN.pd h).symm
def LN.mp(h:q.l.Nodup):q.pm≠q.p:=(LN.pm h).symm
def LN.md(h:q.l.Nodup):q.pm≠q.tp:=(LN.dm h).symm
def LN.rp(h:q.l.Nodup):q.rm≠q.p:=(LN.pr h).symm
def LN.rd(h:q.l.Nodup):q.rm≠q.tp:=(LN.dr h).symm
def LN.rm(h:q.l.Nodup):q.rm≠q.pm:=(LN.mr h).symm
def LN.gp(h:q.l.Nodup):q.gm≠q.p:=(LN.pg h).symm
def LN.gd(h:q.l.Nodup):q.gm≠q.tp:=(LN.dg h).symm
def LN.gm(h:q.l.Nodup):q.gm≠q.pm:=(LN.mg h).symm
def LN.gr(h:q.l.Nodup):q.gm≠q.rm:=(LN.rg h).symm
def LN.ap(h:q.l.Nodup):q.am≠q.p:=(LN.pa h).symm
def LN.ad(h:q.l.Nodup):q.am≠q.tp:=(LN.da h).symm
def LN.am(h:q.l.Nodup):q.am≠q.pm:=(LN.ma h).symm
def LN.ar(h:q.l.Nodup):q.am≠q.rm:=(LN.ra h).symm
def LN.ag(h:q.l.Nodup):q.am≠q.gm:=(LN.ga h).symm
def LN.zp(h:q.l.Nodup):1≠q.p:=(LN.pz h).symm
def LN.zd(h:q.l.Nodup):1≠q.tp:=(LN.dz h).symm
def LN.zm(h:q.l.Nodup):1≠q.pm:=(LN.mz h).symm
def LN.zr(h:q.l.Nodup):1≠q.rm:=(LN.rz h).symm
def LN.zg(h:q.l.Nodup):1≠q.gm:=(LN.gz h).symm
def LN.za(h:q.l.Nodup):1≠q.am:=(LN.az h).symm
end
def kindsV:oE:=[.nilFunc,.func (.func 302) #[] #[],.func (.func 303) #[] #[],.func (.func 304) #[] #[],.func (.func 305) #[] #[],.func (.func 306) #[] #[],.func (.func 307) #[] #[],.func (.func 308) #[] #[]]
def KD(w:oG):Prop:=∃E fr,w.heap[1]? = some (.cells kindsV.toArray E fr)
def KD.lt(h:KD w):1<w.heap.size:=by obtain⟨E,a,h⟩:=h;exact(qM.1 h).1
def KD.keep(h:KD w)(b:S.heap[1]? = w.heap[1]?):KD S:=by obtain⟨E,a,h⟩:=h;exact⟨E,a,b.trans h⟩
def KD.below(h:KD w)(a:Below w.heap.size w S):KD S:=h.keep (a.block 1 h.lt)
def Nz(N:List ND):List Int:=(List.range 6).map λk=>((jb N ((k:Nat)+1):Nat):Int)
def plC(q:LB)(s:PL):oE:=s.I.map .bool++(s.L.map .bool++(vCs s.V++([pB q.t,.map (some q.pm),.map (some q.rm)]++((Nz s.N).map iv++[.map (some q.gm),.map (some q.am)]))))
def rqV(x:Int×Int):oF:=.agg #[ci x.1,.int .u64 x.2]
def rgV(A:List Int):oF:=.agg (A.map iv).toArray
def grV(g:GR):oF:=.agg (grC g).toArray
def rgL(N:List ND):List (Int×List Int):=N.map λx=>(x.id,x.A)
def grL(G:List GR):List ((Int×Int)×GR):=G.map λg=>((g.o,g.q),g)
def rqK:HE Q 190 rqV:=by
 refine YE _ underlying190 (λx=>⟨_,rfl⟩) (λx y h=>?_) (λw g x=>by kernel_rfl) (λw x y=>⟨decide (x=y),?_,?_⟩) (λx=>?_)
 .simp only[rqV,Value.agg.injEq]at h;simp at h;exact Prod.ext h.1 h.2
 .have c:Tryz.prog.underlying 190=some (.struct (Tryz.prog.fieldsOf 190)):=by kernel_rfl
  have d:Tryz.prog.stoodInHeld 190=false:=by kernel_rfl
  have i:=underlying3;have j:=underlying36;have e:=Tryz.isAgg3;have f:=Tryz.isAgg36;have k:=Tryz.sizeOf3;have l:=Tryz.sizeOf36;simp only[rqV];show (Op.equalIn (9999+1) _ _ _).run _ w=_;rw[run_equalIn_agg w 9999 190 _ _ c d];simp only[Program.fieldsOf,underlying190]
  go_simp
  by_cases a:x.1=y.1<;>by_cases b:x.2=y.2<;>simp[a,b,Prod.ext_iff]
 .simp[rqV];constructor
  .rintro rfl;exact⟨rfl,rfl⟩
  .rintro⟨a,b⟩;exact Prod.ext a b
 .unfold Instr.sameBits;simp[rqV];constructor<;>(unfold Instr.sameBits;simp)
structure PM(w:oG) (q:LB) (s:PL):Prop where
 i6:s.I.length=6
 l6:s.L.length=6
 v6:s.V.length=6
 b:blk w q.p 156 (plC q s)
 tm:TreeM w q.t q.tp (tr s.N)
 pm:∃m,MB u6 u6 w q.pm m/\m.Perm (tr s.N)
 rm:∃m,MB u6 rgV w q.rm m/\m.Perm (rgL s.N)
 gm:∃m,MB rqV grV w q.gm m/\m.Perm (grL s.G)
 am:∃m,MB rqV Value.bool w q.am m/\∀o r,1<=o->o<=6->dA m (o,r)=if pT s.R (o-1).toNat r=true then some true else none
 nd:q.l.Nodup
 kd:KD w
section
variable {q:LB}{s:PL}
def PM.keep(h:PM w q s)(a:∀k∈q.l,k<w.heap.size->S.heap[k]? = w.heap[k]?):PM S q s:=by
 have c:∀{k:Nat} {E:TypeId} {cs:oE},k∈q.l->blk w k E cs->blk S k E cs:=λ{k E cs} u c=>by
  have:=a k u c.lt
  unfold blk at *; rw[this];exact c
 obtain⟨v,x,F,b,d,⟨z,g,o⟩,⟨A,i,p⟩,⟨B,j,r⟩,⟨C,m,t⟩,D,e⟩:=h;obtain⟨y,f,n⟩:=d.mp
 exact⟨v,x,F,c (by simp[LB.l]) b,⟨c (by simp[LB.l]) d.bt,⟨y,f.kept (a _ (by simp[LB.l]) f.lt),n⟩,d.uq⟩,⟨z,g.kept (a _ (by simp[LB.l]) g.lt),o⟩,⟨A,i.kept (a _ (by simp[LB.l]) i.lt),p⟩,⟨B,j.kept (a _ (by simp[LB.l]) j.lt),r⟩,⟨C,m.kept (a _ (by simp[LB.l]) m.lt),t⟩,D,e.keep (a _ (by simp[LB.l]) e.lt)⟩
def PM.below(h:PM w q s)(a:Below w.heap.size w S):PM S q s:=h.keep λk _ b=>a.block k b
def PM.ch{F:List Nat}(h:PM w q s)(a:Ch F w S)(hF:∀k∈q.l,k∉F):PM S q s:=h.keep λk b c=>a.block k c (hF k b)
def PM.drew(h:PM w q s):PM w.drew q s:=h.below (jU _ w).drew
def PM.lt(h:PM w q s):∀k∈q.l,k<w.heap.size:=by
 obtain⟨p,r,z,b,c,⟨t,e,j⟩,⟨u,f,m⟩,⟨v,g,n⟩,⟨x,i,o⟩,y,d⟩:=h;intro k a;simp only[LB.l,oO,oR,or_false]at a;rcases a with rfl|rfl|rfl|rfl|rfl|rfl|rfl|rfl
 .exact b.lt
 .exact c.lt.1
 .exact c.lt.2
 .exact e.lt
 .exact f.lt
 .exact g.lt
 .exact i.lt
 .exact d.lt
def eB{A B:oE}{n:Nat}(a:A.length=n)(k:Nat):(A++B)[n+k]? = B[k]? := by
 rw[qP oo,a,Nat.add_sub_cancel_left]
def Ui{A B:oE}{n k:Nat}(a:A.length=n)(b:k<n):(A++B)[k]? = A[k]? := qO oo
def xv{A B:oE}{n:Nat}(a:A.length=n)(k:Nat)(v:oF):(A++B).set (n+k) v=A++B.set k v:=by rw[List.set_append_right _ _ oo,a,Nat.add_sub_cancel_left]
def Qp{A B:oE}{n k:Nat}(a:A.length=n)(b:k<n)(v:oF):(A++B).set k v=A.set k v++B:=List.set_append_left _ _ oo
def ZM{f:α->oF}{L:List α}{k:Nat}{d:α}(a:k<L.length):(L.map f)[k]? = some (f (L.getD k d)):=by rw[qC,gE a];simp[List.getD,a]
def xc{N:List ND}:(Nz N).length=6:=by simp[Nz]
def WQ{N:List ND}{k:Nat}(a:k<6):(Nz N).getD k 0=((jb N ((k:Nat)+1):Nat):Int):=by unfold Nz;rw[oN,qC,List.getElem?_range a];rfl
def PM.cI(h:PM w q s){k:Nat}(a:k<6):(plC q s)[k]? = some (.bool (s.I.getD k false)):=by unfold plC;rw[Ui (n:=6) (by simp[h.i6]) a,ZM (by rw[h.i6];exact a)]
def PM.cL(h:PM w q s){k:Nat}(a:k<6):(plC q s)[6+k]? = some (.bool (s.L.getD k false)):=by unfold plC;rw[eB (by simp[h.i6]),Ui (n:=6) (by simp[h.l6]) a,ZM (by rw[h.l6];exact a)]
def PM.cV(h:PM w q s){k:Nat}(a:k<6):(plC q s)[12+k]? = some (u6 (s.V.getD k 0)):=by unfold plC;rw[show 12+k=6+(6+k)by omega,eB (by simp[h.i6]),eB (by simp[h.l6]),Ui (n:=6) (by rw[bh,h.v6]) a,Cs h.v6 a]
def PM.cX(h:PM w q s)(k:Nat):(plC q s)[18+k]? = ([pB q.t,.map (some q.pm),.map (some q.rm)]++((Nz s.N).map iv++[.map (some q.gm),.map (some q.am)]))[k]? := by
 unfold plC;rw[show 18+k=6+(6+(6+k))by omega,eB (by simp[h.i6]),eB (by simp[h.l6]),eB (by rw[bh,h.v6])]
def PM.c18(h:PM w q s):(plC q s)[18]? = some (pB q.t):=(h.cX 0).trans rfl
def PM.c19(h:PM w q s):(plC q s)[19]? = some (.map (some q.pm)):=(h.cX 1).trans rfl
def PM.c20(h:PM w q s):(plC q s)[20]? = some (.map (some q.rm)):=(h.cX 2).trans rfl
def PM.cO(h:PM w q s){k:Nat}(a:k<6):(plC q s)[21+k]? = some (iv ((jb s.N ((k:Nat)+1):Nat):Int)):=by rw[show 21+k=18+(3+k)by omega,h.cX,eB (n:=3) rfl,Ui (n:=6) (by simp[xc]) a,ZM (d:=0) (by rw[xc];exact a),WQ a]
def PM.c27(h:PM w q s):(plC q s)[27]? = some (.map (some q.gm)):=by rw[show 27=18+(3+(6+0))by omega,h.cX,eB (n:=3) rfl,eB (n:=6) (by simp[xc])];rfl
def PM.c28(h:PM w q s):(plC q s)[28]? = some (.map (some q.am)):=by rw[show 28=18+(3+(6+1))by omega,h.cX,eB (n:=3) rfl,eB (n:=6) (by simp[xc])];rfl
def PM.len(h:PM w q s):(plC q s).length=29:=by unfold plC;simp[h.i6,h.l6,bh,h.v6,xc]
def HC{f:α->oF}{L:List α}{k:Nat}{x:α}:(L.map f).set k (f x)=(L.set k x).map f:=by rw[List.map_set]
def PM.sI(h:PM w q s){k:Nat}(a:k<6)(b:Bool):(plC q s).set k (.bool b)=plC q {s with I:=s.I.set k b}:=by unfold plC;rw[Qp (n:=6) (by simp[h.i6]) a,HC]
def PM.sL(h:PM w q s){k:Nat}(a:k<6)(b:Bool):(plC q s).set (6+k) (.bool b)=plC q {s with L:=s.L.set k b}:=by unfold plC;rw[xv (by simp[h.i6]),Qp (n:=6) (by simp[h.l6]) a,HC]
def PM.sV(h:PM w q s){k:Nat}(a:k<6)(x:Int):(plC q s).set (12+k) (u6 x)=plC q {s with V:=s.V.set k x}:=by unfold plC;rw[show 12+k=6+(6+k)by omega,xv (by simp[h.i6]),xv (by simp[h.l6]),Qp (n:=6) (by rw[bh,h.v6]) a];unfold vCs;rw[HC]
def PM.sO(h:PM w q s){k:Nat}(g:k<6){N:List ND}(hN:∀j,j<6->j≠k->jb N ((j:Nat)+1)=jb s.N ((j:Nat)+1)):(plC q s).set (21+k) (iv ((jb N ((k:Nat)+1):Nat):Int))=plC q {s with N:=N}:=by
 unfold plC;rw[show 21+k=6+(6+(6+(3+k)))by omega,xv (by simp[h.i6]),xv (by simp[h.l6]),xv (by rw[bh,h.v6]),xv (n:=3) rfl,Qp (n:=6) (by simp[xc]) g,HC];have e:(Nz s.N).set k ((jb N ((k:Nat)+1):Nat):Int)=Nz N:=by
  refine List.ext_getElem (by simp[xc]) λj i f=>?_;have b:j<6:=by simpa[xc]using f
  rw[List.getElem_set];have a:=WQ (N:=N) b;have c:=WQ (N:=s.N) b;rw[oN,gE (by rw[xc];exact b)]at a c;simp only[Option.getD_some]at a c;by_cases e:k=j
  .subst e;rw[oJ rfl,a]
  .rw[oI e,c,a,hN j b (λd => e d.symm)]
 rw[e]
end
def Id:fU Q 156 0 0 b o K w:=aJ kr
def Sy:fU Q 156 1 6 b o K w:=aJ kr
def Ed:fU Q 156 2 12 b o K w:=aJ kr
def BO:fU Q 156 3 18 b o K w:=aJ kr
def Sz:fU Q 156 4 19 b o K w:=aJ kr
def wP:fU Q 156 5 20 b o K w:=aJ kr
def SA:fU Q 156 6 21 b o K w:=aJ kr
def MM:fU Q 156 7 27 b o K w:=aJ kr
def MN:fU Q 156 8 28 b o K w:=aJ kr
section
variable {N:List ND}{G:List GR}{id:Int}
def QY:dA (rgL N) id=match cK N id with|true=>some (aN N id)|false=>none:=by
 unfold rgL
 induction N with
 | nil=>rfl
 | cons x N ih =>
  by_cases h:x.id=id
  .have a:cK (x::N) id=true:=nD.2 ⟨x,by simp,h⟩;have b:aN (x::N) id=x.A:=by unfold aN;rw[List.find?_cons_of_pos (by simpa using h)]
   rw[a,b];simp[dA,h]
  .have a:cK (x::N) id=cK N id:=by unfold cK;simp[h]
   have b:aN (x::N) id=aN N id:=by unfold aN;rw[List.find?_cons_of_neg (by simpa using h)]
   rw[a,b, <-ih];simp[dA,h]
def VO(h:cK N id=false):aN N id=z54:=by
 unfold aN;cases a:N.find? λx=>x.id==id with
 | none=>rfl
 | some x =>
  have:=nD.2 ⟨x,List.mem_of_find?_eq_some a,by simpa using List.find?_some a⟩
  rw[h]at this;cases this
def Hw{o q:Int}:dA (grL G) (o,q)=lr G o q:=by
 unfold grL lr
 induction G with
 | nil=>rfl
 | cons g G ih =>
  by_cases h:(g.o,g.q)=(o,q)
  .have a:g.o=o/\g.q=q:=by simpa using h
   simp[dA,h,a]
  .have a : ¬(g.o=o/\g.q=q):=by simpa using h
   have c:(g.o==o&&g.q==q)=false:=by
    rw[Bool.eq_false_iff];intro b;rw[oM,beq_iff_eq,beq_iff_eq]at b;exact a b
   rw[jK,List.find?_cons,c];simp only[dA,h,if_false];exact ih
def Jc(a:N.Pairwise (·.id < ·.id)):((rgL N).map (·.1)).Nodup:=by
 unfold rgL;rw[jH];exact List.pairwise_map.2 (a.imp λh e=>by
  have e:_=_:=e;simp only[Function.comp_apply]at e;omega)
def NQ(a:N.Pairwise (·.id < ·.id)):((tr N).map (·.1)).Nodup:=by
 unfold tr;rw[jH];exact List.pairwise_map.2 (a.imp λh e=>by
  have e:_=_:=e;simp only[Function.comp_apply]at e;omega)
def N9(a:G.Pairwise ltG):((grL G).map (·.1)).Nodup:=by
 unfold grL;rw[jH];exact List.pairwise_map.2 (a.imp λh e=>by
  have e:_=_:=e;simp only[Function.comp_apply,Prod.mk.injEq]at e;unfold ltG at h;omega)
end
def rgz:∀w,(zeroValue 81).run Q w=.ok (rgV z54) w:=λw=>by kernel_rfl
def grz:∀w,(zeroValue 96).run Q w=.ok (grV ⟨0,0,0,0,0⟩) w:=λw=>by kernel_rfl
def bz:∀w,(zeroValue 4).run Q w=.ok (.bool false) w:=λw=>by kernel_rfl
section
variable {q:LB}{s:PL}
def PM.rg_l(h:PM w q s)(hi:PI s){id:Int}(a:K (rgV (aN s.N id)) w):lkp Q 151 (.map (some q.rm)) (u6 id) false K w:=by
 obtain⟨m,b,c⟩:=h.rm;refine Tc (z0:=z54) u6K underlying151 rgz b ?_;rw[pk c (Jc hi.srt),QY];cases d:cK s.N id with
 | true=>exact a
 | false=>rw[VO d]at a;exact a
def PM.rg_l2(h:PM w q s)(hi:PI s){id:Int}(a:K (.tuple #[rgV (aN s.N id),.bool (cK s.N id)]) w):lkp Q 151 (.map (some q.rm)) (u6 id) true K w:=by
 obtain⟨m,c,d⟩:=h.rm;refine ZJ (z0:=z54) u6K underlying151 rgz c ?_;rw[pk d (Jc hi.srt),QY];cases b:cK s.N id with
 | true=>rw[b]at a;exact a
 | false=>rw[VO b,b]at a;exact a
def PM.par_l(h:PM w q s)(hi:PI s){id:Int}(b:dB (tr s.N) id=true)(c:K (u6 (fm (tr s.N) id)) w):lkp Q 150 (.map (some q.pm)) (u6 id) false K w:=by obtain⟨m,d,e⟩:=h.pm;refine Tc (z0:=0) u6K underlying150 u6z d ?_;have a:=NQ hi.srt;rw[pk e a,LX a,b];exact c
def PM.ask_l(h:PM w q s){o:Int}(c:1<=o)(d:o<=6)(a:K (.bool (pT s.R (o-1).toNat r)) w):lkp Q 153 (.map (some q.am)) (rqV (o,r)) false K w:=by
 obtain⟨m,e,f⟩:=h.am;refine Tc (z0:=false) rqK underlying153 bz e ?_;rw[f o r c d];cases b:pT s.R (o-1).toNat r with
 | true=>rw[b]at a;exact a
 | false=>rw[b]at a;exact a
def PM.gr_l(h:PM w q s)(hi:PI s){o:Int}(a:K (.tuple #[grV ((lr s.G o r).getD ⟨0,0,0,0,0⟩),.bool (lr s.G o r).isSome]) w):lkp Q 152 (.map (some q.gm)) (rqV (o,r)) true K w:=by obtain⟨m,b,c⟩:=h.gm;refine ZJ (z0:=⟨0,0,0,0,0⟩) rqK underlying152 grz b ?_;rw[pk c (N9 hi.gs),Hw];exact a
end
def PI.len30{s:PL}(hi:PI s):s.N.length<=30:=by
 rw[Wy λx f=>by
  obtain⟨o,q,a,b,c,d,e,_⟩:=hi.ids x f;exact⟨o,q,a,b,c,d,e⟩]
 have:=hi.own 1
 have:=hi.own 2
 have:=hi.own 3
 have:=hi.own 4
 have:=hi.own 5
 have:=hi.own 6
 omega
def IdR.imp{B:Nat}{ids:List Int}(h:IdR w B a c ids)(j:∀g cs,B<=g->blk w g 36 cs->blk S g 36 cs):IdR S B a c ids:=by
 rcases h with h|⟨g,b,e,d,f,i⟩
 .exact .inl h
 .exact .inr ⟨g,b,e,d,f,j _ _ d i⟩
def Xe{N:List ND}:(tr N).length=N.length:=by simp[tr]
def PI.plen{s:PL}(hi:PI s)(id:Int):(cB s.N id).length<=4:=by
 cases a:dB (tr s.N) id with
 | true =>
  obtain⟨x,b,e⟩:=iA.1 a;obtain⟨y,c,rfl⟩:=qU.1 b;have e:y.id=id:=e;rw[<-e];exact hi.dep y c
 | false=>simp[cB,eA,cU,a]
structure RoI(w0 v:oG) (q:LB) (s:PL) (y t tp b1 D:Nat) (a:Option Addr) (c B:Nat) (P l:List Int):Prop where
 pm:PM v q s
 lv:blk v w0.heap.size 121 [pB q.p]
 tv:blk v y 148 [pB t]
 tb:∃S,TreeM v t tp S/\RI (tr s.N) S l l
 sl:blk v b1 187 [.slice a P.length c]
 ids:IdR v B a c P
 bel:Below w0.heap.size w0 v
 dm:v.heap[D]? = some (.deferred (some []))
 sz:D+2<=v.heap.size
section
variable {v v':oG}{q:LB}{s:PL}{y t tp b1 B:Nat} {P l l':List Int}
def RoI.ch(h:RoI w0 v q s y t tp b1 D a c B P l){F:List Nat}(hc:Ch F v v')(hF:∀k∈F,w0.heap.size<k/\k≠y/\k≠b1/\k≠D/\(∀cs,¬blk v k 36 cs))(hq:∀k∈q.l,k<w0.heap.size)(ht:∃S,TreeM v' t tp S/\RI (tr s.N) S l' l'):RoI w0 v' q s y t tp b1 D a c B P l' where
 pm:=h.pm.ch hc λk hk hf=>by have:=hq k hk;have:=(hF k hf).1;omega
 lv:=h.lv.ch hc λhf=>by have:=(hF _ hf).1;omega
 tv:=h.tv.ch hc λhf=>(hF _ hf).2.1 rfl
 tb:=ht
 sl:=h.sl.ch hc λhf=>(hF _ hf).2.2.1 rfl
 ids:=h.ids.imp λg cs _ hb=>hb.ch hc λhf=>(hF _ hf).2.2.2.2 _ hb
 bel:=⟨hc.os.trans h.bel.os,hc.tape.trans h.bel.tape,hc.output.trans h.bel.output,qR h.bel.size hc.size,λk a=>by
  rw[hc.block k (qQ a h.bel.size) (λa=>by have:=(hF k a).1;omega),h.bel.block k a]⟩
 dm:=(hc.block D (by have:=h.sz;omega) (λa=>(hF _ a).2.2.2.1 rfl)).trans h.dm
 sz:=qR h.sz hc.size
def Hz{k:Nat}{o:Obj}(b:w.heap[k]? = some o)(a:∀cs z,o≠.cells cs E z)(cs:oE):¬blk w k E cs:=by intro h;unfold blk at h;rw[b]at h;exact a _ _ (Option.some.inj h)
def TreeM.mo{t:Nat}(h:TreeM w t b T):∃es c,w.heap[b]? = some (.map es c):=by obtain⟨m,⟨es,c,a⟩,_⟩:=h.mp;exact⟨es,c,a.heap⟩
end
section
variable {q:LB}{s:PL}
def IdR.at2{B:Nat}{ids:List Int}{K2:oF->KV}(h:IdR w B a c ids)(hi:i<ids.length)(e:∀p,K2 p (u6 ids[i]) w):aW Q 187 (.slice a ids.length c) (ci (i:Nat)) (λp=>ld Q 36 p (K2 p)) w:=by
 rcases h with⟨rfl,_⟩|⟨g,b,rfl,j,f,d⟩
 .simp at hi
 refine fQ underlying187 (s:=1) kf oo oo ?_;rw[oQ,Nat.mul_one,oK];refine lK (v:=u6 ids[i]) d ?_ (e _);rw[qO (by simpa using hi),qC,gE hi];rfl
def zhE{id par:Int}(h:PM w q s)(hi:PI s)(f:nX w (K (ci (nu (tr s.N) id par).2))):call Q 310 #[pB q.p,u6 id,u6 par] K w:=by
 have V:=h.lt;obtain⟨rk,X⟩:=hi.tk;have a5:=hi.len30;have aY:(eA (tr s.N) par).length<=4:=hi.plen par;obtain⟨P,hP⟩:∃P,P=eA (tr s.N) par:=⟨_,rfl⟩
 have U:∀i n,P[i]? = some n->n≠0/\dB (tr s.N) n=true/\((i+1=P.length/\fm (tr s.N) n=0)\/P[i+1]? = some (fm (tr s.N) n)):=λi n E=>by
  rw[hP]at E |-;exact XF X _ _ (by have:=Fv X par;omega) i n E
 have aG:P.Nodup:=by rw[hP];exact(NF X _ _).imp λ{a b} a6 e=>by subst e;omega
 rw[<-hP]at aY;refine aj (goK func310) (LQ ?_);refine bu λw1 h1 b1 s1=>zeh λw2 t tp aH b2 l2 bf=>?_;have h1:=cZ h1
 refine bO (z:=.pointer none) kr λw3 h3 b3 s3=>?_;have h3:=cZ h3
 refine cq kf h3 (by show 0<1;decide) rfl λw4 h4 o4=>?_;have h4:blk w4 w2.heap.size 148 [pB t]:=h4;obtain⟨y,hy⟩:∃y,y=w2.heap.size:=⟨_,rfl⟩
 rw[<-hy]at h4 o4 |-;have bc:=aH.lt;have bb:=b2.size;have B4:Below w.heap.size w w4:=fR (b1.trans ((b2.mono oo).trans (b3.mono oo))) o4 oo;have l4:blk w4 w.heap.size 121 [pB q.p]:=o4.blk (ae b3 (ae b2 h1 h1.lt) oo) oo;have t4:TreeM w4 t tp []:=(aH.below b3).oth o4 oo oo;have p4:=h.below B4
 refine lK (v:=pB q.p) l4 rfl (aq (BO (lK (v:=pB q.t) p4.b (by rw[oK];exact p4.c18) ?_)));refine Rd X p4.tm (by rw[Xe];omega) λw5 a c ho b5=>?_;rw[<-hP]at ho |-;have aQ:IdR w5 w4.heap.size a c P:=IdR.own ho rfl;refine zhx λw6 h6 b6 s6=>?_;have s4:w4.heap.size=w2.heap.size+1:=by rw[o4.size,s3]
 have ao:=b5.size;refine zdW (g:=.tmp 21) (ps:=#[22,23]) (a:=cd mP []) (bd:=cd mQ []) (gf:=336) (cap:=[pB w5.heap.size]) kr rfl ?_;intro fn W bW sW hD hL;have J:=b5.trans ((b6.mono ao).trans (bW.mono oo));have ar:RoI w W q s y t tp w5.heap.size w6.heap.size a c w4.heap.size P [] :=
  ⟨p4.below J,ae J l4 l4.lt,ae J h4 h4.lt,⟨[],t4.below J,RI.nil⟩,ae bW h6 h6.lt,(aQ.below b6).below bW,B4.trans (J.mono B4.size),hD,by omega⟩
 generalize be:w6.heap.size=D at *;have aO:∀{j:Nat},P.drop (P.length-0)=[]:=by simp
 refine zhy (ids:=P) (c:=c) (a:=a) (B:=w4.heap.size) Um oo
  (λj v=>RoI w v q s y t tp w5.heap.size D a c w4.heap.size P (P.drop (P.length-j))/\v.heap[D+1]? = some (.loop (pD fn _ #[22,23] (cd mP []) (cd mQ []) D .ready none))) (λ_=>False)
  ⟨by simpa using ar,hL⟩ (λj v a=>⟨a.1.sl,a.1.ids⟩) ?_ ?_ (λ_ A=>A.elim)
 .rintro j k x v K' a9 hx ⟨M,hl⟩ kT kF;obtain⟨ap,a1,a4⟩:=U k x hx;have aM:P.drop (P.length-j)=P.drop (k+1):=by congr 1;omega
  have R:k<P.length:=by omega
  have aN:P.drop (P.length-(j+1))=x::P.drop (k+1):=by
   rw[show P.length-(j+1)=k by omega,List.drop_eq_getElem_cons R];rw[gE R]at hx;rw[Option.some.inj hx]
  rw[aM]at M;refine⟨by kernel_rfl,by kernel_rfl,hl,rfl,JI ⟨hl,JJ ?_⟩⟩;generalize ad:v.putObj (D+1) _=v1;have G:Oth (D+1) v v1:=ad ▸ oth_put;have l1:v1.heap[D+1]? = some (.loop (pD fn _ #[22,23] (cd mP []) (cd mQ []) D .busy none)):=ad ▸ World.putObj_heap_same (by have:=M.sz;omega);obtain⟨S,hS,am⟩:=M.tb;have aK:=hS.lt;have d0:w.heap.size<D:=by have:=M.sz;have:=ao;omega
  have R1:RoI w v1.drew q s y t tp w5.heap.size D a c w4.heap.size P (P.drop (k+1)):=M.ch (F:=[D+1]) ⟨G.os,G.tape,G.output,by show v.heap.size<=v1.heap.size;rw[G.size];exact Nat.le_refl _,λk _ f=>G.other k (by simpa using f)⟩
   (λk f=>by
    have f:k=D+1:=by simpa using f
    subst f;exact⟨by omega,by omega,by omega,by omega,Hz hl oB⟩) V ⟨S,(hS.oth G oo oo).drew,am⟩
  have bg:(x::P.drop (k+1)).length=j+1:=by simp;omega
  refine aw (λu=>PM u q s/\blk u w.heap.size 121 [pB q.p]/\blk u y 148 [pB t]) ⟨R1.pm,R1.lv,R1.tv⟩ <|ac (λu a _=>lK (v:=pB t) a.2.2 rfl) <|ac (λu a _=>lK (v:=pB q.p) a.2.1 rfl) ?_;refine hZ (hW Sz ?_);refine ac (λu a _=>lK (v:=.map (some q.pm)) a.1.b (by rw[oK];exact a.1.c19)) <|ac (λu a _=>a.1.par_l hi a1) ?_;obtain⟨S1,H,l⟩:=R1.tb;obtain⟨bh,aT⟩:=l.tk
  have aV:=l.len;have a8:(P.drop (k+1)).length=j:=by simp;omega
  have aX:x∉P.drop (k+1):=by
   have E:=aG;rw[<-List.take_append_drop k P,List.drop_eq_getElem_cons R]at E;rw[gE R]at hx;rw[Option.some.inj hx]at E;exact(jG.1 (List.nodup_append.1 E).2.1).1
  have aF:fm (tr s.N) x=0\/fm (tr s.N) x∈P.drop (k+1):=by
   rcases a4 with⟨_,A⟩|A
   .exact .inl A
   .right
    have:(P.drop (k+1))[0]? = some (fm (tr s.N) x):=by rw[jM,qW];exact A
    exact mO this
  obtain⟨e0,_,ag⟩:=l.add ap aX aF oo (.inr oo);refine VH aT H oo λw7 aa c7=>?_;obtain⟨es,cc,ab⟩:=H.mo;have R7:=R1.ch (F:=[tp]) c7 (λk f=>by
    have f:k=tp:=by simpa using f
    subst f;refine⟨by omega,by omega,?_,by omega,Hz ab oB⟩;intro e
    have:=R1.sl
    rw[<-e]at this;unfold blk at this;rw[ab]at this;cases this) V ⟨_,aa,ag rfl⟩
  have l7:w7.heap[D+1]? = some (.loop (pD fn _ #[22,23] (cd mP []) (cd mQ []) D .busy none)):=(c7.block (D+1) (by have:=R1.sz;omega) (by simp;omega)).trans l1;refine⟨l7,kT _ ⟨?_,World.putObj_heap_same (by have:=R7.sz;omega)⟩⟩;rw[aN];generalize a0:w7.putObj (D+1) _=v8;have o8:Oth (D+1) w7 v8:=a0 ▸ oth_put
  exact R7.ch (F:=[D+1]) ⟨o8.os,o8.tape,o8.output,by rw[o8.size];exact Nat.le_refl _,λk _ f=>o8.other k (by simpa using f)⟩
   (λk f=>by
    have f:k=D+1:=by simpa using f
    subst f;exact⟨by omega,by omega,by omega,by omega,Hz l7 oB⟩) V ⟨_,aa.oth o8 oo oo,ag rfl⟩
 .rintro v ⟨M,hl⟩;rw[jO,oX]at M;refine⟨none,hl,JH ?_⟩;generalize ad:v.putObj (D+1) _=v1;have G:Oth (D+1) v v1:=ad ▸ oth_put;obtain⟨S,hS,am⟩:=M.tb;have aK:=hS.lt;have d0:w.heap.size<D:=by have:=M.sz;have:=ao;omega
  have R1:RoI w v1 q s y t tp w5.heap.size D a c w4.heap.size P P:=M.ch (F:=[D+1]) ⟨G.os,G.tape,G.output,by rw[G.size];exact Nat.le_refl _,λk _ f=>G.other k (by simpa using f)⟩
   (λk f=>by
    have f:k=D+1:=by simpa using f
    subst f;exact⟨by omega,by omega,by omega,by omega,Hz hl oB⟩) V ⟨S,hS.oth G oo oo,am⟩
  refine lK (v:=pB q.p) R1.lv rfl (aq (BO (lK (v:=pB q.t) R1.pm.b (by rw[oK];exact R1.pm.c18) ?_)));refine zbw R1.pm.tm (by rw[Xe];omega) λw7 a7 c7 ids o aZ aC b7=>?_;have aS:ids.length=s.N.length:=by rw[o.length_eq,oY,Xe]
  have ah:ids.Nodup:=aZ.imp λA=>by omega
  refine bv underlying187 ?_;obtain⟨S1,H,l⟩:=R1.tb;have R7:RoI w w7 q s y t tp w5.heap.size D a c w4.heap.size P P:=R1.ch (F:=[]) (Ch.of_below b7) oB V ⟨S1,H.below b7,l⟩;have aa:=H.below b7;clear R1 H;have bj:D+2<=v1.heap.size:=by rw[G.size];exact M.sz
  let Z:Nat->List Int:=λk=>((ids.take k).filter λn=>!P.contains n).reverse++P
  refine FK (Inv:=λi wr=>∃(k:Nat) (S:List (Int×Int)),i=iv (k:Nat)/\k<=ids.length/\TreeM wr t tp S/\RI (tr s.N) S (Z k) P/\blk wr y 148 [pB t]/\IdR wr w4.heap.size a c P/\IdR wr v1.heap.size a7 c7 ids/\Below w.heap.size w wr/\wr.heap[D]? = some (.deferred (some []))/\D+2<=wr.heap.size)
   (μ:=mU ids.length) ⟨0,S1,rfl,qG _,aa,l,R7.tv,R7.ids,aC,R7.bel,R7.dm,R7.sz⟩ ?_
  rintro _ dd w8 m ⟨k,S8,rfl,R,I,d,af,O,C,r,al,aI⟩ hm;have aW:=d.len;obtain⟨bi,aD⟩:=d.tk;have ai:∀n∈Z k,n∈ids:=by
   intro n E;rcases oU.1 E with E|E
   .exact List.mem_of_mem_take ((qV.1 (List.mem_reverse.1 E)).1)
   .rw[o.mem_iff,qU];obtain⟨i,an,e⟩:=List.getElem_of_mem E;obtain⟨_,A,_⟩:=U i n (by rw[gE an,e]);obtain⟨z,hz,e⟩:=iA.1 A;exact⟨z,hz,e⟩
  have ba:(Z k).length<=s.N.length:=by rw[<-aS];exact wA d.nd ai
  refine aL ?_;by_cases T:k<ids.length
  .refine ay oo (FJ (C.at2 T λpt=>?_));have hx:ids[k]? = some ids[k]:=gE T;generalize a2:ids[k]=x at hx;have ak:ids.take (k+1)=ids.take k++[x]:=by rw[List.take_add_one,hx];rfl
   refine zaI O oo (xK ?_);by_cases Y:x∈P
   .refine ax (by simpa using Y) (xq (aR oo oo ?_));have e:Z (k+1)=Z k:=by simp only[Z];rw[ak];simp[Y]
    exact⟨⟨k+1,S8,ivS,T,I,by rw[e];exact d,af,O,C,r,al,aI⟩,mD hm⟩
   .refine ay Y (lK (v:=pB t) af rfl ?_);have e:Z (k+1)=x::Z k:=by simp only[Z];rw[ak];simp[Y]
    have a3:x∉Z k:=by
     intro A;rcases oU.1 A with A|A
     .have A:=(qV.1 (List.mem_reverse.1 A)).1;obtain⟨i,an,e2⟩:=List.getElem_of_mem A;rw[List.getElem_take]at e2;have aP:i<k:=by simp at an;omega
      have:=(List.pairwise_iff_getElem.1 ah) i k oo T aP
      rw[a2]at this;exact this e2
     .exact Y A
    have ap:x≠0:=by
     have:x∈ids:=mO hx
     rw[o.mem_iff,qU]at this;obtain⟨z,hz,e2⟩:=this;rw[<-e2];exact X.nz z hz
    obtain⟨e0,au,_⟩:=d.add ap a3 (.inl rfl) oo (.inl rfl);refine VH aD I oo λw9 az c9=>xq (aR oo oo ?_);obtain⟨es,cc,ab⟩:=I.mo;have aA:∀g cs,blk w8 g 36 cs->blk w9 g 36 cs:=λg cs hb=>hb.ch c9 (λa=>by
     have a:g=tp:=by simpa using a
     subst a;exact Hz ab oB _ hb)
    have av:=I.lt;refine⟨⟨k+1,_,ivS,T,az,by rw[e];exact au,af.ch c9 (by simp;omega),O.imp λg cs _=>aA g cs,C.imp λg cs _=>aA g cs,?_,(c9.block D oo (by simp;omega)).trans al,qR aI c9.size⟩,mD hm⟩;exact r.trans (c9.below (by simp;omega) r.size)
  .refine ax oo (FL (lK (v:=pB t) af rfl ?_));have e:ids.take k=ids:=by rw[tL oo]
   have aU:(Z k).Perm ((tr s.N).map (·.1)):=by
    refine List.Perm.trans ?_ o;refine(List.perm_ext_iff_of_nodup d.nd ah).2 λn=>⟨ai n,λE=>?_⟩
    show n∈((ids.take k).filter λn=>!P.contains n).reverse++P;rw[e];by_cases aE:n∈P
    .exact List.mem_append_right _ aE
    .exact List.mem_append_left _ (List.mem_reverse.2 (qV.2 ⟨E,by simpa using aE⟩))
   rw[hP]at d;have aB:=d.err (id:=id) aU;refine VH aD I oo λw9 az c9=>?_;have av:=I.lt;have aJ:w9.heap[D]? = some (.deferred (some [])):=(c9.block D oo (by simp;omega)).trans al;refine⟨aJ,?_⟩;rw[aB];refine f _ (fR (p:=D) (r.trans (c9.below (by simp;omega) r.size)) oth_put oo)
end
def vK(e:EV)(s:PL):PL:={eff e s with V:=s.V}
section
variable {ν:Type}[DecidableEq κ]
def XH{m L:List (κ×ν)}(f:(m.map (·.1)).Nodup)(hL:(L.map (·.1)).Nodup)(h:∀y,dA m y=dA L y):m.Perm L:=by
 have g:∀{l:List (κ×ν)},(l.map (·.1)).Nodup->l.Nodup:=λ{l} h=>List.Pairwise.of_map (·.1) (λa b c e=>c (by rw[e])) h;refine(List.perm_ext_iff_of_nodup (g f) (g hL)).2 λ⟨k,v⟩=>⟨λd=>?_,λd=>?_⟩
 .exact wY (by rw[<-h];exact mY f d)
 .exact wY (by rw[h];exact mY hL d)
end
def MB.nodup{kv:κ->oF}{vv:α->oF}{m:List (κ×α)}(h:MB kv vv w b m):(m.map (·.1)).Nodup:=by obtain⟨_,_,h⟩:=h;exact h.nodup
def Ka{x:ND}:∀{N:List ND},(dP x N).Perm (x::N)
 | []=>.refl _
 | y::N=>by
  unfold dP;split
  .exact .refl _
  .exact((Ka (x:=x) (N:=N)).cons y).trans (List.Perm.swap x y N)
def insG_perm{x:GR}:∀{G:List GR},(ky x G).Perm (x::G)
 | []=>.refl _
 | y::G=>by
  unfold ky;split
  .exact .refl _
  .exact((insG_perm (x:=x) (G:=G)).cons y).trans (List.Perm.swap x y G)
def zju{n:Nat}(f:n<16777216)(e:c<1099511627776):qy .or .u64 ((n*1099511627776:Nat):Int) (c:Int)=((n*1099511627776+c:Nat):Int):=by
 unfold qy;have d:IntKind.u64.bits=64:=rfl;simp only[d,eJ]
 have:(BitVec.ofInt 64 ((n*1099511627776:Nat):Int) ||| BitVec.ofInt 64 ((c:Nat):Int)).toNat=n*1099511627776+c:=by
  rw[BitVec.toNat_or,BitVec.ofInt_natCast,BitVec.ofInt_natCast,BitVec.toNat_ofNat,BitVec.toNat_ofNat];rw[Nat.mod_eq_of_lt oo,Nat.mod_eq_of_lt oo];have a:=Nat.shiftLeft_add_eq_or_of_lt (i:=40) (b:=c) oo n;rw[Nat.shiftLeft_eq]at a;rw[<-a]
 show ((BitVec.ofInt 64 ((n*1099511627776:Nat):Int) ||| BitVec.ofInt 64 ((c:Nat):Int)).toNat:Int)%18446744073709551616=_;rw[this];omega
def zif(S:oG)(q:LB)(d:PL)(c:oF):Prop:=∀(a:oG) (K2:KV),Below S.heap.size S a->(∀b,PM b q d->Ch q.wv a b->K2 (.tuple #[]) b)->bA Q c #[] K2 a
section
variable {e:EV}{s:PL}
def zgR(k:e.k=1):vK e s={s with N:=dP ⟨idE e,e.n,z54.set e.q e.a⟩ s.N}:=by simp[vK,eff,yK,yL,su,nop,gop,NOp.ap,GOp.ap,k]
def zgS(k:e.k=2):vK e s={s with N:=s.N.map (dT [e.n] e.q e.a)}:=by simp[vK,eff,yK,yL,su,nop,gop,NOp.ap,GOp.ap,k]
def zgT(k:e.k=3):vK e s={s with N:=s.N.map (dT (cB s.N e.n) (6+e.q) e.a),G:=ky ⟨e.o,e.r,e.n,e.a,0⟩ s.G,R:=s.R.set e.q (s.R.getD e.q []++[e.r])}:=by simp[vK,eff,yK,yL,su,nop,gop,NOp.ap,GOp.ap,k]
def zgU(k:e.k=4):vK e s={s with N:=s.N.map (dT (cB s.N (gOf s e).n) (12+e.q) (gOf s e).a),G:=s.G.map (mj e.o e.f e.r),R:=s.R.set e.q (s.R.getD e.q []++[e.r])}:=by simp[vK,eff,yK,yL,su,nop,gop,NOp.ap,GOp.ap,k]
def zgV(k:e.k=5):vK e s={s with N:=s.N.map (dT [e.n] (18+6*e.q+(e.t-1).toNat) e.a)}:=by simp[vK,eff,yK,yL,su,nop,gop,NOp.ap,GOp.ap,k]
def zgW(k:e.k=6):vK e s={s with I:=s.I.set (e.t-1).toNat true}:=by simp[vK,eff,yK,yL,su,nop,gop,NOp.ap,GOp.ap,k]
def zgX(k:e.k=7):vK e s={s with L:=s.L.set e.q true}:=by simp[vK,eff,yK,yL,su,nop,gop,NOp.ap,GOp.ap,k]
end
def ixO{k:Nat}{i:Int}(hi:i=(k:Nat))(c:k<6)(a:K (pA b (o+k)) w):aW Q 154 (pA b o) (ci i) K w:=by subst hi;exact fg underlying154 (s:=1) kf oo oo (by rw[oQ,Nat.mul_one];exact a)
def WR{k:Nat}{i:Int}(hi:i=(k:Nat))(c:k<6)(a:K (pA b (o+k)) w):aW Q 35 (pA b o) (ci i) K w:=by subst hi;exact fg underlying35 (s:=1) kf oo oo (by rw[oQ,Nat.mul_one];exact a)
structure LE(w0 w:oG) (q:LB) (e:EV):Prop where
 l:blk w w0.heap.size 121 [pB q.p]
 e:blk w (w0.heap.size+1) 54 (evC e)
 bel:Below w0.heap.size w0 w
section
variable {q:LB}{e:EV}
def LE.fresh(g:LE O w q e)(a:Below w.heap.size w S):LE O S q e:=⟨ae a g.l g.l.lt,ae a g.e g.e.lt,g.bel.trans (a.mono g.bel.size)⟩
def LE.sz(g:LE S w q e):S.heap.size+2<=w.heap.size:=g.e.lt
def LE.drew(g:LE S w q e):LE S w.drew q e:=g.fresh (jU _ w).drew
def LE.oth(g:LE S w q e)(o:Oth b w O)(a:S.heap.size+2<=b):LE S O q e:=⟨o.blk g.l oo,o.blk g.e oo,fR g.bel o oo⟩
end
section
variable {q:LB}{s:PL}{e:EV}
def LE.make{K2:oF->oF->oG->Prop}(h:∀S,LE w S q e->S.heap.size=w.heap.size+2->K2 (pB w.heap.size) (pB (w.heap.size+1)) S):box Q 121 (pB q.p) (λl=>box Q 54 (.agg (evC e).toArray) (K2 l)) w:=by
 refine bu λg a d f=>By λi c b j=>?_;have a:=cZ a
 rw[f]at c |-;exact h i ⟨ae b a a.lt,c,d.trans (b.mono oo)⟩ oo
def Q9{o:Int}(d:1<=o)(f:o<=6)(g:1<=x)(i:x<1099511627776)(h:K (u6 (o*M40+x)) w):call Q 309 #[iv o,u6 x] K w:=by
 refine aj (goK func309) (zcJ (aL (df oo (cH (bw oo (df oo (aL (bw oo (df oo (bR (bw oo (ax oo ?_))))))))))));refine dE underlying3 underlying36 ?_;rw[eJ,show o%18446744073709551616=o by omega];refine Cc oo ?_;have e:o*2 ^ (min (40:Int).toNat IntKind.u64.bits)=o*1099511627776:=rfl
 obtain⟨a,rfl⟩:=Int.eq_ofNat_of_zero_le (show 0<=o by omega);obtain⟨b,rfl⟩:=Int.eq_ofNat_of_zero_le (show 0<=x by omega);rw[e,eJ,show (a:Int)*1099511627776%18446744073709551616=((a*1099511627776:Nat):Int)by omega];refine Ul ?_;rw[zju oo oo];have c:((a*1099511627776+b:Nat):Int)=(a:Int)*M40+(b:Int):=by simp only[M40];omega
 rw[c];exact h
def yS{x:oF}(d:(Tryz.prog.info? t).bind (·.zero)=some x)(c:x.cells.toList=[x])(h:∀S,blk S w.heap.size t [x]->Below w.heap.size w S->S.heap.size=w.heap.size+1->K (pB w.heap.size) S):alc Q t K w :=
 bO d λS a b s=>h S (by rwa[c]at a) b s
def mk6{S0:oG->Prop}{T:oF->oF->oF->(oG->Prop)->oG->Prop}{o:Int}(m:1<=o)(n:o<=6)(p:1<=x)(q:x<1099511627776)(e:∀w',Below w.heap.size w w'->S0 w')(h:∀w' s bk,blk w' s 36 [u6 0]->blk w' bk 3 [iv 0]->s≠bk->w.heap.size<=s->w.heap.size<=bk->Below w.heap.size w w'->T (u6 (o*M40+x)) (pB s) (pB bk) S0 w'):(call Q 309 #[iv o,u6 x] (λt=>aX S0 λS w=>(alc Q 36 (λi=>aX S λS=>alc Q 3 λk=>aX S λS=>T t i k S) w)/\(alc Q 3 (λk=>aX S λS=>alc Q 36 λi=>aX S λS=>T t i k S) w)) w) /\
    ((alc Q 36 (λi=>aX S0 λS w=>(call Q 309 #[iv o,u6 x] (λt=>aX S λS=>alc Q 3 λk=>aX S λS=>T t i k S) w)/\(alc Q 3 (λk=>aX S λS=>call Q 309 #[iv o,u6 x] λt=>aX S λS=>T t i k S) w)) w) /\
     (alc Q 3 (λk=>aX S0 λS w=>(call Q 309 #[iv o,u6 x] (λt=>aX S λS=>alc Q 36 λi=>aX S λS=>T t i k S) w)/\(alc Q 36 (λi=>aX S λS=>call Q 309 #[iv o,u6 x] λt=>aX S λS=>T t i k S) w)) w)):=by
  have u:=e w (jU _ w);have v:∀a O,Below w.heap.size w a->blk a w.heap.size 36 [u6 0]->a.heap.size=w.heap.size+1->blk O a.heap.size 3 [iv 0]->Below a.heap.size a O->Below w.heap.size w O/\T (u6 (o*M40+x)) (pB w.heap.size) (pB a.heap.size) S0 O:=λa O b f l g d =>
    have c:=b.trans (d.mono oo)
    ⟨c,h O _ _ (ae d f f.lt) g oo oo oo c⟩
  have y:∀a O,Below w.heap.size w a->blk a w.heap.size 3 [iv 0]->a.heap.size=w.heap.size+1->blk O a.heap.size 36 [u6 0]->Below a.heap.size a O->Below w.heap.size w O/\T (u6 (o*M40+x)) (pB a.heap.size) (pB w.heap.size) S0 O:=λa O b f l g d =>
    have c:=b.trans (d.mono oo)
    ⟨c,h O _ _ g (ae d f f.lt) oo oo oo c⟩
  refine⟨Q9 m n p q (aB u ⟨?_,?_⟩),?_,?_⟩
  · refine yS (x:=u6 0) kr rfl λa f b l=>aB (e _ b) (yS (x:=iv 0) kr rfl λO g d r=>?_)
    obtain⟨c,j⟩:=v a O b f l g d;exact aB (e _ c) j
  · refine yS (x:=iv 0) kr rfl λa f b l=>aB (e _ b) (yS (x:=u6 0) kr rfl λO g d r=>?_)
    obtain⟨c,j⟩:=y a O b f l g d;exact aB (e _ c) j
  · refine yS (x:=u6 0) kr rfl λa f b l=>aB (e _ b) ⟨Q9 m n p q (aB (e _ b) (yS (x:=iv 0) kr rfl λO g d r=>?_)),yS (x:=iv 0) kr rfl λO g d r=>?_⟩
    · obtain⟨c,j⟩:=v a O b f l g d
      exact aB (e _ c) j
    · obtain⟨c,j⟩:=v a O b f l g d
      exact aB (e _ c) (Q9 m n p q (aB (e _ c) j))
  · refine yS (x:=iv 0) kr rfl λa f b l=>aB (e _ b) ⟨Q9 m n p q (aB (e _ b) (yS (x:=u6 0) kr rfl λO g d r=>?_)),yS (x:=u6 0) kr rfl λO g d r=>?_⟩
    · obtain⟨c,j⟩:=y a O b f l g d
      exact aB (e _ c) j
    · obtain⟨c,j⟩:=y a O b f l g d
      exact aB (e _ c) (Q9 m n p q (aB (e _ c) j))
end
structure LV(w:oG) (z:Nat) (q:LB) (e:EV):Prop where
 l:blk w z 121 [pB q.p]
 e:blk w (z+1) 54 (evC e)
section
variable {q:LB}{e:EV}
def LV.ch{F:List Nat}(g:LV w z q e)(b:Ch F w S)(hF:∀k∈F,k<z\/z+2<=k):LV S z q e :=
 ⟨g.l.ch b λa=>by have:=hF _ a;omega,g.e.ch b λa=>by have:=hF _ a;omega⟩
def LV.below(g:LV w z q e)(a:Below w.heap.size w S):LV S z q e:=g.ch (Ch.of_below a:Ch [] w S) oB
def LV.oth(g:LV w z q e)(o:Oth b w S)(a:b<z\/z+2<=b):LV S z q e:=⟨o.blk g.l oo,o.blk g.e oo⟩
def LV.drew(g:LV w z q e):LV w.drew z q e:=g.below (jU _ w).drew
def LE.lv(g:LE S w q e):LV w S.heap.size q e:=⟨g.l,g.e⟩
end
section
variable {q:LB}{s:PL}{e:EV}
def zfl(g:LV w z q e)(R:blk w b 36 [u6 (idE e)])(af:blk w c 3 [iv (e.q:Nat)])(zi:z+2<=b)(zk:z+2<=c)(hq:∀k∈q.l,k<z)(h:PM w q s)(hi:PI s)(hm:co e=true)(hn:cK s.N (idE e)=false)(r:(nu (tr s.N) (idE e) e.n).2=0)(d:∀w',PM w' q {s with N:=dP ⟨idE e,e.n,z54.set e.q e.a⟩ s.N}->Ch q.wv w w'->K (.tuple #[]) w'):call Q 311 #[pB z,pB b,pB (z+1),pB c] K w:=by
 obtain⟨rk,al⟩:=hi.tk;obtain⟨E,ho⟩:=ue hm;have U:=fZ hm;have ax:=hi.len30;have m:=h.nd;have hb:=hq;simp only[LB.l,oO,oR,or_false,forall_eq_or_imp,forall_eq]at hb;obtain⟨x,J⟩:∃x:ND,x=⟨idE e,e.n,z54.set e.q e.a⟩:=⟨_,rfl⟩
 have C:x.id=idE e:=by rw[J]
 have Y:x.par=e.n:=by rw[J]
 have X:x.A=z54.set e.q e.a:=by rw[J]
 rw[<-J]at d;have V:∀y∈s.N,y.id≠x.id:=λy f e' => by
  rw[nD.2 ⟨y,f,e'.trans C⟩]at hn;cases hn
 have W:=xI hi.srt V;have e0:nu (tr s.N) (idE e) e.n=(vO (tr s.N) (Wt (λy=>decide (idE e<y.1)) (tr s.N) (tr s.N).length) (idE e,e.n),0):=by
  unfold nu at r |-;split at r
  .cases r
  rename_i g1;rw[oI g1];split at r
  .cases r
  rename_i g2;rw[oI g2];split at r
  .cases r
  rename_i g3;rw[oI g3];split at r
  .cases r
  rename_i g4;rw[oI g4]
 have M:∀i:Nat,(vO (tr s.N) i (idE e,e.n)).Perm (tr (dP x s.N)):=λi=>by
  refine List.perm_middle.trans ?_;rw[List.take_append_drop]
  have:=((Ka (x:=x) (N:=s.N)).map λy:ND=>(y.id,y.par)).symm
  rw[jK,C,Y]at this;exact this
 refine aj (goK func311) (IM ?_);refine aw (λy=>LV y z q e/\blk y b 36 [u6 (idE e)]/\PM y q s) ⟨g.drew,R.drew,h.drew⟩ ?_;refine ac (λy f _=>lK (v:=pB q.p) f.1.l rfl) (hZ (hW BO ?_));refine ac (λy f _=>lK (v:=pB q.t) f.2.2.b (by rw[oK];exact f.2.2.c18)) <|ac (λy f _=>lK (v:=u6 (idE e)) f.2.1 rfl) ?_;refine hW pY (ac (λy f _=>lK (v:=u6 e.n) f.1.e rfl) ?_)
 refine VH al h.drew.tm (by rw[Xe];omega) λw1 t1 H=>?_;have g1:LV w1 z q e:=g.drew.ch H (by simp;omega);have i1:=R.drew.ch H (by simp;omega);have k1:=af.drew.ch H (by simp;omega);have b1:=h.drew.b.ch H (by simp[LN.pd m]);obtain⟨m1,p1,e1⟩:=h.pm;obtain⟨m2,p2,e2⟩:=h.rm;have p1:MB u6 u6 w1 q.pm m1:=(p1.kept rfl:MB u6 u6 w.drew q.pm m1).ch H (by simp[LN.md m])
 have p2:MB u6 rgV w1 q.rm m2:=(p2.kept rfl:MB u6 rgV w.drew q.rm m2).ch H (by simp[LN.rd m])
 refine aw (λy=>LV y z q e/\blk y b 36 [u6 (idE e)]/\blk y q.p 156 (plC q s)) ⟨g1.drew,i1.drew,b1.drew⟩ ?_;refine ac (λy f _=>lK (v:=pB q.p) f.1.l rfl) (hZ (hW Sz ?_));refine ac (λy f _=>lK (v:=.map (some q.pm)) f.2.2 (by rw[oK];exact h.c19)) <|ac (λy f _=>lK (v:=u6 (idE e)) f.2.1 rfl) ?_;refine hW pY (ac (λy f _=>lK (v:=u6 e.n) f.1.e rfl) ?_)
 refine vT u6K underlying150 (p1.kept rfl:MB u6 u6 w1.drew q.pm m1) λw2 Z B=>?_;have g2:=(g1.drew.oth B oo).drew;have i2:=(B.blk i1.drew oo).drew;have k2:=(B.blk k1.drew oo).drew;have b2:=(B.blk b1.drew (LN.pm m)).drew
 refine ah (λ_=>lK (v:=pB q.p) g2.l rfl) (ah (λ_=>lK (v:=iv (e.q:Nat)) k2 rfl) ?_);refine ah (λ_=>aq) (ah (λ_=>SA) (ah (λ_=>ixO rfl E) ?_));refine ah (λK d=>lK (v:=iv ((jb s.N ((e.q:Nat)+1):Nat):Int)) b2 (by rw[oK];exact h.cO E) d) ?_;have au:=hi.own ((e.q:Nat)+1);refine ah (v:=iv (((jb s.N ((e.q:Nat)+1):Nat):Int)+1)) (λ_=>aR oo oo) ?_
 refine ah (λ_=>aq) (ah (λ_=>SA) (ah (λ_=>ixO rfl E) ?_));refine cq kf b2 (by rw[h.len];omega) rfl λw3 b3 u=>?_;have L:((jb s.N ((e.q:Nat)+1):Nat):Int)+1=((jb (dP x s.N) ((e.q:Nat)+1):Nat):Int):=by
  rw[NA,C,show idE e / M40=e.o from zJ oo U.2.2.2,oJ ho];push_cast;rfl
 rw[L,oK,h.sO E (N:=dP x s.N) (λj a b=>by
  rw[NA,C,show idE e / M40=e.o from zJ oo U.2.2.2,oI oo];rfl)]at b3
 have g3:=g2.oth u oo;have i3:=u.blk i2 oo;have k3:=u.blk k2 oo
 refine FI (ck (vs:=z54.map iv) kr (De λw4 r4 ab s4=>Bb rfl rfl r4 λw5 r5 o5=>?_));have av:=g3.e.lt;have aA:∀k∈q.l,k<w3.heap.size:=λk hk=>by have:=hq k hk;omega
 have D:Ch [w3.heap.size] w3 w5:=(Ch.of_below ab:Ch [w3.heap.size] w3 w4).trans (Ch.of_oth o5 oB:Ch [w3.heap.size] w4 w5) (λx J=>.inl J);have g5:=g3.ch D (by simp;omega);have i5:=i3.ch D (by have:=i3.lt;simp;omega);have k5:=k3.ch D (by have:=k3.lt;simp;omega);have b5:=b3.ch D (by simp;omega)
 refine lK (v:=iv (e.q:Nat)) k5 rfl (sX (lK (v:=iv e.a) g5.e rfl (MS (ixR rfl E (cq kf r5 (by simp[z54];omega) rfl λw6 r6 o6=>?_)))));have r6:blk w6 w3.heap.size 81 (x.A.map iv):=by
  rw[oK]at r6;rw[X, <-HC];exact r6
 have g6:=g5.oth o6 oo;have i6:=o6.blk i5 (by have:=i3.lt;omega);have b6:=o6.blk b5 oo;have P:Ch [w3.heap.size] w3 w6:=D.trans (Ch.of_oth o6 oB:Ch [w3.heap.size] w5 w6) (λx J=>.inl J)
 have ao:MB u6 rgV w6 q.rm m2:=(((p2.kept rfl:MB u6 rgV w1.drew q.rm m2).oth B (LN.rm m):MB u6 rgV w2 q.rm m2).oth ⟨u.os,u.tape,u.output,u.size,u.other⟩ (LN.rp m):MB u6 rgV w3 q.rm m2).ch P (by simp;omega);have an:x.A.length=54:=by rw[X];simp[z54]
 have ae:(plC q {s with N:=dP x s.N})[20]? = some (.map (some q.rm)):=by
  have h':PM w q {s with N:=s.N}:=h;unfold plC;rw[show 20=6+(6+(6+2))by omega,eB (by simp[h.i6]),eB (by simp[h.l6]),eB (by rw[bh,h.v6])];rfl
 refine aw (λy=>LV y z q e/\blk y b 36 [u6 (idE e)]/\blk y q.p 156 (plC q {s with N:=dP x s.N})/\blk y w3.heap.size 81 (x.A.map iv)) ⟨g6.drew,i6.drew,b6.drew,r6.drew⟩ ?_;refine ac (λy f _=>lK (v:=pB q.p) f.1.l rfl) (hZ (hW wP ?_))
 refine ac (λy f _=>lK (v:=.map (some q.rm)) f.2.2.1 (by rw[oK];exact ae)) <|ac (λy f _=>lK (v:=u6 (idE e)) f.2.1 rfl) <|ac (λy f _=>uU an f.2.2.2) ?_;refine vT (v:=x.A) u6K underlying151 (ao.kept rfl:MB u6 rgV w6.drew q.rm m2) λw7 aa O=>?_
 have I:Ch [w3.heap.size,q.rm] w3 w7:=(P.mono oB).trans (Ch.of_oth (F:=[q.rm]) ⟨O.os,O.tape,O.output,O.size,O.other⟩ oB) oB
 have ce:Ch q.wv w w7:=by
  have a1:Ch q.wv w w1:=((Ch.of_below (jU _ w).drew:Ch q.wv w w.drew).trans H (by simp[LB.wv]))
  have a2:Ch q.wv w w2:=a1.trans (Ch.of_oth (F:=[q.pm]) ⟨B.os,B.tape,B.output,B.size,B.other⟩ oB) (by simp[LB.wv]);have a3:Ch q.wv w w3:=a2.trans (Ch.of_oth (F:=[q.p]) ⟨u.os,u.tape,u.output,u.size,u.other⟩ oB) (by simp[LB.wv]);exact a3.trans I (by
   have:=a3.size
   intro y f;simp only[oO,oR,or_false]at f;rcases f with rfl|rfl
   .exact .inr this
   .exact .inl (by simp[LB.wv]))
 have G:∀k,k<w.heap.size->k≠q.tp->k≠q.pm->k≠q.p->k≠q.rm->w7.heap[k]? = w.heap[k]? := λk hk n1 n2 n3 n4=>by
  have s1:=H.size;have s1:w.heap.size<=w1.heap.size:=s1;have s2:w2.heap.size=w1.heap.size:=B.size;have s3:w3.heap.size=w2.heap.size:=u.size;rw[I.block k oo (by simp;omega),u.other k n3];show w2.heap[k]? = _;rw[B.other k n2];show w1.heap[k]? = _;rw[H.block k hk (by simp;omega)];rfl
 have az:w1.heap.size=w3.heap.size:=by rw[u.size];show _=w2.heap.size;rw[B.size];rfl
 have ag:=h.lt;simp only[LB.l,oO,oR,or_false,forall_eq_or_imp,forall_eq]at ag;have mv:∀k,k≠q.pm->k≠q.p->k≠q.rm->k<w1.heap.size->w7.heap[k]? = w1.heap[k]? := λk n2 n3 n4 hk=>by
  rw[I.block k oo (by simp;omega),u.other k n3];show w2.heap[k]? = _;rw[B.other k n2];rfl
 obtain⟨mt,pt,et⟩:=t1.mp;have ak:TreeM w7 q.t q.tp (tr (dP x s.N)):=by
  refine⟨?_,⟨mt,pt.kept (mv _ (LN.dm m) (LN.dp m) (LN.dr m) pt.lt),et.trans (by rw[e0];exact M _)⟩,NQ W⟩
  have:=t1.bt
  unfold blk at this |-;rw[mv _ (LN.tm m) (LN.tp m) (LN.tr m) t1.bt.lt];exact this
 have S:dA m1 (idE e)=none:=by
  rw[pk e1 (NQ hi.srt),LX (NQ hi.srt),lu,hn]
 have T:dA m2 (idE e)=none:=by
  rw[pk e2 (Jc hi.srt),QY,hn]
 rw[yY S]at Z;rw[yY T]at aa;refine d w7 ⟨h.i6,h.l6,h.v6,?_,ak,⟨_,Z.kept ?_,?_⟩,⟨_,aa,?_⟩,?_,?_,h.nd,?_⟩ ce
 .exact O.blk b6.drew (LN.pr m)
 .have ai:q.pm<w3.heap.size:=by omega
  rw[I.block q.pm ai (by simp[LN.mr m];omega),u.other _ (LN.mp m)];rfl
 .refine(List.perm_append_singleton _ _).trans ((e1.cons _).trans ?_)
  have:=((Ka (x:=x) (N:=s.N)).map λy:ND=>(y.id,y.par)).symm
  rw[jK,C,Y]at this;exact this
 .refine(List.perm_append_singleton _ _).trans ((e2.cons _).trans ?_)
  have:=((Ka (x:=x) (N:=s.N)).map λy:ND=>(y.id,y.A)).symm
  rw[jK,C]at this;exact this
 .obtain⟨m3,p3,e3⟩:=h.gm;exact⟨m3,p3.kept (G _ p3.lt (LN.gd m) (LN.gm m) (LN.gp m) (LN.gr m)),e3⟩
 .obtain⟨m4,p4,e4⟩:=h.am;exact⟨m4,p4.kept (G _ p4.lt (LN.ad m) (LN.am m) (LN.ap m) (LN.ar m)),e4⟩
 .exact h.kd.keep (G _ h.kd.lt (LN.zd m) (LN.zm m) (LN.zp m) (LN.zr m))
end
def PM.oth{q:LB}{s:PL}(h:PM w q s)(o:Oth b w S)(a:b∉q.l):PM S q s:=h.keep λk c _=>o.other k λe=>a (e ▸ c)
def DoesB(B:Nat)(S:oG)(q:LB)(d:PL)(c:oF):Prop:=∃X:List Nat,(∀k∈X,B<=k)/\∀(a:oG) (K2:KV),Below S.heap.size S a->(∀b,PM b q d->Ch (X++q.wv) a b->K2 (.tuple #[]) b)->bA Q c #[] K2 a
def Kind(w:oG)(q:LB)(s:PL)(e:EV)(K:KV):Prop :=
 (∀a,pX e s≠0->Below w.heap.size w a->K (.tuple #[.nilFunc,ci (pX e s)]) a) /\
 (pX e s=0->∀a fv,Below w.heap.size w a->DoesB w.heap.size a q (vK e s) fv->K (.tuple #[fv,ci 0]) a)
def Kind.y{q:LB}{s:PL}{e:EV}(f:Kind w q s e K)(c:pX e s=0)(w':oG)(a:oF)(b:Below w.heap.size w w')(d:zif w' q (vK e s) a):K (.tuple #[a,ci 0]) w':=f.2 c w' a b ⟨[],by simp,d⟩
section
variable {q:LB}{s:PL}{e:EV}
def zho(h:PM w q s)(hi:PI s)(J:co e=true)(W:e.k=1)(hn:cK s.N (idE e)=false)(X:Kind w q s e K):call Q 302 #[pB q.p,.agg (evC e).toArray] K w:=by
 have T:=X.y;obtain⟨O,_⟩:=X;obtain⟨A,ho⟩:=ue J;have f:=fZ J;have r:=h.lt;have d:pX e s=if 5<=jb s.N e.o\/M47<e.a then 6 else (nu (tr s.N) (idE e) e.n).2:=by unfold pX;rw[oJ W]
 refine aj (goK func302) (Lc (LE.make λw1 i s1=>?_));have i:=i.drew;have S:=h.below i.bel;refine aw (λy=>LE w y q e/\PM y q s) ⟨i,S⟩ ?_;refine hW dO (ac (λy g _=>lK (v:=iv e.o) g.1.e rfl) ?_);refine hW nB (ac (λy g _=>lK (v:=u6 e.s) g.1.e rfl) ?_);refine hW dO (ac (λy g _=>lK (v:=iv e.o) g.1.e rfl) ?_)
 refine ac (v:=iv (e.q:Nat)) (λy g K c=>bL oo oo (by rw[show e.o-1=(e.q:Nat)by omega];exact c)) ?_;refine mk6 f.1 f.2.1 f.2.2.1 f.2.2.2 (λa b=>⟨i.fresh b,S.below b⟩) λw2 bi bk i2 k2 z E F U=>?_;have Z:w.heap.size+2<=w1.heap.size:=i.sz;have E:w.heap.size+2<=bi:=qR Z E;have F:w.heap.size+2<=bk:=qR Z F;have g2:=i.fresh U
 have p2:=S.below U;refine cq kf i2 oB rfl λw3 L P=>?_;have L:blk w3 bi 36 [u6 (idE e)]:=L;have V:=g2.oth P E;have Y:=p2.oth P λI=>by have:=r _ I;omega
 have k3:=P.blk k2 (λe=>z e.symm);refine aB ⟨V,Y⟩ (cq kf k3 oB rfl λw4 t R=>?_);have t:blk w4 bk 3 [iv (e.q:Nat)]:=t;have M:=(R.blk L z).drew;have t:=t.drew;have j:=(V.oth R F).drew;have D:=(Y.oth R λI=>by have:=r _ I;omega).drew;refine ah (λ_=>lK (v:=pB q.p) j.l rfl) (ah (λ_=>lK (v:=iv (e.q:Nat)) t rfl) ?_)
 refine ah (λ_=>aq) (ah (λ_=>SA) (ah (λ_=>ixO rfl A) ?_));refine ah (λK c=>lK (v:=iv ((jb s.N ((e.q:Nat)+1):Nat):Int)) D.b (by rw[oK];exact D.cO A) c) ?_;rw[<-ho];refine ah (λ_=>bR) ?_;by_cases C:(5:Int)<=((jb s.N e.o:Nat):Int)
 .refine mF C (ah (λ_=>bI C) (aV ?_));rw[oJ (.inl oo)]at d
  have:=O _ (by rw[d];decide) j.bel
  rwa[d]at this
 refine df C (ah (λ_=>sX) (ah (λ_=>lK (v:=iv e.a) j.e rfl) (ah (λ_=>cH) (ah (λ_=>bw C) ?_))));by_cases H:(140737488355328:Int)<e.a
 .refine ay H ?_;rw[oJ (.inr H)]at d
  have:=O _ (by rw[d];decide) j.bel
  rwa[d]at this
 rw[oI (by simp only[M47];omega)]at d;refine ax H (lK (v:=pB q.p) j.l rfl (lK (v:=u6 (idE e)) M rfl (pY (lK (v:=u6 e.n) j.e rfl ?_))));refine zhE D hi λw5 u=>aZ ?_;have G:=j.fresh u;by_cases m:(nu (tr s.N) (idE e) e.n).2≠0
 .refine ay m ?_
  have:=O _ (by rw[d];exact m) G.bel
  rwa[d]at this
 have m:(nu (tr s.N) (idE e) e.n).2=0:=by simpa using m
 refine ax (by simp[m]) (T (by rw[d];exact m) w5 _ G.bel λw6 K2 B x=>bS rfl ?_);have p6:=(D.below u).below B;have g6:=G.fresh B;rw[zgR W]at x;exact zfl g6.lv (ae (tB u B) M M.lt) (ae (tB u B) t t.lt) E F r p6 hi J hn m x
def XC{N:List ND}{ids:List Int}{y:Int}:dA (rgL (N.map (dT ids c x))) y=match cK N y with|true=>some (if y∈ids then (aN N y).set c (nA (aN N y) c+x)else aN N y)|false=>none:=by
 rw[QY,Zx λz=>(ig z).1];cases g:cK N y with
 | false=>rfl
 | true =>
  simp only
  congr 1
  unfold aN;rw[List.find?_map];have e:((λz:ND=>z.id==y) ∘ dT ids c x)=λz:ND=>z.id==y:=by
   funext z;show ((dT ids c x z).id==y)=_;rw[(ig z).1]
  rw[e];cases d:N.find? λz=>z.id==y with
  | none =>
   exfalso;obtain⟨z,b,f⟩:=nD.1 g
   have:=List.find?_eq_none.1 d z b
   exact this (by simpa using f)
  | some z =>
   have b:z.id=y:=by simpa using List.find?_some d
   simp only[jP];by_cases a:y∈ids
   .rw[oJ a,BI (by rw[b];exact a)]
   .rw[oI a,zD (by rw[b];exact a)]
def YL{N:List ND}:N.map (dT [] c x)=N:=by
 conv=>rhs;rw[<-List.map_id N]
 exact List.map_congr_left λy _=>zD oB
def zkC{N N':List ND}(h:∀o,jb N' o=jb N o):plC q {s with N:=N'} = plC q {s with N:=N}:=by unfold plC Nz;simp only[h]
def PM.put_c{done:List Int}{id:Int}(h:PM w q {s with N:=s.N.map (dT done c x)})(hi:PI s)(E:id∉done)(D:cK s.N id=true)(B:A=(aN s.N id).set c (nA (aN s.N id) c+x))(C:∀w',PM w' q {s with N:=s.N.map (dT (done++[id]) c x)}->Oth q.rm w w'->K undef w'):fk Q 151 (.map (some q.rm)) (u6 id) (rgV A) K w:=by
 have a:=h.nd;obtain⟨m,p,F⟩:=h.rm;refine vT u6K underlying151 p λn g d=>C n ?_ d;have e:∀l,(s.N.map (dT l c x)).Pairwise (·.id < ·.id):=λl=>No (λy=>(ig y).1) hi.srt;have f:(s.N.map (dT (done++[id]) c x)).map (λy=>(y.id,y.par))=(s.N.map (dT done c x)).map λy=>(y.id,y.par):=by
  rw[jH,jH];exact List.map_congr_left λy _=>by
   show ((dT _ _ _ y).id,(dT _ _ _ y).par)=((dT _ _ _ y).id,(dT _ _ _ y).par)
   rw[(ig y).1,(ig y).2,(ig y).1,(ig y).2]
 have f:tr (s.N.map (dT (done++[id]) c x))=tr (s.N.map (dT done c x)):=f;have k:∀k∈q.l,k≠q.rm->n.heap[k]? = w.heap[k]? := λk _ i=>d.other k i;obtain⟨G,I,S,b,R,⟨r,M,u⟩,_,⟨J,O,v⟩,⟨L,P,z⟩,_,H⟩:=h
 refine⟨G,I,S,?_,?_,⟨r,M.oth d (LN.mr a),by show r.Perm (tr _);rw[f];exact u⟩,⟨_,g,?_⟩,⟨J,O.oth d (LN.gr a),v⟩,⟨L,P.oth d (LN.ar a),z⟩,a,H.keep (d.other 1 (LN.zr a))⟩
 .have:=d.blk b (LN.pr a)
  rw[zkC (s:=s) (N:=s.N.map (dT done c x)) (N':=s.N.map (dT (done++[id]) c x)) (λo=>by rw[NC λy=>(ig y).1,NC λy=>(ig y).1])];exact this
 .have:=R.oth d (LN.tr a) (LN.dr a)
  show TreeM n q.t q.tp (tr _);rw[f];exact this
 .refine XH (CZ p.nodup) (Jc (e _)) λy=>?_;rw[Nw,pk F (Jc (e _)),XC,XC];by_cases j:y=id
  .subst j;rw[oJ rfl,D,B];simp
  .rw[oI j];cases cK s.N y with
   | false=>rfl
   | true=>simp[j]
def PM.put1_c{id:Int}(h:PM w q s)(hi:PI s)(d:cK s.N id=true)(a:A=(aN s.N id).set c (nA (aN s.N id) c+x))(b:∀S,PM S q {s with N:=s.N.map (dT [id] c x)}->Oth q.rm w S->K undef S):fk Q 151 (.map (some q.rm)) (u6 id) (rgV A) K w:=by refine PM.put_c (s:=s) (done:=[]) (c:=c) (x:=x) ?_ hi oB d a b;rw[YL];exact h
end
def Mu{s:PL}(hi:PI s)(id:Int):(aN s.N id).length=54:=by
 cases a:cK s.N id with
 | true=>exact YA hi a
 | false=>rw[VO a];simp[z54]
def zco{i j:Int}(a:A.length=54):(yg A i j x).1.length=54:=by rw[zbq];exact M8 _ _ _ _ _ a
def Vt{i:Int}(a:A.length=54):(xg A i x).1.length=54:=by rw[zbF];exact M8 _ _ _ _ _ a
def Vs{i:Int}(a:A.length=54):(wT A i x).1.length=54:=by rw[zba];exact M8 _ _ _ _ _ a
section
variable {q:LB}{s:PL}{e:EV}
def zdQ{r:Nat}(g:LV w z q e)(o:blk w r 81 (A.map iv))(m:A.length=54)(h:PM w q s)(hi:PI s)(k:cK s.N e.n=true)(j:A=(aN s.N e.n).set c (nA (aN s.N e.n) c+x))(a:∀S,PM S q {s with N:=s.N.map (dT [e.n] c x)}->Ch q.wv w S->K (.tuple #[]) S):call Q 313 #[pB r,pB z,pB (z+1)] K w:=by
 refine aj (goK func313) (GS ?_);refine aw (λy=>LV y z q e/\PM y q s/\blk y r 81 (A.map iv)) ⟨g.drew,h.drew,o.drew⟩ ?_;refine ac (λy d _=>lK (v:=pB q.p) d.1.l rfl) (hZ (hW wP ?_));refine ac (λy d _=>lK (v:=.map (some q.rm)) d.2.1.b (by rw[oK];exact d.2.1.c20)) ?_;refine hW pY (ac (λy d _=>lK (v:=u6 e.n) d.1.e rfl) ?_);refine ac (λy d _=>uU m d.2.2) ?_
 exact h.drew.put1_c hi k j λt i f=>a t i (Ch.of_oth ⟨f.os,f.tape,f.output,f.size,f.other⟩ (by simp[LB.wv]))
def zfr{r:Nat}(g:LV w z q e)(o:blk w r 81 (A.map iv))(m:A.length=54)(h:PM w q s)(hi:PI s)(k:cK s.N e.n=true)(j:A=(aN s.N e.n).set c (nA (aN s.N e.n) c+x))(a:∀S,PM S q {s with N:=s.N.map (dT [e.n] c x)}->Ch q.wv w S->K (.tuple #[]) S):call Q 322 #[pB r,pB z,pB (z+1)] K w:=by
 refine aj (goK func322) (IN ?_);refine aw (λy=>LV y z q e/\PM y q s/\blk y r 81 (A.map iv)) ⟨g.drew,h.drew,o.drew⟩ ?_;refine ac (λy d _=>lK (v:=pB q.p) d.1.l rfl) (hZ (hW wP ?_));refine ac (λy d _=>lK (v:=.map (some q.rm)) d.2.1.b (by rw[oK];exact d.2.1.c20)) ?_;refine hW pY (ac (λy d _=>lK (v:=u6 e.n) d.1.e rfl) ?_);refine ac (λy d _=>uU m d.2.2) ?_
 exact h.drew.put1_c hi k j λt i f=>a t i (Ch.of_oth ⟨f.os,f.tape,f.output,f.size,f.other⟩ (by simp[LB.wv]))
def zfI(h:PM w q s)(hi:PI s)(J:co e=true)(O:e.k=2)(P:Kind w q s e K):call Q 303 #[pB q.p,.agg (evC e).toArray] K w:=by
 have M:=P.y;obtain⟨R,_⟩:=P;obtain⟨f,ho⟩:=ue J;have aa:=fZ J;have x:=h.lt;have Y:1<=e.a/\e.a<=MXA:=by rcases ov J with⟨k,_⟩|⟨_,a,b⟩|⟨k,_⟩|⟨k,_⟩|⟨k,_⟩|⟨k,_⟩|k<;>first|omega|exact⟨a,b⟩
 have i:pX e s=if cK s.N e.n=false then 9 else if M47<nA (aN s.N e.n) e.q+e.a then 6 else 0:=by unfold pX;rw[oI oo,oJ O]
 have H:=Mu hi e.n;refine aj (goK func303) (JG (LE.make λU m s1=>?_));have m:=m.drew;have L:=h.below m.bel;refine aw (λy=>LE w y q e/\PM y q s) ⟨m,L⟩ ?_;refine ac (λy d _=>lK (v:=pB q.p) d.1.l rfl) (hZ (hW wP ?_));refine ac (λy d _=>lK (v:=.map (some q.rm)) d.2.b (by rw[oK];exact d.2.c20)) ?_;refine hW pY (ac (λy d _=>lK (v:=u6 e.n) d.1.e rfl) ?_)
 refine ac (λy d _=>d.2.rg_l2 hi) (hE2 (?_));refine De λw2 r2 z s2=>aB ⟨m.fresh z,L.below z⟩ (Bb rfl H r2 λw3 F S=>?_);have W:w.heap.size+2<=U.drew.heap.size:=m.sz;have r:=(m.fresh z).oth S W;have E:=(L.below z).oth S λj=>by have:=x _ j;omega
 refine aB ⟨r,E⟩ (bc ?_);cases j:cK s.N e.n with
 | false =>
  rw[j,oJ rfl]at i
  have:=R _ (by rw[i];decide) r.bel
  rw[i]at this;exact aV this
 | true =>
 rw[j,oI oB]at i;have Z:nA (aN s.N e.n) e.q<=M47/\0<=nA (aN s.N e.n) e.q:=by
  obtain⟨y,d,X⟩:=zL j;rw[<-X,Ex hi.srt d];exact⟨(hi.may y d).2 _ f,((BU.1 (hi.may y d).1).g _ f).1⟩
 simp only[M47,MXA]at Z Y;have r:=r.drew;have E:=E.drew;have F:=F.drew;refine aA (ah (λ_=>dO) (ah (λ_=>lK (v:=iv e.o) r.e rfl) ?_));refine ah (v:=iv (e.q:Nat)) (λK c=>bL oo oo (by rw[show e.o-1=(e.q:Nat)by omega];exact c)) ?_;refine ah (λ_=>MS) (ah (λ_=>ixR rfl f) ?_)
 refine ah (v:=iv (nA (aN s.N e.n) e.q)) (λ_=>lK F (by rw[oK];exact Hx oo)) ?_;refine ah (λ_=>sX) (ah (λ_=>lK (v:=iv e.a) r.e rfl) ?_);refine ah (λ_=>aR oo oo) ?_;refine ah (λ_=>MS) (ah (λ_=>ixR rfl f) ?_);refine cq kf F (by simp[H];omega) rfl λV t T=>?_
 obtain⟨A,D⟩:∃A,A=(aN s.N e.n).set e.q (nA (aN s.N e.n) e.q+e.a):=⟨_,rfl⟩
 have I:A.length=54:=by rw[D,qN];exact H
 have t:blk V U.drew.heap.size 81 (A.map iv):=by
  rw[oK]at t;rw[D, <-HC];exact t
 have B:=r.oth T W;have p4:=E.oth T λj=>by have:=x _ j;omega
 refine GU (dO (lK (v:=iv e.o) B.e rfl (bL oo oo ?_)));rw[show e.o-1=(e.q:Nat)by omega];refine MS (ixR rfl f (lK (v:=iv (nA (aN s.N e.n) e.q+e.a)) t (by
  rw[oK,Hx oo,D,oy oo,xk]) (cH ?_)))
 by_cases C:(140737488355328:Int)<nA (aN s.N e.n) e.q+e.a
 .refine ay C ?_;rw[oJ C]at i
  have:=R _ (by rw[i];decide) B.bel
  rwa[i]at this
 rw[oI C]at i;refine ax C (GV (M i V _ B.bel λw6 K2 G u=>bS rfl ?_));rw[zgS O]at u;exact zdQ (B.fresh G).lv (ae G t t.lt) I (p4.below G) hi j D u
def zfG(h:PM w q s)(hi:PI s)(T:co e=true)(S:e.k=5)(U:Kind w q s e K):call Q 306 #[pB q.p,.agg (evC e).toArray] K w:=by
 have P:=U.y;obtain⟨M,_⟩:=U;have Z:=fZ T;have D:=h.lt;have ea:1<=e.t/\e.t<=6:=by rcases ov T with⟨k,_⟩|⟨k,_⟩|⟨k,_⟩|⟨k,_⟩|⟨_,_,_,a,b,_⟩|⟨k,_⟩|k<;>first|omega|exact⟨a,b⟩
 obtain⟨t,ht⟩:∃t:Nat,t=(e.t-1).toNat:=⟨_,rfl⟩
 have E:t<6:=by omega
 have f:pX e s=if cK s.N e.n=false then 9 else if s.I.getD (e.t-1).toNat false=false then 10 else (yg (aN s.N e.n) e.o e.t e.a).2:=by unfold pX;rw[oI oo,oI oo,oI oo,oI oo,oJ S]
 have B:=Mu hi e.n;refine aj (goK func306) (Ld (LE.make λw1 m s1=>?_));have m:=m.drew;have O:=h.below m.bel;refine aw (λy=>LE w y q e/\PM y q s) ⟨m,O⟩ ?_;refine ac (λy d _=>lK (v:=pB q.p) d.1.l rfl) (hZ (hW wP ?_));refine ac (λy d _=>lK (v:=.map (some q.rm)) d.2.b (by rw[oK];exact d.2.c20)) ?_;refine hW pY (ac (λy d _=>lK (v:=u6 e.n) d.1.e rfl) ?_)
 refine ac (λy d _=>d.2.rg_l2 hi) (hE2 (?_));refine De λw2 r2 G s2=>aB ⟨m.fresh G,O.below G⟩ (Bb rfl B r2 λw3 F V=>?_);have Y:w.heap.size+2<=w1.drew.heap.size:=m.sz;have g:=(m.fresh G).oth V Y;have z:=(O.below G).oth V λu=>by have:=D _ u;omega
 refine aB ⟨g,z⟩ (bc ?_);cases u:cK s.N e.n with
 | false =>
  rw[u,oJ rfl]at f
  have:=M _ (by rw[f];decide) g.bel
  rw[f]at this;exact aV this
 | true =>
 rw[u,oI oB, <-ht]at f;have g:=g.drew;have z:=z.drew;have F:=F.drew;refine aA (ah (λ_=>lK (v:=pB q.p) g.l rfl) (ah (λ_=>yN) (ah (λ_=>lK (v:=iv e.t) g.e rfl) ?_)));refine ah (v:=iv (t:Nat)) (λK c=>bL oo oo (by rw[show e.t-1=(t:Nat)by omega];exact c)) ?_;refine ah (λ_=>aq) (ah (λ_=>Id) (ah (λ_=>WR rfl E) ?_))
 refine ah (λ_=>lK (v:=.bool (s.I.getD t false)) z.b (by rw[oK];exact z.cI E)) (ah (λ_=>bc) ?_);cases R:s.I.getD t false with
 | false =>
  rw[R,oJ rfl]at f
  have:=M _ (by rw[f];decide) g.bel
  rw[f]at this;exact aV this
 | true =>
 rw[R,oI oB]at f;refine aA (uU B F (dO (lK (v:=iv e.o) g.e rfl (yN (lK (v:=iv e.t) g.e rfl (sX (lK (v:=iv e.a) g.e rfl ?_)))))));refine zhC B λw4 H=>bo (bj ?_);have C:=zco (i:=e.o) (j:=e.t) (x:=e.a) B;refine Bb B C (ae H F F.lt) λw5 X W=>IP (aZ ?_);have L:=(g.fresh H).oth W Y;have p5:=(z.below H).oth W λu=>by have:=D _ u;omega
 by_cases r:(yg (aN s.N e.n) e.o e.t e.a).2≠0
 .refine ay r ?_
  have:=M _ (by rw[f];exact r) L.bel
  rwa[f]at this
 have r:(yg (aN s.N e.n) e.o e.t e.a).2=0:=by simpa using r
 refine ax (by simp[r]) (P (by rw[f];exact r) w5 _ L.bel λw6 K2 J A=>bS rfl ?_);rw[zgV S]at A;exact zfr (L.fresh J).lv (ae J X X.lt) C (p5.below J) hi u (zfq r) A
def zhf(h:PM w q s)(E:co e=true)(D:e.k=6)(H:Kind w q s e K):call Q 307 #[pB q.p,.agg (evC e).toArray] K w:=by
 have X:1<=e.t/\e.t<=6:=by rcases ov E with⟨k,_⟩|⟨k,_⟩|⟨k,_⟩|⟨k,_⟩|⟨k,_⟩|⟨_,a,b,_⟩|k<;>first|omega|exact⟨a,b⟩
 obtain⟨t,F⟩:∃t:Nat,t=(e.t-1).toNat:=⟨_,rfl⟩
 have g:t<6:=by omega
 have C:pX e s=0:=by unfold pX;rw[oI oo,oI oo,oI oo,oI oo,oI oo]
 refine aj (goK func307) (Lb (LE.make λR j Y=>H.y C R _ j.bel λZ K2 o m=>bS rfl ?_));have u:=(j.fresh o).drew;have i:=(h.below (j.fresh o).bel).drew;have f:=i.nd;refine aj (goK func323) (IL ?_);refine ah (λ_=>lK (v:=pB q.p) u.l rfl) (ah (λ_=>yN) (ah (λ_=>lK (v:=iv e.t) u.e rfl) ?_))
 refine ah (v:=iv (t:Nat)) (λK c=>bL oo oo (by rw[show e.t-1=(t:Nat)by omega];exact c)) ?_;refine ah (λ_=>aq) (ah (λ_=>Id) (ah (λ_=>WR rfl g) ?_));refine cq kf i.b (by rw[i.len];omega) rfl λS r d=>m S ?_ (Ch.of_oth ⟨d.os,d.tape,d.output,d.size,d.other⟩ (by simp[LB.wv]));rw[zgW D, <-F];rw[oK,i.sI g]at r
 obtain⟨G,I,P,b,O,⟨J,T,x⟩,⟨L,U,z⟩,⟨M,V,A⟩,⟨N,W,B⟩,_,n⟩:=i;exact⟨by simp[G],I,P,r,O.oth d (LN.tp f) (LN.dp f),⟨J,T.oth d (LN.mp f),x⟩,⟨L,U.oth d (LN.rp f),z⟩,⟨M,V.oth d (LN.gp f),A⟩,⟨N,W.oth d (LN.ap f),B⟩,f,n.keep (d.other 1 (LN.zp f))⟩
def zfh(h:PM w q s)(u:co e=true)(D:e.k=7)(G:Kind w q s e K):call Q 308 #[pB q.p,.agg (evC e).toArray] K w:=by
 obtain⟨f,W⟩:=ue u;have E:=fZ u;have C:pX e s=0:=by unfold pX;rw[oI oo,oI oo,oI oo,oI oo,oI oo]
 refine aj (goK func308) (JF (LE.make λP i X=>G.y C P _ i.bel λY K2 n j=>bS rfl ?_));have t:=(i.fresh n).drew;have g:=(h.below (i.fresh n).bel).drew;have d:=g.nd;refine aj (goK func324) (GQ ?_);refine ah (λ_=>lK (v:=pB q.p) t.l rfl) (ah (λ_=>dO) (ah (λ_=>lK (v:=iv e.o) t.e rfl) ?_))
 refine ah (v:=iv (e.q:Nat)) (λK a=>bL oo oo (by rw[show e.o-1=(e.q:Nat)by omega];exact a)) ?_;refine ah (λ_=>aq) (ah (λ_=>Sy) (ah (λ_=>WR rfl f) ?_));refine cq kf g.b (by rw[g.len];omega) rfl λR r c=>j R ?_ (Ch.of_oth ⟨c.os,c.tape,c.output,c.size,c.other⟩ (by simp[LB.wv]));rw[zgX D];rw[oK,g.sL f]at r
 obtain⟨F,H,O,b,N,⟨I,S,x⟩,⟨J,T,z⟩,⟨L,U,A⟩,⟨M,V,B⟩,_,m⟩:=g;exact⟨F,by simp[H],O,r,N.oth c (LN.tp d) (LN.dp d),⟨I,S.oth c (LN.mp d),x⟩,⟨J,T.oth c (LN.rp d),z⟩,⟨L,U.oth c (LN.gp d),A⟩,⟨M,V.oth c (LN.ap d),B⟩,d,m.keep (c.other 1 (LN.zp d))⟩
end
end
end
end Go.Proofs.YtpaghmnnhedccaaGreatDoor
