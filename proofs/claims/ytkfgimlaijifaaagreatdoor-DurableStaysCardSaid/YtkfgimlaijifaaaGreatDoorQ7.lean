import Derived.Test.YtkfgimlaijifaaaGreatDoorQ2
import Derived.Test.YtkfgimlaijifaaaGreatDoorQ1
import Derived.Test.YtkfgimlaijifaaaGreatDoorChecked
import Derived.Test.YtkfgimlaijifaaaGreatDoorQ6
import Derived.Test.YtkfgimlaijifaaaGreatDoorQ5
namespace Go.Proofs.YtkfgimlaijifaaaGreatDoor
set_option maxRecDepth 100000
set_option maxHeartbeats 4000000
open Go.Proofs.Tryz
variable {w w' w0:World}{K:KV}{zf:Nat→Value}{b c n o k B i p g m j s z c2 f d D tb hi:Nat}{a av a2:Option Addr}{x r v:Int}{A:List Int}{E t e:TypeId}{cs vs:List Value}{B1 L0:KE}{P:Program}{T L:List (Int×Int)}{C:Nat→Int}{F:List Nat}{α κ:Type}{V0 W0 X0 Y0 Z0 H1 I1 J1 M1 N1 O1 P1 Q1 T1 U1 V1 X1 Z1 H2 I2 J2 M2 N2 O2 P2 Q2 R2 T2 U2 V2 X2 Z2 H3 I3 J3 M3 N3 O3 Q3 T3 U3 V3 W3 X3 Z3 H4 I4 J4 M4 N4 O4 P4 Q4 T4:Value}
section
open Go.RowKit
def JS (l4 t19 t20:Value)(zf:Nat→Value):List Value:=zT zf 0 4 (l4::zT zf 5 14 (t19::t20::zT zf 21 9 ([])))
def JT (l4:Value)(zf:Nat→Value):List Value:=zT zf 0 4 (l4::zT zf 5 25 ([]))
def nK (K:KV):KE:=kZ f50 [1,1,1,1] K
def yn (K:KV):KE:=ah Q (cd f50 (b1 122)) (nK K) (xx xf (nK K) 0) (rk f50 K)
theorem Sv (h:bT .lss 3 V0 (ci 1) (fun t7 w=>aG t7 false (fun U=>bT .gtr 3 V0 (ci 6) (fun O=>U [V0,O]) w) (fun k=>k [uu,uu] w) fun j=>pick t7 cT (gd j 1) fun u w=>cond u (K (.tuple #[.pointer none,ci 1]) w) (call Q 93 #[] (fun C=>cr Q 183 none fun t13=>cr Q 184 none fun t14=>cr Q 185 none fun t15=>cr Q 186 none fun I=>bld Q 189 #[(3,C),(4,t13),(5,t14),(7,t15),(8,I)] fun J=>box Q 189 J fun M=>yn K (JS M V0 (ci 0) (zV (zV (zV zu 0 [V0]) 2 [.pointer none,ci 0]) 6 [V0,t7,t7,gd j 0,gd j 1,u,C,t13,t14,t15,I,J,M]))) w)) w):Gives Q 50 #[V0] w K:=by
 refine aq func50 kr ?_;revert h;delta yn nK;exact mpF
theorem PU (Inv:Value→World→Prop)(μ:Value→World→Nat)(Z:Inv X0 w)(hs:∀(j:Value) (U:Nat→Value) (w:World) (m:Nat),Inv j w→m=μ j w →
  lS j W0 (fun u w=>cond u (aJ V0 (fun J=>ai Q 189 J 0 fun M=>aL Q 54 M j fun O=>sto Q 4 O cT fun _=>nC j fun C w=>(Inv C w)∧((μ C w)<m)) w) (nK K (JT V0 (zV U 19 [W0,j,u])) w)) w):yn K (JS V0 W0 X0 zf) w:=by
 refine aI (cd f50 (b1 244)) (zr [(5,1),(20,9)]) kr (vP [20] Inv) (vQ [20] μ) Z ?_;intro e' w' hI;have h:=hs _ (zM zf (gd e') (zr [(5,1),(20,9)])) w' _ hI rfl;revert h;generalize (nK K)=qc0;exact mpF
theorem PV (h:K (.tuple #[V0,ci 0]) w):nK K (JT V0 zf) w:=by
 delta nK;exact mpK h
attribute [irreducible] nK yn
def ph (K:KV)(D:Nat):KE:=ah Q (cd f304 [1,1,1,1]) (zh Q Tryz.f304.results.toList K D) xf (zh Q Tryz.f304.results.toList K D)
def cY (K:KV)(D:Nat):KE:=ah Q (cd f304 (b1 63)) (zh Q Tryz.f304.results.toList K D) xf (zh Q Tryz.f304.results.toList K D)
def nF (K:KV)(D:Nat):KE:=ah Q (cd f304 (b1 250)) (cY K D) (xx xf (cY K D) 2) (zh Q Tryz.f304.results.toList K D)
def fN (K:KV)(D:Nat)(B1:KE):KE:=ah Q (cd f304 (b1 4007)) B1 (xx xf (cY K D) 2) (zh Q Tryz.f304.results.toList K D)
def kM (K:KV)(D:Nat)(B1:KE):KE:=ah Q (cd f304 (b1 4006)) (fN K D B1) (xx xf (cY K D) 2) (zh Q Tryz.f304.results.toList K D)
theorem Gu {t15:Value}(h:ld Q 132 Y0 (fun H3=>aJ H3 fun I3=>ai Q 189 I3 3 fun J3=>ld Q 181 J3 fun M3=>call Q 128 #[M3] fun N3=>lN 87 N3 fun O3=>nF K D (V0::W0::X0::Y0::Z0::H1::I1::J1::M1::N1::O1::P1::Q1::T1::U1::t15::V1::X1::Z1::H2::I2::J2::M2::N2::O2::P2::Q2::R2::T2::U2::V2::X2::Z2::H3::I3::J3::M3::N3::O3::(ci 0)::T3::U3::V3::W3::X3::Z3::H4::I4::J4::M4::N4::O4::P4::Q4::T4::[])) w):ph K D (V0::W0::X0::Y0::Z0::H1::I1::J1::M1::N1::O1::P1::Q1::T1::U1::t15::V1::X1::Z1::H2::I2::J2::M2::N2::O2::P2::Q2::R2::T2::U2::V2::X2::Z2::H3::I3::J3::M3::N3::O3::Q3::T3::U3::V3::W3::X3::Z3::H4::I4::J4::M4::N4::O4::P4::Q4::T4::[]) w:=by
 delta ph;revert h;delta nF cY;exact mpF
theorem Dd {K:KV}{D:Nat}{l0 id1 parent2 l3 id4 parent5 t6 t7 path8 t9 n10 t11 n12 t13 t14 t15 t16 t17 t18 t19 t20 t21 t22 t23 t24 t25 t26 t27 t28 t29 t30 t31 t32 t33 t34 t35 t36 t37 t38 t39 t40 t41 t42 t43 t44 t45 t46 t47 t48 t49 t50 t51 t52 t53 t54:Value}{w:World}(Inv:Value→World→Prop)(μ:Value→World→Nat)(h0:Inv t39 w)(hs:∀(t39':Value) (dd:Nat→Value) (w:World) (m:Nat),Inv t39' w→m=μ t39' w →
  lS t39' t38 (fun t40 w=>cond t40 (kM K D (fun e2 w2=>(Inv (gd e2 39) w2)∧((μ (gd e2 39) w2)<m)) (l0::id1::parent2::l3::id4::parent5::t6::t7::path8::t9::n10::t11::(dd 12)::t13::t14::t15::t16::t17::t18::t19::t20::t21::t22::t23::t24::t25::t26::t27::t28::t29::t30::t31::t32::t33::t34::t35::t36::t37::t38::t39'::t40::(dd 41)::(dd 42)::(dd 43)::(dd 44)::(dd 45)::(dd 46)::(dd 47)::(dd 48)::(dd 49)::(dd 50)::t51::t52::t53::t54::[]) w) (cY K D (l0::id1::parent2::l3::id4::parent5::t6::t7::path8::t9::n10::t11::(dd 12)::t13::t14::t15::t16::t17::t18::t19::t20::t21::t22::t23::t24::t25::t26::t27::t28::t29::t30::t31::t32::t33::t34::t35::t36::t37::t38::t39'::t40::(dd 41)::(dd 42)::(dd 43)::(dd 44)::(dd 45)::(dd 46)::(dd 47)::(dd 48)::(dd 49)::(dd 50)::t51::t52::t53::t54::[]) w)) w):nF K D (l0::id1::parent2::l3::id4::parent5::t6::t7::path8::t9::n10::t11::n12::t13::t14::t15::t16::t17::t18::t19::t20::t21::t22::t23::t24::t25::t26::t27::t28::t29::t30::t31::t32::t33::t34::t35::t36::t37::t38::t39::t40::t41::t42::t43::t44::t45::t46::t47::t48::t49::t50::t51::t52::t53::t54::[]) w:=by
 refine aI (cd f304 (b1 500)) (zr [(12,1),(39,12)]) (by kernel_rfl) (vP [39] Inv) (vQ [39] μ) h0 ?_
 intro e' w' hI
 have h:=hs _ (gd e') w' _ hI rfl
 refine Eq.mp (congrArg (fun c=>ah Q c _ _ _ _ w') (by kernel_rfl:(rep [1,1,0] (cd f304 (b1 4006)) (cd f304 (b1 500)))=(cd f304 (b1 500)))) ?_
 revert h
 delta kM fN
 generalize (cd f304 (b1 4006))=xc0
 generalize (cY K D)=qc0
 exact mpF
theorem Dc {t15:Value}(h:aL Q 87 N3 Q3 (fun U3=>ld Q 31 U3 fun V3=>call Q 320 #[M1,V3] fun Z3=>un Q .not Z3 fun H4 w=>cond H4 (ld Q 181 J1 (fun I4=>call Q 306 #[I4,V3,cu 0] fun M4=>fN K D B1 (V0::W0::X0::Y0::Z0::H1::I1::J1::M1::N1::O1::P1::V3::T1::U1::t15::V1::X1::Z1::H2::I2::J2::M2::N2::O2::P2::Q2::R2::T2::U2::V2::X2::Z2::H3::I3::J3::M3::N3::O3::Q3::T3::U3::V3::M1::V3::Z3::H4::I4::V3::M4::N4::O4::P4::Q4::T4::[])) w) (fN K D B1 (V0::W0::X0::Y0::Z0::H1::I1::J1::M1::N1::O1::P1::V3::T1::U1::t15::V1::X1::Z1::H2::I2::J2::M2::N2::O2::P2::Q2::R2::T2::U2::V2::X2::Z2::H3::I3::J3::M3::N3::O3::Q3::T3::U3::V3::M1::V3::Z3::H4::I4::J4::M4::N4::O4::P4::Q4::T4::[]) w)) w):kM K D B1 (V0::W0::X0::Y0::Z0::H1::I1::J1::M1::N1::O1::P1::Q1::T1::U1::t15::V1::X1::Z1::H2::I2::J2::M2::N2::O2::P2::Q2::R2::T2::U2::V2::X2::Z2::H3::I3::J3::M3::N3::O3::Q3::T3::U3::V3::W3::X3::Z3::H4::I4::J4::M4::N4::O4::P4::Q4::T4::[]) w:=by
 delta kM;revert h;generalize (fN K D B1)=qc0;generalize (cY K D)=qc1;exact mpF
theorem De {t15:Value}(h:ld Q 181 J1 (fun O4=>call Q 306 #[O4,W0,X0] fun T4 w=>(dM D w)∧(K T4 (w.putObj D (Obj.deferred none)))) w):cY K D (V0::W0::X0::Y0::Z0::H1::I1::J1::M1::N1::O1::P1::Q1::T1::U1::t15::V1::X1::Z1::H2::I2::J2::M2::N2::O2::P2::Q2::R2::T2::U2::V2::X2::Z2::H3::I3::J3::M3::N3::O3::Q3::T3::U3::V3::W3::X3::Z3::H4::I4::J4::M4::N4::O4::P4::Q4::T4::[]) w:=by
 delta cY;exact mpK h
theorem ul {t15:Value}(h:nC Q3 (fun N4=>B1 (V0::W0::X0::Y0::Z0::H1::I1::J1::M1::N1::O1::P1::Q1::T1::U1::t15::V1::X1::Z1::H2::I2::J2::M2::N2::O2::P2::Q2::R2::T2::U2::V2::X2::Z2::H3::I3::J3::M3::N3::O3::N4::T3::U3::V3::W3::X3::Z3::H4::I4::J4::M4::N4::O4::P4::Q4::T4::[])) w):fN K D B1 (V0::W0::X0::Y0::Z0::H1::I1::J1::M1::N1::O1::P1::Q1::T1::U1::t15::V1::X1::Z1::H2::I2::J2::M2::N2::O2::P2::Q2::R2::T2::U2::V2::X2::Z2::H3::I3::J3::M3::N3::O3::Q3::T3::U3::V3::W3::X3::Z3::H4::I4::J4::M4::N4::O4::P4::Q4::T4::[]) w:=by
 delta fN;revert h;generalize (cY K D)=qc0;exact mpF
attribute [irreducible] cY nF fN kM
noncomputable def lT :Func:={Tryz.f304 with body:=some (zcU (cd f304 (b1 122)))}
def yV (NB:KE)(XB:Nat→KE)(RB:KE):KE:=ah Q (cd lT []) NB XB RB
theorem Gv {XB:Nat→KE}{t15:Value}(h:B1 (V0::W0::X0::Y0::Z0::H1::I1::J1::M1::N1::N2::P1::Q1::T1::U1::t15::V1::X1::Z1::H2::I2::J2::M2::N2::O2::P2::Q2::R2::T2::U2::V2::X2::Z2::H3::I3::J3::M3::N3::O3::Q3::T3::U3::V3::W3::X3::Z3::H4::I4::J4::M4::N4::O4::P4::Q4::T4::[]) w):yV B1 XB L0 (V0::W0::X0::Y0::Z0::H1::I1::J1::M1::N1::O1::P1::Q1::T1::U1::t15::V1::X1::Z1::H2::I2::J2::M2::N2::O2::P2::Q2::R2::T2::U2::V2::X2::Z2::H3::I3::J3::M3::N3::O3::Q3::T3::U3::V3::W3::X3::Z3::H4::I4::J4::M4::N4::O4::P4::Q4::T4::[]) w:=by
 delta yV;exact mpK h
noncomputable def lU :Func:={Tryz.f304 with body:=some (zcY (cd f304 (b1 122)))}
def yW (NB:KE)(XB:Nat→KE)(RB:KE):KE:=ah Q (cd lU []) NB XB RB
theorem Gw {XB:Nat→KE}{t15:Value}(h:aE (fun S w=>hL S 181 J1 fun O2=>hL S 132 Y0 fun Q2=>hN S Q2 fun R2=>hF S 189 R2 4 fun T2=>hL S 183 T2 fun U2=>hld S (lkp Q 183 U2 O1 false) fun X2=>call Q 306 #[O2,O1,X2] (fun Z2=>B1 (V0::W0::X0::Y0::Z0::H1::I1::J1::M1::N1::O1::P1::Q1::T1::U1::t15::V1::X1::Z1::H2::I2::J2::M2::N2::O2::O1::Q2::R2::T2::U2::O1::X2::Z2::H3::I3::J3::M3::N3::O3::Q3::T3::U3::V3::W3::X3::Z3::H4::I4::J4::M4::N4::O4::P4::Q4::T4::[])) w) w.drew):yW B1 XB L0 (V0::W0::X0::Y0::Z0::H1::I1::J1::M1::N1::O1::P1::Q1::T1::U1::t15::V1::X1::Z1::H2::I2::J2::M2::N2::O2::P2::Q2::R2::T2::U2::V2::X2::Z2::H3::I3::J3::M3::N3::O3::Q3::T3::U3::V3::W3::X3::Z3::H4::I4::J4::M4::N4::O4::P4::Q4::T4::[]) w:=by
 delta yW;exact mpK h
theorem I8 (h:box Q 132 V0 (fun J=>call Q 93 #[] fun t13=>alc Q 181 fun t7=>sto Q 181 t7 t13 fun _=>ld Q 132 J fun t14=>aJ t14 fun t15=>ai Q 189 t15 3 fun u=>ld Q 181 u fun C=>call Q 174 #[C,X0] fun j=>call Q 319 #[j] fun I=>rfS Q (cd f304 (b1 122)) (ph K) (fun i D e w=>(i=0)∧(ph K D e w)) (zh Q Tryz.f304.results.toList K) (V0::W0::X0::J::uu::uu::(ci 0)::t7::j::uu::uu::uu::uu::t13::t14::t15::u::C::X0::j::j::I::uu::uu::uu::uu::uu::uu::uu::uu::uu::uu::uu::uu::uu::uu::uu::uu::uu::uu::uu::uu::uu::uu::uu::uu::uu::uu::uu::uu::uu::uu::uu::uu::uu::[])) w):Gives Q 304 #[V0,W0,X0] w K:=Xv func304 kr (Eq.mp kr h)
theorem Ho (h:box Q 132 V0 (fun l2=>box Q 35 W0 fun e3 w=>aE (fun S w=>hF S 35 e3 0 fun t9=>hL S 3 t9 fun a1=>hF S 35 e3 1 fun a3=>hL S 31 a3 fun a2=>hF S 35 e3 0 fun t14=>hL S 3 t14 fun t15=>hld (fun _=>True) (bT .sub 3 t15 (ci 1)) fun a0=>(call Q 303 #[a1,a2] (fun t13=>aU S fun S w=>(alc Q 31 (fun j=>aU S fun S=>alc Q 3 fun u=>aU S fun S=>sto Q 31 j t13 fun _=>aU S fun _=>sto Q 3 u a0 fun _ w=>sL 132 l2 (fun Z=>sL 3 u fun aa=>sN Z fun ad=>sF 189 ad 6 fun af=>sI 187 af aa fun ag=>sL 3 ag fun al=>sti (bT .geq 3 al (ci 5)) fun C w=>aG C false (fun U=>sF 35 e3 6 (fun I=>sL 2 I fun J=>sti (bT .gtr 2 J (ci 140737488355328)) fun am=>U [I,J,am]) w) (fun k=>k [uu,uu,uu] w) fun O=>sti (pick C cT (gd O 2)) fun an w=>cond an (K (.tuple #[Value.nilFunc,ci 6]) w) (ld Q 132 l2 (fun ap=>ld Q 31 j fun ar=>ai Q 35 e3 4 fun av=>ld Q 31 av fun az=>call Q 304 #[ap,ar,az] fun M=>bT .neq 40 M (ci 0) fun aS w=>cond aS (K (.tuple #[Value.nilFunc,M]) w) (K (.tuple #[.func (.func 305) #[] #[l2,j,e3,u],ci 0]) w)) w)) w.drew) w)∧(alc Q 3 (fun u=>aU S fun S=>alc Q 31 fun j=>aU S fun S=>sto Q 31 j t13 fun _=>aU S fun _=>sto Q 3 u a0 fun _ w=>sL 132 l2 (fun Z=>sL 3 u fun aa=>sN Z fun ad=>sF 189 ad 6 fun af=>sI 187 af aa fun ag=>sL 3 ag fun al=>sti (bT .geq 3 al (ci 5)) fun C w=>aG C false (fun U=>sF 35 e3 6 (fun I=>sL 2 I fun J=>sti (bT .gtr 2 J (ci 140737488355328)) fun am=>U [I,J,am]) w) (fun k=>k [uu,uu,uu] w) fun O=>sti (pick C cT (gd O 2)) fun an w=>cond an (K (.tuple #[Value.nilFunc,ci 6]) w) (ld Q 132 l2 (fun ap=>ld Q 31 j fun ar=>ai Q 35 e3 4 fun av=>ld Q 31 av fun az=>call Q 304 #[ap,ar,az] fun M=>bT .neq 40 M (ci 0) fun aS w=>cond aS (K (.tuple #[Value.nilFunc,M]) w) (K (.tuple #[.func (.func 305) #[] #[l2,j,e3,u],ci 0]) w)) w)) w.drew) w)) w)∧((alc Q 31 (fun j=>aU S fun S w=>(call Q 303 #[a1,a2] (fun t13=>aU S fun S=>alc Q 3 fun u=>aU S fun S=>sto Q 31 j t13 fun _=>aU S fun _=>sto Q 3 u a0 fun _ w=>sL 132 l2 (fun Z=>sL 3 u fun aa=>sN Z fun ad=>sF 189 ad 6 fun af=>sI 187 af aa fun ag=>sL 3 ag fun al=>sti (bT .geq 3 al (ci 5)) fun C w=>aG C false (fun U=>sF 35 e3 6 (fun I=>sL 2 I fun J=>sti (bT .gtr 2 J (ci 140737488355328)) fun am=>U [I,J,am]) w) (fun k=>k [uu,uu,uu] w) fun O=>sti (pick C cT (gd O 2)) fun an w=>cond an (K (.tuple #[Value.nilFunc,ci 6]) w) (ld Q 132 l2 (fun ap=>ld Q 31 j fun ar=>ai Q 35 e3 4 fun av=>ld Q 31 av fun az=>call Q 304 #[ap,ar,az] fun M=>bT .neq 40 M (ci 0) fun aS w=>cond aS (K (.tuple #[Value.nilFunc,M]) w) (K (.tuple #[.func (.func 305) #[] #[l2,j,e3,u],ci 0]) w)) w)) w.drew) w)∧(alc Q 3 (fun u=>aU S fun S=>call Q 303 #[a1,a2] fun t13=>aU S fun S=>sto Q 31 j t13 fun _=>aU S fun _=>sto Q 3 u a0 fun _ w=>sL 132 l2 (fun Z=>sL 3 u fun aa=>sN Z fun ad=>sF 189 ad 6 fun af=>sI 187 af aa fun ag=>sL 3 ag fun al=>sti (bT .geq 3 al (ci 5)) fun C w=>aG C false (fun U=>sF 35 e3 6 (fun I=>sL 2 I fun J=>sti (bT .gtr 2 J (ci 140737488355328)) fun am=>U [I,J,am]) w) (fun k=>k [uu,uu,uu] w) fun O=>sti (pick C cT (gd O 2)) fun an w=>cond an (K (.tuple #[Value.nilFunc,ci 6]) w) (ld Q 132 l2 (fun ap=>ld Q 31 j fun ar=>ai Q 35 e3 4 fun av=>ld Q 31 av fun az=>call Q 304 #[ap,ar,az] fun M=>bT .neq 40 M (ci 0) fun aS w=>cond aS (K (.tuple #[Value.nilFunc,M]) w) (K (.tuple #[.func (.func 305) #[] #[l2,j,e3,u],ci 0]) w)) w)) w.drew) w)) w)∧(alc Q 3 (fun u=>aU S fun S w=>(call Q 303 #[a1,a2] (fun t13=>aU S fun S=>alc Q 31 fun j=>aU S fun S=>sto Q 31 j t13 fun _=>aU S fun _=>sto Q 3 u a0 fun _ w=>sL 132 l2 (fun Z=>sL 3 u fun aa=>sN Z fun ad=>sF 189 ad 6 fun af=>sI 187 af aa fun ag=>sL 3 ag fun al=>sti (bT .geq 3 al (ci 5)) fun C w=>aG C false (fun U=>sF 35 e3 6 (fun I=>sL 2 I fun J=>sti (bT .gtr 2 J (ci 140737488355328)) fun am=>U [I,J,am]) w) (fun k=>k [uu,uu,uu] w) fun O=>sti (pick C cT (gd O 2)) fun an w=>cond an (K (.tuple #[Value.nilFunc,ci 6]) w) (ld Q 132 l2 (fun ap=>ld Q 31 j fun ar=>ai Q 35 e3 4 fun av=>ld Q 31 av fun az=>call Q 304 #[ap,ar,az] fun M=>bT .neq 40 M (ci 0) fun aS w=>cond aS (K (.tuple #[Value.nilFunc,M]) w) (K (.tuple #[.func (.func 305) #[] #[l2,j,e3,u],ci 0]) w)) w)) w.drew) w)∧(alc Q 31 (fun j=>aU S fun S=>call Q 303 #[a1,a2] fun t13=>aU S fun S=>sto Q 31 j t13 fun _=>aU S fun _=>sto Q 3 u a0 fun _ w=>sL 132 l2 (fun Z=>sL 3 u fun aa=>sN Z fun ad=>sF 189 ad 6 fun af=>sI 187 af aa fun ag=>sL 3 ag fun al=>sti (bT .geq 3 al (ci 5)) fun C w=>aG C false (fun U=>sF 35 e3 6 (fun I=>sL 2 I fun J=>sti (bT .gtr 2 J (ci 140737488355328)) fun am=>U [I,J,am]) w) (fun k=>k [uu,uu,uu] w) fun O=>sti (pick C cT (gd O 2)) fun an w=>cond an (K (.tuple #[Value.nilFunc,ci 6]) w) (ld Q 132 l2 (fun ap=>ld Q 31 j fun ar=>ai Q 35 e3 4 fun av=>ld Q 31 av fun az=>call Q 304 #[ap,ar,az] fun M=>bT .neq 40 M (ci 0) fun aS w=>cond aS (K (.tuple #[Value.nilFunc,M]) w) (K (.tuple #[.func (.func 305) #[] #[l2,j,e3,u],ci 0]) w)) w)) w.drew) w)) w))) w.drew) w):Gives Q 296 #[V0,W0] w K:=by
 refine aq func296 kr ?_;exact mpK h
def wc (t0 t1 t2 t3:Value)(zf:Nat→Value):List Value:=t0::t1::t2::t3::zT zf 4 38 ([])
def kL (K:KV):KE:=ah Q (cd f305 [1,1,1]) (rk f305 K) xf (rk f305 K)
theorem FE {K:KV}{V0 W0 X0 Y0:Value}{w:World}(h:aE (fun S w=>hL S 132 V0 fun t5=>hN S t5 fun t6=>hF S 189 t6 3 fun t7=>hL S 181 t7 fun t8=>hL S 31 W0 fun t9=>hF S 35 X0 4 fun t10=>hL S 31 t10 fun t11=>call Q 306 #[t8,t9,t11] (fun t12 w=>aE (fun S w=>hL S 132 V0 fun t13=>hN S t13 fun t14=>hF S 189 t14 4 fun t15=>hL S 183 t15 fun t16=>hL S 31 W0 fun t17=>hF S 35 X0 4 fun t18=>hL S 31 t18 fun t19=>cP Q 183 t16 t17 t19 (fun _ w=>sL 132 V0 (fun t20=>sL 3 Y0 fun t21=>sN t20 fun t22=>sF 189 t22 6 fun t23=>sI 187 t23 t21 fun t24=>sL 3 t24 fun t25=>sti (bT .add 3 t25 (ci 1)) fun t26=>sN t20 fun t27=>sF 189 t27 6 fun t28=>sI 187 t28 t21 fun t29=>sto Q 3 t29 t26 fun _=>kL K (wc V0 W0 X0 Y0 (zV zu 5 [t5,t6,t7,t8,t9,t10,t11,t12,t13,t14,t15,t16,t17,t18,t19,t20,t21,t22,t23,t24,t25,t26,t27,t28,t29]))) w.drew) w) w.drew) w) w.drew):Gives Q 305 #[V0,W0,X0,Y0] w K:=by
 refine aq func305 (by kernel_rfl) ?_
 refine Eq.mp (congrArg (fun c=>ah Q c _ _ _ _ w) (by kernel_rfl:(rep [1,1,1] (cd f305 [1,1,1]) (cd f305 []))=(cd f305 []))) ?_
 revert h
 delta kL
 generalize (cd f305 [1,1,1])=xc0
 exact mpF
theorem Db (h:bld Q 77 #[] (fun u=>alc Q 77 fun j=>sto Q 77 j u fun _=>ld Q 3 Y0 fun C=>ai Q 35 X0 6 fun I=>ld Q 2 I fun J=>ai Q 77 j 0 fun M=>aL Q 74 M C fun O=>sto Q 2 O J fun _ w=>aE (fun S w=>hL S 132 V0 fun U=>hN S U fun Z=>hF S 189 Z 5 fun aa=>hL S 184 aa fun ad=>hL S 31 W0 fun af=>hL S 77 j fun ag=>cP Q 184 ad af ag (fun _=>K (.tuple #[])) w) w.drew) w):kL K (wc V0 W0 X0 Y0 zf) w:=by
 delta kL;exact mpK h
attribute [irreducible] kL
def nW (l2 e3 r6:Value)(zf:Nat→Value):List Value:=zf 0::zf 1::l2::e3::zf 4::zf 5::r6::zT zf 7 32 ([])
def il (K:KV):KE:=kZ f297 [1,1,1,1] K
def lg (K:KV):KE:=ah Q (cd f297 (b1 61)) (il K) xf (rk f297 K)
theorem Gt {K:KV}{l0 e1:Value}{w:World}(h:box Q 132 l0 (fun V0=>box Q 35 e1 fun W0 w=>aE (fun S w=>hL S 132 V0 fun t9=>hN S t9 fun t10=>hF S 189 t10 5 fun t11=>hL S 184 t11 fun t12=>hF S 35 W0 4 fun t13=>hL S 31 t13 fun t14=>hld S (lkp Q 184 t12 t14 true) fun t15=>hld S (ext Q t15 0) fun t16=>hld S (ext Q t15 1) fun t17=>alc Q 77 (fun X0=>aU S fun S=>sto Q 77 X0 t16 fun _=>aU S fun _=>un Q .not t17 fun t19 w=>cond t19 (K (.tuple #[Value.nilFunc,ci 9]) w) (sF 35 W0 0 (fun t20=>sL 3 t20 fun t21=>sti (bT .sub 3 t21 (ci 1)) fun t22=>sF 77 X0 0 fun t23=>sI 74 t23 t22 fun t24=>sL 2 t24 fun t25=>sF 35 W0 6 fun t26=>sL 2 t26 fun t27=>sti (bF .add 2 t25 t27) fun t28=>sF 77 X0 0 fun t29=>sI 74 t29 t22 fun t30=>sto Q 2 t30 t28 fun _=>lg K (nW V0 W0 X0 (zV (zV (zV zu 0 [l0,e1]) 4 [Value.nilFunc,ci 0]) 7 [t17,t15,t9,t10,t11,t12,t13,t14,t15,t16,t17,t17,t19,t20,t21,t22,t23,t24,t25,t26,t27,t28,t29,t30]))) w.drew)) w) w.drew) w):Gives Q 297 #[l0,e1] w K:=by
 refine aq func297 (by kernel_rfl) ?_
 refine Eq.mp (congrArg (fun c=>ah Q c _ _ _ _ w) (by kernel_rfl:(rep (b1 61) (cd f297 (b1 61)) (cd f297 []))=(cd f297 []))) ?_
 revert h
 delta lg il
 generalize (cd f297 (b1 61))=xc0
 exact mpF
theorem DY (h:ai Q 35 W0 0 (fun j=>ld Q 3 j fun u=>bT .sub 3 u (ci 1) fun C=>ai Q 77 X0 0 fun I=>aL Q 74 I C fun J=>ld Q 2 J fun M=>bT .gtr 2 M (ci 140737488355328) fun O w=>cond O (K (.tuple #[Value.nilFunc,ci 6]) w) (il K (nW V0 W0 X0 (zV zf 31 [j,u,C,I,J,M,O])) w)) w):lg K (nW V0 W0 X0 zf) w:=by
 delta lg;revert h;generalize (il K)=qc0;exact mpF
theorem DZ (h:K (.tuple #[.func (.func 307) #[] #[X0,V0,W0],ci 0]) w):il K (nW V0 W0 X0 zf) w:=by
 delta il;exact mpK h
attribute [irreducible] il lg
theorem DX (h:aE (fun S w=>hL S 132 W0 fun j=>hN S j fun t4=>hF S 189 t4 5 fun u=>hL S 184 u fun C=>hF S 35 X0 4 fun t7=>hL S 31 t7 fun I=>hL S 77 V0 fun J=>cP Q 184 C I J (fun _=>K (.tuple #[])) w) w.drew):Gives Q 307 #[V0,W0,X0] w K:=by
 refine aq func307 kr ?_;exact mpK h
def xI (turn2 l3 fresh8 t19 t20 t21:Value)(zf:Nat→Value):List Value:=zf 0::zf 1::turn2::l3::zT zf 4 4 (fresh8::zT zf 9 10 (t19::t20::t21::zT zf 22 22 ([])))
def xJ (l3 fresh8:Value)(zf:Nat→Value):List Value:=zT zf 0 3 (l3::zT zf 4 4 (fresh8::zT zf 9 35 ([])))
def gF (K:KV):KE:=kZ f308 [1,1,1] K
def lM (K:KV):KE:=ah Q (cd f308 (b1 58)) (gF K) (xx xf (gF K) 0) (rk f308 K)
theorem Hk (h:box Q 132 H1 (fun W0=>cr Q 184 none fun t13=>alc Q 184 fun X0=>sto Q 184 X0 t13 fun _=>ld Q 132 W0 fun t14=>aJ t14 fun t15=>ai Q 189 t15 3 fun j=>ld Q 181 j fun u=>call Q 174 #[u,I1] fun Y0=>lN 87 Y0 fun Z0=>lM K (xI V0 W0 X0 Y0 Z0 (ci 0) (zV (zV (zV zu 0 [H1,I1]) 6 [Value.nilFunc,ci 0]) 13 [t13,t14,t15,j,u,I1]))) w):Gives Q 308 #[H1,I1,V0] w K:=by
 refine aq func308 kr ?_;revert h;delta lM gF;exact mpF
theorem Fv (Inv:Value→World→Prop)(μ:Value→World→Nat)(h0:Inv H1 w)(hs:∀(j:Value) (dd:Nat→Value) (w:World) (m:Nat),Inv j w→m=μ j w →
  lS j Z0 (fun C w=>cond C (aL Q 87 Y0 j (fun U=>ld Q 31 U fun t24=>ld Q 132 W0 fun Z=>aJ Z fun aa=>ai Q 189 aa 5 fun ad=>ld Q 184 ad fun af=>lkp Q 184 af t24 false fun ag=>aZ Q V0 #[ag] fun I=>ext Q I 0 fun al=>ext Q I 1 fun J=>alc Q 77 fun u=>sto Q 77 u al fun _=>bT .neq 40 J (ci 0) fun am w=>cond am (K (.tuple #[Value.nilFunc,J]) w) (ld Q 184 X0 (fun an=>ld Q 77 u fun ap=>cP Q 184 an t24 ap fun _=>nC j fun M w=>(Inv M w)∧((μ M w)<m)) w)) w) (gF K (xJ W0 X0 (zV (zV dd 2 [V0]) 19 [Y0,Z0,j,C])) w)) w):lM K (xI V0 W0 X0 Y0 Z0 H1 zf) w:=by
 refine aI (cd f308 (b1 116)) (zr [(6,2),(10,3),(21,22)]) kr (vP [21] Inv) (vQ [21] μ) h0 ?_;intro e' w' hI;have h:=hs _ (zM zf (gd e') (zr [(6,2),(10,3),(21,22)])) w' _ hI rfl;revert h;generalize (gF K)=qc0;exact mpF
theorem Fw (h:K (.tuple #[.func (.func 321) #[] #[X0,W0],ci 0]) w):gF K (xJ W0 X0 zf) w:=by
 delta gF;exact mpK h
attribute [irreducible] gF lM
def vY (t1 t5:Value)(zf:Nat→Value):List Value:=zf 0::t1::zT zf 2 3 (t5::zT zf 6 11 ([]))
def nE (K:KV):KE:=ah Q (cd f321 [1,0]) (rk f321 K) (xx xf (rk f321 K) 0) (rk f321 K)
theorem Fu (h:ld Q 184 X0 (fun t4=>rng Q 184 t4 fun W0=>nE K (vY V0 W0 (zV (zV zu 0 [X0]) 4 [t4]))) w):Gives Q 321 #[X0,V0] w K:=by
 refine aq func321 kr ?_;revert h;delta nE;exact mpF
theorem Da (Inv:World→Prop)(μ:World→Nat)(U:Inv w)(Z:∀(dd:Nat→Value) (w:World) (m:Nat),Inv w→m=μ w →
  nxt Q W0 false 0 (fun t6=>ext Q t6 0 fun t7 w=>cond t7 (ent Q W0 (fun M=>ext Q M 0 fun t9=>ext Q M 1 fun j=>alc Q 77 fun J=>sto Q 77 J j fun _ w=>aE (fun S w=>hL S 132 V0 fun u=>hN S u fun C=>hF S 189 C 5 fun t13=>hL S 184 t13 fun t14=>hL S 77 J fun I=>cP Q 184 t14 t9 I (fun _ w=>(Inv w)∧((μ w)<m)) w) w.drew) w) (K (.tuple #[]) w)) w):nE K (vY V0 W0 zf) w:=by
 refine aI (cd f321 [1,0,0]) (zr [(2,2),(6,11)]) kr (fun O w2=>Inv w2) (fun O w2=>μ w2) U ?_;intro e' w' hI;have h:=Z (zM zf (gd e') (zr [(2,2),(6,11)])) w' _ hI rfl;exact mpK h
attribute [irreducible] nE
def xN (l2 e3 q6 do7 f8:Value)(zf:Nat→Value):List Value:=zf 0::zf 1::l2::e3::zf 4::zf 5::q6::do7::f8::zT zf 9 31 ([])
def lV (K:KV):KE:=ah Q (cd f298 (b1 63)) (rk f298 K) xf (rk f298 K)
theorem Hr {K:KV}{l0 e1:Value}{w:World}(h:box Q 132 l0 (fun V0=>box Q 35 e1 fun W0=>ai Q 35 W0 0 fun t9=>ld Q 3 t9 fun t10=>ai Q 35 W0 7 fun t11=>ld Q 31 t11 fun t12=>bld Q 236 #[(0,t10),(1,t12)] fun t13=>alc Q 236 fun X0=>sto Q 236 X0 t13 fun _ w=>sL 132 V0 (fun t14=>sN t14 fun t15=>sF 189 t15 8 fun t16=>sL 186 t16 fun t17=>sL 236 X0 fun t18=>sti (lkp Q 186 t17 t18 false) fun t19 w=>cond t19 (K (.tuple #[Value.nilFunc,ci 14]) w) (aE (fun S w=>hL S 132 V0 fun t20=>hN S t20 fun t21=>hF S 189 t21 3 fun t22=>hL S 181 t22 fun t23=>hF S 35 W0 4 fun t24=>hL S 31 t24 fun t25=>call Q 229 #[t23,t25] (fun t26=>aE fun S w=>hld S (un Q .not t26) fun t27=>cond t27 (K (.tuple #[Value.nilFunc,ci 9]) w) (ld Q 132 V0 (fun t29=>ai Q 35 W0 4 fun t30=>ld Q 31 t30 fun t31=>call Q 308 #[t29,t31,.func (.func 309) #[] #[W0]] fun t33=>ext Q t33 0 fun t34=>ext Q t33 1 fun t35=>alc Q 270 fun Y0=>sto Q 270 Y0 t34 fun _=>lV K (xN V0 W0 X0 Y0 t35 (zV (zV (zV zu 0 [l0,e1]) 4 [Value.nilFunc,ci 0]) 9 [t9,t10,t11,t12,t13,t14,t15,t16,t17,t18,t19,t20,t21,t22,t23,t24,t25,t26,t27,t33,t29,t30,t31,.func (.func 309) #[] #[W0],t33,t34,t35]))) w)) w) w.drew)) w.drew) w):Gives Q 298 #[l0,e1] w K:=by
 refine aq func298 (by kernel_rfl) ?_
 refine Eq.mp (congrArg (fun c=>ah Q c _ _ _ _ w) (by kernel_rfl:(rep (b1 63) (cd f298 (b1 63)) (cd f298 []))=(cd f298 []))) ?_
 revert h
 delta lV
 generalize (cd f298 (b1 63))=xc0
 exact mpF
theorem wd (h:bT .neq 40 Z0 (ci 0) (fun j w=>cond j (K (.tuple #[Value.nilFunc,Z0]) w) (K (.tuple #[.func (.func 311) #[] #[Y0,V0,X0,W0],ci 0]) w)) w):lV K (xN V0 W0 X0 Y0 Z0 zf) w:=by
 delta lV;exact mpK h
attribute [irreducible] lV
theorem FI (h:box Q 77 V0 (fun J=>alc Q 77 fun I=>ld Q 77 J fun M=>ai Q 35 W0 0 fun O=>ld Q 3 O fun t7=>ai Q 35 W0 6 fun U=>ld Q 2 U fun Z=>call Q 310 #[M,t7,Z] fun j=>ext Q j 0 fun u=>ext Q j 1 fun C=>sto Q 77 I u fun _=>aV Q [(some 77,I),(none,C)] K) w):Gives Q 309 #[V0,W0] w K:=by
 refine aq func309 kr ?_;exact mpK h
theorem FJ (h:ld Q 270 V0 (fun t4=>aZ Q t4 #[] fun _ w=>aE (fun S w=>hL S 132 W0 fun t6=>hN S t6 fun t7=>hF S 189 t7 8 fun t8=>hL S 186 t8 fun t9=>hL S 236 X0 fun j=>cP Q 186 t9 j cT (fun _ w=>aE (fun S w=>hL S 132 W0 fun u=>hN S u fun C=>hF S 189 C 7 fun t13=>hL S 185 t13 fun t14=>hL S 236 X0 fun t15=>hF S 35 Y0 0 fun I=>hL S 3 I fun J=>hF S 35 Y0 7 fun M=>hL S 31 M fun O=>hF S 35 Y0 4 fun U=>hL S 31 U fun Z=>hF S 35 Y0 6 fun aa=>hL S 2 aa fun ad=>hld S (bld Q 121 #[(0,J),(1,O),(2,Z),(3,ad)]) fun t24=>cP Q 185 t14 t15 t24 (fun _=>K (.tuple #[])) w) w.drew) w) w.drew) w):Gives Q 311 #[V0,W0,X0,Y0] w K:=by
 refine aq func311 kr ?_;exact mpK h
def sg (l2 e3 q6 of7 g8 is9:Value)(zf:Nat→Value):List Value:=zf 0::zf 1::l2::e3::zf 4::zf 5::q6::of7::g8::is9::zT zf 10 46 ([])
def jL (K:KV):KE:=ah Q (cd f299 [1,1,1,1]) (rk f299 K) xf (rk f299 K)
theorem Hm {K:KV}{l0 e1:Value}{w:World}(h:box Q 132 l0 (fun V0=>box Q 35 e1 fun W0 w=>aE (fun S w=>hF S 35 W0 0 fun t12=>hL S 3 t12 fun t13=>hF S 35 W0 7 fun t14=>hL S 31 t14 fun t15=>hld S (bld Q 236 #[(0,t13),(1,t15)]) fun t16=>hF S 35 W0 0 fun t17=>hL S 3 t17 fun t18=>hF S 35 W0 8 fun t19=>hL S 31 t19 fun t20=>hld S (bld Q 236 #[(0,t18),(1,t20)]) fun t21=>(alc Q 236 (fun X0=>aU S fun S=>alc Q 236 fun Y0=>aU S fun S=>sto Q 236 X0 t16 fun _=>aU S fun _=>sto Q 236 Y0 t21 fun _ w=>sL 132 V0 (fun t22=>sN t22 fun t23=>sF 189 t23 8 fun t24=>sL 186 t24 fun t25=>sL 236 X0 fun t26=>sti (lkp Q 186 t25 t26 false) fun t27 w=>cond t27 (K (.tuple #[Value.nilFunc,ci 14]) w) (aE (fun S w=>hL S 132 V0 fun t29=>hN S t29 fun t30=>hF S 189 t30 7 fun t31=>hL S 185 t31 fun t32=>hL S 236 Y0 fun t33=>hld S (lkp Q 185 t32 t33 true) fun t34=>hld S (ext Q t34 0) fun t35=>hld S (ext Q t34 1) fun t36=>alc Q 121 (fun Z0=>aU S fun S=>sto Q 121 Z0 t35 fun _=>aU S fun _=>jL K (sg V0 W0 X0 Y0 Z0 t36 (zV (zV (zV zu 0 [l0,e1]) 4 [Value.nilFunc,ci 0]) 12 [t12,t13,t14,t15,t16,t17,t18,t19,t20,t21,t22,t23,t24,t25,t26,t27,t34,t29,t30,t31,t32,t33,t34,t35,t36]))) w) w.drew)) w.drew) w)∧(alc Q 236 (fun Y0=>aU S fun S=>alc Q 236 fun X0=>aU S fun S=>sto Q 236 X0 t16 fun _=>aU S fun _=>sto Q 236 Y0 t21 fun _ w=>sL 132 V0 (fun t22=>sN t22 fun t23=>sF 189 t23 8 fun t24=>sL 186 t24 fun t25=>sL 236 X0 fun t26=>sti (lkp Q 186 t25 t26 false) fun t27 w=>cond t27 (K (.tuple #[Value.nilFunc,ci 14]) w) (aE (fun S w=>hL S 132 V0 fun t29=>hN S t29 fun t30=>hF S 189 t30 7 fun t31=>hL S 185 t31 fun t32=>hL S 236 Y0 fun t33=>hld S (lkp Q 185 t32 t33 true) fun t34=>hld S (ext Q t34 0) fun t35=>hld S (ext Q t34 1) fun t36=>alc Q 121 (fun Z0=>aU S fun S=>sto Q 121 Z0 t35 fun _=>aU S fun _=>jL K (sg V0 W0 X0 Y0 Z0 t36 (zV (zV (zV zu 0 [l0,e1]) 4 [Value.nilFunc,ci 0]) 12 [t12,t13,t14,t15,t16,t17,t18,t19,t20,t21,t22,t23,t24,t25,t26,t27,t34,t29,t30,t31,t32,t33,t34,t35,t36]))) w) w.drew)) w.drew) w)) w.drew) w):Gives Q 299 #[l0,e1] w K:=by
 refine aq func299 (by kernel_rfl) ?_
 refine Eq.mp (congrArg (fun c=>ah Q c _ _ _ _ w) (by kernel_rfl:(rep [1,1,1,1] (cd f299 [1,1,1,1]) (cd f299 []))=(cd f299 []))) ?_
 revert h
 delta jL
 generalize (cd f299 [1,1,1,1])=xc0
 exact mpF
theorem FC (h:un Q .not H1 (fun u w=>aG u false (fun U=>ai Q 121 Z0 4 (fun C=>ld Q 31 C fun I=>bT .neq 31 I (cu 0) fun Z=>U [C,I,Z]) w) (fun k=>k [uu,uu,uu] w) fun O=>pick u cT (gd O 2) fun aa w=>cond aa (K (.tuple #[Value.nilFunc,ci 12]) w) (ld Q 132 V0 (fun ad=>ai Q 121 Z0 2 fun af=>ld Q 31 af fun ag=>call Q 308 #[ad,ag,.func (.func 312) #[] #[W0,Z0]] fun J=>ext Q J 0 fun al=>ext Q J 1 fun M=>alc Q 270 fun j=>sto Q 270 j al fun _=>bT .neq 40 M (ci 0) fun am w=>cond am (K (.tuple #[Value.nilFunc,M]) w) (K (.tuple #[.func (.func 314) #[] #[j,V0,X0,W0,Z0,Y0],ci 0]) w)) w)) w):jL K (sg V0 W0 X0 Y0 Z0 H1 zf) w:=by
 delta jL;exact mpK h
attribute [irreducible] jL
theorem FA (h:box Q 77 V0 (fun I=>alc Q 77 fun t4=>ld Q 77 I fun J=>ai Q 35 W0 0 fun t7=>ld Q 3 t7 fun M=>ai Q 121 X0 3 fun O=>ld Q 2 O fun u=>call Q 313 #[J,M,u] fun j=>ext Q j 0 fun C=>ext Q j 1 fun t13=>sto Q 77 t4 C fun _=>aV Q [(some 77,t4),(none,t13)] K) w):Gives Q 312 #[V0,W0,X0] w K:=by
 refine aq func312 kr ?_;exact mpK h
theorem FB (h:ld Q 270 V0 (fun t6=>aZ Q t6 #[] fun _ w=>aE (fun S w=>hL S 132 W0 fun t8=>hN S t8 fun t9=>hF S 189 t9 8 fun j=>hL S 186 j fun u=>hL S 236 X0 fun C=>cP Q 186 u C cT (fun _=>ai Q 35 Y0 7 fun t13=>ld Q 31 t13 fun t14=>ai Q 121 Z0 4 fun t15=>sto Q 31 t15 t14 fun _ w=>aE (fun S w=>hL S 132 W0 fun I=>hN S I fun J=>hF S 189 J 7 fun M=>hL S 185 M fun O=>hL S 236 H1 fun U=>hL S 121 Z0 fun Z=>cP Q 185 O U Z (fun _=>K (.tuple #[])) w) w.drew) w) w.drew) w):Gives Q 314 #[V0,W0,X0,Y0,Z0,H1] w K:=by
 refine aq func314 kr ?_;exact mpK h
def xM (l2 e3 r6 f8:Value)(zf:Nat→Value):List Value:=zf 0::zf 1::l2::e3::zf 4::zf 5::r6::zf 7::f8::zT zf 9 38 ([])
def lR (K:KV):KE:=ah Q (cd f300 [1,1,1,1]) (rk f300 K) xf (rk f300 K)
theorem Hq {K:KV}{l0 e1:Value}{w:World}(h:box Q 132 l0 (fun V0=>box Q 35 e1 fun W0 w=>aE (fun S w=>hL S 132 V0 fun t10=>hN S t10 fun t11=>hF S 189 t11 5 fun t12=>hL S 184 t12 fun t13=>hF S 35 W0 4 fun t14=>hL S 31 t14 fun t15=>hld S (lkp Q 184 t13 t15 true) fun t16=>hld S (ext Q t16 0) fun t17=>hld S (ext Q t16 1) fun t18=>alc Q 77 (fun X0=>aU S fun S=>sto Q 77 X0 t17 fun _=>aU S fun _=>un Q .not t18 fun t21 w=>cond t21 (K (.tuple #[Value.nilFunc,ci 9]) w) (sL 132 V0 (fun t23=>sF 35 W0 5 fun t24=>sL 3 t24 fun t25=>sti (bT .sub 3 t25 (ci 1)) fun t26=>sN t23 fun t27=>sF 189 t27 0 fun t28=>sI 54 t28 t26 fun t29=>sL 4 t29 fun t30=>sti (un Q .not t30) fun t31 w=>cond t31 (K (.tuple #[Value.nilFunc,ci 10]) w) (ld Q 77 X0 (fun t33=>ai Q 35 W0 0 fun t34=>ld Q 3 t34 fun t35=>ai Q 35 W0 5 fun t36=>ld Q 3 t36 fun t37=>ai Q 35 W0 6 fun t38=>ld Q 2 t38 fun t39=>call Q 315 #[t33,t35,t37,t39] fun t40=>ext Q t40 0 fun t41=>ext Q t40 1 fun t42=>sto Q 77 X0 t41 fun _=>lR K (xM V0 W0 X0 t42 (zV (zV (zV (zV zu 0 [l0,e1]) 4 [Value.nilFunc,ci 0]) 7 [t18]) 9 [t16,t10,t11,t12,t13,t14,t15,t16,t17,t18,t21,t18,t21,t31,t23,t24,t25,t26,t27,t28,t29,t30,t31,t40,t33,t34,t35,t36,t37,t38,t39,t40,t41,t42]))) w)) w.drew)) w) w.drew) w):Gives Q 300 #[l0,e1] w K:=by
 refine aq func300 (by kernel_rfl) ?_
 refine Eq.mp (congrArg (fun c=>ah Q c _ _ _ _ w) (by kernel_rfl:(rep [1,1,1,1] (cd f300 [1,1,1,1]) (cd f300 []))=(cd f300 []))) ?_
 revert h
 delta lR
 generalize (cd f300 [1,1,1,1])=xc0
 exact mpF
theorem FH (h:bT .neq 40 Y0 (ci 0) (fun j w=>cond j (K (.tuple #[Value.nilFunc,Y0]) w) (K (.tuple #[.func (.func 316) #[] #[X0,V0,W0],ci 0]) w)) w):lR K (xM V0 W0 X0 Y0 zf) w:=by
 delta lR;exact mpK h
attribute [irreducible] lR
theorem FG (h:aE (fun S w=>hL S 132 W0 fun j=>hN S j fun t4=>hF S 189 t4 5 fun u=>hL S 184 u fun C=>hF S 35 X0 4 fun t7=>hL S 31 t7 fun I=>hL S 77 V0 fun J=>cP Q 184 C I J (fun _=>K (.tuple #[])) w) w.drew):Gives Q 316 #[V0,W0,X0] w K:=by
 refine aq func316 kr ?_;exact mpK h
theorem Hn (h:box Q 132 V0 (fun u=>box Q 35 W0 fun j=>K (.tuple #[.func (.func 317) #[] #[u,j],ci 0])) w):Gives Q 301 #[V0,W0] w K:=by
 refine aq func301 kr ?_;exact mpK h
theorem FD (h:sL 132 V0 (fun t2=>sF 35 W0 5 fun j=>sL 3 j fun t4=>sti (bT .sub 3 t4 (ci 1)) fun u=>sN t2 fun C=>sF 189 C 0 fun t7=>sI 54 t7 u fun I=>sto Q 4 I cT fun _=>K (.tuple #[])) w.drew):Gives Q 317 #[V0,W0] w K:=by
 refine aq func317 kr ?_;exact mpK h
theorem Gs (h:box Q 132 V0 (fun u=>box Q 35 W0 fun j=>K (.tuple #[.func (.func 318) #[] #[u,j],ci 0])) w):Gives Q 302 #[V0,W0] w K:=by
 refine aq func302 kr ?_;exact mpK h
theorem DW (h:sL 132 V0 (fun t2=>sF 35 W0 0 fun j=>sL 3 j fun t4=>sti (bT .sub 3 t4 (ci 1)) fun u=>sN t2 fun C=>sF 189 C 1 fun t7=>sI 54 t7 u fun I=>sto Q 4 I cT fun _=>K (.tuple #[])) w.drew):Gives Q 318 #[V0,W0] w K:=by
 refine aq func318 kr ?_;exact mpK h
def xK (l0 e3 t20:Value)(zf:Nat→Value):List Value:=l0::zf 1::zf 2::e3::zT zf 4 16 (t20::zT zf 21 34 ([]))
def lQ (l0 e3 t28:Value)(zf:Nat→Value):List Value:=l0::zf 1::zf 2::e3::zT zf 4 24 (t28::zT zf 29 26 ([]))
def xL (l0 e3:Value)(zf:Nat→Value):List Value:=l0::zf 1::zf 2::e3::zT zf 4 51 ([])
def db (K:KV):KE:=kZ f160 [1,1] K
def lO (K:KV):KE:=ah Q (cd f160 (b1 1663)) (db K) (xx xf (db K) 0) (rk f160 K)
def gG (K:KV):KE:=kY f160 (b1 6655) (db K) (xx xf (db K) 0) K
def lP (K:KV):KE:=ah Q (cd f160 (b1 13309)) (gG K) (xx xf (db K) 0) (rk f160 K)
theorem Hl {K:KV}{V0 e1:Value}{w:World}(h:box Q 35 e1 (fun W0=>bT .eql 132 V0 (.pointer none) fun t8 w=>cond t8 (K (.tuple #[Value.nilFunc,ci 2]) w) (ld Q 35 W0 (fun t10=>call Q 106 #[t10] fun t11=>un Q .not t11 fun t12 w=>cond t12 (K (.tuple #[Value.nilFunc,ci 1]) w) (aE (fun S w=>hN S V0 fun t15=>hF S 189 t15 2 fun t16=>hL S 33 t16 fun t17=>hL S 35 W0 fun t18=>call Q 161 #[t17,t18] (fun t19=>aE fun _ w=>cond t19 (K (.tuple #[Value.nilFunc,ci 14]) w) (aE (fun S w=>hN S V0 fun t22=>hF S 189 t22 2 fun t23=>hL S 33 t23 fun t24=>hL S 35 W0 fun t25=>call Q 162 #[t24,t25] (fun t26=>aE fun S w=>hld S (un Q .not t26) fun t27=>lO K (xK V0 W0 t27 (zV (zV (zV zu 1 [e1]) 4 [Value.nilFunc,ci 0,t8,V0,t8,t12,t10,t11,t12,t19,V0,t15,t16,t17,t18,t19]) 21 [V0,t22,t23,t24,t25,t26,t27])) w) w) w.drew)) w) w.drew)) w)) w):Gives Q 160 #[V0,e1] w K:=by
 refine aq func160 (by kernel_rfl) ?_
 refine Eq.mp (congrArg (fun c=>ah Q c _ _ _ _ w) (by kernel_rfl:(rep (b1 1663) (cd f160 (b1 1663)) (cd f160 []))=(cd f160 []))) ?_
 revert h
 delta lO db
 generalize (cd f160 (b1 1663))=xc0
 exact mpF
theorem Fx (h:cond X0 (K (.tuple #[Value.nilFunc,ci 13]) w) (sF 35 W0 0 (fun t30=>sL 3 t30 fun t31=>sti (bT .sub 3 t31 (ci 1)) fun t32=>sN V0 fun t33=>sF 189 t33 0 fun t34=>sI 54 t34 t32 fun t35=>sL 4 t35 fun t36=>sti (un Q .not t36) fun t37=>lP K (lQ V0 W0 t37 (zV (zV zf 20 [X0]) 29 [V0,t30,t31,t32,t33,t34,t35,t36,t37]))) w.drew)):lO K (xK V0 W0 X0 zf) w:=by
 delta lO
 refine Eq.mp (congrArg (fun c=>ah Q c _ _ _ _ w) (by kernel_rfl:(rep [1,0,1] (cd f160 (b1 13309)) (cd f160 (b1 1663)))=(cd f160 (b1 1663)))) ?_
 revert h
 delta lP gG
 generalize (cd f160 (b1 13309))=xc0
 generalize (db K)=qc0
 exact mpF
theorem Fy (h:cond Y0 (gG K (lQ V0 W0 Y0 zf) w) (sF 35 W0 0 (fun j=>sL 3 j fun u=>sti (bT .sub 3 u (ci 1)) fun C=>sN V0 fun I=>sF 189 I 1 fun J=>sI 54 J C fun M=>sL 4 M fun O=>gG K (lQ V0 W0 O (zV zf 38 [V0,j,u,C,I,J,M,O]))) w.drew)):lP K (lQ V0 W0 Y0 zf) w:=by
 delta lP;revert h;generalize (gG K)=qc0;generalize (db K)=qc1;exact mpF
theorem vZ (h:cond Y0 (K (.tuple #[Value.nilFunc,ci 10]) w) (db K (xL V0 W0 (zV zf 28 [Y0])) w)):gG K (lQ V0 W0 Y0 zf) w:=by
 delta gG;revert h;generalize (db K)=qc0;exact mpF
theorem Fz (h:aE (fun S w=>hF S 35 W0 3 fun u=>hL S 5 u fun C=>hI S 309 (pA 0 0) C fun I=>hL S 308 I fun J=>hL S 35 W0 fun M=>aZ Q J #[V0,M] (fun j=>aE fun S w=>hld S (ext Q j 0) fun O=>hld S (ext Q j 1) fun U=>K (.tuple #[O,U]) w) w) w.drew):db K (xL V0 W0 zf) w:=by
 delta db;exact mpK h
attribute [irreducible] db lO gG lP
theorem Hg (h:box Q 35 W0 (fun e3=>ld Q 35 e3 fun t9=>call Q 160 #[V0,t9] fun j=>ext Q j 0 fun I=>ext Q j 1 fun u=>bT .neq 40 u (ci 0) fun t14 w=>cond t14 (K u w) (aZ Q I #[] (fun _ w=>sF 35 e3 0 (fun J=>sL 3 J fun M=>sti (bT .sub 3 M (ci 1)) fun C=>sN V0 fun O=>sF 189 O 2 fun U=>sI 33 U C fun t24=>sL 31 t24 fun Z=>sti (bT .add 31 Z (cu 1)) fun aa=>sN V0 fun ad=>sF 189 ad 2 fun af=>sI 33 af C fun ag=>sto Q 31 ag aa fun _=>K (ci 0)) w.drew) w)) w):Gives Q 107 #[V0,W0] w K:=by
 refine aq func107 kr ?_;exact mpK h
def grC (x:GR):List Value:=[iv x.o,u6 x.q,u6 x.n,iv x.a,u6 x.b]
theorem iG (x:GR):(grC x).length=5:=rfl
theorem uF (x:GR):∀v∈grC x,v.oneCell'=true:=by simp[grC,u6,iv,Value.oneCell']
theorem AN (h:K (pA b (o+0)) w):ai Q 121 (pA b o) 0 K w:=aH kr h
theorem IL (h:K (pA b (o+1)) w):ai Q 121 (pA b o) 1 K w:=aH kr h
theorem Ti (h:K (pA b (o+2)) w):ai Q 121 (pA b o) 2 K w:=aH kr h
theorem Tj (h:K (pA b (o+3)) w):ai Q 121 (pA b o) 3 K w:=aH kr h
theorem NN (h:K (pA b (o+4)) w):ai Q 121 (pA b o) 4 K w:=aH kr h
end
section
attribute [local irreducible] bin un conv call aZ blt slc ai fld aL idx lkp cP eP eSt rng nxt ent ext alc box bld bg ld sto aJ cr mkS ifc pick rdy wts aG sti cond aV Gives ah dy dP cOp
section
open Go.RowKit Go.ChangeMaps
structure LB where
 p:Nat
 t:Nat
 tp:Nat
 pm:Nat
 rm:Nat
 gm:Nat
 am:Nat
def LB.wv (q:LB):List Nat:=[q.p,q.tp,q.pm,q.rm,q.gm,q.am]
def LB.l (q:LB):List Nat:=[q.p,q.t,q.tp,q.pm,q.rm,q.gm,q.am,0]
theorem LB.wl {q:LB}:∀k∈q.wv,k∈q.l:=by
 intro k h;simp only[LB.wv,LB.l,List.mem_cons,List.not_mem_nil,or_false]at h ⊢;omega
section
variable {q:LB}
theorem LN.pt (h:q.l.Nodup):q.p≠q.t:=fun e=>by simp[LB.l,e]at h
theorem LN.pd (h:q.l.Nodup):q.p≠q.tp:=fun e=>by simp[LB.l,e]at h
theorem LN.pm (h:q.l.Nodup):q.p≠q.pm:=fun e=>by simp[LB.l,e]at h
theorem LN.pr (h:q.l.Nodup):q.p≠q.rm:=fun e=>by simp[LB.l,e]at h
theorem LN.pg (h:q.l.Nodup):q.p≠q.gm:=fun e=>by simp[LB.l,e]at h
theorem LN.pa (h:q.l.Nodup):q.p≠q.am:=fun e=>by simp[LB.l,e]at h
theorem LN.pz (h:q.l.Nodup):q.p≠0:=fun e=>by simp[LB.l,e]at h
theorem LN.tm (h:q.l.Nodup):q.t≠q.pm:=fun e=>by simp[LB.l,e]at h
theorem LN.tr (h:q.l.Nodup):q.t≠q.rm:=fun e=>by simp[LB.l,e]at h
theorem LN.tg (h:q.l.Nodup):q.t≠q.gm:=fun e=>by simp[LB.l,e]at h
theorem LN.ta (h:q.l.Nodup):q.t≠q.am:=fun e=>by simp[LB.l,e]at h
theorem LN.dm (h:q.l.Nodup):q.tp≠q.pm:=fun e=>by simp[LB.l,e]at h
theorem LN.dr (h:q.l.Nodup):q.tp≠q.rm:=fun e=>by simp[LB.l,e]at h
theorem LN.dg (h:q.l.Nodup):q.tp≠q.gm:=fun e=>by simp[LB.l,e]at h
theorem LN.da (h:q.l.Nodup):q.tp≠q.am:=fun e=>by simp[LB.l,e]at h
theorem LN.dz (h:q.l.Nodup):q.tp≠0:=fun e=>by simp[LB.l,e]at h
theorem LN.mr (h:q.l.Nodup):q.pm≠q.rm:=fun e=>by simp[LB.l,e]at h
theorem LN.mg (h:q.l.Nodup):q.pm≠q.gm:=fun e=>by simp[LB.l,e]at h
theorem LN.ma (h:q.l.Nodup):q.pm≠q.am:=fun e=>by simp[LB.l,e]at h
theorem LN.mz (h:q.l.Nodup):q.pm≠0:=fun e=>by simp[LB.l,e]at h
theorem LN.rg (h:q.l.Nodup):q.rm≠q.gm:=fun e=>by simp[LB.l,e]at h
theorem LN.ra (h:q.l.Nodup):q.rm≠q.am:=fun e=>by simp[LB.l,e]at h
theorem LN.rz (h:q.l.Nodup):q.rm≠0:=fun e=>by simp[LB.l,e]at h
theorem LN.ga (h:q.l.Nodup):q.gm≠q.am:=fun e=>by simp[LB.l,e]at h
theorem LN.gz (h:q.l.Nodup):q.gm≠0:=fun e=>by simp[LB.l,e]at h
theorem LN.az (h:q.l.Nodup):q.am≠0:=fun e=>by simp[LB.l,e]at h
theorem LN.tp (h:q.l.Nodup):q.t≠q.p:=(LN.pt h).symm
theorem LN.dp (h:q.l.Nodup):q.tp≠q.p:=(LN.pd h).symm
theorem LN.mp (h:q.l.Nodup):q.pm≠q.p:=(LN.pm h).symm
theorem LN.md (h:q.l.Nodup):q.pm≠q.tp:=(LN.dm h).symm
theorem LN.rp (h:q.l.Nodup):q.rm≠q.p:=(LN.pr h).symm
theorem LN.rd (h:q.l.Nodup):q.rm≠q.tp:=(LN.dr h).symm
theorem LN.rm (h:q.l.Nodup):q.rm≠q.pm:=(LN.mr h).symm
theorem LN.gp (h:q.l.Nodup):q.gm≠q.p:=(LN.pg h).symm
theorem LN.gd (h:q.l.Nodup):q.gm≠q.tp:=(LN.dg h).symm
theorem LN.gm (h:q.l.Nodup):q.gm≠q.pm:=(LN.mg h).symm
theorem LN.gr (h:q.l.Nodup):q.gm≠q.rm:=(LN.rg h).symm
theorem LN.ap (h:q.l.Nodup):q.am≠q.p:=(LN.pa h).symm
theorem LN.ad (h:q.l.Nodup):q.am≠q.tp:=(LN.da h).symm
theorem LN.am (h:q.l.Nodup):q.am≠q.pm:=(LN.ma h).symm
theorem LN.ar (h:q.l.Nodup):q.am≠q.rm:=(LN.ra h).symm
theorem LN.ag (h:q.l.Nodup):q.am≠q.gm:=(LN.ga h).symm
theorem LN.zp (h:q.l.Nodup):0≠q.p:=(LN.pz h).symm
theorem LN.zd (h:q.l.Nodup):0≠q.tp:=(LN.dz h).symm
theorem LN.zm (h:q.l.Nodup):0≠q.pm:=(LN.mz h).symm
theorem LN.zr (h:q.l.Nodup):0≠q.rm:=(LN.rz h).symm
theorem LN.zg (h:q.l.Nodup):0≠q.gm:=(LN.gz h).symm
theorem LN.za (h:q.l.Nodup):0≠q.am:=(LN.az h).symm
end
def kindsV :List Value:=[.nilFunc,.func (.func 296) #[] #[],.func (.func 297) #[] #[],.func (.func 298) #[] #[],.func (.func 299) #[] #[],.func (.func 300) #[] #[],.func (.func 301) #[] #[],.func (.func 302) #[] #[]]
def KD (w:World):Prop:=∃E fr,w.heap[0]? = some (.cells kindsV.toArray E fr)
theorem KD.lt (h:KD w):0<w.heap.size:=by obtain⟨E,j,h⟩:=h;exact(Array.getElem?_eq_some_iff.1 h).1
theorem KD.keep (h:KD w)(u:w'.heap[0]? = w.heap[0]?):KD w':=by obtain⟨E,j,h⟩:=h;exact⟨E,j,u.trans h⟩
theorem KD.below (h:KD w)(j:Below w.heap.size w w'):KD w':=h.keep (j.block 0 h.lt)
def Jv (N:List ND):List Int:=(List.range 6).map fun k=>((iy N ((k:Nat)+1):Nat):Int)
def plC (q:LB)(s:PL):List Value:=s.I.map .bool++(s.L.map .bool++(vCs s.V++([pB q.t,.map (some q.pm),.map (some q.rm)]++((Jv s.N).map iv++[.map (some q.gm),.map (some q.am)]))))
def rqV (x:Int×Int):Value:=.agg #[ci x.1,.int .u64 x.2]
def rgV (A:List Int):Value:=.agg (A.map iv).toArray
def grV (g:GR):Value:=.agg (grC g).toArray
def rgL (N:List ND):List (Int×List Int):=N.map fun x=>(x.id,x.A)
def grL (G:List GR):List ((Int×Int)×GR):=G.map fun g=>((g.o,g.q),g)
theorem rqK :Ev Q 236 rqV:=by
 refine ST _ underlying236 (fun x=>⟨_,rfl⟩) (fun x y h=>?_) (fun w M x=>by kernel_rfl) (fun w x y=>⟨decide (x=y),?_,?_⟩) (fun x=>?_)
 ·simp only[rqV,Value.agg.injEq]at h;simp at h;exact Prod.ext h.1 h.2
 ·have C:Tryz.prog.underlying 236=some (.struct (Tryz.prog.fieldsOf 236)):=by kernel_rfl
  have I:Tryz.prog.stoodInHeld 236=false:=by kernel_rfl
  have O:=underlying3;have U:=underlying31;have J:=Tryz.isAgg3;have a2:=Tryz.isAgg31;have Z:=Tryz.sizeOf3;have z2:=Tryz.sizeOf31;simp only[rqV];show (Op.equalIn (9999+1) _ _ _).run _ w=_;rw[run_equalIn_agg w 9999 236 _ _ C I];simp only[Program.fieldsOf,underlying236]
  go_simp
  by_cases j:x.1=y.1<;>by_cases u:x.2=y.2<;>simp[j,u,Prod.ext_iff]
 ·simp[rqV];constructor
  ·rintro rfl;exact⟨rfl,rfl⟩
  ·rintro⟨j,u⟩;exact Prod.ext j u
 ·unfold Instr.sameBits;simp[rqV];constructor<;>(unfold Instr.sameBits;simp)
structure PM (w:World) (q:LB) (s:PL):Prop where
 i6:s.I.length=6
 l6:s.L.length=6
 v6:s.V.length=6
 b:blk w q.p 189 (plC q s)
 tm:TreeM w q.t q.tp (tr s.N)
 pm:∃m,MB u6 u6 w q.pm m∧m.Perm (tr s.N)
 rm:∃m,MB u6 rgV w q.rm m∧m.Perm (rgL s.N)
 gm:∃m,MB rqV grV w q.gm m∧m.Perm (grL s.G)
 am:∃m,MB rqV Value.bool w q.am m∧∀o r,1≤o→o≤6→dK m (o,r)=if od s.R (o-1).toNat r=true then some true else none
 nd:q.l.Nodup
 kd:KD w
section
variable {w w':World}{q:LB}{s:PL}
theorem PM.keep (h:PM w q s)(j:∀k∈q.l,k<w.heap.size→w'.heap[k]? = w.heap[k]?):PM w' q s:=by
 have u:∀{k:Nat} {E:TypeId} {cs:List Value},k∈q.l→blk w k E cs→blk w' k E cs:=fun {k E cs} hm u=>by
  have:=j k hm u.lt
  unfold blk at *; rw[this];exact u
 obtain⟨i6,l6,v6,b,C,⟨m1,M,e1⟩,⟨m2,O,e2⟩,⟨m3,U,e3⟩,⟨m4,Z,e4⟩,nd,I⟩:=h;obtain⟨m0,J,e0⟩:=C.mp
 exact⟨i6,l6,v6,u (by simp[LB.l]) b,⟨u (by simp[LB.l]) C.bt,⟨m0,J.kept (j _ (by simp[LB.l]) J.lt),e0⟩,C.uq⟩,⟨m1,M.kept (j _ (by simp[LB.l]) M.lt),e1⟩,⟨m2,O.kept (j _ (by simp[LB.l]) O.lt),e2⟩,⟨m3,U.kept (j _ (by simp[LB.l]) U.lt),e3⟩,⟨m4,Z.kept (j _ (by simp[LB.l]) Z.lt),e4⟩,nd,I.keep (j _ (by simp[LB.l]) I.lt)⟩
theorem PM.below (h:PM w q s)(j:Below w.heap.size w w'):PM w' q s:=h.keep fun k _ u=>j.block k u
theorem PM.ch (h:PM w q s)(j:Ch F w w')(hF:∀k∈q.l,k∉F):PM w' q s:=h.keep fun k u C=>j.block k C (hF k u)
theorem PM.drew (h:PM w q s):PM w.drew q s:=h.below (Below.refl _ w).drew
theorem PM.lt (h:PM w q s):∀k∈q.l,k<w.heap.size:=by
 obtain⟨i6,l6,v6,b,u,⟨m1,I,e1⟩,⟨m2,J,U⟩,⟨m3,M,Z⟩,⟨m4,O,e4⟩,nd,C⟩:=h;intro k j;simp only[LB.l,List.mem_cons,List.not_mem_nil,or_false]at j;rcases j with rfl|rfl|rfl|rfl|rfl|rfl|rfl|rfl
 ·exact b.lt
 ·exact u.lt.1
 ·exact u.lt.2
 ·exact I.lt
 ·exact J.lt
 ·exact M.lt
 ·exact O.lt
 ·exact C.lt
/-! ## Its cells -/
theorem iT {A B:List Value}(h:A.length=n)(k:Nat):(A++B)[n+k]? = B[k]? := by
 rw[List.getElem?_append_right oo,h,Nat.add_sub_cancel_left]
theorem Pc {A B:List Value}(h:A.length=n)(j:k<n):(A++B)[k]? = A[k]? := List.getElem?_append_left oo
theorem uw {A B:List Value}(h:A.length=n)(k:Nat)(v:Value):(A++B).set (n+k) v=A++B.set k v:=by
 rw[List.set_append_right _ _ oo,h,Nat.add_sub_cancel_left]
theorem LY {A B:List Value}(h:A.length=n)(j:k<n)(v:Value):(A++B).set k v=A.set k v++B:=List.set_append_left _ _ oo
theorem TS {f:α→Value}{L:List α}{d:α}(h:k<L.length):(L.map f)[k]? = some (f (L.getD k d)):=by
 rw[List.getElem?_map,gE h];simp[List.getD,h]
theorem uf {N:List ND}:(Jv N).length=6:=by simp[Jv]
theorem Rd {N:List ND}(h:k<6):(Jv N).getD k 0=((iy N ((k:Nat)+1):Nat):Int):=by
 unfold Jv;rw[List.getD_eq_getElem?_getD,List.getElem?_map,List.getElem?_range h];rfl
theorem PM.cI (h:PM w q s)(j:k<6):(plC q s)[k]? = some (.bool (s.I.getD k false)):=by
 unfold plC;rw[Pc (n:=6) (by simp[h.i6]) j,TS (by rw[h.i6];exact j)]
theorem PM.cL (h:PM w q s)(j:k<6):(plC q s)[6+k]? = some (.bool (s.L.getD k false)):=by
 unfold plC;rw[iT (by simp[h.i6]),Pc (n:=6) (by simp[h.l6]) j,TS (by rw[h.l6];exact j)]
theorem PM.cV (h:PM w q s)(j:k<6):(plC q s)[12+k]? = some (u6 (s.V.getD k 0)):=by
 unfold plC;rw[show 12+k=6+(6+k)by omega,iT (by simp[h.i6]),iT (by simp[h.l6]),Pc (n:=6) (by rw[bo,h.v6]) j,yY h.v6 j]
theorem PM.cX (h:PM w q s)(k:Nat):(plC q s)[18+k]? = ([pB q.t,.map (some q.pm),.map (some q.rm)]++((Jv s.N).map iv++[.map (some q.gm),.map (some q.am)]))[k]? := by
 unfold plC;rw[show 18+k=6+(6+(6+k))by omega,iT (by simp[h.i6]),iT (by simp[h.l6]),iT (by rw[bo,h.v6])]
theorem PM.c18 (h:PM w q s):(plC q s)[18]? = some (pB q.t):=(h.cX 0).trans rfl
theorem PM.c19 (h:PM w q s):(plC q s)[19]? = some (.map (some q.pm)):=(h.cX 1).trans rfl
theorem PM.c20 (h:PM w q s):(plC q s)[20]? = some (.map (some q.rm)):=(h.cX 2).trans rfl
theorem PM.cO (h:PM w q s)(j:k<6):(plC q s)[21+k]? = some (iv ((iy s.N ((k:Nat)+1):Nat):Int)):=by
 rw[show 21+k=18+(3+k)by omega,h.cX,iT (n:=3) rfl,Pc (n:=6) (by simp[uf]) j,TS (d:=0) (by rw[uf];exact j),Rd j]
theorem PM.c27 (h:PM w q s):(plC q s)[27]? = some (.map (some q.gm)):=by
 rw[show 27=18+(3+(6+0))by omega,h.cX,iT (n:=3) rfl,iT (n:=6) (by simp[uf])];rfl
theorem PM.c28 (h:PM w q s):(plC q s)[28]? = some (.map (some q.am)):=by
 rw[show 28=18+(3+(6+1))by omega,h.cX,iT (n:=3) rfl,iT (n:=6) (by simp[uf])];rfl
theorem PM.len (h:PM w q s):(plC q s).length=29:=by
 unfold plC;simp[h.i6,h.l6,bo,h.v6,uf]
theorem Et {f:α→Value}{L:List α}{x:α}:(L.map f).set k (f x)=(L.set k x).map f:=by rw[List.map_set]
theorem PM.sI (h:PM w q s)(j:k<6)(b:Bool):(plC q s).set k (.bool b)=plC q {s with I:=s.I.set k b}:=by
 unfold plC;rw[LY (n:=6) (by simp[h.i6]) j,Et]
theorem PM.sL (h:PM w q s)(j:k<6)(b:Bool):(plC q s).set (6+k) (.bool b)=plC q {s with L:=s.L.set k b}:=by
 unfold plC;rw[uw (by simp[h.i6]),LY (n:=6) (by simp[h.l6]) j,Et]
theorem PM.sV (h:PM w q s)(j:k<6)(x:Int):(plC q s).set (12+k) (u6 x)=plC q {s with V:=s.V.set k x}:=by
 unfold plC;rw[show 12+k=6+(6+k)by omega,uw (by simp[h.i6]),uw (by simp[h.l6]),LY (n:=6) (by rw[bo,h.v6]) j];unfold vCs;rw[Et]
theorem PM.sO (h:PM w q s)(J:k<6){N:List ND}(hN:∀j,j<6→j≠k→iy N ((j:Nat)+1)=iy s.N ((j:Nat)+1)):(plC q s).set (21+k) (iv ((iy N ((k:Nat)+1):Nat):Int))=plC q {s with N:=N}:=by
 unfold plC;rw[show 21+k=6+(6+(6+(3+k)))by omega,uw (by simp[h.i6]),uw (by simp[h.l6]),uw (by rw[bo,h.v6]),uw (n:=3) rfl,LY (n:=6) (by simp[uf]) J,Et];have e:(Jv s.N).set k ((iy N ((k:Nat)+1):Nat):Int)=Jv N:=by
  refine List.ext_getElem (by simp[uf]) fun j M I=>?_;have C:j<6:=by simpa[uf]using I
  rw[List.getElem_set];have u:=Rd (N:=N) C;have a2:=Rd (N:=s.N) C;rw[List.getD_eq_getElem?_getD,gE (by rw[uf];exact C)]at u a2;simp only[Option.getD_some]at u a2;by_cases e:k=j
  ·subst e;rw[if_pos rfl,u]
  ·rw[if_neg e,a2,u,hN j C (fun e' => e e'.symm)]
 rw[e]
end
theorem EI (h:K (pA b (o+0)) w):ai Q 189 (pA b o) 0 K w:=aH kr h
theorem NO (h:K (pA b (o+6)) w):ai Q 189 (pA b o) 1 K w:=aH kr h
theorem AQ (h:K (pA b (o+12)) w):ai Q 189 (pA b o) 2 K w:=aH kr h
theorem AS (h:K (pA b (o+18)) w):ai Q 189 (pA b o) 3 K w:=aH kr h
theorem NP (h:K (pA b (o+19)) w):ai Q 189 (pA b o) 4 K w:=aH kr h
theorem vF (h:K (pA b (o+20)) w):ai Q 189 (pA b o) 5 K w:=aH kr h
theorem NQ (h:K (pA b (o+21)) w):ai Q 189 (pA b o) 6 K w:=aH kr h
theorem IM (h:K (pA b (o+27)) w):ai Q 189 (pA b o) 7 K w:=aH kr h
theorem IN (h:K (pA b (o+28)) w):ai Q 189 (pA b o) 8 K w:=aH kr h
/-! ## What its maps hold -/
section
variable {N:List ND}{G:List GR}{id:Int}
theorem Mt :dK (rgL N) id=match dv N id with|true=>some (aN N id)|false=>none:=by
 unfold rgL
 induction N with
 | nil=>rfl
 | cons x N ih =>
  by_cases h:x.id=id
  ·have j:dv (x::N) id=true:=oh.2 ⟨x,by simp,h⟩;have u:aN (x::N) id=x.A:=by unfold aN;rw[List.find?_cons_of_pos (by simpa using h)]
   rw[j,u];simp[dK,h]
  ·have j:dv (x::N) id=dv N id:=by unfold dv;simp[h]
   have u:aN (x::N) id=aN N id:=by unfold aN;rw[List.find?_cons_of_neg (by simpa using h)]
   rw[j,u, ←ih];simp[dK,h]
theorem Qv (h:dv N id=false):aN N id=z54:=by
 unfold aN;cases j:N.find? fun x=>x.id==id with
 | none=>rfl
 | some x =>
  have:=oh.2 ⟨x,List.mem_of_find?_eq_some j,by simpa using List.find?_some j⟩
  rw[h]at this;cases this
theorem En {o q:Int}:dK (grL G) (o,q)=kU G o q:=by
 unfold grL kU
 induction G with
 | nil=>rfl
 | cons g G ih =>
  by_cases h:(g.o,g.q)=(o,q)
  ·have j:g.o=o∧g.q=q:=by simpa using h
   simp[dK,h,j]
  ·have j : ¬(g.o=o∧g.q=q):=by simpa using h
   have C:(g.o==o&&g.q==q)=false:=by
    rw[Bool.eq_false_iff];intro u;rw[Bool.and_eq_true,beq_iff_eq,beq_iff_eq]at u;exact j u
   rw[List.map_cons,List.find?_cons,C];simp only[dK,h,if_false];exact ih
theorem FX (j:N.Pairwise (·.id < ·.id)):((rgL N).map (·.1)).Nodup:=by
 unfold rgL;rw[List.map_map];exact List.pairwise_map.2 (j.imp fun h e=>by
  have e:_=_:=e;simp only[Function.comp_apply]at e;omega)
theorem JH (j:N.Pairwise (·.id < ·.id)):((tr N).map (·.1)).Nodup:=by
 unfold tr;rw[List.map_map];exact List.pairwise_map.2 (j.imp fun h e=>by
  have e:_=_:=e;simp only[Function.comp_apply]at e;omega)
theorem IZ (j:G.Pairwise ltG):((grL G).map (·.1)).Nodup:=by
 unfold grL;rw[List.map_map];exact List.pairwise_map.2 (j.imp fun h e=>by
  have e:_=_:=e;simp only[Function.comp_apply,Prod.mk.injEq]at e;unfold ltG at h;omega)
end
theorem rgz :∀w,(zeroValue 77).run Q w=.ok (rgV z54) w:=fun w=>by kernel_rfl
theorem grz :∀w,(zeroValue 121).run Q w=.ok (grV ⟨0,0,0,0,0⟩) w:=fun w=>by kernel_rfl
theorem bz :∀w,(zeroValue 4).run Q w=.ok (.bool false) w:=fun w=>by kernel_rfl
section
variable {w:World}{K:KV}{q:LB}{s:PL}
theorem PM.rg_l (h:PM w q s)(hi:PI s){id:Int}(j:K (rgV (aN s.N id)) w):lkp Q 184 (.map (some q.rm)) (u6 id) false K w:=by
 obtain⟨m,u,C⟩:=h.rm;refine TO (z0:=z54) u6K underlying184 rgz u ?_;rw[nL C (FX hi.srt),Mt];cases I:dv s.N id with
 | true=>exact j
 | false=>rw[Qv I]at j;exact j
theorem PM.rg_l2 (h:PM w q s)(hi:PI s){id:Int}(j:K (.tuple #[rgV (aN s.N id),.bool (dv s.N id)]) w):lkp Q 184 (.map (some q.rm)) (u6 id) true K w:=by
 obtain⟨m,C,I⟩:=h.rm;refine TP (z0:=z54) u6K underlying184 rgz C ?_;rw[nL I (FX hi.srt),Mt];cases u:dv s.N id with
 | true=>rw[u]at j;exact j
 | false=>rw[Qv u,u]at j;exact j
theorem PM.par_l (h:PM w q s)(hi:PI s){id:Int}(u:bS (tr s.N) id=true)(C:K (u6 (el (tr s.N) id)) w):lkp Q 183 (.map (some q.pm)) (u6 id) false K w:=by
 obtain⟨m,I,J⟩:=h.pm;refine TO (z0:=0) u6K underlying183 u6z I ?_;have j:=JH hi.srt;rw[nL J j,Ib j,u];exact C
theorem PM.ask_l (h:PM w q s){o:Int}(C:1≤o)(I:o≤6)(j:K (.bool (od s.R (o-1).toNat r)) w):lkp Q 186 (.map (some q.am)) (rqV (o,r)) false K w:=by
 obtain⟨m,J,M⟩:=h.am;refine TO (z0:=false) rqK underlying186 bz J ?_;rw[M o r C I];cases u:od s.R (o-1).toNat r with
 | true=>rw[u]at j;exact j
 | false=>rw[u]at j;exact j
theorem PM.gr_l (h:PM w q s)(hi:PI s){o:Int}(j:K (.tuple #[grV ((kU s.G o r).getD ⟨0,0,0,0,0⟩),.bool (kU s.G o r).isSome]) w):lkp Q 185 (.map (some q.gm)) (rqV (o,r)) true K w:=by
 obtain⟨m,u,C⟩:=h.gm;refine TP (z0:=⟨0,0,0,0,0⟩) rqK underlying185 grz u ?_;rw[nL C (IZ hi.gs),En];exact j
end
theorem PI.len30 {s:PL}(hi:PI s):s.N.length≤30:=by
 rw[VD fun x I=>by
  obtain⟨o,q,h,a2,j,u,C,_⟩:=hi.ids x I;exact⟨o,q,h,a2,j,u,C⟩]
 have:=hi.own 1
 have:=hi.own 2
 have:=hi.own 3
 have:=hi.own 4
 have:=hi.own 5
 have:=hi.own 6
 omega
theorem IdR.imp {ids:List Int}(h:IdR w B a c ids)(I:∀g cs,B≤g→blk w g 31 cs→blk w' g 31 cs):IdR w' B a c ids:=by
 rcases h with h|⟨g,rest,e1,j,u,C⟩
 ·exact .inl h
 ·exact .inr ⟨g,rest,e1,j,u,I _ _ j C⟩
theorem Ry {N:List ND}:(tr N).length=N.length:=by simp[tr]
theorem PI.plen {s:PL}(hi:PI s)(id:Int):(ef s.N id).length≤4:=by
 cases h:bS (tr s.N) id with
 | true =>
  obtain⟨x,j,e⟩:=ja.1 h;obtain⟨y,u,rfl⟩:=List.mem_map.1 j;have e:y.id=id:=e;rw[←e];exact hi.dep y u
 | false=>simp[ef,cC,cv,h]
structure RoI (w0 v:World) (q:LB) (s:PL) (y t tp b1 D:Nat) (a:Option Addr) (c B:Nat) (P l:List Int):Prop where
 pm:PM v q s
 lv:blk v w0.heap.size 132 [pB q.p]
 tv:blk v y 181 [pB t]
 tb:∃S,TreeM v t tp S∧RI (tr s.N) S l l
 sl:blk v b1 87 [.slice a P.length c]
 ids:IdR v B a c P
 bel:Below w0.heap.size w0 v
 dm:v.heap[D]? = some (.deferred (some []))
 sz:D+2≤v.heap.size
section
variable {w0 v v':World}{q:LB}{s:PL}{y t tp b1 D c B:Nat}{a:Option Addr}{P l l':List Int}
theorem RoI.ch (h:RoI w0 v q s y t tp b1 D a c B P l)(u:Ch F v v')(hF:∀k∈F,w0.heap.size<k∧k≠y∧k≠b1∧k≠D∧(∀cs,¬blk v k 31 cs))(J:∀k∈q.l,k<w0.heap.size)(M:∃S,TreeM v' t tp S∧RI (tr s.N) S l' l'):RoI w0 v' q s y t tp b1 D a c B P l' where
 pm:=h.pm.ch u fun k C j=>by have:=J k C;have:=(hF k j).1;omega
 lv:=h.lv.ch u fun j=>by have:=(hF _ j).1;omega
 tv:=h.tv.ch u fun j=>(hF _ j).2.1 rfl
 tb:=M
 sl:=h.sl.ch u fun j=>(hF _ j).2.2.1 rfl
 ids:=h.ids.imp fun g cs _ I=>I.ch u fun j=>(hF _ j).2.2.2.2 _ I
 bel:=⟨u.os.trans h.bel.os,u.tape.trans h.bel.tape,u.output.trans h.bel.output,Nat.le_trans h.bel.size u.size,fun k C=>by
  rw[u.block k (Nat.lt_of_lt_of_le C h.bel.size) (fun j=>by have:=(hF k j).1;omega),h.bel.block k C]⟩
 dm:=(u.block D (by have:=h.sz;omega) (fun j=>(hF _ j).2.2.2.1 rfl)).trans h.dm
 sz:=Nat.le_trans h.sz u.size
theorem Ep {o:Obj}(u:w.heap[k]? = some o)(j:∀cs z,o≠.cells cs E z)(cs:List Value):¬blk w k E cs:=by
 intro h;unfold blk at h;rw[u]at h;exact j _ _ (Option.some.inj h)
theorem TreeM.mo {t:Nat}(h:TreeM w t b T):∃es c,w.heap[b]? = some (.map es c):=by
 obtain⟨m,⟨es,c,j⟩,_⟩:=h.mp;exact⟨es,c,j.heap⟩
end
section
variable {w:World}{K:KV}{q:LB}{s:PL}
theorem IdR.at2 {ids:List Int}{K2:Value→KV}(h:IdR w B a c ids)(hi:i<ids.length)(u:∀p,K2 p (u6 ids[i]) w):aL Q 87 (.slice a ids.length c) (ci (i:Nat)) (fun p=>ld Q 31 p (K2 p)) w:=by
 rcases h with⟨rfl,_⟩|⟨g,rest,rfl,I,C,j⟩
 ·simp at hi
 refine dQ underlying87 (s:=1) kf oo oo ?_;rw[Int.toNat_natCast,Nat.mul_one,Nat.zero_add];refine lK (v:=u6 ids[i]) j ?_ (u _);rw[List.getElem?_append_left (by simpa using hi),List.getElem?_map,gE hi];rfl
theorem zcm {id par:Int}(h:PM w q s)(hi:PI s)(I:∀w',Below w.heap.size w w'→K (ci (jm (tr s.N) id par).2) w'):call Q 304 #[pB q.p,u6 id,u6 par] K w:=by
 have ap:=h.lt;obtain⟨rk,ar⟩:=hi.tk;have c6:=hi.len30;have cV:(cC (tr s.N) par).length≤4:=hi.plen par;obtain⟨P,hP⟩:∃P,P=cC (tr s.N) par:=⟨_,rfl⟩
 have an:∀i n,P[i]? = some n→n≠0∧bS (tr s.N) n=true∧((i+1=P.length∧el (tr s.N) n=0)∨P[i+1]? = some (el (tr s.N) n)):=fun i n hn=>by
  rw[hP]at hn ⊢;exact RZ ar _ _ (by have:=G7 ar par;omega) i n hn
 have b9:P.Nodup:=by rw[hP];exact(Jz ar _ _).imp fun {a b} c8 e=>by subst e;omega
 rw[←hP]at cV;refine ak (goK func304) (I8 ?_);refine br fun w1 h1 b1 s1=>YJ fun w2 t tp ca b2 l2 dq=>?_;have h1:=cZ h1
 refine df (z:=.pointer none) kr fun w3 h3 b3 s3=>?_;have h3:=cZ h3
 refine cB kf h3 (by show 0<1;decide) rfl fun w4 h4 o4=>?_;have h4:blk w4 w2.heap.size 181 [pB t]:=h4;obtain⟨y,hy⟩:∃y,y=w2.heap.size:=⟨_,rfl⟩
 rw[←hy]at h4 o4 ⊢;have dk:=ca.lt;have dj:=b2.size;have B4:Below w.heap.size w w4:=bE (b1.trans ((b2.mono oo).trans (b3.mono oo))) o4 oo;have l4:blk w4 w.heap.size 132 [pB q.p]:=o4.blk (ae b3 (ae b2 h1 h1.lt) oo) oo;have t4:TreeM w4 t tp []:=(ca.below b3).oth o4 oo oo;have p4:=h.below B4
 refine lK (v:=pB q.p) l4 rfl (aj (AS (lK (v:=pB q.t) p4.b (by rw[Nat.zero_add];exact p4.c18) ?_)));refine Rz ar p4.tm (by rw[Ry];omega) fun w5 a c ho b5=>?_;rw[←hP]at ho ⊢;have cp:IdR w5 w4.heap.size a c P:=IdR.own ho rfl;refine zce fun w6 h6 b6 s6=>?_;have s4:w4.heap.size=w2.heap.size+1:=by rw[o4.size,s3]
 have bb:=b5.size;refine Yp (g:=.tmp 21) (ps:=#[22,23]) (a:=cd lT []) (bd:=cd lU []) (gf:=330) (cap:=[pB w5.heap.size]) kr rfl ?_;intro fn W bW sW hD hL;have af:Below w4.heap.size w4 W:=b5.trans ((b6.mono bb).trans (bW.mono oo));have bi:RoI w W q s y t tp w5.heap.size w6.heap.size a c w4.heap.size P [] :=
  ⟨p4.below af,ae af l4 l4.lt,ae af h4 h4.lt,⟨[],t4.below af,RI.nil⟩,ae bW h6 h6.lt,(cp.below b6).below bW,B4.trans (af.mono B4.size),hD,by omega⟩
 generalize dp:w6.heap.size=D at *;have cm:∀{j:Nat},P.drop (P.length-0)=[]:=by simp
 refine zcf (ids:=P) (c:=c) (a:=a) (B:=w4.heap.size) Pf oo
  (fun j v=>RoI w v q s y t tp w5.heap.size D a c w4.heap.size P (P.drop (P.length-j))∧v.heap[D+1]? = some (.loop (nT fn _ #[22,23] (cd lT []) (cd lU []) D .ready none))) (fun _=>False)
  ⟨by simpa using bi,hL⟩ (fun j v hv=>⟨hv.1.sl,hv.1.ids⟩) ?_ ?_ (fun _ U=>U.elim)
 ·rintro j k x v K' dc hx ⟨hR,hl⟩ kT kF;obtain⟨be,c2,c5⟩:=an k x hx;have ck:P.drop (P.length-j)=P.drop (k+1):=by congr 1;omega
  have al:k<P.length:=by omega
  have cl:P.drop (P.length-(j+1))=x::P.drop (k+1):=by
   rw[show P.length-(j+1)=k by omega,List.drop_eq_getElem_cons al];rw[gE al]at hx;rw[Option.some.inj hx]
  rw[ck]at hR;refine⟨by kernel_rfl,by kernel_rfl,hl,rfl,Gv ⟨hl,Gw ?_⟩⟩;generalize a0:v.putObj (D+1) _=v1;have o1:Oth (D+1) v v1:=a0 ▸ oth_put;have l1:v1.heap[D+1]? = some (.loop (nT fn _ #[22,23] (cd lT []) (cd lU []) D .busy none)):=a0 ▸ World.putObj_heap_same (by have:=hR.sz;omega);obtain⟨S,hS,a8⟩:=hR.tb;have cj:=hS.lt;have d0:w.heap.size<D:=by have:=hR.sz;have:=bb;omega
  have R1:RoI w v1.drew q s y t tp w5.heap.size D a c w4.heap.size P (P.drop (k+1)):=hR.ch (F:=[D+1]) ⟨o1.os,o1.tape,o1.output,by show v.heap.size≤v1.heap.size;rw[o1.size];exact Nat.le_refl _,fun k _ I=>o1.other k (by simpa using I)⟩
   (fun k I=>by
    have I:k=D+1:=by simpa using I
    subst I;exact⟨by omega,by omega,by omega,by omega,Ep hl sm⟩) ap ⟨S,(hS.oth o1 oo oo).drew,a8⟩
  have dr:(x::P.drop (k+1)).length=j+1:=by simp;omega
  refine au (fun u=>PM u q s∧blk u w.heap.size 132 [pB q.p]∧blk u y 181 [pB t]) ⟨R1.pm,R1.lv,R1.tv⟩ <|ab (fun u hu _=>lK (v:=pB t) hu.2.2 rfl) <|ab (fun u hu _=>lK (v:=pB q.p) hu.2.1 rfl) ?_;refine ab (fun u hu _=>aj) (ab (fun u hu _=>NP) ?_);refine ab (fun u hu _=>lK (v:=.map (some q.pm)) hu.1.b (by rw[Nat.zero_add];exact hu.1.c19)) <|ab (fun u hu _=>hu.1.par_l hi c2) ?_
  obtain⟨S1,aa,J⟩:=R1.tb;obtain⟨dz,cI⟩:=J.tk;have cO:=J.len;have da:(P.drop (k+1)).length=j:=by simp;omega
  have cR:x∉P.drop (k+1):=by
   have hn:=b9;rw[←List.take_append_drop k P,List.drop_eq_getElem_cons al]at hn;rw[gE al]at hx;rw[Option.some.inj hx]at hn;exact(List.nodup_cons.1 (List.nodup_append.1 hn).2.1).1
  have b8:el (tr s.N) x=0∨el (tr s.N) x∈P.drop (k+1):=by
   rcases c5 with⟨_,U⟩|U
   ·exact .inl U
   ·right
    have:(P.drop (k+1))[0]? = some (el (tr s.N) x):=by rw[List.getElem?_drop,Nat.add_zero];exact U
    exact mO this
  obtain⟨e0,_,a2⟩:=J.add be cR b8 oo (.inr oo);refine Qo cI aa oo fun w7 az c7=>?_;obtain⟨es,cc,aS⟩:=aa.mo;have R7:=R1.ch (F:=[tp]) c7 (fun k I=>by
    have I:k=tp:=by simpa using I
    subst I;refine⟨by omega,by omega,?_,by omega,Ep aS sm⟩;intro e
    have:=R1.sl
    rw[←e]at this;unfold blk at this;rw[aS]at this;cases this) ap ⟨_,az,a2 rfl⟩
  have l7:w7.heap[D+1]? = some (.loop (nT fn _ #[22,23] (cd lT []) (cd lU []) D .busy none)):=(c7.block (D+1) (by have:=R1.sz;omega) (by simp;omega)).trans l1;refine⟨l7,kT _ ⟨?_,World.putObj_heap_same (by have:=R7.sz;omega)⟩⟩;rw[cl];generalize c1:w7.putObj (D+1) _=v8;have o8:Oth (D+1) w7 v8:=c1 ▸ oth_put
  exact R7.ch (F:=[D+1]) ⟨o8.os,o8.tape,o8.output,by rw[o8.size];exact Nat.le_refl _,fun k _ I=>o8.other k (by simpa using I)⟩
   (fun k I=>by
    have I:k=D+1:=by simpa using I
    subst I;exact⟨by omega,by omega,by omega,by omega,Ep l7 sm⟩) ap ⟨_,az.oth o8 oo oo,a2 rfl⟩
 ·rintro v ⟨hR,hl⟩;rw[Nat.sub_self,List.drop_zero]at hR;refine⟨none,hl,Gu ?_⟩;generalize a0:v.putObj (D+1) _=v1;have o1:Oth (D+1) v v1:=a0 ▸ oth_put;obtain⟨S,hS,a8⟩:=hR.tb;have cj:=hS.lt;have d0:w.heap.size<D:=by have:=hR.sz;have:=bb;omega
  have R1:RoI w v1 q s y t tp w5.heap.size D a c w4.heap.size P P:=hR.ch (F:=[D+1]) ⟨o1.os,o1.tape,o1.output,by rw[o1.size];exact Nat.le_refl _,fun k _ I=>o1.other k (by simpa using I)⟩
   (fun k I=>by
    have I:k=D+1:=by simpa using I
    subst I;exact⟨by omega,by omega,by omega,by omega,Ep hl sm⟩) ap ⟨S,hS.oth o1 oo oo,a8⟩
  refine lK (v:=pB q.p) R1.lv rfl (aj (AS (lK (v:=pB q.t) R1.pm.b (by rw[Nat.zero_add];exact R1.pm.c18) ?_)));refine VP R1.pm.tm (by rw[Ry];omega) fun w7 a7 c7 ids M cX bt b7=>?_;have cG:ids.length=s.N.length:=by rw[M.length_eq,List.length_map,Ry]
  have a3:ids.Nodup:=cX.imp fun U=>by omega
  refine bh underlying87 ?_;obtain⟨S1,aa,J⟩:=R1.tb;have R7:RoI w w7 q s y t tp w5.heap.size D a c w4.heap.size P P:=R1.ch (F:=[]) (Ch.of_below b7) sm ap ⟨S1,aa.below b7,J⟩;have az:=aa.below b7;clear R1 aa;have d1:D+2≤v1.heap.size:=by rw[o1.size];exact hR.sz
  let lk:Nat→List Int:=fun k=>((ids.take k).filter fun n=>!P.contains n).reverse++P
  refine Dd (Inv:=fun i wr=>∃(k:Nat) (S:List (Int×Int)),i=iv (k:Nat)∧k≤ids.length∧TreeM wr t tp S∧RI (tr s.N) S (lk k) P∧blk wr y 181 [pB t]∧IdR wr w4.heap.size a c P∧IdR wr v1.heap.size a7 c7 ids∧Below w.heap.size w wr∧wr.heap[D]? = some (.deferred (some []))∧D+2≤wr.heap.size)
   (μ:=fun i _=>ids.length-(intOf i).toNat) ⟨0,S1,rfl,Nat.zero_le _,az,J,R7.tv,R7.ids,bt,R7.bel,R7.dm,R7.sz⟩ ?_
  rintro _ dd w8 m ⟨k,S8,rfl,al,ad,C,a1,ag,Z,O,a6,ce⟩ hm;have cQ:=C.len;obtain⟨dF,b0⟩:=C.tk;have a4:∀n∈lk k,n∈ids:=by
   intro n hn;rcases List.mem_append.1 hn with hn|hn
   ·exact List.mem_of_mem_take ((List.mem_filter.1 (List.mem_reverse.1 hn)).1)
   ·rw[M.mem_iff,List.mem_map];obtain⟨i,a9,e⟩:=List.getElem_of_mem hn;obtain⟨_,U,_⟩:=an i n (by rw[gE a9,e]);obtain⟨z,hz,e⟩:=ja.1 U;exact⟨z,hz,e⟩
  have dg:(lk k).length≤s.N.length:=by rw[←cG];exact Cr C.nd a4
  refine aK ?_;by_cases am:k<ids.length
  ·refine ax oo (Dc (Z.at2 am fun pt=>?_));have hx:ids[k]? = some ids[k]:=gE am;generalize c3:ids[k]=x at hx;have a5:ids.take (k+1)=ids.take k++[x]:=by rw[List.take_add_one,hx];rfl
   refine UT ag oo (wZ ?_);by_cases av:x∈P
   ·refine ao (by simpa using av) (ul (aM oo oo ?_));have e:lk (k+1)=lk k:=by simp only[lk];rw[a5];simp[av]
    exact⟨⟨k+1,S8,ivS,am,ad,by rw[e];exact C,a1,ag,Z,O,a6,ce⟩,by rw[hm];show ids.length-((k:Int)+1).toNat<ids.length-(k:Int).toNat;omega⟩
   ·refine ax av (lK (v:=pB t) a1 rfl ?_);have e:lk (k+1)=x::lk k:=by simp only[lk];rw[a5];simp[av]
    have c4:x∉lk k:=by
     intro U;rcases List.mem_append.1 U with U|U
     ·have U:=(List.mem_filter.1 (List.mem_reverse.1 U)).1;obtain⟨i,a9,e2⟩:=List.getElem_of_mem U;rw[List.getElem_take]at e2;have cn:i<k:=by simp at a9;omega
      have:=(List.pairwise_iff_getElem.1 a3) i k oo am cn
      rw[c3]at this;exact this e2
     ·exact av U
    have be:x≠0:=by
     have:x∈ids:=mO hx
     rw[M.mem_iff,List.mem_map]at this;obtain⟨z,hz,e2⟩:=this;rw[←e2];exact ar.nz z hz
    obtain⟨e0,bk,_⟩:=C.add be c4 (.inl rfl) oo (.inl rfl);refine Qo b0 ad oo fun w9 bp c9=>ul (aM oo oo ?_);obtain⟨es,cc,aS⟩:=ad.mo;have bq:∀g cs,blk w8 g 31 cs→blk w9 g 31 cs:=fun g cs hb=>hb.ch c9 (fun hf=>by
     have hf:g=tp:=by simpa using hf
     subst hf;exact Ep aS sm _ hb)
    have bn:=ad.lt;refine⟨⟨k+1,_,ivS,am,bp,by rw[e];exact bk,a1.ch c9 (by simp;omega),ag.imp fun g cs _=>bq g cs,Z.imp fun g cs _=>bq g cs,?_,(c9.block D oo (by simp;omega)).trans a6,Nat.le_trans ce c9.size⟩,by rw[hm];show ids.length-((k:Int)+1).toNat<ids.length-(k:Int).toNat;omega⟩;exact O.trans (c9.below (by simp;omega) O.size)
  ·refine ao oo (De (lK (v:=pB t) a1 rfl ?_));have e:ids.take k=ids:=by rw[tL oo]
   have cL:(lk k).Perm ((tr s.N).map (·.1)):=by
    refine List.Perm.trans ?_ M;refine(List.perm_ext_iff_of_nodup C.nd a3).2 fun n=>⟨a4 n,fun hn=>?_⟩
    show n∈((ids.take k).filter fun n=>!P.contains n).reverse++P;rw[e];by_cases b4:n∈P
    ·exact List.mem_append_right _ b4
    ·exact List.mem_append_left _ (List.mem_reverse.2 (List.mem_filter.2 ⟨hn,by simpa using b4⟩))
   rw[hP]at C;have bs:=C.err (id:=id) cL;refine Qo b0 ad oo fun w9 bp c9=>?_;have bn:=ad.lt;have cg:w9.heap[D]? = some (.deferred (some [])):=(c9.block D oo (by simp;omega)).trans a6;refine⟨cg,?_⟩;rw[bs];refine I _ (bE (p:=D) (O.trans (c9.below (by simp;omega) O.size)) oth_put oo)
end
/-! ## Plain -/
def sX (e:EV)(s:PL):PL:={eff e s with V:=s.V}
section
variable {κ ν:Type}[DecidableEq κ]
theorem Sb {m L:List (κ×ν)}(C:(m.map (·.1)).Nodup)(hL:(L.map (·.1)).Nodup)(h:∀y,dK m y=dK L y):m.Perm L:=by
 have nd:∀{l:List (κ×ν)},(l.map (·.1)).Nodup→l.Nodup:=fun {l} h=>List.Pairwise.of_map (·.1) (fun a b j e=>j (by rw[e])) h;refine(List.perm_ext_iff_of_nodup (nd C) (nd hL)).2 fun⟨k,v⟩=>⟨fun u=>?_,fun u=>?_⟩
 ·exact yB (by rw[←h];exact sh C u)
 ·exact yB (by rw[h];exact sh hL u)
end
theorem MB.nodup {kv:κ→Value}{vv:α→Value}{m:List (κ×α)}(h:MB kv vv w b m):(m.map (·.1)).Nodup:=by
 obtain⟨_,_,h⟩:=h;exact h.nodup
theorem GM {x:ND}:∀{N:List ND},(eh x N).Perm (x::N)
 | []=>.refl _
 | y::N=>by
  unfold eh;split
  ·exact .refl _
  ·exact((GM (x:=x) (N:=N)).cons y).trans (List.Perm.swap x y N)
theorem insG_perm {x:GR}:∀{G:List GR},(kX x G).Perm (x::G)
 | []=>.refl _
 | y::G=>by
  unfold kX;split
  ·exact .refl _
  ·exact((insG_perm (x:=x) (G:=G)).cons y).trans (List.Perm.swap x y G)
theorem zdM (C:n<16777216)(u:c<1099511627776):oM .or .u64 ((n*1099511627776:Nat):Int) (c:Int)=((n*1099511627776+c:Nat):Int):=by
 unfold oM;have j:IntKind.u64.bits=64:=rfl;simp only[j,eu]
 have:(BitVec.ofInt 64 ((n*1099511627776:Nat):Int) ||| BitVec.ofInt 64 ((c:Nat):Int)).toNat=n*1099511627776+c:=by
  rw[BitVec.toNat_or,BitVec.ofInt_natCast,BitVec.ofInt_natCast,BitVec.toNat_ofNat,BitVec.toNat_ofNat];rw[Nat.mod_eq_of_lt oo,Nat.mod_eq_of_lt oo];have h:=Nat.shiftLeft_add_eq_or_of_lt (i:=40) (b:=c) oo n;rw[Nat.shiftLeft_eq]at h;rw[←h]
 show ((BitVec.ofInt 64 ((n*1099511627776:Nat):Int) ||| BitVec.ofInt 64 ((c:Nat):Int)).toNat:Int)%18446744073709551616=_;rw[this];omega
def zcO (w':World)(q:LB)(s1:PL)(fv:Value):Prop:=∀(w2:World) (K2:KV),Below w'.heap.size w' w2→(∀w3,PM w3 q s1→Ch q.wv w2 w3→K2 (.tuple #[]) w3)→aZ Q fv #[] K2 w2
section
variable {e:EV}{s:PL}
theorem zbu (k:e.k=1):sX e s={s with N:=eh ⟨idE e,e.n,z54.set e.q e.a⟩ s.N}:=by simp[sX,eff,tP,tQ,pN,nop,gop,NOp.ap,GOp.ap,k]
theorem zbv (k:e.k=2):sX e s={s with N:=s.N.map (eD [e.n] e.q e.a)}:=by simp[sX,eff,tP,tQ,pN,nop,gop,NOp.ap,GOp.ap,k]
theorem zbw (k:e.k=3):sX e s={s with N:=s.N.map (eD (ef s.N e.n) (6+e.q) e.a),G:=kX ⟨e.o,e.r,e.n,e.a,0⟩ s.G,R:=s.R.set e.q (s.R.getD e.q []++[e.r])}:=by simp[sX,eff,tP,tQ,pN,nop,gop,NOp.ap,GOp.ap,k]
theorem zbx (k:e.k=4):sX e s={s with N:=s.N.map (eD (ef s.N (gOf s e).n) (12+e.q) (gOf s e).a),G:=s.G.map (qO e.o e.f e.r),R:=s.R.set e.q (s.R.getD e.q []++[e.r])}:=by simp[sX,eff,tP,tQ,pN,nop,gop,NOp.ap,GOp.ap,k]
theorem zby (k:e.k=5):sX e s={s with N:=s.N.map (eD [e.n] (18+6*e.q+(e.t-1).toNat) e.a)}:=by simp[sX,eff,tP,tQ,pN,nop,gop,NOp.ap,GOp.ap,k]
theorem zbz (k:e.k=6):sX e s={s with I:=s.I.set (e.t-1).toNat true}:=by simp[sX,eff,tP,tQ,pN,nop,gop,NOp.ap,GOp.ap,k]
theorem zbA (k:e.k=7):sX e s={s with L:=s.L.set e.q true}:=by simp[sX,eff,tP,tQ,pN,nop,gop,NOp.ap,GOp.ap,k]
end
theorem ixO {i:Int}(hi:i=(k:Nat))(j:k<6)(h:K (pA b (o+k)) w):aL Q 187 (pA b o) (ci i) K w:=by
 subst hi;exact ew underlying187 (s:=1) kf oo oo (by rw[Int.toNat_natCast,Nat.mul_one];exact h)
theorem Re {i:Int}(hi:i=(k:Nat))(j:k<6)(h:K (pA b (o+k)) w):aL Q 54 (pA b o) (ci i) K w:=by
 subst hi;exact ew underlying54 (s:=1) kf oo oo (by rw[Int.toNat_natCast,Nat.mul_one];exact h)
structure LE (w0 w:World) (q:LB) (e:EV):Prop where
 l:blk w w0.heap.size 132 [pB q.p]
 e:blk w (w0.heap.size+1) 35 (evC e)
 bel:Below w0.heap.size w0 w
section
variable {w0 w w':World}{q:LB}{e:EV}
theorem LE.fresh (g:LE w0 w q e)(h:Below w.heap.size w w'):LE w0 w' q e:=⟨ae h g.l g.l.lt,ae h g.e g.e.lt,g.bel.trans (h.mono g.bel.size)⟩
theorem LE.sz (g:LE w0 w q e):w0.heap.size+2≤w.heap.size:=g.e.lt
theorem LE.drew (g:LE w0 w q e):LE w0 w.drew q e:=g.fresh (Below.refl _ w).drew
theorem LE.oth (g:LE w0 w q e)(o:Oth b w w')(h:w0.heap.size+2≤b):LE w0 w' q e:=⟨o.blk g.l oo,o.blk g.e oo,bE g.bel o oo⟩
end
section
variable {w:World}{K:KV}{q:LB}{s:PL}{e:EV}
theorem LE.make {K2:Value→Value→World→Prop}(h:∀w',LE w w' q e→w'.heap.size=w.heap.size+2→K2 (pB w.heap.size) (pB (w.heap.size+1)) w'):box Q 132 (pB q.p) (fun l=>box Q 35 (.agg (evC e).toArray) (K2 l)) w:=by
 refine br fun J j b1 I=>yk fun w2 C u M=>?_;have j:=cZ j
 rw[I]at C ⊢;exact h w2 ⟨ae u j j.lt,C,b1.trans (u.mono oo)⟩ oo
theorem LO {o:Int}(I:1≤o)(J:o≤6)(M:1≤x)(O:x<1099511627776)(h:K (u6 (o*M40+x)) w):call Q 303 #[iv o,u6 x] K w:=by
 refine ak (goK func303) (Xd (aK (dt oo (bO (bj oo (dt oo (aK (bj oo (dt oo (bI (bj oo (ao oo ?_))))))))))));refine bX underlying3 underlying31 ?_;rw[eu,show o%18446744073709551616=o by omega];refine yL oo ?_;have e:o*2 ^ (min (40:Int).toNat IntKind.u64.bits)=o*1099511627776:=rfl
 obtain⟨j,rfl⟩:=Int.eq_ofNat_of_zero_le (show 0≤o by omega);obtain⟨u,rfl⟩:=Int.eq_ofNat_of_zero_le (show 0≤x by omega);rw[e,eu,show (j:Int)*1099511627776%18446744073709551616=((j*1099511627776:Nat):Int)by omega];refine Pe ?_;rw[zdM oo oo];have C:((j*1099511627776+u:Nat):Int)=(j:Int)*M40+(u:Int):=by simp only[M40];omega
 rw[C];exact h
theorem vJ {x:Value}(C:(Tryz.prog.info? t).bind (·.zero)=some x)(u:x.cells.toList=[x])(h:∀w',blk w' w.heap.size t [x]→Below w.heap.size w w'→w'.heap.size=w.heap.size+1→K (pB w.heap.size) w'):alc Q t K w :=
 df C fun w' j b s=>h w' (by rwa[u]at j) b s
theorem mk6 {S0:World→Prop}{T:Value→Value→Value→(World→Prop)→World→Prop}{o:Int}(Z:1≤o)(h2:o≤6)(h3:1≤x)(h4:x<1099511627776)(I:∀w',Below w.heap.size w w'→S0 w')(h:∀w' bi bk,blk w' bi 31 [u6 0]→blk w' bk 3 [iv 0]→bi≠bk→w.heap.size≤bi→w.heap.size≤bk→Below w.heap.size w w'→T (u6 (o*M40+x)) (pB bi) (pB bk) S0 w'):(call Q 303 #[iv o,u6 x] (fun t=>aU S0 fun S w=>(alc Q 31 (fun i=>aU S fun S=>alc Q 3 fun k=>aU S fun S=>T t i k S) w)∧(alc Q 3 (fun k=>aU S fun S=>alc Q 31 fun i=>aU S fun S=>T t i k S) w)) w) ∧
    ((alc Q 31 (fun i=>aU S0 fun S w=>(call Q 303 #[iv o,u6 x] (fun t=>aU S fun S=>alc Q 3 fun k=>aU S fun S=>T t i k S) w)∧(alc Q 3 (fun k=>aU S fun S=>call Q 303 #[iv o,u6 x] fun t=>aU S fun S=>T t i k S) w)) w) ∧
     (alc Q 3 (fun k=>aU S0 fun S w=>(call Q 303 #[iv o,u6 x] (fun t=>aU S fun S=>alc Q 31 fun i=>aU S fun S=>T t i k S) w)∧(alc Q 31 (fun i=>aU S fun S=>call Q 303 #[iv o,u6 x] fun t=>aU S fun S=>T t i k S) w)) w)):=by
  have aa:=I w (Below.refl _ w);have ik:∀j w2,Below w.heap.size w j→blk j w.heap.size 31 [u6 0]→j.heap.size=w.heap.size+1→blk w2 j.heap.size 3 [iv 0]→Below j.heap.size j w2→Below w.heap.size w w2∧T (u6 (o*M40+x)) (pB w.heap.size) (pB j.heap.size) S0 w2:=fun j w2 b1 J U M C =>
    have u:=b1.trans (C.mono oo)
    ⟨u,h w2 _ _ (ae C J J.lt) M oo oo oo u⟩
  have ki:∀j w2,Below w.heap.size w j→blk j w.heap.size 3 [iv 0]→j.heap.size=w.heap.size+1→blk w2 j.heap.size 31 [u6 0]→Below j.heap.size j w2→Below w.heap.size w w2∧T (u6 (o*M40+x)) (pB j.heap.size) (pB w.heap.size) S0 w2:=fun j w2 b1 J U M C =>
    have u:=b1.trans (C.mono oo)
    ⟨u,h w2 _ _ M (ae C J J.lt) oo oo oo u⟩
  refine⟨LO Z h2 h3 h4 (aC aa ⟨?_,?_⟩),?_,?_⟩
  · refine vJ (x:=u6 0) kr rfl fun j J b1 U=>aC (I _ b1) (vJ (x:=iv 0) kr rfl fun w2 M C s2=>?_)
    obtain⟨u,O⟩:=ik j w2 b1 J U M C;exact aC (I _ u) O
  · refine vJ (x:=iv 0) kr rfl fun j J b1 U=>aC (I _ b1) (vJ (x:=u6 0) kr rfl fun w2 M C s2=>?_)
    obtain⟨u,O⟩:=ki j w2 b1 J U M C;exact aC (I _ u) O
  · refine vJ (x:=u6 0) kr rfl fun j J b1 U=>aC (I _ b1) ⟨LO Z h2 h3 h4 (aC (I _ b1) (vJ (x:=iv 0) kr rfl fun w2 M C s2=>?_)),vJ (x:=iv 0) kr rfl fun w2 M C s2=>?_⟩
    · obtain⟨u,O⟩:=ik j w2 b1 J U M C
      exact aC (I _ u) O
    · obtain⟨u,O⟩:=ik j w2 b1 J U M C
      exact aC (I _ u) (LO Z h2 h3 h4 (aC (I _ u) O))
  · refine vJ (x:=iv 0) kr rfl fun j J b1 U=>aC (I _ b1) ⟨LO Z h2 h3 h4 (aC (I _ b1) (vJ (x:=u6 0) kr rfl fun w2 M C s2=>?_)),vJ (x:=u6 0) kr rfl fun w2 M C s2=>?_⟩
    · obtain⟨u,O⟩:=ki j w2 b1 J U M C
      exact aC (I _ u) O
    · obtain⟨u,O⟩:=ki j w2 b1 J U M C
      exact aC (I _ u) (LO Z h2 h3 h4 (aC (I _ u) O))
end
structure LV (w:World) (z:Nat) (q:LB) (e:EV):Prop where
 l:blk w z 132 [pB q.p]
 e:blk w (z+1) 35 (evC e)
section
variable {w w':World}{z:Nat}{q:LB}{e:EV}
theorem LV.ch (g:LV w z q e)(j:Ch F w w')(hF:∀k∈F,k<z∨z+2≤k):LV w' z q e :=
 ⟨g.l.ch j fun h=>by have:=hF _ h;omega,g.e.ch j fun h=>by have:=hF _ h;omega⟩
theorem LV.below (g:LV w z q e)(h:Below w.heap.size w w'):LV w' z q e:=g.ch (Ch.of_below h:Ch [] w w') sm
theorem LV.oth (g:LV w z q e)(o:Oth b w w')(h:b<z∨z+2≤b):LV w' z q e:=⟨o.blk g.l oo,o.blk g.e oo⟩
theorem LV.drew (g:LV w z q e):LV w.drew z q e:=g.below (Below.refl _ w).drew
theorem LE.lv (g:LE w0 w q e):LV w w0.heap.size q e:=⟨g.l,g.e⟩
end
section
variable {w:World}{K:KV}{q:LB}{s:PL}{e:EV}
theorem za3 (g:LV w z q e)(av:blk w b 31 [u6 (idE e)])(be:blk w c 3 [iv (e.q:Nat)])(zi:z+2≤b)(zk:z+2≤c)(hq:∀k∈q.l,k<z)(h:PM w q s)(hi:PI s)(hm:bJ e=true)(hn:dv s.N (idE e)=false)(I:(jm (tr s.N) (idE e) e.n).2=0)(u:∀w',PM w' q {s with N:=eh ⟨idE e,e.n,z54.set e.q e.a⟩ s.N}→Ch q.wv w w'→K (.tuple #[]) w'):call Q 305 #[pB z,pB b,pB (z+1),pB c] K w:=by
 obtain⟨rk,bp⟩:=hi.tk;obtain⟨Z,ho⟩:=sj hm;have a0:=gW hm;have b7:=hi.len30;have nd:=h.nd;have hb:=hq;simp only[LB.l,List.mem_cons,List.not_mem_nil,or_false,forall_eq_or_imp,forall_eq]at hb;obtain⟨x,hx⟩:∃x:ND,x=⟨idE e,e.n,z54.set e.q e.a⟩:=⟨_,rfl⟩
 have O:x.id=idE e:=by rw[hx]
 have a7:x.par=e.n:=by rw[hx]
 have a6:x.A=z54.set e.q e.a:=by rw[hx]
 rw[←hx]at u;have a4:∀y∈s.N,y.id≠x.id:=fun y C e' => by
  rw[oh.2 ⟨y,C,e'.trans O⟩]at hn;cases hn
 have a5:=uH hi.srt a4;have e0:jm (tr s.N) (idE e) e.n=(gu (tr s.N) (yy (fun y=>decide (idE e<y.1)) (tr s.N) (tr s.N).length) (idE e,e.n),0):=by
  unfold jm at I ⊢;split at I
  ·cases I
  rename_i g1;rw[if_neg g1];split at I
  ·cases I
  rename_i g2;rw[if_neg g2];split at I
  ·cases I
  rename_i g3;rw[if_neg g3];split at I
  ·cases I
  rename_i g4;rw[if_neg g4]
 have al:∀i:Nat,(gu (tr s.N) i (idE e,e.n)).Perm (tr (eh x s.N)):=fun i=>by
  refine List.perm_middle.trans ?_;rw[List.take_append_drop]
  have:=((GM (x:=x) (N:=s.N)).map fun y:ND=>(y.id,y.par)).symm
  rw[List.map_cons,O,a7]at this;exact this
 refine ak (goK func305) (FE ?_);refine au (fun y=>LV y z q e∧blk y b 31 [u6 (idE e)]∧PM y q s) ⟨g.drew,av.drew,h.drew⟩ ?_;refine ab (fun y C _=>lK (v:=pB q.p) C.1.l rfl) (ab (fun y C _=>aj) (ab (fun y C _=>AS) ?_));refine ab (fun y C _=>lK (v:=pB q.t) C.2.2.b (by rw[Nat.zero_add];exact C.2.2.c18)) <|ab (fun y C _=>lK (v:=u6 (idE e)) C.2.1 rfl) ?_
 refine ab (fun y C _=>dR) (ab (fun y C _=>lK (v:=u6 e.n) C.1.e rfl) ?_);refine Qo bp h.drew.tm (by rw[Ry];omega) fun w1 t1 c1=>?_;have g1:LV w1 z q e:=g.drew.ch c1 (by simp;omega);have i1:=av.drew.ch c1 (by simp;omega);have k1:=be.drew.ch c1 (by simp;omega);have b1:=h.drew.b.ch c1 (by simp[LN.pd nd]);obtain⟨m1,p1,e1⟩:=h.pm;obtain⟨m2,p2,e2⟩:=h.rm
 have p1:MB u6 u6 w1 q.pm m1:=(p1.kept rfl:MB u6 u6 w.drew q.pm m1).ch c1 (by simp[LN.md nd]);have p2:MB u6 rgV w1 q.rm m2:=(p2.kept rfl:MB u6 rgV w.drew q.rm m2).ch c1 (by simp[LN.rd nd])
 -- parent
 refine au (fun y=>LV y z q e∧blk y b 31 [u6 (idE e)]∧blk y q.p 189 (plC q s)) ⟨g1.drew,i1.drew,b1.drew⟩ ?_;refine ab (fun y C _=>lK (v:=pB q.p) C.1.l rfl) (ab (fun y C _=>aj) (ab (fun y C _=>NP) ?_));refine ab (fun y C _=>lK (v:=.map (some q.pm)) C.2.2 (by rw[Nat.zero_add];exact h.c19)) <|ab (fun y C _=>lK (v:=u6 (idE e)) C.2.1 rfl) ?_
 refine ab (fun y C _=>dR) (ab (fun y C _=>lK (v:=u6 e.n) C.1.e rfl) ?_);refine uI u6K underlying183 (p1.kept rfl:MB u6 u6 w1.drew q.pm m1) fun w2 a8 M=>?_;have g2:=(g1.drew.oth M oo).drew;have i2:=(M.blk i1.drew oo).drew;have k2:=(M.blk k1.drew oo).drew;have b2:=(M.blk b1.drew (LN.pm nd)).drew
 -- own
 refine ac (fun _=>lK (v:=pB q.p) g2.l rfl) (ac (fun _=>lK (v:=iv (e.q:Nat)) k2 rfl) ?_);refine ac (fun _=>aj) (ac (fun _=>NQ) (ac (fun _=>ixO rfl Z) ?_));refine ac (fun K u=>lK (v:=iv ((iy s.N ((e.q:Nat)+1):Nat):Int)) b2 (by rw[Nat.zero_add];exact h.cO Z) u) ?_;have b0:=hi.own ((e.q:Nat)+1);refine ac (v:=iv (((iy s.N ((e.q:Nat)+1):Nat):Int)+1)) (fun _=>aM oo oo) ?_
 refine ac (fun _=>aj) (ac (fun _=>NQ) (ac (fun _=>ixO rfl Z) ?_));refine cB kf b2 (by rw[h.len];omega) rfl fun w3 b3 J=>?_;have ag:((iy s.N ((e.q:Nat)+1):Nat):Int)+1=((iy (eh x s.N) ((e.q:Nat)+1):Nat):Int):=by
  rw[Jw,O,show idE e / M40=e.o from uG oo a0.2.2.2,if_pos ho];push_cast;rfl
 rw[ag,Nat.zero_add,h.sO Z (N:=eh x s.N) (fun j hj b8=>by
  rw[Jw,O,show idE e / M40=e.o from uG oo a0.2.2.2,if_neg oo];rfl)]at b3
 have g3:=g2.oth J oo;have i3:=J.blk i2 oo;have k3:=J.blk k2 oo
 -- the rights
 refine Db (dl (vs:=z54.map iv) kr (zY fun w4 r4 bb s4=>xP rfl rfl r4 fun w5 r5 o5=>?_));have b4:=g3.e.lt;have ca:∀k∈q.l,k<w3.heap.size:=fun k hk=>by have:=hq k hk;omega
 have U:Ch [w3.heap.size] w3 w5:=(Ch.of_below bb:Ch [w3.heap.size] w3 w4).trans (Ch.of_oth o5 sm:Ch [w3.heap.size] w4 w5) (fun x hx=>.inl hx);have g5:=g3.ch U (by simp;omega);have i5:=i3.ch U (by have:=i3.lt;simp;omega);have k5:=k3.ch U (by have:=k3.lt;simp;omega);have b5:=b3.ch U (by simp;omega)
 refine lK (v:=iv (e.q:Nat)) k5 rfl (du (lK (v:=iv e.a) g5.e rfl (vG (ixR rfl Z (cB kf r5 (by simp[z54];omega) rfl fun w6 r6 o6=>?_)))));have r6:blk w6 w3.heap.size 77 (x.A.map iv):=by
  rw[Nat.zero_add]at r6;rw[a6, ←Et];exact r6
 have g6:=g5.oth o6 oo;have i6:=o6.blk i5 (by have:=i3.lt;omega);have b6:=o6.blk b5 oo;have an:Ch [w3.heap.size] w3 w6:=U.trans (Ch.of_oth o6 sm:Ch [w3.heap.size] w5 w6) (fun x hx=>.inl hx)
 have bs:MB u6 rgV w6 q.rm m2:=(((p2.kept rfl:MB u6 rgV w1.drew q.rm m2).oth M (LN.rm nd):MB u6 rgV w2 q.rm m2).oth ⟨J.os,J.tape,J.output,J.size,J.other⟩ (LN.rp nd):MB u6 rgV w3 q.rm m2).ch an (by simp;omega);have bq:x.A.length=54:=by rw[a6];simp[z54]
 have bd:(plC q {s with N:=eh x s.N})[20]? = some (.map (some q.rm)):=by
  have h':PM w q {s with N:=s.N}:=h;unfold plC;rw[show 20=6+(6+(6+2))by omega,iT (by simp[h.i6]),iT (by simp[h.l6]),iT (by rw[bo,h.v6])];rfl
 refine au (fun y=>LV y z q e∧blk y b 31 [u6 (idE e)]∧blk y q.p 189 (plC q {s with N:=eh x s.N})∧blk y w3.heap.size 77 (x.A.map iv)) ⟨g6.drew,i6.drew,b6.drew,r6.drew⟩ ?_;refine ab (fun y C _=>lK (v:=pB q.p) C.1.l rfl) (ab (fun y C _=>aj) (ab (fun y C _=>vF) ?_))
 refine ab (fun y C _=>lK (v:=.map (some q.rm)) C.2.2.1 (by rw[Nat.zero_add];exact bd)) <|ab (fun y C _=>lK (v:=u6 (idE e)) C.2.1 rfl) <|ab (fun y C _=>rT bq C.2.2.2) ?_;refine uI (v:=x.A) u6K underlying184 (bs.kept rfl:MB u6 rgV w6.drew q.rm m2) fun w7 a9 o7=>?_
 have af:Ch [w3.heap.size,q.rm] w3 w7:=(an.mono sm).trans (Ch.of_oth (F:=[q.rm]) ⟨o7.os,o7.tape,o7.output,o7.size,o7.other⟩ sm) sm
 -- what is elsewhere
 have ce:Ch q.wv w w7:=by
  have a1:Ch q.wv w w1:=((Ch.of_below (Below.refl _ w).drew:Ch q.wv w w.drew).trans c1 (by simp[LB.wv]))
  have a2:Ch q.wv w w2:=a1.trans (Ch.of_oth (F:=[q.pm]) ⟨M.os,M.tape,M.output,M.size,M.other⟩ sm) (by simp[LB.wv]);have a3:Ch q.wv w w3:=a2.trans (Ch.of_oth (F:=[q.p]) ⟨J.os,J.tape,J.output,J.size,J.other⟩ sm) (by simp[LB.wv]);exact a3.trans af (by
   have:=a3.size
   intro y C;simp only[List.mem_cons,List.not_mem_nil,or_false]at C;rcases C with rfl|rfl
   ·exact .inr this
   ·exact .inl (by simp[LB.wv]))
 have aa:∀k,k<w.heap.size→k≠q.tp→k≠q.pm→k≠q.p→k≠q.rm→w7.heap[k]? = w.heap[k]? := fun k hk n1 n2 n3 n4=>by
  have s1:=c1.size;have s1:w.heap.size≤w1.heap.size:=s1;have s2:w2.heap.size=w1.heap.size:=M.size;have s3:w3.heap.size=w2.heap.size:=J.size;rw[af.block k oo (by simp;omega),J.other k n3];show w2.heap[k]? = _;rw[M.other k n2];show w1.heap[k]? = _;rw[c1.block k hk (by simp;omega)];rfl
 have b9:w1.heap.size=w3.heap.size:=by rw[J.size];show _=w2.heap.size;rw[M.size];rfl
 have bi:=h.lt;simp only[LB.l,List.mem_cons,List.not_mem_nil,or_false,forall_eq_or_imp,forall_eq]at bi;have mv:∀k,k≠q.pm→k≠q.p→k≠q.rm→k<w1.heap.size→w7.heap[k]? = w1.heap[k]? := fun k n2 n3 n4 hk=>by
  rw[af.block k oo (by simp;omega),J.other k n3];show w2.heap[k]? = _;rw[M.other k n2];rfl
 obtain⟨mt,pt,et⟩:=t1.mp;have bn:TreeM w7 q.t q.tp (tr (eh x s.N)):=by
  refine⟨?_,⟨mt,pt.kept (mv _ (LN.dm nd) (LN.dp nd) (LN.dr nd) pt.lt),et.trans (by rw[e0];exact al _)⟩,JH a5⟩
  have:=t1.bt
  unfold blk at this ⊢;rw[mv _ (LN.tm nd) (LN.tp nd) (LN.tr nd) t1.bt.lt];exact this
 have az:dK m1 (idE e)=none:=by
  rw[nL e1 (JH hi.srt),Ib (JH hi.srt),kW,hn]
 have aS:dK m2 (idE e)=none:=by
  rw[nL e2 (FX hi.srt),Mt,hn]
 rw[yC az]at a8;rw[yC aS]at a9;refine u w7 ⟨h.i6,h.l6,h.v6,?_,bn,⟨_,a8.kept ?_,?_⟩,⟨_,a9,?_⟩,?_,?_,h.nd,?_⟩ ce
 ·exact o7.blk b6.drew (LN.pr nd)
 ·have bk:q.pm<w3.heap.size:=by omega
  rw[af.block q.pm bk (by simp[LN.mr nd];omega),J.other _ (LN.mp nd)];rfl
 ·refine(List.perm_append_singleton _ _).trans ((e1.cons _).trans ?_)
  have:=((GM (x:=x) (N:=s.N)).map fun y:ND=>(y.id,y.par)).symm
  rw[List.map_cons,O,a7]at this;exact this
 ·refine(List.perm_append_singleton _ _).trans ((e2.cons _).trans ?_)
  have:=((GM (x:=x) (N:=s.N)).map fun y:ND=>(y.id,y.A)).symm
  rw[List.map_cons,O]at this;exact this
 ·obtain⟨m3,p3,e3⟩:=h.gm;exact⟨m3,p3.kept (aa _ p3.lt (LN.gd nd) (LN.gm nd) (LN.gp nd) (LN.gr nd)),e3⟩
 ·obtain⟨m4,p4,e4⟩:=h.am;exact⟨m4,p4.kept (aa _ p4.lt (LN.ad nd) (LN.am nd) (LN.ap nd) (LN.ar nd)),e4⟩
 ·exact h.kd.keep (aa _ h.kd.lt (LN.zd nd) (LN.zm nd) (LN.zp nd) (LN.zr nd))
end
theorem PM.oth {q:LB}{s:PL}(h:PM w q s)(o:Oth b w w')(j:b∉q.l):PM w' q s:=h.keep fun k u _=>o.other k fun e=>j (e ▸ u)
def DoesB (B:Nat)(w':World)(q:LB)(s1:PL)(fv:Value):Prop:=∃X:List Nat,(∀k∈X,B≤k)∧∀(w2:World) (K2:KV),Below w'.heap.size w' w2→(∀w3,PM w3 q s1→Ch (X++q.wv) w2 w3→K2 (.tuple #[]) w3)→aZ Q fv #[] K2 w2
def Kind (w:World)(q:LB)(s:PL)(e:EV)(K:KV):Prop :=
 (∀w',og e s≠0→Below w.heap.size w w'→K (.tuple #[.nilFunc,ci (og e s)]) w') ∧
 (og e s=0→∀w' fv,Below w.heap.size w w'→DoesB w.heap.size w' q (sX e s) fv→K (.tuple #[fv,ci 0]) w')
theorem Kind.y {q:LB}{s:PL}{e:EV}(u:Kind w q s e K)(j:og e s=0)(w':World)(h:Value)(b:Below w.heap.size w w')(d:zcO w' q (sX e s) h):K (.tuple #[h,ci 0]) w':=u.2 j w' h b ⟨[],by simp,d⟩
section
variable {w:World}{K:KV}{q:LB}{s:PL}{e:EV}
theorem zc4 (h:PM w q s)(hi:PI s)(hm:bJ e=true)(hk:e.k=1)(hn:dv s.N (idE e)=false)(kd:Kind w q s e K):call Q 296 #[pB q.p,.agg (evC e).toArray] K w:=by
 have ag:=kd.y;obtain⟨no,_⟩:=kd;obtain⟨af,ho⟩:=sj hm;have C:=gW hm;have U:=h.lt;have u:og e s=if 5≤iy s.N e.o∨M47<e.a then 6 else (jm (tr s.N) (idE e) e.n).2:=by unfold og;rw[if_pos hk]
 refine ak (goK func296) (Ho (LE.make fun w1 J s1=>?_));have J:=J.drew;have p1:=h.below J.bel;refine au (fun y=>LE w y q e∧PM y q s) ⟨J,p1⟩ ?_;refine ab (fun y I _=>bw) (ab (fun y I _=>lK (v:=iv e.o) I.1.e rfl) ?_);refine ab (fun y I _=>gN) (ab (fun y I _=>lK (v:=u6 e.s) I.1.e rfl) ?_);refine ab (fun y I _=>bw) (ab (fun y I _=>lK (v:=iv e.o) I.1.e rfl) ?_)
 refine ab (v:=iv (e.q:Nat)) (fun y I K j=>ba oo oo (by rw[show e.o-1=(e.q:Nat)by omega];exact j)) ?_;refine mk6 C.1 C.2.1 C.2.2.1 C.2.2.2 (fun w' b=>⟨J.fresh b,p1.below b⟩) fun w2 bi bk i2 k2 ad zi zk b2=>?_;have z2:w.heap.size+2≤w1.heap.size:=J.sz;have zi:w.heap.size+2≤bi:=Nat.le_trans z2 zi;have zk:w.heap.size+2≤bk:=Nat.le_trans z2 zk;have g2:=J.fresh b2
 have p2:=p1.below b2;refine cB kf i2 sm rfl fun w3 i3 o3=>?_;have i3:blk w3 bi 31 [u6 (idE e)]:=i3;have g3:=g2.oth o3 zi;have p3:=p2.oth o3 fun hh=>by have:=U _ hh;omega
 have k3:=o3.blk k2 (fun e=>ad e.symm);refine aC ⟨g3,p3⟩ (cB kf k3 sm rfl fun w4 Z o4=>?_);have Z:blk w4 bk 3 [iv (e.q:Nat)]:=Z;have i4:=(o4.blk i3 ad).drew;have Z:=Z.drew;have M:=(g3.oth o4 zk).drew;have p4:=(p3.oth o4 fun hh=>by have:=U _ hh;omega).drew;refine ac (fun _=>lK (v:=pB q.p) M.l rfl) (ac (fun _=>lK (v:=iv (e.q:Nat)) Z rfl) ?_)
 refine ac (fun _=>aj) (ac (fun _=>NQ) (ac (fun _=>ixO rfl af) ?_));refine ac (fun K j=>lK (v:=iv ((iy s.N ((e.q:Nat)+1):Nat):Int)) p4.b (by rw[Nat.zero_add];exact p4.cO af) j) ?_;rw[←ho];refine ac (fun _=>bI) ?_;by_cases h5:(5:Int)≤((iy s.N e.o:Nat):Int)
 ·refine iq h5 (ac (fun _=>bA h5) (aT ?_));rw[if_pos (.inl oo)]at u
  have:=no _ (by rw[u];decide) M.bel
  rwa[u]at this
 refine dt h5 (ac (fun _=>du) (ac (fun _=>lK (v:=iv e.a) M.e rfl) (ac (fun _=>bO) (ac (fun _=>bj h5) ?_))));by_cases h6:(140737488355328:Int)<e.a
 ·refine ax h6 ?_;rw[if_pos (.inr h6)]at u
  have:=no _ (by rw[u];decide) M.bel
  rwa[u]at this
 rw[if_neg (by simp only[M47];omega)]at u;refine ao h6 (lK (v:=pB q.p) M.l rfl (lK (v:=u6 (idE e)) i4 rfl (dR (lK (v:=u6 e.n) M.e rfl ?_))));refine zcm p4 hi fun w5 b5=>aX ?_;have g5:=M.fresh b5;by_cases O:(jm (tr s.N) (idE e) e.n).2≠0
 ·refine ax O ?_
  have:=no _ (by rw[u];exact O) g5.bel
  rwa[u]at this
 have O:(jm (tr s.N) (idE e) e.n).2=0:=by simpa using O
 refine ao (by simp[O]) (ag (by rw[u];exact O) w5 _ g5.bel fun w6 K2 b6 aa=>dn rfl ?_);have p6:=(p4.below b5).below b6;have g6:=g5.fresh b6;rw[zbu hk]at aa;exact za3 g6.lv (ae (b5.trans (b6.mono b5.size)) i4 i4.lt) (ae (b5.trans (b6.mono b5.size)) Z Z.lt) zi zk U p6 hi hm hn O aa
/-! ## A node's rights, put -/
theorem RW {N:List ND}{ids:List Int}{y:Int}:dK (rgL (N.map (eD ids c x))) y=match dv N y with|true=>some (if y∈ids then (aN N y).set c (nA (aN N y) c+x)else aN N y)|false=>none:=by
 rw[Mt,O9 fun z=>(iX z).1];cases I:dv N y with
 | false=>rfl
 | true =>
  simp only
  congr 1
  unfold aN;rw[List.find?_map];have e:((fun z:ND=>z.id==y) ∘ eD ids c x)=fun z:ND=>z.id==y:=by
   funext z;show ((eD ids c x z).id==y)=_;rw[(iX z).1]
  rw[e];cases u:N.find? fun z=>z.id==y with
  | none =>
   exfalso;obtain⟨z,j,C⟩:=oh.1 I
   have:=List.find?_eq_none.1 u z j
   exact this (by simpa using C)
  | some z =>
   have j:z.id=y:=by simpa using List.find?_some u
   simp only[Option.map_some];by_cases h:y∈ids
   ·rw[if_pos h,AM (by rw[j];exact h)]
   ·rw[if_neg h,AL (by rw[j];exact h)]
theorem SV {N:List ND}:N.map (eD [] c x)=N:=by
 conv=>rhs;rw[←List.map_id N]
 exact List.map_congr_left fun y _=>AL sm
theorem zeM {N N':List ND}(h:∀o,iy N' o=iy N o):plC q {s with N:=N'} = plC q {s with N:=N}:=by
 unfold plC Jv;simp only[h]
theorem PM.put_c {done:List Int}{id:Int}(h:PM w q {s with N:=s.N.map (eD done c x)})(hi:PI s)(aa:id∉done)(hh:dv s.N id=true)(hA:A=(aN s.N id).set c (nA (aN s.N id) c+x))(hK:∀w',PM w' q {s with N:=s.N.map (eD (done++[id]) c x)}→Oth q.rm w w'→K undef w'):cP Q 184 (.map (some q.rm)) (u6 id) (rgV A) K w:=by
 have nd:=h.nd;obtain⟨m,U,hp⟩:=h.rm;refine uI u6K underlying184 U fun O I j=>hK O ?_ j;have u:∀l,(s.N.map (eD l c x)).Pairwise (·.id < ·.id):=fun l=>Jl (fun y=>(iX y).1) hi.srt;have C:(s.N.map (eD (done++[id]) c x)).map (fun y=>(y.id,y.par))=(s.N.map (eD done c x)).map fun y=>(y.id,y.par):=by
  rw[List.map_map,List.map_map];exact List.map_congr_left fun y _=>by
   show ((eD _ _ _ y).id,(eD _ _ _ y).par)=((eD _ _ _ y).id,(eD _ _ _ y).par)
   rw[(iX y).1,(iX y).2,(iX y).1,(iX y).2]
 have C:tr (s.N.map (eD (done++[id]) c x))=tr (s.N.map (eD done c x)):=C;have k:∀k∈q.l,k≠q.rm→O.heap[k]? = w.heap[k]? := fun k _ J=>j.other k J;obtain⟨i6,l6,v6,b,tm,⟨Z,p1,e1⟩,_,⟨m3,p3,e3⟩,⟨m4,p4,e4⟩,_,kd⟩:=h
 refine⟨i6,l6,v6,?_,?_,⟨Z,p1.oth j (LN.mr nd),by show Z.Perm (tr _);rw[C];exact e1⟩,⟨_,I,?_⟩,⟨m3,p3.oth j (LN.gr nd),e3⟩,⟨m4,p4.oth j (LN.ar nd),e4⟩,nd,kd.keep (j.other 0 (LN.zr nd))⟩
 ·have:=j.blk b (LN.pr nd)
  rw[zeM (s:=s) (N:=s.N.map (eD done c x)) (N':=s.N.map (eD (done++[id]) c x)) (fun o=>by rw[Jx fun y=>(iX y).1,Jx fun y=>(iX y).1])];exact this
 ·have:=tm.oth j (LN.tr nd) (LN.dr nd)
  show TreeM O q.t q.tp (tr _);rw[C];exact this
 ·refine Sb (zR U.nodup) (FX (u _)) fun y=>?_;rw[Jt,nL hp (FX (u _)),RW,RW];by_cases M:y=id
  ·subst M;rw[if_pos rfl,hh,hA];simp
  ·rw[if_neg M];cases dv s.N y with
   | false=>rfl
   | true=>simp[M]
theorem PM.put1_c {id:Int}(h:PM w q s)(hi:PI s)(C:dv s.N id=true)(j:A=(aN s.N id).set c (nA (aN s.N id) c+x))(u:∀w',PM w' q {s with N:=s.N.map (eD [id] c x)}→Oth q.rm w w'→K undef w'):cP Q 184 (.map (some q.rm)) (u6 id) (rgV A) K w:=by
 refine PM.put_c (s:=s) (done:=[]) (c:=c) (x:=x) ?_ hi sm C j u;rw[SV];exact h
end
theorem Me {s:PL}(hi:PI s)(id:Int):(aN s.N id).length=54:=by
 cases h:dv s.N id with
 | true=>exact SR hi h
 | false=>rw[Qv h];simp[z54]
theorem WI {i j:Int}(h:A.length=54):(mX A i j x).1.length=54:=by rw[VJ];exact Id _ _ _ _ _ h
theorem Qc {i:Int}(h:A.length=54):(mf A i x).1.length=54:=by rw[W7];exact Id _ _ _ _ _ h
theorem Qb {i:Int}(h:A.length=54):(mc A i x).1.length=54:=by rw[Vo];exact Id _ _ _ _ _ h
section
variable {w:World}{K:KV}{q:LB}{s:PL}{e:EV}
theorem Yk {r:Nat}(g:LV w z q e)(U:blk w r 77 (A.map iv))(O:A.length=54)(h:PM w q s)(hi:PI s)(M:dv s.N e.n=true)(J:A=(aN s.N e.n).set c (nA (aN s.N e.n) c+x))(j:∀w',PM w' q {s with N:=s.N.map (eD [e.n] c x)}→Ch q.wv w w'→K (.tuple #[]) w'):call Q 307 #[pB r,pB z,pB (z+1)] K w:=by
 refine ak (goK func307) (DX ?_);refine au (fun y=>LV y z q e∧PM y q s∧blk y r 77 (A.map iv)) ⟨g.drew,h.drew,U.drew⟩ ?_;refine ab (fun y u _=>lK (v:=pB q.p) u.1.l rfl) (ab (fun y u _=>aj) (ab (fun y u _=>vF) ?_));refine ab (fun y u _=>lK (v:=.map (some q.rm)) u.2.1.b (by rw[Nat.zero_add];exact u.2.1.c20)) ?_;refine ab (fun y u _=>dR) (ab (fun y u _=>lK (v:=u6 e.n) u.1.e rfl) ?_)
 refine ab (fun y u _=>rT O u.2.2) ?_;exact h.drew.put1_c hi M J fun Z I C=>j Z I (Ch.of_oth ⟨C.os,C.tape,C.output,C.size,C.other⟩ (by simp[LB.wv]))
theorem zab {r:Nat}(g:LV w z q e)(U:blk w r 77 (A.map iv))(O:A.length=54)(h:PM w q s)(hi:PI s)(M:dv s.N e.n=true)(J:A=(aN s.N e.n).set c (nA (aN s.N e.n) c+x))(j:∀w',PM w' q {s with N:=s.N.map (eD [e.n] c x)}→Ch q.wv w w'→K (.tuple #[]) w'):call Q 316 #[pB r,pB z,pB (z+1)] K w:=by
 refine ak (goK func316) (FG ?_);refine au (fun y=>LV y z q e∧PM y q s∧blk y r 77 (A.map iv)) ⟨g.drew,h.drew,U.drew⟩ ?_;refine ab (fun y u _=>lK (v:=pB q.p) u.1.l rfl) (ab (fun y u _=>aj) (ab (fun y u _=>vF) ?_));refine ab (fun y u _=>lK (v:=.map (some q.rm)) u.2.1.b (by rw[Nat.zero_add];exact u.2.1.c20)) ?_;refine ab (fun y u _=>dR) (ab (fun y u _=>lK (v:=u6 e.n) u.1.e rfl) ?_)
 refine ab (fun y u _=>rT O u.2.2) ?_;exact h.drew.put1_c hi M J fun Z I C=>j Z I (Ch.of_oth ⟨C.os,C.tape,C.output,C.size,C.other⟩ (by simp[LB.wv]))
theorem zaq (h:PM w q s)(hi:PI s)(hm:bJ e=true)(hk:e.k=2)(kd:Kind w q s e K):call Q 297 #[pB q.p,.agg (evC e).toArray] K w:=by
 have af:=kd.y;obtain⟨no,_⟩:=kd;obtain⟨C,ho⟩:=sj hm;have ag:=gW hm;have aa:=h.lt;have ea:1≤e.a∧e.a≤MXA:=by rcases rS hm with⟨k,_⟩|⟨_,a,b⟩|⟨k,_⟩|⟨k,_⟩|⟨k,_⟩|⟨k,_⟩|k<;>first|omega|exact⟨a,b⟩
 have I:og e s=if dv s.N e.n=false then 9 else if M47<nA (aN s.N e.n) e.q+e.a then 6 else 0:=by unfold og;rw[if_neg oo,if_pos hk]
 have hl:=Me hi e.n;refine ak (goK func297) (Gt (LE.make fun w1 M s1=>?_));have M:=M.drew;have p1:=h.below M.bel;refine au (fun y=>LE w y q e∧PM y q s) ⟨M,p1⟩ ?_;refine ab (fun y u _=>lK (v:=pB q.p) u.1.l rfl) (ab (fun y u _=>aj) (ab (fun y u _=>vF) ?_));refine ab (fun y u _=>lK (v:=.map (some q.rm)) u.2.b (by rw[Nat.zero_add];exact u.2.c20)) ?_
 refine ab (fun y u _=>dR) (ab (fun y u _=>lK (v:=u6 e.n) u.1.e rfl) ?_);refine ab (fun y u _=>u.2.rg_l2 hi) (ab (fun y u _=>bu) (ab (fun y u _=>bv) ?_));refine zY fun w2 r2 b2 s2=>aC ⟨M.fresh b2,p1.below b2⟩ (xP rfl hl r2 fun w3 r3 o3=>?_);have zz:w.heap.size+2≤w1.drew.heap.size:=M.sz;have O:=(M.fresh b2).oth o3 zz;have p3:=(p1.below b2).oth o3 fun J=>by have:=aa _ J;omega
 refine aC ⟨O,p3⟩ (bK ?_);cases J:dv s.N e.n with
 | false =>
  rw[J,if_pos rfl]at I
  have:=no _ (by rw[I];decide) O.bel
  rw[I]at this;exact aT this
 | true =>
 rw[J,if_neg sm]at I;have hb:nA (aN s.N e.n) e.q≤M47∧0≤nA (aN s.N e.n) e.q:=by
  obtain⟨y,u,e1⟩:=ua J;rw[←e1,wC hi.srt u];exact⟨(hi.may y u).2 _ C,((AX.1 (hi.may y u).1).g _ C).1⟩
 simp only[M47,MXA]at hb ea;have O:=O.drew;have p3:=p3.drew;have r3:=r3.drew;refine aF (ac (fun _=>bw) (ac (fun _=>lK (v:=iv e.o) O.e rfl) ?_));refine ac (v:=iv (e.q:Nat)) (fun K j=>ba oo oo (by rw[show e.o-1=(e.q:Nat)by omega];exact j)) ?_;refine ac (fun _=>vG) (ac (fun _=>ixR rfl C) ?_)
 refine ac (v:=iv (nA (aN s.N e.n) e.q)) (fun _=>lK r3 (by rw[Nat.zero_add];exact ti oo)) ?_;refine ac (fun _=>du) (ac (fun _=>lK (v:=iv e.a) O.e rfl) ?_);refine ac (fun _=>aM oo oo) ?_;refine ac (fun _=>vG) (ac (fun _=>ixR rfl C) ?_);refine cB kf r3 (by simp[hl];omega) rfl fun w4 U o4=>?_
 obtain⟨A,hA⟩:∃A,A=(aN s.N e.n).set e.q (nA (aN s.N e.n) e.q+e.a):=⟨_,rfl⟩
 have ad:A.length=54:=by rw[hA,List.length_set];exact hl
 have U:blk w4 w1.drew.heap.size 77 (A.map iv):=by
  rw[Nat.zero_add]at U;rw[hA, ←Et];exact U
 have g4:=O.oth o4 zz;have p4:=p3.oth o4 fun J=>by have:=aa _ J;omega
 refine DY (bw (lK (v:=iv e.o) g4.e rfl (ba oo oo ?_)));rw[show e.o-1=(e.q:Nat)by omega];refine vG (ixR rfl C (lK (v:=iv (nA (aN s.N e.n) e.q+e.a)) U (by
  rw[Nat.zero_add,ti oo,hA,oa oo,sU]) (bO ?_)))
 by_cases h6:(140737488355328:Int)<nA (aN s.N e.n) e.q+e.a
 ·refine ax h6 ?_;rw[if_pos h6]at I
  have:=no _ (by rw[I];decide) g4.bel
  rwa[I]at this
 rw[if_neg h6]at I;refine ao h6 (DZ (af I w4 _ g4.bel fun w6 K2 b6 Z=>dn rfl ?_));rw[zbv hk]at Z;exact Yk (g4.fresh b6).lv (ae b6 U U.lt) ad (p4.below b6) hi J hA Z
theorem zao (h:PM w q s)(hi:PI s)(hm:bJ e=true)(hk:e.k=5)(kd:Kind w q s e K):call Q 300 #[pB q.p,.agg (evC e).toArray] K w:=by
 have al:=kd.y;obtain⟨no,_⟩:=kd;have am:=gW hm;have af:=h.lt;have ea:1≤e.t∧e.t≤6:=by rcases rS hm with⟨k,_⟩|⟨k,_⟩|⟨k,_⟩|⟨k,_⟩|⟨_,_,_,a,b,_⟩|⟨k,_⟩|k<;>first|omega|exact⟨a,b⟩
 obtain⟨t,ht⟩:∃t:Nat,t=(e.t-1).toNat:=⟨_,rfl⟩
 have ag:t<6:=by omega
 have J:og e s=if dv s.N e.n=false then 9 else if s.I.getD (e.t-1).toNat false=false then 10 else (mX (aN s.N e.n) e.o e.t e.a).2:=by unfold og;rw[if_neg oo,if_neg oo,if_neg oo,if_neg oo,if_pos hk]
 have hl:=Me hi e.n;refine ak (goK func300) (Hq (LE.make fun w1 O s1=>?_));have O:=O.drew;have p1:=h.below O.bel;refine au (fun y=>LE w y q e∧PM y q s) ⟨O,p1⟩ ?_;refine ab (fun y C _=>lK (v:=pB q.p) C.1.l rfl) (ab (fun y C _=>aj) (ab (fun y C _=>vF) ?_));refine ab (fun y C _=>lK (v:=.map (some q.rm)) C.2.b (by rw[Nat.zero_add];exact C.2.c20)) ?_
 refine ab (fun y C _=>dR) (ab (fun y C _=>lK (v:=u6 e.n) C.1.e rfl) ?_);refine ab (fun y C _=>C.2.rg_l2 hi) (ab (fun y C _=>bu) (ab (fun y C _=>bv) ?_));refine zY fun w2 r2 b2 s2=>aC ⟨O.fresh b2,p1.below b2⟩ (xP rfl hl r2 fun w3 r3 o3=>?_);have zz:w.heap.size+2≤w1.drew.heap.size:=O.sz;have M:=(O.fresh b2).oth o3 zz;have p3:=(p1.below b2).oth o3 fun Z=>by have:=af _ Z;omega
 refine aC ⟨M,p3⟩ (bK ?_);cases Z:dv s.N e.n with
 | false =>
  rw[Z,if_pos rfl]at J
  have:=no _ (by rw[J];decide) M.bel
  rw[J]at this;exact aT this
 | true =>
 rw[Z,if_neg sm, ←ht]at J;have M:=M.drew;have p3:=p3.drew;have r3:=r3.drew;refine aF (ac (fun _=>lK (v:=pB q.p) M.l rfl) (ac (fun _=>gO) (ac (fun _=>lK (v:=iv e.t) M.e rfl) ?_)));refine ac (v:=iv (t:Nat)) (fun K u=>ba oo oo (by rw[show e.t-1=(t:Nat)by omega];exact u)) ?_;refine ac (fun _=>aj) (ac (fun _=>EI) (ac (fun _=>Re rfl ag) ?_))
 refine ac (fun _=>lK (v:=.bool (s.I.getD t false)) p3.b (by rw[Nat.zero_add];exact p3.cI ag)) (ac (fun _=>bK) ?_);cases hI:s.I.getD t false with
 | false =>
  rw[hI,if_pos rfl]at J
  have:=no _ (by rw[J];decide) M.bel
  rw[J]at this;exact aT this
 | true =>
 rw[hI,if_neg sm]at J;refine aF (rT hl r3 (bw (lK (v:=iv e.o) M.e rfl (gO (lK (v:=iv e.t) M.e rfl (du (lK (v:=iv e.a) M.e rfl ?_)))))));refine zci hl fun w4 b4=>bu (bv ?_);have ad:=WI (i:=e.o) (j:=e.t) (x:=e.a) hl;refine xP hl ad (ae b4 r3 r3.lt) fun w5 r5 o5=>FH (aX ?_);have g5:=(M.fresh b4).oth o5 zz;have p5:=(p3.below b4).oth o5 fun Z=>by have:=af _ Z;omega
 by_cases U:(mX (aN s.N e.n) e.o e.t e.a).2≠0
 ·refine ax U ?_
  have:=no _ (by rw[J];exact U) g5.bel
  rwa[J]at this
 have U:(mX (aN s.N e.n) e.o e.t e.a).2=0:=by simpa using U
 refine ao (by simp[U]) (al (by rw[J];exact U) w5 _ g5.bel fun w6 K2 b6 aa=>dn rfl ?_);rw[zby hk]at aa;exact zab (g5.fresh b6).lv (ae b6 r5 r5.lt) ad (p5.below b6) hi Z (zaa U) aa
theorem zbV (h:PM w q s)(hm:bJ e=true)(hk:e.k=6)(kd:Kind w q s e K):call Q 301 #[pB q.p,.agg (evC e).toArray] K w:=by
 have ea:1≤e.t∧e.t≤6:=by rcases rS hm with⟨k,_⟩|⟨k,_⟩|⟨k,_⟩|⟨k,_⟩|⟨k,_⟩|⟨_,a,b,_⟩|k<;>first|omega|exact⟨a,b⟩
 obtain⟨t,ht⟩:∃t:Nat,t=(e.t-1).toNat:=⟨_,rfl⟩
 have C:t<6:=by omega
 have ee:og e s=0:=by unfold og;rw[if_neg oo,if_neg oo,if_neg oo,if_neg oo,if_neg oo]
 refine ak (goK func301) (Hn (LE.make fun w1 J s1=>kd.y ee w1 _ J.bel fun w2 K2 U M=>dn rfl ?_));have g2:=(J.fresh U).drew;have I:=(h.below (J.fresh U).bel).drew;have nd:=I.nd;refine ak (goK func317) (FD ?_);refine ac (fun _=>lK (v:=pB q.p) g2.l rfl) (ac (fun _=>gO) (ac (fun _=>lK (v:=iv e.t) g2.e rfl) ?_))
 refine ac (v:=iv (t:Nat)) (fun K j=>ba oo oo (by rw[show e.t-1=(t:Nat)by omega];exact j)) ?_;refine ac (fun _=>aj) (ac (fun _=>EI) (ac (fun _=>Re rfl C) ?_));refine cB kf I.b (by rw[I.len];omega) rfl fun w3 Z u=>M w3 ?_ (Ch.of_oth ⟨u.os,u.tape,u.output,u.size,u.other⟩ (by simp[LB.wv]));rw[zbz hk, ←ht];rw[Nat.zero_add,I.sI C]at Z
 obtain⟨i6,l6,v6,b,tm,⟨m1,x1,e1⟩,⟨m2,x2,e2⟩,⟨m3,x3,e3⟩,⟨m4,x4,e4⟩,_,O⟩:=I;exact⟨by simp[i6],l6,v6,Z,tm.oth u (LN.tp nd) (LN.dp nd),⟨m1,x1.oth u (LN.mp nd),e1⟩,⟨m2,x2.oth u (LN.rp nd),e2⟩,⟨m3,x3.oth u (LN.gp nd),e3⟩,⟨m4,x4.oth u (LN.ap nd),e4⟩,nd,O.keep (u.other 0 (LN.zp nd))⟩
theorem ZT (h:PM w q s)(hm:bJ e=true)(hk:e.k=7)(kd:Kind w q s e K):call Q 302 #[pB q.p,.agg (evC e).toArray] K w:=by
 obtain⟨C,ho⟩:=sj hm;have aa:=gW hm;have ee:og e s=0:=by unfold og;rw[if_neg oo,if_neg oo,if_neg oo,if_neg oo,if_neg oo]
 refine ak (goK func302) (Gs (LE.make fun w1 J s1=>kd.y ee w1 _ J.bel fun w2 K2 U M=>dn rfl ?_));have g2:=(J.fresh U).drew;have I:=(h.below (J.fresh U).bel).drew;have nd:=I.nd;refine ak (goK func318) (DW ?_);refine ac (fun _=>lK (v:=pB q.p) g2.l rfl) (ac (fun _=>bw) (ac (fun _=>lK (v:=iv e.o) g2.e rfl) ?_))
 refine ac (v:=iv (e.q:Nat)) (fun K j=>ba oo oo (by rw[show e.o-1=(e.q:Nat)by omega];exact j)) ?_;refine ac (fun _=>aj) (ac (fun _=>NO) (ac (fun _=>Re rfl C) ?_));refine cB kf I.b (by rw[I.len];omega) rfl fun w3 Z u=>M w3 ?_ (Ch.of_oth ⟨u.os,u.tape,u.output,u.size,u.other⟩ (by simp[LB.wv]));rw[zbA hk];rw[Nat.zero_add,I.sL C]at Z
 obtain⟨i6,l6,v6,b,tm,⟨m1,x1,e1⟩,⟨m2,x2,e2⟩,⟨m3,x3,e3⟩,⟨m4,x4,e4⟩,_,O⟩:=I;exact⟨i6,by simp[l6],v6,Z,tm.oth u (LN.tp nd) (LN.dp nd),⟨m1,x1.oth u (LN.mp nd),e1⟩,⟨m2,x2.oth u (LN.rp nd),e2⟩,⟨m3,x3.oth u (LN.gp nd),e3⟩,⟨m4,x4.oth u (LN.ap nd),e4⟩,nd,O.keep (u.other 0 (LN.zp nd))⟩
end
end
end
end Go.Proofs.YtkfgimlaijifaaaGreatDoor
