import Derived.Test.YtkbhfjljieopoaaGreatDoorQ2
import Derived.Test.YtkbhfjljieopoaaGreatDoorQ1
import Derived.Test.YtkbhfjljieopoaaGreatDoorChecked
import Derived.Test.YtkbhfjljieopoaaGreatDoorQ4
import Derived.Shelf.SlSortCmp.NoneTotal
import Derived.Shelf.SlGeneric
import Derived.Ground.SlsfProg
import Derived.Test.YtkbhfjljieopoaaGreatDoorQ3
namespace Go.Proofs.YtkbhfjljieopoaaGreatDoor
set_option maxRecDepth 100000
set_option maxHeartbeats 4000000
open Go.Proofs.Tryz
variable {w w':World}{K:KV}{zf dd:Nat→Value}{b n c o k B i g p j m s z f D c2 hi:Nat}{x r:Int}{B1 B2:KE}{a:Option Addr}{cs ys:List Value}{E t e:TypeId}{xs v:List Int}{T:List (Int×Int)}{F:List Nat}{Y5 Z5 K6 W6 X6 Y6 Z6 u7 B7 K7 W7 X7 Y7 Z7 B8 K8 W8 X8 Y8 Z8 l9 n9 u9 B9 K9 W9 X9 Y9 Z9 ia ja ka qa ua xa ya Aa Ba Ca Da Ea Fa Ga Ha Ia Ja Ka La Ma Na Oa Pa Qa Ra Sa:Value}
section
open Go.RowKit
def vo (n0 n1 l4 k_5 C9 D0:Value)(zf:Nat→Value):List Value:=n0::n1::zf 2::zf 3::l4::k_5::zT zf 6 13 (C9::D0::zT zf 21 9 ([]))
def mP (K:KV):KE:=ae Q (cd f20 [1,1,1,1]) (rk f20 K) xf (rk f20 K)
def uG (K:KV):KE:=ae Q (cd f20 (b1 122)) (mP K) (xx xf (mP K) 0) (rk f20 K)
theorem KQ (h:bin Q .lss 3 false true Y5 (ci 1) (fun A7 w=>aI A7 false (fun u=>bin Q .gtr 3 false true Y5 (ci 6) (fun C0=>u [Y5,C0]) w) (fun k=>k [uu,uu] w) fun j=>pick A7 cT (gd j 1) fun C1 w=>cond C1 (K (Value.tuple #[Value.pointer none,ci 1]) w) (call Q 50 #[] (fun C2=>dE Q 129 none fun C3=>dE Q 130 none fun C4=>dE Q 131 none fun C5=>dE Q 132 none fun C6=>bld Q 135 #[(3,C2),(4,C3),(5,C4),(7,C5),(8,C6)] fun C7=>box Q 135 C7 fun C8=>uG K (vo Y5 uu C8 uu Y5 (ci 0) (zV (zV zu 2 [Value.pointer none,ci 0]) 6 [Y5,A7,A7,gd j 0,gd j 1,C1,C2,C3,C4,C5,C6,C7,C8]))) w)) w):Gives Q 20 #[Y5] w K:=by
 refine aB func20 (by kernel_rfl) ?_;revert h;delta uG mP;exact mpF
theorem IJ (Inv:Value→World→Prop)(μ:Value→World→Nat)(I:Inv Y6 w)(J:∀(j:Value) (dd:Nat→Value) (w:World) (m:Nat),Inv j w→m=μ j w →
  lS j X6 (fun D1 w=>cond D1 (aU K6 (fun D5=>aT Q 135 D5 0 fun D6=>aV Q 41 D6 j fun D7=>sto Q 4 D7 cT fun _=>nC j fun D8 w=>(Inv D8 w)∧((μ D8 w)<m)) w) (mP K (vo Y5 Z5 K6 (dd 5) X6 j (zV dd 21 [D1])) w)) w):uG K (vo Y5 Z5 K6 W6 X6 Y6 zf) w:=by
 refine aL (cd f20 (b1 244)) (zr [(5,1),(20,9)]) (by kernel_rfl) (vP [20] Inv) (vQ [20] μ) I ?_;intro e' w' hI;have h:=J _ (zM zf (fun i=>gd e' i) (zr [(5,1),(20,9)])) w' _ hI rfl;revert h;generalize (mP K)=qc0;exact mpF
theorem IK (h:K (Value.tuple #[K6,ci 0]) w):mP K (vo Y5 Z5 K6 W6 X6 Y6 zf) w:=by
 delta mP;exact mpK h
attribute [irreducible] mP uG
def ol (K:KV)(D:Nat):KE:=ae Q (cd f237 [1,1,1,1]) (vm Q Tryz.f237.results.toList K D) xf (vm Q Tryz.f237.results.toList K D)
def cH (K:KV)(D:Nat):KE:=ae Q (cd f237 (b1 63)) (vm Q Tryz.f237.results.toList K D) xf (vm Q Tryz.f237.results.toList K D)
def mK (K:KV)(D:Nat):KE:=ae Q (cd f237 (b1 250)) (cH K D) (xx xf (cH K D) 2) (vm Q Tryz.f237.results.toList K D)
def fQ (K:KV)(D:Nat)(B1:KE):KE:=ae Q (cd f237 (b1 4007)) B1 (xx xf (cH K D) 2) (vm Q Tryz.f237.results.toList K D)
def kI (K:KV)(D:Nat)(B1:KE):KE:=ae Q (cd f237 (b1 4006)) (fQ K D B1) (xx xf (cH K D) 2) (vm Q Tryz.f237.results.toList K D)
theorem Be (h:ld Q 79 W6 (fun ua=>aU ua fun xa=>aT Q 135 xa 3 fun ya=>ld Q 127 ya fun Aa=>call Q 51 #[Aa] fun Ba=>lN 120 Ba fun Ca=>mK K D (Y5::Z5::K6::W6::X6::Y6::Z6::u7::B7::K7::W7::X7::Y7::Z7::B8::K8::W8::X8::Y8::Z8::l9::n9::u9::B9::K9::W9::X9::Y9::Z9::ia::ja::ka::qa::ua::xa::ya::Aa::Ba::Ca::(ci 0)::Ea::Fa::Ga::Ha::Ia::Ja::Ka::La::Ma::Na::Oa::Pa::Qa::Ra::Sa::[])) w):ol K D (Y5::Z5::K6::W6::X6::Y6::Z6::u7::B7::K7::W7::X7::Y7::Z7::B8::K8::W8::X8::Y8::Z8::l9::n9::u9::B9::K9::W9::X9::Y9::Z9::ia::ja::ka::qa::ua::xa::ya::Aa::Ba::Ca::Da::Ea::Fa::Ga::Ha::Ia::Ja::Ka::La::Ma::Na::Oa::Pa::Qa::Ra::Sa::[]) w:=by
 delta ol;revert h;delta mK cH;exact mpF
theorem yB {K:KV}{D:Nat}{w:World}(Inv:Value→World→Prop)(μ:Value→World→Nat)(h0:Inv Da w)(hs:∀(E9':Value) (dd:Nat→Value) (w:World) (m:Nat),Inv E9' w→m=μ E9' w →
  lS E9' Ca (fun Ea w=>cond Ea (kI K D (fun e2 w2=>(Inv (gd e2 39) w2)∧((μ (gd e2 39) w2)<m)) (Y5::Z5::K6::W6::X6::Y6::Z6::u7::B7::K7::W7::X7::(dd 12)::Z7::B8::K8::W8::X8::Y8::Z8::l9::n9::u9::B9::K9::W9::X9::Y9::Z9::ia::ja::ka::qa::ua::xa::ya::Aa::Ba::Ca::E9'::Ea::(dd 41)::(dd 42)::(dd 43)::(dd 44)::(dd 45)::(dd 46)::(dd 47)::(dd 48)::(dd 49)::(dd 50)::Pa::Qa::Ra::Sa::[]) w) (cH K D (Y5::Z5::K6::W6::X6::Y6::Z6::u7::B7::K7::W7::X7::(dd 12)::Z7::B8::K8::W8::X8::Y8::Z8::l9::n9::u9::B9::K9::W9::X9::Y9::Z9::ia::ja::ka::qa::ua::xa::ya::Aa::Ba::Ca::E9'::Ea::(dd 41)::(dd 42)::(dd 43)::(dd 44)::(dd 45)::(dd 46)::(dd 47)::(dd 48)::(dd 49)::(dd 50)::Pa::Qa::Ra::Sa::[]) w)) w):mK K D (Y5::Z5::K6::W6::X6::Y6::Z6::u7::B7::K7::W7::X7::Y7::Z7::B8::K8::W8::X8::Y8::Z8::l9::n9::u9::B9::K9::W9::X9::Y9::Z9::ia::ja::ka::qa::ua::xa::ya::Aa::Ba::Ca::Da::Ea::Fa::Ga::Ha::Ia::Ja::Ka::La::Ma::Na::Oa::Pa::Qa::Ra::Sa::[]) w:=by
 refine aL (cd f237 (b1 500)) (zr [(12,1),(39,12)]) (by kernel_rfl) (vP [39] Inv) (vQ [39] μ) h0 ?_
 intro e' w' hI
 have h:=hs _ (fun i=>gd e' i) w' _ hI rfl
 refine Eq.mp (congrArg (fun c=>ae Q c _ _ _ _ w') (by kernel_rfl:(rep [1,1,0] (cd f237 (b1 4006)) (cd f237 (b1 500)))=(cd f237 (b1 500)))) ?_
 revert h
 delta kI fQ
 generalize (cd f237 (b1 4006))=xc0
 generalize (cH K D)=qc0
 exact mpF
theorem yA (h:aV Q 120 Ba Da (fun Fa=>ld Q 31 Fa fun Ga=>call Q 253 #[B7,Ga] fun Ja=>un Q .not Ja fun Ka w=>cond Ka (ld Q 127 u7 (fun La=>call Q 239 #[La,Ga,cu 0] fun Na=>fQ K D B1 (Y5::Z5::K6::W6::X6::Y6::Z6::u7::B7::K7::W7::X7::Ga::Z7::B8::K8::W8::X8::Y8::Z8::l9::n9::u9::B9::K9::W9::X9::Y9::Z9::ia::ja::ka::qa::ua::xa::ya::Aa::Ba::Ca::Da::Ea::Fa::Ga::B7::Ga::Ja::Ka::La::Ga::Na::Oa::Pa::Qa::Ra::Sa::[])) w) (fQ K D B1 (Y5::Z5::K6::W6::X6::Y6::Z6::u7::B7::K7::W7::X7::Ga::Z7::B8::K8::W8::X8::Y8::Z8::l9::n9::u9::B9::K9::W9::X9::Y9::Z9::ia::ja::ka::qa::ua::xa::ya::Aa::Ba::Ca::Da::Ea::Fa::Ga::B7::Ga::Ja::Ka::La::Ma::Na::Oa::Pa::Qa::Ra::Sa::[]) w)) w):kI K D B1 (Y5::Z5::K6::W6::X6::Y6::Z6::u7::B7::K7::W7::X7::Y7::Z7::B8::K8::W8::X8::Y8::Z8::l9::n9::u9::B9::K9::W9::X9::Y9::Z9::ia::ja::ka::qa::ua::xa::ya::Aa::Ba::Ca::Da::Ea::Fa::Ga::Ha::Ia::Ja::Ka::La::Ma::Na::Oa::Pa::Qa::Ra::Sa::[]) w:=by
 delta kI;revert h;generalize (fQ K D B1)=qc0;generalize (cH K D)=qc1;exact mpF
theorem yC (h:ld Q 127 u7 (fun Pa=>call Q 239 #[Pa,Z5,K6] fun Sa w=>(dM D w)∧(K Sa (w.putObj D (Obj.deferred none)))) w):cH K D (Y5::Z5::K6::W6::X6::Y6::Z6::u7::B7::K7::W7::X7::Y7::Z7::B8::K8::W8::X8::Y8::Z8::l9::n9::u9::B9::K9::W9::X9::Y9::Z9::ia::ja::ka::qa::ua::xa::ya::Aa::Ba::Ca::Da::Ea::Fa::Ga::Ha::Ia::Ja::Ka::La::Ma::Na::Oa::Pa::Qa::Ra::Sa::[]) w:=by
 delta cH;exact mpK h
theorem rt (h:nC Da (fun Oa=>B1 (Y5::Z5::K6::W6::X6::Y6::Z6::u7::B7::K7::W7::X7::Y7::Z7::B8::K8::W8::X8::Y8::Z8::l9::n9::u9::B9::K9::W9::X9::Y9::Z9::ia::ja::ka::qa::ua::xa::ya::Aa::Ba::Ca::Oa::Ea::Fa::Ga::Ha::Ia::Ja::Ka::La::Ma::Na::Oa::Pa::Qa::Ra::Sa::[])) w):fQ K D B1 (Y5::Z5::K6::W6::X6::Y6::Z6::u7::B7::K7::W7::X7::Y7::Z7::B8::K8::W8::X8::Y8::Z8::l9::n9::u9::B9::K9::W9::X9::Y9::Z9::ia::ja::ka::qa::ua::xa::ya::Aa::Ba::Ca::Da::Ea::Fa::Ga::Ha::Ia::Ja::Ka::La::Ma::Na::Oa::Pa::Qa::Ra::Sa::[]) w:=by
 delta fQ;revert h;generalize (cH K D)=qc0;exact mpF
attribute [irreducible] cH mK fQ kI
noncomputable def lJ :Func:={Tryz.f237 with body:=some (UA (cd f237 (b1 122)))}
def vf (NB:KE)(XB:Nat→KE)(RB:KE):KE:=ae Q (cd lJ []) NB XB RB
theorem Bf {XB:Nat→KE}(h:B1 (Y5::Z5::K6::W6::X6::Y6::Z6::u7::B7::K7::B9::X7::Y7::Z7::B8::K8::W8::X8::Y8::Z8::l9::n9::u9::B9::K9::W9::X9::Y9::Z9::ia::ja::ka::qa::ua::xa::ya::Aa::Ba::Ca::Da::Ea::Fa::Ga::Ha::Ia::Ja::Ka::La::Ma::Na::Oa::Pa::Qa::Ra::Sa::[]) w):vf B1 XB B2 (Y5::Z5::K6::W6::X6::Y6::Z6::u7::B7::K7::W7::X7::Y7::Z7::B8::K8::W8::X8::Y8::Z8::l9::n9::u9::B9::K9::W9::X9::Y9::Z9::ia::ja::ka::qa::ua::xa::ya::Aa::Ba::Ca::Da::Ea::Fa::Ga::Ha::Ia::Ja::Ka::La::Ma::Na::Oa::Pa::Qa::Ra::Sa::[]) w:=by
 delta vf;exact mpK h
noncomputable def lL :Func:={Tryz.f237 with body:=some (UC (cd f237 (b1 122)))}
def vg (NB:KE)(XB:Nat→KE)(RB:KE):KE:=ae Q (cd lL []) NB XB RB
theorem Bg {XB:Nat→KE}(h:aG (fun S w=>hL S 127 u7 fun K9=>hL S 79 W6 fun X9=>hN S X9 fun Y9=>hF S 135 Y9 4 fun Z9=>hL S 129 Z9 fun ia=>hld S (lkp Q 129 ia W7 false) fun ka=>call Q 239 #[K9,W7,ka] (fun qa=>B1 (Y5::Z5::K6::W6::X6::Y6::Z6::u7::B7::K7::W7::X7::Y7::Z7::B8::K8::W8::X8::Y8::Z8::l9::n9::u9::B9::K9::W7::X9::Y9::Z9::ia::W7::ka::qa::ua::xa::ya::Aa::Ba::Ca::Da::Ea::Fa::Ga::Ha::Ia::Ja::Ka::La::Ma::Na::Oa::Pa::Qa::Ra::Sa::[])) w) w.drew):vg B1 XB B2 (Y5::Z5::K6::W6::X6::Y6::Z6::u7::B7::K7::W7::X7::Y7::Z7::B8::K8::W8::X8::Y8::Z8::l9::n9::u9::B9::K9::W9::X9::Y9::Z9::ia::ja::ka::qa::ua::xa::ya::Aa::Ba::Ca::Da::Ea::Fa::Ga::Ha::Ia::Ja::Ka::La::Ma::Na::Oa::Pa::Qa::Ra::Sa::[]) w:=by
 delta vg;exact mpK h
theorem Cv (h:box Q 79 Y5 (fun j=>call Q 50 #[] fun C3=>alc Q 127 fun A7=>sto Q 127 A7 C3 fun _=>ld Q 79 j fun C4=>aU C4 fun C5=>aT Q 135 C5 3 fun C6=>ld Q 127 C6 fun C7=>call Q 99 #[C7,K6] fun C9=>call Q 252 #[C9] fun D1=>rfS Q (cd f237 (b1 122)) (ol K) (fun i D e w=>(i=0)∧(ol K D e w)) (vm Q Tryz.f237.results.toList K) (Y5::Z5::K6::j::uu::uu::(ci 0)::A7::C9::uu::uu::uu::uu::C3::C4::C5::C6::C7::K6::C9::C9::D1::uu::uu::uu::uu::uu::uu::uu::uu::uu::uu::uu::uu::uu::uu::uu::uu::uu::uu::uu::uu::uu::uu::uu::uu::uu::uu::uu::uu::uu::uu::uu::uu::uu::[])) w):Gives Q 237 #[Y5,Z5,K6] w K:=Pm func237 (by kernel_rfl) (Eq.mp (by kernel_rfl) h)
theorem BW (h:box Q 79 Y5 (fun M=>box Q 54 Z5 fun J w=>aG (fun S w=>hF S 54 J 0 fun A9=>hL S 3 A9 fun C0=>hF S 54 J 1 fun C1=>hL S 31 C1 fun C2=>hF S 54 J 0 fun C4=>hL S 3 C4 fun C5=>hld (fun _=>True) (bin Q .sub 3 false true C5 (ci 1)) fun C6=>(call Q 236 #[C0,C2] (fun C3=>aY S fun S w=>(alc Q 31 (fun j=>aY S fun S=>alc Q 3 fun u=>aY S fun S=>sto Q 31 j C3 fun _=>aY S fun _=>sto Q 3 u C6 fun _ w=>sL 79 M (fun C7=>sL 3 u fun C8=>sN C7 fun C9=>sF 135 C9 6 fun D0=>sI 133 D0 C8 fun D1=>sL 3 D1 fun D2=>sti (bin Q .geq 3 false true D2 (ci 5)) fun D3 w=>aI D3 false (fun I=>sF 54 J 6 (fun D5=>sL 2 D5 fun D6=>sti (bin Q .gtr 2 false true D6 (ci 140737488355328)) fun D7=>I [D5,D6,D7]) w) (fun k=>k [uu,uu,uu] w) fun C=>sti (pick D3 cT (gd C 2)) fun D8 w=>cond D8 (K (Value.tuple #[Value.nilFunc,ci 6]) w) (ld Q 79 M (fun D9=>ld Q 31 j fun E0=>aT Q 54 J 4 fun E1=>ld Q 31 E1 fun E2=>call Q 237 #[D9,E0,E2] fun E3=>bin Q .neq 27 false true E3 (ci 0) fun E5 w=>cond E5 (K (Value.tuple #[Value.nilFunc,E3]) w) (K (Value.tuple #[Value.func (Fn.func 238) #[] #[M,j,J,u],ci 0]) w)) w)) w.drew) w)∧(alc Q 3 (fun u=>aY S fun S=>alc Q 31 fun j=>aY S fun S=>sto Q 31 j C3 fun _=>aY S fun _=>sto Q 3 u C6 fun _ w=>sL 79 M (fun C7=>sL 3 u fun C8=>sN C7 fun C9=>sF 135 C9 6 fun D0=>sI 133 D0 C8 fun D1=>sL 3 D1 fun D2=>sti (bin Q .geq 3 false true D2 (ci 5)) fun D3 w=>aI D3 false (fun I=>sF 54 J 6 (fun D5=>sL 2 D5 fun D6=>sti (bin Q .gtr 2 false true D6 (ci 140737488355328)) fun D7=>I [D5,D6,D7]) w) (fun k=>k [uu,uu,uu] w) fun C=>sti (pick D3 cT (gd C 2)) fun D8 w=>cond D8 (K (Value.tuple #[Value.nilFunc,ci 6]) w) (ld Q 79 M (fun D9=>ld Q 31 j fun E0=>aT Q 54 J 4 fun E1=>ld Q 31 E1 fun E2=>call Q 237 #[D9,E0,E2] fun E3=>bin Q .neq 27 false true E3 (ci 0) fun E5 w=>cond E5 (K (Value.tuple #[Value.nilFunc,E3]) w) (K (Value.tuple #[Value.func (Fn.func 238) #[] #[M,j,J,u],ci 0]) w)) w)) w.drew) w)) w)∧((alc Q 31 (fun j=>aY S fun S w=>(call Q 236 #[C0,C2] (fun C3=>aY S fun S=>alc Q 3 fun u=>aY S fun S=>sto Q 31 j C3 fun _=>aY S fun _=>sto Q 3 u C6 fun _ w=>sL 79 M (fun C7=>sL 3 u fun C8=>sN C7 fun C9=>sF 135 C9 6 fun D0=>sI 133 D0 C8 fun D1=>sL 3 D1 fun D2=>sti (bin Q .geq 3 false true D2 (ci 5)) fun D3 w=>aI D3 false (fun I=>sF 54 J 6 (fun D5=>sL 2 D5 fun D6=>sti (bin Q .gtr 2 false true D6 (ci 140737488355328)) fun D7=>I [D5,D6,D7]) w) (fun k=>k [uu,uu,uu] w) fun C=>sti (pick D3 cT (gd C 2)) fun D8 w=>cond D8 (K (Value.tuple #[Value.nilFunc,ci 6]) w) (ld Q 79 M (fun D9=>ld Q 31 j fun E0=>aT Q 54 J 4 fun E1=>ld Q 31 E1 fun E2=>call Q 237 #[D9,E0,E2] fun E3=>bin Q .neq 27 false true E3 (ci 0) fun E5 w=>cond E5 (K (Value.tuple #[Value.nilFunc,E3]) w) (K (Value.tuple #[Value.func (Fn.func 238) #[] #[M,j,J,u],ci 0]) w)) w)) w.drew) w)∧(alc Q 3 (fun u=>aY S fun S=>call Q 236 #[C0,C2] fun C3=>aY S fun S=>sto Q 31 j C3 fun _=>aY S fun _=>sto Q 3 u C6 fun _ w=>sL 79 M (fun C7=>sL 3 u fun C8=>sN C7 fun C9=>sF 135 C9 6 fun D0=>sI 133 D0 C8 fun D1=>sL 3 D1 fun D2=>sti (bin Q .geq 3 false true D2 (ci 5)) fun D3 w=>aI D3 false (fun I=>sF 54 J 6 (fun D5=>sL 2 D5 fun D6=>sti (bin Q .gtr 2 false true D6 (ci 140737488355328)) fun D7=>I [D5,D6,D7]) w) (fun k=>k [uu,uu,uu] w) fun C=>sti (pick D3 cT (gd C 2)) fun D8 w=>cond D8 (K (Value.tuple #[Value.nilFunc,ci 6]) w) (ld Q 79 M (fun D9=>ld Q 31 j fun E0=>aT Q 54 J 4 fun E1=>ld Q 31 E1 fun E2=>call Q 237 #[D9,E0,E2] fun E3=>bin Q .neq 27 false true E3 (ci 0) fun E5 w=>cond E5 (K (Value.tuple #[Value.nilFunc,E3]) w) (K (Value.tuple #[Value.func (Fn.func 238) #[] #[M,j,J,u],ci 0]) w)) w)) w.drew) w)) w)∧(alc Q 3 (fun u=>aY S fun S w=>(call Q 236 #[C0,C2] (fun C3=>aY S fun S=>alc Q 31 fun j=>aY S fun S=>sto Q 31 j C3 fun _=>aY S fun _=>sto Q 3 u C6 fun _ w=>sL 79 M (fun C7=>sL 3 u fun C8=>sN C7 fun C9=>sF 135 C9 6 fun D0=>sI 133 D0 C8 fun D1=>sL 3 D1 fun D2=>sti (bin Q .geq 3 false true D2 (ci 5)) fun D3 w=>aI D3 false (fun I=>sF 54 J 6 (fun D5=>sL 2 D5 fun D6=>sti (bin Q .gtr 2 false true D6 (ci 140737488355328)) fun D7=>I [D5,D6,D7]) w) (fun k=>k [uu,uu,uu] w) fun C=>sti (pick D3 cT (gd C 2)) fun D8 w=>cond D8 (K (Value.tuple #[Value.nilFunc,ci 6]) w) (ld Q 79 M (fun D9=>ld Q 31 j fun E0=>aT Q 54 J 4 fun E1=>ld Q 31 E1 fun E2=>call Q 237 #[D9,E0,E2] fun E3=>bin Q .neq 27 false true E3 (ci 0) fun E5 w=>cond E5 (K (Value.tuple #[Value.nilFunc,E3]) w) (K (Value.tuple #[Value.func (Fn.func 238) #[] #[M,j,J,u],ci 0]) w)) w)) w.drew) w)∧(alc Q 31 (fun j=>aY S fun S=>call Q 236 #[C0,C2] fun C3=>aY S fun S=>sto Q 31 j C3 fun _=>aY S fun _=>sto Q 3 u C6 fun _ w=>sL 79 M (fun C7=>sL 3 u fun C8=>sN C7 fun C9=>sF 135 C9 6 fun D0=>sI 133 D0 C8 fun D1=>sL 3 D1 fun D2=>sti (bin Q .geq 3 false true D2 (ci 5)) fun D3 w=>aI D3 false (fun I=>sF 54 J 6 (fun D5=>sL 2 D5 fun D6=>sti (bin Q .gtr 2 false true D6 (ci 140737488355328)) fun D7=>I [D5,D6,D7]) w) (fun k=>k [uu,uu,uu] w) fun C=>sti (pick D3 cT (gd C 2)) fun D8 w=>cond D8 (K (Value.tuple #[Value.nilFunc,ci 6]) w) (ld Q 79 M (fun D9=>ld Q 31 j fun E0=>aT Q 54 J 4 fun E1=>ld Q 31 E1 fun E2=>call Q 237 #[D9,E0,E2] fun E3=>bin Q .neq 27 false true E3 (ci 0) fun E5 w=>cond E5 (K (Value.tuple #[Value.nilFunc,E3]) w) (K (Value.tuple #[Value.func (Fn.func 238) #[] #[M,j,J,u],ci 0]) w)) w)) w.drew) w)) w))) w.drew) w):Gives Q 229 #[Y5,Z5] w K:=by
 refine aB func229 (by kernel_rfl) ?_;exact mpK h
def tS (A0 A1 A2 A3 r4:Value)(zf:Nat→Value):List Value:=A0::A1::A2::A3::r4::zT zf 5 37 ([])
def kH (K:KV):KE:=ae Q (cd f238 [1,1,1]) (rk f238 K) xf (rk f238 K)
theorem Au {K:KV}{Y5 Z5 K6 W6:Value}{w:World}(h:aG (fun S w=>hL S 79 Y5 fun A5=>hN S A5 fun A6=>hF S 135 A6 3 fun A7=>hL S 127 A7 fun A8=>hL S 31 Z5 fun A9=>hF S 54 K6 4 fun C0=>hL S 31 C0 fun C1=>call Q 239 #[A8,A9,C1] (fun C2 w=>aG (fun S w=>hL S 79 Y5 fun C3=>hN S C3 fun C4=>hF S 135 C4 4 fun C5=>hL S 129 C5 fun C6=>hL S 31 Z5 fun C7=>hF S 54 K6 4 fun C8=>hL S 31 C8 fun C9=>dO Q 129 C6 C7 C9 (fun _ w=>sL 79 Y5 (fun D0=>sL 3 W6 fun D1=>sN D0 fun D2=>sF 135 D2 6 fun D3=>sI 133 D3 D1 fun D4=>sL 3 D4 fun D5=>sti (bin Q .add 3 false true D5 (ci 1)) fun D6=>sN D0 fun D7=>sF 135 D7 6 fun D8=>sI 133 D8 D1 fun D9=>sto Q 3 D9 D6 fun _=>kH K (tS Y5 Z5 K6 W6 uu (zV zu 5 [A5,A6,A7,A8,A9,C0,C1,C2,C3,C4,C5,C6,C7,C8,C9,D0,D1,D2,D3,D4,D5,D6,D7,D8,D9]))) w.drew) w) w.drew) w) w.drew):Gives Q 238 #[Y5,Z5,K6,W6] w K:=by
 refine aB func238 (by kernel_rfl) ?_
 refine Eq.mp (congrArg (fun c=>ae Q c _ _ _ _ w) (by kernel_rfl:(rep [1,1,1] (cd f238 [1,1,1]) (cd f238 []))=(cd f238 []))) ?_
 revert h
 delta kH
 generalize (cd f238 [1,1,1])=xc0
 exact mpF
theorem yz (h:bld Q 50 #[] (fun E0=>alc Q 50 fun X6=>sto Q 50 X6 E0 fun _=>ld Q 3 W6 fun E1=>aT Q 54 K6 6 fun E2=>ld Q 2 E2 fun E3=>aT Q 50 X6 0 fun E4=>aV Q 47 E4 E1 fun E5=>sto Q 2 E5 E3 fun _ w=>aG (fun S w=>hL S 79 Y5 fun E6=>hN S E6 fun E7=>hF S 135 E7 5 fun E8=>hL S 130 E8 fun E9=>hL S 31 Z5 fun F0=>hL S 50 X6 fun F1=>dO Q 130 E9 F0 F1 (fun _=>K (Value.tuple #[])) w) w.drew) w):kH K (tS Y5 Z5 K6 W6 X6 zf) w:=by
 delta kH;exact mpK h
attribute [irreducible] kH
def nM (l0 e1 l2 e3 r6:Value)(zf:Nat→Value):List Value:=l0::e1::l2::e3::zf 4::zf 5::r6::zT zf 7 32 ([])
def ig (K:KV):KE:=ae Q (cd f230 [1,1,1,1]) (rk f230 K) xf (rk f230 K)
def kU (K:KV):KE:=ae Q (cd f230 (b1 61)) (ig K) xf (rk f230 K)
theorem Bd {K:KV}{Y5 Z5:Value}{w:World}(h:box Q 79 Y5 (fun K6=>box Q 54 Z5 fun W6 w=>aG (fun S w=>hL S 79 K6 fun A9=>hN S A9 fun C0=>hF S 135 C0 5 fun C1=>hL S 130 C1 fun C2=>hF S 54 W6 4 fun C3=>hL S 31 C3 fun C4=>hld S (lkp Q 130 C2 C4 true) fun C5=>hld S (ext Q C5 0) fun C6=>hld S (ext Q C5 1) fun C7=>alc Q 50 (fun X6=>aY S fun S=>sto Q 50 X6 C6 fun _=>aY S fun _=>un Q .not C7 fun C9 w=>cond C9 (K (Value.tuple #[Value.nilFunc,ci 9]) w) (sF 54 W6 0 (fun D0=>sL 3 D0 fun D1=>sti (bin Q .sub 3 false true D1 (ci 1)) fun D2=>sF 50 X6 0 fun D3=>sI 47 D3 D2 fun D4=>sL 2 D4 fun D5=>sF 54 W6 6 fun D6=>sL 2 D6 fun D7=>sti (bin Q .add 2 false false D5 D7) fun D8=>sF 50 X6 0 fun D9=>sI 47 D9 D2 fun E0=>sto Q 2 E0 D8 fun _=>kU K (nM Y5 Z5 K6 W6 X6 (zV (zV zu 4 [Value.nilFunc,ci 0]) 7 [C7,C5,A9,C0,C1,C2,C3,C4,C5,C6,C7,C7,C9,D0,D1,D2,D3,D4,D5,D6,D7,D8,D9,E0]))) w.drew)) w) w.drew) w):Gives Q 230 #[Y5,Z5] w K:=by
 refine aB func230 (by kernel_rfl) ?_
 refine Eq.mp (congrArg (fun c=>ae Q c _ _ _ _ w) (by kernel_rfl:(rep (b1 61) (cd f230 (b1 61)) (cd f230 []))=(cd f230 []))) ?_
 revert h
 delta kU ig
 generalize (cd f230 (b1 61))=xc0
 exact mpF
theorem yV (h:aT Q 54 W6 0 (fun E1=>ld Q 3 E1 fun E2=>bin Q .sub 3 false true E2 (ci 1) fun E3=>aT Q 50 X6 0 fun E4=>aV Q 47 E4 E3 fun E5=>ld Q 2 E5 fun E6=>bin Q .gtr 2 false true E6 (ci 140737488355328) fun E7 w=>cond E7 (K (Value.tuple #[Value.nilFunc,ci 6]) w) (ig K (nM Y5 Z5 K6 W6 X6 (zV zf 31 [E1,E2,E3,E4,E5,E6,E7])) w)) w):kU K (nM Y5 Z5 K6 W6 X6 zf) w:=by
 delta kU;revert h;generalize (ig K)=qc0;exact mpF
theorem yW (h:K (Value.tuple #[Value.func (Fn.func 240) #[] #[X6,K6,W6],ci 0]) w):ig K (nM Y5 Z5 K6 W6 X6 zf) w:=by
 delta ig;exact mpK h
attribute [irreducible] ig kU
theorem yU (h:aG (fun S w=>hL S 79 Z5 fun A3=>hN S A3 fun A4=>hF S 135 A4 5 fun A5=>hL S 130 A5 fun A6=>hF S 54 K6 4 fun A7=>hL S 31 A7 fun A8=>hL S 50 Y5 fun A9=>dO Q 130 A6 A8 A9 (fun _=>K (Value.tuple #[])) w) w.drew):Gives Q 240 #[Y5,Z5,K6] w K:=by
 refine aB func240 (by kernel_rfl) ?_;exact mpK h
def oh (l0 turn2 l3 node4 fresh8 r11 C9 D0 D1:Value)(zf:Nat→Value):List Value:=l0::zf 1::turn2::l3::node4::zT zf 5 3 (fresh8::zf 9::zf 10::r11::zT zf 12 7 (C9::D0::D1::zT zf 22 22 ([])))
def gK (K:KV):KE:=ae Q (cd f241 [1,1,1]) (rk f241 K) xf (rk f241 K)
def lF (K:KV):KE:=ae Q (cd f241 (b1 58)) (gK K) (xx xf (gK K) 0) (rk f241 K)
theorem BS (h:box Q 79 Y5 (fun K6=>dE Q 130 none fun C3=>alc Q 130 fun X6=>sto Q 130 X6 C3 fun _=>ld Q 79 K6 fun C4=>aU C4 fun C5=>aT Q 135 C5 3 fun C6=>ld Q 127 C6 fun C7=>call Q 99 #[C7,W6] fun Z6=>lN 120 Z6 fun u7=>lF K (oh Y5 Z5 K6 uu X6 uu Z6 u7 (ci 0) (zV (zV (zV zu 1 [W6]) 6 [Value.nilFunc,ci 0]) 13 [C3,C4,C5,C6,C7,W6]))) w):Gives Q 241 #[Y5,W6,Z5] w K:=by
 refine aB func241 (by kernel_rfl) ?_;revert h;delta lF gK;exact mpF
theorem Ak (Inv:Value→World→Prop)(μ:Value→World→Nat)(I:Inv B7 w)(J:∀(j:Value) (dd:Nat→Value) (w:World) (m:Nat),Inv j w→m=μ j w →
  lS j u7 (fun D2 w=>cond D2 (aV Q 120 Z6 j (fun D3=>ld Q 31 D3 fun D4=>ld Q 79 K6 fun D7=>aU D7 fun D8=>aT Q 135 D8 5 fun D9=>ld Q 130 D9 fun E0=>lkp Q 130 E0 D4 false fun E2=>bY Q Z5 #[E2] fun E3=>ext Q E3 0 fun E4=>ext Q E3 1 fun E5=>alc Q 50 fun Y6=>sto Q 50 Y6 E4 fun _=>bin Q .neq 27 false true E5 (ci 0) fun E7 w=>cond E7 (K (Value.tuple #[Value.nilFunc,E5]) w) (ld Q 130 X6 (fun E9=>ld Q 50 Y6 fun F1=>dO Q 130 E9 D4 F1 fun _=>nC j fun F2 w=>(Inv F2 w)∧((μ F2 w)<m)) w)) w) (gK K (oh Y5 Z5 K6 W6 X6 (dd 11) Z6 u7 j (zV dd 22 [D2])) w)) w):lF K (oh Y5 Z5 K6 W6 X6 Y6 Z6 u7 B7 zf) w:=by
 refine aL (cd f241 (b1 116)) (zr [(6,2),(10,3),(21,22)]) (by kernel_rfl) (vP [21] Inv) (vQ [21] μ) I ?_;intro e' w' hI;have h:=J _ (zM zf (fun i=>gd e' i) (zr [(6,2),(10,3),(21,22)])) w' _ hI rfl;revert h;generalize (gK K)=qc0;exact mpF
theorem Al (h:K (Value.tuple #[Value.func (Fn.func 254) #[] #[X6,K6],ci 0]) w):gK K (oh Y5 Z5 K6 W6 X6 Y6 Z6 u7 B7 zf) w:=by
 delta gK;exact mpK h
attribute [irreducible] gK lF
def tR (A1 A5:Value)(zf:Nat→Value):List Value:=zf 0::A1::zT zf 2 3 (A5::zT zf 6 11 ([]))
def mJ (K:KV):KE:=ae Q (cd f254 [1,0]) (rk f254 K) (xx xf (rk f254 K) 0) (rk f254 K)
theorem Aj (h:ld Q 130 K6 (fun A4=>rng Q 130 A4 fun Z5=>mJ K (tR Y5 Z5 (zV (zV zu 0 [K6]) 4 [A4]))) w):Gives Q 254 #[K6,Y5] w K:=by
 refine aB func254 (by kernel_rfl) ?_;revert h;delta mJ;exact mpF
theorem yy (Inv:World→Prop)(μ:World→Nat)(I:Inv w)(J:∀(dd:Nat→Value) (w:World) (m:Nat),Inv w→m=μ w →
  nxt Q Z5 false 0 (fun A6=>ext Q A6 0 fun A7 w=>cond A7 (ent Q Z5 (fun A8=>ext Q A8 0 fun A9=>ext Q A8 1 fun C0=>alc Q 50 fun u=>sto Q 50 u C0 fun _ w=>aG (fun S w=>hL S 79 Y5 fun C1=>hN S C1 fun C2=>hF S 135 C2 5 fun C3=>hL S 130 C3 fun C4=>hL S 50 u fun C6=>dO Q 130 C4 A9 C6 (fun _ w=>(Inv w)∧((μ w)<m)) w) w.drew) w) (K (Value.tuple #[]) w)) w):mJ K (tR Y5 Z5 zf) w:=by
 refine aL (cd f254 [1,0,0]) (zr [(2,2),(6,11)]) (by kernel_rfl) (fun C j=>Inv j) (fun C j=>μ j) I ?_;intro e' w' hI;have h:=J (zM zf (fun i=>gd e' i) (zr [(2,2),(6,11)])) w' _ hI rfl;exact mpK h
attribute [irreducible] mJ
def vh (l0 e1 l2 e3 q6 do7 f8:Value)(zf:Nat→Value):List Value:=l0::e1::l2::e3::zf 4::zf 5::q6::do7::f8::zT zf 9 31 ([])
def lM (K:KV):KE:=ae Q (cd f231 (b1 63)) (rk f231 K) xf (rk f231 K)
theorem BY {K:KV}{Y5 Z5:Value}{w:World}(h:box Q 79 Y5 (fun K6=>box Q 54 Z5 fun W6=>aT Q 54 W6 0 fun A9=>ld Q 3 A9 fun C0=>aT Q 54 W6 7 fun C1=>ld Q 31 C1 fun C2=>bld Q 151 #[(0,C0),(1,C2)] fun C3=>alc Q 151 fun X6=>sto Q 151 X6 C3 fun _ w=>sL 79 K6 (fun C4=>sN C4 fun C5=>sF 135 C5 8 fun C6=>sL 132 C6 fun C7=>sL 151 X6 fun C8=>sti (lkp Q 132 C7 C8 false) fun C9 w=>cond C9 (K (Value.tuple #[Value.nilFunc,ci 14]) w) (aG (fun S w=>hL S 79 K6 fun D0=>hN S D0 fun D1=>hF S 135 D1 3 fun D2=>hL S 127 D2 fun D3=>hF S 54 W6 4 fun D4=>hL S 31 D4 fun D5=>call Q 167 #[D3,D5] (fun D6=>aG fun S w=>hld S (un Q .not D6) fun D7=>cond D7 (K (Value.tuple #[Value.nilFunc,ci 9]) w) (ld Q 79 K6 (fun D9=>aT Q 54 W6 4 fun E0=>ld Q 31 E0 fun E1=>call Q 241 #[D9,E1,Value.func (Fn.func 242) #[] #[W6]] fun E3=>ext Q E3 0 fun E4=>ext Q E3 1 fun E5=>alc Q 238 fun Y6=>sto Q 238 Y6 E4 fun _=>lM K (vh Y5 Z5 K6 W6 X6 Y6 E5 (zV (zV zu 4 [Value.nilFunc,ci 0]) 9 [A9,C0,C1,C2,C3,C4,C5,C6,C7,C8,C9,D0,D1,D2,D3,D4,D5,D6,D7,E3,D9,E0,E1,Value.func (Fn.func 242) #[] #[W6],E3,E4,E5]))) w)) w) w.drew)) w.drew) w):Gives Q 231 #[Y5,Z5] w K:=by
 refine aB func231 (by kernel_rfl) ?_
 refine Eq.mp (congrArg (fun c=>ae Q c _ _ _ _ w) (by kernel_rfl:(rep (b1 63) (cd f231 (b1 63)) (cd f231 []))=(cd f231 []))) ?_
 revert h
 delta lM
 generalize (cd f231 (b1 63))=xc0
 exact mpF
theorem sK (h:bin Q .neq 27 false true Z6 (ci 0) (fun E7 w=>cond E7 (K (Value.tuple #[Value.nilFunc,Z6]) w) (K (Value.tuple #[Value.func (Fn.func 244) #[] #[Y6,K6,X6,W6],ci 0]) w)) w):lM K (vh Y5 Z5 K6 W6 X6 Y6 Z6 zf) w:=by
 delta lM;exact mpK h
attribute [irreducible] lM
theorem Ax (h:box Q 50 Y5 (fun j=>alc Q 50 fun A3=>ld Q 50 j fun A5=>aT Q 54 Z5 0 fun A6=>ld Q 3 A6 fun A7=>aT Q 54 Z5 6 fun A8=>ld Q 2 A8 fun A9=>call Q 243 #[A5,A7,A9] fun C0=>ext Q C0 0 fun C1=>ext Q C0 1 fun C2=>sto Q 50 A3 C1 fun _=>bp Q [(some 50,A3),(none,C2)] K) w):Gives Q 242 #[Y5,Z5] w K:=by
 refine aB func242 (by kernel_rfl) ?_;exact mpK h
theorem Ay (h:ld Q 238 Y5 (fun A4=>bY Q A4 #[] fun _ w=>aG (fun S w=>hL S 79 Z5 fun A6=>hN S A6 fun A7=>hF S 135 A7 8 fun A8=>hL S 132 A8 fun A9=>hL S 151 K6 fun C0=>dO Q 132 A9 C0 cT (fun _ w=>aG (fun S w=>hL S 79 Z5 fun C1=>hN S C1 fun C2=>hF S 135 C2 7 fun C3=>hL S 131 C3 fun C4=>hL S 151 K6 fun C5=>hF S 54 W6 0 fun C6=>hL S 3 C6 fun C7=>hF S 54 W6 7 fun C8=>hL S 31 C8 fun C9=>hF S 54 W6 4 fun D0=>hL S 31 D0 fun D1=>hF S 54 W6 6 fun D2=>hL S 2 D2 fun D3=>hld S (bld Q 126 #[(0,C7),(1,C9),(2,D1),(3,D3)]) fun D4=>dO Q 131 C4 C5 D4 (fun _=>K (Value.tuple #[])) w) w.drew) w) w.drew) w):Gives Q 244 #[Y5,Z5,K6,W6] w K:=by
 refine aB func244 (by kernel_rfl) ?_;exact mpK h
def qB (l0 e1 l2 e3 q6 of7 g8 is9 f11 F0 F1 F2:Value)(zf:Nat→Value):List Value:=l0::e1::l2::e3::zf 4::zf 5::q6::of7::g8::is9::zf 10::f11::zT zf 12 28 (F0::F1::F2::zT zf 43 13 ([]))
def jT (K:KV):KE:=ae Q (cd f232 [1,1,1,1]) (rk f232 K) xf (rk f232 K)
theorem BU {K:KV}{Y5 Z5:Value}{w:World}(h:box Q 79 Y5 (fun K6=>box Q 54 Z5 fun W6 w=>aG (fun S w=>hF S 54 W6 0 fun C2=>hL S 3 C2 fun C3=>hF S 54 W6 7 fun C4=>hL S 31 C4 fun C5=>hld S (bld Q 151 #[(0,C3),(1,C5)]) fun C6=>hF S 54 W6 0 fun C7=>hL S 3 C7 fun C8=>hF S 54 W6 8 fun C9=>hL S 31 C9 fun D0=>hld S (bld Q 151 #[(0,C8),(1,D0)]) fun D1=>(alc Q 151 (fun X6=>aY S fun S=>alc Q 151 fun Y6=>aY S fun S=>sto Q 151 X6 C6 fun _=>aY S fun _=>sto Q 151 Y6 D1 fun _ w=>sL 79 K6 (fun D2=>sN D2 fun D3=>sF 135 D3 8 fun D4=>sL 132 D4 fun D5=>sL 151 X6 fun D6=>sti (lkp Q 132 D5 D6 false) fun D7 w=>cond D7 (K (Value.tuple #[Value.nilFunc,ci 14]) w) (aG (fun S w=>hL S 79 K6 fun D9=>hN S D9 fun E0=>hF S 135 E0 7 fun E1=>hL S 131 E1 fun E2=>hL S 151 Y6 fun E3=>hld S (lkp Q 131 E2 E3 true) fun E4=>hld S (ext Q E4 0) fun E5=>hld S (ext Q E4 1) fun E6=>alc Q 126 (fun Z6=>aY S fun S=>sto Q 126 Z6 E5 fun _=>aY S fun _=>jT K (qB Y5 Z5 K6 W6 X6 Y6 Z6 E6 uu uu uu uu (zV (zV zu 4 [Value.nilFunc,ci 0]) 12 [C2,C3,C4,C5,C6,C7,C8,C9,D0,D1,D2,D3,D4,D5,D6,D7,E4,D9,E0,E1,E2,E3,E4,E5,E6]))) w) w.drew)) w.drew) w)∧(alc Q 151 (fun Y6=>aY S fun S=>alc Q 151 fun X6=>aY S fun S=>sto Q 151 X6 C6 fun _=>aY S fun _=>sto Q 151 Y6 D1 fun _ w=>sL 79 K6 (fun D2=>sN D2 fun D3=>sF 135 D3 8 fun D4=>sL 132 D4 fun D5=>sL 151 X6 fun D6=>sti (lkp Q 132 D5 D6 false) fun D7 w=>cond D7 (K (Value.tuple #[Value.nilFunc,ci 14]) w) (aG (fun S w=>hL S 79 K6 fun D9=>hN S D9 fun E0=>hF S 135 E0 7 fun E1=>hL S 131 E1 fun E2=>hL S 151 Y6 fun E3=>hld S (lkp Q 131 E2 E3 true) fun E4=>hld S (ext Q E4 0) fun E5=>hld S (ext Q E4 1) fun E6=>alc Q 126 (fun Z6=>aY S fun S=>sto Q 126 Z6 E5 fun _=>aY S fun _=>jT K (qB Y5 Z5 K6 W6 X6 Y6 Z6 E6 uu uu uu uu (zV (zV zu 4 [Value.nilFunc,ci 0]) 12 [C2,C3,C4,C5,C6,C7,C8,C9,D0,D1,D2,D3,D4,D5,D6,D7,E4,D9,E0,E1,E2,E3,E4,E5,E6]))) w) w.drew)) w.drew) w)) w.drew) w):Gives Q 232 #[Y5,Z5] w K:=by
 refine aB func232 (by kernel_rfl) ?_
 refine Eq.mp (congrArg (fun c=>ae Q c _ _ _ _ w) (by kernel_rfl:(rep [1,1,1,1] (cd f232 [1,1,1,1]) (cd f232 []))=(cd f232 []))) ?_
 revert h
 delta jT
 generalize (cd f232 [1,1,1,1])=xc0
 exact mpF
theorem As (h:un Q .not u7 (fun E8 w=>aI E8 false (fun C=>aT Q 126 Z6 4 (fun K7=>ld Q 31 K7 fun W7=>bin Q .neq 31 false true W7 (cu 0) fun X7=>C [K7,W7,X7]) w) (fun k=>k [uu,uu,uu] w) fun u=>pick E8 cT (gd u 2) fun F3 w=>cond F3 (K (Value.tuple #[Value.nilFunc,ci 12]) w) (ld Q 79 K6 (fun F5=>aT Q 126 Z6 2 fun F6=>ld Q 31 F6 fun F7=>call Q 241 #[F5,F7,Value.func (Fn.func 245) #[] #[W6,Z6]] fun F9=>ext Q F9 0 fun G0=>ext Q F9 1 fun G1=>alc Q 238 fun j=>sto Q 238 j G0 fun _=>bin Q .neq 27 false true G1 (ci 0) fun G3 w=>cond G3 (K (Value.tuple #[Value.nilFunc,G1]) w) (K (Value.tuple #[Value.func (Fn.func 247) #[] #[j,K6,X6,W6,Z6,Y6],ci 0]) w)) w)) w):jT K (qB Y5 Z5 K6 W6 X6 Y6 Z6 u7 B7 K7 W7 X7 zf) w:=by
 delta jT;exact mpK h
attribute [irreducible] jT
theorem sX (h:box Q 50 Y5 (fun j=>alc Q 50 fun A4=>ld Q 50 j fun A6=>aT Q 54 Z5 0 fun A7=>ld Q 3 A7 fun A8=>aT Q 126 K6 3 fun A9=>ld Q 2 A9 fun C0=>call Q 246 #[A6,A8,C0] fun C1=>ext Q C1 0 fun C2=>ext Q C1 1 fun C3=>sto Q 50 A4 C2 fun _=>bp Q [(some 50,A4),(none,C3)] K) w):Gives Q 245 #[Y5,Z5,K6] w K:=by
 refine aB func245 (by kernel_rfl) ?_;exact mpK h
theorem Ar (h:ld Q 238 Y5 (fun A6=>bY Q A6 #[] fun _ w=>aG (fun S w=>hL S 79 Z5 fun A8=>hN S A8 fun A9=>hF S 135 A9 8 fun C0=>hL S 132 C0 fun C1=>hL S 151 K6 fun C2=>dO Q 132 C1 C2 cT (fun _=>aT Q 54 W6 7 fun C3=>ld Q 31 C3 fun C4=>aT Q 126 X6 4 fun C5=>sto Q 31 C5 C4 fun _ w=>aG (fun S w=>hL S 79 Z5 fun C6=>hN S C6 fun C7=>hF S 135 C7 7 fun C8=>hL S 131 C8 fun C9=>hL S 151 Y6 fun D0=>hL S 126 X6 fun D1=>dO Q 131 C9 D0 D1 (fun _=>K (Value.tuple #[])) w) w.drew) w) w.drew) w):Gives Q 247 #[Y5,Z5,K6,W6,X6,Y6] w K:=by
 refine aB func247 (by kernel_rfl) ?_;exact mpK h
def ve (l0 e1 l2 e3 r6 f8:Value)(zf:Nat→Value):List Value:=l0::e1::l2::e3::zf 4::zf 5::r6::zf 7::f8::zT zf 9 38 ([])
def lI (K:KV):KE:=ae Q (cd f233 [1,1,1,1]) (rk f233 K) xf (rk f233 K)
theorem BX {K:KV}{Y5 Z5:Value}{w:World}(h:box Q 79 Y5 (fun K6=>box Q 54 Z5 fun W6 w=>aG (fun S w=>hL S 79 K6 fun C0=>hN S C0 fun C1=>hF S 135 C1 5 fun C2=>hL S 130 C2 fun C3=>hF S 54 W6 4 fun C4=>hL S 31 C4 fun C5=>hld S (lkp Q 130 C3 C5 true) fun C6=>hld S (ext Q C6 0) fun C7=>hld S (ext Q C6 1) fun C8=>alc Q 50 (fun X6=>aY S fun S=>sto Q 50 X6 C7 fun _=>aY S fun _=>un Q .not C8 fun D1 w=>cond D1 (K (Value.tuple #[Value.nilFunc,ci 9]) w) (sL 79 K6 (fun D3=>sF 54 W6 5 fun D4=>sL 3 D4 fun D5=>sti (bin Q .sub 3 false true D5 (ci 1)) fun D6=>sN D3 fun D7=>sF 135 D7 0 fun D8=>sI 41 D8 D6 fun D9=>sL 4 D9 fun E0=>sti (un Q .not E0) fun E1 w=>cond E1 (K (Value.tuple #[Value.nilFunc,ci 10]) w) (ld Q 50 X6 (fun E3=>aT Q 54 W6 0 fun E4=>ld Q 3 E4 fun E5=>aT Q 54 W6 5 fun E6=>ld Q 3 E6 fun E7=>aT Q 54 W6 6 fun E8=>ld Q 2 E8 fun E9=>call Q 248 #[E3,E5,E7,E9] fun F0=>ext Q F0 0 fun F1=>ext Q F0 1 fun F2=>sto Q 50 X6 F1 fun _=>lI K (ve Y5 Z5 K6 W6 X6 F2 (zV (zV (zV zu 4 [Value.nilFunc,ci 0]) 7 [C8]) 9 [C6,C0,C1,C2,C3,C4,C5,C6,C7,C8,D1,C8,D1,E1,D3,D4,D5,D6,D7,D8,D9,E0,E1,F0,E3,E4,E5,E6,E7,E8,E9,F0,F1,F2]))) w)) w.drew)) w) w.drew) w):Gives Q 233 #[Y5,Z5] w K:=by
 refine aB func233 (by kernel_rfl) ?_
 refine Eq.mp (congrArg (fun c=>ae Q c _ _ _ _ w) (by kernel_rfl:(rep [1,1,1,1] (cd f233 [1,1,1,1]) (cd f233 []))=(cd f233 []))) ?_
 revert h
 delta lI
 generalize (cd f233 [1,1,1,1])=xc0
 exact mpF
theorem Aw (h:bin Q .neq 27 false true Y6 (ci 0) (fun F4 w=>cond F4 (K (Value.tuple #[Value.nilFunc,Y6]) w) (K (Value.tuple #[Value.func (Fn.func 249) #[] #[X6,K6,W6],ci 0]) w)) w):lI K (ve Y5 Z5 K6 W6 X6 Y6 zf) w:=by
 delta lI;exact mpK h
attribute [irreducible] lI
theorem Av (h:aG (fun S w=>hL S 79 Z5 fun A3=>hN S A3 fun A4=>hF S 135 A4 5 fun A5=>hL S 130 A5 fun A6=>hF S 54 K6 4 fun A7=>hL S 31 A7 fun A8=>hL S 50 Y5 fun A9=>dO Q 130 A6 A8 A9 (fun _=>K (Value.tuple #[])) w) w.drew):Gives Q 249 #[Y5,Z5,K6] w K:=by
 refine aB func249 (by kernel_rfl) ?_;exact mpK h
theorem BV (h:box Q 79 Y5 (fun u=>box Q 54 Z5 fun j=>K (Value.tuple #[Value.func (Fn.func 250) #[] #[u,j],ci 0])) w):Gives Q 234 #[Y5,Z5] w K:=by
 refine aB func234 (by kernel_rfl) ?_;exact mpK h
theorem At (h:sL 79 Y5 (fun A2=>sF 54 Z5 5 fun A3=>sL 3 A3 fun A4=>sti (bin Q .sub 3 false true A4 (ci 1)) fun A5=>sN A2 fun A6=>sF 135 A6 0 fun A7=>sI 41 A7 A5 fun A8=>sto Q 4 A8 cT fun _=>K (Value.tuple #[])) w.drew):Gives Q 250 #[Y5,Z5] w K:=by
 refine aB func250 (by kernel_rfl) ?_;exact mpK h
theorem Bc (h:box Q 79 Y5 (fun u=>box Q 54 Z5 fun j=>K (Value.tuple #[Value.func (Fn.func 251) #[] #[u,j],ci 0])) w):Gives Q 235 #[Y5,Z5] w K:=by
 refine aB func235 (by kernel_rfl) ?_;exact mpK h
theorem yT (h:sL 79 Y5 (fun A2=>sF 54 Z5 0 fun A3=>sL 3 A3 fun A4=>sti (bin Q .sub 3 false true A4 (ci 1)) fun A5=>sN A2 fun A6=>sF 135 A6 1 fun A7=>sI 41 A7 A5 fun A8=>sto Q 4 A8 cT fun _=>K (Value.tuple #[])) w.drew):Gives Q 251 #[Y5,Z5] w K:=by
 refine aB func251 (by kernel_rfl) ?_;exact mpK h
def fZ (l0 e1 l2 e3 D0 D8:Value)(zf:Nat→Value):List Value:=l0::e1::l2::e3::zT zf 4 16 (D0::zT zf 21 7 (D8::zT zf 29 26 ([])))
def dx (K:KV):KE:=ae Q (cd f140 [1,1]) (rk f140 K) xf (rk f140 K)
def lG (K:KV):KE:=ae Q (cd f140 (b1 1663)) (dx K) (xx xf (dx K) 0) (rk f140 K)
def gM (K:KV):KE:=ae Q (cd f140 (b1 6655)) (dx K) (xx xf (dx K) 0) (rk f140 K)
def lH (K:KV):KE:=ae Q (cd f140 (b1 13309)) (gM K) (xx xf (dx K) 0) (rk f140 K)
theorem BT {K:KV}{Y5 Z5:Value}{w:World}(h:box Q 54 Z5 (fun W6=>bin Q .eql 79 false true Y5 (Value.pointer none) fun A8 w=>cond A8 (K (Value.tuple #[Value.nilFunc,ci 2]) w) (ld Q 54 W6 (fun C0=>call Q 41 #[C0] fun C1=>un Q .not C1 fun C2 w=>cond C2 (K (Value.tuple #[Value.nilFunc,ci 1]) w) (aG (fun S w=>hN S Y5 fun C5=>hF S 135 C5 2 fun C6=>hL S 35 C6 fun C7=>hL S 54 W6 fun C8=>call Q 97 #[C7,C8] (fun C9=>aG fun _ w=>cond C9 (K (Value.tuple #[Value.nilFunc,ci 14]) w) (aG (fun S w=>hN S Y5 fun D2=>hF S 135 D2 2 fun D3=>hL S 35 D3 fun D4=>hL S 54 W6 fun D5=>call Q 98 #[D4,D5] (fun D6=>aG fun S w=>hld S (un Q .not D6) fun D7=>lG K (fZ Y5 Z5 uu W6 D7 uu (zV (zV zu 4 [Value.nilFunc,ci 0,A8,Y5,A8,C2,C0,C1,C2,C9,Y5,C5,C6,C7,C8,C9]) 21 [Y5,D2,D3,D4,D5,D6,D7])) w) w) w.drew)) w) w.drew)) w)) w):Gives Q 140 #[Y5,Z5] w K:=by
 refine aB func140 (by kernel_rfl) ?_
 refine Eq.mp (congrArg (fun c=>ae Q c _ _ _ _ w) (by kernel_rfl:(rep (b1 1663) (cd f140 (b1 1663)) (cd f140 []))=(cd f140 []))) ?_
 revert h
 delta lG dx
 generalize (cd f140 (b1 1663))=xc0
 exact mpF
theorem Am (h:cond X6 (K (Value.tuple #[Value.nilFunc,ci 13]) w) (sF 54 W6 0 (fun E0=>sL 3 E0 fun E1=>sti (bin Q .sub 3 false true E1 (ci 1)) fun E2=>sN Y5 fun E3=>sF 135 E3 0 fun E4=>sI 41 E4 E2 fun E5=>sL 4 E5 fun E6=>sti (un Q .not E6) fun E7=>lH K (fZ Y5 Z5 K6 W6 X6 E7 (zV zf 29 [Y5,E0,E1,E2,E3,E4,E5,E6,E7]))) w.drew)):lG K (fZ Y5 Z5 K6 W6 X6 Y6 zf) w:=by
 delta lG
 refine Eq.mp (congrArg (fun c=>ae Q c _ _ _ _ w) (by kernel_rfl:(rep [1,0,1] (cd f140 (b1 13309)) (cd f140 (b1 1663)))=(cd f140 (b1 1663)))) ?_
 revert h
 delta lH gM
 generalize (cd f140 (b1 13309))=xc0
 generalize (dx K)=qc0
 exact mpF
theorem Ao (h:cond Y6 (gM K (fZ Y5 Z5 K6 W6 X6 Y6 zf) w) (sF 54 W6 0 (fun E9=>sL 3 E9 fun F0=>sti (bin Q .sub 3 false true F0 (ci 1)) fun F1=>sN Y5 fun F2=>sF 135 F2 1 fun F3=>sI 41 F3 F1 fun F4=>sL 4 F4 fun F5=>gM K (fZ Y5 Z5 K6 W6 X6 F5 (zV zf 38 [Y5,E9,F0,F1,F2,F3,F4,F5]))) w.drew)):lH K (fZ Y5 Z5 K6 W6 X6 Y6 zf) w:=by
 delta lH;revert h;generalize (gM K)=qc0;generalize (dx K)=qc1;exact mpF
theorem sJ (h:cond Y6 (K (Value.tuple #[Value.nilFunc,ci 10]) w) (dx K (fZ Y5 Z5 K6 W6 X6 Y6 zf) w)):gM K (fZ Y5 Z5 K6 W6 X6 Y6 zf) w:=by
 delta gM;revert h;generalize (dx K)=qc0;exact mpF
theorem Ap (h:aG (fun S w=>hF S 54 W6 3 fun F6=>hL S 5 F6 fun F7=>hI S 265 (Value.pointer (some ⟨0,0,none⟩)) F7 fun F8=>hL S 264 F8 fun F9=>hL S 54 W6 fun G1=>bY Q F9 #[Y5,G1] (fun G2=>aG fun S w=>hld S (ext Q G2 0) fun G3=>hld S (ext Q G2 1) fun G4=>K (Value.tuple #[G3,G4]) w) w) w.drew):dx K (fZ Y5 Z5 K6 W6 X6 Y6 zf) w:=by
 delta dx;exact mpK h
attribute [irreducible] dx lG gM lH
theorem BO (h:box Q 54 Z5 (fun j=>ld Q 54 j fun A9=>call Q 140 #[Y5,A9] fun C0=>ext Q C0 0 fun C1=>ext Q C0 1 fun C2=>bin Q .neq 27 false true C2 (ci 0) fun C4 w=>cond C4 (K C2 w) (bY Q C1 #[] (fun _ w=>sF 54 j 0 (fun C9=>sL 3 C9 fun D0=>sti (bin Q .sub 3 false true D0 (ci 1)) fun D1=>sN Y5 fun D2=>sF 135 D2 2 fun D3=>sI 35 D3 D1 fun D4=>sL 31 D4 fun D5=>sti (bin Q .add 31 false true D5 (cu 1)) fun D6=>sN Y5 fun D7=>sF 135 D7 2 fun D8=>sI 35 D8 D1 fun D9=>sto Q 31 D9 D6 fun _=>K (ci 0)) w.drew) w)) w):Gives Q 96 #[Y5,Z5] w K:=by
 refine aB func96 (by kernel_rfl) ?_;exact mpK h
def grC (x:GR):List Value:=[iv x.o,u6 x.q,u6 x.n,iv x.a,u6 x.b]
theorem iI (x:GR):(grC x).length=5:=rfl
theorem rJ (x:GR):∀v∈grC x,v.oneCell'=true:=by simp[grC,u6,iv,Value.oneCell']
theorem wA (h:K (.pointer (some ⟨b,o+0,none⟩)) w):aT Tryz.prog 126 (.pointer (some ⟨b,o,none⟩)) 0 K w:=aK (by kernel_rfl) h
theorem CX (h:K (.pointer (some ⟨b,o+1,none⟩)) w):aT Tryz.prog 126 (.pointer (some ⟨b,o,none⟩)) 1 K w:=aK (by kernel_rfl) h
theorem Lx (h:K (.pointer (some ⟨b,o+2,none⟩)) w):aT Tryz.prog 126 (.pointer (some ⟨b,o,none⟩)) 2 K w:=aK (by kernel_rfl) h
theorem Ly (h:K (.pointer (some ⟨b,o+3,none⟩)) w):aT Tryz.prog 126 (.pointer (some ⟨b,o,none⟩)) 3 K w:=aK (by kernel_rfl) h
theorem GP (h:K (.pointer (some ⟨b,o+4,none⟩)) w):aT Tryz.prog 126 (.pointer (some ⟨b,o,none⟩)) 4 K w:=aK (by kernel_rfl) h
def fY (l0 l1 s2 D2 D3 D4 F6:Value)(zf:Nat→Value):List Value:=l0::l1::s2::zT zf 3 24 (D2::D3::D4::zT zf 30 27 (F6::zT zf 58 14 ([])))
def fF (K:KV):KE:=ae Q (cd f25 [1,1,1,1]) (rk f25 K) xf (rk f25 K)
def nK (K:KV):KE:=ae Q (cd f25 (b1 122)) (fF K) (xx xf (fF K) 0) (rk f25 K)
def gJ (K:KV):KE:=ae Q (cd f25 (b1 63)) (rk f25 K) xf (rk f25 K)
def nL (K:KV):KE:=ae Q (cd f25 (b1 250)) (gJ K) (xx xf (gJ K) 2) (rk f25 K)
theorem BR (h:alc Q 45 (fun K6=>bin Q .eql 79 false true Y5 (Value.pointer none) fun A5 w=>cond A5 (ld Q 45 K6 (fun A6=>sto Q 45 K6 A6 fun _=>bp Q [(some 45,K6)] K) w) (sN Y5 (fun A8=>sF 135 A8 0 fun A9=>sL 41 A9 fun C0=>sN Y5 fun C2=>sF 135 C2 1 fun C3=>sL 41 C3 fun C4=>sN Y5 fun C5=>sF 135 C5 2 fun C6=>sL 35 C6 fun C7=>sti (bld Q 45 #[(0,C0),(1,C4),(2,C7)]) fun C8=>sto Q 45 K6 C8 fun _=>aU Y5 fun C9=>aT Q 135 C9 3 fun D0=>ld Q 127 D0 fun D1=>call Q 51 #[D1] fun W6=>lN 120 W6 fun X6=>nK K (fY Y5 uu K6 W6 X6 (ci 0) uu (zV (zV zu 7 [Y5,A5]) 10 [Y5,A8,A9,C0,Y5,C2,C3,C4,Y5,C5,C6,C7,C8,Y5,C9,D0,D1]))) w.drew)) w):Gives Q 25 #[Y5] w K:=by
 refine aB func25 (by kernel_rfl) ?_;revert h;delta nK fF;exact mpF
theorem Af (Inv:Value→World→Prop)(μ:Value→World→Nat)(I:Inv Y6 w)(J:∀(j:Value) (dd:Nat→Value) (w:World) (m:Nat),Inv j w→m=μ j w →
  lS j X6 (fun D5 w=>cond D5 (aV Q 120 W6 j (fun D6=>ld Q 31 D6 fun D7 w=>aG (fun S w=>hF S 45 K6 3 fun D8=>hL S 42 D8 fun D9=>hN S Y5 fun E0=>hF S 135 E0 4 fun E1=>hL S 129 E1 fun E2=>hld S (lkp Q 129 E2 D7 false) fun E3=>hN S Y5 fun E4=>hF S 135 E4 5 fun E5=>hL S 130 E5 fun E6=>hld S (lkp Q 130 E6 D7 false) fun E7=>hld S (bld Q 52 #[(0,D7),(1,E3),(2,E7)]) fun E8=>bT Q 42 1 #[(0,E8)] (fun E9=>aY S fun _=>blt Q .append #[42,42] 42 #[false,false] #[D9,E9] fun F0=>aG fun S w=>hF S 45 K6 3 fun F1=>sto Q 42 F1 F0 (fun _=>nC j fun F2 w=>(Inv F2 w)∧((μ F2 w)<m)) w) w) w.drew) w) (fF K (fY Y5 Z5 K6 W6 X6 j Z6 (zV dd 30 [D5])) w)) w):nK K (fY Y5 Z5 K6 W6 X6 Y6 Z6 zf) w:=by
 refine aL (cd f25 (b1 244)) (zr [(4,1),(29,24)]) (by kernel_rfl) (vP [29] Inv) (vQ [29] μ) I ?_;intro e' w' hI;have h:=J _ (zM zf (fun i=>gd e' i) (zr [(4,1),(29,24)])) w' _ hI rfl;revert h;generalize (fF K)=qc0;exact mpF
theorem Ah (h:aU Y5 (fun F3=>aT Q 135 F3 7 fun F4=>ld Q 131 F4 fun F5=>rng Q 131 F5 fun Z6=>nL K (fY Y5 Z5 K6 W6 X6 Y6 Z6 (zV zf 53 [Y5,F3,F4,F5]))) w):fF K (fY Y5 Z5 K6 W6 X6 Y6 Z6 zf) w:=by
 delta fF;revert h;delta nL gJ;exact mpF
theorem Ag (Inv:World→Prop)(μ:World→Nat)(I:Inv w)(J:∀(dd:Nat→Value) (w:World) (m:Nat),Inv w→m=μ w →
  nxt Q Z6 false 0 (fun F7=>ext Q F7 0 fun F8 w=>cond F8 (ent Q Z6 (fun F9=>ext Q F9 1 fun G0=>alc Q 126 fun u=>sto Q 126 u G0 fun _=>aT Q 45 K6 4 fun G1=>ld Q 43 G1 fun G2=>ld Q 126 u fun G3=>bT Q 43 1 #[(0,G3)] fun G4=>blt Q .append #[43,43] 43 #[false,false] #[G2,G4] fun G5=>aT Q 45 K6 4 fun G6=>sto Q 43 G6 G5 fun _ w=>(Inv w)∧((μ w)<m)) w) (gJ K (fY Y5 Z5 K6 W6 X6 Y6 Z6 (zV dd 58 [F7,F8])) w)) w):nL K (fY Y5 Z5 K6 W6 X6 Y6 Z6 zf) w:=by
 refine aL (cd f25 (b1 500)) (zr [(6,1),(58,10)]) (by kernel_rfl) (fun C j=>Inv j) (fun C j=>μ j) I ?_;intro e' w' hI;have h:=J (zM zf (fun i=>gd e' i) (zr [(6,1),(58,10)])) w' _ hI rfl;revert h;generalize (gJ K)=qc0;exact mpF
theorem Ai (h:aT Q 45 K6 4 (fun G7=>ld Q 43 G7 fun G8=>call Q 52 #[G8,Value.func (Fn.func 53) #[] #[]] fun _=>ld Q 45 K6 fun G9=>sto Q 45 K6 G9 fun _=>bp Q [(some 45,K6)] K) w):gJ K (fY Y5 Z5 K6 W6 X6 Y6 Z6 zf) w:=by
 delta gJ;exact mpK h
attribute [irreducible] fF nK gJ nL
theorem Ae (h:box Q 126 Y5 (fun j=>box Q 126 Z5 fun u w=>aG (fun S w=>hF S 126 j 0 fun A2=>hL S 3 A2 fun A3=>hF S 126 u 0 fun A4=>hL S 3 A4 fun A5=>hF S 126 j 1 fun A7=>hL S 31 A7 fun A8=>hF S 126 u 1 fun A9=>hL S 31 A9 fun C0=>call Q 55 #[A3,A5] (fun A6=>aY S fun _=>call Q 56 #[A8,C0] fun C1=>aG fun _=>bT Q 96 2 #[(0,A6),(1,C1)] fun C2=>aG fun _=>call Q 54 #[C2] fun C3=>aG fun _=>K C3) w) w.drew) w):Gives Q 53 #[Y5,Z5] w K:=by
 refine aB func53 (by kernel_rfl) ?_;exact mpK h
theorem BQ (h:alc Q 35 (fun A0=>bin Q .eql 79 false true Y5 (Value.pointer none) fun A1 w=>cond A1 (bld Q 35 #[] (fun A2=>sto Q 35 A0 A2 fun _=>bp Q [(some 35,A0)] K) w) (aU Y5 (fun A4=>aT Q 135 A4 2 fun A5=>ld Q 35 A5 fun A6=>sto Q 35 A0 A6 fun _=>bp Q [(some 35,A0)] K) w)) w):Gives Q 79 #[Y5] w K:=by
 refine aB func79 (by kernel_rfl) ?_;exact mpK h
theorem wM (h:bin Q .eql 79 false true Y5 (Value.pointer none) (fun A5 w=>cond A5 (K (ci 0) w) (aU Y5 (fun A7=>aT Q 135 A7 5 fun A8=>ld Q 130 A8 fun A9=>lkp Q 130 A9 K6 false fun C1=>call Q 63 #[C1,Z5] K) w)) w):Gives Q 32 #[Y5,Z5,K6] w K:=by
 refine aB func32 (by kernel_rfl) ?_;exact mpK h
end
section
attribute [local irreducible] bin un conv call bY blt slc aT fld aV idx lkp dO gY eSt rng nxt ent ext alc box bld bT ld sto aU dE mkS ifc pick rdy wts aI sti cond bp Gives ae fh fT cOp
open Go.RowKit
abbrev ON (w:World)(B:Nat)(a:Option Addr)(n c:Nat)(l:List Int):Prop:=w.ownsRow B 3 1 (.slice a n c) n (l.map iv)
theorem ON.nil (w:World)(B:Nat):ON w B none 0 0 []:=World.ownsRow_nil w B _ 1
theorem ON.bel {l:List Int}(h:ON w B a n c l)(j:Below w.heap.size w w'):ON w' B a n c l:=cJ h fun k u=>j.block k (World.ownsRow.lt h k u).2
theorem ON.len {l:List Int}(h:ON w B a n c l):l.length=n:=by have j:=h.1;simpa using j
theorem ON.mono {l:List Int}(h:ON w B a n c l)(I:b≤B):ON w b a n c l:=by
 refine⟨h.1,?_⟩;rcases h.2 with u|⟨g,cap,j,C,J,r⟩
 ·exact .inl u
 ·exact .inr ⟨g,cap,j,C,by omega,r⟩
theorem Rs :(Tryz.prog.info? 3).map (fun i=>(i.zero,i.size,i.bytes))=some (some (.int .i64 0),1,8):=by kernel_rfl
theorem Fk (I L:List Bool)(k:Nat):vp I L (k+1)=vp I L k++if I.getD k false && !L.getD k false then [((k:Nat):Int)+1]else []:=by
 unfold vp;rw[List.range_succ,List.filter_append,List.map_append]
 congr 1
 cases h:I.getD k false && !L.getD k false with
 | false=>rw[List.filter_cons_of_neg (by rw[h];simp)];rfl
 | true=>rw[List.filter_cons_of_pos (by rw[h])];rfl
theorem LY (I L:List Bool):∀k,(vp I L k).length≤k
 | 0=>by simp[vp]
 | k+1=>by
  have:=LY I L k
  rw[Fk,List.length_append];split<;>simp<;>omega
theorem Lc {P:Program}{k:IntKind}{v:Value}(J:P.underlying t=some (.array n e))(C:∀w,(isAgg e).run P w=.ok false w)(I:∀w,(sizeOf e).run P w=.ok 1 w)(hi:i<n)(M:cs[i]? = some v)(h:K v w):idx P t (.agg cs.toArray) (.int k (i:Nat)) K w:=by
 unfold idx;refine gZ (w':=w) (v:=v) ?_ h;have j:(0:Int)≤(i:Int):=by omega
 have u:(i:Int)<(n:Int):=by omega
 simp only[Instr.index,asIntOf,Sem.run_bind,Sem.run_pure,Result.andThen_ok,run_underlying J,j,u,and_self,if_true,I,part,C,Int.toNat_natCast,Nat.mul_one];simp[M]
theorem WB (h:∀w',blk w' w.heap.size 3 [iv x]→Below w.heap.size w w'→w'.heap.size=w.heap.size+1→K (.slice (some ⟨w.heap.size,0,none⟩) 1 1) w'):bT Tryz.prog 96 1 #[(0,iv x)] K w :=
 mY (vs:=[iv x]) underlying96 (s:=1) (by kernel_rfl) (by kernel_rfl) (by omega) rfl (by simp) (by simp) (by simp) (by simp[Value.cells,iv]) fun w' j b s=>h w' (by simpa[iv,Value.cells]using j) b s
theorem apN {cs:Array Bool}{l:List Int}(U:ON w B a n c l)(hg:blk w g 3 [iv x])(O:B≤w.heap.size)(hn:n≤100000)(h:∀j u w',ON w' B j (n+1) u (l++[x])→Below B w w'→K (.slice j (n+1) u) w'):blt Tryz.prog .append #[96,96] E cs #[.slice a n c,.slice (some ⟨g,0,none⟩) 1 1] K w:=by
 obtain⟨i,hi,hz,M,C⟩:=info_parts Rs;refine Uy (base:=B) (s:=1) (m:=1) (ys:=[iv x]) underlying96 hi hz M C rfl (by omega) U hg rfl (by simp[iv,Value.oneCell']) (by omega) (by omega) O ?_;intro j u w' J I _;refine h j u w' (by simpa[ON]using J) (dW I O (fun k hk=>?_));exact(World.ownsRow.lt U k hk).1
theorem Vg {s:STA}(hs:SK w s)(h:∀w' a c,ON w' w.heap.size a (vp s.I s.L 6).length c (vp s.I s.L 6)→Below w.heap.size w w'→K (.slice a (vp s.I s.L 6).length c) w'):call Tryz.prog 29 #[.agg (saC s).toArray] K w:=by
 refine aj (goK func29) (JG ?_);refine cv fun u O b1 s1=>?_;have O:blk u w.heap.size 45 (saC s):=by simpa[Value.cells]using O
 refine uO ?_;refine ldA (n:=6) (vs:=s.I.map .bool) underlying41 rfl (by kernel_rfl) O (by
  rw[List.drop_zero];unfold saC;rw[List.append_assoc,List.append_assoc,List.take_left' (by simp[hs.i6])]) (by simp[hs.i6]) ?_
 refine Hx (Inv:=fun l i _ _ _ _ _ wr=>∃(k n:Nat) (a:Option Addr) (c:Nat),l=.slice a n c∧i=.int .i64 (k:Nat)∧k≤6∧ON wr u.heap.size a n c (vp s.I s.L k)∧Below u.heap.size u wr) (μ:=fun _ i _ _ _ _ _ _=>6-(intOf i).toNat)
  ⟨0,0,none,0,rfl,rfl,by omega,ON.nil _ _,Below.refl _ _⟩ ?_
 rintro _ _ _ _ _ _ _ dd w2 m ⟨k,n,a,c,rfl,rfl,ag,ho,b2⟩ hm;have aa:=ac b2 O O.lt;have U:=ho.len;have al:=LY s.I s.L k;have af:=b2.size;refine aM ?_;by_cases hk:k<6
 ·refine ax (by omega) <|Hw ?_;refine Lc (v:=.bool (s.I.getD k false)) underlying41 (fun _=>by kernel_rfl) (fun _=>by kernel_rfl) hk (by
   have:=hs.i6
   rw[List.getElem?_map,List.getElem?_eq_getElem (by omega)];simp[List.getD,show k<s.I.length by omega]) ?_
  have j:∀(M:World) (C:Option Addr) (n' J:Nat),ON M u.heap.size C n' J (vp s.I s.L (k+1))→Below u.heap.size u M →
    (∃(k' n:Nat) (a:Option Addr) (c:Nat),Value.slice C n' J=.slice a n c∧Value.int .i64 ((k:Int)+1)=.int .i64 (k':Nat)∧k'≤6∧ON M u.heap.size a n c (vp s.I s.L k')∧Below u.heap.size u M)∧6-(intOf (.int .i64 ((k:Int)+1))).toNat<m :=
   fun M C n' J h1 h2=>⟨⟨k+1,n',C,J,rfl,by simp,by omega,h1,h2⟩,by rw[hm];simp[intOf];omega⟩
  have no:(s.I.getD k false && !s.L.getD k false)=false→vp s.I s.L (k+1)=vp s.I s.L k:=fun hq=>by rw[Fk,hq];simp
  cases hI:s.I.getD k false with
  | false =>
   refine mE <|dA <|aO <|uQ <|aW (by omega) (by omega) ?_;exact j w2 a n c (by rw[no (by rw[hI];rfl)];exact ho) b2
  | true =>
   refine kS <|zR <|eO underlying41 (s:=1) (fun _=>by kernel_rfl) (by omega) (by omega) <|lK (v:=.bool (s.L.getD k false)) aa (by rw[show 0+6+(k:Int).toNat*1=6+k by omega];exact Wk hs hk) <|dB <|bX ?_;cases hL:s.L.getD k false with
   | true =>
    refine aO <|uQ <|aW (by omega) (by omega) ?_;exact j w2 a n c (by rw[no (by rw[hI,hL];rfl)];exact ho) b2
   | false =>
    refine bu <|aW (by omega) (by omega) ?_;refine WB fun M g3 b3 s3=>?_;refine apN (ho.bel b3) g3 (by omega) (by omega) fun C J w4 ad b4=>?_;refine uQ <|aW (by omega) (by omega) ?_;exact j w4 C (n+1) J (by rw[Fk,hI,hL];exact ad) ((b2.trans (b3.mono af)).trans b4)
 ·refine aq (by omega) ?_;obtain rfl:k=6:=by omega
  refine Hy ?_
  have:=h w2 a c (by rw[U];exact ho.mono (by omega)) (b1.trans (b2.mono (by omega)))
  rw[U]at this;exact this
end
section
open Go.RowKit
theorem Nc (h:dE Q 140 none (fun A0=>bld Q 142 #[(0,A0)] fun A1=>box Q 142 A1 K) w):Gives Q 22 #[] w K:=by
 refine aB func22 (by kernel_rfl) ?_;exact mpK h
def jZ (h_0 known4 e5 k_7 there9 D5:Value)(zf:Nat→Value):List Value:=h_0::zT zf 1 3 (known4::e5::zf 6::k_7::zf 8::there9::zT zf 10 20 (D5::zT zf 31 17 ([])))
def oO (K:KV):KE:=ae Q (cd f78 [1,1,1,1]) (rk f78 K) xf (rk f78 K)
def iE (K:KV):KE:=ae Q (cd f78 (b1 63)) (rk f78 K) xf (rk f78 K)
def kr (K:KV):KE:=ae Q (cd f78 (b1 999)) (iE K) (xx xf (iE K) 0) (rk f78 K)
def oP (K:KV):KE:=ae Q (cd f78 (b1 1997)) (kr K) (xx xf (iE K) 0) (rk f78 K)
theorem Hh {K:KV}{Y5 known1 e_2:Value}{w:World}(h:box Q 35 known1 (fun Z5=>box Q 54 e_2 fun K6=>bin Q .eql 84 false true Y5 (Value.pointer none) fun A6 w=>cond A6 (K (ci 2) w) (aT Q 54 K6 0 (fun A7=>ld Q 3 A7 fun A8=>aT Q 54 K6 1 fun A9=>ld Q 31 A9 fun C0=>bld Q 215 #[(0,A8),(1,C0)] fun C1=>alc Q 215 fun W6=>sto Q 215 W6 C1 fun _ w=>aG (fun S w=>hN S Y5 fun C4=>hF S 142 C4 0 fun C5=>hL S 140 C5 fun C6=>hL S 215 W6 fun C7=>hld S (lkp Q 140 C6 C7 true) fun C8=>hld S (ext Q C8 0) fun C9=>hld S (ext Q C8 1) fun D0=>alc Q 54 (fun A5=>aY S fun S=>sto Q 54 A5 C9 fun _=>aY S fun _=>oO K (jZ Y5 Z5 K6 W6 D0 uu (zV (zV (zV (zV zu 1 [known1,e_2]) 6 [ci 0]) 8 [A5]) 10 [Y5,A6,A7,A8,A9,C0,C1,C8,Y5,C4,C5,C6,C7,C8,C9,D0]))) w) w.drew) w)) w):Gives Q 78 #[Y5,known1,e_2] w K:=by
 refine aB func78 (by kernel_rfl) ?_
 refine Eq.mp (congrArg (fun c=>ae Q c _ _ _ _ w) (by kernel_rfl:(rep [1,1,1,1] (cd f78 [1,1,1,1]) (cd f78 []))=(cd f78 []))) ?_
 revert h
 delta oO
 generalize (cd f78 [1,1,1,1])=xc0
 exact mpF
theorem EJ (h:ld Q 54 K6 (fun D2=>call Q 41 #[D2] fun D3=>un Q .not D3 fun D4 w=>cond D4 (K (ci 1) w) (ld Q 35 Z5 (fun D6=>ld Q 54 K6 fun D7=>call Q 97 #[D6,D7] fun D8=>oP K (jZ Y5 Z5 K6 W6 X6 D8 (zV (zV zf 26 [D4,D2,D3,D4]) 31 [D6,D7,D8]))) w)) w):oO K (jZ Y5 Z5 K6 W6 X6 Y6 zf) w:=by
 delta oO
 refine Eq.mp (congrArg (fun c=>ae Q c _ _ _ _ w) (by kernel_rfl:(rep (b1 77) (cd f78 (b1 1997)) (cd f78 [1,1,1,1]))=(cd f78 [1,1,1,1]))) ?_
 revert h
 delta oP iE kr
 generalize (cd f78 (b1 1997))=xc0
 exact mpF
theorem EK (h:cond Y6 (kr K (jZ Y5 Z5 K6 W6 X6 Y6 zf) w) (kr K (jZ Y5 Z5 K6 W6 X6 X6 (zV zf 34 [X6])) w)):oP K (jZ Y5 Z5 K6 W6 X6 Y6 zf) w:=by
 delta oP;revert h;generalize (kr K)=qc0;generalize (iE K)=qc1;exact mpF
theorem xp (h:cond Y6 (K (ci 14) w) (aU Y5 (fun E2=>aT Q 142 E2 0 fun E3=>ld Q 140 E3 fun E4=>lN 140 E4 fun E5=>bin Q .geq 3 false true E5 (ci 64) fun E6 w=>cond E6 (K (ci 7) w) (iE K (jZ Y5 Z5 K6 W6 X6 Y6 (zV zf 35 [E6,Y5,E2,E3,E4,E5,E6])) w)) w)):kr K (jZ Y5 Z5 K6 W6 X6 Y6 zf) w:=by
 delta kr;revert h;generalize (iE K)=qc0;exact mpF
theorem EL (h:aG (fun S w=>hN S Y5 fun E8=>hF S 142 E8 0 fun E9=>hL S 140 E9 fun F0=>hL S 215 W6 fun F1=>hL S 54 K6 fun F2=>dO Q 140 F0 F1 F2 (fun _=>K (ci 0)) w) w.drew):iE K (jZ Y5 Z5 K6 W6 X6 Y6 zf) w:=by
 delta iE;exact mpK h
attribute [irreducible] oO iE kr oP
def fB (h_0 known3 A2 k_6 e7 i8 k_10 e11 C5 D9 E0 F8 F9 G0 G1:Value)(zf:Nat→Value):List Value:=h_0::zf 1::zf 2::known3::A2::zf 5::k_6::e7::i8::zf 9::k_10::e11::zT zf 12 8 (C5::zT zf 21 13 (D9::E0::zT zf 36 19 (F8::F9::G0::G1::zT zf 59 8 ([]))))
def jU (K:KV):KE:=ae Q (cd f80 [1,1,1]) (rk f80 K) xf (rk f80 K)
def qm (K:KV):KE:=ae Q (cd f80 (b1 58)) (jU K) (xx xf (jU K) 0) (rk f80 K)
def fE (K:KV):KE:=ae Q (cd f80 [1,1,1,1]) (rk f80 K) xf (rk f80 K)
def qn (K:KV):KE:=ae Q (cd f80 (b1 122)) (fE K) (xx xf (fE K) 2) (rk f80 K)
def jW (K:KV)(B1:KE):KE:=ae Q (cd f80 (b1 1959)) B1 (xx xf (fE K) 2) (rk f80 K)
def ox (K:KV)(B1:KE):KE:=ae Q (cd f80 (b1 62671)) (jW K B1) (xx (xx xf (fE K) 2) (jW K B1) 3) (rk f80 K)
theorem Gk (h:box Q 35 W6 (fun Z5=>alc Q 54 fun K6=>bin Q .eql 84 false true Y5 (Value.pointer none) fun A9 w=>cond A9 (bld Q 54 #[] (fun C0=>sto Q 54 K6 C0 fun _=>bp Q [(some 54,K6),(none,cF)] K) w) (aU Y5 (fun C2=>aT Q 142 C2 0 fun C3=>ld Q 140 C3 fun C4=>rng Q 140 C4 fun B7=>qm K (fB Y5 Z5 K6 uu uu uu uu uu B7 uu uu uu uu uu uu (zV (zV (zV (zV zu 1 [W6]) 5 [cF]) 13 [Y5,A9]) 16 [Y5,C2,C3,C4]))) w)) w):Gives Q 80 #[Y5,W6] w K:=by
 refine aB func80 (by kernel_rfl) ?_;revert h;delta qm jU;exact mpF
theorem Eb (Inv:World→Prop)(μ:World→Nat)(C:Inv w)(I:∀(dd:Nat→Value) (w:World) (m:Nat),Inv w→m=μ w →
  nxt Q B7 false 0 (fun C6=>ext Q C6 0 fun C7 w=>cond C7 (ent Q B7 (fun C8=>ext Q C8 0 fun C9=>ext Q C8 1 fun D0=>alc Q 215 fun W6=>alc Q 54 fun X6=>sto Q 215 W6 C9 fun _=>sto Q 54 X6 D0 fun _=>ld Q 35 Z5 fun D1=>ld Q 54 X6 fun D2=>call Q 97 #[D1,D2] fun D3 w=>cond D3 (aG (fun S w=>hN S Y5 fun D5=>hF S 142 D5 0 fun D6=>hL S 140 D6 fun D7=>hL S 215 W6 fun D8=>blt Q .delete #[140,215] 0 #[false,false] #[D7,D8] (fun _ w=>(Inv w)∧((μ w)<m)) w) w.drew) ((Inv w)∧((μ w)<m))) w) (jU K (fB Y5 Z5 K6 (dd 6) (dd 7) Y6 Z6 u7 B7 K7 W7 X7 Y7 Z7 B8 (zV dd 21 [C6,C7])) w)) w):qm K (fB Y5 Z5 K6 W6 X6 Y6 Z6 u7 B7 K7 W7 X7 Y7 Z7 B8 zf) w:=by
 refine aL (cd f80 (b1 116)) (zr [(6,2),(21,13)]) (by kernel_rfl) (fun u j=>Inv j) (fun u j=>μ j) C ?_;intro e' w' hI;have h:=I (zM zf (fun i=>gd e' i) (zr [(6,2),(21,13)])) w' _ hI rfl;revert h;generalize (jU K)=qc0;exact mpF
theorem Ed (h:ld Q 35 Z5 (fun K7=>qn K (fB Y5 Z5 K6 W6 X6 Y6 Z6 u7 B7 K7 (ci 0) X7 Y7 Z7 B8 zf)) w):jU K (fB Y5 Z5 K6 W6 X6 Y6 Z6 u7 B7 K7 W7 X7 Y7 Z7 B8 zf) w:=by
 delta jU;revert h;delta qn fE;exact mpF
theorem Ec (Inv:vI 4)(μ:vM 4)(h0:Inv W7 X7 Y7 Z7 w)(hs:∀(E0' F8' F9' G0':Value) (dd:Nat→Value) (w:World) (m:Nat),Inv E0' F8' F9' G0' w→m=μ E0' F8' F9' G0' w →
  bin Q .lss 3 false true E0' (ci 6) (fun E1 w=>cond E1 (idx Q 35 K7 E0' (fun E3=>nC E0' fun E5=>bin Q .add 31 false true E3 (cu 1) fun E7=>bld Q 215 #[(0,E5),(1,E7)] fun E8=>alc Q 215 fun Z6=>sto Q 215 Z6 E8 fun _ w=>aG (fun S w=>hN S Y5 fun F1=>hF S 142 F1 0 fun F2=>hL S 140 F2 fun F3=>hL S 215 Z6 fun F4=>hld S (lkp Q 140 F3 F4 true) fun F5=>hld S (ext Q F5 0) fun F6=>hld S (ext Q F5 1) fun F7=>alc Q 54 (fun u7=>aY S fun S=>sto Q 54 u7 F6 fun _=>aY S fun _ w=>aI F7 true (fun k55=>ld Q 35 Z5 (fun X7=>ld Q 54 u7 fun Y7=>call Q 98 #[X7,Y7] fun Z7=>k55 [X7,Y7,Z7]) w) (fun k=>k [uu,uu,uu] w) fun us55=>pick F7 (gd us55 2) cF fun B8=>ox K (fun e2 w2=>(Inv (gd e2 35) (gd e2 55) (gd e2 56) (gd e2 57) w2)∧((μ (gd e2 35) (gd e2 55) (gd e2 56) (gd e2 57) w2)<m)) (fB Y5 Z5 K6 W6 X6 E0' Z6 u7 B7 K7 E0' (gd us55 0) (gd us55 1) (gd us55 2) B8 (zV (zV (zV dd 9 [E3]) 12 [F7]) 36 [E1,E0',E3,E0',E5,E3,E7,E8,F5,Y5,F1,F2,F3,F4,F5,F6,F7,F7,F7]))) w) w.drew) w) (fE K (fB Y5 Z5 K6 W6 X6 (dd 8) (dd 10) (dd 11) B7 K7 E0' F8' F9' G0' (dd 58) (zV dd 36 [E1])) w)) w):qn K (fB Y5 Z5 K6 W6 X6 Y6 Z6 u7 B7 K7 W7 X7 Y7 Z7 B8 zf) w:=by
 refine aL (cd f80 (b1 244)) (zr [(5,1),(8,5),(35,31)]) (by kernel_rfl) (vP [35,55,56,57] Inv) (vQ [35,55,56,57] μ) h0 ?_
 intro e' w' hI
 have h:=hs _ _ _ _ (zM zf (fun i=>gd e' i) (zr [(5,1),(8,5),(35,31)])) w' _ hI rfl
 refine Eq.mp (congrArg (fun c=>ae Q c _ _ _ _ w') (by kernel_rfl:(rep (b1 463) (cd f80 (b1 62671)) (cd f80 (b1 244)))=(cd f80 (b1 244)))) ?_
 revert h
 delta ox jW
 generalize (cd f80 (b1 62671))=xc0
 generalize (fE K)=qc0
 exact mpF
theorem wo (h:cond B8 (aG (fun S w=>hN S Y5 fun G2=>hF S 142 G2 0 fun G3=>hL S 140 G3 fun G4=>hL S 215 Z6 fun G5=>blt Q .delete #[140,215] 0 #[false,false] #[G4,G5] (fun _=>ld Q 54 u7 fun G6=>sto Q 54 K6 G6 fun _=>bp Q [(some 54,K6),(none,cT)] K) w) w.drew) (jW K B1 (fB Y5 Z5 K6 W6 X6 Y6 Z6 u7 B7 K7 W7 X7 Y7 Z7 B8 zf) w)):ox K B1 (fB Y5 Z5 K6 W6 X6 Y6 Z6 u7 B7 K7 W7 X7 Y7 Z7 B8 zf) w:=by
 delta ox;revert h;generalize (jW K B1)=qc0;generalize (fE K)=qc1;exact mpF
theorem Ee (h:bld Q 54 #[] (fun G8=>sto Q 54 K6 G8 fun _=>bp Q [(some 54,K6),(none,cF)] K) w):fE K (fB Y5 Z5 K6 W6 X6 Y6 Z6 u7 B7 K7 W7 X7 Y7 Z7 B8 zf) w:=by
 delta fE;exact mpK h
theorem mj (h:nC W7 (fun G7=>B1 (fB Y5 Z5 K6 W6 X6 Y6 Z6 u7 B7 K7 G7 X7 Y7 Z7 B8 (zV zf 65 [G7]))) w):jW K B1 (fB Y5 Z5 K6 W6 X6 Y6 Z6 u7 B7 K7 W7 X7 Y7 Z7 B8 zf) w:=by
 delta jW;revert h;generalize (fE K)=qc0;exact mpF
attribute [irreducible] jU qm fE qn jW ox
end
section
/-! ## What events leave as it was -/
def noJ (E:List EV):Prop:=∀e∈E,e.k≠6∧e.k≠7
theorem LO {x:GR}:∀{G:List GR},(iS x G).length=G.length+1
 | []=>rfl
 | y::G=>by
  unfold iS;split
  ·rfl
  ·rw[List.length_cons,LO,List.length_cons]
theorem JQ {e:EV}{s:PL}(h:e.k≠6∧e.k≠7):(eff e s).I=s.I∧(eff e s).L=s.L∧(eff e s).G.length≤s.G.length+1:=by
 refine⟨?_,?_,?_⟩
 ·show nO e s.I=s.I;unfold nO;rw[if_neg h.1]
 ·show nP e s.L=s.L;unfold nP;rw[if_neg h.2]
 ·show ((gop e).ap s.G).length≤_;cases gop e with
  | ins x=>show (iS x s.G).length≤_;rw[LO];exact Nat.le_refl _
  | upd o q b=>show (s.G.map (nD o q b)).length≤_;rw[List.length_map];exact Nat.le_succ _
  | non=>exact Nat.le_succ _
theorem CW :∀{E:List EV} {s:PL},noJ E→(lQ eff s E).I=s.I∧(lQ eff s E).L=s.L∧(lQ eff s E).G.length≤s.G.length+E.length
 | [],s,_=>⟨rfl,rfl,Nat.le_refl _⟩
 | e::E,s,h=>by
  obtain⟨a1,j,J⟩:=JQ (s:=s) (h e (by simp));obtain⟨b1,b2,u⟩:=CW (E:=E) (s:=eff e s) fun f C=>h f (List.mem_cons_of_mem _ C);refine⟨b1.trans a1,b2.trans j,?_⟩;rw[List.length_cons];exact Nat.le_trans u (by omega)
theorem LK.IL {E:List EV}{l:PL}(h:LK n E l)(C:noJ E):l.I=(pl0 n).I∧l.L=(pl0 n).L∧l.G.length≤E.length:=by
 have:=CW (E:=E.filter (kn EV.q EV.s (kV l))) (s:=pl0 n) fun e u=>C e (List.mem_filter.1 u).1
 have j:=h.st;unfold stL stD at j;rw[←j]at this;refine⟨this.1,this.2.1,Nat.le_trans this.2.2 ?_⟩
 have:=List.length_filter_le (kn EV.q EV.s (kV l)) E
 have:(pl0 n).G.length=0:=rfl
 omega
theorem LK.same {E:List EV}{l m:PL}(h:LK n E l)(k:LK n E m)(j:l.V=m.V):l=m:=by
 rw[h.st,k.st];unfold kV;rw[j]
/-! ## How many are known -/
def cnE (E:List EV)(V:List Int):Nat:=E.countP fun f=>decide (f.s≤V.getD f.q 0)
theorem mG {E:List EV}{V:List Int}(h:∀k,V.getD k 0≤xs.getD k 0):cnE E V≤cnE E xs :=
 List.countP_mono_left fun f _ j=>decide_eq_true (Int.le_trans (of_decide_eq_true j) (h f.q))
theorem Du {E:List EV}{V:List Int}:cnE E V≤E.length:=List.countP_le_length
theorem ES {E:List EV}{V:List Int}(h:E.length≤cnE E V):∀f∈E,f.s≤V.getD f.q 0:=fun f j =>
 of_decide_eq_true (List.countP_eq_length.1 (Nat.le_antisymm Du h) f j)
theorem AZ {V V':List Int}(h:∀k,V.getD k 0≤V'.getD k 0):∀{E:List EV},cnE E V'≤cnE E V→∀f∈E,f.s≤V'.getD f.q 0→f.s≤V.getD f.q 0
 | [],_,f,j,_=>by cases j
 | e::E,hc,f,j,hs=>by
  have I:=mG (E:=E) h;have J:=h e.q;unfold cnE at hc I;rw[List.countP_cons,List.countP_cons]at hc;by_cases u:e.s≤V.getD e.q 0
  ·rw[if_pos (decide_eq_true (Int.le_trans u J)),if_pos (decide_eq_true u)]at hc;rcases List.mem_cons.1 j with rfl|j
   ·exact u
   ·exact AZ h (E:=E) (by unfold cnE;omega) f j hs
  ·rw[decide_eq_false u,if_neg Bool.false_ne_true]at hc;by_cases C:e.s≤V'.getD e.q 0
   ·rw[decide_eq_true C,if_pos rfl]at hc;omega
   ·rw[decide_eq_false C,if_neg Bool.false_ne_true]at hc;rcases List.mem_cons.1 j with rfl|j
    ·exact absurd hs C
    ·exact AZ h (E:=E) (by unfold cnE;omega) f j hs
/-! ## The rows of a log -/
def qX (T:List (List (EV×Int)))(e:EV)(c:Int):List (List (EV×Int)):=T.set e.q (T.getD e.q []++[(e,c)])
def xb (T:List (List (EV×Int)))(c:Int)(F:List EV):List (List (EV×Int)):=F.zipIdx.foldl (fun T p=>qX T p.1 (c+(p.2:Nat))) T
theorem yO {T:List (List (EV×Int))}{c:Int}{F:List EV}{e:EV}:xb T c (F++[e])=qX (xb T c F) e (c+(F.length:Nat)):=by
 unfold xb;rw[List.zipIdx_append,List.foldl_append];simp
def kJ (A:List EV)(q:Nat):List (EV×Int):=(A.zipIdx.filter fun p=>decide (p.1.q=q)).map fun p=>(p.1,(p.2:Int))
def lp (A:List EV):List (List (EV×Int)):=(List.range 6).map (kJ A)
theorem Eg {A:List EV}{e:EV}{q:Nat}:kJ (A++[e]) q=if e.q=q then kJ A q++[(e,(A.length:Int))]else kJ A q:=by
 unfold kJ;rw[List.zipIdx_append,List.filter_append,List.map_append];by_cases h:e.q=q
 ·rw[if_pos h];simp[h]
 ·rw[if_neg h];simp[h]
theorem xB {A:List EV}{q:Nat}(h:q<6):(lp A)[q]? = some (kJ A q):=by
 unfold lp;rw[List.getElem?_map,List.getElem?_range h];rfl
theorem zX {A:List EV}{e:EV}(h:e.q<6):lp (A++[e])=qX (lp A) e (A.length:Nat):=by
 have u:∀A,(lp A).length=6:=fun A=>by simp[lp]
 unfold qX;rw[List.getD_eq_getElem?_getD,xB h,Option.getD_some];refine List.ext_getElem? fun q=>?_;by_cases C:q<6
 ·rw[xB C,Eg,List.getElem?_set,u];by_cases j:e.q=q
  ·rw[if_pos j,if_pos j,if_pos h,j]
  ·rw[if_neg j,if_neg j,xB C]
 ·rw[List.getElem?_eq_none (by rw[u];omega),List.getElem?_eq_none (by rw[List.length_set,u];omega)]
theorem Dq {A:List EV}:∀{F:List EV},(∀e∈F,e.q<6)→lp (A++F)=xb (lp A) (A.length:Nat) F:=by
 intro F;generalize j:F.length=m
 induction m generalizing F with
 | zero=>intro _;rw[List.eq_nil_of_length_eq_zero j,List.append_nil];rfl
 | succ m ih =>
  intro h;rcases List.eq_nil_or_concat F with rfl|⟨F',e,rfl⟩
  ·simp at j
  ·rw[List.concat_eq_append]at j h ⊢;have u:F'.length=m:=by simpa using j
   rw[yO, ←ih u fun x C=>h x (List.mem_append_left _ C), ←List.append_assoc,zX (h e (by simp)),List.length_append];push_cast;rfl
/-! ## In which order -/
structure AppP (E A:List EV) (l:PL):Prop where
 mem:∀f,f∈A↔f∈E∧f.s≤l.V.getD f.q 0
 nd:A.Nodup
 inc:A.Pairwise fun a b=>a.q=b.q→a.s<b.s
 ord:∀X e Y,A=X++e::Y→∀f∈E,f.s≤Jt e f.q→f∈X
def ChE (E:List EV)(P:List Int)(L:List EV):Prop:=∀X e Y,L=X++e::Y→e∈E∧∀f∈E,f.s≤Jt e f.q→f.s≤P.getD f.q 0∨f∈X
section
variable {n c:Nat}{E A:List EV}{l l':PL}{W W':HM}{e:EV}{P:List Int}{L F:List EV}
theorem AppP.zero (h:HistL n E):AppP E [] (pl0 n):=by
 refine⟨fun f=>?_,List.nodup_nil,List.Pairwise.nil,fun X e Y h=>by simp at h⟩;simp only[List.not_mem_nil,false_iff];rintro⟨j,u⟩
 have:=congrFun (EP n) f.q
 unfold kV at this;rw[this]at u
 have:=(gC (h.may f j)).2.2.1
 omega
theorem AppP.step (h:AppP E A l)(J:HistL n E)(hk:LK n E l)(U:e∈E)(hr:ey l.V e=true):AppP E (A++[e]) (eff e l):=by
 obtain⟨h1,h2⟩:=nB hr;obtain⟨ho,hl⟩:=hk.next J U hr
 have hv:∀k,(eff e l).V.getD k 0=if k=e.q then e.s else l.V.getD k 0:=fun k=>congrFun (IF (hk.pi J) ho) k
 have ad:e∉A:=fun hm=>by have:=((h.mem e).1 hm).2;omega
 refine⟨fun f=>?_,?_,?_,fun X g Y I f j u=>?_⟩
 ·rw[List.mem_append,List.mem_singleton,h.mem,hv];constructor
  ·rintro(⟨j,u⟩|rfl)
   ·refine⟨j,?_⟩;split
    ·rename_i C;rw[C]at u;omega
    ·exact u
   ·exact⟨U,by rw[if_pos rfl];exact Int.le_refl _⟩
  ·rintro⟨j,u⟩;split at u
   ·rename_i C;by_cases af:f.s=e.s
    ·exact .inr (J.uniq.2 f j e U C af)
    ·exact .inl ⟨j,by rw[C];omega⟩
   ·exact .inl ⟨j,u⟩
 ·rw[List.nodup_append];exact⟨h.nd,by simp,fun a M b O=>by rw[List.mem_singleton.1 O];exact fun e' => ad (e' ▸ M)⟩
 ·rw[List.pairwise_append];refine⟨h.inc,List.pairwise_singleton _ _,fun a M b O C=>?_⟩;rw[List.mem_singleton.1 O]at C ⊢
  have:=((h.mem a).1 M).2
  rw[C]at this;omega
 ·rcases List.eq_nil_or_concat Y with rfl|⟨Y',y,rfl⟩
  ·have e1:=List.append_inj_left' I rfl;have e2:=List.append_inj_right' I rfl;simp only[List.cons.injEq,and_true]at e2;subst e1;subst e2;refine(h.mem f).2 ⟨j,Int.le_trans u ?_⟩;by_cases aa:f.q<6
   ·exact h2 f.q aa
   ·have:=(qe (J.may f j)).1;omega
  ·rw[List.concat_eq_append, ←List.cons_append, ←List.append_assoc]at I;exact h.ord X g Y' (List.append_inj_left' I rfl) f j u
theorem AppP.grow (h:AppP E A l)(I:∀f∈A,Jt f e.q<e.s)(J:l.V.getD e.q 0<e.s):AppP (E++[e]) A l:=by
 refine⟨fun f=>?_,h.nd,h.inc,fun X g Y u f j C=>?_⟩
 ·rw[h.mem,List.mem_append,List.mem_singleton];constructor
  ·exact fun⟨a,b⟩=>⟨.inl a,b⟩
  ·rintro⟨a|rfl,b⟩
   ·exact⟨a,b⟩
   ·omega
 ·rcases List.mem_append.1 j with j|j
  ·exact h.ord X g Y u f j C
  ·rw[List.mem_singleton.1 j]at C
   have:=I g (by rw[u];simp)
   omega
theorem DR.app (j:DR l W l' W' F)(C:RHL n E l W c)(h:AppP E A l):AppP E (A++F) l':=by
 induction j with
 | nil=>rw[List.append_nil];exact h
 | @snoc l' W' F e j hn ih =>
  obtain⟨I,_⟩:=j.ri C;obtain⟨J,u,_⟩:=I.step hn;rw[←List.append_assoc];exact ih.step C.hist I.lk J u
theorem AppP.tell (h:AppP E A l)(m:Nat):ChE E P ((A.filter fun e=>decide (P.getD e.q 0<e.s)).take m):=by
 intro X e Y hX;have j:A.filter (fun e=>decide (P.getD e.q 0<e.s))=X++e::(Y++(A.filter fun e=>decide (P.getD e.q 0<e.s)).drop m):=by
  have:=List.take_append_drop m (A.filter fun e=>decide (P.getD e.q 0<e.s))
  rw[hX,List.append_assoc,List.cons_append]at this;exact this.symm
 obtain⟨X1,Y1,hA,I,J⟩:=List.filter_eq_append_iff.1 j;obtain⟨X2,Y2,C,O,ad,aa⟩:=List.filter_eq_cons_iff.1 J;have u:A=(X1++X2)++e::Y2:=by rw[hA,C];simp
 refine⟨((h.mem e).1 (by rw[u];simp)).1,fun f hf hs=>?_⟩;have M:=h.ord _ e _ u f hf hs;by_cases hP:f.s≤P.getD f.q 0
 ·exact .inl hP
 ·refine .inr ?_;have U:decide (P.getD f.q 0<f.s)=true:=decide_eq_true (by omega);rw[←I];rcases List.mem_append.1 M with j|j
  ·exact List.mem_filter.2 ⟨j,U⟩
  ·exact absurd U (O f j)
theorem ChE.grow (h:ChE E P L)(I:∀f∈E,Jt f e.q<e.s):ChE (E++[e]) P L:=fun X g Y C=>by
 obtain⟨a,b⟩:=h X g Y C;refine⟨List.mem_append_left _ a,fun f j u=>?_⟩;rcases List.mem_append.1 j with j|j
 ·exact b f j u
 ·rw[List.mem_singleton.1 j]at u
  have:=I g a
  omega
theorem ChE.mem (h:ChE E P L):∀e∈L,e∈E:=fun e u=>by
 obtain⟨X,Y,j⟩:=List.append_of_mem u;exact(h X e Y j).1
/-! ## What is heard -/
theorem RHL.put' (h:RHL n E l W c)(J:e∈E)(hW:W.length<64):RHL n E l (AD l.V W e) c∧(e.s≤l.V.getD e.q 0∨(mW e,e)∈AD l.V W e)∧(AD l.V W e).length≤W.length+1∧∀p∈W,p∈AD l.V W e:=by
 have I:=h.hist.may e J;unfold AD;by_cases C:nH l.V e=true
 ·rw[if_neg (by rw[C];simp)];exact⟨h,.inl ((xq I).1 C),Nat.le_succ _,fun _ j=>j⟩
 have aa:=Bool.eq_false_iff.2 C;cases hg:dP W (mW e)with
 | some f =>
  rw[if_neg (by simp)];have u:=uR hg;have U:=h.hw.key _ u;have M:=h.hw.mem _ u;have O:f=e:=by
   rw[EQ I,EQ (h.may u)]at U;have a:=congrArg (·.1) U;have b:=congrArg (·.2) U;simp only at a b;exact h.hist.uniq.2 f M e J (by omega) b.symm
  rw[O]at u;exact⟨h,.inr u,Nat.le_succ _,fun _ j=>j⟩
 | none =>
  rw[if_pos ⟨I,aa,rfl,hW⟩];refine⟨⟨h.hist,h.lk,⟨fun p j=>?_,fun p j=>?_,?_,fun p j=>?_⟩,h.cnt⟩,.inr (by simp),by simp,fun p j=>List.mem_append_left _ j⟩
  ·rcases List.mem_append.1 j with j|j
   ·exact h.hw.key p j
   ·rw[List.mem_singleton.1 j]
  ·rcases List.mem_append.1 j with j|j
   ·exact h.hw.mem p j
   ·rw[List.mem_singleton.1 j];exact J
  ·rw[List.map_append,List.nodup_append];refine⟨h.hw.nd,by simp,fun a ha b hb=>?_⟩;simp only[List.map_cons,List.map_nil,List.mem_singleton]at hb;subst hb;exact fun e' => sQ.1 hg (e' ▸ ha)
  ·rcases List.mem_append.1 j with j|j
   ·exact h.hw.new p j
   ·rw[List.mem_singleton.1 j]
    have : ¬e.s≤l.V.getD e.q 0:=fun hh=>C ((xq I).2 hh)
    show l.V.getD e.q 0<e.s;omega
def nf (V:List Int)(W:HM)(E:List EV):HM:=E.foldl (AD V) W
theorem RHL.puts :∀{L:List EV} {W:HM},RHL n E l W c→(∀e∈L,e∈E)→W.length+L.length≤64→RHL n E l (nf l.V W L) c∧(∀e∈L,e.s≤l.V.getD e.q 0∨(mW e,e)∈nf l.V W L)∧(nf l.V W L).length≤W.length+L.length∧∀p∈W,p∈nf l.V W L
 | [],W,h,_,_=>⟨h,by simp,Nat.le_refl _,fun _ u=>u⟩
 | e::L,W,h,hL,hW=>by
  rw[List.length_cons]at hW ⊢;obtain⟨a1,I,U,J⟩:=h.put' (hL e (by simp)) (by omega);obtain⟨b1,b2,M,C⟩:=RHL.puts (L:=L) a1 (fun x O=>hL x (List.mem_cons_of_mem _ O)) (by omega);refine⟨b1,fun f j=>?_,Nat.le_trans M (by omega),fun p u=>C p (J p u)⟩;rcases List.mem_cons.1 j with rfl|j
  ·exact I.imp id fun h=>C _ h
  ·exact b2 f j
theorem AQ :∀{L:List EV} {W:HM},∀p∈nf l.V W L,p∈W∨p.2∈L
 | [],_,p,hp=>.inl hp
 | e::L,W,p,hp=>by
  rcases AQ (L:=L) (W:=AD l.V W e) p hp with h|h
  ·unfold AD at h;split at h
   ·rcases List.mem_append.1 h with h|h
    ·exact .inl h
    ·rw[List.mem_singleton.1 h];exact .inr (by simp)
   ·exact .inl h
  ·exact .inr (List.mem_cons_of_mem _ h)
theorem DR.sub (j:DR l W l' W' F):∀p∈W',p∈W:=by
 induction j with
 | nil=>exact fun _ h=>h
 | snoc h1 h2 ih=>exact fun p u=>ih p (FY.1 u).1
theorem RHL.know1 (h:RHL n E l W c)(he:e∈E)(j:∀f∈E,f.s≤Jt e f.q→f.s≤l.V.getD f.q 0)(hn:eH l.V W 6=none)(M:e.s≤l.V.getD e.q 0∨(mW e,e)∈W):e.s≤l.V.getD e.q 0:=by
 refine M.elim id fun M=>Classical.byContradiction fun aa=>?_;obtain⟨E1,E2,rfl⟩:=List.append_of_mem he;have hp:HistL n (E1++[e]):=h.hist.pre (E1++[e]) E2 (by simp);obtain⟨hc,ho⟩:=hp.last E1 e rfl;have C:HistL n E1:=hp.pre E1 [e] rfl;obtain⟨r1,r2⟩:=nB ho.rdy;have I:=ho.may;have O:=MR (D:=kV l) (rh n) (C.oks yX (rh n) hc) (fun k=>by
  have:=congrFun (EP n) k
  unfold kV at this ⊢;rw[this];by_cases j:k<6
  ·exact(h.pi.vb k j).1
  ·rw[List.getD_eq_getElem?_getD,List.getElem?_eq_none (by rw[h.pi.v6];omega)];exact Int.le_refl _) (fun f U=>j f (by have:=(List.mem_filter.1 U).1;simp[this]) (oy.1 (List.mem_filter.1 U).2))
 have hq:=(qe I).1;have u:=O e.q;unfold kV at u;have J:ey l.V e=true:=KB I (by omega) fun k j=>Int.le_trans (r2 k j) (O k);have hg:=nN h.hw.nd M;rw[EQ I,show e.s=l.V.getD e.q 0+1 by omega]at hg
 have:=DJ (Nat.le_refl 6) hn e.q (by omega) hq e hg
 rw[J]at this;cases this
theorem RHL.hear (h:RHL n E l [] c)(hL:ChE E P L)(hP:∀k,P.getD k 0≤l.V.getD k 0)(M:L.length≤64)(hd:DR l (nf l.V [] L) l' W' F)(hn:eH l'.V W' 6=none):W'=[]∧(∀f∈L,f.s≤l'.V.getD f.q 0)∧RHL n E l' [] (c+F.length)∧∀k,l.V.getD k 0≤l'.V.getD k 0:=by
 obtain⟨b1,b2,b3,_⟩:=h.puts hL.mem (by simpa using M);obtain⟨i1,i2,_,i4⟩:=hd.ri b1;have aa:∀(m:Nat) (X:List EV),X.length=m→∀Y,L=X++Y→∀f∈X,f.s≤l'.V.getD f.q 0:=by
  intro m
  induction m with
  | zero=>intro X J Y _ f u;rw[List.eq_nil_of_length_eq_zero J]at u;cases u
  | succ m ih =>
   intro X J Y j f u;rcases List.eq_nil_or_concat X with rfl|⟨X',x,rfl⟩
   ·simp at J
   ·rw[List.concat_eq_append]at J j u;have U:X'.length=m:=by simpa using J
    have hk:=ih X' U (x::Y) (by rw[j];simp);rcases List.mem_append.1 u with u|u
    ·exact hk f u
    ·rw[List.mem_singleton.1 u];obtain⟨c1,c2⟩:=hL X' x Y (by rw[j];simp);refine i1.know1 c1 (fun g hg hs=>?_) hn ?_
     ·rcases c2 g hg hs with C|C
      ·exact Int.le_trans C (Int.le_trans (hP _) (i2 _))
      ·exact hk g C
     ·rcases b2 x (by rw[j];simp)with C|C
      ·exact .inl (Int.le_trans C (i2 _))
      ·exact(i4 _ C).symm
 have I:=aa L.length L rfl [] (by simp);have hW:W'=[]:=List.eq_nil_iff_forall_not_mem.2 fun p hp=>by
  have C:=i1.hw.new p hp;rcases AQ p (hd.sub p hp)with O|O
  ·cases O
  ·have:=I _ O;omega
 subst hW;exact⟨rfl,I,i1,i2⟩
end
end
section
open Go.RowKit
theorem Gs (h:bin Q .geq 3 false true Y5 (ci 1) (fun A2 w=>aI A2 true (fun u=>bin Q .leq 3 false true Y5 (ci 6) (fun A5=>u [Y5,A5]) w) (fun k=>k [uu,uu] w) fun j=>pick A2 (gd j 1) cF K) w):Gives Q 37 #[Y5] w K:=by
 refine aB func37 (by kernel_rfl) ?_;exact mpK h
def yE (m1 D5 E1 E2 E3 E4 E6 E7 E8 F0 F1 F2 F3 F9 G0 G1 G3 G4 G5 G7 G8 G9:Value)(zf:Nat→Value):List Value:=zf 0::m1::zT zf 2 26 (D5::zT zf 29 8 (E1::E2::E3::E4::zf 41::zf 42::E6::E7::E8::zf 46::zf 47::F0::F1::F2::zf 51::F3::zT zf 53 6 (F9::G0::G1::zf 62::zf 63::G3::G4::G5::zf 67::zf 68::G7::G8::G9::zf 72::[])))
def oK (K:KV):KE:=ae Q (cd f11 [1,1,1]) (rk f11 K) xf (rk f11 K)
def qE (K:KV):KE:=ae Q (cd f11 [1,1,0,1]) (oK K) xf (rk f11 K)
def ks (K:KV):KE:=ae Q (cd f11 (b1 471)) (oK K) (xx xf (oK K) 0) (rk f11 K)
theorem JH {K:KV}{m0:Value}{w:World}(h:box Q 38 m0 (fun Y5=>aT Q 38 Y5 1 fun A2=>ld Q 3 A2 fun A3=>call Q 37 #[A3] fun A4=>un Q .not A4 fun A5 w=>aI A5 false (fun k9=>aT Q 38 Y5 2 (fun A7=>ld Q 3 A7 fun A8=>call Q 37 #[A8] fun A9=>un Q .not A9 fun C0=>k9 [A7,A8,A9,C0]) w) (fun k=>k [uu,uu,uu,uu] w) fun us9=>pick A5 cT (gd us9 3) fun C1 w=>aI C1 false (fun k15=>aT Q 38 Y5 1 (fun C3=>ld Q 3 C3 fun C4=>aT Q 38 Y5 2 fun C5=>ld Q 3 C5 fun C6=>bin Q .eql 3 false false C4 C6 fun C7=>k15 [C3,C4,C5,C6,C7]) w) (fun k=>k [uu,uu,uu,uu,uu] w) fun us15=>pick C1 cT (gd us15 4) fun C8 w=>aI C8 false (fun k22=>aT Q 38 Y5 3 (fun C9=>ld Q 35 C9 fun D0=>call Q 38 #[D0] fun D1=>un Q .not D1 fun D2=>k22 [C9,D0,D1,D2]) w) (fun k=>k [uu,uu,uu,uu] w) fun us22=>pick C8 cT (gd us22 3) fun D3 w=>cond D3 (K cF w) (aT Q 38 Y5 0 (fun D4=>ld Q 5 D4 fun Z5=>qE K (yE Y5 Z5 uu uu uu uu uu uu uu uu uu uu uu uu uu uu uu uu uu uu uu uu (zV (zV (zV zu 0 [m0]) 2 [cF]) 4 [A2,A3,A4,A5,A5,gd us9 0,gd us9 1,gd us9 2,gd us9 3,C1,C1,gd us15 0,gd us15 1,gd us15 2,gd us15 3,gd us15 4,C8,C8,gd us22 0,gd us22 1,gd us22 2,gd us22 3,D3,D4]))) w)) w):Gives Q 11 #[m0] w K:=by
 refine aB func11 (by kernel_rfl) ?_
 refine Eq.mp (congrArg (fun c=>ae Q c _ _ _ _ w) (by kernel_rfl:(rep [1,1,0,1] (cd f11 [1,1,0,1]) (cd f11 []))=(cd f11 []))) ?_
 revert h
 delta qE oK
 generalize (cd f11 [1,1,0,1])=xc0
 exact mpF
theorem HA (h:bin Q .eql 5 false true Z5 (cb 1) (fun D6 w=>cond D6 (aT Q 38 Y5 4 (fun D7=>ld Q 36 D7 fun D8=>call Q 39 #[D8,Value.func (Fn.func 40) #[] #[]] fun D9=>un Q .not D9 fun E0 w=>aI E0 true (fun k37=>aT Q 38 Y5 4 (fun K6=>ld Q 36 K6 fun W6=>lN 36 W6 fun X6=>bin Q .leq 3 false true X6 (ci 16) fun Y6=>k37 [K6,W6,X6,Y6]) w) (fun k=>k [uu,uu,uu,uu] w) fun us37=>pick E0 (gd us37 3) cF fun E5 w=>aI E5 true (fun k43=>aT Q 38 Y5 5 (fun Z6=>ld Q 31 Z6 fun u7=>bin Q .eql 31 false true u7 (cu 0) fun B7=>k43 [Z6,u7,B7]) w) (fun k=>k [uu,uu,uu] w) fun us43=>pick E5 (gd us43 2) cF fun E9 w=>aI E9 true (fun k48=>aT Q 38 Y5 6 (fun K7=>ld Q 2 K7 fun W7=>bin Q .eql 2 false true W7 (ci 0) fun X7=>k48 [K7,W7,X7]) w) (fun k=>k [uu,uu,uu] w) fun us48=>pick E9 (gd us48 2) cF K) w) (bin Q .eql 5 false true Z5 (cb 2) (fun F4=>ks K (yE Y5 Z5 K6 W6 X6 Y6 Z6 u7 B7 K7 W7 X7 F4 Z7 B8 K8 W8 X8 Y8 Z8 l9 n9 (zV (zV zf 29 [D6,D6]) 53 [F4]))) w)) w):qE K (yE Y5 Z5 K6 W6 X6 Y6 Z6 u7 B7 K7 W7 X7 Y7 Z7 B8 K8 W8 X8 Y8 Z8 l9 n9 zf) w:=by
 delta qE
 refine Eq.mp (congrArg (fun c=>ae Q c _ _ _ _ w) (by kernel_rfl:(rep [0,1,1,1] (cd f11 (b1 471)) (cd f11 [1,1,0,1]))=(cd f11 [1,1,0,1]))) ?_
 revert h
 delta ks
 generalize (cd f11 (b1 471))=xc0
 generalize (oK K)=qc0
 exact mpF
theorem yu (h:cond Y7 (aT Q 38 Y5 4 (fun F5=>ld Q 36 F5 fun F6=>lN 36 F6 fun F7=>bin Q .eql 3 false true F7 (ci 0) fun F8 w=>aI F8 true (fun I=>aT Q 38 Y5 5 (fun Z7=>ld Q 31 Z7 fun B8=>bin Q .neq 31 false true B8 (cu 0) fun K8=>I [Z7,B8,K8]) w) (fun k=>k [uu,uu,uu] w) fun j=>pick F8 (gd j 2) cF fun G2 w=>aI G2 true (fun J=>aT Q 38 Y5 6 (fun W8=>ld Q 2 W8 fun X8=>bin Q .geq 2 false true X8 (ci 1) fun Y8=>J [W8,X8,Y8]) w) (fun k=>k [uu,uu,uu] w) fun u=>pick G2 (gd u 2) cF fun G6 w=>aI G6 true (fun M=>aT Q 38 Y5 6 (fun Z8=>ld Q 2 Z8 fun l9=>bin Q .leq 2 false true l9 (ci 1125899906842624) fun n9=>M [Z8,l9,n9]) w) (fun k=>k [uu,uu,uu] w) fun C=>pick G6 (gd C 2) cF K) w) (oK K (yE Y5 Z5 K6 W6 X6 Y6 Z6 u7 B7 K7 W7 X7 Y7 Z7 B8 K8 W8 X8 Y8 Z8 l9 n9 zf) w)):ks K (yE Y5 Z5 K6 W6 X6 Y6 Z6 u7 B7 K7 W7 X7 Y7 Z7 B8 K8 W8 X8 Y8 Z8 l9 n9 zf) w:=by
 delta ks;revert h;generalize (oK K)=qc0;exact mpF
attribute [irreducible] oK qE ks
theorem Hz (h:box Q 54 Y5 (fun j=>ld Q 54 j fun A1=>call Q 41 #[A1] fun A2=>un Q .not A2 K) w):Gives Q 40 #[Y5] w K:=by
 refine aB func40 (by kernel_rfl) ?_;exact mpK h
theorem qG (h:call Q 72 #[Y5,Z5] (fun A5=>bin Q .geq 3 false true A5 (ci 0) K) w):Gives Q 39 #[Y5,Z5] w K:=by
 refine aB func39 (by kernel_rfl) ?_;exact mpK h
def gU (s0 f1 s2 f3 i5 A5 A6:Value)(zf:Nat→Value):List Value:=s0::f1::s2::f3::zf 4::i5::zf 6::A5::A6::zT zf 9 10 ([])
def cz (K:KV):KE:=ae Q (cd f72 [1,1]) (rk f72 K) xf (rk f72 K)
def gQ (K:KV):KE:=ae Q (cd f72 [1,0,1,0]) (cz K) (xx xf (cz K) 0) (rk f72 K)
theorem rC (h:lN 36 Y5 (fun Y6=>gQ K (gU Y5 Z5 uu uu uu Y6 (ci 0) (zV (zV zu 4 [ci 0]) 6 [Y5]))) w):Gives Q 72 #[Y5,Z5] w K:=by
 refine aB func72 (by kernel_rfl) ?_;revert h;delta gQ cz;exact mpF
theorem qN (Inv:Value→World→Prop)(μ:Value→World→Nat)(I:Inv Z6 w)(J:∀(j:Value) (dd:Nat→Value) (w:World) (m:Nat),Inv j w→m=μ j w →
  lS j Y6 (fun A7 w=>cond A7 (aV Q 36 Y5 j (fun C2=>ld Q 54 C2 fun C3=>bY Q Z5 #[C3] fun C4 w=>cond C4 (K j w) (nC j (fun C6 w=>(Inv C6 w)∧((μ C6 w)<m)) w)) w) (cz K (gU Y5 Z5 K6 W6 (dd 5) Y6 j (zV dd 9 [A7])) w)) w):gQ K (gU Y5 Z5 K6 W6 X6 Y6 Z6 zf) w:=by
 refine aL (cd f72 (b1 52)) (zr [(4,2),(8,11)]) (by kernel_rfl) (vP [8] Inv) (vQ [8] μ) I ?_;intro e' w' hI;have h:=J _ (zM zf (fun i=>gd e' i) (zr [(4,2),(8,11)])) w' _ hI rfl;revert h;generalize (cz K)=qc0;exact mpF
theorem qO (h:K (ci (-1)) w):cz K (gU Y5 Z5 K6 W6 X6 Y6 Z6 zf) w:=by
 delta cz;exact mpK h
attribute [irreducible] cz gQ
theorem KY (h:box Q 35 Y5 (fun j w=>aG (fun S w=>hL S 35 j fun A1=>call Q 70 #[Value.func (Fn.func 71) #[] #[]] (fun A2=>aY S fun _=>call Q 69 #[A1,A2] fun A3=>aG fun _=>K A3) w) w.drew) w):Gives Q 38 #[Y5] w K:=by
 refine aB func38 (by kernel_rfl) ?_;exact mpK h
theorem Jm (h:K (cu 1099511627776) w):Gives Q 71 #[Y5] w K:=by
 refine aB func71 (by kernel_rfl) ?_;exact mpK h
theorem KP (h:bld Q 145 #[] (fun A0=>box Q 145 A0 K) w):Gives Q 23 #[] w K:=by
 refine aB func23 (by kernel_rfl) ?_;exact mpK h
theorem He (h:bin Q .geq 3 false true Y5 (ci 1) (fun A1 w=>aI A1 true (fun u=>bin Q .leq 3 false true Y5 (ci 6) (fun A3=>u [Y5,A3]) w) (fun k=>k [uu,uu] w) fun j=>pick A1 (gd j 1) cF K) w):Gives Q 76 #[Y5] w K:=by
 refine aB func76 (by kernel_rfl) ?_;exact mpK h
theorem Df (h:box Q 35 K6 (fun j=>bin Q .eql 86 false true Y5 (Value.pointer none) fun A4 w=>cond A4 (K (ci 2) w) (call Q 76 #[Z5] (fun A7=>un Q .not A7 fun A8 w=>cond A8 (K (ci 10) w) (aG (fun S w=>hld (fun _=>True) (bin Q .sub 3 false true Z5 (ci 1)) fun C1=>hld (fun _=>True) (bin Q .sub 3 false true Z5 (ci 1)) fun C4=>hN S Y5 fun C5=>hF S 145 C5 0 fun C6=>hI S 143 C6 C4 fun C7=>hL S 35 C7 fun C8=>hL S 35 j fun C9=>hN S Y5 fun D2=>hF S 145 D2 0 fun D3=>bT Q 211 2 #[(0,C8),(1,C9)] (fun D0=>aY S fun S=>call Q 77 #[D0] fun D1=>aY S fun S w=>hI S 143 D3 C1 fun D4=>sto Q 35 D4 D1 (fun _=>K (ci 0)) w) w) w.drew)) w)) w):Gives Q 42 #[Y5,Z5,K6] w K:=by
 refine aB func42 (by kernel_rfl) ?_;exact mpK h
theorem EH (h:alc Q 35 (fun A1=>bin Q .eql 86 false true Y5 (Value.pointer none) fun A2 w=>aI A2 false (fun u=>call Q 76 #[Z5] (fun A4=>un Q .not A4 fun A5=>u [Z5,A4,A5]) w) (fun k=>k [uu,uu,uu] w) fun j=>pick A2 cT (gd j 2) fun A6 w=>cond A6 (bld Q 35 #[] (fun A7=>sto Q 35 A1 A7 fun _=>bp Q [(some 35,A1)] K) w) (bin Q .sub 3 false true Z5 (ci 1) (fun C0=>aU Y5 fun C1=>aT Q 145 C1 0 fun C2=>aV Q 143 C2 C0 fun C3=>ld Q 35 C3 fun C4=>sto Q 35 A1 C4 fun _=>bp Q [(some 35,A1)] K) w)) w):Gives Q 65 #[Y5,Z5] w K:=by
 refine aB func65 (by kernel_rfl) ?_;exact mpK h
theorem Cl (h:bin Q .eql 86 false true Y5 (Value.pointer none) (fun A5 w=>cond A5 (K cN w) (call Q 65 #[Y5,Z5] (fun A9=>call Q 64 #[K6,A9,W6] K) w)) w):Gives Q 34 #[Y5,Z5,K6,W6] w K:=by
 refine aB func34 (by kernel_rfl) ?_;exact mpK h
theorem KS (h:bld Q 139 #[] (fun A0=>box Q 139 A0 K) w):Gives Q 21 #[] w K:=by
 refine aB func21 (by kernel_rfl) ?_;exact mpK h
def kC (l0 e1 l2 e3 k_5:Value)(zf:Nat→Value):List Value:=l0::e1::l2::e3::zf 4::k_5::zT zf 6 58 ([])
def oz (K:KV):KE:=ae Q (cd f58 [1,1,1]) (rk f58 K) xf (rk f58 K)
def oA (K:KV):KE:=ae Q (cd f58 (b1 63)) (rk f58 K) xf (rk f58 K)
theorem Gt {K:KV}{Y5 Z5:Value}{w:World}(h:box Q 54 Z5 (fun W6=>bin Q .eql 82 false true Y5 (Value.pointer none) fun A4 w=>cond A4 (K (ci 2) w) (ld Q 54 W6 (fun A6=>call Q 41 #[A6] fun A7=>un Q .not A7 fun A8 w=>cond A8 (K (ci 1) w) (aG (fun S w=>hN S Y5 fun C0=>hF S 139 C0 1 fun C1=>hL S 35 C1 fun C2=>hL S 54 W6 fun C3=>call Q 97 #[C2,C3] (fun C4=>aG fun _ w=>cond C4 (K (ci 14) w) (aG (fun S w=>hN S Y5 fun C7=>hF S 139 C7 1 fun C8=>hL S 35 C8 fun C9=>hL S 54 W6 fun D0=>call Q 98 #[C9,D0] (fun D1=>aG fun S w=>hld S (un Q .not D1) fun D2=>cond D2 (K (ci 13) w) (aT Q 54 W6 0 (fun D3=>ld Q 3 D3 fun D4=>bin Q .sub 3 false true D4 (ci 1) fun D5=>oz K (kC Y5 Z5 uu W6 D5 (zV (zV zu 4 [ci 0]) 6 [A4,Y5,A4,A8,A6,A7,A8,C4,Y5,C0,C1,C2,C3,C4,D2,Y5,C7,C8,C9,D0,D1,D2,D3,D4,D5]))) w)) w) w.drew)) w) w.drew)) w)) w):Gives Q 58 #[Y5,Z5] w K:=by
 refine aB func58 (by kernel_rfl) ?_
 refine Eq.mp (congrArg (fun c=>ae Q c _ _ _ _ w) (by kernel_rfl:(rep [1,1,1] (cd f58 [1,1,1]) (cd f58 []))=(cd f58 []))) ?_
 revert h
 delta oz
 generalize (cd f58 [1,1,1])=xc0
 exact mpF
theorem En (h:aG (fun S w=>hN S Y5 fun D8=>hF S 139 D8 0 fun D9=>hI S 137 D9 X6 fun E0=>hL S 136 E0 fun E1=>hL S 54 W6 fun E2=>hN S Y5 fun E4=>hF S 139 E4 2 fun E5=>hL S 31 E5 fun E6=>hld S (bld Q 200 #[(0,E2),(1,E6)]) fun E7=>hN S Y5 fun F0=>hF S 139 F0 0 fun F1=>bT Q 136 1 #[(0,E7)] (fun E8=>aY S fun S=>blt Q .append #[136,136] 136 #[false,false] #[E1,E8] fun E9=>aY S fun S w=>hI S 137 F1 X6 fun F2=>sto Q 136 F2 E9 (fun _ w=>sF 54 W6 1 (fun F5=>sL 31 F5 fun F6=>sN Y5 fun F7=>sF 139 F7 1 fun F8=>sI 35 F8 X6 fun F9=>sto Q 31 F9 F6 fun _=>oA K (kC Y5 Z5 K6 W6 X6 (zV zf 31 [Y5,X6,Y5,X6,D8,D9,E0,E1,E2,Y5,E4,E5,E6,E7,E8,E9,F0,F1,F2,Y5,X6,F5,F6,F7,F8,F9]))) w.drew) w) w) w.drew):oz K (kC Y5 Z5 K6 W6 X6 zf) w:=by
 delta oz
 refine Eq.mp (congrArg (fun c=>ae Q c _ _ _ _ w) (by kernel_rfl:(rep [1,1] (cd f58 (b1 63)) (cd f58 [1,1,1]))=(cd f58 [1,1,1]))) ?_
 revert h
 delta oA
 generalize (cd f58 (b1 63))=xc0
 exact mpF
theorem Eo (h:aU Y5 (fun G0=>aT Q 139 G0 2 fun G1=>ld Q 31 G1 fun G2=>bin Q .add 31 false true G2 (cu 1) fun G3=>aU Y5 fun G4=>aT Q 139 G4 2 fun G5=>sto Q 31 G5 G3 fun _=>K (ci 0)) w):oA K (kC Y5 Z5 K6 W6 X6 zf) w:=by
 delta oA;exact mpK h
attribute [irreducible] oz oA
theorem By (h:call Q 145 #[Y5,Z5,Value.func (Fn.func 146) #[] #[]] (fun A6=>ext Q A6 0 fun A7=>ext Q A6 1 fun _=>K A7) w):Gives Q 105 #[Y5,Z5] w K:=by
 refine aB func105 (by kernel_rfl) ?_;exact mpK h
theorem Gu (h:box Q 200 Y5 (fun j=>aT Q 200 j 0 fun A1=>aT Q 54 A1 1 fun A2=>ld Q 31 A2 fun A3=>bin Q .leq 31 false false A3 Z5 fun A5 w=>cond A5 (K (ci (-1)) w) (K (ci 1) w)) w):Gives Q 146 #[Y5,Z5] w K:=by
 refine aB func146 (by kernel_rfl) ?_;exact mpK h
def dL (x0 target1 cmp2 x3 n8 i9 j10 E3 E4 E5 E6 E7 E8 E9 F0:Value)(zf:Nat→Value):List Value:=x0::target1::cmp2::x3::zT zf 4 4 (n8::i9::j10::zT zf 11 29 (E3::E4::E5::E6::E7::E8::E9::F0::zf 48::[]))
def cn (K:KV):KE:=ae Q (cd f145 [1,1,1,1]) (rk f145 K) xf (rk f145 K)
def dI (K:KV):KE:=ae Q (cd f145 (b1 60)) (cn K) (xx xf (cn K) 0) (rk f145 K)
theorem iV (h:lN 136 Y5 (fun A9=>dI K (dL Y5 Z5 K6 uu A9 (ci 0) A9 uu uu uu uu uu uu uu uu (zV (zV zu 6 [ci 0,cF]) 12 [Y5,A9,A9]))) w):Gives Q 145 #[Y5,Z5,K6] w K:=by
 refine aB func145 (by kernel_rfl) ?_;revert h;delta dI cn;exact mpF
theorem iB (Inv:Value→Value→World→Prop)(μ:Value→Value→World→Nat)(J:Inv Y6 Z6 w)(M:∀(u j:Value) (dd:Nat→Value) (w:World) (m:Nat),Inv u j w→m=μ u j w →
  lS u j (fun C2 w=>cond C2 (bin Q .add 3 false false u j (fun C5=>conv Q 3 196 C5 fun C6=>bin Q .shr 196 false true C6 (cu 1) fun C7=>conv Q 196 3 C7 fun C8=>aV Q 136 Y5 C8 fun D2=>ld Q 200 D2 fun D3=>bY Q K6 #[D3,Z5] fun D5=>bin Q .lss 3 false true D5 (ci 0) fun D6 w=>cond D6 (nC C8 (fun D7 w=>(Inv D7 j w)∧((μ D7 j w)<m)) w) ((Inv u C8 w)∧((μ u C8 w)<m))) w) (cn K (dL Y5 Z5 K6 W6 X6 u j u7 B7 K7 W7 X7 Y7 Z7 B8 (zV dd 15 [u,j,C2])) w)) w):dI K (dL Y5 Z5 K6 W6 X6 Y6 Z6 u7 B7 K7 W7 X7 Y7 Z7 B8 zf) w:=by
 refine aL (cd f145 (b1 120)) (zr [(9,3),(15,20)]) (by kernel_rfl) (vP [9,10] Inv) (vQ [9,10] μ) J ?_;intro e' w' hI;have h:=M _ _ (zM zf (fun i=>gd e' i) (zr [(9,3),(15,20)])) w' _ hI rfl;revert h;generalize (cn K)=qc0;exact mpF
theorem iC (h:lS Y6 X6 (fun E1 w=>aI E1 true (fun u=>aV Q 136 Y5 Y6 (fun W7=>ld Q 200 W7 fun X7=>bY Q K6 #[X7,Z5] fun Z7=>bin Q .eql 3 false true Z7 (ci 0) fun B8=>u [K6,Y5,Y6,W7,X7,Z5,Z7,B8]) w) (fun k=>k [uu,uu,uu,uu,uu,uu,uu,uu] w) fun j=>pick E1 (gd j 7) cF fun F1=>K (Value.tuple #[Y6,F1])) w):cn K (dL Y5 Z5 K6 W6 X6 Y6 Z6 u7 B7 K7 W7 X7 Y7 Z7 B8 zf) w:=by
 delta cn;exact mpK h
attribute [irreducible] cn dI
def fA (l0 most2 v4 most5 out6 all7 k_8 C2 C3 E3 E4 E5:Value)(zf:Nat→Value):List Value:=l0::zf 1::most2::zf 3::v4::most5::out6::all7::k_8::zT zf 9 8 (C2::C3::zT zf 19 21 (E3::E4::E5::zT zf 43 10 ([])))
def iT (K:KV):KE:=ae Q (cd f64 [1,1,1,1]) (rk f64 K) xf (rk f64 K)
def pb (K:KV):KE:=ae Q (cd f64 (b1 122)) (iT K) (xx xf (iT K) 0) (rk f64 K)
def iU (K:KV):KE:=ae Q (cd f64 (b1 127)) (rk f64 K) xf (rk f64 K)
def pc (K:KV):KE:=ae Q (cd f64 (b1 506)) (iU K) (xx xf (iU K) 2) (rk f64 K)
theorem Ep (h:box Q 35 W6 (fun K6=>bin Q .eql 82 false true Y5 (Value.pointer none) fun A9 w=>cond A9 (K cN w) (aU Y5 (fun C0=>aT Q 139 C0 0 fun C1=>ld Q 137 C1 fun u7=>pb K (fA Y5 Z5 K6 uu cN cN uu u7 (ci 0) uu uu uu (zV (zV zu 1 [W6]) 12 [Y5,A9,Y5,C0,C1]))) w)) w):Gives Q 64 #[Y5,W6,Z5] w K:=by
 refine aB func64 (by kernel_rfl) ?_;revert h;delta pb iT;exact mpF
theorem CB (Inv:Value→Value→World→Prop)(μ:Value→Value→World→Nat)(J:Inv Y6 B7 w)(M:∀(j u:Value) (dd:Nat→Value) (w:World) (m:Nat),Inv j u w→m=μ j u w →
  bin Q .lss 3 false true u (ci 6) (fun C4 w=>cond C4 (idx Q 137 u7 u (fun C6=>aV Q 35 K6 u fun D1=>ld Q 31 D1 fun D2=>call Q 105 #[C6,D2] fun D3=>slc Q 136 C6 (some D3) none none fun D4=>blt Q .append #[136,136] 136 #[false,false] #[j,D4] fun D5=>nC u fun D6 w=>(Inv D5 D6 w)∧((μ D5 D6 w)<m)) w) (iT K (fA Y5 Z5 K6 W6 X6 j (dd 8) u7 u K7 W7 X7 (zV dd 19 [C4])) w)) w):pb K (fA Y5 Z5 K6 W6 X6 Y6 Z6 u7 B7 K7 W7 X7 zf) w:=by
 refine aL (cd f64 (b1 244)) (zr [(7,3),(18,14)]) (by kernel_rfl) (vP [7,18] Inv) (vQ [7,18] μ) J ?_;intro e' w' hI;have h:=M _ _ (zM zf (fun i=>gd e' i) (zr [(7,3),(18,14)])) w' _ hI rfl;revert h;generalize (iT K)=qc0;exact mpF
theorem CD (h:call Q 106 #[Y6,Value.func (Fn.func 107) #[] #[]] (fun D7=>lN 136 Y6 fun E0=>blt Q .min #[3,3] 3 #[false,false] #[Z5,E0] fun E1=>blt Q .max #[3,3] 3 #[false,true] #[E1,ci 0] fun E2=>slc Q 136 Y6 none (some E2) none fun K7=>lN 136 K7 fun W7=>pc K (fA Y5 Z5 K6 W6 X6 Y6 Z6 u7 B7 K7 W7 (ci 0) (zV zf 32 [Y6,D7,Y6,Z5,Y6,E0,E1,E2]))) w):iT K (fA Y5 Z5 K6 W6 X6 Y6 Z6 u7 B7 K7 W7 X7 zf) w:=by
 delta iT;revert h;delta pc iU;exact mpF
theorem CC (Inv:Value→Value→World→Prop)(μ:Value→Value→World→Nat)(M:Inv X6 X7 w)(O:∀(j u:Value) (dd:Nat→Value) (w:World) (m:Nat),Inv j u w→m=μ j u w →
  lS u W7 (fun E6 w=>cond E6 (aV Q 136 K7 u (fun E7=>ld Q 200 E7 fun E8=>alc Q 200 fun I=>sto Q 200 I E8 fun _=>aT Q 200 I 0 fun F0=>ld Q 54 F0 fun F1=>bT Q 36 1 #[(0,F1)] fun F2=>blt Q .append #[36,36] 36 #[false,false] #[j,F2] fun F3=>nC u fun F4 w=>(Inv F3 F4 w)∧((μ F3 F4 w)<m)) w) (iU K (fA Y5 Z5 K6 W6 j Y6 Z6 u7 B7 K7 W7 u (zV dd 43 [E6])) w)) w):pc K (fA Y5 Z5 K6 W6 X6 Y6 Z6 u7 B7 K7 W7 X7 zf) w:=by
 refine aL (cd f64 (b1 1012)) (zr [(6,1),(11,1),(42,10)]) (by kernel_rfl) (vP [6,42] Inv) (vQ [6,42] μ) M ?_;intro e' w' hI;have h:=O _ _ (zM zf (fun i=>gd e' i) (zr [(6,1),(11,1),(42,10)])) w' _ hI rfl;revert h;generalize (iU K)=qc0;exact mpF
theorem CE (h:K X6 w):iU K (fA Y5 Z5 K6 W6 X6 Y6 Z6 u7 B7 K7 W7 X7 zf) w:=by
 delta iU;exact mpK h
attribute [irreducible] iT pb iU pc
theorem wQ (h:box Q 200 Y5 (fun j=>box Q 200 Z5 fun u=>aT Q 200 j 1 fun A1=>ld Q 31 A1 fun A2=>aT Q 200 u 1 fun A3=>ld Q 31 A3 fun A4=>call Q 56 #[A2,A4] K) w):Gives Q 107 #[Y5,Z5] w K:=by
 refine aB func107 (by kernel_rfl) ?_;exact mpK h
end
end Go.Proofs.YtkbhfjljieopoaaGreatDoor
namespace Go.Proofs
open Go.Shelf
def Tryz.sortGr_ren :Go.Shelf.Ren:=⟨fun|6=>52|15=>91|14=>90|28=>132|29=>133|20=>124|21=>125|22=>126|23=>127|24=>128|25=>129|26=>130|27=>131|46=>160|47=>161|48=>162|49=>163|50=>164|57=>196|n=>n,fun|22=>43|24=>126|25=>156|3=>3|39=>196|0=>0|53=>230|55=>31|4=>4|46=>223|45=>222|50=>227|5=>5|9=>9|66=>258|70=>262|76=>284|77=>285|n=>n,fun|n=>n⟩
theorem Tryz.sortGr :Go.Proofs.SlLaysF0.n6 Tryz.prog Tryz.sortGr_ren:={
 mixed:=by kernel_rfl
 f6:=⟨Tryz.f52.name,by decide,func52.trans (congrArg some (by kernel_rfl))⟩
 f14:=⟨Tryz.f90.name,by decide,func90.trans (congrArg some (by kernel_rfl))⟩
 f15:=func91.trans (congrArg some (by kernel_rfl))
 f20:=⟨Tryz.f124.name,by decide,func124.trans (congrArg some (by kernel_rfl))⟩
 f21:=⟨Tryz.f125.name,by decide,func125.trans (congrArg some (by kernel_rfl))⟩
 f22:=⟨Tryz.f126.name,by decide,func126.trans (congrArg some (by kernel_rfl))⟩
 f23:=⟨Tryz.f127.name,by decide,func127.trans (congrArg some (by kernel_rfl))⟩
 f24:=⟨Tryz.f128.name,by decide,func128.trans (congrArg some (by kernel_rfl))⟩
 f25:=⟨Tryz.f129.name,by decide,func129.trans (congrArg some (by kernel_rfl))⟩
 f26:=⟨Tryz.f130.name,by decide,func130.trans (congrArg some (by kernel_rfl))⟩
 f27:=⟨Tryz.f131.name,by decide,func131.trans (congrArg some (by kernel_rfl))⟩
 f28:=func132.trans (congrArg some (by kernel_rfl))
 f29:=func133.trans (congrArg some (by kernel_rfl))
 f46:=⟨Tryz.f160.name,by decide,func160.trans (congrArg some (by kernel_rfl))⟩
 f47:=func161.trans (congrArg some (by kernel_rfl))
 f48:=func162.trans (congrArg some (by kernel_rfl))
 f49:=⟨Tryz.f163.name,by decide,func163.trans (congrArg some (by kernel_rfl))⟩
 f50:=⟨Tryz.f164.name,by decide,func164.trans (congrArg some (by kernel_rfl))⟩
 f57:=⟨Tryz.f196.name,by decide,func196.trans (congrArg some (by kernel_rfl))⟩
 t0:=underlying0
 a0:=Tryz.isAgg0
 z0:=Tryz.sizeOf0
 v0:=Tryz.zeroValue0
 t3:=underlying3
 a3:=Tryz.isAgg3
 z3:=Tryz.sizeOf3
 v3:=Tryz.zeroValue3
 t4:=underlying4
 a4:=Tryz.isAgg4
 z4:=Tryz.sizeOf4
 v4:=Tryz.zeroValue4
 t5:=underlying5
 a5:=Tryz.isAgg5
 z5:=Tryz.sizeOf5
 v5:=Tryz.zeroValue5
 t9:=underlying9
 a9:=Tryz.isAgg9
 z9:=Tryz.sizeOf9
 v9:=Tryz.zeroValue9
 t22:=underlying43
 a22:=Tryz.isAgg43
 z22:=Tryz.sizeOf43
 v22:=Tryz.zeroValue43
 t25:=underlying156
 a25:=Tryz.isAgg156
 z25:=Tryz.sizeOf156
 v25:=Tryz.zeroValue156
 t39:=underlying196
 a39:=Tryz.isAgg196
 z39:=Tryz.sizeOf196
 v39:=Tryz.zeroValue196
 t45:=underlying222
 a45:=Tryz.isAgg222
 z45:=Tryz.sizeOf222
 v45:=Tryz.zeroValue222
 t46:=underlying223
 a46:=Tryz.isAgg223
 z46:=Tryz.sizeOf223
 v46:=Tryz.zeroValue223
 t50:=underlying227
 a50:=Tryz.isAgg227
 z50:=Tryz.sizeOf227
 v50:=Tryz.zeroValue227
 t53:=underlying230
 a53:=Tryz.isAgg230
 z53:=Tryz.sizeOf230
 v53:=Tryz.zeroValue230
 t55:=underlying31
 a55:=Tryz.isAgg31
 z55:=Tryz.sizeOf31
 v55:=Tryz.zeroValue31
 t66:=underlying258
 a66:=Tryz.isAgg258
 z66:=Tryz.sizeOf258
 v66:=Tryz.zeroValue258
 t70:=underlying262
 a70:=Tryz.isAgg262
 z70:=Tryz.sizeOf262
 v70:=Tryz.zeroValue262
 t76:=underlying284
 a76:=Tryz.isAgg284
 z76:=Tryz.sizeOf284
 v76:=Tryz.zeroValue284
 t77:=underlying285
 a77:=Tryz.isAgg285
 z77:=Tryz.sizeOf285
 v77:=Tryz.zeroValue285}
end Go.Proofs
namespace Go.Proofs.YtkbhfjljieopoaaGreatDoor
variable {w w':World}{K:KV}{zf dd:Nat→Value}{b n c o k B i g p j m s z f D c2 hi:Nat}{x r:Int}{B1 B2:KE}{a:Option Addr}{cs ys:List Value}{E t e:TypeId}{xs v:List Int}{T:List (Int×Int)}{F:List Nat}{Y5 Z5 K6 W6 X6 Y6 Z6 u7 B7 K7 W7 X7 Y7 Z7 B8 K8 W8 X8 Y8 Z8 l9 n9 u9 B9 K9 W9 X9 Y9 Z9 ia ja ka qa ua xa ya Aa Ba Ca Da Ea Fa Ga Ha Ia Ja Ka La Ma Na Oa Pa Qa Ra Sa:Value}
set_option maxRecDepth 100000
open Go.Proofs.Tryz
section
open Go.RowKit
def vk (zero3 A0 A1 A2:Value)(zf:Nat→Value):List Value:=zT zf 0 3 (zero3::zf 4::zf 5::A0::A1::A2::zT zf 9 9 ([]))
def mO (K:KV):KE:=ae Q (cd f54 [1,1,1]) (rk f54 K) xf (rk f54 K)
def uF (K:KV):KE:=ae Q (cd f54 (b1 58)) (mO K) (xx xf (mO K) 0) (rk f54 K)
theorem KM (h:lN 96 Y5 (fun K6=>uF K (vk (ci 0) Y5 K6 (ci 0) (zV (zV zu 0 [Y5]) 2 [ci 0]))) w):Gives Q 54 #[Y5] w K:=by
 refine aB func54 (by kernel_rfl) ?_;revert h;delta uF mO;exact mpF
theorem Iq (Inv:Value→World→Prop)(μ:Value→World→Nat)(I:Inv W6 w)(J:∀(j:Value) (dd:Nat→Value) (w:World) (m:Nat),Inv j w→m=μ j w →
  lS j K6 (fun A3 w=>cond A3 (aV Q 96 Z5 j (fun A4=>ld Q 3 A4 fun A5=>bin Q .neq 3 false false A5 Y5 fun A6 w=>cond A6 (K A5 w) (nC j (fun A7 w=>(Inv A7 w)∧((μ A7 w)<m)) w)) w) (mO K (vk Y5 Z5 K6 j (zV dd 9 [A3])) w)) w):uF K (vk Y5 Z5 K6 W6 zf) w:=by
 refine aL (cd f54 (b1 116)) (zr [(2,1),(5,1),(8,9)]) (by kernel_rfl) (vP [8] Inv) (vQ [8] μ) I ?_;intro e' w' hI;have h:=J _ (zM zf (fun i=>gd e' i) (zr [(2,1),(5,1),(8,9)])) w' _ hI rfl;revert h;generalize (mO K)=qc0;exact mpF
theorem Ir (h:K Y5 w):mO K (vk Y5 Z5 K6 W6 zf) w:=by
 delta mO;exact mpK h
attribute [irreducible] mO uF
theorem Ey (h:call Q 92 #[Y5] (fun A2=>call Q 92 #[Z5] fun A4 w=>cond A2 (cond A4 (K (ci 0) w) (K (ci (-1)) w)) (cond A4 (K (ci 1) w) (lS Y5 Z5 (fun A7 w=>cond A7 (K (ci (-1)) w) (bin Q .gtr 3 false false Y5 Z5 (fun A8 w=>cond A8 (K (ci 1) w) (K (ci 0) w)) w)) w))) w):Gives Q 55 #[Y5,Z5] w K:=by
 refine aB func55 (by kernel_rfl) ?_;exact mpK h
theorem Ci (h:call Q 93 #[Y5] (fun A2=>call Q 93 #[Z5] fun A4 w=>cond A2 (cond A4 (K (ci 0) w) (K (ci (-1)) w)) (cond A4 (K (ci 1) w) (bin Q .lss 31 false false Y5 Z5 (fun A7 w=>cond A7 (K (ci (-1)) w) (bin Q .gtr 31 false false Y5 Z5 (fun A8 w=>cond A8 (K (ci 1) w) (K (ci 0) w)) w)) w))) w):Gives Q 56 #[Y5,Z5] w K:=by
 refine aB func56 (by kernel_rfl) ?_;exact mpK h
theorem GM (h:bin Q .neq 3 false false Y5 Y5 K w):Gives Q 92 #[Y5] w K:=by
 refine aB func92 (by kernel_rfl) ?_;exact mpK h
end
section
attribute [local irreducible] bin un conv call bY blt slc aT fld aV idx lkp dO gY eSt rng nxt ent ext alc box bld bT ld sto aU dE mkS ifc pick rdy wts aI sti cond bp Gives ae fh fT cOp
open Go.RowKit
def tT (x y:Int):Int:=if x<y then -1 else if y<x then 1 else 0
def Jr (x y:GR):Int:=if tT x.o y.o≠0 then tT x.o y.o else tT x.q y.q
theorem FN {x y:GR}:Go.Proofs.ltOf Jr x y=decide (ltG x y):=by
 rw[Bool.eq_iff_iff,decide_eq_true_eq];unfold Go.Proofs.ltOf Jr tT ltG;rw[decide_eq_true_eq];split<;>split<;>(try split)<;>omega
theorem WD :Go.Sort.SWO (Go.Proofs.ltOf Jr) where
 irrefl x:=by rw[FN];unfold ltG;simp
 trans x y z h k:=by rw[FN,decide_eq_true_eq]at *; unfold ltG at *; omega
 ntrans x y z h k:=by rw[FN,decide_eq_false_iff_not]at *; unfold ltG at *; omega
section
variable {w:World}{K:KV}
theorem SE (h:K (.bool false) w):call Tryz.prog 92 #[.int .i64 x] K w:=by
 refine aj (goK func92) (GM ?_);refine bN ?_;rw[decide_eq_false (by simp)];exact h
theorem SF (h:K (.bool false) w):call Tryz.prog 93 #[.int .u64 x] K w:=by
 refine aj (goK func93) (wn ?_);refine bN ?_;rw[decide_eq_false (by simp)];exact h
theorem VM {y:Int}(h:K (.int .i64 (tT x y)) w):call Tryz.prog 55 #[.int .i64 x,.int .i64 y] K w:=by
 refine aj (goK func55) (Ey (SE (SE (aO (aO ?_)))));refine aM ?_;by_cases j:x<y
 ·rw[show tT x y = -1 from if_pos j]at h;exact ax j h
 ·refine aq j (de ?_);by_cases u:y<x
  ·rw[show tT x y=1 from(if_neg j).trans (if_pos u)]at h;exact ax u h
  ·rw[show tT x y=0 from(if_neg j).trans (if_neg u)]at h;exact aq u h
theorem VN {y:Int}(h:K (.int .i64 (tT x y)) w):call Tryz.prog 56 #[.int .u64 x,.int .u64 y] K w:=by
 refine aj (goK func56) (Ci (SF (SF (aO (aO ?_)))));refine aM ?_;by_cases j:x<y
 ·rw[show tT x y = -1 from if_pos j]at h;exact ax j h
 ·refine aq j (de ?_);by_cases u:y<x
  ·rw[show tT x y=1 from(if_neg j).trans (if_pos u)]at h;exact ax u h
  ·rw[show tT x y=0 from(if_neg j).trans (if_neg u)]at h;exact aq u h
theorem UH {y:Int}(C:blk w g 3 [iv x,iv y])(h:K (.int .i64 (if x≠0 then x else y)) w):call Tryz.prog 54 #[.slice (some ⟨g,0,none⟩) 2 2] K w:=by
 refine aj (goK func54) (KM ?_);refine bj underlying96 <|Iq (Inv:=fun i wr=>wr=w∧(i=.int .i64 0∨i=.int .i64 1∧x=0∨i=.int .i64 2∧x=0∧y=0)) (μ:=fun i _=>2-(intOf i).toNat) ⟨rfl,.inl rfl⟩ ?_;rintro _ dd M m ⟨rfl,rfl|⟨rfl,u⟩|⟨rfl,u,J⟩⟩ I
 ·refine aM (ax (by decide) ?_);refine dJ underlying96 (s:=1) (fun _=>by kernel_rfl) (by omega) (by omega) ?_;refine lK (v:=iv x) C rfl (bN ?_);by_cases j:x≠0
  ·rw[if_pos j]at h;exact ax j h
  ·refine aq j (aW (by omega) (by omega) ⟨⟨rfl,.inr (.inl ⟨rfl,by simpa using j⟩)⟩,by rw[I];decide⟩)
 ·refine aM (ax (by decide) ?_);refine dJ underlying96 (s:=1) (fun _=>by kernel_rfl) (by omega) (by omega) ?_;refine lK (v:=iv y) C rfl (bN ?_);rw[if_neg (by simp[u])]at h;by_cases j:y≠0
  ·exact ax j h
  ·refine aq j (aW (by omega) (by omega) ⟨⟨rfl,.inr (.inr ⟨rfl,u,by simpa using j⟩)⟩,by rw[I];decide⟩)
 ·refine aM (aq (by decide) ?_);refine Ir ?_;rw[if_neg (by simp[u]),J]at h;exact h
theorem Pi {P:Program}{v:Value}(h:K (.pointer (some ⟨w.heap.size,0,none⟩)) (w.alloc (.cells v.cells t))):box P t v K w:=by
 unfold box;exact gZ (by simp[Instr.box,newVar,newRow]) h
theorem SW {y:Int}(h:K (.slice (some ⟨w.heap.size,0,none⟩) 2 2) (w.alloc (.cells #[iv x,iv y] 3))):bT Tryz.prog 96 2 #[(0,iv x),(1,iv y)] K w:=by
 unfold bT;obtain⟨i,hi,u,j⟩:∃i,Tryz.prog.info? 3=some i∧i.zero=some (.int .i64 0)∧i.size=1:=⟨_,rfl,by kernel_rfl,by kernel_rfl⟩
 refine gZ (run_buildSlice w _ _ 2 _ #[iv x,iv y] i _ underlying96 hi u (by rw[j];decide) (by rw[j];decide) ?_) h;rw[j];refine(Go.Great.fill_whole (s:=1) (by omega) [iv x,iv y] _ (by simp[iv,Value.cells]) (by simp)).trans ?_;simp[iv,Value.cells]
theorem VL (x y:GR)(W:World):Calls Tryz.prog 53 (#[.agg (grC x).toArray,.agg (grC y).toArray]++#[]) W fun e w' => e=.returned (.int .i64 (Jr x y))∧∃q os',w'=Go.Sort.grow (W.drewN q) os':=by
 have C:Gives Tryz.prog 53 #[.agg (grC x).toArray,.agg (grC y).toArray] W fun v w' => v=.int .i64 (Jr x y)∧∃q os',w'=Go.Sort.grow (W.drewN q) os':=by
  refine Ae ?_;refine Pi (Pi ?_);generalize J:W.alloc (.cells (Value.agg (grC x).toArray).cells 126)=w1;have a1:blk w1 W.heap.size 126 (grC x):=by
   rw[←J];unfold Go.Proofs.YtkbhfjljieopoaaGreatDoor.blk;rw[heap_alloc_new];rfl
  generalize I:w1.alloc (.cells (Value.agg (grC y).toArray).cells 126)=w2;have b2:blk w2.drew w1.heap.size 126 (grC y):=by
   rw[←I];unfold Go.Proofs.YtkbhfjljieopoaaGreatDoor.blk;show (w1.alloc _).heap[_]? = _;rw[heap_alloc_new];rfl
  have b1:blk w2.drew W.heap.size 126 (grC x):=by
   rw[←I];exact(ac (dW (World.grownBy_alloc _ _ none) (Nat.le_refl _) (fun k O=>by cases O)) a1 a1.lt).drew
  refine aw (fun u=>blk u W.heap.size 126 (grC x)∧blk u w1.heap.size 126 (grC y)) ⟨b1,b2⟩ ?_;refine ab (fun u j _=>wA) (ab (fun u j _=>lK (v:=iv x.o) j.1 rfl) ?_);refine ab (fun u j _=>wA) (ab (fun u j _=>lK (v:=iv y.o) j.2 rfl) ?_);refine ab (fun u j _=>CX) (ab (fun u j _=>lK (v:=u6 x.q) j.1 rfl) ?_);refine ab (fun u j _=>CX) (ab (fun u j _=>lK (v:=u6 y.q) j.2 rfl) ?_)
  refine VM (bR ⟨b1,b2⟩ (VN (aw (fun _=>True) trivial (SW ?_))));refine aw (fun _=>True) trivial (UH (x:=tT x.o y.o) (y:=tT x.q y.q) ?_ (aw (fun _=>True) trivial ⟨rfl,1,#[.cells (Value.agg (grC x).toArray).cells 126,.cells (Value.agg (grC y).toArray).cells 126,.cells #[iv (tT x.o y.o),iv (tT x.q y.q)] 3],?_⟩))
  ·unfold Go.Proofs.YtkbhfjljieopoaaGreatDoor.blk;rw[heap_alloc_new]
  ·rw[←I, ←J];unfold Go.Sort.grow World.drewN World.drew World.alloc;simp only[Array.push_eq_append,Array.append_assoc,List.append_toArray,List.cons_append,List.nil_append]
 rw[show (#[.agg (grC x).toArray,.agg (grC y).toArray]++#[]:Array Value)=#[.agg (grC x).toArray,.agg (grC y).toArray]from rfl];unfold Gives at C;exact Calls.mono C fun _ _ ⟨v,M,U,hw⟩=>⟨by rw[M,U],hw⟩
instance:Inhabited GR:=⟨⟨0,0,0,0,0⟩⟩
open Go.Sort in
theorem Lo {G:List GR}(u:G.length=n)(M:n*5≤cs.length):putCells id 0 (flatK grC 5 G.toArray) cs.toArray=(G.flatMap grC++cs.drop (n*5)).toArray:=by
 have hF:(flatK grC 5 G.toArray).size=n*5:=by rw[size_flatK];simp[u]
 have h:(G.flatMap grC).length=n*5:=by rw[Dd iI,u]
 apply Array.ext_getElem?;intro k;unfold putCells;rw[Array.getElem?_mapIdx,hF,List.getElem?_toArray,List.getElem?_toArray];by_cases I:k<n*5
 ·have j:k<cs.length:=by omega
  have hi:k / 5<G.length:=by omega
  rw[List.getElem?_eq_getElem j,Option.map_some,if_pos ⟨Nat.zero_le _,by omega⟩,List.getElem?_append_left (by omega),Nat.sub_zero,get_flatK _ _ _ _ (by simp[u];exact I)];have J:G[k / 5]? = some G[k / 5]:=List.getElem?_eq_getElem hi
  have:=FP iI G (k / 5) _ (k%5) J (Nat.mod_lt _ (by omega))
  rw[show k / 5*5+k%5=k by omega]at this;rw[this];have C:k%5<(grC G[k / 5]).length:=Nat.mod_lt _ (by decide);rw[List.getElem?_eq_getElem C];simp[hi,C]
 ·rw[List.getElem?_append_right (by omega),h,List.getElem?_drop,show n*5+(k-n*5)=k by omega];cases O:cs[k]? with
  | none=>rfl
  | some v=>rw[Option.map_some,if_neg (by omega)]
open Go.Sort in
theorem MT {G G':List GR}{os:Array Obj}(h:Opn w B 126 5 n c g cs (G.flatMap grC))(I:G'.length=n):Opn (sortWorldK grC 5 w g 0 m G'.toArray os) B 126 5 n c g (G'.flatMap grC++cs.drop (n*5)) (G'.flatMap grC)∧w.grownBy (sortWorldK grC 5 w g 0 m G'.toArray os) (some g):=by
 have M:n*5≤cs.length:=by rw[h.len];exact Nat.mul_le_mul_right _ h.nc
 have u:(G'.flatMap grC).length=n*5:=by rw[Dd iI,I]
 have O:=h.blk.lt;have J:(sortWorldK grC 5 w g 0 m G'.toArray os).heap[g]? = some (.cells (G'.flatMap grC++cs.drop (n*5)).toArray 126):=by
  show (w.heap.modify g (onCells (putCells id 0 (flatK grC 5 G'.toArray)))++os)[g]? = _;have j:=h.blk;unfold Go.Proofs.YtkbhfjljieopoaaGreatDoor.blk at j;rw[Array.getElem?_append_left (by simpa using O),Array.getElem?_modify,if_pos rfl,j,Option.map_some];unfold onCells;simp only;rw[Lo I M]
 refine⟨⟨J,h.lo,h.nc,h.cm,?_,?_,?_⟩,⟨rfl,rfl,rfl,?_,fun k U C=>?_⟩⟩
 ·rw[List.length_append,u,List.length_drop,h.len]
  have:=h.len
  omega
 ·rw[List.take_append_of_le_length (by omega),List.take_of_length_le (by omega)]
 ·exact u
 ·show w.heap.size≤(w.heap.modify g _++os).size;simp
 ·show (w.heap.modify g _++os)[k]? = _;rw[Array.getElem?_append_left (by simpa using U),Array.getElem?_modify,if_neg (fun e=>C (by rw[e]))]
open Go.Sort in
theorem Ug {G:List GR}(hr:w.ownsRow B 126 5 (.slice a n c) n (G.flatMap grC))(hl:G.length=n)(hn:n<4611686018427387904)(h:∀(w':World) (G':List GR),G'.Perm G→G'.Pairwise (fun x y=>¬ltG y x)→w'.ownsRow B 126 5 (.slice a n c) n (G'.flatMap grC)→w.grownBy w' (Value.slice a n c).ownBlock→K (.tuple #[]) w'):call Tryz.prog 52 #[.slice a n c,.func (.func 53) #[] #[]] K w:=by
 have U:EO Tryz.prog 52:=⟨_,func52,by kernel_rfl,by kernel_rfl⟩
 refine aj U ?_;unfold Gives;by_cases h0:n=0
 ·subst h0;have hG:G=[]:=List.eq_nil_of_length_eq_zero hl;subst hG;have I:=AnyF.slices_SortFunc_none Tryz.sortGr a c (.func (.func 53) #[] #[]) w;change Calls Tryz.prog 52 _ _ _ at I;refine Calls.mono I fun e w' O=>?_;obtain⟨rfl,rfl⟩:=O;exact⟨_,rfl,h _ [] (List.Perm.refl _) List.Pairwise.nil hr ⟨rfl,rfl,rfl,Nat.le_refl _,fun _ _ _=>rfl⟩⟩
 ·obtain⟨g,ad,rfl,M⟩:=cq hr (by omega);subst hl;have hH:HoldsK grC 5 w g 0 G.toArray:=by
   intro j C;rw[size_flatK]at C;have C:j<G.length*5:=by simpa using C
   have hi:j / 5<G.length:=by omega
   have hx:G[j / 5]? = some G[j / 5]:=List.getElem?_eq_getElem hi;have h5:j%5<(grC G[j / 5]).length:=Nat.mod_lt _ (by decide);refine⟨?_,?_⟩
   ·rw[M.blk.cell,Nat.zero_add,get_flatK _ _ _ _ (by simpa using C)]
    have:=M.cell iI rfl hx (Nat.mod_lt j (show 0<5 by omega))
    rw[show j / 5*5+j%5=j by omega]at this;rw[this,List.getElem?_eq_getElem h5];simp[hi,h5]
   ·have J:=M.blk;unfold Go.Proofs.YtkbhfjljieopoaaGreatDoor.blk at J;unfold World.frozen?;rw[J];rfl
  have I:=AnyQ.slices_SortFunc Tryz.sortGr 5 (by intro W;kernel_rfl) (by intro W;kernel_rfl) grC iI rJ Jr WD 53 #[] g 0 c G.toArray w
   (enters_of func53 (by kernel_rfl) rfl) (fun m os dk _ x y=>VL x y _) hH M.blk.lt (by simpa using hn)
  change Calls Tryz.prog 52 _ _ _ at I;rw[List.size_toArray]at I;refine Calls.mono I fun e w' O=>?_;obtain⟨rfl,d',m,os,hp,hs,rfl⟩:=O;have hd:d'.toList.toArray=d':=rfl;have u:d'.toList.length=G.length:=by
   have:=hp.1
   simpa using this
  rw[←hd];obtain⟨o2,g2⟩:=MT (m:=m) (os:=os) M (G':=d'.toList) u;refine⟨_,rfl,h _ d'.toList ?_ ?_ o2.own g2⟩
  ·have h2:=hp.2.2;have e1:d'.extract 0 G.length=d':=by rw[←u];simp
   have e2:G.toArray.extract 0 G.length=G.toArray:=by simp
   rw[e1,e2]at h2;exact h2
  ·rw[List.pairwise_iff_getElem];intro i j hi C aa
   have:=hs i j (Nat.zero_le _) aa (by rw[←u];exact C)
   rw[FN,decide_eq_false_iff_not]at this;have ei:d'[i]! = d'.toList[i]:=by simp[show i<d'.size by simpa using hi]
   have ej:d'[j]! = d'.toList[j]:=by simp[show j<d'.size by simpa using C]
   rw[ei,ej]at this;exact this
end
end
end Go.Proofs.YtkbhfjljieopoaaGreatDoor
