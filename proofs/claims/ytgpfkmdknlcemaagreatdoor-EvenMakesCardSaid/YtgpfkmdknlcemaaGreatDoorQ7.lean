import Derived.Test.YtgpfkmdknlcemaaGreatDoorQ3
import Derived.Test.YtgpfkmdknlcemaaGreatDoorQ1
import Derived.Test.YtgpfkmdknlcemaaGreatDoorChecked
import Derived.Test.YtgpfkmdknlcemaaGreatDoorQ5
import Derived.Test.YtgpfkmdknlcemaaGreatDoorQ6
namespace Go.Proofs.YtgpfkmdknlcemaaGreatDoor
set_option maxRecDepth 100000
set_option maxHeartbeats 4000000
open Tryz
section
open Go.RowKit
def uM (n0 n1 l4 k_5 C9 D0:Value)(zf:Nat→Value):List Value:=n0::n1::zf 2::zf 3::l4::k_5::zT zf 6 13 (C9::D0::zT zf 21 9 ([]))
def mB (K:KV):KE:=ae Q (cd f9 [1,1,1,1]) (rk f9 K) xf (rk f9 K)
def tC (K:KV):KE:=ae Q (cd f9 [1,1,1,0,1,0]) (mB K) (xx xf (mB K) 0) (rk f9 K)
section
variable {K:KV}{n0 n1 l4 k_5 C9 D0:Value}{zf:Nat→Value}{w:World}
theorem Jy {K:KV}{n0:Value}{w:World}(h:bin Q .lss 3 false true n0 (ci 1) (fun A7 w=>aJ A7 false (fun j=>bin Q .gtr 3 false true n0 (ci 6) (fun C0=>j [n0,C0]) w) (fun k=>k [uu,uu] w) fun d=>pick A7 cT (gd d 1) fun C1 w=>cond C1 (K (Value.tuple #[Value.pointer none,ci 1]) w) (call Q 23 #[] (fun C2=>eS Q 86 none fun C3=>eS Q 87 none fun C4=>eS Q 88 none fun C5=>eS Q 89 none fun C6=>bld Q 92 #[(3,C2),(4,C3),(5,C4),(7,C5),(8,C6)] fun C7=>box Q 92 C7 fun C8=>tC K (uM n0 uu C8 uu n0 (ci 0) (zV (zV zu 2 [Value.pointer none,ci 0]) 6 [n0,A7,A7,gd d 0,gd d 1,C1,C2,C3,C4,C5,C6,C7,C8]))) w)) w):Gives Q 9 #[n0] w K:=by
 refine aH func9 (by kernel_rfl) ?_;revert h;delta tC mB;exact mpF
theorem Hi (Inv:Value→World→Prop)(μ:Value→World→Nat)(h0:Inv D0 w)(C:∀(d:Value) (u:Nat→Value) (w:World) (m:Nat),Inv d w→m=μ d w →
  lS d C9 (fun D1 w=>cond D1 (bo l4 (fun D5=>ai Q 92 D5 0 fun D6=>aU Q 23 D6 d fun D7=>sto Q 4 D7 cT fun _=>nC d fun D8 w=>(Inv D8 w)∧((μ D8 w)<m)) w) (mB K (uM n0 n1 l4 (u 5) C9 d (zV u 21 [D1])) w)) w):tC K (uM n0 n1 l4 k_5 C9 D0 zf) w:=by
 refine aQ (cd f9 [1,1,1,0,1,0,0]) (zr [(5,1),(20,9)]) (by kernel_rfl) (fun e2 j=>Inv (gd e2 20) j) (fun e2 j=>μ (gd e2 20) j) h0 ?_;intro e' w' hI;have h:=C (gd e' 20) (zM zf (fun i=>gd e' i) (zr [(5,1),(20,9)])) w' _ hI rfl;revert h;generalize (mB K)=qc0;exact mpF
theorem Hj (h:K (Value.tuple #[l4,ci 0]) w):mB K (uM n0 n1 l4 k_5 C9 D0 zf) w:=by
 delta mB;exact mpK h
end
attribute [irreducible] mB tC
def ny (K:KV)(D:Nat):KE:=ae Q (cd f162 [1,1,1,1]) (uo Q Tryz.f162.results.toList K D) xf (uo Q Tryz.f162.results.toList K D)
def dn (K:KV)(D:Nat):KE:=ae Q (cd f162 [1,1,1,1,1]) (uo Q Tryz.f162.results.toList K D) xf (uo Q Tryz.f162.results.toList K D)
def mc (K:KV)(D:Nat):KE:=ae Q (cd f162 [1,1,1,1,0,1,0]) (dn K D) (xx xf (dn K D) 2) (uo Q Tryz.f162.results.toList K D)
def fF (K:KV)(D:Nat)(B1:KE):KE:=ae Q (cd f162 [1,1,1,1,0,1,0,0,1,1,1]) B1 (xx xf (dn K D) 2) (uo Q Tryz.f162.results.toList K D)
def jQ (K:KV)(D:Nat)(B1:KE):KE:=ae Q (cd f162 [1,1,1,1,0,1,0,0,1,1,0]) (fF K D B1) (xx xf (dn K D) 2) (uo Q Tryz.f162.results.toList K D)
section
variable {l0 id1 aI l3 id4 mQ A6 A7 ol A9 n10 C1 n12 C3 C4 C5 C6 C7 C8 C9 D0 D1 D2 D3 D4 D5 D6 D7 D8 D9 E0 E1 E2 E3 E4 E5 E6 E7 E8 E9 F0 F1 F2 F3 F4 F5 F6 F7 F8 F9 G0 G1 G2 G3 G4:Value}
theorem zF {K:KV}{D:Nat}{w:World}(h:ld Q 48 l3 (fun E3=>bo E3 fun E4=>ai Q 92 E4 3 fun E5=>ld Q 84 E5 fun E6=>call Q 25 #[E6] fun E7=>lN 76 E7 fun E8=>mc K D (l0::id1::aI::l3::id4::mQ::A6::A7::ol::A9::n10::C1::n12::C3::C4::C5::C6::C7::C8::C9::D0::D1::D2::D3::D4::D5::D6::D7::D8::D9::E0::E1::E2::E3::E4::E5::E6::E7::E8::(ci 0)::F0::F1::F2::F3::F4::F5::F6::F7::F8::F9::G0::G1::G2::G3::G4::[])) w):ny K D (l0::id1::aI::l3::id4::mQ::A6::A7::ol::A9::n10::C1::n12::C3::C4::C5::C6::C7::C8::C9::D0::D1::D2::D3::D4::D5::D6::D7::D8::D9::E0::E1::E2::E3::E4::E5::E6::E7::E8::E9::F0::F1::F2::F3::F4::F5::F6::F7::F8::F9::G0::G1::G2::G3::G4::[]) w:=by
 delta ny;revert h;delta mc dn;exact mpF
theorem wN {K:KV}{D:Nat}{w:World}(Inv:Value→World→Prop)(μ:Value→World→Nat)(h0:Inv E9 w)(hs:∀(E9':Value) (dd:Nat→Value) (w:World) (m:Nat),Inv E9' w→m=μ E9' w →
  lS E9' E8 (fun F0 w=>cond F0 (jQ K D (fun e2 w2=>(Inv (gd e2 39) w2)∧((μ (gd e2 39) w2)<m)) (l0::id1::aI::l3::id4::mQ::A6::A7::ol::A9::n10::C1::(dd 12)::C3::C4::C5::C6::C7::C8::C9::D0::D1::D2::D3::D4::D5::D6::D7::D8::D9::E0::E1::E2::E3::E4::E5::E6::E7::E8::E9'::F0::(dd 41)::(dd 42)::(dd 43)::(dd 44)::(dd 45)::(dd 46)::(dd 47)::(dd 48)::(dd 49)::(dd 50)::G1::G2::G3::G4::[]) w) (dn K D (l0::id1::aI::l3::id4::mQ::A6::A7::ol::A9::n10::C1::(dd 12)::C3::C4::C5::C6::C7::C8::C9::D0::D1::D2::D3::D4::D5::D6::D7::D8::D9::E0::E1::E2::E3::E4::E5::E6::E7::E8::E9'::F0::(dd 41)::(dd 42)::(dd 43)::(dd 44)::(dd 45)::(dd 46)::(dd 47)::(dd 48)::(dd 49)::(dd 50)::G1::G2::G3::G4::[]) w)) w):mc K D (l0::id1::aI::l3::id4::mQ::A6::A7::ol::A9::n10::C1::n12::C3::C4::C5::C6::C7::C8::C9::D0::D1::D2::D3::D4::D5::D6::D7::D8::D9::E0::E1::E2::E3::E4::E5::E6::E7::E8::E9::F0::F1::F2::F3::F4::F5::F6::F7::F8::F9::G0::G1::G2::G3::G4::[]) w:=by
 refine aQ (cd f162 [1,1,1,1,0,1,0,0]) (zr [(12,1),(39,12)]) (by kernel_rfl) (fun e2 w2=>Inv (gd e2 39) w2) (fun e2 w2=>μ (gd e2 39) w2) h0 ?_
 intro e' w' hI
 have h:=hs (gd e' 39) (fun i=>gd e' i) w' _ hI rfl
 refine Eq.mp (congrArg (fun c=>ae Q c _ _ _ _ w') (by kernel_rfl:(rep [1,1,0] (cd f162 [1,1,1,1,0,1,0,0,1,1,0]) (cd f162 [1,1,1,1,0,1,0,0]))=(cd f162 [1,1,1,1,0,1,0,0]))) ?_
 revert h
 delta jQ fF
 generalize (cd f162 [1,1,1,1,0,1,0,0,1,1,0])=xc0
 generalize (dn K D)=qc0
 exact mpF
theorem wO {K:KV}{D:Nat}{B1:KE}{w:World}(h:aU Q 76 E7 E9 (fun F1=>ld Q 24 F1 fun F2=>call Q 179 #[ol,F2] fun F5=>un Q .not F5 fun F6 w=>cond F6 (ld Q 84 A7 (fun F7=>call Q 164 #[F7,F2,cu 0] fun F9=>fF K D B1 (l0::id1::aI::l3::id4::mQ::A6::A7::ol::A9::n10::C1::F2::C3::C4::C5::C6::C7::C8::C9::D0::D1::D2::D3::D4::D5::D6::D7::D8::D9::E0::E1::E2::E3::E4::E5::E6::E7::E8::E9::F0::F1::F2::ol::F2::F5::F6::F7::F2::F9::G0::G1::G2::G3::G4::[])) w) (fF K D B1 (l0::id1::aI::l3::id4::mQ::A6::A7::ol::A9::n10::C1::F2::C3::C4::C5::C6::C7::C8::C9::D0::D1::D2::D3::D4::D5::D6::D7::D8::D9::E0::E1::E2::E3::E4::E5::E6::E7::E8::E9::F0::F1::F2::ol::F2::F5::F6::F7::F8::F9::G0::G1::G2::G3::G4::[]) w)) w):jQ K D B1 (l0::id1::aI::l3::id4::mQ::A6::A7::ol::A9::n10::C1::n12::C3::C4::C5::C6::C7::C8::C9::D0::D1::D2::D3::D4::D5::D6::D7::D8::D9::E0::E1::E2::E3::E4::E5::E6::E7::E8::E9::F0::F1::F2::F3::F4::F5::F6::F7::F8::F9::G0::G1::G2::G3::G4::[]) w:=by
 delta jQ;revert h;generalize (fF K D B1)=qc0;generalize (dn K D)=qc1;exact mpF
theorem wP {K:KV}{D:Nat}{w:World}(h:ld Q 84 A7 (fun G1=>call Q 164 #[G1,id1,aI] fun G4 w=>(dM D w)∧(K G4 (w.putObj D (Obj.deferred none)))) w):dn K D (l0::id1::aI::l3::id4::mQ::A6::A7::ol::A9::n10::C1::n12::C3::C4::C5::C6::C7::C8::C9::D0::D1::D2::D3::D4::D5::D6::D7::D8::D9::E0::E1::E2::E3::E4::E5::E6::E7::E8::E9::F0::F1::F2::F3::F4::F5::F6::F7::F8::F9::G0::G1::G2::G3::G4::[]) w:=by
 delta dn;exact mpK h
theorem qy {K:KV}{D:Nat}{B1:KE}{w:World}(h:nC E9 (fun G0=>B1 (l0::id1::aI::l3::id4::mQ::A6::A7::ol::A9::n10::C1::n12::C3::C4::C5::C6::C7::C8::C9::D0::D1::D2::D3::D4::D5::D6::D7::D8::D9::E0::E1::E2::E3::E4::E5::E6::E7::E8::G0::F0::F1::F2::F3::F4::F5::F6::F7::F8::F9::G0::G1::G2::G3::G4::[])) w):fF K D B1 (l0::id1::aI::l3::id4::mQ::A6::A7::ol::A9::n10::C1::n12::C3::C4::C5::C6::C7::C8::C9::D0::D1::D2::D3::D4::D5::D6::D7::D8::D9::E0::E1::E2::E3::E4::E5::E6::E7::E8::E9::F0::F1::F2::F3::F4::F5::F6::F7::F8::F9::G0::G1::G2::G3::G4::[]) w:=by
 delta fF;revert h;generalize (dn K D)=qc0;exact mpF
attribute [irreducible] dn mc fF jQ
noncomputable def kL :Func:={Tryz.f162 with body:=some (Um (cd f162 [1,1,1,0,1,0]))}
def tX (NB:KE)(XB:Nat→KE)(RB:KE):KE:=ae Q (cd kL []) NB XB RB
theorem zG {NB RB:KE}{XB:Nat→KE}{w:World}(h:NB (l0::id1::aI::l3::id4::mQ::A6::A7::ol::A9::D3::C1::n12::C3::C4::C5::C6::C7::C8::C9::D0::D1::D2::D3::D4::D5::D6::D7::D8::D9::E0::E1::E2::E3::E4::E5::E6::E7::E8::E9::F0::F1::F2::F3::F4::F5::F6::F7::F8::F9::G0::G1::G2::G3::G4::[]) w):tX NB XB RB (l0::id1::aI::l3::id4::mQ::A6::A7::ol::A9::n10::C1::n12::C3::C4::C5::C6::C7::C8::C9::D0::D1::D2::D3::D4::D5::D6::D7::D8::D9::E0::E1::E2::E3::E4::E5::E6::E7::E8::E9::F0::F1::F2::F3::F4::F5::F6::F7::F8::F9::G0::G1::G2::G3::G4::[]) w:=by
 delta tX;exact mpK h
noncomputable def kM :Func:={Tryz.f162 with body:=some (Ul (cd f162 [1,1,1,0,1,0]))}
def tY (NB:KE)(XB:Nat→KE)(RB:KE):KE:=ae Q (cd kM []) NB XB RB
theorem zH {NB RB:KE}{XB:Nat→KE}{w:World}(h:aK (fun S w=>hL S 84 A7 fun D4=>hL S 48 l3 fun D6=>hN S D6 fun D7=>hF S 92 D7 4 fun D8=>hL S 86 D8 fun D9=>hld S (lkp Q 86 D9 n10 false) fun E1=>call Q 164 #[D4,n10,E1] (fun E2=>NB (l0::id1::aI::l3::id4::mQ::A6::A7::ol::A9::n10::C1::n12::C3::C4::C5::C6::C7::C8::C9::D0::D1::D2::D3::D4::n10::D6::D7::D8::D9::n10::E1::E2::E3::E4::E5::E6::E7::E8::E9::F0::F1::F2::F3::F4::F5::F6::F7::F8::F9::G0::G1::G2::G3::G4::[])) w) w.drew):tY NB XB RB (l0::id1::aI::l3::id4::mQ::A6::A7::ol::A9::n10::C1::n12::C3::C4::C5::C6::C7::C8::C9::D0::D1::D2::D3::D4::D5::D6::D7::D8::D9::E0::E1::E2::E3::E4::E5::E6::E7::E8::E9::F0::F1::F2::F3::F4::F5::F6::F7::F8::F9::G0::G1::G2::G3::G4::[]) w:=by
 delta tY;exact mpK h
end
theorem AU {K:KV}{l0 id1 aI:Value}{w:World}(h:box Q 48 l0 (fun l3=>call Q 23 #[] fun C3=>alc Q 84 fun A7=>sto Q 84 A7 C3 fun _=>ld Q 48 l3 fun C4=>bo C4 fun C5=>ai Q 92 C5 3 fun C6=>ld Q 84 C6 fun C7=>call Q 177 #[C7,aI] fun C9=>call Q 178 #[C9] fun D1=>rfS Q (cd f162 [1,1,1,0,1,0]) (ny K) (fun i D e w=>(i=0)∧(ny K D e w)) (uo Q Tryz.f162.results.toList K) (l0::id1::aI::l3::uu::uu::(ci 0)::A7::C9::uu::uu::uu::uu::C3::C4::C5::C6::C7::aI::C9::C9::D1::uu::uu::uu::uu::uu::uu::uu::uu::uu::uu::uu::uu::uu::uu::uu::uu::uu::uu::uu::uu::uu::uu::uu::uu::uu::uu::uu::uu::uu::uu::uu::uu::uu::[])) w):Gives Q 162 #[l0,id1,aI] w K:=OD func162 (by kernel_rfl) (Eq.mp (by kernel_rfl) h)
theorem Am {K:KV}{l0 e1:Value}{w:World}(h:box Q 48 l0 (fun l2=>box Q 54 e1 fun e3 w=>aK (fun S w=>hF S 54 e3 0 fun A9=>hL S 3 A9 fun C0=>hF S 54 e3 1 fun C1=>hL S 24 C1 fun C2=>hF S 54 e3 0 fun C4=>hL S 3 C4 fun C5=>hld (fun _=>True) (bin Q .sub 3 false true C5 (ci 1)) fun C6=>(call Q 161 #[C0,C2] (fun C3=>bF S fun S w=>(alc Q 24 (fun d=>bF S fun S=>alc Q 3 fun k_7=>bF S fun S=>sto Q 24 d C3 fun _=>bF S fun _=>sto Q 3 k_7 C6 fun _ w=>sL 48 l2 (fun C7=>sL 3 k_7 fun C8=>sN C7 fun C9=>sF 92 C9 6 fun D0=>sI 90 D0 C8 fun D1=>sL 3 D1 fun D2=>sti (bin Q .geq 3 false true D2 (ci 5)) fun D3 w=>aJ D3 false (fun u=>sF 54 e3 6 (fun D5=>sL 2 D5 fun D6=>sti (bin Q .gtr 2 false true D6 (ci 140737488355328)) fun D7=>u [D5,D6,D7]) w) (fun k=>k [uu,uu,uu] w) fun j=>sti (pick D3 cT (gd j 2)) fun D8 w=>cond D8 (K (Value.tuple #[Value.nilFunc,ci 6]) w) (ld Q 48 l2 (fun D9=>ld Q 24 d fun E0=>ai Q 54 e3 4 fun E1=>ld Q 24 E1 fun E2=>call Q 162 #[D9,E0,E2] fun E3=>bin Q .neq 49 false true E3 (ci 0) fun E5 w=>cond E5 (K (Value.tuple #[Value.nilFunc,E3]) w) (K (Value.tuple #[Value.func (Fn.func 163) #[] #[l2,d,e3,k_7],ci 0]) w)) w)) w.drew) w)∧(alc Q 3 (fun k_7=>bF S fun S=>alc Q 24 fun d=>bF S fun S=>sto Q 24 d C3 fun _=>bF S fun _=>sto Q 3 k_7 C6 fun _ w=>sL 48 l2 (fun C7=>sL 3 k_7 fun C8=>sN C7 fun C9=>sF 92 C9 6 fun D0=>sI 90 D0 C8 fun D1=>sL 3 D1 fun D2=>sti (bin Q .geq 3 false true D2 (ci 5)) fun D3 w=>aJ D3 false (fun u=>sF 54 e3 6 (fun D5=>sL 2 D5 fun D6=>sti (bin Q .gtr 2 false true D6 (ci 140737488355328)) fun D7=>u [D5,D6,D7]) w) (fun k=>k [uu,uu,uu] w) fun j=>sti (pick D3 cT (gd j 2)) fun D8 w=>cond D8 (K (Value.tuple #[Value.nilFunc,ci 6]) w) (ld Q 48 l2 (fun D9=>ld Q 24 d fun E0=>ai Q 54 e3 4 fun E1=>ld Q 24 E1 fun E2=>call Q 162 #[D9,E0,E2] fun E3=>bin Q .neq 49 false true E3 (ci 0) fun E5 w=>cond E5 (K (Value.tuple #[Value.nilFunc,E3]) w) (K (Value.tuple #[Value.func (Fn.func 163) #[] #[l2,d,e3,k_7],ci 0]) w)) w)) w.drew) w)) w)∧((alc Q 24 (fun d=>bF S fun S w=>(call Q 161 #[C0,C2] (fun C3=>bF S fun S=>alc Q 3 fun k_7=>bF S fun S=>sto Q 24 d C3 fun _=>bF S fun _=>sto Q 3 k_7 C6 fun _ w=>sL 48 l2 (fun C7=>sL 3 k_7 fun C8=>sN C7 fun C9=>sF 92 C9 6 fun D0=>sI 90 D0 C8 fun D1=>sL 3 D1 fun D2=>sti (bin Q .geq 3 false true D2 (ci 5)) fun D3 w=>aJ D3 false (fun u=>sF 54 e3 6 (fun D5=>sL 2 D5 fun D6=>sti (bin Q .gtr 2 false true D6 (ci 140737488355328)) fun D7=>u [D5,D6,D7]) w) (fun k=>k [uu,uu,uu] w) fun j=>sti (pick D3 cT (gd j 2)) fun D8 w=>cond D8 (K (Value.tuple #[Value.nilFunc,ci 6]) w) (ld Q 48 l2 (fun D9=>ld Q 24 d fun E0=>ai Q 54 e3 4 fun E1=>ld Q 24 E1 fun E2=>call Q 162 #[D9,E0,E2] fun E3=>bin Q .neq 49 false true E3 (ci 0) fun E5 w=>cond E5 (K (Value.tuple #[Value.nilFunc,E3]) w) (K (Value.tuple #[Value.func (Fn.func 163) #[] #[l2,d,e3,k_7],ci 0]) w)) w)) w.drew) w)∧(alc Q 3 (fun k_7=>bF S fun S=>call Q 161 #[C0,C2] fun C3=>bF S fun S=>sto Q 24 d C3 fun _=>bF S fun _=>sto Q 3 k_7 C6 fun _ w=>sL 48 l2 (fun C7=>sL 3 k_7 fun C8=>sN C7 fun C9=>sF 92 C9 6 fun D0=>sI 90 D0 C8 fun D1=>sL 3 D1 fun D2=>sti (bin Q .geq 3 false true D2 (ci 5)) fun D3 w=>aJ D3 false (fun u=>sF 54 e3 6 (fun D5=>sL 2 D5 fun D6=>sti (bin Q .gtr 2 false true D6 (ci 140737488355328)) fun D7=>u [D5,D6,D7]) w) (fun k=>k [uu,uu,uu] w) fun j=>sti (pick D3 cT (gd j 2)) fun D8 w=>cond D8 (K (Value.tuple #[Value.nilFunc,ci 6]) w) (ld Q 48 l2 (fun D9=>ld Q 24 d fun E0=>ai Q 54 e3 4 fun E1=>ld Q 24 E1 fun E2=>call Q 162 #[D9,E0,E2] fun E3=>bin Q .neq 49 false true E3 (ci 0) fun E5 w=>cond E5 (K (Value.tuple #[Value.nilFunc,E3]) w) (K (Value.tuple #[Value.func (Fn.func 163) #[] #[l2,d,e3,k_7],ci 0]) w)) w)) w.drew) w)) w)∧(alc Q 3 (fun k_7=>bF S fun S w=>(call Q 161 #[C0,C2] (fun C3=>bF S fun S=>alc Q 24 fun d=>bF S fun S=>sto Q 24 d C3 fun _=>bF S fun _=>sto Q 3 k_7 C6 fun _ w=>sL 48 l2 (fun C7=>sL 3 k_7 fun C8=>sN C7 fun C9=>sF 92 C9 6 fun D0=>sI 90 D0 C8 fun D1=>sL 3 D1 fun D2=>sti (bin Q .geq 3 false true D2 (ci 5)) fun D3 w=>aJ D3 false (fun u=>sF 54 e3 6 (fun D5=>sL 2 D5 fun D6=>sti (bin Q .gtr 2 false true D6 (ci 140737488355328)) fun D7=>u [D5,D6,D7]) w) (fun k=>k [uu,uu,uu] w) fun j=>sti (pick D3 cT (gd j 2)) fun D8 w=>cond D8 (K (Value.tuple #[Value.nilFunc,ci 6]) w) (ld Q 48 l2 (fun D9=>ld Q 24 d fun E0=>ai Q 54 e3 4 fun E1=>ld Q 24 E1 fun E2=>call Q 162 #[D9,E0,E2] fun E3=>bin Q .neq 49 false true E3 (ci 0) fun E5 w=>cond E5 (K (Value.tuple #[Value.nilFunc,E3]) w) (K (Value.tuple #[Value.func (Fn.func 163) #[] #[l2,d,e3,k_7],ci 0]) w)) w)) w.drew) w)∧(alc Q 24 (fun d=>bF S fun S=>call Q 161 #[C0,C2] fun C3=>bF S fun S=>sto Q 24 d C3 fun _=>bF S fun _=>sto Q 3 k_7 C6 fun _ w=>sL 48 l2 (fun C7=>sL 3 k_7 fun C8=>sN C7 fun C9=>sF 92 C9 6 fun D0=>sI 90 D0 C8 fun D1=>sL 3 D1 fun D2=>sti (bin Q .geq 3 false true D2 (ci 5)) fun D3 w=>aJ D3 false (fun u=>sF 54 e3 6 (fun D5=>sL 2 D5 fun D6=>sti (bin Q .gtr 2 false true D6 (ci 140737488355328)) fun D7=>u [D5,D6,D7]) w) (fun k=>k [uu,uu,uu] w) fun j=>sti (pick D3 cT (gd j 2)) fun D8 w=>cond D8 (K (Value.tuple #[Value.nilFunc,ci 6]) w) (ld Q 48 l2 (fun D9=>ld Q 24 d fun E0=>ai Q 54 e3 4 fun E1=>ld Q 24 E1 fun E2=>call Q 162 #[D9,E0,E2] fun E3=>bin Q .neq 49 false true E3 (ci 0) fun E5 w=>cond E5 (K (Value.tuple #[Value.nilFunc,E3]) w) (K (Value.tuple #[Value.func (Fn.func 163) #[] #[l2,d,e3,k_7],ci 0]) w)) w)) w.drew) w)) w))) w.drew) w):Gives Q 154 #[l0,e1] w K:=by
 refine aH func154 (by kernel_rfl) ?_;exact mpK h
def se (A0 A1 A2 A3 r4:Value)(zf:Nat→Value):List Value:=A0::A1::A2::A3::r4::zT zf 5 37 ([])
def jR (K:KV):KE:=ae Q (cd f163 [1,1,1]) (rk f163 K) xf (rk f163 K)
section
variable {K:KV}{A0 A1 A2 A3 r4:Value}{zf:Nat→Value}{w:World}
theorem yu {K:KV}{A0 A1 A2 A3:Value}{w:World}(h:aK (fun S w=>hL S 48 A0 fun A5=>hN S A5 fun A6=>hF S 92 A6 3 fun A7=>hL S 84 A7 fun A8=>hL S 24 A1 fun A9=>hF S 54 A2 4 fun C0=>hL S 24 C0 fun C1=>call Q 164 #[A8,A9,C1] (fun C2 w=>aK (fun S w=>hL S 48 A0 fun C3=>hN S C3 fun C4=>hF S 92 C4 4 fun C5=>hL S 86 C5 fun C6=>hL S 24 A1 fun C7=>hF S 54 A2 4 fun C8=>hL S 24 C8 fun C9=>eX Q 86 C6 C7 C9 (fun _ w=>sL 48 A0 (fun D0=>sL 3 A3 fun D1=>sN D0 fun D2=>sF 92 D2 6 fun D3=>sI 90 D3 D1 fun D4=>sL 3 D4 fun D5=>sti (bin Q .add 3 false true D5 (ci 1)) fun D6=>sN D0 fun D7=>sF 92 D7 6 fun D8=>sI 90 D8 D1 fun D9=>sto Q 3 D9 D6 fun _=>jR K (se A0 A1 A2 A3 uu (zV zu 5 [A5,A6,A7,A8,A9,C0,C1,C2,C3,C4,C5,C6,C7,C8,C9,D0,D1,D2,D3,D4,D5,D6,D7,D8,D9]))) w.drew) w) w.drew) w) w.drew):Gives Q 163 #[A0,A1,A2,A3] w K:=by
 refine aH func163 (by kernel_rfl) ?_
 refine Eq.mp (congrArg (fun c=>ae Q c _ _ _ _ w) (by kernel_rfl:(rep [1,1,1] (cd f163 [1,1,1]) (cd f163 []))=(cd f163 []))) ?_
 revert h
 delta jR
 generalize (cd f163 [1,1,1])=xc0
 exact mpF
theorem wQ (h:bld Q 36 #[] (fun E0=>alc Q 36 fun r4=>sto Q 36 r4 E0 fun _=>ld Q 3 A3 fun E1=>ai Q 54 A2 6 fun E2=>ld Q 2 E2 fun E3=>ai Q 36 r4 0 fun E4=>aU Q 33 E4 E1 fun E5=>sto Q 2 E5 E3 fun _ w=>aK (fun S w=>hL S 48 A0 fun E6=>hN S E6 fun E7=>hF S 92 E7 5 fun E8=>hL S 87 E8 fun E9=>hL S 24 A1 fun F0=>hL S 36 r4 fun F1=>eX Q 87 E9 F0 F1 (fun _=>K (Value.tuple #[])) w) w.drew) w):jR K (se A0 A1 A2 A3 r4 zf) w:=by
 delta jR;exact mpK h
end
attribute [irreducible] jR
def mW (l0 e1 l2 e3 r6:Value)(zf:Nat→Value):List Value:=l0::e1::l2::e3::zf 4::zf 5::r6::zT zf 7 32 ([])
def gT (K:KV):KE:=ae Q (cd f155 [1,1,1,1]) (rk f155 K) xf (rk f155 K)
def kt (K:KV):KE:=ae Q (cd f155 [1,1,1,0,1]) (gT K) xf (rk f155 K)
section
variable {K:KV}{l0 e1 l2 e3 r6:Value}{zf:Nat→Value}{w:World}
theorem zI {K:KV}{l0 e1:Value}{w:World}(h:box Q 48 l0 (fun l2=>box Q 54 e1 fun e3 w=>aK (fun S w=>hL S 48 l2 fun A9=>hN S A9 fun C0=>hF S 92 C0 5 fun C1=>hL S 87 C1 fun C2=>hF S 54 e3 4 fun C3=>hL S 24 C3 fun C4=>hld S (lkp Q 87 C2 C4 true) fun C5=>hld S (ext Q C5 0) fun C6=>hld S (ext Q C5 1) fun C7=>alc Q 36 (fun r6=>bF S fun S=>sto Q 36 r6 C6 fun _=>bF S fun _=>un Q .not C7 fun C9 w=>cond C9 (K (Value.tuple #[Value.nilFunc,ci 9]) w) (sF 54 e3 0 (fun D0=>sL 3 D0 fun D1=>sti (bin Q .sub 3 false true D1 (ci 1)) fun D2=>sF 36 r6 0 fun D3=>sI 33 D3 D2 fun D4=>sL 2 D4 fun D5=>sF 54 e3 6 fun D6=>sL 2 D6 fun D7=>sti (bin Q .add 2 false false D5 D7) fun D8=>sF 36 r6 0 fun D9=>sI 33 D9 D2 fun E0=>sto Q 2 E0 D8 fun _=>kt K (mW l0 e1 l2 e3 r6 (zV (zV zu 4 [Value.nilFunc,ci 0]) 7 [C7,C5,A9,C0,C1,C2,C3,C4,C5,C6,C7,C7,C9,D0,D1,D2,D3,D4,D5,D6,D7,D8,D9,E0]))) w.drew)) w) w.drew) w):Gives Q 155 #[l0,e1] w K:=by
 refine aH func155 (by kernel_rfl) ?_
 refine Eq.mp (congrArg (fun c=>ae Q c _ _ _ _ w) (by kernel_rfl:(rep [1,1,1,0,1] (cd f155 [1,1,1,0,1]) (cd f155 []))=(cd f155 []))) ?_
 revert h
 delta kt gT
 generalize (cd f155 [1,1,1,0,1])=xc0
 exact mpF
theorem xz (h:ai Q 54 e3 0 (fun E1=>ld Q 3 E1 fun E2=>bin Q .sub 3 false true E2 (ci 1) fun E3=>ai Q 36 r6 0 fun E4=>aU Q 33 E4 E3 fun E5=>ld Q 2 E5 fun E6=>bin Q .gtr 2 false true E6 (ci 140737488355328) fun E7 w=>cond E7 (K (Value.tuple #[Value.nilFunc,ci 6]) w) (gT K (mW l0 e1 l2 e3 r6 (zV zf 31 [E1,E2,E3,E4,E5,E6,E7])) w)) w):kt K (mW l0 e1 l2 e3 r6 zf) w:=by
 delta kt;revert h;generalize (gT K)=qc0;exact mpF
theorem xA (h:K (Value.tuple #[Value.func (Fn.func 165) #[] #[r6,l2,e3],ci 0]) w):gT K (mW l0 e1 l2 e3 r6 zf) w:=by
 delta gT;exact mpK h
end
attribute [irreducible] gT kt
theorem xB {K:KV}{A0 A1 A2:Value}{w:World}(h:aK (fun S w=>hL S 48 A1 fun A3=>hN S A3 fun A4=>hF S 92 A4 5 fun A5=>hL S 87 A5 fun A6=>hF S 54 A2 4 fun A7=>hL S 24 A7 fun A8=>hL S 36 A0 fun A9=>eX Q 87 A6 A8 A9 (fun _=>K (Value.tuple #[])) w) w.drew):Gives Q 165 #[A0,A1,A2] w K:=by
 refine aH func165 (by kernel_rfl) ?_;exact mpK h
def nD (l0 xL l3 uV tj C9 D0 D1:Value)(zf:Nat→Value):List Value:=l0::zf 1::xL::l3::uV::zT zf 5 3 (tj::zT zf 9 10 (C9::D0::D1::zT zf 22 22 ([])))
def g9 (K:KV):KE:=ae Q (cd f166 [1,1,1]) (rk f166 K) xf (rk f166 K)
def kN (K:KV):KE:=ae Q (cd f166 [1,1,0,1,0]) (g9 K) (xx xf (g9 K) 0) (rk f166 K)
section
variable {K:KV}{l0 xL l3 uV tj C9 D0 D1:Value}{zf:Nat→Value}{w:World}
theorem An {K:KV}{l0 d xL:Value}{w:World}(h:box Q 48 l0 (fun l3=>eS Q 87 none fun C3=>alc Q 87 fun tj=>sto Q 87 tj C3 fun _=>ld Q 48 l3 fun C4=>bo C4 fun C5=>ai Q 92 C5 3 fun C6=>ld Q 84 C6 fun C7=>call Q 177 #[C7,d] fun C9=>lN 76 C9 fun D0=>kN K (nD l0 xL l3 uu tj C9 D0 (ci 0) (zV (zV (zV zu 1 [d]) 6 [Value.nilFunc,ci 0]) 13 [C3,C4,C5,C6,C7,d]))) w):Gives Q 166 #[l0,d,xL] w K:=by
 refine aH func166 (by kernel_rfl) ?_;revert h;delta kN g9;exact mpF
theorem yv (Inv:Value→World→Prop)(μ:Value→World→Nat)(h0:Inv D1 w)(C:∀(d:Value) (I:Nat→Value) (w:World) (m:Nat),Inv d w→m=μ d w →
  lS d D0 (fun D2 w=>cond D2 (aU Q 76 C9 d (fun D3=>ld Q 24 D3 fun D4=>ld Q 48 l3 fun D7=>bo D7 fun D8=>ai Q 92 D8 5 fun D9=>ld Q 87 D9 fun E0=>lkp Q 87 E0 D4 false fun E2=>dC Q xL #[E2] fun E3=>ext Q E3 0 fun E4=>ext Q E3 1 fun E5=>alc Q 36 fun j=>sto Q 36 j E4 fun _=>bin Q .neq 49 false true E5 (ci 0) fun E7 w=>cond E7 (K (Value.tuple #[Value.nilFunc,E5]) w) (ld Q 87 tj (fun E9=>ld Q 36 j fun F1=>eX Q 87 E9 D4 F1 fun _=>nC d fun F2 w=>(Inv F2 w)∧((μ F2 w)<m)) w)) w) (g9 K (nD l0 xL l3 uV tj C9 D0 d (zV I 22 [D2])) w)) w):kN K (nD l0 xL l3 uV tj C9 D0 D1 zf) w:=by
 refine aQ (cd f166 [1,1,0,1,0,0]) (zr [(6,2),(10,3),(21,22)]) (by kernel_rfl) (fun e2 u=>Inv (gd e2 21) u) (fun e2 u=>μ (gd e2 21) u) h0 ?_;intro e' w' hI;have h:=C (gd e' 21) (zM zf (fun i=>gd e' i) (zr [(6,2),(10,3),(21,22)])) w' _ hI rfl;revert h;generalize (g9 K)=qc0;exact mpF
theorem yw (h:K (Value.tuple #[Value.func (Fn.func 180) #[] #[tj,l3],ci 0]) w):g9 K (nD l0 xL l3 uV tj C9 D0 D1 zf) w:=by
 delta g9;exact mpK h
end
attribute [irreducible] g9 kN
def sf (A1 A5:Value)(zf:Nat→Value):List Value:=zf 0::A1::zT zf 2 3 (A5::zT zf 6 11 ([]))
def me (K:KV):KE:=ae Q (cd f180 [1,0]) (rk f180 K) (xx xf (rk f180 K) 0) (rk f180 K)
section
variable {K:KV}{A1 A5:Value}{zf:Nat→Value}{w:World}
theorem yx {K:KV}{A0 A1:Value}{w:World}(h:ld Q 87 A0 (fun A4=>rng Q 87 A4 fun A5=>me K (sf A1 A5 (zV (zV zu 0 [A0]) 4 [A4]))) w):Gives Q 180 #[A0,A1] w K:=by
 refine aH func180 (by kernel_rfl) ?_;revert h;delta me;exact mpF
theorem wR (Inv:World→Prop)(μ:World→Nat)(h0:Inv w)(u:∀(C:Nat→Value) (w:World) (m:Nat),Inv w→m=μ w →
  nxt Q A5 false 0 (fun A6=>ext Q A6 0 fun A7 w=>cond A7 (ent Q A5 (fun A8=>ext Q A8 0 fun A9=>ext Q A8 1 fun C0=>alc Q 36 fun j=>sto Q 36 j C0 fun _ w=>aK (fun S w=>hL S 48 A1 fun C1=>hN S C1 fun C2=>hF S 92 C2 5 fun C3=>hL S 87 C3 fun C4=>hL S 36 j fun C6=>eX Q 87 C4 A9 C6 (fun _ w=>(Inv w)∧((μ w)<m)) w) w.drew) w) (K (Value.tuple #[]) w)) w):me K (sf A1 A5 zf) w:=by
 refine aQ (cd f180 [1,0,0]) (zr [(2,2),(6,11)]) (by kernel_rfl) (fun e2 d=>Inv d) (fun e2 d=>μ d) h0 ?_;intro e' w' hI;have h:=u (zM zf (fun i=>gd e' i) (zr [(2,2),(6,11)])) w' _ hI rfl;exact mpK h
end
attribute [irreducible] me
def tZ (l0 e1 l2 e3 q6 do7 f8:Value)(zf:Nat→Value):List Value:=l0::e1::l2::e3::zf 4::zf 5::q6::do7::f8::zT zf 9 31 ([])
def kO (K:KV):KE:=ae Q (cd f156 [1,1,1,1,1]) (rk f156 K) xf (rk f156 K)
section
variable {K:KV}{l0 e1 l2 e3 q6 do7 f8:Value}{zf:Nat→Value}{w:World}
theorem Ao {K:KV}{l0 e1:Value}{w:World}(h:box Q 48 l0 (fun l2=>box Q 54 e1 fun e3=>ai Q 54 e3 0 fun A9=>ld Q 3 A9 fun C0=>ai Q 54 e3 7 fun C1=>ld Q 24 C1 fun C2=>bld Q 98 #[(0,C0),(1,C2)] fun C3=>alc Q 98 fun q6=>sto Q 98 q6 C3 fun _ w=>sL 48 l2 (fun C4=>sN C4 fun C5=>sF 92 C5 8 fun C6=>sL 89 C6 fun C7=>sL 98 q6 fun C8=>sti (lkp Q 89 C7 C8 false) fun C9 w=>cond C9 (K (Value.tuple #[Value.nilFunc,ci 14]) w) (aK (fun S w=>hL S 48 l2 fun D0=>hN S D0 fun D1=>hF S 92 D1 3 fun D2=>hL S 84 D2 fun D3=>hF S 54 e3 4 fun D4=>hL S 24 D4 fun D5=>call Q 152 #[D3,D5] (fun D6=>aK fun S w=>hld S (un Q .not D6) fun D7=>cond D7 (K (Value.tuple #[Value.nilFunc,ci 9]) w) (ld Q 48 l2 (fun D9=>ai Q 54 e3 4 fun E0=>ld Q 24 E0 fun E1=>call Q 166 #[D9,E1,Value.func (Fn.func 167) #[] #[e3]] fun E3=>ext Q E3 0 fun E4=>ext Q E3 1 fun E5=>alc Q 93 fun do7=>sto Q 93 do7 E4 fun _=>kO K (tZ l0 e1 l2 e3 q6 do7 E5 (zV (zV zu 4 [Value.nilFunc,ci 0]) 9 [A9,C0,C1,C2,C3,C4,C5,C6,C7,C8,C9,D0,D1,D2,D3,D4,D5,D6,D7,E3,D9,E0,E1,Value.func (Fn.func 167) #[] #[e3],E3,E4,E5]))) w)) w) w.drew)) w.drew) w):Gives Q 156 #[l0,e1] w K:=by
 refine aH func156 (by kernel_rfl) ?_
 refine Eq.mp (congrArg (fun c=>ae Q c _ _ _ _ w) (by kernel_rfl:(rep [1,1,1,1,1] (cd f156 [1,1,1,1,1]) (cd f156 []))=(cd f156 []))) ?_
 revert h
 delta kO
 generalize (cd f156 [1,1,1,1,1])=xc0
 exact mpF
theorem rB (h:bin Q .neq 49 false true f8 (ci 0) (fun E7 w=>cond E7 (K (Value.tuple #[Value.nilFunc,f8]) w) (K (Value.tuple #[Value.func (Fn.func 169) #[] #[do7,l2,q6,e3],ci 0]) w)) w):kO K (tZ l0 e1 l2 e3 q6 do7 f8 zf) w:=by
 delta kO;exact mpK h
end
attribute [irreducible] kO
theorem yy {K:KV}{r0 A1:Value}{w:World}(h:box Q 36 r0 (fun r2=>alc Q 36 fun A3=>ld Q 36 r2 fun A5=>ai Q 54 A1 0 fun A6=>ld Q 3 A6 fun A7=>ai Q 54 A1 6 fun A8=>ld Q 2 A8 fun A9=>call Q 168 #[A5,A7,A9] fun C0=>ext Q C0 0 fun C1=>ext Q C0 1 fun C2=>sto Q 36 A3 C1 fun _=>bM Q [(some 36,A3),(none,C2)] K) w):Gives Q 167 #[r0,A1] w K:=by
 refine aH func167 (by kernel_rfl) ?_;exact mpK h
theorem yz {K:KV}{A0 A1 A2 A3:Value}{w:World}(h:ld Q 93 A0 (fun A4=>dC Q A4 #[] fun _ w=>aK (fun S w=>hL S 48 A1 fun A6=>hN S A6 fun A7=>hF S 92 A7 8 fun A8=>hL S 89 A8 fun A9=>hL S 98 A2 fun C0=>eX Q 89 A9 C0 cT (fun _ w=>aK (fun S w=>hL S 48 A1 fun C1=>hN S C1 fun C2=>hF S 92 C2 7 fun C3=>hL S 88 C3 fun C4=>hL S 98 A2 fun C5=>hF S 54 A3 0 fun C6=>hL S 3 C6 fun C7=>hF S 54 A3 7 fun C8=>hL S 24 C8 fun C9=>hF S 54 A3 4 fun D0=>hL S 24 D0 fun D1=>hF S 54 A3 6 fun D2=>hL S 2 D2 fun D3=>hld S (bld Q 100 #[(0,C7),(1,C9),(2,D1),(3,D3)]) fun D4=>eX Q 88 C4 C5 D4 (fun _=>K (Value.tuple #[])) w) w.drew) w) w.drew) w):Gives Q 169 #[A0,A1,A2,A3] w K:=by
 refine aH func169 (by kernel_rfl) ?_;exact mpK h
def pK (l0 e1 l2 e3 q6 of7 g8 is9 f11 F0 F1 F2:Value)(zf:Nat→Value):List Value:=l0::e1::l2::e3::zf 4::zf 5::q6::of7::g8::is9::zf 10::f11::zT zf 12 28 (F0::F1::F2::zT zf 43 13 ([]))
def js (K:KV):KE:=ae Q (cd f157 [1,1,1,1]) (rk f157 K) xf (rk f157 K)
section
variable {K:KV}{l0 e1 l2 e3 q6 of7 g8 is9 f11 F0 F1 F2:Value}{zf:Nat→Value}{w:World}
theorem Ap {K:KV}{l0 e1:Value}{w:World}(h:box Q 48 l0 (fun l2=>box Q 54 e1 fun e3 w=>aK (fun S w=>hF S 54 e3 0 fun C2=>hL S 3 C2 fun C3=>hF S 54 e3 7 fun C4=>hL S 24 C4 fun C5=>hld S (bld Q 98 #[(0,C3),(1,C5)]) fun C6=>hF S 54 e3 0 fun C7=>hL S 3 C7 fun C8=>hF S 54 e3 8 fun C9=>hL S 24 C9 fun D0=>hld S (bld Q 98 #[(0,C8),(1,D0)]) fun D1=>(alc Q 98 (fun q6=>bF S fun S=>alc Q 98 fun of7=>bF S fun S=>sto Q 98 q6 C6 fun _=>bF S fun _=>sto Q 98 of7 D1 fun _ w=>sL 48 l2 (fun D2=>sN D2 fun D3=>sF 92 D3 8 fun D4=>sL 89 D4 fun D5=>sL 98 q6 fun D6=>sti (lkp Q 89 D5 D6 false) fun D7 w=>cond D7 (K (Value.tuple #[Value.nilFunc,ci 14]) w) (aK (fun S w=>hL S 48 l2 fun D9=>hN S D9 fun E0=>hF S 92 E0 7 fun E1=>hL S 88 E1 fun E2=>hL S 98 of7 fun E3=>hld S (lkp Q 88 E2 E3 true) fun E4=>hld S (ext Q E4 0) fun E5=>hld S (ext Q E4 1) fun E6=>alc Q 100 (fun g8=>bF S fun S=>sto Q 100 g8 E5 fun _=>bF S fun _=>js K (pK l0 e1 l2 e3 q6 of7 g8 E6 uu uu uu uu (zV (zV zu 4 [Value.nilFunc,ci 0]) 12 [C2,C3,C4,C5,C6,C7,C8,C9,D0,D1,D2,D3,D4,D5,D6,D7,E4,D9,E0,E1,E2,E3,E4,E5,E6]))) w) w.drew)) w.drew) w)∧(alc Q 98 (fun of7=>bF S fun S=>alc Q 98 fun q6=>bF S fun S=>sto Q 98 q6 C6 fun _=>bF S fun _=>sto Q 98 of7 D1 fun _ w=>sL 48 l2 (fun D2=>sN D2 fun D3=>sF 92 D3 8 fun D4=>sL 89 D4 fun D5=>sL 98 q6 fun D6=>sti (lkp Q 89 D5 D6 false) fun D7 w=>cond D7 (K (Value.tuple #[Value.nilFunc,ci 14]) w) (aK (fun S w=>hL S 48 l2 fun D9=>hN S D9 fun E0=>hF S 92 E0 7 fun E1=>hL S 88 E1 fun E2=>hL S 98 of7 fun E3=>hld S (lkp Q 88 E2 E3 true) fun E4=>hld S (ext Q E4 0) fun E5=>hld S (ext Q E4 1) fun E6=>alc Q 100 (fun g8=>bF S fun S=>sto Q 100 g8 E5 fun _=>bF S fun _=>js K (pK l0 e1 l2 e3 q6 of7 g8 E6 uu uu uu uu (zV (zV zu 4 [Value.nilFunc,ci 0]) 12 [C2,C3,C4,C5,C6,C7,C8,C9,D0,D1,D2,D3,D4,D5,D6,D7,E4,D9,E0,E1,E2,E3,E4,E5,E6]))) w) w.drew)) w.drew) w)) w.drew) w):Gives Q 157 #[l0,e1] w K:=by
 refine aH func157 (by kernel_rfl) ?_
 refine Eq.mp (congrArg (fun c=>ae Q c _ _ _ _ w) (by kernel_rfl:(rep [1,1,1,1] (cd f157 [1,1,1,1]) (cd f157 []))=(cd f157 []))) ?_
 revert h
 delta js
 generalize (cd f157 [1,1,1,1])=xc0
 exact mpF
theorem yA (h:un Q .not is9 (fun E8 w=>aJ E8 false (fun u=>ai Q 100 g8 4 (fun F0=>ld Q 24 F0 fun F1=>bin Q .neq 24 false true F1 (cu 0) fun F2=>u [F0,F1,F2]) w) (fun k=>k [uu,uu,uu] w) fun j=>pick E8 cT (gd j 2) fun F3 w=>cond F3 (K (Value.tuple #[Value.nilFunc,ci 12]) w) (ld Q 48 l2 (fun F5=>ai Q 100 g8 2 fun F6=>ld Q 24 F6 fun F7=>call Q 166 #[F5,F7,Value.func (Fn.func 170) #[] #[e3,g8]] fun F9=>ext Q F9 0 fun G0=>ext Q F9 1 fun G1=>alc Q 93 fun d=>sto Q 93 d G0 fun _=>bin Q .neq 49 false true G1 (ci 0) fun G3 w=>cond G3 (K (Value.tuple #[Value.nilFunc,G1]) w) (K (Value.tuple #[Value.func (Fn.func 172) #[] #[d,l2,q6,e3,g8,of7],ci 0]) w)) w)) w):js K (pK l0 e1 l2 e3 q6 of7 g8 is9 f11 F0 F1 F2 zf) w:=by
 delta js;exact mpK h
end
attribute [irreducible] js
theorem yB {K:KV}{r0 A1 A2:Value}{w:World}(h:box Q 36 r0 (fun d=>alc Q 36 fun A4=>ld Q 36 d fun A6=>ai Q 54 A1 0 fun A7=>ld Q 3 A7 fun A8=>ai Q 100 A2 3 fun A9=>ld Q 2 A9 fun C0=>call Q 171 #[A6,A8,C0] fun C1=>ext Q C1 0 fun C2=>ext Q C1 1 fun C3=>sto Q 36 A4 C2 fun _=>bM Q [(some 36,A4),(none,C3)] K) w):Gives Q 170 #[r0,A1,A2] w K:=by
 refine aH func170 (by kernel_rfl) ?_;exact mpK h
theorem yC {K:KV}{A0 A1 A2 A3 A4 A5:Value}{w:World}(h:ld Q 93 A0 (fun A6=>dC Q A6 #[] fun _ w=>aK (fun S w=>hL S 48 A1 fun A8=>hN S A8 fun A9=>hF S 92 A9 8 fun C0=>hL S 89 C0 fun C1=>hL S 98 A2 fun C2=>eX Q 89 C1 C2 cT (fun _=>ai Q 54 A3 7 fun C3=>ld Q 24 C3 fun C4=>ai Q 100 A4 4 fun C5=>sto Q 24 C5 C4 fun _ w=>aK (fun S w=>hL S 48 A1 fun C6=>hN S C6 fun C7=>hF S 92 C7 7 fun C8=>hL S 88 C8 fun C9=>hL S 98 A5 fun D0=>hL S 100 A4 fun D1=>eX Q 88 C9 D0 D1 (fun _=>K (Value.tuple #[])) w) w.drew) w) w.drew) w):Gives Q 172 #[A0,A1,A2,A3,A4,A5] w K:=by
 refine aH func172 (by kernel_rfl) ?_;exact mpK h
def u7 (l0 e1 l2 e3 r6 f8:Value)(zf:Nat→Value):List Value:=l0::e1::l2::e3::zf 4::zf 5::r6::zf 7::f8::zT zf 9 38 ([])
def kP (K:KV):KE:=ae Q (cd f158 [1,1,1,1]) (rk f158 K) xf (rk f158 K)
section
variable {K:KV}{l0 e1 l2 e3 r6 f8:Value}{zf:Nat→Value}{w:World}
theorem Aq {K:KV}{l0 e1:Value}{w:World}(h:box Q 48 l0 (fun l2=>box Q 54 e1 fun e3 w=>aK (fun S w=>hL S 48 l2 fun C0=>hN S C0 fun C1=>hF S 92 C1 5 fun C2=>hL S 87 C2 fun C3=>hF S 54 e3 4 fun C4=>hL S 24 C4 fun C5=>hld S (lkp Q 87 C3 C5 true) fun C6=>hld S (ext Q C6 0) fun C7=>hld S (ext Q C6 1) fun C8=>alc Q 36 (fun r6=>bF S fun S=>sto Q 36 r6 C7 fun _=>bF S fun _=>un Q .not C8 fun D1 w=>cond D1 (K (Value.tuple #[Value.nilFunc,ci 9]) w) (sL 48 l2 (fun D3=>sF 54 e3 5 fun D4=>sL 3 D4 fun D5=>sti (bin Q .sub 3 false true D5 (ci 1)) fun D6=>sN D3 fun D7=>sF 92 D7 0 fun D8=>sI 23 D8 D6 fun D9=>sL 4 D9 fun E0=>sti (un Q .not E0) fun E1 w=>cond E1 (K (Value.tuple #[Value.nilFunc,ci 10]) w) (ld Q 36 r6 (fun E3=>ai Q 54 e3 0 fun E4=>ld Q 3 E4 fun E5=>ai Q 54 e3 5 fun E6=>ld Q 3 E6 fun E7=>ai Q 54 e3 6 fun E8=>ld Q 2 E8 fun E9=>call Q 173 #[E3,E5,E7,E9] fun F0=>ext Q F0 0 fun F1=>ext Q F0 1 fun F2=>sto Q 36 r6 F1 fun _=>kP K (u7 l0 e1 l2 e3 r6 F2 (zV (zV (zV zu 4 [Value.nilFunc,ci 0]) 7 [C8]) 9 [C6,C0,C1,C2,C3,C4,C5,C6,C7,C8,D1,C8,D1,E1,D3,D4,D5,D6,D7,D8,D9,E0,E1,F0,E3,E4,E5,E6,E7,E8,E9,F0,F1,F2]))) w)) w.drew)) w) w.drew) w):Gives Q 158 #[l0,e1] w K:=by
 refine aH func158 (by kernel_rfl) ?_
 refine Eq.mp (congrArg (fun c=>ae Q c _ _ _ _ w) (by kernel_rfl:(rep [1,1,1,1] (cd f158 [1,1,1,1]) (cd f158 []))=(cd f158 []))) ?_
 revert h
 delta kP
 generalize (cd f158 [1,1,1,1])=xc0
 exact mpF
theorem yD (h:bin Q .neq 49 false true f8 (ci 0) (fun F4 w=>cond F4 (K (Value.tuple #[Value.nilFunc,f8]) w) (K (Value.tuple #[Value.func (Fn.func 174) #[] #[r6,l2,e3],ci 0]) w)) w):kP K (u7 l0 e1 l2 e3 r6 f8 zf) w:=by
 delta kP;exact mpK h
end
attribute [irreducible] kP
theorem yE {K:KV}{A0 A1 A2:Value}{w:World}(h:aK (fun S w=>hL S 48 A1 fun A3=>hN S A3 fun A4=>hF S 92 A4 5 fun A5=>hL S 87 A5 fun A6=>hF S 54 A2 4 fun A7=>hL S 24 A7 fun A8=>hL S 36 A0 fun A9=>eX Q 87 A6 A8 A9 (fun _=>K (Value.tuple #[])) w) w.drew):Gives Q 174 #[A0,A1,A2] w K:=by
 refine aH func174 (by kernel_rfl) ?_;exact mpK h
theorem Ar {K:KV}{l0 e1:Value}{w:World}(h:box Q 48 l0 (fun l2=>box Q 54 e1 fun e3=>K (Value.tuple #[Value.func (Fn.func 175) #[] #[l2,e3],ci 0])) w):Gives Q 159 #[l0,e1] w K:=by
 refine aH func159 (by kernel_rfl) ?_;exact mpK h
theorem yF {K:KV}{A0 A1:Value}{w:World}(h:sL 48 A0 (fun A2=>sF 54 A1 5 fun A3=>sL 3 A3 fun A4=>sti (bin Q .sub 3 false true A4 (ci 1)) fun A5=>sN A2 fun A6=>sF 92 A6 0 fun A7=>sI 23 A7 A5 fun A8=>sto Q 4 A8 cT fun _=>K (Value.tuple #[])) w.drew):Gives Q 175 #[A0,A1] w K:=by
 refine aH func175 (by kernel_rfl) ?_;exact mpK h
theorem zJ {K:KV}{l0 e1:Value}{w:World}(h:box Q 48 l0 (fun l2=>box Q 54 e1 fun e3=>K (Value.tuple #[Value.func (Fn.func 176) #[] #[l2,e3],ci 0])) w):Gives Q 160 #[l0,e1] w K:=by
 refine aH func160 (by kernel_rfl) ?_;exact mpK h
theorem xC {K:KV}{A0 A1:Value}{w:World}(h:sL 48 A0 (fun A2=>sF 54 A1 0 fun A3=>sL 3 A3 fun A4=>sti (bin Q .sub 3 false true A4 (ci 1)) fun A5=>sN A2 fun A6=>sF 92 A6 1 fun A7=>sI 23 A7 A5 fun A8=>sto Q 4 A8 cT fun _=>K (Value.tuple #[])) w.drew):Gives Q 176 #[A0,A1] w K:=by
 refine aH func176 (by kernel_rfl) ?_;exact mpK h
def fN (l0 e1 l2 e3 D0 D8:Value)(zf:Nat→Value):List Value:=l0::e1::l2::e3::zT zf 4 16 (D0::zT zf 21 7 (D8::zT zf 29 26 ([])))
def dA (K:KV):KE:=ae Q (cd f24 [1,1]) (rk f24 K) xf (rk f24 K)
def kQ (K:KV):KE:=ae Q (cd f24 [1,0,0,1,1,1,1,1,1,1]) (dA K) (xx xf (dA K) 0) (rk f24 K)
def gh (K:KV):KE:=ae Q (cd f24 [1,0,0,1,1,1,1,1,1,1,1,1]) (dA K) (xx xf (dA K) 0) (rk f24 K)
def kR (K:KV):KE:=ae Q (cd f24 [1,0,0,1,1,1,1,1,1,1,1,0,1]) (gh K) (xx xf (dA K) 0) (rk f24 K)
section
variable {K:KV}{l0 e1 l2 e3 D0 D8:Value}{zf:Nat→Value}{w:World}
theorem As {K:KV}{l0 e1:Value}{w:World}(h:box Q 54 e1 (fun e3=>bin Q .eql 48 false true l0 (Value.pointer none) fun A8 w=>cond A8 (K (Value.tuple #[Value.nilFunc,ci 2]) w) (ld Q 54 e3 (fun C0=>call Q 38 #[C0] fun C1=>un Q .not C1 fun C2 w=>cond C2 (K (Value.tuple #[Value.nilFunc,ci 1]) w) (aK (fun S w=>hN S l0 fun C5=>hF S 92 C5 2 fun C6=>hL S 26 C6 fun C7=>hL S 54 e3 fun C8=>call Q 39 #[C7,C8] (fun C9=>aK fun _ w=>cond C9 (K (Value.tuple #[Value.nilFunc,ci 14]) w) (aK (fun S w=>hN S l0 fun D2=>hF S 92 D2 2 fun D3=>hL S 26 D3 fun D4=>hL S 54 e3 fun D5=>call Q 40 #[D4,D5] (fun D6=>aK fun S w=>hld S (un Q .not D6) fun D7=>kQ K (fN l0 e1 uu e3 D7 uu (zV (zV zu 4 [Value.nilFunc,ci 0,A8,l0,A8,C2,C0,C1,C2,C9,l0,C5,C6,C7,C8,C9]) 21 [l0,D2,D3,D4,D5,D6,D7])) w) w) w.drew)) w) w.drew)) w)) w):Gives Q 24 #[l0,e1] w K:=by
 refine aH func24 (by kernel_rfl) ?_
 refine Eq.mp (congrArg (fun c=>ae Q c _ _ _ _ w) (by kernel_rfl:(rep [1,0,0,1,1,1,1,1,1,1] (cd f24 [1,0,0,1,1,1,1,1,1,1]) (cd f24 []))=(cd f24 []))) ?_
 revert h
 delta kQ dA
 generalize (cd f24 [1,0,0,1,1,1,1,1,1,1])=xc0
 exact mpF
theorem yG (h:cond D0 (K (Value.tuple #[Value.nilFunc,ci 13]) w) (sF 54 e3 0 (fun E0=>sL 3 E0 fun E1=>sti (bin Q .sub 3 false true E1 (ci 1)) fun E2=>sN l0 fun E3=>sF 92 E3 0 fun E4=>sI 23 E4 E2 fun E5=>sL 4 E5 fun E6=>sti (un Q .not E6) fun E7=>kR K (fN l0 e1 l2 e3 D0 E7 (zV zf 29 [l0,E0,E1,E2,E3,E4,E5,E6,E7]))) w.drew)):kQ K (fN l0 e1 l2 e3 D0 D8 zf) w:=by
 delta kQ
 refine Eq.mp (congrArg (fun c=>ae Q c _ _ _ _ w) (by kernel_rfl:(rep [1,0,1] (cd f24 [1,0,0,1,1,1,1,1,1,1,1,0,1]) (cd f24 [1,0,0,1,1,1,1,1,1,1]))=(cd f24 [1,0,0,1,1,1,1,1,1,1]))) ?_
 revert h
 delta kR gh
 generalize (cd f24 [1,0,0,1,1,1,1,1,1,1,1,0,1])=xc0
 generalize (dA K)=qc0
 exact mpF
theorem yH (h:cond D8 (gh K (fN l0 e1 l2 e3 D0 D8 zf) w) (sF 54 e3 0 (fun E9=>sL 3 E9 fun F0=>sti (bin Q .sub 3 false true F0 (ci 1)) fun F1=>sN l0 fun F2=>sF 92 F2 1 fun F3=>sI 23 F3 F1 fun F4=>sL 4 F4 fun F5=>gh K (fN l0 e1 l2 e3 D0 F5 (zV zf 38 [l0,E9,F0,F1,F2,F3,F4,F5]))) w.drew)):kR K (fN l0 e1 l2 e3 D0 D8 zf) w:=by
 delta kR;revert h;generalize (gh K)=qc0;generalize (dA K)=qc1;exact mpF
theorem rC (h:cond D8 (K (Value.tuple #[Value.nilFunc,ci 10]) w) (dA K (fN l0 e1 l2 e3 D0 D8 zf) w)):gh K (fN l0 e1 l2 e3 D0 D8 zf) w:=by
 delta gh;revert h;generalize (dA K)=qc0;exact mpF
theorem yI (h:aK (fun S w=>hF S 54 e3 3 fun F6=>hL S 5 F6 fun F7=>hI S 123 (Value.pointer (some ⟨0,0,none⟩)) F7 fun F8=>hL S 122 F8 fun F9=>hL S 54 e3 fun G1=>dC Q F9 #[l0,G1] (fun G2=>aK fun S w=>hld S (ext Q G2 0) fun G3=>hld S (ext Q G2 1) fun G4=>K (Value.tuple #[G3,G4]) w) w) w.drew):dA K (fN l0 e1 l2 e3 D0 D8 zf) w:=by
 delta dA;exact mpK h
end
attribute [irreducible] dA kQ gh kR
theorem At {K:KV}{l0 e1:Value}{w:World}(h:box Q 54 e1 (fun e3=>ld Q 54 e3 fun A9=>call Q 24 #[l0,A9] fun C0=>ext Q C0 0 fun C1=>ext Q C0 1 fun C2=>bin Q .neq 49 false true C2 (ci 0) fun C4 w=>cond C4 (K C2 w) (dC Q C1 #[] (fun _ w=>sF 54 e3 0 (fun C9=>sL 3 C9 fun D0=>sti (bin Q .sub 3 false true D0 (ci 1)) fun D1=>sN l0 fun D2=>sF 92 D2 2 fun D3=>sI 26 D3 D1 fun D4=>sL 24 D4 fun D5=>sti (bin Q .add 24 false true D5 (cu 1)) fun D6=>sN l0 fun D7=>sF 92 D7 2 fun D8=>sI 26 D8 D1 fun D9=>sto Q 24 D9 D6 fun _=>K (ci 0)) w.drew) w)) w):Gives Q 10 #[l0,e1] w K:=by
 refine aH func10 (by kernel_rfl) ?_;exact mpK h
end
section
open Go.RowKit
def grC (x:GR):List Value:=[iv x.o,u6 x.q,u6 x.n,iv x.a,u6 x.b]
theorem j4 (x:GR):(grC x).length=5:=rfl
theorem qF (x:GR):∀v∈grC x,v.oneCell'=true:=by simp[grC,u6,iv,Value.oneCell']
theorem vC {w:World}{K:KV}{b o:Nat}(h:K (.pointer (some ⟨b,o+0,none⟩)) w):ai Tryz.prog 100 (.pointer (some ⟨b,o,none⟩)) 0 K w:=aM (by kernel_rfl) h
theorem Cm {w:World}{K:KV}{b o:Nat}(h:K (.pointer (some ⟨b,o+1,none⟩)) w):ai Tryz.prog 100 (.pointer (some ⟨b,o,none⟩)) 1 K w:=aM (by kernel_rfl) h
theorem Ll {w:World}{K:KV}{b o:Nat}(h:K (.pointer (some ⟨b,o+2,none⟩)) w):ai Tryz.prog 100 (.pointer (some ⟨b,o,none⟩)) 2 K w:=aM (by kernel_rfl) h
theorem Lm {w:World}{K:KV}{b o:Nat}(h:K (.pointer (some ⟨b,o+3,none⟩)) w):ai Tryz.prog 100 (.pointer (some ⟨b,o,none⟩)) 3 K w:=aM (by kernel_rfl) h
theorem Gc {w:World}{K:KV}{b o:Nat}(h:K (.pointer (some ⟨b,o+4,none⟩)) w):ai Tryz.prog 100 (.pointer (some ⟨b,o,none⟩)) 4 K w:=aM (by kernel_rfl) h
end
section
open Go.RowKit
def fO (l0 l1 s2 D2 D3 D4 F6:Value)(zf:Nat→Value):List Value:=l0::l1::s2::zT zf 3 24 (D2::D3::D4::zT zf 30 27 (F6::zT zf 58 14 ([])))
def fy (K:KV):KE:=ae Q (cd f11 [1,1,1,1]) (rk f11 K) xf (rk f11 K)
def mX (K:KV):KE:=ae Q (cd f11 [1,1,1,0,1,0]) (fy K) (xx xf (fy K) 0) (rk f11 K)
def gi (K:KV):KE:=ae Q (cd f11 [1,1,1,1,1]) (rk f11 K) xf (rk f11 K)
def mY (K:KV):KE:=ae Q (cd f11 [1,1,1,1,0,1,0]) (gi K) (xx xf (gi K) 2) (rk f11 K)
section
variable {K:KV}{l0 l1 s2 D2 D3 D4 F6:Value}{zf:Nat→Value}{w:World}
theorem Au {K:KV}{l0:Value}{w:World}(h:alc Q 30 (fun s2=>bin Q .eql 48 false true l0 (Value.pointer none) fun A5 w=>cond A5 (ld Q 30 s2 (fun A6=>sto Q 30 s2 A6 fun _=>bM Q [(some 30,s2)] K) w) (sN l0 (fun A8=>sF 92 A8 0 fun A9=>sL 23 A9 fun C0=>sN l0 fun C2=>sF 92 C2 1 fun C3=>sL 23 C3 fun C4=>sN l0 fun C5=>sF 92 C5 2 fun C6=>sL 26 C6 fun C7=>sti (bld Q 30 #[(0,C0),(1,C4),(2,C7)]) fun C8=>sto Q 30 s2 C8 fun _=>bo l0 fun C9=>ai Q 92 C9 3 fun D0=>ld Q 84 D0 fun D1=>call Q 25 #[D1] fun D2=>lN 76 D2 fun D3=>mX K (fO l0 uu s2 D2 D3 (ci 0) uu (zV (zV zu 7 [l0,A5]) 10 [l0,A8,A9,C0,l0,C2,C3,C4,l0,C5,C6,C7,C8,l0,C9,D0,D1]))) w.drew)) w):Gives Q 11 #[l0] w K:=by
 refine aH func11 (by kernel_rfl) ?_;revert h;delta mX fy;exact mpF
theorem yJ (Inv:Value→World→Prop)(μ:Value→World→Nat)(h0:Inv D4 w)(u:∀(d:Value) (C:Nat→Value) (w:World) (m:Nat),Inv d w→m=μ d w →
  lS d D3 (fun D5 w=>cond D5 (aU Q 76 D2 d (fun D6=>ld Q 24 D6 fun D7 w=>aK (fun S w=>hF S 30 s2 3 fun D8=>hL S 27 D8 fun D9=>hN S l0 fun E0=>hF S 92 E0 4 fun E1=>hL S 86 E1 fun E2=>hld S (lkp Q 86 E2 D7 false) fun E3=>hN S l0 fun E4=>hF S 92 E4 5 fun E5=>hL S 87 E5 fun E6=>hld S (lkp Q 87 E6 D7 false) fun E7=>hld S (bld Q 38 #[(0,D7),(1,E3),(2,E7)]) fun E8=>dl Q 27 1 #[(0,E8)] (fun E9=>bF S fun _=>blt Q .append #[27,27] 27 #[false,false] #[D9,E9] fun F0=>aK fun S w=>hF S 30 s2 3 fun F1=>sto Q 27 F1 F0 (fun _=>nC d fun F2 w=>(Inv F2 w)∧((μ F2 w)<m)) w) w) w.drew) w) (fy K (fO l0 l1 s2 D2 D3 d F6 (zV C 30 [D5])) w)) w):mX K (fO l0 l1 s2 D2 D3 D4 F6 zf) w:=by
 refine aQ (cd f11 [1,1,1,0,1,0,0]) (zr [(4,1),(29,24)]) (by kernel_rfl) (fun e2 j=>Inv (gd e2 29) j) (fun e2 j=>μ (gd e2 29) j) h0 ?_;intro e' w' hI;have h:=u (gd e' 29) (zM zf (fun i=>gd e' i) (zr [(4,1),(29,24)])) w' _ hI rfl;revert h;generalize (fy K)=qc0;exact mpF
theorem yK (h:bo l0 (fun F3=>ai Q 92 F3 7 fun F4=>ld Q 88 F4 fun F5=>rng Q 88 F5 fun F6=>mY K (fO l0 l1 s2 D2 D3 D4 F6 (zV zf 53 [l0,F3,F4,F5]))) w):fy K (fO l0 l1 s2 D2 D3 D4 F6 zf) w:=by
 delta fy;revert h;delta mY gi;exact mpF
theorem yL (Inv:World→Prop)(μ:World→Nat)(h0:Inv w)(u:∀(C:Nat→Value) (w:World) (m:Nat),Inv w→m=μ w →
  nxt Q F6 false 0 (fun F7=>ext Q F7 0 fun F8 w=>cond F8 (ent Q F6 (fun F9=>ext Q F9 1 fun G0=>alc Q 100 fun j=>sto Q 100 j G0 fun _=>ai Q 30 s2 4 fun G1=>ld Q 28 G1 fun G2=>ld Q 100 j fun G3=>dl Q 28 1 #[(0,G3)] fun G4=>blt Q .append #[28,28] 28 #[false,false] #[G2,G4] fun G5=>ai Q 30 s2 4 fun G6=>sto Q 28 G6 G5 fun _ w=>(Inv w)∧((μ w)<m)) w) (gi K (fO l0 l1 s2 D2 D3 D4 F6 (zV C 58 [F7,F8])) w)) w):mY K (fO l0 l1 s2 D2 D3 D4 F6 zf) w:=by
 refine aQ (cd f11 [1,1,1,1,0,1,0,0]) (zr [(6,1),(58,10)]) (by kernel_rfl) (fun e2 d=>Inv d) (fun e2 d=>μ d) h0 ?_;intro e' w' hI;have h:=u (zM zf (fun i=>gd e' i) (zr [(6,1),(58,10)])) w' _ hI rfl;revert h;generalize (gi K)=qc0;exact mpF
theorem yM (h:ai Q 30 s2 4 (fun G7=>ld Q 28 G7 fun G8=>call Q 26 #[G8,Value.func (Fn.func 27) #[] #[]] fun _=>ld Q 30 s2 fun G9=>sto Q 30 s2 G9 fun _=>bM Q [(some 30,s2)] K) w):gi K (fO l0 l1 s2 D2 D3 D4 F6 zf) w:=by
 delta gi;exact mpK h
end
attribute [irreducible] fy mX gi mY
theorem yN {K:KV}{j b1:Value}{w:World}(h:box Q 100 j (fun d=>box Q 100 b1 fun u w=>aK (fun S w=>hF S 100 d 0 fun A2=>hL S 3 A2 fun A3=>hF S 100 u 0 fun A4=>hL S 3 A4 fun A5=>hF S 100 d 1 fun A7=>hL S 24 A7 fun A8=>hF S 100 u 1 fun A9=>hL S 24 A9 fun C0=>call Q 29 #[A3,A5] (fun A6=>bF S fun _=>call Q 30 #[A8,C0] fun C1=>aK fun _=>dl Q 56 2 #[(0,A6),(1,C1)] fun C2=>aK fun _=>call Q 28 #[C2] fun C3=>aK fun _=>K C3) w) w.drew) w):Gives Q 27 #[j,b1] w K:=by
 refine aH func27 (by kernel_rfl) ?_;exact mpK h
theorem Av {K:KV}{l0:Value}{w:World}(h:alc Q 26 (fun A0=>bin Q .eql 48 false true l0 (Value.pointer none) fun A1 w=>cond A1 (bld Q 26 #[] (fun A2=>sto Q 26 A0 A2 fun _=>bM Q [(some 26,A0)] K) w) (bo l0 (fun A4=>ai Q 92 A4 2 fun A5=>ld Q 26 A5 fun A6=>sto Q 26 A0 A6 fun _=>bM Q [(some 26,A0)] K) w)) w):Gives Q 14 #[l0] w K:=by
 refine aH func14 (by kernel_rfl) ?_;exact mpK h
theorem Aw {K:KV}{l0 i1 d:Value}{w:World}(h:bin Q .eql 48 false true l0 (Value.pointer none) (fun A5 w=>cond A5 (K (ci 0) w) (bo l0 (fun A7=>ai Q 92 A7 5 fun A8=>ld Q 87 A8 fun A9=>lkp Q 87 A9 d false fun C1=>call Q 31 #[C1,i1] K) w)) w):Gives Q 15 #[l0,i1,d] w K:=by
 refine aH func15 (by kernel_rfl) ?_;exact mpK h
end
section
attribute [local irreducible] bin un conv call dC blt slc ai fld aU idx lkp eX jl eSt rng nxt ent ext alc box bld dl ld sto bo eS mkS ifc pick rdy wts aJ sti cond bM Gives ae fU gX cOp
section
open Go.RowKit
abbrev ON (w:World)(B:Nat)(a:Option Addr)(n c:Nat)(l:List Int):Prop:=w.ownsRow B 3 1 (.slice a n c) n (l.map iv)
theorem ON.nil (w:World)(B:Nat):ON w B none 0 0 []:=World.ownsRow_nil w B _ 1
theorem ON.bel {w w':World}{B n c:Nat}{a:Option Addr}{l:List Int}(h:ON w B a n c l)(j:Below w.heap.size w w'):ON w' B a n c l:=di h fun k d=>j.block k (World.ownsRow.lt h k d).2
theorem ON.len {w:World}{B n c:Nat}{a:Option Addr}{l:List Int}(h:ON w B a n c l):l.length=n:=by have d:=h.1;simpa using d
theorem ON.mono {w:World}{B B' n c:Nat}{a:Option Addr}{l:List Int}(h:ON w B a n c l)(I:B'≤B):ON w B' a n c l:=by
 refine⟨h.1,?_⟩;rcases h.2 with j|⟨g,cap,d,u,C,r⟩
 ·exact .inl j
 ·exact .inr ⟨g,cap,d,u,by omega,r⟩
theorem Ru :(Tryz.prog.info? 3).map (fun i=>(i.zero,i.size,i.bytes))=some (some (.int .i64 0),1,8):=by kernel_rfl
theorem DM (I L:List Bool)(k:Nat):eA I L (k+1)=eA I L k++if I.getD k false && !L.getD k false then [((k:Nat):Int)+1]else []:=by
 unfold eA;rw[List.range_succ,List.filter_append,List.map_append]
 congr 1
 cases h:I.getD k false && !L.getD k false with
 | false=>rw[List.filter_cons_of_neg (by rw[h];simp)];rfl
 | true=>rw[List.filter_cons_of_pos (by rw[h])];rfl
theorem tU (I L:List Bool):∀k,(eA I L k).length≤k
 | 0=>by simp[eA]
 | k+1=>by
  have:=tU I L k
  rw[DM,List.length_append];split<;>simp<;>omega
section
variable {w:World}{K:KV}
theorem RR {P:Program}{t e:TypeId}{n i:Nat}{k:IntKind}{cs:List Value}{v:Value}(d:P.underlying t=some (.array n e))(J:∀w,(isAgg e).run P w=.ok false w)(j:∀w,(sizeOf e).run P w=.ok 1 w)(hi:i<n)(C:cs[i]? = some v)(h:K v w):idx P t (.agg cs.toArray) (.int k (i:Nat)) K w:=by
 unfold idx;refine gW (w':=w) (v:=v) ?_ h;have I:(0:Int)≤(i:Int):=by omega
 have u:(i:Int)<(n:Int):=by omega
 simp only[Instr.index,asIntOf,Sem.run_bind,Sem.run_pure,Result.andThen_ok,run_underlying d,I,u,and_self,if_true,j,part,J,Int.toNat_natCast,Nat.mul_one];simp[C]
theorem VC {x:Int}(h:∀w',blk w' w.heap.size 3 [iv x]→Below w.heap.size w w'→w'.heap.size=w.heap.size+1→K (.slice (some ⟨w.heap.size,0,none⟩) 1 1) w'):dl Tryz.prog 56 1 #[(0,iv x)] K w :=
 oe (vs:=[iv x]) underlying56 (s:=1) (by kernel_rfl) (by kernel_rfl) (by omega) rfl (by simp) (by simp) (by simp) (by simp[Value.cells,iv]) fun w' d b s=>h w' (by simpa[iv,Value.cells]using d) b s
theorem apN {cs:Array Bool}{ty:TypeId}{B n c g:Nat}{a:Option Addr}{l:List Int}{x:Int}(M:ON w B a n c l)(U:blk w g 3 [iv x])(R:B≤w.heap.size)(Z:n≤100000)(h:∀j d w',ON w' B j (n+1) d (l++[x])→Below B w w'→K (.slice j (n+1) d) w'):blt Tryz.prog .append #[56,56] ty cs #[.slice a n c,.slice (some ⟨g,0,none⟩) 1 1] K w:=by
 obtain⟨i,hi,V,u,I⟩:=info_parts Ru;refine Ue (base:=B) (s:=1) (m:=1) (ys:=[iv x]) underlying56 hi V u I rfl (by omega) M U rfl (by simp[iv,Value.oneCell']) (by omega) (by omega) R ?_;intro j d w' C J _;refine h j d w' (by simpa[ON]using C) (fJ J R (fun k X=>?_));exact(World.ownsRow.lt M k X).1
theorem Pu {s:STA}(V:SK w s)(h:∀w' a c,ON w' w.heap.size a (eA s.I s.L 6).length c (eA s.I s.L 6)→Below w.heap.size w w'→K (.slice a (eA s.I s.L 6).length c) w'):call Tryz.prog 12 #[.agg (saC s).toArray] K w:=by
 refine aB (goK func12) (Iw ?_);refine dc fun j R b1 s1=>?_;have R:blk j w.heap.size 30 (saC s):=by simpa[Value.cells]using R
 refine yr ?_;refine ldA (n:=6) (vs:=s.I.map .bool) underlying23 rfl (by kernel_rfl) R (by
  rw[List.drop_zero];unfold saC;rw[List.append_assoc,List.append_assoc,List.take_left' (by simp[V.i6])]) (by simp[V.i6]) ?_
 refine FR (Inv:=fun l i _ _ _ _ _ wr=>∃(k n:Nat) (a:Option Addr) (c:Nat),l=.slice a n c∧i=.int .i64 (k:Nat)∧k≤6∧ON wr j.heap.size a n c (eA s.I s.L k)∧Below j.heap.size j wr) (μ:=fun _ i _ _ _ _ _ _=>6-(intOf i).toNat)
  ⟨0,0,none,0,rfl,rfl,by omega,ON.nil _ _,Below.refl _ _⟩ ?_
 rintro _ _ _ _ _ _ _ dd w2 m ⟨k,n,a,c,rfl,rfl,al,M,b2⟩ hm;have Z:=af b2 R R.lt;have U:=M.len;have am:=tU s.I s.L k;have ad:=b2.size;refine aV ?_;by_cases hk:k<6
 ·refine ay (by omega) <|FS ?_;refine RR (v:=.bool (s.I.getD k false)) underlying23 (fun _=>by kernel_rfl) (fun _=>by kernel_rfl) hk (by
   have:=V.i6
   rw[List.getElem?_map,List.getElem?_eq_getElem (by omega)];simp[List.getD,show k<s.I.length by omega]) ?_
  have d:∀(C:World) (J:Option Addr) (X u:Nat),ON C j.heap.size J X u (eA s.I s.L (k+1))→Below j.heap.size j C →
    (∃(k' n:Nat) (a:Option Addr) (c:Nat),Value.slice J X u=.slice a n c∧Value.int .i64 ((k:Int)+1)=.int .i64 (k':Nat)∧k'≤6∧ON C j.heap.size a n c (eA s.I s.L k')∧Below j.heap.size j C)∧6-(intOf (.int .i64 ((k:Int)+1))).toNat<m :=
   fun C J X u h1 h2=>⟨⟨k+1,X,J,u,rfl,by simp,by omega,h1,h2⟩,by rw[hm];simp[intOf];omega⟩
  have no:(s.I.getD k false && !s.L.getD k false)=false→eA s.I s.L (k+1)=eA s.I s.L k:=fun hq=>by rw[DM,hq];simp
  cases hI:s.I.getD k false with
  | false =>
   refine mK <|fm <|bw <|tS <|aR (by omega) (by omega) ?_;exact d w2 a n c (by rw[no (by rw[hI];rfl)];exact M) b2
  | true =>
   refine nH <|FU <|dB underlying23 (s:=1) (fun _=>by kernel_rfl) (by omega) (by omega) <|lK (v:=.bool (s.L.getD k false)) Z (by rw[show 0+6+(k:Int).toNat*1=6+k by omega];exact Vn V hk) <|eh <|db ?_;cases hL:s.L.getD k false with
   | true =>
    refine bw <|tS <|aR (by omega) (by omega) ?_;exact d w2 a n c (by rw[no (by rw[hI,hL];rfl)];exact M) b2
   | false =>
    refine bu <|aR (by omega) (by omega) ?_;refine VC fun C g3 b3 s3=>?_;refine apN (M.bel b3) g3 (by omega) (by omega) fun J u w4 ag b4=>?_;refine tS <|aR (by omega) (by omega) ?_;exact d w4 J (n+1) u (by rw[DM,hI,hL];exact ag) ((b2.trans (b3.mono ad)).trans b4)
 ·refine au (by omega) ?_;obtain rfl:k=6:=by omega
  refine FT ?_
  have:=h w2 a c (by rw[U];exact M.mono (by omega)) (b1.trans (b2.mono (by omega)))
  rw[U]at this;exact this
end
end
end
section
def oX (s:STA)(id:Int):Option (List Int×List Int) :=
 match s.nodes[posN s.nodes id]?,eA s.I s.L 6 with
 | none,_=>none
 | some _,[]=>none
 | some x,i::r=>match uw (nN x.A (i::r)) 0 with
  | none=>none
  | some all=>some (nN x.A (i::r),shL all (i::r).length)
def sx (s:STA)(id:Int):List (Int×Int×Int):=match oX s id with
 | none=>[]
 | some (has,sh)=>(jD has sh).map fun m=>((eA s.I s.L 6).getD m.1 0,(eA s.I s.L 6).getD m.2.1 0,m.2.2)
def DN (s:STA)(id i:Int):Int:=match oX s id with
 | none=>0
 | some (_,sh)=>sh.getD ((eA s.I s.L 6).findIdx (· == i)) 0
def xD (s:STA)(i:Int):List (Int×Int×Int):=s.nodes.flatMap fun x=>(sx s x.id).filterMap fun m=>if m.1=i then some (x.id,m.2.1,m.2.2)else none
theorem MW (d:Int)(c:Nat):(shL d c).length=c:=by simp[shL]
theorem Ln (A d:List Int):(nN A d).length=d.length:=by simp[nN]
theorem Jl {s:STA}{id:Int}{d sh:List Int}(h:oX s id=some (d,sh)):d.length=(eA s.I s.L 6).length∧sh.length=(eA s.I s.L 6).length:=by
 unfold oX at h;cases j:s.nodes[posN s.nodes id]? with
 | none=>rw[j]at h;cases h
 | some x =>
  cases u:eA s.I s.L 6 with
  | nil=>rw[j,u]at h;cases h
  | cons i r =>
   rw[j,u]at h;simp only at h;split at h
   ·cases h
   ·cases h;exact⟨Ln _ _,MW _ _⟩
end
section
open Go.RowKit
def gI (s0 s2 A0 r6 q7 oc i11 D7 D8 D9 F2 F3 F4 F5 G6 G7:Value)(zf:Nat→Value):List Value:=s0::zf 1::s2::zf 3::A0::zf 5::r6::q7::zf 8::oc::zf 10::i11::zT zf 12 24 (D7::D8::D9::zT zf 39 12 (F2::F3::F4::F5::zT zf 55 11 (G6::G7::zT zf 68 24 ([]))))
def rD (K:KV):KE:=ae Q (cd f32 [1,1,1,1,1,1]) (rk f32 K) xf (rk f32 K)
def ng (K:KV):KE:=ae Q (cd f32 [1,1,1,1,1,1,1]) (rk f32 K) xf (rk f32 K)
def uN (K:KV):KE:=ae Q (cd f32 [1,1,1,1,1,1,0,1,0]) (ng K) (xx xf (ng K) 0) (rk f32 K)
def jn (K:KV):KE:=ae Q (cd f32 [1,1,1,1,1,1,1,1]) (rk f32 K) xf (rk f32 K)
def uO (K:KV):KE:=ae Q (cd f32 [1,1,1,1,1,1,1,0,1,0]) (jn K) (xx xf (jn K) 2) (rk f32 K)
def nh (K:KV)(B1:KE):KE:=ae Q (cd f32 [1,1,1,1,1,1,1,0,1,0,0,1,1,1]) B1 (xx xf (jn K) 2) (rk f32 K)
def rE (K:KV)(B1:KE):KE:=ae Q (cd f32 [1,1,1,1,1,1,1,0,1,0,0,1,1,0]) (nh K B1) (xx xf (jn K) 2) (rk f32 K)
section
variable {K:KV}{s0 s2 A0 r6 q7 oc i11 D7 D8 D9 F2 F3 F4 F5 G6 G7:Value}{zf:Nat→Value}{w:World}
theorem Lo {K:KV}{s0 node1:Value}{w:World}(h:box Q 30 s0 (fun s2=>alc Q 108 fun A0=>ld Q 30 s2 fun A5=>call Q 12 #[A5] fun A6=>bld Q 108 #[(0,A6)] fun A7=>alc Q 108 fun r6=>sto Q 108 r6 A7 fun _=>ld Q 30 s2 fun A9=>call Q 50 #[A9,node1] fun C1=>ext Q C1 0 fun C2=>ext Q C1 1 fun C3=>alc Q 135 fun q7=>sto Q 135 q7 C2 fun _=>ai Q 108 r6 0 fun C4=>ld Q 56 C4 fun C5=>lN 56 C5 fun C6=>ai Q 108 r6 1 fun C7=>sto Q 3 C7 C6 fun _=>bin Q .neq 49 false true C3 (ci 0) fun C9 w=>aJ C9 false (fun k30=>ai Q 108 r6 1 (fun D1=>ld Q 3 D1 fun D2=>bin Q .eql 3 false true D2 (ci 0) fun D3=>k30 [D1,D2,D3]) w) (fun k=>k [uu,uu,uu] w) fun us30=>pick C9 cT (gd us30 2) fun D4 w=>cond D4 (bld Q 108 #[] (fun D5=>sto Q 108 A0 D5 fun _=>bM Q [(some 108,A0),(none,cF)] K) w) (rD K (gI s0 s2 A0 r6 q7 (ci 0) uu uu uu uu uu uu uu uu uu uu (zV (zV (zV (zV zu 1 [node1]) 5 [cF]) 8 [C3]) 14 [A5,A6,A7,C1,A9,node1,C1,C2,C3,C4,C5,C6,C7,C3,C9,C9,gd us30 0,gd us30 1,gd us30 2,D4])) w)) w):Gives Q 32 #[s0,node1] w K:=by
 refine aH func32 (by kernel_rfl) ?_
 refine Eq.mp (congrArg (fun c=>ae Q c _ _ _ _ w) (by kernel_rfl:(rep [1,1,1,1,1,1] (cd f32 [1,1,1,1,1,1]) (cd f32 []))=(cd f32 []))) ?_
 revert h
 delta rD
 generalize (cd f32 [1,1,1,1,1,1])=xc0
 exact mpF
theorem IA (h:ai Q 108 r6 0 (fun D6=>ld Q 56 D6 fun D7=>lN 56 D7 fun D8=>uN K (gI s0 s2 A0 r6 q7 oc i11 D7 D8 (ci 0) F2 F3 F4 F5 G6 G7 (zV zf 35 [D6]))) w):rD K (gI s0 s2 A0 r6 q7 oc i11 D7 D8 D9 F2 F3 F4 F5 G6 G7 zf) w:=by
 delta rD;revert h;delta uN ng;exact mpF
theorem IB (Inv:vI 6)(μ:vM 6)(h0:Inv oc D9 F2 F3 F4 F5 w)(X:∀(j u M I J C:Value) (V:Nat→Value) (w:World) (m:Nat),Inv j u M I J C w→m=μ j u M I J C w →
  lS u D8 (fun E0 w=>cond E0 (aU Q 56 D7 u (fun E2=>ld Q 3 E2 fun E3=>bin Q .sub 3 false true E3 (ci 1) fun E5=>ai Q 135 q7 2 fun E6=>aU Q 33 E6 E5 fun E7=>ld Q 2 E7 fun E8=>bin Q .lss 2 false true E8 (ci 0) fun F0 w=>aJ F0 false (fun R=>bin Q .sub 2 true false (ci 1125899906842624) j (fun F4=>bin Q .gtr 2 false false E8 F4 fun F5=>R [E8,j,F4,F5]) w) (fun k=>k [uu,uu,uu,uu] w) fun d=>pick F0 cT (gd d 3) fun F6 w=>cond F6 (bld Q 108 #[] (fun F7=>sto Q 108 A0 F7 fun _=>bM Q [(some 108,A0),(none,cF)] K) w) (ai Q 108 r6 2 (fun F9=>aU Q 33 F9 u fun G0=>sto Q 2 G0 E8 fun _=>bin Q .add 2 false false j E8 fun G3=>nC u fun G4 w=>(Inv G3 G4 (gd d 0) (gd d 1) (gd d 2) (gd d 3) w)∧((μ G3 G4 (gd d 0) (gd d 1) (gd d 2) (gd d 3) w)<m)) w)) w) (ng K (gI s0 s2 A0 r6 q7 j (V 11) D7 D8 u M I J C G6 G7 (zV V 39 [E0])) w)) w):uN K (gI s0 s2 A0 r6 q7 oc i11 D7 D8 D9 F2 F3 F4 F5 G6 G7 zf) w:=by
 refine aQ (cd f32 [1,1,1,1,1,1,0,1,0,0]) (zr [(5,1),(9,4),(38,27)]) (by kernel_rfl) (fun e2 U=>Inv (gd e2 9) (gd e2 38) (gd e2 51) (gd e2 52) (gd e2 53) (gd e2 54) U) (fun e2 U=>μ (gd e2 9) (gd e2 38) (gd e2 51) (gd e2 52) (gd e2 53) (gd e2 54) U) h0 ?_;intro e' w' hI
 have h:=X (gd e' 9) (gd e' 38) (gd e' 51) (gd e' 52) (gd e' 53) (gd e' 54) (zM zf (fun i=>gd e' i) (zr [(5,1),(9,4),(38,27)])) w' _ hI rfl;revert h;generalize (ng K)=qc0;exact mpF
theorem IC (h:ai Q 108 r6 1 (fun G5=>ld Q 3 G5 fun G6=>uO K (gI s0 s2 A0 r6 q7 oc i11 D7 D8 D9 F2 F3 F4 F5 G6 (ci 0) (zV zf 65 [G5]))) w):ng K (gI s0 s2 A0 r6 q7 oc i11 D7 D8 D9 F2 F3 F4 F5 G6 G7 zf) w:=by
 delta ng;revert h;delta uO jn;exact mpF
theorem ID (Inv:Value→World→Prop)(μ:Value→World→Nat)(h0:Inv G7 w)(hs:∀(G7':Value) (dd:Nat→Value) (w:World) (m:Nat),Inv G7' w→m=μ G7' w →
  lS G7' G6 (fun G8 w=>cond G8 (rE K (fun e2 w2=>(Inv (gd e2 67) w2)∧((μ (gd e2 67) w2)<m)) (gI s0 s2 A0 r6 q7 oc i11 D7 D8 D9 F2 F3 F4 F5 G6 G7' (zV dd 68 [G8])) w) (jn K (gI s0 s2 A0 r6 q7 oc i11 D7 D8 D9 F2 F3 F4 F5 G6 G7' (zV dd 68 [G8])) w)) w):uO K (gI s0 s2 A0 r6 q7 oc i11 D7 D8 D9 F2 F3 F4 F5 G6 G7 zf) w:=by
 refine aQ (cd f32 [1,1,1,1,1,1,1,0,1,0,0]) (zr [(13,1),(67,24)]) (by kernel_rfl) (fun e2 w2=>Inv (gd e2 67) w2) (fun e2 w2=>μ (gd e2 67) w2) h0 ?_
 intro e' w' hI
 have h:=hs (gd e' 67) (zM zf (fun i=>gd e' i) (zr [(13,1),(67,24)])) w' _ hI rfl
 refine Eq.mp (congrArg (fun c=>ae Q c _ _ _ _ w') (by kernel_rfl:(rep [1,1,0] (cd f32 [1,1,1,1,1,1,1,0,1,0,0,1,1,0]) (cd f32 [1,1,1,1,1,1,1,0,1,0,0]))=(cd f32 [1,1,1,1,1,1,1,0,1,0,0]))) ?_
 revert h
 delta rE nh
 generalize (cd f32 [1,1,1,1,1,1,1,0,1,0,0,1,1,0])=xc0
 generalize (jn K)=qc0
 exact mpF
theorem IE {B1:KE}(h:ai Q 108 r6 1 (fun H2=>ld Q 3 H2 fun H3=>bin Q .quo 2 false false oc H3 fun H4=>ai Q 108 r6 3 fun H5=>aU Q 33 H5 G7 fun H6=>sto Q 2 H6 H4 fun _=>ai Q 108 r6 1 fun H8=>ld Q 3 H8 fun H9=>bin Q .rem 2 false false oc H9 fun I0=>bin Q .lss 2 false false G7 I0 fun I1 w=>cond I1 (ai Q 108 r6 3 (fun I2=>aU Q 33 I2 G7 fun I3=>ld Q 2 I3 fun I4=>bin Q .add 2 false true I4 (ci 1) fun I5=>ai Q 108 r6 3 fun I6=>aU Q 33 I6 G7 fun I7=>sto Q 2 I7 I5 fun _=>nh K B1 (gI s0 s2 A0 r6 q7 oc i11 D7 D8 D9 F2 F3 F4 F5 G6 G7 (zV (zV zf 13 [G7]) 69 [G7,G7,oc,H2,H3,H4,H5,H6,G7,oc,H8,H9,I0,I1,G7,I2,I3,I4,I5,I6,I7]))) w) (nh K B1 (gI s0 s2 A0 r6 q7 oc i11 D7 D8 D9 F2 F3 F4 F5 G6 G7 (zV (zV zf 13 [G7]) 69 [G7,G7,oc,H2,H3,H4,H5,H6,G7,oc,H8,H9,I0,I1])) w)) w):rE K B1 (gI s0 s2 A0 r6 q7 oc i11 D7 D8 D9 F2 F3 F4 F5 G6 G7 zf) w:=by
 delta rE;revert h;generalize (nh K B1)=qc0;generalize (jn K)=qc1;exact mpF
theorem IF (h:ld Q 108 r6 (fun I9=>sto Q 108 A0 I9 fun _=>bM Q [(some 108,A0),(none,cT)] K) w):jn K (gI s0 s2 A0 r6 q7 oc i11 D7 D8 D9 F2 F3 F4 F5 G6 G7 zf) w:=by
 delta jn;exact mpK h
theorem AV {B1:KE}(h:nC G7 (fun I8=>B1 (gI s0 s2 A0 r6 q7 oc i11 D7 D8 D9 F2 F3 F4 F5 G6 I8 (zV zf 90 [I8]))) w):nh K B1 (gI s0 s2 A0 r6 q7 oc i11 D7 D8 D9 F2 F3 F4 F5 G6 G7 zf) w:=by
 delta nh;revert h;generalize (jn K)=qc0;exact mpF
end
attribute [irreducible] rD ng uN jn uO nh rE
def uP (s0 i2 uV i5 r7 C1 C2 C3:Value)(zf:Nat→Value):List Value:=s0::zf 1::i2::zf 3::uV::i5::zf 6::r7::zT zf 8 12 (C1::C2::C3::zT zf 23 12 ([]))
def mC (K:KV):KE:=ae Q (cd f16 [1,1,1,1]) (rk f16 K) xf (rk f16 K)
def tD (K:KV):KE:=ae Q (cd f16 [1,1,1,0,1,0]) (mC K) (xx xf (mC K) 0) (rk f16 K)
section
variable {K:KV}{s0 i2 uV i5 r7 C1 C2 C3:Value}{zf:Nat→Value}{w:World}
theorem Jz {K:KV}{s0 d i2:Value}{w:World}(h:box Q 30 s0 (fun j=>ld Q 30 j fun A3=>call Q 32 #[A3,d] fun A5=>ext Q A5 0 fun A6=>ext Q A5 1 fun A7=>alc Q 108 fun r7=>sto Q 108 r7 A6 fun _=>un Q .not A7 fun A9 w=>cond A9 (K (ci 0) w) (ai Q 108 r7 0 (fun C0=>ld Q 56 C0 fun C1=>lN 56 C1 fun C2=>tD K (uP s0 i2 uu uu r7 C1 C2 (ci 0) (zV (zV (zV (zV (zV zu 1 [d]) 3 [j]) 6 [ci 0]) 8 [A7]) 11 [A5,A3,d,A5,A6,A7,A7,A9,C0]))) w)) w):Gives Q 16 #[s0,d,i2] w K:=by
 refine aH func16 (by kernel_rfl) ?_;revert h;delta tD mC;exact mpF
theorem Hk (Inv:Value→World→Prop)(μ:Value→World→Nat)(h0:Inv C3 w)(u:∀(d:Value) (C:Nat→Value) (w:World) (m:Nat),Inv d w→m=μ d w →
  lS d C2 (fun C4 w=>cond C4 (aU Q 56 C1 d (fun C6=>ld Q 3 C6 fun C7=>bin Q .eql 3 false false C7 i2 fun D0 w=>cond D0 (ai Q 108 r7 3 (fun D2=>aU Q 33 D2 d fun D3=>ld Q 2 D3 K) w) (nC d (fun D5 w=>(Inv D5 w)∧((μ D5 w)<m)) w)) w) (mC K (uP s0 i2 uV i5 r7 C1 C2 d (zV C 23 [C4])) w)) w):tD K (uP s0 i2 uV i5 r7 C1 C2 C3 zf) w:=by
 refine aQ (cd f16 [1,1,1,0,1,0,0]) (zr [(6,1),(9,2),(22,13)]) (by kernel_rfl) (fun e2 j=>Inv (gd e2 22) j) (fun e2 j=>μ (gd e2 22) j) h0 ?_;intro e' w' hI;have h:=u (gd e' 22) (zM zf (fun i=>gd e' i) (zr [(6,1),(9,2),(22,13)])) w' _ hI rfl;revert h;generalize (mC K)=qc0;exact mpF
theorem Hl (h:K (ci 0) w):mC K (uP s0 i2 uV i5 r7 C1 C2 C3 zf) w:=by
 delta mC;exact mpK h
end
attribute [irreducible] mC tD
def gC (s0 s2 r5 oF jj jk x10 C5 C6 C7 C8 C9 D0 D1 D2 D3 E2 E3 E4 E5 E6 E7 E8 E9 F0 F8 F9 G0 G1:Value)(zf:Nat→Value):List Value:=s0::zf 1::s2::zf 3::zf 4::r5::zf 6::oF::jj::jk::x10::zT zf 11 13 (C5::C6::C7::C8::C9::D0::D1::D2::D3::zT zf 33 8 (E2::E3::E4::E5::E6::E7::E8::E9::F0::zT zf 50 8 (F8::F9::G0::G1::zT zf 62 52 ([]))))
def tE (K:KV):KE:=ae Q (cd f17 [1,1,1,1,1,0]) (rk f17 K) (xx xf (rk f17 K) 0) (rk f17 K)
def lf (K:KV)(B1:KE):KE:=ae Q (cd f17 [1,1,1,1,1,0,0,0,1]) B1 (xx (xx xf (rk f17 K) 0) B1 1) (rk f17 K)
def tF (K:KV)(B1:KE):KE:=ae Q (cd f17 [1,1,1,1,1,0,0,0,0,0]) (lf K B1) (xx (xx (xx xf (rk f17 K) 0) B1 1) (lf K B1) 2) (rk f17 K)
def lg (K:KV)(B1:KE):KE:=ae Q (cd f17 [1,1,1,1,1,0,0,0,1,1]) B1 (xx (xx xf (rk f17 K) 0) B1 1) (rk f17 K)
def tG (K:KV)(B1:KE):KE:=ae Q (cd f17 [1,1,1,1,1,0,0,0,1,0,0]) (lg K B1) (xx (xx (xx xf (rk f17 K) 0) B1 1) (lg K B1) 4) (rk f17 K)
def qA (K:KV)(B1:KE):KE:=ae Q (cd f17 [1,1,1,1,1,0,0,0,1,1,1,1]) B1 (xx (xx xf (rk f17 K) 0) B1 1) (rk f17 K)
section
variable {K:KV}{s0 s2 r5 oF jj jk x10 C5 C6 C7 C8 C9 D0 D1 D2 D3 E2 E3 E4 E5 E6 E7 E8 E9 F0 F8 F9 G0 G1:Value}{zf:Nat→Value}{w:World}
theorem JA {K:KV}{s0 d:Value}{w:World}(h:box Q 30 s0 (fun s2=>ld Q 30 s2 fun A3=>call Q 32 #[A3,d] fun A5=>ext Q A5 0 fun A6=>ext Q A5 1 fun A7=>alc Q 108 fun r5=>sto Q 108 r5 A6 fun _=>un Q .not A7 fun A9 w=>cond A9 (K cN w) (tE K (gC s0 s2 r5 cN (ci 0) (ci 0) uu uu uu uu uu uu uu uu uu uu uu uu uu uu uu uu uu uu uu uu uu uu uu (zV (zV (zV (zV zu 1 [d]) 4 [cN]) 6 [A7]) 11 [A5,A3,d,A5,A6,A7,A7,A9])) w)) w):Gives Q 17 #[s0,d] w K:=by
 refine aH func17 (by kernel_rfl) ?_;revert h;delta tE;exact mpF
theorem Hm (Inv:vI 25)(μ:vM 25)(h0:Inv oF jj jk C5 C6 C7 C8 C9 D0 D1 D2 D3 E2 E3 E4 E5 E6 E7 E8 E9 F0 F8 F9 G0 G1 w)(hs:∀(u d j a2 I an a0 aS X U V ap J ar Z C av ag ad M R am al a3 az:Value) (dd:Nat→Value) (w:World) (m:Nat),Inv u d j a2 I an a0 aS X U V ap J ar Z C av ag ad M R am al a3 az w→m=μ u d j a2 I an a0 aS X U V ap J ar Z C av ag ad M R am al a3 az w →
  tF K (fun e2 w2=>(Inv (gd e2 7) (gd e2 8) (gd e2 9) (gd e2 24) (gd e2 25) (gd e2 26) (gd e2 27) (gd e2 28) (gd e2 29) (gd e2 30) (gd e2 31) (gd e2 32) (gd e2 41) (gd e2 42) (gd e2 43) (gd e2 44) (gd e2 45) (gd e2 46) (gd e2 47) (gd e2 48) (gd e2 49) (gd e2 58) (gd e2 59) (gd e2 60) (gd e2 61) w2)∧((μ (gd e2 7) (gd e2 8) (gd e2 9) (gd e2 24) (gd e2 25) (gd e2 26) (gd e2 27) (gd e2 28) (gd e2 29) (gd e2 30) (gd e2 31) (gd e2 32) (gd e2 41) (gd e2 42) (gd e2 43) (gd e2 44) (gd e2 45) (gd e2 46) (gd e2 47) (gd e2 48) (gd e2 49) (gd e2 58) (gd e2 59) (gd e2 60) (gd e2 61) w2)<m)) (gC s0 s2 r5 u d j (dd 10) a2 I an a0 aS X U V ap J ar Z C av ag ad M R am al a3 az dd) w):tE K (gC s0 s2 r5 oF jj jk x10 C5 C6 C7 C8 C9 D0 D1 D2 D3 E2 E3 E4 E5 E6 E7 E8 E9 F0 F8 F9 G0 G1 zf) w:=by
 refine aQ (cd f17 [1,1,1,1,1,0,0]) (zr [(4,1),(7,4),(19,95)]) (by kernel_rfl) (fun e2 w2=>Inv (gd e2 7) (gd e2 8) (gd e2 9) (gd e2 24) (gd e2 25) (gd e2 26) (gd e2 27) (gd e2 28) (gd e2 29) (gd e2 30) (gd e2 31) (gd e2 32) (gd e2 41) (gd e2 42) (gd e2 43) (gd e2 44) (gd e2 45) (gd e2 46) (gd e2 47) (gd e2 48) (gd e2 49) (gd e2 58) (gd e2 59) (gd e2 60) (gd e2 61) w2) (fun e2 w2=>μ (gd e2 7) (gd e2 8) (gd e2 9) (gd e2 24) (gd e2 25) (gd e2 26) (gd e2 27) (gd e2 28) (gd e2 29) (gd e2 30) (gd e2 31) (gd e2 32) (gd e2 41) (gd e2 42) (gd e2 43) (gd e2 44) (gd e2 45) (gd e2 46) (gd e2 47) (gd e2 48) (gd e2 49) (gd e2 58) (gd e2 59) (gd e2 60) (gd e2 61) w2) h0 ?_
 intro e' w' hI;have h:=hs (gd e' 7) (gd e' 8) (gd e' 9) (gd e' 24) (gd e' 25) (gd e' 26) (gd e' 27) (gd e' 28) (gd e' 29) (gd e' 30) (gd e' 31) (gd e' 32) (gd e' 41) (gd e' 42) (gd e' 43) (gd e' 44) (gd e' 45) (gd e' 46) (gd e' 47) (gd e' 48) (gd e' 49) (gd e' 58) (gd e' 59) (gd e' 60) (gd e' 61) (zM zf (fun i=>gd e' i) (zr [(4,1),(7,4),(19,95)])) w' _ hI rfl;revert h;delta tF lf;exact mpF
theorem Hn {B1:KE}(Inv:vI 10)(μ:vM 10)(h0:Inv jj C5 C6 C7 C8 C9 D0 D1 D2 D3 w)(hs:∀(j X u M V U J C I R:Value) (dd:Nat→Value) (w:World) (m:Nat),Inv j X u M V U J C I R w→m=μ j X u M V U J C I R w →
  sF 108 r5 1 (fun C1=>sL 3 C1 fun C2=>sti (bin Q .lss 3 false false j C2) fun C3 w=>aJ C3 true (fun Z=>sF 108 r5 2 (fun C6=>sI 33 C6 j fun C7=>sL 2 C7 fun C8=>sF 108 r5 3 fun D0=>sI 33 D0 j fun D1=>sL 2 D1 fun D2=>sti (bin Q .leq 2 false false C8 D2) fun D3=>Z [j,C6,C7,C8,j,D0,D1,D2,D3]) w) (fun k=>k [uu,uu,uu,uu,uu,uu,uu,uu,uu] w) fun d=>sti (pick C3 (gd d 8) cF) fun D4 w=>cond D4 (nC j (fun D6 w=>(Inv D6 (gd d 0) (gd d 1) (gd d 2) (gd d 3) (gd d 4) (gd d 5) (gd d 6) (gd d 7) (gd d 8) w)∧((μ D6 (gd d 0) (gd d 1) (gd d 2) (gd d 3) (gd d 4) (gd d 5) (gd d 6) (gd d 7) (gd d 8) w)<m)) w) (lf K B1 (gC s0 s2 r5 oF j jk x10 (gd d 0) (gd d 1) (gd d 2) (gd d 3) (gd d 4) (gd d 5) (gd d 6) (gd d 7) (gd d 8) E2 E3 E4 E5 E6 E7 E8 E9 F0 F8 F9 G0 G1 (zV (zV dd 19 [j,C1,C2,C3,C3]) 33 [D4])) w)) w.drew):tF K B1 (gC s0 s2 r5 oF jj jk x10 C5 C6 C7 C8 C9 D0 D1 D2 D3 E2 E3 E4 E5 E6 E7 E8 E9 F0 F8 F9 G0 G1 zf) w:=by
 refine aQ (cd f17 [1,1,1,1,1,0,0,0,0,0,0]) (zr [(8,1),(19,17)]) (by kernel_rfl) (fun e2 w2=>Inv (gd e2 8) (gd e2 24) (gd e2 25) (gd e2 26) (gd e2 27) (gd e2 28) (gd e2 29) (gd e2 30) (gd e2 31) (gd e2 32) w2) (fun e2 w2=>μ (gd e2 8) (gd e2 24) (gd e2 25) (gd e2 26) (gd e2 27) (gd e2 28) (gd e2 29) (gd e2 30) (gd e2 31) (gd e2 32) w2) h0 ?_;intro e' w' hI
 have h:=hs (gd e' 8) (gd e' 24) (gd e' 25) (gd e' 26) (gd e' 27) (gd e' 28) (gd e' 29) (gd e' 30) (gd e' 31) (gd e' 32) (zM zf (fun i=>gd e' i) (zr [(8,1),(19,17)])) w' _ hI rfl;revert h;generalize (lf K B1)=qc0;exact mpF
theorem Ho {B1:KE}(h:tG K B1 (gC s0 s2 r5 oF jj jk x10 C5 C6 C7 C8 C9 D0 D1 D2 D3 E2 E3 E4 E5 E6 E7 E8 E9 F0 F8 F9 G0 G1 zf) w):lf K B1 (gC s0 s2 r5 oF jj jk x10 C5 C6 C7 C8 C9 D0 D1 D2 D3 E2 E3 E4 E5 E6 E7 E8 E9 F0 F8 F9 G0 G1 zf) w:=by
 delta lf;revert h;delta tG lg;exact mpF
theorem Hq {B1:KE}(Inv:vI 10)(μ:vM 10)(h0:Inv jk E2 E3 E4 E5 E6 E7 E8 E9 F0 w)(hs:∀(j C V M u X U R I J:Value) (dd:Nat→Value) (w:World) (m:Nat),Inv j C V M u X U R I J w→m=μ j C V M u X U R I J w →
  sF 108 r5 1 (fun D8=>sL 3 D8 fun D9=>sti (bin Q .lss 3 false false j D9) fun E0 w=>aJ E0 true (fun Z=>sF 108 r5 2 (fun E3=>sI 33 E3 j fun E4=>sL 2 E4 fun E5=>sF 108 r5 3 fun E7=>sI 33 E7 j fun E8=>sL 2 E8 fun E9=>sti (bin Q .geq 2 false false E5 E9) fun F0=>Z [j,E3,E4,E5,j,E7,E8,E9,F0]) w) (fun k=>k [uu,uu,uu,uu,uu,uu,uu,uu,uu] w) fun d=>sti (pick E0 (gd d 8) cF) fun F1 w=>cond F1 (nC j (fun F3 w=>(Inv F3 (gd d 0) (gd d 1) (gd d 2) (gd d 3) (gd d 4) (gd d 5) (gd d 6) (gd d 7) (gd d 8) w)∧((μ F3 (gd d 0) (gd d 1) (gd d 2) (gd d 3) (gd d 4) (gd d 5) (gd d 6) (gd d 7) (gd d 8) w)<m)) w) (lg K B1 (gC s0 s2 r5 oF jj j x10 C5 C6 C7 C8 C9 D0 D1 D2 D3 (gd d 0) (gd d 1) (gd d 2) (gd d 3) (gd d 4) (gd d 5) (gd d 6) (gd d 7) (gd d 8) F8 F9 G0 G1 (zV (zV dd 36 [j,D8,D9,E0,E0]) 50 [F1])) w)) w.drew):tG K B1 (gC s0 s2 r5 oF jj jk x10 C5 C6 C7 C8 C9 D0 D1 D2 D3 E2 E3 E4 E5 E6 E7 E8 E9 F0 F8 F9 G0 G1 zf) w:=by
 refine aQ (cd f17 [1,1,1,1,1,0,0,0,1,0,0,0]) (zr [(9,1),(36,17)]) (by kernel_rfl) (fun e2 w2=>Inv (gd e2 9) (gd e2 41) (gd e2 42) (gd e2 43) (gd e2 44) (gd e2 45) (gd e2 46) (gd e2 47) (gd e2 48) (gd e2 49) w2) (fun e2 w2=>μ (gd e2 9) (gd e2 41) (gd e2 42) (gd e2 43) (gd e2 44) (gd e2 45) (gd e2 46) (gd e2 47) (gd e2 48) (gd e2 49) w2) h0 ?_;intro e' w' hI
 have h:=hs (gd e' 9) (gd e' 41) (gd e' 42) (gd e' 43) (gd e' 44) (gd e' 45) (gd e' 46) (gd e' 47) (gd e' 48) (gd e' 49) (zM zf (fun i=>gd e' i) (zr [(9,1),(36,17)])) w' _ hI rfl;revert h;generalize (lg K B1)=qc0;exact mpF
theorem Hr {B1:KE}(h:ai Q 108 r5 1 (fun F5=>ld Q 3 F5 fun F6=>bin Q .eql 3 false false jj F6 fun F7 w=>aJ F7 false (fun k58=>ai Q 108 r5 1 (fun F9=>ld Q 3 F9 fun G0=>bin Q .eql 3 false false jk G0 fun G1=>k58 [jk,F9,G0,G1]) w) (fun k=>k [uu,uu,uu,uu] w) fun us58=>pick F7 cT (gd us58 3) fun G2 w=>cond G2 (K oF w) (aK (fun S w=>hF S 108 r5 2 fun G5=>hI S 33 G5 jj fun G6=>hL S 2 G6 fun G7=>hF S 108 r5 3 fun G9=>hI S 33 G9 jj fun H0=>hL S 2 H0 fun H1=>hld (fun _=>True) (bin Q .sub 2 false false G7 H1) fun H2=>hF S 108 r5 3 fun H4=>hI S 33 H4 jk fun H5=>hL S 2 H5 fun H6=>hF S 108 r5 2 fun H7=>hI S 33 H7 jk fun H8=>hL S 2 H8 fun H9=>hld (fun _=>True) (bin Q .sub 2 false false H6 H9) fun I0=>blt Q .min #[2,2] 2 #[false,false] #[H2,I0] (fun I1=>aK fun _=>qA K B1 (gC s0 s2 r5 oF jj jk I1 C5 C6 C7 C8 C9 D0 D1 D2 D3 E2 E3 E4 E5 E6 E7 E8 E9 F0 (gd us58 0) (gd us58 1) (gd us58 2) (gd us58 3) (zV (zV (zV zf 53 [jj,F5,F6,F7,F7]) 62 [G2]) 64 [jj,G5,G6,G7,jj,G9,H0,H1,H2,jk,H4,H5,H6,jk,H7,H8,H9,I0,I1]))) w) w.drew)) w):lg K B1 (gC s0 s2 r5 oF jj jk x10 C5 C6 C7 C8 C9 D0 D1 D2 D3 E2 E3 E4 E5 E6 E7 E8 E9 F0 F8 F9 G0 G1 zf) w:=by
 delta lg
 refine Eq.mp (congrArg (fun c=>ae Q c _ _ _ _ w) (by kernel_rfl:(rep [1,1] (cd f17 [1,1,1,1,1,0,0,0,1,1,1,1]) (cd f17 [1,1,1,1,1,0,0,0,1,1]))=(cd f17 [1,1,1,1,1,0,0,0,1,1]))) ?_
 revert h
 delta qA
 generalize (cd f17 [1,1,1,1,1,0,0,0,1,1,1,1])=xc0
 exact mpF
theorem Hs {B1:KE}(h:ai Q 108 r5 2 (fun I2=>aU Q 33 I2 jj fun I3=>ld Q 2 I3 fun I4=>bin Q .sub 2 false false I4 x10 fun I6=>ai Q 108 r5 2 fun I7=>aU Q 33 I7 jj fun I8=>sto Q 2 I8 I6 fun _=>ai Q 108 r5 2 fun J0=>aU Q 33 J0 jk fun J1=>ld Q 2 J1 fun J2=>bin Q .add 2 false false J2 x10 fun J3=>ai Q 108 r5 2 fun J4=>aU Q 33 J4 jk fun J5=>sto Q 2 J5 J3 fun _ w=>aK (fun S w=>hF S 108 r5 0 fun J6=>hL S 56 J6 fun J7=>hI S 56 J7 jj fun J8=>hL S 3 J8 fun J9=>hF S 108 r5 0 fun L0=>hL S 56 L0 fun L1=>hI S 56 L1 jk fun L2=>hL S 3 L2 fun L3=>hld S (bld Q 69 #[(0,J9),(1,L3),(2,x10)]) fun L4=>dl Q 65 1 #[(0,L4)] (fun L5=>aK fun _=>blt Q .append #[65,65] 65 #[false,false] #[oF,L5] fun L6=>aK fun _=>B1 (gC s0 s2 r5 L6 jj jk x10 C5 C6 C7 C8 C9 D0 D1 D2 D3 E2 E3 E4 E5 E6 E7 E8 E9 F0 F8 F9 G0 G1 (zV zf 83 [jj,I2,I3,I4,x10,I6,I7,I8,jk,J0,J1,J2,x10,J3,J4,J5,oF,J6,J7,jj,J8,J9,L0,L1,jk,L2,L3,x10,L4,L5,L6]))) w) w.drew) w):qA K B1 (gC s0 s2 r5 oF jj jk x10 C5 C6 C7 C8 C9 D0 D1 D2 D3 E2 E3 E4 E5 E6 E7 E8 E9 F0 F8 F9 G0 G1 zf) w:=by
 delta qA;exact mpK h
end
attribute [irreducible] tE lf tF lg tG qA
def il (s0 i1 s2 kc n7 A2 A3 A4 C1 C2 C3:Value)(zf:Nat→Value):List Value:=s0::i1::s2::zf 3::zf 4::kc::zf 6::n7::zT zf 8 3 (A2::A3::A4::zT zf 14 6 (C1::C2::C3::zT zf 23 20 ([])))
def fT (K:KV):KE:=ae Q (cd f13 [1,1,1]) (rk f13 K) xf (rk f13 K)
def uQ (K:KV):KE:=ae Q (cd f13 [1,1,0,1,0]) (fT K) (xx xf (fT K) 0) (rk f13 K)
def gD (K:KV)(B1:KE):KE:=ae Q (cd f13 [1,1,0,1,0,0,1,1,1]) B1 (xx xf (fT K) 0) (rk f13 K)
def uR (K:KV)(B1:KE):KE:=ae Q (cd f13 [1,1,0,1,0,0,1,1,0,0,1,1,0]) (gD K B1) (xx (xx (xx xf (fT K) 0) (gD K B1) 1) (gD K B1) 2) (rk f13 K)
def ni (K:KV)(B1:KE)(B2:KE):KE:=ae Q (cd f13 [1,1,0,1,0,0,1,1,0,0,1,1,0,0,1,1,1]) B2 (xx (xx (xx xf (fT K) 0) (gD K B1) 1) (gD K B1) 2) (rk f13 K)
def rF (K:KV)(B1:KE)(B2:KE):KE:=ae Q (cd f13 [1,1,0,1,0,0,1,1,0,0,1,1,0,0,1,1,0]) (ni K B1 B2) (xx (xx (xx xf (fT K) 0) (gD K B1) 1) (gD K B1) 2) (rk f13 K)
section
variable {K:KV}{s0 i1 s2 kc n7 A2 A3 A4 C1 C2 C3:Value}{zf:Nat→Value}{w:World}
theorem Lp {K:KV}{s0 i1:Value}{w:World}(h:box Q 30 s0 (fun s2=>ai Q 30 s2 3 fun A1=>ld Q 27 A1 fun A2=>lN 27 A2 fun A3=>uQ K (il s0 i1 s2 cN uu A2 A3 (ci 0) uu uu uu (zV (zV zu 4 [cN]) 10 [A1]))) w):Gives Q 13 #[s0,i1] w K:=by
 refine aH func13 (by kernel_rfl) ?_;revert h;delta uQ fT;exact mpF
theorem IG (Inv:Value→Value→World→Prop)(μ:Value→Value→World→Nat)(h0:Inv kc A4 w)(I:∀(d j:Value) (C:Nat→Value) (w:World) (m:Nat),Inv d j w→m=μ d j w →
  lS j A3 (fun A5 w=>cond A5 (aU Q 27 A2 j (fun A6=>ld Q 38 A6 fun A7=>alc Q 38 fun n7=>sto Q 38 n7 A7 fun _=>ld Q 30 s2 fun A8=>ai Q 38 n7 0 fun A9=>ld Q 24 A9 fun C0=>call Q 17 #[A8,C0] fun C1=>lN 65 C1 fun C2=>uR K (fun e2 u=>(Inv (gd e2 5) (gd e2 13) u)∧((μ (gd e2 5) (gd e2 13) u)<m)) (il s0 i1 s2 d n7 A2 A3 j C1 C2 (ci 0) (zV C 14 [A5,A6,A7,A8,A9,C0]))) w) (fT K (il s0 i1 s2 d (C 7) A2 A3 j (C 20) (C 21) (C 22) (zV C 14 [A5])) w)) w):uQ K (il s0 i1 s2 kc n7 A2 A3 A4 C1 C2 C3 zf) w:=by
 refine aQ (cd f13 [1,1,0,1,0,0]) (zr [(5,1),(7,1),(9,1),(13,29)]) (by kernel_rfl) (fun e2 u=>Inv (gd e2 5) (gd e2 13) u) (fun e2 u=>μ (gd e2 5) (gd e2 13) u) h0 ?_;intro e' w' hI;have h:=I (gd e' 5) (gd e' 13) (zM zf (fun i=>gd e' i) (zr [(5,1),(7,1),(9,1),(13,29)])) w' _ hI rfl;revert h;delta uR gD;generalize (fT K)=qc0;exact mpF
theorem II {B1:KE}(Inv:Value→Value→World→Prop)(μ:Value→Value→World→Nat)(h0:Inv kc C3 w)(hs:∀(out5' C3':Value) (dd:Nat→Value) (w:World) (m:Nat),Inv out5' C3' w→m=μ out5' C3' w →
  lS C3' C2 (fun C4 w=>cond C4 (rF K B1 (fun e2 w2=>(Inv (gd e2 5) (gd e2 22) w2)∧((μ (gd e2 5) (gd e2 22) w2)<m)) (il s0 i1 s2 out5' n7 A2 A3 A4 C1 C2 C3' (zV dd 23 [C4])) w) (gD K B1 (il s0 i1 s2 out5' n7 A2 A3 A4 C1 C2 C3' (zV dd 23 [C4])) w)) w):uR K B1 (il s0 i1 s2 kc n7 A2 A3 A4 C1 C2 C3 zf) w:=by
 refine aQ (cd f13 [1,1,0,1,0,0,1,1,0,0,1,1,0,0]) (zr [(5,1),(9,1),(22,19)]) (by kernel_rfl) (fun e2 w2=>Inv (gd e2 5) (gd e2 22) w2) (fun e2 w2=>μ (gd e2 5) (gd e2 22) w2) h0 ?_
 intro e' w' hI
 have h:=hs (gd e' 5) (gd e' 22) (zM zf (fun i=>gd e' i) (zr [(5,1),(9,1),(22,19)])) w' _ hI rfl
 refine Eq.mp (congrArg (fun c=>ae Q c _ _ _ _ w') (by kernel_rfl:(rep [1,1,0] (cd f13 [1,1,0,1,0,0,1,1,0,0,1,1,0,0,1,1,0]) (cd f13 [1,1,0,1,0,0,1,1,0,0,1,1,0,0]))=(cd f13 [1,1,0,1,0,0,1,1,0,0,1,1,0,0]))) ?_
 revert h
 delta rF ni
 generalize (cd f13 [1,1,0,1,0,0,1,1,0,0,1,1,0,0,1,1,0])=xc0
 generalize (fT K)=qc0
 generalize (gD K B1)=qc1
 exact mpF
theorem IJ (h:K kc w):fT K (il s0 i1 s2 kc n7 A2 A3 A4 C1 C2 C3 zf) w:=by
 delta fT;exact mpK h
theorem IK {B1:KE}{B2:KE}(h:aU Q 65 C1 C3 (fun C5=>ld Q 69 C5 fun C6=>alc Q 69 fun d=>sto Q 69 d C6 fun _=>ai Q 69 d 0 fun C7=>ld Q 3 C7 fun C8=>bin Q .eql 3 false false C8 i1 fun D0 w=>cond D0 (ai Q 38 n7 0 (fun D2=>ld Q 24 D2 fun D3=>ai Q 69 d 1 fun D4=>ld Q 3 D4 fun D5=>ai Q 69 d 2 fun D6=>ld Q 2 D6 fun D7=>bld Q 61 #[(0,cb 5),(1,D3),(2,D5),(3,D7)] fun D8=>dl Q 58 1 #[(0,D8)] fun D9=>blt Q .append #[58,58] 58 #[false,false] #[kc,D9] fun E0=>ni K B1 B2 (il s0 i1 s2 E0 n7 A2 A3 A4 C1 C2 C3 (zV (zV zf 9 [d]) 24 [C5,C6,C7,C8,i1,D0,kc,D2,D3,D4,D5,D6,D7,D8,D9,E0]))) w) (ni K B1 B2 (il s0 i1 s2 kc n7 A2 A3 A4 C1 C2 C3 (zV (zV zf 9 [d]) 24 [C5,C6,C7,C8,i1,D0])) w)) w):rF K B1 B2 (il s0 i1 s2 kc n7 A2 A3 A4 C1 C2 C3 zf) w:=by
 delta rF;revert h;generalize (ni K B1 B2)=qc0;generalize (fT K)=qc1;generalize (gD K B1)=qc2;exact mpF
theorem IL {B1:KE}(h:nC A4 (fun E2=>B1 (il s0 i1 s2 kc n7 A2 A3 E2 C1 C2 C3 (zV zf 41 [E2]))) w):gD K B1 (il s0 i1 s2 kc n7 A2 A3 A4 C1 C2 C3 zf) w:=by
 delta gD;revert h;generalize (fT K)=qc0;exact mpF
theorem AW {B1:KE}{B2:KE}(h:nC C3 (fun E1=>B2 (il s0 i1 s2 kc n7 A2 A3 A4 C1 C2 E1 (zV zf 40 [E1]))) w):ni K B1 B2 (il s0 i1 s2 kc n7 A2 A3 A4 C1 C2 C3 zf) w:=by
 delta ni;revert h;generalize (fT K)=qc0;generalize (gD K B1)=qc1;exact mpF
end
attribute [irreducible] fT uQ gD uR ni rF
end
section
attribute [local irreducible] bin un conv call dC blt slc ai fld aU idx lkp eX jl eSt rng nxt ent ext alc box bld dl ld sto bo eS mkS ifc pick rdy wts aJ sti cond bM Gives ae fU gX cOp
section
open Go.RowKit
def hK (l:List Int)(k:Nat):List Value:=(List.range 6).map fun j=>iv (if j<k then nB l j else 0)
def fV (a:Option Addr)(n c:Nat)(cnt:Int)(H S:List Value):List Value:=.slice a n c::iv cnt::(H++S)
theorem ku (l:List Int)(k:Nat):(hK l k).length=6:=by simp[hK]
theorem Rv {a:Option Addr}{n c k:Nat}{cnt:Int}{l:List Int}{S:List Value}(d:k<6):(fV a n c cnt (hK l k) S).set (2+k) (iv (nB l k))=fV a n c cnt (hK l (k+1)) S:=by
 match k,d with
 | 0,_=>rfl
 | 1,_=>rfl
 | 2,_=>rfl
 | 3,_=>rfl
 | 4,_=>rfl
 | 5,_=>rfl
theorem Rw {a:Option Addr}{n c k m:Nat}{cnt:Int}{l h:List Int}(d:k<6):(fV a n c cnt (hK h m) (hK l k)).set (8+k) (iv (nB l k))=fV a n c cnt (hK h m) (hK l (k+1)):=by
 match k,d with
 | 0,_=>rfl
 | 1,_=>rfl
 | 2,_=>rfl
 | 3,_=>rfl
 | 4,_=>rfl
 | 5,_=>rfl
theorem u9 {a:Option Addr}{n c:Nat}{cnt:Int}{H S:List Value}(d:H.length=6)(h:S.length=6):(fV a n c cnt H S).length=14:=by simp[fV,d,h]
def z6 :List Value:=List.replicate 6 (iv 0)
def row0 :List Value:=fV none 0 0 0 z6 z6
theorem Rx {I L:List Bool}{k:Nat}{x:Int}(h:x∈eA I L k):1≤x∧x≤k:=by
 simp only[eA,List.mem_map,List.mem_filter,List.mem_range]at h;obtain⟨j,⟨d,_⟩,rfl⟩:=h;omega
theorem Pv {l:List Int}{k:Nat}{a:Int}(d:k<l.length):uw (l.drop k) a=if nB l k<0∨nB l k>MXA-a then none else uw (l.drop (k+1)) (a+nB l k):=by
 rw[List.drop_eq_getElem_cons d]
 have:nB l k=l[k]:=by simp[nB,List.getD,d]
 rw[this];rfl
theorem Pw {d:Int}{c k:Nat}(h:k<c):nB (shL d c) k=shr d c k:=by simp[nB,shL,List.getD,h]
theorem TF {A d:List Int}{k:Nat}(h:k<d.length):nB (nN A d) k=sv A (nB d k-1).toNat:=by simp[nB,nN,List.getD,h]
theorem TG (L:List ND)(id:Int):(ofN L id).1.length=8:=by unfold ofN;split<;>simp[quA,qz]
theorem TH (L:List ND)(id:Int):∀v∈(ofN L id).1,v.oneCell'=true:=by
 unfold ofN;split
 ·simp only[quA,List.mem_cons,List.mem_map];rintro v (rfl|rfl|⟨k,_,rfl⟩)<;>rfl
 ·simp[qz,iv,Value.oneCell']
theorem vD {a:Option Addr}{n c:Nat}{cnt:Int}{H S:List Value}(j:∀v∈H,v.oneCell'=true)(d:∀v∈S,v.oneCell'=true):∀v∈fV a n c cnt H S,v.oneCell'=true:=by
 simp only[fV,List.mem_cons,List.mem_append];rintro v (rfl|rfl|h|h)
 ·rfl
 ·rfl
 ·exact j v h
 ·exact d v h
theorem AX (l:List Int)(k:Nat):∀v∈hK l k,v.oneCell'=true:=by
 simp only[hK,List.mem_map];rintro v ⟨j,_,rfl⟩;rfl
theorem UH {A:List Int}{j:Nat}(d:j<6):(quA A)[2+j]? = some (iv (sv A j)):=by
 rw[show 2+j=j+1+1 by omega];simp[quA,d]
theorem yO {w:World}{K:KV}{b o:Nat}(h:K (.pointer (some ⟨b,o+0,none⟩)) w):ai Tryz.prog 108 (.pointer (some ⟨b,o,none⟩)) 0 K w:=aM (by kernel_rfl) h
theorem qg {w:World}{K:KV}{b o:Nat}(h:K (.pointer (some ⟨b,o+1,none⟩)) w):ai Tryz.prog 108 (.pointer (some ⟨b,o,none⟩)) 1 K w:=aM (by kernel_rfl) h
theorem qh {w:World}{K:KV}{b o:Nat}(h:K (.pointer (some ⟨b,o+2,none⟩)) w):ai Tryz.prog 108 (.pointer (some ⟨b,o,none⟩)) 2 K w:=aM (by kernel_rfl) h
theorem rG {w:World}{K:KV}{b o:Nat}(h:K (.pointer (some ⟨b,o+8,none⟩)) w):ai Tryz.prog 108 (.pointer (some ⟨b,o,none⟩)) 3 K w:=aM (by kernel_rfl) h
section
variable {w:World}{K:KV}
theorem UI {t:Nat}{u cs:List Value}{v:Bool}(I:blk w t 108 u)(h0:u.length=14)(C:cs.length=14)(U:∀v∈cs,v.oneCell'=true)(h:∀w',Oth t w w'→K (.tuple #[.agg cs.toArray,.bool v]) w'):sto Tryz.prog 108 (.pointer (some ⟨t,0,none⟩)) (.agg cs.toArray) (fun _t w=>bM Tryz.prog [(some 108,.pointer (some ⟨t,0,none⟩)),(none,.bool v)] K w) w:=by
 refine iz (n:=14) (vs:=cs) (by kernel_rfl) C I (by omega) U fun w1 d J=>?_;have d:blk w1 t 108 cs:=by
  rw[List.take_zero,List.nil_append,List.drop_of_length_le (by omega),List.append_nil]at d;exact d
 have R:=run_loadVar_mid (P:=Tryz.prog) w1 t 0 108 cs _ (fun j v M=>by rw[d.cell,Nat.zero_add];exact M) underlying108 rfl (by rw[C];kernel_rfl);have e:(ks [(some 108,.pointer (some ⟨t,0,none⟩)),(none,.bool v)]).run Tryz.prog w1=.ok (.tuple #[.agg cs.toArray,.bool v]) w1:=by
  simp[ks,asAddr,Sem.run_bind,R]
 unfold bM;rw[e];exact⟨rfl,h w1 J⟩
theorem Px {s:STA}{id:Int}(hs:SK w s)(h:∀w' v,Below w.heap.size w w'→(match oX s id with|none=>v=.tuple #[.agg row0.toArray,.bool false]|some (has,sh)=>∃a c,ON w' w.heap.size a (eA s.I s.L 6).length c (eA s.I s.L 6)∧v=.tuple #[.agg (fV a (eA s.I s.L 6).length c (eA s.I s.L 6).length (hK has (eA s.I s.L 6).length) (hK sh (eA s.I s.L 6).length)).toArray,.bool true])→K v w'):call Tryz.prog 32 #[.agg (saC s).toArray,.int .u64 id] K w:=by
 refine aB (goK func32) (Lo ?_);refine dc fun w1 hb b1 s1=>?_;have hb:blk w1 w.heap.size 30 (saC s):=by simpa[Value.cells]using hb
 refine dH (z:=.agg row0.toArray) (by kernel_rfl) fun w2 ht b2 s2=>?_;have ht:blk w2 w1.heap.size 108 row0:=ht;have az:=af b2 hb hb.lt;have B2:Below w.heap.size w w2:=b1.trans (b2.mono (by omega));have ar:((saC s).drop 0).take 20=saC s:=by rw[List.drop_zero,List.take_of_length_le (by rw[hs.len];omega)]
 refine ldA (n:=20) (vs:=saC s) underlying30 rfl (by kernel_rfl) az ar hs.len ?_;refine Pu (hs.bel B2 (Nat.le_refl _)) fun w3 a c ho b3=>?_;have dj:(eA s.I s.L 6).length≤6:=tU _ _ 6;have b0:∀x∈eA s.I s.L 6,1≤x∧x≤6:=fun x hx=>Rx hx;generalize b8:eA s.I s.L 6=lv at *;generalize hn:lv.length=n at *;refine fS (vs:=fV a n c 0 z6 z6) (by kernel_rfl) ?_
 refine dH (z:=.agg row0.toArray) (by kernel_rfl) fun w4 hr b4 s4=>?_;have hr:blk w4 w3.heap.size 108 row0:=hr;refine iz (n:=14) (vs:=fV a n c 0 z6 z6) (by kernel_rfl) rfl hr (by simp[row0,fV,z6]) (vD (by simp[z6,iv,Value.oneCell']) (by simp[z6,iv,Value.oneCell'])) fun w5 M o5=>?_;have M:blk w5 w3.heap.size 108 (fV a n c 0 z6 z6):=M;have c4:=M.lt
 have V:Below w3.heap.size w3 w5:=b4.trans o5.below;have c3:=b3.size;have B3:Below w.heap.size w w3:=B2.trans (b3.mono B2.size);have B5:Below w.heap.size w w5:=B3.trans (V.mono B3.size);have cL:=af V (af b3 az az.lt) (by omega);refine ldA (n:=20) (vs:=saC s) underlying30 rfl (by kernel_rfl) cL ar hs.len ?_;refine Vq (hs.bel B5 (Nat.le_refl _)) fun w6 b6=>?_;refine eB <|eC ?_
 refine dH (z:=.agg qz.toArray) (by kernel_rfl) fun w7 u b7 s7=>?_;have u:blk w7 w6.heap.size 135 qz:=u;have ck:=TG s.nodes id;refine iz (n:=8) (vs:=(ofN s.nodes id).1) (by kernel_rfl) ck u (by simp[qz]) (TH _ _) fun w8 X o8=>?_;have X:blk w8 w6.heap.size 135 (ofN s.nodes id).1:=by
  rw[List.take_zero,List.nil_append,List.drop_of_length_le (by simp[qz]),List.append_nil]at X;exact X
 have bW:Below w6.heap.size w6 w8:=b7.trans o8.below;have a3:Below w5.heap.size w5 w8:=b6.trans (bW.mono b6.size);have bd:=af a3 M M.lt;have bt:=V.size;have c5:=b6.size;have c6:=bW.size;have b5:Below w3.heap.size w3 w8:=V.trans (a3.mono bt);have cD:ON w8 w2.heap.size a n c lv:=ho.bel b5;have cG:=af b5 (af b3 ht ht.lt) (by omega)
 have B8:Below w.heap.size w w8:=B5.trans (a3.mono B5.size);refine yO <|lK (v:=.slice a n c) bd rfl <|bx underlying56 <|qg ?_;refine dY (fun _=>by kernel_rfl) bd (by simp[fV]) rfl fun w9 J o9=>?_;have J:blk w9 w3.heap.size 108 (fV a n c n z6 z6):=J;have a8:=o9.blk X (by omega);have a4:=o9.blk cG (by omega)
 have c1:ON w9 w2.heap.size a n c lv:=di cD fun k hk=>o9.other k (by have:=World.ownsRow.lt ho k hk;omega);have c7:w3.heap.size<w9.heap.size:=J.lt;have B9:Below w.heap.size w w9:=B8.trans (o9.below.mono (by omega))
 have no:∀w',blk w' w1.heap.size 108 row0→Below w.heap.size w w'→oX s id=none→bld Tryz.prog 108 #[] (fun t w=>sto Tryz.prog 108 (.pointer (some ⟨w1.heap.size,0,none⟩)) t (fun _t w=>bM Tryz.prog [(some 108,.pointer (some ⟨w1.heap.size,0,none⟩)),(none,.bool false)] K w) w) w':=by
  intro w' h1 h2 h3;refine fS (vs:=row0) (by kernel_rfl) ?_;refine UI h1 rfl rfl (vD (by simp[z6,iv,Value.oneCell']) (by simp[z6,iv,Value.oneCell'])) fun cQ c2=>?_;refine h cQ _ (h2.trans (c2.below.mono (by omega))) ?_;rw[h3]
 refine cW ?_;cases hx:s.nodes[posN s.nodes id]? with
 | none =>
  have an:ofN s.nodes id=(qz,9):=by unfold ofN;rw[hx]
  rw[an];refine iZ (by decide) <|bR (by decide) <|bu ?_;exact no w9 a4 B9 (by unfold oX;rw[hx])
 | some x =>
  have an:ofN s.nodes id=(quA x.A,0):=by unfold ofN;rw[hx]
  rw[an]at a8;rw[an];refine dZ (show ¬((0:Int)≠0)by decide) <|qg <|lK (v:=.int .i64 (n:Nat)) J rfl <|bm <|bE (show ¬((0:Int)≠0)by decide) ?_;by_cases ad:(n:Int)=0
  ·refine ay ad ?_
   have:lv=[]:=List.length_eq_zero_iff.1 (by omega)
   exact no w9 a4 B9 (by unfold oX;rw[hx,b8,this])
  refine au ad <|IA <|yO <|lK (v:=.slice a n c) J rfl <|bx underlying56 ?_;have d:oX s id=match uw (nN x.A lv) 0 with|none=>none|some all=>some (nN x.A lv,shL all n):=by
   unfold oX;rw[hx,b8];cases lv with
   | nil=>simp at hn;omega
   | cons i r =>
    simp only[hn]<;>(cases uw (nN x.A (i::r)) 0<;>rfl)
  have c9:(nN x.A lv).length=n:=by rw[Ln,hn]
  have cp:∀k,k<n→nB (nN x.A lv) k=sv x.A (nB lv k-1).toNat:=fun k hk=>TF (by omega);generalize nN x.A lv=has at *
  refine IB (Inv:=fun al kv _ _ _ _ wr=>∃(k:Nat) (A:Int),al=iv A∧kv=.int .i64 (k:Nat)∧k≤n∧0≤A∧A≤MXA∧uw has 0=uw (has.drop k) A∧blk wr w3.heap.size 108 (fV a n c n (hK has k) z6)∧blk wr w6.heap.size 135 (quA x.A)∧blk wr w1.heap.size 108 row0∧ON wr w2.heap.size a n c lv∧Below w.heap.size w wr)
   (μ:=fun _ kv _ _ _ _ _=>n-(intOf kv).toNat) ⟨0,0,rfl,rfl,by omega,by omega,by decide,rfl,J,a8,a4,c1,B9⟩ ?_
  rintro _ _ _ _ _ _ dd wr m ⟨k,A,rfl,rfl,hk,ag,cc,C,a2,bi,ap,aS,BB⟩ cX;refine aV ?_;by_cases cn:k<n
  ·refine ay (by omega) ?_;have be:RV wr a n c (lv.map iv):=OV.rv aS;refine AB underlying56 (fun _=>by kernel_rfl) (by omega) (by omega) be.some_ ?_;rw[Int.toNat_natCast];have cO:(lv.map iv)[k]? = some (iv (nB lv k)):=by simp[nB,List.getD,show k<lv.length by omega]
   refine vk (fun _=>by kernel_rfl) (be.cell _ _ cO) ?_;have a9:nB lv k∈lv:=by
    have:nB lv k=lv[k]'(by omega):=by simp[nB,List.getD,show k<lv.length by omega]
    rw[this];exact List.getElem_mem _
   have c8:=b0 _ a9;unfold iv;refine bg (by omega) (by omega) <|Lg <|dB underlying33 (s:=1) (fun _=>by kernel_rfl) (by omega) (by omega) <|lK (v:=iv (nB has k)) bi (by rw[cp k cn,show 0+2+(nB lv k-1).toNat*1=2+(nB lv k-1).toNat by omega];exact UH (by omega)) ?_;have hd:=Pv (l:=has) (k:=k) (a:=A) (by omega);have a6:nB has k<0∨nB has k>MXA-A→oX s id=none:=fun u=>by
    rw[d,C,hd,if_pos u]
   simp only[MXA]at hd a6 cc;unfold iv;refine aV ?_;by_cases h1:nB has k<0
   ·refine iZ h1 <|bR h1 <|bu ?_;exact no wr ap BB (a6 (.inl h1))
   ·refine dZ h1 <|bg (by omega) (by omega) <|cB <|bE h1 ?_;by_cases h2:1125899906842624-A<nB has k
    ·refine ay h2 ?_;exact no wr ap BB (a6 (.inr h2))
    ·refine au h2 <|qh <|dB underlying33 (s:=1) (fun _=>by kernel_rfl) (by omega) (by omega) ?_;refine dY (fun _=>by kernel_rfl) a2 (by rw[u9 (ku _ _) rfl];omega) rfl fun wz Z oz=>?_;rw[show 0+2+(k:Int).toNat*1=2+k by omega]at Z;have Z:blk wz w3.heap.size 108 (fV a n c n (hK has (k+1)) z6):=by
      have e:=Rv (a:=a) (n:=n) (c:=c) (cnt:=(n:Int)) (l:=has) (S:=z6) (k:=k) (by omega);unfold iv at e;rw[←e];exact Z
     refine aR (by omega) (by omega) <|aR (by omega) (by omega) ?_;refine⟨⟨k+1,A+nB has k,rfl,by simp,by omega,by omega,by simp only[MXA];omega,?_,Z,oz.blk bi (by omega),oz.blk ap (by omega),di aS fun q u=>oz.other q (by have:=World.ownsRow.lt ho q u;omega),BB.trans (oz.below.mono (by omega))⟩,by rw[cX];simp[intOf];omega⟩;rw[C,hd,if_neg (by omega)]
  ·refine au (by omega) ?_;obtain rfl:k=n:=by omega
   rw[List.drop_of_length_le (by omega)]at C;have ch:oX s id=some (has,shL A k):=by rw[d,C];rfl
   clear d;refine IC <|qg <|lK (v:=.int .i64 (k:Nat)) a2 rfl ?_;generalize cj:shL A k=sh at *;have bb:∀j,j<k→nB sh j=shr A k j:=fun j hj=>by rw[←cj];exact Pw hj
   refine ID (Inv:=fun jv wr=>∃j:Nat,jv=.int .i64 (j:Nat)∧j≤k∧blk wr w3.heap.size 108 (fV a k c k (hK has k) (hK sh j))∧blk wr w1.heap.size 108 row0∧ON wr w2.heap.size a k c lv∧Below w.heap.size w wr) (μ:=fun jv _=>k-(intOf jv).toNat)
    ⟨0,rfl,by omega,a2,ap,aS,BB⟩ ?_
   rintro _ dg wu m2 ⟨j,rfl,hj,a7,bk,ce,BU⟩ cV;refine aV ?_;by_cases cm:j<k
   ·refine ay (by omega) ?_;have cl:A.tdiv (k:Nat)=A / (k:Nat):=Int.tdiv_eq_ediv_of_nonneg ag;have cI:A.tmod (k:Nat)=A%(k:Nat):=Int.tmod_eq_emod_of_nonneg ag;have da:0≤A / (k:Nat):=Int.ediv_nonneg ag (by omega);have dk:A / (k:Nat)≤A:=Int.ediv_le_self _ ag;simp only[MXA]at cc
    have cg:∀R,blk R w3.heap.size 108 (fV a k c k (hK has k) (hK sh (j+1)))→Oth w3.heap.size wu R→(∃j':Nat,Value.int .i64 ((j:Int)+1)=.int .i64 (j':Nat)∧j'≤k∧blk R w3.heap.size 108 (fV a k c k (hK has k) (hK sh j'))∧blk R w1.heap.size 108 row0∧ON R w2.heap.size a k c lv∧Below w.heap.size w R)∧k-(intOf (.int .i64 ((j:Int)+1))).toNat<m2:=by
     intro R h1 U;exact⟨⟨j+1,by simp,by omega,h1,U.blk bk (by omega),di ce fun q u=>U.other q (by have:=World.ownsRow.lt ho q u;omega),BU.trans (U.below.mono (by omega))⟩,by rw[cV];simp[intOf];omega⟩
    have a0:(fV a k c k (hK has k) (hK sh j)).length=14:=u9 (ku _ _) (ku _ _);have av:=Rw (a:=a) (n:=k) (c:=c) (cnt:=(k:Int)) (l:=sh) (h:=has) (m:=k) (k:=j) (by omega);have b9:nB sh j=A / (k:Nat)+if (j:Int)<A%(k:Nat)then 1 else 0:=bb j cm
    refine IE <|qg <|lK (v:=.int .i64 (k:Nat)) a7 rfl ?_;unfold iv;refine Mg ad ?_;rw[cl,dP (by omega) (by omega)];refine rG <|dB underlying33 (s:=1) (fun _=>by kernel_rfl) (by omega) (by omega) ?_;rw[show 0+8+(j:Int).toNat*1=8+j by omega];refine dY (fun _=>by kernel_rfl) a7 (by rw[a0];omega) rfl fun R hv U=>?_;refine qg ?_
    refine lK (v:=.int .i64 (k:Nat)) hv (by rw[List.getElem?_set_ne (by omega)];rfl) ?_;refine xT ad ?_;rw[cI];refine aV ?_;by_cases am:(j:Int)<A%(k:Nat)
    ·refine ay am <|rG <|dB underlying33 (s:=1) (fun _=>by kernel_rfl) (by omega) (by omega) ?_;rw[show 0+8+(j:Int).toNat*1=8+j by omega];refine lK (v:=.int .i64 (A / (k:Nat))) hv (List.getElem?_set_self (by rw[a0];omega)) ?_;refine aR (by omega) (by omega) <|rG <|dB underlying33 (s:=1) (fun _=>by kernel_rfl) (by omega) (by omega) ?_;rw[show 0+8+(j:Int).toNat*1=8+j by omega]
     refine dY (fun _=>by kernel_rfl) hv (by rw[List.length_set,a0];omega) rfl fun wx ca ox=>?_;refine AV <|aR (by omega) (by omega) ?_;refine cg wx ?_ ⟨ox.os.trans U.os,ox.tape.trans U.tape,ox.output.trans U.output,ox.size.trans U.size,fun q u=>(ox.other q u).trans (U.other q u)⟩;rw[List.set_set]at ca;rw[←av,b9,if_pos am];exact ca
    ·refine au am <|AV <|aR (by omega) (by omega) ?_;refine cg R ?_ U;rw[←av,b9,if_neg am,Int.add_zero];exact hv
   ·refine au (by omega) ?_;obtain rfl:j=k:=by omega
    refine IF <|ldA (n:=14) (vs:=fV a j c j (hK has j) (hK sh j)) underlying108 rfl (by kernel_rfl) a7 (by rw[List.drop_zero,List.take_of_length_le (by rw[u9 (ku _ _) (ku _ _)];omega)]) (u9 (ku _ _) (ku _ _)) ?_;refine UI bk rfl (u9 (ku _ _) (ku _ _)) (vD (AX _ _) (AX _ _)) fun R bv=>?_;refine h R _ (BU.trans (bv.below.mono (by omega))) ?_;rw[ch]
    exact⟨a,c,di (ce.mono (by omega)) fun q u=>bv.other q (by have:=World.ownsRow.lt ho q u;omega),rfl⟩
end
end
end
section
open Go.RowKit
end
section
attribute [local irreducible] bin un conv call dC blt slc ai fld aU idx lkp eX jl eSt rng nxt ent ext alc box bld dl ld sto bo eS mkS ifc pick rdy wts aJ sti cond bM Gives ae fU gX cOp
section
open Go.RowKit
end
section
open Go.RowKit
end
section
open Go.RowKit
end
end
section
open Go.RowKit
end
section
attribute [local irreducible] bin un conv call dC blt slc ai fld aU idx lkp eX jl eSt rng nxt ent ext alc box bld dl ld sto bo eS mkS ifc pick rdy wts aJ sti cond bM Gives ae fU gX cOp
section
open Go.RowKit
end
section
open Go.RowKit
theorem NJ {l:List Int}{i:Int}{k:Nat}(u:k<l.length)(h:nB l k=i)(C:∀j,j<k→nB l j≠i):l.findIdx (· == i)=k:=by
 rw[List.findIdx_eq u];have e:∀j (d:j<l.length),nB l j=l[j]:=fun j d=>by simp[nB,List.getD,d]
 refine⟨by rw[←e k u];simp[h],fun j d=>?_⟩
 have:=C j d
 rw[e j (by omega)]at this;simpa using this
theorem NK {l:List Int}{i:Int}(h:∀j,j<l.length→nB l j≠i):l.findIdx (· == i)=l.length:=by
 rw[List.findIdx_eq_length];intro x u;obtain⟨j,d,rfl⟩:=List.mem_iff_getElem.1 u
 have:=h j d
 rw[show nB l j=l[j]by simp[nB,List.getD,d]]at this;simpa using this
theorem Ht {l:List Int}{n j:Nat}(h:j<6)(d:j<n):(hK l n)[j]? = some (iv (nB l j)):=by simp[hK,h,d]
theorem NL {a:Option Addr}{n c m q j:Nat}{cnt:Int}{h l:List Int}(d:j<6)(u:j<q):(fV a n c cnt (hK h m) (hK l q))[8+j]? = some (iv (nB l j)):=by
 rw[show 8+j=6+j+1+1 by omega];show (hK h m++hK l q)[6+j]? = _;rw[List.getElem?_append_right (by rw[ku];omega),ku,show 6+j-6=j by omega];exact Ht d u
theorem NM {a:Option Addr}{n c m j:Nat}{cnt:Int}{h:List Int}{S:List Value}(d:j<6)(u:j<m):(fV a n c cnt (hK h m) S)[2+j]? = some (iv (nB h j)):=by
 rw[show 2+j=j+1+1 by omega];show (hK h m++S)[j]? = _;rw[List.getElem?_append_left (by rw[ku];omega)];exact Ht d u
section
variable {w:World}{K:KV}
theorem Ep {s:STA}{id i:Int}(hs:SK w s)(h:∀w',Below w.heap.size w w'→K (iv (DN s id i)) w'):call Tryz.prog 16 #[.agg (saC s).toArray,.int .u64 id,.int .i64 i] K w:=by
 refine aB (goK func16) (Jz ?_);refine dc fun w1 hb b1 s1=>?_;have hb:blk w1 w.heap.size 30 (saC s):=by simpa[Value.cells]using hb
 have X:((saC s).drop 0).take 20=saC s:=by rw[List.drop_zero,List.take_of_length_le (by rw[hs.len];omega)]
 refine ldA (n:=20) (vs:=saC s) underlying30 rfl (by kernel_rfl) hb X hs.len ?_;refine Px (hs.bel b1 (Nat.le_refl _)) fun w2 v b2 Z=>?_;have B2:Below w.heap.size w w2:=b1.trans (b2.mono (by omega));have az:(eA s.I s.L 6).length≤6:=tU _ _ 6;have al := @Jl s id;cases U:oX s id with
 | none =>
  rw[U]at Z;subst Z;refine eB <|eC ?_;refine dH (z:=.agg row0.toArray) (by kernel_rfl) fun w3 C b3 s3=>?_;have C:blk w3 w2.heap.size 108 row0:=C;refine iz (n:=14) (vs:=row0) (by kernel_rfl) rfl C (by simp[row0,fV,z6]) (vD (by simp[z6,iv,Value.oneCell']) (by simp[z6,iv,Value.oneCell'])) fun w4 d o4=>?_;refine eh <|bu ?_
  have:=h w4 (B2.trans ((b3.trans o4.below).mono B2.size))
  unfold DN at this;rw[U]at this;exact this
 | some p =>
  obtain⟨J,sh⟩:=p;rw[U]at Z;obtain⟨a,c,ho,rfl⟩:=Z;have av:=al U;refine eB <|eC ?_;have R:DN s id i=sh.getD ((eA s.I s.L 6).findIdx (· == i)) 0:=by unfold DN;rw[U]
  generalize eA s.I s.L 6=lv at *;generalize hn:lv.length=n at *;refine dH (z:=.agg row0.toArray) (by kernel_rfl) fun w3 C b3 s3=>?_;have C:blk w3 w2.heap.size 108 row0:=C;have ag:(fV a n c n (hK J n) (hK sh n)).length=14:=u9 (ku _ _) (ku _ _);refine iz (n:=14) (vs:=fV a n c n (hK J n) (hK sh n)) (by kernel_rfl) ag C (by simp[row0,fV,z6]) (vD (AX _ _) (AX _ _)) fun w4 d o4=>?_
  have d:blk w4 w2.heap.size 108 (fV a n c n (hK J n) (hK sh n)):=by
   rw[List.take_zero,List.nil_append,List.drop_of_length_le (by simp[row0,fV,z6]),List.append_nil]at d;exact d
  have V:Below w2.heap.size w2 w4:=b3.trans o4.below;have an:=ho.bel V;have M:RV w4 a n c (lv.map iv):=OV.rv an;have B4:Below w.heap.size w w4:=B2.trans (V.mono B2.size)
  refine eh <|bw <|yO <|lK (v:=.slice a n c) d rfl <|bx underlying56 <|Hk (Inv:=fun kv wr=>∃k:Nat,kv=.int .i64 (k:Nat)∧k≤n∧wr=w4∧∀j,j<k→nB lv j≠i) (μ:=fun kv _=>n-(intOf kv).toNat) ⟨0,rfl,by omega,rfl,fun j hj=>by omega⟩ ?_;rintro _ dd _ m ⟨k,rfl,hk,rfl,u⟩ ap;refine aV ?_;by_cases am:k<n
  ·refine ay (by omega) <|AB underlying56 (fun _=>by kernel_rfl) (by omega) (by omega) M.some_ ?_;rw[Int.toNat_natCast];have ad:(lv.map iv)[k]? = some (iv (nB lv k)):=by simp[nB,List.getD,show k<lv.length by omega]
   refine vk (fun _=>by kernel_rfl) (M.cell _ _ ad) ?_;unfold iv;refine bm ?_;by_cases he:nB lv k=i
   ·refine ay he <|rG <|dB underlying33 (s:=1) (fun _=>by kernel_rfl) (by omega) (by omega) <|lK (v:=iv (nB sh k)) d (by rw[show 0+8+(k:Int).toNat*1=8+k by omega];exact NL (by omega) am) ?_
    have:=h _ B4
    rw[R,NJ (by omega) he u]at this;exact this
   ·refine au he <|aR (by omega) (by omega) ?_;refine⟨⟨k+1,by simp,by omega,rfl,fun j hj=>?_⟩,by rw[ap];simp[intOf];omega⟩;by_cases ar:j=k
    ·subst ar;exact he
    ·exact u j (by omega)
  ·refine au (by omega) ?_;obtain rfl:k=n:=by omega
   refine Hl ?_
   have:=h _ B4
   rw[R,NK (fun j hj=>u j (by omega)),hn,show sh.getD k 0=0 by simp[List.getD,show sh.length≤k by omega]]at this;exact this
end
end
end
section
open Go.RowKit
end
section
attribute [local irreducible] bin un conv call dC blt slc ai fld aU idx lkp eX jl eSt rng nxt ent ext alc box bld dl ld sto bo eS mkS ifc pick rdy wts aJ sti cond bM Gives ae fU gX cOp
section
open Go.RowKit
end
end
section
open Go.RowKit
end
section
attribute [local irreducible] bin un conv call dC blt slc ai fld aU idx lkp eX jl eSt rng nxt ent ext alc box bld dl ld sto bo eS mkS ifc pick rdy wts aJ sti cond bM Gives ae fU gX cOp
section
open Go.RowKit
end
end
end Go.Proofs.YtgpfkmdknlcemaaGreatDoor
