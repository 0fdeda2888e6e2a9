import Derived.Test.YtkbhfjljieopoaaGreatDoorQ2
import Derived.Shelf.SlSortCmp.NoneTotal
import Derived.Shelf.SlGeneric
import Derived.Ground.SlsfProg
import Derived.Test.YtkbhfjljieopoaaGreatDoorQ3
import Derived.Test.YtkbhfjljieopoaaGreatDoorQ5
import Derived.Test.YtkbhfjljieopoaaGreatDoorQ1
namespace Go.Proofs.YtkbhfjljieopoaaGreatDoor
set_option maxRecDepth 100000
set_option maxHeartbeats 4000000
open Go.Proofs.Tryz
variable {w w':World}{K:KV}{zf dd:Nat→Value}{c n k B i g m s j z d cp hi:Nat}{x v:Int}{B1:KE}{a av:Option Addr}{t e:TypeId}{cs:List Value}{P:Program}{Y1 Z1 U2 V2 W2 X2 Y2 Z2 U3 V3 W3 X3 Y3 Z3 j4 U4 V4 W4 X4 Y4 Z4 U5 V5 W5 X5 Y5 Z5 K6 T6 U6 V6 W6 X6 Y6 Z6 u7 B7 K7 T7 U7 V7 W7 X7 Y7 Z7 y8 B8 K8 T8 U8 V8 W8 X8 Y8:Value}
section
open Go.RowKit
theorem Nc (h:dE Q 140 none (fun A0=>bld Q 142 #[(0,A0)] fun A1=>box Q 142 A1 K) w):Gives Q 22 #[] w K:=by
 refine aB func22 (by kernel_rfl) ?_;exact mpK h
def jZ (h_0 known4 e5 k_7 there9 D5:Value)(zf:Nat→Value):List Value:=h_0::zT zf 1 3 (known4::e5::zf 6::k_7::zf 8::there9::zT zf 10 20 (D5::zT zf 31 17 ([])))
def oO (K:KV):KE:=ae Q (cd f78 [1,1,1,1]) (rk f78 K) xf (rk f78 K)
def iE (K:KV):KE:=ae Q (cd f78 (b1 63)) (rk f78 K) xf (rk f78 K)
def kr (K:KV):KE:=ae Q (cd f78 (b1 999)) (iE K) (xx xf (iE K) 0) (rk f78 K)
def oP (K:KV):KE:=ae Q (cd f78 (b1 1997)) (kr K) (xx xf (iE K) 0) (rk f78 K)
theorem Hh {K:KV}{Y1 known1 e_2:Value}{w:World}(h:box Q 35 known1 (fun Z1=>box Q 54 e_2 fun U2=>bin Q .eql 84 false true Y1 (Value.pointer none) fun A6 w=>cond A6 (K (ci 2) w) (af Q 54 U2 0 (fun A7=>ld Q 3 A7 fun A8=>af Q 54 U2 1 fun A9=>ld Q 31 A9 fun C0=>bld Q 215 #[(0,A8),(1,C0)] fun C1=>alc Q 215 fun V2=>sto Q 215 V2 C1 fun _ w=>aG (fun S w=>hN S Y1 fun C4=>hF S 142 C4 0 fun C5=>hL S 140 C5 fun C6=>hL S 215 V2 fun C7=>hld S (lkp Q 140 C6 C7 true) fun C8=>hld S (ext Q C8 0) fun C9=>hld S (ext Q C8 1) fun D0=>alc Q 54 (fun A5=>aY S fun S=>sto Q 54 A5 C9 fun _=>aY S fun _=>oO K (jZ Y1 Z1 U2 V2 D0 uu (zV (zV (zV (zV zu 1 [known1,e_2]) 6 [ci 0]) 8 [A5]) 10 [Y1,A6,A7,A8,A9,C0,C1,C8,Y1,C4,C5,C6,C7,C8,C9,D0]))) w) w.drew) w)) w):Gives Q 78 #[Y1,known1,e_2] w K:=by
 refine aB func78 (by kernel_rfl) ?_
 refine Eq.mp (congrArg (fun c=>ae Q c _ _ _ _ w) (by kernel_rfl:(rep [1,1,1,1] (cd f78 [1,1,1,1]) (cd f78 []))=(cd f78 []))) ?_
 revert h
 delta oO
 generalize (cd f78 [1,1,1,1])=xc0
 exact mpF
theorem EJ (h:ld Q 54 U2 (fun D2=>call Q 41 #[D2] fun D3=>un Q .not D3 fun D4 w=>cond D4 (K (ci 1) w) (ld Q 35 Z1 (fun D6=>ld Q 54 U2 fun D7=>call Q 97 #[D6,D7] fun D8=>oP K (jZ Y1 Z1 U2 V2 W2 D8 (zV (zV zf 26 [D4,D2,D3,D4]) 31 [D6,D7,D8]))) w)) w):oO K (jZ Y1 Z1 U2 V2 W2 X2 zf) w:=by
 delta oO
 refine Eq.mp (congrArg (fun c=>ae Q c _ _ _ _ w) (by kernel_rfl:(rep (b1 77) (cd f78 (b1 1997)) (cd f78 [1,1,1,1]))=(cd f78 [1,1,1,1]))) ?_
 revert h
 delta oP iE kr
 generalize (cd f78 (b1 1997))=xc0
 exact mpF
theorem EK (h:cond X2 (kr K (jZ Y1 Z1 U2 V2 W2 X2 zf) w) (kr K (jZ Y1 Z1 U2 V2 W2 W2 (zV zf 34 [W2])) w)):oP K (jZ Y1 Z1 U2 V2 W2 X2 zf) w:=by
 delta oP;revert h;generalize (kr K)=qc0;generalize (iE K)=qc1;exact mpF
theorem xp (h:cond X2 (K (ci 14) w) (aU Y1 (fun E2=>af Q 142 E2 0 fun E3=>ld Q 140 E3 fun E4=>lN 140 E4 fun E5=>bin Q .geq 3 false true E5 (ci 64) fun E6 w=>cond E6 (K (ci 7) w) (iE K (jZ Y1 Z1 U2 V2 W2 X2 (zV zf 35 [E6,Y1,E2,E3,E4,E5,E6])) w)) w)):kr K (jZ Y1 Z1 U2 V2 W2 X2 zf) w:=by
 delta kr;revert h;generalize (iE K)=qc0;exact mpF
theorem EL (h:aG (fun S w=>hN S Y1 fun E8=>hF S 142 E8 0 fun E9=>hL S 140 E9 fun F0=>hL S 215 V2 fun F1=>hL S 54 U2 fun F2=>dO Q 140 F0 F1 F2 (fun _=>K (ci 0)) w) w.drew):iE K (jZ Y1 Z1 U2 V2 W2 X2 zf) w:=by
 delta iE;exact mpK h
attribute [irreducible] oO iE kr oP
def fB (h_0 known3 A2 k_6 e7 i8 k_10 e11 C5 D9 E0 F8 F9 G0 G1:Value)(zf:Nat→Value):List Value:=h_0::zf 1::zf 2::known3::A2::zf 5::k_6::e7::i8::zf 9::k_10::e11::zT zf 12 8 (C5::zT zf 21 13 (D9::E0::zT zf 36 19 (F8::F9::G0::G1::zT zf 59 8 ([]))))
def jU (K:KV):KE:=ae Q (cd f80 [1,1,1]) (rk f80 K) xf (rk f80 K)
def qm (K:KV):KE:=ae Q (cd f80 (b1 58)) (jU K) (xx xf (jU K) 0) (rk f80 K)
def fE (K:KV):KE:=ae Q (cd f80 [1,1,1,1]) (rk f80 K) xf (rk f80 K)
def qn (K:KV):KE:=ae Q (cd f80 (b1 122)) (fE K) (xx xf (fE K) 2) (rk f80 K)
def jW (K:KV)(B1:KE):KE:=ae Q (cd f80 (b1 1959)) B1 (xx xf (fE K) 2) (rk f80 K)
def ox (K:KV)(B1:KE):KE:=ae Q (cd f80 (b1 62671)) (jW K B1) (xx (xx xf (fE K) 2) (jW K B1) 3) (rk f80 K)
theorem Gk (h:box Q 35 V2 (fun Z1=>alc Q 54 fun U2=>bin Q .eql 84 false true Y1 (Value.pointer none) fun A9 w=>cond A9 (bld Q 54 #[] (fun C0=>sto Q 54 U2 C0 fun _=>bp Q [(some 54,U2),(none,cF)] K) w) (aU Y1 (fun C2=>af Q 142 C2 0 fun C3=>ld Q 140 C3 fun C4=>rng Q 140 C4 fun U3=>qm K (fB Y1 Z1 U2 uu uu uu uu uu U3 uu uu uu uu uu uu (zV (zV (zV (zV zu 1 [V2]) 5 [cF]) 13 [Y1,A9]) 16 [Y1,C2,C3,C4]))) w)) w):Gives Q 80 #[Y1,V2] w K:=by
 refine aB func80 (by kernel_rfl) ?_;revert h;delta qm jU;exact mpF
theorem Eb (Inv:World→Prop)(μ:World→Nat)(u:Inv w)(I:∀(dd:Nat→Value) (w:World) (m:Nat),Inv w→m=μ w →
  nxt Q U3 false 0 (fun C6=>ext Q C6 0 fun C7 w=>cond C7 (ent Q U3 (fun C8=>ext Q C8 0 fun C9=>ext Q C8 1 fun D0=>alc Q 215 fun V2=>alc Q 54 fun W2=>sto Q 215 V2 C9 fun _=>sto Q 54 W2 D0 fun _=>ld Q 35 Z1 fun D1=>ld Q 54 W2 fun D2=>call Q 97 #[D1,D2] fun D3 w=>cond D3 (aG (fun S w=>hN S Y1 fun D5=>hF S 142 D5 0 fun D6=>hL S 140 D6 fun D7=>hL S 215 V2 fun D8=>blt Q .delete #[140,215] 0 #[false,false] #[D7,D8] (fun _ w=>(Inv w)∧((μ w)<m)) w) w.drew) ((Inv w)∧((μ w)<m))) w) (jU K (fB Y1 Z1 U2 (dd 6) (dd 7) X2 Y2 Z2 U3 V3 W3 X3 Y3 Z3 j4 (zV dd 21 [C6,C7])) w)) w):qm K (fB Y1 Z1 U2 V2 W2 X2 Y2 Z2 U3 V3 W3 X3 Y3 Z3 j4 zf) w:=by
 refine aL (cd f80 (b1 116)) (zr [(6,2),(21,13)]) (by kernel_rfl) (fun j d=>Inv d) (fun j d=>μ d) u ?_;intro e' w' hI;have h:=I (zM zf (fun i=>gd e' i) (zr [(6,2),(21,13)])) w' _ hI rfl;revert h;generalize (jU K)=qc0;exact mpF
theorem Ed (h:ld Q 35 Z1 (fun V3=>qn K (fB Y1 Z1 U2 V2 W2 X2 Y2 Z2 U3 V3 (ci 0) X3 Y3 Z3 j4 zf)) w):jU K (fB Y1 Z1 U2 V2 W2 X2 Y2 Z2 U3 V3 W3 X3 Y3 Z3 j4 zf) w:=by
 delta jU;revert h;delta qn fE;exact mpF
theorem Ec (Inv:vI 4)(μ:vM 4)(h0:Inv W3 X3 Y3 Z3 w)(hs:∀(E0' F8' F9' G0':Value) (dd:Nat→Value) (w:World) (m:Nat),Inv E0' F8' F9' G0' w→m=μ E0' F8' F9' G0' w →
  bin Q .lss 3 false true E0' (ci 6) (fun E1 w=>cond E1 (idx Q 35 V3 E0' (fun E3=>nC E0' fun E5=>bin Q .add 31 false true E3 (cu 1) fun E7=>bld Q 215 #[(0,E5),(1,E7)] fun E8=>alc Q 215 fun Y2=>sto Q 215 Y2 E8 fun _ w=>aG (fun S w=>hN S Y1 fun F1=>hF S 142 F1 0 fun F2=>hL S 140 F2 fun F3=>hL S 215 Y2 fun F4=>hld S (lkp Q 140 F3 F4 true) fun F5=>hld S (ext Q F5 0) fun F6=>hld S (ext Q F5 1) fun F7=>alc Q 54 (fun Z2=>aY S fun S=>sto Q 54 Z2 F6 fun _=>aY S fun _ w=>aI F7 true (fun k55=>ld Q 35 Z1 (fun X3=>ld Q 54 Z2 fun Y3=>call Q 98 #[X3,Y3] fun Z3=>k55 [X3,Y3,Z3]) w) (fun k=>k [uu,uu,uu] w) fun us55=>pick F7 (gd us55 2) cF fun j4=>ox K (fun e2 w2=>(Inv (gd e2 35) (gd e2 55) (gd e2 56) (gd e2 57) w2)∧((μ (gd e2 35) (gd e2 55) (gd e2 56) (gd e2 57) w2)<m)) (fB Y1 Z1 U2 V2 W2 E0' Y2 Z2 U3 V3 E0' (gd us55 0) (gd us55 1) (gd us55 2) j4 (zV (zV (zV dd 9 [E3]) 12 [F7]) 36 [E1,E0',E3,E0',E5,E3,E7,E8,F5,Y1,F1,F2,F3,F4,F5,F6,F7,F7,F7]))) w) w.drew) w) (fE K (fB Y1 Z1 U2 V2 W2 (dd 8) (dd 10) (dd 11) U3 V3 E0' F8' F9' G0' (dd 58) (zV dd 36 [E1])) w)) w):qn K (fB Y1 Z1 U2 V2 W2 X2 Y2 Z2 U3 V3 W3 X3 Y3 Z3 j4 zf) w:=by
 refine aL (cd f80 (b1 244)) (zr [(5,1),(8,5),(35,31)]) (by kernel_rfl) (vP [35,55,56,57] Inv) (vQ [35,55,56,57] μ) h0 ?_
 intro e' w' hI
 have h:=hs _ _ _ _ (zM zf (fun i=>gd e' i) (zr [(5,1),(8,5),(35,31)])) w' _ hI rfl
 refine Eq.mp (congrArg (fun c=>ae Q c _ _ _ _ w') (by kernel_rfl:(rep (b1 463) (cd f80 (b1 62671)) (cd f80 (b1 244)))=(cd f80 (b1 244)))) ?_
 revert h
 delta ox jW
 generalize (cd f80 (b1 62671))=xc0
 generalize (fE K)=qc0
 exact mpF
theorem wo (h:cond j4 (aG (fun S w=>hN S Y1 fun G2=>hF S 142 G2 0 fun G3=>hL S 140 G3 fun G4=>hL S 215 Y2 fun G5=>blt Q .delete #[140,215] 0 #[false,false] #[G4,G5] (fun _=>ld Q 54 Z2 fun G6=>sto Q 54 U2 G6 fun _=>bp Q [(some 54,U2),(none,cT)] K) w) w.drew) (jW K B1 (fB Y1 Z1 U2 V2 W2 X2 Y2 Z2 U3 V3 W3 X3 Y3 Z3 j4 zf) w)):ox K B1 (fB Y1 Z1 U2 V2 W2 X2 Y2 Z2 U3 V3 W3 X3 Y3 Z3 j4 zf) w:=by
 delta ox;revert h;generalize (jW K B1)=qc0;generalize (fE K)=qc1;exact mpF
theorem Ee (h:bld Q 54 #[] (fun G8=>sto Q 54 U2 G8 fun _=>bp Q [(some 54,U2),(none,cF)] K) w):fE K (fB Y1 Z1 U2 V2 W2 X2 Y2 Z2 U3 V3 W3 X3 Y3 Z3 j4 zf) w:=by
 delta fE;exact mpK h
theorem wt (h:nC W3 (fun G7=>B1 (fB Y1 Z1 U2 V2 W2 X2 Y2 Z2 U3 V3 G7 X3 Y3 Z3 j4 (zV zf 65 [G7]))) w):jW K B1 (fB Y1 Z1 U2 V2 W2 X2 Y2 Z2 U3 V3 W3 X3 Y3 Z3 j4 zf) w:=by
 delta jW;revert h;generalize (fE K)=qc0;exact mpF
attribute [irreducible] jU qm fE qn jW ox
theorem Hg (h:bin Q .eql 84 false true Y1 (Value.pointer none) (fun A2 w=>cond A2 (K (ci 0) w) (aU Y1 (fun A3=>af Q 142 A3 0 fun A4=>ld Q 140 A4 fun A5=>lN 140 A5 K) w)) w):Gives Q 49 #[Y1] w K:=by
 refine aB func49 (by kernel_rfl) ?_;exact mpK h
theorem Gs (h:bin Q .geq 3 false true Y1 (ci 1) (fun A2 w=>aI A2 true (fun j=>bin Q .leq 3 false true Y1 (ci 6) (fun A5=>j [Y1,A5]) w) (fun k=>k [uu,uu] w) fun d=>pick A2 (gd d 1) cF K) w):Gives Q 37 #[Y1] w K:=by
 refine aB func37 (by kernel_rfl) ?_;exact mpK h
def yE (m1 D5 E1 E2 E3 E4 E6 E7 E8 F0 F1 F2 F3 F9 G0 G1 G3 G4 G5 G7 G8 G9:Value)(zf:Nat→Value):List Value:=zf 0::m1::zT zf 2 26 (D5::zT zf 29 8 (E1::E2::E3::E4::zf 41::zf 42::E6::E7::E8::zf 46::zf 47::F0::F1::F2::zf 51::F3::zT zf 53 6 (F9::G0::G1::zf 62::zf 63::G3::G4::G5::zf 67::zf 68::G7::G8::G9::zf 72::[])))
def oK (K:KV):KE:=ae Q (cd f11 [1,1,1]) (rk f11 K) xf (rk f11 K)
def qE (K:KV):KE:=ae Q (cd f11 [1,1,0,1]) (oK K) xf (rk f11 K)
def wX (K:KV):KE:=ae Q (cd f11 (b1 471)) (oK K) (xx xf (oK K) 0) (rk f11 K)
theorem JH {K:KV}{m0:Value}{w:World}(h:box Q 38 m0 (fun Y1=>af Q 38 Y1 1 fun A2=>ld Q 3 A2 fun A3=>call Q 37 #[A3] fun A4=>un Q .not A4 fun A5 w=>aI A5 false (fun k9=>af Q 38 Y1 2 (fun A7=>ld Q 3 A7 fun A8=>call Q 37 #[A8] fun A9=>un Q .not A9 fun C0=>k9 [A7,A8,A9,C0]) w) (fun k=>k [uu,uu,uu,uu] w) fun us9=>pick A5 cT (gd us9 3) fun C1 w=>aI C1 false (fun k15=>af Q 38 Y1 1 (fun C3=>ld Q 3 C3 fun C4=>af Q 38 Y1 2 fun C5=>ld Q 3 C5 fun C6=>bin Q .eql 3 false false C4 C6 fun C7=>k15 [C3,C4,C5,C6,C7]) w) (fun k=>k [uu,uu,uu,uu,uu] w) fun us15=>pick C1 cT (gd us15 4) fun C8 w=>aI C8 false (fun k22=>af Q 38 Y1 3 (fun C9=>ld Q 35 C9 fun D0=>call Q 38 #[D0] fun D1=>un Q .not D1 fun D2=>k22 [C9,D0,D1,D2]) w) (fun k=>k [uu,uu,uu,uu] w) fun us22=>pick C8 cT (gd us22 3) fun D3 w=>cond D3 (K cF w) (af Q 38 Y1 0 (fun D4=>ld Q 5 D4 fun Z1=>qE K (yE Y1 Z1 uu uu uu uu uu uu uu uu uu uu uu uu uu uu uu uu uu uu uu uu (zV (zV (zV zu 0 [m0]) 2 [cF]) 4 [A2,A3,A4,A5,A5,gd us9 0,gd us9 1,gd us9 2,gd us9 3,C1,C1,gd us15 0,gd us15 1,gd us15 2,gd us15 3,gd us15 4,C8,C8,gd us22 0,gd us22 1,gd us22 2,gd us22 3,D3,D4]))) w)) w):Gives Q 11 #[m0] w K:=by
 refine aB func11 (by kernel_rfl) ?_
 refine Eq.mp (congrArg (fun c=>ae Q c _ _ _ _ w) (by kernel_rfl:(rep [1,1,0,1] (cd f11 [1,1,0,1]) (cd f11 []))=(cd f11 []))) ?_
 revert h
 delta qE oK
 generalize (cd f11 [1,1,0,1])=xc0
 exact mpF
theorem HA (h:bin Q .eql 5 false true Z1 (cb 1) (fun D6 w=>cond D6 (af Q 38 Y1 4 (fun D7=>ld Q 36 D7 fun D8=>call Q 39 #[D8,Value.func (Fn.func 40) #[] #[]] fun D9=>un Q .not D9 fun E0 w=>aI E0 true (fun k37=>af Q 38 Y1 4 (fun U2=>ld Q 36 U2 fun V2=>lN 36 V2 fun W2=>bin Q .leq 3 false true W2 (ci 16) fun X2=>k37 [U2,V2,W2,X2]) w) (fun k=>k [uu,uu,uu,uu] w) fun us37=>pick E0 (gd us37 3) cF fun E5 w=>aI E5 true (fun k43=>af Q 38 Y1 5 (fun Y2=>ld Q 31 Y2 fun Z2=>bin Q .eql 31 false true Z2 (cu 0) fun U3=>k43 [Y2,Z2,U3]) w) (fun k=>k [uu,uu,uu] w) fun us43=>pick E5 (gd us43 2) cF fun E9 w=>aI E9 true (fun k48=>af Q 38 Y1 6 (fun V3=>ld Q 2 V3 fun W3=>bin Q .eql 2 false true W3 (ci 0) fun X3=>k48 [V3,W3,X3]) w) (fun k=>k [uu,uu,uu] w) fun us48=>pick E9 (gd us48 2) cF K) w) (bin Q .eql 5 false true Z1 (cb 2) (fun F4=>wX K (yE Y1 Z1 U2 V2 W2 X2 Y2 Z2 U3 V3 W3 X3 F4 Z3 j4 U4 V4 W4 X4 Y4 Z4 U5 (zV (zV zf 29 [D6,D6]) 53 [F4]))) w)) w):qE K (yE Y1 Z1 U2 V2 W2 X2 Y2 Z2 U3 V3 W3 X3 Y3 Z3 j4 U4 V4 W4 X4 Y4 Z4 U5 zf) w:=by
 delta qE
 refine Eq.mp (congrArg (fun c=>ae Q c _ _ _ _ w) (by kernel_rfl:(rep [0,1,1,1] (cd f11 (b1 471)) (cd f11 [1,1,0,1]))=(cd f11 [1,1,0,1]))) ?_
 revert h
 delta wX
 generalize (cd f11 (b1 471))=xc0
 generalize (oK K)=qc0
 exact mpF
attribute [irreducible] oK qE wX
theorem Hz (h:box Q 54 Y1 (fun d=>ld Q 54 d fun A1=>call Q 41 #[A1] fun A2=>un Q .not A2 K) w):Gives Q 40 #[Y1] w K:=by
 refine aB func40 (by kernel_rfl) ?_;exact mpK h
theorem qG (h:call Q 72 #[Y1,Z1] (fun A5=>bin Q .geq 3 false true A5 (ci 0) K) w):Gives Q 39 #[Y1,Z1] w K:=by
 refine aB func39 (by kernel_rfl) ?_;exact mpK h
def gU (s0 f1 s2 f3 i5 A5 A6:Value)(zf:Nat→Value):List Value:=s0::f1::s2::f3::zf 4::i5::zf 6::A5::A6::zT zf 9 10 ([])
def cz (K:KV):KE:=ae Q (cd f72 [1,1]) (rk f72 K) xf (rk f72 K)
def gQ (K:KV):KE:=ae Q (cd f72 [1,0,1,0]) (cz K) (xx xf (cz K) 0) (rk f72 K)
theorem rC (h:lN 36 Y1 (fun X2=>gQ K (gU Y1 Z1 uu uu uu X2 (ci 0) (zV (zV zu 4 [ci 0]) 6 [Y1]))) w):Gives Q 72 #[Y1,Z1] w K:=by
 refine aB func72 (by kernel_rfl) ?_;revert h;delta gQ cz;exact mpF
theorem qN (Inv:Value→World→Prop)(μ:Value→World→Nat)(I:Inv Y2 w)(J:∀(d:Value) (dd:Nat→Value) (w:World) (m:Nat),Inv d w→m=μ d w →
  lS d X2 (fun A7 w=>cond A7 (aV Q 36 Y1 d (fun C2=>ld Q 54 C2 fun C3=>bY Q Z1 #[C3] fun C4 w=>cond C4 (K d w) (nC d (fun C6 w=>(Inv C6 w)∧((μ C6 w)<m)) w)) w) (cz K (gU Y1 Z1 U2 V2 (dd 5) X2 d (zV dd 9 [A7])) w)) w):gQ K (gU Y1 Z1 U2 V2 W2 X2 Y2 zf) w:=by
 refine aL (cd f72 (b1 52)) (zr [(4,2),(8,11)]) (by kernel_rfl) (vP [8] Inv) (vQ [8] μ) I ?_;intro e' w' hI;have h:=J _ (zM zf (fun i=>gd e' i) (zr [(4,2),(8,11)])) w' _ hI rfl;revert h;generalize (cz K)=qc0;exact mpF
theorem qO (h:K (ci (-1)) w):cz K (gU Y1 Z1 U2 V2 W2 X2 Y2 zf) w:=by
 delta cz;exact mpK h
attribute [irreducible] cz gQ
theorem KY (h:box Q 35 Y1 (fun d w=>aG (fun S w=>hL S 35 d fun A1=>call Q 70 #[Value.func (Fn.func 71) #[] #[]] (fun A2=>aY S fun _=>call Q 69 #[A1,A2] fun A3=>aG fun _=>K A3) w) w.drew) w):Gives Q 38 #[Y1] w K:=by
 refine aB func38 (by kernel_rfl) ?_;exact mpK h
theorem Jm (h:K (cu 1099511627776) w):Gives Q 71 #[Y1] w K:=by
 refine aB func71 (by kernel_rfl) ?_;exact mpK h
theorem KP (h:bld Q 145 #[] (fun A0=>box Q 145 A0 K) w):Gives Q 23 #[] w K:=by
 refine aB func23 (by kernel_rfl) ?_;exact mpK h
theorem He (h:bin Q .geq 3 false true Y1 (ci 1) (fun A1 w=>aI A1 true (fun j=>bin Q .leq 3 false true Y1 (ci 6) (fun A3=>j [Y1,A3]) w) (fun k=>k [uu,uu] w) fun d=>pick A1 (gd d 1) cF K) w):Gives Q 76 #[Y1] w K:=by
 refine aB func76 (by kernel_rfl) ?_;exact mpK h
theorem Df (h:box Q 35 U2 (fun d=>bin Q .eql 86 false true Y1 (Value.pointer none) fun A4 w=>cond A4 (K (ci 2) w) (call Q 76 #[Z1] (fun A7=>un Q .not A7 fun A8 w=>cond A8 (K (ci 10) w) (aG (fun S w=>hld (fun _=>True) (bin Q .sub 3 false true Z1 (ci 1)) fun C1=>hld (fun _=>True) (bin Q .sub 3 false true Z1 (ci 1)) fun C4=>hN S Y1 fun C5=>hF S 145 C5 0 fun C6=>hI S 143 C6 C4 fun C7=>hL S 35 C7 fun C8=>hL S 35 d fun C9=>hN S Y1 fun D2=>hF S 145 D2 0 fun D3=>bT Q 211 2 #[(0,C8),(1,C9)] (fun D0=>aY S fun S=>call Q 77 #[D0] fun D1=>aY S fun S w=>hI S 143 D3 C1 fun D4=>sto Q 35 D4 D1 (fun _=>K (ci 0)) w) w) w.drew)) w)) w):Gives Q 42 #[Y1,Z1,U2] w K:=by
 refine aB func42 (by kernel_rfl) ?_;exact mpK h
theorem EH (h:alc Q 35 (fun A1=>bin Q .eql 86 false true Y1 (Value.pointer none) fun A2 w=>aI A2 false (fun j=>call Q 76 #[Z1] (fun A4=>un Q .not A4 fun A5=>j [Z1,A4,A5]) w) (fun k=>k [uu,uu,uu] w) fun d=>pick A2 cT (gd d 2) fun A6 w=>cond A6 (bld Q 35 #[] (fun A7=>sto Q 35 A1 A7 fun _=>bp Q [(some 35,A1)] K) w) (bin Q .sub 3 false true Z1 (ci 1) (fun C0=>aU Y1 fun C1=>af Q 145 C1 0 fun C2=>aV Q 143 C2 C0 fun C3=>ld Q 35 C3 fun C4=>sto Q 35 A1 C4 fun _=>bp Q [(some 35,A1)] K) w)) w):Gives Q 65 #[Y1,Z1] w K:=by
 refine aB func65 (by kernel_rfl) ?_;exact mpK h
theorem Cl (h:bin Q .eql 86 false true Y1 (Value.pointer none) (fun A5 w=>cond A5 (K cN w) (call Q 65 #[Y1,Z1] (fun A9=>call Q 64 #[U2,A9,V2] K) w)) w):Gives Q 34 #[Y1,Z1,U2,V2] w K:=by
 refine aB func34 (by kernel_rfl) ?_;exact mpK h
theorem KS (h:bld Q 139 #[] (fun A0=>box Q 139 A0 K) w):Gives Q 21 #[] w K:=by
 refine aB func21 (by kernel_rfl) ?_;exact mpK h
def rc (l0 e1 l2 e3 k_5:Value)(zf:Nat→Value):List Value:=l0::e1::l2::e3::zf 4::k_5::zT zf 6 58 ([])
def oz (K:KV):KE:=ae Q (cd f58 [1,1,1]) (rk f58 K) xf (rk f58 K)
def oA (K:KV):KE:=ae Q (cd f58 (b1 63)) (rk f58 K) xf (rk f58 K)
theorem Gt {K:KV}{Y1 Z1:Value}{w:World}(h:box Q 54 Z1 (fun V2=>bin Q .eql 82 false true Y1 (Value.pointer none) fun A4 w=>cond A4 (K (ci 2) w) (ld Q 54 V2 (fun A6=>call Q 41 #[A6] fun A7=>un Q .not A7 fun A8 w=>cond A8 (K (ci 1) w) (aG (fun S w=>hN S Y1 fun C0=>hF S 139 C0 1 fun C1=>hL S 35 C1 fun C2=>hL S 54 V2 fun C3=>call Q 97 #[C2,C3] (fun C4=>aG fun _ w=>cond C4 (K (ci 14) w) (aG (fun S w=>hN S Y1 fun C7=>hF S 139 C7 1 fun C8=>hL S 35 C8 fun C9=>hL S 54 V2 fun D0=>call Q 98 #[C9,D0] (fun D1=>aG fun S w=>hld S (un Q .not D1) fun D2=>cond D2 (K (ci 13) w) (af Q 54 V2 0 (fun D3=>ld Q 3 D3 fun D4=>bin Q .sub 3 false true D4 (ci 1) fun D5=>oz K (rc Y1 Z1 uu V2 D5 (zV (zV zu 4 [ci 0]) 6 [A4,Y1,A4,A8,A6,A7,A8,C4,Y1,C0,C1,C2,C3,C4,D2,Y1,C7,C8,C9,D0,D1,D2,D3,D4,D5]))) w)) w) w.drew)) w) w.drew)) w)) w):Gives Q 58 #[Y1,Z1] w K:=by
 refine aB func58 (by kernel_rfl) ?_
 refine Eq.mp (congrArg (fun c=>ae Q c _ _ _ _ w) (by kernel_rfl:(rep [1,1,1] (cd f58 [1,1,1]) (cd f58 []))=(cd f58 []))) ?_
 revert h
 delta oz
 generalize (cd f58 [1,1,1])=xc0
 exact mpF
theorem En (h:aG (fun S w=>hN S Y1 fun D8=>hF S 139 D8 0 fun D9=>hI S 137 D9 W2 fun E0=>hL S 136 E0 fun E1=>hL S 54 V2 fun E2=>hN S Y1 fun E4=>hF S 139 E4 2 fun E5=>hL S 31 E5 fun E6=>hld S (bld Q 200 #[(0,E2),(1,E6)]) fun E7=>hN S Y1 fun F0=>hF S 139 F0 0 fun F1=>bT Q 136 1 #[(0,E7)] (fun E8=>aY S fun S=>blt Q .append #[136,136] 136 #[false,false] #[E1,E8] fun E9=>aY S fun S w=>hI S 137 F1 W2 fun F2=>sto Q 136 F2 E9 (fun _ w=>sF 54 V2 1 (fun F5=>sL 31 F5 fun F6=>sN Y1 fun F7=>sF 139 F7 1 fun F8=>sI 35 F8 W2 fun F9=>sto Q 31 F9 F6 fun _=>oA K (rc Y1 Z1 U2 V2 W2 (zV zf 31 [Y1,W2,Y1,W2,D8,D9,E0,E1,E2,Y1,E4,E5,E6,E7,E8,E9,F0,F1,F2,Y1,W2,F5,F6,F7,F8,F9]))) w.drew) w) w) w.drew):oz K (rc Y1 Z1 U2 V2 W2 zf) w:=by
 delta oz
 refine Eq.mp (congrArg (fun c=>ae Q c _ _ _ _ w) (by kernel_rfl:(rep [1,1] (cd f58 (b1 63)) (cd f58 [1,1,1]))=(cd f58 [1,1,1]))) ?_
 revert h
 delta oA
 generalize (cd f58 (b1 63))=xc0
 exact mpF
theorem Eo (h:aU Y1 (fun G0=>af Q 139 G0 2 fun G1=>ld Q 31 G1 fun G2=>bin Q .add 31 false true G2 (cu 1) fun G3=>aU Y1 fun G4=>af Q 139 G4 2 fun G5=>sto Q 31 G5 G3 fun _=>K (ci 0)) w):oA K (rc Y1 Z1 U2 V2 W2 zf) w:=by
 delta oA;exact mpK h
attribute [irreducible] oz oA
theorem By (h:call Q 145 #[Y1,Z1,Value.func (Fn.func 146) #[] #[]] (fun A6=>ext Q A6 0 fun A7=>ext Q A6 1 fun _=>K A7) w):Gives Q 105 #[Y1,Z1] w K:=by
 refine aB func105 (by kernel_rfl) ?_;exact mpK h
theorem Gu (h:box Q 200 Y1 (fun d=>af Q 200 d 0 fun A1=>af Q 54 A1 1 fun A2=>ld Q 31 A2 fun A3=>bin Q .leq 31 false false A3 Z1 fun A5 w=>cond A5 (K (ci (-1)) w) (K (ci 1) w)) w):Gives Q 146 #[Y1,Z1] w K:=by
 refine aB func146 (by kernel_rfl) ?_;exact mpK h
def dL (x0 target1 cmp2 x3 n8 i9 j10 E3 E4 E5 E6 E7 E8 E9 F0:Value)(zf:Nat→Value):List Value:=x0::target1::cmp2::x3::zT zf 4 4 (n8::i9::j10::zT zf 11 29 (E3::E4::E5::E6::E7::E8::E9::F0::zf 48::[]))
def bn (K:KV):KE:=ae Q (cd f145 [1,1,1,1]) (rk f145 K) xf (rk f145 K)
def dI (K:KV):KE:=ae Q (cd f145 (b1 60)) (bn K) (xx xf (bn K) 0) (rk f145 K)
theorem iV (h:lN 136 Y1 (fun A9=>dI K (dL Y1 Z1 U2 uu A9 (ci 0) A9 uu uu uu uu uu uu uu uu (zV (zV zu 6 [ci 0,cF]) 12 [Y1,A9,A9]))) w):Gives Q 145 #[Y1,Z1,U2] w K:=by
 refine aB func145 (by kernel_rfl) ?_;revert h;delta dI bn;exact mpF
theorem iB (Inv:Value→Value→World→Prop)(μ:Value→Value→World→Nat)(J:Inv X2 Y2 w)(M:∀(j d:Value) (dd:Nat→Value) (w:World) (m:Nat),Inv j d w→m=μ j d w →
  lS j d (fun C2 w=>cond C2 (bin Q .add 3 false false j d (fun C5=>conv Q 3 196 C5 fun C6=>bin Q .shr 196 false true C6 (cu 1) fun C7=>conv Q 196 3 C7 fun C8=>aV Q 136 Y1 C8 fun D2=>ld Q 200 D2 fun D3=>bY Q U2 #[D3,Z1] fun D5=>bin Q .lss 3 false true D5 (ci 0) fun D6 w=>cond D6 (nC C8 (fun D7 w=>(Inv D7 d w)∧((μ D7 d w)<m)) w) ((Inv j C8 w)∧((μ j C8 w)<m))) w) (bn K (dL Y1 Z1 U2 V2 W2 j d Z2 U3 V3 W3 X3 Y3 Z3 j4 (zV dd 15 [j,d,C2])) w)) w):dI K (dL Y1 Z1 U2 V2 W2 X2 Y2 Z2 U3 V3 W3 X3 Y3 Z3 j4 zf) w:=by
 refine aL (cd f145 (b1 120)) (zr [(9,3),(15,20)]) (by kernel_rfl) (vP [9,10] Inv) (vQ [9,10] μ) J ?_;intro e' w' hI;have h:=M _ _ (zM zf (fun i=>gd e' i) (zr [(9,3),(15,20)])) w' _ hI rfl;revert h;generalize (bn K)=qc0;exact mpF
theorem iC (h:lS X2 W2 (fun E1 w=>aI E1 true (fun j=>aV Q 136 Y1 X2 (fun W3=>ld Q 200 W3 fun X3=>bY Q U2 #[X3,Z1] fun Z3=>bin Q .eql 3 false true Z3 (ci 0) fun j4=>j [U2,Y1,X2,W3,X3,Z1,Z3,j4]) w) (fun k=>k [uu,uu,uu,uu,uu,uu,uu,uu] w) fun d=>pick E1 (gd d 7) cF fun F1=>K (Value.tuple #[X2,F1])) w):bn K (dL Y1 Z1 U2 V2 W2 X2 Y2 Z2 U3 V3 W3 X3 Y3 Z3 j4 zf) w:=by
 delta bn;exact mpK h
attribute [irreducible] bn dI
def jt (l0 most2 v4 most5 out6 all7 k_8 C2 C3 E3 E4 E5:Value)(zf:Nat→Value):List Value:=l0::zf 1::most2::zf 3::v4::most5::out6::all7::k_8::zT zf 9 8 (C2::C3::zT zf 19 21 (E3::E4::E5::zT zf 43 10 ([])))
def iT (K:KV):KE:=ae Q (cd f64 [1,1,1,1]) (rk f64 K) xf (rk f64 K)
def pb (K:KV):KE:=ae Q (cd f64 (b1 122)) (iT K) (xx xf (iT K) 0) (rk f64 K)
def iU (K:KV):KE:=ae Q (cd f64 (b1 127)) (rk f64 K) xf (rk f64 K)
def pc (K:KV):KE:=ae Q (cd f64 (b1 506)) (iU K) (xx xf (iU K) 2) (rk f64 K)
theorem Ep (h:box Q 35 V2 (fun U2=>bin Q .eql 82 false true Y1 (Value.pointer none) fun A9 w=>cond A9 (K cN w) (aU Y1 (fun C0=>af Q 139 C0 0 fun C1=>ld Q 137 C1 fun Z2=>pb K (jt Y1 Z1 U2 uu cN cN uu Z2 (ci 0) uu uu uu (zV (zV zu 1 [V2]) 12 [Y1,A9,Y1,C0,C1]))) w)) w):Gives Q 64 #[Y1,V2,Z1] w K:=by
 refine aB func64 (by kernel_rfl) ?_;revert h;delta pb iT;exact mpF
theorem CB (Inv:Value→Value→World→Prop)(μ:Value→Value→World→Nat)(J:Inv X2 U3 w)(M:∀(d j:Value) (dd:Nat→Value) (w:World) (m:Nat),Inv d j w→m=μ d j w →
  bin Q .lss 3 false true j (ci 6) (fun C4 w=>cond C4 (idx Q 137 Z2 j (fun C6=>aV Q 35 U2 j fun D1=>ld Q 31 D1 fun D2=>call Q 105 #[C6,D2] fun D3=>slc Q 136 C6 (some D3) none none fun D4=>blt Q .append #[136,136] 136 #[false,false] #[d,D4] fun D5=>nC j fun D6 w=>(Inv D5 D6 w)∧((μ D5 D6 w)<m)) w) (iT K (jt Y1 Z1 U2 V2 W2 d (dd 8) Z2 j V3 W3 X3 (zV dd 19 [C4])) w)) w):pb K (jt Y1 Z1 U2 V2 W2 X2 Y2 Z2 U3 V3 W3 X3 zf) w:=by
 refine aL (cd f64 (b1 244)) (zr [(7,3),(18,14)]) (by kernel_rfl) (vP [7,18] Inv) (vQ [7,18] μ) J ?_;intro e' w' hI;have h:=M _ _ (zM zf (fun i=>gd e' i) (zr [(7,3),(18,14)])) w' _ hI rfl;revert h;generalize (iT K)=qc0;exact mpF
theorem CD (h:call Q 106 #[X2,Value.func (Fn.func 107) #[] #[]] (fun D7=>lN 136 X2 fun E0=>blt Q .min #[3,3] 3 #[false,false] #[Z1,E0] fun E1=>blt Q .max #[3,3] 3 #[false,true] #[E1,ci 0] fun E2=>slc Q 136 X2 none (some E2) none fun V3=>lN 136 V3 fun W3=>pc K (jt Y1 Z1 U2 V2 W2 X2 Y2 Z2 U3 V3 W3 (ci 0) (zV zf 32 [X2,D7,X2,Z1,X2,E0,E1,E2]))) w):iT K (jt Y1 Z1 U2 V2 W2 X2 Y2 Z2 U3 V3 W3 X3 zf) w:=by
 delta iT;revert h;delta pc iU;exact mpF
theorem CC (Inv:Value→Value→World→Prop)(μ:Value→Value→World→Nat)(M:Inv W2 X3 w)(O:∀(d j:Value) (dd:Nat→Value) (w:World) (m:Nat),Inv d j w→m=μ d j w →
  lS j W3 (fun E6 w=>cond E6 (aV Q 136 V3 j (fun E7=>ld Q 200 E7 fun E8=>alc Q 200 fun I=>sto Q 200 I E8 fun _=>af Q 200 I 0 fun F0=>ld Q 54 F0 fun F1=>bT Q 36 1 #[(0,F1)] fun F2=>blt Q .append #[36,36] 36 #[false,false] #[d,F2] fun F3=>nC j fun F4 w=>(Inv F3 F4 w)∧((μ F3 F4 w)<m)) w) (iU K (jt Y1 Z1 U2 V2 d X2 Y2 Z2 U3 V3 W3 j (zV dd 43 [E6])) w)) w):pc K (jt Y1 Z1 U2 V2 W2 X2 Y2 Z2 U3 V3 W3 X3 zf) w:=by
 refine aL (cd f64 (b1 1012)) (zr [(6,1),(11,1),(42,10)]) (by kernel_rfl) (vP [6,42] Inv) (vQ [6,42] μ) M ?_;intro e' w' hI;have h:=O _ _ (zM zf (fun i=>gd e' i) (zr [(6,1),(11,1),(42,10)])) w' _ hI rfl;revert h;generalize (iU K)=qc0;exact mpF
theorem CE (h:K W2 w):iU K (jt Y1 Z1 U2 V2 W2 X2 Y2 Z2 U3 V3 W3 X3 zf) w:=by
 delta iU;exact mpK h
attribute [irreducible] iT pb iU pc
def rT (n0 n1 l4 i5:Value)(zf:Nat→Value):List Value:=n0::n1::zf 2::zf 3::l4::i5::zT zf 6 22 ([])
def kA (K:KV):KE:=ae Q (cd f45 [1,1,1,1]) (rk f45 K) xf (rk f45 K)
def qY (K:KV):KE:=ae Q (cd f45 (b1 122)) (kA K) (xx xf (kA K) 0) (rk f45 K)
theorem Hr (h:bin Q .lss 3 false true Y1 (ci 1) (fun A1 w=>aI A1 false (fun j=>bin Q .gtr 3 false true Y1 (ci 6) (fun A4=>j [Y1,A4]) w) (fun k=>k [uu,uu] w) fun d=>pick A1 cT (gd d 1) fun A5 w=>cond A5 (K (Value.tuple #[Value.pointer none,ci 1]) w) (bld Q 188 #[] (fun A6=>box Q 188 A6 fun A7=>bld Q 123 #[(1,A7)] fun A8=>box Q 123 A8 fun A9=>qY K (rT Y1 uu A9 (ci 0) (zV (zV zu 2 [Value.pointer none,ci 0]) 6 [Y1,A1,A1,gd d 0,gd d 1,A5,A6,A7,A8,A9]))) w)) w):Gives Q 45 #[Y1] w K:=by
 refine aB func45 (by kernel_rfl) ?_;revert h;delta qY kA;exact mpF
theorem Fh (Inv:Value→World→Prop)(μ:Value→World→Nat)(I:Inv V2 w)(J:∀(d:Value) (dd:Nat→Value) (w:World) (m:Nat),Inv d w→m=μ d w →
  lS d Y1 (fun C2 w=>cond C2 (aU U2 (fun C7=>af Q 123 C7 0 fun C8=>af Q 45 C8 0 fun C9=>aV Q 41 C9 d fun D0=>sto Q 4 D0 cT fun _=>nC d fun C4 w=>(Inv C4 w)∧((μ C4 w)<m)) w) (kA K (rT Y1 Z1 U2 d (zV dd 16 [d,Y1,C2])) w)) w):qY K (rT Y1 Z1 U2 V2 zf) w:=by
 refine aL (cd f45 (b1 244)) (zr [(5,1),(16,11)]) (by kernel_rfl) (vP [5] Inv) (vQ [5] μ) I ?_;intro e' w' hI;have h:=J _ (zM zf (fun i=>gd e' i) (zr [(5,1),(16,11)])) w' _ hI rfl;revert h;generalize (kA K)=qc0;exact mpF
theorem Fi (h:K (Value.tuple #[U2,ci 0]) w):kA K (rT Y1 Z1 U2 V2 zf) w:=by
 delta kA;exact mpK h
attribute [irreducible] kA qY
def gw (l0 l1 m3 i4:Value)(zf:Nat→Value):List Value:=l0::l1::zf 2::m3::i4::zT zf 5 74 ([])
def ja (K:KV):KE:=ae Q (cd f86 [1,1,1,1]) (rk f86 K) xf (rk f86 K)
def fN (K:KV):KE:=ae Q (cd f86 (b1 127)) (rk f86 K) xf (rk f86 K)
def kw (K:KV):KE:=ae Q (cd f86 (b1 506)) (fN K) (xx xf (fN K) 0) (rk f86 K)
theorem Aa {K:KV}{Y1:Value}{w:World}(h:aU Y1 (fun A0=>af Q 123 A0 0 fun A1=>ld Q 45 A1 fun A2=>bld Q 188 #[] fun A3=>box Q 188 A3 fun A4=>bld Q 123 #[(0,A2),(1,A4)] fun A5=>box Q 123 A5 fun A6=>bT Q 42 0 #[] fun A8=>aU Y1 fun C0=>af Q 123 C0 0 fun C1=>af Q 45 C1 3 fun C2=>ld Q 42 C2 fun C3=>blt Q .append #[42,42] 42 #[false,false] #[A8,C3] fun C4=>aU A6 fun C5=>af Q 123 C5 0 fun C6=>af Q 45 C6 3 fun C7=>sto Q 42 C7 C4 fun _=>bT Q 43 0 #[] fun C9=>aU Y1 fun D1=>af Q 123 D1 0 fun D2=>af Q 45 D2 4 fun D3=>ld Q 43 D3 fun D4=>blt Q .append #[43,43] 43 #[false,false] #[C9,D4] fun D5=>aU A6 fun D6=>af Q 123 D6 0 fun D7=>af Q 45 D7 4 fun D8=>sto Q 43 D8 D5 fun _=>ja K (gw Y1 uu A6 uu (zV (zV zu 2 [Value.pointer none]) 5 [Y1,A0,A1,A2,A3,A4,A5,A6,A6,A8,Y1,C0,C1,C2,C3,C4,C5,C6,C7,A6,C9,Y1,D1,D2,D3,D4,D5,D6,D7,D8]))) w):Gives Q 86 #[Y1] w K:=by
 refine aB func86 (by kernel_rfl) ?_
 refine Eq.mp (congrArg (fun c=>ae Q c _ _ _ _ w) (by kernel_rfl:(rep [1,1,1,1] (cd f86 [1,1,1,1]) (cd f86 []))=(cd f86 []))) ?_
 revert h
 delta ja
 generalize (cd f86 [1,1,1,1])=xc0
 exact mpF
theorem yg (h:aG (fun S w=>hN S U2 fun E0=>hF S 123 E0 1 fun E1=>hL S 119 E1 fun E2=>hN S U2 fun E4=>hF S 123 E4 1 fun E5=>hL S 119 E5 fun E6=>hN S E6 fun E7=>hF S 188 E7 0 fun E8=>hL S 186 E8 fun E9=>hN S Y1 fun F1=>hF S 123 F1 1 fun F2=>hL S 119 F2 fun F3=>hN S F3 fun F4=>hF S 188 F4 0 fun F5=>hL S 186 F5 fun F6=>blt Q .append #[186,186] 186 #[false,false] #[E9,F6] (fun F7=>aY S fun S w=>hN S E2 fun F8=>hF S 188 F8 0 fun F9=>sto Q 186 F9 F7 (fun _=>kw K (gw Y1 Z1 U2 (ci 0) (zV zf 35 [U2,E0,E1,E2,U2,E4,E5,E6,E7,E8,E9,Y1,F1,F2,F3,F4,F5,F6,F7,F8,F9]))) w) w) w.drew):ja K (gw Y1 Z1 U2 V2 zf) w:=by
 delta ja;revert h;delta kw fN;exact mpF
theorem yh (Inv:Value→World→Prop)(μ:Value→World→Nat)(I:Inv V2 w)(J:∀(d:Value) (dd:Nat→Value) (w:World) (m:Nat),Inv d w→m=μ d w →
  bin Q .lss 3 false true d (ci 6) (fun G1 w=>cond G1 (aG (fun S w=>hN S U2 fun G8=>hF S 123 G8 2 fun G9=>hI S 121 G9 d fun H0=>hL S 120 H0 fun H1=>hN S Y1 fun H4=>hF S 123 H4 2 fun H5=>hI S 121 H5 d fun H6=>hL S 120 H6 fun H7=>hN S U2 fun H9=>hF S 123 H9 2 fun I0=>blt Q .append #[120,120] 120 #[false,false] #[H1,H7] (fun H8=>aY S fun S w=>hI S 121 I0 d fun I1=>sto Q 120 I1 H8 (fun _=>nC d fun G3 w=>(Inv G3 w)∧((μ G3 w)<m)) w) w) w.drew) (fN K (gw Y1 Z1 U2 d (zV dd 56 [d,G1])) w)) w):kw K (gw Y1 Z1 U2 V2 zf) w:=by
 refine aL (cd f86 (b1 1012)) (zr [(4,1),(56,22)]) (by kernel_rfl) (vP [4] Inv) (vQ [4] μ) I ?_;intro e' w' hI;have h:=J _ (zM zf (fun i=>gd e' i) (zr [(4,1),(56,22)])) w' _ hI rfl;revert h;generalize (fN K)=qc0;exact mpF
theorem yi (h:K U2 w):fN K (gw Y1 Z1 U2 V2 zf) w:=by
 delta fN;exact mpK h
attribute [irreducible] ja fN kw
def mZ (l0 id1 l2 i5:Value)(zf:Nat→Value):List Value:=l0::id1::l2::zf 3::zf 4::i5::zT zf 6 22 ([])
def fO (K:KV):KE:=ae Q (cd f119 [1,1]) (rk f119 K) xf (rk f119 K)
def mI (K:KV):KE:=ae Q (cd f119 [1,0,1,0]) (fO K) (xx xf (fO K) 0) (rk f119 K)
theorem Ac (h:mI K (mZ Y1 Z1 uu (ci 0) (zV zu 4 [ci 0])) w):Gives Q 119 #[Y1,Z1] w K:=by
 refine aB func119 (by kernel_rfl) ?_;revert h;delta mI fO;exact mpF
theorem yn (Inv:Value→World→Prop)(μ:Value→World→Nat)(I:Inv V2 w)(J:∀(d:Value) (dd:Nat→Value) (w:World) (m:Nat),Inv d w→m=μ d w →
  aU Y1 (fun A2=>af Q 123 A2 0 fun A3=>af Q 45 A3 3 fun A4=>ld Q 42 A4 fun A5=>lN 42 A5 fun A6=>lS d A6 fun A7 w=>cond A7 (aU Y1 (fun C1=>af Q 123 C1 0 fun C2=>af Q 45 C2 3 fun C3=>ld Q 42 C3 fun C4=>aV Q 42 C4 d fun C6=>af Q 52 C6 0 fun C7=>ld Q 31 C7 fun C8=>bin Q .eql 31 false false C8 Z1 fun D0 w=>cond D0 (K d w) (nC d (fun A9 w=>(Inv A9 w)∧((μ A9 w)<m)) w)) w) (fO K (mZ Y1 Z1 U2 d (zV dd 6 [d,Y1,A2,A3,A4,A5,A6,A7])) w)) w):mI K (mZ Y1 Z1 U2 V2 zf) w:=by
 refine aL (cd f119 (b1 52)) (zr [(4,24)]) (by kernel_rfl) (vP [5] Inv) (vQ [5] μ) I ?_;intro e' w' hI;have h:=J _ (zM zf (fun i=>gd e' i) (zr [(4,24)])) w' _ hI rfl;revert h;generalize (fO K)=qc0;exact mpF
theorem yo (h:K (ci (-1)) w):fO K (mZ Y1 Z1 U2 V2 zf) w:=by
 delta fO;exact mpK h
attribute [irreducible] fO mI
def mH (l0 origin1 req2 i7 D4 D5 D6 D7 D8 D9 E0 E1 E2 E3 E4:Value)(zf:Nat→Value):List Value:=l0::origin1::req2::zT zf 3 4 (i7::zT zf 8 22 (D4::D5::D6::D7::D8::D9::E0::E1::E2::E3::E4::zf 41::zf 42::[]))
def fx (K:KV):KE:=ae Q (cd f154 [1,1]) (rk f154 K) xf (rk f154 K)
def mf (K:KV):KE:=ae Q (cd f154 [1,0,1,0]) (fx K) (xx xf (fx K) 0) (rk f154 K)
theorem yQ (h:mf K (mH Y1 Z1 U2 (ci 0) uu uu uu uu uu uu uu uu uu uu uu (zV zu 6 [ci 0])) w):Gives Q 154 #[Y1,Z1,U2] w K:=by
 refine aB func154 (by kernel_rfl) ?_;revert h;delta mf fx;exact mpF
theorem xE (Inv:vI 12)(μ:vM 12)(h0:Inv V2 W2 X2 Y2 Z2 U3 V3 W3 X3 Y3 Z3 j4 w)(hs:∀(u I J M O U X Z ad ag al am:Value) (dd:Nat→Value) (w:World) (m:Nat),Inv u I J M O U X Z ad ag al am w→m=μ u I J M O U X Z ad ag al am w →
  aU Y1 (fun A4=>af Q 123 A4 0 fun A5=>af Q 45 A5 4 fun A6=>ld Q 43 A6 fun A7=>lN 43 A7 fun A8=>lS u A8 fun A9 w=>cond A9 (aU Y1 (fun C3=>af Q 123 C3 0 fun C4=>af Q 45 C4 4 fun C5=>ld Q 43 C5 fun C6=>aV Q 43 C6 u fun C8=>af Q 126 C8 0 fun C9=>ld Q 3 C9 fun D0=>bin Q .eql 3 false false D0 Z1 fun D2 w=>aI D2 true (fun an=>aU Y1 (fun X2=>af Q 123 X2 0 fun Y2=>af Q 45 Y2 4 fun Z2=>ld Q 43 Z2 fun U3=>aV Q 43 U3 u fun W3=>af Q 126 W3 1 fun X3=>ld Q 31 X3 fun Y3=>bin Q .eql 31 false false Y3 U2 fun j4=>an [Y1,X2,Y2,Z2,U3,u,W3,X3,Y3,U2,j4]) w) (fun k=>k [uu,uu,uu,uu,uu,uu,uu,uu,uu,uu,uu] w) fun d=>pick D2 (gd d 10) cF fun E5 w=>cond E5 (K u w) (nC u (fun C1 w=>(Inv C1 (gd d 0) (gd d 1) (gd d 2) (gd d 3) (gd d 4) (gd d 5) (gd d 6) (gd d 7) (gd d 8) (gd d 9) (gd d 10) w)∧((μ C1 (gd d 0) (gd d 1) (gd d 2) (gd d 3) (gd d 4) (gd d 5) (gd d 6) (gd d 7) (gd d 8) (gd d 9) (gd d 10) w)<m)) w)) w) (fx K (mH Y1 Z1 U2 u I J M O U X Z ad ag al am (zV dd 8 [u,Y1,A4,A5,A6,A7,A8,A9])) w)) w):mf K (mH Y1 Z1 U2 V2 W2 X2 Y2 Z2 U3 V3 W3 X3 Y3 Z3 j4 zf) w:=by
 refine aL (cd f154 (b1 52)) (zr [(6,37)]) (by kernel_rfl) (vP [7,30,31,32,33,34,35,36,37,38,39,40] Inv) (vQ [7,30,31,32,33,34,35,36,37,38,39,40] μ) h0 ?_;intro e' w' hI;have h:=hs _ _ _ _ _ _ _ _ _ _ _ _ (zM zf (fun i=>gd e' i) (zr [(6,37)])) w' _ hI rfl;revert h;generalize (fx K)=qc0;exact mpF
theorem xF (h:K (ci (-1)) w):fx K (mH Y1 Z1 U2 V2 W2 X2 Y2 Z2 U3 V3 W3 X3 Y3 Z3 j4 zf) w:=by
 delta fx;exact mpK h
attribute [irreducible] fx mf
def mG (l0 origin1 req2 i7:Value)(zf:Nat→Value):List Value:=l0::origin1::req2::zT zf 3 4 (i7::zT zf 8 24 ([]))
def fp (K:KV):KE:=ae Q (cd f151 [1,1]) (rk f151 K) xf (rk f151 K)
def me (K:KV):KE:=ae Q (cd f151 [1,0,1,0]) (fp K) (xx xf (fp K) 0) (rk f151 K)
theorem yO (h:me K (mG Y1 Z1 U2 (ci 0) (zV zu 6 [cF])) w):Gives Q 151 #[Y1,Z1,U2] w K:=by
 refine aB func151 (by kernel_rfl) ?_;revert h;delta me fp;exact mpF
theorem xw (Inv:Value→World→Prop)(μ:Value→World→Nat)(I:Inv V2 w)(J:∀(d:Value) (dd:Nat→Value) (w:World) (m:Nat),Inv d w→m=μ d w →
  bin Q .sub 3 false true Z1 (ci 1) (fun A5=>aU Y1 fun A6=>af Q 123 A6 2 fun A7=>aV Q 121 A7 A5 fun A8=>ld Q 120 A8 fun A9=>lN 120 A9 fun C0=>lS d C0 fun C1 w=>cond C1 (bin Q .sub 3 false true Z1 (ci 1) (fun C6=>aU Y1 fun C7=>af Q 123 C7 2 fun C8=>aV Q 121 C8 C6 fun C9=>ld Q 120 C9 fun D0=>aV Q 120 D0 d fun D2=>ld Q 31 D2 fun D3=>bin Q .eql 31 false false D3 U2 fun D5 w=>cond D5 (K cT w) (nC d (fun C3 w=>(Inv C3 w)∧((μ C3 w)<m)) w)) w) (fp K (mG Y1 Z1 U2 d (zV dd 8 [d,Y1,Z1,A5,A6,A7,A8,A9,C0,C1])) w)) w):me K (mG Y1 Z1 U2 V2 zf) w:=by
 refine aL (cd f151 (b1 52)) (zr [(6,26)]) (by kernel_rfl) (vP [7] Inv) (vQ [7] μ) I ?_;intro e' w' hI;have h:=J _ (zM zf (fun i=>gd e' i) (zr [(6,26)])) w' _ hI rfl;revert h;generalize (fp K)=qc0;exact mpF
theorem xy (h:K cF w):fp K (mG Y1 Z1 U2 V2 zf) w:=by
 delta fp;exact mpK h
attribute [irreducible] fp me
def dn (l0 e1 l2 e3 o6 m7 f8 E6 E7 E8 E9 F0 F1 F2:Value)(zf:Nat→Value):List Value:=l0::e1::l2::e3::zf 4::zf 5::o6::m7::f8::zT zf 9 33 (E6::E7::E8::E9::F0::F1::F2::zT zf 49 24 ([]))
def lY (K:KV):KE:=ae Q (cd f48 (b1 63)) (rk f48 K) xf (rk f48 K)
def lZ (K:KV):KE:=ae Q (cd f48 (b1 511)) (rk f48 K) xf (rk f48 K)
theorem zZ (d:Code)(h:box Q 54 Z1 (fun V2=>ld Q 54 V2 fun A3=>call Q 83 #[A3] fun A4=>un Q .not A4 fun A5 w=>cond A5 (K (Value.tuple #[Y1,ci 1]) w) (aG (fun S w=>hN S Y1 fun A8=>hF S 123 A8 0 fun A9=>hF S 45 A9 2 fun C0=>hL S 35 C0 fun C1=>hL S 54 V2 fun C2=>call Q 84 #[C1,C2] (fun C3 w=>cond C3 (K (Value.tuple #[Y1,ci 14]) w) (aG (fun S w=>hN S Y1 fun C6=>hF S 123 C6 0 fun C7=>hF S 45 C7 2 fun C8=>hL S 35 C8 fun C9=>hL S 54 V2 fun D0=>call Q 85 #[C9,D0] (fun D1=>aG fun S w=>hld S (un Q .not D1) fun D2=>cond D2 (K (Value.tuple #[Y1,ci 13]) w) (af Q 54 V2 0 (fun D4=>ld Q 3 D4 fun D5=>bin Q .sub 3 false true D5 (ci 1) fun D6=>ae Q d (rk f48 K) (fun _ _ _=>False) (rk f48 K) (dn Y1 Z1 uu V2 D6 uu uu uu uu uu uu uu uu uu (zV (zV (zV (zV (zV zu 4 [Value.pointer none,ci 0]) 9 [A3,A4,A5]) 13 [Y1,A8,A9,C0,C1,C2,C3]) 21 [Y1,C6,C7,C8,C9,D0,D1,D2]) 30 [D4,D5,D6]))) w)) w) w.drew)) w) w.drew)) w):ae Q (rep (b1 63) d (cd f48 [])) (rk f48 K) xf (rk f48 K) (dn Y1 Z1 uu uu uu uu uu uu uu uu uu uu uu uu zu) w:=Eq.mp (by kernel_rfl) h
theorem yN {K:KV}{Y1 Z1:Value}{w:World}(h:box Q 54 Z1 (fun V2=>ld Q 54 V2 fun A3=>call Q 83 #[A3] fun A4=>un Q .not A4 fun A5 w=>cond A5 (K (Value.tuple #[Y1,ci 1]) w) (aG (fun S w=>hN S Y1 fun A8=>hF S 123 A8 0 fun A9=>hF S 45 A9 2 fun C0=>hL S 35 C0 fun C1=>hL S 54 V2 fun C2=>call Q 84 #[C1,C2] (fun C3 w=>cond C3 (K (Value.tuple #[Y1,ci 14]) w) (aG (fun S w=>hN S Y1 fun C6=>hF S 123 C6 0 fun C7=>hF S 45 C7 2 fun C8=>hL S 35 C8 fun C9=>hL S 54 V2 fun D0=>call Q 85 #[C9,D0] (fun D1=>aG fun S w=>hld S (un Q .not D1) fun D2=>cond D2 (K (Value.tuple #[Y1,ci 13]) w) (af Q 54 V2 0 (fun D4=>ld Q 3 D4 fun D5=>bin Q .sub 3 false true D5 (ci 1) fun D6=>lY K (dn Y1 Z1 uu V2 D6 uu uu uu uu uu uu uu uu uu (zV (zV (zV (zV (zV zu 4 [Value.pointer none,ci 0]) 9 [A3,A4,A5]) 13 [Y1,A8,A9,C0,C1,C2,C3]) 21 [Y1,C6,C7,C8,C9,D0,D1,D2]) 30 [D4,D5,D6]))) w)) w) w.drew)) w) w.drew)) w):Gives Q 48 #[Y1,Z1] w K:=aB func48 (by kernel_rfl) (Eq.mp (congrArg (fun c=>ae Q c (rk f48 K) xf (rk f48 K) (dn Y1 Z1 uu uu uu uu uu uu uu uu uu uu uu uu zu) w) (by kernel_rfl:(rep (b1 63) (cd f48 (b1 63)) (cd f48 []))=(cd f48 []))) (zZ (cd f48 (b1 63)) h))
theorem xt (j:Code)(h:aU Y1 (fun D9=>af Q 123 D9 0 fun E0=>af Q 45 E0 0 fun E1=>aV Q 41 E1 W2 fun E2=>ld Q 4 E2 fun E3=>un Q .not E3 fun E4 w=>aI E4 false (fun u=>aU Y1 (fun V3=>af Q 123 V3 0 fun W3=>af Q 45 W3 1 fun X3=>aV Q 41 X3 W2 fun Y3=>ld Q 4 Y3 fun Z3=>u [Y1,W2,V3,W3,X3,Y3,Z3]) w) (fun k=>k [uu,uu,uu,uu,uu,uu,uu] w) fun d=>pick E4 cT (gd d 6) fun F3 w=>cond F3 (K (Value.tuple #[Y1,ci 10]) w) (call Q 86 #[Y1] (fun F6=>ld Q 54 V2 fun F8=>call Q 87 #[F6,F8] fun F9=>ae Q j (rk f48 K) (fun _ _ _=>False) (rk f48 K) (dn Y1 Z1 U2 V2 W2 F6 F9 (gd d 0) (gd d 1) (gd d 2) (gd d 3) (gd d 4) (gd d 5) (gd d 6) (zV (zV (zV zf 33 [Y1,W2,D9,E0,E1,E2,E3,E4,E4]) 49 [F3]) 51 [Y1,F6,F6,F8,F9]))) w)) w):ae Q (rep [1,1,1] j (cd f48 (b1 63))) (rk f48 K) xf (rk f48 K) (dn Y1 Z1 U2 V2 W2 X2 Y2 Z2 U3 V3 W3 X3 Y3 Z3 zf) w:=Eq.mp (by kernel_rfl) h
theorem xu (h:aU Y1 (fun D9=>af Q 123 D9 0 fun E0=>af Q 45 E0 0 fun E1=>aV Q 41 E1 W2 fun E2=>ld Q 4 E2 fun E3=>un Q .not E3 fun E4 w=>aI E4 false (fun k42=>aU Y1 (fun V3=>af Q 123 V3 0 fun W3=>af Q 45 W3 1 fun X3=>aV Q 41 X3 W2 fun Y3=>ld Q 4 Y3 fun Z3=>k42 [Y1,W2,V3,W3,X3,Y3,Z3]) w) (fun k=>k [uu,uu,uu,uu,uu,uu,uu] w) fun us42=>pick E4 cT (gd us42 6) fun F3 w=>cond F3 (K (Value.tuple #[Y1,ci 10]) w) (call Q 86 #[Y1] (fun F6=>ld Q 54 V2 fun F8=>call Q 87 #[F6,F8] fun F9=>lZ K (dn Y1 Z1 U2 V2 W2 F6 F9 (gd us42 0) (gd us42 1) (gd us42 2) (gd us42 3) (gd us42 4) (gd us42 5) (gd us42 6) (zV (zV (zV zf 33 [Y1,W2,D9,E0,E1,E2,E3,E4,E4]) 49 [F3]) 51 [Y1,F6,F6,F8,F9]))) w)) w):lY K (dn Y1 Z1 U2 V2 W2 X2 Y2 Z2 U3 V3 W3 X3 Y3 Z3 zf) w:=by
 delta lY
 exact Eq.mp (congrArg (fun c=>ae Q c (rk f48 K) xf (rk f48 K) (dn Y1 Z1 U2 V2 W2 X2 Y2 Z2 U3 V3 W3 X3 Y3 Z3 zf) w) (by kernel_rfl:(rep [1,1,1] (cd f48 (b1 511)) (cd f48 (b1 63)))=(cd f48 (b1 63)))) (xt (cd f48 (b1 511)) h)
theorem xv (h:bin Q .neq 27 false true Y2 (ci 0) (fun G1 w=>cond G1 (K (Value.tuple #[Y1,Y2]) w) (sN X2 (fun G6=>sF 123 G6 0 fun G7=>sF 45 G7 2 fun G8=>sI 35 G8 W2 fun G9=>sL 31 G9 fun H0=>sti (bin Q .add 31 false true H0 (cu 1)) fun H1=>sN X2 fun H2=>sF 123 H2 0 fun H3=>sF 45 H3 2 fun H4=>sI 35 H4 W2 fun H5=>sto Q 31 H5 H1 fun _=>K (Value.tuple #[X2,ci 0])) w.drew)) w):ae Q (cd f48 (b1 511)) (rk f48 K) xf (rk f48 K) (dn Y1 Z1 U2 V2 W2 X2 Y2 Z2 U3 V3 W3 X3 Y3 Z3 zf) w:=Eq.mp (by kernel_rfl) h
theorem qP (h:bin Q .neq 27 false true Y2 (ci 0) (fun G1 w=>cond G1 (K (Value.tuple #[Y1,Y2]) w) (sN X2 (fun G6=>sF 123 G6 0 fun G7=>sF 45 G7 2 fun G8=>sI 35 G8 W2 fun G9=>sL 31 G9 fun H0=>sti (bin Q .add 31 false true H0 (cu 1)) fun H1=>sN X2 fun H2=>sF 123 H2 0 fun H3=>sF 45 H3 2 fun H4=>sI 35 H4 W2 fun H5=>sto Q 31 H5 H1 fun _=>K (Value.tuple #[X2,ci 0])) w.drew)) w):lZ K (dn Y1 Z1 U2 V2 W2 X2 Y2 Z2 U3 V3 W3 X3 Y3 Z3 zf) w:=by
 delta lZ
 exact Eq.mp (congrArg (fun c=>ae Q c (rk f48 K) xf (rk f48 K) (dn Y1 Z1 U2 V2 W2 X2 Y2 Z2 U3 V3 W3 X3 Y3 Z3 zf) w) (by kernel_rfl:(cd f48 (b1 511))=(cd f48 (b1 511)))) (xv h)
attribute [irreducible] lY lZ
def bI (l0 e1 l2 e3 k_5 k_6 r7 f8 A4 G7 I9 J0 J1 J4 J5 J6 J7 J8 J9 L0 L1 L2 L3 O6:Value)(zf:Nat→Value):List Value:=l0::e1::l2::e3::zf 4::k_5::k_6::r7::f8::zf 9::A4::zT zf 11 52 (G7::zT zf 64 21 (I9::J0::J1::zf 88::zf 89::J4::J5::J6::J7::J8::J9::L0::L1::L2::L3::zT zf 100 32 (O6::zT zf 133 19 ([]))))
def bo (K:KV):KE:=ae Q (cd f87 [1,1]) (rk f87 K) xf (rk f87 K)
def kx (K:KV):KE:=ae Q (cd f87 [1,0,1]) (bo K) xf (rk f87 K)
def ky (K:KV):KE:=ae Q (cd f87 (b1 863)) (bo K) (xx xf (bo K) 0) (rk f87 K)
def gR (K:KV):KE:=ae Q (cd f87 (b1 442351)) (bo K) (xx xf (bo K) 0) (rk f87 K)
def kz (K:KV):KE:=ae Q (cd f87 (b1 55295)) (bo K) (xx xf (bo K) 0) (rk f87 K)
theorem Ab {K:KV}{Y1 Z1:Value}{w:World}(h:box Q 54 Z1 (fun V2=>af Q 54 V2 3 fun A3=>ld Q 5 A3 fun U3=>kx K (bI Y1 Z1 uu V2 uu uu uu uu U3 uu uu uu uu uu uu uu uu uu uu uu uu uu uu uu (zV (zV zu 4 [ci 0]) 9 [A3]))) w):Gives Q 87 #[Y1,Z1] w K:=by
 refine aB func87 (by kernel_rfl) ?_
 refine Eq.mp (congrArg (fun c=>ae Q c _ _ _ _ w) (by kernel_rfl:(rep [1,0,1] (cd f87 [1,0,1]) (cd f87 []))=(cd f87 []))) ?_
 revert h
 delta kx bo
 generalize (cd f87 [1,0,1])=xc0
 exact mpF
theorem yj (h:bin Q .eql 5 false true U3 (cb 1) (fun A6 w=>cond A6 (ld Q 54 V2 (fun A8=>call Q 118 #[Y1,A8] K) w) (bin Q .eql 5 false true U3 (cb 2) (fun C1 w=>cond C1 (af Q 54 V2 4 (fun C3=>ld Q 31 C3 fun C4=>call Q 119 #[Y1,C4] fun C5=>bin Q .lss 3 false true C5 (ci 0) fun C7 w=>cond C7 (K (ci 9) w) (sN Y1 (fun C9=>sF 123 C9 0 fun D0=>sF 45 D0 3 fun D1=>sL 42 D1 fun D2=>sF 54 V2 0 fun D4=>sL 3 D4 fun D5=>sti (bin Q .sub 3 false true D5 (ci 1)) fun D6=>sI 42 D2 C5 fun D7=>sF 52 D7 2 fun D8=>sF 50 D8 0 fun D9=>sI 47 D9 D6 fun E0=>sL 2 E0 fun E1=>sF 54 V2 6 fun E2=>sL 2 E2 fun E3=>sti (bin Q .add 2 false false E1 E3) fun E4=>sti (bin Q .gtr 2 false true E4 (ci 140737488355328)) fun E5 w=>cond E5 (K (ci 6) w) (sN Y1 (fun E7=>sF 123 E7 0 fun E8=>sF 45 E8 3 fun E9=>sL 42 E9 fun F0=>sF 54 V2 0 fun F2=>sL 3 F2 fun F3=>sti (bin Q .sub 3 false true F3 (ci 1)) fun F4=>sI 42 F0 C5 fun F5=>sF 52 F5 2 fun F6=>sF 50 F6 0 fun F7=>sI 47 F7 F4 fun F8=>sL 2 F8 fun F9=>sF 54 V2 6 fun G0=>sL 2 G0 fun G1=>sti (bin Q .add 2 false false F9 G1) fun G2=>sI 42 F0 C5 fun G3=>sF 52 G3 2 fun G4=>sF 50 G4 0 fun G5=>sI 47 G5 F4 fun G6=>sto Q 2 G6 G2 fun _=>bo K (bI Y1 Z1 U2 V2 C5 X2 Y2 Z2 U3 V3 W3 X3 Y3 Z3 j4 U4 V4 W4 X4 Y4 Z4 U5 V5 W5 (zV (zV zf 11 [A6,A6]) 16 [C1,C1,Y1,C3,C4,C5,C5,C7,Y1,C9,D0,D1,D2,C5,D4,D5,D6,D7,D8,D9,E0,E1,E2,E3,E4,E5,Y1,E7,E8,E9,F0,C5,F2,F3,F4,F5,F6,F7,F8,F9,G0,G1,G2,G3,G4,G5,G6]))) w.drew)) w.drew)) w) (bin Q .eql 5 false true U3 (cb 3) (fun G8=>ky K (bI Y1 Z1 U2 V2 W2 X2 Y2 Z2 U3 G8 W3 X3 Y3 Z3 j4 U4 V4 W4 X4 Y4 Z4 U5 V5 W5 (zV (zV (zV zf 11 [A6,A6]) 16 [C1,C1]) 64 [G8]))) w)) w)) w):kx K (bI Y1 Z1 U2 V2 W2 X2 Y2 Z2 U3 V3 W3 X3 Y3 Z3 j4 U4 V4 W4 X4 Y4 Z4 U5 V5 W5 zf) w:=by
 delta kx
 refine Eq.mp (congrArg (fun c=>ae Q c _ _ _ _ w) (by kernel_rfl:(rep (b1 95) (cd f87 (b1 863)) (cd f87 [1,0,1]))=(cd f87 [1,0,1]))) ?_
 revert h
 delta ky
 generalize (cd f87 (b1 863))=xc0
 generalize (bo K)=qc0
 exact mpF
theorem jO (h:K (ci 0) w):bo K (bI Y1 Z1 U2 V2 W2 X2 Y2 Z2 U3 V3 W3 X3 Y3 Z3 j4 U4 V4 W4 X4 Y4 Z4 U5 V5 W5 zf) w:=by
 delta bo;exact mpK h
theorem yk (h:cond V3 (ld Q 54 V2 (fun H0=>call Q 120 #[Y1,H0] K) w) (bin Q .eql 5 false true U3 (cb 4) (fun H3 w=>cond H3 (ld Q 54 V2 (fun H5=>call Q 121 #[Y1,H5] K) w) (bin Q .eql 5 false true U3 (cb 5) (fun H8 w=>cond H8 (af Q 54 V2 4 (fun I0=>ld Q 31 I0 fun I1=>call Q 119 #[Y1,I1] fun I2=>bin Q .lss 3 false true I2 (ci 0) fun I4 w=>cond I4 (K (ci 9) w) (sF 54 V2 5 (fun I5=>sL 3 I5 fun I6=>sti (bin Q .lss 3 false true I6 (ci 1)) fun I7 w=>aI I7 false (fun k85=>sF 54 V2 5 (fun W3=>sL 3 W3 fun X3=>sti (bin Q .gtr 3 false true X3 (ci 6)) fun Y3=>k85 [W3,X3,Y3]) w) (fun k=>k [uu,uu,uu] w) fun us85=>sti (pick I7 cT (gd us85 2)) fun J2 w=>aI J2 false (fun k90=>sF 54 V2 5 (fun j4=>sL 3 j4 fun U4=>sti (bin Q .sub 3 false true U4 (ci 1)) fun V4=>sN Y1 fun W4=>sF 123 W4 0 fun X4=>sF 45 X4 0 fun Y4=>sI 41 Y4 V4 fun Z4=>sL 4 Z4 fun U5=>sti (un Q .not U5) fun V5=>k90 [Y1,j4,U4,V4,W4,X4,Y4,Z4,U5,V5]) w) (fun k=>k [uu,uu,uu,uu,uu,uu,uu,uu,uu,uu] w) fun us90=>sti (pick J2 cT (gd us90 9)) fun L4 w=>cond L4 (K (ci 10) w) (aG (fun S w=>hN S Y1 fun L7=>hF S 123 L7 0 fun L8=>hF S 45 L8 3 fun L9=>hL S 42 L9 fun M0=>hI S 42 M0 I2 fun M2=>hF S 52 M2 2 fun M3=>hL S 50 M3 fun M4=>hF S 54 V2 0 fun M5=>hL S 3 M5 fun M6=>hF S 54 V2 5 fun M7=>hL S 3 M7 fun M8=>hF S 54 V2 6 fun M9=>hL S 2 M9 fun N0=>(call Q 122 #[M4,M6,M8,N0] (fun N1=>aG fun S w=>hld S (ext Q N1 0) fun N2=>hld S (ext Q N1 1) fun N3=>alc Q 50 (fun Y2=>aY S fun S=>sto Q 50 Y2 N2 fun _=>aY S fun _=>gR K (bI Y1 Z1 U2 V2 W2 I2 Y2 N3 U3 V3 (gd us85 0) (gd us85 1) (gd us85 2) (gd us90 0) (gd us90 1) (gd us90 2) (gd us90 3) (gd us90 4) (gd us90 5) (gd us90 6) (gd us90 7) (gd us90 8) (gd us90 9) W5 (zV (zV (zV (zV zf 68 [H3,H3]) 73 [H8,H8,Y1,I0,I1,I2,I2,I4,I5,I6,I7,I7]) 88 [J2,J2]) 100 [L4,N1,Y1,L7,L8,L9,M0,I2,M2,M3,M4,M5,M6,M7,M8,M9,N0,N1,N2,N3]))) w) w)∧(alc Q 50 (fun Y2=>aY S fun _=>call Q 122 #[M4,M6,M8,N0] fun N1=>aG fun S w=>hld S (ext Q N1 0) fun N2=>hld S (ext Q N1 1) fun N3=>sto Q 50 Y2 N2 (fun _=>aY S fun _=>gR K (bI Y1 Z1 U2 V2 W2 I2 Y2 N3 U3 V3 (gd us85 0) (gd us85 1) (gd us85 2) (gd us90 0) (gd us90 1) (gd us90 2) (gd us90 3) (gd us90 4) (gd us90 5) (gd us90 6) (gd us90 7) (gd us90 8) (gd us90 9) W5 (zV (zV (zV (zV zf 68 [H3,H3]) 73 [H8,H8,Y1,I0,I1,I2,I2,I4,I5,I6,I7,I7]) 88 [J2,J2]) 100 [L4,N1,Y1,L7,L8,L9,M0,I2,M2,M3,M4,M5,M6,M7,M8,M9,N0,N1,N2,N3]))) w) w)) w.drew)) w.drew)) w) (bin Q .eql 5 false true U3 (cb 6) (fun O7=>kz K (bI Y1 Z1 U2 V2 W2 X2 Y2 Z2 U3 V3 W3 X3 Y3 Z3 j4 U4 V4 W4 X4 Y4 Z4 U5 V5 O7 (zV (zV (zV zf 68 [H3,H3]) 73 [H8,H8]) 133 [O7]))) w)) w)) w)):ky K (bI Y1 Z1 U2 V2 W2 X2 Y2 Z2 U3 V3 W3 X3 Y3 Z3 j4 U4 V4 W4 X4 Y4 Z4 U5 V5 W5 zf) w:=by
 delta ky
 refine Eq.mp (congrArg (fun c=>ae Q c _ _ _ _ w) (by kernel_rfl:(rep (b1 127) (cd f87 (b1 55295)) (rep (b1 1007) (cd f87 (b1 442351)) (cd f87 (b1 863))))=(cd f87 (b1 863)))) ?_
 revert h
 delta kz gR
 generalize (cd f87 (b1 442351))=xc0
 generalize (cd f87 (b1 55295))=xc1
 generalize (bo K)=qc0
 exact mpF
theorem yl (h:bin Q .neq 27 false true Z2 (ci 0) (fun N5 w=>cond N5 (K Z2 w) (sN Y1 (fun N8=>sF 123 N8 0 fun N9=>sF 45 N9 3 fun O0=>sL 42 O0 fun O1=>sL 50 Y2 fun O3=>sI 42 O1 X2 fun O4=>sF 52 O4 2 fun O5=>sto Q 50 O5 O3 fun _=>bo K (bI Y1 Z1 U2 V2 W2 X2 Y2 Z2 U3 V3 W3 X3 Y3 Z3 j4 U4 V4 W4 X4 Y4 Z4 U5 V5 W5 (zV (zV zf 120 [Z2,N5]) 123 [Y1,N8,N9,O0,O1,X2,O3,O4,O5]))) w.drew)) w):gR K (bI Y1 Z1 U2 V2 W2 X2 Y2 Z2 U3 V3 W3 X3 Y3 Z3 j4 U4 V4 W4 X4 Y4 Z4 U5 V5 W5 zf) w:=by
 delta gR;revert h;generalize (bo K)=qc0;exact mpF
theorem ym (h:cond W5 (sF 54 V2 5 (fun O9=>sL 3 O9 fun P0=>sti (bin Q .sub 3 false true P0 (ci 1)) fun P1=>sN Y1 fun P2=>sF 123 P2 0 fun P3=>sF 45 P3 0 fun P4=>sI 41 P4 P1 fun P5=>sto Q 4 P5 cT fun _=>bo K (bI Y1 Z1 U2 V2 W2 X2 Y2 Z2 U3 V3 W3 X3 Y3 Z3 j4 U4 V4 W4 X4 Y4 Z4 U5 V5 W5 (zV zf 134 [Y1,O9,P0,P1,P2,P3,P4,P5]))) w.drew) (bin Q .eql 5 false true U3 (cb 7) (fun P7 w=>cond P7 (sF 54 V2 0 (fun P9=>sL 3 P9 fun Q0=>sti (bin Q .sub 3 false true Q0 (ci 1)) fun Q1=>sN Y1 fun Q2=>sF 123 Q2 0 fun Q3=>sF 45 Q3 1 fun Q4=>sI 41 Q4 Q1 fun Q5=>sto Q 4 Q5 cT fun _=>bo K (bI Y1 Z1 U2 V2 W2 X2 Y2 Z2 U3 V3 W3 X3 Y3 Z3 j4 U4 V4 W4 X4 Y4 Z4 U5 V5 W5 (zV zf 142 [P7,P7,Y1,P9,Q0,Q1,Q2,Q3,Q4,Q5]))) w.drew) (bo K (bI Y1 Z1 U2 V2 W2 X2 Y2 Z2 U3 V3 W3 X3 Y3 Z3 j4 U4 V4 W4 X4 Y4 Z4 U5 V5 W5 (zV zf 142 [P7,P7])) w)) w)):kz K (bI Y1 Z1 U2 V2 W2 X2 Y2 Z2 U3 V3 W3 X3 Y3 Z3 j4 U4 V4 W4 X4 Y4 Z4 U5 V5 W5 zf) w:=by
 delta kz;revert h;generalize (bo K)=qc0;exact mpF
attribute [irreducible] bo kx ky gR kz
def bl (l0 e1 l2 e3 own5 i6 id7 f8 n9 at10 E4 E5 E6 J7 J8 J9 L0 L1 L2 L3 L4 L5 L6 L7 L8:Value)(zf:Nat→Value):List Value:=l0::e1::l2::e3::zf 4::own5::i6::id7::f8::n9::at10::zT zf 11 29 (E4::E5::E6::zT zf 43 50 (J7::J8::J9::L0::L1::L2::L3::L4::L5::L6::L7::L8::zT zf 105 27 ([])))
def cA (K:KV):KE:=ae Q (cd f118 [1,1,1]) (rk f118 K) xf (rk f118 K)
def mh (K:KV):KE:=ae Q (cd f118 (b1 58)) (cA K) (xx xf (cA K) 0) (rk f118 K)
def fy (K:KV)(B1:KE):KE:=ae Q (cd f118 (b1 467)) B1 (xx xf (cA K) 0) (rk f118 K)
def kc (K:KV)(B1:KE):KE:=ae Q (cd f118 (b1 466)) (fy K B1) (xx xf (cA K) 0) (rk f118 K)
def iJ (K:KV):KE:=ae Q (cd f118 (b1 511)) (rk f118 K) xf (rk f118 K)
def ke (K:KV):KE:=ae Q (cd f118 (b1 4095)) (rk f118 K) xf (rk f118 K)
def eJ (K:KV):KE:=ae Q (cd f118 (b1 8191)) (rk f118 K) xf (rk f118 K)
def mj (K:KV):KE:=ae Q (cd f118 (b1 16380)) (eJ K) (xx xf (eJ K) 2) (rk f118 K)
theorem yR (h:box Q 54 Z1 (fun V2=>mh K (bl Y1 Z1 uu V2 (ci 0) (ci 0) uu uu uu uu uu uu uu uu uu uu uu uu uu uu uu uu uu uu uu (zV zu 4 [ci 0]))) w):Gives Q 118 #[Y1,Z1] w K:=by
 refine aB func118 (by kernel_rfl) ?_;revert h;delta mh cA;exact mpF
theorem xK (Inv:Value→Value→World→Prop)(μ:Value→Value→World→Nat)(h0:Inv W2 X2 w)(hs:∀(own5' i6':Value) (dd:Nat→Value) (w:World) (m:Nat),Inv own5' i6' w→m=μ own5' i6' w →
  aU Y1 (fun A7=>af Q 123 A7 0 fun A8=>af Q 45 A8 3 fun A9=>ld Q 42 A9 fun C0=>lN 42 C0 fun C1=>lS i6' C1 fun C2 w=>cond C2 (kc K (fun e2 w2=>(Inv (gd e2 5) (gd e2 6) w2)∧((μ (gd e2 5) (gd e2 6) w2)<m)) (bl Y1 Z1 U2 V2 own5' i6' Y2 Z2 U3 V3 W3 X3 Y3 Z3 j4 U4 V4 W4 X4 Y4 Z4 U5 V5 W5 X5 (zV dd 11 [i6',Y1,A7,A8,A9,C0,C1,C2])) w) (cA K (bl Y1 Z1 U2 V2 own5' i6' Y2 Z2 U3 V3 W3 X3 Y3 Z3 j4 U4 V4 W4 X4 Y4 Z4 U5 V5 W5 X5 (zV dd 11 [i6',Y1,A7,A8,A9,C0,C1,C2])) w)) w):mh K (bl Y1 Z1 U2 V2 W2 X2 Y2 Z2 U3 V3 W3 X3 Y3 Z3 j4 U4 V4 W4 X4 Y4 Z4 U5 V5 W5 X5 zf) w:=by
 refine aL (cd f118 (b1 116)) (zr [(5,2),(11,26)]) (by kernel_rfl) (vP [5,6] Inv) (vQ [5,6] μ) h0 ?_
 intro e' w' hI
 have h:=hs _ _ (zM zf (fun i=>gd e' i) (zr [(5,2),(11,26)])) w' _ hI rfl
 refine Eq.mp (congrArg (fun c=>ae Q c _ _ _ _ w') (by kernel_rfl:(rep [1,0] (cd f118 (b1 466)) (cd f118 (b1 116)))=(cd f118 (b1 116)))) ?_
 revert h
 delta kc fy
 generalize (cd f118 (b1 466))=xc0
 generalize (cA K)=qc0
 exact mpF
theorem xH (h:sN Y1 (fun C6=>sF 123 C6 0 fun C7=>sF 45 C7 3 fun C8=>sL 42 C8 fun C9=>sI 42 C9 X2 fun D1=>sF 52 D1 0 fun D2=>sL 31 D2 fun D3=>sti (bin Q .shr 31 false true D3 (cu 40)) fun D4=>sF 54 V2 0 fun D5=>sL 3 D5 fun D6=>sti (conv Q 3 31 D6) fun D7=>sti (bin Q .eql 31 false false D4 D7) fun D8 w=>cond D8 (nC W2 (fun E0=>fy K B1 (bl Y1 Z1 U2 V2 E0 X2 Y2 Z2 U3 V3 W3 X3 Y3 Z3 j4 U4 V4 W4 X4 Y4 Z4 U5 V5 W5 X5 (zV zf 21 [Y1,C6,C7,C8,C9,X2,D1,D2,D3,D4,D5,D6,D7,D8,W2,E0]))) w) (fy K B1 (bl Y1 Z1 U2 V2 W2 X2 Y2 Z2 U3 V3 W3 X3 Y3 Z3 j4 U4 V4 W4 X4 Y4 Z4 U5 V5 W5 X5 (zV zf 21 [Y1,C6,C7,C8,C9,X2,D1,D2,D3,D4,D5,D6,D7,D8])) w)) w.drew):kc K B1 (bl Y1 Z1 U2 V2 W2 X2 Y2 Z2 U3 V3 W3 X3 Y3 Z3 j4 U4 V4 W4 X4 Y4 Z4 U5 V5 W5 X5 zf) w:=by
 delta kc;revert h;generalize (fy K B1)=qc0;generalize (cA K)=qc1;exact mpF
theorem xM (h:bin Q .geq 3 false true W2 (ci 5) (fun E2 w=>aI E2 false (fun k40=>af Q 54 V2 6 (fun W3=>ld Q 2 W3 fun X3=>bin Q .gtr 2 false true X3 (ci 140737488355328) fun Y3=>k40 [W3,X3,Y3]) w) (fun k=>k [uu,uu,uu] w) fun us40=>pick E2 cT (gd us40 2) fun E7 w=>cond E7 (K (ci 6) w) (af Q 54 V2 0 (fun E8=>ld Q 3 E8 fun E9=>af Q 54 V2 1 fun F0=>ld Q 31 F0 fun F1=>call Q 149 #[E9,F1] fun F2 w=>aG (fun S w=>hN S Y1 fun F4=>hF S 123 F4 1 fun F5=>hL S 119 F5 fun F6=>hF S 54 V2 4 fun F8=>hL S 31 F8 fun F9=>call Q 150 #[F6,F2,F9] (fun G0=>aG fun _=>bin Q .neq 27 false true G0 (ci 0) fun G2 w=>cond G2 (K G0 w) (af Q 54 V2 4 (fun G5=>ld Q 31 G5 fun G6=>bld Q 52 #[(0,F2),(1,G6)] fun G7=>alc Q 52 fun U3=>sto Q 52 U3 G7 fun _=>iJ K (bl Y1 Z1 U2 V2 W2 X2 F2 G0 U3 V3 (gd us40 0) (gd us40 1) (gd us40 2) Z3 j4 U4 V4 W4 X4 Y4 Z4 U5 V5 W5 X5 (zV (zV (zV zf 37 [W2,E2,E2]) 43 [E7,E8,E9,F0,F1,F2,Y1,F4,F5,F6,F2,F8,F9,G0,G0,G2]) 60 [F2,G5,G6,G7]))) w)) w) w.drew) w)) w):cA K (bl Y1 Z1 U2 V2 W2 X2 Y2 Z2 U3 V3 W3 X3 Y3 Z3 j4 U4 V4 W4 X4 Y4 Z4 U5 V5 W5 X5 zf) w:=by
 delta cA
 refine Eq.mp (congrArg (fun c=>ae Q c _ _ _ _ w) (by kernel_rfl:(rep (b1 63) (cd f118 (b1 511)) (cd f118 [1,1,1]))=(cd f118 [1,1,1]))) ?_
 revert h
 delta iJ
 generalize (cd f118 (b1 511))=xc0
 exact mpF
theorem qQ (h:nC X2 (fun C4=>B1 (bl Y1 Z1 U2 V2 W2 C4 Y2 Z2 U3 V3 W3 X3 Y3 Z3 j4 U4 V4 W4 X4 Y4 Z4 U5 V5 W5 X5 (zV zf 19 [X2,C4]))) w):fy K B1 (bl Y1 Z1 U2 V2 W2 X2 Y2 Z2 U3 V3 W3 X3 Y3 Z3 j4 U4 V4 W4 X4 Y4 Z4 U5 V5 W5 X5 zf) w:=by
 delta fy;revert h;generalize (cA K)=qc0;exact mpF
theorem xI (h:af Q 54 V2 0 (fun G8=>ld Q 3 G8 fun G9=>bin Q .sub 3 false true G9 (ci 1) fun H0=>af Q 54 V2 6 fun H1=>ld Q 2 H1 fun H2=>af Q 52 U3 2 fun H3=>af Q 50 H3 0 fun H4=>aV Q 47 H4 H0 fun H5=>sto Q 2 H5 H2 fun _=>aU Y1 fun H7=>af Q 123 H7 0 fun H8=>af Q 45 H8 3 fun H9=>ld Q 42 H9 fun I0=>lN 42 I0 fun I1 w=>aG (fun S w=>hN S Y1 fun I4=>hF S 123 I4 0 fun I5=>hF S 45 I5 3 fun I6=>hL S 42 I6 fun I7=>hL S 52 U3 fun I8=>bT Q 42 1 #[(0,I8)] (fun I9=>aY S fun _=>blt Q .append #[42,42] 42 #[false,false] #[I7,I9] fun J0=>aG fun S w=>hN S Y1 fun J1=>hF S 123 J1 0 fun J2=>hF S 45 J2 3 fun J3=>sto Q 42 J3 J0 (fun _=>ke K (bl Y1 Z1 U2 V2 W2 X2 Y2 Z2 U3 I1 W3 X3 Y3 Z3 j4 U4 V4 W4 X4 Y4 Z4 U5 V5 W5 X5 (zV zf 64 [G8,G9,H0,H1,H2,H3,H4,H5,Y1,H7,H8,H9,I0,I1,Y1,Y1,I4,I5,I6,I7,I8,I9,J0,J1,J2,J3]))) w) w) w.drew) w):iJ K (bl Y1 Z1 U2 V2 W2 X2 Y2 Z2 U3 V3 W3 X3 Y3 Z3 j4 U4 V4 W4 X4 Y4 Z4 U5 V5 W5 X5 zf) w:=by
 delta iJ
 refine Eq.mp (congrArg (fun c=>ae Q c _ _ _ _ w) (by kernel_rfl:(rep [1,1,1] (cd f118 (b1 4095)) (cd f118 (b1 511)))=(cd f118 (b1 511)))) ?_
 revert h
 delta ke
 generalize (cd f118 (b1 4095))=xc0
 exact mpF
theorem xJ (h:mj K (bl Y1 Z1 U2 V2 W2 X2 Y2 Z2 U3 V3 W3 X3 Y3 Z3 j4 U4 V4 W4 X4 Y4 Z4 U5 V5 W5 X5 zf) w):ke K (bl Y1 Z1 U2 V2 W2 X2 Y2 Z2 U3 V3 W3 X3 Y3 Z3 j4 U4 V4 W4 X4 Y4 Z4 U5 V5 W5 X5 zf) w:=by
 delta ke;revert h;delta mj eJ;exact mpF
theorem xL (Inv:vI 13)(μ:vM 13)(h0:Inv V3 Z3 j4 U4 V4 W4 X4 Y4 Z4 U5 V5 W5 X5 w)(hs:∀(j I J M O U X Z ad ag al am an:Value) (dd:Nat→Value) (w:World) (m:Nat),Inv j I J M O U X Z ad ag al am an w→m=μ j I J M O U X Z ad ag al am an w →
  bin Q .gtr 3 false true j (ci 0) (fun J5 w=>aI J5 true (fun ap=>aU Y1 (fun j4=>af Q 123 j4 0 fun U4=>af Q 45 U4 3 fun V4=>ld Q 42 V4 fun W4=>bin Q .sub 3 false true j (ci 1) fun Y4=>aV Q 42 W4 Y4 fun Z4=>af Q 52 Z4 0 fun U5=>ld Q 31 U5 fun V5=>bin Q .gtr 31 false false V5 Y2 fun X5=>ap [Y1,j4,U4,V4,W4,j,Y4,Z4,U5,V5,Y2,X5]) w) (fun k=>k [uu,uu,uu,uu,uu,uu,uu,uu,uu,uu,uu,uu] w) fun d=>pick J5 (gd d 11) cF fun L9 w=>cond L9 (sN Y1 (fun M1=>sF 123 M1 0 fun M2=>sF 45 M2 3 fun M3=>sL 42 M3 fun M4=>sN Y1 fun M7=>sF 123 M7 0 fun M8=>sF 45 M8 3 fun M9=>sL 42 M9 fun N0=>sti (bin Q .sub 3 false true j (ci 1)) fun N2=>sI 42 N0 N2 fun N3=>sL 52 N3 fun N4=>sI 42 M4 j fun N5=>sto Q 52 N5 N4 fun _=>bin Q .sub 3 false true j (ci 1) fun N7 w=>(Inv N7 (gd d 0) (gd d 1) (gd d 2) (gd d 3) (gd d 4) (gd d 5) (gd d 6) (gd d 7) (gd d 8) (gd d 9) (gd d 10) (gd d 11) w)∧((μ N7 (gd d 0) (gd d 1) (gd d 2) (gd d 3) (gd d 4) (gd d 5) (gd d 6) (gd d 7) (gd d 8) (gd d 9) (gd d 10) (gd d 11) w)<m)) w.drew) (eJ K (bl Y1 Z1 U2 V2 W2 X2 Y2 Z2 U3 j W3 X3 Y3 (gd d 0) (gd d 1) (gd d 2) (gd d 3) (gd d 4) (gd d 5) (gd d 6) (gd d 7) (gd d 8) (gd d 9) (gd d 10) (gd d 11) (zV (zV dd 90 [j,J5,J5]) 105 [L9])) w)) w):mj K (bl Y1 Z1 U2 V2 W2 X2 Y2 Z2 U3 V3 W3 X3 Y3 Z3 j4 U4 V4 W4 X4 Y4 Z4 U5 V5 W5 X5 zf) w:=by
 refine aL (cd f118 (b1 32760)) (zr [(10,1),(90,34)]) (by kernel_rfl) (vP [10,93,94,95,96,97,98,99,100,101,102,103,104] Inv) (vQ [10,93,94,95,96,97,98,99,100,101,102,103,104] μ) h0 ?_;intro e' w' hI;have h:=hs _ _ _ _ _ _ _ _ _ _ _ _ _ (zM zf (fun i=>gd e' i) (zr [(10,1),(90,34)])) w' _ hI rfl;revert h;generalize (eJ K)=qc0;exact mpF
theorem xN (h:sN Y1 (fun N9=>sF 123 N9 0 fun O0=>sF 45 O0 3 fun O1=>sL 42 O1 fun O2=>sL 52 U3 fun O4=>sI 42 O2 V3 fun O5=>sto Q 52 O5 O4 fun _=>K (ci 0)) w.drew):eJ K (bl Y1 Z1 U2 V2 W2 X2 Y2 Z2 U3 V3 W3 X3 Y3 Z3 j4 U4 V4 W4 X4 Y4 Z4 U5 V5 W5 X5 zf) w:=by
 delta eJ;exact mpK h
attribute [irreducible] cA mh fy kc iJ ke eJ mj
def aZ (l0 e1 l2 e3 p5 i6 k_7 r8 f9 g10 at11 L3 L4 L5 L6 L7 L8 L9 M0 M1 M2 M3 M4 M5 M6 M7 M8 M9 N0 N1 N2 N3 N4 N5 N6 N7 N8 N9 O0 O1 O2 O3 O4 O5 O6 O7 O8 O9 P0 P1 P2 P3 P4 P5:Value)(zf:Nat→Value):List Value:=l0::e1::l2::e3::zf 4::p5::i6::k_7::r8::f9::g10::at11::zT zf 12 87 (L3::L4::L5::L6::L7::L8::L9::M0::M1::M2::M3::M4::M5::M6::M7::M8::M9::N0::N1::N2::N3::N4::N5::N6::N7::N8::N9::O0::O1::O2::O3::O4::O5::O6::O7::O8::O9::P0::P1::P2::P3::P4::P5::zT zf 142 46 ([]))
def bS (K:KV):KE:=ae Q (cd f120 (b1 63)) (rk f120 K) xf (rk f120 K)
def kg (K:KV):KE:=ae Q (cd f120 (b1 250)) (bS K) (xx xf (bS K) 0) (rk f120 K)
def fA (K:KV)(B1:KE):KE:=ae Q (cd f120 (b1 2003)) B1 (xx xf (bS K) 0) (rk f120 K)
def fz (K:KV)(B1:KE):KE:=ae Q (cd f120 (b1 16019)) (fA K B1) (xx (xx xf (bS K) 0) (fA K B1) 1) (rk f120 K)
def kf (K:KV):KE:=ae Q (cd f120 (b1 511)) (rk f120 K) xf (rk f120 K)
def dQ (K:KV):KE:=ae Q (cd f120 (b1 1023)) (rk f120 K) xf (rk f120 K)
def mn (K:KV):KE:=ae Q (cd f120 (b1 2044)) (dQ K) (xx xf (dQ K) 2) (rk f120 K)
theorem yS (h:box Q 54 Z1 (fun V2=>af Q 54 V2 0 fun A7=>ld Q 3 A7 fun A8=>af Q 54 V2 7 fun A9=>ld Q 31 A9 fun C0=>call Q 151 #[Y1,A8,C0] fun C1 w=>cond C1 (K (ci 14) w) (aG (fun S w=>hN S Y1 fun C3=>hF S 123 C3 1 fun C4=>hL S 119 C4 fun C5=>hF S 54 V2 4 fun C6=>hL S 31 C6 fun C7=>call Q 152 #[C5,C7] (fun C8=>aG fun _=>lN 120 C8 fun D0=>bin Q .eql 3 false true D0 (ci 0) fun D1 w=>cond D1 (K (ci 9) w) (kg K (aZ Y1 Z1 uu V2 C8 (ci 0) uu uu uu uu uu uu uu uu uu uu uu uu uu uu uu uu uu uu uu uu uu uu uu uu uu uu uu uu uu uu uu uu uu uu uu uu uu uu uu uu uu uu uu uu uu uu uu uu (zV (zV zu 4 [ci 0]) 12 [Y1,A7,A8,A9,C0,C1,Y1,C3,C4,C5,C6,C7,C8,C8,D0,D1])) w)) w) w.drew)) w):Gives Q 120 #[Y1,Z1] w K:=by
 refine aB func120 (by kernel_rfl) ?_;revert h;delta kg bS;exact mpF
theorem xQ (Inv:Value→World→Prop)(μ:Value→World→Nat)(h0:Inv X2 w)(hs:∀(i6':Value) (dd:Nat→Value) (w:World) (m:Nat),Inv i6' w→m=μ i6' w →
  lN 120 W2 (fun D4=>lS i6' D4 fun D5 w=>cond D5 (aV Q 120 W2 i6' (fun E1=>ld Q 31 E1 fun E2=>call Q 119 #[Y1,E2] fun E3 w=>aG (fun S w=>hN S Y1 fun E6=>hF S 123 E6 0 fun E7=>hF S 45 E7 3 fun E8=>hL S 42 E8 fun E9=>hI S 42 E9 E3 fun F1=>hF S 52 F1 2 fun F2=>hL S 50 F2 fun F3=>hF S 54 V2 0 fun F4=>hL S 3 F4 fun F5=>hF S 54 V2 6 fun F6=>hL S 2 F6 fun F7=>(call Q 153 #[F3,F5,F7] (fun F8=>aG fun S w=>hld S (ext Q F8 0) fun F9=>hld S (ext Q F8 1) fun G0=>alc Q 50 (fun Z2=>aY S fun S=>sto Q 50 Z2 F9 fun _=>aY S fun _=>fz K (fun e2 w2=>(Inv (gd e2 6) w2)∧((μ (gd e2 6) w2)<m)) (aZ Y1 Z1 U2 V2 W2 i6' E3 Z2 G0 V3 W3 X3 Y3 Z3 j4 U4 V4 W4 X4 Y4 Z4 U5 V5 W5 X5 Y5 Z5 K6 T6 U6 V6 W6 X6 Y6 Z6 u7 B7 K7 T7 U7 V7 W7 X7 Y7 Z7 y8 B8 K8 T8 U8 V8 W8 X8 Y8 (zV (zV dd 28 [i6',W2,D4,D5]) 34 [Y1,W2,i6',E1,E2,E3,F8,Y1,E6,E7,E8,E9,E3,F1,F2,F3,F4,F5,F6,F7,F8,F9,G0]))) w) w)∧(alc Q 50 (fun Z2=>aY S fun _=>call Q 153 #[F3,F5,F7] fun F8=>aG fun S w=>hld S (ext Q F8 0) fun F9=>hld S (ext Q F8 1) fun G0=>sto Q 50 Z2 F9 (fun _=>aY S fun _=>fz K (fun e2 w2=>(Inv (gd e2 6) w2)∧((μ (gd e2 6) w2)<m)) (aZ Y1 Z1 U2 V2 W2 i6' E3 Z2 G0 V3 W3 X3 Y3 Z3 j4 U4 V4 W4 X4 Y4 Z4 U5 V5 W5 X5 Y5 Z5 K6 T6 U6 V6 W6 X6 Y6 Z6 u7 B7 K7 T7 U7 V7 W7 X7 Y7 Z7 y8 B8 K8 T8 U8 V8 W8 X8 Y8 (zV (zV dd 28 [i6',W2,D4,D5]) 34 [Y1,W2,i6',E1,E2,E3,F8,Y1,E6,E7,E8,E9,E3,F1,F2,F3,F4,F5,F6,F7,F8,F9,G0]))) w) w)) w.drew) w) (bS K (aZ Y1 Z1 U2 V2 W2 i6' (dd 7) (dd 8) (dd 9) V3 W3 X3 Y3 Z3 j4 U4 V4 W4 X4 Y4 Z4 U5 V5 W5 X5 Y5 Z5 K6 T6 U6 V6 W6 X6 Y6 Z6 u7 B7 K7 T7 U7 V7 W7 X7 Y7 Z7 y8 B8 K8 T8 U8 V8 W8 X8 Y8 (zV dd 28 [i6',W2,D4,D5])) w)) w):kg K (aZ Y1 Z1 U2 V2 W2 X2 Y2 Z2 U3 V3 W3 X3 Y3 Z3 j4 U4 V4 W4 X4 Y4 Z4 U5 V5 W5 X5 Y5 Z5 K6 T6 U6 V6 W6 X6 Y6 Z6 u7 B7 K7 T7 U7 V7 W7 X7 Y7 Z7 y8 B8 K8 T8 U8 V8 W8 X8 Y8 zf) w:=by
 refine aL (cd f120 (b1 500)) (zr [(4,1),(6,4),(28,41)]) (by kernel_rfl) (vP [6] Inv) (vQ [6] μ) h0 ?_
 intro e' w' hI
 have h:=hs _ (zM zf (fun i=>gd e' i) (zr [(4,1),(6,4),(28,41)])) w' _ hI rfl
 refine Eq.mp (congrArg (fun c=>ae Q c _ _ _ _ w') (by kernel_rfl:(rep (b1 51) (cd f120 (b1 16019)) (cd f120 (b1 500)))=(cd f120 (b1 500)))) ?_
 revert h
 delta fz fA
 generalize (cd f120 (b1 16019))=xc0
 generalize (bS K)=qc0
 exact mpF
theorem xO (h:bin Q .neq 27 false true U3 (ci 0) (fun G2 w=>cond G2 (K U3 w) (sN Y1 (fun G5=>sF 123 G5 0 fun G6=>sF 45 G6 3 fun G7=>sL 42 G7 fun G8=>sL 50 Z2 fun H0=>sI 42 G8 Y2 fun H1=>sF 52 H1 2 fun H2=>sto Q 50 H2 H0 fun _=>fA K B1 (aZ Y1 Z1 U2 V2 W2 X2 Y2 Z2 U3 V3 W3 X3 Y3 Z3 j4 U4 V4 W4 X4 Y4 Z4 U5 V5 W5 X5 Y5 Z5 K6 T6 U6 V6 W6 X6 Y6 Z6 u7 B7 K7 T7 U7 V7 W7 X7 Y7 Z7 y8 B8 K8 T8 U8 V8 W8 X8 Y8 (zV (zV zf 57 [U3,G2]) 60 [Y1,G5,G6,G7,G8,Y2,H0,H1,H2]))) w.drew)) w):fz K B1 (aZ Y1 Z1 U2 V2 W2 X2 Y2 Z2 U3 V3 W3 X3 Y3 Z3 j4 U4 V4 W4 X4 Y4 Z4 U5 V5 W5 X5 Y5 Z5 K6 T6 U6 V6 W6 X6 Y6 Z6 u7 B7 K7 T7 U7 V7 W7 X7 Y7 Z7 y8 B8 K8 T8 U8 V8 W8 X8 Y8 zf) w:=by
 delta fz;revert h;generalize (fA K B1)=qc0;generalize (bS K)=qc1;exact mpF
theorem xS (h:af Q 54 V2 0 (fun H3=>ld Q 3 H3 fun H4=>af Q 54 V2 7 fun H5=>ld Q 31 H5 fun H6=>af Q 54 V2 4 fun H7=>ld Q 31 H7 fun H8=>af Q 54 V2 6 fun H9=>ld Q 2 H9 fun I0=>bld Q 126 #[(0,H4),(1,H6),(2,H8),(3,I0)] fun I1=>alc Q 126 fun V3=>sto Q 126 V3 I1 fun _=>aU Y1 fun I3=>af Q 123 I3 0 fun I4=>af Q 45 I4 4 fun I5=>ld Q 43 I5 fun I6=>lN 43 I6 fun I7 w=>aG (fun S w=>hN S Y1 fun J0=>hF S 123 J0 0 fun J1=>hF S 45 J1 4 fun J2=>hL S 43 J2 fun J3=>hL S 126 V3 fun J4=>bT Q 43 1 #[(0,J4)] (fun J5=>aY S fun _=>blt Q .append #[43,43] 43 #[false,false] #[J3,J5] fun J6=>aG fun S w=>hN S Y1 fun J7=>hF S 123 J7 0 fun J8=>hF S 45 J8 4 fun J9=>sto Q 43 J9 J6 (fun _=>kf K (aZ Y1 Z1 U2 V2 W2 X2 Y2 Z2 U3 V3 I7 X3 Y3 Z3 j4 U4 V4 W4 X4 Y4 Z4 U5 V5 W5 X5 Y5 Z5 K6 T6 U6 V6 W6 X6 Y6 Z6 u7 B7 K7 T7 U7 V7 W7 X7 Y7 Z7 y8 B8 K8 T8 U8 V8 W8 X8 Y8 (zV zf 69 [H3,H4,H5,H6,H7,H8,H9,I0,I1,Y1,I3,I4,I5,I6,I7,Y1,Y1,J0,J1,J2,J3,J4,J5,J6,J7,J8,J9]))) w) w) w.drew) w):bS K (aZ Y1 Z1 U2 V2 W2 X2 Y2 Z2 U3 V3 W3 X3 Y3 Z3 j4 U4 V4 W4 X4 Y4 Z4 U5 V5 W5 X5 Y5 Z5 K6 T6 U6 V6 W6 X6 Y6 Z6 u7 B7 K7 T7 U7 V7 W7 X7 Y7 Z7 y8 B8 K8 T8 U8 V8 W8 X8 Y8 zf) w:=by
 delta bS
 refine Eq.mp (congrArg (fun c=>ae Q c _ _ _ _ w) (by kernel_rfl:(rep [1,1,1] (cd f120 (b1 511)) (cd f120 (b1 63)))=(cd f120 (b1 63)))) ?_
 revert h
 delta kf
 generalize (cd f120 (b1 511))=xc0
 exact mpF
theorem xT (h:nC X2 (fun D7=>B1 (aZ Y1 Z1 U2 V2 W2 D7 Y2 Z2 U3 V3 W3 X3 Y3 Z3 j4 U4 V4 W4 X4 Y4 Z4 U5 V5 W5 X5 Y5 Z5 K6 T6 U6 V6 W6 X6 Y6 Z6 u7 B7 K7 T7 U7 V7 W7 X7 Y7 Z7 y8 B8 K8 T8 U8 V8 W8 X8 Y8 (zV zf 32 [X2,D7]))) w):fA K B1 (aZ Y1 Z1 U2 V2 W2 X2 Y2 Z2 U3 V3 W3 X3 Y3 Z3 j4 U4 V4 W4 X4 Y4 Z4 U5 V5 W5 X5 Y5 Z5 K6 T6 U6 V6 W6 X6 Y6 Z6 u7 B7 K7 T7 U7 V7 W7 X7 Y7 Z7 y8 B8 K8 T8 U8 V8 W8 X8 Y8 zf) w:=by
 delta fA;revert h;generalize (bS K)=qc0;exact mpF
theorem xP (h:mn K (aZ Y1 Z1 U2 V2 W2 X2 Y2 Z2 U3 V3 W3 X3 Y3 Z3 j4 U4 V4 W4 X4 Y4 Z4 U5 V5 W5 X5 Y5 Z5 K6 T6 U6 V6 W6 X6 Y6 Z6 u7 B7 K7 T7 U7 V7 W7 X7 Y7 Z7 y8 B8 K8 T8 U8 V8 W8 X8 Y8 zf) w):kf K (aZ Y1 Z1 U2 V2 W2 X2 Y2 Z2 U3 V3 W3 X3 Y3 Z3 j4 U4 V4 W4 X4 Y4 Z4 U5 V5 W5 X5 Y5 Z5 K6 T6 U6 V6 W6 X6 Y6 Z6 u7 B7 K7 T7 U7 V7 W7 X7 Y7 Z7 y8 B8 K8 T8 U8 V8 W8 X8 Y8 zf) w:=by
 delta kf;revert h;delta mn dQ;exact mpF
theorem xR (Inv:vI 44)(μ:vM 44)(h0:Inv W3 X3 Y3 Z3 j4 U4 V4 W4 X4 Y4 Z4 U5 V5 W5 X5 Y5 Z5 K6 T6 U6 V6 W6 X6 Y6 Z6 u7 B7 K7 T7 U7 V7 W7 X7 Y7 Z7 y8 B8 K8 T8 U8 V8 W8 X8 Y8 w)(hs:∀(J U X Z ad ag al am an ap ar av az aS a0 a2 a3 a4 a6 a7 a8 a9 bb bd be bi bk bs bt bW b0 b3 b4 b5 b6 b7 b8 b9 ca cc ce cg ch cj:Value) (dd:Nat→Value) (w:World) (m:Nat),Inv J U X Z ad ag al am an ap ar av az aS a0 a2 a3 a4 a6 a7 a8 a9 bb bd be bi bk bs bt bW b0 b3 b4 b5 b6 b7 b8 b9 ca cc ce cg ch cj w→m=μ J U X Z ad ag al am an ap ar av az aS a0 a2 a3 a4 a6 a7 a8 a9 bb bd be bi bk bs bt bW b0 b3 b4 b5 b6 b7 b8 b9 ca cc ce cg ch cj w →
  sti (bin Q .gtr 3 false true J (ci 0)) (fun L1 w=>aI L1 true (fun cp=>sN Y1 (fun Y3=>sF 123 Y3 0 fun Z3=>sF 45 Z3 4 fun j4=>sL 43 j4 fun U4=>sti (bin Q .sub 3 false true J (ci 1)) fun W4=>sI 43 U4 W4 fun X4=>sF 126 X4 0 fun Y4=>sL 3 Y4 fun Z4=>sF 126 V3 0 fun U5=>sL 3 U5 fun V5=>sti (bin Q .gtr 3 false false Z4 V5) fun W5=>cp [Y1,Y3,Z3,j4,U4,J,W4,X4,Y4,Z4,U5,V5,W5,W5]) w) (fun k=>k [uu,uu,uu,uu,uu,uu,uu,uu,uu,uu,uu,uu,uu,uu] w) fun u w=>aI (gd u 13) false (fun ck=>sN Y1 (fun Z5=>sF 123 Z5 0 fun K6=>sF 45 K6 4 fun T6=>sL 43 T6 fun U6=>sti (bin Q .sub 3 false true J (ci 1)) fun W6=>sI 43 U6 W6 fun X6=>sF 126 X6 0 fun Y6=>sL 3 Y6 fun Z6=>sF 126 V3 0 fun u7=>sL 3 u7 fun B7=>sti (bin Q .eql 3 false false Z6 B7) fun K7=>ck [Y1,Z5,K6,T6,U6,J,W6,X6,Y6,Z6,u7,B7,K7,K7]) w) (fun k=>k [uu,uu,uu,uu,uu,uu,uu,uu,uu,uu,uu,uu,uu,uu] w) fun d w=>aI (gd d 13) true (fun cl=>sN Y1 (fun V7=>sF 123 V7 0 fun W7=>sF 45 W7 4 fun X7=>sL 43 X7 fun Y7=>sti (bin Q .sub 3 false true J (ci 1)) fun y8=>sI 43 Y7 y8 fun B8=>sF 126 B8 1 fun K8=>sL 31 K8 fun T8=>sF 126 V3 1 fun U8=>sL 31 U8 fun V8=>sti (bin Q .gtr 31 false false T8 V8) fun W8=>cl [Y1,V7,W7,X7,Y7,J,y8,B8,K8,T8,U8,V8,W8]) w) (fun k=>k [uu,uu,uu,uu,uu,uu,uu,uu,uu,uu,uu,uu,uu] w) fun j w=>aI (gd u 13) false (fun cm=>sti (pick (gd d 13) (gd j 12) cF) (fun X8=>cm [X8]) w) (fun k=>k [uu] w) fun M w=>aI L1 true (fun cn=>sti (pick (gd u 13) cT (gd M 0)) (fun Y8=>cn [Y8]) w) (fun k=>k [uu] w) fun O=>sti (pick L1 (gd O 0) cF) fun P6 w=>cond P6 (sN Y1 (fun P8=>sF 123 P8 0 fun P9=>sF 45 P9 4 fun Q0=>sL 43 Q0 fun Q1=>sN Y1 fun Q4=>sF 123 Q4 0 fun Q5=>sF 45 Q5 4 fun Q6=>sL 43 Q6 fun Q7=>sti (bin Q .sub 3 false true J (ci 1)) fun Q8=>sI 43 Q7 Q8 fun Q9=>sL 126 Q9 fun R0=>sI 43 Q1 J fun R1=>sto Q 126 R1 R0 fun _=>bin Q .sub 3 false true J (ci 1) fun R2 w=>(Inv R2 (gd u 0) (gd u 1) (gd u 2) (gd u 3) (gd u 4) (gd u 5) (gd u 6) (gd u 7) (gd u 8) (gd u 9) (gd u 10) (gd u 11) (gd u 12) (gd u 13) (gd d 0) (gd d 1) (gd d 2) (gd d 3) (gd d 4) (gd d 5) (gd d 6) (gd d 7) (gd d 8) (gd d 9) (gd d 10) (gd d 11) (gd d 12) (gd d 13) (gd j 0) (gd j 1) (gd j 2) (gd j 3) (gd j 4) (gd j 5) (gd j 6) (gd j 7) (gd j 8) (gd j 9) (gd j 10) (gd j 11) (gd j 12) (gd M 0) (gd O 0) w)∧((μ R2 (gd u 0) (gd u 1) (gd u 2) (gd u 3) (gd u 4) (gd u 5) (gd u 6) (gd u 7) (gd u 8) (gd u 9) (gd u 10) (gd u 11) (gd u 12) (gd u 13) (gd d 0) (gd d 1) (gd d 2) (gd d 3) (gd d 4) (gd d 5) (gd d 6) (gd d 7) (gd d 8) (gd d 9) (gd d 10) (gd d 11) (gd d 12) (gd d 13) (gd j 0) (gd j 1) (gd j 2) (gd j 3) (gd j 4) (gd j 5) (gd j 6) (gd j 7) (gd j 8) (gd j 9) (gd j 10) (gd j 11) (gd j 12) (gd M 0) (gd O 0) w)<m)) w.drew) (dQ K (aZ Y1 Z1 U2 V2 W2 X2 Y2 Z2 U3 V3 J (gd u 0) (gd u 1) (gd u 2) (gd u 3) (gd u 4) (gd u 5) (gd u 6) (gd u 7) (gd u 8) (gd u 9) (gd u 10) (gd u 11) (gd u 12) (gd u 13) (gd d 0) (gd d 1) (gd d 2) (gd d 3) (gd d 4) (gd d 5) (gd d 6) (gd d 7) (gd d 8) (gd d 9) (gd d 10) (gd d 11) (gd d 12) (gd d 13) (gd j 0) (gd j 1) (gd j 2) (gd j 3) (gd j 4) (gd j 5) (gd j 6) (gd j 7) (gd j 8) (gd j 9) (gd j 10) (gd j 11) (gd j 12) (gd M 0) (gd O 0) (zV (zV dd 96 [J,L1,L1]) 142 [P6])) w)) w.drew):mn K (aZ Y1 Z1 U2 V2 W2 X2 Y2 Z2 U3 V3 W3 X3 Y3 Z3 j4 U4 V4 W4 X4 Y4 Z4 U5 V5 W5 X5 Y5 Z5 K6 T6 U6 V6 W6 X6 Y6 Z6 u7 B7 K7 T7 U7 V7 W7 X7 Y7 Z7 y8 B8 K8 T8 U8 V8 W8 X8 Y8 zf) w:=by
 refine aL (cd f120 (b1 4088)) (zr [(11,1),(96,65)]) (by kernel_rfl) (vP [11,99,100,101,102,103,104,105,106,107,108,109,110,111,112,113,114,115,116,117,118,119,120,121,122,123,124,125,126,127,128,129,130,131,132,133,134,135,136,137,138,139,140,141] Inv) (vQ [11,99,100,101,102,103,104,105,106,107,108,109,110,111,112,113,114,115,116,117,118,119,120,121,122,123,124,125,126,127,128,129,130,131,132,133,134,135,136,137,138,139,140,141] μ) h0 ?_
 intro e' w' hI;have h:=hs _ _ _ _ _ _ _ _ _ _ _ _ _ _ _ _ _ _ _ _ _ _ _ _ _ _ _ _ _ _ _ _ _ _ _ _ _ _ _ _ _ _ _ _ (zM zf (fun i=>gd e' i) (zr [(11,1),(96,65)])) w' _ hI rfl;revert h;generalize (dQ K)=qc0;exact mpF
theorem xU (h:sN Y1 (fun R3=>sF 123 R3 0 fun R4=>sF 45 R4 4 fun R5=>sL 43 R5 fun R6=>sL 126 V3 fun R7=>sI 43 R6 W3 fun R8=>sto Q 126 R8 R7 fun _ w=>aG (fun S w=>hF S 54 V2 0 fun R9=>hL S 3 R9 fun S0=>hld (fun _=>True) (bin Q .sub 3 false true S0 (ci 1)) fun S1=>hF S 54 V2 0 fun S2=>hL S 3 S2 fun S3=>hld (fun _=>True) (bin Q .sub 3 false true S3 (ci 1)) fun S4=>hN S Y1 fun S5=>hF S 123 S5 2 fun S6=>hI S 121 S6 S4 fun S7=>hL S 120 S7 fun S8=>hF S 54 V2 7 fun S9=>hL S 31 S9 fun T0=>hN S Y1 fun T3=>hF S 123 T3 2 fun T4=>bT Q 120 1 #[(0,T0)] (fun T1=>aY S fun S=>blt Q .append #[120,120] 120 #[false,false] #[S8,T1] fun T2=>aY S fun S w=>hI S 121 T4 S1 fun T5=>sto Q 120 T5 T2 (fun _=>K (ci 0)) w) w) w.drew) w.drew):dQ K (aZ Y1 Z1 U2 V2 W2 X2 Y2 Z2 U3 V3 W3 X3 Y3 Z3 j4 U4 V4 W4 X4 Y4 Z4 U5 V5 W5 X5 Y5 Z5 K6 T6 U6 V6 W6 X6 Y6 Z6 u7 B7 K7 T7 U7 V7 W7 X7 Y7 Z7 y8 B8 K8 T8 U8 V8 W8 X8 Y8 zf) w:=by
 delta dQ;exact mpK h
attribute [irreducible] bS kg fA fz kf dQ mn
def bx (l0 e1 l2 e3 k_5 p6 i7 n8 r9 f10:Value)(zf:Nat→Value):List Value:=l0::e1::l2::e3::zf 4::k_5::p6::i7::n8::r9::f10::zT zf 11 117 ([])
def ka (K:KV):KE:=ae Q (cd f121 (b1 63)) (rk f121 K) xf (rk f121 K)
def bR (K:KV):KE:=ae Q (cd f121 (b1 127)) (rk f121 K) xf (rk f121 K)
def kb (K:KV):KE:=ae Q (cd f121 (b1 506)) (bR K) (xx xf (bR K) 0) (rk f121 K)
def fw (K:KV)(B1:KE):KE:=ae Q (cd f121 (b1 4051)) B1 (xx xf (bR K) 0) (rk f121 K)
def fu (K:KV)(B1:KE):KE:=ae Q (cd f121 (b1 32403)) (fw K B1) (xx (xx xf (bR K) 0) (fw K B1) 1) (rk f121 K)
theorem yP {K:KV}{Y1 Z1:Value}{w:World}(h:box Q 54 Z1 (fun V2=>af Q 54 V2 0 fun A6=>ld Q 3 A6 fun A7=>af Q 54 V2 7 fun A8=>ld Q 31 A8 fun A9=>call Q 151 #[Y1,A7,A9] fun C0 w=>cond C0 (K (ci 14) w) (af Q 54 V2 0 (fun C2=>ld Q 3 C2 fun C3=>af Q 54 V2 8 fun C4=>ld Q 31 C4 fun C5=>call Q 154 #[Y1,C3,C5] fun C6=>bin Q .lss 3 false true C6 (ci 0) fun C8 w=>aI C8 false (fun k26=>aU Y1 (fun D1=>af Q 123 D1 0 fun D2=>af Q 45 D2 4 fun D3=>ld Q 43 D3 fun D4=>aV Q 43 D4 C6 fun D6=>af Q 126 D6 4 fun D7=>ld Q 31 D7 fun D8=>bin Q .neq 31 false true D8 (cu 0) fun D9=>k26 [Y1,D1,D2,D3,D4,C6,D6,D7,D8,D9]) w) (fun k=>k [uu,uu,uu,uu,uu,uu,uu,uu,uu,uu] w) fun us26=>pick C8 cT (gd us26 9) fun E0 w=>cond E0 (K (ci 12) w) (aG (fun S w=>hN S Y1 fun E2=>hF S 123 E2 1 fun E3=>hL S 119 E3 fun E4=>hN S Y1 fun E6=>hF S 123 E6 0 fun E7=>hF S 45 E7 4 fun E8=>hL S 43 E8 fun E9=>hI S 43 E9 C6 fun F1=>hF S 126 F1 2 fun F2=>hL S 31 F2 fun F3=>call Q 152 #[E4,F3] (fun F4=>aG fun _=>ka K (bx Y1 Z1 uu V2 C6 F4 uu uu uu uu (zV (zV zu 4 [ci 0]) 11 [Y1,A6,A7,A8,A9,C0,Y1,C2,C3,C4,C5,C6,C6,C8,C8,gd us26 0,gd us26 1,gd us26 2,gd us26 3,gd us26 4,gd us26 5,gd us26 6,gd us26 7,gd us26 8,gd us26 9,E0,Y1,E2,E3,E4,Y1,E6,E7,E8,E9,C6,F1,F2,F3,F4]))) w) w.drew)) w)) w):Gives Q 121 #[Y1,Z1] w K:=by
 refine aB func121 (by kernel_rfl) ?_
 refine Eq.mp (congrArg (fun c=>ae Q c _ _ _ _ w) (by kernel_rfl:(rep (b1 63) (cd f121 (b1 63)) (cd f121 []))=(cd f121 []))) ?_
 revert h
 delta ka
 generalize (cd f121 (b1 63))=xc0
 exact mpF
theorem xz (h:kb K (bx Y1 Z1 U2 V2 W2 X2 (ci 0) Z2 U3 V3 zf) w):ka K (bx Y1 Z1 U2 V2 W2 X2 Y2 Z2 U3 V3 zf) w:=by
 delta ka;revert h;delta kb bR;exact mpF
theorem xB (Inv:Value→World→Prop)(μ:Value→World→Nat)(h0:Inv Y2 w)(hs:∀(i7':Value) (dd:Nat→Value) (w:World) (m:Nat),Inv i7' w→m=μ i7' w →
  lN 120 X2 (fun F7=>lS i7' F7 fun F8 w=>cond F8 (aV Q 120 X2 i7' (fun G4=>ld Q 31 G4 fun G5=>call Q 119 #[Y1,G5] fun G6 w=>aG (fun S w=>hN S Y1 fun G9=>hF S 123 G9 0 fun H0=>hF S 45 H0 3 fun H1=>hL S 42 H1 fun H2=>hI S 42 H2 G6 fun H4=>hF S 52 H4 2 fun H5=>hL S 50 H5 fun H6=>hF S 54 V2 0 fun H7=>hL S 3 H7 fun H8=>hN S Y1 fun I0=>hF S 123 I0 0 fun I1=>hF S 45 I1 4 fun I2=>hL S 43 I2 fun I3=>hI S 43 I3 W2 fun I5=>hF S 126 I5 3 fun I6=>hL S 2 I6 fun I7=>(call Q 155 #[H6,H8,I7] (fun I8=>aG fun S w=>hld S (ext Q I8 0) fun I9=>hld S (ext Q I8 1) fun J0=>alc Q 50 (fun U3=>aY S fun S=>sto Q 50 U3 I9 fun _=>aY S fun _=>fu K (fun e2 w2=>(Inv (gd e2 7) w2)∧((μ (gd e2 7) w2)<m)) (bx Y1 Z1 U2 V2 W2 X2 i7' G6 U3 J0 (zV (zV dd 51 [i7',X2,F7,F8]) 57 [Y1,X2,i7',G4,G5,G6,I8,Y1,G9,H0,H1,H2,G6,H4,H5,H6,H7,H8,Y1,I0,I1,I2,I3,W2,I5,I6,I7,I8,I9,J0]))) w) w)∧(alc Q 50 (fun U3=>aY S fun _=>call Q 155 #[H6,H8,I7] fun I8=>aG fun S w=>hld S (ext Q I8 0) fun I9=>hld S (ext Q I8 1) fun J0=>sto Q 50 U3 I9 (fun _=>aY S fun _=>fu K (fun e2 w2=>(Inv (gd e2 7) w2)∧((μ (gd e2 7) w2)<m)) (bx Y1 Z1 U2 V2 W2 X2 i7' G6 U3 J0 (zV (zV dd 51 [i7',X2,F7,F8]) 57 [Y1,X2,i7',G4,G5,G6,I8,Y1,G9,H0,H1,H2,G6,H4,H5,H6,H7,H8,Y1,I0,I1,I2,I3,W2,I5,I6,I7,I8,I9,J0]))) w) w)) w.drew) w) (bR K (bx Y1 Z1 U2 V2 W2 X2 i7' (dd 8) (dd 9) (dd 10) (zV dd 51 [i7',X2,F7,F8])) w)) w):kb K (bx Y1 Z1 U2 V2 W2 X2 Y2 Z2 U3 V3 zf) w:=by
 refine aL (cd f121 (b1 1012)) (zr [(4,1),(7,4),(51,48)]) (by kernel_rfl) (vP [7] Inv) (vQ [7] μ) h0 ?_
 intro e' w' hI
 have h:=hs _ (zM zf (fun i=>gd e' i) (zr [(4,1),(7,4),(51,48)])) w' _ hI rfl
 refine Eq.mp (congrArg (fun c=>ae Q c _ _ _ _ w') (by kernel_rfl:(rep (b1 51) (cd f121 (b1 32403)) (cd f121 (b1 1012)))=(cd f121 (b1 1012)))) ?_
 revert h
 delta fu fw
 generalize (cd f121 (b1 32403))=xc0
 generalize (bR K)=qc0
 exact mpF
theorem xA (h:bin Q .neq 27 false true V3 (ci 0) (fun J2 w=>cond J2 (K V3 w) (sN Y1 (fun J5=>sF 123 J5 0 fun J6=>sF 45 J6 3 fun J7=>sL 42 J7 fun J8=>sL 50 U3 fun L0=>sI 42 J8 Z2 fun L1=>sF 52 L1 2 fun L2=>sto Q 50 L2 L0 fun _=>fw K B1 (bx Y1 Z1 U2 V2 W2 X2 Y2 Z2 U3 V3 (zV (zV zf 87 [V3,J2]) 90 [Y1,J5,J6,J7,J8,Z2,L0,L1,L2]))) w.drew)) w):fu K B1 (bx Y1 Z1 U2 V2 W2 X2 Y2 Z2 U3 V3 zf) w:=by
 delta fu;revert h;generalize (fw K B1)=qc0;generalize (bR K)=qc1;exact mpF
theorem xC (h:sN Y1 (fun L4=>sF 123 L4 0 fun L5=>sF 45 L5 4 fun L6=>sL 43 L6 fun L7=>sF 54 V2 7 fun L9=>sL 31 L9 fun M0=>sI 43 L7 W2 fun M1=>sF 126 M1 4 fun M2=>sto Q 31 M2 M0 fun _ w=>aG (fun S w=>hF S 54 V2 0 fun M4=>hL S 3 M4 fun M5=>hld (fun _=>True) (bin Q .sub 3 false true M5 (ci 1)) fun M6=>hF S 54 V2 0 fun M8=>hL S 3 M8 fun M9=>hld (fun _=>True) (bin Q .sub 3 false true M9 (ci 1)) fun N0=>hN S Y1 fun N1=>hF S 123 N1 2 fun N2=>hI S 121 N2 N0 fun N3=>hL S 120 N3 fun N4=>hF S 54 V2 7 fun N5=>hL S 31 N5 fun N6=>hN S Y1 fun N9=>hF S 123 N9 2 fun O0=>bT Q 120 1 #[(0,N6)] (fun N7=>aY S fun S=>blt Q .append #[120,120] 120 #[false,false] #[N4,N7] fun N8=>aY S fun S w=>hI S 121 O0 M6 fun O1=>sto Q 120 O1 N8 (fun _=>K (ci 0)) w) w) w.drew) w.drew):bR K (bx Y1 Z1 U2 V2 W2 X2 Y2 Z2 U3 V3 zf) w:=by
 delta bR;exact mpK h
theorem xD (h:nC Y2 (fun G0=>B1 (bx Y1 Z1 U2 V2 W2 X2 G0 Z2 U3 V3 (zV zf 55 [Y2,G0]))) w):fw K B1 (bx Y1 Z1 U2 V2 W2 X2 Y2 Z2 U3 V3 zf) w:=by
 delta fw;revert h;generalize (bR K)=qc0;exact mpF
attribute [irreducible] ka bR kb fw fu
end
end Go.Proofs.YtkbhfjljieopoaaGreatDoor
namespace Go.Proofs
open Go.Shelf
def Tryz.sortGr_ren :Go.Shelf.Ren:=⟨fun|6=>52|15=>91|14=>90|28=>132|29=>133|20=>124|21=>125|22=>126|23=>127|24=>128|25=>129|26=>130|27=>131|46=>160|47=>161|48=>162|49=>163|50=>164|57=>196|n=>n,fun|22=>43|24=>126|25=>156|3=>3|39=>196|0=>0|53=>230|55=>31|4=>4|46=>223|45=>222|50=>227|5=>5|9=>9|66=>258|70=>262|76=>284|77=>285|n=>n,fun|n=>n⟩
theorem Tryz.sortGr :Go.Proofs.SlLaysF0.n6 Tryz.prog Tryz.sortGr_ren:={
 mixed:=by kernel_rfl
 f6:=⟨Tryz.f52.name,by decide,func52.trans (congrArg some (by kernel_rfl))⟩
 f14:=⟨Tryz.f90.name,by decide,func90.trans (congrArg some (by kernel_rfl))⟩
 f15:=func91.trans (congrArg some (by kernel_rfl))
 f20:=⟨Tryz.f124.name,by decide,func124.trans (congrArg some (by kernel_rfl))⟩
 f21:=⟨Tryz.f125.name,by decide,func125.trans (congrArg some (by kernel_rfl))⟩
 f22:=⟨Tryz.f126.name,by decide,func126.trans (congrArg some (by kernel_rfl))⟩
 f23:=⟨Tryz.f127.name,by decide,func127.trans (congrArg some (by kernel_rfl))⟩
 f24:=⟨Tryz.f128.name,by decide,func128.trans (congrArg some (by kernel_rfl))⟩
 f25:=⟨Tryz.f129.name,by decide,func129.trans (congrArg some (by kernel_rfl))⟩
 f26:=⟨Tryz.f130.name,by decide,func130.trans (congrArg some (by kernel_rfl))⟩
 f27:=⟨Tryz.f131.name,by decide,func131.trans (congrArg some (by kernel_rfl))⟩
 f28:=func132.trans (congrArg some (by kernel_rfl))
 f29:=func133.trans (congrArg some (by kernel_rfl))
 f46:=⟨Tryz.f160.name,by decide,func160.trans (congrArg some (by kernel_rfl))⟩
 f47:=func161.trans (congrArg some (by kernel_rfl))
 f48:=func162.trans (congrArg some (by kernel_rfl))
 f49:=⟨Tryz.f163.name,by decide,func163.trans (congrArg some (by kernel_rfl))⟩
 f50:=⟨Tryz.f164.name,by decide,func164.trans (congrArg some (by kernel_rfl))⟩
 f57:=⟨Tryz.f196.name,by decide,func196.trans (congrArg some (by kernel_rfl))⟩
 t0:=underlying0
 a0:=Tryz.isAgg0
 z0:=Tryz.sizeOf0
 v0:=Tryz.zeroValue0
 t3:=underlying3
 a3:=Tryz.isAgg3
 z3:=Tryz.sizeOf3
 v3:=Tryz.zeroValue3
 t4:=underlying4
 a4:=Tryz.isAgg4
 z4:=Tryz.sizeOf4
 v4:=Tryz.zeroValue4
 t5:=underlying5
 a5:=Tryz.isAgg5
 z5:=Tryz.sizeOf5
 v5:=Tryz.zeroValue5
 t9:=underlying9
 a9:=Tryz.isAgg9
 z9:=Tryz.sizeOf9
 v9:=Tryz.zeroValue9
 t22:=underlying43
 a22:=Tryz.isAgg43
 z22:=Tryz.sizeOf43
 v22:=Tryz.zeroValue43
 t25:=underlying156
 a25:=Tryz.isAgg156
 z25:=Tryz.sizeOf156
 v25:=Tryz.zeroValue156
 t39:=underlying196
 a39:=Tryz.isAgg196
 z39:=Tryz.sizeOf196
 v39:=Tryz.zeroValue196
 t45:=underlying222
 a45:=Tryz.isAgg222
 z45:=Tryz.sizeOf222
 v45:=Tryz.zeroValue222
 t46:=underlying223
 a46:=Tryz.isAgg223
 z46:=Tryz.sizeOf223
 v46:=Tryz.zeroValue223
 t50:=underlying227
 a50:=Tryz.isAgg227
 z50:=Tryz.sizeOf227
 v50:=Tryz.zeroValue227
 t53:=underlying230
 a53:=Tryz.isAgg230
 z53:=Tryz.sizeOf230
 v53:=Tryz.zeroValue230
 t55:=underlying31
 a55:=Tryz.isAgg31
 z55:=Tryz.sizeOf31
 v55:=Tryz.zeroValue31
 t66:=underlying258
 a66:=Tryz.isAgg258
 z66:=Tryz.sizeOf258
 v66:=Tryz.zeroValue258
 t70:=underlying262
 a70:=Tryz.isAgg262
 z70:=Tryz.sizeOf262
 v70:=Tryz.zeroValue262
 t76:=underlying284
 a76:=Tryz.isAgg284
 z76:=Tryz.sizeOf284
 v76:=Tryz.zeroValue284
 t77:=underlying285
 a77:=Tryz.isAgg285
 z77:=Tryz.sizeOf285
 v77:=Tryz.zeroValue285}
end Go.Proofs
namespace Go.Proofs.YtkbhfjljieopoaaGreatDoor
variable {w w':World}{K:KV}{zf dd:Nat→Value}{c n k B i g m s j z d cp hi:Nat}{x v:Int}{B1:KE}{a av:Option Addr}{t e:TypeId}{cs:List Value}{P:Program}{Y1 Z1 U2 V2 W2 X2 Y2 Z2 U3 V3 W3 X3 Y3 Z3 j4 U4 V4 W4 X4 Y4 Z4 U5 V5 W5 X5 Y5 Z5 K6 T6 U6 V6 W6 X6 Y6 Z6 u7 B7 K7 T7 U7 V7 W7 X7 Y7 Z7 y8 B8 K8 T8 U8 V8 W8 X8 Y8:Value}
set_option maxRecDepth 100000
open Go.Proofs.Tryz
section
open Go.RowKit
def vk (zero3 A0 A1 A2:Value)(zf:Nat→Value):List Value:=zT zf 0 3 (zero3::zf 4::zf 5::A0::A1::A2::zT zf 9 9 ([]))
def mO (K:KV):KE:=ae Q (cd f54 [1,1,1]) (rk f54 K) xf (rk f54 K)
def uF (K:KV):KE:=ae Q (cd f54 (b1 58)) (mO K) (xx xf (mO K) 0) (rk f54 K)
theorem KM (h:lN 96 Y1 (fun U2=>uF K (vk (ci 0) Y1 U2 (ci 0) (zV (zV zu 0 [Y1]) 2 [ci 0]))) w):Gives Q 54 #[Y1] w K:=by
 refine aB func54 (by kernel_rfl) ?_;revert h;delta uF mO;exact mpF
theorem Iq (Inv:Value→World→Prop)(μ:Value→World→Nat)(I:Inv V2 w)(J:∀(d:Value) (dd:Nat→Value) (w:World) (m:Nat),Inv d w→m=μ d w →
  lS d U2 (fun A3 w=>cond A3 (aV Q 96 Z1 d (fun A4=>ld Q 3 A4 fun A5=>bin Q .neq 3 false false A5 Y1 fun A6 w=>cond A6 (K A5 w) (nC d (fun A7 w=>(Inv A7 w)∧((μ A7 w)<m)) w)) w) (mO K (vk Y1 Z1 U2 d (zV dd 9 [A3])) w)) w):uF K (vk Y1 Z1 U2 V2 zf) w:=by
 refine aL (cd f54 (b1 116)) (zr [(2,1),(5,1),(8,9)]) (by kernel_rfl) (vP [8] Inv) (vQ [8] μ) I ?_;intro e' w' hI;have h:=J _ (zM zf (fun i=>gd e' i) (zr [(2,1),(5,1),(8,9)])) w' _ hI rfl;revert h;generalize (mO K)=qc0;exact mpF
theorem Ir (h:K Y1 w):mO K (vk Y1 Z1 U2 V2 zf) w:=by
 delta mO;exact mpK h
attribute [irreducible] mO uF
theorem Ey (h:call Q 92 #[Y1] (fun A2=>call Q 92 #[Z1] fun A4 w=>cond A2 (cond A4 (K (ci 0) w) (K (ci (-1)) w)) (cond A4 (K (ci 1) w) (lS Y1 Z1 (fun A7 w=>cond A7 (K (ci (-1)) w) (bin Q .gtr 3 false false Y1 Z1 (fun A8 w=>cond A8 (K (ci 1) w) (K (ci 0) w)) w)) w))) w):Gives Q 55 #[Y1,Z1] w K:=by
 refine aB func55 (by kernel_rfl) ?_;exact mpK h
theorem Ci (h:call Q 93 #[Y1] (fun A2=>call Q 93 #[Z1] fun A4 w=>cond A2 (cond A4 (K (ci 0) w) (K (ci (-1)) w)) (cond A4 (K (ci 1) w) (bin Q .lss 31 false false Y1 Z1 (fun A7 w=>cond A7 (K (ci (-1)) w) (bin Q .gtr 31 false false Y1 Z1 (fun A8 w=>cond A8 (K (ci 1) w) (K (ci 0) w)) w)) w))) w):Gives Q 56 #[Y1,Z1] w K:=by
 refine aB func56 (by kernel_rfl) ?_;exact mpK h
theorem GM (h:bin Q .neq 3 false false Y1 Y1 K w):Gives Q 92 #[Y1] w K:=by
 refine aB func92 (by kernel_rfl) ?_;exact mpK h
end
section
attribute [local irreducible] bin un conv call bY blt slc af fld aV idx lkp dO gY eSt rng nxt ent ext alc box bld bT ld sto aU dE mkS ifc pick rdy wts aI sti cond bp Gives ae fh fT cOp
open Go.RowKit
def tT (x y:Int):Int:=if x<y then -1 else if y<x then 1 else 0
def Jr (x y:GR):Int:=if tT x.o y.o≠0 then tT x.o y.o else tT x.q y.q
theorem FN {x y:GR}:Go.Proofs.ltOf Jr x y=decide (ltG x y):=by
 rw[Bool.eq_iff_iff,decide_eq_true_eq];unfold Go.Proofs.ltOf Jr tT ltG;rw[decide_eq_true_eq];split<;>split<;>(try split)<;>omega
theorem WD :Go.Sort.SWO (Go.Proofs.ltOf Jr) where
 irrefl x:=by rw[FN];unfold ltG;simp
 trans x y z h k:=by rw[FN,decide_eq_true_eq]at *; unfold ltG at *; omega
 ntrans x y z h k:=by rw[FN,decide_eq_false_iff_not]at *; unfold ltG at *; omega
section
variable {w:World}{K:KV}
theorem SE (h:K (.bool false) w):call Tryz.prog 92 #[.int .i64 x] K w:=by
 refine aj (goK func92) (GM ?_);refine bN ?_;rw[decide_eq_false (by simp)];exact h
theorem SF (h:K (.bool false) w):call Tryz.prog 93 #[.int .u64 x] K w:=by
 refine aj (goK func93) (wn ?_);refine bN ?_;rw[decide_eq_false (by simp)];exact h
theorem VM {y:Int}(h:K (.int .i64 (tT x y)) w):call Tryz.prog 55 #[.int .i64 x,.int .i64 y] K w:=by
 refine aj (goK func55) (Ey (SE (SE (aO (aO ?_)))));refine aM ?_;by_cases d:x<y
 ·rw[show tT x y = -1 from if_pos d]at h;exact ax d h
 ·refine aq d (de ?_);by_cases j:y<x
  ·rw[show tT x y=1 from(if_neg d).trans (if_pos j)]at h;exact ax j h
  ·rw[show tT x y=0 from(if_neg d).trans (if_neg j)]at h;exact aq j h
theorem VN {y:Int}(h:K (.int .i64 (tT x y)) w):call Tryz.prog 56 #[.int .u64 x,.int .u64 y] K w:=by
 refine aj (goK func56) (Ci (SF (SF (aO (aO ?_)))));refine aM ?_;by_cases d:x<y
 ·rw[show tT x y = -1 from if_pos d]at h;exact ax d h
 ·refine aq d (de ?_);by_cases j:y<x
  ·rw[show tT x y=1 from(if_neg d).trans (if_pos j)]at h;exact ax j h
  ·rw[show tT x y=0 from(if_neg d).trans (if_neg j)]at h;exact aq j h
theorem UH {y:Int}(u:blk w g 3 [iv x,iv y])(h:K (.int .i64 (if x≠0 then x else y)) w):call Tryz.prog 54 #[.slice (some ⟨g,0,none⟩) 2 2] K w:=by
 refine aj (goK func54) (KM ?_);refine bj underlying96 <|Iq (Inv:=fun i wr=>wr=w∧(i=.int .i64 0∨i=.int .i64 1∧x=0∨i=.int .i64 2∧x=0∧y=0)) (μ:=fun i _=>2-(intOf i).toNat) ⟨rfl,.inl rfl⟩ ?_;rintro _ dd M m ⟨rfl,rfl|⟨rfl,j⟩|⟨rfl,j,J⟩⟩ I
 ·refine aM (ax (by decide) ?_);refine dJ underlying96 (s:=1) (fun _=>by kernel_rfl) (by omega) (by omega) ?_;refine lK (v:=iv x) u rfl (bN ?_);by_cases d:x≠0
  ·rw[if_pos d]at h;exact ax d h
  ·refine aq d (aW (by omega) (by omega) ⟨⟨rfl,.inr (.inl ⟨rfl,by simpa using d⟩)⟩,by rw[I];decide⟩)
 ·refine aM (ax (by decide) ?_);refine dJ underlying96 (s:=1) (fun _=>by kernel_rfl) (by omega) (by omega) ?_;refine lK (v:=iv y) u rfl (bN ?_);rw[if_neg (by simp[j])]at h;by_cases d:y≠0
  ·exact ax d h
  ·refine aq d (aW (by omega) (by omega) ⟨⟨rfl,.inr (.inr ⟨rfl,j,by simpa using d⟩)⟩,by rw[I];decide⟩)
 ·refine aM (aq (by decide) ?_);refine Ir ?_;rw[if_neg (by simp[j]),J]at h;exact h
theorem Pi {v:Value}(h:K (.pointer (some ⟨w.heap.size,0,none⟩)) (w.alloc (.cells v.cells t))):box P t v K w:=by
 unfold box;exact gZ (by simp[Instr.box,newVar,newRow]) h
theorem SW {y:Int}(h:K (.slice (some ⟨w.heap.size,0,none⟩) 2 2) (w.alloc (.cells #[iv x,iv y] 3))):bT Tryz.prog 96 2 #[(0,iv x),(1,iv y)] K w:=by
 unfold bT;obtain⟨i,hi,j,d⟩:∃i,Tryz.prog.info? 3=some i∧i.zero=some (.int .i64 0)∧i.size=1:=⟨_,rfl,by kernel_rfl,by kernel_rfl⟩
 refine gZ (run_buildSlice w _ _ 2 _ #[iv x,iv y] i _ underlying96 hi j (by rw[d];decide) (by rw[d];decide) ?_) h;rw[d];refine(Go.Great.fill_whole (s:=1) (by omega) [iv x,iv y] _ (by simp[iv,Value.cells]) (by simp)).trans ?_;simp[iv,Value.cells]
theorem VL (x y:GR)(W:World):Calls Tryz.prog 53 (#[.agg (grC x).toArray,.agg (grC y).toArray]++#[]) W fun e w' => e=.returned (.int .i64 (Jr x y))∧∃q os',w'=Go.Sort.grow (W.drewN q) os':=by
 have j:Gives Tryz.prog 53 #[.agg (grC x).toArray,.agg (grC y).toArray] W fun v w' => v=.int .i64 (Jr x y)∧∃q os',w'=Go.Sort.grow (W.drewN q) os':=by
  refine Ae ?_;refine Pi (Pi ?_);generalize J:W.alloc (.cells (Value.agg (grC x).toArray).cells 126)=w1;have a1:blk w1 W.heap.size 126 (grC x):=by
   rw[←J];unfold Go.Proofs.YtkbhfjljieopoaaGreatDoor.blk;rw[heap_alloc_new];rfl
  generalize I:w1.alloc (.cells (Value.agg (grC y).toArray).cells 126)=w2;have b2:blk w2.drew w1.heap.size 126 (grC y):=by
   rw[←I];unfold Go.Proofs.YtkbhfjljieopoaaGreatDoor.blk;show (w1.alloc _).heap[_]? = _;rw[heap_alloc_new];rfl
  have b1:blk w2.drew W.heap.size 126 (grC x):=by
   rw[←I];exact(ac (dW (World.grownBy_alloc _ _ none) (Nat.le_refl _) (fun k O=>by cases O)) a1 a1.lt).drew
  refine aw (fun u=>blk u W.heap.size 126 (grC x)∧blk u w1.heap.size 126 (grC y)) ⟨b1,b2⟩ ?_;refine ab (fun u h _=>wA) (ab (fun u h _=>lK (v:=iv x.o) h.1 rfl) ?_);refine ab (fun u h _=>wA) (ab (fun u h _=>lK (v:=iv y.o) h.2 rfl) ?_);refine ab (fun u h _=>CX) (ab (fun u h _=>lK (v:=u6 x.q) h.1 rfl) ?_);refine ab (fun u h _=>CX) (ab (fun u h _=>lK (v:=u6 y.q) h.2 rfl) ?_)
  refine VM (aE ⟨b1,b2⟩ (VN (aw (fun _=>True) trivial (SW ?_))));refine aw (fun _=>True) trivial (UH (x:=tT x.o y.o) (y:=tT x.q y.q) ?_ (aw (fun _=>True) trivial ⟨rfl,1,#[.cells (Value.agg (grC x).toArray).cells 126,.cells (Value.agg (grC y).toArray).cells 126,.cells #[iv (tT x.o y.o),iv (tT x.q y.q)] 3],?_⟩))
  ·unfold Go.Proofs.YtkbhfjljieopoaaGreatDoor.blk;rw[heap_alloc_new]
  ·rw[←I, ←J];unfold Go.Sort.grow World.drewN World.drew World.alloc;simp only[Array.push_eq_append,Array.append_assoc,List.append_toArray,List.cons_append,List.nil_append]
 rw[show (#[.agg (grC x).toArray,.agg (grC y).toArray]++#[]:Array Value)=#[.agg (grC x).toArray,.agg (grC y).toArray]from rfl];unfold Gives at j;exact Calls.mono j fun _ _ ⟨v,M,U,X⟩=>⟨by rw[M,U],X⟩
instance:Inhabited GR:=⟨⟨0,0,0,0,0⟩⟩
open Go.Sort in
theorem Lo {G:List GR}(j:G.length=n)(M:n*5≤cs.length):putCells id 0 (flatK grC 5 G.toArray) cs.toArray=(G.flatMap grC++cs.drop (n*5)).toArray:=by
 have hF:(flatK grC 5 G.toArray).size=n*5:=by rw[size_flatK];simp[j]
 have d:(G.flatMap grC).length=n*5:=by rw[Dd iI,j]
 apply Array.ext_getElem?;intro k;unfold putCells;rw[Array.getElem?_mapIdx,hF,List.getElem?_toArray,List.getElem?_toArray];by_cases I:k<n*5
 ·have h:k<cs.length:=by omega
  have hi:k / 5<G.length:=by omega
  rw[List.getElem?_eq_getElem h,Option.map_some,if_pos ⟨Nat.zero_le _,by omega⟩,List.getElem?_append_left (by omega),Nat.sub_zero,get_flatK _ _ _ _ (by simp[j];exact I)];have J:G[k / 5]? = some G[k / 5]:=List.getElem?_eq_getElem hi
  have:=FP iI G (k / 5) _ (k%5) J (Nat.mod_lt _ (by omega))
  rw[show k / 5*5+k%5=k by omega]at this;rw[this];have u:k%5<(grC G[k / 5]).length:=Nat.mod_lt _ (by decide);rw[List.getElem?_eq_getElem u];simp[hi,u]
 ·rw[List.getElem?_append_right (by omega),d,List.getElem?_drop,show n*5+(k-n*5)=k by omega];cases O:cs[k]? with
  | none=>rfl
  | some v=>rw[Option.map_some,if_neg (by omega)]
open Go.Sort in
theorem MT {G G':List GR}{os:Array Obj}(d:Opn w B 126 5 n c g cs (G.flatMap grC))(I:G'.length=n):Opn (sortWorldK grC 5 w g 0 m G'.toArray os) B 126 5 n c g (G'.flatMap grC++cs.drop (n*5)) (G'.flatMap grC)∧w.grownBy (sortWorldK grC 5 w g 0 m G'.toArray os) (some g):=by
 have M:n*5≤cs.length:=by rw[d.len];exact Nat.mul_le_mul_right _ d.nc
 have j:(G'.flatMap grC).length=n*5:=by rw[Dd iI,I]
 have O:=d.blk.lt;have J:(sortWorldK grC 5 w g 0 m G'.toArray os).heap[g]? = some (.cells (G'.flatMap grC++cs.drop (n*5)).toArray 126):=by
  show (w.heap.modify g (onCells (putCells id 0 (flatK grC 5 G'.toArray)))++os)[g]? = _;have h:=d.blk;unfold Go.Proofs.YtkbhfjljieopoaaGreatDoor.blk at h;rw[Array.getElem?_append_left (by simpa using O),Array.getElem?_modify,if_pos rfl,h,Option.map_some];unfold onCells;simp only;rw[Lo I M]
 refine⟨⟨J,d.lo,d.nc,d.cm,?_,?_,?_⟩,⟨rfl,rfl,rfl,?_,fun k U u=>?_⟩⟩
 ·rw[List.length_append,j,List.length_drop,d.len]
  have:=d.len
  omega
 ·rw[List.take_append_of_le_length (by omega),List.take_of_length_le (by omega)]
 ·exact j
 ·show w.heap.size≤(w.heap.modify g _++os).size;simp
 ·show (w.heap.modify g _++os)[k]? = _;rw[Array.getElem?_append_left (by simpa using U),Array.getElem?_modify,if_neg (fun e=>u (by rw[e]))]
open Go.Sort in
theorem Ug {G:List GR}(hr:w.ownsRow B 126 5 (.slice a n c) n (G.flatMap grC))(hl:G.length=n)(hn:n<4611686018427387904)(h:∀(w':World) (G':List GR),G'.Perm G→G'.Pairwise (fun x y=>¬ltG y x)→w'.ownsRow B 126 5 (.slice a n c) n (G'.flatMap grC)→w.grownBy w' (Value.slice a n c).ownBlock→K (.tuple #[]) w'):call Tryz.prog 52 #[.slice a n c,.func (.func 53) #[] #[]] K w:=by
 have U:EO Tryz.prog 52:=⟨_,func52,by kernel_rfl,by kernel_rfl⟩
 refine aj U ?_;unfold Gives;by_cases h0:n=0
 ·subst h0;have hG:G=[]:=List.eq_nil_of_length_eq_zero hl;subst hG;have I:=AnyF.slices_SortFunc_none Tryz.sortGr a c (.func (.func 53) #[] #[]) w;change Calls Tryz.prog 52 _ _ _ at I;refine Calls.mono I fun e w' O=>?_;obtain⟨rfl,rfl⟩:=O;exact⟨_,rfl,h _ [] (List.Perm.refl _) List.Pairwise.nil hr ⟨rfl,rfl,rfl,Nat.le_refl _,fun _ _ _=>rfl⟩⟩
 ·obtain⟨g,ad,rfl,M⟩:=cq hr (by omega);subst hl;have hH:HoldsK grC 5 w g 0 G.toArray:=by
   intro j u;rw[size_flatK]at u;have u:j<G.length*5:=by simpa using u
   have hi:j / 5<G.length:=by omega
   have hx:G[j / 5]? = some G[j / 5]:=List.getElem?_eq_getElem hi;have h5:j%5<(grC G[j / 5]).length:=Nat.mod_lt _ (by decide);refine⟨?_,?_⟩
   ·rw[M.blk.cell,Nat.zero_add,get_flatK _ _ _ _ (by simpa using u)]
    have:=M.cell iI rfl hx (Nat.mod_lt j (show 0<5 by omega))
    rw[show j / 5*5+j%5=j by omega]at this;rw[this,List.getElem?_eq_getElem h5];simp[hi,h5]
   ·have J:=M.blk;unfold Go.Proofs.YtkbhfjljieopoaaGreatDoor.blk at J;unfold World.frozen?;rw[J];rfl
  have I:=AnyQ.slices_SortFunc Tryz.sortGr 5 (by intro W;kernel_rfl) (by intro W;kernel_rfl) grC iI rJ Jr WD 53 #[] g 0 c G.toArray w
   (enters_of func53 (by kernel_rfl) rfl) (fun m os dk _ x y=>VL x y _) hH M.blk.lt (by simpa using hn)
  change Calls Tryz.prog 52 _ _ _ at I;rw[List.size_toArray]at I;refine Calls.mono I fun e w' O=>?_;obtain⟨rfl,d',m,os,hp,hs,rfl⟩:=O;have hd:d'.toList.toArray=d':=rfl;have d:d'.toList.length=G.length:=by
   have:=hp.1
   simpa using this
  rw[←hd];obtain⟨o2,g2⟩:=MT (m:=m) (os:=os) M (G':=d'.toList) d;refine⟨_,rfl,h _ d'.toList ?_ ?_ o2.own g2⟩
  ·have Z:=hp.2.2;have e1:d'.extract 0 G.length=d':=by rw[←d];simp
   have e2:G.toArray.extract 0 G.length=G.toArray:=by simp
   rw[e1,e2]at Z;exact Z
  ·rw[List.pairwise_iff_getElem];intro i j hi u X
   have:=hs i j (Nat.zero_le _) X (by rw[←d];exact u)
   rw[FN,decide_eq_false_iff_not]at this;have ei:d'[i]! = d'.toList[i]:=by simp[show i<d'.size by simpa using hi]
   have ej:d'[j]! = d'.toList[j]:=by simp[show j<d'.size by simpa using u]
   rw[ei,ej]at this;exact this
end
end
section
open Go.RowKit
theorem KN (h:dE Q 146 none (fun A1=>bld Q 148 #[(0,A1)] fun A2=>box Q 148 A2 K) w):Gives Q 24 #[] w K:=by
 refine aB func24 (by kernel_rfl) ?_;exact mpK h
def ob (is1 d2 l4 C0:Value)(zf:Nat→Value):List Value:=zf 0::is1::d2::zf 3::l4::zT zf 5 8 (C0::zT zf 14 14 ([]))
def gG (K:KV):KE:=ae Q (cd f61 [1,1,1]) (rk f61 K) xf (rk f61 K)
def nF (K:KV):KE:=ae Q (cd f61 (b1 58)) (gG K) (xx xf (gG K) 0) (rk f61 K)
theorem BE (h:bin Q .eql 88 false true Z1 (Value.pointer none) (fun A5 w=>cond A5 (K cN w) (aU Z1 (fun A7=>af Q 148 A7 0 fun A8=>ld Q 146 A8 fun A9=>rng Q 146 A9 fun V2=>nF K (ob Y1 uu cN V2 (zV (zV zu 0 [Z1]) 7 [Z1,A5,Z1,A7,A8,A9]))) w)) w):Gives Q 61 #[Z1,Y1] w K:=by
 refine aB func61 (by kernel_rfl) ?_;revert h;delta nF gG;exact mpF
theorem zK (Inv:Value→World→Prop)(μ:Value→World→Nat)(I:Inv U2 w)(J:∀(d:Value) (dd:Nat→Value) (w:World) (m:Nat),Inv d w→m=μ d w →
  nxt Q V2 false 0 (fun C1=>ext Q C1 0 fun C2 w=>cond C2 (ent Q V2 (fun C3=>ext Q C3 1 fun C4=>bY Q Y1 #[C4] fun C7 w=>cond C7 (bT Q 164 1 #[(0,C4)] (fun C9=>blt Q .append #[164,164] 164 #[false,false] #[d,C9] fun D0 w=>(Inv D0 w)∧((μ D0 w)<m)) w) ((Inv d w)∧((μ d w)<m))) w) (gG K (ob Y1 Z1 d V2 (zV dd 14 [C1,C2])) w)) w):nF K (ob Y1 Z1 U2 V2 zf) w:=by
 refine aL (cd f61 (b1 116)) (zr [(4,1),(6,1),(14,11)]) (by kernel_rfl) (vP [4] Inv) (vQ [4] μ) I ?_;intro e' w' hI;have h:=J _ (zM zf (fun i=>gd e' i) (zr [(4,1),(6,1),(14,11)])) w' _ hI rfl;revert h;generalize (gG K)=qc0;exact mpF
theorem zL (h:call Q 100 #[U2,Value.func (Fn.func 101) #[] #[]] (fun _=>K U2) w):gG K (ob Y1 Z1 U2 V2 zf) w:=by
 delta gG;exact mpK h
attribute [irreducible] gG nF
def oF (out2 A3 A4 A5:Value)(zf:Nat→Value):List Value:=zf 0::zf 1::out2::zT zf 3 3 (A3::A4::A5::zT zf 9 12 ([]))
def gW (K:KV):KE:=ae Q (cd f31 [1,1]) (rk f31 K) xf (rk f31 K)
def nZ (K:KV):KE:=ae Q (cd f31 [1,0,1,0]) (gW K) (xx xf (gW K) 0) (rk f31 K)
theorem Cj (h:call Q 61 #[Y1,Value.func (Fn.func 62) #[] #[]] (fun Z1=>lN 164 Z1 fun U2=>nZ K (oF cN Z1 U2 (ci 0) (zV (zV zu 0 [Y1]) 5 [Y1]))) w):Gives Q 31 #[Y1] w K:=by
 refine aB func31 (by kernel_rfl) ?_;revert h;delta nZ gW;exact mpF
theorem AO (Inv:Value→Value→World→Prop)(μ:Value→Value→World→Nat)(J:Inv Y1 V2 w)(M:∀(d j:Value) (dd:Nat→Value) (w:World) (m:Nat),Inv d j w→m=μ d j w →
  lS j U2 (fun A6 w=>cond A6 (aV Q 164 Z1 j (fun A7=>ld Q 160 A7 fun A8=>aU A8 fun C1=>af Q 162 C1 0 fun C2=>ld Q 102 C2 fun C3=>bT Q 99 1 #[(0,C3)] fun C4=>blt Q .append #[99,99] 99 #[false,false] #[d,C4] fun C5=>nC j fun C6 w=>(Inv C5 C6 w)∧((μ C5 C6 w)<m)) w) (gW K (oF d Z1 U2 j (zV dd 9 [A6])) w)) w):nZ K (oF Y1 Z1 U2 V2 zf) w:=by
 refine aL (cd f31 (b1 52)) (zr [(2,1),(4,1),(8,12)]) (by kernel_rfl) (vP [2,8] Inv) (vQ [2,8] μ) J ?_;intro e' w' hI;have h:=M _ _ (zM zf (fun i=>gd e' i) (zr [(2,1),(4,1),(8,12)])) w' _ hI rfl;revert h;generalize (gW K)=qc0;exact mpF
theorem AP (h:K Y1 w):gW K (oF Y1 Z1 U2 V2 zf) w:=by
 delta gW;exact mpK h
attribute [irreducible] gW nZ
def oW (d2 now3 out4 A6 A7 A8:Value)(zf:Nat→Value):List Value:=zf 0::zf 1::d2::now3::out4::zT zf 5 4 (A6::A7::A8::zT zf 12 30 ([]))
def ir (K:KV):KE:=ae Q (cd f35 [1,1]) (rk f35 K) xf (rk f35 K)
def oE (K:KV):KE:=ae Q (cd f35 [1,0,1,0]) (ir K) (xx xf (ir K) 0) (rk f35 K)
theorem CT (h:box Q 31 U2 (fun Z1=>call Q 61 #[Y1,Value.func (Fn.func 66) #[] #[Z1]] fun V2=>lN 164 V2 fun W2=>oE K (oW uu Z1 cN V2 W2 (ci 0) (zV (zV zu 0 [Y1,U2]) 7 [Y1,Value.func (Fn.func 66) #[] #[Z1]]))) w):Gives Q 35 #[Y1,U2] w K:=by
 refine aB func35 (by kernel_rfl) ?_;revert h;delta oE ir;exact mpF
theorem BC (Inv:Value→Value→World→Prop)(μ:Value→Value→World→Nat)(J:Inv U2 X2 w)(M:∀(d j:Value) (dd:Nat→Value) (w:World) (m:Nat),Inv d j w→m=μ d j w →
  lS j W2 (fun A9 w=>cond A9 (aV Q 164 V2 j (fun C0=>ld Q 160 C0 fun C1=>aU C1 fun C4=>af Q 162 C4 0 fun C5=>ld Q 102 C5 fun C6=>bT Q 99 1 #[(0,C6)] fun C7=>blt Q .append #[99,99] 99 #[false,false] #[d,C7] fun C8 w=>sL 31 Z1 (fun C9=>sN C1 fun D1=>sF 162 D1 2 fun D2=>sL 31 D2 fun D3=>sti (bin Q .add 31 false false C9 D3) fun D4=>sN C1 fun D5=>sF 162 D5 1 fun D6=>sto Q 31 D6 D4 fun _=>aU C1 fun D7=>af Q 162 D7 2 fun D8=>ld Q 31 D8 fun D9=>bin Q .mul 31 true false (cu 2) D9 fun E0=>blt Q .min #[31,31] 31 #[false,true] #[E0,cu 16] fun E1=>aU C1 fun E2=>af Q 162 E2 2 fun E3=>sto Q 31 E3 E1 fun _=>nC j fun E4 w=>(Inv C8 E4 w)∧((μ C8 E4 w)<m)) w.drew) w) (ir K (oW Y1 Z1 d V2 W2 j (zV dd 12 [A9])) w)) w):oE K (oW Y1 Z1 U2 V2 W2 X2 zf) w:=by
 refine aL (cd f35 (b1 52)) (zr [(4,1),(6,1),(11,30)]) (by kernel_rfl) (vP [4,11] Inv) (vQ [4,11] μ) J ?_;intro e' w' hI;have h:=M _ _ (zM zf (fun i=>gd e' i) (zr [(4,1),(6,1),(11,30)])) w' _ hI rfl;revert h;generalize (ir K)=qc0;exact mpF
theorem BD (h:K U2 w):ir K (oW Y1 Z1 U2 V2 W2 X2 zf) w:=by
 delta ir;exact mpK h
attribute [irreducible] ir oE
end
end Go.Proofs.YtkbhfjljieopoaaGreatDoor
