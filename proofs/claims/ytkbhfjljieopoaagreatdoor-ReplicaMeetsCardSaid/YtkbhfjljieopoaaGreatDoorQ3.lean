import Derived.Test.YtkbhfjljieopoaaGreatDoorQ2
import Derived.Test.YtkbhfjljieopoaaGreatDoorQ1
namespace Go.Proofs.YtkbhfjljieopoaaGreatDoor
set_option maxRecDepth 100000
open Go.Proofs.Tryz
variable {w w':World}{K:KV}{zf dd:Nat→Value}{n c k i p j m f:Nat}{B1:KE}{a av:Option Addr}{Y5 Z5 K6 W6 X6 Y6 Z6 u7 B7 K7 W7 X7 Y7 Z7 B8 K8 W8 X8 Y8 Z8 l9 n9 u9 B9 K9 W9 X9 Y9 Z9 ia ja ka qa ua xa ya Aa Ba Ca Da Ea Fa Ga Ha:Value}
section
open Go.RowKit
def ak (aJ a1 b2 i7 j8 j9 j10 C6 C7 C8 C9 D0 D1 D2 D3 D4 D5 D6 F9:Value)(zf:Nat→Value):List Value:=aJ::a1::b2::zT zf 3 4 (i7::j8::j9::j10::zT zf 11 10 (C6::C7::C8::C9::D0::D1::D2::D3::D4::D5::D6::zT zf 32 29 (F9::zT zf 62 71 ([]))))
def au (K:KV):KE:=ae Q (cd f192 [1,1,1]) (rk f192 K) xf (rk f192 K)
def fG (K:KV):KE:=ae Q (cd f192 (b1 58)) (au K) (xx xf (au K) 0) (rk f192 K)
def ao (K:KV)(B1:KE):KE:=ae Q (cd f192 (b1 467)) B1 (xx xf (au K) 0) (rk f192 K)
def eh (K:KV)(B1:KE):KE:=ae Q (cd f192 (b1 466)) (ao K B1) (xx xf (au K) 0) (rk f192 K)
def bH (K:KV)(B1:KE):KE:=ae Q (cd f192 (b1 1865)) (ao K B1) (xx (xx xf (au K) 0) (ao K B1) 1) (rk f192 K)
def fH (K:KV)(B1:KE):KE:=ae Q (cd f192 (b1 3728)) (bH K B1) (xx (xx (xx xf (au K) 0) (ao K B1) 1) (bH K B1) 2) (rk f192 K)
def dy (K:KV)(B1:KE):KE:=ae Q (cd f192 (b1 14927)) (ao K B1) (xx (xx xf (au K) 0) (ao K B1) 1) (rk f192 K)
def aX (K:KV)(B1:KE):KE:=ae Q (cd f192 (b1 29855)) (ao K B1) (xx (xx xf (au K) 0) (ao K B1) 1) (rk f192 K)
def cQ (K:KV)(B1:KE):KE:=ae Q (cd f192 (b1 59709)) (aX K B1) (xx (xx xf (au K) 0) (ao K B1) 1) (rk f192 K)
def fI (K:KV)(B1:KE):KE:=ae Q (cd f192 (b1 477674)) (aX K B1) (xx (xx (xx xf (au K) 0) (ao K B1) 1) (aX K B1) 4) (rk f192 K)
def fJ (K:KV)(B1:KE):KE:=ae Q (cd f192 (b1 477690)) (ao K B1) (xx (xx (xx xf (au K) 0) (ao K B1) 1) (ao K B1) 6) (rk f192 K)
theorem qj (h:nC Z5 (fun A7=>fG K (ak Y5 Z5 K6 A7 (ci 0) uu uu uu uu uu uu uu uu uu uu uu uu uu uu (zV (zV zu 6 [cF]) 11 [Z5,A7]))) w):Gives Q 192 #[Y5,Z5,K6] w K:=by
 refine aB func192 (by kernel_rfl) ?_;revert h;delta fG au;exact mpF
theorem pE (Inv:vI 13)(μ:vM 13)(h0:Inv W6 X6 u7 B7 K7 W7 X7 Y7 Z7 B8 K8 W8 X8 w)(hs:∀(i7' j8' C6' C7' C8' C9' D0' D1' D2' D3' D4' D5' D6':Value) (dd:Nat→Value) (w:World) (m:Nat),Inv i7' j8' C6' C7' C8' C9' D0' D1' D2' D3' D4' D5' D6' w→m=μ i7' j8' C6' C7' C8' C9' D0' D1' D2' D3' D4' D5' D6' w →
  bin Q .lss 3 false true j8' (ci 5) (fun A9 w=>cond A9 (eh K (fun e2 w2=>(Inv (gd e2 7) (gd e2 8) (gd e2 21) (gd e2 22) (gd e2 23) (gd e2 24) (gd e2 25) (gd e2 26) (gd e2 27) (gd e2 28) (gd e2 29) (gd e2 30) (gd e2 31) w2)∧((μ (gd e2 7) (gd e2 8) (gd e2 21) (gd e2 22) (gd e2 23) (gd e2 24) (gd e2 25) (gd e2 26) (gd e2 27) (gd e2 28) (gd e2 29) (gd e2 30) (gd e2 31) w2)<m)) (ak Y5 Z5 K6 i7' j8' (dd 9) (dd 10) C6' C7' C8' C9' D0' D1' D2' D3' D4' D5' D6' (dd 61) (zV dd 13 [j8',A9])) w) (au K (ak Y5 Z5 K6 i7' j8' (dd 9) (dd 10) C6' C7' C8' C9' D0' D1' D2' D3' D4' D5' D6' (dd 61) (zV dd 13 [j8',A9])) w)) w):fG K (ak Y5 Z5 K6 W6 X6 Y6 Z6 u7 B7 K7 W7 X7 Y7 Z7 B8 K8 W8 X8 Y8 zf) w:=by
 refine aL (cd f192 (b1 116)) (zr [(6,5),(13,120)]) (by kernel_rfl) (vP [7,8,21,22,23,24,25,26,27,28,29,30,31] Inv) (vQ [7,8,21,22,23,24,25,26,27,28,29,30,31] μ) h0 ?_
 intro e' w' hI
 have h:=hs _ _ _ _ _ _ _ _ _ _ _ _ _ (zM zf (fun i=>gd e' i) (zr [(6,5),(13,120)])) w' _ hI rfl
 refine Eq.mp (congrArg (fun c=>ae Q c _ _ _ _ w') (by kernel_rfl:(rep [1,0] (cd f192 (b1 466)) (cd f192 (b1 116)))=(cd f192 (b1 116)))) ?_
 revert h
 delta eh ao
 generalize (cd f192 (b1 466))=xc0
 generalize (au K)=qc0
 exact mpF
theorem pA (h:fH K B1 (ak Y5 Z5 K6 W6 X6 Y6 Z6 u7 B7 K7 W7 X7 Y7 Z7 B8 K8 W8 X8 Y8 zf) w):eh K B1 (ak Y5 Z5 K6 W6 X6 Y6 Z6 u7 B7 K7 W7 X7 Y7 Z7 B8 K8 W8 X8 Y8 zf) w:=by
 delta eh;revert h;delta fH bH;generalize (ao K B1)=qc0;generalize (au K)=qc1;exact mpF
theorem pI (h:K cF w):au K (ak Y5 Z5 K6 W6 X6 Y6 Z6 u7 B7 K7 W7 X7 Y7 Z7 B8 K8 W8 X8 Y8 zf) w:=by
 delta au;exact mpK h
theorem pF (Inv:vI 12)(μ:vM 12)(h0:Inv W6 u7 B7 K7 W7 X7 Y7 Z7 B8 K8 W8 X8 w)(hs:∀(C I J M O U aa ad af ag al am:Value) (dd:Nat→Value) (w:World) (m:Nat),Inv C I J M O U aa ad af ag al am w→m=μ C I J M O U aa ad af ag al am w →
  sti (bin Q .lss 3 false false C K6) (fun C4 w=>aI C4 true (fun an=>sI 120 Y5 C (fun K7=>sL 31 K7 fun W7=>sti (bin Q .sub 3 false true C (ci 1)) fun Z7=>sI 120 Y5 Z7 fun B8=>sL 31 B8 fun K8=>sti (call Q 193 #[W7,K8]) fun W8=>sti (un Q .not W8) fun X8=>an [Y5,C,K7,W7,Y5,C,Z7,B8,K8,W8,X8]) w) (fun k=>k [uu,uu,uu,uu,uu,uu,uu,uu,uu,uu,uu] w) fun j=>sti (pick C4 (gd j 10) cF) fun D7 w=>cond D7 (nC C (fun D9 w=>(Inv D9 (gd j 0) (gd j 1) (gd j 2) (gd j 3) (gd j 4) (gd j 5) (gd j 6) (gd j 7) (gd j 8) (gd j 9) (gd j 10) w)∧((μ D9 (gd j 0) (gd j 1) (gd j 2) (gd j 3) (gd j 4) (gd j 5) (gd j 6) (gd j 7) (gd j 8) (gd j 9) (gd j 10) w)<m)) w) (bH K B1 (ak Y5 Z5 K6 C X6 Y6 Z6 (gd j 0) (gd j 1) (gd j 2) (gd j 3) (gd j 4) (gd j 5) (gd j 6) (gd j 7) (gd j 8) (gd j 9) (gd j 10) Y8 (zV (zV dd 17 [C,K6,C4,C4]) 32 [D7])) w)) w.drew):fH K B1 (ak Y5 Z5 K6 W6 X6 Y6 Z6 u7 B7 K7 W7 X7 Y7 Z7 B8 K8 W8 X8 Y8 zf) w:=by
 refine aL (cd f192 (b1 7456)) (zr [(7,1),(17,18)]) (by kernel_rfl) (vP [7,21,22,23,24,25,26,27,28,29,30,31] Inv) (vQ [7,21,22,23,24,25,26,27,28,29,30,31] μ) h0 ?_;intro e' w' hI;have h:=hs _ _ _ _ _ _ _ _ _ _ _ _ (zM zf (fun i=>gd e' i) (zr [(7,1),(17,18)])) w' _ hI rfl;revert h;generalize (au K)=qc0;generalize (ao K B1)=qc1;generalize (bH K B1)=qc2;exact mpF
theorem kY {B1:KE}(h:bin Q .eql 3 false false W6 K6 (fun E2 w=>cond E2 (K cT w) (bin Q .sub 3 false false K6 Z5 (fun E5=>bin Q .lss 3 false true E5 (ci 50) fun E6 w=>cond E6 (K cF w) (aG (fun S w=>hld (fun _=>True) (bin Q .sub 3 false true W6 (ci 1)) fun E8=>hld (fun _=>True) (bin Q .sub 3 false true W6 (ci 1)) fun E9=>hI S 120 Y5 E9 fun F0=>hL S 31 F0 fun F1=>hI S 120 Y5 W6 fun F3=>hL S 31 F3 fun F4=>hI S 120 Y5 W6 fun F5=>sto Q 31 F5 F1 (fun _=>aG fun S w=>hI S 120 Y5 E8 fun F6=>sto Q 31 F6 F4 (fun _=>dy K B1 (ak Y5 Z5 K6 W6 X6 Y6 Z6 u7 B7 K7 W7 X7 Y7 Z7 B8 K8 W8 X8 Y8 (zV zf 35 [W6,K6,E2,K6,Z5,E5,E6,Y5,W6,Y5,W6,E8,Y5,W6,E9,F0,F1,Y5,W6,F3,F4,F5,F6]))) w) w) w.drew)) w)) w):bH K B1 (ak Y5 Z5 K6 W6 X6 Y6 Z6 u7 B7 K7 W7 X7 Y7 Z7 B8 K8 W8 X8 Y8 zf) w:=by
 delta bH
 refine Eq.mp (congrArg (fun c=>ae Q c _ _ _ _ w) (by kernel_rfl:(rep [1,1,1] (cd f192 (b1 14927)) (cd f192 (b1 1865)))=(cd f192 (b1 1865)))) ?_
 revert h
 delta dy
 generalize (cd f192 (b1 14927))=xc0
 generalize (ao K B1)=qc0
 generalize (au K)=qc1
 exact mpF
theorem pC {B1:KE}(h:bin Q .sub 3 false false W6 Z5 (fun F8=>bin Q .geq 3 false true F8 (ci 2) fun Y8=>cQ K B1 (ak Y5 Z5 K6 W6 X6 Y6 Z6 u7 B7 K7 W7 X7 Y7 Z7 B8 K8 W8 X8 Y8 (zV zf 58 [W6,Z5,F8]))) w):dy K B1 (ak Y5 Z5 K6 W6 X6 Y6 Z6 u7 B7 K7 W7 X7 Y7 Z7 B8 K8 W8 X8 Y8 zf) w:=by
 delta dy
 refine Eq.mp (congrArg (fun c=>ae Q c _ _ _ _ w) (by kernel_rfl:(rep [0,1] (cd f192 (b1 59709)) (cd f192 (b1 14927)))=(cd f192 (b1 14927)))) ?_
 revert h
 delta cQ aX
 generalize (cd f192 (b1 59709))=xc0
 generalize (ao K B1)=qc0
 generalize (au K)=qc1
 exact mpF
theorem pD (h:cond Y8 (bin Q .sub 3 false true W6 (ci 1) (fun G1=>fI K B1 (ak Y5 Z5 K6 W6 X6 G1 Z6 u7 B7 K7 W7 X7 Y7 Z7 B8 K8 W8 X8 Y8 (zV zf 62 [W6,G1]))) w) (aX K B1 (ak Y5 Z5 K6 W6 X6 Y6 Z6 u7 B7 K7 W7 X7 Y7 Z7 B8 K8 W8 X8 Y8 zf) w)):cQ K B1 (ak Y5 Z5 K6 W6 X6 Y6 Z6 u7 B7 K7 W7 X7 Y7 Z7 B8 K8 W8 X8 Y8 zf) w:=by
 delta cQ;revert h;delta fI;generalize (aX K B1)=qc0;generalize (au K)=qc1;generalize (ao K B1)=qc2;exact mpF
theorem pG (Inv:Value→World→Prop)(μ:Value→World→Nat)(I:Inv Y6 w)(J:∀(j:Value) (dd:Nat→Value) (w:World) (m:Nat),Inv j w→m=μ j w →
  bin Q .geq 3 false true j (ci 1) (fun G3 w=>cond G3 (aG (fun S w=>hI S 120 Y5 j fun G5=>hL S 31 G5 fun G6=>hld (fun _=>True) (bin Q .sub 3 false true j (ci 1)) fun G7=>hI S 120 Y5 G7 fun G8=>hL S 31 G8 fun G9=>call Q 193 #[G6,G9] (fun H0=>aG fun S w=>hld S (un Q .not H0) fun H1=>cond H1 (aX K B1 (ak Y5 Z5 K6 W6 X6 j Z6 u7 B7 K7 W7 X7 Y7 Z7 B8 K8 W8 X8 Y8 (zV (zV dd 64 [j,G3]) 68 [Y5,j,G5,G6,Y5,j,G7,G8,G9,H0,H1])) w) (aG (fun S w=>hld (fun _=>True) (bin Q .sub 3 false true j (ci 1)) fun H2=>hld (fun _=>True) (bin Q .sub 3 false true j (ci 1)) fun H3=>hI S 120 Y5 H3 fun H4=>hL S 31 H4 fun H5=>hI S 120 Y5 j fun H6=>hL S 31 H6 fun H7=>hI S 120 Y5 j fun H8=>sto Q 31 H8 H5 (fun _=>aG fun S w=>hI S 120 Y5 H2 fun H9=>sto Q 31 H9 H7 (fun _=>bin Q .sub 3 false true j (ci 1) fun G4 w=>(Inv G4 w)∧((μ G4 w)<m)) w) w) w.drew)) w) w.drew) (aX K B1 (ak Y5 Z5 K6 W6 X6 j Z6 u7 B7 K7 W7 X7 Y7 Z7 B8 K8 W8 X8 Y8 (zV dd 64 [j,G3])) w)) w):fI K B1 (ak Y5 Z5 K6 W6 X6 Y6 Z6 u7 B7 K7 W7 X7 Y7 Z7 B8 K8 W8 X8 Y8 zf) w:=by
 refine aL (cd f192 (b1 955348)) (zr [(9,1),(64,31)]) (by kernel_rfl) (vP [9] Inv) (vQ [9] μ) I ?_;intro e' w' hI;have h:=J _ (zM zf (fun i=>gd e' i) (zr [(9,1),(64,31)])) w' _ hI rfl;revert h;generalize (au K)=qc0;generalize (ao K B1)=qc1;generalize (aX K B1)=qc2;exact mpF
theorem pJ (h:bin Q .sub 3 false false K6 W6 (fun I0=>bin Q .geq 3 false true I0 (ci 2) fun I1 w=>cond I1 (nC W6 (fun I2=>fJ K B1 (ak Y5 Z5 K6 W6 X6 Y6 I2 u7 B7 K7 W7 X7 Y7 Z7 B8 K8 W8 X8 Y8 (zV zf 95 [K6,W6,I0,I1,W6,I2]))) w) (ao K B1 (ak Y5 Z5 K6 W6 X6 Y6 Z6 u7 B7 K7 W7 X7 Y7 Z7 B8 K8 W8 X8 Y8 (zV zf 95 [K6,W6,I0,I1])) w)) w):aX K B1 (ak Y5 Z5 K6 W6 X6 Y6 Z6 u7 B7 K7 W7 X7 Y7 Z7 B8 K8 W8 X8 Y8 zf) w:=by
 delta aX;revert h;delta fJ;generalize (ao K B1)=qc0;generalize (au K)=qc1;exact mpF
theorem pH (Inv:Value→World→Prop)(μ:Value→World→Nat)(I:Inv Z6 w)(J:∀(j:Value) (dd:Nat→Value) (w:World) (m:Nat),Inv j w→m=μ j w →
  lS j K6 (fun I3 w=>cond I3 (aG (fun S w=>hI S 120 Y5 j fun I5=>hL S 31 I5 fun I6=>hld (fun _=>True) (bin Q .sub 3 false true j (ci 1)) fun I7=>hI S 120 Y5 I7 fun I8=>hL S 31 I8 fun I9=>call Q 193 #[I6,I9] (fun J0=>aG fun S w=>hld S (un Q .not J0) fun J1=>cond J1 (ao K B1 (ak Y5 Z5 K6 W6 X6 Y6 j u7 B7 K7 W7 X7 Y7 Z7 B8 K8 W8 X8 Y8 (zV (zV dd 101 [j,K6,I3]) 106 [Y5,j,I5,I6,Y5,j,I7,I8,I9,J0,J1])) w) (aG (fun S w=>hld (fun _=>True) (bin Q .sub 3 false true j (ci 1)) fun J2=>hld (fun _=>True) (bin Q .sub 3 false true j (ci 1)) fun J3=>hI S 120 Y5 J3 fun J4=>hL S 31 J4 fun J5=>hI S 120 Y5 j fun J6=>hL S 31 J6 fun J7=>hI S 120 Y5 j fun J8=>sto Q 31 J8 J5 (fun _=>aG fun S w=>hI S 120 Y5 J2 fun J9=>sto Q 31 J9 J7 (fun _=>nC j fun I4 w=>(Inv I4 w)∧((μ I4 w)<m)) w) w) w.drew)) w) w.drew) (ao K B1 (ak Y5 Z5 K6 W6 X6 Y6 j u7 B7 K7 W7 X7 Y7 Z7 B8 K8 W8 X8 Y8 (zV dd 101 [j,K6,I3])) w)) w):fJ K B1 (ak Y5 Z5 K6 W6 X6 Y6 Z6 u7 B7 K7 W7 X7 Y7 Z7 B8 K8 W8 X8 Y8 zf) w:=by
 refine aL (cd f192 (b1 955380)) (zr [(10,1),(101,32)]) (by kernel_rfl) (vP [10] Inv) (vQ [10] μ) I ?_;intro e' w' hI;have h:=J _ (zM zf (fun i=>gd e' i) (zr [(10,1),(101,32)])) w' _ hI rfl;revert h;generalize (au K)=qc0;generalize (ao K B1)=qc1;exact mpF
theorem im (h:nC X6 (fun C1=>B1 (ak Y5 Z5 K6 W6 C1 Y6 Z6 u7 B7 K7 W7 X7 Y7 Z7 B8 K8 W8 X8 Y8 (zV zf 15 [X6,C1]))) w):ao K B1 (ak Y5 Z5 K6 W6 X6 Y6 Z6 u7 B7 K7 W7 X7 Y7 Z7 B8 K8 W8 X8 Y8 zf) w:=by
 delta ao;revert h;generalize (au K)=qc0;exact mpF
attribute [irreducible] au fG ao eh bH fH dy aX cQ fI fJ
def bA (aJ a1 b2 length6 random7 modulus8 idx9 other10 E7:Value)(zf:Nat→Value):List Value:=aJ::a1::b2::zT zf 3 3 (length6::random7::modulus8::idx9::other10::zT zf 11 32 (E7::zT zf 44 21 ([])))
def fp (K:KV):KE:=ae Q (cd f189 (b1 238)) (rk f189 K) (xx xf (rk f189 K) 0) (rk f189 K)
def bE (K:KV)(B1:KE):KE:=ae Q (cd f189 (b1 1907)) B1 (xx xf (rk f189 K) 0) (rk f189 K)
def bZ (K:KV)(B1:KE):KE:=ae Q (cd f189 (b1 15251)) (bE K B1) (xx (xx xf (rk f189 K) 0) (bE K B1) 1) (rk f189 K)
def fD (K:KV)(B1:KE):KE:=ae Q (cd f189 (b1 30501)) (bZ K B1) (xx (xx xf (rk f189 K) 0) (bE K B1) 1) (rk f189 K)
theorem rZ (h:bin Q .sub 3 false false K6 Z5 (fun A8=>bin Q .geq 3 false true A8 (ci 8) fun C0 w=>cond C0 (conv Q 3 258 A8 (fun C2=>alc Q 258 fun X6=>sto Q 258 X6 C2 fun _=>call Q 161 #[A8] fun C4=>bin Q .quo 3 false true A8 (ci 4) fun C7=>bin Q .mul 3 false true C7 (ci 2) fun C8=>bin Q .add 3 false false Z5 C8 fun C9=>bin Q .sub 3 false true C9 (ci 1) fun D0=>fp K (bA Y5 Z5 K6 A8 X6 C4 D0 uu uu (zV zu 11 [K6,Z5,A8,A8,C0,A8,C2,A8,C4,Z5,A8,C7,C8,C9,D0]))) w) (K (Value.tuple #[]) w)) w):Gives Q 189 #[Y5,Z5,K6] w K:=by
 refine aB func189 (by kernel_rfl) ?_;revert h;delta fp;exact mpF
theorem rE (Inv:Value→World→Prop)(μ:Value→World→Nat)(h0:Inv Z6 w)(hs:∀(idx9':Value) (dd:Nat→Value) (w:World) (m:Nat),Inv idx9' w→m=μ idx9' w →
  bin Q .quo 3 false true W6 (ci 4) (fun D4=>bin Q .mul 3 false true D4 (ci 2) fun D5=>bin Q .add 3 false false Z5 D5 fun D6=>nC D6 fun D7=>bin Q .leq 3 false false idx9' D7 fun D8 w=>cond D8 (call Q 162 #[X6] (fun E1=>bin Q .sub 196 false true Y6 (cu 1) fun E3=>bin Q .and 196 false false E1 E3 fun E4=>conv Q 196 3 E4 fun E5=>bin Q .geq 3 false false E5 W6 fun B7=>fD K (fun e2 w2=>(Inv (gd e2 9) w2)∧((μ (gd e2 9) w2)<m)) (bA Y5 Z5 K6 W6 X6 Y6 idx9' E5 B7 (zV (zV dd 26 [idx9',Z5,W6,D4,D5,D6,D7,D8]) 36 [E1,Y6,E3,E4,E5,E5,W6]))) w) (K (Value.tuple #[]) w)) w):fp K (bA Y5 Z5 K6 W6 X6 Y6 Z6 u7 B7 zf) w:=by
 refine aL (cd f189 (b1 476)) (zr [(9,2),(26,39)]) (by kernel_rfl) (vP [9] Inv) (vQ [9] μ) h0 ?_
 intro e' w' hI
 have h:=hs _ (zM zf (fun i=>gd e' i) (zr [(9,2),(26,39)])) w' _ hI rfl
 refine Eq.mp (congrArg (fun c=>ae Q c _ _ _ _ w') (by kernel_rfl:(rep (b1 101) (cd f189 (b1 30501)) (cd f189 (b1 476)))=(cd f189 (b1 476)))) ?_
 revert h
 delta fD bE bZ
 generalize (cd f189 (b1 30501))=xc0
 exact mpF
theorem rD (h:cond B7 (bin Q .sub 3 false false u7 W6 (fun E8=>bZ K B1 (bA Y5 Z5 K6 W6 X6 Y6 Z6 E8 B7 (zV zf 44 [u7,W6,E8]))) w) (bZ K B1 (bA Y5 Z5 K6 W6 X6 Y6 Z6 u7 B7 zf) w)):fD K B1 (bA Y5 Z5 K6 W6 X6 Y6 Z6 u7 B7 zf) w:=by
 delta fD;revert h;generalize (bZ K B1)=qc0;generalize (bE K B1)=qc1;exact mpF
theorem rG (h:aG (fun S w=>hld (fun _=>True) (bin Q .add 3 false false Z5 u7) fun F2=>hld (fun _=>True) (bin Q .add 3 false false Z5 u7) fun F5=>hI S 120 Y5 F5 fun F6=>hL S 31 F6 fun F7=>hI S 120 Y5 Z6 fun F9=>hL S 31 F9 fun G0=>hI S 120 Y5 Z6 fun G1=>sto Q 31 G1 F7 (fun _=>aG fun S w=>hI S 120 Y5 F2 fun G2=>sto Q 31 G2 G0 (fun _=>bE K B1 (bA Y5 Z5 K6 W6 X6 Y6 Z6 u7 B7 (zV zf 47 [Y5,Z6,Y5,Z5,u7,F2,Y5,Z5,u7,F5,F6,F7,Y5,Z6,F9,G0,G1,G2]))) w) w) w.drew):bZ K B1 (bA Y5 Z5 K6 W6 X6 Y6 Z6 u7 B7 zf) w:=by
 delta bZ;revert h;generalize (bE K B1)=qc0;exact mpF
theorem rF (h:nC Z6 (fun E0=>B1 (bA Y5 Z5 K6 W6 X6 Y6 E0 u7 B7 (zV zf 34 [Z6,E0]))) w):bE K B1 (bA Y5 Z5 K6 W6 X6 Y6 Z6 u7 B7 zf) w:=by
 delta bE;exact mpK h
attribute [irreducible] fp bE bZ fD
theorem AL (h:conv Q 3 196 Y5 (fun A0=>call Q 91 #[A0] fun A1=>bin Q .shl 196 true false (cu 1) A1 K) w):Gives Q 161 #[Y5] w K:=by
 refine aB func161 (by kernel_rfl) ?_;exact mpK h
theorem Bo (h:sN Y5 (fun A0=>sL 258 A0 fun A1=>sN Y5 fun A2=>sL 258 A2 fun A3=>sti (bin Q .shl 258 false true A3 (cu 13)) fun A4=>sti (bin Q .xor 258 false false A1 A4) fun A5=>sN Y5 fun A6=>sto Q 258 A6 A5 fun _ w=>sN Y5 (fun A8=>sL 258 A8 fun A9=>sN Y5 fun C1=>sL 258 C1 fun C2=>sti (bin Q .shr 258 false true C2 (cu 7)) fun C3=>sti (bin Q .xor 258 false false A9 C3) fun C4=>sN Y5 fun C5=>sto Q 258 C5 C4 fun _ w=>sN Y5 (fun C7=>sL 258 C7 fun C8=>sN Y5 fun D0=>sL 258 D0 fun D1=>sti (bin Q .shl 258 false true D1 (cu 17)) fun D2=>sti (bin Q .xor 258 false false C8 D2) fun D3=>sN Y5 fun D4=>sto Q 258 D4 D3 fun _=>aU Y5 fun D6=>ld Q 258 D6 K) w.drew) w.drew) w.drew):Gives Q 162 #[Y5] w K:=by
 refine aB func162 (by kernel_rfl) ?_;exact mpK h
def aA (aJ a1 b2 l8 swaps9 i10 j11 k_12 C7 C8:Value)(zf:Nat→Value):List Value:=aJ::a1::b2::zT zf 3 5 (l8::swaps9::i10::j11::k_12::zT zf 13 19 (C7::zf 33::C8::zT zf 35 22 ([])))
def iK (K:KV):KE:=ae Q (cd f190 (b1 127)) (rk f190 K) xf (rk f190 K)
def bC (K:KV):KE:=ae Q (cd f190 (b1 255)) (rk f190 K) xf (rk f190 K)
def iL (K:KV):KE:=ae Q (cd f190 (b1 509)) (bC K) xf (rk f190 K)
def cC (K:KV):KE:=ae Q (cd f190 (b1 2037)) (bC K) xf (rk f190 K)
def iM (K:KV):KE:=ae Q (cd f190 (b1 4073)) (cC K) xf (rk f190 K)
theorem tV (j:Code)(h:bin Q .sub 3 false false K6 Z5 (fun A3=>alc Q 3 fun X6=>bin Q .quo 3 false true A3 (ci 4) fun A6=>bin Q .mul 3 false true A6 (ci 1) fun A7=>bin Q .add 3 false false Z5 A7 fun A8=>bin Q .quo 3 false true A3 (ci 4) fun C1=>bin Q .mul 3 false true C1 (ci 2) fun C2=>bin Q .add 3 false false Z5 C2 fun C3=>bin Q .quo 3 false true A3 (ci 4) fun C4=>bin Q .mul 3 false true C4 (ci 3) fun C5=>bin Q .add 3 false false Z5 C5 fun C6=>ae Q j (rk f190 K) (fun _ _ _=>False) (rk f190 K) (aA Y5 Z5 K6 A3 X6 A8 C3 C6 uu uu (zV (zV zu 6 [ci 0,ci 0]) 13 [K6,Z5,A3,Z5,A3,A6,A7,A8,Z5,A3,C1,C2,C3,Z5,A3,C4,C5,C6]))) w):ae Q (rep (b1 127) j (cd f190 [])) (rk f190 K) xf (rk f190 K) (aA Y5 Z5 K6 uu uu uu uu uu uu uu zu) w:=Eq.mp (by kernel_rfl) h
theorem tA {K:KV}{Y5 Z5 K6:Value}{w:World}(h:bin Q .sub 3 false false K6 Z5 (fun A3=>alc Q 3 fun X6=>bin Q .quo 3 false true A3 (ci 4) fun A6=>bin Q .mul 3 false true A6 (ci 1) fun A7=>bin Q .add 3 false false Z5 A7 fun A8=>bin Q .quo 3 false true A3 (ci 4) fun C1=>bin Q .mul 3 false true C1 (ci 2) fun C2=>bin Q .add 3 false false Z5 C2 fun C3=>bin Q .quo 3 false true A3 (ci 4) fun C4=>bin Q .mul 3 false true C4 (ci 3) fun C5=>bin Q .add 3 false false Z5 C5 fun C6=>iK K (aA Y5 Z5 K6 A3 X6 A8 C3 C6 uu uu (zV (zV zu 6 [ci 0,ci 0]) 13 [K6,Z5,A3,Z5,A3,A6,A7,A8,Z5,A3,C1,C2,C3,Z5,A3,C4,C5,C6]))) w):Gives Q 190 #[Y5,Z5,K6] w K:=aB func190 (by kernel_rfl) (Eq.mp (congrArg (fun c=>ae Q c (rk f190 K) xf (rk f190 K) (aA Y5 Z5 K6 uu uu uu uu uu uu uu zu) w) (by kernel_rfl:(rep (b1 127) (cd f190 (b1 127)) (cd f190 []))=(cd f190 []))) (tV (cd f190 (b1 127)) h))
theorem lE (j:Code)(h:bin Q .geq 3 false true W6 (ci 8) (fun B7=>ae Q j (ae Q (cd f190 (b1 255)) (rk f190 K) (fun _ _ _=>False) (rk f190 K)) (fun _ _ _=>False) (rk f190 K) (aA Y5 Z5 K6 W6 X6 Y6 Z6 u7 B7 K7 (zV zf 31 [W6]))) w):ae Q (rep [0,1] j (cd f190 (b1 127))) (rk f190 K) xf (rk f190 K) (aA Y5 Z5 K6 W6 X6 Y6 Z6 u7 B7 K7 zf) w:=Eq.mp (by kernel_rfl) h
theorem sb (h:bin Q .geq 3 false true W6 (ci 8) (fun B7=>iL K (aA Y5 Z5 K6 W6 X6 Y6 Z6 u7 B7 K7 (zV zf 31 [W6]))) w):iK K (aA Y5 Z5 K6 W6 X6 Y6 Z6 u7 B7 K7 zf) w:=by
 delta iK
 exact Eq.mp (congrArg (fun c=>ae Q c (rk f190 K) xf (rk f190 K) (aA Y5 Z5 K6 W6 X6 Y6 Z6 u7 B7 K7 zf) w) (by kernel_rfl:(rep [0,1] (cd f190 (b1 509)) (cd f190 (b1 127)))=(cd f190 (b1 127)))) (lE (cd f190 (b1 509)) h)
theorem sc (j:KE)(u:Code)(h:cond B7 (bin Q .geq 3 false true W6 (ci 50) (fun K7=>ae Q u (ae Q (cd f190 (b1 2037)) j (fun _ _ _=>False) (rk f190 K)) (fun _ _ _=>False) (rk f190 K) (aA Y5 Z5 K6 W6 X6 Y6 Z6 u7 B7 K7 (zV zf 33 [W6]))) w) (j (aA Y5 Z5 K6 W6 X6 Y6 Z6 u7 B7 K7 zf) w)):ae Q (rep [0,0,1] u (cd f190 (b1 509))) j xf (rk f190 K) (aA Y5 Z5 K6 W6 X6 Y6 Z6 u7 B7 K7 zf) w:=Eq.mp (by kernel_rfl) h
theorem sd (h:cond B7 (bin Q .geq 3 false true W6 (ci 50) (fun K7=>iM K (aA Y5 Z5 K6 W6 X6 Y6 Z6 u7 B7 K7 (zV zf 33 [W6]))) w) (bC K (aA Y5 Z5 K6 W6 X6 Y6 Z6 u7 B7 K7 zf) w)):iL K (aA Y5 Z5 K6 W6 X6 Y6 Z6 u7 B7 K7 zf) w:=by
 delta iL
 exact Eq.mp (congrArg (fun c=>ae Q c (bC K) xf (rk f190 K) (aA Y5 Z5 K6 W6 X6 Y6 Z6 u7 B7 K7 zf) w) (by kernel_rfl:(rep [0,0,1] (cd f190 (b1 4073)) (cd f190 (b1 509)))=(cd f190 (b1 509)))) (sc (bC K) (cd f190 (b1 4073)) h)
theorem se (j:KE)(h:cond K7 (call Q 205 #[Y5,Y6,X6] (fun C9=>call Q 205 #[Y5,Z6,X6] fun D0=>call Q 205 #[Y5,u7,X6] fun D1=>j (aA Y5 Z5 K6 W6 X6 C9 D0 D1 B7 K7 (zV zf 35 [Y5,Y6,C9,Y5,Z6,D0,Y5,u7,D1]))) w) (j (aA Y5 Z5 K6 W6 X6 Y6 Z6 u7 B7 K7 zf) w)):ae Q (cd f190 (b1 4073)) j xf (rk f190 K) (aA Y5 Z5 K6 W6 X6 Y6 Z6 u7 B7 K7 zf) w:=Eq.mp (by kernel_rfl) h
theorem sf (h:cond K7 (call Q 205 #[Y5,Y6,X6] (fun C9=>call Q 205 #[Y5,Z6,X6] fun D0=>call Q 205 #[Y5,u7,X6] fun D1=>cC K (aA Y5 Z5 K6 W6 X6 C9 D0 D1 B7 K7 (zV zf 35 [Y5,Y6,C9,Y5,Z6,D0,Y5,u7,D1]))) w) (cC K (aA Y5 Z5 K6 W6 X6 Y6 Z6 u7 B7 K7 zf) w)):iM K (aA Y5 Z5 K6 W6 X6 Y6 Z6 u7 B7 K7 zf) w:=by
 delta iM
 exact Eq.mp (congrArg (fun c=>ae Q c (cC K) xf (rk f190 K) (aA Y5 Z5 K6 W6 X6 Y6 Z6 u7 B7 K7 zf) w) (by kernel_rfl:(cd f190 (b1 4073))=(cd f190 (b1 4073)))) (se (cC K) h)
theorem sg (h:ld Q 3 X6 (fun D3=>bin Q .eql 3 false true D3 (ci 0) fun D4 w=>cond D4 (K (Value.tuple #[Z6,ci 1]) w) (bin Q .eql 3 false true D3 (ci 12) (fun D5 w=>cond D5 (K (Value.tuple #[Z6,ci 2]) w) (K (Value.tuple #[Z6,ci 0]) w)) w)) w):ae Q (cd f190 (b1 255)) (rk f190 K) xf (rk f190 K) (aA Y5 Z5 K6 W6 X6 Y6 Z6 u7 B7 K7 zf) w:=Eq.mp (by kernel_rfl) h
theorem sh (h:ld Q 3 X6 (fun D3=>bin Q .eql 3 false true D3 (ci 0) fun D4 w=>cond D4 (K (Value.tuple #[Z6,ci 1]) w) (bin Q .eql 3 false true D3 (ci 12) (fun D5 w=>cond D5 (K (Value.tuple #[Z6,ci 2]) w) (K (Value.tuple #[Z6,ci 0]) w)) w)) w):bC K (aA Y5 Z5 K6 W6 X6 Y6 Z6 u7 B7 K7 zf) w:=by
 delta bC
 exact Eq.mp (congrArg (fun c=>ae Q c (rk f190 K) xf (rk f190 K) (aA Y5 Z5 K6 W6 X6 Y6 Z6 u7 B7 K7 zf) w) (by kernel_rfl:(cd f190 (b1 255))=(cd f190 (b1 255)))) (sg h)
theorem si (j:KE)(h:call Q 206 #[Y5,Y6,Z6,u7,X6] (fun D2=>j (aA Y5 Z5 K6 W6 X6 Y6 D2 u7 B7 K7 (zV zf 44 [Y5,Y6,Z6,u7,D2]))) w):ae Q (cd f190 (b1 2037)) j xf (rk f190 K) (aA Y5 Z5 K6 W6 X6 Y6 Z6 u7 B7 K7 zf) w:=Eq.mp (by kernel_rfl) h
theorem sj (h:call Q 206 #[Y5,Y6,Z6,u7,X6] (fun D2=>bC K (aA Y5 Z5 K6 W6 X6 Y6 D2 u7 B7 K7 (zV zf 44 [Y5,Y6,Z6,u7,D2]))) w):cC K (aA Y5 Z5 K6 W6 X6 Y6 Z6 u7 B7 K7 zf) w:=by
 delta cC
 exact Eq.mp (congrArg (fun c=>ae Q c (bC K) xf (rk f190 K) (aA Y5 Z5 K6 W6 X6 Y6 Z6 u7 B7 K7 zf) w) (by kernel_rfl:(cd f190 (b1 2037))=(cd f190 (b1 2037)))) (si (bC K) h)
attribute [irreducible] iK bC iL cC iM
theorem rM (h:bin Q .sub 3 false true Z5 (ci 1) (fun A0=>nC Z5 fun A1=>call Q 206 #[Y5,A0,Z5,A1,K6] K) w):Gives Q 205 #[Y5,Z5,K6] w K:=by
 refine aB func205 (by kernel_rfl) ?_;exact mpK h
theorem vH (h:call Q 209 #[Y5,Z5,K6,X6] (fun A4=>ext Q A4 0 fun A5=>ext Q A4 1 fun A6=>call Q 209 #[Y5,A6,W6,X6] fun C2=>ext Q C2 0 fun C3=>ext Q C2 1 fun _=>call Q 209 #[Y5,A5,C3,X6] fun C7=>ext Q C7 0 fun _=>ext Q C7 1 K) w):Gives Q 206 #[Y5,Z5,K6,W6,X6] w K:=by
 refine aB func206 (by kernel_rfl) ?_;exact mpK h
theorem vJ (h:aG (fun S w=>hI S 120 Y5 K6 fun A1=>hL S 31 A1 fun A2=>hI S 120 Y5 Z5 fun A4=>hL S 31 A4 fun A5=>call Q 193 #[A2,A5] (fun A6 w=>cond A6 (aU W6 (fun A8=>ld Q 3 A8 fun A9=>nC A9 fun C0=>aU W6 fun C1=>sto Q 3 C1 C0 fun _=>K (Value.tuple #[K6,Z5])) w) (K (Value.tuple #[Z5,K6]) w)) w) w.drew):Gives Q 209 #[Y5,Z5,K6,W6] w K:=by
 refine aB func209 (by kernel_rfl) ?_;exact mpK h
def fK (aJ a1 b2 first6 lo7 hi8 i9 i10:Value)(zf:Nat→Value):List Value:=aJ::a1::b2::zT zf 3 3 (first6::lo7::hi8::i9::i10::zT zf 11 45 ([]))
def cM (K:KV):KE:=ae Q (cd f188 [1,1,1,1]) (rk f188 K) xf (rk f188 K)
def jI (K:KV):KE:=ae Q (cd f188 (b1 122)) (cM K) (xx xf (cM K) 0) (rk f188 K)
def jJ (K:KV):KE:=ae Q (cd f188 (b1 126)) (rk f188 K) (xx xf (rk f188 K) 2) (rk f188 K)
theorem uX (h:bin Q .sub 3 false false K6 Z5 (fun A3=>bin Q .sub 3 false true A3 (ci 1) fun A4=>bin Q .quo 3 false true A4 (ci 2) fun A5=>jI K (fK Y5 Z5 K6 Z5 (ci 0) A3 A5 uu (zV zu 11 [Z5,K6,Z5,A3,A3,A4,A5]))) w):Gives Q 188 #[Y5,Z5,K6] w K:=by
 refine aB func188 (by kernel_rfl) ?_;revert h;delta jI cM;exact mpF
theorem tX (Inv:Value→World→Prop)(μ:Value→World→Nat)(I:Inv Z6 w)(J:∀(j:Value) (dd:Nat→Value) (w:World) (m:Nat),Inv j w→m=μ j w →
  bin Q .geq 3 false true j (ci 0) (fun A7 w=>cond A7 (call Q 204 #[Y5,j,Y6,W6] (fun _=>bin Q .sub 3 false true j (ci 1) fun A9 w=>(Inv A9 w)∧((μ A9 w)<m)) w) (cM K (fK Y5 Z5 K6 W6 X6 Y6 j u7 (zV dd 18 [j,A7])) w)) w):jI K (fK Y5 Z5 K6 W6 X6 Y6 Z6 u7 zf) w:=by
 refine aL (cd f188 (b1 244)) (zr [(9,1),(18,9)]) (by kernel_rfl) (vP [9] Inv) (vQ [9] μ) I ?_;intro e' w' hI;have h:=J _ (zM zf (fun i=>gd e' i) (zr [(9,1),(18,9)])) w' _ hI rfl;revert h;generalize (cM K)=qc0;exact mpF
theorem tZ (h:bin Q .sub 3 false true Y6 (ci 1) (fun C6=>jJ K (fK Y5 Z5 K6 W6 X6 Y6 Z6 C6 (zV zf 27 [Y6,C6]))) w):cM K (fK Y5 Z5 K6 W6 X6 Y6 Z6 u7 zf) w:=by
 delta cM;revert h;delta jJ;exact mpF
theorem tY (Inv:Value→World→Prop)(μ:Value→World→Nat)(I:Inv u7 w)(J:∀(j:Value) (dd:Nat→Value) (w:World) (m:Nat),Inv j w→m=μ j w →
  bin Q .geq 3 false true j (ci 0) (fun C8 w=>cond C8 (aG (fun S w=>hld (fun _=>True) (bin Q .add 3 false false W6 j) fun D6=>hld (fun _=>True) (bin Q .add 3 false false W6 j) fun E0=>hI S 120 Y5 E0 fun E1=>hL S 31 E1 fun E2=>hI S 120 Y5 W6 fun E4=>hL S 31 E4 fun E5=>hI S 120 Y5 W6 fun E6=>sto Q 31 E6 E2 (fun _=>aG fun S w=>hI S 120 Y5 D6 fun E7=>sto Q 31 E7 E5 (fun _=>call Q 204 #[Y5,X6,j,W6] fun _=>bin Q .sub 3 false true j (ci 1) fun D0 w=>(Inv D0 w)∧((μ D0 w)<m)) w) w) w.drew) (K (Value.tuple #[]) w)) w):jJ K (fK Y5 Z5 K6 W6 X6 Y6 Z6 u7 zf) w:=by
 refine aL (cd f188 (b1 252)) (zr [(10,1),(29,27)]) (by kernel_rfl) (vP [10] Inv) (vQ [10] μ) I ?_;intro e' w' hI;have h:=J _ (zM zf (fun i=>gd e' i) (zr [(10,1),(29,27)])) w' _ hI rfl;exact mpK h
attribute [irreducible] cM jI jJ
def dw (aJ hi2 first3 root8 child9 C0 C1 C2 C3 C4 C5 C6 C7 C8 C9 D0 D1 D2 D3 D4:Value)(zf:Nat→Value):List Value:=aJ::zf 1::hi2::first3::zT zf 4 4 (root8::child9::zT zf 10 12 (C0::C1::C2::C3::C4::C5::C6::C7::C8::C9::D0::D1::D2::D3::D4::zT zf 37 39 ([])))
def jK (K:KV):KE:=ae Q (cd f204 [1,0]) (rk f204 K) (xx xf (rk f204 K) 0) (rk f204 K)
def df (K:KV)(B1:KE):KE:=ae Q (cd f204 (b1 199)) B1 (xx (xx xf (rk f204 K) 0) B1 1) (rk f204 K)
def gT (K:KV)(B1:KE):KE:=ae Q (cd f204 (b1 397)) (df K B1) (xx (xx xf (rk f204 K) 0) B1 1) (rk f204 K)
theorem uY (h:jK K (dw Y5 Z5 K6 W6 uu uu uu uu uu uu uu uu uu uu uu uu uu uu uu uu (zV (zV zu 1 [W6]) 10 [W6])) w):Gives Q 204 #[Y5,W6,Z5,K6] w K:=by
 refine aB func204 (by kernel_rfl) ?_;revert h;delta jK;exact mpF
theorem lO (Inv:vI 15)(μ:vM 15)(h0:Inv W6 Y6 Z6 u7 B7 K7 W7 X7 Y7 Z7 B8 K8 W8 X8 Y8 w)(hs:∀(root8' C0' C1' C2' C3' C4' C5' C6' C7' C8' C9' D0' D1' D2' D3':Value) (dd:Nat→Value) (w:World) (m:Nat),Inv root8' C0' C1' C2' C3' C4' C5' C6' C7' C8' C9' D0' D1' D2' D3' w→m=μ root8' C0' C1' C2' C3' C4' C5' C6' C7' C8' C9' D0' D1' D2' D3' w →
  bin Q .mul 3 true false (ci 2) root8' (fun A1=>nC A1 fun A2=>bin Q .geq 3 false false A2 Z5 fun A4 w=>cond A4 (K (Value.tuple #[]) w) (sti (bin Q .add 3 false true A2 (ci 1)) (fun A6=>sti (bin Q .lss 3 false false A6 Z5) fun A8 w=>aI A8 true (fun k22=>sti (bin Q .add 3 false false K6 A2) (fun B7=>sI 120 Y5 B7 fun K7=>sL 31 K7 fun W7=>sti (bin Q .add 3 false false K6 A2) fun B8=>sti (bin Q .add 3 false true B8 (ci 1)) fun K8=>sI 120 Y5 K8 fun W8=>sL 31 W8 fun X8=>sti (call Q 193 #[W7,X8]) fun Y8=>k22 [Y5,K6,A2,B7,K7,W7,Y5,K6,A2,B8,K8,W8,X8,Y8]) w) (fun k=>k [uu,uu,uu,uu,uu,uu,uu,uu,uu,uu,uu,uu,uu,uu] w) fun us22=>sti (pick A8 (gd us22 13) cF) fun Z8=>gT K (fun e2 w2=>(Inv (gd e2 8) (gd e2 22) (gd e2 23) (gd e2 24) (gd e2 25) (gd e2 26) (gd e2 27) (gd e2 28) (gd e2 29) (gd e2 30) (gd e2 31) (gd e2 32) (gd e2 33) (gd e2 34) (gd e2 35) w2)∧((μ (gd e2 8) (gd e2 22) (gd e2 23) (gd e2 24) (gd e2 25) (gd e2 26) (gd e2 27) (gd e2 28) (gd e2 29) (gd e2 30) (gd e2 31) (gd e2 32) (gd e2 33) (gd e2 34) (gd e2 35) w2)<m)) (dw Y5 Z5 K6 root8' A2 (gd us22 0) (gd us22 1) (gd us22 2) (gd us22 3) (gd us22 4) (gd us22 5) (gd us22 6) (gd us22 7) (gd us22 8) (gd us22 9) (gd us22 10) (gd us22 11) (gd us22 12) (gd us22 13) Z8 (zV dd 11 [root8',A1,A2,A2,Z5,A4,A2,A6,Z5,A8,A8]))) w.drew)) w):jK K (dw Y5 Z5 K6 W6 X6 Y6 Z6 u7 B7 K7 W7 X7 Y7 Z7 B8 K8 W8 X8 Y8 Z8 zf) w:=by
 refine aL (cd f204 [1,0,0]) (zr [(8,2),(11,65)]) (by kernel_rfl) (vP [8,22,23,24,25,26,27,28,29,30,31,32,33,34,35] Inv) (vQ [8,22,23,24,25,26,27,28,29,30,31,32,33,34,35] μ) h0 ?_
 intro e' w' hI
 have h:=hs _ _ _ _ _ _ _ _ _ _ _ _ _ _ _ (zM zf (fun i=>gd e' i) (zr [(8,2),(11,65)])) w' _ hI rfl
 refine Eq.mp (congrArg (fun c=>ae Q c _ _ _ _ w') (by kernel_rfl:(rep (b1 45) (cd f204 (b1 397)) (cd f204 [1,0,0]))=(cd f204 [1,0,0]))) ?_
 revert h
 delta gT df
 generalize (cd f204 (b1 397))=xc0
 exact mpF
theorem oC (h:cond Z8 (nC X6 (fun D6=>df K B1 (dw Y5 Z5 K6 W6 D6 Y6 Z6 u7 B7 K7 W7 X7 Y7 Z7 B8 K8 W8 X8 Y8 Z8 (zV zf 37 [X6,D6]))) w) (df K B1 (dw Y5 Z5 K6 W6 X6 Y6 Z6 u7 B7 K7 W7 X7 Y7 Z7 B8 K8 W8 X8 Y8 Z8 zf) w)):gT K B1 (dw Y5 Z5 K6 W6 X6 Y6 Z6 u7 B7 K7 W7 X7 Y7 Z7 B8 K8 W8 X8 Y8 Z8 zf) w:=by
 delta gT;revert h;generalize (df K B1)=qc0;exact mpF
theorem lP (h:aG (fun S w=>hld (fun _=>True) (bin Q .add 3 false false K6 W6) fun E0=>hI S 120 Y5 E0 fun E1=>hL S 31 E1 fun E2=>hld (fun _=>True) (bin Q .add 3 false false K6 X6) fun E5=>hI S 120 Y5 E5 fun E6=>hL S 31 E6 fun E7=>call Q 193 #[E2,E7] (fun E8=>aG fun S w=>hld S (un Q .not E8) fun E9=>cond E9 (K (Value.tuple #[]) w) (aG (fun S w=>hld (fun _=>True) (bin Q .add 3 false false K6 W6) fun F3=>hld (fun _=>True) (bin Q .add 3 false false K6 X6) fun F7=>hld (fun _=>True) (bin Q .add 3 false false K6 X6) fun F9=>hI S 120 Y5 F9 fun G0=>hL S 31 G0 fun G1=>hld (fun _=>True) (bin Q .add 3 false false K6 W6) fun G2=>hI S 120 Y5 G2 fun G3=>hL S 31 G3 fun G4=>hI S 120 Y5 F3 fun G5=>sto Q 31 G5 G1 (fun _=>aG fun S w=>hI S 120 Y5 F7 fun G6=>sto Q 31 G6 G4 (fun _=>B1 (dw Y5 Z5 K6 X6 X6 Y6 Z6 u7 B7 K7 W7 X7 Y7 Z7 B8 K8 W8 X8 Y8 Z8 (zV zf 39 [Y5,K6,W6,E0,E1,E2,Y5,K6,X6,E5,E6,E7,E8,E9,Y5,K6,W6,F3,Y5,K6,X6,F7,Y5,K6,X6,F9,G0,G1,Y5,K6,W6,G2,G3,G4,G5,G6,X6]))) w) w) w.drew)) w) w.drew):df K B1 (dw Y5 Z5 K6 W6 X6 Y6 Z6 u7 B7 K7 W7 X7 Y7 Z7 B8 K8 W8 X8 Y8 Z8 zf) w:=by
 delta df;exact mpK h
attribute [irreducible] jK df gT
def oq (aJ a1 b2 i6 j7:Value)(zf:Nat→Value):List Value:=aJ::a1::b2::zT zf 3 3 (i6::j7::zT zf 8 24 ([]))
def iA (K:KV):KE:=ae Q (cd f191 [1,1,0]) (rk f191 K) (xx xf (rk f191 K) 0) (rk f191 K)
theorem sZ (h:bin Q .sub 3 false true K6 (ci 1) (fun A0=>iA K (oq Y5 Z5 K6 Z5 A0 (zV zu 8 [Z5,K6,A0]))) w):Gives Q 191 #[Y5,Z5,K6] w K:=by
 refine aB func191 (by kernel_rfl) ?_;revert h;delta iA;exact mpF
theorem rR (Inv:Value→Value→World→Prop)(μ:Value→Value→World→Nat)(J:Inv W6 X6 w)(M:∀(j u:Value) (dd:Nat→Value) (w:World) (m:Nat),Inv j u w→m=μ j u w →
  lS j u (fun A2 w=>cond A2 (aG (fun S w=>hI S 120 Y5 u fun A8=>hL S 31 A8 fun A9=>hI S 120 Y5 j fun C2=>hL S 31 C2 fun C3=>hI S 120 Y5 j fun C4=>sto Q 31 C4 A9 (fun _=>aG fun S w=>hI S 120 Y5 u fun C5=>sto Q 31 C5 C3 (fun _=>nC j fun C7=>bin Q .sub 3 false true u (ci 1) fun C9 w=>(Inv C7 C9 w)∧((μ C7 C9 w)<m)) w) w) w.drew) (K (Value.tuple #[]) w)) w):iA K (oq Y5 Z5 K6 W6 X6 zf) w:=by
 refine aL (cd f191 [1,1,0,0]) (zr [(6,2),(11,21)]) (by kernel_rfl) (vP [6,7] Inv) (vQ [6,7] μ) J ?_;intro e' w' hI;have h:=M _ _ (zM zf (fun i=>gd e' i) (zr [(6,2),(11,21)])) w' _ hI rfl;exact mpK h
attribute [irreducible] iA
def aD (aJ a1 b2 a5 i10 j11 D2 D3 D4 D5 D6 D7 D8 D9 E0 E7 E8 E9 F0 F1 F2 F3 F4 F5 F6 I0 I1 I2 I3 I4 I5 I6 I7 I8 J2 J3 J4 J5 J6 J7 J8 J9 L0 L1:Value)(zf:Nat→Value):List Value:=aJ::a1::b2::zf 3::zf 4::a5::zT zf 6 4 (i10::j11::zT zf 12 22 (D2::D3::D4::D5::D6::D7::D8::D9::E0::zT zf 43 7 (E7::E8::E9::F0::F1::F2::F3::F4::F5::F6::zT zf 60 43 (I0::I1::I2::I3::I4::I5::I6::I7::I8::zT zf 112 7 (J2::J3::J4::J5::J6::J7::J8::J9::L0::L1::zT zf 129 39 ([]))))))
def cS (K:KV):KE:=ae Q (cd f195 [1,1,1,1]) (rk f195 K) xf (rk f195 K)
def jf (K:KV):KE:=ae Q (cd f195 (b1 60)) (cS K) (xx xf (cS K) 0) (rk f195 K)
def cU (K:KV):KE:=ae Q (cd f195 (b1 63)) (rk f195 K) xf (rk f195 K)
def jg (K:KV):KE:=ae Q (cd f195 (b1 124)) (cU K) (xx xf (cU K) 2) (rk f195 K)
def gN (K:KV):KE:=ae Q (cd f195 (b1 255)) (rk f195 K) xf (rk f195 K)
def bc (K:KV):KE:=ae Q (cd f195 (b1 2047)) (rk f195 K) xf (rk f195 K)
def jh (K:KV):KE:=ae Q (cd f195 (b1 4092)) (bc K) (xx xf (bc K) 4) (rk f195 K)
def cW (K:KV)(B1:KE):KE:=ae Q (cd f195 (b1 32737)) B1 (xx (xx xf (bc K) 4) B1 5) (rk f195 K)
def gO (K:KV)(B1:KE):KE:=ae Q (cd f195 (b1 65472)) (cW K B1) (xx (xx (xx xf (bc K) 4) B1 5) (cW K B1) 6) (rk f195 K)
def cY (K:KV)(B1:KE):KE:=ae Q (cd f195 (b1 65475)) B1 (xx (xx xf (bc K) 4) B1 5) (rk f195 K)
def ji (K:KV)(B1:KE):KE:=ae Q (cd f195 (b1 130948)) (cY K B1) (xx (xx (xx xf (bc K) 4) B1 5) (cY K B1) 8) (rk f195 K)
theorem ue (h:aG (fun S w=>hI S 120 Y5 W6 fun A6=>hL S 31 A6 fun A7=>hI S 120 Y5 Z5 fun C0=>hL S 31 C0 fun C1=>hI S 120 Y5 Z5 fun C2=>sto Q 31 C2 A7 (fun _=>aG fun S w=>hI S 120 Y5 W6 fun C3=>sto Q 31 C3 C1 (fun _=>nC Z5 fun C5=>bin Q .sub 3 false true K6 (ci 1) fun C7=>jf K (aD Y5 Z5 K6 uu C5 C7 uu uu uu uu uu uu uu uu uu uu uu uu uu uu uu uu uu uu uu uu uu uu uu uu uu uu uu uu uu uu uu uu uu uu uu uu uu uu (zV (zV (zV zu 3 [W6]) 8 [ci 0,cF]) 12 [Y5,Z5,Y5,W6,Y5,W6,A6,A7,Y5,Z5,C0,C1,C2,C3,Z5,C5,K6,C7]))) w) w) w.drew):Gives Q 195 #[Y5,Z5,K6,W6] w K:=by
 refine aB func195 (by kernel_rfl) ?_;revert h;delta jf cS;exact mpF
theorem tC (Inv:vI 10)(μ:vM 10)(h0:Inv X6 Z6 u7 B7 K7 W7 X7 Y7 Z7 B8 w)(hs:∀(u I J M O U aa ad af ag:Value) (dd:Nat→Value) (w:World) (m:Nat),Inv u I J M O U aa ad af ag w→m=μ u I J M O U aa ad af ag w →
  sti (bin Q .leq 3 false false u Y6) (fun D0 w=>aI D0 true (fun al=>sI 120 Y5 u (fun B7=>sL 31 B7 fun K7=>sI 120 Y5 Z5 fun Y7=>sL 31 Y7 fun Z7=>sti (call Q 193 #[K7,Z7]) fun B8=>al [Y5,u,B7,K7,Y5,Z5,Y7,Z7,B8]) w) (fun k=>k [uu,uu,uu,uu,uu,uu,uu,uu,uu] w) fun j=>sti (pick D0 (gd j 8) cF) fun E1 w=>cond E1 (nC u (fun E3 w=>(Inv E3 (gd j 0) (gd j 1) (gd j 2) (gd j 3) (gd j 4) (gd j 5) (gd j 6) (gd j 7) (gd j 8) w)∧((μ E3 (gd j 0) (gd j 1) (gd j 2) (gd j 3) (gd j 4) (gd j 5) (gd j 6) (gd j 7) (gd j 8) w)<m)) w) (cS K (aD Y5 Z5 K6 W6 u Y6 (gd j 0) (gd j 1) (gd j 2) (gd j 3) (gd j 4) (gd j 5) (gd j 6) (gd j 7) (gd j 8) K8 W8 X8 Y8 Z8 l9 n9 u9 B9 K9 W9 X9 Y9 Z9 ia ja ka qa ua xa ya Aa Ba Ca Da Ea Fa Ga Ha (zV (zV dd 30 [u,Y6,D0,D0]) 43 [E1])) w)) w.drew):jf K (aD Y5 Z5 K6 W6 X6 Y6 Z6 u7 B7 K7 W7 X7 Y7 Z7 B8 K8 W8 X8 Y8 Z8 l9 n9 u9 B9 K9 W9 X9 Y9 Z9 ia ja ka qa ua xa ya Aa Ba Ca Da Ea Fa Ga Ha zf) w:=by
 refine aL (cd f195 (b1 120)) (zr [(10,1),(30,16)]) (by kernel_rfl) (vP [10,34,35,36,37,38,39,40,41,42] Inv) (vQ [10,34,35,36,37,38,39,40,41,42] μ) h0 ?_;intro e' w' hI;have h:=hs _ _ _ _ _ _ _ _ _ _ (zM zf (fun i=>gd e' i) (zr [(10,1),(30,16)])) w' _ hI rfl;revert h;generalize (cS K)=qc0;exact mpF
theorem tH (h:jg K (aD Y5 Z5 K6 W6 X6 Y6 Z6 u7 B7 K7 W7 X7 Y7 Z7 B8 K8 W8 X8 Y8 Z8 l9 n9 u9 B9 K9 W9 X9 Y9 Z9 ia ja ka qa ua xa ya Aa Ba Ca Da Ea Fa Ga Ha zf) w):cS K (aD Y5 Z5 K6 W6 X6 Y6 Z6 u7 B7 K7 W7 X7 Y7 Z7 B8 K8 W8 X8 Y8 Z8 l9 n9 u9 B9 K9 W9 X9 Y9 Z9 ia ja ka qa ua xa ya Aa Ba Ca Da Ea Fa Ga Ha zf) w:=by
 delta cS;revert h;delta jg cU;exact mpF
theorem tD (Inv:vI 11)(μ:vM 11)(h0:Inv Y6 K8 W8 X8 Y8 Z8 l9 n9 u9 B9 K9 w)(hs:∀(u I J M O U aa ad af ag al:Value) (dd:Nat→Value) (w:World) (m:Nat),Inv u I J M O U aa ad af ag al w→m=μ u I J M O U aa ad af ag al w →
  sti (bin Q .leq 3 false false X6 u) (fun E5 w=>aI E5 true (fun am=>sI 120 Y5 u (fun X8=>sL 31 X8 fun Y8=>sI 120 Y5 Z5 fun n9=>sL 31 n9 fun u9=>sti (call Q 193 #[Y8,u9]) fun B9=>sti (un Q .not B9) fun K9=>am [Y5,u,X8,Y8,Y5,Z5,n9,u9,B9,K9]) w) (fun k=>k [uu,uu,uu,uu,uu,uu,uu,uu,uu,uu] w) fun j=>sti (pick E5 (gd j 9) cF) fun F7 w=>cond F7 (bin Q .sub 3 false true u (ci 1) (fun F8 w=>(Inv F8 (gd j 0) (gd j 1) (gd j 2) (gd j 3) (gd j 4) (gd j 5) (gd j 6) (gd j 7) (gd j 8) (gd j 9) w)∧((μ F8 (gd j 0) (gd j 1) (gd j 2) (gd j 3) (gd j 4) (gd j 5) (gd j 6) (gd j 7) (gd j 8) (gd j 9) w)<m)) w) (cU K (aD Y5 Z5 K6 W6 X6 u Z6 u7 B7 K7 W7 X7 Y7 Z7 B8 (gd j 0) (gd j 1) (gd j 2) (gd j 3) (gd j 4) (gd j 5) (gd j 6) (gd j 7) (gd j 8) (gd j 9) W9 X9 Y9 Z9 ia ja ka qa ua xa ya Aa Ba Ca Da Ea Fa Ga Ha (zV (zV dd 46 [X6,u,E5,E5]) 60 [F7])) w)) w.drew):jg K (aD Y5 Z5 K6 W6 X6 Y6 Z6 u7 B7 K7 W7 X7 Y7 Z7 B8 K8 W8 X8 Y8 Z8 l9 n9 u9 B9 K9 W9 X9 Y9 Z9 ia ja ka qa ua xa ya Aa Ba Ca Da Ea Fa Ga Ha zf) w:=by
 refine aL (cd f195 (b1 248)) (zr [(11,1),(46,17)]) (by kernel_rfl) (vP [11,50,51,52,53,54,55,56,57,58,59] Inv) (vQ [11,50,51,52,53,54,55,56,57,58,59] μ) h0 ?_;intro e' w' hI;have h:=hs _ _ _ _ _ _ _ _ _ _ _ (zM zf (fun i=>gd e' i) (zr [(11,1),(46,17)])) w' _ hI rfl;revert h;generalize (cU K)=qc0;exact mpF
theorem tI (h:bin Q .gtr 3 false false X6 Y6 (fun G0 w=>cond G0 (aG (fun S w=>hI S 120 Y5 Z5 fun G4=>hL S 31 G4 fun G5=>hI S 120 Y5 Y6 fun G7=>hL S 31 G7 fun G8=>hI S 120 Y5 Y6 fun G9=>sto Q 31 G9 G5 (fun _=>aG fun S w=>hI S 120 Y5 Z5 fun H0=>sto Q 31 H0 G8 (fun _=>K (Value.tuple #[Y6,cT])) w) w) w.drew) (aG (fun S w=>hI S 120 Y5 Y6 fun H1=>hL S 31 H1 fun H2=>hI S 120 Y5 X6 fun H3=>hL S 31 H3 fun H4=>hI S 120 Y5 X6 fun H5=>sto Q 31 H5 H2 (fun _=>aG fun S w=>hI S 120 Y5 Y6 fun H6=>sto Q 31 H6 H4 (fun _=>gN K (aD Y5 Z5 K6 W6 X6 Y6 Z6 u7 B7 K7 W7 X7 Y7 Z7 B8 K8 W8 X8 Y8 Z8 l9 n9 u9 B9 K9 W9 X9 Y9 Z9 ia ja ka qa ua xa ya Aa Ba Ca Da Ea Fa Ga Ha (zV (zV zf 63 [X6,Y6,G0]) 81 [Y5,X6,Y5,Y6,Y5,Y6,H1,H2,Y5,X6,H3,H4,H5,H6]))) w) w) w.drew)) w):cU K (aD Y5 Z5 K6 W6 X6 Y6 Z6 u7 B7 K7 W7 X7 Y7 Z7 B8 K8 W8 X8 Y8 Z8 l9 n9 u9 B9 K9 W9 X9 Y9 Z9 ia ja ka qa ua xa ya Aa Ba Ca Da Ea Fa Ga Ha zf) w:=by
 delta cU
 refine Eq.mp (congrArg (fun c=>ae Q c _ _ _ _ w) (by kernel_rfl:(rep [1,1] (cd f195 (b1 255)) (cd f195 (b1 63)))=(cd f195 (b1 63)))) ?_
 revert h
 delta gN
 generalize (cd f195 (b1 255))=xc0
 exact mpF
theorem tB (h:nC X6 (fun H7=>bin Q .sub 3 false true Y6 (ci 1) fun H8=>jh K (aD Y5 Z5 K6 W6 H7 H8 Z6 u7 B7 K7 W7 X7 Y7 Z7 B8 K8 W8 X8 Y8 Z8 l9 n9 u9 B9 K9 W9 X9 Y9 Z9 ia ja ka qa ua xa ya Aa Ba Ca Da Ea Fa Ga Ha (zV zf 95 [X6,H7,Y6,H8]))) w):gN K (aD Y5 Z5 K6 W6 X6 Y6 Z6 u7 B7 K7 W7 X7 Y7 Z7 B8 K8 W8 X8 Y8 Z8 l9 n9 u9 B9 K9 W9 X9 Y9 Z9 ia ja ka qa ua xa ya Aa Ba Ca Da Ea Fa Ga Ha zf) w:=by
 delta gN;revert h;delta jh bc;exact mpF
theorem tE (Inv:vI 21)(μ:vM 21)(h0:Inv X6 Y6 W9 X9 Y9 Z9 ia ja ka qa ua xa ya Aa Ba Ca Da Ea Fa Ga Ha w)(hs:∀(u C I J M O U aa ad af ag al am an ap ar av az aE aS a0:Value) (dd:Nat→Value) (w:World) (m:Nat),Inv u C I J M O U aa ad af ag al am an ap ar av az aE aS a0 w→m=μ u C I J M O U aa ad af ag al am an ap ar av az aE aS a0 w →
  gO K (fun j w2=>(Inv (gd j 10) (gd j 11) (gd j 103) (gd j 104) (gd j 105) (gd j 106) (gd j 107) (gd j 108) (gd j 109) (gd j 110) (gd j 111) (gd j 119) (gd j 120) (gd j 121) (gd j 122) (gd j 123) (gd j 124) (gd j 125) (gd j 126) (gd j 127) (gd j 128) w2)∧((μ (gd j 10) (gd j 11) (gd j 103) (gd j 104) (gd j 105) (gd j 106) (gd j 107) (gd j 108) (gd j 109) (gd j 110) (gd j 111) (gd j 119) (gd j 120) (gd j 121) (gd j 122) (gd j 123) (gd j 124) (gd j 125) (gd j 126) (gd j 127) (gd j 128) w2)<m)) (aD Y5 Z5 K6 W6 u C Z6 u7 B7 K7 W7 X7 Y7 Z7 B8 K8 W8 X8 Y8 Z8 l9 n9 u9 B9 K9 I J M O U aa ad af ag al am an ap ar av az aE aS a0 dd) w):jh K (aD Y5 Z5 K6 W6 X6 Y6 Z6 u7 B7 K7 W7 X7 Y7 Z7 B8 K8 W8 X8 Y8 Z8 l9 n9 u9 B9 K9 W9 X9 Y9 Z9 ia ja ka qa ua xa ya Aa Ba Ca Da Ea Fa Ga Ha zf) w:=by
 refine aL (cd f195 (b1 8184)) (zr [(10,2),(99,54)]) (by kernel_rfl) (vP [10,11,103,104,105,106,107,108,109,110,111,119,120,121,122,123,124,125,126,127,128] Inv) (vQ [10,11,103,104,105,106,107,108,109,110,111,119,120,121,122,123,124,125,126,127,128] μ) h0 ?_;intro e' w' hI;have h:=hs _ _ _ _ _ _ _ _ _ _ _ _ _ _ _ _ _ _ _ _ _ (zM zf (fun i=>gd e' i) (zr [(10,2),(99,54)])) w' _ hI rfl;revert h
 delta gO cW;generalize (bc K)=qc0;exact mpF
theorem tF (Inv:vI 10)(μ:vM 10)(h0:Inv X6 W9 X9 Y9 Z9 ia ja ka qa ua w)(hs:∀(u I J M O U aa ad af ag:Value) (dd:Nat→Value) (w:World) (m:Nat),Inv u I J M O U aa ad af ag w→m=μ u I J M O U aa ad af ag w →
  sti (bin Q .leq 3 false false u Y6) (fun H9 w=>aI H9 true (fun al=>sI 120 Y5 u (fun Y9=>sL 31 Y9 fun Z9=>sI 120 Y5 Z5 fun ka=>sL 31 ka fun qa=>sti (call Q 193 #[Z9,qa]) fun ua=>al [Y5,u,Y9,Z9,Y5,Z5,ka,qa,ua]) w) (fun k=>k [uu,uu,uu,uu,uu,uu,uu,uu,uu] w) fun j=>sti (pick H9 (gd j 8) cF) fun I9 w=>cond I9 (nC u (fun J0 w=>(Inv J0 (gd j 0) (gd j 1) (gd j 2) (gd j 3) (gd j 4) (gd j 5) (gd j 6) (gd j 7) (gd j 8) w)∧((μ J0 (gd j 0) (gd j 1) (gd j 2) (gd j 3) (gd j 4) (gd j 5) (gd j 6) (gd j 7) (gd j 8) w)<m)) w) (cW K B1 (aD Y5 Z5 K6 W6 u Y6 Z6 u7 B7 K7 W7 X7 Y7 Z7 B8 K8 W8 X8 Y8 Z8 l9 n9 u9 B9 K9 (gd j 0) (gd j 1) (gd j 2) (gd j 3) (gd j 4) (gd j 5) (gd j 6) (gd j 7) (gd j 8) xa ya Aa Ba Ca Da Ea Fa Ga Ha (zV (zV dd 99 [u,Y6,H9,H9]) 112 [I9])) w)) w.drew):gO K B1 (aD Y5 Z5 K6 W6 X6 Y6 Z6 u7 B7 K7 W7 X7 Y7 Z7 B8 K8 W8 X8 Y8 Z8 l9 n9 u9 B9 K9 W9 X9 Y9 Z9 ia ja ka qa ua xa ya Aa Ba Ca Da Ea Fa Ga Ha zf) w:=by
 refine aL (cd f195 (b1 130944)) (zr [(10,1),(99,16)]) (by kernel_rfl) (vP [10,103,104,105,106,107,108,109,110,111] Inv) (vQ [10,103,104,105,106,107,108,109,110,111] μ) h0 ?_;intro e' w' hI;have h:=hs _ _ _ _ _ _ _ _ _ _ (zM zf (fun i=>gd e' i) (zr [(10,1),(99,16)])) w' _ hI rfl;revert h;generalize (bc K)=qc0;generalize (cW K B1)=qc1;exact mpF
theorem tK (h:ji K B1 (aD Y5 Z5 K6 W6 X6 Y6 Z6 u7 B7 K7 W7 X7 Y7 Z7 B8 K8 W8 X8 Y8 Z8 l9 n9 u9 B9 K9 W9 X9 Y9 Z9 ia ja ka qa ua xa ya Aa Ba Ca Da Ea Fa Ga Ha zf) w):cW K B1 (aD Y5 Z5 K6 W6 X6 Y6 Z6 u7 B7 K7 W7 X7 Y7 Z7 B8 K8 W8 X8 Y8 Z8 l9 n9 u9 B9 K9 W9 X9 Y9 Z9 ia ja ka qa ua xa ya Aa Ba Ca Da Ea Fa Ga Ha zf) w:=by
 delta cW;revert h;delta ji cY;generalize (bc K)=qc0;exact mpF
theorem tG (Inv:vI 11)(μ:vM 11)(h0:Inv Y6 xa ya Aa Ba Ca Da Ea Fa Ga Ha w)(hs:∀(u I J M O U aa ad af ag al:Value) (dd:Nat→Value) (w:World) (m:Nat),Inv u I J M O U aa ad af ag al w→m=μ u I J M O U aa ad af ag al w →
  sti (bin Q .leq 3 false false X6 u) (fun J1 w=>aI J1 true (fun am=>sI 120 Y5 u (fun Aa=>sL 31 Aa fun Ba=>sI 120 Y5 Z5 fun Ea=>sL 31 Ea fun Fa=>sti (call Q 193 #[Ba,Fa]) fun Ga=>sti (un Q .not Ga) fun Ha=>am [Y5,u,Aa,Ba,Y5,Z5,Ea,Fa,Ga,Ha]) w) (fun k=>k [uu,uu,uu,uu,uu,uu,uu,uu,uu,uu] w) fun j=>sti (pick J1 (gd j 9) cF) fun L2 w=>cond L2 (bin Q .sub 3 false true u (ci 1) (fun L3 w=>(Inv L3 (gd j 0) (gd j 1) (gd j 2) (gd j 3) (gd j 4) (gd j 5) (gd j 6) (gd j 7) (gd j 8) (gd j 9) w)∧((μ L3 (gd j 0) (gd j 1) (gd j 2) (gd j 3) (gd j 4) (gd j 5) (gd j 6) (gd j 7) (gd j 8) (gd j 9) w)<m)) w) (cY K B1 (aD Y5 Z5 K6 W6 X6 u Z6 u7 B7 K7 W7 X7 Y7 Z7 B8 K8 W8 X8 Y8 Z8 l9 n9 u9 B9 K9 W9 X9 Y9 Z9 ia ja ka qa ua (gd j 0) (gd j 1) (gd j 2) (gd j 3) (gd j 4) (gd j 5) (gd j 6) (gd j 7) (gd j 8) (gd j 9) (zV (zV dd 115 [X6,u,J1,J1]) 129 [L2])) w)) w.drew):ji K B1 (aD Y5 Z5 K6 W6 X6 Y6 Z6 u7 B7 K7 W7 X7 Y7 Z7 B8 K8 W8 X8 Y8 Z8 l9 n9 u9 B9 K9 W9 X9 Y9 Z9 ia ja ka qa ua xa ya Aa Ba Ca Da Ea Fa Ga Ha zf) w:=by
 refine aL (cd f195 (b1 261896)) (zr [(11,1),(115,17)]) (by kernel_rfl) (vP [11,119,120,121,122,123,124,125,126,127,128] Inv) (vQ [11,119,120,121,122,123,124,125,126,127,128] μ) h0 ?_;intro e' w' hI;have h:=hs _ _ _ _ _ _ _ _ _ _ _ (zM zf (fun i=>gd e' i) (zr [(11,1),(115,17)])) w' _ hI rfl;revert h;generalize (bc K)=qc0;generalize (cY K B1)=qc1;exact mpF
theorem tL (h:bin Q .gtr 3 false false X6 Y6 (fun L4 w=>cond L4 (bc K (aD Y5 Z5 K6 W6 X6 Y6 Z6 u7 B7 K7 W7 X7 Y7 Z7 B8 K8 W8 X8 Y8 Z8 l9 n9 u9 B9 K9 W9 X9 Y9 Z9 ia ja ka qa ua xa ya Aa Ba Ca Da Ea Fa Ga Ha (zV zf 132 [X6,Y6,L4])) w) (aG (fun S w=>hI S 120 Y5 Y6 fun L5=>hL S 31 L5 fun L6=>hI S 120 Y5 X6 fun L7=>hL S 31 L7 fun L8=>hI S 120 Y5 X6 fun L9=>sto Q 31 L9 L6 (fun _=>aG fun S w=>hI S 120 Y5 Y6 fun M0=>sto Q 31 M0 L8 (fun _=>nC X6 fun M1=>bin Q .sub 3 false true Y6 (ci 1) fun M2=>B1 (aD Y5 Z5 K6 W6 M1 M2 Z6 u7 B7 K7 W7 X7 Y7 Z7 B8 K8 W8 X8 Y8 Z8 l9 n9 u9 B9 K9 W9 X9 Y9 Z9 ia ja ka qa ua xa ya Aa Ba Ca Da Ea Fa Ga Ha (zV zf 132 [X6,Y6,L4,Y5,X6,Y5,Y6,Y5,Y6,L5,L6,Y5,X6,L7,L8,L9,M0,X6,M1,Y6,M2]))) w) w) w.drew)) w):cY K B1 (aD Y5 Z5 K6 W6 X6 Y6 Z6 u7 B7 K7 W7 X7 Y7 Z7 B8 K8 W8 X8 Y8 Z8 l9 n9 u9 B9 K9 W9 X9 Y9 Z9 ia ja ka qa ua xa ya Aa Ba Ca Da Ea Fa Ga Ha zf) w:=by
 delta cY;revert h;generalize (bc K)=qc0;exact mpF
theorem tJ (h:aG (fun S w=>hI S 120 Y5 Z5 fun M3=>hL S 31 M3 fun M4=>hI S 120 Y5 Y6 fun M5=>hL S 31 M5 fun M6=>hI S 120 Y5 Y6 fun M7=>sto Q 31 M7 M4 (fun _=>aG fun S w=>hI S 120 Y5 Z5 fun M8=>sto Q 31 M8 M6 (fun _=>K (Value.tuple #[Y6,cF])) w) w) w.drew):bc K (aD Y5 Z5 K6 W6 X6 Y6 Z6 u7 B7 K7 W7 X7 Y7 Z7 B8 K8 W8 X8 Y8 Z8 l9 n9 u9 B9 K9 W9 X9 Y9 Z9 ia ja ka qa ua xa ya Aa Ba Ca Da Ea Fa Ga Ha zf) w:=by
 delta bc;exact mpK h
attribute [irreducible] cS jf cU jg gN bc jh cW gO cY ji
theorem qJ (h:lN 120 Y5 (fun A0=>conv Q 3 196 A0 fun A2=>call Q 91 #[A2] fun A3=>call Q 159 #[Y5,ci 0,A0,A3] fun _=>K (Value.tuple #[])) w):Gives Q 123 #[Y5] w K:=by
 refine aB func123 (by kernel_rfl) ?_;exact mpK h
def ah (aJ a1 b2 bV a5 cj aR bL cK eF dV aF D4 E4 E9 F1 F2 F3 F6 F7 F8 F9 G0 G1 G2 G3 G4 G5 G6:Value)(zf:Nat→Value):List Value:=aJ::a1::b2::bV::zf 4::a5::zf 6::zf 7::cj::aR::bL::cK::eF::zf 13::dV::aF::zT zf 16 19 (D4::zT zf 36 14 (E4::zT zf 51 12 (E9::zf 64::zf 65::F1::F2::F3::zT zf 69 7 (F6::F7::F8::F9::G0::G1::G2::G3::G4::G5::G6::zT zf 87 47 ([])))))
def mA (K:KV):KE:=ae Q (cd f159 [1,1,0]) (rk f159 K) (xx xf (rk f159 K) 0) (rk f159 K)
def dt (K:KV)(B1:KE):KE:=ae Q (cd f159 (b1 911)) B1 (xx (xx xf (rk f159 K) 0) B1 1) (rk f159 K)
def jQ (K:KV)(B1:KE):KE:=ae Q (cd f159 (b1 1821)) (dt K B1) (xx (xx xf (rk f159 K) 0) B1 1) (rk f159 K)
def du (K:KV)(B1:KE):KE:=ae Q (cd f159 (b1 3647)) B1 (xx (xx xf (rk f159 K) 0) B1 1) (rk f159 K)
def jR (K:KV)(B1:KE):KE:=ae Q (cd f159 (b1 7293)) (du K B1) (xx (xx xf (rk f159 K) 0) B1 1) (rk f159 K)
def dv (K:KV)(B1:KE):KE:=ae Q (cd f159 (b1 7295)) B1 (xx (xx xf (rk f159 K) 0) B1 1) (rk f159 K)
def hJ (K:KV)(B1:KE):KE:=ae Q (cd f159 (b1 14589)) (dv K B1) (xx (xx xf (rk f159 K) 0) B1 1) (rk f159 K)
def hU (K:KV)(B1:KE):KE:=ae Q (cd f159 (b1 29183)) B1 (xx (xx xf (rk f159 K) 0) B1 1) (rk f159 K)
section
variable {K:KV}{aJ a1 b2 bV a5 cj aR bL cK eF dV aF D4 E4 E9 F1 F2 F3 F6 F7 F8 F9 G0 G1 G2 G3 G4 G5 G6:Value}{zf:Nat→Value}{w:World}
theorem vK (h:ae Q (cd f159 [1,1,0]) (rk f159 K) (fun i=>@Bool.rec (fun _=>KE) ((fun _ _ _=>False) i) (rk f159 K) (Nat.beq i 0)) (rk f159 K) (ah Y5 Z5 K6 W6 uu cT cT uu uu uu uu uu uu uu uu uu uu uu uu uu uu uu uu uu uu uu uu uu uu zu) w):ae Q (cd f159 []) (rk f159 K) xf (rk f159 K) (ah Y5 Z5 K6 W6 uu uu uu uu uu uu uu uu uu uu uu uu uu uu uu uu uu uu uu uu uu uu uu uu uu zu) w:=Eq.mp (by kernel_rfl) h
theorem pf {K:KV}{aJ a1 b2 bV:Value}{w:World}(h:mA K (ah aJ a1 b2 bV uu cT cT uu uu uu uu uu uu uu uu uu uu uu uu uu uu uu uu uu uu uu uu uu uu zu) w):Gives Q 159 #[aJ,a1,b2,bV] w K:=aB func159 (by kernel_rfl) (Eq.mp (congrArg (fun c=>ae Q c (rk f159 K) xf (rk f159 K) (ah aJ a1 b2 bV uu uu uu uu uu uu uu uu uu uu uu uu uu uu uu uu uu uu uu uu uu uu uu uu uu zu) w) (by kernel_rfl:(cd f159 [])=(cd f159 []))) (vK h))
theorem uo (B1:KE)(j:Code)(h:bin Q .sub 3 false false K6 Z5 (fun C3=>bin Q .leq 3 false true C3 (ci 12) fun C5 w=>cond C5 (call Q 187 #[Y5,Z5,K6] (fun _=>K (Value.tuple #[])) w) (bin Q .eql 3 false true W6 (ci 0) (fun D1 w=>cond D1 (call Q 188 #[Y5,Z5,K6] (fun _=>K (Value.tuple #[])) w) (un Q .not Y6 (fun D4=>ae Q j (ae Q (cd f159 (b1 911)) B1 (fun i=>@Bool.rec (fun _=>KE) ((fun i=>@Bool.rec (fun _=>KE) ((fun _ _ _=>False) i) (rk f159 K) (Nat.beq i 0)) i) B1 (Nat.beq i 1)) (rk f159 K)) (fun i=>@Bool.rec (fun _=>KE) ((fun i=>@Bool.rec (fun _=>KE) ((fun _ _ _=>False) i) (rk f159 K) (Nat.beq i 0)) i) B1 (Nat.beq i 1)) (rk f159 K) (ah Y5 Z5 K6 W6 X6 Y6 Z6 C3 (dd 11) (dd 12) (dd 14) (dd 15) D4 (dd 50) u7 B7 K7 (dd 68) W7 X7 Y7 Z7 B8 K8 W8 X8 Y8 Z8 l9 (zV (zV (zV dd 19 [K6,Z5,C3,C3,C5]) 28 [W6,D1]) 34 [Y6]))) w)) w)) w):ae Q (rep (b1 93) j (cd f159 [1,1,0,0])) B1 (xx xf (rk f159 K) 0) (rk f159 K) (ah Y5 Z5 K6 W6 X6 Y6 Z6 (dd 10) (dd 11) (dd 12) (dd 14) (dd 15) (dd 35) (dd 50) u7 B7 K7 (dd 68) W7 X7 Y7 Z7 B8 K8 W8 X8 Y8 Z8 l9 dd) w:=Eq.mp (by kernel_rfl) h
theorem oJ (Inv:vI 19)(μ:vM 19)(h0:Inv a1 b2 bV cj aR E9 F1 F2 F6 F7 F8 F9 G0 G1 G2 G3 G4 G5 G6 w)(hs:∀(J M I u C U aa ad af ag al am an ap ar av az aE aS:Value) (dd:Nat→Value) (w:World) (m:Nat),Inv J M I u C U aa ad af ag al am an ap ar av az aE aS w→m=μ J M I u C U aa ad af ag al am an ap ar av az aE aS w →
  bin Q .sub 3 false false M J (fun C3=>bin Q .leq 3 false true C3 (ci 12) fun C5 w=>cond C5 (call Q 187 #[aJ,J,M] (fun _=>K (Value.tuple #[])) w) (bin Q .eql 3 false true I (ci 0) (fun D1 w=>cond D1 (call Q 188 #[aJ,J,M] (fun _=>K (Value.tuple #[])) w) (un Q .not u (fun D4=>jQ K (fun j O=>(Inv (gd j 1) (gd j 2) (gd j 3) (gd j 8) (gd j 9) (gd j 63) (gd j 66) (gd j 67) (gd j 76) (gd j 77) (gd j 78) (gd j 79) (gd j 80) (gd j 81) (gd j 82) (gd j 83) (gd j 84) (gd j 85) (gd j 86) O)∧((μ (gd j 1) (gd j 2) (gd j 3) (gd j 8) (gd j 9) (gd j 63) (gd j 66) (gd j 67) (gd j 76) (gd j 77) (gd j 78) (gd j 79) (gd j 80) (gd j 81) (gd j 82) (gd j 83) (gd j 84) (gd j 85) (gd j 86) O)<m)) (ah aJ J M I a5 u C C3 (dd 11) (dd 12) (dd 14) (dd 15) D4 (dd 50) U aa ad (dd 68) af ag al am an ap ar av az aE aS (zV (zV (zV dd 19 [M,J,C3,C3,C5]) 28 [I,D1]) 34 [u]))) w)) w)) w):mA K (ah aJ a1 b2 bV a5 cj aR bL cK eF dV aF D4 E4 E9 F1 F2 F3 F6 F7 F8 F9 G0 G1 G2 G3 G4 G5 G6 zf) w:=by
 refine aL (cd f159 [1,1,0,0]) (zr [(1,3),(8,126)]) (by kernel_rfl) (vP [1,2,3,8,9,63,66,67,76,77,78,79,80,81,82,83,84,85,86] Inv) (vQ [1,2,3,8,9,63,66,67,76,77,78,79,80,81,82,83,84,85,86] μ) h0 ?_;intro e' w' hI;have h:=hs _ _ _ _ _ _ _ _ _ _ _ _ _ _ _ _ _ _ _ (zM zf (fun i=>gd e' i) (zr [(1,3),(8,126)])) w' _ hI rfl
 have h2:ae Q (rep (b1 93) (cd f159 (b1 1821)) (cd f159 [1,1,0,0])) (fun j O=>Inv (gd j 1) (gd j 2) (gd j 3) (gd j 8) (gd j 9) (gd j 63) (gd j 66) (gd j 67) (gd j 76) (gd j 77) (gd j 78) (gd j 79) (gd j 80) (gd j 81) (gd j 82) (gd j 83) (gd j 84) (gd j 85) (gd j 86) O∧μ (gd j 1) (gd j 2) (gd j 3) (gd j 8) (gd j 9) (gd j 63) (gd j 66) (gd j 67) (gd j 76) (gd j 77) (gd j 78) (gd j 79) (gd j 80) (gd j 81) (gd j 82) (gd j 83) (gd j 84) (gd j 85) (gd j 86) O<μ (gd e' 1) (gd e' 2) (gd e' 3) (gd e' 8) (gd e' 9) (gd e' 63) (gd e' 66) (gd e' 67) (gd e' 76) (gd e' 77) (gd e' 78) (gd e' 79) (gd e' 80) (gd e' 81) (gd e' 82) (gd e' 83) (gd e' 84) (gd e' 85) (gd e' 86) w') (xx xf (rk f159 K) 0) (rk f159 K) (ah aJ (gd e' 1) (gd e' 2) (gd e' 3) a5 (gd e' 8) (gd e' 9) (gd e' 10) (gd e' 11) (gd e' 12) (gd e' 14) (gd e' 15) (gd e' 35) (gd e' 50) (gd e' 63) (gd e' 66) (gd e' 67) (gd e' 68) (gd e' 76) (gd e' 77) (gd e' 78) (gd e' 79) (gd e' 80) (gd e' 81) (gd e' 82) (gd e' 83) (gd e' 84) (gd e' 85) (gd e' 86) (zM zf (fun i=>gd e' i) (zr [(1,3),(8,126)]))) w':=uo (fun j O=>Inv (gd j 1) (gd j 2) (gd j 3) (gd j 8) (gd j 9) (gd j 63) (gd j 66) (gd j 67) (gd j 76) (gd j 77) (gd j 78) (gd j 79) (gd j 80) (gd j 81) (gd j 82) (gd j 83) (gd j 84) (gd j 85) (gd j 86) O∧μ (gd j 1) (gd j 2) (gd j 3) (gd j 8) (gd j 9) (gd j 63) (gd j 66) (gd j 67) (gd j 76) (gd j 77) (gd j 78) (gd j 79) (gd j 80) (gd j 81) (gd j 82) (gd j 83) (gd j 84) (gd j 85) (gd j 86) O<μ (gd e' 1) (gd e' 2) (gd e' 3) (gd e' 8) (gd e' 9) (gd e' 63) (gd e' 66) (gd e' 67) (gd e' 76) (gd e' 77) (gd e' 78) (gd e' 79) (gd e' 80) (gd e' 81) (gd e' 82) (gd e' 83) (gd e' 84) (gd e' 85) (gd e' 86) w') (cd f159 (b1 1821)) (Eq.mp (by kernel_rfl) h)
 exact Eq.mp (by kernel_rfl) h2
theorem uf (B1:KE)(j:KE)(h:cond Y7 (call Q 189 #[Y5,Z5,K6] (fun D6=>bin Q .sub 3 false true W6 (ci 1) fun D8=>j (ah Y5 Z5 K6 D8 X6 Y6 Z6 u7 B7 K7 W7 X7 Y7 Z7 B8 K8 W8 X8 Y8 Z8 l9 n9 u9 B9 K9 W9 X9 Y9 Z9 (zV zf 36 [Y5,Z5,K6,D6,W6,D8]))) w) (j (ah Y5 Z5 K6 W6 X6 Y6 Z6 u7 B7 K7 W7 X7 Y7 Z7 B8 K8 W8 X8 Y8 Z8 l9 n9 u9 B9 K9 W9 X9 Y9 Z9 zf) w)):ae Q (cd f159 (b1 1821)) j (xx (xx xf (rk f159 K) 0) B1 1) (rk f159 K) (ah Y5 Z5 K6 W6 X6 Y6 Z6 u7 B7 K7 W7 X7 Y7 Z7 B8 K8 W8 X8 Y8 Z8 l9 n9 u9 B9 K9 W9 X9 Y9 Z9 zf) w:=Eq.mp (by kernel_rfl) h
theorem ug {B1:KE}(h:cond D4 (call Q 189 #[aJ,a1,b2] (fun D6=>bin Q .sub 3 false true bV (ci 1) fun D8=>dt K B1 (ah aJ a1 b2 D8 a5 cj aR bL cK eF dV aF D4 E4 E9 F1 F2 F3 F6 F7 F8 F9 G0 G1 G2 G3 G4 G5 G6 (zV zf 36 [aJ,a1,b2,D6,bV,D8]))) w) (dt K B1 (ah aJ a1 b2 bV a5 cj aR bL cK eF dV aF D4 E4 E9 F1 F2 F3 F6 F7 F8 F9 G0 G1 G2 G3 G4 G5 G6 zf) w)):jQ K B1 (ah aJ a1 b2 bV a5 cj aR bL cK eF dV aF D4 E4 E9 F1 F2 F3 F6 F7 F8 F9 G0 G1 G2 G3 G4 G5 G6 zf) w:=by
 delta jQ
 exact Eq.mp (congrArg (fun c=>ae Q c (dt K B1) (xx (xx xf (rk f159 K) 0) B1 1) (rk f159 K) (ah aJ a1 b2 bV a5 cj aR bL cK eF dV aF D4 E4 E9 F1 F2 F3 F6 F7 F8 F9 G0 G1 G2 G3 G4 G5 G6 zf) w) (by kernel_rfl:(cd f159 (b1 1821))=(cd f159 (b1 1821)))) (uf B1 (dt K B1) h)
theorem ur (B1:KE)(j:Code)(h:call Q 190 #[Y5,Z5,K6] (fun E1=>ext Q E1 0 fun E2=>ext Q E1 1 fun E3=>bin Q .eql 222 false true E3 (ci 2) fun Z7=>ae Q j (ae Q (cd f159 (b1 3647)) B1 (fun i=>@Bool.rec (fun _=>KE) ((fun i=>@Bool.rec (fun _=>KE) ((fun _ _ _=>False) i) (rk f159 K) (Nat.beq i 0)) i) B1 (Nat.beq i 1)) (rk f159 K)) (fun i=>@Bool.rec (fun _=>KE) ((fun i=>@Bool.rec (fun _=>KE) ((fun _ _ _=>False) i) (rk f159 K) (Nat.beq i 0)) i) B1 (Nat.beq i 1)) (rk f159 K) (ah Y5 Z5 K6 W6 X6 Y6 Z6 u7 E2 E3 W7 X7 Y7 Z7 B8 K8 W8 X8 Y8 Z8 l9 n9 u9 B9 K9 W9 X9 Y9 Z9 (zV zf 42 [E1,Y5,Z5,K6,E1,E2,E3,E3]))) w):ae Q (rep [1,0,1] j (cd f159 (b1 911))) B1 (xx (xx xf (rk f159 K) 0) B1 1) (rk f159 K) (ah Y5 Z5 K6 W6 X6 Y6 Z6 u7 B7 K7 W7 X7 Y7 Z7 B8 K8 W8 X8 Y8 Z8 l9 n9 u9 B9 K9 W9 X9 Y9 Z9 zf) w:=Eq.mp (by kernel_rfl) h
theorem ut {B1:KE}(h:call Q 190 #[aJ,a1,b2] (fun E1=>ext Q E1 0 fun E2=>ext Q E1 1 fun E3=>bin Q .eql 222 false true E3 (ci 2) fun E4=>jR K B1 (ah aJ a1 b2 bV a5 cj aR bL E2 E3 dV aF D4 E4 E9 F1 F2 F3 F6 F7 F8 F9 G0 G1 G2 G3 G4 G5 G6 (zV zf 42 [E1,aJ,a1,b2,E1,E2,E3,E3]))) w):dt K B1 (ah aJ a1 b2 bV a5 cj aR bL cK eF dV aF D4 E4 E9 F1 F2 F3 F6 F7 F8 F9 G0 G1 G2 G3 G4 G5 G6 zf) w:=by
 delta dt
 exact Eq.mp (congrArg (fun c=>ae Q c B1 (xx (xx xf (rk f159 K) 0) B1 1) (rk f159 K) (ah aJ a1 b2 bV a5 cj aR bL cK eF dV aF D4 E4 E9 F1 F2 F3 F6 F7 F8 F9 G0 G1 G2 G3 G4 G5 G6 zf) w) (by kernel_rfl:(rep [1,0,1] (cd f159 (b1 7293)) (cd f159 (b1 911)))=(cd f159 (b1 911)))) (ur B1 (cd f159 (b1 7293)) h)
theorem uh (B1:KE)(j:KE)(h:cond Z7 (call Q 191 #[Y5,Z5,K6] (fun E5=>bin Q .sub 3 false true K6 (ci 1) fun E6=>bin Q .sub 3 false false B7 Z5 fun E7=>bin Q .sub 3 false false E6 E7 fun E8=>j (ah Y5 Z5 K6 W6 X6 Y6 Z6 u7 E8 (ci 1) W7 X7 Y7 Z7 B8 K8 W8 X8 Y8 Z8 l9 n9 u9 B9 K9 W9 X9 Y9 Z9 (zV zf 51 [Y5,Z5,K6,E5,K6,E6,B7,Z5,E7,E8]))) w) (j (ah Y5 Z5 K6 W6 X6 Y6 Z6 u7 B7 K7 W7 X7 Y7 Z7 B8 K8 W8 X8 Y8 Z8 l9 n9 u9 B9 K9 W9 X9 Y9 Z9 zf) w)):ae Q (cd f159 (b1 7293)) j (xx (xx xf (rk f159 K) 0) B1 1) (rk f159 K) (ah Y5 Z5 K6 W6 X6 Y6 Z6 u7 B7 K7 W7 X7 Y7 Z7 B8 K8 W8 X8 Y8 Z8 l9 n9 u9 B9 K9 W9 X9 Y9 Z9 zf) w:=Eq.mp (by kernel_rfl) h
theorem ui {B1:KE}(h:cond E4 (call Q 191 #[aJ,a1,b2] (fun E5=>bin Q .sub 3 false true b2 (ci 1) fun E6=>bin Q .sub 3 false false cK a1 fun E7=>bin Q .sub 3 false false E6 E7 fun E8=>du K B1 (ah aJ a1 b2 bV a5 cj aR bL E8 (ci 1) dV aF D4 E4 E9 F1 F2 F3 F6 F7 F8 F9 G0 G1 G2 G3 G4 G5 G6 (zV zf 51 [aJ,a1,b2,E5,b2,E6,cK,a1,E7,E8]))) w) (du K B1 (ah aJ a1 b2 bV a5 cj aR bL cK eF dV aF D4 E4 E9 F1 F2 F3 F6 F7 F8 F9 G0 G1 G2 G3 G4 G5 G6 zf) w)):jR K B1 (ah aJ a1 b2 bV a5 cj aR bL cK eF dV aF D4 E4 E9 F1 F2 F3 F6 F7 F8 F9 G0 G1 G2 G3 G4 G5 G6 zf) w:=by
 delta jR
 exact Eq.mp (congrArg (fun c=>ae Q c (du K B1) (xx (xx xf (rk f159 K) 0) B1 1) (rk f159 K) (ah aJ a1 b2 bV a5 cj aR bL cK eF dV aF D4 E4 E9 F1 F2 F3 F6 F7 F8 F9 G0 G1 G2 G3 G4 G5 G6 zf) w) (by kernel_rfl:(cd f159 (b1 7293))=(cd f159 (b1 7293)))) (uh B1 (du K B1) h)
theorem uw (B1:KE)(C:Code)(h:aI Y6 true (fun I=>I [Z6] w) (fun k=>k [uu] w) fun u=>pick Y6 (gd u 0) cF fun F0 w=>aI F0 true (fun J=>bin Q .eql 222 false true K7 (ci 1) (fun W8=>J [K7,W8]) w) (fun k=>k [uu,uu] w) fun j=>pick F0 (gd j 1) cF fun X8=>ae Q C (ae Q (cd f159 (b1 7295)) B1 (fun i=>@Bool.rec (fun _=>KE) ((fun i=>@Bool.rec (fun _=>KE) ((fun _ _ _=>False) i) (rk f159 K) (Nat.beq i 0)) i) B1 (Nat.beq i 1)) (rk f159 K)) (fun i=>@Bool.rec (fun _=>KE) ((fun i=>@Bool.rec (fun _=>KE) ((fun _ _ _=>False) i) (rk f159 K) (Nat.beq i 0)) i) B1 (Nat.beq i 1)) (rk f159 K) (ah Y5 Z5 K6 W6 X6 Y6 Z6 u7 B7 K7 W7 X7 Y7 Z7 (gd u 0) (gd j 0) (gd j 1) X8 Y8 Z8 l9 n9 u9 B9 K9 W9 X9 Y9 Z9 (zV (zV zf 61 [Y6,Y6]) 64 [F0,F0]))):ae Q (rep [0,1] C (cd f159 (b1 3647))) B1 (xx (xx xf (rk f159 K) 0) B1 1) (rk f159 K) (ah Y5 Z5 K6 W6 X6 Y6 Z6 u7 B7 K7 W7 X7 Y7 Z7 B8 K8 W8 X8 Y8 Z8 l9 n9 u9 B9 K9 W9 X9 Y9 Z9 zf) w:=Eq.mp (by kernel_rfl) h
theorem ux {B1:KE}(h:aI cj true (fun k63=>k63 [aR] w) (fun k=>k [uu] w) fun us63=>pick cj (gd us63 0) cF fun F0 w=>aI F0 true (fun k66=>bin Q .eql 222 false true eF (ci 1) (fun F2=>k66 [eF,F2]) w) (fun k=>k [uu,uu] w) fun us66=>pick F0 (gd us66 1) cF fun F3=>hJ K B1 (ah aJ a1 b2 bV a5 cj aR bL cK eF dV aF D4 E4 (gd us63 0) (gd us66 0) (gd us66 1) F3 F6 F7 F8 F9 G0 G1 G2 G3 G4 G5 G6 (zV (zV zf 61 [cj,cj]) 64 [F0,F0]))):du K B1 (ah aJ a1 b2 bV a5 cj aR bL cK eF dV aF D4 E4 E9 F1 F2 F3 F6 F7 F8 F9 G0 G1 G2 G3 G4 G5 G6 zf) w:=by
 delta du
 exact Eq.mp (congrArg (fun c=>ae Q c B1 (xx (xx xf (rk f159 K) 0) B1 1) (rk f159 K) (ah aJ a1 b2 bV a5 cj aR bL cK eF dV aF D4 E4 E9 F1 F2 F3 F6 F7 F8 F9 G0 G1 G2 G3 G4 G5 G6 zf) w) (by kernel_rfl:(rep [0,1] (cd f159 (b1 14589)) (cd f159 (b1 3647)))=(cd f159 (b1 3647)))) (uw B1 (cd f159 (b1 14589)) h)
theorem uj (B1:KE)(j:KE)(h:cond X8 (call Q 192 #[Y5,Z5,K6] (fun F4 w=>cond F4 (K (Value.tuple #[]) w) (j (ah Y5 Z5 K6 W6 X6 Y6 Z6 u7 B7 K7 W7 X7 Y7 Z7 B8 K8 W8 X8 Y8 Z8 l9 n9 u9 B9 K9 W9 X9 Y9 Z9 (zV zf 69 [Y5,Z5,K6,F4])) w)) w) (j (ah Y5 Z5 K6 W6 X6 Y6 Z6 u7 B7 K7 W7 X7 Y7 Z7 B8 K8 W8 X8 Y8 Z8 l9 n9 u9 B9 K9 W9 X9 Y9 Z9 zf) w)):ae Q (cd f159 (b1 14589)) j (xx (xx xf (rk f159 K) 0) B1 1) (rk f159 K) (ah Y5 Z5 K6 W6 X6 Y6 Z6 u7 B7 K7 W7 X7 Y7 Z7 B8 K8 W8 X8 Y8 Z8 l9 n9 u9 B9 K9 W9 X9 Y9 Z9 zf) w:=Eq.mp (by kernel_rfl) h
theorem uk {B1:KE}(h:cond F3 (call Q 192 #[aJ,a1,b2] (fun F4 w=>cond F4 (K (Value.tuple #[]) w) (dv K B1 (ah aJ a1 b2 bV a5 cj aR bL cK eF dV aF D4 E4 E9 F1 F2 F3 F6 F7 F8 F9 G0 G1 G2 G3 G4 G5 G6 (zV zf 69 [aJ,a1,b2,F4])) w)) w) (dv K B1 (ah aJ a1 b2 bV a5 cj aR bL cK eF dV aF D4 E4 E9 F1 F2 F3 F6 F7 F8 F9 G0 G1 G2 G3 G4 G5 G6 zf) w)):hJ K B1 (ah aJ a1 b2 bV a5 cj aR bL cK eF dV aF D4 E4 E9 F1 F2 F3 F6 F7 F8 F9 G0 G1 G2 G3 G4 G5 G6 zf) w:=by
 delta hJ
 exact Eq.mp (congrArg (fun c=>ae Q c (dv K B1) (xx (xx xf (rk f159 K) 0) B1 1) (rk f159 K) (ah aJ a1 b2 bV a5 cj aR bL cK eF dV aF D4 E4 E9 F1 F2 F3 F6 F7 F8 F9 G0 G1 G2 G3 G4 G5 G6 zf) w) (by kernel_rfl:(cd f159 (b1 14589))=(cd f159 (b1 14589)))) (uj B1 (dv K B1) h)
theorem uy (B1:KE)(u:Code)(h:sti (bin Q .gtr 3 false true Z5 (ci 0)) (fun F5 w=>aI F5 true (fun C=>sti (bin Q .sub 3 false true Z5 (ci 1)) (fun l9=>sI 120 Y5 l9 fun n9=>sL 31 n9 fun u9=>sI 120 Y5 B7 fun W9=>sL 31 W9 fun X9=>sti (call Q 193 #[u9,X9]) fun Y9=>sti (un Q .not Y9) fun Z9=>C [Y5,Z5,l9,n9,u9,Y5,B7,W9,X9,Y9,Z9]) w) (fun k=>k [uu,uu,uu,uu,uu,uu,uu,uu,uu,uu,uu] w) fun j=>sti (pick F5 (gd j 10) cF) fun G7 w=>cond G7 (call Q 194 #[Y5,Z5,K6,B7] (fun G8=>B1 (ah Y5 G8 K6 W6 X6 Y6 Z6 u7 B7 K7 W7 X7 Y7 Z7 B8 K8 W8 X8 (gd j 0) (gd j 1) (gd j 2) (gd j 3) (gd j 4) (gd j 5) (gd j 6) (gd j 7) (gd j 8) (gd j 9) (gd j 10) (zV (zV (zV zf 13 [G8]) 73 [Z5,F5,F5]) 87 [G7,Y5,Z5,K6,B7,G8,G8]))) w) (call Q 195 #[Y5,Z5,K6,B7] (fun G9=>ext Q G9 0 fun H0=>ext Q G9 1 fun H1=>ae Q u B1 (fun i=>@Bool.rec (fun _=>KE) ((fun i=>@Bool.rec (fun _=>KE) ((fun _ _ _=>False) i) (rk f159 K) (Nat.beq i 0)) i) B1 (Nat.beq i 1)) (rk f159 K) (ah Y5 Z5 K6 W6 X6 Y6 Z6 u7 B7 K7 H0 H1 Y7 Z7 B8 K8 W8 X8 (gd j 0) (gd j 1) (gd j 2) (gd j 3) (gd j 4) (gd j 5) (gd j 6) (gd j 7) (gd j 8) (gd j 9) (gd j 10) (zV (zV (zV zf 73 [Z5,F5,F5]) 87 [G7]) 94 [G9,Y5,Z5,K6,B7,G9,H0,H1]))) w)) w.drew):ae Q (rep [1,1] u (cd f159 (b1 7295))) B1 (xx (xx xf (rk f159 K) 0) B1 1) (rk f159 K) (ah Y5 Z5 K6 W6 X6 Y6 Z6 u7 B7 K7 W7 X7 Y7 Z7 B8 K8 W8 X8 Y8 Z8 l9 n9 u9 B9 K9 W9 X9 Y9 Z9 zf) w:=Eq.mp (by kernel_rfl) h
theorem uz {B1:KE}(h:sti (bin Q .gtr 3 false true a1 (ci 0)) (fun F5 w=>aI F5 true (fun k76=>sti (bin Q .sub 3 false true a1 (ci 1)) (fun F8=>sI 120 aJ F8 fun F9=>sL 31 F9 fun G0=>sI 120 aJ cK fun G3=>sL 31 G3 fun G4=>sti (call Q 193 #[G0,G4]) fun G5=>sti (un Q .not G5) fun G6=>k76 [aJ,a1,F8,F9,G0,aJ,cK,G3,G4,G5,G6]) w) (fun k=>k [uu,uu,uu,uu,uu,uu,uu,uu,uu,uu,uu] w) fun us76=>sti (pick F5 (gd us76 10) cF) fun G7 w=>cond G7 (call Q 194 #[aJ,a1,b2,cK] (fun G8=>B1 (ah aJ G8 b2 bV a5 cj aR bL cK eF dV aF D4 E4 E9 F1 F2 F3 (gd us76 0) (gd us76 1) (gd us76 2) (gd us76 3) (gd us76 4) (gd us76 5) (gd us76 6) (gd us76 7) (gd us76 8) (gd us76 9) (gd us76 10) (zV (zV (zV zf 13 [G8]) 73 [a1,F5,F5]) 87 [G7,aJ,a1,b2,cK,G8,G8]))) w) (call Q 195 #[aJ,a1,b2,cK] (fun G9=>ext Q G9 0 fun H0=>ext Q G9 1 fun H1=>hU K B1 (ah aJ a1 b2 bV a5 cj aR bL cK eF H0 H1 D4 E4 E9 F1 F2 F3 (gd us76 0) (gd us76 1) (gd us76 2) (gd us76 3) (gd us76 4) (gd us76 5) (gd us76 6) (gd us76 7) (gd us76 8) (gd us76 9) (gd us76 10) (zV (zV (zV zf 73 [a1,F5,F5]) 87 [G7]) 94 [G9,aJ,a1,b2,cK,G9,H0,H1]))) w)) w.drew):dv K B1 (ah aJ a1 b2 bV a5 cj aR bL cK eF dV aF D4 E4 E9 F1 F2 F3 F6 F7 F8 F9 G0 G1 G2 G3 G4 G5 G6 zf) w:=by
 delta dv
 exact Eq.mp (congrArg (fun c=>ae Q c B1 (xx (xx xf (rk f159 K) 0) B1 1) (rk f159 K) (ah aJ a1 b2 bV a5 cj aR bL cK eF dV aF D4 E4 E9 F1 F2 F3 F6 F7 F8 F9 G0 G1 G2 G3 G4 G5 G6 zf) w) (by kernel_rfl:(rep [1,1] (cd f159 (b1 29183)) (cd f159 (b1 7295)))=(cd f159 (b1 7295)))) (uy B1 (cd f159 (b1 29183)) h)
theorem ul (B1:KE)(h:bin Q .sub 3 false false W7 Z5 (fun H2=>bin Q .sub 3 false false K6 W7 fun H3=>bin Q .quo 3 false true u7 (ci 8) fun H4=>lS H2 H3 fun H5 w=>cond H5 (bin Q .geq 3 false false H2 H4 (fun H6=>call Q 159 #[Y5,Z5,W7,W6] fun H7=>nC W7 fun H8=>B1 (ah Y5 H8 K6 W6 X6 H6 X7 u7 B7 K7 W7 X7 Y7 Z7 B8 K8 W8 X8 Y8 Z8 l9 n9 u9 B9 K9 W9 X9 Y9 Z9 (zV (zV zf 16 [H2,H3,H4]) 102 [X7,W7,Z5,H2,K6,W7,H3,u7,H4,H2,H3,H5,H2,H4,H6,Y5,Z5,W7,W6,H7,W7,H8]))) w) (bin Q .geq 3 false false H3 H4 (fun H9=>nC W7 fun I0=>call Q 159 #[Y5,I0,K6,W6] fun I1=>B1 (ah Y5 Z5 W7 W6 X6 H9 X7 u7 B7 K7 W7 X7 Y7 Z7 B8 K8 W8 X8 Y8 Z8 l9 n9 u9 B9 K9 W9 X9 Y9 Z9 (zV (zV (zV zf 16 [H2,H3,H4]) 102 [X7,W7,Z5,H2,K6,W7,H3,u7,H4,H2,H3,H5]) 124 [H3,H4,H9,Y5,W7,I0,K6,W6,I1,W7]))) w)) w):ae Q (cd f159 (b1 29183)) B1 (xx (xx xf (rk f159 K) 0) B1 1) (rk f159 K) (ah Y5 Z5 K6 W6 X6 Y6 Z6 u7 B7 K7 W7 X7 Y7 Z7 B8 K8 W8 X8 Y8 Z8 l9 n9 u9 B9 K9 W9 X9 Y9 Z9 zf) w:=Eq.mp (by kernel_rfl) h
theorem um {B1:KE}(h:bin Q .sub 3 false false dV a1 (fun H2=>bin Q .sub 3 false false b2 dV fun H3=>bin Q .quo 3 false true bL (ci 8) fun H4=>lS H2 H3 fun H5 w=>cond H5 (bin Q .geq 3 false false H2 H4 (fun H6=>call Q 159 #[aJ,a1,dV,bV] fun H7=>nC dV fun H8=>B1 (ah aJ H8 b2 bV a5 H6 aF bL cK eF dV aF D4 E4 E9 F1 F2 F3 F6 F7 F8 F9 G0 G1 G2 G3 G4 G5 G6 (zV (zV zf 16 [H2,H3,H4]) 102 [aF,dV,a1,H2,b2,dV,H3,bL,H4,H2,H3,H5,H2,H4,H6,aJ,a1,dV,bV,H7,dV,H8]))) w) (bin Q .geq 3 false false H3 H4 (fun H9=>nC dV fun I0=>call Q 159 #[aJ,I0,b2,bV] fun I1=>B1 (ah aJ a1 dV bV a5 H9 aF bL cK eF dV aF D4 E4 E9 F1 F2 F3 F6 F7 F8 F9 G0 G1 G2 G3 G4 G5 G6 (zV (zV (zV zf 16 [H2,H3,H4]) 102 [aF,dV,a1,H2,b2,dV,H3,bL,H4,H2,H3,H5]) 124 [H3,H4,H9,aJ,dV,I0,b2,bV,I1,dV]))) w)) w):hU K B1 (ah aJ a1 b2 bV a5 cj aR bL cK eF dV aF D4 E4 E9 F1 F2 F3 F6 F7 F8 F9 G0 G1 G2 G3 G4 G5 G6 zf) w:=by
 delta hU
 exact Eq.mp (congrArg (fun c=>ae Q c B1 (xx (xx xf (rk f159 K) 0) B1 1) (rk f159 K) (ah aJ a1 b2 bV a5 cj aR bL cK eF dV aF D4 E4 E9 F1 F2 F3 F6 F7 F8 F9 G0 G1 G2 G3 G4 G5 G6 zf) w) (by kernel_rfl:(cd f159 (b1 29183))=(cd f159 (b1 29183)))) (ul B1 h)
end
attribute [irreducible] mA dt jQ du jR dv hJ hU
theorem Az (h:cond cF (conv Q 196 230 Y5 (fun A0=>call Q 132 #[A0] K) w) (call Q 133 #[Y5] K w)):Gives Q 91 #[Y5] w K:=by
 refine aB func91 (by kernel_rfl) ?_;exact mpK h
def dG (aJ a1 b2 i6 j7 C2 C3 C4 C5 C6 C7 C8 C9 D0 D1:Value)(zf:Nat→Value):List Value:=aJ::a1::b2::zT zf 3 3 (i6::j7::zT zf 8 12 (C2::C3::C4::C5::C6::C7::C8::C9::D0::D1::zT zf 30 19 ([])))
def fu (K:KV):KE:=ae Q (cd f187 [1,0]) (rk f187 K) (xx xf (rk f187 K) 0) (rk f187 K)
def cE (K:KV)(B1:KE):KE:=ae Q (cd f187 (b1 51)) B1 (xx xf (rk f187 K) 0) (rk f187 K)
def ib (K:KV)(B1:KE):KE:=ae Q (cd f187 (b1 402)) (cE K B1) (xx (xx (xx xf (rk f187 K) 0) (cE K B1) 1) (cE K B1) 2) (rk f187 K)
theorem nE (h:nC Z5 (fun A3=>fu K (dG Y5 Z5 K6 A3 uu uu uu uu uu uu uu uu uu uu uu (zV zu 8 [Z5,A3]))) w):Gives Q 187 #[Y5,Z5,K6] w K:=by
 refine aB func187 (by kernel_rfl) ?_;revert h;delta fu;exact mpF
theorem mU (Inv:vI 11)(μ:vM 11)(h0:Inv W6 Y6 Z6 u7 B7 K7 W7 X7 Y7 Z7 B8 w)(hs:∀(u C I J M O U aa ad af ag:Value) (dd:Nat→Value) (w:World) (m:Nat),Inv u C I J M O U aa ad af ag w→m=μ u C I J M O U aa ad af ag w →
  lS u K6 (fun A6 w=>cond A6 (ib K (fun j w2=>(Inv (gd j 6) (gd j 20) (gd j 21) (gd j 22) (gd j 23) (gd j 24) (gd j 25) (gd j 26) (gd j 27) (gd j 28) (gd j 29) w2)∧((μ (gd j 6) (gd j 20) (gd j 21) (gd j 22) (gd j 23) (gd j 24) (gd j 25) (gd j 26) (gd j 27) (gd j 28) (gd j 29) w2)<m)) (dG Y5 Z5 K6 u u C I J M O U aa ad af ag (zV (zV dd 10 [u,K6,A6]) 15 [u])) w) (K (Value.tuple #[]) w)) w):fu K (dG Y5 Z5 K6 W6 X6 Y6 Z6 u7 B7 K7 W7 X7 Y7 Z7 B8 zf) w:=by
 refine aL (cd f187 [1,0,0]) (zr [(6,2),(10,39)]) (by kernel_rfl) (vP [6,20,21,22,23,24,25,26,27,28,29] Inv) (vQ [6,20,21,22,23,24,25,26,27,28,29] μ) h0 ?_;intro e' w' hI;have h:=hs _ _ _ _ _ _ _ _ _ _ _ (zM zf (fun i=>gd e' i) (zr [(6,2),(10,39)])) w' _ hI rfl;revert h;delta ib cE;exact mpF
theorem rH (Inv:vI 11)(μ:vM 11)(h0:Inv X6 Y6 Z6 u7 B7 K7 W7 X7 Y7 Z7 B8 w)(hs:∀(u I J M O U aa ad af ag al:Value) (dd:Nat→Value) (w:World) (m:Nat),Inv u I J M O U aa ad af ag al w→m=μ u I J M O U aa ad af ag al w →
  sti (bin Q .gtr 3 false false u Z5) (fun C1 w=>aI C1 true (fun am=>sI 120 Y5 u (fun u7=>sL 31 u7 fun B7=>sti (bin Q .sub 3 false true u (ci 1)) fun X7=>sI 120 Y5 X7 fun Y7=>sL 31 Y7 fun Z7=>sti (call Q 193 #[B7,Z7]) fun B8=>am [Y5,u,u7,B7,Y5,u,X7,Y7,Z7,B8]) w) (fun k=>k [uu,uu,uu,uu,uu,uu,uu,uu,uu,uu] w) fun j=>sti (pick C1 (gd j 9) cF) fun D2 w=>cond D2 (aG (fun S w=>hld (fun _=>True) (bin Q .sub 3 false true u (ci 1)) fun D5=>hld (fun _=>True) (bin Q .sub 3 false true u (ci 1)) fun D7=>hI S 120 Y5 D7 fun D8=>hL S 31 D8 fun D9=>hI S 120 Y5 u fun E0=>hL S 31 E0 fun E1=>hI S 120 Y5 u fun E2=>sto Q 31 E2 D9 (fun _=>aG fun S w=>hI S 120 Y5 D5 fun E3=>sto Q 31 E3 E1 (fun _=>bin Q .sub 3 false true u (ci 1) fun D3 w=>(Inv D3 (gd j 0) (gd j 1) (gd j 2) (gd j 3) (gd j 4) (gd j 5) (gd j 6) (gd j 7) (gd j 8) (gd j 9) w)∧((μ D3 (gd j 0) (gd j 1) (gd j 2) (gd j 3) (gd j 4) (gd j 5) (gd j 6) (gd j 7) (gd j 8) (gd j 9) w)<m)) w) w) w.drew) (cE K B1 (dG Y5 Z5 K6 W6 u (gd j 0) (gd j 1) (gd j 2) (gd j 3) (gd j 4) (gd j 5) (gd j 6) (gd j 7) (gd j 8) (gd j 9) (zV (zV dd 16 [u,Z5,C1,C1]) 30 [D2])) w)) w.drew):ib K B1 (dG Y5 Z5 K6 W6 X6 Y6 Z6 u7 B7 K7 W7 X7 Y7 Z7 B8 zf) w:=by
 refine aL (cd f187 (b1 804)) (zr [(7,1),(16,33)]) (by kernel_rfl) (vP [7,20,21,22,23,24,25,26,27,28,29] Inv) (vQ [7,20,21,22,23,24,25,26,27,28,29] μ) h0 ?_;intro e' w' hI;have h:=hs _ _ _ _ _ _ _ _ _ _ _ (zM zf (fun i=>gd e' i) (zr [(7,1),(16,33)])) w' _ hI rfl;revert h;generalize (cE K B1)=qc0;exact mpF
theorem jn (h:nC W6 (fun A7=>B1 (dG Y5 Z5 K6 A7 X6 Y6 Z6 u7 B7 K7 W7 X7 Y7 Z7 B8 (zV zf 13 [W6,A7]))) w):cE K B1 (dG Y5 Z5 K6 W6 X6 Y6 Z6 u7 B7 K7 W7 X7 Y7 Z7 B8 zf) w:=by
 delta cE;exact mpK h
attribute [irreducible] fu cE ib
theorem Ez (h:call Q 93 #[Y5] (fun A1 w=>aI A1 true (fun I=>call Q 93 #[Z5] (fun A3=>un Q .not A3 fun A4=>I [Z5,A3,A4]) w) (fun k=>k [uu,uu,uu] w) fun C=>pick A1 (gd C 2) cF fun A5 w=>aI A5 false (fun u=>bin Q .lss 31 false false Y5 Z5 (fun A8=>u [Y5,Z5,A8]) w) (fun k=>k [uu,uu,uu] w) fun j=>pick A5 cT (gd j 2) K) w):Gives Q 193 #[Y5,Z5] w K:=by
 refine aB func193 (by kernel_rfl) ?_;exact mpK h
theorem wn (h:bin Q .neq 31 false false Y5 Y5 K w):Gives Q 93 #[Y5] w K:=by
 refine aB func93 (by kernel_rfl) ?_;exact mpK h
def aQ (x0 n2 A0 A2 A7:Value)(zf:Nat→Value):List Value:=x0::zf 1::n2::zf 3::A0::zT zf 5 3 (A2::zT zf 9 5 (A7::zT zf 15 10 ([])))
def jq (K:KV):KE:=ae Q (cd f133 [1,1]) (rk f133 K) xf (rk f133 K)
def pO (K:KV):KE:=ae Q (cd f133 [1,0,1]) (jq K) xf (rk f133 K)
def jr (K:KV):KE:=ae Q (cd f133 [1,1,1]) (rk f133 K) xf (rk f133 K)
def pP (K:KV):KE:=ae Q (cd f133 [1,1,0,1]) (jr K) xf (rk f133 K)
def js (K:KV):KE:=ae Q (cd f133 [1,1,1,1]) (rk f133 K) xf (rk f133 K)
def pQ (K:KV):KE:=ae Q (cd f133 (b1 61)) (js K) xf (rk f133 K)
theorem Gr (j:Code)(h:bin Q .geq 31 false true Y5 (cu 4294967296) (fun K6=>ae Q j (ae Q (cd f133 [1,1]) (rk f133 K) (fun _ _ _=>False) (rk f133 K)) (fun _ _ _=>False) (rk f133 K) (aQ Y5 (ci 0) K6 uu uu (zV zu 3 [Y5]))) w):ae Q (rep [1,0,1] j (cd f133 [])) (rk f133 K) xf (rk f133 K) (aQ Y5 uu uu uu uu zu) w:=Eq.mp (by kernel_rfl) h
theorem xW {K:KV}{Y5:Value}{w:World}(h:bin Q .geq 31 false true Y5 (cu 4294967296) (fun K6=>pO K (aQ Y5 (ci 0) K6 uu uu (zV zu 3 [Y5]))) w):Gives Q 133 #[Y5] w K:=aB func133 (by kernel_rfl) (Eq.mp (congrArg (fun c=>ae Q c (rk f133 K) xf (rk f133 K) (aQ Y5 uu uu uu uu zu) w) (by kernel_rfl:(rep [1,0,1] (cd f133 [1,0,1]) (cd f133 []))=(cd f133 []))) (Gr (cd f133 [1,0,1]) h))
theorem DA (j:KE)(h:cond K6 (bin Q .shr 31 false true Y5 (cu 32) (fun A1=>j (aQ A1 (ci 32) K6 W6 X6 (zV zf 5 [Y5,A1]))) w) (j (aQ Y5 Z5 K6 W6 X6 zf) w)):ae Q (cd f133 [1,0,1]) j xf (rk f133 K) (aQ Y5 Z5 K6 W6 X6 zf) w:=Eq.mp (by kernel_rfl) h
theorem mh (h:cond K6 (bin Q .shr 31 false true Y5 (cu 32) (fun A1=>jq K (aQ A1 (ci 32) K6 W6 X6 (zV zf 5 [Y5,A1]))) w) (jq K (aQ Y5 Z5 K6 W6 X6 zf) w)):pO K (aQ Y5 Z5 K6 W6 X6 zf) w:=by
 delta pO
 exact Eq.mp (congrArg (fun c=>ae Q c (jq K) xf (rk f133 K) (aQ Y5 Z5 K6 W6 X6 zf) w) (by kernel_rfl:(cd f133 [1,0,1])=(cd f133 [1,0,1]))) (DA (jq K) h)
theorem DD (j:Code)(h:bin Q .geq 31 false true Y5 (cu 65536) (fun W6=>ae Q j (ae Q (cd f133 [1,1,1]) (rk f133 K) (fun _ _ _=>False) (rk f133 K)) (fun _ _ _=>False) (rk f133 K) (aQ Y5 Z5 K6 W6 X6 (zV zf 7 [Y5]))) w):ae Q (rep [0,1] j (cd f133 [1,1])) (rk f133 K) xf (rk f133 K) (aQ Y5 Z5 K6 W6 X6 zf) w:=Eq.mp (by kernel_rfl) h
theorem vw (h:bin Q .geq 31 false true Y5 (cu 65536) (fun W6=>pP K (aQ Y5 Z5 K6 W6 X6 (zV zf 7 [Y5]))) w):jq K (aQ Y5 Z5 K6 W6 X6 zf) w:=by
 delta jq
 exact Eq.mp (congrArg (fun c=>ae Q c (rk f133 K) xf (rk f133 K) (aQ Y5 Z5 K6 W6 X6 zf) w) (by kernel_rfl:(rep [0,1] (cd f133 [1,1,0,1]) (cd f133 [1,1]))=(cd f133 [1,1]))) (DD (cd f133 [1,1,0,1]) h)
theorem DB (j:KE)(h:cond W6 (bin Q .shr 31 false true Y5 (cu 16) (fun A4=>bin Q .add 3 false true Z5 (ci 16) fun A6=>j (aQ A4 A6 K6 W6 X6 (zV zf 9 [Y5,A4,Z5,A6]))) w) (j (aQ Y5 Z5 K6 W6 X6 zf) w)):ae Q (cd f133 [1,1,0,1]) j xf (rk f133 K) (aQ Y5 Z5 K6 W6 X6 zf) w:=Eq.mp (by kernel_rfl) h
theorem vt (h:cond W6 (bin Q .shr 31 false true Y5 (cu 16) (fun A4=>bin Q .add 3 false true Z5 (ci 16) fun A6=>jr K (aQ A4 A6 K6 W6 X6 (zV zf 9 [Y5,A4,Z5,A6]))) w) (jr K (aQ Y5 Z5 K6 W6 X6 zf) w)):pP K (aQ Y5 Z5 K6 W6 X6 zf) w:=by
 delta pP
 exact Eq.mp (congrArg (fun c=>ae Q c (jr K) xf (rk f133 K) (aQ Y5 Z5 K6 W6 X6 zf) w) (by kernel_rfl:(cd f133 [1,1,0,1])=(cd f133 [1,1,0,1]))) (DB (jr K) h)
theorem DE (j:Code)(h:bin Q .geq 31 false true Y5 (cu 256) (fun X6=>ae Q j (ae Q (cd f133 [1,1,1,1]) (rk f133 K) (fun _ _ _=>False) (rk f133 K)) (fun _ _ _=>False) (rk f133 K) (aQ Y5 Z5 K6 W6 X6 (zV zf 13 [Y5]))) w):ae Q (rep [0,1] j (cd f133 [1,1,1])) (rk f133 K) xf (rk f133 K) (aQ Y5 Z5 K6 W6 X6 zf) w:=Eq.mp (by kernel_rfl) h
theorem vx (h:bin Q .geq 31 false true Y5 (cu 256) (fun X6=>pQ K (aQ Y5 Z5 K6 W6 X6 (zV zf 13 [Y5]))) w):jr K (aQ Y5 Z5 K6 W6 X6 zf) w:=by
 delta jr
 exact Eq.mp (congrArg (fun c=>ae Q c (rk f133 K) xf (rk f133 K) (aQ Y5 Z5 K6 W6 X6 zf) w) (by kernel_rfl:(rep [0,1] (cd f133 (b1 61)) (cd f133 [1,1,1]))=(cd f133 [1,1,1]))) (DE (cd f133 (b1 61)) h)
theorem DC (j:KE)(h:cond X6 (bin Q .shr 31 false true Y5 (cu 8) (fun A9=>bin Q .add 3 false true Z5 (ci 8) fun C1=>j (aQ A9 C1 K6 W6 X6 (zV zf 15 [Y5,A9,Z5,C1]))) w) (j (aQ Y5 Z5 K6 W6 X6 zf) w)):ae Q (cd f133 (b1 61)) j xf (rk f133 K) (aQ Y5 Z5 K6 W6 X6 zf) w:=Eq.mp (by kernel_rfl) h
theorem vu (h:cond X6 (bin Q .shr 31 false true Y5 (cu 8) (fun A9=>bin Q .add 3 false true Z5 (ci 8) fun C1=>js K (aQ A9 C1 K6 W6 X6 (zV zf 15 [Y5,A9,Z5,C1]))) w) (js K (aQ Y5 Z5 K6 W6 X6 zf) w)):pQ K (aQ Y5 Z5 K6 W6 X6 zf) w:=by
 delta pQ
 exact Eq.mp (congrArg (fun c=>ae Q c (js K) xf (rk f133 K) (aQ Y5 Z5 K6 W6 X6 zf) w) (by kernel_rfl:(cd f133 (b1 61))=(cd f133 (b1 61)))) (DC (js K) h)
theorem DF (h:conv Q 31 5 Y5 (fun C3=>idx Q 9 (Value.string (sq [0,1,2,2,3,3,3,3,4,4,4,4,4,4,4,4,5,5,5,5,5,5,5,5,5,5,5,5,5,5,5,5,6,6,6,6,6,6,6,6,6,6,6,6,6,6,6,6,6,6,6,6,6,6,6,6,6,6,6,6,6,6,6,6,7,7,7,7,7,7,7,7,7,7,7,7,7,7,7,7,7,7,7,7,7,7,7,7,7,7,7,7,7,7,7,7,7,7,7,7,7,7,7,7,7,7,7,7,7,7,7,7,7,7,7,7,7,7,7,7,7,7,7,7,7,7,7,7,8,8,8,8,8,8,8,8,8,8,8,8,8,8,8,8,8,8,8,8,8,8,8,8,8,8,8,8,8,8,8,8,8,8,8,8,8,8,8,8,8,8,8,8,8,8,8,8,8,8,8,8,8,8,8,8,8,8,8,8,8,8,8,8,8,8,8,8,8,8,8,8,8,8,8,8,8,8,8,8,8,8,8,8,8,8,8,8,8,8,8,8,8,8,8,8,8,8,8,8,8,8,8,8,8,8,8,8,8,8,8,8,8,8,8,8,8,8,8,8,8,8,8,8,8,8,8,8])) C3 fun C4=>conv Q 5 3 C4 fun C5=>bin Q .add 3 false false Z5 C5 K) w):ae Q (cd f133 [1,1,1,1]) (rk f133 K) xf (rk f133 K) (aQ Y5 Z5 K6 W6 X6 zf) w:=Eq.mp (by kernel_rfl) h
theorem vy (h:conv Q 31 5 Y5 (fun C3=>idx Q 9 (Value.string (sq [0,1,2,2,3,3,3,3,4,4,4,4,4,4,4,4,5,5,5,5,5,5,5,5,5,5,5,5,5,5,5,5,6,6,6,6,6,6,6,6,6,6,6,6,6,6,6,6,6,6,6,6,6,6,6,6,6,6,6,6,6,6,6,6,7,7,7,7,7,7,7,7,7,7,7,7,7,7,7,7,7,7,7,7,7,7,7,7,7,7,7,7,7,7,7,7,7,7,7,7,7,7,7,7,7,7,7,7,7,7,7,7,7,7,7,7,7,7,7,7,7,7,7,7,7,7,7,7,8,8,8,8,8,8,8,8,8,8,8,8,8,8,8,8,8,8,8,8,8,8,8,8,8,8,8,8,8,8,8,8,8,8,8,8,8,8,8,8,8,8,8,8,8,8,8,8,8,8,8,8,8,8,8,8,8,8,8,8,8,8,8,8,8,8,8,8,8,8,8,8,8,8,8,8,8,8,8,8,8,8,8,8,8,8,8,8,8,8,8,8,8,8,8,8,8,8,8,8,8,8,8,8,8,8,8,8,8,8,8,8,8,8,8,8,8,8,8,8,8,8,8,8,8,8,8,8])) C3 fun C4=>conv Q 5 3 C4 fun C5=>bin Q .add 3 false false Z5 C5 K) w):js K (aQ Y5 Z5 K6 W6 X6 zf) w:=by
 delta js
 exact Eq.mp (congrArg (fun c=>ae Q c (rk f133 K) xf (rk f133 K) (aQ Y5 Z5 K6 W6 X6 zf) w) (by kernel_rfl:(cd f133 [1,1,1,1])=(cd f133 [1,1,1,1]))) (DF h)
attribute [irreducible] jq pO jr pP js pQ
end
section
/-! ## May rights be, and what a region may still take -/
theorem Ab {l:List Int}(h:(mB l).2=true):l.all okA=true∧mB l=(l.sum,true):=by
 unfold mB at *;cases j:l.all okA with
 | true=>exact⟨rfl,rfl⟩
 | false=>rw[j]at h;cases h
theorem JZ {l:List Int}(h:l.all okA=true):mB l=(l.sum,true):=by unfold mB;rw[h]
theorem MM {l:List Int}:(mB l).2=true↔l.all okA=true:=⟨fun h=>(Ab h).1,fun h=>by rw[JZ h]⟩
theorem r6 {p:Nat→Prop}:(∀k∈List.range 6,p k)↔p 0∧p 1∧p 2∧p 3∧p 4∧p 5:=by
 constructor
 ·intro h;exact⟨h 0 (by simp),h 1 (by simp),h 2 (by simp),h 3 (by simp),h 4 (by simp),h 5 (by simp)⟩
 ·rintro⟨j,u,C,I,J,M⟩ k O
  have:k<6:=by simpa using O
  match k,this with
  | 0,_=>exact j
  | 1,_=>exact u
  | 2,_=>exact C
  | 3,_=>exact I
  | 4,_=>exact J
  | 5,_=>exact M
theorem NK {A:List Int}:(pk A k).2=true↔okA (nA A k)=true∧okA (nA A (6+k))=true∧okA (nA A (12+k))=true∧(∀j∈List.range 6,okA (nA A (18+6*k+j))=true)∧∀j∈List.range 6,okA (nA A (18+6*j+k))=true:=by
 unfold pk;simp only[Bool.and_eq_true,MM,re,inL,List.all_cons,List.all_map,List.all_eq_true,Function.comp];constructor
 ·rintro⟨⟨h,u⟩,C,I,J⟩;exact⟨C,h,I,u,J⟩
 ·rintro⟨C,h,I,u,J⟩;exact⟨⟨h,u⟩,C,I,J⟩
theorem Hv {A:List Int}(h:(pk A k).2=true):(pk A k).1=gS A k:=by
 have j:=h;unfold pk at j;simp only[Bool.and_eq_true]at j;obtain⟨u,C⟩:=j;unfold pk;simp only;rw[(Ab u).2,(Ab C).2];simp only[re,inL,gS,List.range,List.range.loop,List.map_cons,List.map_nil,List.sum_cons,List.sum_nil];omega
theorem PT (A:List Int):yD A=jj A:=by
 have I:yD A=true↔jj A=true:=by
  unfold yD jj;simp only[Bool.and_eq_true,List.all_eq_true,decide_eq_true_eq,uU,MM];constructor
  ·rintro⟨h,J,M⟩;have hL:∀k∈List.range 6,gS A k=(pk A k).1:=fun k u=>(Hv (h k u).1.1.1).symm;refine⟨⟨fun k u=>?_,fun k u=>?_⟩,?_⟩
   ·obtain⟨⟨⟨a1,a2⟩,U⟩,a4⟩:=h k u;obtain⟨b1,b2,b3,b4,b5⟩:=NK.1 a1;exact⟨⟨⟨⟨⟨b1,b2⟩,b3⟩,U⟩,a4⟩,b4⟩
   ·rw[hL k u];exact(h k u).1.1.2
   ·rw[JZ (by simpa only[List.all_eq_true]using J)]at M;exact M
  ·rintro⟨⟨h,hl⟩,M⟩;have C:∀k∈List.range 6,(pk A k).2=true:=fun k u=>NK.2 ⟨(h k u).1.1.1.1.1,(h k u).1.1.1.1.2,(h k u).1.1.1.2,(h k u).2,fun j hj=>(h j hj).2 k u⟩;have J:(gL A).all okA=true:=by
    simp only[gL,List.all_map,List.all_eq_true,Function.comp];exact fun k u=>(h k u).1.1.1.1.1
   refine⟨fun k u=>⟨⟨⟨C k u,?_⟩,(h k u).1.1.2⟩,(h k u).1.2⟩,List.all_eq_true.1 J,?_⟩
   ·rw[Hv (C k u)];exact hl k u
   ·rw[JZ J];exact M
 cases O:yD A with
 | true=>rw[I.1 O]
 | false =>
  cases h2:jj A with
  | false=>rfl
  | true=>rw[I.2 h2]at O;cases O
def JA (A:List Int)(k:Nat):Int:=match yD A with|true=>(pk A k).1|false=>0
theorem Rn (A:List Int)(j:k<6):JA A k=match jj A with|true=>gS A k|false=>0:=by
 unfold JA;rw[←PT];cases h:yD A with
 | false=>rfl
 | true =>
  unfold yD at h;simp only[Bool.and_eq_true,List.all_eq_true,decide_eq_true_eq]at h;exact Hv (h.1 k (by simpa using j)).1.1.1
/-! ## Live regions, what they have, their shares -/
def shr (all:Int)(c k:Nat):Int:=all / (c:Int)+if (k:Int)<all%(c:Int)then 1 else 0
/-! ## Moves -/
def UO (p:Nat→Bool)(n:Nat):Nat→Nat
 | 0=>n
 | f+1=>if p (n-(f+1))then n-(f+1)else UO p n f
def fs (p:Nat→Bool)(n i:Nat):Nat:=UO p n (n-i)
end
section
open Go.RowKit
def vF (l0 l1 all2 A0 A1 A2 A7 A8:Value)(zf:Nat→Value):List Value:=l0::l1::all2::zT zf 3 3 (A0::A1::A2::zT zf 9 6 (A7::A8::zT zf 17 6 ([])))
def mT (K:KV):KE:=ae Q (cd f144 [1,1]) (rk f144 K) xf (rk f144 K)
def uJ (K:KV):KE:=ae Q (cd f144 [1,0,1,0]) (mT K) (xx xf (mT K) 0) (rk f144 K)
theorem KW (h:lN 247 Y5 (fun X6=>uJ K (vF Y5 uu (ci 0) Y5 X6 (ci 0) uu uu (zV zu 3 [cF]))) w):Gives Q 144 #[Y5] w K:=by
 refine aB func144 (by kernel_rfl) ?_;revert h;delta uJ mT;exact mpF
theorem Jf (Inv:vI 4)(μ:vM 4)(h0:Inv K6 Y6 Z6 u7 w)(hs:∀(j C J M:Value) (dd:Nat→Value) (w:World) (m:Nat),Inv j C J M w→m=μ j C J M w →
  lS C X6 (fun A3 w=>cond A3 (aV Q 247 W6 C (fun A4=>ld Q 2 A4 fun A5=>bin Q .lss 2 false true A5 (ci 0) fun A6 w=>aI A6 false (fun O=>bin Q .gtr 2 false true A5 (ci 1125899906842624) (fun u7=>O [A5,u7]) w) (fun k=>k [uu,uu] w) fun u=>pick A6 cT (gd u 1) fun A9 w=>cond A9 (K (Value.tuple #[ci 0,cF]) w) (bin Q .add 2 false false j A5 (fun C2=>nC C fun C3 w=>(Inv C2 C3 (gd u 0) (gd u 1) w)∧((μ C2 C3 (gd u 0) (gd u 1) w)<m)) w)) w) (mT K (vF Y5 Z5 j W6 X6 C J M (zV dd 9 [A3])) w)) w):uJ K (vF Y5 Z5 K6 W6 X6 Y6 Z6 u7 zf) w:=by
 refine aL (cd f144 (b1 52)) (zr [(2,2),(5,1),(8,14)]) (by kernel_rfl) (vP [2,8,15,16] Inv) (vQ [2,8,15,16] μ) h0 ?_;intro e' w' hI;have h:=hs _ _ _ _ (zM zf (fun i=>gd e' i) (zr [(2,2),(5,1),(8,14)])) w' _ hI rfl;revert h;generalize (mT K)=qc0;exact mpF
theorem Jg (h:K (Value.tuple #[K6,cT]) w):mT K (vF Y5 Z5 K6 W6 X6 Y6 Z6 u7 zf) w:=by
 delta mT;exact mpK h
attribute [irreducible] mT uJ
def oL (r0 k_1 out6 in7 j8 D3 F7:Value)(zf:Nat→Value):List Value:=r0::k_1::zT zf 2 4 (out6::in7::j8::zT zf 9 24 (D3::zT zf 34 40 (F7::zf 75::[])))
def lu (K:KV):KE:=ae Q (cd f104 [1,1,1]) (rk f104 K) xf (rk f104 K)
def oo (K:KV):KE:=ae Q (cd f104 (b1 58)) (lu K) (xx xf (lu K) 0) (rk f104 K)
theorem Je (h:aG (fun S w=>hN S Y5 fun A7=>hF S 50 A7 1 fun A8=>hI S 47 A8 Z5 fun A9=>hL S 2 A9 fun C0=>hN S Y5 fun C4=>hF S 50 C4 0 fun C5=>hI S 47 C5 Z5 fun C6=>hL S 2 C6 fun C7=>hN S Y5 fun C8=>hF S 50 C8 2 fun C9=>hI S 47 C9 Z5 fun D0=>hL S 2 D0 fun D1=>(bT Q 247 1 #[(0,C0)] (fun C1=>aY S fun S=>bT Q 247 2 #[(0,C7),(1,D1)] fun D2=>aY S fun _=>oo K (oL Y5 Z5 C1 D2 uu (ci 0) uu (zV (zV zu 4 [ci 0,cF]) 13 [Y5,Z5,A7,A8,A9,C0,C1,Y5,Z5,C4,C5,C6,C7,Y5,Z5,C8,C9,D0,D1,D2]))) w)∧(bT Q 247 2 #[(0,C7),(1,D1)] (fun D2=>aY S fun _=>bT Q 247 1 #[(0,C0)] fun C1=>aG fun _=>oo K (oL Y5 Z5 C1 D2 uu (ci 0) uu (zV (zV zu 4 [ci 0,cF]) 13 [Y5,Z5,A7,A8,A9,C0,C1,Y5,Z5,C4,C5,C6,C7,Y5,Z5,C8,C9,D0,D1,D2]))) w)) w.drew):Gives Q 104 #[Y5,Z5] w K:=by
 refine aB func104 (by kernel_rfl) ?_;revert h;delta oo lu;exact mpF
theorem Gx (Inv:vI 3)(μ:vM 3)(M:Inv K6 W6 Y6 w)(O:∀(j u C:Value) (dd:Nat→Value) (w:World) (m:Nat),Inv j u C w→m=μ j u C w →
  bin Q .lss 3 false true C (ci 6) (fun D4 w=>cond D4 (aG (fun S w=>hN S Y5 fun D5=>hF S 50 D5 3 fun D6=>hI S 48 D6 Z5 fun D7=>hI S 47 D7 C fun D8=>hL S 2 D8 fun D9=>hN S Y5 fun E2=>hF S 50 E2 3 fun E3=>hI S 48 E3 C fun E4=>hI S 47 E4 Z5 fun E5=>hL S 2 E5 fun E6=>(bT Q 247 1 #[(0,D9)] (fun E0=>aY S fun S w=>(blt Q .append #[247,247] 247 #[false,false] #[j,E0] (fun E1=>aY S fun _=>bT Q 247 1 #[(0,E6)] fun E7=>aG fun _=>blt Q .append #[247,247] 247 #[false,false] #[u,E7] fun E8=>aG fun _=>nC C fun E9 w=>(Inv E1 E8 E9 w)∧((μ E1 E8 E9 w)<m)) w)∧(bT Q 247 1 #[(0,E6)] (fun E7=>aG fun _=>blt Q .append #[247,247] 247 #[false,false] #[j,E0] fun E1=>aG fun _=>blt Q .append #[247,247] 247 #[false,false] #[u,E7] fun E8=>aG fun _=>nC C fun E9 w=>(Inv E1 E8 E9 w)∧((μ E1 E8 E9 w)<m)) w)) w)∧(bT Q 247 1 #[(0,E6)] (fun E7=>aY S fun _=>bT Q 247 1 #[(0,D9)] fun E0=>aG fun _=>blt Q .append #[247,247] 247 #[false,false] #[j,E0] fun E1=>aG fun _=>blt Q .append #[247,247] 247 #[false,false] #[u,E7] fun E8=>aG fun _=>nC C fun E9 w=>(Inv E1 E8 E9 w)∧((μ E1 E8 E9 w)<m)) w)) w.drew) (lu K (oL Y5 Z5 j u (dd 8) C Z6 (zV dd 34 [D4])) w)) w):oo K (oL Y5 Z5 K6 W6 X6 Y6 Z6 zf) w:=by
 refine aL (cd f104 (b1 116)) (zr [(6,3),(33,26)]) (by kernel_rfl) (vP [6,7,33] Inv) (vQ [6,7,33] μ) M ?_;intro e' w' hI;have h:=O _ _ _ (zM zf (fun i=>gd e' i) (zr [(6,3),(33,26)])) w' _ hI rfl;revert h;generalize (lu K)=qc0;exact mpF
theorem Gy (h:call Q 144 #[K6] (fun F0=>ext Q F0 0 fun F1=>ext Q F0 1 fun F2=>call Q 144 #[W6] fun F3=>ext Q F3 0 fun F4=>ext Q F3 1 fun F5=>bin Q .sub 2 false false F4 F1 fun F6 w=>aI F2 true (fun u=>u [F5] w) (fun k=>k [uu] w) fun j=>pick F2 (gd j 0) cF fun F8=>K (Value.tuple #[F6,F8])) w):lu K (oL Y5 Z5 K6 W6 X6 Y6 Z6 zf) w:=by
 delta lu;exact mpK h
attribute [irreducible] lu oo
end
end Go.Proofs.YtkbhfjljieopoaaGreatDoor
