import Derived.Test.YtkbhfjljieopoaaGreatDoorQ2
import Derived.Test.YtkbhfjljieopoaaGreatDoorQ4
import Derived.Test.YtkbhfjljieopoaaGreatDoorQ1
import Derived.Test.YtkbhfjljieopoaaGreatDoorChecked
namespace Go.Proofs.YtkbhfjljieopoaaGreatDoor
set_option maxRecDepth 100000
set_option maxHeartbeats 4000000
open Go.Proofs.Tryz
variable {w w':World}{K:KV}{zf dd:Nat→Value}{b c n k o B i g p m s j z d f D tb cp hi:Nat}{x r v:Int}{ys:List Int}{B1 W0:KE}{a av:Option Addr}{E t e:TypeId}{cs:List Value}{P:Program}{T L:List (Int×Int)}{Y1 Z1 U2 V2 W2 X2 Y2 Z2 U3 V3 W3 X3 Y3 Z3 j4 U4 V4 W4 X4 Y4 Z4 U5 V5 W5 X5 Y5 Z5 K6 T6 U6 V6 W6 X6 Y6 Z6 u7 B7 K7 T7 U7 V7 W7 X7 Y7 Z7 y8 B8 K8 T8 U8 V8 W8 X8 Y8 Z8:Value}
section
open Go.RowKit
def oe (A0 id1 i5:Value)(zf:Nat→Value):List Value:=A0::id1::zT zf 2 3 (i5::zT zf 6 20 ([]))
def gI (K:KV):KE:=ae Q (cd f185 [1,1]) (rk f185 K) xf (rk f185 K)
def nJ (K:KV):KE:=ae Q (cd f185 [1,0,1,0]) (gI K) (xx xf (gI K) 0) (rk f185 K)
theorem BN (h:nJ K (oe Y1 Z1 (ci 0) (zV zu 4 [ci 0])) w):Gives Q 185 #[Y1,Z1] w K:=by
 refine aB func185 (by kernel_rfl) ?_;revert h;delta nJ gI;exact mpF
theorem zX (Inv:Value→World→Prop)(μ:Value→World→Nat)(I:Inv U2 w)(J:∀(d:Value) (dd:Nat→Value) (w:World) (m:Nat),Inv d w→m=μ d w →
  aU Y1 (fun A3=>af Q 188 A3 0 fun A4=>ld Q 186 A4 fun A5=>lN 186 A5 fun A6=>lS d A6 fun A7 w=>cond A7 (aU Y1 (fun C1=>af Q 188 C1 0 fun C2=>ld Q 186 C2 fun C3=>aV Q 186 C3 d fun C5=>af Q 277 C5 0 fun C6=>ld Q 31 C6 fun C7=>bin Q .eql 31 false false C7 Z1 fun C9 w=>cond C9 (K d w) (nC d (fun A9 w=>(Inv A9 w)∧((μ A9 w)<m)) w)) w) (gI K (oe Y1 Z1 d (zV dd 6 [d,Y1,A3,A4,A5,A6,A7])) w)) w):nJ K (oe Y1 Z1 U2 zf) w:=by
 refine aL (cd f185 (b1 52)) (zr [(4,22)]) (by kernel_rfl) (vP [5] Inv) (vQ [5] μ) I ?_;intro e' w' hI;have h:=J _ (zM zf (fun i=>gd e' i) (zr [(4,22)])) w' _ hI rfl;revert h;generalize (gI K)=qc0;exact mpF
theorem zY (h:K (ci (-1)) w):gI K (oe Y1 Z1 U2 zf) w:=by
 delta gI;exact mpK h
attribute [irreducible] gI nJ
theorem Cs (h:call Q 185 #[Y1,Z1] (fun A2=>bin Q .geq 3 false true A2 (ci 0) K) w):Gives Q 184 #[Y1,Z1] w K:=by
 refine aB func184 (by kernel_rfl) ?_;exact mpK h
def od (A0 id1 out5:Value)(zf:Nat→Value):List Value:=A0::id1::zT zf 2 3 (out5::zT zf 6 19 ([]))
def gH (K:KV):KE:=ae Q (cd f152 [1,1,1]) (rk f152 K) xf (rk f152 K)
def nI (K:KV):KE:=ae Q (cd f152 [1,1,0,0]) (gH K) (xx xf (gH K) 0) (rk f152 K)
theorem BM (h:nI K (od Y1 Z1 cN (zV zu 4 [cN])) w):Gives Q 152 #[Y1,Z1] w K:=by
 refine aB func152 (by kernel_rfl) ?_;revert h;delta nI gH;exact mpF
theorem zU (Inv:Value→Value→World→Prop)(μ:Value→Value→World→Nat)(J:Inv Z1 U2 w)(M:∀(d j:Value) (dd:Nat→Value) (w:World) (m:Nat),Inv d j w→m=μ d j w →
  call Q 185 #[Y1,d] (fun A3=>bin Q .geq 3 false true A3 (ci 0) fun A4 w=>cond A4 (bT Q 120 1 #[(0,d)] (fun A7=>blt Q .append #[120,120] 120 #[false,false] #[j,A7] fun A8 w=>aG (fun S w=>hN S Y1 fun C0=>hF S 188 C0 0 fun C1=>hL S 186 C1 fun C2=>call Q 185 #[Y1,d] (fun C5=>aY S fun S w=>hI S 186 C2 C5 fun C6=>hF S 277 C6 1 fun C7=>hL S 31 C7 fun C8=>(Inv C8 A8 w)∧((μ C8 A8 w)<m)) w) w.drew) w) (gH K (od Y1 d j (zV dd 6 [Y1,d,A3,A4])) w)) w):nI K (od Y1 Z1 U2 zf) w:=by
 refine aL (cd f152 (b1 56)) (zr [(1,1),(5,19)]) (by kernel_rfl) (vP [1,5] Inv) (vQ [1,5] μ) J ?_;intro e' w' hI;have h:=M _ _ (zM zf (fun i=>gd e' i) (zr [(1,1),(5,19)])) w' _ hI rfl;revert h;generalize (gH K)=qc0;exact mpF
theorem zW (h:K U2 w):gH K (od Y1 Z1 U2 zf) w:=by
 delta gH;exact mpK h
attribute [irreducible] gH nI
def bB (A0 id1 parent2 at7 E9 F0 F1 F2 F3 F4 F5 F6 F7 F8 F9:Value)(zf:Nat→Value):List Value:=A0::id1::parent2::zT zf 3 4 (at7::zT zf 8 44 (E9::F0::F1::F2::F3::F4::F5::F6::F7::F8::F9::zT zf 63 26 ([])))
def lT (K:KV):KE:=ae Q (cd f150 (b1 127)) (rk f150 K) xf (rk f150 K)
def fX (K:KV):KE:=ae Q (cd f150 (b1 511)) (rk f150 K) xf (rk f150 K)
def qA (K:KV):KE:=ae Q (cd f150 (b1 1020)) (fX K) (xx xf (fX K) 0) (rk f150 K)
theorem Dp (u:Code)(h:bin Q .eql 31 false true Z1 (cu 0) (fun A4 w=>cond A4 (K (ci 1) w) (call Q 184 #[Y1,Z1] (fun A7 w=>cond A7 (K (ci 14) w) (bin Q .neq 31 false true U2 (cu 0) (fun A9 w=>aI A9 true (fun I=>call Q 184 #[Y1,U2] (fun C3=>un Q .not C3 fun C4=>I [Y1,U2,C3,C4]) w) (fun k=>k [uu,uu,uu,uu] w) fun j=>pick A9 (gd j 3) cF fun C5 w=>cond C5 (K (ci 9) w) (aU Y1 (fun C7=>af Q 188 C7 0 fun C8=>ld Q 186 C8 fun C9=>lN 186 C9 fun D0=>bin Q .geq 3 false true D0 (ci 32) fun D1 w=>aI D1 false (fun J=>call Q 152 #[Y1,U2] (fun D2=>lN 120 D2 fun D3=>bin Q .geq 3 false true D3 (ci 4) fun D4=>J [Y1,U2,D2,D3,D4]) w) (fun k=>k [uu,uu,uu,uu,uu] w) fun d=>pick D1 cT (gd d 4) fun D5 w=>cond D5 (K (ci 6) w) (aU Y1 (fun D6=>af Q 188 D6 0 fun D7=>ld Q 186 D7 fun D8=>lN 186 D8 fun D9=>ae Q u (rk f150 K) (fun _ _ _=>False) (rk f150 K) (bB Y1 Z1 U2 D9 uu uu uu uu uu uu uu uu uu uu uu (zV (zV zu 6 [ci 0]) 8 [Z1,A4,Y1,Z1,A7,U2,A9,A9,gd j 0,gd j 1,gd j 2,gd j 3,C5,Y1,C7,C8,C9,D0,D1,D1,gd d 0,gd d 1,gd d 2,gd d 3,gd d 4,D5,Y1,D6,D7,D8,D9]))) w)) w)) w)) w)) w):ae Q (rep (b1 127) u (cd f150 [])) (rk f150 K) xf (rk f150 K) (bB Y1 Z1 U2 uu uu uu uu uu uu uu uu uu uu uu uu zu) w:=Eq.mp (by kernel_rfl) h
theorem Cr {K:KV}{Y1 Z1 U2:Value}{w:World}(h:bin Q .eql 31 false true Z1 (cu 0) (fun A4 w=>cond A4 (K (ci 1) w) (call Q 184 #[Y1,Z1] (fun A7 w=>cond A7 (K (ci 14) w) (bin Q .neq 31 false true U2 (cu 0) (fun A9 w=>aI A9 true (fun k16=>call Q 184 #[Y1,U2] (fun C3=>un Q .not C3 fun C4=>k16 [Y1,U2,C3,C4]) w) (fun k=>k [uu,uu,uu,uu] w) fun us16=>pick A9 (gd us16 3) cF fun C5 w=>cond C5 (K (ci 9) w) (aU Y1 (fun C7=>af Q 188 C7 0 fun C8=>ld Q 186 C8 fun C9=>lN 186 C9 fun D0=>bin Q .geq 3 false true D0 (ci 32) fun D1 w=>aI D1 false (fun k28=>call Q 152 #[Y1,U2] (fun D2=>lN 120 D2 fun D3=>bin Q .geq 3 false true D3 (ci 4) fun D4=>k28 [Y1,U2,D2,D3,D4]) w) (fun k=>k [uu,uu,uu,uu,uu] w) fun us28=>pick D1 cT (gd us28 4) fun D5 w=>cond D5 (K (ci 6) w) (aU Y1 (fun D6=>af Q 188 D6 0 fun D7=>ld Q 186 D7 fun D8=>lN 186 D8 fun D9=>lT K (bB Y1 Z1 U2 D9 uu uu uu uu uu uu uu uu uu uu uu (zV (zV zu 6 [ci 0]) 8 [Z1,A4,Y1,Z1,A7,U2,A9,A9,gd us16 0,gd us16 1,gd us16 2,gd us16 3,C5,Y1,C7,C8,C9,D0,D1,D1,gd us28 0,gd us28 1,gd us28 2,gd us28 3,gd us28 4,D5,Y1,D6,D7,D8,D9]))) w)) w)) w)) w)) w):Gives Q 150 #[Y1,Z1,U2] w K:=aB func150 (by kernel_rfl) (Eq.mp (congrArg (fun c=>ae Q c (rk f150 K) xf (rk f150 K) (bB Y1 Z1 U2 uu uu uu uu uu uu uu uu uu uu uu uu zu) w) (by kernel_rfl:(rep (b1 127) (cd f150 (b1 127)) (cd f150 []))=(cd f150 []))) (Dp (cd f150 (b1 127)) h))
theorem AQ (h:aU Y1 (fun E0=>af Q 188 E0 0 fun E1=>ld Q 186 E1 fun E2=>bld Q 277 #[] fun E3=>bT Q 186 1 #[(0,E3)] fun E4=>blt Q .append #[186,186] 186 #[false,false] #[E2,E4] fun E5=>aU Y1 fun E6=>af Q 188 E6 0 fun E7=>sto Q 186 E7 E5 fun _=>ae Q (cd f150 (b1 1020)) (ae Q (cd f150 (b1 511)) (rk f150 K) (fun _ _ _=>False) (rk f150 K)) (fun i=>@Bool.rec (fun _=>KE) ((fun _ _ _=>False) i) (ae Q (cd f150 (b1 511)) (rk f150 K) (fun _ _ _=>False) (rk f150 K)) (Nat.beq i 0)) (rk f150 K) (bB Y1 Z1 U2 V2 W2 X2 Y2 Z2 U3 V3 W3 X3 Y3 Z3 j4 (zV zf 39 [Y1,Y1,E0,E1,E2,E3,E4,E5,E6,E7]))) w):ae Q (cd f150 (b1 127)) (rk f150 K) xf (rk f150 K) (bB Y1 Z1 U2 V2 W2 X2 Y2 Z2 U3 V3 W3 X3 Y3 Z3 j4 zf) w:=Eq.mp (by kernel_rfl) h
theorem AS (h:aU Y1 (fun E0=>af Q 188 E0 0 fun E1=>ld Q 186 E1 fun E2=>bld Q 277 #[] fun E3=>bT Q 186 1 #[(0,E3)] fun E4=>blt Q .append #[186,186] 186 #[false,false] #[E2,E4] fun E5=>aU Y1 fun E6=>af Q 188 E6 0 fun E7=>sto Q 186 E7 E5 fun _=>qA K (bB Y1 Z1 U2 V2 W2 X2 Y2 Z2 U3 V3 W3 X3 Y3 Z3 j4 (zV zf 39 [Y1,Y1,E0,E1,E2,E3,E4,E5,E6,E7]))) w):lT K (bB Y1 Z1 U2 V2 W2 X2 Y2 Z2 U3 V3 W3 X3 Y3 Z3 j4 zf) w:=by
 delta lT
 exact Eq.mp (congrArg (fun c=>ae Q c (rk f150 K) xf (rk f150 K) (bB Y1 Z1 U2 V2 W2 X2 Y2 Z2 U3 V3 W3 X3 Y3 Z3 j4 zf) w) (by kernel_rfl:(cd f150 (b1 127))=(cd f150 (b1 127)))) (AQ h)
theorem AT (B1:KE)(j:KE)(h:bin Q .gtr 3 false true V2 (ci 0) (fun E8 w=>aI E8 true (fun u=>aU Y1 (fun X2=>af Q 188 X2 0 fun Y2=>ld Q 186 Y2 fun Z2=>bin Q .sub 3 false true V2 (ci 1) fun V3=>aV Q 186 Z2 V3 fun W3=>af Q 277 W3 0 fun X3=>ld Q 31 X3 fun Y3=>bin Q .gtr 31 false false Y3 Z1 fun j4=>u [Y1,X2,Y2,Z2,V2,V3,W3,X3,Y3,Z1,j4]) w) (fun k=>k [uu,uu,uu,uu,uu,uu,uu,uu,uu,uu,uu] w) fun d=>pick E8 (gd d 10) cF fun G0 w=>cond G0 (sN Y1 (fun G1=>sF 188 G1 0 fun G2=>sL 186 G2 fun G3=>sN Y1 fun G4=>sF 188 G4 0 fun G5=>sL 186 G5 fun G6=>sti (bin Q .sub 3 false true V2 (ci 1)) fun G7=>sI 186 G6 G7 fun G8=>sL 277 G8 fun G9=>sI 186 G3 V2 fun H0=>sto Q 277 H0 G9 fun _=>bin Q .sub 3 false true V2 (ci 1) fun H1=>B1 (bB Y1 Z1 U2 H1 (gd d 0) (gd d 1) (gd d 2) (gd d 3) (gd d 4) (gd d 5) (gd d 6) (gd d 7) (gd d 8) (gd d 9) (gd d 10) (zV (zV dd 49 [V2,E8,E8]) 63 [G0,Y1,G1,G2,G3,V2,Y1,G4,G5,G6,V2,G7,G8,G9,H0,V2,H1]))) w.drew) (j (bB Y1 Z1 U2 V2 (gd d 0) (gd d 1) (gd d 2) (gd d 3) (gd d 4) (gd d 5) (gd d 6) (gd d 7) (gd d 8) (gd d 9) (gd d 10) (zV (zV dd 49 [V2,E8,E8]) 63 [G0])) w)) w):ae Q (cd f150 (b1 2040)) B1 (xx xf j 0) (rk f150 K) (bB Y1 Z1 U2 V2 W2 U3 Z3 U4 V4 W4 X4 Y4 Z4 U5 V5 dd) w:=Eq.mp (by kernel_rfl) h
theorem AU (Inv:vI 12)(μ:vM 12)(h0:Inv V2 W2 X2 Y2 Z2 U3 V3 W3 X3 Y3 Z3 j4 w)(hs:∀(u J M O U X Z ad ag al am an:Value) (dd:Nat→Value) (w:World) (m:Nat),Inv u J M O U X Z ad ag al am an w→m=μ u J M O U X Z ad ag al am an w →
  bin Q .gtr 3 false true u (ci 0) (fun E8 w=>aI E8 true (fun ap=>aU Y1 (fun X2=>af Q 188 X2 0 fun Y2=>ld Q 186 Y2 fun Z2=>bin Q .sub 3 false true u (ci 1) fun V3=>aV Q 186 Z2 V3 fun W3=>af Q 277 W3 0 fun X3=>ld Q 31 X3 fun Y3=>bin Q .gtr 31 false false Y3 Z1 fun j4=>ap [Y1,X2,Y2,Z2,u,V3,W3,X3,Y3,Z1,j4]) w) (fun k=>k [uu,uu,uu,uu,uu,uu,uu,uu,uu,uu,uu] w) fun d=>pick E8 (gd d 10) cF fun G0 w=>cond G0 (sN Y1 (fun G1=>sF 188 G1 0 fun G2=>sL 186 G2 fun G3=>sN Y1 fun G4=>sF 188 G4 0 fun G5=>sL 186 G5 fun G6=>sti (bin Q .sub 3 false true u (ci 1)) fun G7=>sI 186 G6 G7 fun G8=>sL 277 G8 fun G9=>sI 186 G3 u fun H0=>sto Q 277 H0 G9 fun _=>bin Q .sub 3 false true u (ci 1) fun H1 w=>(Inv H1 (gd d 0) (gd d 1) (gd d 2) (gd d 3) (gd d 4) (gd d 5) (gd d 6) (gd d 7) (gd d 8) (gd d 9) (gd d 10) w)∧((μ H1 (gd d 0) (gd d 1) (gd d 2) (gd d 3) (gd d 4) (gd d 5) (gd d 6) (gd d 7) (gd d 8) (gd d 9) (gd d 10) w)<m)) w.drew) (fX K (bB Y1 Z1 U2 u (gd d 0) (gd d 1) (gd d 2) (gd d 3) (gd d 4) (gd d 5) (gd d 6) (gd d 7) (gd d 8) (gd d 9) (gd d 10) (zV (zV dd 49 [u,E8,E8]) 63 [G0])) w)) w):qA K (bB Y1 Z1 U2 V2 W2 X2 Y2 Z2 U3 V3 W3 X3 Y3 Z3 j4 zf) w:=by
 refine aL (cd f150 (b1 2040)) (zr [(7,1),(49,31)]) (by kernel_rfl) (vP [7,52,53,54,55,56,57,58,59,60,61,62] Inv) (vQ [7,52,53,54,55,56,57,58,59,60,61,62] μ) h0 ?_;intro e' w' hI;have h:=hs _ _ _ _ _ _ _ _ _ _ _ _ (zM zf (fun i=>gd e' i) (zr [(7,1),(49,31)])) w' _ hI rfl
 have h2:ae Q (cd f150 (b1 2040)) (fun j I=>Inv (gd j 7) (gd j 52) (gd j 53) (gd j 54) (gd j 55) (gd j 56) (gd j 57) (gd j 58) (gd j 59) (gd j 60) (gd j 61) (gd j 62) I∧μ (gd j 7) (gd j 52) (gd j 53) (gd j 54) (gd j 55) (gd j 56) (gd j 57) (gd j 58) (gd j 59) (gd j 60) (gd j 61) (gd j 62) I<μ (gd e' 7) (gd e' 52) (gd e' 53) (gd e' 54) (gd e' 55) (gd e' 56) (gd e' 57) (gd e' 58) (gd e' 59) (gd e' 60) (gd e' 61) (gd e' 62) w') (xx xf (fX K) 0) (rk f150 K) (bB Y1 Z1 U2 (gd e' 7) (gd e' 52) (gd e' 53) (gd e' 54) (gd e' 55) (gd e' 56) (gd e' 57) (gd e' 58) (gd e' 59) (gd e' 60) (gd e' 61) (gd e' 62) (zM zf (fun i=>gd e' i) (zr [(7,1),(49,31)]))) w':=AT (fun j I=>Inv (gd j 7) (gd j 52) (gd j 53) (gd j 54) (gd j 55) (gd j 56) (gd j 57) (gd j 58) (gd j 59) (gd j 60) (gd j 61) (gd j 62) I∧μ (gd j 7) (gd j 52) (gd j 53) (gd j 54) (gd j 55) (gd j 56) (gd j 57) (gd j 58) (gd j 59) (gd j 60) (gd j 61) (gd j 62) I<μ (gd e' 7) (gd e' 52) (gd e' 53) (gd e' 54) (gd e' 55) (gd e' 56) (gd e' 57) (gd e' 58) (gd e' 59) (gd e' 60) (gd e' 61) (gd e' 62) w') (fX K) (Eq.mp (by kernel_rfl) h)
 exact Eq.mp (by kernel_rfl) h2
theorem AV (h:aU Y1 (fun H2=>af Q 188 H2 0 fun H3=>ld Q 186 H3 fun H4=>bld Q 277 #[(0,Z1),(1,U2)] fun H5=>aV Q 186 H4 V2 fun H6=>sto Q 277 H6 H5 fun _=>K (ci 0)) w):ae Q (cd f150 (b1 511)) (rk f150 K) xf (rk f150 K) (bB Y1 Z1 U2 V2 W2 X2 Y2 Z2 U3 V3 W3 X3 Y3 Z3 j4 zf) w:=Eq.mp (by kernel_rfl) h
theorem AW (h:aU Y1 (fun H2=>af Q 188 H2 0 fun H3=>ld Q 186 H3 fun H4=>bld Q 277 #[(0,Z1),(1,U2)] fun H5=>aV Q 186 H4 V2 fun H6=>sto Q 277 H6 H5 fun _=>K (ci 0)) w):fX K (bB Y1 Z1 U2 V2 W2 X2 Y2 Z2 U3 V3 W3 X3 Y3 Z3 j4 zf) w:=by
 delta fX
 exact Eq.mp (congrArg (fun c=>ae Q c (rk f150 K) xf (rk f150 K) (bB Y1 Z1 U2 V2 W2 X2 Y2 Z2 U3 V3 W3 X3 Y3 Z3 j4 zf) w) (by kernel_rfl:(cd f150 (b1 511))=(cd f150 (b1 511)))) (AV h)
attribute [irreducible] lT fX qA
theorem II (h:bin Q .lss 3 false true Y1 (ci 1) (fun A1 w=>aI A1 false (fun M=>bin Q .gtr 3 false true Y1 (ci 6) (fun A4=>M [Y1,A4]) w) (fun k=>k [uu,uu] w) fun J=>pick A1 cT (gd J 1) fun A5 w=>aI A5 false (fun u=>bin Q .lss 31 false true Z1 (cu 1) (fun A8=>u [Z1,A8]) w) (fun k=>k [uu,uu] w) fun d=>pick A5 cT (gd d 1) fun A9 w=>aI A9 false (fun I=>bin Q .geq 31 false true Z1 (cu 1099511627776) (fun C2=>I [Z1,C2]) w) (fun k=>k [uu,uu] w) fun j=>pick A9 cT (gd j 1) fun C3 w=>cond C3 (K (cu 0) w) (conv Q 3 31 Y1 (fun C5=>bin Q .shl 31 false true C5 (cu 40) fun C6=>bin Q .add 31 false false C6 Z1 K) w)) w):Gives Q 149 #[Y1,Z1] w K:=by
 refine aB func149 (by kernel_rfl) ?_;exact mpK h
end
section
attribute [local irreducible] bin un conv call bY blt slc af fld aV idx lkp dO gY eSt rng nxt ent ext alc box bld bT ld sto aU dE mkS ifc pick rdy wts aI sti cond bp Gives ae fh fT cOp
open Go.RowKit
def tnC (x:Int×Int):List Value:=[u6 x.1,u6 x.2]
theorem xa (x:Int×Int):(tnC x).length=2:=rfl
theorem Gh (x:Int×Int):∀v∈tnC x,v.oneCell'=true:=by simp[tnC,u6,Value.oneCell']
theorem TR {id:Int}{x:Int×Int}(J:L[k]? = some x)(d:x.1=id)(h:∀j y,j<k→L[j]? = some y→y.1≠id):posT L id=k:=by
 obtain⟨I,rfl⟩:=List.getElem?_eq_some_iff.1 J;unfold posT;rw[List.findIdx_eq I];refine⟨by simp[d],fun j u=>?_⟩
 have:=h j _ u (List.getElem?_eq_getElem (by omega))
 simpa using this
theorem Qg {id:Int}(d:∀(j:Nat) y,L[j]? = some y→y.1≠id):¬posT L id<L.length:=by
 intro h;unfold posT at h
 have:=List.findIdx_getElem (w:=h)
 exact d _ _ (List.getElem?_eq_getElem h) (by simpa using this)
theorem sD {id:Int}:cr T id=true↔posT T id<T.length:=by
 unfold cr posT;rw[List.findIdx_lt_length];simp
theorem NC {id:Int}:(decide (fdT T id≥0))=cr T id:=by
 unfold fdT;cases d:cr T id with
 | true=>rw[if_pos (sD.1 d)];simp
 | false =>
  rw[if_neg (fun h=>by rw[sD.2 h]at d;cases d)];rfl
theorem Mo {id:Int}(h:posT T id<T.length):∃x,T[posT T id]? = some x∧x.1=id∧x.2=eE T id∧x∈T:=by
 have d:=List.getElem?_eq_getElem h
 have:=List.findIdx_getElem (w:=h) (p:=fun x:Int×Int=>x.1==id)
 refine⟨_,d,eq_of_beq this,?_,List.getElem_mem h⟩;unfold eE;rw[List.getD_eq_getElem?_getD,d];rfl
theorem IU {T:List (Int×Int)}{rk:Int→Nat}(j:TK T rk):∀(f g:Nat) (id:Int),upT T rk id≤f→upT T rk id≤g→cB T f id=cB T g id
 | 0,0,_,_,_=>rfl
 | 0,g+1,id,h,_=>by
  have:cr T id=false:=by
   cases d:cr T id with
   | false=>rfl
   | true=>unfold upT at h;rw[d]at h;simp at h
  unfold cB;rw[this];simp
 | f+1,0,id,_,h=>by
  have:cr T id=false:=by
   cases d:cr T id with
   | false=>rfl
   | true=>unfold upT at h;rw[d]at h;simp at h
  unfold cB;rw[this];simp
 | f+1,g+1,id,h1,h2=>by
  unfold cB;cases d:cr T id with
  | false=>simp
  | true =>
   simp only[if_true];obtain⟨x,M,u,I,J⟩:=Mo (sD.1 d)
   have:=uZ j J
   rw[u,I]at this;rw[IU j f g (eE T id) (by omega) (by omega)]
theorem OE {rk:Int→Nat}(d:TK T rk){id:Int}(h:cr T id=true):dh T id=id::dh T (eE T id):=by
 obtain⟨x,O,j,u,I⟩:=Mo (sD.1 h);have J:=uZ d I;rw[j,u]at J;have M:=AM d id;unfold dh
 conv=>lhs;unfold cB
 rw[if_pos h,IU d T.length (T.length+1) (eE T id) (by omega) (by omega)]
theorem Qb {id:Int}(h:cr T id=false):dh T id=[]:=by
 unfold dh cB;rw[h];simp
theorem Kv {T:List (Int×Int)}:∀(f:Nat) (id:Int),(cB T f id).length≤f
 | 0,_=>Nat.le_refl _
 | f+1,id=>by
  unfold cB;split
  ·have:=Kv (T:=T) f (eE T id);simp;omega
  ·simp
structure TM (w:World) (B t:Nat) (T:List (Int×Int)):Prop where
 row:∃a c,blk w t 188 [.slice a T.length c]∧w.ownsRow B 277 2 (.slice a T.length c) T.length (T.flatMap tnC)
 lo:B≤t
theorem TM.fresh {t:Nat}(h:TM w B t T)(u:Below w.heap.size w w'):TM w' B t T:=by
 obtain⟨a,c,d,j⟩:=h.row;exact⟨⟨a,c,ac u d d.lt,cJ j fun k I=>u.block k (World.ownsRow.lt j k I).2⟩,h.lo⟩
theorem TM.keep {t:Nat}{Ts:List TypeId}(h:TM w B t T)(d:Keep Ts b w w')(I:188∉Ts)(J:277∉Ts):TM w' B t T:=by
 obtain⟨a,c,j,u⟩:=h.row;exact⟨⟨a,c,d.blk j (.inr I),ff u d J⟩,h.lo⟩
theorem lg (h:K (.pointer (some ⟨b,o+0,none⟩)) w):af Tryz.prog 188 (.pointer (some ⟨b,o,none⟩)) 0 K w:=aK (by kernel_rfl) h
theorem Re (h:K (.pointer (some ⟨b,o+0,none⟩)) w):af Tryz.prog 277 (.pointer (some ⟨b,o,none⟩)) 0 K w:=aK (by kernel_rfl) h
theorem Rf (h:K (.pointer (some ⟨b,o+1,none⟩)) w):af Tryz.prog 277 (.pointer (some ⟨b,o,none⟩)) 1 K w:=aK (by kernel_rfl) h
section
variable {w:World}{K:KV}{B t:Nat}{T:List (Int×Int)}
theorem Wi {o s:Int}(J : -9223372036854775808≤o∧o≤9223372036854775807)(M:0≤s)(h:K (u6 (if o<1∨6<o∨s<1∨1099511627776≤s then 0 else o*1099511627776+s)) w):call Tryz.prog 149 #[.int .i64 o,.int .u64 s] K w:=by
 refine aj (goK func149) (II ?_);refine aM ?_;by_cases d:o<1
 ·rw[if_pos (by omega)]at h;refine jy d <|bO d <|fV <|bX <|fV <|bX ?_;exact bu h
 refine dX d <|de <|bw d ?_;by_cases j:6<o
 ·rw[if_pos (by omega)]at h;refine jy j <|bO j <|fV <|bX ?_;exact bu h
 refine dX j <|aM <|bw j ?_;by_cases u:s<1
 ·rw[if_pos (by omega)]at h;refine jy u <|bO u ?_;exact bu h
 refine dX u <|bM <|bw u ?_;by_cases I:1099511627776≤s
 ·rw[if_pos (by omega)]at h;exact ax I h
 rw[if_neg (by omega)]at h;refine aq I <|dS underlying3 underlying31 ?_;rw[gF,show o%18446744073709551616=o by omega];refine Cg (by omega) ?_;have e:o*2 ^ (min (40:Int).toNat IntKind.u64.bits)=o*1099511627776:=rfl;rw[e,gF,show o*1099511627776%18446744073709551616=o*1099511627776 by omega];refine jS ?_;rw[gF,show (o*1099511627776+s)%18446744073709551616=o*1099511627776+s by omega];exact h
theorem JP {id:Int}(ht:TM w B t T)(hn:T.length≤1000000)(h:K (.int .i64 (fdT T id)) w):call Tryz.prog 185 #[.pointer (some ⟨t,0,none⟩),.int .u64 id] K w:=by
 obtain⟨a,c,X,ho⟩:=ht.row;refine aj (goK func185) (BN ?_);refine zX (Inv:=fun i wr=>∃k:Nat,i=.int .i64 (k:Nat)∧k≤T.length∧wr=w∧∀j y,j<k→T[j]? = some y→y.1≠id) (μ:=fun i _=>T.length-(intOf i).toNat) ⟨0,rfl,by omega,rfl,fun j y Z=>by omega⟩ ?_;rintro _ dd wr m ⟨k,rfl,hk,rfl,d⟩ hm;refine ai <|lg <|lK (v:=.slice a T.length c) X rfl <|bj underlying186 <|aM ?_;by_cases I:k<T.length
 ·refine ax (by omega) <|ai <|lg <|lK (v:=.slice a T.length c) X rfl ?_;have M:T[k]? = some T[k]:=List.getElem?_eq_getElem I;generalize T[k]=x at M;refine rd3 (enc:=tnC) (s:=2) (f':=0) (v:=u6 x.1) underlying186 (fun _=>by kernel_rfl) xa (fun _=>by kernel_rfl) (by kernel_rfl) (by omega) ho rfl M rfl fun _ _=>?_;refine bg ?_;by_cases J:x.1=id
  ·refine ax J ?_;have U:=TR M J d;unfold fdT at h;rw[U,if_pos I]at h;exact h
  ·refine aq J <|aW (by omega) (by omega) ?_;refine⟨⟨k+1,ivS,by omega,rfl,fun j y Z u=>?_⟩,by rw[hm];show T.length-((k:Int)+1).toNat<T.length-(k:Int).toNat;omega⟩;by_cases O:j=k
   ·subst O;rw[M]at u;cases u;exact J
   ·exact d j y (by omega) u
 ·refine aq (by omega) <|zY ?_;have U:=Qg (L:=T) (id:=id) fun j y u=>d j y (by have:=(List.getElem?_eq_some_iff.1 u).1;omega) u;unfold fdT at h;rw[if_neg U]at h;exact h
theorem ME {id:Int}(j:TM w B t T)(d:T.length≤1000000)(h:K (.bool (cr T id)) w):call Tryz.prog 184 #[.pointer (some ⟨t,0,none⟩),.int .u64 id] K w:=by
 refine aj (goK func184) (Cs ?_);refine JP j d <|bM ?_;rw[show decide (0≤fdT T id)=cr T id from NC];exact h
theorem Bv :(Tryz.prog.info? 31).map (fun i=>(i.zero,i.size,i.bytes))=some (some (u6 0),1,8):=by kernel_rfl
theorem Gf {id:Int}{rk:Int→Nat}(ag:TK T rk)(ht:TM w B t T)(hn:T.length≤100000)(h:∀w' a c,w'.ownsRow w.heap.size 31 1 (.slice a (dh T id).length c) (dh T id).length ((dh T id).map u6)→Below w.heap.size w w'→K (.slice a (dh T id).length c) w'):call Tryz.prog 152 #[.pointer (some ⟨t,0,none⟩),.int .u64 id] K w:=by
 refine aj (goK func152) (BM ?_);refine zU (Inv:=fun J a3 wr=>∃(d:Int) (O:List Int) (a:Option Addr) (c:Nat),J=.int .u64 d∧a3=.slice a O.length c∧O++dh T d=dh T id∧wr.ownsRow w.heap.size 31 1 (.slice a O.length c) O.length (O.flatMap uC)∧Below w.heap.size w wr)
  (μ:=fun J _ _=>upT T rk (intOf J)) ⟨id,[],none,0,rfl,rfl,rfl,World.ownsRow_nil _ _ _ _,Below.refl _ _⟩ ?_
 rintro _ _ dd w1 m ⟨d,O,a,c,rfl,rfl,X,ho,b1⟩ hm;have a2:=ht.fresh b1;have a6:O.length≤T.length+1:=by
  have:=Kv (T:=T) (T.length+1) id
  have M:=congrArg List.length X;rw[List.length_append]at M;unfold dh at M;omega
 refine JP a2 (by omega) <|bM ?_;have hf:decide (0≤fdT T d)=cr T d:=NC;rw[hf];cases u:cr T d with
 | true =>
  refine bu ?_;rw[OE ag u]at X;obtain⟨x,hx,e1,e2,Z⟩:=Mo (sD.1 u);have al:=uZ ag Z;rw[e1,e2]at al;refine mY (vs:=[.int .u64 d]) underlying120 (s:=1) (by kernel_rfl) (by kernel_rfl) (by omega) rfl (by simp) (by simp) (by simp) (by simp[Value.cells]) fun w2 M b2 s2=>?_;have M:blk w2 w1.heap.size 31 (uC d):=by simpa[Value.cells,u6,uC]using M
  obtain⟨ii,ar,hz,a0,an⟩:=info_parts Bv;have av:w2.ownsRow w.heap.size 31 1 (.slice a O.length c) O.length (O.flatMap uC):=cJ ho fun q u=>b2.block q (World.ownsRow.lt ho q u).2;have aS:=b1.size
  refine tf (base:=w.heap.size) (enc:=uC) (x:=d) underlying120 ar hz a0 an rfl (by omega) (fun _=>rfl) av M (by simp[uC,u6,Value.oneCell']) (by omega) (by omega) (by omega) fun a' c' w3 az _ b3 _=>?_;have U:Below w.heap.size w w3:=(b1.trans (b2.mono aS)).trans b3;have ad:TM w3.drew B t T:=(ht.fresh U).fresh (Below.refl _ w3).drew;obtain⟨ta,tc,tb,a4⟩:=ad.row
  obtain⟨g,am,rfl,op⟩:=cq a4 (by have:=sD.1 u;omega);refine aw (fun y=>blk y t 188 [.slice (some ⟨g,0,none⟩) T.length tc]∧blk y g 277 am) ⟨tb,op.blk⟩ <|ab (fun y I _=>ai) <|ab (fun y I _=>lg) <|ab (v:=.slice (some ⟨g,0,none⟩) T.length tc) (fun y I _=>lK I.1 rfl) <|JP ad (by omega) <|aE ⟨tb,op.blk⟩ ?_;have ap:fdT T d=(posT T d:Nat):=by unfold fdT;rw[if_pos (sD.1 u)]
  rw[ap];have a7:=sD.1 u;refine ab (v:=.pointer (some ⟨g,0+((posT T d:Nat):Int).toNat*2,none⟩)) (fun y I _=>dJ underlying186 (s:=2) (fun _=>by kernel_rfl) (by omega) (by omega)) <|ab (fun y I _=>Rf) <|ab (v:=u6 (eE T d)) (fun y I _=>lK I.2 (by rw[Int.toNat_natCast,Nat.zero_add,op.cell xa rfl hx (by omega), ←e2];rfl)) ?_
  refine⟨⟨eE T d,O++[d],a',c',rfl,by rw[List.length_append];rfl,by rw[←X,List.append_assoc];rfl,by rw[List.length_append];exact az,U.drew⟩,?_⟩;rw[hm];exact al
 | false =>
  refine aO <|zW ?_;rw[Qb u,List.append_nil]at X;subst X;rw[Gi]at ho;exact h w1 a c ho b1
end
abbrev gtI (id:Int):Int×Int→Bool:=fun x=>decide (id<x.1)
abbrev CN :List TypeId:=[188,277]
section
variable {w:World}{K:KV}{B t:Nat}{T:List (Int×Int)}
theorem LL :(Tryz.prog.info? 277).map (fun i=>(i.zero,i.size,i.bytes))=some (some (.agg #[u6 0,u6 0]),2,16):=by kernel_rfl
theorem NZ {id par:Int}(ht:TM w B t T)(hn:T.length≤1000)(hB:B≤w.heap.size)(q1:Y1=.pointer (some ⟨t,0,none⟩))(q2:Z1=.int .u64 id)(q3:U2=.int .u64 par)(q4:V2=.int .i64 (T.length:Nat))(h:∀w',TM w' B t (fl T (oG (gtI id) T T.length) (id,par))→Keep CN B w w'→K (.int .i64 0) w'):lT K ((bB Y1 Z1 U2 V2 W2 X2 Y2 Z2 U3 V3 W3 X3 Y3 Z3 j4 zf)) w:=by
 subst q1 q2 q3 q4;obtain⟨a,c,hb,ho⟩:=ht.row;refine AS <|ai <|lg <|lK (v:=.slice a T.length c) hb rfl <|eT (vs:=tnC (0,0)) (by kernel_rfl) ?_;refine mY (vs:=[.agg (tnC (0,0)).toArray]) underlying186 (s:=2) (by kernel_rfl) (by kernel_rfl) (by omega) rfl (by simp) (by simp) (by simp) (by simp[Value.cells,tnC]) fun w1 h1 b1 s1=>?_
 have h1:blk w1 w.heap.size 277 (tnC (0,0)):=by simpa[Value.cells]using h1
 obtain⟨ii,a7,hz,be,a6⟩:=info_parts LL;have ap:w1.ownsRow B 277 2 (.slice a T.length c) T.length (T.flatMap tnC):=cJ ho fun q hq=>b1.block q (World.ownsRow.lt ho q hq).2;have a4:blk w1 t 188 [.slice a T.length c]:=ac b1 hb hb.lt;refine tf (base:=B) (x:=(0,0)) underlying186 a7 hz be a6 rfl (by omega) xa ap h1 (Gh _) (by omega) (by omega) (by omega) fun a2 J w2 bb aS b2 _=>?_
 have k2:Keep CN B w w2:=(Keep.of b1).trans (Keep.grown aS ap (by simp) (Nat.le_refl _));have al:blk w2 t 188 [.slice a T.length c]:=fL a4 ap (by decide) aS;refine ai <|lg ?_;refine eB (fun _=>by kernel_rfl) al (by simp) rfl fun w3 am o3=>?_;have am:blk w3 t 188 [.slice a2 (T.length+1) J]:=am;have a0:=eZ bb al (by decide) o3
 have k3:Keep CN B w w3:=k2.trans (o3.keep al (by simp) ht.lo);rw[←insA_end]at a0;refine AU (Inv:=fun ag _ _ _ _ _ _ _ _ _ _ _ wr=>∃(k:Nat) (z:Int×Int),ag=.int .i64 (k:Nat)∧k≤T.length∧oG (gtI id) T T.length=oG (gtI id) T k∧blk wr t 188 [.slice a2 (T.length+1) J] ∧
   wr.ownsRow B 277 2 (.slice a2 (T.length+1) J) (T.length+1) ((fl T k z).flatMap tnC)∧Keep CN B w wr)
  (μ:=fun ag _ _ _ _ _ _ _ _ _ _ _ _=>(intOf ag).toNat) ⟨T.length,(0,0),rfl,Nat.le_refl _,rfl,am,a0,k3⟩ ?_
 rintro _ _ _ _ _ _ _ _ _ _ _ _ dd w4 m ⟨k,z,rfl,hk,Z,O,ar,k4⟩ hm;have az:∀{Y1 Z1 U2 V2 W2 X2 Y2 Z2 U3 V3 W3 X3 Y3 Z3 j4:Value} {zf:Nat→Value} {w5:World},Y1=.pointer (some ⟨t,0,none⟩)→Z1=.int .u64 id→U2=.int .u64 par→V2=.int .i64 (k:Nat)→blk w5 t 188 [.slice a2 (T.length+1) J] →
   w5.ownsRow B 277 2 (.slice a2 (T.length+1) J) (T.length+1) ((fl T k z).flatMap tnC)→Keep CN B w w5→oG (gtI id) T k=k→fX K ((bB Y1 Z1 U2 V2 W2 X2 Y2 Z2 U3 V3 W3 X3 Y3 Z3 j4 zf)) w5:=by
  intro Y1 Z1 U2 V2 W2 X2 Y2 Z2 U3 V3 W3 X3 Y3 Z3 j4 zf w5 q1 q2 q3 q4 an M k5 a8;subst q1 q2 q3 q4;refine AW <|ai <|lg <|lK (v:=.slice a2 (T.length+1) J) an rfl <|eT (vs:=tnC (id,par)) (by kernel_rfl) ?_;obtain⟨g,av,rfl,u⟩:=cq M (by omega);refine dJ underlying186 (s:=2) (fun _=>by kernel_rfl) (by omega) (by omega) ?_
  refine u.sto xa ou (by omega) (by kernel_rfl) (Gh _) fun w6 o6 a3=>?_;rw[wJ hk]at a3;refine h w6 ⟨⟨some ⟨g,0,none⟩,J,?_,?_⟩,ht.lo⟩ (k5.trans (o6.keep u.blk (by simp) u.lo))
  ·rw[ou];exact o6.blk an (fun hh=>(an.ne u.blk (by decide)) hh)
  ·rw[Z,a8,ou];exact a3
 refine de ?_;by_cases X:(0:Int)<(k:Nat)
 ·refine dD X ?_;obtain⟨k,rfl⟩:=Nat.exists_eq_succ_of_ne_zero (show k≠0 by omega);have ek:((k.succ:Nat):Int)-1=(k:Nat):=by omega
  have a9:k<T.length:=by omega
  have hx:T[k]? = some T[k]:=List.getElem?_eq_getElem a9;generalize T[k]=x at hx;have ad:(fl T k.succ z)[k]? = some x:=by have:=Hi (L:=T) (z:=z) (show 0<k.succ by omega) hk;rw[Nat.succ_sub_one]at this;rw[this];exact hx
  obtain⟨g,av,rfl,u⟩:=cq ar (by omega);refine ai <|lg <|lK (v:=.slice (some ⟨g,0,none⟩) (T.length+1) J) O rfl <|bh (by omega) (by omega) ?_;rw[ek];refine dJ underlying186 (s:=2) (fun _=>by kernel_rfl) (by omega) (by omega) <|Re <|lK (v:=u6 x.1) u.blk (by rw[Int.toNat_natCast,Nat.zero_add];exact u.cell xa ou ad (show 0<2 by omega)) <|de <|bO X ?_
  have hI:oG (gtI id) T (k+1)=if id<x.1 then oG (gtI id) T k else k+1:=by
   conv=>lhs;unfold oG
   rw[hx];simp[gtI]
  by_cases U:id<x.1
  ·refine ax U ?_;rw[if_pos U]at hI;have j:blk w4.drew t 188 [.slice (some ⟨g,0,none⟩) (T.length+1) J]:=O;have I:Opn w4.drew B 277 2 (T.length+1) J g av ((fl T k.succ z).flatMap tnC):=⟨u.blk,u.lo,u.nc,u.cm,u.len,u.take,u.xl⟩
   refine aa (fun _=>ai) <|aa (fun _=>lg) <|aa (v:=.slice (some ⟨g,0,none⟩) (T.length+1) J) (fun _=>lK j rfl) <|aa (fun _=>ai) <|aa (fun _=>lg) <|aa (v:=.slice (some ⟨g,0,none⟩) (T.length+1) J) (fun _=>lK j rfl) <|aa (v:=.int .i64 (k:Nat)) (fun K d=>bh (by omega) (by omega) (by rw[ek];exact d)) <|aa (v:=.pointer (some ⟨g,0+((k:Nat):Int).toNat*2,none⟩)) (fun _=>dJ underlying186 (s:=2) (fun _=>by kernel_rfl) (by omega) (by omega)) <|aa (v:=.agg (tnC x).toArray) (fun _=>ldA (n:=2) (vs:=tnC x) underlying277 rfl (by kernel_rfl) I.blk (by rw[Int.toNat_natCast,Nat.zero_add];exact I.elem xa ou ad) rfl) <|aa (v:=.pointer (some ⟨g,0+((k.succ:Nat):Int).toNat*2,none⟩)) (fun _=>dJ underlying186 (s:=2) (fun _=>by kernel_rfl) (by omega) (by omega)) ?_
   refine I.sto xa ou (by omega) (by kernel_rfl) (Gh _) fun w5 o5 M=>?_;rw[wJ hk]at M;have bd:fl T k.succ x=fl T k x:=by have:=Dk (L:=T) (x:=x) (show 0<k.succ by omega) (by rw[Nat.succ_sub_one];exact hx);rwa[Nat.succ_sub_one]at this
   rw[bd]at M;refine bh (by omega) (by omega) ?_;refine⟨⟨k,x,congrArg (Value.int .i64) ek,by omega,by rw[Z];exact hI,o5.blk j (fun hh=>(j.ne I.blk (by decide)) hh),M,k4.drew.trans (o5.keep I.blk (by simp) I.lo)⟩,by rw[hm];show (((k.succ:Nat):Int)-1).toNat<((k.succ:Nat):Int).toNat;omega⟩
  ·refine aq U ?_;rw[if_neg U]at hI;exact az rfl rfl rfl rfl O ar k4 hI
 ·have:k=0:=by omega
  subst this;refine dY X <|bw X <|aO ?_;exact az rfl rfl rfl rfl O ar k4 rfl
theorem Vx {id par:Int}{rk:Int→Nat}(U:TK T rk)(u:TM w B t T)(hn:T.length≤1000)(hB:B≤w.heap.size)(h:∀w',TM w' B t (iX T id par).1→Keep CN B w w'→K (.int .i64 (iX T id par).2) w'):call Tryz.prog 150 #[.pointer (some ⟨t,0,none⟩),.int .u64 id,.int .u64 par] K w:=by
 refine aj (goK func150) (Cr ?_);unfold iX at h;refine bg ?_;by_cases X:id=0
 ·rw[if_pos X]at h;refine ax X ?_;exact h w u (Keep.refl _ _ _)
 rw[if_neg X]at h;refine aq X <|ME u (by omega) ?_;cases hq:cr T id with
 | true =>
  rw[if_pos hq]at h;refine bu ?_;exact h w u (Keep.refl _ _ _)
 | false =>
 rw[if_neg (by rw[hq];simp)]at h;refine aO <|bN ?_;by_cases M:par≠0∧cr T par=false
 ·rw[if_pos M]at h;refine dD M.1 <|ME u (by omega) ?_;rw[M.2];refine dB <|bO M.1 <|bu ?_;exact h w u (Keep.refl _ _ _)
 rw[if_neg M]at h;by_cases I:par≠0
 ·have ad:cr T par=true:=by
   cases hh:cr T par with
   | true=>rfl
   | false=>exact absurd ⟨I,hh⟩ M
  refine dD I <|ME u (by omega) ?_;rw[ad];refine dB <|bO I <|aO ?_;obtain⟨a,c,J,ho⟩:=u.row;refine ai <|lg <|lK (v:=.slice a T.length c) J rfl <|bj underlying186 <|bM ?_;by_cases d:(32:Int)≤(T.length:Nat)
  ·rw[if_pos (.inl (by omega))]at h;refine jy d <|bO d <|bu ?_;exact h w u (Keep.refl _ _ _)
  refine dX d ?_;refine Gf U u (by omega) fun w2 ap cp op b2=>?_;have j:=u.fresh b2;obtain⟨a,c,J,ho⟩:=j.row;refine bj underlying120 <|bM <|bw d ?_;by_cases O:(4:Int)≤((dh T par).length:Nat)
  ·rw[if_pos (.inr (by omega))]at h;refine ax O ?_;exact h w2 j (Keep.of b2)
  refine aq O ?_;rw[if_neg (by omega)]at h;refine ai <|lg <|lK (v:=.slice a T.length c) J rfl <|bj underlying186 ?_;exact NZ j hn (Nat.le_trans hB b2.size) rfl rfl rfl rfl fun w' Z h2=>h w' Z ((Keep.of b2).trans h2)
 ·refine dY I <|bw I <|aO ?_;obtain⟨a,c,J,ho⟩:=u.row;refine ai <|lg <|lK (v:=.slice a T.length c) J rfl <|bj underlying186 <|bM ?_;by_cases d:(32:Int)≤(T.length:Nat)
  ·rw[if_pos (.inl (by omega))]at h;refine jy d <|bO d <|bu ?_;exact h w u (Keep.refl _ _ _)
  refine dX d ?_;refine Gf U u (by omega) fun w2 ap cp op b2=>?_;have j:=u.fresh b2;obtain⟨a,c,J,ho⟩:=j.row;refine bj underlying120 <|bM <|bw d ?_;by_cases O:(4:Int)≤((dh T par).length:Nat)
  ·rw[if_pos (.inr (by omega))]at h;refine ax O ?_;exact h w2 j (Keep.of b2)
  refine aq O ?_;rw[if_neg (by omega)]at h;refine ai <|lg <|lK (v:=.slice a T.length c) J rfl <|bj underlying186 ?_;exact NZ j hn (Nat.le_trans hB b2.size) rfl rfl rfl rfl fun w' Z h2=>h w' Z ((Keep.of b2).trans h2)
end
end
section
open Go.RowKit
theorem Ef (h:bin Q .geq 3 false true Y1 (ci 1) (fun A1 w=>aI A1 true (fun j=>bin Q .leq 3 false true Y1 (ci 6) (fun A4=>j [Y1,A4]) w) (fun k=>k [uu,uu] w) fun d=>pick A1 (gd d 1) cF K) w):Gives Q 115 #[Y1] w K:=by
 refine aB func115 (by kernel_rfl) ?_;exact mpK h
def eX (e1 A0 x3 C1 C2:Value)(zf:Nat→Value):List Value:=zf 0::e1::A0::x3::zT zf 4 10 (C1::C2::zT zf 16 44 ([]))
def dA (K:KV):KE:=ae Q (cd f116 [1,1,1]) (rk f116 K) xf (rk f116 K)
def oR (K:KV):KE:=ae Q (cd f116 [1,1,0,1]) (dA K) xf (rk f116 K)
def ku (K:KV):KE:=ae Q (cd f116 (b1 117)) (dA K) (xx xf (dA K) 0) (rk f116 K)
def oS (K:KV):KE:=ae Q (cd f116 (b1 233)) (ku K) (xx xf (dA K) 0) (rk f116 K)
theorem Hq {K:KV}{e0:Value}{w:World}(h:box Q 54 e0 (fun Y1=>alc Q 54 fun Z1=>af Q 54 Y1 0 fun A1=>ld Q 3 A1 fun A2=>af Q 54 Y1 1 fun A3=>ld Q 31 A3 fun A4=>af Q 54 Y1 2 fun A5=>ld Q 35 A5 fun A6=>af Q 54 Y1 3 fun A7=>ld Q 5 A7 fun A8=>bld Q 54 #[(0,A2),(1,A4),(2,A6),(3,A8)] fun A9=>alc Q 54 fun U2=>sto Q 54 U2 A9 fun _=>af Q 54 Y1 3 fun C0=>ld Q 5 C0 fun V2=>oR K (eX Y1 Z1 U2 V2 uu (zV (zV zu 0 [e0]) 4 [A1,A2,A3,A4,A5,A6,A7,A8,A9,C0]))) w):Gives Q 116 #[e0] w K:=by
 refine aB func116 (by kernel_rfl) ?_
 refine Eq.mp (congrArg (fun c=>ae Q c _ _ _ _ w) (by kernel_rfl:(rep [1,1,0,1] (cd f116 [1,1,0,1]) (cd f116 []))=(cd f116 []))) ?_
 revert h
 delta oR dA
 generalize (cd f116 [1,1,0,1])=xc0
 exact mpF
theorem Fd (h:bin Q .eql 5 false true V2 (cb 1) (fun C3=>oS K (eX Y1 Z1 U2 V2 C3 (zV zf 16 [C3]))) w):oR K (eX Y1 Z1 U2 V2 W2 zf) w:=by
 delta oR
 refine Eq.mp (congrArg (fun c=>ae Q c _ _ _ _ w) (by kernel_rfl:(rep [0,0,1] (cd f116 (b1 233)) (cd f116 [1,1,0,1]))=(cd f116 [1,1,0,1]))) ?_
 revert h
 delta oS ku
 generalize (cd f116 (b1 233))=xc0
 generalize (dA K)=qc0
 exact mpF
theorem Fe (h:cond W2 (ku K (eX Y1 Z1 U2 V2 W2 zf) w) (bin Q .eql 5 false true V2 (cb 2) (fun C4=>ku K (eX Y1 Z1 U2 V2 C4 (zV zf 17 [C4]))) w)):oS K (eX Y1 Z1 U2 V2 W2 zf) w:=by
 delta oS;revert h;generalize (ku K)=qc0;generalize (dA K)=qc1;exact mpF
theorem xr (h:cond W2 (af Q 54 Y1 4 (fun C5=>ld Q 31 C5 fun C6=>af Q 54 U2 4 fun C7=>sto Q 31 C7 C6 fun _=>af Q 54 Y1 6 fun C8=>ld Q 2 C8 fun C9=>af Q 54 U2 6 fun D0=>sto Q 2 D0 C9 fun _=>dA K (eX Y1 Z1 U2 V2 W2 (zV zf 18 [C5,C6,C7,C8,C9,D0]))) w) (bin Q .eql 5 false true V2 (cb 3) (fun D2 w=>cond D2 (af Q 54 Y1 4 (fun D3=>ld Q 31 D3 fun D4=>af Q 54 U2 4 fun D5=>sto Q 31 D5 D4 fun _=>af Q 54 Y1 6 fun D6=>ld Q 2 D6 fun D7=>af Q 54 U2 6 fun D8=>sto Q 2 D8 D7 fun _=>af Q 54 Y1 7 fun D9=>ld Q 31 D9 fun E0=>af Q 54 U2 7 fun E1=>sto Q 31 E1 E0 fun _=>dA K (eX Y1 Z1 U2 V2 W2 (zV zf 24 [D2,D2,D3,D4,D5,D6,D7,D8,D9,E0,E1]))) w) (bin Q .eql 5 false true V2 (cb 4) (fun E3 w=>cond E3 (af Q 54 Y1 7 (fun E4=>ld Q 31 E4 fun E5=>af Q 54 U2 7 fun E6=>sto Q 31 E6 E5 fun _=>af Q 54 Y1 8 fun E7=>ld Q 31 E7 fun E8=>af Q 54 U2 8 fun E9=>sto Q 31 E9 E8 fun _=>dA K (eX Y1 Z1 U2 V2 W2 (zV (zV zf 24 [D2,D2]) 35 [E3,E3,E4,E5,E6,E7,E8,E9]))) w) (bin Q .eql 5 false true V2 (cb 5) (fun F1 w=>cond F1 (af Q 54 Y1 4 (fun F2=>ld Q 31 F2 fun F3=>af Q 54 U2 4 fun F4=>sto Q 31 F4 F3 fun _=>af Q 54 Y1 6 fun F5=>ld Q 2 F5 fun F6=>af Q 54 U2 6 fun F7=>sto Q 2 F7 F6 fun _=>af Q 54 Y1 5 fun F8=>ld Q 3 F8 fun F9=>af Q 54 U2 5 fun G0=>sto Q 3 G0 F9 fun _=>dA K (eX Y1 Z1 U2 V2 W2 (zV (zV (zV zf 24 [D2,D2]) 35 [E3,E3]) 43 [F1,F1,F2,F3,F4,F5,F6,F7,F8,F9,G0]))) w) (bin Q .eql 5 false true V2 (cb 6) (fun G2 w=>cond G2 (af Q 54 Y1 5 (fun G3=>ld Q 3 G3 fun G4=>af Q 54 U2 5 fun G5=>sto Q 3 G5 G4 fun _=>dA K (eX Y1 Z1 U2 V2 W2 (zV (zV (zV (zV zf 24 [D2,D2]) 35 [E3,E3]) 43 [F1,F1]) 54 [G2,G2,G3,G4,G5]))) w) (dA K (eX Y1 Z1 U2 V2 W2 (zV (zV (zV (zV zf 24 [D2,D2]) 35 [E3,E3]) 43 [F1,F1]) 54 [G2,G2])) w)) w)) w)) w)) w)):ku K (eX Y1 Z1 U2 V2 W2 zf) w:=by
 delta ku;revert h;generalize (dA K)=qc0;exact mpF
theorem Ff (h:ld Q 54 U2 (fun G6=>sto Q 54 Z1 G6 fun _=>bp Q [(some 54,Z1)] K) w):dA K (eX Y1 Z1 U2 V2 W2 zf) w:=by
 delta dA;exact mpK h
attribute [irreducible] dA oR ku oS
def kt (e1 some3 other4 D1 D2 D8 D9 E0 E9 F0 F1 F9 G0 G1 G4 G5 G6 G7 G8 G9 H1:Value)(zf:Nat→Value):List Value:=zf 0::e1::zf 2::some3::other4::zT zf 5 19 (D1::D2::zT zf 26 5 (D8::D9::E0::zT zf 34 8 (E9::F0::F1::zT zf 45 7 (F9::G0::G1::zf 55::zf 56::G4::G5::G6::G7::G8::zf 62::G9::zT zf 64 3 (H1::zT zf 68 7 ([]))))))
def fm (K:KV):KE:=ae Q (cd f117 [1,1,1,1]) (rk f117 K) xf (rk f117 K)
def lE (K:KV):KE:=ae Q (cd f117 (b1 245)) (fm K) (xx xf (fm K) 0) (rk f117 K)
def nk (K:KV):KE:=ae Q (cd f117 (b1 62975)) (fm K) (xx xf (fm K) 0) (rk f117 K)
theorem Ei {K:KV}{e0:Value}{w:World}(h:box Q 54 e0 (fun Y1=>af Q 54 Y1 6 fun A2=>ld Q 2 A2 fun A3=>bin Q .geq 2 false true A3 (ci 1) fun A4 w=>aI A4 true (fun k9=>af Q 54 Y1 6 (fun A6=>ld Q 2 A6 fun A7=>bin Q .leq 2 false true A7 (ci 1125899906842624) fun A8=>k9 [A6,A7,A8]) w) (fun k=>k [uu,uu,uu] w) fun us9=>pick A4 (gd us9 2) cF fun A9=>af Q 54 Y1 5 fun C0=>ld Q 3 C0 fun C1=>call Q 115 #[C1] fun C2 w=>aI C2 true (fun k17=>af Q 54 Y1 5 (fun C4=>ld Q 3 C4 fun C5=>af Q 54 Y1 0 fun C6=>ld Q 3 C6 fun C7=>bin Q .neq 3 false false C5 C7 fun C8=>k17 [C4,C5,C6,C7,C8]) w) (fun k=>k [uu,uu,uu,uu,uu] w) fun us17=>pick C2 (gd us17 4) cF fun C9=>af Q 54 Y1 3 fun D0=>ld Q 5 D0 fun V2=>bin Q .eql 5 false true V2 (cb 1) fun D3=>lE K (kt Y1 A9 C9 V2 D3 uu uu uu uu uu uu uu uu uu uu uu uu uu uu uu uu (zV (zV (zV (zV zu 0 [e0]) 2 [cF]) 5 [A2,A3,A4,A4,gd us9 0,gd us9 1,gd us9 2,A9,C0,C1,C2,C2,gd us17 0,gd us17 1,gd us17 2,gd us17 3,gd us17 4,C9,D0]) 26 [D3]))) w):Gives Q 117 #[e0] w K:=by
 refine aB func117 (by kernel_rfl) ?_
 refine Eq.mp (congrArg (fun c=>ae Q c _ _ _ _ w) (by kernel_rfl:(rep (b1 245) (cd f117 (b1 245)) (cd f117 []))=(cd f117 []))) ?_
 revert h
 delta lE fm
 generalize (cd f117 (b1 245))=xc0
 exact mpF
theorem Co (h:cond W2 (af Q 54 Y1 6 (fun D4=>ld Q 2 D4 fun D5=>bin Q .geq 2 false true D5 (ci 0) fun D6 w=>aI D6 true (fun k31=>af Q 54 Y1 6 (fun X2=>ld Q 2 X2 fun Y2=>bin Q .leq 2 false true Y2 (ci 1125899906842624) fun Z2=>k31 [X2,Y2,Z2]) w) (fun k=>k [uu,uu,uu] w) fun us31=>pick D6 (gd us31 2) cF K) w) (bin Q .eql 5 false true V2 (cb 2) (fun E3 w=>cond E3 (K Z1 w) (bin Q .eql 5 false true V2 (cb 3) (fun E6 w=>cond E6 (aI Z1 true (fun k42=>af Q 54 Y1 7 (fun U3=>ld Q 31 U3 fun V3=>bin Q .geq 31 false true V3 (cu 1) fun W3=>k42 [U3,V3,W3]) w) (fun k=>k [uu,uu,uu] w) fun us42=>pick Z1 (gd us42 2) cF K) (bin Q .eql 5 false true V2 (cb 4) (fun F4 w=>cond F4 (af Q 54 Y1 7 (fun F5=>ld Q 31 F5 fun F6=>bin Q .geq 31 false true F6 (cu 1) fun F7 w=>aI F7 true (fun k52=>af Q 54 Y1 8 (fun X3=>ld Q 31 X3 fun Y3=>bin Q .geq 31 false true Y3 (cu 1) fun Z3=>k52 [X3,Y3,Z3]) w) (fun k=>k [uu,uu,uu] w) fun us52=>pick F7 (gd us52 2) cF fun G2 w=>aI G2 true (fun k57=>af Q 54 Y1 7 (fun j4=>ld Q 31 j4 fun U4=>af Q 54 Y1 8 fun V4=>ld Q 31 V4 fun W4=>bin Q .neq 31 false false U4 W4 fun X4=>k57 [j4,U4,V4,W4,X4]) w) (fun k=>k [uu,uu,uu,uu,uu] w) fun us57=>pick G2 (gd us57 4) cF K) w) (bin Q .eql 5 false true V2 (cb 5) (fun H0=>nk K (kt Y1 Z1 U2 V2 W2 X2 Y2 Z2 U3 V3 W3 X3 Y3 Z3 j4 U4 V4 W4 X4 H0 Z4 (zV (zV (zV (zV zf 35 [E3,E3]) 38 [E6,E6]) 46 [F4,F4]) 64 [H0]))) w)) w)) w)) w)):lE K (kt Y1 Z1 U2 V2 W2 X2 Y2 Z2 U3 V3 W3 X3 Y3 Z3 j4 U4 V4 W4 X4 Y4 Z4 zf) w:=by
 delta lE
 refine Eq.mp (congrArg (fun c=>ae Q c _ _ _ _ w) (by kernel_rfl:(rep (b1 511) (cd f117 (b1 62975)) (cd f117 (b1 245)))=(cd f117 (b1 245)))) ?_
 revert h
 delta nk
 generalize (cd f117 (b1 62975))=xc0
 generalize (fm K)=qc0
 exact mpF
theorem Cp (h:cond Y4 (aI Z1 true (fun j=>j [U2] w) (fun k=>k [uu] w) fun d=>pick Z1 (gd d 0) cF K) (bin Q .eql 5 false true V2 (cb 6) (fun H2 w=>cond H2 (K U2 w) (fm K (kt Y1 Z1 U2 V2 W2 X2 Y2 Z2 U3 V3 W3 X3 Y3 Z3 j4 U4 V4 W4 X4 Y4 Z4 (zV zf 69 [H2,H2])) w)) w)):nk K (kt Y1 Z1 U2 V2 W2 X2 Y2 Z2 U3 V3 W3 X3 Y3 Z3 j4 U4 V4 W4 X4 Y4 Z4 zf) w:=by
 delta nk;revert h;generalize (fm K)=qc0;exact mpF
theorem Cq (h:af Q 54 Y1 3 (fun H3=>ld Q 5 H3 fun H4=>bin Q .eql 5 false true H4 (cb 7) K) w):fm K (kt Y1 Z1 U2 V2 W2 X2 Y2 Z2 U3 V3 W3 X3 Y3 Z3 j4 U4 V4 W4 X4 Y4 Z4 zf) w:=by
 delta fm;exact mpK h
attribute [irreducible] fm lE nk
def pL (e1 i3 F1 F2:Value)(zf:Nat→Value):List Value:=zf 0::e1::zf 2::i3::zT zf 4 40 (F1::F2::zf 46::[])
def jG (K:KV):KE:=ae Q (cd f83 [1,1,1]) (rk f83 K) xf (rk f83 K)
def qX (K:KV):KE:=ae Q (cd f83 (b1 58)) (jG K) (xx xf (jG K) 0) (rk f83 K)
theorem Ho (h:box Q 54 Z1 (fun Y1 w=>sF 54 Y1 0 (fun A1=>sL 3 A1 fun A2=>sti (call Q 115 #[A2]) fun A3=>sti (un Q .not A3) fun A4 w=>aI A4 false (fun M=>sF 54 Y1 1 (fun A6=>sL 31 A6 fun A7=>sti (bin Q .lss 31 false true A7 (cu 1)) fun A8=>M [A6,A7,A8]) w) (fun k=>k [uu,uu,uu] w) fun u=>sti (pick A4 cT (gd u 2)) fun A9 w=>aI A9 false (fun I=>sF 54 Y1 1 (fun C1=>sL 31 C1 fun C2=>sti (bin Q .geq 31 false true C2 (cu 1099511627776)) fun C3=>I [C1,C2,C3]) w) (fun k=>k [uu,uu,uu] w) fun j=>sti (pick A9 cT (gd j 2)) fun C4 w=>aI C4 false (fun J=>sF 54 Y1 0 (fun C6=>sL 3 C6 fun C7=>sti (bin Q .sub 3 false true C7 (ci 1)) fun C8=>sF 54 Y1 2 fun C9=>sI 35 C9 C8 fun D0=>sL 31 D0 fun D1=>sF 54 Y1 1 fun D2=>sL 31 D2 fun D3=>sti (bin Q .sub 31 false true D3 (cu 1)) fun D4=>sti (bin Q .neq 31 false false D1 D4) fun D5=>J [C6,C7,C8,C9,D0,D1,D2,D3,D4,D5]) w) (fun k=>k [uu,uu,uu,uu,uu,uu,uu,uu,uu,uu] w) fun d=>sti (pick C4 cT (gd d 9)) fun D6 w=>cond D6 (K cF w) (qX K (pL Y1 (ci 0) uu uu (zV (zV (zV zu 0 [Z1]) 2 [cF]) 4 [A1,A2,A3,A4,A4,gd u 0,gd u 1,gd u 2,A9,A9,gd j 0,gd j 1,gd j 2,C4,C4,gd d 0,gd d 1,gd d 2,gd d 3,gd d 4,gd d 5,gd d 6,gd d 7,gd d 8,gd d 9,D6])) w)) w.drew) w):Gives Q 83 #[Z1] w K:=by
 refine aB func83 (by kernel_rfl) ?_;revert h;delta qX jG;exact mpF
theorem Fb (Inv:Value→World→Prop)(μ:Value→World→Nat)(I:Inv Z1 w)(J:∀(d:Value) (dd:Nat→Value) (w:World) (m:Nat),Inv d w→m=μ d w →
  bin Q .lss 3 false true d (ci 6) (fun D8 w=>cond D8 (af Q 54 Y1 2 (fun E2=>aV Q 35 E2 d fun E3=>ld Q 31 E3 fun E4=>bin Q .geq 31 false true E4 (cu 1099511627776) fun E5 w=>cond E5 (K cF w) (nC d (fun E0 w=>(Inv E0 w)∧((μ E0 w)<m)) w)) w) (jG K (pL Y1 d U2 V2 (zV dd 30 [d,D8])) w)) w):qX K (pL Y1 Z1 U2 V2 zf) w:=by
 refine aL (cd f83 (b1 116)) (zr [(2,2),(30,9)]) (by kernel_rfl) (vP [3] Inv) (vQ [3] μ) I ?_;intro e' w' hI;have h:=J _ (zM zf (fun i=>gd e' i) (zr [(2,2),(30,9)])) w' _ hI rfl;revert h;generalize (jG K)=qc0;exact mpF
theorem Fc (h:aG (fun S w=>hL S 54 Y1 fun E6=>hL S 54 Y1 fun E7=>call Q 116 #[E7] (fun E8=>aY S fun S w=>hld S (bin Q .eql 54 false false E6 E8) fun E9=>hG E9 true S (ld Q 54 Y1) fun U2=>xG E9 true (call Q 117 #[U2]) (fun V2=>aG fun S w=>hld S (pick E9 V2 cF) fun F3=>K F3 w) w) w) w.drew):jG K (pL Y1 Z1 U2 V2 zf) w:=by
 delta jG;exact mpK h
attribute [irreducible] jG qX
theorem Gp (h:box Q 35 Y1 (fun d=>box Q 54 Z1 fun j w=>aG (fun S w=>hL S 54 j fun A2=>call Q 83 #[A2] (fun A3=>aG fun S w=>hG A3 true S (af Q 54 j 1) fun A5=>hG A3 true S (ld Q 31 A5) fun A6=>hG A3 true S (af Q 54 j 0) fun A7=>hG A3 true S (ld Q 3 A7) fun A8=>hG A3 true S (bin Q .sub 3 false true A8 (ci 1)) fun A9=>hG A3 true S (aV Q 35 d A9) fun C0=>hG A3 true S (ld Q 31 C0) fun C1=>hG A3 true S (bin Q .leq 31 false false A6 C1) fun C2=>hld S (pick A3 C2 cF) fun C3=>K C3 w) w) w.drew) w):Gives Q 84 #[Y1,Z1] w K:=by
 refine aB func84 (by kernel_rfl) ?_;exact mpK h
def qp (e1 known2 e3 i5:Value)(zf:Nat→Value):List Value:=zf 0::e1::known2::e3::zf 4::i5::zT zf 6 26 ([])
def jo (K:KV):KE:=ae Q (cd f85 [1,1,1]) (rk f85 K) xf (rk f85 K)
def pM (K:KV):KE:=ae Q (cd f85 (b1 58)) (jo K) (xx xf (jo K) 0) (rk f85 K)
theorem Fg (h:box Q 35 V2 (fun Z1=>box Q 54 Y1 fun U2 w=>aG (fun S w=>hL S 54 U2 fun A3=>call Q 83 #[A3] (fun A4=>aG fun S w=>hld S (un Q .not A4) fun A5=>hG A5 false S (af Q 54 U2 1) fun A7=>hG A5 false S (ld Q 31 A7) fun A8=>hG A5 false S (af Q 54 U2 0) fun A9=>hG A5 false S (ld Q 3 A9) fun C0=>hG A5 false S (bin Q .sub 3 false true C0 (ci 1)) fun C1=>hG A5 false S (aV Q 35 Z1 C1) fun C2=>hG A5 false S (ld Q 31 C2) fun C3=>hG A5 false S (bin Q .add 31 false true C3 (cu 1)) fun C4=>hG A5 false S (bin Q .neq 31 false false A8 C4) fun C5=>hld S (pick A5 cT C5) fun C6=>cond C6 (K cF w) (pM K (qp Y1 Z1 U2 (ci 0) (zV (zV (zV zu 0 [V2]) 4 [cF]) 6 [A3,A4,A5,A5,A7,A8,A9,C0,C1,C2,C3,C4,C5,C6])) w)) w) w.drew) w):Gives Q 85 #[V2,Y1] w K:=by
 refine aB func85 (by kernel_rfl) ?_;revert h;delta pM jo;exact mpF
theorem Dq (Inv:Value→World→Prop)(μ:Value→World→Nat)(I:Inv V2 w)(J:∀(d:Value) (dd:Nat→Value) (w:World) (m:Nat),Inv d w→m=μ d w →
  bin Q .lss 3 false true d (ci 6) (fun C8 w=>cond C8 (sF 54 U2 2 (fun D2=>sI 35 D2 d fun D3=>sL 31 D3 fun D4=>sI 35 Z1 d fun D6=>sL 31 D6 fun D7=>sti (bin Q .gtr 31 false false D4 D7) fun D8 w=>cond D8 (K cF w) (nC d (fun D0 w=>(Inv D0 w)∧((μ D0 w)<m)) w)) w.drew) (jo K (qp Y1 Z1 U2 d (zV dd 20 [d,C8])) w)) w):pM K (qp Y1 Z1 U2 V2 zf) w:=by
 refine aL (cd f85 (b1 116)) (zr [(4,2),(20,12)]) (by kernel_rfl) (vP [5] Inv) (vQ [5] μ) I ?_;intro e' w' hI;have h:=J _ (zM zf (fun i=>gd e' i) (zr [(4,2),(20,12)])) w' _ hI rfl;revert h;generalize (jo K)=qc0;exact mpF
theorem Dr (h:K cT w):jo K (qp Y1 Z1 U2 V2 zf) w:=by
 delta jo;exact mpK h
attribute [irreducible] jo pM
theorem Id (h:bin Q .geq 3 false true Y1 (ci 1) (fun A3 w=>aI A3 true (fun j=>bin Q .leq 3 false true Y1 (ci 6) (fun A6=>j [Y1,A6]) w) (fun k=>k [uu,uu] w) fun d=>pick A3 (gd d 1) cF K) w):Gives Q 165 #[Y1] w K:=by
 refine aB func165 (by kernel_rfl) ?_;exact mpK h
def uK (of0 v2 A3:Value)(zf:Nat→Value):List Value:=of0::zf 1::v2::zf 3::A3::zT zf 5 9 ([])
def lW (K:KV):KE:=ae Q (cd f70 [1,1]) (rk f70 K) xf (rk f70 K)
def tP (K:KV):KE:=ae Q (cd f70 [1,0,1,0]) (lW K) (xx xf (lW K) 0) (rk f70 K)
theorem Kg (h:alc Q 35 (fun Z1=>tP K (uK Y1 Z1 (ci 0) zu)) w):Gives Q 70 #[Y1] w K:=by
 refine aB func70 (by kernel_rfl) ?_;revert h;delta tP lW;exact mpF
theorem HY (Inv:Value→World→Prop)(μ:Value→World→Nat)(I:Inv U2 w)(J:∀(d:Value) (dd:Nat→Value) (w:World) (m:Nat),Inv d w→m=μ d w →
  bin Q .lss 3 false true d (ci 6) (fun A4 w=>cond A4 (bY Q Y1 #[d] (fun A9=>aV Q 35 Z1 d fun C0=>sto Q 31 C0 A9 fun _=>nC d fun C1 w=>(Inv C1 w)∧((μ C1 w)<m)) w) (lW K (uK Y1 Z1 d (zV dd 5 [A4])) w)) w):tP K (uK Y1 Z1 U2 zf) w:=by
 refine aL (cd f70 (b1 52)) (zr [(3,10)]) (by kernel_rfl) (vP [4] Inv) (vQ [4] μ) I ?_;intro e' w' hI;have h:=J _ (zM zf (fun i=>gd e' i) (zr [(3,10)])) w' _ hI rfl;revert h;generalize (lW K)=qc0;exact mpF
theorem HZ (h:ld Q 35 Z1 (fun C2=>sto Q 35 Z1 C2 fun _=>bp Q [(some 35,Z1)] K) w):lW K (uK Y1 Z1 U2 zf) w:=by
 delta lW;exact mpK h
attribute [irreducible] lW tP
def uL (l0 l2 choose3 A3 out5 C5 C6 C7:Value)(zf:Nat→Value):List Value:=l0::zf 1::l2::choose3::A3::out5::zT zf 6 10 (C5::C6::C7::zT zf 19 7 ([]))
def lX (K:KV):KE:=ae Q (cd f112 [1,1,1,1]) (rk f112 K) xf (rk f112 K)
def tQ (K:KV):KE:=ae Q (cd f112 (b1 122)) (lX K) (xx xf (lX K) 0) (rk f112 K)
theorem Kh (h:box Q 213 Z1 (fun U2=>alc Q 35 fun V2=>lN 211 Y1 fun A8=>bin Q .eql 3 false true A8 (ci 0) fun A9 w=>cond A9 (bld Q 35 #[] (fun C0=>sto Q 35 V2 C0 fun _=>bp Q [(some 35,V2)] K) w) (aV Q 211 Y1 (ci 0) (fun C2=>ld Q 35 C2 fun C3=>alc Q 35 fun W2=>sto Q 35 W2 C3 fun _=>slc Q 211 Y1 (some (ci 1)) none none fun X2=>lN 211 X2 fun Y2=>tQ K (uL Y1 uu U2 V2 W2 X2 Y2 (ci 0) (zV (zV (zV zu 1 [Z1]) 8 [Y1,A8,A9]) 12 [Y1,C2,C3,Y1]))) w)) w):Gives Q 112 #[Y1,Z1] w K:=by
 refine aB func112 (by kernel_rfl) ?_;revert h;delta tQ lX;exact mpF
theorem Ib (Inv:Value→World→Prop)(μ:Value→World→Nat)(J:Inv Z2 w)(M:∀(d:Value) (dd:Nat→Value) (w:World) (m:Nat),Inv d w→m=μ d w →
  lS d Y2 (fun C8 w=>cond C8 (aV Q 211 X2 d (fun C9=>ld Q 35 C9 fun D0=>alc Q 35 fun I=>sto Q 35 I D0 fun _=>call Q 70 #[Value.func (Fn.func 148) #[] #[U2,W2,I]] fun D1=>sto Q 35 W2 D1 fun _=>nC d fun D2 w=>(Inv D2 w)∧((μ D2 w)<m)) w) (lX K (uL Y1 Z1 U2 V2 W2 X2 Y2 d (zV dd 19 [C8])) w)) w):tQ K (uL Y1 Z1 U2 V2 W2 X2 Y2 Z2 zf) w:=by
 refine aL (cd f112 (b1 244)) (zr [(7,1),(18,7)]) (by kernel_rfl) (vP [18] Inv) (vQ [18] μ) J ?_;intro e' w' hI;have h:=M _ (zM zf (fun i=>gd e' i) (zr [(7,1),(18,7)])) w' _ hI rfl;revert h;generalize (lX K)=qc0;exact mpF
theorem Ic (h:ld Q 35 W2 (fun D3=>sto Q 35 V2 D3 fun _=>bp Q [(some 35,V2)] K) w):lX K (uL Y1 Z1 U2 V2 W2 X2 Y2 Z2 zf) w:=by
 delta lX;exact mpK h
attribute [irreducible] lX tQ
theorem Ia (h:aG (fun S w=>hL S 213 Z1 fun A5=>hI S 35 U2 Y1 fun A7=>hL S 31 A7 fun A8=>hI S 35 V2 Y1 fun C0=>hL S 31 C0 fun C1=>bY Q A5 #[A8,C1] (fun C2=>aG fun _=>K C2) w) w.drew):Gives Q 148 #[Y1,Z1,U2,V2] w K:=by
 refine aB func148 (by kernel_rfl) ?_;exact mpK h
theorem Kd (h:alc Q 35 (fun A1=>call Q 112 #[Y1,Value.func (Fn.func 113) #[] #[]] fun A3=>sto Q 35 A1 A3 fun _=>bp Q [(some 35,A1)] K) w):Gives Q 77 #[Y1] w K:=by
 refine aB func77 (by kernel_rfl) ?_;exact mpK h
theorem HX (h:blt Q .max #[31,31] 31 #[false,false] #[Y1,Z1] K w):Gives Q 113 #[Y1,Z1] w K:=by
 refine aB func113 (by kernel_rfl) ?_;exact mpK h
theorem Ke (h:box Q 35 Y1 (fun j=>box Q 35 Z1 fun d w=>aG (fun S w=>hL S 35 j fun A4=>hL S 35 d fun A5=>hL S 35 d fun A8=>bT Q 211 2 #[(0,A4),(1,A5)] (fun A6=>aY S fun S=>call Q 77 #[A6] fun A7=>aY S fun S w=>hld S (bin Q .eql 35 false false A7 A8) fun A9=>K A9 w) w) w.drew) w):Gives Q 69 #[Y1,Z1] w K:=by
 refine aB func69 (by kernel_rfl) ?_;exact mpK h
theorem KX (h:box Q 35 Y1 (fun J=>call Q 165 #[Z1] fun A7 w=>aI A7 true (fun u=>bin Q .gtr 31 false true U2 (cu 0) (fun C0=>u [U2,C0]) w) (fun k=>k [uu,uu] w) fun d=>pick A7 (gd d 1) cF fun C1 w=>aI C1 true (fun I=>bin Q .sub 3 false true Z1 (ci 1) (fun C4=>aV Q 35 J C4 fun C5=>ld Q 31 C5 fun C6=>bin Q .geq 31 false false C6 U2 fun C8=>I [Z1,C4,C5,C6,U2,C8]) w) (fun k=>k [uu,uu,uu,uu,uu,uu] w) fun j=>pick C1 (gd j 5) cF K) w):Gives Q 141 #[Y1,Z1,U2] w K:=by
 refine aB func141 (by kernel_rfl) ?_;exact mpK h
theorem KR (h:box Q 35 Y1 (fun d=>box Q 54 Z1 fun j=>ld Q 54 j fun A0=>call Q 41 #[A0] fun A1 w=>aI A1 true (fun I=>ld Q 35 d (fun A2=>af Q 54 j 0 fun A3=>ld Q 3 A3 fun A4=>af Q 54 j 1 fun A5=>ld Q 31 A5 fun A6=>call Q 141 #[A2,A4,A6] fun A7=>I [A2,A3,A4,A5,A6,A7]) w) (fun k=>k [uu,uu,uu,uu,uu,uu] w) fun u=>pick A1 (gd u 5) cF K) w):Gives Q 97 #[Y1,Z1] w K:=by
 refine aB func97 (by kernel_rfl) ?_;exact mpK h
theorem JI (h:box Q 35 Y1 (fun d=>box Q 54 Z1 fun j w=>aG (fun S w=>hL S 54 j fun A0=>call Q 41 #[A0] (fun A1=>aG fun S w=>hG A1 true S (af Q 54 j 0) fun A2=>hG A1 true S (ld Q 3 A2) fun A3=>hG A1 true S (bin Q .sub 3 false true A3 (ci 1)) fun A4=>hG A1 true S (aV Q 35 d A4) fun A5=>hG A1 true S (ld Q 31 A5) fun A6=>hG A1 true S (af Q 54 j 1) fun A7=>hG A1 true S (ld Q 31 A7) fun A8=>hG A1 true S (bin Q .sub 31 false true A8 (cu 1)) fun A9=>hG A1 true S (bin Q .eql 31 false false A6 A9) fun C0=>hld S (pick A1 C0 cF) fun C1=>hG C1 true S (af Q 54 j 2) fun C2=>hG C1 true S (ld Q 35 C2) fun C3=>hG C1 true S (ld Q 35 d) fun C4=>xG C1 true (call Q 69 #[C3,C4]) (fun C5=>aG fun S w=>hld S (pick C1 C5 cF) fun C6=>K C6 w) w) w) w.drew) w):Gives Q 98 #[Y1,Z1] w K:=by
 refine aB func98 (by kernel_rfl) ?_;exact mpK h
theorem uV (h:box Q 120 Y1 (fun d=>K (Value.func (Fn.func 263) #[] #[d])) w):Gives Q 252 #[Y1] w K:=by
 refine aB func252 (by kernel_rfl) ?_;exact mpK h
def iW (Y:YB)(l_:Nat)(K:KV):KE:=rl Q Y l_ (cd f263 [1,0]) (rk f263 K) (xx xf (rk f263 K) 0) (rk f263 K)
theorem tU {Y:YB}(h:ld Q 120 Z1 (fun A1=>lN 120 A1 fun A2=>bin Q .sub 3 false true A2 (ci 1) fun A3=>iW Y b K [Y1,Z1,uu,A3,A1,A2,A3,uu,uu,uu,uu,uu,uu,uu,uu,uu,uu,uu,uu]) w):yc Q Y b 263 [Y1,Z1] w K:=by
 refine QH (goK func263) func263 (by kernel_rfl) ?_;revert h;delta iW;exact mpF
theorem sU {Y:YB}(J:xe Y)(Inv:Value→World→Prop)(μ:Value→World→Nat)(I:Inv V2 w)(M:∀(d:Value) (dd:Nat→Value) (w:World) (m:Nat),Inv d w→m=μ d w →
  bin Q .geq 3 false true d (ci 0) (fun U3 w=>cond U3 (ld Q 120 Z1 (fun Z3=>aV Q 120 Z3 d fun U4=>ld Q 31 U4 fun V4=>Im Q Y b Y1 #[d,V4] fun W4=>un Q .not W4 fun X4 w=>cond X4 (K (Value.tuple #[]) w) (bin Q .sub 3 false true d (ci 1) (fun W3 w=>(Inv W3 w)∧((μ W3 w)<m)) w)) w) (K (Value.tuple #[]) w)) w):iW Y b K [Y1,Z1,U2,V2,W2,X2,Y2,Z2,U3,V3,W3,X3,Y3,Z3,j4,U4,V4,W4,X4] w:=by
 refine IP J (cd f263 [1,0,0]) (zr [(3,1),(7,12)]) (by kernel_rfl) (vP [3] Inv) (vQ [3] μ) I ?_;intro e' w' hI;have h:=M _ (fun i=>gd e' i) w' _ hI rfl;exact mpK h
attribute [irreducible] iW
theorem uW (h:call Q 264 #[Y1,Z1] (fun A4=>bin Q .geq 3 false true A4 (ci 0) K) w):Gives Q 253 #[Y1,Z1] w K:=by
 refine aB func253 (by kernel_rfl) ?_;exact mpK h
def kR (s0 v1 s2 i5 A4 A5:Value)(zf:Nat→Value):List Value:=s0::v1::s2::zf 3::zf 4::i5::zf 6::A4::A5::zT zf 9 10 ([])
def en (K:KV):KE:=ae Q (cd f264 [1,1]) (rk f264 K) xf (rk f264 K)
def km (K:KV):KE:=ae Q (cd f264 [1,0,1,0]) (en K) (xx xf (en K) 0) (rk f264 K)
theorem wg (h:lN 120 Y1 (fun W2=>km K (kR Y1 Z1 uu uu W2 (ci 0) (zV (zV zu 4 [ci 0]) 6 [Y1]))) w):Gives Q 264 #[Y1,Z1] w K:=by
 refine aB func264 (by kernel_rfl) ?_;revert h;delta km en;exact mpF
theorem vi (Inv:Value→World→Prop)(μ:Value→World→Nat)(I:Inv X2 w)(J:∀(d:Value) (dd:Nat→Value) (w:World) (m:Nat),Inv d w→m=μ d w →
  lS d W2 (fun A6 w=>cond A6 (aV Q 120 Y1 d (fun C1=>ld Q 31 C1 fun C2=>bin Q .eql 31 false false Z1 C2 fun C3 w=>cond C3 (K d w) (nC d (fun C5 w=>(Inv C5 w)∧((μ C5 w)<m)) w)) w) (en K (kR Y1 Z1 U2 (dd 5) W2 d (zV dd 9 [A6])) w)) w):km K (kR Y1 Z1 U2 V2 W2 X2 zf) w:=by
 refine aL (cd f264 (b1 52)) (zr [(4,2),(8,11)]) (by kernel_rfl) (vP [8] Inv) (vQ [8] μ) I ?_;intro e' w' hI;have h:=J _ (zM zf (fun i=>gd e' i) (zr [(4,2),(8,11)])) w' _ hI rfl;revert h;generalize (en K)=qc0;exact mpF
theorem vj (h:K (ci (-1)) w):en K (kR Y1 Z1 U2 V2 W2 X2 zf) w:=by
 delta en;exact mpK h
attribute [irreducible] en km
end
section
section
variable {S T:List (Int×Int)}{rk:Int→Nat}
theorem NT (j:TK T rk):∀(f:Nat) (id:Int),(cB T f id).length≤upT T rk id
 | 0,_=>Nat.zero_le _
 | f+1,id=>by
  cases d:cr T id with
  | false=>simp[cB,d]
  | true =>
   have u:=NT j f (eE T id);have h:=uZ j (ny d);have h:upT T rk (eE T id)<upT T rk id:=h;simp only[cB,d,if_true,List.length_cons];omega
theorem Ul (J:(T.map (·.1)).Nodup):∀x∈T,∀y∈T,x.1=y.1→x=y:=by
 intro x M y O h;obtain⟨i,hi,rfl⟩:=List.getElem_of_mem M;obtain⟨j,u,rfl⟩:=List.getElem_of_mem O;have I:=List.pairwise_iff_getElem.1 J;rcases Nat.lt_trichotomy i j with d|d|d
 ·exact absurd (by rw[List.getElem_map,List.getElem_map];exact h) (I i j (by simpa using hi) (by simpa using u) d)
 ·subst d;rfl
 ·exact absurd (by rw[List.getElem_map,List.getElem_map];exact h.symm) (I j i (by simpa using u) (by simpa using hi) d)
theorem insA_fst {z:Int×Int}:((fl L i z).map (·.1)).Perm (z.1::L.map (·.1)):=by
 unfold fl;rw[List.map_append,List.map_cons];refine List.perm_middle.trans ?_;rw[←List.map_append,List.take_append_drop]
structure RI (T S:List (Int×Int)) (l q:List Int):Prop where
 tk:∃rk,TK S rk
 ids:(S.map (·.1)).Perm l
 nd:l.Nodup
 par:∀n∈q,n∈l∧eE S n=eE T n
theorem RI.nil :RI T [] [] []:=⟨⟨_,TK.nil⟩,.refl _,List.nodup_nil,by simp⟩
theorem RI.has {l q:List Int}(h:RI T S l q){n:Int}:cr S n=true↔n∈l:=by
 rw[jE, ←h.ids.mem_iff,List.mem_map]
theorem RI.len {l q:List Int}(h:RI T S l q):S.length=l.length:=by
 have:=h.ids.length_eq;simpa using this
theorem RI.add {l q:List Int}(h:RI T S l q){n:Int}(h0:n≠0)(hn:n∉l)(hx:x=0∨x∈l)(hl:l.length<32)(h4:x=0∨l.length<4):(iX S n x).2=0∧RI T (iX S n x).1 (n::l) q∧(x=eE T n→RI T (iX S n x).1 (n::l) (n::q)):=by
 obtain⟨rk,U⟩:=h.tk;have al:=h.len;have u:cr S n=false:=by
  cases hq:cr S n with
  | false=>rfl
  | true=>exact absurd (h.has.1 hq) hn
 have hz:cr S 0=false:=by
  cases hq:cr S 0 with
  | false=>rfl
  | true=>obtain⟨y,hy,e⟩:=jE.1 hq;exact absurd e (U.nz y hy)
 have M:x=0∨cr S x=true:=hx.imp id fun O=>h.has.2 O;have ad : ¬(32≤S.length∨4≤(dh S x).length):=by
  have hu:=AM U x;have am:=NT U (S.length+1) x;rintro(O|O)
  ·omega
  ·unfold dh at O;rcases h4 with rfl|h4
   ·rw[cB,hz]at O;simp at O
   ·omega
 have e:iX S n x=(fl S (oG (fun y=>decide (n<y.1)) S S.length) (n,x),0):=by
  unfold iX;rw[if_neg h0,u,if_neg (by simp),if_neg (by rintro⟨a,b⟩;rcases M with c|c;exact a c;rw[c]at b;cases b),if_neg ad]
 generalize oG (fun y=>decide (n<y.1)) S S.length=i at e;have d:((fl S i (n,x)).map (·.1)).Perm (n::l):=insA_fst.trans (h.ids.cons n);have I:(n::l).Nodup:=List.nodup_cons.2 ⟨hn,h.nd⟩;have Z:=Ul (d.nodup_iff.2 I);have j:∀m∈q,m∈n::l∧eE (fl S i (n,x)) m=eE T m:=fun m X=>by
  obtain⟨a,b⟩:=h.par m X;refine⟨List.mem_cons_of_mem _ a,?_⟩;rw[←b];exact CG Z (sH.2 (.inr (ny (h.has.2 a))))
 have J:eE (fl S i (n,x)) n=x:=CG Z (sH.2 (.inl rfl));rw[e];refine⟨rfl,⟨⟨_,U.add h0 u M i⟩,d,I,j⟩,fun ag=>⟨⟨_,U.add h0 u M i⟩,d,I,fun m X=>?_⟩⟩;rcases List.mem_cons.1 X with rfl|X
 ·exact⟨List.mem_cons_self ..,J.trans ag⟩
 ·exact j m X
theorem Kx (d:∀n,cr S n=cr T n):∀(f:Nat) (id:Int),(∀n∈cB T f id,eE S n=eE T n)→cB S f id=cB T f id
 | 0,_,_=>rfl
 | f+1,id,h=>by
  cases j:cr T id with
  | false=>simp[cB,d,j]
  | true =>
   have e:cB T (f+1) id=id::cB T f (eE T id):=by simp[cB,j]
   rw[e]at h ⊢;have u:=h id (by simp);simp only[cB,d,j,if_true,u];rw[Kx d f (eE T id) fun n I=>h n (by simp[I])]
theorem RI.err {l:List Int}{id:Int}(h:RI T S l (dh T x))(u:l.Perm (T.map (·.1))):(iX S id x).2=(iX T id x).2:=by
 have j:∀n,cr S n=cr T n:=fun n=>by
  rw[Bool.eq_iff_iff,h.has,u.mem_iff,jE,List.mem_map]
 have d:S.length=T.length:=by rw[h.len,u.length_eq,List.length_map]
 have J:dh S x=dh T x:=by
  unfold dh;rw[d];exact Kx j _ _ fun n I=>(h.par n I).2
 unfold iX;rw[j,j,d,J];split
 ·rfl
 split
 ·rfl
 split
 ·rfl
 split<;>rfl
theorem Kw (I:TK T rk):∀(f:Nat) (id:Int),upT T rk id≤f→∀i n,(cB T f id)[i]? = some n→n≠0∧cr T n=true∧((i+1=(cB T f id).length∧eE T n=0)∨(cB T f id)[i+1]? = some (eE T n))
 | 0,_,_,i,n,h=>by simp[cB]at h
 | f+1,id,hu,i,n,h=>by
  cases j:cr T id with
  | false=>simp[cB,j]at h
  | true =>
   have e:cB T (f+1) id=id::cB T f (eE T id):=by simp[cB,j]
   rw[e]at h ⊢;have Z:upT T rk (eE T id)<upT T rk id:=uZ I (ny j);cases i with
   | zero =>
    simp at h;subst h;refine⟨I.nz _ (ny j),j,?_⟩;cases d:cr T (eE T id)with
    | false =>
     left;refine⟨?_,?_⟩
     ·cases f<;>simp[cB,d]
     ·rcases I.up _ (ny j)with M|⟨y,hy,J,_⟩
      ·exact M
      ·rw[jE.2 ⟨y,hy,J⟩]at d;cases d
    | true =>
     right;obtain⟨f',rfl⟩:∃f',f=f'+1:=⟨f-1,by
      have:0<upT T rk (eE T id):=by unfold upT;rw[d];exact Nat.succ_pos _
      omega⟩
     simp[cB,d]
   | succ i =>
    simp only[List.getElem?_cons_succ]at h ⊢;obtain⟨O,U,u⟩:=Kw I f (eE T id) (by omega) i n h;refine⟨O,U,?_⟩;rcases u with⟨u,X⟩|u
    ·exact .inl ⟨by simp;omega,X⟩
    ·exact .inr u
theorem yY (u:TK T rk):∀(f:Nat) (id:Int),(cB T f id).Pairwise fun a b=>upT T rk b<upT T rk a
 | 0,_=>List.Pairwise.nil
 | f+1,id=>by
  cases I:cr T id with
  | false=>simp[cB,I]
  | true =>
   have e:cB T (f+1) id=id::cB T f (eE T id):=by simp[cB,I]
   rw[e,List.pairwise_cons];refine⟨?_,yY u f _⟩;have M:upT T rk (eE T id)<upT T rk id:=uZ u (ny I);have J:∀(f:Nat) (j:Int),∀b∈cB T f j,upT T rk b≤upT T rk j:=by
    intro f
    induction f with
    | zero=>intro j b d;simp[cB]at d
    | succ f ih =>
     intro j b d;cases h:cr T j with
     | false=>simp[cB,h]at d
     | true =>
      simp only[cB,h,if_true,List.mem_cons]at d;rcases d with rfl|d
      ·exact Nat.le_refl _
      ·have:=ih _ _ d
       have O:upT T rk (eE T j)<upT T rk j:=uZ u (ny h);omega
   intro b d
   have:=J f _ b d
   omega
end
end
section
open Go.RowKit
def vo (n0 n1 l4 k_5 C9 D0:Value)(zf:Nat→Value):List Value:=n0::n1::zf 2::zf 3::l4::k_5::zT zf 6 13 (C9::D0::zT zf 21 9 ([]))
def mP (K:KV):KE:=ae Q (cd f20 [1,1,1,1]) (rk f20 K) xf (rk f20 K)
def uG (K:KV):KE:=ae Q (cd f20 (b1 122)) (mP K) (xx xf (mP K) 0) (rk f20 K)
theorem KQ (h:bin Q .lss 3 false true Y1 (ci 1) (fun A7 w=>aI A7 false (fun j=>bin Q .gtr 3 false true Y1 (ci 6) (fun C0=>j [Y1,C0]) w) (fun k=>k [uu,uu] w) fun d=>pick A7 cT (gd d 1) fun C1 w=>cond C1 (K (Value.tuple #[Value.pointer none,ci 1]) w) (call Q 50 #[] (fun C2=>dE Q 129 none fun C3=>dE Q 130 none fun C4=>dE Q 131 none fun C5=>dE Q 132 none fun C6=>bld Q 135 #[(3,C2),(4,C3),(5,C4),(7,C5),(8,C6)] fun C7=>box Q 135 C7 fun C8=>uG K (vo Y1 uu C8 uu Y1 (ci 0) (zV (zV zu 2 [Value.pointer none,ci 0]) 6 [Y1,A7,A7,gd d 0,gd d 1,C1,C2,C3,C4,C5,C6,C7,C8]))) w)) w):Gives Q 20 #[Y1] w K:=by
 refine aB func20 (by kernel_rfl) ?_;revert h;delta uG mP;exact mpF
theorem IJ (Inv:Value→World→Prop)(μ:Value→World→Nat)(I:Inv X2 w)(J:∀(d:Value) (dd:Nat→Value) (w:World) (m:Nat),Inv d w→m=μ d w →
  lS d W2 (fun D1 w=>cond D1 (aU U2 (fun D5=>af Q 135 D5 0 fun D6=>aV Q 41 D6 d fun D7=>sto Q 4 D7 cT fun _=>nC d fun D8 w=>(Inv D8 w)∧((μ D8 w)<m)) w) (mP K (vo Y1 Z1 U2 (dd 5) W2 d (zV dd 21 [D1])) w)) w):uG K (vo Y1 Z1 U2 V2 W2 X2 zf) w:=by
 refine aL (cd f20 (b1 244)) (zr [(5,1),(20,9)]) (by kernel_rfl) (vP [20] Inv) (vQ [20] μ) I ?_;intro e' w' hI;have h:=J _ (zM zf (fun i=>gd e' i) (zr [(5,1),(20,9)])) w' _ hI rfl;revert h;generalize (mP K)=qc0;exact mpF
theorem IK (h:K (Value.tuple #[U2,ci 0]) w):mP K (vo Y1 Z1 U2 V2 W2 X2 zf) w:=by
 delta mP;exact mpK h
attribute [irreducible] mP uG
def ol (K:KV)(D:Nat):KE:=ae Q (cd f237 [1,1,1,1]) (vm Q Tryz.f237.results.toList K D) xf (vm Q Tryz.f237.results.toList K D)
def dq (K:KV)(D:Nat):KE:=ae Q (cd f237 (b1 63)) (vm Q Tryz.f237.results.toList K D) xf (vm Q Tryz.f237.results.toList K D)
def mK (K:KV)(D:Nat):KE:=ae Q (cd f237 (b1 250)) (dq K D) (xx xf (dq K D) 2) (vm Q Tryz.f237.results.toList K D)
def fQ (K:KV)(D:Nat)(B1:KE):KE:=ae Q (cd f237 (b1 4007)) B1 (xx xf (dq K D) 2) (vm Q Tryz.f237.results.toList K D)
def kI (K:KV)(D:Nat)(B1:KE):KE:=ae Q (cd f237 (b1 4006)) (fQ K D B1) (xx xf (dq K D) 2) (vm Q Tryz.f237.results.toList K D)
theorem Be (h:ld Q 79 V2 (fun Y6=>aU Y6 fun Z6=>af Q 135 Z6 3 fun u7=>ld Q 127 u7 fun B7=>call Q 51 #[B7] fun K7=>lN 120 K7 fun T7=>mK K D (Y1::Z1::U2::V2::W2::X2::Y2::Z2::U3::V3::W3::X3::Y3::Z3::j4::U4::V4::W4::X4::Y4::Z4::U5::V5::W5::X5::Y5::Z5::K6::T6::U6::V6::W6::X6::Y6::Z6::u7::B7::K7::T7::(ci 0)::V7::W7::X7::Y7::Z7::y8::B8::K8::T8::U8::V8::W8::X8::Y8::Z8::[])) w):ol K D (Y1::Z1::U2::V2::W2::X2::Y2::Z2::U3::V3::W3::X3::Y3::Z3::j4::U4::V4::W4::X4::Y4::Z4::U5::V5::W5::X5::Y5::Z5::K6::T6::U6::V6::W6::X6::Y6::Z6::u7::B7::K7::T7::U7::V7::W7::X7::Y7::Z7::y8::B8::K8::T8::U8::V8::W8::X8::Y8::Z8::[]) w:=by
 delta ol;revert h;delta mK dq;exact mpF
theorem yB {K:KV}{D:Nat}{w:World}(Inv:Value→World→Prop)(μ:Value→World→Nat)(h0:Inv U7 w)(hs:∀(E9':Value) (dd:Nat→Value) (w:World) (m:Nat),Inv E9' w→m=μ E9' w →
  lS E9' T7 (fun V7 w=>cond V7 (kI K D (fun e2 w2=>(Inv (gd e2 39) w2)∧((μ (gd e2 39) w2)<m)) (Y1::Z1::U2::V2::W2::X2::Y2::Z2::U3::V3::W3::X3::(dd 12)::Z3::j4::U4::V4::W4::X4::Y4::Z4::U5::V5::W5::X5::Y5::Z5::K6::T6::U6::V6::W6::X6::Y6::Z6::u7::B7::K7::T7::E9'::V7::(dd 41)::(dd 42)::(dd 43)::(dd 44)::(dd 45)::(dd 46)::(dd 47)::(dd 48)::(dd 49)::(dd 50)::W8::X8::Y8::Z8::[]) w) (dq K D (Y1::Z1::U2::V2::W2::X2::Y2::Z2::U3::V3::W3::X3::(dd 12)::Z3::j4::U4::V4::W4::X4::Y4::Z4::U5::V5::W5::X5::Y5::Z5::K6::T6::U6::V6::W6::X6::Y6::Z6::u7::B7::K7::T7::E9'::V7::(dd 41)::(dd 42)::(dd 43)::(dd 44)::(dd 45)::(dd 46)::(dd 47)::(dd 48)::(dd 49)::(dd 50)::W8::X8::Y8::Z8::[]) w)) w):mK K D (Y1::Z1::U2::V2::W2::X2::Y2::Z2::U3::V3::W3::X3::Y3::Z3::j4::U4::V4::W4::X4::Y4::Z4::U5::V5::W5::X5::Y5::Z5::K6::T6::U6::V6::W6::X6::Y6::Z6::u7::B7::K7::T7::U7::V7::W7::X7::Y7::Z7::y8::B8::K8::T8::U8::V8::W8::X8::Y8::Z8::[]) w:=by
 refine aL (cd f237 (b1 500)) (zr [(12,1),(39,12)]) (by kernel_rfl) (vP [39] Inv) (vQ [39] μ) h0 ?_
 intro e' w' hI
 have h:=hs _ (fun i=>gd e' i) w' _ hI rfl
 refine Eq.mp (congrArg (fun c=>ae Q c _ _ _ _ w') (by kernel_rfl:(rep [1,1,0] (cd f237 (b1 4006)) (cd f237 (b1 500)))=(cd f237 (b1 500)))) ?_
 revert h
 delta kI fQ
 generalize (cd f237 (b1 4006))=xc0
 generalize (dq K D)=qc0
 exact mpF
theorem yA (h:aV Q 120 K7 U7 (fun W7=>ld Q 31 W7 fun X7=>call Q 253 #[U3,X7] fun y8=>un Q .not y8 fun B8 w=>cond B8 (ld Q 127 Z2 (fun K8=>call Q 239 #[K8,X7,cu 0] fun U8=>fQ K D B1 (Y1::Z1::U2::V2::W2::X2::Y2::Z2::U3::V3::W3::X3::X7::Z3::j4::U4::V4::W4::X4::Y4::Z4::U5::V5::W5::X5::Y5::Z5::K6::T6::U6::V6::W6::X6::Y6::Z6::u7::B7::K7::T7::U7::V7::W7::X7::U3::X7::y8::B8::K8::X7::U8::V8::W8::X8::Y8::Z8::[])) w) (fQ K D B1 (Y1::Z1::U2::V2::W2::X2::Y2::Z2::U3::V3::W3::X3::X7::Z3::j4::U4::V4::W4::X4::Y4::Z4::U5::V5::W5::X5::Y5::Z5::K6::T6::U6::V6::W6::X6::Y6::Z6::u7::B7::K7::T7::U7::V7::W7::X7::U3::X7::y8::B8::K8::T8::U8::V8::W8::X8::Y8::Z8::[]) w)) w):kI K D B1 (Y1::Z1::U2::V2::W2::X2::Y2::Z2::U3::V3::W3::X3::Y3::Z3::j4::U4::V4::W4::X4::Y4::Z4::U5::V5::W5::X5::Y5::Z5::K6::T6::U6::V6::W6::X6::Y6::Z6::u7::B7::K7::T7::U7::V7::W7::X7::Y7::Z7::y8::B8::K8::T8::U8::V8::W8::X8::Y8::Z8::[]) w:=by
 delta kI;revert h;generalize (fQ K D B1)=qc0;generalize (dq K D)=qc1;exact mpF
theorem yC (h:ld Q 127 Z2 (fun W8=>call Q 239 #[W8,Z1,U2] fun Z8 w=>(dM D w)∧(K Z8 (w.putObj D (Obj.deferred none)))) w):dq K D (Y1::Z1::U2::V2::W2::X2::Y2::Z2::U3::V3::W3::X3::Y3::Z3::j4::U4::V4::W4::X4::Y4::Z4::U5::V5::W5::X5::Y5::Z5::K6::T6::U6::V6::W6::X6::Y6::Z6::u7::B7::K7::T7::U7::V7::W7::X7::Y7::Z7::y8::B8::K8::T8::U8::V8::W8::X8::Y8::Z8::[]) w:=by
 delta dq;exact mpK h
theorem rt (h:nC U7 (fun V8=>B1 (Y1::Z1::U2::V2::W2::X2::Y2::Z2::U3::V3::W3::X3::Y3::Z3::j4::U4::V4::W4::X4::Y4::Z4::U5::V5::W5::X5::Y5::Z5::K6::T6::U6::V6::W6::X6::Y6::Z6::u7::B7::K7::T7::V8::V7::W7::X7::Y7::Z7::y8::B8::K8::T8::U8::V8::W8::X8::Y8::Z8::[])) w):fQ K D B1 (Y1::Z1::U2::V2::W2::X2::Y2::Z2::U3::V3::W3::X3::Y3::Z3::j4::U4::V4::W4::X4::Y4::Z4::U5::V5::W5::X5::Y5::Z5::K6::T6::U6::V6::W6::X6::Y6::Z6::u7::B7::K7::T7::U7::V7::W7::X7::Y7::Z7::y8::B8::K8::T8::U8::V8::W8::X8::Y8::Z8::[]) w:=by
 delta fQ;revert h;generalize (dq K D)=qc0;exact mpF
attribute [irreducible] dq mK fQ kI
noncomputable def lJ :Func:={Tryz.f237 with body:=some (UA (cd f237 (b1 122)))}
def vf (NB:KE)(XB:Nat→KE)(RB:KE):KE:=ae Q (cd lJ []) NB XB RB
theorem Bf {XB:Nat→KE}(h:B1 (Y1::Z1::U2::V2::W2::X2::Y2::Z2::U3::V3::W5::X3::Y3::Z3::j4::U4::V4::W4::X4::Y4::Z4::U5::V5::W5::X5::Y5::Z5::K6::T6::U6::V6::W6::X6::Y6::Z6::u7::B7::K7::T7::U7::V7::W7::X7::Y7::Z7::y8::B8::K8::T8::U8::V8::W8::X8::Y8::Z8::[]) w):vf B1 XB W0 (Y1::Z1::U2::V2::W2::X2::Y2::Z2::U3::V3::W3::X3::Y3::Z3::j4::U4::V4::W4::X4::Y4::Z4::U5::V5::W5::X5::Y5::Z5::K6::T6::U6::V6::W6::X6::Y6::Z6::u7::B7::K7::T7::U7::V7::W7::X7::Y7::Z7::y8::B8::K8::T8::U8::V8::W8::X8::Y8::Z8::[]) w:=by
 delta vf;exact mpK h
noncomputable def lL :Func:={Tryz.f237 with body:=some (UC (cd f237 (b1 122)))}
def vg (NB:KE)(XB:Nat→KE)(RB:KE):KE:=ae Q (cd lL []) NB XB RB
theorem Bg {XB:Nat→KE}(h:aG (fun S w=>hL S 127 Z2 fun X5=>hL S 79 V2 fun Z5=>hN S Z5 fun K6=>hF S 135 K6 4 fun T6=>hL S 129 T6 fun U6=>hld S (lkp Q 129 U6 W3 false) fun W6=>call Q 239 #[X5,W3,W6] (fun X6=>B1 (Y1::Z1::U2::V2::W2::X2::Y2::Z2::U3::V3::W3::X3::Y3::Z3::j4::U4::V4::W4::X4::Y4::Z4::U5::V5::W5::X5::W3::Z5::K6::T6::U6::W3::W6::X6::Y6::Z6::u7::B7::K7::T7::U7::V7::W7::X7::Y7::Z7::y8::B8::K8::T8::U8::V8::W8::X8::Y8::Z8::[])) w) w.drew):vg B1 XB W0 (Y1::Z1::U2::V2::W2::X2::Y2::Z2::U3::V3::W3::X3::Y3::Z3::j4::U4::V4::W4::X4::Y4::Z4::U5::V5::W5::X5::Y5::Z5::K6::T6::U6::V6::W6::X6::Y6::Z6::u7::B7::K7::T7::U7::V7::W7::X7::Y7::Z7::y8::B8::K8::T8::U8::V8::W8::X8::Y8::Z8::[]) w:=by
 delta vg;exact mpK h
theorem Cv (h:box Q 79 Y1 (fun d=>call Q 50 #[] fun C3=>alc Q 127 fun A7=>sto Q 127 A7 C3 fun _=>ld Q 79 d fun C4=>aU C4 fun C5=>af Q 135 C5 3 fun C6=>ld Q 127 C6 fun C7=>call Q 99 #[C7,U2] fun C9=>call Q 252 #[C9] fun D1=>rfS Q (cd f237 (b1 122)) (ol K) (fun i D e w=>(i=0)∧(ol K D e w)) (vm Q Tryz.f237.results.toList K) (Y1::Z1::U2::d::uu::uu::(ci 0)::A7::C9::uu::uu::uu::uu::C3::C4::C5::C6::C7::U2::C9::C9::D1::uu::uu::uu::uu::uu::uu::uu::uu::uu::uu::uu::uu::uu::uu::uu::uu::uu::uu::uu::uu::uu::uu::uu::uu::uu::uu::uu::uu::uu::uu::uu::uu::uu::[])) w):Gives Q 237 #[Y1,Z1,U2] w K:=Pm func237 (by kernel_rfl) (Eq.mp (by kernel_rfl) h)
theorem BW (h:box Q 79 Y1 (fun M=>box Q 54 Z1 fun J w=>aG (fun S w=>hF S 54 J 0 fun A9=>hL S 3 A9 fun C0=>hF S 54 J 1 fun C1=>hL S 31 C1 fun C2=>hF S 54 J 0 fun C4=>hL S 3 C4 fun C5=>hld (fun _=>True) (bin Q .sub 3 false true C5 (ci 1)) fun C6=>(call Q 236 #[C0,C2] (fun C3=>aY S fun S w=>(alc Q 31 (fun d=>aY S fun S=>alc Q 3 fun j=>aY S fun S=>sto Q 31 d C3 fun _=>aY S fun _=>sto Q 3 j C6 fun _ w=>sL 79 M (fun C7=>sL 3 j fun C8=>sN C7 fun C9=>sF 135 C9 6 fun D0=>sI 133 D0 C8 fun D1=>sL 3 D1 fun D2=>sti (bin Q .geq 3 false true D2 (ci 5)) fun D3 w=>aI D3 false (fun I=>sF 54 J 6 (fun D5=>sL 2 D5 fun D6=>sti (bin Q .gtr 2 false true D6 (ci 140737488355328)) fun D7=>I [D5,D6,D7]) w) (fun k=>k [uu,uu,uu] w) fun u=>sti (pick D3 cT (gd u 2)) fun D8 w=>cond D8 (K (Value.tuple #[Value.nilFunc,ci 6]) w) (ld Q 79 M (fun D9=>ld Q 31 d fun E0=>af Q 54 J 4 fun E1=>ld Q 31 E1 fun E2=>call Q 237 #[D9,E0,E2] fun E3=>bin Q .neq 27 false true E3 (ci 0) fun E5 w=>cond E5 (K (Value.tuple #[Value.nilFunc,E3]) w) (K (Value.tuple #[Value.func (Fn.func 238) #[] #[M,d,J,j],ci 0]) w)) w)) w.drew) w)∧(alc Q 3 (fun j=>aY S fun S=>alc Q 31 fun d=>aY S fun S=>sto Q 31 d C3 fun _=>aY S fun _=>sto Q 3 j C6 fun _ w=>sL 79 M (fun C7=>sL 3 j fun C8=>sN C7 fun C9=>sF 135 C9 6 fun D0=>sI 133 D0 C8 fun D1=>sL 3 D1 fun D2=>sti (bin Q .geq 3 false true D2 (ci 5)) fun D3 w=>aI D3 false (fun I=>sF 54 J 6 (fun D5=>sL 2 D5 fun D6=>sti (bin Q .gtr 2 false true D6 (ci 140737488355328)) fun D7=>I [D5,D6,D7]) w) (fun k=>k [uu,uu,uu] w) fun u=>sti (pick D3 cT (gd u 2)) fun D8 w=>cond D8 (K (Value.tuple #[Value.nilFunc,ci 6]) w) (ld Q 79 M (fun D9=>ld Q 31 d fun E0=>af Q 54 J 4 fun E1=>ld Q 31 E1 fun E2=>call Q 237 #[D9,E0,E2] fun E3=>bin Q .neq 27 false true E3 (ci 0) fun E5 w=>cond E5 (K (Value.tuple #[Value.nilFunc,E3]) w) (K (Value.tuple #[Value.func (Fn.func 238) #[] #[M,d,J,j],ci 0]) w)) w)) w.drew) w)) w)∧((alc Q 31 (fun d=>aY S fun S w=>(call Q 236 #[C0,C2] (fun C3=>aY S fun S=>alc Q 3 fun j=>aY S fun S=>sto Q 31 d C3 fun _=>aY S fun _=>sto Q 3 j C6 fun _ w=>sL 79 M (fun C7=>sL 3 j fun C8=>sN C7 fun C9=>sF 135 C9 6 fun D0=>sI 133 D0 C8 fun D1=>sL 3 D1 fun D2=>sti (bin Q .geq 3 false true D2 (ci 5)) fun D3 w=>aI D3 false (fun I=>sF 54 J 6 (fun D5=>sL 2 D5 fun D6=>sti (bin Q .gtr 2 false true D6 (ci 140737488355328)) fun D7=>I [D5,D6,D7]) w) (fun k=>k [uu,uu,uu] w) fun u=>sti (pick D3 cT (gd u 2)) fun D8 w=>cond D8 (K (Value.tuple #[Value.nilFunc,ci 6]) w) (ld Q 79 M (fun D9=>ld Q 31 d fun E0=>af Q 54 J 4 fun E1=>ld Q 31 E1 fun E2=>call Q 237 #[D9,E0,E2] fun E3=>bin Q .neq 27 false true E3 (ci 0) fun E5 w=>cond E5 (K (Value.tuple #[Value.nilFunc,E3]) w) (K (Value.tuple #[Value.func (Fn.func 238) #[] #[M,d,J,j],ci 0]) w)) w)) w.drew) w)∧(alc Q 3 (fun j=>aY S fun S=>call Q 236 #[C0,C2] fun C3=>aY S fun S=>sto Q 31 d C3 fun _=>aY S fun _=>sto Q 3 j C6 fun _ w=>sL 79 M (fun C7=>sL 3 j fun C8=>sN C7 fun C9=>sF 135 C9 6 fun D0=>sI 133 D0 C8 fun D1=>sL 3 D1 fun D2=>sti (bin Q .geq 3 false true D2 (ci 5)) fun D3 w=>aI D3 false (fun I=>sF 54 J 6 (fun D5=>sL 2 D5 fun D6=>sti (bin Q .gtr 2 false true D6 (ci 140737488355328)) fun D7=>I [D5,D6,D7]) w) (fun k=>k [uu,uu,uu] w) fun u=>sti (pick D3 cT (gd u 2)) fun D8 w=>cond D8 (K (Value.tuple #[Value.nilFunc,ci 6]) w) (ld Q 79 M (fun D9=>ld Q 31 d fun E0=>af Q 54 J 4 fun E1=>ld Q 31 E1 fun E2=>call Q 237 #[D9,E0,E2] fun E3=>bin Q .neq 27 false true E3 (ci 0) fun E5 w=>cond E5 (K (Value.tuple #[Value.nilFunc,E3]) w) (K (Value.tuple #[Value.func (Fn.func 238) #[] #[M,d,J,j],ci 0]) w)) w)) w.drew) w)) w)∧(alc Q 3 (fun j=>aY S fun S w=>(call Q 236 #[C0,C2] (fun C3=>aY S fun S=>alc Q 31 fun d=>aY S fun S=>sto Q 31 d C3 fun _=>aY S fun _=>sto Q 3 j C6 fun _ w=>sL 79 M (fun C7=>sL 3 j fun C8=>sN C7 fun C9=>sF 135 C9 6 fun D0=>sI 133 D0 C8 fun D1=>sL 3 D1 fun D2=>sti (bin Q .geq 3 false true D2 (ci 5)) fun D3 w=>aI D3 false (fun I=>sF 54 J 6 (fun D5=>sL 2 D5 fun D6=>sti (bin Q .gtr 2 false true D6 (ci 140737488355328)) fun D7=>I [D5,D6,D7]) w) (fun k=>k [uu,uu,uu] w) fun u=>sti (pick D3 cT (gd u 2)) fun D8 w=>cond D8 (K (Value.tuple #[Value.nilFunc,ci 6]) w) (ld Q 79 M (fun D9=>ld Q 31 d fun E0=>af Q 54 J 4 fun E1=>ld Q 31 E1 fun E2=>call Q 237 #[D9,E0,E2] fun E3=>bin Q .neq 27 false true E3 (ci 0) fun E5 w=>cond E5 (K (Value.tuple #[Value.nilFunc,E3]) w) (K (Value.tuple #[Value.func (Fn.func 238) #[] #[M,d,J,j],ci 0]) w)) w)) w.drew) w)∧(alc Q 31 (fun d=>aY S fun S=>call Q 236 #[C0,C2] fun C3=>aY S fun S=>sto Q 31 d C3 fun _=>aY S fun _=>sto Q 3 j C6 fun _ w=>sL 79 M (fun C7=>sL 3 j fun C8=>sN C7 fun C9=>sF 135 C9 6 fun D0=>sI 133 D0 C8 fun D1=>sL 3 D1 fun D2=>sti (bin Q .geq 3 false true D2 (ci 5)) fun D3 w=>aI D3 false (fun I=>sF 54 J 6 (fun D5=>sL 2 D5 fun D6=>sti (bin Q .gtr 2 false true D6 (ci 140737488355328)) fun D7=>I [D5,D6,D7]) w) (fun k=>k [uu,uu,uu] w) fun u=>sti (pick D3 cT (gd u 2)) fun D8 w=>cond D8 (K (Value.tuple #[Value.nilFunc,ci 6]) w) (ld Q 79 M (fun D9=>ld Q 31 d fun E0=>af Q 54 J 4 fun E1=>ld Q 31 E1 fun E2=>call Q 237 #[D9,E0,E2] fun E3=>bin Q .neq 27 false true E3 (ci 0) fun E5 w=>cond E5 (K (Value.tuple #[Value.nilFunc,E3]) w) (K (Value.tuple #[Value.func (Fn.func 238) #[] #[M,d,J,j],ci 0]) w)) w)) w.drew) w)) w))) w.drew) w):Gives Q 229 #[Y1,Z1] w K:=by
 refine aB func229 (by kernel_rfl) ?_;exact mpK h
def tS (A0 A1 A2 A3 r4:Value)(zf:Nat→Value):List Value:=A0::A1::A2::A3::r4::zT zf 5 37 ([])
def kH (K:KV):KE:=ae Q (cd f238 [1,1,1]) (rk f238 K) xf (rk f238 K)
theorem Au {K:KV}{Y1 Z1 U2 V2:Value}{w:World}(h:aG (fun S w=>hL S 79 Y1 fun A5=>hN S A5 fun A6=>hF S 135 A6 3 fun A7=>hL S 127 A7 fun A8=>hL S 31 Z1 fun A9=>hF S 54 U2 4 fun C0=>hL S 31 C0 fun C1=>call Q 239 #[A8,A9,C1] (fun C2 w=>aG (fun S w=>hL S 79 Y1 fun C3=>hN S C3 fun C4=>hF S 135 C4 4 fun C5=>hL S 129 C5 fun C6=>hL S 31 Z1 fun C7=>hF S 54 U2 4 fun C8=>hL S 31 C8 fun C9=>dO Q 129 C6 C7 C9 (fun _ w=>sL 79 Y1 (fun D0=>sL 3 V2 fun D1=>sN D0 fun D2=>sF 135 D2 6 fun D3=>sI 133 D3 D1 fun D4=>sL 3 D4 fun D5=>sti (bin Q .add 3 false true D5 (ci 1)) fun D6=>sN D0 fun D7=>sF 135 D7 6 fun D8=>sI 133 D8 D1 fun D9=>sto Q 3 D9 D6 fun _=>kH K (tS Y1 Z1 U2 V2 uu (zV zu 5 [A5,A6,A7,A8,A9,C0,C1,C2,C3,C4,C5,C6,C7,C8,C9,D0,D1,D2,D3,D4,D5,D6,D7,D8,D9]))) w.drew) w) w.drew) w) w.drew):Gives Q 238 #[Y1,Z1,U2,V2] w K:=by
 refine aB func238 (by kernel_rfl) ?_
 refine Eq.mp (congrArg (fun c=>ae Q c _ _ _ _ w) (by kernel_rfl:(rep [1,1,1] (cd f238 [1,1,1]) (cd f238 []))=(cd f238 []))) ?_
 revert h
 delta kH
 generalize (cd f238 [1,1,1])=xc0
 exact mpF
theorem yz (h:bld Q 50 #[] (fun E0=>alc Q 50 fun W2=>sto Q 50 W2 E0 fun _=>ld Q 3 V2 fun E1=>af Q 54 U2 6 fun E2=>ld Q 2 E2 fun E3=>af Q 50 W2 0 fun E4=>aV Q 47 E4 E1 fun E5=>sto Q 2 E5 E3 fun _ w=>aG (fun S w=>hL S 79 Y1 fun E6=>hN S E6 fun E7=>hF S 135 E7 5 fun E8=>hL S 130 E8 fun E9=>hL S 31 Z1 fun F0=>hL S 50 W2 fun F1=>dO Q 130 E9 F0 F1 (fun _=>K (Value.tuple #[])) w) w.drew) w):kH K (tS Y1 Z1 U2 V2 W2 zf) w:=by
 delta kH;exact mpK h
attribute [irreducible] kH
def nM (l0 e1 l2 e3 r6:Value)(zf:Nat→Value):List Value:=l0::e1::l2::e3::zf 4::zf 5::r6::zT zf 7 32 ([])
def ig (K:KV):KE:=ae Q (cd f230 [1,1,1,1]) (rk f230 K) xf (rk f230 K)
def kU (K:KV):KE:=ae Q (cd f230 (b1 61)) (ig K) xf (rk f230 K)
theorem Bd {K:KV}{Y1 Z1:Value}{w:World}(h:box Q 79 Y1 (fun U2=>box Q 54 Z1 fun V2 w=>aG (fun S w=>hL S 79 U2 fun A9=>hN S A9 fun C0=>hF S 135 C0 5 fun C1=>hL S 130 C1 fun C2=>hF S 54 V2 4 fun C3=>hL S 31 C3 fun C4=>hld S (lkp Q 130 C2 C4 true) fun C5=>hld S (ext Q C5 0) fun C6=>hld S (ext Q C5 1) fun C7=>alc Q 50 (fun W2=>aY S fun S=>sto Q 50 W2 C6 fun _=>aY S fun _=>un Q .not C7 fun C9 w=>cond C9 (K (Value.tuple #[Value.nilFunc,ci 9]) w) (sF 54 V2 0 (fun D0=>sL 3 D0 fun D1=>sti (bin Q .sub 3 false true D1 (ci 1)) fun D2=>sF 50 W2 0 fun D3=>sI 47 D3 D2 fun D4=>sL 2 D4 fun D5=>sF 54 V2 6 fun D6=>sL 2 D6 fun D7=>sti (bin Q .add 2 false false D5 D7) fun D8=>sF 50 W2 0 fun D9=>sI 47 D9 D2 fun E0=>sto Q 2 E0 D8 fun _=>kU K (nM Y1 Z1 U2 V2 W2 (zV (zV zu 4 [Value.nilFunc,ci 0]) 7 [C7,C5,A9,C0,C1,C2,C3,C4,C5,C6,C7,C7,C9,D0,D1,D2,D3,D4,D5,D6,D7,D8,D9,E0]))) w.drew)) w) w.drew) w):Gives Q 230 #[Y1,Z1] w K:=by
 refine aB func230 (by kernel_rfl) ?_
 refine Eq.mp (congrArg (fun c=>ae Q c _ _ _ _ w) (by kernel_rfl:(rep (b1 61) (cd f230 (b1 61)) (cd f230 []))=(cd f230 []))) ?_
 revert h
 delta kU ig
 generalize (cd f230 (b1 61))=xc0
 exact mpF
theorem yV (h:af Q 54 V2 0 (fun E1=>ld Q 3 E1 fun E2=>bin Q .sub 3 false true E2 (ci 1) fun E3=>af Q 50 W2 0 fun E4=>aV Q 47 E4 E3 fun E5=>ld Q 2 E5 fun E6=>bin Q .gtr 2 false true E6 (ci 140737488355328) fun E7 w=>cond E7 (K (Value.tuple #[Value.nilFunc,ci 6]) w) (ig K (nM Y1 Z1 U2 V2 W2 (zV zf 31 [E1,E2,E3,E4,E5,E6,E7])) w)) w):kU K (nM Y1 Z1 U2 V2 W2 zf) w:=by
 delta kU;revert h;generalize (ig K)=qc0;exact mpF
theorem yW (h:K (Value.tuple #[Value.func (Fn.func 240) #[] #[W2,U2,V2],ci 0]) w):ig K (nM Y1 Z1 U2 V2 W2 zf) w:=by
 delta ig;exact mpK h
attribute [irreducible] ig kU
theorem yU (h:aG (fun S w=>hL S 79 Z1 fun A3=>hN S A3 fun A4=>hF S 135 A4 5 fun A5=>hL S 130 A5 fun A6=>hF S 54 U2 4 fun A7=>hL S 31 A7 fun A8=>hL S 50 Y1 fun A9=>dO Q 130 A6 A8 A9 (fun _=>K (Value.tuple #[])) w) w.drew):Gives Q 240 #[Y1,Z1,U2] w K:=by
 refine aB func240 (by kernel_rfl) ?_;exact mpK h
def oh (l0 turn2 l3 node4 fresh8 r11 C9 D0 D1:Value)(zf:Nat→Value):List Value:=l0::zf 1::turn2::l3::node4::zT zf 5 3 (fresh8::zf 9::zf 10::r11::zT zf 12 7 (C9::D0::D1::zT zf 22 22 ([])))
def gK (K:KV):KE:=ae Q (cd f241 [1,1,1]) (rk f241 K) xf (rk f241 K)
def lF (K:KV):KE:=ae Q (cd f241 (b1 58)) (gK K) (xx xf (gK K) 0) (rk f241 K)
theorem BS (h:box Q 79 Y1 (fun U2=>dE Q 130 none fun C3=>alc Q 130 fun W2=>sto Q 130 W2 C3 fun _=>ld Q 79 U2 fun C4=>aU C4 fun C5=>af Q 135 C5 3 fun C6=>ld Q 127 C6 fun C7=>call Q 99 #[C7,V2] fun Y2=>lN 120 Y2 fun Z2=>lF K (oh Y1 Z1 U2 uu W2 uu Y2 Z2 (ci 0) (zV (zV (zV zu 1 [V2]) 6 [Value.nilFunc,ci 0]) 13 [C3,C4,C5,C6,C7,V2]))) w):Gives Q 241 #[Y1,V2,Z1] w K:=by
 refine aB func241 (by kernel_rfl) ?_;revert h;delta lF gK;exact mpF
theorem Ak (Inv:Value→World→Prop)(μ:Value→World→Nat)(I:Inv U3 w)(J:∀(d:Value) (dd:Nat→Value) (w:World) (m:Nat),Inv d w→m=μ d w →
  lS d Z2 (fun D2 w=>cond D2 (aV Q 120 Y2 d (fun D3=>ld Q 31 D3 fun D4=>ld Q 79 U2 fun D7=>aU D7 fun D8=>af Q 135 D8 5 fun D9=>ld Q 130 D9 fun E0=>lkp Q 130 E0 D4 false fun E2=>bY Q Z1 #[E2] fun E3=>ext Q E3 0 fun E4=>ext Q E3 1 fun E5=>alc Q 50 fun X2=>sto Q 50 X2 E4 fun _=>bin Q .neq 27 false true E5 (ci 0) fun E7 w=>cond E7 (K (Value.tuple #[Value.nilFunc,E5]) w) (ld Q 130 W2 (fun E9=>ld Q 50 X2 fun F1=>dO Q 130 E9 D4 F1 fun _=>nC d fun F2 w=>(Inv F2 w)∧((μ F2 w)<m)) w)) w) (gK K (oh Y1 Z1 U2 V2 W2 (dd 11) Y2 Z2 d (zV dd 22 [D2])) w)) w):lF K (oh Y1 Z1 U2 V2 W2 X2 Y2 Z2 U3 zf) w:=by
 refine aL (cd f241 (b1 116)) (zr [(6,2),(10,3),(21,22)]) (by kernel_rfl) (vP [21] Inv) (vQ [21] μ) I ?_;intro e' w' hI;have h:=J _ (zM zf (fun i=>gd e' i) (zr [(6,2),(10,3),(21,22)])) w' _ hI rfl;revert h;generalize (gK K)=qc0;exact mpF
theorem Al (h:K (Value.tuple #[Value.func (Fn.func 254) #[] #[W2,U2],ci 0]) w):gK K (oh Y1 Z1 U2 V2 W2 X2 Y2 Z2 U3 zf) w:=by
 delta gK;exact mpK h
attribute [irreducible] gK lF
def tR (A1 A5:Value)(zf:Nat→Value):List Value:=zf 0::A1::zT zf 2 3 (A5::zT zf 6 11 ([]))
def mJ (K:KV):KE:=ae Q (cd f254 [1,0]) (rk f254 K) (xx xf (rk f254 K) 0) (rk f254 K)
theorem Aj (h:ld Q 130 U2 (fun A4=>rng Q 130 A4 fun Z1=>mJ K (tR Y1 Z1 (zV (zV zu 0 [U2]) 4 [A4]))) w):Gives Q 254 #[U2,Y1] w K:=by
 refine aB func254 (by kernel_rfl) ?_;revert h;delta mJ;exact mpF
theorem yy (Inv:World→Prop)(μ:World→Nat)(I:Inv w)(J:∀(dd:Nat→Value) (w:World) (m:Nat),Inv w→m=μ w →
  nxt Q Z1 false 0 (fun A6=>ext Q A6 0 fun A7 w=>cond A7 (ent Q Z1 (fun A8=>ext Q A8 0 fun A9=>ext Q A8 1 fun C0=>alc Q 50 fun j=>sto Q 50 j C0 fun _ w=>aG (fun S w=>hL S 79 Y1 fun C1=>hN S C1 fun C2=>hF S 135 C2 5 fun C3=>hL S 130 C3 fun C4=>hL S 50 j fun C6=>dO Q 130 C4 A9 C6 (fun _ w=>(Inv w)∧((μ w)<m)) w) w.drew) w) (K (Value.tuple #[]) w)) w):mJ K (tR Y1 Z1 zf) w:=by
 refine aL (cd f254 [1,0,0]) (zr [(2,2),(6,11)]) (by kernel_rfl) (fun u d=>Inv d) (fun u d=>μ d) I ?_;intro e' w' hI;have h:=J (zM zf (fun i=>gd e' i) (zr [(2,2),(6,11)])) w' _ hI rfl;exact mpK h
attribute [irreducible] mJ
def vh (l0 e1 l2 e3 q6 do7 f8:Value)(zf:Nat→Value):List Value:=l0::e1::l2::e3::zf 4::zf 5::q6::do7::f8::zT zf 9 31 ([])
def lM (K:KV):KE:=ae Q (cd f231 (b1 63)) (rk f231 K) xf (rk f231 K)
theorem BY {K:KV}{Y1 Z1:Value}{w:World}(h:box Q 79 Y1 (fun U2=>box Q 54 Z1 fun V2=>af Q 54 V2 0 fun A9=>ld Q 3 A9 fun C0=>af Q 54 V2 7 fun C1=>ld Q 31 C1 fun C2=>bld Q 151 #[(0,C0),(1,C2)] fun C3=>alc Q 151 fun W2=>sto Q 151 W2 C3 fun _ w=>sL 79 U2 (fun C4=>sN C4 fun C5=>sF 135 C5 8 fun C6=>sL 132 C6 fun C7=>sL 151 W2 fun C8=>sti (lkp Q 132 C7 C8 false) fun C9 w=>cond C9 (K (Value.tuple #[Value.nilFunc,ci 14]) w) (aG (fun S w=>hL S 79 U2 fun D0=>hN S D0 fun D1=>hF S 135 D1 3 fun D2=>hL S 127 D2 fun D3=>hF S 54 V2 4 fun D4=>hL S 31 D4 fun D5=>call Q 167 #[D3,D5] (fun D6=>aG fun S w=>hld S (un Q .not D6) fun D7=>cond D7 (K (Value.tuple #[Value.nilFunc,ci 9]) w) (ld Q 79 U2 (fun D9=>af Q 54 V2 4 fun E0=>ld Q 31 E0 fun E1=>call Q 241 #[D9,E1,Value.func (Fn.func 242) #[] #[V2]] fun E3=>ext Q E3 0 fun E4=>ext Q E3 1 fun E5=>alc Q 238 fun X2=>sto Q 238 X2 E4 fun _=>lM K (vh Y1 Z1 U2 V2 W2 X2 E5 (zV (zV zu 4 [Value.nilFunc,ci 0]) 9 [A9,C0,C1,C2,C3,C4,C5,C6,C7,C8,C9,D0,D1,D2,D3,D4,D5,D6,D7,E3,D9,E0,E1,Value.func (Fn.func 242) #[] #[V2],E3,E4,E5]))) w)) w) w.drew)) w.drew) w):Gives Q 231 #[Y1,Z1] w K:=by
 refine aB func231 (by kernel_rfl) ?_
 refine Eq.mp (congrArg (fun c=>ae Q c _ _ _ _ w) (by kernel_rfl:(rep (b1 63) (cd f231 (b1 63)) (cd f231 []))=(cd f231 []))) ?_
 revert h
 delta lM
 generalize (cd f231 (b1 63))=xc0
 exact mpF
theorem sK (h:bin Q .neq 27 false true Y2 (ci 0) (fun E7 w=>cond E7 (K (Value.tuple #[Value.nilFunc,Y2]) w) (K (Value.tuple #[Value.func (Fn.func 244) #[] #[X2,U2,W2,V2],ci 0]) w)) w):lM K (vh Y1 Z1 U2 V2 W2 X2 Y2 zf) w:=by
 delta lM;exact mpK h
attribute [irreducible] lM
theorem Ax (h:box Q 50 Y1 (fun d=>alc Q 50 fun A3=>ld Q 50 d fun A5=>af Q 54 Z1 0 fun A6=>ld Q 3 A6 fun A7=>af Q 54 Z1 6 fun A8=>ld Q 2 A8 fun A9=>call Q 243 #[A5,A7,A9] fun C0=>ext Q C0 0 fun C1=>ext Q C0 1 fun C2=>sto Q 50 A3 C1 fun _=>bp Q [(some 50,A3),(none,C2)] K) w):Gives Q 242 #[Y1,Z1] w K:=by
 refine aB func242 (by kernel_rfl) ?_;exact mpK h
theorem Ay (h:ld Q 238 Y1 (fun A4=>bY Q A4 #[] fun _ w=>aG (fun S w=>hL S 79 Z1 fun A6=>hN S A6 fun A7=>hF S 135 A7 8 fun A8=>hL S 132 A8 fun A9=>hL S 151 U2 fun C0=>dO Q 132 A9 C0 cT (fun _ w=>aG (fun S w=>hL S 79 Z1 fun C1=>hN S C1 fun C2=>hF S 135 C2 7 fun C3=>hL S 131 C3 fun C4=>hL S 151 U2 fun C5=>hF S 54 V2 0 fun C6=>hL S 3 C6 fun C7=>hF S 54 V2 7 fun C8=>hL S 31 C8 fun C9=>hF S 54 V2 4 fun D0=>hL S 31 D0 fun D1=>hF S 54 V2 6 fun D2=>hL S 2 D2 fun D3=>hld S (bld Q 126 #[(0,C7),(1,C9),(2,D1),(3,D3)]) fun D4=>dO Q 131 C4 C5 D4 (fun _=>K (Value.tuple #[])) w) w.drew) w) w.drew) w):Gives Q 244 #[Y1,Z1,U2,V2] w K:=by
 refine aB func244 (by kernel_rfl) ?_;exact mpK h
def qB (l0 e1 l2 e3 q6 of7 g8 is9 f11 F0 F1 F2:Value)(zf:Nat→Value):List Value:=l0::e1::l2::e3::zf 4::zf 5::q6::of7::g8::is9::zf 10::f11::zT zf 12 28 (F0::F1::F2::zT zf 43 13 ([]))
def jT (K:KV):KE:=ae Q (cd f232 [1,1,1,1]) (rk f232 K) xf (rk f232 K)
theorem BU {K:KV}{Y1 Z1:Value}{w:World}(h:box Q 79 Y1 (fun U2=>box Q 54 Z1 fun V2 w=>aG (fun S w=>hF S 54 V2 0 fun C2=>hL S 3 C2 fun C3=>hF S 54 V2 7 fun C4=>hL S 31 C4 fun C5=>hld S (bld Q 151 #[(0,C3),(1,C5)]) fun C6=>hF S 54 V2 0 fun C7=>hL S 3 C7 fun C8=>hF S 54 V2 8 fun C9=>hL S 31 C9 fun D0=>hld S (bld Q 151 #[(0,C8),(1,D0)]) fun D1=>(alc Q 151 (fun W2=>aY S fun S=>alc Q 151 fun X2=>aY S fun S=>sto Q 151 W2 C6 fun _=>aY S fun _=>sto Q 151 X2 D1 fun _ w=>sL 79 U2 (fun D2=>sN D2 fun D3=>sF 135 D3 8 fun D4=>sL 132 D4 fun D5=>sL 151 W2 fun D6=>sti (lkp Q 132 D5 D6 false) fun D7 w=>cond D7 (K (Value.tuple #[Value.nilFunc,ci 14]) w) (aG (fun S w=>hL S 79 U2 fun D9=>hN S D9 fun E0=>hF S 135 E0 7 fun E1=>hL S 131 E1 fun E2=>hL S 151 X2 fun E3=>hld S (lkp Q 131 E2 E3 true) fun E4=>hld S (ext Q E4 0) fun E5=>hld S (ext Q E4 1) fun E6=>alc Q 126 (fun Y2=>aY S fun S=>sto Q 126 Y2 E5 fun _=>aY S fun _=>jT K (qB Y1 Z1 U2 V2 W2 X2 Y2 E6 uu uu uu uu (zV (zV zu 4 [Value.nilFunc,ci 0]) 12 [C2,C3,C4,C5,C6,C7,C8,C9,D0,D1,D2,D3,D4,D5,D6,D7,E4,D9,E0,E1,E2,E3,E4,E5,E6]))) w) w.drew)) w.drew) w)∧(alc Q 151 (fun X2=>aY S fun S=>alc Q 151 fun W2=>aY S fun S=>sto Q 151 W2 C6 fun _=>aY S fun _=>sto Q 151 X2 D1 fun _ w=>sL 79 U2 (fun D2=>sN D2 fun D3=>sF 135 D3 8 fun D4=>sL 132 D4 fun D5=>sL 151 W2 fun D6=>sti (lkp Q 132 D5 D6 false) fun D7 w=>cond D7 (K (Value.tuple #[Value.nilFunc,ci 14]) w) (aG (fun S w=>hL S 79 U2 fun D9=>hN S D9 fun E0=>hF S 135 E0 7 fun E1=>hL S 131 E1 fun E2=>hL S 151 X2 fun E3=>hld S (lkp Q 131 E2 E3 true) fun E4=>hld S (ext Q E4 0) fun E5=>hld S (ext Q E4 1) fun E6=>alc Q 126 (fun Y2=>aY S fun S=>sto Q 126 Y2 E5 fun _=>aY S fun _=>jT K (qB Y1 Z1 U2 V2 W2 X2 Y2 E6 uu uu uu uu (zV (zV zu 4 [Value.nilFunc,ci 0]) 12 [C2,C3,C4,C5,C6,C7,C8,C9,D0,D1,D2,D3,D4,D5,D6,D7,E4,D9,E0,E1,E2,E3,E4,E5,E6]))) w) w.drew)) w.drew) w)) w.drew) w):Gives Q 232 #[Y1,Z1] w K:=by
 refine aB func232 (by kernel_rfl) ?_
 refine Eq.mp (congrArg (fun c=>ae Q c _ _ _ _ w) (by kernel_rfl:(rep [1,1,1,1] (cd f232 [1,1,1,1]) (cd f232 []))=(cd f232 []))) ?_
 revert h
 delta jT
 generalize (cd f232 [1,1,1,1])=xc0
 exact mpF
theorem As (h:un Q .not Z2 (fun E8 w=>aI E8 false (fun u=>af Q 126 Y2 4 (fun V3=>ld Q 31 V3 fun W3=>bin Q .neq 31 false true W3 (cu 0) fun X3=>u [V3,W3,X3]) w) (fun k=>k [uu,uu,uu] w) fun j=>pick E8 cT (gd j 2) fun F3 w=>cond F3 (K (Value.tuple #[Value.nilFunc,ci 12]) w) (ld Q 79 U2 (fun F5=>af Q 126 Y2 2 fun F6=>ld Q 31 F6 fun F7=>call Q 241 #[F5,F7,Value.func (Fn.func 245) #[] #[V2,Y2]] fun F9=>ext Q F9 0 fun G0=>ext Q F9 1 fun G1=>alc Q 238 fun d=>sto Q 238 d G0 fun _=>bin Q .neq 27 false true G1 (ci 0) fun G3 w=>cond G3 (K (Value.tuple #[Value.nilFunc,G1]) w) (K (Value.tuple #[Value.func (Fn.func 247) #[] #[d,U2,W2,V2,Y2,X2],ci 0]) w)) w)) w):jT K (qB Y1 Z1 U2 V2 W2 X2 Y2 Z2 U3 V3 W3 X3 zf) w:=by
 delta jT;exact mpK h
attribute [irreducible] jT
theorem Aq (h:box Q 50 Y1 (fun d=>alc Q 50 fun A4=>ld Q 50 d fun A6=>af Q 54 Z1 0 fun A7=>ld Q 3 A7 fun A8=>af Q 126 U2 3 fun A9=>ld Q 2 A9 fun C0=>call Q 246 #[A6,A8,C0] fun C1=>ext Q C1 0 fun C2=>ext Q C1 1 fun C3=>sto Q 50 A4 C2 fun _=>bp Q [(some 50,A4),(none,C3)] K) w):Gives Q 245 #[Y1,Z1,U2] w K:=by
 refine aB func245 (by kernel_rfl) ?_;exact mpK h
theorem Ar (h:ld Q 238 Y1 (fun A6=>bY Q A6 #[] fun _ w=>aG (fun S w=>hL S 79 Z1 fun A8=>hN S A8 fun A9=>hF S 135 A9 8 fun C0=>hL S 132 C0 fun C1=>hL S 151 U2 fun C2=>dO Q 132 C1 C2 cT (fun _=>af Q 54 V2 7 fun C3=>ld Q 31 C3 fun C4=>af Q 126 W2 4 fun C5=>sto Q 31 C5 C4 fun _ w=>aG (fun S w=>hL S 79 Z1 fun C6=>hN S C6 fun C7=>hF S 135 C7 7 fun C8=>hL S 131 C8 fun C9=>hL S 151 X2 fun D0=>hL S 126 W2 fun D1=>dO Q 131 C9 D0 D1 (fun _=>K (Value.tuple #[])) w) w.drew) w) w.drew) w):Gives Q 247 #[Y1,Z1,U2,V2,W2,X2] w K:=by
 refine aB func247 (by kernel_rfl) ?_;exact mpK h
def ve (l0 e1 l2 e3 r6 f8:Value)(zf:Nat→Value):List Value:=l0::e1::l2::e3::zf 4::zf 5::r6::zf 7::f8::zT zf 9 38 ([])
def lI (K:KV):KE:=ae Q (cd f233 [1,1,1,1]) (rk f233 K) xf (rk f233 K)
theorem BX {K:KV}{Y1 Z1:Value}{w:World}(h:box Q 79 Y1 (fun U2=>box Q 54 Z1 fun V2 w=>aG (fun S w=>hL S 79 U2 fun C0=>hN S C0 fun C1=>hF S 135 C1 5 fun C2=>hL S 130 C2 fun C3=>hF S 54 V2 4 fun C4=>hL S 31 C4 fun C5=>hld S (lkp Q 130 C3 C5 true) fun C6=>hld S (ext Q C6 0) fun C7=>hld S (ext Q C6 1) fun C8=>alc Q 50 (fun W2=>aY S fun S=>sto Q 50 W2 C7 fun _=>aY S fun _=>un Q .not C8 fun D1 w=>cond D1 (K (Value.tuple #[Value.nilFunc,ci 9]) w) (sL 79 U2 (fun D3=>sF 54 V2 5 fun D4=>sL 3 D4 fun D5=>sti (bin Q .sub 3 false true D5 (ci 1)) fun D6=>sN D3 fun D7=>sF 135 D7 0 fun D8=>sI 41 D8 D6 fun D9=>sL 4 D9 fun E0=>sti (un Q .not E0) fun E1 w=>cond E1 (K (Value.tuple #[Value.nilFunc,ci 10]) w) (ld Q 50 W2 (fun E3=>af Q 54 V2 0 fun E4=>ld Q 3 E4 fun E5=>af Q 54 V2 5 fun E6=>ld Q 3 E6 fun E7=>af Q 54 V2 6 fun E8=>ld Q 2 E8 fun E9=>call Q 248 #[E3,E5,E7,E9] fun F0=>ext Q F0 0 fun F1=>ext Q F0 1 fun F2=>sto Q 50 W2 F1 fun _=>lI K (ve Y1 Z1 U2 V2 W2 F2 (zV (zV (zV zu 4 [Value.nilFunc,ci 0]) 7 [C8]) 9 [C6,C0,C1,C2,C3,C4,C5,C6,C7,C8,D1,C8,D1,E1,D3,D4,D5,D6,D7,D8,D9,E0,E1,F0,E3,E4,E5,E6,E7,E8,E9,F0,F1,F2]))) w)) w.drew)) w) w.drew) w):Gives Q 233 #[Y1,Z1] w K:=by
 refine aB func233 (by kernel_rfl) ?_
 refine Eq.mp (congrArg (fun c=>ae Q c _ _ _ _ w) (by kernel_rfl:(rep [1,1,1,1] (cd f233 [1,1,1,1]) (cd f233 []))=(cd f233 []))) ?_
 revert h
 delta lI
 generalize (cd f233 [1,1,1,1])=xc0
 exact mpF
theorem Aw (h:bin Q .neq 27 false true X2 (ci 0) (fun F4 w=>cond F4 (K (Value.tuple #[Value.nilFunc,X2]) w) (K (Value.tuple #[Value.func (Fn.func 249) #[] #[W2,U2,V2],ci 0]) w)) w):lI K (ve Y1 Z1 U2 V2 W2 X2 zf) w:=by
 delta lI;exact mpK h
attribute [irreducible] lI
theorem Av (h:aG (fun S w=>hL S 79 Z1 fun A3=>hN S A3 fun A4=>hF S 135 A4 5 fun A5=>hL S 130 A5 fun A6=>hF S 54 U2 4 fun A7=>hL S 31 A7 fun A8=>hL S 50 Y1 fun A9=>dO Q 130 A6 A8 A9 (fun _=>K (Value.tuple #[])) w) w.drew):Gives Q 249 #[Y1,Z1,U2] w K:=by
 refine aB func249 (by kernel_rfl) ?_;exact mpK h
theorem BV (h:box Q 79 Y1 (fun j=>box Q 54 Z1 fun d=>K (Value.tuple #[Value.func (Fn.func 250) #[] #[j,d],ci 0])) w):Gives Q 234 #[Y1,Z1] w K:=by
 refine aB func234 (by kernel_rfl) ?_;exact mpK h
theorem At (h:sL 79 Y1 (fun A2=>sF 54 Z1 5 fun A3=>sL 3 A3 fun A4=>sti (bin Q .sub 3 false true A4 (ci 1)) fun A5=>sN A2 fun A6=>sF 135 A6 0 fun A7=>sI 41 A7 A5 fun A8=>sto Q 4 A8 cT fun _=>K (Value.tuple #[])) w.drew):Gives Q 250 #[Y1,Z1] w K:=by
 refine aB func250 (by kernel_rfl) ?_;exact mpK h
theorem Bc (h:box Q 79 Y1 (fun j=>box Q 54 Z1 fun d=>K (Value.tuple #[Value.func (Fn.func 251) #[] #[j,d],ci 0])) w):Gives Q 235 #[Y1,Z1] w K:=by
 refine aB func235 (by kernel_rfl) ?_;exact mpK h
theorem yT (h:sL 79 Y1 (fun A2=>sF 54 Z1 0 fun A3=>sL 3 A3 fun A4=>sti (bin Q .sub 3 false true A4 (ci 1)) fun A5=>sN A2 fun A6=>sF 135 A6 1 fun A7=>sI 41 A7 A5 fun A8=>sto Q 4 A8 cT fun _=>K (Value.tuple #[])) w.drew):Gives Q 251 #[Y1,Z1] w K:=by
 refine aB func251 (by kernel_rfl) ?_;exact mpK h
def fZ (l0 e1 l2 e3 D0 D8:Value)(zf:Nat→Value):List Value:=l0::e1::l2::e3::zT zf 4 16 (D0::zT zf 21 7 (D8::zT zf 29 26 ([])))
def dx (K:KV):KE:=ae Q (cd f140 [1,1]) (rk f140 K) xf (rk f140 K)
def lG (K:KV):KE:=ae Q (cd f140 (b1 1663)) (dx K) (xx xf (dx K) 0) (rk f140 K)
def gM (K:KV):KE:=ae Q (cd f140 (b1 6655)) (dx K) (xx xf (dx K) 0) (rk f140 K)
def lH (K:KV):KE:=ae Q (cd f140 (b1 13309)) (gM K) (xx xf (dx K) 0) (rk f140 K)
theorem BT {K:KV}{Y1 Z1:Value}{w:World}(h:box Q 54 Z1 (fun V2=>bin Q .eql 79 false true Y1 (Value.pointer none) fun A8 w=>cond A8 (K (Value.tuple #[Value.nilFunc,ci 2]) w) (ld Q 54 V2 (fun C0=>call Q 41 #[C0] fun C1=>un Q .not C1 fun C2 w=>cond C2 (K (Value.tuple #[Value.nilFunc,ci 1]) w) (aG (fun S w=>hN S Y1 fun C5=>hF S 135 C5 2 fun C6=>hL S 35 C6 fun C7=>hL S 54 V2 fun C8=>call Q 97 #[C7,C8] (fun C9=>aG fun _ w=>cond C9 (K (Value.tuple #[Value.nilFunc,ci 14]) w) (aG (fun S w=>hN S Y1 fun D2=>hF S 135 D2 2 fun D3=>hL S 35 D3 fun D4=>hL S 54 V2 fun D5=>call Q 98 #[D4,D5] (fun D6=>aG fun S w=>hld S (un Q .not D6) fun D7=>lG K (fZ Y1 Z1 uu V2 D7 uu (zV (zV zu 4 [Value.nilFunc,ci 0,A8,Y1,A8,C2,C0,C1,C2,C9,Y1,C5,C6,C7,C8,C9]) 21 [Y1,D2,D3,D4,D5,D6,D7])) w) w) w.drew)) w) w.drew)) w)) w):Gives Q 140 #[Y1,Z1] w K:=by
 refine aB func140 (by kernel_rfl) ?_
 refine Eq.mp (congrArg (fun c=>ae Q c _ _ _ _ w) (by kernel_rfl:(rep (b1 1663) (cd f140 (b1 1663)) (cd f140 []))=(cd f140 []))) ?_
 revert h
 delta lG dx
 generalize (cd f140 (b1 1663))=xc0
 exact mpF
theorem Am (h:cond W2 (K (Value.tuple #[Value.nilFunc,ci 13]) w) (sF 54 V2 0 (fun E0=>sL 3 E0 fun E1=>sti (bin Q .sub 3 false true E1 (ci 1)) fun E2=>sN Y1 fun E3=>sF 135 E3 0 fun E4=>sI 41 E4 E2 fun E5=>sL 4 E5 fun E6=>sti (un Q .not E6) fun E7=>lH K (fZ Y1 Z1 U2 V2 W2 E7 (zV zf 29 [Y1,E0,E1,E2,E3,E4,E5,E6,E7]))) w.drew)):lG K (fZ Y1 Z1 U2 V2 W2 X2 zf) w:=by
 delta lG
 refine Eq.mp (congrArg (fun c=>ae Q c _ _ _ _ w) (by kernel_rfl:(rep [1,0,1] (cd f140 (b1 13309)) (cd f140 (b1 1663)))=(cd f140 (b1 1663)))) ?_
 revert h
 delta lH gM
 generalize (cd f140 (b1 13309))=xc0
 generalize (dx K)=qc0
 exact mpF
theorem Ao (h:cond X2 (gM K (fZ Y1 Z1 U2 V2 W2 X2 zf) w) (sF 54 V2 0 (fun E9=>sL 3 E9 fun F0=>sti (bin Q .sub 3 false true F0 (ci 1)) fun F1=>sN Y1 fun F2=>sF 135 F2 1 fun F3=>sI 41 F3 F1 fun F4=>sL 4 F4 fun F5=>gM K (fZ Y1 Z1 U2 V2 W2 F5 (zV zf 38 [Y1,E9,F0,F1,F2,F3,F4,F5]))) w.drew)):lH K (fZ Y1 Z1 U2 V2 W2 X2 zf) w:=by
 delta lH;revert h;generalize (gM K)=qc0;generalize (dx K)=qc1;exact mpF
theorem sJ (h:cond X2 (K (Value.tuple #[Value.nilFunc,ci 10]) w) (dx K (fZ Y1 Z1 U2 V2 W2 X2 zf) w)):gM K (fZ Y1 Z1 U2 V2 W2 X2 zf) w:=by
 delta gM;revert h;generalize (dx K)=qc0;exact mpF
theorem Ap (h:aG (fun S w=>hF S 54 V2 3 fun F6=>hL S 5 F6 fun F7=>hI S 265 (Value.pointer (some ⟨0,0,none⟩)) F7 fun F8=>hL S 264 F8 fun F9=>hL S 54 V2 fun G1=>bY Q F9 #[Y1,G1] (fun G2=>aG fun S w=>hld S (ext Q G2 0) fun G3=>hld S (ext Q G2 1) fun G4=>K (Value.tuple #[G3,G4]) w) w) w.drew):dx K (fZ Y1 Z1 U2 V2 W2 X2 zf) w:=by
 delta dx;exact mpK h
attribute [irreducible] dx lG gM lH
theorem BO (h:box Q 54 Z1 (fun d=>ld Q 54 d fun A9=>call Q 140 #[Y1,A9] fun C0=>ext Q C0 0 fun C1=>ext Q C0 1 fun C2=>bin Q .neq 27 false true C2 (ci 0) fun C4 w=>cond C4 (K C2 w) (bY Q C1 #[] (fun _ w=>sF 54 d 0 (fun C9=>sL 3 C9 fun D0=>sti (bin Q .sub 3 false true D0 (ci 1)) fun D1=>sN Y1 fun D2=>sF 135 D2 2 fun D3=>sI 35 D3 D1 fun D4=>sL 31 D4 fun D5=>sti (bin Q .add 31 false true D5 (cu 1)) fun D6=>sN Y1 fun D7=>sF 135 D7 2 fun D8=>sI 35 D8 D1 fun D9=>sto Q 31 D9 D6 fun _=>K (ci 0)) w.drew) w)) w):Gives Q 96 #[Y1,Z1] w K:=by
 refine aB func96 (by kernel_rfl) ?_;exact mpK h
def grC (x:GR):List Value:=[iv x.o,u6 x.q,u6 x.n,iv x.a,u6 x.b]
theorem iI (x:GR):(grC x).length=5:=rfl
theorem rJ (x:GR):∀v∈grC x,v.oneCell'=true:=by simp[grC,u6,iv,Value.oneCell']
theorem wA (h:K (.pointer (some ⟨b,o+0,none⟩)) w):af Tryz.prog 126 (.pointer (some ⟨b,o,none⟩)) 0 K w:=aK (by kernel_rfl) h
theorem CX (h:K (.pointer (some ⟨b,o+1,none⟩)) w):af Tryz.prog 126 (.pointer (some ⟨b,o,none⟩)) 1 K w:=aK (by kernel_rfl) h
theorem Lx (h:K (.pointer (some ⟨b,o+2,none⟩)) w):af Tryz.prog 126 (.pointer (some ⟨b,o,none⟩)) 2 K w:=aK (by kernel_rfl) h
theorem Ly (h:K (.pointer (some ⟨b,o+3,none⟩)) w):af Tryz.prog 126 (.pointer (some ⟨b,o,none⟩)) 3 K w:=aK (by kernel_rfl) h
theorem GP (h:K (.pointer (some ⟨b,o+4,none⟩)) w):af Tryz.prog 126 (.pointer (some ⟨b,o,none⟩)) 4 K w:=aK (by kernel_rfl) h
def fY (l0 l1 s2 D2 D3 D4 F6:Value)(zf:Nat→Value):List Value:=l0::l1::s2::zT zf 3 24 (D2::D3::D4::zT zf 30 27 (F6::zT zf 58 14 ([])))
def fF (K:KV):KE:=ae Q (cd f25 [1,1,1,1]) (rk f25 K) xf (rk f25 K)
def nK (K:KV):KE:=ae Q (cd f25 (b1 122)) (fF K) (xx xf (fF K) 0) (rk f25 K)
def gJ (K:KV):KE:=ae Q (cd f25 (b1 63)) (rk f25 K) xf (rk f25 K)
def nL (K:KV):KE:=ae Q (cd f25 (b1 250)) (gJ K) (xx xf (gJ K) 2) (rk f25 K)
theorem BR (h:alc Q 45 (fun U2=>bin Q .eql 79 false true Y1 (Value.pointer none) fun A5 w=>cond A5 (ld Q 45 U2 (fun A6=>sto Q 45 U2 A6 fun _=>bp Q [(some 45,U2)] K) w) (sN Y1 (fun A8=>sF 135 A8 0 fun A9=>sL 41 A9 fun C0=>sN Y1 fun C2=>sF 135 C2 1 fun C3=>sL 41 C3 fun C4=>sN Y1 fun C5=>sF 135 C5 2 fun C6=>sL 35 C6 fun C7=>sti (bld Q 45 #[(0,C0),(1,C4),(2,C7)]) fun C8=>sto Q 45 U2 C8 fun _=>aU Y1 fun C9=>af Q 135 C9 3 fun D0=>ld Q 127 D0 fun D1=>call Q 51 #[D1] fun V2=>lN 120 V2 fun W2=>nK K (fY Y1 uu U2 V2 W2 (ci 0) uu (zV (zV zu 7 [Y1,A5]) 10 [Y1,A8,A9,C0,Y1,C2,C3,C4,Y1,C5,C6,C7,C8,Y1,C9,D0,D1]))) w.drew)) w):Gives Q 25 #[Y1] w K:=by
 refine aB func25 (by kernel_rfl) ?_;revert h;delta nK fF;exact mpF
theorem Af (Inv:Value→World→Prop)(μ:Value→World→Nat)(I:Inv X2 w)(J:∀(d:Value) (dd:Nat→Value) (w:World) (m:Nat),Inv d w→m=μ d w →
  lS d W2 (fun D5 w=>cond D5 (aV Q 120 V2 d (fun D6=>ld Q 31 D6 fun D7 w=>aG (fun S w=>hF S 45 U2 3 fun D8=>hL S 42 D8 fun D9=>hN S Y1 fun E0=>hF S 135 E0 4 fun E1=>hL S 129 E1 fun E2=>hld S (lkp Q 129 E2 D7 false) fun E3=>hN S Y1 fun E4=>hF S 135 E4 5 fun E5=>hL S 130 E5 fun E6=>hld S (lkp Q 130 E6 D7 false) fun E7=>hld S (bld Q 52 #[(0,D7),(1,E3),(2,E7)]) fun E8=>bT Q 42 1 #[(0,E8)] (fun E9=>aY S fun _=>blt Q .append #[42,42] 42 #[false,false] #[D9,E9] fun F0=>aG fun S w=>hF S 45 U2 3 fun F1=>sto Q 42 F1 F0 (fun _=>nC d fun F2 w=>(Inv F2 w)∧((μ F2 w)<m)) w) w) w.drew) w) (fF K (fY Y1 Z1 U2 V2 W2 d Y2 (zV dd 30 [D5])) w)) w):nK K (fY Y1 Z1 U2 V2 W2 X2 Y2 zf) w:=by
 refine aL (cd f25 (b1 244)) (zr [(4,1),(29,24)]) (by kernel_rfl) (vP [29] Inv) (vQ [29] μ) I ?_;intro e' w' hI;have h:=J _ (zM zf (fun i=>gd e' i) (zr [(4,1),(29,24)])) w' _ hI rfl;revert h;generalize (fF K)=qc0;exact mpF
theorem Ah (h:aU Y1 (fun F3=>af Q 135 F3 7 fun F4=>ld Q 131 F4 fun F5=>rng Q 131 F5 fun Y2=>nL K (fY Y1 Z1 U2 V2 W2 X2 Y2 (zV zf 53 [Y1,F3,F4,F5]))) w):fF K (fY Y1 Z1 U2 V2 W2 X2 Y2 zf) w:=by
 delta fF;revert h;delta nL gJ;exact mpF
theorem Ag (Inv:World→Prop)(μ:World→Nat)(I:Inv w)(J:∀(dd:Nat→Value) (w:World) (m:Nat),Inv w→m=μ w →
  nxt Q Y2 false 0 (fun F7=>ext Q F7 0 fun F8 w=>cond F8 (ent Q Y2 (fun F9=>ext Q F9 1 fun G0=>alc Q 126 fun j=>sto Q 126 j G0 fun _=>af Q 45 U2 4 fun G1=>ld Q 43 G1 fun G2=>ld Q 126 j fun G3=>bT Q 43 1 #[(0,G3)] fun G4=>blt Q .append #[43,43] 43 #[false,false] #[G2,G4] fun G5=>af Q 45 U2 4 fun G6=>sto Q 43 G6 G5 fun _ w=>(Inv w)∧((μ w)<m)) w) (gJ K (fY Y1 Z1 U2 V2 W2 X2 Y2 (zV dd 58 [F7,F8])) w)) w):nL K (fY Y1 Z1 U2 V2 W2 X2 Y2 zf) w:=by
 refine aL (cd f25 (b1 500)) (zr [(6,1),(58,10)]) (by kernel_rfl) (fun u d=>Inv d) (fun u d=>μ d) I ?_;intro e' w' hI;have h:=J (zM zf (fun i=>gd e' i) (zr [(6,1),(58,10)])) w' _ hI rfl;revert h;generalize (gJ K)=qc0;exact mpF
theorem Ai (h:af Q 45 U2 4 (fun G7=>ld Q 43 G7 fun G8=>call Q 52 #[G8,Value.func (Fn.func 53) #[] #[]] fun _=>ld Q 45 U2 fun G9=>sto Q 45 U2 G9 fun _=>bp Q [(some 45,U2)] K) w):gJ K (fY Y1 Z1 U2 V2 W2 X2 Y2 zf) w:=by
 delta gJ;exact mpK h
attribute [irreducible] fF nK gJ nL
theorem Ae (h:box Q 126 Y1 (fun d=>box Q 126 Z1 fun j w=>aG (fun S w=>hF S 126 d 0 fun A2=>hL S 3 A2 fun A3=>hF S 126 j 0 fun A4=>hL S 3 A4 fun A5=>hF S 126 d 1 fun A7=>hL S 31 A7 fun A8=>hF S 126 j 1 fun A9=>hL S 31 A9 fun C0=>call Q 55 #[A3,A5] (fun A6=>aY S fun _=>call Q 56 #[A8,C0] fun C1=>aG fun _=>bT Q 96 2 #[(0,A6),(1,C1)] fun C2=>aG fun _=>call Q 54 #[C2] fun C3=>aG fun _=>K C3) w) w.drew) w):Gives Q 53 #[Y1,Z1] w K:=by
 refine aB func53 (by kernel_rfl) ?_;exact mpK h
theorem BQ (h:alc Q 35 (fun A0=>bin Q .eql 79 false true Y1 (Value.pointer none) fun A1 w=>cond A1 (bld Q 35 #[] (fun A2=>sto Q 35 A0 A2 fun _=>bp Q [(some 35,A0)] K) w) (aU Y1 (fun A4=>af Q 135 A4 2 fun A5=>ld Q 35 A5 fun A6=>sto Q 35 A0 A6 fun _=>bp Q [(some 35,A0)] K) w)) w):Gives Q 79 #[Y1] w K:=by
 refine aB func79 (by kernel_rfl) ?_;exact mpK h
end
section
attribute [local irreducible] bin un conv call bY blt slc af fld aV idx lkp dO gY eSt rng nxt ent ext alc box bld bT ld sto aU dE mkS ifc pick rdy wts aI sti cond bp Gives ae fh fT cOp
open Go.RowKit
abbrev ON (w:World)(B:Nat)(a:Option Addr)(n c:Nat)(l:List Int):Prop:=w.ownsRow B 3 1 (.slice a n c) n (l.map iv)
theorem ON.nil (w:World)(B:Nat):ON w B none 0 0 []:=World.ownsRow_nil w B _ 1
theorem ON.bel {l:List Int}(h:ON w B a n c l)(d:Below w.heap.size w w'):ON w' B a n c l:=cJ h fun k j=>d.block k (World.ownsRow.lt h k j).2
theorem ON.len {l:List Int}(h:ON w B a n c l):l.length=n:=by have d:=h.1;simpa using d
theorem ON.mono {l:List Int}(h:ON w B a n c l)(I:b≤B):ON w b a n c l:=by
 refine⟨h.1,?_⟩;rcases h.2 with j|⟨g,cap,d,u,J,r⟩
 ·exact .inl j
 ·exact .inr ⟨g,cap,d,u,by omega,r⟩
theorem Rs :(Tryz.prog.info? 3).map (fun i=>(i.zero,i.size,i.bytes))=some (some (.int .i64 0),1,8):=by kernel_rfl
theorem Fk (I L:List Bool)(k:Nat):vp I L (k+1)=vp I L k++if I.getD k false && !L.getD k false then [((k:Nat):Int)+1]else []:=by
 unfold vp;rw[List.range_succ,List.filter_append,List.map_append]
 congr 1
 cases h:I.getD k false && !L.getD k false with
 | false=>rw[List.filter_cons_of_neg (by rw[h];simp)];rfl
 | true=>rw[List.filter_cons_of_pos (by rw[h])];rfl
theorem LY (I L:List Bool):∀k,(vp I L k).length≤k
 | 0=>by simp[vp]
 | k+1=>by
  have:=LY I L k
  rw[Fk,List.length_append];split<;>simp<;>omega
theorem Lc {k:IntKind}{v:Value}(J:P.underlying t=some (.array n e))(u:∀w,(isAgg e).run P w=.ok false w)(I:∀w,(sizeOf e).run P w=.ok 1 w)(hi:i<n)(M:cs[i]? = some v)(h:K v w):idx P t (.agg cs.toArray) (.int k (i:Nat)) K w:=by
 unfold idx;refine gZ (w':=w) (v:=v) ?_ h;have d:(0:Int)≤(i:Int):=by omega
 have j:(i:Int)<(n:Int):=by omega
 simp only[Instr.index,asIntOf,Sem.run_bind,Sem.run_pure,Result.andThen_ok,run_underlying J,d,j,and_self,if_true,I,part,u,Int.toNat_natCast,Nat.mul_one];simp[M]
theorem WB (h:∀w',blk w' w.heap.size 3 [iv x]→Below w.heap.size w w'→w'.heap.size=w.heap.size+1→K (.slice (some ⟨w.heap.size,0,none⟩) 1 1) w'):bT Tryz.prog 96 1 #[(0,iv x)] K w :=
 mY (vs:=[iv x]) underlying96 (s:=1) (by kernel_rfl) (by kernel_rfl) (by omega) rfl (by simp) (by simp) (by simp) (by simp[Value.cells,iv]) fun w' d b s=>h w' (by simpa[iv,Value.cells]using d) b s
theorem apN {cs:Array Bool}{l:List Int}(U:ON w B a n c l)(X:blk w g 3 [iv x])(O:B≤w.heap.size)(hn:n≤100000)(h:∀d j w',ON w' B d (n+1) j (l++[x])→Below B w w'→K (.slice d (n+1) j) w'):blt Tryz.prog .append #[96,96] E cs #[.slice a n c,.slice (some ⟨g,0,none⟩) 1 1] K w:=by
 obtain⟨i,hi,hz,M,u⟩:=info_parts Rs;refine Uy (base:=B) (s:=1) (m:=1) (ys:=[iv x]) underlying96 hi hz M u rfl (by omega) U X rfl (by simp[iv,Value.oneCell']) (by omega) (by omega) O ?_;intro d j w' J I _;refine h d j w' (by simpa[ON]using J) (dW I O (fun k Z=>?_));exact(World.ownsRow.lt U k Z).1
theorem Vg {s:STA}(Z:SK w s)(h:∀w' a c,ON w' w.heap.size a (vp s.I s.L 6).length c (vp s.I s.L 6)→Below w.heap.size w w'→K (.slice a (vp s.I s.L 6).length c) w'):call Tryz.prog 29 #[.agg (saC s).toArray] K w:=by
 refine aj (goK func29) (JG ?_);refine cv fun j O b1 s1=>?_;have O:blk j w.heap.size 45 (saC s):=by simpa[Value.cells]using O
 refine uO ?_;refine ldA (n:=6) (vs:=s.I.map .bool) underlying41 rfl (by kernel_rfl) O (by
  rw[List.drop_zero];unfold saC;rw[List.append_assoc,List.append_assoc,List.take_left' (by simp[Z.i6])]) (by simp[Z.i6]) ?_
 refine Hx (Inv:=fun l i _ _ _ _ _ wr=>∃(k n:Nat) (a:Option Addr) (c:Nat),l=.slice a n c∧i=.int .i64 (k:Nat)∧k≤6∧ON wr j.heap.size a n c (vp s.I s.L k)∧Below j.heap.size j wr) (μ:=fun _ i _ _ _ _ _ _=>6-(intOf i).toNat)
  ⟨0,0,none,0,rfl,rfl,by omega,ON.nil _ _,Below.refl _ _⟩ ?_
 rintro _ _ _ _ _ _ _ dd w2 m ⟨k,n,a,c,rfl,rfl,am,X,b2⟩ hm;have ad:=ac b2 O O.lt;have U:=X.len;have an:=LY s.I s.L k;have al:=b2.size;refine aM ?_;by_cases hk:k<6
 ·refine ax (by omega) <|Hw ?_;refine Lc (v:=.bool (s.I.getD k false)) underlying41 (fun _=>by kernel_rfl) (fun _=>by kernel_rfl) hk (by
   have:=Z.i6
   rw[List.getElem?_map,List.getElem?_eq_getElem (by omega)];simp[List.getD,show k<s.I.length by omega]) ?_
  have d:∀(M:World) (u:Option Addr) (n' J:Nat),ON M j.heap.size u n' J (vp s.I s.L (k+1))→Below j.heap.size j M →
    (∃(k' n:Nat) (a:Option Addr) (c:Nat),Value.slice u n' J=.slice a n c∧Value.int .i64 ((k:Int)+1)=.int .i64 (k':Nat)∧k'≤6∧ON M j.heap.size a n c (vp s.I s.L k')∧Below j.heap.size j M)∧6-(intOf (.int .i64 ((k:Int)+1))).toNat<m :=
   fun M u n' J h1 h2=>⟨⟨k+1,n',u,J,rfl,by simp,by omega,h1,h2⟩,by rw[hm];simp[intOf];omega⟩
  have no:(s.I.getD k false && !s.L.getD k false)=false→vp s.I s.L (k+1)=vp s.I s.L k:=fun hq=>by rw[Fk,hq];simp
  cases hI:s.I.getD k false with
  | false =>
   refine mE <|ex <|aO <|uQ <|aW (by omega) (by omega) ?_;exact d w2 a n c (by rw[no (by rw[hI];rfl)];exact X) b2
  | true =>
   refine kS <|zR <|eO underlying41 (s:=1) (fun _=>by kernel_rfl) (by omega) (by omega) <|lK (v:=.bool (s.L.getD k false)) ad (by rw[show 0+6+(k:Int).toNat*1=6+k by omega];exact Wk Z hk) <|dB <|bX ?_;cases hL:s.L.getD k false with
   | true =>
    refine aO <|uQ <|aW (by omega) (by omega) ?_;exact d w2 a n c (by rw[no (by rw[hI,hL];rfl)];exact X) b2
   | false =>
    refine bu <|aW (by omega) (by omega) ?_;refine WB fun M g3 b3 s3=>?_;refine apN (X.bel b3) g3 (by omega) (by omega) fun u J w4 ag b4=>?_;refine uQ <|aW (by omega) (by omega) ?_;exact d w4 u (n+1) J (by rw[Fk,hI,hL];exact ag) ((b2.trans (b3.mono al)).trans b4)
 ·refine aq (by omega) ?_;obtain rfl:k=6:=by omega
  refine Hy ?_
  have:=h w2 a c (by rw[U];exact X.mono (by omega)) (b1.trans (b2.mono (by omega)))
  rw[U]at this;exact this
end
end Go.Proofs.YtkbhfjljieopoaaGreatDoor
