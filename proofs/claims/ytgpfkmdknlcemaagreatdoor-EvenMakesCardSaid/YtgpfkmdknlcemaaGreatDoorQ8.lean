import Derived.Test.YtgpfkmdknlcemaaGreatDoorQ3
import Derived.Shelf.SlSortCmp.NoneTotal
import Derived.Shelf.SlGeneric
import Derived.Ground.SlsfProg
import Derived.Test.YtgpfkmdknlcemaaGreatDoorQ5
import Derived.Test.YtgpfkmdknlcemaaGreatDoorQ7
import Derived.Test.YtgpfkmdknlcemaaGreatDoorQ1
namespace Go.Proofs.YtgpfkmdknlcemaaGreatDoor
set_option maxRecDepth 100000
set_option maxHeartbeats 4000000
open Tryz
section
open Go.RowKit
def qM (n0 n1 l4 i5:Value)(zf:Nat→Value):List Value:=n0::n1::zf 2::zf 3::l4::i5::zT zf 6 22 ([])
def jS (K:KV):KE:=ae Q (cd f33 [1,1,1,1]) (rk f33 K) xf (rk f33 K)
def qi (K:KV):KE:=ae Q (cd f33 [1,1,1,0,1,0]) (jS K) (xx xf (jS K) 0) (rk f33 K)
section
variable {K:KV}{n0 n1 l4 i5:Value}{zf:Nat→Value}{w:World}
theorem Gd {K:KV}{n0:Value}{w:World}(h:bin Q .lss 3 false true n0 (ci 1) (fun A1 w=>aJ A1 false (fun j=>bin Q .gtr 3 false true n0 (ci 6) (fun A4=>j [n0,A4]) w) (fun k=>k [uu,uu] w) fun d=>pick A1 cT (gd d 1) fun A5 w=>cond A5 (K (Value.tuple #[Value.pointer none,ci 1]) w) (bld Q 140 #[] (fun A6=>box Q 140 A6 fun A7=>bld Q 79 #[(1,A7)] fun A8=>box Q 79 A8 fun A9=>qi K (qM n0 uu A9 (ci 0) (zV (zV zu 2 [Value.pointer none,ci 0]) 6 [n0,A1,A1,gd d 0,gd d 1,A5,A6,A7,A8,A9]))) w)) w):Gives Q 33 #[n0] w K:=by
 refine aH func33 (by kernel_rfl) ?_;revert h;delta qi jS;exact mpF
theorem DO (Inv:Value→World→Prop)(μ:Value→World→Nat)(h0:Inv i5 w)(u:∀(d:Value) (C:Nat→Value) (w:World) (m:Nat),Inv d w→m=μ d w →
  lS d n0 (fun C2 w=>cond C2 (bo l4 (fun C7=>ai Q 79 C7 0 fun C8=>ai Q 30 C8 0 fun C9=>aU Q 23 C9 d fun D0=>sto Q 4 D0 cT fun _=>nC d fun C4 w=>(Inv C4 w)∧((μ C4 w)<m)) w) (jS K (qM n0 n1 l4 d (zV C 16 [d,n0,C2])) w)) w):qi K (qM n0 n1 l4 i5 zf) w:=by
 refine aQ (cd f33 [1,1,1,0,1,0,0]) (zr [(5,1),(16,11)]) (by kernel_rfl) (fun e2 j=>Inv (gd e2 5) j) (fun e2 j=>μ (gd e2 5) j) h0 ?_;intro e' w' hI;have h:=u (gd e' 5) (zM zf (fun i=>gd e' i) (zr [(5,1),(16,11)])) w' _ hI rfl;revert h;generalize (jS K)=qc0;exact mpF
theorem DP (h:K (Value.tuple #[l4,ci 0]) w):jS K (qM n0 n1 l4 i5 zf) w:=by
 delta jS;exact mpK h
end
attribute [irreducible] jS qi
def fR (l0 l1 m3 i4:Value)(zf:Nat→Value):List Value:=l0::l1::zf 2::m3::i4::zT zf 5 74 ([])
def iH (K:KV):KE:=ae Q (cd f54 [1,1,1,1]) (rk f54 K) xf (rk f54 K)
def fG (K:KV):KE:=ae Q (cd f54 [1,1,1,1,1,1]) (rk f54 K) xf (rk f54 K)
def jT (K:KV):KE:=ae Q (cd f54 [1,1,1,1,1,0,1,0]) (fG K) (xx xf (fG K) 0) (rk f54 K)
section
variable {K:KV}{l0 l1 m3 i4:Value}{zf:Nat→Value}{w:World}
theorem yP {K:KV}{l0:Value}{w:World}(h:bo l0 (fun A0=>ai Q 79 A0 0 fun A1=>ld Q 30 A1 fun A2=>bld Q 140 #[] fun A3=>box Q 140 A3 fun A4=>bld Q 79 #[(0,A2),(1,A4)] fun A5=>box Q 79 A5 fun A6=>dl Q 27 0 #[] fun A8=>bo l0 fun C0=>ai Q 79 C0 0 fun C1=>ai Q 30 C1 3 fun C2=>ld Q 27 C2 fun C3=>blt Q .append #[27,27] 27 #[false,false] #[A8,C3] fun C4=>bo A6 fun C5=>ai Q 79 C5 0 fun C6=>ai Q 30 C6 3 fun C7=>sto Q 27 C7 C4 fun _=>dl Q 28 0 #[] fun C9=>bo l0 fun D1=>ai Q 79 D1 0 fun D2=>ai Q 30 D2 4 fun D3=>ld Q 28 D3 fun D4=>blt Q .append #[28,28] 28 #[false,false] #[C9,D4] fun D5=>bo A6 fun D6=>ai Q 79 D6 0 fun D7=>ai Q 30 D7 4 fun D8=>sto Q 28 D8 D5 fun _=>iH K (fR l0 uu A6 uu (zV (zV zu 2 [Value.pointer none]) 5 [l0,A0,A1,A2,A3,A4,A5,A6,A6,A8,l0,C0,C1,C2,C3,C4,C5,C6,C7,A6,C9,l0,D1,D2,D3,D4,D5,D6,D7,D8]))) w):Gives Q 54 #[l0] w K:=by
 refine aH func54 (by kernel_rfl) ?_
 refine Eq.mp (congrArg (fun c=>ae Q c _ _ _ _ w) (by kernel_rfl:(rep [1,1,1,1] (cd f54 [1,1,1,1]) (cd f54 []))=(cd f54 []))) ?_
 revert h
 delta iH
 generalize (cd f54 [1,1,1,1])=xc0
 exact mpF
theorem wS (h:aK (fun S w=>hN S m3 fun E0=>hF S 79 E0 1 fun E1=>hL S 75 E1 fun E2=>hN S m3 fun E4=>hF S 79 E4 1 fun E5=>hL S 75 E5 fun E6=>hN S E6 fun E7=>hF S 140 E7 0 fun E8=>hL S 138 E8 fun E9=>hN S l0 fun F1=>hF S 79 F1 1 fun F2=>hL S 75 F2 fun F3=>hN S F3 fun F4=>hF S 140 F4 0 fun F5=>hL S 138 F5 fun F6=>blt Q .append #[138,138] 138 #[false,false] #[E9,F6] (fun F7=>bF S fun S w=>hN S E2 fun F8=>hF S 140 F8 0 fun F9=>sto Q 138 F9 F7 (fun _=>jT K (fR l0 l1 m3 (ci 0) (zV zf 35 [m3,E0,E1,E2,m3,E4,E5,E6,E7,E8,E9,l0,F1,F2,F3,F4,F5,F6,F7,F8,F9]))) w) w) w.drew):iH K (fR l0 l1 m3 i4 zf) w:=by
 delta iH;revert h;delta jT fG;exact mpF
theorem wT (Inv:Value→World→Prop)(μ:Value→World→Nat)(h0:Inv i4 w)(u:∀(d:Value) (C:Nat→Value) (w:World) (m:Nat),Inv d w→m=μ d w →
  bin Q .lss 3 false true d (ci 6) (fun G1 w=>cond G1 (aK (fun S w=>hN S m3 fun G8=>hF S 79 G8 2 fun G9=>hI S 77 G9 d fun H0=>hL S 76 H0 fun H1=>hN S l0 fun H4=>hF S 79 H4 2 fun H5=>hI S 77 H5 d fun H6=>hL S 76 H6 fun H7=>hN S m3 fun H9=>hF S 79 H9 2 fun I0=>blt Q .append #[76,76] 76 #[false,false] #[H1,H7] (fun H8=>bF S fun S w=>hI S 77 I0 d fun I1=>sto Q 76 I1 H8 (fun _=>nC d fun G3 w=>(Inv G3 w)∧((μ G3 w)<m)) w) w) w.drew) (fG K (fR l0 l1 m3 d (zV C 56 [d,G1])) w)) w):jT K (fR l0 l1 m3 i4 zf) w:=by
 refine aQ (cd f54 [1,1,1,1,1,0,1,0,0]) (zr [(4,1),(56,22)]) (by kernel_rfl) (fun e2 j=>Inv (gd e2 4) j) (fun e2 j=>μ (gd e2 4) j) h0 ?_;intro e' w' hI;have h:=u (gd e' 4) (zM zf (fun i=>gd e' i) (zr [(4,1),(56,22)])) w' _ hI rfl;revert h;generalize (fG K)=qc0;exact mpF
theorem wU (h:K m3 w):fG K (fR l0 l1 m3 i4 zf) w:=by
 delta fG;exact mpK h
end
attribute [irreducible] iH fG jT
def mJ (l0 id1 l2 i5:Value)(zf:Nat→Value):List Value:=l0::id1::l2::zf 3::zf 4::i5::zT zf 6 22 ([])
def fH (K:KV):KE:=ae Q (cd f81 [1,1]) (rk f81 K) xf (rk f81 K)
def mf (K:KV):KE:=ae Q (cd f81 [1,0,1,0]) (fH K) (xx xf (fH K) 0) (rk f81 K)
section
variable {K:KV}{l0 id1 l2 i5:Value}{zf:Nat→Value}{w:World}
theorem yQ {K:KV}{l0 id1:Value}{w:World}(h:mf K (mJ l0 id1 uu (ci 0) (zV zu 4 [ci 0])) w):Gives Q 81 #[l0,id1] w K:=by
 refine aH func81 (by kernel_rfl) ?_;revert h;delta mf fH;exact mpF
theorem wV (Inv:Value→World→Prop)(μ:Value→World→Nat)(h0:Inv i5 w)(u:∀(d:Value) (C:Nat→Value) (w:World) (m:Nat),Inv d w→m=μ d w →
  bo l0 (fun A2=>ai Q 79 A2 0 fun A3=>ai Q 30 A3 3 fun A4=>ld Q 27 A4 fun A5=>lN 27 A5 fun A6=>lS d A6 fun A7 w=>cond A7 (bo l0 (fun C1=>ai Q 79 C1 0 fun C2=>ai Q 30 C2 3 fun C3=>ld Q 27 C3 fun C4=>aU Q 27 C4 d fun C6=>ai Q 38 C6 0 fun C7=>ld Q 24 C7 fun C8=>bin Q .eql 24 false false C8 id1 fun D0 w=>cond D0 (K d w) (nC d (fun A9 w=>(Inv A9 w)∧((μ A9 w)<m)) w)) w) (fH K (mJ l0 id1 l2 d (zV C 6 [d,l0,A2,A3,A4,A5,A6,A7])) w)) w):mf K (mJ l0 id1 l2 i5 zf) w:=by
 refine aQ (cd f81 [1,0,1,0,0]) (zr [(4,24)]) (by kernel_rfl) (fun e2 j=>Inv (gd e2 5) j) (fun e2 j=>μ (gd e2 5) j) h0 ?_;intro e' w' hI;have h:=u (gd e' 5) (zM zf (fun i=>gd e' i) (zr [(4,24)])) w' _ hI rfl;revert h;generalize (fH K)=qc0;exact mpF
theorem wW (h:K (ci (-1)) w):fH K (mJ l0 id1 l2 i5 zf) w:=by
 delta fH;exact mpK h
end
attribute [irreducible] fH mf
def mh (l0 gH pM i7 D4 D5 D6 D7 D8 D9 E0 E1 E2 E3 E4:Value)(zf:Nat→Value):List Value:=l0::gH::pM::zT zf 3 4 (i7::zT zf 8 22 (D4::D5::D6::D7::D8::D9::E0::E1::E2::E3::E4::zf 41::zf 42::[]))
def fe (K:KV):KE:=ae Q (cd f108 [1,1]) (rk f108 K) xf (rk f108 K)
def lG (K:KV):KE:=ae Q (cd f108 [1,0,1,0]) (fe K) (xx xf (fe K) 0) (rk f108 K)
section
variable {K:KV}{l0 gH pM i7 D4 D5 D6 D7 D8 D9 E0 E1 E2 E3 E4:Value}{zf:Nat→Value}{w:World}
theorem xE {K:KV}{l0 gH pM:Value}{w:World}(h:lG K (mh l0 gH pM (ci 0) uu uu uu uu uu uu uu uu uu uu uu (zV zu 6 [ci 0])) w):Gives Q 108 #[l0,gH,pM] w K:=by
 refine aH func108 (by kernel_rfl) ?_;revert h;delta lG fe;exact mpF
theorem vZ (Inv:vI 12)(μ:vM 12)(h0:Inv i7 D4 D5 D6 D7 D8 D9 E0 E1 E2 E3 E4 w)(hs:∀(j ad R I J Z C X U u V M:Value) (dd:Nat→Value) (w:World) (m:Nat),Inv j ad R I J Z C X U u V M w→m=μ j ad R I J Z C X U u V M w →
  bo l0 (fun A4=>ai Q 79 A4 0 fun A5=>ai Q 30 A5 4 fun A6=>ld Q 28 A6 fun A7=>lN 28 A7 fun A8=>lS j A8 fun A9 w=>cond A9 (bo l0 (fun C3=>ai Q 79 C3 0 fun C4=>ai Q 30 C4 4 fun C5=>ld Q 28 C5 fun C6=>aU Q 28 C6 j fun C8=>ai Q 100 C8 0 fun C9=>ld Q 3 C9 fun D0=>bin Q .eql 3 false false D0 gH fun D2 w=>aJ D2 true (fun ag=>bo l0 (fun D5=>ai Q 79 D5 0 fun D6=>ai Q 30 D6 4 fun D7=>ld Q 28 D7 fun D8=>aU Q 28 D8 j fun E0=>ai Q 100 E0 1 fun E1=>ld Q 24 E1 fun E2=>bin Q .eql 24 false false E2 pM fun E4=>ag [l0,D5,D6,D7,D8,j,E0,E1,E2,pM,E4]) w) (fun k=>k [uu,uu,uu,uu,uu,uu,uu,uu,uu,uu,uu] w) fun d=>pick D2 (gd d 10) cF fun E5 w=>cond E5 (K j w) (nC j (fun C1 w=>(Inv C1 (gd d 0) (gd d 1) (gd d 2) (gd d 3) (gd d 4) (gd d 5) (gd d 6) (gd d 7) (gd d 8) (gd d 9) (gd d 10) w)∧((μ C1 (gd d 0) (gd d 1) (gd d 2) (gd d 3) (gd d 4) (gd d 5) (gd d 6) (gd d 7) (gd d 8) (gd d 9) (gd d 10) w)<m)) w)) w) (fe K (mh l0 gH pM j ad R I J Z C X U u V M (zV dd 8 [j,l0,A4,A5,A6,A7,A8,A9])) w)) w):lG K (mh l0 gH pM i7 D4 D5 D6 D7 D8 D9 E0 E1 E2 E3 E4 zf) w:=by
 refine aQ (cd f108 [1,0,1,0,0]) (zr [(6,37)]) (by kernel_rfl) (fun e2 w2=>Inv (gd e2 7) (gd e2 30) (gd e2 31) (gd e2 32) (gd e2 33) (gd e2 34) (gd e2 35) (gd e2 36) (gd e2 37) (gd e2 38) (gd e2 39) (gd e2 40) w2) (fun e2 w2=>μ (gd e2 7) (gd e2 30) (gd e2 31) (gd e2 32) (gd e2 33) (gd e2 34) (gd e2 35) (gd e2 36) (gd e2 37) (gd e2 38) (gd e2 39) (gd e2 40) w2) h0 ?_;intro e' w' hI
 have h:=hs (gd e' 7) (gd e' 30) (gd e' 31) (gd e' 32) (gd e' 33) (gd e' 34) (gd e' 35) (gd e' 36) (gd e' 37) (gd e' 38) (gd e' 39) (gd e' 40) (zM zf (fun i=>gd e' i) (zr [(6,37)])) w' _ hI rfl;revert h;generalize (fe K)=qc0;exact mpF
theorem wc (h:K (ci (-1)) w):fe K (mh l0 gH pM i7 D4 D5 D6 D7 D8 D9 E0 E1 E2 E3 E4 zf) w:=by
 delta fe;exact mpK h
end
attribute [irreducible] fe lG
def mi (l0 gH pM i7:Value)(zf:Nat→Value):List Value:=l0::gH::pM::zT zf 3 4 (i7::zT zf 8 24 ([]))
def ff (K:KV):KE:=ae Q (cd f105 [1,1]) (rk f105 K) xf (rk f105 K)
def lH (K:KV):KE:=ae Q (cd f105 [1,0,1,0]) (ff K) (xx xf (ff K) 0) (rk f105 K)
section
variable {K:KV}{l0 gH pM i7:Value}{zf:Nat→Value}{w:World}
theorem xF {K:KV}{l0 gH pM:Value}{w:World}(h:lH K (mi l0 gH pM (ci 0) (zV zu 6 [cF])) w):Gives Q 105 #[l0,gH,pM] w K:=by
 refine aH func105 (by kernel_rfl) ?_;revert h;delta lH ff;exact mpF
theorem wd (Inv:Value→World→Prop)(μ:Value→World→Nat)(h0:Inv i7 w)(u:∀(d:Value) (C:Nat→Value) (w:World) (m:Nat),Inv d w→m=μ d w →
  bin Q .sub 3 false true gH (ci 1) (fun A5=>bo l0 fun A6=>ai Q 79 A6 2 fun A7=>aU Q 77 A7 A5 fun A8=>ld Q 76 A8 fun A9=>lN 76 A9 fun C0=>lS d C0 fun C1 w=>cond C1 (bin Q .sub 3 false true gH (ci 1) (fun C6=>bo l0 fun C7=>ai Q 79 C7 2 fun C8=>aU Q 77 C8 C6 fun C9=>ld Q 76 C9 fun D0=>aU Q 76 D0 d fun D2=>ld Q 24 D2 fun D3=>bin Q .eql 24 false false D3 pM fun D5 w=>cond D5 (K cT w) (nC d (fun C3 w=>(Inv C3 w)∧((μ C3 w)<m)) w)) w) (ff K (mi l0 gH pM d (zV C 8 [d,l0,gH,A5,A6,A7,A8,A9,C0,C1])) w)) w):lH K (mi l0 gH pM i7 zf) w:=by
 refine aQ (cd f105 [1,0,1,0,0]) (zr [(6,26)]) (by kernel_rfl) (fun e2 j=>Inv (gd e2 7) j) (fun e2 j=>μ (gd e2 7) j) h0 ?_;intro e' w' hI;have h:=u (gd e' 7) (zM zf (fun i=>gd e' i) (zr [(6,26)])) w' _ hI rfl;revert h;generalize (ff K)=qc0;exact mpF
theorem we (h:K cF w):ff K (mi l0 gH pM i7 zf) w:=by
 delta ff;exact mpK h
end
attribute [irreducible] ff lH
def dq (l0 e1 l2 e3 o6 m7 f8 E6 E7 E8 E9 F0 F1 F2:Value)(zf:Nat→Value):List Value:=l0::e1::l2::e3::zf 4::zf 5::o6::m7::f8::zT zf 9 33 (E6::E7::E8::E9::F0::F1::F2::zT zf 49 24 ([]))
def lI (K:KV):KE:=ae Q (cd f36 [1,1,1,1,1]) (rk f36 K) xf (rk f36 K)
def lJ (K:KV):KE:=ae Q (cd f36 [1,1,1,1,1,1,1,1]) (rk f36 K) xf (rk f36 K)
section
variable {K:KV}{l0 e1 l2 e3 o6 m7 f8 E6 E7 E8 E9 F0 F1 F2:Value}{zf:Nat→Value}{w:World}
theorem yR {K:KV}(d:Code){l0 e1:Value}{w:World}(h:box Q 54 e1 (fun e3=>ld Q 54 e3 fun A3=>call Q 51 #[A3] fun A4=>un Q .not A4 fun A5 w=>cond A5 (K (Value.tuple #[l0,ci 1]) w) (aK (fun S w=>hN S l0 fun A8=>hF S 79 A8 0 fun A9=>hF S 30 A9 2 fun C0=>hL S 26 C0 fun C1=>hL S 54 e3 fun C2=>call Q 52 #[C1,C2] (fun C3 w=>cond C3 (K (Value.tuple #[l0,ci 14]) w) (aK (fun S w=>hN S l0 fun C6=>hF S 79 C6 0 fun C7=>hF S 30 C7 2 fun C8=>hL S 26 C8 fun C9=>hL S 54 e3 fun D0=>call Q 53 #[C9,D0] (fun D1=>aK fun S w=>hld S (un Q .not D1) fun D2=>cond D2 (K (Value.tuple #[l0,ci 13]) w) (ai Q 54 e3 0 (fun D4=>ld Q 3 D4 fun D5=>bin Q .sub 3 false true D5 (ci 1) fun D6=>ae Q d (rk f36 K) (fun _ _ _=>False) (rk f36 K) (dq l0 e1 uu e3 D6 uu uu uu uu uu uu uu uu uu (zV (zV (zV (zV (zV zu 4 [Value.pointer none,ci 0]) 9 [A3,A4,A5]) 13 [l0,A8,A9,C0,C1,C2,C3]) 21 [l0,C6,C7,C8,C9,D0,D1,D2]) 30 [D4,D5,D6]))) w)) w) w.drew)) w) w.drew)) w):ae Q (rep [1,1,1,1,1] d (cd f36 [])) (rk f36 K) xf (rk f36 K) (dq l0 e1 uu uu uu uu uu uu uu uu uu uu uu uu zu) w:=Eq.mp (by kernel_rfl) h
theorem xH {K:KV}{l0 e1:Value}{w:World}(h:box Q 54 e1 (fun e3=>ld Q 54 e3 fun A3=>call Q 51 #[A3] fun A4=>un Q .not A4 fun A5 w=>cond A5 (K (Value.tuple #[l0,ci 1]) w) (aK (fun S w=>hN S l0 fun A8=>hF S 79 A8 0 fun A9=>hF S 30 A9 2 fun C0=>hL S 26 C0 fun C1=>hL S 54 e3 fun C2=>call Q 52 #[C1,C2] (fun C3 w=>cond C3 (K (Value.tuple #[l0,ci 14]) w) (aK (fun S w=>hN S l0 fun C6=>hF S 79 C6 0 fun C7=>hF S 30 C7 2 fun C8=>hL S 26 C8 fun C9=>hL S 54 e3 fun D0=>call Q 53 #[C9,D0] (fun D1=>aK fun S w=>hld S (un Q .not D1) fun D2=>cond D2 (K (Value.tuple #[l0,ci 13]) w) (ai Q 54 e3 0 (fun D4=>ld Q 3 D4 fun D5=>bin Q .sub 3 false true D5 (ci 1) fun D6=>lI K (dq l0 e1 uu e3 D6 uu uu uu uu uu uu uu uu uu (zV (zV (zV (zV (zV zu 4 [Value.pointer none,ci 0]) 9 [A3,A4,A5]) 13 [l0,A8,A9,C0,C1,C2,C3]) 21 [l0,C6,C7,C8,C9,D0,D1,D2]) 30 [D4,D5,D6]))) w)) w) w.drew)) w) w.drew)) w):Gives Q 36 #[l0,e1] w K:=aH func36 (by kernel_rfl) (Eq.mp (congrArg (fun c=>ae Q c (rk f36 K) xf (rk f36 K) (dq l0 e1 uu uu uu uu uu uu uu uu uu uu uu uu zu) w) (by kernel_rfl:(rep [1,1,1,1,1] (cd f36 [1,1,1,1,1]) (cd f36 []))=(cd f36 []))) (yR (cd f36 [1,1,1,1,1]) h))
theorem wg {K:KV}(j:Code){l0 e1 l2 e3 o6 m7 f8 E6 E7 E8 E9 F0 F1 F2:Value}{zf:Nat→Value}{w:World}(h:bo l0 (fun D9=>ai Q 79 D9 0 fun E0=>ai Q 30 E0 0 fun E1=>aU Q 23 E1 o6 fun E2=>ld Q 4 E2 fun E3=>un Q .not E3 fun E4 w=>aJ E4 false (fun u=>bo l0 (fun E8=>ai Q 79 E8 0 fun E9=>ai Q 30 E9 1 fun F0=>aU Q 23 F0 o6 fun F1=>ld Q 4 F1 fun F2=>u [l0,o6,E8,E9,F0,F1,F2]) w) (fun k=>k [uu,uu,uu,uu,uu,uu,uu] w) fun d=>pick E4 cT (gd d 6) fun F3 w=>cond F3 (K (Value.tuple #[l0,ci 10]) w) (call Q 54 #[l0] (fun F6=>ld Q 54 e3 fun F8=>call Q 55 #[F6,F8] fun F9=>ae Q j (rk f36 K) (fun _ _ _=>False) (rk f36 K) (dq l0 e1 l2 e3 o6 F6 F9 (gd d 0) (gd d 1) (gd d 2) (gd d 3) (gd d 4) (gd d 5) (gd d 6) (zV (zV (zV zf 33 [l0,o6,D9,E0,E1,E2,E3,E4,E4]) 49 [F3]) 51 [l0,F6,F6,F8,F9]))) w)) w):ae Q (rep [1,1,1] j (cd f36 [1,1,1,1,1])) (rk f36 K) xf (rk f36 K) (dq l0 e1 l2 e3 o6 m7 f8 E6 E7 E8 E9 F0 F1 F2 zf) w:=Eq.mp (by kernel_rfl) h
theorem wh (h:bo l0 (fun D9=>ai Q 79 D9 0 fun E0=>ai Q 30 E0 0 fun E1=>aU Q 23 E1 o6 fun E2=>ld Q 4 E2 fun E3=>un Q .not E3 fun E4 w=>aJ E4 false (fun k42=>bo l0 (fun E8=>ai Q 79 E8 0 fun E9=>ai Q 30 E9 1 fun F0=>aU Q 23 F0 o6 fun F1=>ld Q 4 F1 fun F2=>k42 [l0,o6,E8,E9,F0,F1,F2]) w) (fun k=>k [uu,uu,uu,uu,uu,uu,uu] w) fun us42=>pick E4 cT (gd us42 6) fun F3 w=>cond F3 (K (Value.tuple #[l0,ci 10]) w) (call Q 54 #[l0] (fun F6=>ld Q 54 e3 fun F8=>call Q 55 #[F6,F8] fun F9=>lJ K (dq l0 e1 l2 e3 o6 F6 F9 (gd us42 0) (gd us42 1) (gd us42 2) (gd us42 3) (gd us42 4) (gd us42 5) (gd us42 6) (zV (zV (zV zf 33 [l0,o6,D9,E0,E1,E2,E3,E4,E4]) 49 [F3]) 51 [l0,F6,F6,F8,F9]))) w)) w):lI K (dq l0 e1 l2 e3 o6 m7 f8 E6 E7 E8 E9 F0 F1 F2 zf) w:=by
 delta lI
 exact Eq.mp (congrArg (fun c=>ae Q c (rk f36 K) xf (rk f36 K) (dq l0 e1 l2 e3 o6 m7 f8 E6 E7 E8 E9 F0 F1 F2 zf) w) (by kernel_rfl:(rep [1,1,1] (cd f36 [1,1,1,1,1,1,1,1]) (cd f36 [1,1,1,1,1]))=(cd f36 [1,1,1,1,1]))) (wg (cd f36 [1,1,1,1,1,1,1,1]) h)
theorem wi {K:KV}{l0 e1 l2 e3 o6 m7 f8 E6 E7 E8 E9 F0 F1 F2:Value}{zf:Nat→Value}{w:World}(h:bin Q .neq 49 false true f8 (ci 0) (fun G1 w=>cond G1 (K (Value.tuple #[l0,f8]) w) (sN m7 (fun G6=>sF 79 G6 0 fun G7=>sF 30 G7 2 fun G8=>sI 26 G8 o6 fun G9=>sL 24 G9 fun H0=>sti (bin Q .add 24 false true H0 (cu 1)) fun H1=>sN m7 fun H2=>sF 79 H2 0 fun H3=>sF 30 H3 2 fun H4=>sI 26 H4 o6 fun H5=>sto Q 24 H5 H1 fun _=>K (Value.tuple #[m7,ci 0])) w.drew)) w):ae Q (cd f36 [1,1,1,1,1,1,1,1]) (rk f36 K) xf (rk f36 K) (dq l0 e1 l2 e3 o6 m7 f8 E6 E7 E8 E9 F0 F1 F2 zf) w:=Eq.mp (by kernel_rfl) h
theorem pN (h:bin Q .neq 49 false true f8 (ci 0) (fun G1 w=>cond G1 (K (Value.tuple #[l0,f8]) w) (sN m7 (fun G6=>sF 79 G6 0 fun G7=>sF 30 G7 2 fun G8=>sI 26 G8 o6 fun G9=>sL 24 G9 fun H0=>sti (bin Q .add 24 false true H0 (cu 1)) fun H1=>sN m7 fun H2=>sF 79 H2 0 fun H3=>sF 30 H3 2 fun H4=>sI 26 H4 o6 fun H5=>sto Q 24 H5 H1 fun _=>K (Value.tuple #[m7,ci 0])) w.drew)) w):lJ K (dq l0 e1 l2 e3 o6 m7 f8 E6 E7 E8 E9 F0 F1 F2 zf) w:=by
 delta lJ
 exact Eq.mp (congrArg (fun c=>ae Q c (rk f36 K) xf (rk f36 K) (dq l0 e1 l2 e3 o6 m7 f8 E6 E7 E8 E9 F0 F1 F2 zf) w) (by kernel_rfl:(cd f36 [1,1,1,1,1,1,1,1])=(cd f36 [1,1,1,1,1,1,1,1]))) (wi h)
end
attribute [irreducible] lI lJ
def bQ (l0 e1 l2 e3 k_5 k_6 r7 f8 A4 G7 I9 J0 J1 J4 J5 J6 J7 J8 J9 L0 L1 L2 L3 O6:Value)(zf:Nat→Value):List Value:=l0::e1::l2::e3::zf 4::k_5::k_6::r7::f8::zf 9::A4::zT zf 11 52 (G7::zT zf 64 21 (I9::J0::J1::zf 88::zf 89::J4::J5::J6::J7::J8::J9::L0::L1::L2::L3::zT zf 100 32 (O6::zT zf 133 19 ([]))))
def bp (K:KV):KE:=ae Q (cd f55 [1,1]) (rk f55 K) xf (rk f55 K)
def jU (K:KV):KE:=ae Q (cd f55 [1,0,1]) (bp K) xf (rk f55 K)
def jW (K:KV):KE:=ae Q (cd f55 [1,0,1,0,1,1,1,1,1]) (bp K) (xx xf (bp K) 0) (rk f55 K)
def gE (K:KV):KE:=ae Q (cd f55 [1,0,1,0,1,1,1,1,1,1,1,1,1,0,1,1,1,1]) (bp K) (xx xf (bp K) 0) (rk f55 K)
def jX (K:KV):KE:=ae Q (cd f55 [1,0,1,0,1,1,1,1,1,1,1,1,1,1,1]) (bp K) (xx xf (bp K) 0) (rk f55 K)
section
variable {K:KV}{l0 e1 l2 e3 k_5 k_6 r7 f8 A4 G7 I9 J0 J1 J4 J5 J6 J7 J8 J9 L0 L1 L2 L3 O6:Value}{zf:Nat→Value}{w:World}
theorem yS {K:KV}{l0 e1:Value}{w:World}(h:box Q 54 e1 (fun e3=>ai Q 54 e3 3 fun A3=>ld Q 5 A3 fun A4=>jU K (bQ l0 e1 uu e3 uu uu uu uu A4 uu uu uu uu uu uu uu uu uu uu uu uu uu uu uu (zV (zV zu 4 [ci 0]) 9 [A3]))) w):Gives Q 55 #[l0,e1] w K:=by
 refine aH func55 (by kernel_rfl) ?_
 refine Eq.mp (congrArg (fun c=>ae Q c _ _ _ _ w) (by kernel_rfl:(rep [1,0,1] (cd f55 [1,0,1]) (cd f55 []))=(cd f55 []))) ?_
 revert h
 delta jU bp
 generalize (cd f55 [1,0,1])=xc0
 exact mpF
theorem wX (h:bin Q .eql 5 false true A4 (cb 1) (fun A6 w=>cond A6 (ld Q 54 e3 (fun A8=>call Q 80 #[l0,A8] K) w) (bin Q .eql 5 false true A4 (cb 2) (fun C1 w=>cond C1 (ai Q 54 e3 4 (fun C3=>ld Q 24 C3 fun C4=>call Q 81 #[l0,C4] fun C5=>bin Q .lss 3 false true C5 (ci 0) fun C7 w=>cond C7 (K (ci 9) w) (sN l0 (fun C9=>sF 79 C9 0 fun D0=>sF 30 D0 3 fun D1=>sL 27 D1 fun D2=>sF 54 e3 0 fun D4=>sL 3 D4 fun D5=>sti (bin Q .sub 3 false true D5 (ci 1)) fun D6=>sI 27 D2 C5 fun D7=>sF 38 D7 2 fun D8=>sF 36 D8 0 fun D9=>sI 33 D9 D6 fun E0=>sL 2 E0 fun E1=>sF 54 e3 6 fun E2=>sL 2 E2 fun E3=>sti (bin Q .add 2 false false E1 E3) fun E4=>sti (bin Q .gtr 2 false true E4 (ci 140737488355328)) fun E5 w=>cond E5 (K (ci 6) w) (sN l0 (fun E7=>sF 79 E7 0 fun E8=>sF 30 E8 3 fun E9=>sL 27 E9 fun F0=>sF 54 e3 0 fun F2=>sL 3 F2 fun F3=>sti (bin Q .sub 3 false true F3 (ci 1)) fun F4=>sI 27 F0 C5 fun F5=>sF 38 F5 2 fun F6=>sF 36 F6 0 fun F7=>sI 33 F7 F4 fun F8=>sL 2 F8 fun F9=>sF 54 e3 6 fun G0=>sL 2 G0 fun G1=>sti (bin Q .add 2 false false F9 G1) fun G2=>sI 27 F0 C5 fun G3=>sF 38 G3 2 fun G4=>sF 36 G4 0 fun G5=>sI 33 G5 F4 fun G6=>sto Q 2 G6 G2 fun _=>bp K (bQ l0 e1 l2 e3 C5 k_6 r7 f8 A4 G7 I9 J0 J1 J4 J5 J6 J7 J8 J9 L0 L1 L2 L3 O6 (zV (zV zf 11 [A6,A6]) 16 [C1,C1,l0,C3,C4,C5,C5,C7,l0,C9,D0,D1,D2,C5,D4,D5,D6,D7,D8,D9,E0,E1,E2,E3,E4,E5,l0,E7,E8,E9,F0,C5,F2,F3,F4,F5,F6,F7,F8,F9,G0,G1,G2,G3,G4,G5,G6]))) w.drew)) w.drew)) w) (bin Q .eql 5 false true A4 (cb 3) (fun G8=>jW K (bQ l0 e1 l2 e3 k_5 k_6 r7 f8 A4 G8 I9 J0 J1 J4 J5 J6 J7 J8 J9 L0 L1 L2 L3 O6 (zV (zV (zV zf 11 [A6,A6]) 16 [C1,C1]) 64 [G8]))) w)) w)) w):jU K (bQ l0 e1 l2 e3 k_5 k_6 r7 f8 A4 G7 I9 J0 J1 J4 J5 J6 J7 J8 J9 L0 L1 L2 L3 O6 zf) w:=by
 delta jU
 refine Eq.mp (congrArg (fun c=>ae Q c _ _ _ _ w) (by kernel_rfl:(rep [0,1,1,1,1,1] (cd f55 [1,0,1,0,1,1,1,1,1]) (cd f55 [1,0,1]))=(cd f55 [1,0,1]))) ?_
 revert h
 delta jW
 generalize (cd f55 [1,0,1,0,1,1,1,1,1])=xc0
 generalize (bp K)=qc0
 exact mpF
theorem jo (h:K (ci 0) w):bp K (bQ l0 e1 l2 e3 k_5 k_6 r7 f8 A4 G7 I9 J0 J1 J4 J5 J6 J7 J8 J9 L0 L1 L2 L3 O6 zf) w:=by
 delta bp;exact mpK h
theorem wY (h:cond G7 (ld Q 54 e3 (fun H0=>call Q 82 #[l0,H0] K) w) (bin Q .eql 5 false true A4 (cb 4) (fun H3 w=>cond H3 (ld Q 54 e3 (fun H5=>call Q 83 #[l0,H5] K) w) (bin Q .eql 5 false true A4 (cb 5) (fun H8 w=>cond H8 (ai Q 54 e3 4 (fun I0=>ld Q 24 I0 fun I1=>call Q 81 #[l0,I1] fun I2=>bin Q .lss 3 false true I2 (ci 0) fun I4 w=>cond I4 (K (ci 9) w) (sF 54 e3 5 (fun I5=>sL 3 I5 fun I6=>sti (bin Q .lss 3 false true I6 (ci 1)) fun I7 w=>aJ I7 false (fun k85=>sF 54 e3 5 (fun I9=>sL 3 I9 fun J0=>sti (bin Q .gtr 3 false true J0 (ci 6)) fun J1=>k85 [I9,J0,J1]) w) (fun k=>k [uu,uu,uu] w) fun us85=>sti (pick I7 cT (gd us85 2)) fun J2 w=>aJ J2 false (fun k90=>sF 54 e3 5 (fun J5=>sL 3 J5 fun J6=>sti (bin Q .sub 3 false true J6 (ci 1)) fun J7=>sN l0 fun J8=>sF 79 J8 0 fun J9=>sF 30 J9 0 fun L0=>sI 23 L0 J7 fun L1=>sL 4 L1 fun L2=>sti (un Q .not L2) fun L3=>k90 [l0,J5,J6,J7,J8,J9,L0,L1,L2,L3]) w) (fun k=>k [uu,uu,uu,uu,uu,uu,uu,uu,uu,uu] w) fun us90=>sti (pick J2 cT (gd us90 9)) fun L4 w=>cond L4 (K (ci 10) w) (aK (fun S w=>hN S l0 fun L7=>hF S 79 L7 0 fun L8=>hF S 30 L8 3 fun L9=>hL S 27 L9 fun M0=>hI S 27 M0 I2 fun M2=>hF S 38 M2 2 fun M3=>hL S 36 M3 fun M4=>hF S 54 e3 0 fun M5=>hL S 3 M5 fun M6=>hF S 54 e3 5 fun M7=>hL S 3 M7 fun M8=>hF S 54 e3 6 fun M9=>hL S 2 M9 fun N0=>(call Q 84 #[M4,M6,M8,N0] (fun N1=>aK fun S w=>hld S (ext Q N1 0) fun N2=>hld S (ext Q N1 1) fun N3=>alc Q 36 (fun r7=>bF S fun S=>sto Q 36 r7 N2 fun _=>bF S fun _=>gE K (bQ l0 e1 l2 e3 k_5 I2 r7 N3 A4 G7 (gd us85 0) (gd us85 1) (gd us85 2) (gd us90 0) (gd us90 1) (gd us90 2) (gd us90 3) (gd us90 4) (gd us90 5) (gd us90 6) (gd us90 7) (gd us90 8) (gd us90 9) O6 (zV (zV (zV (zV zf 68 [H3,H3]) 73 [H8,H8,l0,I0,I1,I2,I2,I4,I5,I6,I7,I7]) 88 [J2,J2]) 100 [L4,N1,l0,L7,L8,L9,M0,I2,M2,M3,M4,M5,M6,M7,M8,M9,N0,N1,N2,N3]))) w) w)∧(alc Q 36 (fun r7=>bF S fun _=>call Q 84 #[M4,M6,M8,N0] fun N1=>aK fun S w=>hld S (ext Q N1 0) fun N2=>hld S (ext Q N1 1) fun N3=>sto Q 36 r7 N2 (fun _=>bF S fun _=>gE K (bQ l0 e1 l2 e3 k_5 I2 r7 N3 A4 G7 (gd us85 0) (gd us85 1) (gd us85 2) (gd us90 0) (gd us90 1) (gd us90 2) (gd us90 3) (gd us90 4) (gd us90 5) (gd us90 6) (gd us90 7) (gd us90 8) (gd us90 9) O6 (zV (zV (zV (zV zf 68 [H3,H3]) 73 [H8,H8,l0,I0,I1,I2,I2,I4,I5,I6,I7,I7]) 88 [J2,J2]) 100 [L4,N1,l0,L7,L8,L9,M0,I2,M2,M3,M4,M5,M6,M7,M8,M9,N0,N1,N2,N3]))) w) w)) w.drew)) w.drew)) w) (bin Q .eql 5 false true A4 (cb 6) (fun O7=>jX K (bQ l0 e1 l2 e3 k_5 k_6 r7 f8 A4 G7 I9 J0 J1 J4 J5 J6 J7 J8 J9 L0 L1 L2 L3 O7 (zV (zV (zV zf 68 [H3,H3]) 73 [H8,H8]) 133 [O7]))) w)) w)) w)):jW K (bQ l0 e1 l2 e3 k_5 k_6 r7 f8 A4 G7 I9 J0 J1 J4 J5 J6 J7 J8 J9 L0 L1 L2 L3 O6 zf) w:=by
 delta jW
 refine Eq.mp (congrArg (fun c=>ae Q c _ _ _ _ w) (by kernel_rfl:(rep [1,1,1,1,1,1] (cd f55 [1,0,1,0,1,1,1,1,1,1,1,1,1,1,1]) (rep [1,1,1,1,0,1,1,1,1] (cd f55 [1,0,1,0,1,1,1,1,1,1,1,1,1,0,1,1,1,1]) (cd f55 [1,0,1,0,1,1,1,1,1])))=(cd f55 [1,0,1,0,1,1,1,1,1]))) ?_
 revert h
 delta jX gE
 generalize (cd f55 [1,0,1,0,1,1,1,1,1,1,1,1,1,0,1,1,1,1])=xc0
 generalize (cd f55 [1,0,1,0,1,1,1,1,1,1,1,1,1,1,1])=xc1
 generalize (bp K)=qc0
 exact mpF
theorem wZ (h:bin Q .neq 49 false true f8 (ci 0) (fun N5 w=>cond N5 (K f8 w) (sN l0 (fun N8=>sF 79 N8 0 fun N9=>sF 30 N9 3 fun O0=>sL 27 O0 fun O1=>sL 36 r7 fun O3=>sI 27 O1 k_6 fun O4=>sF 38 O4 2 fun O5=>sto Q 36 O5 O3 fun _=>bp K (bQ l0 e1 l2 e3 k_5 k_6 r7 f8 A4 G7 I9 J0 J1 J4 J5 J6 J7 J8 J9 L0 L1 L2 L3 O6 (zV (zV zf 120 [f8,N5]) 123 [l0,N8,N9,O0,O1,k_6,O3,O4,O5]))) w.drew)) w):gE K (bQ l0 e1 l2 e3 k_5 k_6 r7 f8 A4 G7 I9 J0 J1 J4 J5 J6 J7 J8 J9 L0 L1 L2 L3 O6 zf) w:=by
 delta gE;revert h;generalize (bp K)=qc0;exact mpF
theorem xa (h:cond O6 (sF 54 e3 5 (fun O9=>sL 3 O9 fun P0=>sti (bin Q .sub 3 false true P0 (ci 1)) fun P1=>sN l0 fun P2=>sF 79 P2 0 fun P3=>sF 30 P3 0 fun P4=>sI 23 P4 P1 fun P5=>sto Q 4 P5 cT fun _=>bp K (bQ l0 e1 l2 e3 k_5 k_6 r7 f8 A4 G7 I9 J0 J1 J4 J5 J6 J7 J8 J9 L0 L1 L2 L3 O6 (zV zf 134 [l0,O9,P0,P1,P2,P3,P4,P5]))) w.drew) (bin Q .eql 5 false true A4 (cb 7) (fun P7 w=>cond P7 (sF 54 e3 0 (fun P9=>sL 3 P9 fun Q0=>sti (bin Q .sub 3 false true Q0 (ci 1)) fun Q1=>sN l0 fun Q2=>sF 79 Q2 0 fun Q3=>sF 30 Q3 1 fun Q4=>sI 23 Q4 Q1 fun Q5=>sto Q 4 Q5 cT fun _=>bp K (bQ l0 e1 l2 e3 k_5 k_6 r7 f8 A4 G7 I9 J0 J1 J4 J5 J6 J7 J8 J9 L0 L1 L2 L3 O6 (zV zf 142 [P7,P7,l0,P9,Q0,Q1,Q2,Q3,Q4,Q5]))) w.drew) (bp K (bQ l0 e1 l2 e3 k_5 k_6 r7 f8 A4 G7 I9 J0 J1 J4 J5 J6 J7 J8 J9 L0 L1 L2 L3 O6 (zV zf 142 [P7,P7])) w)) w)):jX K (bQ l0 e1 l2 e3 k_5 k_6 r7 f8 A4 G7 I9 J0 J1 J4 J5 J6 J7 J8 J9 L0 L1 L2 L3 O6 zf) w:=by
 delta jX;revert h;generalize (bp K)=qc0;exact mpF
end
attribute [irreducible] bp jU jW gE jX
def bl (l0 e1 l2 e3 mj i6 id7 f8 n9 mR E4 E5 E6 J7 J8 J9 L0 L1 L2 L3 L4 L5 L6 L7 L8:Value)(zf:Nat→Value):List Value:=l0::e1::l2::e3::zf 4::mj::i6::id7::f8::n9::mR::zT zf 11 29 (E4::E5::E6::zT zf 43 50 (J7::J8::J9::L0::L1::L2::L3::L4::L5::L6::L7::L8::zT zf 105 27 ([])))
def cz (K:KV):KE:=ae Q (cd f80 [1,1,1]) (rk f80 K) xf (rk f80 K)
def lL (K:KV):KE:=ae Q (cd f80 [1,1,0,1,0]) (cz K) (xx xf (cz K) 0) (rk f80 K)
def fg (K:KV)(B1:KE):KE:=ae Q (cd f80 [1,1,0,1,0,0,1,1]) B1 (xx xf (cz K) 0) (rk f80 K)
def jx (K:KV)(B1:KE):KE:=ae Q (cd f80 [1,1,0,1,0,0,1,0]) (fg K B1) (xx xf (cz K) 0) (rk f80 K)
def iy (K:KV):KE:=ae Q (cd f80 [1,1,1,1,1,1,1,1]) (rk f80 K) xf (rk f80 K)
def jy (K:KV):KE:=ae Q (cd f80 [1,1,1,1,1,1,1,1,1,1,1]) (rk f80 K) xf (rk f80 K)
def eD (K:KV):KE:=ae Q (cd f80 [1,1,1,1,1,1,1,1,1,1,1,1]) (rk f80 K) xf (rk f80 K)
def lM (K:KV):KE:=ae Q (cd f80 [1,1,1,1,1,1,1,1,1,1,1,0,0]) (eD K) (xx xf (eD K) 2) (rk f80 K)
section
variable {K:KV}{l0 e1 l2 e3 mj i6 id7 f8 n9 mR E4 E5 E6 J7 J8 J9 L0 L1 L2 L3 L4 L5 L6 L7 L8:Value}{zf:Nat→Value}{w:World}
theorem xI {K:KV}{l0 e1:Value}{w:World}(h:box Q 54 e1 (fun e3=>lL K (bl l0 e1 uu e3 (ci 0) (ci 0) uu uu uu uu uu uu uu uu uu uu uu uu uu uu uu uu uu uu uu (zV zu 4 [ci 0]))) w):Gives Q 80 #[l0,e1] w K:=by
 refine aH func80 (by kernel_rfl) ?_;revert h;delta lL cz;exact mpF
theorem wj (Inv:Value→Value→World→Prop)(μ:Value→Value→World→Nat)(h0:Inv mj i6 w)(hs:∀(own5' i6':Value) (dd:Nat→Value) (w:World) (m:Nat),Inv own5' i6' w→m=μ own5' i6' w →
  bo l0 (fun A7=>ai Q 79 A7 0 fun A8=>ai Q 30 A8 3 fun A9=>ld Q 27 A9 fun C0=>lN 27 C0 fun C1=>lS i6' C1 fun C2 w=>cond C2 (jx K (fun e2 w2=>(Inv (gd e2 5) (gd e2 6) w2)∧((μ (gd e2 5) (gd e2 6) w2)<m)) (bl l0 e1 l2 e3 own5' i6' id7 f8 n9 mR E4 E5 E6 J7 J8 J9 L0 L1 L2 L3 L4 L5 L6 L7 L8 (zV dd 11 [i6',l0,A7,A8,A9,C0,C1,C2])) w) (cz K (bl l0 e1 l2 e3 own5' i6' id7 f8 n9 mR E4 E5 E6 J7 J8 J9 L0 L1 L2 L3 L4 L5 L6 L7 L8 (zV dd 11 [i6',l0,A7,A8,A9,C0,C1,C2])) w)) w):lL K (bl l0 e1 l2 e3 mj i6 id7 f8 n9 mR E4 E5 E6 J7 J8 J9 L0 L1 L2 L3 L4 L5 L6 L7 L8 zf) w:=by
 refine aQ (cd f80 [1,1,0,1,0,0]) (zr [(5,2),(11,26)]) (by kernel_rfl) (fun e2 w2=>Inv (gd e2 5) (gd e2 6) w2) (fun e2 w2=>μ (gd e2 5) (gd e2 6) w2) h0 ?_
 intro e' w' hI
 have h:=hs (gd e' 5) (gd e' 6) (zM zf (fun i=>gd e' i) (zr [(5,2),(11,26)])) w' _ hI rfl
 refine Eq.mp (congrArg (fun c=>ae Q c _ _ _ _ w') (by kernel_rfl:(rep [1,0] (cd f80 [1,1,0,1,0,0,1,0]) (cd f80 [1,1,0,1,0,0]))=(cd f80 [1,1,0,1,0,0]))) ?_
 revert h
 delta jx fg
 generalize (cd f80 [1,1,0,1,0,0,1,0])=xc0
 generalize (cz K)=qc0
 exact mpF
theorem wk {B1:KE}(h:sN l0 (fun C6=>sF 79 C6 0 fun C7=>sF 30 C7 3 fun C8=>sL 27 C8 fun C9=>sI 27 C9 i6 fun D1=>sF 38 D1 0 fun D2=>sL 24 D2 fun D3=>sti (bin Q .shr 24 false true D3 (cu 40)) fun D4=>sF 54 e3 0 fun D5=>sL 3 D5 fun D6=>sti (conv Q 3 24 D6) fun D7=>sti (bin Q .eql 24 false false D4 D7) fun D8 w=>cond D8 (nC mj (fun E0=>fg K B1 (bl l0 e1 l2 e3 E0 i6 id7 f8 n9 mR E4 E5 E6 J7 J8 J9 L0 L1 L2 L3 L4 L5 L6 L7 L8 (zV zf 21 [l0,C6,C7,C8,C9,i6,D1,D2,D3,D4,D5,D6,D7,D8,mj,E0]))) w) (fg K B1 (bl l0 e1 l2 e3 mj i6 id7 f8 n9 mR E4 E5 E6 J7 J8 J9 L0 L1 L2 L3 L4 L5 L6 L7 L8 (zV zf 21 [l0,C6,C7,C8,C9,i6,D1,D2,D3,D4,D5,D6,D7,D8])) w)) w.drew):jx K B1 (bl l0 e1 l2 e3 mj i6 id7 f8 n9 mR E4 E5 E6 J7 J8 J9 L0 L1 L2 L3 L4 L5 L6 L7 L8 zf) w:=by
 delta jx;revert h;generalize (fg K B1)=qc0;generalize (cz K)=qc1;exact mpF
theorem wm (h:bin Q .geq 3 false true mj (ci 5) (fun E2 w=>aJ E2 false (fun k40=>ai Q 54 e3 6 (fun E4=>ld Q 2 E4 fun E5=>bin Q .gtr 2 false true E5 (ci 140737488355328) fun E6=>k40 [E4,E5,E6]) w) (fun k=>k [uu,uu,uu] w) fun us40=>pick E2 cT (gd us40 2) fun E7 w=>cond E7 (K (ci 6) w) (ai Q 54 e3 0 (fun E8=>ld Q 3 E8 fun E9=>ai Q 54 e3 1 fun F0=>ld Q 24 F0 fun F1=>call Q 103 #[E9,F1] fun F2 w=>aK (fun S w=>hN S l0 fun F4=>hF S 79 F4 1 fun F5=>hL S 75 F5 fun F6=>hF S 54 e3 4 fun F8=>hL S 24 F8 fun F9=>call Q 104 #[F6,F2,F9] (fun G0=>aK fun _=>bin Q .neq 49 false true G0 (ci 0) fun G2 w=>cond G2 (K G0 w) (ai Q 54 e3 4 (fun G5=>ld Q 24 G5 fun G6=>bld Q 38 #[(0,F2),(1,G6)] fun G7=>alc Q 38 fun n9=>sto Q 38 n9 G7 fun _=>iy K (bl l0 e1 l2 e3 mj i6 F2 G0 n9 mR (gd us40 0) (gd us40 1) (gd us40 2) J7 J8 J9 L0 L1 L2 L3 L4 L5 L6 L7 L8 (zV (zV (zV zf 37 [mj,E2,E2]) 43 [E7,E8,E9,F0,F1,F2,l0,F4,F5,F6,F2,F8,F9,G0,G0,G2]) 60 [F2,G5,G6,G7]))) w)) w) w.drew) w)) w):cz K (bl l0 e1 l2 e3 mj i6 id7 f8 n9 mR E4 E5 E6 J7 J8 J9 L0 L1 L2 L3 L4 L5 L6 L7 L8 zf) w:=by
 delta cz
 refine Eq.mp (congrArg (fun c=>ae Q c _ _ _ _ w) (by kernel_rfl:(rep [1,1,1,1,1] (cd f80 [1,1,1,1,1,1,1,1]) (cd f80 [1,1,1]))=(cd f80 [1,1,1]))) ?_
 revert h
 delta iy
 generalize (cd f80 [1,1,1,1,1,1,1,1])=xc0
 exact mpF
theorem pO {B1:KE}(h:nC i6 (fun C4=>B1 (bl l0 e1 l2 e3 mj C4 id7 f8 n9 mR E4 E5 E6 J7 J8 J9 L0 L1 L2 L3 L4 L5 L6 L7 L8 (zV zf 19 [i6,C4]))) w):fg K B1 (bl l0 e1 l2 e3 mj i6 id7 f8 n9 mR E4 E5 E6 J7 J8 J9 L0 L1 L2 L3 L4 L5 L6 L7 L8 zf) w:=by
 delta fg;revert h;generalize (cz K)=qc0;exact mpF
theorem wn (h:ai Q 54 e3 0 (fun G8=>ld Q 3 G8 fun G9=>bin Q .sub 3 false true G9 (ci 1) fun H0=>ai Q 54 e3 6 fun H1=>ld Q 2 H1 fun H2=>ai Q 38 n9 2 fun H3=>ai Q 36 H3 0 fun H4=>aU Q 33 H4 H0 fun H5=>sto Q 2 H5 H2 fun _=>bo l0 fun H7=>ai Q 79 H7 0 fun H8=>ai Q 30 H8 3 fun H9=>ld Q 27 H9 fun I0=>lN 27 I0 fun I1 w=>aK (fun S w=>hN S l0 fun I4=>hF S 79 I4 0 fun I5=>hF S 30 I5 3 fun I6=>hL S 27 I6 fun I7=>hL S 38 n9 fun I8=>dl Q 27 1 #[(0,I8)] (fun I9=>bF S fun _=>blt Q .append #[27,27] 27 #[false,false] #[I7,I9] fun J0=>aK fun S w=>hN S l0 fun J1=>hF S 79 J1 0 fun J2=>hF S 30 J2 3 fun J3=>sto Q 27 J3 J0 (fun _=>jy K (bl l0 e1 l2 e3 mj i6 id7 f8 n9 I1 E4 E5 E6 J7 J8 J9 L0 L1 L2 L3 L4 L5 L6 L7 L8 (zV zf 64 [G8,G9,H0,H1,H2,H3,H4,H5,l0,H7,H8,H9,I0,I1,l0,l0,I4,I5,I6,I7,I8,I9,J0,J1,J2,J3]))) w) w) w.drew) w):iy K (bl l0 e1 l2 e3 mj i6 id7 f8 n9 mR E4 E5 E6 J7 J8 J9 L0 L1 L2 L3 L4 L5 L6 L7 L8 zf) w:=by
 delta iy
 refine Eq.mp (congrArg (fun c=>ae Q c _ _ _ _ w) (by kernel_rfl:(rep [1,1,1] (cd f80 [1,1,1,1,1,1,1,1,1,1,1]) (cd f80 [1,1,1,1,1,1,1,1]))=(cd f80 [1,1,1,1,1,1,1,1]))) ?_
 revert h
 delta jy
 generalize (cd f80 [1,1,1,1,1,1,1,1,1,1,1])=xc0
 exact mpF
theorem wo (h:lM K (bl l0 e1 l2 e3 mj i6 id7 f8 n9 mR E4 E5 E6 J7 J8 J9 L0 L1 L2 L3 L4 L5 L6 L7 L8 zf) w):jy K (bl l0 e1 l2 e3 mj i6 id7 f8 n9 mR E4 E5 E6 J7 J8 J9 L0 L1 L2 L3 L4 L5 L6 L7 L8 zf) w:=by
 delta jy;revert h;delta lM eD;exact mpF
theorem wq (Inv:vI 13)(μ:vM 13)(h0:Inv mR J7 J8 J9 L0 L1 L2 L3 L4 L5 L6 L7 L8 w)(hs:∀(j R ad J X U V C u I Z ag M:Value) (dd:Nat→Value) (w:World) (m:Nat),Inv j R ad J X U V C u I Z ag M w→m=μ j R ad J X U V C u I Z ag M w →
  bin Q .gtr 3 false true j (ci 0) (fun J5 w=>aJ J5 true (fun al=>bo l0 (fun J8=>ai Q 79 J8 0 fun J9=>ai Q 30 J9 3 fun L0=>ld Q 27 L0 fun L1=>bin Q .sub 3 false true j (ci 1) fun L3=>aU Q 27 L1 L3 fun L4=>ai Q 38 L4 0 fun L5=>ld Q 24 L5 fun L6=>bin Q .gtr 24 false false L6 id7 fun L8=>al [l0,J8,J9,L0,L1,j,L3,L4,L5,L6,id7,L8]) w) (fun k=>k [uu,uu,uu,uu,uu,uu,uu,uu,uu,uu,uu,uu] w) fun d=>pick J5 (gd d 11) cF fun L9 w=>cond L9 (sN l0 (fun M1=>sF 79 M1 0 fun M2=>sF 30 M2 3 fun M3=>sL 27 M3 fun M4=>sN l0 fun M7=>sF 79 M7 0 fun M8=>sF 30 M8 3 fun M9=>sL 27 M9 fun N0=>sti (bin Q .sub 3 false true j (ci 1)) fun N2=>sI 27 N0 N2 fun N3=>sL 38 N3 fun N4=>sI 27 M4 j fun N5=>sto Q 38 N5 N4 fun _=>bin Q .sub 3 false true j (ci 1) fun N7 w=>(Inv N7 (gd d 0) (gd d 1) (gd d 2) (gd d 3) (gd d 4) (gd d 5) (gd d 6) (gd d 7) (gd d 8) (gd d 9) (gd d 10) (gd d 11) w)∧((μ N7 (gd d 0) (gd d 1) (gd d 2) (gd d 3) (gd d 4) (gd d 5) (gd d 6) (gd d 7) (gd d 8) (gd d 9) (gd d 10) (gd d 11) w)<m)) w.drew) (eD K (bl l0 e1 l2 e3 mj i6 id7 f8 n9 j E4 E5 E6 (gd d 0) (gd d 1) (gd d 2) (gd d 3) (gd d 4) (gd d 5) (gd d 6) (gd d 7) (gd d 8) (gd d 9) (gd d 10) (gd d 11) (zV (zV dd 90 [j,J5,J5]) 105 [L9])) w)) w):lM K (bl l0 e1 l2 e3 mj i6 id7 f8 n9 mR E4 E5 E6 J7 J8 J9 L0 L1 L2 L3 L4 L5 L6 L7 L8 zf) w:=by
 refine aQ (cd f80 [1,1,1,1,1,1,1,1,1,1,1,0,0,0]) (zr [(10,1),(90,34)]) (by kernel_rfl) (fun e2 w2=>Inv (gd e2 10) (gd e2 93) (gd e2 94) (gd e2 95) (gd e2 96) (gd e2 97) (gd e2 98) (gd e2 99) (gd e2 100) (gd e2 101) (gd e2 102) (gd e2 103) (gd e2 104) w2) (fun e2 w2=>μ (gd e2 10) (gd e2 93) (gd e2 94) (gd e2 95) (gd e2 96) (gd e2 97) (gd e2 98) (gd e2 99) (gd e2 100) (gd e2 101) (gd e2 102) (gd e2 103) (gd e2 104) w2) h0 ?_
 intro e' w' hI;have h:=hs (gd e' 10) (gd e' 93) (gd e' 94) (gd e' 95) (gd e' 96) (gd e' 97) (gd e' 98) (gd e' 99) (gd e' 100) (gd e' 101) (gd e' 102) (gd e' 103) (gd e' 104) (zM zf (fun i=>gd e' i) (zr [(10,1),(90,34)])) w' _ hI rfl;revert h;generalize (eD K)=qc0;exact mpF
theorem wt (h:sN l0 (fun N9=>sF 79 N9 0 fun O0=>sF 30 O0 3 fun O1=>sL 27 O1 fun O2=>sL 38 n9 fun O4=>sI 27 O2 mR fun O5=>sto Q 38 O5 O4 fun _=>K (ci 0)) w.drew):eD K (bl l0 e1 l2 e3 mj i6 id7 f8 n9 mR E4 E5 E6 J7 J8 J9 L0 L1 L2 L3 L4 L5 L6 L7 L8 zf) w:=by
 delta eD;exact mpK h
end
attribute [irreducible] cz lL fg jx iy jy eD lM
def aZ (l0 e1 l2 e3 p5 i6 k_7 r8 f9 g10 jE L3 L4 L5 L6 L7 L8 L9 M0 M1 M2 M3 M4 M5 M6 M7 M8 M9 N0 N1 N2 N3 N4 N5 N6 N7 N8 N9 O0 O1 O2 O3 O4 O5 O6 O7 O8 O9 P0 P1 P2 P3 P4 P5:Value)(zf:Nat→Value):List Value:=l0::e1::l2::e3::zf 4::p5::i6::k_7::r8::f9::g10::jE::zT zf 12 87 (L3::L4::L5::L6::L7::L8::L9::M0::M1::M2::M3::M4::M5::M6::M7::M8::M9::N0::N1::N2::N3::N4::N5::N6::N7::N8::N9::O0::O1::O2::O3::O4::O5::O6::O7::O8::O9::P0::P1::P2::P3::P4::P5::zT zf 142 46 ([]))
def bT (K:KV):KE:=ae Q (cd f82 [1,1,1,1,1]) (rk f82 K) xf (rk f82 K)
def jz (K:KV):KE:=ae Q (cd f82 [1,1,1,1,0,1,0]) (bT K) (xx xf (bT K) 0) (rk f82 K)
def fh (K:KV)(B1:KE):KE:=ae Q (cd f82 [1,1,1,1,0,1,0,0,1,1]) B1 (xx xf (bT K) 0) (rk f82 K)
def fi (K:KV)(B1:KE):KE:=ae Q (cd f82 [1,1,1,1,0,1,0,0,1,0,0,1,1]) (fh K B1) (xx (xx xf (bT K) 0) (fh K B1) 1) (rk f82 K)
def jA (K:KV):KE:=ae Q (cd f82 [1,1,1,1,1,1,1,1]) (rk f82 K) xf (rk f82 K)
def dO (K:KV):KE:=ae Q (cd f82 [1,1,1,1,1,1,1,1,1]) (rk f82 K) xf (rk f82 K)
def lO (K:KV):KE:=ae Q (cd f82 [1,1,1,1,1,1,1,1,0,0]) (dO K) (xx xf (dO K) 2) (rk f82 K)
section
variable {K:KV}{l0 e1 l2 e3 p5 i6 k_7 r8 f9 g10 jE L3 L4 L5 L6 L7 L8 L9 M0 M1 M2 M3 M4 M5 M6 M7 M8 M9 N0 N1 N2 N3 N4 N5 N6 N7 N8 N9 O0 O1 O2 O3 O4 O5 O6 O7 O8 O9 P0 P1 P2 P3 P4 P5:Value}{zf:Nat→Value}{w:World}
theorem xJ {K:KV}{l0 e1:Value}{w:World}(h:box Q 54 e1 (fun e3=>ai Q 54 e3 0 fun A7=>ld Q 3 A7 fun A8=>ai Q 54 e3 7 fun A9=>ld Q 24 A9 fun C0=>call Q 105 #[l0,A8,C0] fun C1 w=>cond C1 (K (ci 14) w) (aK (fun S w=>hN S l0 fun C3=>hF S 79 C3 1 fun C4=>hL S 75 C4 fun C5=>hF S 54 e3 4 fun C6=>hL S 24 C6 fun C7=>call Q 106 #[C5,C7] (fun C8=>aK fun _=>lN 76 C8 fun D0=>bin Q .eql 3 false true D0 (ci 0) fun D1 w=>cond D1 (K (ci 9) w) (jz K (aZ l0 e1 uu e3 C8 (ci 0) uu uu uu uu uu uu uu uu uu uu uu uu uu uu uu uu uu uu uu uu uu uu uu uu uu uu uu uu uu uu uu uu uu uu uu uu uu uu uu uu uu uu uu uu uu uu uu uu (zV (zV zu 4 [ci 0]) 12 [l0,A7,A8,A9,C0,C1,l0,C3,C4,C5,C6,C7,C8,C8,D0,D1])) w)) w) w.drew)) w):Gives Q 82 #[l0,e1] w K:=by
 refine aH func82 (by kernel_rfl) ?_;revert h;delta jz bT;exact mpF
theorem ww (Inv:Value→World→Prop)(μ:Value→World→Nat)(h0:Inv i6 w)(hs:∀(i6':Value) (dd:Nat→Value) (w:World) (m:Nat),Inv i6' w→m=μ i6' w →
  lN 76 p5 (fun D4=>lS i6' D4 fun D5 w=>cond D5 (aU Q 76 p5 i6' (fun E1=>ld Q 24 E1 fun E2=>call Q 81 #[l0,E2] fun E3 w=>aK (fun S w=>hN S l0 fun E6=>hF S 79 E6 0 fun E7=>hF S 30 E7 3 fun E8=>hL S 27 E8 fun E9=>hI S 27 E9 E3 fun F1=>hF S 38 F1 2 fun F2=>hL S 36 F2 fun F3=>hF S 54 e3 0 fun F4=>hL S 3 F4 fun F5=>hF S 54 e3 6 fun F6=>hL S 2 F6 fun F7=>(call Q 107 #[F3,F5,F7] (fun F8=>aK fun S w=>hld S (ext Q F8 0) fun F9=>hld S (ext Q F8 1) fun G0=>alc Q 36 (fun r8=>bF S fun S=>sto Q 36 r8 F9 fun _=>bF S fun _=>fi K (fun e2 w2=>(Inv (gd e2 6) w2)∧((μ (gd e2 6) w2)<m)) (aZ l0 e1 l2 e3 p5 i6' E3 r8 G0 g10 jE L3 L4 L5 L6 L7 L8 L9 M0 M1 M2 M3 M4 M5 M6 M7 M8 M9 N0 N1 N2 N3 N4 N5 N6 N7 N8 N9 O0 O1 O2 O3 O4 O5 O6 O7 O8 O9 P0 P1 P2 P3 P4 P5 (zV (zV dd 28 [i6',p5,D4,D5]) 34 [l0,p5,i6',E1,E2,E3,F8,l0,E6,E7,E8,E9,E3,F1,F2,F3,F4,F5,F6,F7,F8,F9,G0]))) w) w)∧(alc Q 36 (fun r8=>bF S fun _=>call Q 107 #[F3,F5,F7] fun F8=>aK fun S w=>hld S (ext Q F8 0) fun F9=>hld S (ext Q F8 1) fun G0=>sto Q 36 r8 F9 (fun _=>bF S fun _=>fi K (fun e2 w2=>(Inv (gd e2 6) w2)∧((μ (gd e2 6) w2)<m)) (aZ l0 e1 l2 e3 p5 i6' E3 r8 G0 g10 jE L3 L4 L5 L6 L7 L8 L9 M0 M1 M2 M3 M4 M5 M6 M7 M8 M9 N0 N1 N2 N3 N4 N5 N6 N7 N8 N9 O0 O1 O2 O3 O4 O5 O6 O7 O8 O9 P0 P1 P2 P3 P4 P5 (zV (zV dd 28 [i6',p5,D4,D5]) 34 [l0,p5,i6',E1,E2,E3,F8,l0,E6,E7,E8,E9,E3,F1,F2,F3,F4,F5,F6,F7,F8,F9,G0]))) w) w)) w.drew) w) (bT K (aZ l0 e1 l2 e3 p5 i6' (dd 7) (dd 8) (dd 9) g10 jE L3 L4 L5 L6 L7 L8 L9 M0 M1 M2 M3 M4 M5 M6 M7 M8 M9 N0 N1 N2 N3 N4 N5 N6 N7 N8 N9 O0 O1 O2 O3 O4 O5 O6 O7 O8 O9 P0 P1 P2 P3 P4 P5 (zV dd 28 [i6',p5,D4,D5])) w)) w):jz K (aZ l0 e1 l2 e3 p5 i6 k_7 r8 f9 g10 jE L3 L4 L5 L6 L7 L8 L9 M0 M1 M2 M3 M4 M5 M6 M7 M8 M9 N0 N1 N2 N3 N4 N5 N6 N7 N8 N9 O0 O1 O2 O3 O4 O5 O6 O7 O8 O9 P0 P1 P2 P3 P4 P5 zf) w:=by
 refine aQ (cd f82 [1,1,1,1,0,1,0,0]) (zr [(4,1),(6,4),(28,41)]) (by kernel_rfl) (fun e2 w2=>Inv (gd e2 6) w2) (fun e2 w2=>μ (gd e2 6) w2) h0 ?_
 intro e' w' hI
 have h:=hs (gd e' 6) (zM zf (fun i=>gd e' i) (zr [(4,1),(6,4),(28,41)])) w' _ hI rfl
 refine Eq.mp (congrArg (fun c=>ae Q c _ _ _ _ w') (by kernel_rfl:(rep [1,0,0,1,1] (cd f82 [1,1,1,1,0,1,0,0,1,0,0,1,1]) (cd f82 [1,1,1,1,0,1,0,0]))=(cd f82 [1,1,1,1,0,1,0,0]))) ?_
 revert h
 delta fi fh
 generalize (cd f82 [1,1,1,1,0,1,0,0,1,0,0,1,1])=xc0
 generalize (bT K)=qc0
 exact mpF
theorem wy {B1:KE}(h:bin Q .neq 49 false true f9 (ci 0) (fun G2 w=>cond G2 (K f9 w) (sN l0 (fun G5=>sF 79 G5 0 fun G6=>sF 30 G6 3 fun G7=>sL 27 G7 fun G8=>sL 36 r8 fun H0=>sI 27 G8 k_7 fun H1=>sF 38 H1 2 fun H2=>sto Q 36 H2 H0 fun _=>fh K B1 (aZ l0 e1 l2 e3 p5 i6 k_7 r8 f9 g10 jE L3 L4 L5 L6 L7 L8 L9 M0 M1 M2 M3 M4 M5 M6 M7 M8 M9 N0 N1 N2 N3 N4 N5 N6 N7 N8 N9 O0 O1 O2 O3 O4 O5 O6 O7 O8 O9 P0 P1 P2 P3 P4 P5 (zV (zV zf 57 [f9,G2]) 60 [l0,G5,G6,G7,G8,k_7,H0,H1,H2]))) w.drew)) w):fi K B1 (aZ l0 e1 l2 e3 p5 i6 k_7 r8 f9 g10 jE L3 L4 L5 L6 L7 L8 L9 M0 M1 M2 M3 M4 M5 M6 M7 M8 M9 N0 N1 N2 N3 N4 N5 N6 N7 N8 N9 O0 O1 O2 O3 O4 O5 O6 O7 O8 O9 P0 P1 P2 P3 P4 P5 zf) w:=by
 delta fi;revert h;generalize (fh K B1)=qc0;generalize (bT K)=qc1;exact mpF
theorem wA (h:ai Q 54 e3 0 (fun H3=>ld Q 3 H3 fun H4=>ai Q 54 e3 7 fun H5=>ld Q 24 H5 fun H6=>ai Q 54 e3 4 fun H7=>ld Q 24 H7 fun H8=>ai Q 54 e3 6 fun H9=>ld Q 2 H9 fun I0=>bld Q 100 #[(0,H4),(1,H6),(2,H8),(3,I0)] fun I1=>alc Q 100 fun g10=>sto Q 100 g10 I1 fun _=>bo l0 fun I3=>ai Q 79 I3 0 fun I4=>ai Q 30 I4 4 fun I5=>ld Q 28 I5 fun I6=>lN 28 I6 fun I7 w=>aK (fun S w=>hN S l0 fun J0=>hF S 79 J0 0 fun J1=>hF S 30 J1 4 fun J2=>hL S 28 J2 fun J3=>hL S 100 g10 fun J4=>dl Q 28 1 #[(0,J4)] (fun J5=>bF S fun _=>blt Q .append #[28,28] 28 #[false,false] #[J3,J5] fun J6=>aK fun S w=>hN S l0 fun J7=>hF S 79 J7 0 fun J8=>hF S 30 J8 4 fun J9=>sto Q 28 J9 J6 (fun _=>jA K (aZ l0 e1 l2 e3 p5 i6 k_7 r8 f9 g10 I7 L3 L4 L5 L6 L7 L8 L9 M0 M1 M2 M3 M4 M5 M6 M7 M8 M9 N0 N1 N2 N3 N4 N5 N6 N7 N8 N9 O0 O1 O2 O3 O4 O5 O6 O7 O8 O9 P0 P1 P2 P3 P4 P5 (zV zf 69 [H3,H4,H5,H6,H7,H8,H9,I0,I1,l0,I3,I4,I5,I6,I7,l0,l0,J0,J1,J2,J3,J4,J5,J6,J7,J8,J9]))) w) w) w.drew) w):bT K (aZ l0 e1 l2 e3 p5 i6 k_7 r8 f9 g10 jE L3 L4 L5 L6 L7 L8 L9 M0 M1 M2 M3 M4 M5 M6 M7 M8 M9 N0 N1 N2 N3 N4 N5 N6 N7 N8 N9 O0 O1 O2 O3 O4 O5 O6 O7 O8 O9 P0 P1 P2 P3 P4 P5 zf) w:=by
 delta bT
 refine Eq.mp (congrArg (fun c=>ae Q c _ _ _ _ w) (by kernel_rfl:(rep [1,1,1] (cd f82 [1,1,1,1,1,1,1,1]) (cd f82 [1,1,1,1,1]))=(cd f82 [1,1,1,1,1]))) ?_
 revert h
 delta jA
 generalize (cd f82 [1,1,1,1,1,1,1,1])=xc0
 exact mpF
theorem wB {B1:KE}(h:nC i6 (fun D7=>B1 (aZ l0 e1 l2 e3 p5 D7 k_7 r8 f9 g10 jE L3 L4 L5 L6 L7 L8 L9 M0 M1 M2 M3 M4 M5 M6 M7 M8 M9 N0 N1 N2 N3 N4 N5 N6 N7 N8 N9 O0 O1 O2 O3 O4 O5 O6 O7 O8 O9 P0 P1 P2 P3 P4 P5 (zV zf 32 [i6,D7]))) w):fh K B1 (aZ l0 e1 l2 e3 p5 i6 k_7 r8 f9 g10 jE L3 L4 L5 L6 L7 L8 L9 M0 M1 M2 M3 M4 M5 M6 M7 M8 M9 N0 N1 N2 N3 N4 N5 N6 N7 N8 N9 O0 O1 O2 O3 O4 O5 O6 O7 O8 O9 P0 P1 P2 P3 P4 P5 zf) w:=by
 delta fh;revert h;generalize (bT K)=qc0;exact mpF
theorem wC (h:lO K (aZ l0 e1 l2 e3 p5 i6 k_7 r8 f9 g10 jE L3 L4 L5 L6 L7 L8 L9 M0 M1 M2 M3 M4 M5 M6 M7 M8 M9 N0 N1 N2 N3 N4 N5 N6 N7 N8 N9 O0 O1 O2 O3 O4 O5 O6 O7 O8 O9 P0 P1 P2 P3 P4 P5 zf) w):jA K (aZ l0 e1 l2 e3 p5 i6 k_7 r8 f9 g10 jE L3 L4 L5 L6 L7 L8 L9 M0 M1 M2 M3 M4 M5 M6 M7 M8 M9 N0 N1 N2 N3 N4 N5 N6 N7 N8 N9 O0 O1 O2 O3 O4 O5 O6 O7 O8 O9 P0 P1 P2 P3 P4 P5 zf) w:=by
 delta jA;revert h;delta lO dO;exact mpF
theorem wD (Inv:vI 44)(μ:vM 44)(h0:Inv jE L3 L4 L5 L6 L7 L8 L9 M0 M1 M2 M3 M4 M5 M6 M7 M8 M9 N0 N1 N2 N3 N4 N5 N6 N7 N8 N9 O0 O1 O2 O3 O4 O5 O6 O7 O8 O9 P0 P1 P2 P3 P4 P5 w)(hs:∀(C Z V ad ch bv av bW bt b3 bb az ar al ag a9 U a3 a7 b0 ap a2 b6 a6 cj ca a0 cc am aS a4 b4 bk b5 a8 bi bd an R X b8 cg b9 ce:Value) (dd:Nat→Value) (w:World) (m:Nat),Inv C Z V ad ch bv av bW bt b3 bb az ar al ag a9 U a3 a7 b0 ap a2 b6 a6 cj ca a0 cc am aS a4 b4 bk b5 a8 bi bd an R X b8 cg b9 ce w→m=μ C Z V ad ch bv av bW bt b3 bb az ar al ag a9 U a3 a7 b0 ap a2 b6 a6 cj ca a0 cc am aS a4 b4 bk b5 a8 bi bd an R X b8 cg b9 ce w →
  sti (bin Q .gtr 3 false true C (ci 0)) (fun L1 w=>aJ L1 true (fun cl=>sN l0 (fun L4=>sF 79 L4 0 fun L5=>sF 30 L5 4 fun L6=>sL 28 L6 fun L7=>sti (bin Q .sub 3 false true C (ci 1)) fun L9=>sI 28 L7 L9 fun M0=>sF 100 M0 0 fun M1=>sL 3 M1 fun M2=>sF 100 g10 0 fun M3=>sL 3 M3 fun M4=>sti (bin Q .gtr 3 false false M2 M4) fun M5=>cl [l0,L4,L5,L6,L7,C,L9,M0,M1,M2,M3,M4,M5,M5]) w) (fun k=>k [uu,uu,uu,uu,uu,uu,uu,uu,uu,uu,uu,uu,uu,uu] w) fun u w=>aJ (gd u 13) false (fun b7=>sN l0 (fun M8=>sF 79 M8 0 fun M9=>sF 30 M9 4 fun N0=>sL 28 N0 fun N1=>sti (bin Q .sub 3 false true C (ci 1)) fun N3=>sI 28 N1 N3 fun N4=>sF 100 N4 0 fun N5=>sL 3 N5 fun N6=>sF 100 g10 0 fun N7=>sL 3 N7 fun N8=>sti (bin Q .eql 3 false false N6 N8) fun N9=>b7 [l0,M8,M9,N0,N1,C,N3,N4,N5,N6,N7,N8,N9,N9]) w) (fun k=>k [uu,uu,uu,uu,uu,uu,uu,uu,uu,uu,uu,uu,uu,uu] w) fun d w=>aJ (gd d 13) true (fun M=>sN l0 (fun O2=>sF 79 O2 0 fun O3=>sF 30 O3 4 fun O4=>sL 28 O4 fun O5=>sti (bin Q .sub 3 false true C (ci 1)) fun O7=>sI 28 O5 O7 fun O8=>sF 100 O8 1 fun O9=>sL 24 O9 fun P0=>sF 100 g10 1 fun P1=>sL 24 P1 fun P2=>sti (bin Q .gtr 24 false false P0 P2) fun P3=>M [l0,O2,O3,O4,O5,C,O7,O8,O9,P0,P1,P2,P3]) w) (fun k=>k [uu,uu,uu,uu,uu,uu,uu,uu,uu,uu,uu,uu,uu] w) fun j w=>aJ (gd u 13) false (fun be=>sti (pick (gd d 13) (gd j 12) cF) (fun P4=>be [P4]) w) (fun k=>k [uu] w) fun I w=>aJ L1 true (fun ck=>sti (pick (gd u 13) cT (gd I 0)) (fun P5=>ck [P5]) w) (fun k=>k [uu] w) fun J=>sti (pick L1 (gd J 0) cF) fun P6 w=>cond P6 (sN l0 (fun P8=>sF 79 P8 0 fun P9=>sF 30 P9 4 fun Q0=>sL 28 Q0 fun Q1=>sN l0 fun Q4=>sF 79 Q4 0 fun Q5=>sF 30 Q5 4 fun Q6=>sL 28 Q6 fun Q7=>sti (bin Q .sub 3 false true C (ci 1)) fun Q8=>sI 28 Q7 Q8 fun Q9=>sL 100 Q9 fun R0=>sI 28 Q1 C fun R1=>sto Q 100 R1 R0 fun _=>bin Q .sub 3 false true C (ci 1) fun R2 w=>(Inv R2 (gd u 0) (gd u 1) (gd u 2) (gd u 3) (gd u 4) (gd u 5) (gd u 6) (gd u 7) (gd u 8) (gd u 9) (gd u 10) (gd u 11) (gd u 12) (gd u 13) (gd d 0) (gd d 1) (gd d 2) (gd d 3) (gd d 4) (gd d 5) (gd d 6) (gd d 7) (gd d 8) (gd d 9) (gd d 10) (gd d 11) (gd d 12) (gd d 13) (gd j 0) (gd j 1) (gd j 2) (gd j 3) (gd j 4) (gd j 5) (gd j 6) (gd j 7) (gd j 8) (gd j 9) (gd j 10) (gd j 11) (gd j 12) (gd I 0) (gd J 0) w)∧((μ R2 (gd u 0) (gd u 1) (gd u 2) (gd u 3) (gd u 4) (gd u 5) (gd u 6) (gd u 7) (gd u 8) (gd u 9) (gd u 10) (gd u 11) (gd u 12) (gd u 13) (gd d 0) (gd d 1) (gd d 2) (gd d 3) (gd d 4) (gd d 5) (gd d 6) (gd d 7) (gd d 8) (gd d 9) (gd d 10) (gd d 11) (gd d 12) (gd d 13) (gd j 0) (gd j 1) (gd j 2) (gd j 3) (gd j 4) (gd j 5) (gd j 6) (gd j 7) (gd j 8) (gd j 9) (gd j 10) (gd j 11) (gd j 12) (gd I 0) (gd J 0) w)<m)) w.drew) (dO K (aZ l0 e1 l2 e3 p5 i6 k_7 r8 f9 g10 C (gd u 0) (gd u 1) (gd u 2) (gd u 3) (gd u 4) (gd u 5) (gd u 6) (gd u 7) (gd u 8) (gd u 9) (gd u 10) (gd u 11) (gd u 12) (gd u 13) (gd d 0) (gd d 1) (gd d 2) (gd d 3) (gd d 4) (gd d 5) (gd d 6) (gd d 7) (gd d 8) (gd d 9) (gd d 10) (gd d 11) (gd d 12) (gd d 13) (gd j 0) (gd j 1) (gd j 2) (gd j 3) (gd j 4) (gd j 5) (gd j 6) (gd j 7) (gd j 8) (gd j 9) (gd j 10) (gd j 11) (gd j 12) (gd I 0) (gd J 0) (zV (zV dd 96 [C,L1,L1]) 142 [P6])) w)) w.drew):lO K (aZ l0 e1 l2 e3 p5 i6 k_7 r8 f9 g10 jE L3 L4 L5 L6 L7 L8 L9 M0 M1 M2 M3 M4 M5 M6 M7 M8 M9 N0 N1 N2 N3 N4 N5 N6 N7 N8 N9 O0 O1 O2 O3 O4 O5 O6 O7 O8 O9 P0 P1 P2 P3 P4 P5 zf) w:=by
 refine aQ (cd f82 [1,1,1,1,1,1,1,1,0,0,0]) (zr [(11,1),(96,65)]) (by kernel_rfl) (fun e2 w2=>Inv (gd e2 11) (gd e2 99) (gd e2 100) (gd e2 101) (gd e2 102) (gd e2 103) (gd e2 104) (gd e2 105) (gd e2 106) (gd e2 107) (gd e2 108) (gd e2 109) (gd e2 110) (gd e2 111) (gd e2 112) (gd e2 113) (gd e2 114) (gd e2 115) (gd e2 116) (gd e2 117) (gd e2 118) (gd e2 119) (gd e2 120) (gd e2 121) (gd e2 122) (gd e2 123) (gd e2 124) (gd e2 125) (gd e2 126) (gd e2 127) (gd e2 128) (gd e2 129) (gd e2 130) (gd e2 131) (gd e2 132) (gd e2 133) (gd e2 134) (gd e2 135) (gd e2 136) (gd e2 137) (gd e2 138) (gd e2 139) (gd e2 140) (gd e2 141) w2) (fun e2 w2=>μ (gd e2 11) (gd e2 99) (gd e2 100) (gd e2 101) (gd e2 102) (gd e2 103) (gd e2 104) (gd e2 105) (gd e2 106) (gd e2 107) (gd e2 108) (gd e2 109) (gd e2 110) (gd e2 111) (gd e2 112) (gd e2 113) (gd e2 114) (gd e2 115) (gd e2 116) (gd e2 117) (gd e2 118) (gd e2 119) (gd e2 120) (gd e2 121) (gd e2 122) (gd e2 123) (gd e2 124) (gd e2 125) (gd e2 126) (gd e2 127) (gd e2 128) (gd e2 129) (gd e2 130) (gd e2 131) (gd e2 132) (gd e2 133) (gd e2 134) (gd e2 135) (gd e2 136) (gd e2 137) (gd e2 138) (gd e2 139) (gd e2 140) (gd e2 141) w2) h0 ?_
 intro e' w' hI
 have h:=hs (gd e' 11) (gd e' 99) (gd e' 100) (gd e' 101) (gd e' 102) (gd e' 103) (gd e' 104) (gd e' 105) (gd e' 106) (gd e' 107) (gd e' 108) (gd e' 109) (gd e' 110) (gd e' 111) (gd e' 112) (gd e' 113) (gd e' 114) (gd e' 115) (gd e' 116) (gd e' 117) (gd e' 118) (gd e' 119) (gd e' 120) (gd e' 121) (gd e' 122) (gd e' 123) (gd e' 124) (gd e' 125) (gd e' 126) (gd e' 127) (gd e' 128) (gd e' 129) (gd e' 130) (gd e' 131) (gd e' 132) (gd e' 133) (gd e' 134) (gd e' 135) (gd e' 136) (gd e' 137) (gd e' 138) (gd e' 139) (gd e' 140) (gd e' 141) (zM zf (fun i=>gd e' i) (zr [(11,1),(96,65)])) w' _ hI rfl
 revert h;generalize (dO K)=qc0;exact mpF
theorem wE (h:sN l0 (fun R3=>sF 79 R3 0 fun R4=>sF 30 R4 4 fun R5=>sL 28 R5 fun R6=>sL 100 g10 fun R7=>sI 28 R6 jE fun R8=>sto Q 100 R8 R7 fun _ w=>aK (fun S w=>hF S 54 e3 0 fun R9=>hL S 3 R9 fun S0=>hld (fun _=>True) (bin Q .sub 3 false true S0 (ci 1)) fun S1=>hF S 54 e3 0 fun S2=>hL S 3 S2 fun S3=>hld (fun _=>True) (bin Q .sub 3 false true S3 (ci 1)) fun S4=>hN S l0 fun S5=>hF S 79 S5 2 fun S6=>hI S 77 S6 S4 fun S7=>hL S 76 S7 fun S8=>hF S 54 e3 7 fun S9=>hL S 24 S9 fun T0=>hN S l0 fun T3=>hF S 79 T3 2 fun T4=>dl Q 76 1 #[(0,T0)] (fun T1=>bF S fun S=>blt Q .append #[76,76] 76 #[false,false] #[S8,T1] fun T2=>bF S fun S w=>hI S 77 T4 S1 fun T5=>sto Q 76 T5 T2 (fun _=>K (ci 0)) w) w) w.drew) w.drew):dO K (aZ l0 e1 l2 e3 p5 i6 k_7 r8 f9 g10 jE L3 L4 L5 L6 L7 L8 L9 M0 M1 M2 M3 M4 M5 M6 M7 M8 M9 N0 N1 N2 N3 N4 N5 N6 N7 N8 N9 O0 O1 O2 O3 O4 O5 O6 O7 O8 O9 P0 P1 P2 P3 P4 P5 zf) w:=by
 delta dO;exact mpK h
end
attribute [irreducible] bT jz fh fi jA dO lO
def bD (l0 e1 l2 e3 k_5 p6 i7 n8 r9 f10:Value)(zf:Nat→Value):List Value:=l0::e1::l2::e3::zf 4::k_5::p6::i7::n8::r9::f10::zT zf 11 117 ([])
def jB (K:KV):KE:=ae Q (cd f83 [1,1,1,1,1]) (rk f83 K) xf (rk f83 K)
def bU (K:KV):KE:=ae Q (cd f83 [1,1,1,1,1,1]) (rk f83 K) xf (rk f83 K)
def jC (K:KV):KE:=ae Q (cd f83 [1,1,1,1,1,0,1,0]) (bU K) (xx xf (bU K) 0) (rk f83 K)
def fj (K:KV)(B1:KE):KE:=ae Q (cd f83 [1,1,1,1,1,0,1,0,0,1,1]) B1 (xx xf (bU K) 0) (rk f83 K)
def fk (K:KV)(B1:KE):KE:=ae Q (cd f83 [1,1,1,1,1,0,1,0,0,1,0,0,1,1]) (fj K B1) (xx (xx xf (bU K) 0) (fj K B1) 1) (rk f83 K)
section
variable {K:KV}{l0 e1 l2 e3 k_5 p6 i7 n8 r9 f10:Value}{zf:Nat→Value}{w:World}
theorem xK {K:KV}{l0 e1:Value}{w:World}(h:box Q 54 e1 (fun e3=>ai Q 54 e3 0 fun A6=>ld Q 3 A6 fun A7=>ai Q 54 e3 7 fun A8=>ld Q 24 A8 fun A9=>call Q 105 #[l0,A7,A9] fun C0 w=>cond C0 (K (ci 14) w) (ai Q 54 e3 0 (fun C2=>ld Q 3 C2 fun C3=>ai Q 54 e3 8 fun C4=>ld Q 24 C4 fun C5=>call Q 108 #[l0,C3,C5] fun C6=>bin Q .lss 3 false true C6 (ci 0) fun C8 w=>aJ C8 false (fun k26=>bo l0 (fun D1=>ai Q 79 D1 0 fun D2=>ai Q 30 D2 4 fun D3=>ld Q 28 D3 fun D4=>aU Q 28 D4 C6 fun D6=>ai Q 100 D6 4 fun D7=>ld Q 24 D7 fun D8=>bin Q .neq 24 false true D8 (cu 0) fun D9=>k26 [l0,D1,D2,D3,D4,C6,D6,D7,D8,D9]) w) (fun k=>k [uu,uu,uu,uu,uu,uu,uu,uu,uu,uu] w) fun us26=>pick C8 cT (gd us26 9) fun E0 w=>cond E0 (K (ci 12) w) (aK (fun S w=>hN S l0 fun E2=>hF S 79 E2 1 fun E3=>hL S 75 E3 fun E4=>hN S l0 fun E6=>hF S 79 E6 0 fun E7=>hF S 30 E7 4 fun E8=>hL S 28 E8 fun E9=>hI S 28 E9 C6 fun F1=>hF S 100 F1 2 fun F2=>hL S 24 F2 fun F3=>call Q 106 #[E4,F3] (fun F4=>aK fun _=>jB K (bD l0 e1 uu e3 C6 F4 uu uu uu uu (zV (zV zu 4 [ci 0]) 11 [l0,A6,A7,A8,A9,C0,l0,C2,C3,C4,C5,C6,C6,C8,C8,gd us26 0,gd us26 1,gd us26 2,gd us26 3,gd us26 4,gd us26 5,gd us26 6,gd us26 7,gd us26 8,gd us26 9,E0,l0,E2,E3,E4,l0,E6,E7,E8,E9,C6,F1,F2,F3,F4]))) w) w.drew)) w)) w):Gives Q 83 #[l0,e1] w K:=by
 refine aH func83 (by kernel_rfl) ?_
 refine Eq.mp (congrArg (fun c=>ae Q c _ _ _ _ w) (by kernel_rfl:(rep [1,1,1,1,1] (cd f83 [1,1,1,1,1]) (cd f83 []))=(cd f83 []))) ?_
 revert h
 delta jB
 generalize (cd f83 [1,1,1,1,1])=xc0
 exact mpF
theorem wF (h:jC K (bD l0 e1 l2 e3 k_5 p6 (ci 0) n8 r9 f10 zf) w):jB K (bD l0 e1 l2 e3 k_5 p6 i7 n8 r9 f10 zf) w:=by
 delta jB;revert h;delta jC bU;exact mpF
theorem wG (Inv:Value→World→Prop)(μ:Value→World→Nat)(h0:Inv i7 w)(hs:∀(i7':Value) (dd:Nat→Value) (w:World) (m:Nat),Inv i7' w→m=μ i7' w →
  lN 76 p6 (fun F7=>lS i7' F7 fun F8 w=>cond F8 (aU Q 76 p6 i7' (fun G4=>ld Q 24 G4 fun G5=>call Q 81 #[l0,G5] fun G6 w=>aK (fun S w=>hN S l0 fun G9=>hF S 79 G9 0 fun H0=>hF S 30 H0 3 fun H1=>hL S 27 H1 fun H2=>hI S 27 H2 G6 fun H4=>hF S 38 H4 2 fun H5=>hL S 36 H5 fun H6=>hF S 54 e3 0 fun H7=>hL S 3 H7 fun H8=>hN S l0 fun I0=>hF S 79 I0 0 fun I1=>hF S 30 I1 4 fun I2=>hL S 28 I2 fun I3=>hI S 28 I3 k_5 fun I5=>hF S 100 I5 3 fun I6=>hL S 2 I6 fun I7=>(call Q 109 #[H6,H8,I7] (fun I8=>aK fun S w=>hld S (ext Q I8 0) fun I9=>hld S (ext Q I8 1) fun J0=>alc Q 36 (fun r9=>bF S fun S=>sto Q 36 r9 I9 fun _=>bF S fun _=>fk K (fun e2 w2=>(Inv (gd e2 7) w2)∧((μ (gd e2 7) w2)<m)) (bD l0 e1 l2 e3 k_5 p6 i7' G6 r9 J0 (zV (zV dd 51 [i7',p6,F7,F8]) 57 [l0,p6,i7',G4,G5,G6,I8,l0,G9,H0,H1,H2,G6,H4,H5,H6,H7,H8,l0,I0,I1,I2,I3,k_5,I5,I6,I7,I8,I9,J0]))) w) w)∧(alc Q 36 (fun r9=>bF S fun _=>call Q 109 #[H6,H8,I7] fun I8=>aK fun S w=>hld S (ext Q I8 0) fun I9=>hld S (ext Q I8 1) fun J0=>sto Q 36 r9 I9 (fun _=>bF S fun _=>fk K (fun e2 w2=>(Inv (gd e2 7) w2)∧((μ (gd e2 7) w2)<m)) (bD l0 e1 l2 e3 k_5 p6 i7' G6 r9 J0 (zV (zV dd 51 [i7',p6,F7,F8]) 57 [l0,p6,i7',G4,G5,G6,I8,l0,G9,H0,H1,H2,G6,H4,H5,H6,H7,H8,l0,I0,I1,I2,I3,k_5,I5,I6,I7,I8,I9,J0]))) w) w)) w.drew) w) (bU K (bD l0 e1 l2 e3 k_5 p6 i7' (dd 8) (dd 9) (dd 10) (zV dd 51 [i7',p6,F7,F8])) w)) w):jC K (bD l0 e1 l2 e3 k_5 p6 i7 n8 r9 f10 zf) w:=by
 refine aQ (cd f83 [1,1,1,1,1,0,1,0,0]) (zr [(4,1),(7,4),(51,48)]) (by kernel_rfl) (fun e2 w2=>Inv (gd e2 7) w2) (fun e2 w2=>μ (gd e2 7) w2) h0 ?_
 intro e' w' hI
 have h:=hs (gd e' 7) (zM zf (fun i=>gd e' i) (zr [(4,1),(7,4),(51,48)])) w' _ hI rfl
 refine Eq.mp (congrArg (fun c=>ae Q c _ _ _ _ w') (by kernel_rfl:(rep [1,0,0,1,1] (cd f83 [1,1,1,1,1,0,1,0,0,1,0,0,1,1]) (cd f83 [1,1,1,1,1,0,1,0,0]))=(cd f83 [1,1,1,1,1,0,1,0,0]))) ?_
 revert h
 delta fk fj
 generalize (cd f83 [1,1,1,1,1,0,1,0,0,1,0,0,1,1])=xc0
 generalize (bU K)=qc0
 exact mpF
theorem wH {B1:KE}(h:bin Q .neq 49 false true f10 (ci 0) (fun J2 w=>cond J2 (K f10 w) (sN l0 (fun J5=>sF 79 J5 0 fun J6=>sF 30 J6 3 fun J7=>sL 27 J7 fun J8=>sL 36 r9 fun L0=>sI 27 J8 n8 fun L1=>sF 38 L1 2 fun L2=>sto Q 36 L2 L0 fun _=>fj K B1 (bD l0 e1 l2 e3 k_5 p6 i7 n8 r9 f10 (zV (zV zf 87 [f10,J2]) 90 [l0,J5,J6,J7,J8,n8,L0,L1,L2]))) w.drew)) w):fk K B1 (bD l0 e1 l2 e3 k_5 p6 i7 n8 r9 f10 zf) w:=by
 delta fk;revert h;generalize (fj K B1)=qc0;generalize (bU K)=qc1;exact mpF
theorem wI (h:sN l0 (fun L4=>sF 79 L4 0 fun L5=>sF 30 L5 4 fun L6=>sL 28 L6 fun L7=>sF 54 e3 7 fun L9=>sL 24 L9 fun M0=>sI 28 L7 k_5 fun M1=>sF 100 M1 4 fun M2=>sto Q 24 M2 M0 fun _ w=>aK (fun S w=>hF S 54 e3 0 fun M4=>hL S 3 M4 fun M5=>hld (fun _=>True) (bin Q .sub 3 false true M5 (ci 1)) fun M6=>hF S 54 e3 0 fun M8=>hL S 3 M8 fun M9=>hld (fun _=>True) (bin Q .sub 3 false true M9 (ci 1)) fun N0=>hN S l0 fun N1=>hF S 79 N1 2 fun N2=>hI S 77 N2 N0 fun N3=>hL S 76 N3 fun N4=>hF S 54 e3 7 fun N5=>hL S 24 N5 fun N6=>hN S l0 fun N9=>hF S 79 N9 2 fun O0=>dl Q 76 1 #[(0,N6)] (fun N7=>bF S fun S=>blt Q .append #[76,76] 76 #[false,false] #[N4,N7] fun N8=>bF S fun S w=>hI S 77 O0 M6 fun O1=>sto Q 76 O1 N8 (fun _=>K (ci 0)) w) w) w.drew) w.drew):bU K (bD l0 e1 l2 e3 k_5 p6 i7 n8 r9 f10 zf) w:=by
 delta bU;exact mpK h
theorem wJ {B1:KE}(h:nC i7 (fun G0=>B1 (bD l0 e1 l2 e3 k_5 p6 G0 n8 r9 f10 (zV zf 55 [i7,G0]))) w):fj K B1 (bD l0 e1 l2 e3 k_5 p6 i7 n8 r9 f10 zf) w:=by
 delta fj;revert h;generalize (bU K)=qc0;exact mpF
end
attribute [irreducible] jB bU jC fj fk
end
end Go.Proofs.YtgpfkmdknlcemaaGreatDoor
namespace Go.Proofs
open Go.Shelf
def Tryz.sortGr_ren :Go.Shelf.Ren:=⟨fun|6=>26|15=>44|14=>43|28=>72|29=>73|20=>64|21=>65|22=>66|23=>67|24=>68|25=>69|26=>70|27=>71|46=>96|47=>97|48=>98|49=>99|50=>100|57=>125|n=>n,fun|22=>28|24=>100|25=>105|3=>3|39=>128|0=>0|53=>158|55=>24|4=>4|46=>151|45=>150|50=>155|5=>5|9=>9|66=>171|70=>175|76=>195|77=>196|n=>n,fun|n=>n⟩
theorem Tryz.sortGr :Go.Proofs.SlLaysF0.n6 Tryz.prog Tryz.sortGr_ren:={
 mixed:=by kernel_rfl
 f6:=⟨Tryz.f26.name,by decide,func26.trans (congrArg some (by kernel_rfl))⟩
 f14:=⟨Tryz.f43.name,by decide,func43.trans (congrArg some (by kernel_rfl))⟩
 f15:=func44.trans (congrArg some (by kernel_rfl))
 f20:=⟨Tryz.f64.name,by decide,func64.trans (congrArg some (by kernel_rfl))⟩
 f21:=⟨Tryz.f65.name,by decide,func65.trans (congrArg some (by kernel_rfl))⟩
 f22:=⟨Tryz.f66.name,by decide,func66.trans (congrArg some (by kernel_rfl))⟩
 f23:=⟨Tryz.f67.name,by decide,func67.trans (congrArg some (by kernel_rfl))⟩
 f24:=⟨Tryz.f68.name,by decide,func68.trans (congrArg some (by kernel_rfl))⟩
 f25:=⟨Tryz.f69.name,by decide,func69.trans (congrArg some (by kernel_rfl))⟩
 f26:=⟨Tryz.f70.name,by decide,func70.trans (congrArg some (by kernel_rfl))⟩
 f27:=⟨Tryz.f71.name,by decide,func71.trans (congrArg some (by kernel_rfl))⟩
 f28:=func72.trans (congrArg some (by kernel_rfl))
 f29:=func73.trans (congrArg some (by kernel_rfl))
 f46:=⟨Tryz.f96.name,by decide,func96.trans (congrArg some (by kernel_rfl))⟩
 f47:=func97.trans (congrArg some (by kernel_rfl))
 f48:=func98.trans (congrArg some (by kernel_rfl))
 f49:=⟨Tryz.f99.name,by decide,func99.trans (congrArg some (by kernel_rfl))⟩
 f50:=⟨Tryz.f100.name,by decide,func100.trans (congrArg some (by kernel_rfl))⟩
 f57:=⟨Tryz.f125.name,by decide,func125.trans (congrArg some (by kernel_rfl))⟩
 t0:=underlying0
 a0:=Tryz.isAgg0
 z0:=Tryz.sizeOf0
 v0:=Tryz.zeroValue0
 t3:=underlying3
 a3:=Tryz.isAgg3
 z3:=Tryz.sizeOf3
 v3:=Tryz.zeroValue3
 t4:=underlying4
 a4:=Tryz.isAgg4
 z4:=Tryz.sizeOf4
 v4:=Tryz.zeroValue4
 t5:=underlying5
 a5:=Tryz.isAgg5
 z5:=Tryz.sizeOf5
 v5:=Tryz.zeroValue5
 t9:=underlying9
 a9:=Tryz.isAgg9
 z9:=Tryz.sizeOf9
 v9:=Tryz.zeroValue9
 t22:=underlying28
 a22:=Tryz.isAgg28
 z22:=Tryz.sizeOf28
 v22:=Tryz.zeroValue28
 t25:=underlying105
 a25:=Tryz.isAgg105
 z25:=Tryz.sizeOf105
 v25:=Tryz.zeroValue105
 t39:=underlying128
 a39:=Tryz.isAgg128
 z39:=Tryz.sizeOf128
 v39:=Tryz.zeroValue128
 t45:=underlying150
 a45:=Tryz.isAgg150
 z45:=Tryz.sizeOf150
 v45:=Tryz.zeroValue150
 t46:=underlying151
 a46:=Tryz.isAgg151
 z46:=Tryz.sizeOf151
 v46:=Tryz.zeroValue151
 t50:=underlying155
 a50:=Tryz.isAgg155
 z50:=Tryz.sizeOf155
 v50:=Tryz.zeroValue155
 t53:=underlying158
 a53:=Tryz.isAgg158
 z53:=Tryz.sizeOf158
 v53:=Tryz.zeroValue158
 t55:=underlying24
 a55:=Tryz.isAgg24
 z55:=Tryz.sizeOf24
 v55:=Tryz.zeroValue24
 t66:=underlying171
 a66:=Tryz.isAgg171
 z66:=Tryz.sizeOf171
 v66:=Tryz.zeroValue171
 t70:=underlying175
 a70:=Tryz.isAgg175
 z70:=Tryz.sizeOf175
 v70:=Tryz.zeroValue175
 t76:=underlying195
 a76:=Tryz.isAgg195
 z76:=Tryz.sizeOf195
 v76:=Tryz.zeroValue195
 t77:=underlying196
 a77:=Tryz.isAgg196
 z77:=Tryz.sizeOf196
 v77:=Tryz.zeroValue196}
end Go.Proofs
namespace Go.Proofs.YtgpfkmdknlcemaaGreatDoor
set_option maxRecDepth 100000
open Tryz
section
open Go.RowKit
def uS (Cw A0 A1 A2:Value)(zf:Nat→Value):List Value:=zT zf 0 3 (Cw::zf 4::zf 5::A0::A1::A2::zT zf 9 9 ([]))
def mD (K:KV):KE:=ae Q (cd f28 [1,1,1]) (rk f28 K) xf (rk f28 K)
def tH (K:KV):KE:=ae Q (cd f28 [1,1,0,1,0]) (mD K) (xx xf (mD K) 0) (rk f28 K)
section
variable {K:KV}{Cw A0 A1 A2:Value}{zf:Nat→Value}{w:World}
theorem JB {K:KV}{d:Value}{w:World}(h:lN 56 d (fun A1=>tH K (uS (ci 0) d A1 (ci 0) (zV (zV zu 0 [d]) 2 [ci 0]))) w):Gives Q 28 #[d] w K:=by
 refine aH func28 (by kernel_rfl) ?_;revert h;delta tH mD;exact mpF
theorem Hu (Inv:Value→World→Prop)(μ:Value→World→Nat)(h0:Inv A2 w)(u:∀(d:Value) (C:Nat→Value) (w:World) (m:Nat),Inv d w→m=μ d w →
  lS d A1 (fun A3 w=>cond A3 (aU Q 56 A0 d (fun A4=>ld Q 3 A4 fun A5=>bin Q .neq 3 false false A5 Cw fun A6 w=>cond A6 (K A5 w) (nC d (fun A7 w=>(Inv A7 w)∧((μ A7 w)<m)) w)) w) (mD K (uS Cw A0 A1 d (zV C 9 [A3])) w)) w):tH K (uS Cw A0 A1 A2 zf) w:=by
 refine aQ (cd f28 [1,1,0,1,0,0]) (zr [(2,1),(5,1),(8,9)]) (by kernel_rfl) (fun e2 j=>Inv (gd e2 8) j) (fun e2 j=>μ (gd e2 8) j) h0 ?_;intro e' w' hI;have h:=u (gd e' 8) (zM zf (fun i=>gd e' i) (zr [(2,1),(5,1),(8,9)])) w' _ hI rfl;revert h;generalize (mD K)=qc0;exact mpF
theorem Hv (h:K Cw w):mD K (uS Cw A0 A1 A2 zf) w:=by
 delta mD;exact mpK h
end
attribute [irreducible] mD tH
theorem DQ {K:KV}{x0 d:Value}{w:World}(h:call Q 45 #[x0] (fun A2=>call Q 45 #[d] fun A4 w=>cond A2 (cond A4 (K (ci 0) w) (K (ci (-1)) w)) (cond A4 (K (ci 1) w) (lS x0 d (fun A7 w=>cond A7 (K (ci (-1)) w) (bin Q .gtr 3 false false x0 d (fun A8 w=>cond A8 (K (ci 1) w) (K (ci 0) w)) w)) w))) w):Gives Q 29 #[x0,d] w K:=by
 refine aH func29 (by kernel_rfl) ?_;exact mpK h
theorem AY {K:KV}{x0 d:Value}{w:World}(h:call Q 46 #[x0] (fun A2=>call Q 46 #[d] fun A4 w=>cond A2 (cond A4 (K (ci 0) w) (K (ci (-1)) w)) (cond A4 (K (ci 1) w) (bin Q .lss 24 false false x0 d (fun A7 w=>cond A7 (K (ci (-1)) w) (bin Q .gtr 24 false false x0 d (fun A8 w=>cond A8 (K (ci 1) w) (K (ci 0) w)) w)) w))) w):Gives Q 30 #[x0,d] w K:=by
 refine aH func30 (by kernel_rfl) ?_;exact mpK h
theorem Ge {K:KV}{x0:Value}{w:World}(h:bin Q .neq 3 false false x0 x0 K w):Gives Q 45 #[x0] w K:=by
 refine aH func45 (by kernel_rfl) ?_;exact mpK h
end
section
attribute [local irreducible] bin un conv call dC blt slc ai fld aU idx lkp eX jl eSt rng nxt ent ext alc box bld dl ld sto bo eS mkS ifc pick rdy wts aJ sti cond bM Gives ae fU gX cOp
section
open Go.RowKit
def sA (x y:Int):Int:=if x<y then -1 else if y<x then 1 else 0
def IM (x y:GR):Int:=if sA x.o y.o≠0 then sA x.o y.o else sA x.q y.q
theorem Er {x y:GR}:Go.Proofs.ltOf IM x y=decide (ltG x y):=by
 rw[Bool.eq_iff_iff,decide_eq_true_eq];unfold Go.Proofs.ltOf IM sA ltG;rw[decide_eq_true_eq];split<;>split<;>(try split)<;>omega
theorem VD :Go.Sort.SWO (Go.Proofs.ltOf IM) where
 irrefl x:=by rw[Er];unfold ltG;simp
 trans x y z h k:=by rw[Er,decide_eq_true_eq]at *; unfold ltG at *; omega
 ntrans x y z h k:=by rw[Er,decide_eq_false_iff_not]at *; unfold ltG at *; omega
section
variable {w:World}{K:KV}
theorem RS {x:Int}(h:K (.bool false) w):call Tryz.prog 45 #[.int .i64 x] K w:=by
 refine aB (goK func45) (Ge ?_);refine cW ?_;rw[decide_eq_false (by simp)];exact h
theorem RT {x:Int}(h:K (.bool false) w):call Tryz.prog 46 #[.int .u64 x] K w:=by
 refine aB (goK func46) (vd ?_);refine cW ?_;rw[decide_eq_false (by simp)];exact h
theorem Vs {x y:Int}(h:K (.int .i64 (sA x y)) w):call Tryz.prog 29 #[.int .i64 x,.int .i64 y] K w:=by
 refine aB (goK func29) (DQ (RS (RS (bw (bw ?_)))));refine aV ?_;by_cases d:x<y
 ·rw[show sA x y = -1 from if_pos d]at h;exact ay d h
 ·refine au d (cB ?_);by_cases j:y<x
  ·rw[show sA x y=1 from(if_neg d).trans (if_pos j)]at h;exact ay j h
  ·rw[show sA x y=0 from(if_neg d).trans (if_neg j)]at h;exact au j h
theorem Vt {x y:Int}(h:K (.int .i64 (sA x y)) w):call Tryz.prog 30 #[.int .u64 x,.int .u64 y] K w:=by
 refine aB (goK func30) (AY (RT (RT (bw (bw ?_)))));refine aV ?_;by_cases d:x<y
 ·rw[show sA x y = -1 from if_pos d]at h;exact ay d h
 ·refine au d (cB ?_);by_cases j:y<x
  ·rw[show sA x y=1 from(if_neg d).trans (if_pos j)]at h;exact ay j h
  ·rw[show sA x y=0 from(if_neg d).trans (if_neg j)]at h;exact au j h
theorem UJ {g:Nat}{x y:Int}(u:blk w g 3 [iv x,iv y])(h:K (.int .i64 (if x≠0 then x else y)) w):call Tryz.prog 28 #[.slice (some ⟨g,0,none⟩) 2 2] K w:=by
 refine aB (goK func28) (JB ?_);refine bx underlying56 <|Hu (Inv:=fun i wr=>wr=w∧(i=.int .i64 0∨i=.int .i64 1∧x=0∨i=.int .i64 2∧x=0∧y=0)) (μ:=fun i _=>2-(intOf i).toNat) ⟨rfl,.inl rfl⟩ ?_;rintro _ J I m ⟨rfl,rfl|⟨rfl,d⟩|⟨rfl,d,C⟩⟩ j
 ·refine aV (ay (by decide) ?_);refine eu underlying56 (s:=1) (fun _=>by kernel_rfl) (by omega) (by omega) ?_;refine lK (v:=iv x) u rfl (cW ?_);by_cases h0:x≠0
  ·rw[if_pos h0]at h;exact ay h0 h
  ·refine au h0 (aR (by omega) (by omega) ⟨⟨rfl,.inr (.inl ⟨rfl,by simpa using h0⟩)⟩,by rw[j];decide⟩)
 ·refine aV (ay (by decide) ?_);refine eu underlying56 (s:=1) (fun _=>by kernel_rfl) (by omega) (by omega) ?_;refine lK (v:=iv y) u rfl (cW ?_);rw[if_neg (by simp[d])]at h;by_cases h0:y≠0
  ·exact ay h0 h
  ·refine au h0 (aR (by omega) (by omega) ⟨⟨rfl,.inr (.inr ⟨rfl,d,by simpa using h0⟩)⟩,by rw[j];decide⟩)
 ·refine aV (au (by decide) ?_);refine Hv ?_;rw[if_neg (by simp[d]),C]at h;exact h
theorem Py {P:Program}{t:TypeId}{v:Value}(h:K (.pointer (some ⟨w.heap.size,0,none⟩)) (w.alloc (.cells v.cells t))):box P t v K w:=by
 unfold box;exact gW (by simp[Instr.box,newVar,newRow]) h
theorem TI {x y:Int}(h:K (.slice (some ⟨w.heap.size,0,none⟩) 2 2) (w.alloc (.cells #[iv x,iv y] 3))):dl Tryz.prog 56 2 #[(0,iv x),(1,iv y)] K w:=by
 unfold dl;obtain⟨i,hi,j,d⟩:∃i,Tryz.prog.info? 3=some i∧i.zero=some (.int .i64 0)∧i.size=1:=⟨_,rfl,by kernel_rfl,by kernel_rfl⟩
 refine gW (run_buildSlice w _ _ 2 _ #[iv x,iv y] i _ underlying56 hi j (by rw[d];decide) (by rw[d];decide) ?_) h;rw[d];refine(Go.Great.fill_whole (s:=1) (by omega) [iv x,iv y] _ (by simp[iv,Value.cells]) (by simp)).trans ?_;simp[iv,Value.cells]
theorem Vu (x y:GR)(W:World):Calls Tryz.prog 27 (#[.agg (grC x).toArray,.agg (grC y).toArray]++#[]) W fun e w' => e=.returned (.int .i64 (IM x y))∧∃q os',w'=Go.Sort.grow (W.drewN q) os':=by
 have h:Gives Tryz.prog 27 #[.agg (grC x).toArray,.agg (grC y).toArray] W fun v w' => v=.int .i64 (IM x y)∧∃q os',w'=Go.Sort.grow (W.drewN q) os':=by
  refine yN ?_;refine Py (Py ?_);generalize e1:W.alloc (.cells (Value.agg (grC x).toArray).cells 100)=w1;have a1:blk w1 W.heap.size 100 (grC x):=by
   rw[←e1];unfold Go.Proofs.YtgpfkmdknlcemaaGreatDoor.blk;rw[heap_alloc_new];rfl
  generalize e2:w1.alloc (.cells (Value.agg (grC y).toArray).cells 100)=w2;have b2:blk w2.drew w1.heap.size 100 (grC y):=by
   rw[←e2];unfold Go.Proofs.YtgpfkmdknlcemaaGreatDoor.blk;show (w1.alloc _).heap[_]? = _;rw[heap_alloc_new];rfl
  have b1:blk w2.drew W.heap.size 100 (grC x):=by
   rw[←e2];exact(af (fJ (World.grownBy_alloc _ _ none) (Nat.le_refl _) (fun k C=>by cases C)) a1 a1.lt).drew
  refine aE (fun u=>blk u W.heap.size 100 (grC x)∧blk u w1.heap.size 100 (grC y)) ⟨b1,b2⟩ ?_;refine ab (fun u d _=>vC) (ab (fun u d _=>lK (v:=iv x.o) d.1 rfl) ?_);refine ab (fun u d _=>vC) (ab (fun u d _=>lK (v:=iv y.o) d.2 rfl) ?_);refine ab (fun u d _=>Cm) (ab (fun u d _=>lK (v:=u6 x.q) d.1 rfl) ?_);refine ab (fun u d _=>Cm) (ab (fun u d _=>lK (v:=u6 y.q) d.2 rfl) ?_)
  refine Vs (aO ⟨b1,b2⟩ (Vt (aE (fun _=>True) trivial (TI ?_))));refine aE (fun _=>True) trivial (UJ (x:=sA x.o y.o) (y:=sA x.q y.q) ?_ (aE (fun _=>True) trivial ⟨rfl,1,#[.cells (Value.agg (grC x).toArray).cells 100,.cells (Value.agg (grC y).toArray).cells 100,.cells #[iv (sA x.o y.o),iv (sA x.q y.q)] 3],?_⟩))
  ·unfold Go.Proofs.YtgpfkmdknlcemaaGreatDoor.blk;rw[heap_alloc_new]
  ·rw[←e2, ←e1];unfold Go.Sort.grow World.drewN World.drew World.alloc;simp only[Array.push_eq_append,Array.append_assoc,List.append_toArray,List.cons_append,List.nil_append]
 rw[show (#[.agg (grC x).toArray,.agg (grC y).toArray]++#[]:Array Value)=#[.agg (grC x).toArray,.agg (grC y).toArray]from rfl];unfold Gives at h;exact Calls.mono h fun _ _ ⟨v,I,j,J⟩=>⟨by rw[I,j],J⟩
instance:Inhabited GR:=⟨⟨0,0,0,0,0⟩⟩
open Go.Sort in
theorem Lq {G:List GR}{n:Nat}{d:List Value}(u:G.length=n)(R:n*5≤d.length):putCells id 0 (flatK grC 5 G.toArray) d.toArray=(G.flatMap grC++d.drop (n*5)).toArray:=by
 have hF:(flatK grC 5 G.toArray).size=n*5:=by rw[size_flatK];simp[u]
 have h:(G.flatMap grC).length=n*5:=by rw[Bt j4,u]
 apply Array.ext_getElem?;intro k;unfold putCells;rw[Array.getElem?_mapIdx,hF,List.getElem?_toArray,List.getElem?_toArray];by_cases I:k<n*5
 ·have j:k<d.length:=by omega
  have hi:k / 5<G.length:=by omega
  rw[List.getElem?_eq_getElem j,Option.map_some,if_pos ⟨Nat.zero_le _,by omega⟩,List.getElem?_append_left (by omega),Nat.sub_zero,get_flatK _ _ _ _ (by simp[u];exact I)];have J:G[k / 5]? = some G[k / 5]:=List.getElem?_eq_getElem hi
  have:=Ee j4 G (k / 5) _ (k%5) J (Nat.mod_lt _ (by omega))
  rw[show k / 5*5+k%5=k by omega]at this;rw[this];have C:k%5<(grC G[k / 5]).length:=Nat.mod_lt _ (by decide);rw[List.getElem?_eq_getElem C];simp[hi,C]
 ·rw[List.getElem?_append_right (by omega),h,List.getElem?_drop,show n*5+(k-n*5)=k by omega];cases M:d[k]? with
  | none=>rfl
  | some v=>rw[Option.map_some,if_neg (by omega)]
open Go.Sort in
theorem Lr {G G':List GR}{B n c g m:Nat}{d:List Value}{os:Array Obj}(h:Opn w B 100 5 n c g d (G.flatMap grC))(I:G'.length=n):Opn (sortWorldK grC 5 w g 0 m G'.toArray os) B 100 5 n c g (G'.flatMap grC++d.drop (n*5)) (G'.flatMap grC)∧w.grownBy (sortWorldK grC 5 w g 0 m G'.toArray os) (some g):=by
 have M:n*5≤d.length:=by rw[h.len];exact Nat.mul_le_mul_right _ h.nc
 have j:(G'.flatMap grC).length=n*5:=by rw[Bt j4,I]
 have J:=h.blk.lt;have U:(sortWorldK grC 5 w g 0 m G'.toArray os).heap[g]? = some (.cells (G'.flatMap grC++d.drop (n*5)).toArray 100):=by
  show (w.heap.modify g (onCells (putCells id 0 (flatK grC 5 G'.toArray)))++os)[g]? = _;have u:=h.blk;unfold Go.Proofs.YtgpfkmdknlcemaaGreatDoor.blk at u;rw[Array.getElem?_append_left (by simpa using J),Array.getElem?_modify,if_pos rfl,u,Option.map_some];unfold onCells;simp only;rw[Lq I M]
 refine⟨⟨U,h.lo,h.nc,h.cm,?_,?_,?_⟩,⟨rfl,rfl,rfl,?_,fun k R C=>?_⟩⟩
 ·rw[List.length_append,j,List.length_drop,h.len]
  have:=h.len
  omega
 ·rw[List.take_append_of_le_length (by omega),List.take_of_length_le (by omega)]
 ·exact j
 ·show w.heap.size≤(w.heap.modify g _++os).size;simp
 ·show (w.heap.modify g _++os)[k]? = _;rw[Array.getElem?_append_left (by simpa using R),Array.getElem?_modify,if_neg (fun e=>C (by rw[e]))]
open Go.Sort in
theorem TJ {G:List GR}{B n c:Nat}{a:Option Addr}(X:w.ownsRow B 100 5 (.slice a n c) n (G.flatMap grC))(hl:G.length=n)(hn:n<4611686018427387904)(h:∀(w':World) (G':List GR),G'.Perm G→G'.Pairwise (fun x y=>¬ltG y x)→w'.ownsRow B 100 5 (.slice a n c) n (G'.flatMap grC)→w.grownBy w' (Value.slice a n c).ownBlock→K (.tuple #[]) w'):call Tryz.prog 26 #[.slice a n c,.func (.func 27) #[] #[]] K w:=by
 have U:Da Tryz.prog 26:=⟨_,func26,by kernel_rfl,by kernel_rfl⟩
 refine aB U ?_;unfold Gives;by_cases h0:n=0
 ·subst h0;have hG:G=[]:=List.eq_nil_of_length_eq_zero hl;subst hG;have C:=AnyF.slices_SortFunc_none Tryz.sortGr a c (.func (.func 27) #[] #[]) w;change Calls Tryz.prog 26 _ _ _ at C;refine Calls.mono C fun e w' M=>?_;obtain⟨rfl,rfl⟩:=M;exact⟨_,rfl,h _ [] (List.Perm.refl _) List.Pairwise.nil X ⟨rfl,rfl,rfl,Nat.le_refl _,fun _ _ _=>rfl⟩⟩
 ·obtain⟨g,ad,rfl,J⟩:=cY X (by omega);subst hl;have hH:HoldsK grC 5 w g 0 G.toArray:=by
   intro j d;rw[size_flatK]at d;have d:j<G.length*5:=by simpa using d
   have hi:j / 5<G.length:=by omega
   have hx:G[j / 5]? = some G[j / 5]:=List.getElem?_eq_getElem hi;have h5:j%5<(grC G[j / 5]).length:=Nat.mod_lt _ (by decide);refine⟨?_,?_⟩
   ·rw[J.blk.cell,Nat.zero_add,get_flatK _ _ _ _ (by simpa using d)]
    have:=J.cell j4 rfl hx (Nat.mod_lt j (show 0<5 by omega))
    rw[show j / 5*5+j%5=j by omega]at this;rw[this,List.getElem?_eq_getElem h5];simp[hi,h5]
   ·have I:=J.blk;unfold Go.Proofs.YtgpfkmdknlcemaaGreatDoor.blk at I;unfold World.frozen?;rw[I];rfl
  have C:=AnyQ.slices_SortFunc Tryz.sortGr 5 (by intro W;kernel_rfl) (by intro W;kernel_rfl) grC j4 qF IM VD 27 #[] g 0 c G.toArray w
   (enters_of func27 (by kernel_rfl) rfl) (fun m os dk _ x y=>Vu x y _) hH J.blk.lt (by simpa using hn)
  change Calls Tryz.prog 26 _ _ _ at C;rw[List.size_toArray]at C;refine Calls.mono C fun e w' M=>?_;obtain⟨rfl,d',m,os,Z,hs,rfl⟩:=M;have hd:d'.toList.toArray=d':=rfl;have u:d'.toList.length=G.length:=by
   have:=Z.1
   simpa using this
  rw[←hd];obtain⟨o2,g2⟩:=Lr (m:=m) (os:=os) J (G':=d'.toList) u;refine⟨_,rfl,h _ d'.toList ?_ ?_ o2.own g2⟩
  ·have V:=Z.2.2;have e1:d'.extract 0 G.length=d':=by rw[←u];simp
   have e2:G.toArray.extract 0 G.length=G.toArray:=by simp
   rw[e1,e2]at V;exact V
  ·rw[List.pairwise_iff_getElem];intro i j hi d R
   have:=hs i j (Nat.zero_le _) R (by rw[←u];exact d)
   rw[Er,decide_eq_false_iff_not]at this;have ei:d'[i]! = d'.toList[i]:=by simp[show i<d'.size by simpa using hi]
   have ej:d'[j]! = d'.toList[j]:=by simp[show j<d'.size by simpa using d]
   rw[ei,ej]at this;exact this
end
end
end
section
open Go.RowKit
def nO (n0 n1 w_3 i4:Value)(zf:Nat→Value):List Value:=n0::n1::zf 2::w_3::i4::zT zf 5 25 ([])
def gG (K:KV):KE:=ae Q (cd f18 [1,1,1]) (rk f18 K) xf (rk f18 K)
def nE (K:KV):KE:=ae Q (cd f18 [1,1,0,1,0]) (gG K) (xx xf (gG K) 0) (rk f18 K)
section
variable {K:KV}{n0 n1 w_3 i4:Value}{zf:Nat→Value}{w:World}
theorem AZ {K:KV}{n0:Value}{w:World}(h:bld Q 47 #[] (fun A1=>box Q 47 A1 fun A2=>nE K (nO n0 uu A2 (ci 0) (zV (zV zu 2 [Value.pointer none]) 7 [A1,A2]))) w):Gives Q 18 #[n0] w K:=by
 refine aH func18 (by kernel_rfl) ?_;revert h;delta nE gG;exact mpF
theorem zK (Inv:Value→World→Prop)(μ:Value→World→Nat)(h0:Inv i4 w)(u:∀(d:Value) (C:Nat→Value) (w:World) (m:Nat),Inv d w→m=μ d w →
  lS d n0 (fun A5 w=>cond A5 (call Q 33 #[n0] (fun C0=>ext Q C0 0 fun C1=>ext Q C0 1 fun _=>bo w_3 fun C5=>ai Q 47 C5 0 fun C6=>ld Q 44 C6 fun C7=>dl Q 44 1 #[(0,C1)] fun C9=>blt Q .append #[44,44] 44 #[false,false] #[C7,C9] fun D0=>bo w_3 fun D1=>ai Q 47 D1 0 fun D2=>sto Q 44 D2 D0 fun _=>nC d fun A7 w=>(Inv A7 w)∧((μ A7 w)<m)) w) (gG K (nO n0 n1 w_3 d (zV C 9 [d,n0,A5])) w)) w):nE K (nO n0 n1 w_3 i4 zf) w:=by
 refine aQ (cd f18 [1,1,0,1,0,0]) (zr [(4,3),(9,20)]) (by kernel_rfl) (fun e2 j=>Inv (gd e2 4) j) (fun e2 j=>μ (gd e2 4) j) h0 ?_;intro e' w' hI;have h:=u (gd e' 4) (zM zf (fun i=>gd e' i) (zr [(4,3),(9,20)])) w' _ hI rfl;revert h;generalize (gG K)=qc0;exact mpF
theorem zL (h:K w_3 w):gG K (nO n0 n1 w_3 i4 zf) w:=by
 delta gG;exact mpK h
end
attribute [irreducible] gG nE
def cZ (l0 jp lP lb od i9:Value)(zf:Nat→Value):List Value:=l0::jp::zT zf 2 3 (lP::zf 6::lb::od::i9::zT zf 10 49 ([]))
def cC (K:KV):KE:=ae Q (cd f34 [1,1]) (rk f34 K) xf (rk f34 K)
def oY (K:KV):KE:=ae Q (cd f34 [1,0,1,0]) (cC K) (xx xf (cC K) 0) (rk f34 K)
def dS (K:KV)(B1:KE):KE:=ae Q (cd f34 [1,0,1,0,0,1,1]) B1 (xx xf (cC K) 0) (rk f34 K)
def eW (K:KV)(B1:KE):KE:=ae Q (cd f34 [1,0,1,0,0,1,0,0,1,1]) (dS K B1) (xx (xx xf (cC K) 0) (dS K B1) 1) (rk f34 K)
def nj (K:KV)(B1:KE):KE:=ae Q (cd f34 [1,0,1,0,0,1,0,0,1,0,1,0]) (eW K B1) (xx (xx (xx xf (cC K) 0) (dS K B1) 1) (eW K B1) 2) (rk f34 K)
def iX (K:KV)(B1:KE)(B2:KE):KE:=ae Q (cd f34 [1,0,1,0,0,1,0,0,1,0,1,0,0,1,1]) B2 (xx (xx (xx xf (cC K) 0) (dS K B1) 1) (eW K B1) 2) (rk f34 K)
def nk (K:KV)(B1:KE)(B2:KE):KE:=ae Q (cd f34 [1,0,1,0,0,1,0,0,1,0,1,0,0,1,0]) (iX K B1 B2) (xx (xx (xx xf (cC K) 0) (dS K B1) 1) (eW K B1) 2) (rk f34 K)
section
variable {K:KV}{l0 jp lP lb od i9:Value}{zf:Nat→Value}{w:World}
theorem DR {K:KV}{l0 jp d:Value}{w:World}(h:box Q 26 d (fun lP=>oY K (cZ l0 jp lP (ci 0) uu uu (zV (zV zu 2 [d]) 6 [Value.pointer none]))) w):Gives Q 34 #[l0,jp,d] w K:=by
 refine aH func34 (by kernel_rfl) ?_;revert h;delta oY cC;exact mpF
theorem Cn (Inv:Value→Value→World→Prop)(μ:Value→Value→World→Nat)(h0:Inv l0 lb w)(I:∀(j d:Value) (C:Nat→Value) (w:World) (m:Nat),Inv j d w→m=μ j d w →
  lN 45 jp (fun A6=>bin Q .leq 3 false false d A6 fun A7 w=>cond A7 (bo j (fun C1=>ai Q 79 C1 0 fun C2=>ai Q 30 C2 2 fun C3=>ld Q 26 C3 fun C4=>alc Q 26 fun od=>sto Q 26 od C4 fun _=>nj K (fun e2 u=>(Inv (gd e2 0) (gd e2 7) u)∧((μ (gd e2 0) (gd e2 7) u)<m)) (cZ j jp lP d od (ci 0) (zV (zV C 10 [d,jp,A6,A7]) 16 [j,C1,C2,C3,C4]))) w) (cC K (cZ j jp lP d (C 8) (C 9) (zV C 10 [d,jp,A6,A7])) w)) w):oY K (cZ l0 jp lP lb od i9 zf) w:=by
 refine aQ (cd f34 [1,0,1,0,0]) (zr [(0,1),(6,52)]) (by kernel_rfl) (fun e2 u=>Inv (gd e2 0) (gd e2 7) u) (fun e2 u=>μ (gd e2 0) (gd e2 7) u) h0 ?_;intro e' w' hI;have h:=I (gd e' 0) (gd e' 7) (zM zf (fun i=>gd e' i) (zr [(0,1),(6,52)])) w' _ hI rfl;revert h;delta nj eW dS;generalize (cC K)=qc0;exact mpF
theorem Co {B1:KE}(Inv:Value→Value→World→Prop)(μ:Value→Value→World→Nat)(h0:Inv l0 i9 w)(hs:∀(l0' i9':Value) (dd:Nat→Value) (w:World) (m:Nat),Inv l0' i9' w→m=μ l0' i9' w →
  lN 45 jp (fun C7=>lS i9' C7 fun C8 w=>cond C8 (nk K B1 (fun e2 w2=>(Inv (gd e2 0) (gd e2 9) w2)∧((μ (gd e2 0) (gd e2 9) w2)<m)) (cZ l0' jp lP lb od i9' (zV dd 21 [i9',jp,C7,C8])) w) (eW K B1 (cZ l0' jp lP lb od i9' (zV dd 21 [i9',jp,C7,C8])) w)) w):nj K B1 (cZ l0 jp lP lb od i9 zf) w:=by
 refine aQ (cd f34 [1,0,1,0,0,1,0,0,1,0,1,0,0]) (zr [(0,1),(9,1),(21,29)]) (by kernel_rfl) (fun e2 w2=>Inv (gd e2 0) (gd e2 9) w2) (fun e2 w2=>μ (gd e2 0) (gd e2 9) w2) h0 ?_
 intro e' w' hI
 have h:=hs (gd e' 0) (gd e' 9) (zM zf (fun i=>gd e' i) (zr [(0,1),(9,1),(21,29)])) w' _ hI rfl
 refine Eq.mp (congrArg (fun c=>ae Q c _ _ _ _ w') (by kernel_rfl:(rep [1,0] (cd f34 [1,0,1,0,0,1,0,0,1,0,1,0,0,1,0]) (cd f34 [1,0,1,0,0,1,0,0,1,0,1,0,0]))=(cd f34 [1,0,1,0,0,1,0,0,1,0,1,0,0]))) ?_
 revert h
 delta nk iX
 generalize (cd f34 [1,0,1,0,0,1,0,0,1,0,1,0,0,1,0])=xc0
 generalize (cC K)=qc0
 generalize (dS K B1)=qc1
 generalize (eW K B1)=qc2
 exact mpF
theorem Cp (h:K l0 w):cC K (cZ l0 jp lP lb od i9 zf) w:=by
 delta cC;exact mpK h
theorem Cq {B1:KE}{B2:KE}(h:sI 45 jp i9 (fun D3=>sF 54 D3 1 fun D4=>sL 24 D4 fun D5=>sI 45 jp i9 fun D8=>sF 54 D8 0 fun D9=>sL 3 D9 fun E0=>sti (bin Q .sub 3 false true E0 (ci 1)) fun E1=>sI 26 lP E1 fun E2=>sL 24 E2 fun E3=>sti (bin Q .leq 24 false false D5 E3) fun E4 w=>cond E4 (aU Q 45 jp i9 (fun E9=>ld Q 54 E9 fun F0=>call Q 36 #[l0,F0] fun F1=>ext Q F1 0 fun F2=>ext Q F1 1 fun F3=>iX K B1 B2 (cZ F2 jp lP lb od i9 (zV zf 27 [jp,i9,D3,D4,D5,jp,i9,D8,D9,E0,E1,E2,E3,E4,F1,l0,jp,i9,E9,F0,F1,F2,F3]))) w) (iX K B1 B2 (cZ l0 jp lP lb od i9 (zV zf 27 [jp,i9,D3,D4,D5,jp,i9,D8,D9,E0,E1,E2,E3,E4])) w)) w.drew):nk K B1 B2 (cZ l0 jp lP lb od i9 zf) w:=by
 delta nk;revert h;generalize (iX K B1 B2)=qc0;generalize (cC K)=qc1;generalize (dS K B1)=qc2;generalize (eW K B1)=qc3;exact mpF
theorem Cr {B1:KE}(h:sN l0 (fun F5=>sF 79 F5 0 fun F6=>sF 30 F6 2 fun F7=>sL 26 F7 fun F8=>sL 26 od fun F9=>sti (bin Q .eql 26 false false F8 F9) fun G0 w=>cond G0 (K l0 w) (dS K B1 (cZ l0 jp lP lb od i9 (zV zf 50 [l0,F5,F6,F7,F8,F9,G0])) w)) w.drew):eW K B1 (cZ l0 jp lP lb od i9 zf) w:=by
 delta eW;revert h;generalize (dS K B1)=qc0;generalize (cC K)=qc1;exact mpF
theorem uT {B1:KE}{B2:KE}(h:nC i9 (fun D0=>B2 (cZ l0 jp lP lb od D0 (zV zf 25 [i9,D0]))) w):iX K B1 B2 (cZ l0 jp lP lb od i9 zf) w:=by
 delta iX;revert h;generalize (cC K)=qc0;generalize (dS K B1)=qc1;generalize (eW K B1)=qc2;exact mpF
theorem Cs {B1:KE}(h:nC lb (fun A9=>B1 (cZ l0 jp lP A9 od i9 (zV zf 14 [lb,A9]))) w):dS K B1 (cZ l0 jp lP lb od i9 zf) w:=by
 delta dS;revert h;generalize (cC K)=qc0;exact mpF
end
attribute [irreducible] cC oY dS eW nj iX nk
def aT (w_0 x3 A0 o5 l6 e7 gw F5 H5 I1 N0:Value)(zf:Nat→Value):List Value:=w_0::zf 1::zf 2::x3::A0::o5::l6::e7::gw::zT zf 9 42 (F5::zT zf 52 19 (H5::zT zf 72 5 (I1::zT zf 78 41 (N0::zT zf 120 23 ([])))))
def iI (K:KV):KE:=ae Q (cd f35 [1,1,1,1]) (rk f35 K) xf (rk f35 K)
def eQ (K:KV):KE:=ae Q (cd f35 [1,1,1,1,1,1]) (rk f35 K) xf (rk f35 K)
def jY (K:KV):KE:=ae Q (cd f35 [1,1,1,1,1,0,1]) (eQ K) xf (rk f35 K)
def bf (K:KV):KE:=ae Q (cd f35 [1,1,1,1,1,1,1]) (rk f35 K) xf (rk f35 K)
def jZ (K:KV):KE:=ae Q (cd f35 [1,1,1,1,1,1,0,1]) (bf K) xf (rk f35 K)
def fI (K:KV):KE:=ae Q (cd f35 [1,1,1,1,1,1,0,1,0,1,0,1]) (bf K) (xx xf (bf K) 0) (rk f35 K)
def k0 (K:KV):KE:=ae Q (cd f35 [1,1,1,1,1,1,0,1,0,1,0,0,1]) (fI K) (xx xf (bf K) 0) (rk f35 K)
def ka (K:KV):KE:=ae Q (cd f35 [1,1,1,1,1,1,0,1,0,1,1,1,1,1,1,1,1,1]) (bf K) (xx xf (bf K) 0) (rk f35 K)
section
variable {K:KV}{w_0 x3 A0 o5 l6 e7 gw F5 H5 I1 N0:Value}{zf:Nat→Value}{w:World}
theorem yT {K:KV}{w_0 x1:Value}{w:World}(h:box Q 74 x1 (fun x3=>alc Q 54 fun A0 w=>sF 74 x3 0 (fun A3=>sL 5 A3 fun A4=>sti (conv Q 5 3 A4) fun A5=>sN w_0 fun A7=>sF 47 A7 0 fun A8=>sL 44 A8 fun A9=>sti (blt Q .len #[44] 3 #[false] #[A9]) fun C0=>sti (bin Q .rem 3 false false A5 C0) fun C1=>bo w_0 fun C3=>ai Q 47 C3 0 fun C4=>ld Q 44 C4 fun C5=>aU Q 44 C5 C1 fun C7=>ld Q 80 C7 fun C8 w=>aK (fun S w=>hld (fun _=>True) (bin Q .add 3 false true C1 (ci 1)) fun D0=>hN S C8 fun D3=>hF S 79 D3 0 fun D4=>hF S 30 D4 2 fun D5=>hI S 26 D5 C1 fun D6=>hL S 24 D6 fun D7=>hld (fun _=>True) (bin Q .add 24 false true D7 (cu 1)) fun D8=>hN S C8 fun E0=>hF S 79 E0 0 fun E1=>hF S 30 E1 2 fun E2=>hL S 26 E2 fun E3=>hF S 74 x3 3 fun E4=>hL S 5 E4 fun E5=>hld S (bin Q .rem 5 false true E5 (cb 7)) fun E6=>hld (fun _=>True) (bin Q .add 5 true false (cb 1) E6) fun E7=>hld S (bld Q 54 #[(0,D0),(1,D8),(2,E3),(3,E7)]) fun E8=>alc Q 54 (fun e7=>bF S fun _=>sto Q 54 e7 E8 fun _=>iI K (aT w_0 x3 A0 C1 C8 e7 uu uu uu uu uu (zV (zV zu 1 [x1]) 9 [A3,A4,A5,w_0,A7,A8,A9,C0,C1,w_0,C3,C4,C5,C1,C7,C8,C1,D0,C8,C1,D3,D4,D5,D6,D7,D8,C8,E0,E1,E2,E3,E4,E5,E6,E7,E8]))) w) w.drew) w.drew) w):Gives Q 35 #[w_0,x1] w K:=by
 refine aH func35 (by kernel_rfl) ?_
 refine Eq.mp (congrArg (fun c=>ae Q c _ _ _ _ w) (by kernel_rfl:(rep [1,1,1,1] (cd f35 [1,1,1,1]) (cd f35 []))=(cd f35 []))) ?_
 revert h
 delta iI
 generalize (cd f35 [1,1,1,1])=xc0
 exact mpF
theorem xc (h:bo l6 (fun F0=>ai Q 79 F0 0 fun F1=>ai Q 30 F1 3 fun F2=>ld Q 27 F2 fun F3=>lN 27 F3 fun F4=>bin Q .gtr 3 false true F4 (ci 0) fun F5=>jY K (aT w_0 x3 A0 o5 l6 e7 (cu 0) F5 H5 I1 N0 (zV zf 45 [l6,F0,F1,F2,F3,F4]))) w):iI K (aT w_0 x3 A0 o5 l6 e7 gw F5 H5 I1 N0 zf) w:=by
 delta iI
 refine Eq.mp (congrArg (fun c=>ae Q c _ _ _ _ w) (by kernel_rfl:(rep [1,0,1] (cd f35 [1,1,1,1,1,0,1]) (cd f35 [1,1,1,1]))=(cd f35 [1,1,1,1]))) ?_
 revert h
 delta jY eQ
 generalize (cd f35 [1,1,1,1,1,0,1])=xc0
 exact mpF
theorem xd (h:cond F5 (sN l6 (fun F7=>sF 79 F7 0 fun F8=>sF 30 F8 3 fun F9=>sL 27 F9 fun G0=>sF 74 x3 4 fun G1=>sL 5 G1 fun G2=>sti (conv Q 5 3 G2) fun G3=>sN l6 fun G5=>sF 79 G5 0 fun G6=>sF 30 G6 3 fun G7=>sL 27 G7 fun G8=>sti (blt Q .len #[27] 3 #[false] #[G8]) fun G9=>sti (bin Q .rem 3 false false G3 G9) fun H0=>sI 27 G0 H0 fun H1=>sF 38 H1 0 fun H2=>sL 24 H2 fun H3=>eQ K (aT w_0 x3 A0 o5 l6 e7 H3 F5 H5 I1 N0 (zV zf 52 [l6,F7,F8,F9,G0,G1,G2,G3,l6,G5,G6,G7,G8,G9,H0,H1,H2,H3]))) w.drew) (eQ K (aT w_0 x3 A0 o5 l6 e7 gw F5 H5 I1 N0 zf) w)):jY K (aT w_0 x3 A0 o5 l6 e7 gw F5 H5 I1 N0 zf) w:=by
 delta jY;revert h;generalize (eQ K)=qc0;exact mpF
theorem xe (h:ai Q 54 e7 3 (fun H4=>ld Q 5 H4 fun H5=>jZ K (aT w_0 x3 A0 o5 l6 e7 gw F5 H5 I1 N0 (zV zf 70 [H4]))) w):eQ K (aT w_0 x3 A0 o5 l6 e7 gw F5 H5 I1 N0 zf) w:=by
 delta eQ
 refine Eq.mp (congrArg (fun c=>ae Q c _ _ _ _ w) (by kernel_rfl:(rep [0,1] (cd f35 [1,1,1,1,1,1,0,1]) (cd f35 [1,1,1,1,1,1]))=(cd f35 [1,1,1,1,1,1]))) ?_
 revert h
 delta jZ bf
 generalize (cd f35 [1,1,1,1,1,1,0,1])=xc0
 exact mpF
theorem xg (h:bin Q .eql 5 false true H5 (cb 1) (fun H7 w=>cond H7 (ai Q 74 x3 4 (fun H8=>ld Q 5 H8 fun H9=>bin Q .rem 5 false true H9 (cb 2) fun I0=>bin Q .eql 5 false true I0 (cb 1) fun I1=>k0 K (aT w_0 x3 A0 o5 l6 e7 gw F5 H5 I1 N0 (zV zf 72 [H7,H7,H8,H9,I0]))) w) (bin Q .eql 5 false true H5 (cb 2) (fun I8 w=>cond I8 (ai Q 54 e7 4 (fun J0=>sto Q 24 J0 gw fun _=>ai Q 74 x3 6 fun J1=>ld Q 72 J1 fun J2=>conv Q 72 2 J2 fun J3=>bin Q .add 2 false true J3 (ci 1) fun J4=>ai Q 54 e7 6 fun J5=>sto Q 2 J5 J4 fun _=>bf K (aT w_0 x3 A0 o5 l6 e7 gw F5 H5 I1 N0 (zV (zV zf 72 [H7,H7]) 84 [I8,I8,gw,J0,J1,J2,J3,J4,J5]))) w) (bin Q .eql 5 false true H5 (cb 3) (fun J7 w=>cond J7 (ai Q 54 e7 4 (fun J8=>sto Q 24 J8 gw fun _=>ai Q 74 x3 6 fun J9=>ld Q 72 J9 fun L0=>conv Q 72 2 L0 fun L1=>bin Q .add 2 false true L1 (ci 1) fun L2=>ai Q 54 e7 6 fun L3=>sto Q 2 L3 L2 fun _=>ai Q 74 x3 7 fun L4=>ld Q 5 L4 fun L5=>conv Q 5 24 L5 fun L6=>bin Q .add 24 false true L6 (cu 1) fun L7=>ai Q 54 e7 7 fun L8=>sto Q 24 L8 L7 fun _=>bf K (aT w_0 x3 A0 o5 l6 e7 gw F5 H5 I1 N0 (zV (zV (zV zf 72 [H7,H7]) 84 [I8,I8]) 93 [J7,J7,gw,J8,J9,L0,L1,L2,L3,L4,L5,L6,L7,L8]))) w) (bin Q .eql 5 false true H5 (cb 4) (fun L9 w=>cond L9 (ai Q 74 x3 7 (fun M0=>ld Q 5 M0 fun M1=>conv Q 5 24 M1 fun M2=>bin Q .add 24 false true M2 (cu 1) fun M3=>ai Q 54 e7 7 fun M4=>sto Q 24 M4 M3 fun _=>ai Q 74 x3 8 fun M5=>ld Q 5 M5 fun M6=>conv Q 5 24 M6 fun M7=>bin Q .add 24 false true M7 (cu 1) fun M8=>ai Q 54 e7 8 fun M9=>sto Q 24 M9 M8 fun _=>bf K (aT w_0 x3 A0 o5 l6 e7 gw F5 H5 I1 N0 (zV (zV (zV (zV zf 72 [H7,H7]) 84 [I8,I8]) 93 [J7,J7]) 107 [L9,L9,M0,M1,M2,M3,M4,M5,M6,M7,M8,M9]))) w) (bin Q .eql 5 false true H5 (cb 5) (fun N1=>ka K (aT w_0 x3 A0 o5 l6 e7 gw F5 H5 I1 N1 (zV (zV (zV (zV (zV zf 72 [H7,H7]) 84 [I8,I8]) 93 [J7,J7]) 107 [L9,L9]) 120 [N1]))) w)) w)) w)) w)) w):jZ K (aT w_0 x3 A0 o5 l6 e7 gw F5 H5 I1 N0 zf) w:=by
 delta jZ
 refine Eq.mp (congrArg (fun c=>ae Q c _ _ _ _ w) (by kernel_rfl:(rep [0,1,1,1,1,1,1,1,1,1] (cd f35 [1,1,1,1,1,1,0,1,0,1,1,1,1,1,1,1,1,1]) (rep [0,1,0,0,1] (cd f35 [1,1,1,1,1,1,0,1,0,1,0,0,1]) (cd f35 [1,1,1,1,1,1,0,1])))=(cd f35 [1,1,1,1,1,1,0,1]))) ?_
 revert h
 delta ka k0 fI
 generalize (cd f35 [1,1,1,1,1,1,0,1,0,1,0,0,1])=xc0
 generalize (cd f35 [1,1,1,1,1,1,0,1,0,1,1,1,1,1,1,1,1,1])=xc1
 generalize (bf K)=qc0
 exact mpF
theorem xh (h:cond I1 (ai Q 54 e7 4 (fun I3=>sto Q 24 I3 gw fun _=>fI K (aT w_0 x3 A0 o5 l6 e7 gw F5 H5 I1 N0 (zV zf 78 [gw,I3]))) w) (fI K (aT w_0 x3 A0 o5 l6 e7 gw F5 H5 I1 N0 zf) w)):k0 K (aT w_0 x3 A0 o5 l6 e7 gw F5 H5 I1 N0 zf) w:=by
 delta k0;revert h;generalize (fI K)=qc0;generalize (bf K)=qc1;exact mpF
theorem xj (h:ld Q 54 e7 (fun P1=>sto Q 54 A0 P1 fun _=>bM Q [(some 54,A0)] K) w):bf K (aT w_0 x3 A0 o5 l6 e7 gw F5 H5 I1 N0 zf) w:=by
 delta bf;exact mpK h
theorem xk (h:cond N0 (ai Q 54 e7 4 (fun N2=>sto Q 24 N2 gw fun _=>ai Q 74 x3 6 fun N3=>ld Q 72 N3 fun N4=>conv Q 72 2 N4 fun N5=>bin Q .add 2 false true N5 (ci 1) fun N6=>ai Q 54 e7 6 fun N7=>sto Q 2 N7 N6 fun _=>ai Q 74 x3 5 fun N8=>ld Q 5 N8 fun N9=>conv Q 5 3 N9 fun O0=>bin Q .rem 3 false true O0 (ci 6) fun O1=>bin Q .add 3 true false (ci 1) O1 fun O2=>ai Q 54 e7 5 fun O3=>sto Q 3 O3 O2 fun _=>bf K (aT w_0 x3 A0 o5 l6 e7 gw F5 H5 I1 N0 (zV zf 121 [gw,N2,N3,N4,N5,N6,N7,N8,N9,O0,O1,O2,O3]))) w) (bin Q .eql 5 false true H5 (cb 6) (fun O4 w=>cond O4 (ai Q 74 x3 5 (fun O5=>ld Q 5 O5 fun O6=>conv Q 5 3 O6 fun O7=>bin Q .rem 3 false true O7 (ci 6) fun O8=>bin Q .add 3 true false (ci 1) O8 fun O9=>ai Q 54 e7 5 fun P0=>sto Q 3 P0 O9 fun _=>bf K (aT w_0 x3 A0 o5 l6 e7 gw F5 H5 I1 N0 (zV zf 134 [O4,O4,O5,O6,O7,O8,O9,P0]))) w) (bf K (aT w_0 x3 A0 o5 l6 e7 gw F5 H5 I1 N0 (zV zf 134 [O4,O4])) w)) w)):ka K (aT w_0 x3 A0 o5 l6 e7 gw F5 H5 I1 N0 zf) w:=by
 delta ka;revert h;generalize (bf K)=qc0;exact mpF
theorem qB (h:ai Q 74 x3 6 (fun I4=>ld Q 72 I4 fun I5=>conv Q 72 2 I5 fun I6=>ai Q 54 e7 6 fun I7=>sto Q 2 I7 I6 fun _=>bf K (aT w_0 x3 A0 o5 l6 e7 gw F5 H5 I1 N0 (zV zf 80 [I4,I5,I6,I7]))) w):fI K (aT w_0 x3 A0 o5 l6 e7 gw F5 H5 I1 N0 zf) w:=by
 delta fI;revert h;generalize (bf K)=qc0;exact mpF
end
attribute [irreducible] iI eQ jY bf jZ fI k0 ka
def km (w_0 x3 A0 o5 e6 f8:Value)(zf:Nat→Value):List Value:=w_0::zf 1::zf 2::x3::A0::o5::e6::zf 7::f8::zT zf 9 85 ([])
def jG (K:KV):KE:=ae Q (cd f19 [1,1,1,1]) (rk f19 K) xf (rk f19 K)
def jH (K:KV):KE:=ae Q (cd f19 [1,1,1,1,1,1,1]) (rk f19 K) xf (rk f19 K)
section
variable {K:KV}{w_0 x3 A0 o5 e6 f8:Value}{zf:Nat→Value}{w:World}
theorem Bb {K:KV}{w_0 x1:Value}{w:World}(h:box Q 74 x1 (fun x3=>alc Q 54 fun A0 w=>sF 74 x3 0 (fun A3=>sL 5 A3 fun A4=>sti (conv Q 5 3 A4) fun A5=>sN w_0 fun A7=>sF 47 A7 0 fun A8=>sL 44 A8 fun A9=>sti (blt Q .len #[44] 3 #[false] #[A9]) fun C0=>sti (bin Q .rem 3 false false A5 C0) fun C1=>ai Q 74 x3 1 fun C2=>ld Q 4 C2 fun C3 w=>cond C3 (aK (fun S w=>hN S w_0 fun C5=>hF S 47 C5 0 fun C6=>hL S 44 C6 fun C7=>hN S w_0 fun D0=>hF S 47 D0 0 fun D1=>hL S 44 D1 fun D2=>hI S 44 D2 C1 fun D4=>hL S 80 D4 fun D5=>hN S w_0 fun D7=>hF S 47 D7 1 fun D8=>hL S 45 D8 fun D9=>hN S w_0 fun E1=>hF S 47 E1 0 fun E2=>hL S 44 E2 fun E3=>hF S 74 x3 2 fun E4=>hL S 5 E4 fun E5=>hld S (conv Q 5 3 E5) fun E6=>hN S w_0 fun E8=>hF S 47 E8 0 fun E9=>hL S 44 E9 fun F0=>hld S (blt Q .len #[44] 3 #[false] #[F0]) fun F1=>hld S (bin Q .rem 3 false false E6 F1) fun F2=>hI S 44 E3 F2 fun F3=>hL S 80 F3 fun F4=>hN S F4 fun F5=>hF S 79 F5 0 fun F6=>hF S 30 F6 2 fun F7=>hL S 26 F7 fun F8=>call Q 34 #[D5,D9,F8] (fun F9=>bF S fun S w=>hI S 44 C7 C1 fun G0=>sto Q 80 G0 F9 (fun _=>bld Q 54 #[] fun G1=>sto Q 54 A0 G1 fun _=>bM Q [(some 54,A0)] K) w) w) w.drew) (ld Q 74 x3 (fun G3=>call Q 35 #[w_0,G3] fun G4=>alc Q 54 fun e6=>sto Q 54 e6 G4 fun _=>jG K (km w_0 x3 A0 C1 e6 uu (zV (zV (zV zu 1 [x1]) 9 [A3,A4,A5,w_0,A7,A8,A9,C0,C1,C2,C3]) 58 [w_0,G3,G4]))) w)) w.drew) w):Gives Q 19 #[w_0,x1] w K:=by
 refine aH func19 (by kernel_rfl) ?_
 refine Eq.mp (congrArg (fun c=>ae Q c _ _ _ _ w) (by kernel_rfl:(rep [1,1,1,1] (cd f19 [1,1,1,1]) (cd f19 []))=(cd f19 []))) ?_
 revert h
 delta jG
 generalize (cd f19 [1,1,1,1])=xc0
 exact mpF
theorem zN (h:aK (fun S w=>hN S w_0 fun G7=>hF S 47 G7 0 fun G8=>hL S 44 G8 fun G9=>hI S 44 G9 o5 fun H1=>hL S 80 H1 fun H2=>hL S 54 e6 fun H3=>call Q 36 #[H2,H3] (fun H4=>aK fun S w=>hld S (ext Q H4 0) fun H5=>hld S (ext Q H4 1) fun H6=>bin Q .neq 49 false true H6 (ci 0) (fun H8 w=>cond H8 (bld Q 54 #[] (fun H9=>sto Q 54 A0 H9 fun _=>bM Q [(some 54,A0)] K) w) (bo w_0 (fun I1=>ai Q 47 I1 0 fun I2=>ld Q 44 I2 fun I3=>aU Q 44 I3 o5 fun I6=>sto Q 80 I6 H5 fun _=>jH K (km w_0 x3 A0 o5 e6 H6 (zV (zV (zV zf 7 [H5]) 61 [H4,w_0,G7,G8,G9,o5,H1,H2,H3,H4,H5,H6,H6,H8]) 76 [w_0,I1,I2,I3,o5,H5,I6]))) w)) w) w) w.drew):jG K (km w_0 x3 A0 o5 e6 f8 zf) w:=by
 delta jG
 refine Eq.mp (congrArg (fun c=>ae Q c _ _ _ _ w) (by kernel_rfl:(rep [1,1,1] (cd f19 [1,1,1,1,1,1,1]) (cd f19 [1,1,1,1]))=(cd f19 [1,1,1,1]))) ?_
 revert h
 delta jH
 generalize (cd f19 [1,1,1,1,1,1,1])=xc0
 exact mpF
theorem zO (h:aK (fun S w=>hN S w_0 fun I8=>hF S 47 I8 1 fun I9=>hL S 45 I9 fun J0=>hL S 54 e6 fun J1=>dl Q 45 1 #[(0,J1)] (fun J2=>bF S fun _=>blt Q .append #[45,45] 45 #[false,false] #[J0,J2] fun J3=>aK fun S w=>hN S w_0 fun J4=>hF S 47 J4 1 fun J5=>sto Q 45 J5 J3 (fun _=>ld Q 54 e6 fun J6=>sto Q 54 A0 J6 fun _=>bM Q [(some 54,A0)] K) w) w) w.drew):jH K (km w_0 x3 A0 o5 e6 f8 zf) w:=by
 delta jH;exact mpK h
end
attribute [irreducible] jG jH
end
section
open Go.RowKit
def pA (n0 bI xM n3 A1 w_8 i9:Value)(zf:Nat→Value):List Value:=n0::bI::xM::n3::zT zf 4 3 (A1::w_8::i9::zT zf 10 35 ([]))
def iY (K:KV):KE:=ae Q (cd f7 [1,1,1]) (rk f7 K) xf (rk f7 K)
def oZ (K:KV):KE:=ae Q (cd f7 [1,1,0,1,0]) (iY K) (xx xf (iY K) 0) (rk f7 K)
section
variable {K:KV}{n0 bI xM n3 A1 w_8 i9:Value}{zf:Nat→Value}{w:World}
theorem DS {K:KV}{n0 bI xM:Value}{w:World}(h:alc Q 30 (fun A1=>conv Q 5 3 n0 fun A2=>bin Q .rem 3 false true A2 (ci 6) fun A3=>bin Q .add 3 true false (ci 1) A3 fun A4=>call Q 18 #[A4] fun A5=>oZ K (pA n0 bI xM uu A1 A5 (ci 0) (zV (zV zu 6 [Value.pointer none]) 10 [n0,A2,A3,A4,A5]))) w):Gives Q 7 #[n0,bI,xM] w K:=by
 refine aH func7 (by kernel_rfl) ?_;revert h;delta oZ iY;exact mpF
theorem Ct (Inv:Value→World→Prop)(μ:Value→World→Nat)(h0:Inv i9 w)(u:∀(d:Value) (C:Nat→Value) (w:World) (m:Nat),Inv d w→m=μ d w →
  lN 22 bI (fun A7=>lS d A7 fun A8 w=>cond A8 (aU Q 22 bI d (fun C4=>ld Q 74 C4 fun C5=>call Q 19 #[w_8,C5] fun _=>nC d fun C0 w=>(Inv C0 w)∧((μ C0 w)<m)) w) (iY K (pA n0 bI xM n3 A1 w_8 d (zV C 15 [d,bI,A7,A8])) w)) w):oZ K (pA n0 bI xM n3 A1 w_8 i9 zf) w:=by
 refine aQ (cd f7 [1,1,0,1,0,0]) (zr [(9,1),(15,12)]) (by kernel_rfl) (fun e2 j=>Inv (gd e2 9) j) (fun e2 j=>μ (gd e2 9) j) h0 ?_;intro e' w' hI;have h:=u (gd e' 9) (zM zf (fun i=>gd e' i) (zr [(9,1),(15,12)])) w' _ hI rfl;revert h;generalize (iY K)=qc0;exact mpF
theorem Cu (h:sN w_8 (fun C9=>sF 47 C9 0 fun D0=>sL 44 D0 fun D1=>sti (conv Q 5 3 xM) fun D3=>sN w_8 fun D5=>sF 47 D5 0 fun D6=>sL 44 D6 fun D7=>sti (blt Q .len #[44] 3 #[false] #[D7]) fun D8=>sti (bin Q .rem 3 false false D3 D8) fun D9=>sI 44 D1 D9 fun E0=>sL 80 E0 fun E1=>sN E1 fun E2=>sF 79 E2 0 fun E3=>sL 30 E3 fun E4=>sto Q 30 A1 E4 fun _=>bM Q [(none,w_8),(some 30,A1)] K) w.drew):iY K (pA n0 bI xM n3 A1 w_8 i9 zf) w:=by
 delta iY;exact mpK h
end
attribute [irreducible] iY oZ
theorem Gf {K:KV}{l0:Value}{w:World}(h:lN 22 l0 (fun A0=>bin Q .leq 3 false true A0 (ci 60) K) w):Gives Q 5 #[l0] w K:=by
 refine aH func5 (by kernel_rfl) ?_;exact mpK h
end
section
attribute [local irreducible] bin un conv call dC blt slc ai fld aU idx lkp eX jl eSt rng nxt ent ext alc box bld dl ld sto bo eS mkS ifc pick rdy wts aJ sti cond bM Gives ae fU gX cOp
section
open Go.RowKit
def mvC (m:Int×Int×Int):List Value:=[iv m.1,iv m.2.1,iv m.2.2]
theorem Es (m:Int×Int×Int):(mvC m).length=3:=rfl
theorem MX (m:Int×Int×Int):∀u∈mvC m,u.oneCell'=true:=by simp[mvC,iv,Value.oneCell']
theorem UK {h:List Int}{i n:Nat}{x:Int}(hi:i<n)(I:n≤6)(J:h.length=n):(hK h n).set i (iv x)=hK (h.set i x) n:=by
 apply List.ext_getElem?;intro j;by_cases C:j<6
 ·rw[List.getElem?_set];by_cases u:i=j
  ·subst u;rw[if_pos rfl,if_pos (by rw[ku];omega),Ht C hi,AI (by omega),if_pos rfl]
  ·rw[if_neg u];by_cases d:j<n
   ·rw[Ht C d,Ht C d,AI (by omega),if_neg (by omega)]
   ·simp[hK,C,d]
 ·rw[List.getElem?_eq_none (by simp[ku];omega),List.getElem?_eq_none (by rw[ku];omega)]
theorem TL {a:Option Addr}{n c i:Nat}{cnt x:Int}{h:List Int}{S:List Value}(hi:i<n)(d:n≤6)(j:h.length=n):(fV a n c cnt (hK h n) S).set (2+i) (iv x)=fV a n c cnt (hK (h.set i x) n) S:=by
 rw[←UK hi d j];unfold fV;rw[show 2+i=i+1+1 by omega,List.set_cons_succ,List.set_cons_succ,List.set_append_left _ _ (by rw[ku];omega)]
def yU (l:List Int):Prop:=∀k,0≤nB l k∧nB l k≤MXA+1
theorem UL {l:List Int}{k:Nat}(d:k<l.length):nB l k∈l:=by
 rw[show nB l k=l[k]by simp[nB,List.getD,d]];exact List.getElem_mem d
theorem Pz {l:List Int}{k:Nat}(d : ¬k<l.length):nB l k=0:=by simp[nB,List.getD,show l.length≤k by omega]
theorem PA {s:STA}{id:Int}{j sh:List Int}(h:oX s id=some (j,sh)):yU j∧yU sh:=by
 unfold oX at h;cases u:s.nodes[posN s.nodes id]? with
 | none=>rw[u]at h;cases h
 | some x =>
  cases C:eA s.I s.L 6 with
  | nil=>rw[u,C]at h;cases h
  | cons i r =>
   rw[u,C]at h;simp only at h;split at h
   ·cases h
   ·rename_i all R;cases h;obtain⟨a1,U,J⟩:=Mt (Int.le_refl 0) (by decide) R;refine⟨fun k=>?_,fun k=>?_⟩
    ·by_cases d:k<(nN x.A (i::r)).length
     ·have:=J _ (UL d);omega
     ·rw[Pz d];exact⟨Int.le_refl _,by decide⟩
    ·by_cases d:k<(shL all (i::r).length).length
     ·rw[MW]at d;rw[Pw d];unfold shr;have M:(0:Int)<((i::r).length:Nat):=by rw[List.length_cons];omega
      have X:=Int.ediv_nonneg a1 (Int.le_of_lt M);have V:all / (((i::r).length:Nat):Int)≤all:=Int.ediv_le_self _ a1;split<;>omega
     ·rw[Pz d];exact⟨Int.le_refl _,by decide⟩
theorem UM {h s:List Int}{i j:Nat}(hh:yU h)(J:yU s)(hi:i<h.length)(M:j<h.length)(C:iC h s i=true)(I:jt h s j=true):yU (mvH h i j (mvX h s i j)):=by
 have u:i≠j:=by
  rintro rfl;have U:=of_decide_eq_true C;have R:=of_decide_eq_true I;omega
 have U:=of_decide_eq_true C;have R:=of_decide_eq_true I;intro k;rw[GN hi M u];have a:=hh i;have b:=hh j;have c:=hh k;have d:=J i;have e:=J j;have V:mvX h s i j≤nB h i-nB s i∧mvX h s i j≤nB s j-nB h j∧0<mvX h s i j:=⟨Int.min_le_left _ _,Int.min_le_right _ _,HV C I⟩
 split
 ·omega
 ·split<;>omega
structure MG (w0 w:World) (r:Nat) (a:Option Addr) (n c:Nat) (lv h sh:List Int) (ao:Option Addr) (co:Nat) (O:List (Int×Int×Int)):Prop where
 row:blk w r 108 (fV a n c n (hK h n) (hK sh n))
 lvs:ON w w0.heap.size a n c lv
 out:w.ownsRow w0.heap.size 69 3 (.slice ao O.length co) O.length (O.flatMap mvC)
 bel:Below w0.heap.size w0 w
 lo:w0.heap.size≤r
theorem MG.fresh {w0 w w':World}{r n c co:Nat}{a ao:Option Addr}{lv h sh:List Int}{O:List (Int×Int×Int)}(g:MG w0 w r a n c lv h sh ao co O)(d:Below w.heap.size w w'):MG w0 w' r a n c lv h sh ao co O :=
 ⟨af d g.row g.row.lt,di g.lvs fun k j=>d.block k (World.ownsRow.lt g.lvs k j).2,di g.out fun k j=>d.block k (World.ownsRow.lt g.out k j).2,g.bel.trans (d.mono g.bel.size),g.lo⟩
theorem MG.drew {w0 w:World}{r n c co:Nat}{a ao:Option Addr}{lv h sh:List Int}{O:List (Int×Int×Int)}(g:MG w0 w r a n c lv h sh ao co O):MG w0 w.drew r a n c lv h sh ao co O:=g.fresh (Below.refl _ w).drew
section
variable {w:World}{K:KV}
theorem MG.sto {w0:World}{r n c co i:Nat}{a ao:Option Addr}{lv h sh:List Int}{O:List (Int×Int×Int)}{x:Int}(g:MG w0 w r a n c lv h sh ao co O)(hi:i<n)(u:n≤6)(I:h.length=n)(C:∀w',MG w0 w' r a n c lv (h.set i x) sh ao co O→K undef w'):sto Tryz.prog 2 (.pointer (some ⟨r,0+2+((i:Nat):Int).toNat*1,none⟩)) (iv x) K w:=by
 rw[Int.toNat_natCast,Nat.mul_one,Nat.zero_add];refine dY (fun _=>by kernel_rfl) g.row (by rw[u9 (ku _ _) (ku _ _)];omega) rfl fun w' j d=>?_;rw[TL hi u I]at j;exact C w' ⟨j,dJ g.lvs g.row (by decide) d,dJ g.out g.row (by decide) d,bA g.bel d g.lo,g.lo⟩
theorem MG.ldH {w0:World}{K2:Value→KV}{r n c co i:Nat}{a ao:Option Addr}{lv h sh:List Int}{O:List (Int×Int×Int)}(g:MG w0 w r a n c lv h sh ao co O)(hi:i<n)(j:n≤6)(d:K2 (.pointer (some ⟨r,0+2+((i:Nat):Int).toNat*1,none⟩)) (iv (nB h i)) w):aU Tryz.prog 33 (.pointer (some ⟨r,0+2,none⟩)) (.int .i64 (i:Nat)) (fun t w=>ld Tryz.prog 2 t (K2 t) w) w:=by
 refine dB underlying33 (s:=1) (fun _=>by kernel_rfl) (by omega) (by omega) ?_;exact lK g.row (by rw[show 0+2+((i:Nat):Int).toNat*1=2+i by omega];exact NM (by omega) hi) d
variable {w0:World}{r n c co:Nat}{a ao:Option Addr}{lv h0 sh:List Int}{id:Int}{s:STA}
theorem PC :(Tryz.prog.info? 69).map (fun i=>(i.zero,i.size,i.bytes))=some (some (.agg #[iv 0,iv 0,iv 0]),3,24):=by kernel_rfl
theorem RU {lv:List Int}{k n:Nat}(h:lv.length=n)(d:k<n):(lv.map iv)[k]? = some (iv (nB lv k)):=by simp[nB,List.getD,show k<lv.length by omega]
variable {hh:List Int}{ao:Option Addr}{O:List (Int×Int×Int)}
theorem Lt {s0 s2 r5 oF jj jk x10 t24 t25 t26 t27 t28 t29 t30 t31 t32 t41 t42 t43 t44 t45 t46 t47 t48 t49 t58 t59 t60 t61 : Value} {zf : Nat → Value} {B1 : KE} {i j : Nat} (hn : n ≤ 6) (hlv : lv.length = n) (hhl : hh.length = n) (hsl : sh.length = n) (hb : yU hh) (hbs : yU sh) (hO : O.length ≤ 100) (g : MG w0 w r a n c lv hh sh ao co O)
    (hi : fs (iC hh sh) n 0 = i) (hj : fs (jt hh sh) n 0 = j) (e1 : r5 = .pointer (some ⟨r, 0, none⟩)) (e2 : oF = .slice ao O.length co) (e3 : jj = .int .i64 (i : Nat)) (e4 : jk = .int .i64 (j : Nat))
    (hdone : jD hh sh = [] → K (.slice ao O.length co) w)
    (hnext : ∀ (e2 : List Value) (w2 : World) (ao' : Option Addr) (co' : Nat), i < n → j < n → jD hh sh = (i, j, mvX hh sh i j) :: jD (mvH hh i j (mvX hh sh i j)) sh → odd (mvH hh i j (mvX hh sh i j)) sh < odd hh sh → gd e2 7 = .slice ao' (O.length + 1) co' → gd e2 8 = .int .i64 (i : Nat) → gd e2 9 = .int .i64 (j : Nat) →
      MG w0 w2 r a n c lv (mvH hh i j (mvX hh sh i j)) sh ao' co' (O ++ [(nB lv i, nB lv j, mvX hh sh i j)]) → B1 e2 w2) :
    lg K B1 ((gC s0 s2 r5 oF jj jk x10 t24 t25 t26 t27 t28 t29 t30 t31 t32 t41 t42 t43 t44 t45 t46 t47 t48 t49 t58 t59 t60 t61 zf)) w := by
  subst e1 e2 e3 e4
  have s1 := mO (p := iC hh sh) (n := n) _ 0 rfl (Nat.zero_le _)
  have s2 := mO (p := jt hh sh) (n := n) _ 0 rfl (Nat.zero_le _)
  rw [hi] at s1
  rw [hj] at s2
  refine Hr ?_
  refine qg ?_
  refine ld1 (v := .int .i64 (n : Nat)) (fun _ => by kernel_rfl) g.row rfl ?_
  refine bm ?_
  by_cases hin : i = n
  · have hin' : ((i : Nat) : Int) = n := by omega
    refine iZ hin' ?_
    refine bR hin' ?_
    refine bu ?_
    exact hdone (vt (by rw [hsl]; left; omega))
  have hin' : ¬ ((i : Nat) : Int) = n := by omega
  refine dZ hin' ?_
  refine qg ?_
  refine ld1 (v := .int .i64 (n : Nat)) (fun _ => by kernel_rfl) g.row rfl ?_
  refine bm ?_
  refine bE hin' ?_
  by_cases hjn : j = n
  · have hjn' : ((j : Nat) : Int) = n := by omega
    refine ay hjn' ?_
    exact hdone (vt (by rw [hsl]; right; omega))
  have hjn' : ¬ ((j : Nat) : Int) = n := by omega
  refine au hjn' ?_
  have hi6 : i < n := by omega
  have hj6 : j < n := by omega
  have hr := s1.2.2.2 hi6
  have hp := s2.2.2.2 hj6
  have hstep := Jf (h := hh) (s := sh) (i := i) (j := j) (by omega) (by rw [hsl]; exact hi) (by rw [hsl]; exact hj) (by omega) (by omega)
  have hodd := Dj (h := hh) (s := sh) (by omega) (show i < sh.length by omega) (show j < sh.length by omega) hr hp
  have hij : i ≠ j := by
    rintro rfl
    have h1 := of_decide_eq_true hr
    have h2 := of_decide_eq_true hp
    omega
  have b1 := hb i
  have b2 := hb j
  have b3 := hbs i
  have b4 := hbs j
  have hM : MXA = 1125899906842624 := rfl
  rw [hM] at b1 b2 b3 b4
  have hx : mvX hh sh i j ≤ nB hh i - nB sh i ∧ mvX hh sh i j ≤ nB sh j - nB hh j ∧ 0 < mvX hh sh i j := ⟨Int.min_le_left _ _, Int.min_le_right _ _, HV hr hp⟩
  have rowH : ∀ {x : World}, blk x r 108 (fV a n c n (hK hh n) (hK sh n)) → ∀ {k : Nat}, k < n → ∀ (K : KV), K (iv (nB hh k)) x → ld Tryz.prog 2 (.pointer (some ⟨r, 0 + 2 + ((k : Nat) : Int).toNat * 1, none⟩)) K x := fun hx k hk K hK =>
    ld1 (fun _ => by kernel_rfl) hx (by rw [show 0 + 2 + ((k : Nat) : Int).toNat * 1 = 2 + k by omega]; exact NM (by omega) hk) hK
  have rowS : ∀ {x : World}, blk x r 108 (fV a n c n (hK hh n) (hK sh n)) → ∀ {k : Nat}, k < n → ∀ (K : KV), K (iv (nB sh k)) x → ld Tryz.prog 2 (.pointer (some ⟨r, 0 + 8 + ((k : Nat) : Int).toNat * 1, none⟩)) K x := fun hx k hk K hK =>
    ld1 (fun _ => by kernel_rfl) hx (by rw [show 0 + 8 + ((k : Nat) : Int).toNat * 1 = 8 + k by omega]; exact NL (by omega) hk) hK
  have ix : ∀ {x : World} {o k : Nat} (K : KV), k < n → K (.pointer (some ⟨r, o + ((k : Nat) : Int).toNat * 1, none⟩)) x → aU Tryz.prog 33 (.pointer (some ⟨r, o, none⟩)) (.int .i64 (k : Nat)) K x := fun K hk hK =>
    dB Tryz.underlying33 (s := 1) (fun _ => by kernel_rfl) (by omega) (by omega) hK
  have gd := g.drew
  refine aE (fun x => blk x r 108 (fV a n c n (hK hh n) (hK sh n))) gd.row ?_
  refine ab (fun x hx K hK => qh hK) ?_
  refine ab (fun x hx K hK => ix K hi6 hK) ?_
  refine ab (v := iv (nB hh i)) (fun x hx K hK => rowH hx hi6 K hK) ?_
  refine ab (fun x hx K hK => rG hK) ?_
  refine ab (fun x hx K hK => ix K hi6 hK) ?_
  refine ab (v := iv (nB sh i)) (fun x hx K hK => rowS hx hi6 K hK) ?_
  refine ab (v := .int .i64 (nB hh i - nB sh i)) (fun x hx K hK => bg (by omega) (by omega) hK) ?_
  refine ab (fun x hx K hK => rG hK) ?_
  refine ab (fun x hx K hK => ix K hj6 hK) ?_
  refine ab (v := iv (nB sh j)) (fun x hx K hK => rowS hx hj6 K hK) ?_
  refine ab (fun x hx K hK => qh hK) ?_
  refine ab (fun x hx K hK => ix K hj6 hK) ?_
  refine ab (v := iv (nB hh j)) (fun x hx K hK => rowH hx hj6 K hK) ?_
  refine ab (v := .int .i64 (nB sh j - nB hh j)) (fun x hx K hK => bg (by omega) (by omega) hK) ?_
  refine Vc ?_
  have hmin : (if nB sh j - nB hh j < nB hh i - nB sh i then nB sh j - nB hh j else nB hh i - nB sh i) = mvX hh sh i j := by
    unfold mvX
    rw [Int.min_def]
    split <;> split <;> omega
  rw [hmin]
  refine aE (fun _ => True) trivial ?_
  refine Hs ?_
  refine qh ?_
  refine gd.ldH hi6 hn ?_
  unfold iv
  refine bg (by omega) (by omega) ?_
  refine qh ?_
  refine ix _ hi6 ?_
  refine gd.sto hi6 hn hhl fun w2 g2 => ?_
  have hl2 : (hh.set i (nB hh i - mvX hh sh i j)).length = n := by simpa using hhl
  have hj2 : nB (hh.set i (nB hh i - mvX hh sh i j)) j = nB hh j := by rw [AI (by omega), if_neg (by omega)]
  refine qh ?_
  refine g2.ldH hj6 hn ?_
  rw [hj2]
  unfold iv
  refine aR (by omega) (by omega) ?_
  refine qh ?_
  refine ix _ hj6 ?_
  refine g2.sto hj6 hn hl2 fun w3 g3 => ?_
  have hmv : (hh.set i (nB hh i - mvX hh sh i j)).set j (nB hh j + mvX hh sh i j) = mvH hh i j (mvX hh sh i j) := rfl
  rw [hmv] at g3
  have g3 := g3.drew
  have hrv : RV w3.drew a n c (lv.map iv) := OV.rv g3.lvs
  refine aE (fun x => blk x r 108 (fV a n c n (hK (mvH hh i j (mvX hh sh i j)) n) (hK sh n)) ∧ RV x a n c (lv.map iv)) ⟨g3.row, hrv⟩ ?_
  refine ab (fun x hx K hK => yO hK) ?_
  refine ab (v := .slice a n c) (fun x hx K hK => ld1 (fun _ => by kernel_rfl) hx.1 rfl hK) ?_
  refine ab (v := .pointer (some (Ea a ((i : Nat) : Int).toNat))) (fun x hx K hK => AB Tryz.underlying56 (fun _ => by kernel_rfl) (by omega) (by omega) hx.2.some_ hK) ?_
  rw [Int.toNat_natCast]
  refine ab (v := iv (nB lv i)) (fun x hx K hK => vk (fun _ => by kernel_rfl) (hx.2.cell _ _ (RU hlv hi6)) hK) ?_
  refine ab (fun x hx K hK => yO hK) ?_
  refine ab (v := .slice a n c) (fun x hx K hK => ld1 (fun _ => by kernel_rfl) hx.1 rfl hK) ?_
  refine ab (v := .pointer (some (Ea a ((j : Nat) : Int).toNat))) (fun x hx K hK => AB Tryz.underlying56 (fun _ => by kernel_rfl) (by omega) (by omega) hx.2.some_ hK) ?_
  rw [Int.toNat_natCast]
  refine ab (v := iv (nB lv j)) (fun x hx K hK => vk (fun _ => by kernel_rfl) (hx.2.cell _ _ (RU hlv hj6)) hK) ?_
  refine ab (v := .agg (mvC (nB lv i, nB lv j, mvX hh sh i j)).toArray) (fun x hx K hK => fS (by kernel_rfl) hK) ?_
  refine oe (vs := [.agg (mvC (nB lv i, nB lv j, mvX hh sh i j)).toArray]) Tryz.underlying65 (s := 3) (by kernel_rfl) (by kernel_rfl) (by omega) rfl (by simp) (by simp) (by simp) (by simp [Value.cells, mvC]) fun w4 h4 b4 s4 => ?_
  have h4 : blk w4 w3.drew.heap.size 69 (mvC (nB lv i, nB lv j, mvX hh sh i j)) := by simpa [Value.cells] using h4
  have g4 := g3.fresh b4
  obtain ⟨ii, hi', hz, hsz, hby⟩ := info_parts PC
  refine aE (fun _ => True) trivial ?_
  refine rU (base := w0.heap.size) (x := (nB lv i, nB lv j, mvX hh sh i j)) Tryz.underlying65 hi' hz hsz hby rfl (by omega) Es g4.out h4 (MX _) (by omega) (by omega) g4.bel.size fun ao' co' w5 ho5 hgr b5 _ => ?_
  refine aE (fun _ => True) trivial ?_
  refine hnext _ w5 ao' co' hi6 hj6 hstep hodd rfl rfl rfl ⟨eT g4.row g4.out (by decide) hgr, oI g4.lvs g4.out (by decide) hgr, ?_, g4.bel.trans b5, g4.lo⟩
  rw [List.length_append]
  exact ho5
end
end
end
end Go.Proofs.YtgpfkmdknlcemaaGreatDoor
