import Derived.Test.YtkbhfjljieopoaaGreatDoorQ2
import Derived.Test.YtkbhfjljieopoaaGreatDoorQ5
import Derived.Shelf.SlSortCmp.NoneTotal
import Derived.Shelf.SlGeneric
import Derived.Test.YtkbhfjljieopoaaGreatDoorQ1
import Derived.Ground.SlsfProg
namespace Go.Proofs.YtkbhfjljieopoaaGreatDoor
set_option maxRecDepth 100000
set_option maxHeartbeats 4000000
open Go.Proofs.Tryz
variable {w w':World}{K:KV}{zf dd:Nat→Value}{b n c o k B i g p j m s z f d D hi:Nat}{x r:Int}{B1:KE}{a:Option Addr}{cs:List Value}{E t e:TypeId}{v:List Int}{α:Type}{T:List (Int×Int)}{Y5 Z5 K6 W6 X6 Y6 Z6 u7 B7 K7 W7 X7 Y7 Z7 B8 K8 W8 X8 Y8 Z8 l9 n9 u9 B9 K9 W9 X9 Y9 Z9 ia ja ka qa ua xa ya:Value}
section
open Go.RowKit
theorem KN (h:dE Q 146 none (fun A1=>bld Q 148 #[(0,A1)] fun A2=>box Q 148 A2 K) w):Gives Q 24 #[] w K:=by
 refine aB func24 (by kernel_rfl) ?_;exact mpK h
def ob (is1 d2 l4 C0:Value)(zf:Nat→Value):List Value:=zf 0::is1::d2::zf 3::l4::zT zf 5 8 (C0::zT zf 14 14 ([]))
def gG (K:KV):KE:=ae Q (cd f61 [1,1,1]) (rk f61 K) xf (rk f61 K)
def nF (K:KV):KE:=ae Q (cd f61 (b1 58)) (gG K) (xx xf (gG K) 0) (rk f61 K)
theorem BE (h:bin Q .eql 88 false true Z5 (Value.pointer none) (fun A5 w=>cond A5 (K cN w) (aU Z5 (fun A7=>aT Q 148 A7 0 fun A8=>ld Q 146 A8 fun A9=>rng Q 146 A9 fun W6=>nF K (ob Y5 uu cN W6 (zV (zV zu 0 [Z5]) 7 [Z5,A5,Z5,A7,A8,A9]))) w)) w):Gives Q 61 #[Z5,Y5] w K:=by
 refine aB func61 (by kernel_rfl) ?_;revert h;delta nF gG;exact mpF
theorem zK (Inv:Value→World→Prop)(μ:Value→World→Nat)(I:Inv K6 w)(J:∀(j:Value) (dd:Nat→Value) (w:World) (m:Nat),Inv j w→m=μ j w →
  nxt Q W6 false 0 (fun C1=>ext Q C1 0 fun C2 w=>cond C2 (ent Q W6 (fun C3=>ext Q C3 1 fun C4=>bY Q Y5 #[C4] fun C7 w=>cond C7 (bT Q 164 1 #[(0,C4)] (fun C9=>blt Q .append #[164,164] 164 #[false,false] #[j,C9] fun D0 w=>(Inv D0 w)∧((μ D0 w)<m)) w) ((Inv j w)∧((μ j w)<m))) w) (gG K (ob Y5 Z5 j W6 (zV dd 14 [C1,C2])) w)) w):nF K (ob Y5 Z5 K6 W6 zf) w:=by
 refine aL (cd f61 (b1 116)) (zr [(4,1),(6,1),(14,11)]) (by kernel_rfl) (vP [4] Inv) (vQ [4] μ) I ?_;intro e' w' hI;have h:=J _ (zM zf (fun i=>gd e' i) (zr [(4,1),(6,1),(14,11)])) w' _ hI rfl;revert h;generalize (gG K)=qc0;exact mpF
theorem zL (h:call Q 100 #[K6,Value.func (Fn.func 101) #[] #[]] (fun _=>K K6) w):gG K (ob Y5 Z5 K6 W6 zf) w:=by
 delta gG;exact mpK h
attribute [irreducible] gG nF
def oF (out2 A3 A4 A5:Value)(zf:Nat→Value):List Value:=zf 0::zf 1::out2::zT zf 3 3 (A3::A4::A5::zT zf 9 12 ([]))
def gW (K:KV):KE:=ae Q (cd f31 [1,1]) (rk f31 K) xf (rk f31 K)
def nZ (K:KV):KE:=ae Q (cd f31 [1,0,1,0]) (gW K) (xx xf (gW K) 0) (rk f31 K)
theorem Cj (h:call Q 61 #[Y5,Value.func (Fn.func 62) #[] #[]] (fun Z5=>lN 164 Z5 fun K6=>nZ K (oF cN Z5 K6 (ci 0) (zV (zV zu 0 [Y5]) 5 [Y5]))) w):Gives Q 31 #[Y5] w K:=by
 refine aB func31 (by kernel_rfl) ?_;revert h;delta nZ gW;exact mpF
theorem AO (Inv:Value→Value→World→Prop)(μ:Value→Value→World→Nat)(J:Inv Y5 W6 w)(M:∀(j u:Value) (dd:Nat→Value) (w:World) (m:Nat),Inv j u w→m=μ j u w →
  lS u K6 (fun A6 w=>cond A6 (aV Q 164 Z5 u (fun A7=>ld Q 160 A7 fun A8=>aU A8 fun C1=>aT Q 162 C1 0 fun C2=>ld Q 102 C2 fun C3=>bT Q 99 1 #[(0,C3)] fun C4=>blt Q .append #[99,99] 99 #[false,false] #[j,C4] fun C5=>nC u fun C6 w=>(Inv C5 C6 w)∧((μ C5 C6 w)<m)) w) (gW K (oF j Z5 K6 u (zV dd 9 [A6])) w)) w):nZ K (oF Y5 Z5 K6 W6 zf) w:=by
 refine aL (cd f31 (b1 52)) (zr [(2,1),(4,1),(8,12)]) (by kernel_rfl) (vP [2,8] Inv) (vQ [2,8] μ) J ?_;intro e' w' hI;have h:=M _ _ (zM zf (fun i=>gd e' i) (zr [(2,1),(4,1),(8,12)])) w' _ hI rfl;revert h;generalize (gW K)=qc0;exact mpF
theorem AP (h:K Y5 w):gW K (oF Y5 Z5 K6 W6 zf) w:=by
 delta gW;exact mpK h
attribute [irreducible] gW nZ
theorem tN (h:K cT w):Gives Q 62 #[Y5] w K:=by
 refine aB func62 (by kernel_rfl) ?_;exact mpK h
def oW (d2 now3 out4 A6 A7 A8:Value)(zf:Nat→Value):List Value:=zf 0::zf 1::d2::now3::out4::zT zf 5 4 (A6::A7::A8::zT zf 12 30 ([]))
def ir (K:KV):KE:=ae Q (cd f35 [1,1]) (rk f35 K) xf (rk f35 K)
def oE (K:KV):KE:=ae Q (cd f35 [1,0,1,0]) (ir K) (xx xf (ir K) 0) (rk f35 K)
theorem CT (h:box Q 31 K6 (fun Z5=>call Q 61 #[Y5,Value.func (Fn.func 66) #[] #[Z5]] fun W6=>lN 164 W6 fun X6=>oE K (oW uu Z5 cN W6 X6 (ci 0) (zV (zV zu 0 [Y5,K6]) 7 [Y5,Value.func (Fn.func 66) #[] #[Z5]]))) w):Gives Q 35 #[Y5,K6] w K:=by
 refine aB func35 (by kernel_rfl) ?_;revert h;delta oE ir;exact mpF
theorem BC (Inv:Value→Value→World→Prop)(μ:Value→Value→World→Nat)(J:Inv K6 Y6 w)(M:∀(j u:Value) (dd:Nat→Value) (w:World) (m:Nat),Inv j u w→m=μ j u w →
  lS u X6 (fun A9 w=>cond A9 (aV Q 164 W6 u (fun C0=>ld Q 160 C0 fun C1=>aU C1 fun C4=>aT Q 162 C4 0 fun C5=>ld Q 102 C5 fun C6=>bT Q 99 1 #[(0,C6)] fun C7=>blt Q .append #[99,99] 99 #[false,false] #[j,C7] fun C8 w=>sL 31 Z5 (fun C9=>sN C1 fun D1=>sF 162 D1 2 fun D2=>sL 31 D2 fun D3=>sti (bin Q .add 31 false false C9 D3) fun D4=>sN C1 fun D5=>sF 162 D5 1 fun D6=>sto Q 31 D6 D4 fun _=>aU C1 fun D7=>aT Q 162 D7 2 fun D8=>ld Q 31 D8 fun D9=>bin Q .mul 31 true false (cu 2) D9 fun E0=>blt Q .min #[31,31] 31 #[false,true] #[E0,cu 16] fun E1=>aU C1 fun E2=>aT Q 162 E2 2 fun E3=>sto Q 31 E3 E1 fun _=>nC u fun E4 w=>(Inv C8 E4 w)∧((μ C8 E4 w)<m)) w.drew) w) (ir K (oW Y5 Z5 j W6 X6 u (zV dd 12 [A9])) w)) w):oE K (oW Y5 Z5 K6 W6 X6 Y6 zf) w:=by
 refine aL (cd f35 (b1 52)) (zr [(4,1),(6,1),(11,30)]) (by kernel_rfl) (vP [4,11] Inv) (vQ [4,11] μ) J ?_;intro e' w' hI;have h:=M _ _ (zM zf (fun i=>gd e' i) (zr [(4,1),(6,1),(11,30)])) w' _ hI rfl;revert h;generalize (ir K)=qc0;exact mpF
theorem BD (h:K K6 w):ir K (oW Y5 Z5 K6 W6 X6 Y6 zf) w:=by
 delta ir;exact mpK h
attribute [irreducible] ir oE
theorem JO (h:call Q 20 #[Y5] (fun A7=>ext Q A7 0 fun A8=>ext Q A7 1 fun A9=>bin Q .neq 27 false true A9 (ci 0) fun C1 w=>aI C1 false (fun C=>bin Q .lss 3 false true Z5 (ci 1) (fun C4=>C [Z5,C4]) w) (fun k=>k [uu,uu] w) fun j=>pick C1 cT (gd j 1) fun C5 w=>aI C5 false (fun I=>bin Q .gtr 3 false true Z5 (ci 6) (fun C8=>I [Z5,C8]) w) (fun k=>k [uu,uu] w) fun u=>pick C5 cT (gd u 1) fun C9 w=>cond C9 (K (Value.tuple #[Value.pointer none,ci 1]) w) (call Q 21 #[] (fun D2=>call Q 22 #[] fun D3=>call Q 23 #[] fun D4=>call Q 24 #[] fun D5=>bld Q 91 #[(0,Z5),(1,A8),(2,D2),(3,D3),(4,D4),(5,D5)] fun D6=>box Q 91 D6 fun D7=>K (Value.tuple #[D7,ci 0])) w)) w):Gives Q 7 #[Y5,Z5] w K:=by
 refine aB func7 (by kernel_rfl) ?_;exact mpK h
theorem AG (h:box Q 54 Z5 (fun j w=>aG (fun S w=>hN S Y5 fun A4=>hF S 91 A4 1 fun A5=>hL S 79 A5 fun A6=>hL S 54 j fun A7=>call Q 96 #[A6,A7] (fun A8=>aG fun _=>bin Q .neq 27 false true A8 (ci 0) fun C0 w=>cond C0 (K A8 w) (aG (fun S w=>hN S Y5 fun C3=>hF S 91 C3 2 fun C4=>hL S 82 C4 fun C5=>hL S 54 j fun C6=>call Q 58 #[C5,C6] (fun _=>K (ci 0)) w) w.drew)) w) w.drew) w):Gives Q 81 #[Y5,Z5] w K:=by
 refine aB func81 (by kernel_rfl) ?_;exact mpK h
def ay (r0 m3 fresh4 e6 e7 is8 A7 A8 A9:Value)(zf:Nat→Value):List Value:=r0::zf 1::zf 2::m3::fresh4::zf 5::e6::e7::is8::zf 9::A7::A8::A9::zT zf 13 52 ([])
def eG (K:KV):KE:=ae Q (cd f43 [1,1]) (rk f43 K) xf (rk f43 K)
def nU (K:KV):KE:=ae Q (cd f43 [1,0,1,0]) (eG K) (xx xf (eG K) 0) (rk f43 K)
def bF (K:KV):KE:=ae Q (cd f43 [1,1,1]) (rk f43 K) xf (rk f43 K)
def fR (K:KV):KE:=ae Q (cd f43 (b1 58)) (bF K) (xx xf (bF K) 2) (rk f43 K)
def eQ (K:KV)(B1:KE):KE:=ae Q (cd f43 (b1 467)) B1 (xx xf (bF K) 2) (rk f43 K)
def lr (K:KV)(B1:KE):KE:=ae Q (cd f43 (b1 466)) (eQ K B1) (xx xf (bF K) 2) (rk f43 K)
theorem yG (h:box Q 38 K6 (fun Z5=>aT Q 38 Z5 4 fun A6=>ld Q 36 A6 fun Z6=>lN 36 Z6 fun u7=>ae Q (cd f43 [1,0,1,0]) (ae Q (cd f43 [1,1]) (rk f43 K) (fun _ _ _=>False) (rk f43 K)) (fun i=>@Bool.rec (fun _=>KE) ((fun _ _ _=>False) i) (ae Q (cd f43 [1,1]) (rk f43 K) (fun _ _ _=>False) (rk f43 K)) (Nat.beq i 0)) (rk f43 K) (ay Y5 Z5 cN uu uu uu Z6 u7 (ci 0) (zV (zV zu 1 [K6]) 9 [A6]))) w):ae Q (cd f43 []) (rk f43 K) xf (rk f43 K) (ay Y5 uu uu uu uu uu uu uu uu (zV zu 1 [K6])) w:=Eq.mp (by kernel_rfl) h
theorem xY {K:KV}{Y5 m1:Value}{w:World}(h:box Q 38 m1 (fun Z5=>aT Q 38 Z5 4 fun A6=>ld Q 36 A6 fun Z6=>lN 36 Z6 fun u7=>nU K (ay Y5 Z5 cN uu uu uu Z6 u7 (ci 0) (zV (zV zu 1 [m1]) 9 [A6]))) w):Gives Q 43 #[Y5,m1] w K:=aB func43 (by kernel_rfl) (Eq.mp (congrArg (fun c=>ae Q c (rk f43 K) xf (rk f43 K) (ay Y5 uu uu uu uu uu uu uu uu (zV zu 1 [m1])) w) (by kernel_rfl:(cd f43 [])=(cd f43 []))) (yG h))
theorem vT (B1:KE)(j:KE)(h:lS B7 u7 (fun C0 w=>cond C0 (aV Q 36 Z6 B7 (fun C1=>ld Q 54 C1 fun C2=>alc Q 54 fun W6=>sto Q 54 W6 C2 fun _ w=>aG (fun S w=>hN S Y5 fun C4=>hF S 91 C4 3 fun C5=>hL S 84 C5 fun C6=>hN S Y5 fun C8=>hF S 91 C8 1 fun C9=>hL S 79 C9 fun D0=>hL S 54 W6 fun D2=>call Q 79 #[D0] (fun D1=>aY S fun _=>call Q 78 #[C6,D1,D2] fun D3=>nC B7 fun D4=>B1 (ay Y5 Z5 K6 W6 X6 Y6 Z6 u7 D4 (zV dd 13 [C0,C1,C2,Y5,C4,C5,C6,Y5,C8,C9,D0,D1,D2,D3,D4]))) w) w.drew) w) (j (ay Y5 Z5 K6 (dd 6) X6 Y6 Z6 u7 B7 (zV dd 13 [C0])) w)) w):ae Q (cd f43 (b1 52)) B1 (xx xf j 0) (rk f43 K) (ay Y5 Z5 K6 (dd 6) X6 Y6 Z6 u7 B7 dd) w:=Eq.mp (by kernel_rfl) h
theorem vU (Inv:Value→World→Prop)(μ:Value→World→Nat)(I:Inv B7 w)(M:∀(j:Value) (dd:Nat→Value) (w:World) (m:Nat),Inv j w→m=μ j w →
  lS j u7 (fun C0 w=>cond C0 (aV Q 36 Z6 j (fun C1=>ld Q 54 C1 fun C2=>alc Q 54 fun W6=>sto Q 54 W6 C2 fun _ w=>aG (fun S w=>hN S Y5 fun C4=>hF S 91 C4 3 fun C5=>hL S 84 C5 fun C6=>hN S Y5 fun C8=>hF S 91 C8 1 fun C9=>hL S 79 C9 fun D0=>hL S 54 W6 fun D2=>call Q 79 #[D0] (fun D1=>aY S fun _=>call Q 78 #[C6,D1,D2] fun _=>nC j fun D4 w=>(Inv D4 w)∧((μ D4 w)<m)) w) w.drew) w) (eG K (ay Y5 Z5 K6 (dd 6) X6 Y6 Z6 u7 j (zV dd 13 [C0])) w)) w):nU K (ay Y5 Z5 K6 W6 X6 Y6 Z6 u7 B7 zf) w:=by
 refine aL (cd f43 (b1 52)) (zr [(6,1),(12,16)]) (by kernel_rfl) (vP [12] Inv) (vQ [12] μ) I ?_;intro e' w' hI;have h:=M _ (zM zf (fun i=>gd e' i) (zr [(6,1),(12,16)])) w' _ hI rfl
 have J:ae Q (cd f43 (b1 52)) (fun u C=>Inv (gd u 12) C∧μ (gd u 12) C<μ (gd e' 12) w') (xx xf (eG K) 0) (rk f43 K) (ay Y5 Z5 K6 (gd e' 6) X6 Y6 Z6 u7 (gd e' 12) (zM zf (fun i=>gd e' i) (zr [(6,1),(12,16)]))) w':=vT (fun u C=>Inv (gd u 12) C∧μ (gd u 12) C<μ (gd e' 12) w') (eG K) (Eq.mp (by kernel_rfl) h);exact Eq.mp (by kernel_rfl) J
theorem vX (h:aG (fun S w=>hN S Y5 fun D7=>hF S 91 D7 3 fun D8=>hL S 84 D8 fun D9=>hN S Y5 fun E0=>hF S 91 E0 1 fun E1=>hL S 79 E1 fun E2=>(call Q 79 #[E2] (fun E3=>aY S fun S w=>(call Q 80 #[D9,E3] (fun E4=>aG fun S w=>hld S (ext Q E4 0) fun E5=>hld S (ext Q E4 1) fun E6=>alc Q 54 (fun X6=>aY S fun S=>sto Q 54 X6 E5 fun _=>aY S fun _=>ae Q (cd f43 (b1 58)) (ae Q (cd f43 [1,1,1]) (rk f43 K) (fun _ _ _=>False) (rk f43 K)) (fun i=>@Bool.rec (fun _=>KE) ((fun _ _ _=>False) i) (ae Q (cd f43 [1,1,1]) (rk f43 K) (fun _ _ _=>False) (rk f43 K)) (Nat.beq i 2)) (rk f43 K) (ay Y5 Z5 K6 W6 X6 E6 Z6 u7 B7 (zV zf 28 [E4,Y5,D7,D8,D9,Y5,E0,E1,E2,E3,E4,E5,E6]))) w) w)∧(alc Q 54 (fun X6=>aY S fun _=>call Q 80 #[D9,E3] fun E4=>aG fun S w=>hld S (ext Q E4 0) fun E5=>hld S (ext Q E4 1) fun E6=>sto Q 54 X6 E5 (fun _=>aY S fun _=>ae Q (cd f43 (b1 58)) (ae Q (cd f43 [1,1,1]) (rk f43 K) (fun _ _ _=>False) (rk f43 K)) (fun i=>@Bool.rec (fun _=>KE) ((fun _ _ _=>False) i) (ae Q (cd f43 [1,1,1]) (rk f43 K) (fun _ _ _=>False) (rk f43 K)) (Nat.beq i 2)) (rk f43 K) (ay Y5 Z5 K6 W6 X6 E6 Z6 u7 B7 (zV zf 28 [E4,Y5,D7,D8,D9,Y5,E0,E1,E2,E3,E4,E5,E6]))) w) w)) w)∧(alc Q 54 (fun X6=>aY S fun S=>call Q 79 #[E2] fun E3=>aY S fun _=>call Q 80 #[D9,E3] fun E4=>aG fun S w=>hld S (ext Q E4 0) fun E5=>hld S (ext Q E4 1) fun E6=>sto Q 54 X6 E5 (fun _=>aY S fun _=>ae Q (cd f43 (b1 58)) (ae Q (cd f43 [1,1,1]) (rk f43 K) (fun _ _ _=>False) (rk f43 K)) (fun i=>@Bool.rec (fun _=>KE) ((fun _ _ _=>False) i) (ae Q (cd f43 [1,1,1]) (rk f43 K) (fun _ _ _=>False) (rk f43 K)) (Nat.beq i 2)) (rk f43 K) (ay Y5 Z5 K6 W6 X6 E6 Z6 u7 B7 (zV zf 28 [E4,Y5,D7,D8,D9,Y5,E0,E1,E2,E3,E4,E5,E6]))) w) w)) w.drew):ae Q (cd f43 [1,1]) (rk f43 K) xf (rk f43 K) (ay Y5 Z5 K6 W6 X6 Y6 Z6 u7 B7 zf) w:=Eq.mp (by kernel_rfl) h
theorem vY (h:aG (fun S w=>hN S Y5 fun D7=>hF S 91 D7 3 fun D8=>hL S 84 D8 fun D9=>hN S Y5 fun E0=>hF S 91 E0 1 fun E1=>hL S 79 E1 fun E2=>(call Q 79 #[E2] (fun E3=>aY S fun S w=>(call Q 80 #[D9,E3] (fun E4=>aG fun S w=>hld S (ext Q E4 0) fun E5=>hld S (ext Q E4 1) fun E6=>alc Q 54 (fun X6=>aY S fun S=>sto Q 54 X6 E5 fun _=>aY S fun _=>fR K (ay Y5 Z5 K6 W6 X6 E6 Z6 u7 B7 (zV zf 28 [E4,Y5,D7,D8,D9,Y5,E0,E1,E2,E3,E4,E5,E6]))) w) w)∧(alc Q 54 (fun X6=>aY S fun _=>call Q 80 #[D9,E3] fun E4=>aG fun S w=>hld S (ext Q E4 0) fun E5=>hld S (ext Q E4 1) fun E6=>sto Q 54 X6 E5 (fun _=>aY S fun _=>fR K (ay Y5 Z5 K6 W6 X6 E6 Z6 u7 B7 (zV zf 28 [E4,Y5,D7,D8,D9,Y5,E0,E1,E2,E3,E4,E5,E6]))) w) w)) w)∧(alc Q 54 (fun X6=>aY S fun S=>call Q 79 #[E2] fun E3=>aY S fun _=>call Q 80 #[D9,E3] fun E4=>aG fun S w=>hld S (ext Q E4 0) fun E5=>hld S (ext Q E4 1) fun E6=>sto Q 54 X6 E5 (fun _=>aY S fun _=>fR K (ay Y5 Z5 K6 W6 X6 E6 Z6 u7 B7 (zV zf 28 [E4,Y5,D7,D8,D9,Y5,E0,E1,E2,E3,E4,E5,E6]))) w) w)) w.drew):eG K (ay Y5 Z5 K6 W6 X6 Y6 Z6 u7 B7 zf) w:=by
 delta eG
 exact Eq.mp (congrArg (fun c=>ae Q c (rk f43 K) xf (rk f43 K) (ay Y5 Z5 K6 W6 X6 Y6 Z6 u7 B7 zf) w) (by kernel_rfl:(cd f43 [1,1])=(cd f43 [1,1]))) (vX h)
theorem vV (B1:KE)(j:KE)(u:Code)(h:cond Y6 (ae Q u (ae Q (cd f43 (b1 467)) B1 (fun i=>@Bool.rec (fun _=>KE) ((fun _ _ _=>False) i) j (Nat.beq i 2)) (rk f43 K)) (fun i=>@Bool.rec (fun _=>KE) ((fun _ _ _=>False) i) j (Nat.beq i 2)) (rk f43 K) (ay Y5 Z5 K6 W6 X6 Y6 Z6 u7 B7 (zV dd 41 [Y6])) w) (j (ay Y5 Z5 K6 W6 X6 Y6 Z6 u7 B7 (zV dd 41 [Y6])) w)):ae Q (rep [1,0] u (cd f43 (b1 116))) B1 (xx xf j 2) (rk f43 K) (ay Y5 Z5 K6 W6 X6 Y6 Z6 u7 B7 dd) w:=Eq.mp (by kernel_rfl) h
theorem vW (Inv:vI 3)(μ:vM 3)(M:Inv K6 X6 Y6 w)(U:∀(j J C:Value) (dd:Nat→Value) (w:World) (m:Nat),Inv j J C w→m=μ j J C w →
  cond C (lr K (fun u I=>(Inv (gd u 4) (gd u 7) (gd u 8) I)∧((μ (gd u 4) (gd u 7) (gd u 8) I)<m)) (ay Y5 Z5 j W6 J C Z6 u7 B7 (zV dd 41 [C])) w) (bF K (ay Y5 Z5 j W6 J C Z6 u7 B7 (zV dd 41 [C])) w)):fR K (ay Y5 Z5 K6 W6 X6 Y6 Z6 u7 B7 zf) w:=by
 refine aL (cd f43 (b1 116)) (zr [(4,1),(7,2),(41,23)]) (by kernel_rfl) (vP [4,7,8] Inv) (vQ [4,7,8] μ) M ?_;intro e' w' hI;have h:=U _ _ _ (zM zf (fun i=>gd e' i) (zr [(4,1),(7,2),(41,23)])) w' _ hI rfl
 have O:ae Q (rep [1,0] (cd f43 (b1 466)) (cd f43 (b1 116))) (fun u I=>Inv (gd u 4) (gd u 7) (gd u 8) I∧μ (gd u 4) (gd u 7) (gd u 8) I<μ (gd e' 4) (gd e' 7) (gd e' 8) w') (xx xf (bF K) 2) (rk f43 K) (ay Y5 Z5 (gd e' 4) W6 (gd e' 7) (gd e' 8) Z6 u7 B7 (zM zf (fun i=>gd e' i) (zr [(4,1),(7,2),(41,23)]))) w':=vV (fun u I=>Inv (gd u 4) (gd u 7) (gd u 8) I∧μ (gd u 4) (gd u 7) (gd u 8) I<μ (gd e' 4) (gd e' 7) (gd e' 8) w') (bF K) (cd f43 (b1 466)) (Eq.mp (by kernel_rfl) h)
 exact Eq.mp (by kernel_rfl) O
theorem vR (B1:KE)(j:KE)(u:KE)(h:ld Q 54 X6 (fun G0=>call Q 81 #[Y5,G0] fun G1=>bin Q .eql 27 false true G1 (ci 0) fun G2 w=>cond G2 (ld Q 54 X6 (fun G3=>bT Q 36 1 #[(0,G3)] fun G4=>blt Q .append #[36,36] 36 #[false,false] #[K6,G4] fun G5=>j (ay Y5 Z5 G5 W6 X6 Y6 Z6 u7 B7 (zV zf 55 [Y5,G0,G1,G2,K6,G3,G4,G5]))) w) (j (ay Y5 Z5 K6 W6 X6 Y6 Z6 u7 B7 (zV zf 55 [Y5,G0,G1,G2])) w)) w):ae Q (cd f43 (b1 466)) j (xx xf u 2) (rk f43 K) (ay Y5 Z5 K6 W6 X6 Y6 Z6 u7 B7 zf) w:=Eq.mp (by kernel_rfl) h
theorem vS {B1:KE}(h:ld Q 54 X6 (fun G0=>call Q 81 #[Y5,G0] fun G1=>bin Q .eql 27 false true G1 (ci 0) fun G2 w=>cond G2 (ld Q 54 X6 (fun G3=>bT Q 36 1 #[(0,G3)] fun G4=>blt Q .append #[36,36] 36 #[false,false] #[K6,G4] fun G5=>eQ K B1 (ay Y5 Z5 G5 W6 X6 Y6 Z6 u7 B7 (zV zf 55 [Y5,G0,G1,G2,K6,G3,G4,G5]))) w) (eQ K B1 (ay Y5 Z5 K6 W6 X6 Y6 Z6 u7 B7 (zV zf 55 [Y5,G0,G1,G2])) w)) w):lr K B1 (ay Y5 Z5 K6 W6 X6 Y6 Z6 u7 B7 zf) w:=by
 delta lr
 exact Eq.mp (congrArg (fun c=>ae Q c (eQ K B1) (xx xf (bF K) 2) (rk f43 K) (ay Y5 Z5 K6 W6 X6 Y6 Z6 u7 B7 zf) w) (by kernel_rfl:(cd f43 (b1 466))=(cd f43 (b1 466)))) (vR B1 (eQ K B1) (bF K) h)
theorem vZ (h:K K6 w):ae Q (cd f43 [1,1,1]) (rk f43 K) xf (rk f43 K) (ay Y5 Z5 K6 W6 X6 Y6 Z6 u7 B7 zf) w:=Eq.mp (by kernel_rfl) h
theorem wc (h:K K6 w):bF K (ay Y5 Z5 K6 W6 X6 Y6 Z6 u7 B7 zf) w:=by
 delta bF
 exact Eq.mp (congrArg (fun c=>ae Q c (rk f43 K) xf (rk f43 K) (ay Y5 Z5 K6 W6 X6 Y6 Z6 u7 B7 zf) w) (by kernel_rfl:(cd f43 [1,1,1])=(cd f43 [1,1,1]))) (vZ h)
theorem wd (B1:KE)(j:KE)(h:ld Q 54 X6 (fun G6=>alc Q 54 fun X6=>sto Q 54 X6 G6 fun _ w=>aG (fun S w=>hN S Y5 fun F0=>hF S 91 F0 3 fun F1=>hL S 84 F1 fun F2=>hN S Y5 fun F3=>hF S 91 F3 1 fun F4=>hL S 79 F4 fun F5=>call Q 79 #[F5] (fun F6=>aY S fun _=>call Q 80 #[F2,F6] fun F7=>aG fun S w=>hld S (ext Q F7 0) fun F8=>hld S (ext Q F7 1) fun F9=>sto Q 54 X6 F8 (fun _=>aY S fun _=>B1 (ay Y5 Z5 K6 W6 X6 F9 Z6 u7 B7 (zV (zV zf 42 [F7,Y5,F0,F1,F2,Y5,F3,F4,F5,F6,F7,F8,F9]) 63 [G6]))) w) w) w.drew) w):ae Q (cd f43 (b1 467)) B1 (xx xf j 2) (rk f43 K) (ay Y5 Z5 K6 W6 X6 Y6 Z6 u7 B7 zf) w:=Eq.mp (by kernel_rfl) h
theorem we {B1:KE}(h:ld Q 54 X6 (fun G6=>alc Q 54 fun X6=>sto Q 54 X6 G6 fun _ w=>aG (fun S w=>hN S Y5 fun F0=>hF S 91 F0 3 fun F1=>hL S 84 F1 fun F2=>hN S Y5 fun F3=>hF S 91 F3 1 fun F4=>hL S 79 F4 fun F5=>call Q 79 #[F5] (fun F6=>aY S fun _=>call Q 80 #[F2,F6] fun F7=>aG fun S w=>hld S (ext Q F7 0) fun F8=>hld S (ext Q F7 1) fun F9=>sto Q 54 X6 F8 (fun _=>aY S fun _=>B1 (ay Y5 Z5 K6 W6 X6 F9 Z6 u7 B7 (zV (zV zf 42 [F7,Y5,F0,F1,F2,Y5,F3,F4,F5,F6,F7,F8,F9]) 63 [G6]))) w) w) w.drew) w):eQ K B1 (ay Y5 Z5 K6 W6 X6 Y6 Z6 u7 B7 zf) w:=by
 delta eQ
 exact Eq.mp (congrArg (fun c=>ae Q c B1 (xx xf (bF K) 2) (rk f43 K) (ay Y5 Z5 K6 W6 X6 Y6 Z6 u7 B7 zf) w) (by kernel_rfl:(cd f43 (b1 467))=(cd f43 (b1 467)))) (wd B1 (bF K) h)
attribute [irreducible] eG nU bF fR eQ lr
def iF (r0 m4 e7 A9:Value)(zf:Nat→Value):List Value:=r0::zT zf 1 3 (m4::zf 5::zf 6::e7::zT zf 8 4 (A9::zT zf 13 31 ([])))
def eC (K:KV):KE:=ae Q (cd f12 [1,1]) (rk f12 K) xf (rk f12 K)
def gy (K:KV):KE:=ae Q (cd f12 (b1 103)) (eC K) (xx xf (eC K) 0) (rk f12 K)
def kW (K:KV):KE:=ae Q (cd f12 (b1 205)) (gy K) (xx xf (eC K) 0) (rk f12 K)
theorem Bk {K:KV}{Y5 m1 now2:Value}{w:World}(h:box Q 38 m1 (fun Z5=>bin Q .eql 26 false true Y5 (Value.pointer none) fun A8 w=>cond A8 (K (Value.tuple #[cN,ci 2]) w) (ld Q 38 Z5 (fun C0=>call Q 11 #[C0] fun C1=>un Q .not C1 fun C2=>kW K (iF Y5 Z5 (ci 0) C2 (zV (zV (zV (zV zu 1 [m1,now2]) 6 [cN]) 9 [A8,Y5,A8]) 13 [C0,C1,C2]))) w)) w):Gives Q 12 #[Y5,m1,now2] w K:=by
 refine aB func12 (by kernel_rfl) ?_
 refine Eq.mp (congrArg (fun c=>ae Q c _ _ _ _ w) (by kernel_rfl:(rep (b1 205) (cd f12 (b1 205)) (cd f12 []))=(cd f12 []))) ?_
 revert h
 delta kW eC gy
 generalize (cd f12 (b1 205))=xc0
 exact mpF
theorem yZ (h:cond W6 (gy K (iF Y5 Z5 K6 W6 zf) w) (sF 38 Z5 2 (fun C3=>sL 3 C3 fun C4=>sN Y5 fun C6=>sF 91 C6 0 fun C7=>sL 3 C7 fun C8=>sti (bin Q .neq 3 false false C4 C8) fun C9=>gy K (iF Y5 Z5 K6 C9 (zV zf 16 [C3,C4,Y5,C6,C7,C8,C9]))) w.drew)):kW K (iF Y5 Z5 K6 W6 zf) w:=by
 delta kW;revert h;generalize (gy K)=qc0;generalize (eC K)=qc1;exact mpF
theorem zc (h:cond W6 (K (Value.tuple #[cN,ci 1]) w) (eC K (iF Y5 Z5 K6 W6 zf) w)):gy K (iF Y5 Z5 K6 W6 zf) w:=by
 delta gy;revert h;generalize (eC K)=qc0;exact mpF
theorem zb (h:aG (fun S w=>hN S Y5 fun D1=>hF S 91 D1 4 fun D2=>hL S 86 D2 fun D3=>hF S 38 Z5 1 fun D4=>hL S 3 D4 fun D5=>hF S 38 Z5 3 fun D6=>hL S 35 D6 fun D7=>call Q 42 #[D3,D5,D7] (fun _=>dE Q 114 none fun D9=>dO Q 114 D9 (cb 1) (Value.func (Fn.func 43) #[Y5] #[]) fun _=>dO Q 114 D9 (cb 2) (Value.func (Fn.func 44) #[Y5] #[]) fun _=>aT Q 38 Z5 0 fun E5=>ld Q 5 E5 fun E6=>lkp Q 114 D9 E6 false fun E7=>ld Q 38 Z5 fun E8=>bY Q E7 #[E8] fun E9=>K (Value.tuple #[E9,ci 0])) w) w.drew):eC K (iF Y5 Z5 K6 W6 zf) w:=by
 delta eC;exact mpK h
attribute [irreducible] eC gy kW
theorem sY (h:alc Q 45 (fun A0=>bin Q .eql 26 false true Y5 (Value.pointer none) fun A1 w=>cond A1 (bld Q 45 #[] (fun A2=>sto Q 45 A0 A2 fun _=>bp Q [(some 45,A0)] K) w) (aU Y5 (fun A4=>aT Q 91 A4 1 fun A5=>ld Q 79 A5 fun A6=>call Q 25 #[A6] fun A7=>sto Q 45 A0 A7 fun _=>bp Q [(some 45,A0)] K) w)) w):Gives Q 8 #[Y5] w K:=by
 refine aB func8 (by kernel_rfl) ?_;exact mpK h
end
section
structure RS where
 l:PL
 A:List EV
 P:List (List Int)
def upS (S:Nat→RS)(i:Nat)(r:RS):Nat→RS:=fun j=>if j=i then r else S j
theorem gR {S:Nat→RS}{r:RS}:upS S i r i=r:=if_pos rfl
theorem jd {S:Nat→RS}{r:RS}(h:j≠i):upS S i r j=S j:=if_neg h
structure MW (k:Nat) (E:List EV) (S:Nat→RS):Prop where
 hist:HistL k E
 noj:noJ E
 few:∀e∈E,e.q<k
 lk:∀i,i<k→LK k E (S i).l
 own:∀i,i<k→∀e∈E,e.q=i→e.s≤(S i).l.V.getD i 0
 app:∀i,i<k→AppP E (S i).A (S i).l
 kn:∀i j,i<k→j<k→∀v,(S i).P[j]? = some v→∀q,v.getD q 0≤(S j).l.V.getD q 0
def leS (k:Nat)(S S':Nat→RS):Prop:=∀i,i<k→∀q,(S i).l.V.getD q 0≤(S' i).l.V.getD q 0
section
variable {k i:Nat}{E:List EV}{S:Nat→RS}{l':PL}{A':List EV}{P':List (List Int)}{e:EV}
theorem MW.pi (h:MW k E S)(hi:i<k):PI (S i).l:=(h.lk i hi).pi h.hist
theorem PI.v0 {l:PL}(h:PI l)(q:Nat):0≤l.V.getD q 0:=by
 by_cases j:q<6
 ·exact(h.vb q j).1
 ·rw[List.getD_eq_getElem?_getD,List.getElem?_eq_none (by rw[h.v6];omega)];exact Int.le_refl _
theorem LK.low {l:PL}(h:LK n E l)(J:HistL n E){D:Nat→Int}(u:∀q,0≤D q)(C:∀f∈E,f.s≤D f.q)(q:Nat):l.V.getD q 0≤D q:=by
 have j:=h.st;unfold stL stD at j;rw[j];exact MR (rh n) (J.oks yX (rh n) h.cl) (fun k=>by
  have:=congrFun (EP n) k
  unfold kV at this;rw[this];exact u k) (fun f I=>C f (List.mem_filter.1 I).1) q
theorem MW.low (h:MW k E S){l:PL}(u:LK k E l)(hi:i<k):l.V.getD i 0≤(S i).l.V.getD i 0:=by
 have:=u.low h.hist (D:=fun q=>if q<k then (S q).l.V.getD q 0 else 0) (fun q=>by
  show 0≤if q<k then _ else _
  split
  ·rename_i C;exact(h.pi C).v0 q
  ·exact Int.le_refl _) (fun f j=>by
  show f.s≤if f.q<k then _ else _
  rw[if_pos (h.few f j)];exact h.own _ (h.few f j) f j rfl) i
 rwa[if_pos hi]at this
theorem MW.dep (h:MW k E S){f:EV}(j:f∈E)(hi:i<k):Jt f i≤(S i).l.V.getD i 0:=by
 have u:=h.few f j;exact Int.le_trans ((h.lk _ u).cl f j (h.own _ u f j rfl) i) (h.low (h.lk _ u) hi)
theorem MW.learn (h:MW k E S)(hi:i<k)(hl:LK k E l')(J:∀q,(S i).l.V.getD q 0≤l'.V.getD q 0)(ha:AppP E A' l')(U:∀j,j<k→∀v,P'[j]? = some v→∀q,v.getD q 0≤(upS S i ⟨l',A',P'⟩ j).l.V.getD q 0):MW k E (upS S i ⟨l',A',P'⟩)∧leS k S (upS S i ⟨l',A',P'⟩):=by
 have I:leS k S (upS S i ⟨l',A',P'⟩):=fun j _ q=>by
  by_cases C:j=i
  ·subst C;rw[gR];exact J q
  ·rw[jd C];exact Int.le_refl _
 refine⟨⟨h.hist,h.noj,h.few,fun j C=>?_,fun j C e he hq=>Int.le_trans (h.own j C e he hq) (I j C j),fun j C=>?_,fun j m C O v M q=>?_⟩,I⟩
 ·by_cases u:j=i
  ·subst u;rw[gR];exact hl
  ·rw[jd u];exact h.lk j C
 ·by_cases u:j=i
  ·subst u;rw[gR];exact ha
  ·rw[jd u];exact h.app j C
 ·by_cases u:j=i
  ·subst u;rw[gR]at M;exact U m O v M q
  ·rw[jd u]at M;exact Int.le_trans (h.kn j m C O v M q) (I m O q)
theorem MW.make (h:MW k E S)(hi:i<k)(ho:OK e (S i).l)(hq:e.q=i)(hd:∀q,q<6→e.V.getD q 0=(S i).l.V.getD q 0)(hk:e.k≠6∧e.k≠7):MW k (E++[e]) (upS S i ⟨eff e (S i).l,(S i).A++[e],(S i).P⟩)∧leS k S (upS S i ⟨eff e (S i).l,(S i).A++[e],(S i).P⟩)∧∀f∈E,Jt f e.q<e.s:=by
 have hr:=(nB ho.rdy).1;have hp:=h.pi hi;have a:=after hp ho;have af:∀j,j<k→(S j).l.V.getD e.q 0<e.s:=fun j C=>by
  have:=h.low (h.lk j C) hi
  rw[hq]at hr ⊢;omega
 have ad:∀f∈E,Jt f e.q<e.s:=fun f u=>by
  have:=h.dep u hi
  rw[hq]at hr ⊢;omega
 have hh:=HistL.more h.hist (h.lk i hi) ho hd (fun f u J=>by rw[hq]at J ⊢; exact h.own i hi f u J);have U:∀j,j<k→LK k (E++[e]) (S j).l:=fun j C=>(h.lk j C).grow hh (af j C);have aa:∀j,j<k→AppP (E++[e]) (S j).A (S j).l:=fun j C=>(h.app j C).grow (fun f u=>ad f (((h.app j C).mem f).1 u).1) (af j C);have hv:∀q,(S i).l.V.getD q 0≤(eff e (S i).l).V.getD q 0:=fun q=>by
  by_cases hk:q=e.q
  ·subst hk;rw[a.Ve];omega
  ·rw[a.V _ hk];exact Int.le_refl _
 have O:leS k S (upS S i ⟨eff e (S i).l,(S i).A++[e],(S i).P⟩):=fun j _ q=>by
  by_cases C:j=i
  ·subst C;rw[gR];exact hv q
  ·rw[jd C];exact Int.le_refl _
 refine⟨⟨hh,fun f u=>?_,fun f u=>?_,fun j C=>?_,fun j C f u J=>?_,fun j C=>?_,fun j m C hm v M q=>?_⟩,O,ad⟩
 ·rcases List.mem_append.1 u with u|u
  ·exact h.noj f u
  ·rw[List.mem_singleton.1 u];exact hk
 ·rcases List.mem_append.1 u with u|u
  ·exact h.few f u
  ·rw[List.mem_singleton.1 u,hq];exact hi
 ·by_cases I:j=i
  ·subst I;rw[gR];exact((U j C).next hh (by simp) ho.rdy).2
  ·rw[jd I];exact U j C
 ·rcases List.mem_append.1 u with u|u
  ·exact Int.le_trans (h.own j C f u J) (O j C j)
  ·rw[List.mem_singleton.1 u]at J ⊢;rw[hq]at J;subst J;rw[gR];show _≤(eff e (S i).l).V.getD i 0;rw[←hq,a.Ve,hq]at *;omega
 ·by_cases I:j=i
  ·subst I;rw[gR];exact(aa j C).step hh (U j C) (by simp) ho.rdy
  ·rw[jd I];exact aa j C
 ·have:(S j).P[m]? = some v:=by
   by_cases I:j=i
   ·subst I;rw[gR]at M;exact M
   ·rw[jd I]at M;exact M
  exact Int.le_trans (h.kn j m C hm v this q) (O m hm q)
end
/-! ## Messages -/
structure MG where
 k:Int
 f:Nat
 t:Nat
 V:List Int
 n:Int
 a:Int
 L:List EV
structure MgOK (k:Nat) (E:List EV) (S:Nat→RS) (m:MG):Prop where
 ft:m.f<k∧m.t<k∧m.f≠m.t
 v6:m.V.length=6
 le:∀q,m.V.getD q 0≤(S m.f).l.V.getD q 0
 is:(m.k=1∧m.n=0∧m.a=0∧m.L.length≤16∧∃P,ChE E P m.L∧∀q,P.getD q 0≤(S m.t).l.V.getD q 0)∨(m.k=2∧m.L=[]∧m.n≠0∧1≤m.a∧m.a≤1125899906842624)
section
variable {k:Nat}{E:List EV}{S S':Nat→RS}{m:MG}{e:EV}
theorem MgOK.mono (h:MgOK k E S m)(j:leS k S S'):MgOK k E S' m :=
 ⟨h.ft,h.v6,fun q=>Int.le_trans (h.le q) (j _ h.ft.1 q),h.is.imp (fun⟨a,b,c,d,P,u,C⟩=>⟨a,b,c,d,P,u,fun q=>Int.le_trans (C q) (j _ h.ft.2.1 q)⟩) id⟩
theorem MgOK.grow (h:MgOK k E S m)(C:∀f∈E,Jt f e.q<e.s):MgOK k (E++[e]) S m :=
 ⟨h.ft,h.v6,h.le,h.is.imp (fun⟨a,b,c,d,P,j,u⟩=>⟨a,b,c,d,P,j.grow C,u⟩) id⟩
end
/-! ## Round by round -/
structure RdI (k:Nat) (E:List EV) (S:Nat→RS) (a b:Nat) (D:Nat→Nat→Prop):Prop where
 ra:∀j,j<k→min E.length a≤cnE E (S j).l.V
 rb:∀o j,o<k→j<k→o≠j→∀v,(S o).P[j]? = some v→min E.length b≤cnE E v
 rc:∀o j,o<k→j<k→o≠j→D o j→min E.length (b+1)≤cnE E (S j).l.V∨∀f∈E,f.q=o→f.s≤(S j).l.V.getD o 0
 rd:∀o j,o<k→j<k→o≠j→D o j→∀v,(S j).P[o]? = some v→min E.length a≤cnE E v
section
variable {k:Nat}{E:List EV}{S:Nat→RS}{a b:Nat}{D:Nat→Nat→Prop}
theorem RdI.zero :RdI k E S 0 0 fun _ _=>False where
 ra:=fun _ _=>by rw[Nat.min_zero];exact Nat.zero_le _
 rb:=fun _ _ _ _ _ _ _=>by rw[Nat.min_zero];exact Nat.zero_le _
 rc:=fun _ _ _ _ _ h=>h.elim
 rd:=fun _ _ _ _ _ h=>h.elim
theorem RdI.next (h:RdI k E S a b D)(hw:MW k E S)(hD:∀o j,o<k→j<k→o≠j→D o j):RdI k E S (b+1) a fun _ _=>False where
 ra:=fun j I=>by
  by_cases C:∀f∈E,f.s≤(S j).l.V.getD f.q 0
  ·refine Nat.le_trans (Nat.min_le_left _ _) (Nat.le_of_eq ?_);exact(List.countP_eq_length.2 fun f J=>decide_eq_true (C f J)).symm
  ·refine Classical.byContradiction fun U=>C fun f J=>?_;have hq:=hw.few f J;by_cases u:f.q=j
   ·have:=hw.own j I f J u;rw[u];exact this
   ·rcases h.rc f.q j hq I u (hD _ _ hq I u)with O|O
    ·exact absurd O U
    ·exact O f J rfl
 rb:=fun o j ho I M v hv=>h.rd j o I ho (fun e=>M e.symm) (hD _ _ I ho fun e=>M e.symm) v hv
 rc:=fun _ _ _ _ _ h=>h.elim
 rd:=fun _ _ _ _ _ h=>h.elim
theorem RdI.all (h:RdI k E S a b D)(C:E.length≤a)(u:j<k):∀f∈E,f.s≤(S j).l.V.getD f.q 0 :=
 ES (by have:=h.ra j u;omega)
theorem LK.eqV {l m:PL}(h:LK n E l)(k:LK n E m)(j:HistL n E)(U:∀f∈E,f.s≤l.V.getD f.q 0)(h2:∀f∈E,f.s≤m.V.getD f.q 0):l=m:=by
 have u:=h.pi j;have C:=k.pi j;refine h.same k (List.ext_getElem? fun q=>?_);by_cases J:q<6
 ·have a1:=h.low j (D:=fun q=>m.V.getD q 0) C.v0 h2 q;have O:=k.low j (D:=fun q=>l.V.getD q 0) u.v0 U q;have I:l.V.getD q 0=m.V.getD q 0:=Int.le_antisymm a1 O;have l1:q<l.V.length:=by rw[u.v6];exact J
  have M:q<m.V.length:=by rw[C.v6];exact J
  rw[List.getElem?_eq_getElem l1,List.getElem?_eq_getElem M];rw[List.getD_eq_getElem?_getD,List.getD_eq_getElem?_getD,List.getElem?_eq_getElem l1,List.getElem?_eq_getElem M]at I;exact congrArg some I
 ·rw[List.getElem?_eq_none (by rw[u.v6];omega),List.getElem?_eq_none (by rw[C.v6];omega)]
def vn (s:RS)(v:List Int):List EV:=(s.A.filter fun e=>decide (v.getD e.q 0<e.s)).take 16
theorem RdI.tell {l':PL}{A':List EV}{P':List (List Int)}(h:RdI k E S a b D)(hw:MW k E S)(ho:o<k)(hj:j<k)(al:o≠j)(hv:(S o).P[j]? = some v)(hm:∀q,(S j).l.V.getD q 0≤l'.V.getD q 0)(hL:∀f∈vn (S o) v,f.s≤l'.V.getD f.q 0)(hP:∀(m:Nat) (x:List Int),P'[m]? = some x→∃y:List Int,(S j).P[m]? = some y∧(∀q,y.getD q 0≤x.getD q 0)∧(m=o→∀q,(S o).l.V.getD q 0≤x.getD q 0)):RdI k E (upS S j ⟨l',A',P'⟩) a b fun x y=>D x y∨x=o∧y=j:=by
 have M:∀i q,(S i).l.V.getD q 0≤(upS S j ⟨l',A',P'⟩ i).l.V.getD q 0:=fun i q=>by
  by_cases hi:i=j
  ·subst hi;rw[gR];exact hm q
  ·rw[jd hi];exact Int.le_refl _
 have ad:∀(i m:Nat) (x:List Int),(upS S j ⟨l',A',P'⟩ i).P[m]? = some x→∃y:List Int,(S i).P[m]? = some y∧∀q,y.getD q 0≤x.getD q 0:=fun i m x C=>by
  by_cases hi:i=j
  ·subst hi;rw[gR]at C;obtain⟨y,J,h2,_⟩:=hP m x C;exact⟨y,J,h2⟩
  ·rw[jd hi]at C;exact⟨x,C,fun _=>Int.le_refl _⟩
 have am:=h.rb o j ho hj al v hv;refine⟨fun i hi=>Nat.le_trans (h.ra i hi) (mG (M i)),fun x y C hy I u hu=>?_,fun x y C hy I O=>?_,fun x y C hy I O u hu=>?_⟩
 ·obtain⟨z,J,h2⟩:=ad x y u hu;exact Nat.le_trans (h.rb x y C hy I z J) (mG h2)
 ·rcases O with O|⟨rfl,rfl⟩
  ·rcases h.rc x y C hy I O with J|J
   ·exact .inl (Nat.le_trans J (mG (M y)))
   ·exact .inr fun f U hq=>Int.le_trans (J f U hq) (M y x)
  ·rw[gR];have ag:∀q,v.getD q 0≤l'.V.getD q 0:=fun q=>Int.le_trans (hw.kn x y C hy v hv q) (hm q);cases hT:vn (S x) v with
   | nil =>
    refine .inr fun f U hq=>?_;have hA:=((hw.app x C).mem f).2 ⟨U,by rw[hq];exact hw.own x C f U hq⟩;have aa : ¬v.getD f.q 0<f.s:=fun af=>by
     have hm:f∈(S x).A.filter fun e=>decide (v.getD e.q 0<e.s):=List.mem_filter.2 ⟨hA,decide_eq_true af⟩;have hn:(S x).A.filter (fun e=>decide (v.getD e.q 0<e.s))=[]:=by
      unfold vn at hT;rcases List.take_eq_nil_iff.1 hT with h|h
      ·omega
      ·exact h
     rw[hn]at hm;cases hm
    have:=ag f.q
    rw[←hq];show _≤l'.V.getD f.q 0;omega
   | cons e T =>
    refine .inl (Classical.byContradiction fun aa=>?_);have he:e∈vn (S x) v:=by rw[hT];simp
    have hk:=hL e he;have U:=List.mem_filter.1 (List.mem_of_mem_take he);have hE:=((hw.app x C).mem e).1 U.1;have af:=of_decide_eq_true U.2;have aa : ¬min E.length (b+1)≤cnE E l'.V:=aa;have M:=Du (E:=E) (V:=l'.V)
    have:=AZ ag (E:=E) (by omega) e hE.1 hk
    omega
 ·rcases O with O|⟨rfl,rfl⟩
  ·obtain⟨z,J,h2⟩:=ad y x u hu;exact Nat.le_trans (h.rd x y C hy I O z J) (mG h2)
  ·rw[gR]at hu;obtain⟨z,J,h2,h3⟩:=hP _ _ hu;exact Nat.le_trans (h.ra x C) (mG (h3 rfl))
end
end
section
open Go.RowKit
theorem mD {y:Int}:tT x y<0↔x<y:=by
 unfold tT;split
 ·omega
 ·split<;>omega
theorem swoZ (f:α→Int):Go.Sort.SWO (Go.Proofs.ltOf fun x y:α=>tT (f x) (f y)) where
 irrefl x:=decide_eq_false (by rw[mD];omega)
 trans x y z h k:=decide_eq_true (by
  have h:=mD.1 (of_decide_eq_true h);have k:=mD.1 (of_decide_eq_true k);rw[mD];omega)
 ntrans x y z h k:=decide_eq_false (by
  have h:=mt mD.2 (of_decide_eq_false h);have k:=mt mD.2 (of_decide_eq_false k);rw[mD];omega)
open Go.Sort in
theorem AS [Inhabited α]{k0:Nat}{enc:α→List Value}(I:0<k0)(h:∀x,(enc x).length=k0){G:List α}(j:G.length=n)(U:n*k0≤cs.length):putCells id 0 (flatK enc k0 G.toArray) cs.toArray=(G.flatMap enc++cs.drop (n*k0)).toArray:=by
 have hF:(flatK enc k0 G.toArray).size=n*k0:=by rw[size_flatK];simp[j]
 have u:(G.flatMap enc).length=n*k0:=by rw[Dd h,j]
 apply Array.ext_getElem?;intro k;unfold putCells;rw[Array.getElem?_mapIdx,hF,List.getElem?_toArray,List.getElem?_toArray];by_cases M:k<n*k0
 ·have C:k<cs.length:=by omega
  have hi:k / k0<G.length:=by rw[j];exact Nat.div_lt_of_lt_mul (by rw[Nat.mul_comm];exact M)
  rw[List.getElem?_eq_getElem C,Option.map_some,if_pos ⟨Nat.zero_le _,by omega⟩,List.getElem?_append_left (by omega),Nat.sub_zero,get_flatK _ _ _ _ (by simp[j];exact M)];have O:G[k / k0]? = some G[k / k0]:=List.getElem?_eq_getElem hi
  have:=FP h G (k / k0) _ (k%k0) O (Nat.mod_lt _ I)
  rw[show k / k0*k0+k%k0=k from Nat.div_add_mod' _ _]at this;rw[this];have J:k%k0<(enc G[k / k0]).length:=by rw[h];exact Nat.mod_lt _ I
  rw[List.getElem?_eq_getElem J];simp[hi,J]
 ·rw[List.getElem?_append_right (by omega),u,List.getElem?_drop,show n*k0+(k-n*k0)=k by omega];cases hz:cs[k]? with
  | none=>rfl
  | some v=>rw[Option.map_some,if_neg (by omega)]
open Go.Sort in
theorem xD [Inhabited α]{k0:Nat}{enc:α→List Value}{T:TypeId}(M:0<k0)(C:∀x,(enc x).length=k0){G G':List α}{os:Array Obj}(h:Opn w B T k0 n c g cs (G.flatMap enc))(J:G'.length=n):Opn (sortWorldK enc k0 w g 0 m G'.toArray os) B T k0 n c g (G'.flatMap enc++cs.drop (n*k0)) (G'.flatMap enc)∧w.grownBy (sortWorldK enc k0 w g 0 m G'.toArray os) (some g):=by
 have U:n*k0≤cs.length:=by rw[h.len];exact Nat.mul_le_mul_right _ h.nc
 have u:(G'.flatMap enc).length=n*k0:=by rw[Dd C,J]
 have hg:=h.blk.lt;have O:(sortWorldK enc k0 w g 0 m G'.toArray os).heap[g]? = some (.cells (G'.flatMap enc++cs.drop (n*k0)).toArray T):=by
  show (w.heap.modify g (onCells (putCells id 0 (flatK enc k0 G'.toArray)))++os)[g]? = _;have j:=h.blk;unfold Go.Proofs.YtkbhfjljieopoaaGreatDoor.blk at j;rw[Array.getElem?_append_left (by simpa using hg),Array.getElem?_modify,if_pos rfl,j,Option.map_some];unfold onCells;simp only;rw[AS M C J U]
 refine⟨⟨O,h.lo,h.nc,h.cm,?_,?_,?_⟩,⟨rfl,rfl,rfl,?_,fun k hk I=>?_⟩⟩
 ·rw[List.length_append,u,List.length_drop,h.len]
  have:=h.len
  omega
 ·rw[List.take_append_of_le_length (by omega),List.take_of_length_le (by omega)]
 ·exact u
 ·show w.heap.size≤(w.heap.modify g _++os).size;simp
 ·show (w.heap.modify g _++os)[k]? = _;rw[Array.getElem?_append_left (by simpa using hk),Array.getElem?_modify,if_neg (fun e=>I (by rw[e]))]
open Go.Sort in
theorem II [Inhabited α]{k0:Nat}{enc:α→List Value}{T:TypeId}(h0:0<k0)(u:∀x,(enc x).length=k0)(h1:∀x,∀v∈enc x,v.oneCell'=true){ρ:Go.Shelf.Ren}(L:SlLaysF0.n6 Tryz.prog ρ)(aE:∀w,(isAgg (ρ.t 24)).run Tryz.prog w=.ok true w)(zE:∀w,(Go.sizeOf (ρ.t 24)).run Tryz.prog w=.ok k0 w){O:α→α→Int}(hO:SWO (Go.Proofs.ltOf O))(ef:∀args w,(callFunc f args).run Tryz.prog w=.ok (.enter f args) w)(aa:EO Tryz.prog (ρ.f 6))(cl:∀x y W,Calls Tryz.prog f (#[.agg (enc x).toArray,.agg (enc y).toArray]++#[]) W fun e w' => e=.returned (.int .i64 (O x y))∧∃q os',w'=grow (W.drewN q) os'){G:List α}(hr:w.ownsRow B T k0 (.slice a n c) n (G.flatMap enc))(hl:G.length=n)(hn:n<4611686018427387904)(h:∀(w':World) (G':List α),G'.Perm G→G'.Pairwise (fun x y=>¬O y x<0)→w'.ownsRow B T k0 (.slice a n c) n (G'.flatMap enc)→w.grownBy w' (Value.slice a n c).ownBlock→K (.tuple #[]) w'):call Tryz.prog (ρ.f 6) #[.slice a n c,.func (.func f) #[] #[]] K w:=by
 refine aj aa ?_;unfold Gives;by_cases hz:n=0
 ·subst hz;have hG:G=[]:=List.eq_nil_of_length_eq_zero hl;subst hG;have U:=AnyF.slices_SortFunc_none L a c (.func (.func f) #[] #[]) w;refine Calls.mono U fun e w' he=>?_;obtain⟨rfl,rfl⟩:=he;exact⟨_,rfl,h _ [] (List.Perm.refl _) List.Pairwise.nil hr ⟨rfl,rfl,rfl,Nat.le_refl _,fun _ _ _=>rfl⟩⟩
 ·obtain⟨g,af,rfl,M⟩:=cq hr (by omega);subst hl;have hH:HoldsK enc k0 w g 0 G.toArray:=by
   intro j C;rw[size_flatK]at C;have C:j<G.length*k0:=by simpa using C
   have hi:j / k0<G.length:=Nat.div_lt_of_lt_mul (by rw[Nat.mul_comm];exact C);have hx:G[j / k0]? = some G[j / k0]:=List.getElem?_eq_getElem hi;have h5:j%k0<(enc G[j / k0]).length:=by rw[u];exact Nat.mod_lt _ h0
   refine⟨?_,?_⟩
   ·rw[M.blk.cell,Nat.zero_add,get_flatK _ _ _ _ (by simpa using C)]
    have:=M.cell u rfl hx (Nat.mod_lt j h0)
    rw[show j / k0*k0+j%k0=j from Nat.div_add_mod' _ _]at this;rw[this,List.getElem?_eq_getElem h5];simp[hi,h5]
   ·have J:=M.blk;unfold Go.Proofs.YtkbhfjljieopoaaGreatDoor.blk at J;unfold World.frozen?;rw[J];rfl
  have U:=AnyQ.slices_SortFunc L k0 aE zE enc u h1 O hO f #[] g 0 c G.toArray w ef (fun m os dk _ x y=>cl x y _) hH M.blk.lt (by simpa using hn);rw[List.size_toArray]at U;refine Calls.mono U fun e w' he=>?_;obtain⟨rfl,d',m,os,hp,hs,rfl⟩:=he;have hd:d'.toList.toArray=d':=rfl;have I:d'.toList.length=G.length:=by
   have:=hp.1
   simpa using this
  rw[←hd];obtain⟨o2,g2⟩:=xD (m:=m) (os:=os) h0 u M (G':=d'.toList) I;refine⟨_,rfl,h _ d'.toList ?_ ?_ o2.own g2⟩
  ·have h2:=hp.2.2;have e1:d'.extract 0 G.length=d':=by rw[←I];simp
   have e2:G.toArray.extract 0 G.length=G.toArray:=by simp
   rw[e1,e2]at h2;exact h2
  ·rw[List.pairwise_iff_getElem];intro i j hi C ad
   have:=hs i j (Nat.zero_le _) ad (by rw[←I];exact C)
   unfold Go.Proofs.ltOf at this;rw[decide_eq_false_iff_not]at this;have ei:d'[i]! = d'.toList[i]:=by simp[show i<d'.size by simpa using hi]
   have ej:d'[j]! = d'.toList[j]:=by simp[show j<d'.size by simpa using C]
   rw[ei,ej]at this;exact this
end
end Go.Proofs.YtkbhfjljieopoaaGreatDoor
namespace Go.Proofs
open Go.Shelf
def Tryz.sortWt_ren :Go.Shelf.Ren:=⟨fun|6=>100|15=>91|14=>143|28=>132|29=>133|20=>168|21=>169|22=>170|23=>171|24=>172|25=>173|26=>174|27=>175|46=>197|47=>161|48=>162|49=>198|50=>199|57=>207|n=>n,fun|22=>164|24=>160|25=>202|3=>3|39=>196|0=>0|53=>230|55=>31|4=>4|46=>223|45=>222|50=>227|5=>5|9=>9|66=>258|70=>262|76=>284|77=>285|n=>n,fun|n=>n⟩
theorem Tryz.sortWt :Go.Proofs.SlLaysF.n6 Tryz.prog Tryz.sortWt_ren:={
 mixed:=by kernel_rfl
 f6:=⟨Tryz.f100.name,by decide,func100.trans (congrArg some (by kernel_rfl))⟩
 f14:=⟨Tryz.f143.name,by decide,func143.trans (congrArg some (by kernel_rfl))⟩
 f15:=func91.trans (congrArg some (by kernel_rfl))
 f20:=⟨Tryz.f168.name,by decide,func168.trans (congrArg some (by kernel_rfl))⟩
 f21:=⟨Tryz.f169.name,by decide,func169.trans (congrArg some (by kernel_rfl))⟩
 f22:=⟨Tryz.f170.name,by decide,func170.trans (congrArg some (by kernel_rfl))⟩
 f23:=⟨Tryz.f171.name,by decide,func171.trans (congrArg some (by kernel_rfl))⟩
 f24:=⟨Tryz.f172.name,by decide,func172.trans (congrArg some (by kernel_rfl))⟩
 f25:=⟨Tryz.f173.name,by decide,func173.trans (congrArg some (by kernel_rfl))⟩
 f26:=⟨Tryz.f174.name,by decide,func174.trans (congrArg some (by kernel_rfl))⟩
 f27:=⟨Tryz.f175.name,by decide,func175.trans (congrArg some (by kernel_rfl))⟩
 f28:=func132.trans (congrArg some (by kernel_rfl))
 f29:=func133.trans (congrArg some (by kernel_rfl))
 f46:=⟨Tryz.f197.name,by decide,func197.trans (congrArg some (by kernel_rfl))⟩
 f47:=func161.trans (congrArg some (by kernel_rfl))
 f48:=func162.trans (congrArg some (by kernel_rfl))
 f49:=⟨Tryz.f198.name,by decide,func198.trans (congrArg some (by kernel_rfl))⟩
 f50:=⟨Tryz.f199.name,by decide,func199.trans (congrArg some (by kernel_rfl))⟩
 f57:=⟨Tryz.f207.name,by decide,func207.trans (congrArg some (by kernel_rfl))⟩
 t0:=underlying0
 a0:=Tryz.isAgg0
 z0:=Tryz.sizeOf0
 v0:=Tryz.zeroValue0
 t3:=underlying3
 a3:=Tryz.isAgg3
 z3:=Tryz.sizeOf3
 v3:=Tryz.zeroValue3
 t4:=underlying4
 a4:=Tryz.isAgg4
 z4:=Tryz.sizeOf4
 v4:=Tryz.zeroValue4
 t5:=underlying5
 a5:=Tryz.isAgg5
 z5:=Tryz.sizeOf5
 v5:=Tryz.zeroValue5
 t9:=underlying9
 a9:=Tryz.isAgg9
 z9:=Tryz.sizeOf9
 v9:=Tryz.zeroValue9
 t22:=underlying164
 a22:=Tryz.isAgg164
 z22:=Tryz.sizeOf164
 v22:=Tryz.zeroValue164
 a24:=Tryz.isAgg160
 z24:=Tryz.sizeOf160
 t25:=underlying202
 a25:=Tryz.isAgg202
 z25:=Tryz.sizeOf202
 v25:=Tryz.zeroValue202
 t39:=underlying196
 a39:=Tryz.isAgg196
 z39:=Tryz.sizeOf196
 v39:=Tryz.zeroValue196
 t45:=underlying222
 a45:=Tryz.isAgg222
 z45:=Tryz.sizeOf222
 v45:=Tryz.zeroValue222
 t46:=underlying223
 a46:=Tryz.isAgg223
 z46:=Tryz.sizeOf223
 v46:=Tryz.zeroValue223
 t50:=underlying227
 a50:=Tryz.isAgg227
 z50:=Tryz.sizeOf227
 v50:=Tryz.zeroValue227
 t53:=underlying230
 a53:=Tryz.isAgg230
 z53:=Tryz.sizeOf230
 v53:=Tryz.zeroValue230
 t55:=underlying31
 a55:=Tryz.isAgg31
 z55:=Tryz.sizeOf31
 v55:=Tryz.zeroValue31
 t66:=underlying258
 a66:=Tryz.isAgg258
 z66:=Tryz.sizeOf258
 v66:=Tryz.zeroValue258
 t70:=underlying262
 a70:=Tryz.isAgg262
 z70:=Tryz.sizeOf262
 v70:=Tryz.zeroValue262
 t76:=underlying284
 a76:=Tryz.isAgg284
 z76:=Tryz.sizeOf284
 v76:=Tryz.zeroValue284
 t77:=underlying285
 a77:=Tryz.isAgg285
 z77:=Tryz.sizeOf285
 v77:=Tryz.zeroValue285}
end Go.Proofs
namespace Go.Proofs.YtkbhfjljieopoaaGreatDoor
variable {w w':World}{K:KV}{zf dd:Nat→Value}{b n c o k B i g p j m s z f d D hi:Nat}{x r:Int}{B1:KE}{a:Option Addr}{cs:List Value}{E t e:TypeId}{v:List Int}{α:Type}{T:List (Int×Int)}{Y5 Z5 K6 W6 X6 Y6 Z6 u7 B7 K7 W7 X7 Y7 Z7 B8 K8 W8 X8 Y8 Z8 l9 n9 u9 B9 K9 W9 X9 Y9 Z9 ia ja ka qa ua xa ya:Value}
set_option maxRecDepth 100000
open Go.Proofs.Tryz
section
open Go.RowKit
def dU (d0 node1 x2 now3 w_9:Value)(zf:Nat→Value):List Value:=d0::node1::x2::now3::zT zf 4 5 (w_9::zT zf 10 52 ([]))
def fN (K:KV):KE:=ae Q (cd f28 [1,1,1,1]) (rk f28 K) xf (rk f28 K)
def jv (K:KV):KE:=ae Q (cd f28 (b1 61)) (fN K) xf (rk f28 K)
theorem xE (I:Code)(h:bin Q .eql 88 false true Y5 (Value.pointer none) (fun A7 w=>cond A7 (K (ci 2) w) (bin Q .lss 2 false true K6 (ci 1) (fun A9 w=>aI A9 false (fun J=>bin Q .gtr 2 false true K6 (ci 1125899906842624) (fun C2=>J [K6,C2]) w) (fun k=>k [uu,uu] w) fun j=>pick A9 cT (gd j 1) fun C3 w=>aI C3 false (fun M=>bin Q .eql 31 false true Z5 (cu 0) (fun C6=>M [Z5,C6]) w) (fun k=>k [uu,uu] w) fun u=>pick C3 cT (gd u 1) fun C7 w=>aI C7 false (fun O=>bin Q .gtr 31 false true W6 (cu 4611686018427387904) (fun C8=>O [W6,C8]) w) (fun k=>k [uu,uu] w) fun C=>pick C7 cT (gd C 1) fun C9 w=>cond C9 (K (ci 1) w) (aU Y5 (fun D0=>aT Q 148 D0 0 fun D1=>ld Q 146 D1 fun D2=>lkp Q 146 D2 Z5 false fun D3=>ae Q I (ae Q (cd f28 [1,1,1,1]) (rk f28 K) (fun _ _ _=>False) (rk f28 K)) (fun _ _ _=>False) (rk f28 K) (dU Y5 Z5 K6 W6 D3 (zV (zV zu 8 [ci 0]) 10 [Y5,A7,K6,A9,A9,gd j 0,gd j 1,C3,C3,gd u 0,gd u 1,C7,C7,gd C 0,gd C 1,C9,Y5,D0,D1,D2,Z5,D3]))) w)) w)) w):ae Q (rep (b1 61) I (cd f28 [])) (rk f28 K) xf (rk f28 K) (dU Y5 Z5 K6 W6 uu zu) w:=Eq.mp (by kernel_rfl) h
theorem xr {K:KV}{Y5 Z5 K6 W6:Value}{w:World}(h:bin Q .eql 88 false true Y5 (Value.pointer none) (fun A7 w=>cond A7 (K (ci 2) w) (bin Q .lss 2 false true K6 (ci 1) (fun A9 w=>aI A9 false (fun k15=>bin Q .gtr 2 false true K6 (ci 1125899906842624) (fun C2=>k15 [K6,C2]) w) (fun k=>k [uu,uu] w) fun us15=>pick A9 cT (gd us15 1) fun C3 w=>aI C3 false (fun k19=>bin Q .eql 31 false true Z5 (cu 0) (fun C6=>k19 [Z5,C6]) w) (fun k=>k [uu,uu] w) fun us19=>pick C3 cT (gd us19 1) fun C7 w=>aI C7 false (fun k23=>bin Q .gtr 31 false true W6 (cu 4611686018427387904) (fun C8=>k23 [W6,C8]) w) (fun k=>k [uu,uu] w) fun us23=>pick C7 cT (gd us23 1) fun C9 w=>cond C9 (K (ci 1) w) (aU Y5 (fun D0=>aT Q 148 D0 0 fun D1=>ld Q 146 D1 fun D2=>lkp Q 146 D2 Z5 false fun D3=>jv K (dU Y5 Z5 K6 W6 D3 (zV (zV zu 8 [ci 0]) 10 [Y5,A7,K6,A9,A9,gd us15 0,gd us15 1,C3,C3,gd us19 0,gd us19 1,C7,C7,gd us23 0,gd us23 1,C9,Y5,D0,D1,D2,Z5,D3]))) w)) w)) w):Gives Q 28 #[Y5,Z5,K6,W6] w K:=aB func28 (by kernel_rfl) (Eq.mp (congrArg (fun c=>ae Q c (rk f28 K) xf (rk f28 K) (dU Y5 Z5 K6 W6 uu zu) w) (by kernel_rfl:(rep (b1 61) (cd f28 (b1 61)) (cd f28 []))=(cd f28 []))) (xE (cd f28 (b1 61)) h))
theorem wC (j:KE)(h:bin Q .neq 160 false true X6 (Value.pointer none) (fun D4 w=>cond D4 (aU X6 (fun D5=>aT Q 162 D5 0 fun D6=>aT Q 102 D6 1 fun D7=>ld Q 2 D7 fun D8=>blt Q .max #[2,2] 2 #[false,false] #[D8,K6] fun D9=>aU X6 fun E0=>aT Q 162 E0 0 fun E1=>aT Q 102 E1 1 fun E2=>sto Q 2 E2 D9 fun _=>K (ci 0)) w) (j (dU Y5 Z5 K6 W6 X6 (zV zf 32 [X6,D4])) w)) w):ae Q (cd f28 (b1 61)) j xf (rk f28 K) (dU Y5 Z5 K6 W6 X6 zf) w:=Eq.mp (by kernel_rfl) h
theorem wJ (h:bin Q .neq 160 false true X6 (Value.pointer none) (fun D4 w=>cond D4 (aU X6 (fun D5=>aT Q 162 D5 0 fun D6=>aT Q 102 D6 1 fun D7=>ld Q 2 D7 fun D8=>blt Q .max #[2,2] 2 #[false,false] #[D8,K6] fun D9=>aU X6 fun E0=>aT Q 162 E0 0 fun E1=>aT Q 102 E1 1 fun E2=>sto Q 2 E2 D9 fun _=>K (ci 0)) w) (fN K (dU Y5 Z5 K6 W6 X6 (zV zf 32 [X6,D4])) w)) w):jv K (dU Y5 Z5 K6 W6 X6 zf) w:=by
 delta jv
 exact Eq.mp (congrArg (fun c=>ae Q c (fN K) xf (rk f28 K) (dU Y5 Z5 K6 W6 X6 zf) w) (by kernel_rfl:(cd f28 (b1 61))=(cd f28 (b1 61)))) (wC (fN K) h)
theorem wK (h:aU Y5 (fun E3=>aT Q 148 E3 0 fun E4=>ld Q 146 E4 fun E5=>lN 146 E5 fun E6=>bin Q .geq 3 false true E6 (ci 32) fun E7 w=>cond E7 (K (ci 7) w) (aU Y5 (fun E8=>aT Q 148 E8 0 fun E9=>ld Q 146 E9 fun F0=>bld Q 102 #[(0,Z5),(1,K6)] fun F1=>bld Q 162 #[(0,F1),(1,W6),(2,cu 1)] fun F2=>box Q 162 F2 fun F3=>dO Q 146 F0 Z5 F3 fun _=>K (ci 0)) w)) w):ae Q (cd f28 [1,1,1,1]) (rk f28 K) xf (rk f28 K) (dU Y5 Z5 K6 W6 X6 zf) w:=Eq.mp (by kernel_rfl) h
theorem wL (h:aU Y5 (fun E3=>aT Q 148 E3 0 fun E4=>ld Q 146 E4 fun E5=>lN 146 E5 fun E6=>bin Q .geq 3 false true E6 (ci 32) fun E7 w=>cond E7 (K (ci 7) w) (aU Y5 (fun E8=>aT Q 148 E8 0 fun E9=>ld Q 146 E9 fun F0=>bld Q 102 #[(0,Z5),(1,K6)] fun F1=>bld Q 162 #[(0,F1),(1,W6),(2,cu 1)] fun F2=>box Q 162 F2 fun F3=>dO Q 146 F0 Z5 F3 fun _=>K (ci 0)) w)) w):fN K (dU Y5 Z5 K6 W6 X6 zf) w:=by
 delta fN
 exact Eq.mp (congrArg (fun c=>ae Q c (rk f28 K) xf (rk f28 K) (dU Y5 Z5 K6 W6 X6 zf) w) (by kernel_rfl:(cd f28 [1,1,1,1])=(cd f28 [1,1,1,1]))) (wK h)
attribute [irreducible] fN jv
theorem wO (h:bin Q .eql 88 false true Y5 (Value.pointer none) (fun A2 w=>aI A2 false (fun u=>aU Y5 (fun A5=>aT Q 148 A5 0 fun A6=>ld Q 146 A6 fun A7=>lkp Q 146 A7 Z5 false fun A9=>bin Q .eql 160 false true A9 (Value.pointer none) fun C0=>u [Y5,A5,A6,A7,Z5,A9,C0]) w) (fun k=>k [uu,uu,uu,uu,uu,uu,uu] w) fun j=>pick A2 cT (gd j 6) fun C1 w=>cond C1 (K cF w) (aU Y5 (fun C3=>aT Q 148 C3 0 fun C4=>ld Q 146 C4 fun C5=>blt Q .delete #[146,31] 0 #[false,false] #[C5,Z5] fun _=>K cT) w)) w):Gives Q 33 #[Y5,Z5] w K:=by
 refine aB func33 (by kernel_rfl) ?_;exact mpK h
theorem sD (h:aG (fun S w=>hN S Y5 fun A2=>hF S 162 A2 0 fun A3=>hF S 102 A3 0 fun A4=>hL S 31 A4 fun A5=>hN S Z5 fun A7=>hF S 162 A7 0 fun A8=>hF S 102 A8 0 fun A9=>hL S 31 A9 fun C0=>call Q 56 #[A5,C0] (fun C1=>aG fun _=>K C1) w) w.drew):Gives Q 101 #[Y5,Z5] w K:=by
 refine aB func101 (by kernel_rfl) ?_;exact mpK h
theorem wk (h:sN Y5 (fun A1=>sF 162 A1 1 fun A2=>sL 31 A2 fun A3=>sL 31 Z5 fun A4=>sti (bin Q .leq 31 false false A3 A4) K) w.drew):Gives Q 66 #[Y5,Z5] w K:=by
 refine aB func66 (by kernel_rfl) ?_;exact mpK h
end
section
theorem yo {α:Type}{p:α→Bool}:∀{l:List α} {i:Nat},(∀(k:Nat) x,l[k]? = some x→k<i→p x=false)→(∀(k:Nat) x,l[k]? = some x→i≤k→p x=true)→l.drop i=l.filter p
 | [],i,_,_=>by simp
 | a::l,0,h1,h2=>by
  rw[List.drop_zero,List.filter_eq_self.2 fun x h=>by
   obtain⟨k,j⟩:=List.getElem?_of_mem h;exact h2 k x j (Nat.zero_le _)]
 | a::l,i+1,h1,h2=>by
  rw[List.drop_succ_cons,List.filter_cons_of_neg (by rw[h1 0 a rfl (Nat.succ_pos _)];exact Bool.false_ne_true)];exact yo (fun k x h j=>h1 (k+1) x h (by omega)) fun k x h j=>h2 (k+1) x h (by omega)
def toI (p:EV×Nat):EV×Int:=(p.1,(p.2:Int))
def zA (A:List EV)(v:List Int):List (EV×Int):=(A.zipIdx.filter fun p=>decide (v.getD p.1.q 0<p.1.s)).map toI
def gj (A:List EV)(v:List Int)(n:Nat):List (EV×Int):=(List.range n).flatMap fun q=>(kJ A q).filter fun p=>decide (v.getD q 0<p.1.s)
theorem Dx {A:List EV}:A.zipIdx.Pairwise fun x y=>x.2<y.2:=by
 rw[List.pairwise_iff_getElem];intro i j hi u h;rw[List.getElem_zipIdx,List.getElem_zipIdx];simp only;omega
theorem IU {A:List EV}{p:EV×Nat}(h:p∈A.zipIdx):p.1∈A:=by
 have e:A.zipIdx.map (·.1)=A:=by rw[List.zipIdx_map_fst]
 rw[←e];exact List.mem_map.2 ⟨p,h,rfl⟩
theorem zA_sorted {A:List EV}:(zA A v).Pairwise fun x y=>x.2<y.2:=by
 unfold zA;rw[List.pairwise_map];refine(List.Pairwise.filter _ Dx).imp fun {a b} h=>?_;show (a.2:Int)<(b.2:Int)
 omega
theorem LQ {A:List EV}:(zA A v).map (·.1)=A.filter fun e=>decide (v.getD e.q 0<e.s):=by
 have h:A.zipIdx.map (·.1)=A:=by rw[List.zipIdx_map_fst]
 conv=>rhs;rw[←h]
 unfold zA;rw[List.map_map,List.filter_map];rfl
theorem LX {A:List EV}{x:EV×Int}:x∈zA A v↔∃p∈A.zipIdx,v.getD p.1.q 0<p.1.s∧toI p=x:=by
 unfold zA;simp only[List.mem_map,List.mem_filter,decide_eq_true_eq,and_assoc]
theorem yx {A:List EV}{q:Nat}{x:EV×Int}:x∈kJ A q↔∃p∈A.zipIdx,p.1.q=q∧toI p=x:=by
 unfold kJ;simp only[List.mem_map,List.mem_filter,decide_eq_true_eq,and_assoc];rfl
theorem Hr {A:List EV}{q:Nat}:(kJ A q).Nodup:=by
 unfold kJ;rw[List.nodup_iff_pairwise_ne,List.pairwise_map];refine(List.Pairwise.filter _ Dx).imp fun {a b} h e=>?_
 have:=congrArg (·.2) e
 simp only at this;omega
theorem xC {A:List EV}{x:EV×Int}:x∈gj A v n↔∃p∈A.zipIdx,p.1.q<n∧v.getD p.1.q 0<p.1.s∧toI p=x:=by
 unfold gj;simp only[List.mem_flatMap,List.mem_range,List.mem_filter,decide_eq_true_eq];constructor
 ·rintro⟨q,j,C,u⟩;obtain⟨p,h,rfl,rfl⟩:=yx.1 C;exact⟨p,h,j,u,rfl⟩
 ·rintro⟨p,h,j,u,rfl⟩;exact⟨p.1.q,j,yx.2 ⟨p,h,rfl,rfl⟩,u⟩
theorem xU {A:List EV}{v:List Int}:∀{n:Nat},(gj A v n).Nodup
 | 0=>List.nodup_nil
 | n+1=>by
  have e:gj A v (n+1)=gj A v n++(kJ A n).filter fun p=>decide (v.getD n 0<p.1.s):=by
   unfold gj;rw[List.range_succ,List.flatMap_append];simp
  rw[e,List.nodup_append];refine⟨xU,List.Nodup.sublist List.filter_sublist Hr,fun a I b J h=>?_⟩;subst h;obtain⟨p,_,j,_,u⟩:=xC.1 I;obtain⟨O,_,M,C⟩:=yx.1 (List.mem_filter.1 J).1
  have:=congrArg (·.1) (u.trans C.symm)
  simp only[toI]at this;rw[this]at j;omega
theorem Fs {A:List EV}{L:List (EV×Int)}(hq:∀e∈A,e.q<6)(hp:L.Perm (gj A v 6))(hs:L.Pairwise fun x y=>¬y.2<x.2):L=zA A v:=by
 have M:(zA A v).Nodup:=by
  rw[List.nodup_iff_pairwise_ne];exact zA_sorted.imp fun {a b} h e=>by rw[e]at h;omega
 have I:L.Perm (zA A v):=hp.trans ((List.perm_ext_iff_of_nodup xU M).2 fun x=>by
  rw[xC,LX];constructor
  ·rintro⟨p,u,_,C,J⟩;exact⟨p,u,C,J⟩
  ·rintro⟨p,u,C,J⟩;exact⟨p,u,hq _ (IU u),C,J⟩)
 refine List.Perm.eq_of_pairwise (le:=fun x y=>¬y.2<x.2) (fun a b U hb u C=>?_) hs (zA_sorted.imp fun {x y} h=>by omega) I;obtain⟨i,hi⟩:=List.getElem?_of_mem (I.mem_iff.1 U);obtain⟨j,hj⟩:=List.getElem?_of_mem hb;obtain⟨a1,rfl⟩:=List.getElem?_eq_some_iff.1 hi;obtain⟨O,rfl⟩:=List.getElem?_eq_some_iff.1 hj;rcases Nat.lt_trichotomy i j with e|e|e
 ·exact absurd (List.pairwise_iff_getElem.1 zA_sorted i j a1 O e) C
 ·subst e;rfl
 ·exact absurd (List.pairwise_iff_getElem.1 zA_sorted j i O a1 e) u
theorem Fr {A:List EV}{q:Nat}(h:A.Pairwise fun a b=>a.q=b.q→a.s<b.s):(kJ A q).Pairwise fun x y=>x.1.s<y.1.s:=by
 unfold kJ;rw[List.pairwise_map];have u:A.zipIdx.Pairwise fun x y=>x.1.q=y.1.q→x.1.s<y.1.s:=by
  have e:A.zipIdx.map (·.1)=A:=by rw[List.zipIdx_map_fst]
  rw[←e,List.pairwise_map]at h;exact h
 refine List.Pairwise.imp_of_mem (fun {a b} J M j=>?_) (List.Pairwise.filter _ u);have C:=of_decide_eq_true (List.mem_filter.1 J).2;have I:=of_decide_eq_true (List.mem_filter.1 M).2;exact j (C.trans I.symm)
theorem Hq {A:List EV}{q:Nat}:(kJ A q).length≤A.length:=by
 unfold kJ;rw[List.length_map];refine Nat.le_trans (List.length_filter_le _ _) ?_;rw[List.length_zipIdx];exact Nat.le_refl _
theorem BM {s:RS}:vn s v=((zA s.A v).take 16).map (·.1):=by
 unfold vn;rw[List.map_take,LQ]
end
end Go.Proofs.YtkbhfjljieopoaaGreatDoor
namespace Go.Proofs
open Go.Shelf
def Tryz.sortIt_ren :Go.Shelf.Ren:=⟨fun|6=>106|15=>91|14=>147|28=>132|29=>133|20=>176|21=>177|22=>178|23=>179|24=>180|25=>181|26=>182|27=>183|46=>200|47=>161|48=>162|49=>201|50=>202|57=>208|n=>n,fun|22=>136|24=>200|25=>209|3=>3|39=>196|0=>0|53=>230|55=>31|4=>4|46=>223|45=>222|50=>227|5=>5|9=>9|66=>258|70=>262|76=>284|77=>285|n=>n,fun|n=>n⟩
theorem Tryz.sortIt :Go.Proofs.SlLaysF0.n6 Tryz.prog Tryz.sortIt_ren:={
 mixed:=by kernel_rfl
 f6:=⟨Tryz.f106.name,by decide,func106.trans (congrArg some (by kernel_rfl))⟩
 f14:=⟨Tryz.f147.name,by decide,func147.trans (congrArg some (by kernel_rfl))⟩
 f15:=func91.trans (congrArg some (by kernel_rfl))
 f20:=⟨Tryz.f176.name,by decide,func176.trans (congrArg some (by kernel_rfl))⟩
 f21:=⟨Tryz.f177.name,by decide,func177.trans (congrArg some (by kernel_rfl))⟩
 f22:=⟨Tryz.f178.name,by decide,func178.trans (congrArg some (by kernel_rfl))⟩
 f23:=⟨Tryz.f179.name,by decide,func179.trans (congrArg some (by kernel_rfl))⟩
 f24:=⟨Tryz.f180.name,by decide,func180.trans (congrArg some (by kernel_rfl))⟩
 f25:=⟨Tryz.f181.name,by decide,func181.trans (congrArg some (by kernel_rfl))⟩
 f26:=⟨Tryz.f182.name,by decide,func182.trans (congrArg some (by kernel_rfl))⟩
 f27:=⟨Tryz.f183.name,by decide,func183.trans (congrArg some (by kernel_rfl))⟩
 f28:=func132.trans (congrArg some (by kernel_rfl))
 f29:=func133.trans (congrArg some (by kernel_rfl))
 f46:=⟨Tryz.f200.name,by decide,func200.trans (congrArg some (by kernel_rfl))⟩
 f47:=func161.trans (congrArg some (by kernel_rfl))
 f48:=func162.trans (congrArg some (by kernel_rfl))
 f49:=⟨Tryz.f201.name,by decide,func201.trans (congrArg some (by kernel_rfl))⟩
 f50:=⟨Tryz.f202.name,by decide,func202.trans (congrArg some (by kernel_rfl))⟩
 f57:=⟨Tryz.f208.name,by decide,func208.trans (congrArg some (by kernel_rfl))⟩
 t0:=underlying0
 a0:=Tryz.isAgg0
 z0:=Tryz.sizeOf0
 v0:=Tryz.zeroValue0
 t3:=underlying3
 a3:=Tryz.isAgg3
 z3:=Tryz.sizeOf3
 v3:=Tryz.zeroValue3
 t4:=underlying4
 a4:=Tryz.isAgg4
 z4:=Tryz.sizeOf4
 v4:=Tryz.zeroValue4
 t5:=underlying5
 a5:=Tryz.isAgg5
 z5:=Tryz.sizeOf5
 v5:=Tryz.zeroValue5
 t9:=underlying9
 a9:=Tryz.isAgg9
 z9:=Tryz.sizeOf9
 v9:=Tryz.zeroValue9
 t22:=underlying136
 a22:=Tryz.isAgg136
 z22:=Tryz.sizeOf136
 v22:=Tryz.zeroValue136
 t25:=underlying209
 a25:=Tryz.isAgg209
 z25:=Tryz.sizeOf209
 v25:=Tryz.zeroValue209
 t39:=underlying196
 a39:=Tryz.isAgg196
 z39:=Tryz.sizeOf196
 v39:=Tryz.zeroValue196
 t45:=underlying222
 a45:=Tryz.isAgg222
 z45:=Tryz.sizeOf222
 v45:=Tryz.zeroValue222
 t46:=underlying223
 a46:=Tryz.isAgg223
 z46:=Tryz.sizeOf223
 v46:=Tryz.zeroValue223
 t50:=underlying227
 a50:=Tryz.isAgg227
 z50:=Tryz.sizeOf227
 v50:=Tryz.zeroValue227
 t53:=underlying230
 a53:=Tryz.isAgg230
 z53:=Tryz.sizeOf230
 v53:=Tryz.zeroValue230
 t55:=underlying31
 a55:=Tryz.isAgg31
 z55:=Tryz.sizeOf31
 v55:=Tryz.zeroValue31
 t66:=underlying258
 a66:=Tryz.isAgg258
 z66:=Tryz.sizeOf258
 v66:=Tryz.zeroValue258
 t70:=underlying262
 a70:=Tryz.isAgg262
 z70:=Tryz.sizeOf262
 v70:=Tryz.zeroValue262
 t76:=underlying284
 a76:=Tryz.isAgg284
 z76:=Tryz.sizeOf284
 v76:=Tryz.zeroValue284
 t77:=underlying285
 a77:=Tryz.isAgg285
 z77:=Tryz.sizeOf285
 v77:=Tryz.zeroValue285}
end Go.Proofs
namespace Go.Proofs.YtkbhfjljieopoaaGreatDoor
variable {w w':World}{K:KV}{zf dd:Nat→Value}{b n c o k B i g p j m s z f d D hi:Nat}{x r:Int}{B1:KE}{a:Option Addr}{cs:List Value}{E t e:TypeId}{v:List Int}{α:Type}{T:List (Int×Int)}{Y5 Z5 K6 W6 X6 Y6 Z6 u7 B7 K7 W7 X7 Y7 Z7 B8 K8 W8 X8 Y8 Z8 l9 n9 u9 B9 K9 W9 X9 Y9 Z9 ia ja ka qa ua xa ya:Value}
set_option maxRecDepth 100000
open Go.Proofs.Tryz
section
open Go.RowKit
def fm (s0 f1 s2 f3 i5 A4 A5:Value)(zf:Nat→Value):List Value:=s0::f1::s2::f3::zf 4::i5::zf 6::A4::A5::zT zf 9 10 ([])
def cG (K:KV):KE:=ae Q (cd f134 [1,1]) (rk f134 K) xf (rk f134 K)
def ff (K:KV):KE:=ae Q (cd f134 [1,0,1,0]) (cG K) (xx xf (cG K) 0) (rk f134 K)
theorem kG (h:lN 43 Y5 (fun Y6=>ff K (fm Y5 Z5 uu uu uu Y6 (ci 0) (zV (zV zu 4 [ci 0]) 6 [Y5]))) w):Gives Q 134 #[Y5,Z5] w K:=by
 refine aB func134 (by kernel_rfl) ?_;revert h;delta ff cG;exact mpF
theorem ku (Inv:Value→World→Prop)(μ:Value→World→Nat)(I:Inv Z6 w)(J:∀(j:Value) (dd:Nat→Value) (w:World) (m:Nat),Inv j w→m=μ j w →
  lS j Y6 (fun A6 w=>cond A6 (aV Q 43 Y5 j (fun C1=>ld Q 126 C1 fun C2=>bY Q Z5 #[C2] fun C3 w=>cond C3 (K j w) (nC j (fun C5 w=>(Inv C5 w)∧((μ C5 w)<m)) w)) w) (cG K (fm Y5 Z5 K6 W6 (dd 5) Y6 j (zV dd 9 [A6])) w)) w):ff K (fm Y5 Z5 K6 W6 X6 Y6 Z6 zf) w:=by
 refine aL (cd f134 (b1 52)) (zr [(4,2),(8,11)]) (by kernel_rfl) (vP [8] Inv) (vQ [8] μ) I ?_;intro e' w' hI;have h:=J _ (zM zf (fun i=>gd e' i) (zr [(4,2),(8,11)])) w' _ hI rfl;revert h;generalize (cG K)=qc0;exact mpF
theorem kw (h:K (ci (-1)) w):cG K (fm Y5 Z5 K6 W6 X6 Y6 Z6 zf) w:=by
 delta cG;exact mpK h
attribute [irreducible] cG ff
theorem xP (h:box Q 126 Y5 (fun I=>aT Q 126 I 0 fun A2=>ld Q 3 A2 fun A3=>ld Q 3 Z5 fun A4=>bin Q .eql 3 false false A3 A4 fun A5 w=>aI A5 true (fun J=>aT Q 126 I 1 (fun A7=>ld Q 31 A7 fun A8=>aT Q 33 K6 4 fun A9=>ld Q 31 A9 fun C0=>bin Q .eql 31 false false A8 C0 fun C1=>J [A7,A8,A9,C0,C1,C1]) w) (fun k=>k [uu,uu,uu,uu,uu,uu] w) fun j w=>aI (gd j 5) false (fun M=>aT Q 126 I 4 (fun C3=>ld Q 31 C3 fun C4=>aT Q 33 K6 4 fun C5=>ld Q 31 C5 fun C6=>bin Q .eql 31 false false C4 C6 fun C7=>M [C3,C4,C5,C6,C7]) w) (fun k=>k [uu,uu,uu,uu,uu] w) fun u w=>aI A5 true (fun O=>pick (gd j 5) cT (gd u 4) (fun C8=>O [C8]) w) (fun k=>k [uu] w) fun C=>pick A5 (gd C 0) cF K) w):Gives Q 135 #[Y5,Z5,K6] w K:=by
 refine aB func135 (by kernel_rfl) ?_;exact mpK h
theorem qY (h:box Q 38 Z5 (fun u w=>aG (fun S w=>hN S Y5 fun A6=>hF S 91 A6 1 fun A7=>hL S 79 A7 fun A8=>hN S Y5 fun C0=>hF S 91 C0 0 fun C1=>hL S 3 C1 fun C2=>hF S 38 u 5 fun C3=>hL S 31 C3 fun C4=>hF S 38 u 6 fun C6=>hL S 2 C6 fun C7=>call Q 32 #[A8,C2,C4] (fun C5=>aY S fun _=>call Q 82 #[C5,C7] fun C8=>aG fun _=>bin Q .eql 2 false true C8 (ci 0) fun C9 w=>cond C9 (K cN w) (aT Q 38 u 5 (fun D0=>ld Q 31 D0 fun D1=>aT Q 38 u 1 fun D2=>ld Q 3 D2 fun D3=>bld Q 33 #[(0,cb 5),(1,D1),(2,D3),(3,C8)] fun D4=>call Q 26 #[Y5,D4] fun D5=>ext Q D5 0 fun D6=>ext Q D5 1 fun D7=>alc Q 54 fun j=>sto Q 54 j D6 fun _=>bin Q .neq 27 false true D7 (ci 0) fun D8 w=>cond D8 (K cN w) (ld Q 54 j (fun D9=>bT Q 36 1 #[(0,D9)] K) w)) w)) w) w.drew) w):Gives Q 44 #[Y5,Z5] w K:=by
 refine aB func44 (by kernel_rfl) ?_;exact mpK h
def rX (s0 a2 s3 i4 a5 e7 k_8 g9 took10 D2 D3 D4 D5 D6 D8 D9 E0 E1 E2 E4 E5 E6 E7 E8 F3 F4 F5 F6 F7 F9 G0 G1 G2 G3 G6 G7:Value)(zf:Nat→Value):List Value:=s0::zf 1::a2::s3::i4::a5::zf 6::e7::k_8::g9::took10::zT zf 11 29 (D2::D3::D4::D5::D6::zf 45::zf 46::D8::D9::E0::E1::E2::zf 52::zf 53::E4::E5::E6::E7::E8::zT zf 59 5 (F3::F4::F5::F6::F7::zf 69::zf 70::F9::G0::G1::G2::G3::zT zf 76 4 (G6::G7::zf 82::[])))
def AH (K:KV):KE:=ae Q (cd f94 [1,1,1]) (rk f94 K) xf (rk f94 K)
def kc (K:KV):KE:=ae Q (cd f94 (b1 127)) (rk f94 K) xf (rk f94 K)
theorem IZ (I:Code)(h:box Q 45 Y5 (fun K6=>box Q 3 Y6 fun W6=>box Q 33 Z5 fun X6=>aT Q 33 X6 4 fun A0=>ld Q 31 A0 fun A1=>bin Q .eql 31 false true A1 (cu 0) fun A2 w=>aI A2 false (fun J=>aT Q 33 X6 0 (fun A3=>ld Q 5 A3 fun A4=>bin Q .neq 5 false true A4 (cb 3) fun A5=>J [A3,A4,A5,A5]) w) (fun k=>k [uu,uu,uu,uu] w) fun j w=>aI (gd j 3) true (fun M=>aT Q 33 X6 0 (fun A6=>ld Q 5 A6 fun A7=>bin Q .neq 5 false true A7 (cb 4) fun A8=>M [A6,A7,A8]) w) (fun k=>k [uu,uu,uu] w) fun u w=>aI A2 false (fun O=>pick (gd j 3) (gd u 2) cF (fun A9=>O [A9]) w) (fun k=>k [uu] w) fun C=>pick A2 cT (gd C 0) fun C0 w=>cond C0 (K (Value.tuple #[cF,ci 0]) w) (aT Q 45 K6 4 (fun C1=>ld Q 43 C1 fun C2=>call Q 134 #[C2,Value.func (Fn.func 135) #[] #[W6,X6]] fun C3=>ae Q I (rk f94 K) (fun _ _ _=>False) (rk f94 K) (rX Y5 Z5 K6 W6 X6 (ci 0) C3 uu uu uu uu uu uu uu uu uu uu uu uu uu uu uu uu uu uu uu uu uu uu uu uu uu uu uu uu uu (zV (zV (zV zu 1 [Y6]) 6 [cF]) 12 [A0,A1,A2,A2,gd j 0,gd j 1,gd j 2,gd j 3,gd u 0,gd u 1,gd u 2,gd C 0,C0,C1,C2,Value.func (Fn.func 135) #[] #[W6,X6],C3]))) w)) w):ae Q (rep [1,1,1] I (cd f94 [])) (rk f94 K) xf (rk f94 K) (rX Y5 Z5 uu uu uu uu uu uu uu uu uu uu uu uu uu uu uu uu uu uu uu uu uu uu uu uu uu uu uu uu uu uu uu uu uu uu (zV zu 1 [Y6])) w:=Eq.mp (by kernel_rfl) h
theorem HH {K:KV}{Y5 i1 Z5:Value}{w:World}(h:box Q 45 Y5 (fun K6=>box Q 3 i1 fun W6=>box Q 33 Z5 fun X6=>aT Q 33 X6 4 fun A0=>ld Q 31 A0 fun A1=>bin Q .eql 31 false true A1 (cu 0) fun A2 w=>aI A2 false (fun k16=>aT Q 33 X6 0 (fun A3=>ld Q 5 A3 fun A4=>bin Q .neq 5 false true A4 (cb 3) fun A5=>k16 [A3,A4,A5,A5]) w) (fun k=>k [uu,uu,uu,uu] w) fun us16 w=>aI (gd us16 3) true (fun k20=>aT Q 33 X6 0 (fun A6=>ld Q 5 A6 fun A7=>bin Q .neq 5 false true A7 (cb 4) fun A8=>k20 [A6,A7,A8]) w) (fun k=>k [uu,uu,uu] w) fun us20 w=>aI A2 false (fun k23=>pick (gd us16 3) (gd us20 2) cF (fun A9=>k23 [A9]) w) (fun k=>k [uu] w) fun us23=>pick A2 cT (gd us23 0) fun C0 w=>cond C0 (K (Value.tuple #[cF,ci 0]) w) (aT Q 45 K6 4 (fun C1=>ld Q 43 C1 fun C2=>call Q 134 #[C2,Value.func (Fn.func 135) #[] #[W6,X6]] fun C3=>AH K (rX Y5 Z5 K6 W6 X6 (ci 0) C3 uu uu uu uu uu uu uu uu uu uu uu uu uu uu uu uu uu uu uu uu uu uu uu uu uu uu uu uu uu (zV (zV (zV zu 1 [i1]) 6 [cF]) 12 [A0,A1,A2,A2,gd us16 0,gd us16 1,gd us16 2,gd us16 3,gd us20 0,gd us20 1,gd us20 2,gd us23 0,C0,C1,C2,Value.func (Fn.func 135) #[] #[W6,X6],C3]))) w)) w):Gives Q 94 #[Y5,i1,Z5] w K:=aB func94 (by kernel_rfl) (Eq.mp (congrArg (fun c=>ae Q c (rk f94 K) xf (rk f94 K) (rX Y5 Z5 uu uu uu uu uu uu uu uu uu uu uu uu uu uu uu uu uu uu uu uu uu uu uu uu uu uu uu uu uu uu uu uu uu uu (zV zu 1 [i1])) w) (by kernel_rfl:(rep [1,1,1] (cd f94 [1,1,1]) (cd f94 []))=(cd f94 []))) (IZ (cd f94 [1,1,1]) h))
theorem xQ (I:Code)(h:bin Q .lss 3 false true Z6 (ci 0) (fun C4 w=>cond C4 (K (Value.tuple #[cF,ci 0]) w) (aT Q 45 K6 4 (fun C5=>ld Q 43 C5 fun C6=>aV Q 43 C6 Z6 fun C7=>ld Q 126 C7 fun C8=>alc Q 126 fun u7=>sto Q 126 u7 C8 fun _=>aT Q 33 X6 0 fun C9=>ld Q 5 C9 fun D0=>bin Q .eql 5 false true D0 (cb 3) fun D1 w=>aI D1 true (fun J=>aT Q 126 u7 1 (fun K7=>ld Q 31 K7 fun W7=>aT Q 33 X6 4 fun X7=>ld Q 31 X7 fun Y7=>bin Q .eql 31 false false W7 Y7 fun Z7=>J [K7,W7,X7,Y7,Z7]) w) (fun k=>k [uu,uu,uu,uu,uu] w) fun j=>pick D1 (gd j 4) cF fun D7 w=>aI D7 true (fun M=>aT Q 126 u7 2 (fun B8=>ld Q 31 B8 fun K8=>aT Q 33 X6 1 fun W8=>ld Q 31 W8 fun X8=>bin Q .eql 31 false false K8 X8 fun Y8=>M [B8,K8,W8,X8,Y8]) w) (fun k=>k [uu,uu,uu,uu,uu] w) fun u=>pick D7 (gd u 4) cF fun E3 w=>aI E3 true (fun O=>aT Q 126 u7 3 (fun Z8=>ld Q 2 Z8 fun l9=>aT Q 33 X6 3 fun n9=>ld Q 2 n9 fun u9=>bin Q .eql 2 false false l9 u9 fun B9=>O [Z8,l9,n9,u9,B9]) w) (fun k=>k [uu,uu,uu,uu,uu] w) fun C=>pick E3 (gd C 4) cF fun E9=>ae Q I (rk f94 K) (fun _ _ _=>False) (rk f94 K) (rX Y5 Z5 K6 W6 X6 Y6 Z6 u7 E9 (gd j 0) (gd j 1) (gd j 2) (gd j 3) (gd j 4) (gd u 0) (gd u 1) (gd u 2) (gd u 3) (gd u 4) (gd C 0) (gd C 1) (gd C 2) (gd C 3) (gd C 4) K9 W9 X9 Y9 Z9 ia ja ka qa ua xa ya (zV (zV (zV (zV zf 29 [Z6,C4,C5,C6,Z6,C7,C8,C9,D0,D1,D1]) 45 [D7,D7]) 52 [E3,E3]) 59 [E9]))) w)) w):ae Q (rep [1,1,1] I (cd f94 [1,1,1])) (rk f94 K) xf (rk f94 K) (rX Y5 Z5 K6 W6 X6 Y6 Z6 u7 B7 K7 W7 X7 Y7 Z7 B8 K8 W8 X8 Y8 Z8 l9 n9 u9 B9 K9 W9 X9 Y9 Z9 ia ja ka qa ua xa ya zf) w:=Eq.mp (by kernel_rfl) h
theorem xR (h:bin Q .lss 3 false true Z6 (ci 0) (fun C4 w=>cond C4 (K (Value.tuple #[cF,ci 0]) w) (aT Q 45 K6 4 (fun C5=>ld Q 43 C5 fun C6=>aV Q 43 C6 Z6 fun C7=>ld Q 126 C7 fun C8=>alc Q 126 fun u7=>sto Q 126 u7 C8 fun _=>aT Q 33 X6 0 fun C9=>ld Q 5 C9 fun D0=>bin Q .eql 5 false true D0 (cb 3) fun D1 w=>aI D1 true (fun k40=>aT Q 126 u7 1 (fun K7=>ld Q 31 K7 fun W7=>aT Q 33 X6 4 fun X7=>ld Q 31 X7 fun Y7=>bin Q .eql 31 false false W7 Y7 fun Z7=>k40 [K7,W7,X7,Y7,Z7]) w) (fun k=>k [uu,uu,uu,uu,uu] w) fun us40=>pick D1 (gd us40 4) cF fun D7 w=>aI D7 true (fun k47=>aT Q 126 u7 2 (fun B8=>ld Q 31 B8 fun K8=>aT Q 33 X6 1 fun W8=>ld Q 31 W8 fun X8=>bin Q .eql 31 false false K8 X8 fun Y8=>k47 [B8,K8,W8,X8,Y8]) w) (fun k=>k [uu,uu,uu,uu,uu] w) fun us47=>pick D7 (gd us47 4) cF fun E3 w=>aI E3 true (fun k54=>aT Q 126 u7 3 (fun Z8=>ld Q 2 Z8 fun l9=>aT Q 33 X6 3 fun n9=>ld Q 2 n9 fun u9=>bin Q .eql 2 false false l9 u9 fun B9=>k54 [Z8,l9,n9,u9,B9]) w) (fun k=>k [uu,uu,uu,uu,uu] w) fun us54=>pick E3 (gd us54 4) cF fun E9=>kc K (rX Y5 Z5 K6 W6 X6 Y6 Z6 u7 E9 (gd us40 0) (gd us40 1) (gd us40 2) (gd us40 3) (gd us40 4) (gd us47 0) (gd us47 1) (gd us47 2) (gd us47 3) (gd us47 4) (gd us54 0) (gd us54 1) (gd us54 2) (gd us54 3) (gd us54 4) K9 W9 X9 Y9 Z9 ia ja ka qa ua xa ya (zV (zV (zV (zV zf 29 [Z6,C4,C5,C6,Z6,C7,C8,C9,D0,D1,D1]) 45 [D7,D7]) 52 [E3,E3]) 59 [E9]))) w)) w):AH K (rX Y5 Z5 K6 W6 X6 Y6 Z6 u7 B7 K7 W7 X7 Y7 Z7 B8 K8 W8 X8 Y8 Z8 l9 n9 u9 B9 K9 W9 X9 Y9 Z9 ia ja ka qa ua xa ya zf) w:=by
 delta AH
 exact Eq.mp (congrArg (fun c=>ae Q c (rk f94 K) xf (rk f94 K) (rX Y5 Z5 K6 W6 X6 Y6 Z6 u7 B7 K7 W7 X7 Y7 Z7 B8 K8 W8 X8 Y8 Z8 l9 n9 u9 B9 K9 W9 X9 Y9 Z9 ia ja ka qa ua xa ya zf) w) (by kernel_rfl:(rep [1,1,1] (cd f94 (b1 127)) (cd f94 [1,1,1]))=(cd f94 [1,1,1]))) (xQ (cd f94 (b1 127)) h)
theorem xS (h:aT Q 33 X6 0 (fun F0=>ld Q 5 F0 fun F1=>bin Q .eql 5 false true F1 (cb 4) fun F2 w=>aI F2 true (fun I=>aT Q 126 u7 4 (fun K9=>ld Q 31 K9 fun W9=>aT Q 33 X6 4 fun X9=>ld Q 31 X9 fun Y9=>bin Q .eql 31 false false W9 Y9 fun Z9=>I [K9,W9,X9,Y9,Z9]) w) (fun k=>k [uu,uu,uu,uu,uu] w) fun j=>pick F2 (gd j 4) cF fun F8 w=>aI F8 true (fun J=>aT Q 126 u7 1 (fun ia=>ld Q 31 ia fun ja=>aT Q 33 X6 5 fun ka=>ld Q 31 ka fun qa=>bin Q .eql 31 false false ja qa fun ua=>J [ia,ja,ka,qa,ua]) w) (fun k=>k [uu,uu,uu,uu,uu] w) fun u=>pick F8 (gd u 4) cF fun G4=>un Q .not B7 fun G5 w=>aI G5 true (fun M=>un Q .not G4 (fun ya=>M [G4,ya]) w) (fun k=>k [uu,uu] w) fun C=>pick G5 (gd C 1) cF fun G8 w=>cond G8 (K (Value.tuple #[cT,ci 14]) w) (K (Value.tuple #[cT,ci 0]) w)) w):ae Q (cd f94 (b1 127)) (rk f94 K) xf (rk f94 K) (rX Y5 Z5 K6 W6 X6 Y6 Z6 u7 B7 K7 W7 X7 Y7 Z7 B8 K8 W8 X8 Y8 Z8 l9 n9 u9 B9 K9 W9 X9 Y9 Z9 ia ja ka qa ua xa ya zf) w:=Eq.mp (by kernel_rfl) h
theorem xT (h:aT Q 33 X6 0 (fun F0=>ld Q 5 F0 fun F1=>bin Q .eql 5 false true F1 (cb 4) fun F2 w=>aI F2 true (fun k64=>aT Q 126 u7 4 (fun K9=>ld Q 31 K9 fun W9=>aT Q 33 X6 4 fun X9=>ld Q 31 X9 fun Y9=>bin Q .eql 31 false false W9 Y9 fun Z9=>k64 [K9,W9,X9,Y9,Z9]) w) (fun k=>k [uu,uu,uu,uu,uu] w) fun us64=>pick F2 (gd us64 4) cF fun F8 w=>aI F8 true (fun k71=>aT Q 126 u7 1 (fun ia=>ld Q 31 ia fun ja=>aT Q 33 X6 5 fun ka=>ld Q 31 ka fun qa=>bin Q .eql 31 false false ja qa fun ua=>k71 [ia,ja,ka,qa,ua]) w) (fun k=>k [uu,uu,uu,uu,uu] w) fun us71=>pick F8 (gd us71 4) cF fun G4=>un Q .not B7 fun G5 w=>aI G5 true (fun k80=>un Q .not G4 (fun ya=>k80 [G4,ya]) w) (fun k=>k [uu,uu] w) fun us80=>pick G5 (gd us80 1) cF fun G8 w=>cond G8 (K (Value.tuple #[cT,ci 14]) w) (K (Value.tuple #[cT,ci 0]) w)) w):kc K (rX Y5 Z5 K6 W6 X6 Y6 Z6 u7 B7 K7 W7 X7 Y7 Z7 B8 K8 W8 X8 Y8 Z8 l9 n9 u9 B9 K9 W9 X9 Y9 Z9 ia ja ka qa ua xa ya zf) w:=by
 delta kc
 exact Eq.mp (congrArg (fun c=>ae Q c (rk f94 K) xf (rk f94 K) (rX Y5 Z5 K6 W6 X6 Y6 Z6 u7 B7 K7 W7 X7 Y7 Z7 B8 K8 W8 X8 Y8 Z8 l9 n9 u9 B9 K9 W9 X9 Y9 Z9 ia ja ka qa ua xa ya zf) w) (by kernel_rfl:(cd f94 (b1 127))=(cd f94 (b1 127)))) (xS h)
attribute [irreducible] AH kc
def sS (l0 a2 i4 a5 made6 e7 x10:Value)(zf:Nat→Value):List Value:=l0::zf 1::a2::zf 3::i4::a5::made6::e7::zf 8::zf 9::x10::zT zf 11 29 ([])
def uH (K:KV):KE:=ae Q (cd f57 [1,1,1,1]) (rk f57 K) xf (rk f57 K)
theorem Mz (j:Code)(h:box Q 33 Z5 (fun W6=>alc Q 54 fun X6=>bin Q .eql 79 false true Y5 (Value.pointer none) fun C0 w=>cond C0 (ld Q 54 X6 (fun C1=>sto Q 54 X6 C1 fun _=>bp Q [(some 54,X6),(none,ci 2)] K) w) (aG (fun S w=>hL S 33 W6 fun C6=>call Q 25 #[Y5] (fun C4=>aY S fun _=>call Q 94 #[C4,K6,C6] fun C7=>aG fun S w=>hld S (ext Q C7 0) fun C8=>hld S (ext Q C7 1) fun C9=>cond C8 (ld Q 54 X6 (fun D1=>sto Q 54 X6 D1 fun _=>bp Q [(some 54,X6),(none,C9)] K) w) (ld Q 33 W6 (fun D6=>call Q 95 #[Y5,K6,D6] fun D7=>ext Q D7 0 fun D8=>ext Q D7 1 fun D9=>alc Q 54 fun Z6=>sto Q 54 Z6 D8 fun _=>ae Q j (rk f57 K) (fun _ _ _=>False) (rk f57 K) (sS Y5 Z5 uu W6 X6 D9 Z6 (zV (zV (zV (zV (zV zu 1 [K6]) 8 [C8,C9]) 11 [Y5,C0]) 14 [C7,Y5,C4,K6,C6,C7,C8,C9,C8]) 25 [D7,Y5,K6,D6,D7,D8,D9]))) w)) w) w.drew)) w):ae Q (rep [1,1,1,1] j (cd f57 [])) (rk f57 K) xf (rk f57 K) (sS Y5 Z5 uu uu uu uu uu (zV zu 1 [K6])) w:=Eq.mp (by kernel_rfl) h
theorem KT {K:KV}{Y5 i1 Z5:Value}{w:World}(h:box Q 33 Z5 (fun W6=>alc Q 54 fun X6=>bin Q .eql 79 false true Y5 (Value.pointer none) fun C0 w=>cond C0 (ld Q 54 X6 (fun C1=>sto Q 54 X6 C1 fun _=>bp Q [(some 54,X6),(none,ci 2)] K) w) (aG (fun S w=>hL S 33 W6 fun C6=>call Q 25 #[Y5] (fun C4=>aY S fun _=>call Q 94 #[C4,i1,C6] fun C7=>aG fun S w=>hld S (ext Q C7 0) fun C8=>hld S (ext Q C7 1) fun C9=>cond C8 (ld Q 54 X6 (fun D1=>sto Q 54 X6 D1 fun _=>bp Q [(some 54,X6),(none,C9)] K) w) (ld Q 33 W6 (fun D6=>call Q 95 #[Y5,i1,D6] fun D7=>ext Q D7 0 fun D8=>ext Q D7 1 fun D9=>alc Q 54 fun Z6=>sto Q 54 Z6 D8 fun _=>uH K (sS Y5 Z5 uu W6 X6 D9 Z6 (zV (zV (zV (zV (zV zu 1 [i1]) 8 [C8,C9]) 11 [Y5,C0]) 14 [C7,Y5,C4,i1,C6,C7,C8,C9,C8]) 25 [D7,Y5,i1,D6,D7,D8,D9]))) w)) w) w.drew)) w):Gives Q 57 #[Y5,i1,Z5] w K:=aB func57 (by kernel_rfl) (Eq.mp (congrArg (fun c=>ae Q c (rk f57 K) xf (rk f57 K) (sS Y5 Z5 uu uu uu uu uu (zV zu 1 [i1])) w) (by kernel_rfl:(rep [1,1,1,1] (cd f57 [1,1,1,1]) (cd f57 []))=(cd f57 []))) (Mz (cd f57 [1,1,1,1]) h))
theorem vl (h:bin Q .neq 27 false true Y6 (ci 0) (fun E1 w=>cond E1 (ld Q 54 X6 (fun E2=>sto Q 54 X6 E2 fun _=>bp Q [(some 54,X6),(none,Y6)] K) w) (aG (fun S w=>hL S 54 Z6 fun E4=>hL S 54 Z6 fun E6=>call Q 96 #[Y5,E6] (fun E7=>aY S fun _=>sto Q 54 X6 E4 fun _=>aG fun _=>bp Q [(some 54,X6),(none,E7)] K) w) w.drew)) w):uH K (sS Y5 Z5 K6 W6 X6 Y6 Z6 zf) w:=by
 delta uH;exact mpK h
attribute [irreducible] uH
def sm (l0 a2 i4 a5 A4 f10 e11:Value)(zf:Nat→Value):List Value:=l0::zf 1::a2::zf 3::i4::a5::A4::zT zf 7 3 (f10::e11::zT zf 12 27 ([]))
def uB (K:KV):KE:=ae Q (cd f95 (b1 127)) (rk f95 K) xf (rk f95 K)
theorem Li (C:Code)(h:box Q 3 Y6 (fun K6=>box Q 33 Z5 fun W6=>alc Q 54 fun X6=>bin Q .eql 79 false true Y5 (Value.pointer none) fun C2 w=>cond C2 (bld Q 54 #[] (fun C3=>sto Q 54 X6 C3 fun _=>bp Q [(some 54,X6),(none,ci 2)] K) w) (call Q 79 #[Y5] (fun C5=>alc Q 35 fun j=>sto Q 35 j C5 fun _=>ld Q 35 j fun C7=>ld Q 3 K6 fun C8=>call Q 136 #[C7,C8] fun C9=>ext Q C9 0 fun D0=>ext Q C9 1 fun D1=>alc Q 31 fun u=>sto Q 31 u D0 fun _=>bin Q .eql 27 false true D1 (ci 10) fun D3 w=>cond D3 (bld Q 54 #[] (fun D4=>sto Q 54 X6 D4 fun _=>bp Q [(some 54,X6),(none,D1)] K) w) (ld Q 33 W6 (fun D6=>call Q 137 #[D6,Value.func (Fn.func 138) #[] #[K6,u,j]] fun D8=>alc Q 54 fun Z6=>sto Q 54 Z6 D8 fun _=>ae Q C (rk f95 K) (fun _ _ _=>False) (rk f95 K) (sm Y5 Z5 K6 W6 X6 D1 Z6 (zV (zV (zV (zV (zV zu 1 [Y6]) 7 [ci 0,j,u]) 13 [Y5,C2]) 16 [Y5,C5,C9,C7,C8,C9,D0,D1,D1,D3]) 28 [D6,Value.func (Fn.func 138) #[] #[K6,u,j],D8]))) w)) w)) w):ae Q (rep (b1 127) C (cd f95 [])) (rk f95 K) xf (rk f95 K) (sm Y5 Z5 uu uu uu uu uu (zV zu 1 [Y6])) w:=Eq.mp (by kernel_rfl) h
theorem KI {K:KV}{Y5 i1 Z5:Value}{w:World}(h:box Q 3 i1 (fun K6=>box Q 33 Z5 fun W6=>alc Q 54 fun X6=>bin Q .eql 79 false true Y5 (Value.pointer none) fun C2 w=>cond C2 (bld Q 54 #[] (fun C3=>sto Q 54 X6 C3 fun _=>bp Q [(some 54,X6),(none,ci 2)] K) w) (call Q 79 #[Y5] (fun C5=>alc Q 35 fun known8=>sto Q 35 known8 C5 fun _=>ld Q 35 known8 fun C7=>ld Q 3 K6 fun C8=>call Q 136 #[C7,C8] fun C9=>ext Q C9 0 fun D0=>ext Q C9 1 fun D1=>alc Q 31 fun seq9=>sto Q 31 seq9 D0 fun _=>bin Q .eql 27 false true D1 (ci 10) fun D3 w=>cond D3 (bld Q 54 #[] (fun D4=>sto Q 54 X6 D4 fun _=>bp Q [(some 54,X6),(none,D1)] K) w) (ld Q 33 W6 (fun D6=>call Q 137 #[D6,Value.func (Fn.func 138) #[] #[K6,seq9,known8]] fun D8=>alc Q 54 fun Z6=>sto Q 54 Z6 D8 fun _=>uB K (sm Y5 Z5 K6 W6 X6 D1 Z6 (zV (zV (zV (zV (zV zu 1 [i1]) 7 [ci 0,known8,seq9]) 13 [Y5,C2]) 16 [Y5,C5,C9,C7,C8,C9,D0,D1,D1,D3]) 28 [D6,Value.func (Fn.func 138) #[] #[K6,seq9,known8],D8]))) w)) w)) w):Gives Q 95 #[Y5,i1,Z5] w K:=aB func95 (by kernel_rfl) (Eq.mp (congrArg (fun c=>ae Q c (rk f95 K) xf (rk f95 K) (sm Y5 Z5 uu uu uu uu uu (zV zu 1 [i1])) w) (by kernel_rfl:(rep (b1 127) (cd f95 (b1 127)) (cd f95 []))=(cd f95 []))) (Li (cd f95 (b1 127)) h))
theorem Ig (h:ld Q 54 Z6 (fun E0=>call Q 139 #[Y5,E0] fun E1=>bin Q .neq 27 false true E1 (ci 0) fun E3 w=>cond E3 (bld Q 54 #[] (fun E4=>sto Q 54 X6 E4 fun _=>bp Q [(some 54,X6),(none,E1)] K) w) (ld Q 54 Z6 (fun E6=>sto Q 54 X6 E6 fun _=>bp Q [(some 54,X6),(none,ci 0)] K) w)) w):uB K (sm Y5 Z5 K6 W6 X6 Y6 Z6 zf) w:=by
 delta uB;exact mpK h
attribute [irreducible] uB
theorem KJ (h:box Q 33 Y5 (fun j=>alc Q 54 fun A3=>aT Q 33 j 0 fun A4=>ld Q 5 A4 fun A5=>aT Q 33 j 1 fun A6=>ld Q 31 A6 fun A7=>aT Q 33 j 2 fun A8=>ld Q 3 A8 fun A9=>aT Q 33 j 3 fun C0=>ld Q 2 C0 fun C1=>aT Q 33 j 4 fun C2=>ld Q 31 C2 fun C3=>aT Q 33 j 5 fun C4=>ld Q 31 C4 fun C5=>bld Q 54 #[(3,A5),(4,A7),(5,A9),(6,C1),(7,C3),(8,C5)] fun C6=>alc Q 54 fun u=>sto Q 54 u C6 fun _=>bY Q Z5 #[u] fun _=>ld Q 54 u fun C9=>sto Q 54 A3 C9 fun _=>bp Q [(some 54,A3)] K) w):Gives Q 137 #[Y5,Z5] w K:=by
 refine aB func137 (by kernel_rfl) ?_;exact mpK h
theorem If (h:aG (fun S w=>hL S 3 Z5 fun A6=>hL S 31 K6 fun A7=>hL S 35 W6 fun A8=>hN S Y5 fun A9=>hF S 54 A9 0 fun C0=>sto Q 3 C0 A6 (fun _=>aY S fun S w=>hN S Y5 fun C1=>hF S 54 C1 1 fun C2=>sto Q 31 C2 A7 (fun _=>aY S fun S w=>hN S Y5 fun C3=>hF S 54 C3 2 fun C4=>sto Q 35 C4 A8 (fun _=>K (Value.tuple #[])) w) w) w) w.drew):Gives Q 138 #[Y5,Z5,K6,W6] w K:=by
 refine aB func138 (by kernel_rfl) ?_;exact mpK h
def cP (r0 a1 a3 A3 made6 e7 D1:Value)(zf:Nat→Value):List Value:=r0::a1::zf 2::a3::A3::zf 5::made6::e7::zT zf 8 15 (D1::zT zf 24 8 ([]))
def il (K:KV):KE:=ae Q (cd f26 [1,1,1]) (rk f26 K) xf (rk f26 K)
def jz (K:KV):KE:=ae Q (cd f26 [1,1,0,1]) (il K) xf (rk f26 K)
theorem Cb (j:Code)(h:box Q 33 Z5 (fun K6=>alc Q 54 fun W6 w=>aG (fun S w=>hN S Y5 fun A8=>hF S 91 A8 1 fun A9=>hL S 79 A9 fun C0=>hN S Y5 fun C2=>hF S 91 C2 0 fun C3=>hL S 3 C3 fun C4=>hL S 33 K6 fun C5=>(call Q 57 #[C0,C4,C5] (fun C6=>aG fun S w=>hld S (ext Q C6 0) fun C7=>hld S (ext Q C6 1) fun C8=>alc Q 54 (fun X6=>aY S fun S=>sto Q 54 X6 C7 fun _=>aY S fun _=>ld Q 54 X6 fun C9=>bld Q 54 #[] fun D0=>bin Q .neq 54 false false C9 D0 fun Z6=>ae Q j (ae Q (cd f26 [1,1,1]) (rk f26 K) (fun _ _ _=>False) (rk f26 K)) (fun _ _ _=>False) (rk f26 K) (cP Y5 Z5 K6 W6 X6 C8 Z6 (zV (zV zu 5 [ci 0]) 8 [C6,Y5,A8,A9,C0,Y5,C2,C3,C4,C5,C6,C7,C8,C9,D0]))) w) w)∧(alc Q 54 (fun X6=>aY S fun _=>call Q 57 #[C0,C4,C5] fun C6=>aG fun S w=>hld S (ext Q C6 0) fun C7=>hld S (ext Q C6 1) fun C8=>sto Q 54 X6 C7 (fun _=>aY S fun _=>ld Q 54 X6 fun C9=>bld Q 54 #[] fun D0=>bin Q .neq 54 false false C9 D0 fun Z6=>ae Q j (ae Q (cd f26 [1,1,1]) (rk f26 K) (fun _ _ _=>False) (rk f26 K)) (fun _ _ _=>False) (rk f26 K) (cP Y5 Z5 K6 W6 X6 C8 Z6 (zV (zV zu 5 [ci 0]) 8 [C6,Y5,A8,A9,C0,Y5,C2,C3,C4,C5,C6,C7,C8,C9,D0]))) w) w)) w.drew) w):ae Q (rep [1,1,0,1] j (cd f26 [])) (rk f26 K) xf (rk f26 K) (cP Y5 Z5 uu uu uu uu uu zu) w:=Eq.mp (by kernel_rfl) h
theorem Bm {K:KV}{Y5 Z5:Value}{w:World}(h:box Q 33 Z5 (fun K6=>alc Q 54 fun W6 w=>aG (fun S w=>hN S Y5 fun A8=>hF S 91 A8 1 fun A9=>hL S 79 A9 fun C0=>hN S Y5 fun C2=>hF S 91 C2 0 fun C3=>hL S 3 C3 fun C4=>hL S 33 K6 fun C5=>(call Q 57 #[C0,C4,C5] (fun C6=>aG fun S w=>hld S (ext Q C6 0) fun C7=>hld S (ext Q C6 1) fun C8=>alc Q 54 (fun X6=>aY S fun S=>sto Q 54 X6 C7 fun _=>aY S fun _=>ld Q 54 X6 fun C9=>bld Q 54 #[] fun D0=>bin Q .neq 54 false false C9 D0 fun Z6=>jz K (cP Y5 Z5 K6 W6 X6 C8 Z6 (zV (zV zu 5 [ci 0]) 8 [C6,Y5,A8,A9,C0,Y5,C2,C3,C4,C5,C6,C7,C8,C9,D0]))) w) w)∧(alc Q 54 (fun X6=>aY S fun _=>call Q 57 #[C0,C4,C5] fun C6=>aG fun S w=>hld S (ext Q C6 0) fun C7=>hld S (ext Q C6 1) fun C8=>sto Q 54 X6 C7 (fun _=>aY S fun _=>ld Q 54 X6 fun C9=>bld Q 54 #[] fun D0=>bin Q .neq 54 false false C9 D0 fun Z6=>jz K (cP Y5 Z5 K6 W6 X6 C8 Z6 (zV (zV zu 5 [ci 0]) 8 [C6,Y5,A8,A9,C0,Y5,C2,C3,C4,C5,C6,C7,C8,C9,D0]))) w) w)) w.drew) w):Gives Q 26 #[Y5,Z5] w K:=aB func26 (by kernel_rfl) (Eq.mp (congrArg (fun c=>ae Q c (rk f26 K) xf (rk f26 K) (cP Y5 Z5 uu uu uu uu uu zu) w) (by kernel_rfl:(rep [1,1,0,1] (cd f26 [1,1,0,1]) (cd f26 []))=(cd f26 []))) (Cb (cd f26 [1,1,0,1]) h))
theorem zt (h:cond Z6 (aG (fun S w=>hN S Y5 fun D3=>hF S 91 D3 2 fun D4=>hL S 82 D4 fun D5=>hL S 54 X6 fun D6=>call Q 58 #[D5,D6] (fun D7=>il K (cP Y5 Z5 K6 W6 X6 Y6 Z6 (zV zf 24 [Y5,D3,D4,D5,D6,D7]))) w) w.drew) (il K (cP Y5 Z5 K6 W6 X6 Y6 Z6 zf) w)):jz K (cP Y5 Z5 K6 W6 X6 Y6 Z6 zf) w:=by
 delta jz;revert h;generalize (il K)=qc0;exact mpF
theorem zv (h:ld Q 54 X6 (fun D8=>sto Q 54 W6 D8 fun _=>bp Q [(some 54,W6),(none,Y6)] K) w):il K (cP Y5 Z5 K6 W6 X6 Y6 Z6 zf) w:=by
 delta il;exact mpK h
attribute [irreducible] il jz
def iz (r0 a1 now2 a4 made6 e7 D3:Value)(zf:Nat→Value):List Value:=r0::a1::now2::zf 3::a4::zf 5::made6::e7::zT zf 8 17 (D3::zT zf 26 27 ([]))
def jc (K:KV):KE:=ae Q (cd f9 [1,1,1,1]) (rk f9 K) xf (rk f9 K)
def om (K:KV):KE:=ae Q (cd f9 (b1 61)) (jc K) xf (rk f9 K)
theorem DT (u:Code)(h:box Q 33 Z5 (fun W6=>alc Q 54 fun X6=>bin Q .eql 26 false true Y5 (Value.pointer none) fun A9 w=>cond A9 (ld Q 54 X6 (fun C0=>sto Q 54 X6 C0 fun _=>bp Q [(some 54,X6),(none,ci 2)] K) w) (ld Q 33 W6 (fun C3=>call Q 26 #[Y5,C3] fun C4=>ext Q C4 0 fun C5=>ext Q C4 1 fun C6=>sto Q 54 X6 C5 fun _=>bin Q .eql 27 false true C6 (ci 11) fun C8 w=>aI C8 true (fun C=>aT Q 33 W6 0 (fun D0=>ld Q 5 D0 fun D1=>bin Q .eql 5 false true D1 (cb 3) fun D2=>C [D0,D1,D2]) w) (fun k=>k [uu,uu,uu] w) fun j=>pick C8 (gd j 2) cF fun Z6=>ae Q u (ae Q (cd f9 [1,1,1,1]) (rk f9 K) (fun _ _ _=>False) (rk f9 K)) (fun _ _ _=>False) (rk f9 K) (iz Y5 Z5 K6 W6 X6 C6 Z6 (zV (zV zu 10 [Y5,A9]) 13 [C4,Y5,C3,C4,C5,C6,C6,C8,C8,gd j 0,gd j 1,gd j 2]))) w)) w):ae Q (rep (b1 61) u (cd f9 [])) (rk f9 K) xf (rk f9 K) (iz Y5 Z5 K6 uu uu uu uu zu) w:=Eq.mp (by kernel_rfl) h
theorem CI {K:KV}{Y5 Z5 K6:Value}{w:World}(h:box Q 33 Z5 (fun W6=>alc Q 54 fun X6=>bin Q .eql 26 false true Y5 (Value.pointer none) fun A9 w=>cond A9 (ld Q 54 X6 (fun C0=>sto Q 54 X6 C0 fun _=>bp Q [(some 54,X6),(none,ci 2)] K) w) (ld Q 33 W6 (fun C3=>call Q 26 #[Y5,C3] fun C4=>ext Q C4 0 fun C5=>ext Q C4 1 fun C6=>sto Q 54 X6 C5 fun _=>bin Q .eql 27 false true C6 (ci 11) fun C8 w=>aI C8 true (fun k22=>aT Q 33 W6 0 (fun D0=>ld Q 5 D0 fun D1=>bin Q .eql 5 false true D1 (cb 3) fun D2=>k22 [D0,D1,D2]) w) (fun k=>k [uu,uu,uu] w) fun us22=>pick C8 (gd us22 2) cF fun Z6=>om K (iz Y5 Z5 K6 W6 X6 C6 Z6 (zV (zV zu 10 [Y5,A9]) 13 [C4,Y5,C3,C4,C5,C6,C6,C8,C8,gd us22 0,gd us22 1,gd us22 2]))) w)) w):Gives Q 9 #[Y5,Z5,K6] w K:=aB func9 (by kernel_rfl) (Eq.mp (congrArg (fun c=>ae Q c (rk f9 K) xf (rk f9 K) (iz Y5 Z5 K6 uu uu uu uu zu) w) (by kernel_rfl:(rep (b1 61) (cd f9 (b1 61)) (cd f9 []))=(cd f9 []))) (DT (cd f9 (b1 61)) h))
theorem Bh (h:cond Z6 (aG (fun S w=>hN S Y5 fun D6=>hF S 91 D6 1 fun D7=>hL S 79 D7 fun D8=>hN S Y5 fun E0=>hF S 91 E0 0 fun E1=>hL S 3 E1 fun E2=>hF S 33 W6 1 fun E3=>hL S 31 E3 fun E4=>hF S 33 W6 3 fun E5=>hL S 2 E5 fun E6=>call Q 27 #[D8,E2,E4,E6] (fun E7=>aG fun S w=>hld S (ext Q E7 0) fun E8=>hld S (ext Q E7 1) fun E9=>aG (fun S w=>hN S Y5 fun F0=>hF S 91 F0 5 fun F1=>hL S 88 F1 fun F2=>hF S 33 W6 3 fun F3=>hL S 2 F3 fun F4=>call Q 28 #[F2,E8,F4,K6] (fun F5=>jc K (iz Y5 Z5 K6 W6 X6 Y6 Z6 (zV (zV zf 8 [E8,E9]) 26 [E7,Y5,D6,D7,D8,Y5,E0,E1,E2,E3,E4,E5,E6,E7,E8,E9,Y5,F0,F1,F2,E8,F3,F4,K6,F5]))) w) w.drew) w) w.drew) (jc K (iz Y5 Z5 K6 W6 X6 Y6 Z6 zf) w)):om K (iz Y5 Z5 K6 W6 X6 Y6 Z6 zf) w:=by
 delta om;revert h;generalize (jc K)=qc0;exact mpF
theorem Bi (h:ld Q 54 X6 (fun F6=>sto Q 54 X6 F6 fun _=>bp Q [(some 54,X6),(none,Y6)] K) w):jc K (iz Y5 Z5 K6 W6 X6 Y6 Z6 zf) w:=by
 delta jc;exact mpK h
attribute [irreducible] jc om
theorem Kf (h:box Q 35 Y5 (fun j=>call Q 165 #[Z5] fun A0=>un Q .not A0 fun A1 w=>cond A1 (K (Value.tuple #[cu 0,ci 10]) w) (bin Q .sub 3 false true Z5 (ci 1) (fun A3=>aV Q 35 j A3 fun A4=>ld Q 31 A4 fun A5=>bin Q .geq 31 false true A5 (cu 1099511627776) fun A6 w=>cond A6 (K (Value.tuple #[cu 0,ci 6]) w) (bin Q .sub 3 false true Z5 (ci 1) (fun A7=>aV Q 35 j A7 fun A8=>ld Q 31 A8 fun A9=>bin Q .add 31 false true A9 (cu 1) fun C0=>K (Value.tuple #[C0,ci 0])) w)) w)) w):Gives Q 136 #[Y5,Z5] w K:=by
 refine aB func136 (by kernel_rfl) ?_;exact mpK h
theorem BP (h:box Q 54 Z5 (fun j=>ld Q 54 j fun A1=>call Q 140 #[Y5,A1] fun A2=>ext Q A2 0 fun _=>ext Q A2 1 K) w):Gives Q 139 #[Y5,Z5] w K:=by
 refine aB func139 (by kernel_rfl) ?_;exact mpK h
theorem wP (h:bin Q .eql 79 false true Y5 (Value.pointer none) (fun A4 w=>cond A4 (K cN w) (aU Y5 (fun A6=>aT Q 135 A6 3 fun A7=>ld Q 127 A7 fun A8=>call Q 99 #[A8,Z5] K) w)) w):Gives Q 59 #[Y5,Z5] w K:=by
 refine aB func59 (by kernel_rfl) ?_;exact mpK h
def me (l0 i1 x3 i5 x7 n12 C3 C4 C5:Value)(zf:Nat→Value):List Value:=l0::i1::zf 2::x3::zf 4::i5::zf 6::x7::zT zf 8 4 (n12::zf 13::zf 14::C3::C4::C5::zT zf 18 15 ([]))
def jk (K:KV):KE:=ae Q (cd f27 [1,1]) (rk f27 K) xf (rk f27 K)
def lT (K:KV):KE:=ae Q (cd f27 [1,0,1,0]) (jk K) (xx xf (jk K) 0) (rk f27 K)
theorem AR (h:call Q 59 #[Y5,W6] (fun Z6=>lN 120 Z6 fun u7=>lT K (me Y5 Z5 K6 uu uu uu Z6 u7 (ci 0) (zV (zV (zV zu 2 [W6]) 8 [cu 0,ci 0]) 13 [Y5,W6]))) w):Gives Q 27 #[Y5,Z5,W6,K6] w K:=by
 refine aB func27 (by kernel_rfl) ?_;revert h;delta lT jk;exact mpF
theorem yP (Inv:Value→World→Prop)(μ:Value→World→Nat)(I:Inv B7 w)(J:∀(j:Value) (dd:Nat→Value) (w:World) (m:Nat),Inv j w→m=μ j w →
  lS j u7 (fun C6 w=>cond C6 (aV Q 120 Z6 j (fun C7=>ld Q 31 C7 fun C8=>call Q 32 #[Y5,Z5,C8] fun D2=>bin Q .lss 2 false false D2 K6 fun D5 w=>cond D5 (bin Q .sub 2 false false K6 D2 (fun D9=>K (Value.tuple #[C8,D9])) w) (nC j (fun E0 w=>(Inv E0 w)∧((μ E0 w)<m)) w)) w) (jk K (me Y5 Z5 K6 W6 X6 (dd 12) Z6 u7 j (zV dd 18 [C6])) w)) w):lT K (me Y5 Z5 K6 W6 X6 Y6 Z6 u7 B7 zf) w:=by
 refine aL (cd f27 (b1 52)) (zr [(8,2),(11,2),(17,16)]) (by kernel_rfl) (vP [17] Inv) (vQ [17] μ) I ?_;intro e' w' hI;have h:=J _ (zM zf (fun i=>gd e' i) (zr [(8,2),(11,2),(17,16)])) w' _ hI rfl;revert h;generalize (jk K)=qc0;exact mpF
theorem yQ (h:K (Value.tuple #[cu 0,ci 0]) w):jk K (me Y5 Z5 K6 W6 X6 Y6 Z6 u7 B7 zf) w:=by
 delta jk;exact mpK h
attribute [irreducible] jk lT
theorem Bp (h:bin Q .geq 2 false true Y5 (ci 1) (fun A3 w=>aI A3 true (fun u=>bin Q .leq 2 false true Y5 (ci 1125899906842624) (fun A5=>u [Y5,A5]) w) (fun k=>k [uu,uu] w) fun j=>pick A3 (gd j 1) cF K) w):Gives Q 114 #[Y5] w K:=by
 refine aB func114 (by kernel_rfl) ?_;exact mpK h
theorem zY (h:call Q 114 #[Y5] (fun A4=>un Q .not A4 fun A5 w=>aI A5 false (fun u=>call Q 114 #[Z5] (fun A8=>un Q .not A8 fun A9=>u [Z5,A8,A9]) w) (fun k=>k [uu,uu,uu] w) fun j=>pick A5 cT (gd j 2) fun C0 w=>cond C0 (K (ci 0) w) (bin Q .add 2 false true Y5 (ci 1) (fun C3=>bin Q .quo 2 false true C3 (ci 2) fun C4=>blt Q .min #[2,2] 2 #[false,false] #[Z5,C4] K) w)) w):Gives Q 82 #[Y5,Z5] w K:=by
 refine aB func82 (by kernel_rfl) ?_;exact mpK h
def gI (of0 who2 most3 j4 n5:Value)(zf:Nat→Value):List Value:=of0::zf 1::who2::most3::j4::n5::zT zf 6 13 ([])
def fz (K:KV):KE:=ae Q (cd f67 [1,1,1]) (rk f67 K) xf (rk f67 K)
def lY (K:KV):KE:=ae Q (cd f67 (b1 58)) (fz K) (xx xf (fz K) 0) (rk f67 K)
def jl (K:KV)(B1:KE):KE:=ae Q (cd f67 (b1 467)) B1 (xx xf (fz K) 0) (rk f67 K)
def kE (K:KV)(B1:KE):KE:=ae Q (cd f67 (b1 466)) (jl K B1) (xx xf (fz K) 0) (rk f67 K)
theorem AU (h:lY K (gI Y5 (ci 0) (ci 0) (ci 1) uu zu) w):Gives Q 67 #[Y5] w K:=by
 refine aB func67 (by kernel_rfl) ?_;revert h;delta lY fz;exact mpF
theorem zN (Inv:vI 3)(μ:vM 3)(h0:Inv Z5 K6 W6 w)(hs:∀(who2' most3' j4':Value) (dd:Nat→Value) (w:World) (m:Nat),Inv who2' most3' j4' w→m=μ who2' most3' j4' w →
  bin Q .leq 3 false true j4' (ci 6) (fun A5 w=>cond A5 (kE K (fun e2 w2=>(Inv (gd e2 2) (gd e2 3) (gd e2 4) w2)∧((μ (gd e2 2) (gd e2 3) (gd e2 4) w2)<m)) (gI Y5 who2' most3' j4' (dd 5) (zV dd 6 [j4',A5])) w) (fz K (gI Y5 who2' most3' j4' (dd 5) (zV dd 6 [j4',A5])) w)) w):lY K (gI Y5 Z5 K6 W6 X6 zf) w:=by
 refine aL (cd f67 (b1 116)) (zr [(2,16)]) (by kernel_rfl) (vP [2,3,4] Inv) (vQ [2,3,4] μ) h0 ?_
 intro e' w' hI
 have h:=hs _ _ _ (zM zf (fun i=>gd e' i) (zr [(2,16)])) w' _ hI rfl
 refine Eq.mp (congrArg (fun c=>ae Q c _ _ _ _ w') (by kernel_rfl:(rep [1,0] (cd f67 (b1 466)) (cd f67 (b1 116)))=(cd f67 (b1 116)))) ?_
 revert h
 delta kE jl
 generalize (cd f67 (b1 466))=xc0
 generalize (fz K)=qc0
 exact mpF
theorem yS (h:bY Q Y5 #[W6] (fun C0=>bin Q .gtr 2 false false C0 K6 fun C3 w=>cond C3 (jl K B1 (gI Y5 W6 C0 W6 C0 (zV zf 10 [Y5,W6,C0,C0,K6,C3,W6,C0])) w) (jl K B1 (gI Y5 Z5 K6 W6 C0 (zV zf 10 [Y5,W6,C0,C0,K6,C3])) w)) w):kE K B1 (gI Y5 Z5 K6 W6 X6 zf) w:=by
 delta kE;revert h;generalize (jl K B1)=qc0;generalize (fz K)=qc1;exact mpF
theorem zU (h:K Z5 w):fz K (gI Y5 Z5 K6 W6 X6 zf) w:=by
 delta fz;exact mpK h
theorem vd (h:nC W6 (fun A7=>B1 (gI Y5 Z5 K6 A7 X6 (zV zf 8 [W6,A7]))) w):jl K B1 (gI Y5 Z5 K6 W6 X6 zf) w:=by
 delta jl;revert h;generalize (fz K)=qc0;exact mpF
attribute [irreducible] fz lY jl kE
theorem AT (h:box Q 45 Y5 (fun C=>box Q 3 Z5 fun u=>box Q 31 K6 fun j=>call Q 67 #[Value.func (Fn.func 68) #[] #[u,C,j]] K) w):Gives Q 36 #[Y5,Z5,K6] w K:=by
 refine aB func36 (by kernel_rfl) ?_;exact mpK h
def fO (j0 A2 j4 n5 x7 D5 D6 D7:Value)(zf:Nat→Value):List Value:=j0::zf 1::zf 2::A2::j4::n5::zf 6::x7::zT zf 8 19 (D5::D6::D7::zT zf 30 15 ([]))
def fe (K:KV):KE:=ae Q (cd f68 [1,1,1]) (rk f68 K) xf (rk f68 K)
def kK (K:KV):KE:=ae Q (cd f68 (b1 58)) (fe K) (xx xf (fe K) 0) (rk f68 K)
def gx (K:KV)(B1:KE):KE:=ae Q (cd f68 (b1 935)) B1 (xx xf (fe K) 0) (rk f68 K)
def kf (K:KV)(B1:KE):KE:=ae Q (cd f68 (b1 934)) (gx K B1) (xx xf (fe K) 0) (rk f68 K)
theorem yR (h:ld Q 3 K6 (fun A7=>bin Q .eql 3 false false Y5 A7 fun A8 w=>aI A8 false (fun C=>bin Q .sub 3 false true Y5 (ci 1) (fun C1=>aT Q 45 W6 0 fun C2=>aV Q 41 C2 C1 fun C3=>ld Q 4 C3 fun C4=>un Q .not C4 fun C5=>C [Y5,C1,C2,C3,C4,C5]) w) (fun k=>k [uu,uu,uu,uu,uu,uu] w) fun j=>pick A8 cT (gd j 5) fun C6 w=>aI C6 false (fun I=>bin Q .sub 3 false true Y5 (ci 1) (fun C9=>aT Q 45 W6 1 fun D0=>aV Q 41 D0 C9 fun D1=>ld Q 4 D1 fun D2=>I [Y5,C9,D0,D1,D2]) w) (fun k=>k [uu,uu,uu,uu,uu] w) fun u=>pick C6 cT (gd u 4) fun D3 w=>cond D3 (K (ci 0) w) (aT Q 45 W6 3 (fun D4=>ld Q 42 D4 fun Y6=>lN 42 Y6 fun Z6=>kK K (fO Y5 Z5 uu (ci 0) uu Y6 Z6 (ci 0) (zV (zV zu 1 [K6,W6]) 8 [Y5,A7,A8,A8,gd j 0,gd j 1,gd j 2,gd j 3,gd j 4,gd j 5,C6,C6,gd u 0,gd u 1,gd u 2,gd u 3,gd u 4,D3,D4]))) w)) w):Gives Q 68 #[Y5,K6,W6,Z5] w K:=by
 refine aB func68 (by kernel_rfl) ?_;revert h;delta kK fe;exact mpF
theorem yj (Inv:Value→Value→World→Prop)(μ:Value→Value→World→Nat)(h0:Inv W6 u7 w)(hs:∀(n5' D7':Value) (dd:Nat→Value) (w:World) (m:Nat),Inv n5' D7' w→m=μ n5' D7' w →
  lS D7' Z6 (fun D8 w=>cond D8 (kf K (fun e2 w2=>(Inv (gd e2 5) (gd e2 29) w2)∧((μ (gd e2 5) (gd e2 29) w2)<m)) (fO Y5 Z5 K6 n5' (dd 7) Y6 Z6 D7' (zV dd 30 [D8])) w) (fe K (fO Y5 Z5 K6 n5' (dd 7) Y6 Z6 D7' (zV dd 30 [D8])) w)) w):kK K (fO Y5 Z5 K6 W6 X6 Y6 Z6 u7 zf) w:=by
 refine aL (cd f68 (b1 116)) (zr [(5,1),(7,1),(29,15)]) (by kernel_rfl) (vP [5,29] Inv) (vQ [5,29] μ) h0 ?_
 intro e' w' hI
 have h:=hs _ _ (zM zf (fun i=>gd e' i) (zr [(5,1),(7,1),(29,15)])) w' _ hI rfl
 refine Eq.mp (congrArg (fun c=>ae Q c _ _ _ _ w') (by kernel_rfl:(rep [1,1,0] (cd f68 (b1 934)) (cd f68 (b1 116)))=(cd f68 (b1 116)))) ?_
 revert h
 delta kf gx
 generalize (cd f68 (b1 934))=xc0
 generalize (fe K)=qc0
 exact mpF
theorem yi (h:aV Q 42 Y6 u7 (fun D9=>ld Q 52 D9 fun E0=>alc Q 52 fun X6=>sto Q 52 X6 E0 fun _=>aT Q 52 X6 0 fun E1=>ld Q 31 E1 fun E2=>ld Q 31 Z5 fun E3=>bin Q .eql 31 false false E2 E3 fun E4 w=>cond E4 (aT Q 52 X6 2 (fun E5=>ld Q 50 E5 fun E6=>call Q 63 #[E6,Y5] fun E7=>blt Q .max #[2,2] 2 #[false,false] #[W6,E7] fun E8=>gx K B1 (fO Y5 Z5 K6 E8 X6 Y6 Z6 u7 (zV zf 31 [D9,E0,E1,E2,E3,E4,W6,E5,E6,Y5,E7,E8]))) w) (gx K B1 (fO Y5 Z5 K6 W6 X6 Y6 Z6 u7 (zV zf 31 [D9,E0,E1,E2,E3,E4])) w)) w):kf K B1 (fO Y5 Z5 K6 W6 X6 Y6 Z6 u7 zf) w:=by
 delta kf;revert h;generalize (gx K B1)=qc0;generalize (fe K)=qc1;exact mpF
theorem yk (h:K W6 w):fe K (fO Y5 Z5 K6 W6 X6 Y6 Z6 u7 zf) w:=by
 delta fe;exact mpK h
theorem rr (h:nC u7 (fun E9=>B1 (fO Y5 Z5 K6 W6 X6 Y6 Z6 E9 (zV zf 43 [E9]))) w):gx K B1 (fO Y5 Z5 K6 W6 X6 Y6 Z6 u7 zf) w:=by
 delta gx;revert h;generalize (fe K)=qc0;exact mpF
attribute [irreducible] fe kK gx kf
def bm (r0 now1 out4 s5 live6 w_8 C5 C6 C7 F0 F1 F2 H9 I0 I1:Value)(zf:Nat→Value):List Value:=r0::now1::zf 2::zf 3::out4::s5::live6::zf 7::w_8::zT zf 9 25 (C5::C6::C7::zT zf 37 25 (F0::F1::F2::zT zf 65 36 (H9::I0::I1::zT zf 104 42 ([]))))
def fk (K:KV):KE:=ae Q (cd f10 (b1 127)) (rk f10 K) xf (rk f10 K)
def pu (K:KV):KE:=ae Q (cd f10 (b1 506)) (fk K) (xx xf (fk K) 0) (rk f10 K)
def pw (K:KV)(B1:KE):KE:=ae Q (cd f10 (b1 8103)) B1 (xx xf (fk K) 0) (rk f10 K)
def po (K:KV)(B1:KE):KE:=ae Q (cd f10 (b1 8102)) (pw K B1) (xx xf (fk K) 0) (rk f10 K)
def dC (K:KV):KE:=ae Q (cd f10 (b1 255)) (rk f10 K) xf (rk f10 K)
def nh (K:KV):KE:=ae Q (cd f10 (b1 1018)) (dC K) (xx xf (dC K) 2) (rk f10 K)
def gA (K:KV)(B1:KE):KE:=ae Q (cd f10 (b1 16295)) B1 (xx xf (dC K) 2) (rk f10 K)
def kX (K:KV)(B1:KE):KE:=ae Q (cd f10 (b1 16294)) (gA K B1) (xx xf (dC K) 2) (rk f10 K)
def eD (K:KV):KE:=ae Q (cd f10 (b1 511)) (rk f10 K) xf (rk f10 K)
def ni (K:KV):KE:=ae Q (cd f10 (b1 2042)) (eD K) (xx xf (eD K) 4) (rk f10 K)
def py (K:KV)(B1:KE):KE:=ae Q (cd f10 (b1 32679)) B1 (xx xf (eD K) 4) (rk f10 K)
def gw (K:KV)(B1:KE):KE:=ae Q (cd f10 (b1 32678)) (py K B1) (xx xf (eD K) 4) (rk f10 K)
theorem wN (h:bin Q .eql 26 false true Y5 (Value.pointer none) (fun A0 w=>cond A0 (K cN w) (aU Y5 (fun A1=>aT Q 91 A1 1 fun A2=>ld Q 79 A2 fun A3=>call Q 25 #[A3] fun A4=>alc Q 45 fun W6=>sto Q 45 W6 A4 fun _=>ld Q 45 W6 fun A5=>call Q 29 #[A5] fun A6=>aU Y5 fun A7=>aT Q 91 A7 0 fun A8=>ld Q 3 A8 fun A9=>call Q 30 #[A6,A9] fun C0=>un Q .not C0 fun C1 w=>cond C1 (K cN w) (aU Y5 (fun C2=>aT Q 91 C2 5 fun C3=>ld Q 88 C3 fun C4=>call Q 31 #[C4] fun Z6=>lN 99 Z6 fun u7=>ae Q (cd f10 (b1 506)) (ae Q (cd f10 (b1 127)) (rk f10 K) (fun _ _ _=>False) (rk f10 K)) (fun i=>@Bool.rec (fun _=>KE) ((fun _ _ _=>False) i) (ae Q (cd f10 (b1 127)) (rk f10 K) (fun _ _ _=>False) (rk f10 K)) (Nat.beq i 0)) (rk f10 K) (bm Y5 Z5 cN W6 A6 uu Z6 u7 (ci 0) uu uu uu uu uu uu (zV zu 14 [Y5,A0,Y5,A1,A2,A3,A4,A5,A6,A6,Y5,A7,A8,A9,C0,C1,Y5,C2,C3,C4]))) w)) w)) w):ae Q (cd f10 []) (rk f10 K) xf (rk f10 K) (bm Y5 Z5 uu uu uu uu uu uu uu uu uu uu uu uu uu zu) w:=Eq.mp (by kernel_rfl) h
theorem Bl {K:KV}{Y5 Z5:Value}{w:World}(h:bin Q .eql 26 false true Y5 (Value.pointer none) (fun A0 w=>cond A0 (K cN w) (aU Y5 (fun A1=>aT Q 91 A1 1 fun A2=>ld Q 79 A2 fun A3=>call Q 25 #[A3] fun A4=>alc Q 45 fun W6=>sto Q 45 W6 A4 fun _=>ld Q 45 W6 fun A5=>call Q 29 #[A5] fun A6=>aU Y5 fun A7=>aT Q 91 A7 0 fun A8=>ld Q 3 A8 fun A9=>call Q 30 #[A6,A9] fun C0=>un Q .not C0 fun C1 w=>cond C1 (K cN w) (aU Y5 (fun C2=>aT Q 91 C2 5 fun C3=>ld Q 88 C3 fun C4=>call Q 31 #[C4] fun Z6=>lN 99 Z6 fun u7=>pu K (bm Y5 Z5 cN W6 A6 uu Z6 u7 (ci 0) uu uu uu uu uu uu (zV zu 14 [Y5,A0,Y5,A1,A2,A3,A4,A5,A6,A6,Y5,A7,A8,A9,C0,C1,Y5,C2,C3,C4]))) w)) w)) w):Gives Q 10 #[Y5,Z5] w K:=aB func10 (by kernel_rfl) (Eq.mp (congrArg (fun c=>ae Q c (rk f10 K) xf (rk f10 K) (bm Y5 Z5 uu uu uu uu uu uu uu uu uu uu uu uu uu zu) w) (by kernel_rfl:(cd f10 [])=(cd f10 []))) (wN h))
theorem ze (Inv:Value→World→Prop)(μ:Value→World→Nat)(h0:Inv B7 w)(hs:∀(C7':Value) (dd:Nat→Value) (w:World) (m:Nat),Inv C7' w→m=μ C7' w →
  lS C7' u7 (fun C8 w=>cond C8 (po K (fun e2 w2=>(Inv (gd e2 36) w2)∧((μ (gd e2 36) w2)<m)) (bm Y5 Z5 K6 W6 X6 (dd 8) Z6 u7 C7' K7 W7 X7 Y7 Z7 B8 (zV dd 37 [C8])) w) (fk K (bm Y5 Z5 K6 W6 X6 (dd 8) Z6 u7 C7' K7 W7 X7 Y7 Z7 B8 (zV dd 37 [C8])) w)) w):pu K (bm Y5 Z5 K6 W6 X6 Y6 Z6 u7 B7 K7 W7 X7 Y7 Z7 B8 zf) w:=by
 refine aL (cd f10 (b1 1012)) (zr [(8,1),(36,26)]) (by kernel_rfl) (vP [36] Inv) (vQ [36] μ) h0 ?_
 intro e' w' hI
 have h:=hs _ (zM zf (fun i=>gd e' i) (zr [(8,1),(36,26)])) w' _ hI rfl
 refine Eq.mp (congrArg (fun c=>ae Q c _ _ _ _ w') (by kernel_rfl:(rep [1,1,0] (cd f10 (b1 8102)) (cd f10 (b1 1012)))=(cd f10 (b1 1012)))) ?_
 revert h
 delta po pw
 generalize (cd f10 (b1 8102))=xc0
 generalize (fk K)=qc0
 exact mpF
theorem rO (h:aV Q 99 Z6 B7 (fun C9=>ld Q 102 C9 fun D0=>alc Q 102 fun Y6=>sto Q 102 Y6 D0 fun _ w=>aG (fun S w=>hN S Y5 fun D1=>hF S 91 D1 1 fun D2=>hL S 79 D2 fun D3=>hN S Y5 fun D4=>hF S 91 D4 0 fun D5=>hL S 3 D5 fun D6=>hF S 102 Y6 0 fun D7=>hL S 31 D7 fun D8=>hF S 102 Y6 1 fun E0=>hL S 2 E0 fun E1=>call Q 32 #[D3,D6,D8] (fun D9=>aY S fun S w=>hld S (bin Q .geq 2 false false D9 E1) fun E2=>cond E2 (aG (fun S w=>hN S Y5 fun E3=>hF S 91 E3 5 fun E4=>hL S 88 E4 fun E5=>hF S 102 Y6 0 fun E6=>hL S 31 E6 fun E7=>call Q 33 #[E5,E7] (fun E8=>pw K B1 (bm Y5 Z5 K6 W6 X6 Y6 Z6 u7 B7 K7 W7 X7 Y7 Z7 B8 (zV zf 38 [C9,D0,Y5,D1,D2,D3,Y5,D4,D5,D6,D7,D8,D9,E0,E1,E2,Y5,E3,E4,E5,E6,E7,E8]))) w) w.drew) (pw K B1 (bm Y5 Z5 K6 W6 X6 Y6 Z6 u7 B7 K7 W7 X7 Y7 Z7 B8 (zV zf 38 [C9,D0,Y5,D1,D2,D3,Y5,D4,D5,D6,D7,D8,D9,E0,E1,E2])) w)) w) w.drew) w):po K B1 (bm Y5 Z5 K6 W6 X6 Y6 Z6 u7 B7 K7 W7 X7 Y7 Z7 B8 zf) w:=by
 delta po;revert h;generalize (pw K B1)=qc0;generalize (fk K)=qc1;exact mpF
theorem rQ (h:lN 96 X6 (fun W7=>nh K (bm Y5 Z5 K6 W6 X6 Y6 Z6 u7 B7 X6 W7 (ci 0) Y7 Z7 B8 zf)) w):fk K (bm Y5 Z5 K6 W6 X6 Y6 Z6 u7 B7 K7 W7 X7 Y7 Z7 B8 zf) w:=by
 delta fk;revert h;delta nh dC;exact mpF
theorem lg (h:nC B7 (fun E9=>B1 (bm Y5 Z5 K6 W6 X6 Y6 Z6 u7 E9 K7 W7 X7 Y7 Z7 B8 (zV zf 61 [E9]))) w):pw K B1 (bm Y5 Z5 K6 W6 X6 Y6 Z6 u7 B7 K7 W7 X7 Y7 Z7 B8 zf) w:=by
 delta pw;revert h;generalize (fk K)=qc0;exact mpF
theorem zh (Inv:Value→Value→World→Prop)(μ:Value→Value→World→Nat)(h0:Inv K6 X7 w)(hs:∀(out4' F2':Value) (dd:Nat→Value) (w:World) (m:Nat),Inv out4' F2' w→m=μ out4' F2' w →
  lS F2' W7 (fun F3 w=>cond F3 (kX K (fun e2 w2=>(Inv (gd e2 4) (gd e2 64) w2)∧((μ (gd e2 4) (gd e2 64) w2)<m)) (bm Y5 Z5 out4' W6 X6 Y6 Z6 u7 B7 K7 W7 F2' Y7 Z7 B8 (zV dd 65 [F3])) w) (dC K (bm Y5 Z5 out4' W6 X6 Y6 Z6 u7 B7 K7 W7 F2' Y7 Z7 B8 (zV dd 65 [F3])) w)) w):nh K (bm Y5 Z5 K6 W6 X6 Y6 Z6 u7 B7 K7 W7 X7 Y7 Z7 B8 zf) w:=by
 refine aL (cd f10 (b1 2036)) (zr [(4,1),(10,1),(64,32)]) (by kernel_rfl) (vP [4,64] Inv) (vQ [4,64] μ) h0 ?_
 intro e' w' hI
 have h:=hs _ _ (zM zf (fun i=>gd e' i) (zr [(4,1),(10,1),(64,32)])) w' _ hI rfl
 refine Eq.mp (congrArg (fun c=>ae Q c _ _ _ _ w') (by kernel_rfl:(rep [1,1,0] (cd f10 (b1 16294)) (cd f10 (b1 2036)))=(cd f10 (b1 2036)))) ?_
 revert h
 delta kX gA
 generalize (cd f10 (b1 16294))=xc0
 generalize (dC K)=qc0
 exact mpF
theorem rV (h:aV Q 96 K7 X7 (fun F4=>ld Q 3 F4 fun F5=>aU Y5 fun F6=>aT Q 91 F6 0 fun F7=>ld Q 3 F7 fun F8=>bin Q .neq 3 false false F5 F8 fun F9 w=>cond F9 (aG (fun S w=>hN S Y5 fun G0=>hF S 91 G0 0 fun G1=>hL S 3 G1 fun G2=>hF S 45 W6 2 fun G3=>hL S 35 G3 fun G4=>hN S Y5 fun G5=>hF S 91 G5 4 fun G6=>hL S 86 G6 fun G7=>hN S Y5 fun G8=>hF S 91 G8 2 fun G9=>hL S 82 G9 fun H0=>call Q 34 #[G7,F5,H0,ci 16] (fun H1=>aY S fun S w=>hld S (bld Q 38 #[(0,cb 1),(1,G2),(2,F5),(3,G4),(4,H1)]) fun H2=>bT Q 30 1 #[(0,H2)] (fun H3=>aG fun _=>blt Q .append #[30,30] 30 #[false,false] #[K6,H3] fun H4=>aG fun _=>gA K B1 (bm Y5 Z5 H4 W6 X6 Y6 Z6 u7 B7 K7 W7 X7 Y7 Z7 B8 (zV (zV zf 10 [F5]) 66 [F4,F5,F5,Y5,F6,F7,F8,F9,K6,Y5,G0,G1,G2,F5,G3,G4,Y5,G5,G6,G7,F5,Y5,G8,G9,H0,H1,H2,H3,H4]))) w) w) w.drew) (gA K B1 (bm Y5 Z5 K6 W6 X6 Y6 Z6 u7 B7 K7 W7 X7 Y7 Z7 B8 (zV (zV zf 10 [F5]) 66 [F4,F5,F5,Y5,F6,F7,F8,F9])) w)) w):kX K B1 (bm Y5 Z5 K6 W6 X6 Y6 Z6 u7 B7 K7 W7 X7 Y7 Z7 B8 zf) w:=by
 delta kX;revert h;generalize (gA K B1)=qc0;generalize (dC K)=qc1;exact mpF
theorem zo (h:aU Y5 (fun H6=>aT Q 91 H6 5 fun H7=>ld Q 88 H7 fun H8=>call Q 35 #[H8,Z5] fun Y7=>lN 99 Y7 fun Z7=>ni K (bm Y5 Z5 K6 W6 X6 Y6 Z6 u7 B7 K7 W7 X7 Y7 Z7 (ci 0) (zV zf 96 [Y5,H6,H7,H8,Z5]))) w):dC K (bm Y5 Z5 K6 W6 X6 Y6 Z6 u7 B7 K7 W7 X7 Y7 Z7 B8 zf) w:=by
 delta dC;revert h;delta ni eD;exact mpF
theorem rW (h:nC X7 (fun H5=>B1 (bm Y5 Z5 K6 W6 X6 Y6 Z6 u7 B7 K7 W7 H5 Y7 Z7 B8 (zV zf 95 [H5]))) w):gA K B1 (bm Y5 Z5 K6 W6 X6 Y6 Z6 u7 B7 K7 W7 X7 Y7 Z7 B8 zf) w:=by
 delta gA;revert h;generalize (dC K)=qc0;exact mpF
theorem zj (Inv:Value→Value→World→Prop)(μ:Value→Value→World→Nat)(h0:Inv K6 B8 w)(hs:∀(out4' I1':Value) (dd:Nat→Value) (w:World) (m:Nat),Inv out4' I1' w→m=μ out4' I1' w →
  lS I1' Z7 (fun I2 w=>cond I2 (gw K (fun e2 w2=>(Inv (gd e2 4) (gd e2 103) w2)∧((μ (gd e2 4) (gd e2 103) w2)<m)) (bm Y5 Z5 out4' W6 X6 Y6 Z6 u7 B7 K7 W7 X7 Y7 Z7 I1' (zV dd 104 [I2])) w) (eD K (bm Y5 Z5 out4' W6 X6 Y6 Z6 u7 B7 K7 W7 X7 Y7 Z7 I1' (zV dd 104 [I2])) w)) w):ni K (bm Y5 Z5 K6 W6 X6 Y6 Z6 u7 B7 K7 W7 X7 Y7 Z7 B8 zf) w:=by
 refine aL (cd f10 (b1 4084)) (zr [(4,1),(12,2),(103,42)]) (by kernel_rfl) (vP [4,103] Inv) (vQ [4,103] μ) h0 ?_
 intro e' w' hI
 have h:=hs _ _ (zM zf (fun i=>gd e' i) (zr [(4,1),(12,2),(103,42)])) w' _ hI rfl
 refine Eq.mp (congrArg (fun c=>ae Q c _ _ _ _ w') (by kernel_rfl:(rep [1,1,0] (cd f10 (b1 32678)) (cd f10 (b1 4084)))=(cd f10 (b1 4084)))) ?_
 revert h
 delta gw py
 generalize (cd f10 (b1 32678))=xc0
 generalize (eD K)=qc0
 exact mpF
theorem rP (h:aV Q 99 Y7 B8 (fun I3=>ld Q 102 I3 fun I4=>alc Q 102 fun j=>sto Q 102 j I4 fun _ w=>aG (fun S w=>hL S 45 W6 fun I5=>hN S Y5 fun I6=>hF S 91 I6 0 fun I7=>hL S 3 I7 fun I8=>hF S 102 j 0 fun I9=>hL S 31 I9 fun J0=>call Q 36 #[I5,I8,J0] (fun J1=>aG fun _=>bin Q .neq 3 false true J1 (ci 0) fun J2 w=>cond J2 (aG (fun S w=>hN S Y5 fun J3=>hF S 91 J3 0 fun J4=>hL S 3 J4 fun J5=>hF S 45 W6 2 fun J6=>hL S 35 J6 fun J7=>hF S 102 j 0 fun J8=>hL S 31 J8 fun J9=>hF S 102 j 1 fun L0=>hL S 2 L0 fun L1=>hN S Y5 fun L2=>hF S 91 L2 1 fun L3=>hL S 79 L3 fun L4=>hN S Y5 fun L5=>hF S 91 L5 0 fun L6=>hL S 3 L6 fun L7=>hF S 102 j 0 fun L8=>hL S 31 L8 fun L9=>call Q 32 #[L4,L7,L9] (fun M0=>aY S fun S w=>hld (fun _=>True) (bin Q .sub 2 false false L1 M0) fun M1=>hld S (bld Q 38 #[(0,cb 2),(1,J5),(2,J1),(3,J7),(5,J9),(6,M1)]) fun M2=>bT Q 30 1 #[(0,M2)] (fun M3=>aG fun _=>blt Q .append #[30,30] 30 #[false,false] #[K6,M3] fun M4=>aG fun _=>py K B1 (bm Y5 Z5 M4 W6 X6 Y6 Z6 u7 B7 K7 W7 X7 Y7 Z7 B8 (zV (zV zf 12 [j,J1]) 105 [I3,I4,I5,Y5,I6,I7,I8,I9,J0,J1,J1,J2,K6,Y5,J3,J4,J5,J1,J6,J7,J8,J9,L0,L1,Y5,L2,L3,L4,Y5,L5,L6,L7,L8,L9,M0,M1,M2,M3,M4]))) w) w) w.drew) (py K B1 (bm Y5 Z5 K6 W6 X6 Y6 Z6 u7 B7 K7 W7 X7 Y7 Z7 B8 (zV (zV zf 12 [j,J1]) 105 [I3,I4,I5,Y5,I6,I7,I8,I9,J0,J1,J1,J2])) w)) w) w.drew) w):gw K B1 (bm Y5 Z5 K6 W6 X6 Y6 Z6 u7 B7 K7 W7 X7 Y7 Z7 B8 zf) w:=by
 delta gw;revert h;generalize (py K B1)=qc0;generalize (eD K)=qc1;exact mpF
theorem zq (h:K K6 w):eD K (bm Y5 Z5 K6 W6 X6 Y6 Z6 u7 B7 K7 W7 X7 Y7 Z7 B8 zf) w:=by
 delta eD;exact mpK h
theorem ll (h:nC B8 (fun M5=>B1 (bm Y5 Z5 K6 W6 X6 Y6 Z6 u7 B7 K7 W7 X7 Y7 Z7 M5 (zV zf 144 [M5]))) w):py K B1 (bm Y5 Z5 K6 W6 X6 Y6 Z6 u7 B7 K7 W7 X7 Y7 Z7 B8 zf) w:=by
 delta py;revert h;generalize (eD K)=qc0;exact mpF
attribute [irreducible] fk pu pw po dC nh gA kX eD ni py gw
theorem yH (h:call Q 60 #[Y5,Z5] (fun A0=>bin Q .geq 3 false true A0 (ci 0) K) w):Gives Q 30 #[Y5,Z5] w K:=by
 refine aB func30 (by kernel_rfl) ?_;exact mpK h
def qg (s0 v1 s2 i5 A0 A1:Value)(zf:Nat→Value):List Value:=s0::v1::s2::zf 3::zf 4::i5::zf 6::A0::A1::zT zf 9 10 ([])
def jA (K:KV):KE:=ae Q (cd f60 [1,1]) (rk f60 K) xf (rk f60 K)
def nj (K:KV):KE:=ae Q (cd f60 [1,0,1,0]) (jA K) (xx xf (jA K) 0) (rk f60 K)
theorem Bn (h:lN 96 Y5 (fun X6=>nj K (qg Y5 Z5 uu uu X6 (ci 0) (zV (zV zu 4 [ci 0]) 6 [Y5]))) w):Gives Q 60 #[Y5,Z5] w K:=by
 refine aB func60 (by kernel_rfl) ?_;revert h;delta nj jA;exact mpF
theorem zx (Inv:Value→World→Prop)(μ:Value→World→Nat)(I:Inv Y6 w)(J:∀(j:Value) (dd:Nat→Value) (w:World) (m:Nat),Inv j w→m=μ j w →
  lS j X6 (fun A2 w=>cond A2 (aV Q 96 Y5 j (fun A3=>ld Q 3 A3 fun A4=>bin Q .eql 3 false false Z5 A4 fun A5 w=>cond A5 (K j w) (nC j (fun A6 w=>(Inv A6 w)∧((μ A6 w)<m)) w)) w) (jA K (qg Y5 Z5 K6 (dd 5) X6 j (zV dd 9 [A2])) w)) w):nj K (qg Y5 Z5 K6 W6 X6 Y6 zf) w:=by
 refine aL (cd f60 (b1 52)) (zr [(4,2),(8,11)]) (by kernel_rfl) (vP [8] Inv) (vQ [8] μ) I ?_;intro e' w' hI;have h:=J _ (zM zf (fun i=>gd e' i) (zr [(4,2),(8,11)])) w' _ hI rfl;revert h;generalize (jA K)=qc0;exact mpF
attribute [irreducible] jA nj
def yI (made3 f4 l5 C8 C9 D0 D3 D4 D5 D8 D9 E0 E1 E2 E5 E6 E7 E8 E9 F2 F3 F4 F5 F6 F7 F9 G0 G1 G2 G3 G4 G5 G6:Value)(zf:Nat→Value):List Value:=zT zf 0 3 (made3::f4::l5::zT zf 6 21 (C8::C9::D0::zf 30::zf 31::D3::D4::D5::zf 35::zf 36::D8::D9::E0::E1::E2::zf 42::zf 43::E5::E6::E7::E8::E9::zf 49::zf 50::F2::F3::F4::F5::F6::F7::zf 57::zf 58::F9::G0::G1::G2::G3::G4::G5::G6::zf 67::[]))
def nQ (K:KV):KE:=ae Q (cd f6 (b1 63)) (rk f6 K) xf (rk f6 K)
theorem ER {K:KV}{w:World}(h:call Q 7 #[ci 2,ci 1] (fun A0=>ext Q A0 0 fun A1=>ext Q A0 1 fun A2=>bin Q .neq 27 false true A2 (ci 0) fun A4 w=>aI A4 false (fun k13=>bin Q .eql 26 false true A1 (Value.pointer none) (fun A6=>k13 [A1,A6]) w) (fun k=>k [uu,uu] w) fun us13=>pick A4 cT (gd us13 1) fun A7 w=>cond A7 (K cF w) (bld Q 33 #[(0,cb 1),(3,ci 10)] (fun C0=>call Q 9 #[A1,C0,cu 0] fun C1=>ext Q C1 0 fun C2=>ext Q C1 1 fun C3=>alc Q 54 fun Y5=>sto Q 54 Y5 C2 fun _=>call Q 10 #[A1,cu 1] fun C5=>nQ K (yI Y5 C3 C5 uu uu uu uu uu uu uu uu uu uu uu uu uu uu uu uu uu uu uu uu uu uu uu uu uu uu uu uu uu uu (zV (zV zu 0 [cF,A1,A2]) 6 [A0,A0,A1,A2,A2,A4,A4,gd us13 0,gd us13 1,A7,C1,A1,C0,C1,C2,C3,A1,C5]))) w)) w):Gives Q 6 #[] w K:=by
 refine aB func6 (by kernel_rfl) ?_
 refine Eq.mp (congrArg (fun c=>ae Q c _ _ _ _ w) (by kernel_rfl:(rep (b1 63) (cd f6 (b1 63)) (cd f6 []))=(cd f6 []))) ?_
 revert h
 delta nQ
 generalize (cd f6 (b1 63))=xc0
 exact mpF
theorem Dm (h:sti (bin Q .eql 27 false true Z5 (ci 0)) (fun C7 w=>aI C7 true (fun O=>sF 54 Y5 1 (fun W6=>sL 31 W6 fun X6=>sti (bin Q .eql 31 false true X6 (cu 1)) fun Y6=>O [W6,X6,Y6]) w) (fun k=>k [uu,uu,uu] w) fun j=>sti (pick C7 (gd j 2) cF) fun D1 w=>aI D1 true (fun U=>sti (blt Q .len #[30] 3 #[false] #[K6]) (fun u7=>sti (bin Q .eql 3 false true u7 (ci 1)) fun B7=>U [K6,u7,B7]) w) (fun k=>k [uu,uu,uu] w) fun u=>sti (pick D1 (gd u 2) cF) fun D6 w=>aI D6 true (fun aa=>sI 30 K6 (ci 0) (fun W7=>sF 38 W7 2 fun X7=>sL 3 X7 fun Y7=>sti (bin Q .eql 3 false true Y7 (ci 2)) fun Z7=>aa [K6,W7,X7,Y7,Z7]) w) (fun k=>k [uu,uu,uu,uu,uu] w) fun C=>sti (pick D6 (gd C 4) cF) fun E3 w=>aI E3 true (fun ad=>sI 30 K6 (ci 0) (fun K8=>sF 38 K8 0 fun W8=>sL 5 W8 fun X8=>sti (bin Q .eql 5 false true X8 (cb 1)) fun Y8=>ad [K6,K8,W8,X8,Y8]) w) (fun k=>k [uu,uu,uu,uu,uu] w) fun I=>sti (pick E3 (gd I 4) cF) fun F0 w=>aI F0 true (fun af=>sI 30 K6 (ci 0) (fun l9=>sF 38 l9 4 fun n9=>sL 36 n9 fun u9=>sti (blt Q .len #[36] 3 #[false] #[u9]) fun B9=>sti (bin Q .eql 3 false true B9 (ci 1)) fun K9=>af [K6,l9,n9,u9,B9,K9]) w) (fun k=>k [uu,uu,uu,uu,uu,uu] w) fun J=>sti (pick F0 (gd J 5) cF) fun F8 w=>aI F8 true (fun ag=>sI 30 K6 (ci 0) (fun X9=>sF 38 X9 4 fun Y9=>sL 36 Y9 fun Z9=>sI 36 Z9 (ci 0) fun ia=>sL 54 ia fun ja=>sL 54 Y5 fun ka=>sti (bin Q .eql 54 false false ja ka) fun qa=>ag [K6,X9,Y9,Z9,ia,ja,ka,qa]) w) (fun k=>k [uu,uu,uu,uu,uu,uu,uu,uu] w) fun M=>sti (pick F8 (gd M 7) cF) K) w.drew):nQ K (yI Y5 Z5 K6 W6 X6 Y6 Z6 u7 B7 K7 W7 X7 Y7 Z7 B8 K8 W8 X8 Y8 Z8 l9 n9 u9 B9 K9 W9 X9 Y9 Z9 ia ja ka qa zf) w:=by
 delta nQ;exact mpK h
attribute [irreducible] nQ
def kB (a0 b1 a2 b3 i5 i6:Value)(zf:Nat→Value):List Value:=a0::b1::a2::b3::zf 4::i5::i6::zT zf 7 73 ([])
def jX (K:KV):KE:=ae Q (cd f18 [1,1,1]) (rk f18 K) xf (rk f18 K)
def qq (K:KV):KE:=ae Q (cd f18 (b1 58)) (jX K) (xx xf (jX K) 0) (rk f18 K)
def jY (K:KV):KE:=ae Q (cd f18 [1,1,1,1]) (rk f18 K) xf (rk f18 K)
def qr (K:KV):KE:=ae Q (cd f18 (b1 122)) (jY K) (xx xf (jY K) 2) (rk f18 K)
theorem Gq (h:box Q 45 Y5 (fun K6=>box Q 45 Z5 fun W6=>aT Q 45 K6 0 fun A0=>ld Q 41 A0 fun A1=>aT Q 45 W6 0 fun A2=>ld Q 41 A2 fun A3=>bin Q .neq 41 false false A1 A3 fun A4 w=>aI A4 false (fun J=>aT Q 45 K6 1 (fun A5=>ld Q 41 A5 fun A6=>aT Q 45 W6 1 fun A7=>ld Q 41 A7 fun A8=>bin Q .neq 41 false false A6 A8 fun A9=>J [A5,A6,A7,A8,A9]) w) (fun k=>k [uu,uu,uu,uu,uu] w) fun C=>pick A4 cT (gd C 4) fun C0 w=>aI C0 false (fun M=>aT Q 45 K6 2 (fun C2=>ld Q 35 C2 fun C3=>aT Q 45 W6 2 fun C4=>ld Q 35 C4 fun C5=>bin Q .neq 35 false false C3 C5 fun C6=>M [C2,C3,C4,C5,C6]) w) (fun k=>k [uu,uu,uu,uu,uu] w) fun I=>pick C0 cT (gd I 4) fun C7 w=>aI C7 false (fun O=>aT Q 45 K6 3 (fun C8=>ld Q 42 C8 fun C9=>lN 42 C9 fun D0=>aT Q 45 W6 3 fun D1=>ld Q 42 D1 fun D2=>lN 42 D2 fun D3=>bin Q .neq 3 false false D0 D3 fun D4=>O [C8,C9,D0,D1,D2,D3,D4]) w) (fun k=>k [uu,uu,uu,uu,uu,uu,uu] w) fun j=>pick C7 cT (gd j 6) fun D5 w=>aI D5 false (fun U=>aT Q 45 K6 4 (fun D7=>ld Q 43 D7 fun D8=>lN 43 D8 fun D9=>aT Q 45 W6 4 fun E0=>ld Q 43 E0 fun E1=>lN 43 E1 fun E2=>bin Q .neq 3 false false D9 E2 fun E3=>U [D7,D8,D9,E0,E1,E2,E3]) w) (fun k=>k [uu,uu,uu,uu,uu,uu,uu] w) fun u=>pick D5 cT (gd u 6) fun E4 w=>cond E4 (K cF w) (qq K (kB Y5 Z5 K6 W6 (ci 0) uu (zV (zV zu 4 [cF]) 7 [A0,A1,A2,A3,A4,A4,gd C 0,gd C 1,gd C 2,gd C 3,gd C 4,C0,C0,gd I 0,gd I 1,gd I 2,gd I 3,gd I 4,C7,C7,gd j 0,gd j 1,gd j 2,gd j 3,gd j 4,gd j 5,gd j 6,D5,D5,gd u 0,gd u 1,gd u 2,gd u 3,gd u 4,gd u 5,gd u 6,E4])) w)) w):Gives Q 18 #[Y5,Z5] w K:=by
 refine aB func18 (by kernel_rfl) ?_;revert h;delta qq jX;exact mpF
theorem Ej (Inv:Value→World→Prop)(μ:Value→World→Nat)(I:Inv X6 w)(J:∀(j:Value) (dd:Nat→Value) (w:World) (m:Nat),Inv j w→m=μ j w →
  aT Q 45 K6 3 (fun E6=>ld Q 42 E6 fun E7=>lN 42 E7 fun E8=>lS j E8 fun E9 w=>cond E9 (sF 45 K6 3 (fun F2=>sL 42 F2 fun F3=>sI 42 F3 j fun F5=>sL 52 F5 fun F6=>sF 45 W6 3 fun F7=>sL 42 F7 fun F8=>sI 42 F8 j fun F9=>sL 52 F9 fun G0=>sti (bin Q .neq 52 false false F6 G0) fun G1 w=>cond G1 (K cF w) (nC j (fun F1 w=>(Inv F1 w)∧((μ F1 w)<m)) w)) w.drew) (jX K (kB Y5 Z5 K6 W6 j Y6 (zV dd 44 [j,E6,E7,E8,E9])) w)) w):qq K (kB Y5 Z5 K6 W6 X6 Y6 zf) w:=by
 refine aL (cd f18 (b1 116)) (zr [(4,2),(44,18)]) (by kernel_rfl) (vP [5] Inv) (vQ [5] μ) I ?_;intro e' w' hI;have h:=J _ (zM zf (fun i=>gd e' i) (zr [(4,2),(44,18)])) w' _ hI rfl;revert h;generalize (jX K)=qc0;exact mpF
theorem El (h:qr K (kB Y5 Z5 K6 W6 X6 (ci 0) zf) w):jX K (kB Y5 Z5 K6 W6 X6 Y6 zf) w:=by
 delta jX;revert h;delta qr jY;exact mpF
theorem Ek (Inv:Value→World→Prop)(μ:Value→World→Nat)(I:Inv Y6 w)(J:∀(j:Value) (dd:Nat→Value) (w:World) (m:Nat),Inv j w→m=μ j w →
  aT Q 45 K6 4 (fun G3=>ld Q 43 G3 fun G4=>lN 43 G4 fun G5=>lS j G5 fun G6 w=>cond G6 (sF 45 K6 4 (fun G8=>sL 43 G8 fun G9=>sI 43 G9 j fun H0=>sL 126 H0 fun H1=>sF 45 W6 4 fun H2=>sL 43 H2 fun H3=>sI 43 H3 j fun H4=>sL 126 H4 fun H5=>sti (bin Q .neq 126 false false H1 H5) fun H6 w=>cond H6 (K cF w) (nC j (fun G7 w=>(Inv G7 w)∧((μ G7 w)<m)) w)) w.drew) (jY K (kB Y5 Z5 K6 W6 X6 j (zV dd 62 [j,G3,G4,G5,G6])) w)) w):qr K (kB Y5 Z5 K6 W6 X6 Y6 zf) w:=by
 refine aL (cd f18 (b1 244)) (zr [(4,1),(6,1),(62,18)]) (by kernel_rfl) (vP [6] Inv) (vQ [6] μ) I ?_;intro e' w' hI;have h:=J _ (zM zf (fun i=>gd e' i) (zr [(4,1),(6,1),(62,18)])) w' _ hI rfl;revert h;generalize (jY K)=qc0;exact mpF
theorem Em (h:K cT w):jY K (kB Y5 Z5 K6 W6 X6 Y6 zf) w:=by
 delta jY;exact mpK h
attribute [irreducible] jX qq jY qr
end
end Go.Proofs.YtkbhfjljieopoaaGreatDoor
