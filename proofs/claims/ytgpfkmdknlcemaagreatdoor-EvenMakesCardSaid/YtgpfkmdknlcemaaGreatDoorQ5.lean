import Derived.Test.YtgpfkmdknlcemaaGreatDoorQ3
import Derived.Test.YtgpfkmdknlcemaaGreatDoorQ1
namespace Go.Proofs.YtgpfkmdknlcemaaGreatDoor
set_option maxRecDepth 100000
set_option maxHeartbeats 4000000
open Tryz
section
open Go.RowKit
theorem pI {K:KV}{x0:Value}{w:World}(h:lN 76 x0 (fun A0=>conv Q 3 128 A0 fun A2=>call Q 44 #[A2] fun A3=>call Q 95 #[x0,ci 0,A0,A3] fun _=>K (Value.tuple #[])) w):Gives Q 63 #[x0] w K:=by
 refine aH func63 (by kernel_rfl) ?_;exact mpK h
def ah (ac a1 b2 bh a5 aG aC aX ba bO br aj D4 E4 E9 F1 F2 F3 F6 F7 F8 F9 G0 G1 G2 G3 G4 G5 G6:Value)(zf:Nat→Value):List Value:=ac::a1::b2::bh::zf 4::a5::zf 6::zf 7::aG::aC::aX::ba::bO::zf 13::br::aj::zT zf 16 19 (D4::zT zf 36 14 (E4::zT zf 51 12 (E9::zf 64::zf 65::F1::F2::F3::zT zf 69 7 (F6::F7::F8::F9::G0::G1::G2::G3::G4::G5::G6::zT zf 87 47 ([])))))
def lU (K:KV):KE:=ae Q (cd f95 [1,1,0]) (rk f95 K) (xx xf (rk f95 K) 0) (rk f95 K)
def dv (K:KV)(B1:KE):KE:=ae Q (cd f95 [1,1,0,0,0,1,1,1,1]) B1 (xx (xx xf (rk f95 K) 0) B1 1) (rk f95 K)
def jq (K:KV)(B1:KE):KE:=ae Q (cd f95 [1,1,0,0,0,1,1,1,0,1]) (dv K B1) (xx (xx xf (rk f95 K) 0) B1 1) (rk f95 K)
def dw (K:KV)(B1:KE):KE:=ae Q (cd f95 [1,1,0,0,0,1,1,1,1,1,1]) B1 (xx (xx xf (rk f95 K) 0) B1 1) (rk f95 K)
def jr (K:KV)(B1:KE):KE:=ae Q (cd f95 [1,1,0,0,0,1,1,1,1,1,0,1]) (dw K B1) (xx (xx xf (rk f95 K) 0) B1 1) (rk f95 K)
def dx (K:KV)(B1:KE):KE:=ae Q (cd f95 [1,1,0,0,0,1,1,1,1,1,1,1]) B1 (xx (xx xf (rk f95 K) 0) B1 1) (rk f95 K)
def gK (K:KV)(B1:KE):KE:=ae Q (cd f95 [1,1,0,0,0,1,1,1,1,1,1,0,1]) (dx K B1) (xx (xx xf (rk f95 K) 0) B1 1) (rk f95 K)
def gM (K:KV)(B1:KE):KE:=ae Q (cd f95 [1,1,0,0,0,1,1,1,1,1,1,1,1,1]) B1 (xx (xx xf (rk f95 K) 0) B1 1) (rk f95 K)
section
variable {K:KV}{ac a1 b2 bh a5 aG aC aX ba bO br aj D4 E4 E9 F1 F2 F3 F6 F7 F8 F9 G0 G1 G2 G3 G4 G5 G6:Value}{zf:Nat→Value}{w:World}
theorem uD {K:KV}{ac a1 b2 bh:Value}{w:World}(h:ae Q (cd f95 [1,1,0]) (rk f95 K) (fun i=>@Bool.rec (fun _=>KE) ((fun _ _ _=>False) i) (rk f95 K) (Nat.beq i 0)) (rk f95 K) (ah ac a1 b2 bh uu cT cT uu uu uu uu uu uu uu uu uu uu uu uu uu uu uu uu uu uu uu uu uu uu zu) w):ae Q (cd f95 []) (rk f95 K) xf (rk f95 K) (ah ac a1 b2 bh uu uu uu uu uu uu uu uu uu uu uu uu uu uu uu uu uu uu uu uu uu uu uu uu uu zu) w:=Eq.mp (by kernel_rfl) h
theorem om {K:KV}{ac a1 b2 bh:Value}{w:World}(h:lU K (ah ac a1 b2 bh uu cT cT uu uu uu uu uu uu uu uu uu uu uu uu uu uu uu uu uu uu uu uu uu uu zu) w):Gives Q 95 #[ac,a1,b2,bh] w K:=aH func95 (by kernel_rfl) (Eq.mp (congrArg (fun c=>ae Q c (rk f95 K) xf (rk f95 K) (ah ac a1 b2 bh uu uu uu uu uu uu uu uu uu uu uu uu uu uu uu uu uu uu uu uu uu uu uu uu uu zu) w) (by kernel_rfl:(cd f95 [])=(cd f95 []))) (uD h))
theorem sM {K:KV}(B1:KE)(an:Code){ac J I u a5 d j U am ar V Z ad R az al ap M ag X av:Value}{C:Nat→Value}{w:World}(h:bin Q .sub 3 false false I J (fun C3=>bin Q .leq 3 false true C3 (ci 12) fun C5 w=>cond C5 (call Q 116 #[ac,J,I] (fun _=>K (Value.tuple #[])) w) (bin Q .eql 3 false true u (ci 0) (fun D1 w=>cond D1 (call Q 117 #[ac,J,I] (fun _=>K (Value.tuple #[])) w) (un Q .not d (fun D4=>ae Q an (ae Q (cd f95 [1,1,0,0,0,1,1,1,1]) B1 (fun i=>@Bool.rec (fun _=>KE) ((fun i=>@Bool.rec (fun _=>KE) ((fun _ _ _=>False) i) (rk f95 K) (Nat.beq i 0)) i) B1 (Nat.beq i 1)) (rk f95 K)) (fun i=>@Bool.rec (fun _=>KE) ((fun i=>@Bool.rec (fun _=>KE) ((fun _ _ _=>False) i) (rk f95 K) (Nat.beq i 0)) i) B1 (Nat.beq i 1)) (rk f95 K) (ah ac J I u a5 d j C3 (C 11) (C 12) (C 14) (C 15) D4 (C 50) U am ar (C 68) V Z ad R az al ap M ag X av (zV (zV (zV C 19 [I,J,C3,C3,C5]) 28 [u,D1]) 34 [d]))) w)) w)) w):ae Q (rep [0,1,1,1,0,1] an (cd f95 [1,1,0,0])) B1 (xx xf (rk f95 K) 0) (rk f95 K) (ah ac J I u a5 d j (C 10) (C 11) (C 12) (C 14) (C 15) (C 35) (C 50) U am ar (C 68) V Z ad R az al ap M ag X av C) w:=Eq.mp (by kernel_rfl) h
theorem nP (Inv:vI 19)(μ:vM 19)(h0:Inv a1 b2 bh aG aC E9 F1 F2 F6 F7 F8 F9 G0 G1 G2 G3 G4 G5 G6 w)(hs:∀(C I u d j M an ap av ad ag Z ar am U X al R V:Value) (dd:Nat→Value) (w:World) (m:Nat),Inv C I u d j M an ap av ad ag Z ar am U X al R V w→m=μ C I u d j M an ap av ad ag Z ar am U X al R V w →
  bin Q .sub 3 false false I C (fun C3=>bin Q .leq 3 false true C3 (ci 12) fun C5 w=>cond C5 (call Q 116 #[ac,C,I] (fun _=>K (Value.tuple #[])) w) (bin Q .eql 3 false true u (ci 0) (fun D1 w=>cond D1 (call Q 117 #[ac,C,I] (fun _=>K (Value.tuple #[])) w) (un Q .not d (fun D4=>jq K (fun e2 J=>(Inv (gd e2 1) (gd e2 2) (gd e2 3) (gd e2 8) (gd e2 9) (gd e2 63) (gd e2 66) (gd e2 67) (gd e2 76) (gd e2 77) (gd e2 78) (gd e2 79) (gd e2 80) (gd e2 81) (gd e2 82) (gd e2 83) (gd e2 84) (gd e2 85) (gd e2 86) J)∧((μ (gd e2 1) (gd e2 2) (gd e2 3) (gd e2 8) (gd e2 9) (gd e2 63) (gd e2 66) (gd e2 67) (gd e2 76) (gd e2 77) (gd e2 78) (gd e2 79) (gd e2 80) (gd e2 81) (gd e2 82) (gd e2 83) (gd e2 84) (gd e2 85) (gd e2 86) J)<m)) (ah ac C I u a5 d j C3 (dd 11) (dd 12) (dd 14) (dd 15) D4 (dd 50) M an ap (dd 68) av ad ag Z ar am U X al R V (zV (zV (zV dd 19 [I,C,C3,C3,C5]) 28 [u,D1]) 34 [d]))) w)) w)) w):lU K (ah ac a1 b2 bh a5 aG aC aX ba bO br aj D4 E4 E9 F1 F2 F3 F6 F7 F8 F9 G0 G1 G2 G3 G4 G5 G6 zf) w:=by
 refine aQ (cd f95 [1,1,0,0]) (zr [(1,3),(8,126)]) (by kernel_rfl) (fun e2 J=>Inv (gd e2 1) (gd e2 2) (gd e2 3) (gd e2 8) (gd e2 9) (gd e2 63) (gd e2 66) (gd e2 67) (gd e2 76) (gd e2 77) (gd e2 78) (gd e2 79) (gd e2 80) (gd e2 81) (gd e2 82) (gd e2 83) (gd e2 84) (gd e2 85) (gd e2 86) J) (fun e2 J=>μ (gd e2 1) (gd e2 2) (gd e2 3) (gd e2 8) (gd e2 9) (gd e2 63) (gd e2 66) (gd e2 67) (gd e2 76) (gd e2 77) (gd e2 78) (gd e2 79) (gd e2 80) (gd e2 81) (gd e2 82) (gd e2 83) (gd e2 84) (gd e2 85) (gd e2 86) J) h0 ?_
 intro e' w' hI;have h:=hs (gd e' 1) (gd e' 2) (gd e' 3) (gd e' 8) (gd e' 9) (gd e' 63) (gd e' 66) (gd e' 67) (gd e' 76) (gd e' 77) (gd e' 78) (gd e' 79) (gd e' 80) (gd e' 81) (gd e' 82) (gd e' 83) (gd e' 84) (gd e' 85) (gd e' 86) (zM zf (fun i=>gd e' i) (zr [(1,3),(8,126)])) w' _ hI rfl
 have h2:ae Q (rep [0,1,1,1,0,1] (cd f95 [1,1,0,0,0,1,1,1,0,1]) (cd f95 [1,1,0,0])) (fun e2 J=>Inv (gd e2 1) (gd e2 2) (gd e2 3) (gd e2 8) (gd e2 9) (gd e2 63) (gd e2 66) (gd e2 67) (gd e2 76) (gd e2 77) (gd e2 78) (gd e2 79) (gd e2 80) (gd e2 81) (gd e2 82) (gd e2 83) (gd e2 84) (gd e2 85) (gd e2 86) J∧μ (gd e2 1) (gd e2 2) (gd e2 3) (gd e2 8) (gd e2 9) (gd e2 63) (gd e2 66) (gd e2 67) (gd e2 76) (gd e2 77) (gd e2 78) (gd e2 79) (gd e2 80) (gd e2 81) (gd e2 82) (gd e2 83) (gd e2 84) (gd e2 85) (gd e2 86) J<μ (gd e' 1) (gd e' 2) (gd e' 3) (gd e' 8) (gd e' 9) (gd e' 63) (gd e' 66) (gd e' 67) (gd e' 76) (gd e' 77) (gd e' 78) (gd e' 79) (gd e' 80) (gd e' 81) (gd e' 82) (gd e' 83) (gd e' 84) (gd e' 85) (gd e' 86) w') (xx xf (rk f95 K) 0) (rk f95 K) (ah ac (gd e' 1) (gd e' 2) (gd e' 3) a5 (gd e' 8) (gd e' 9) (gd e' 10) (gd e' 11) (gd e' 12) (gd e' 14) (gd e' 15) (gd e' 35) (gd e' 50) (gd e' 63) (gd e' 66) (gd e' 67) (gd e' 68) (gd e' 76) (gd e' 77) (gd e' 78) (gd e' 79) (gd e' 80) (gd e' 81) (gd e' 82) (gd e' 83) (gd e' 84) (gd e' 85) (gd e' 86) (zM zf (fun i=>gd e' i) (zr [(1,3),(8,126)]))) w':=sM (fun e2 J=>Inv (gd e2 1) (gd e2 2) (gd e2 3) (gd e2 8) (gd e2 9) (gd e2 63) (gd e2 66) (gd e2 67) (gd e2 76) (gd e2 77) (gd e2 78) (gd e2 79) (gd e2 80) (gd e2 81) (gd e2 82) (gd e2 83) (gd e2 84) (gd e2 85) (gd e2 86) J∧μ (gd e2 1) (gd e2 2) (gd e2 3) (gd e2 8) (gd e2 9) (gd e2 63) (gd e2 66) (gd e2 67) (gd e2 76) (gd e2 77) (gd e2 78) (gd e2 79) (gd e2 80) (gd e2 81) (gd e2 82) (gd e2 83) (gd e2 84) (gd e2 85) (gd e2 86) J<μ (gd e' 1) (gd e' 2) (gd e' 3) (gd e' 8) (gd e' 9) (gd e' 63) (gd e' 66) (gd e' 67) (gd e' 76) (gd e' 77) (gd e' 78) (gd e' 79) (gd e' 80) (gd e' 81) (gd e' 82) (gd e' 83) (gd e' 84) (gd e' 85) (gd e' 86) w') (cd f95 [1,1,0,0,0,1,1,1,0,1]) (Eq.mp (by kernel_rfl) h)
 exact Eq.mp (by kernel_rfl) h2
section
variable {ac a1 b2 bh a5 aG aC aX ba bO br aj D4 E4 E9 F1 F2 F3 F6 F7 F8 F9 G0 G1 G2 G3 G4 G5 G6:Value}
theorem sQ {K:KV}(B1:KE)(d:KE){zf:Nat→Value}{w:World}(h:cond D4 (call Q 118 #[ac,a1,b2] (fun D6=>bin Q .sub 3 false true bh (ci 1) fun D8=>d (ah ac a1 b2 D8 a5 aG aC aX ba bO br aj D4 E4 E9 F1 F2 F3 F6 F7 F8 F9 G0 G1 G2 G3 G4 G5 G6 (zV zf 36 [ac,a1,b2,D6,bh,D8]))) w) (d (ah ac a1 b2 bh a5 aG aC aX ba bO br aj D4 E4 E9 F1 F2 F3 F6 F7 F8 F9 G0 G1 G2 G3 G4 G5 G6 zf) w)):ae Q (cd f95 [1,1,0,0,0,1,1,1,0,1]) d (xx (xx xf (rk f95 K) 0) B1 1) (rk f95 K) (ah ac a1 b2 bh a5 aG aC aX ba bO br aj D4 E4 E9 F1 F2 F3 F6 F7 F8 F9 G0 G1 G2 G3 G4 G5 G6 zf) w:=Eq.mp (by kernel_rfl) h
end
theorem sR {B1:KE}(h:cond D4 (call Q 118 #[ac,a1,b2] (fun D6=>bin Q .sub 3 false true bh (ci 1) fun D8=>dv K B1 (ah ac a1 b2 D8 a5 aG aC aX ba bO br aj D4 E4 E9 F1 F2 F3 F6 F7 F8 F9 G0 G1 G2 G3 G4 G5 G6 (zV zf 36 [ac,a1,b2,D6,bh,D8]))) w) (dv K B1 (ah ac a1 b2 bh a5 aG aC aX ba bO br aj D4 E4 E9 F1 F2 F3 F6 F7 F8 F9 G0 G1 G2 G3 G4 G5 G6 zf) w)):jq K B1 (ah ac a1 b2 bh a5 aG aC aX ba bO br aj D4 E4 E9 F1 F2 F3 F6 F7 F8 F9 G0 G1 G2 G3 G4 G5 G6 zf) w:=by
 delta jq
 exact Eq.mp (congrArg (fun c=>ae Q c (dv K B1) (xx (xx xf (rk f95 K) 0) B1 1) (rk f95 K) (ah ac a1 b2 bh a5 aG aC aX ba bO br aj D4 E4 E9 F1 F2 F3 F6 F7 F8 F9 G0 G1 G2 G3 G4 G5 G6 zf) w) (by kernel_rfl:(cd f95 [1,1,0,0,0,1,1,1,0,1])=(cd f95 [1,1,0,0,0,1,1,1,0,1]))) (sQ B1 (dv K B1) h)
section
variable {ac a1 b2 bh a5 aG aC aX ba bO br aj D4 E4 E9 F1 F2 F3 F6 F7 F8 F9 G0 G1 G2 G3 G4 G5 G6:Value}
theorem sS {K:KV}(B1:KE)(d:Code){zf:Nat→Value}{w:World}(h:call Q 119 #[ac,a1,b2] (fun E1=>ext Q E1 0 fun E2=>ext Q E1 1 fun E3=>bin Q .eql 150 false true E3 (ci 2) fun E4=>ae Q d (ae Q (cd f95 [1,1,0,0,0,1,1,1,1,1,1]) B1 (fun i=>@Bool.rec (fun _=>KE) ((fun i=>@Bool.rec (fun _=>KE) ((fun _ _ _=>False) i) (rk f95 K) (Nat.beq i 0)) i) B1 (Nat.beq i 1)) (rk f95 K)) (fun i=>@Bool.rec (fun _=>KE) ((fun i=>@Bool.rec (fun _=>KE) ((fun _ _ _=>False) i) (rk f95 K) (Nat.beq i 0)) i) B1 (Nat.beq i 1)) (rk f95 K) (ah ac a1 b2 bh a5 aG aC aX E2 E3 br aj D4 E4 E9 F1 F2 F3 F6 F7 F8 F9 G0 G1 G2 G3 G4 G5 G6 (zV zf 42 [E1,ac,a1,b2,E1,E2,E3,E3]))) w):ae Q (rep [1,0,1] d (cd f95 [1,1,0,0,0,1,1,1,1])) B1 (xx (xx xf (rk f95 K) 0) B1 1) (rk f95 K) (ah ac a1 b2 bh a5 aG aC aX ba bO br aj D4 E4 E9 F1 F2 F3 F6 F7 F8 F9 G0 G1 G2 G3 G4 G5 G6 zf) w:=Eq.mp (by kernel_rfl) h
end
theorem sT {B1:KE}(h:call Q 119 #[ac,a1,b2] (fun E1=>ext Q E1 0 fun E2=>ext Q E1 1 fun E3=>bin Q .eql 150 false true E3 (ci 2) fun E4=>jr K B1 (ah ac a1 b2 bh a5 aG aC aX E2 E3 br aj D4 E4 E9 F1 F2 F3 F6 F7 F8 F9 G0 G1 G2 G3 G4 G5 G6 (zV zf 42 [E1,ac,a1,b2,E1,E2,E3,E3]))) w):dv K B1 (ah ac a1 b2 bh a5 aG aC aX ba bO br aj D4 E4 E9 F1 F2 F3 F6 F7 F8 F9 G0 G1 G2 G3 G4 G5 G6 zf) w:=by
 delta dv
 exact Eq.mp (congrArg (fun c=>ae Q c B1 (xx (xx xf (rk f95 K) 0) B1 1) (rk f95 K) (ah ac a1 b2 bh a5 aG aC aX ba bO br aj D4 E4 E9 F1 F2 F3 F6 F7 F8 F9 G0 G1 G2 G3 G4 G5 G6 zf) w) (by kernel_rfl:(rep [1,0,1] (cd f95 [1,1,0,0,0,1,1,1,1,1,0,1]) (cd f95 [1,1,0,0,0,1,1,1,1]))=(cd f95 [1,1,0,0,0,1,1,1,1]))) (sS B1 (cd f95 [1,1,0,0,0,1,1,1,1,1,0,1]) h)
section
variable {ac a1 b2 bh a5 aG aC aX ba bO br aj D4 E4 E9 F1 F2 F3 F6 F7 F8 F9 G0 G1 G2 G3 G4 G5 G6:Value}
theorem sX {K:KV}(B1:KE)(d:KE){zf:Nat→Value}{w:World}(h:cond E4 (call Q 120 #[ac,a1,b2] (fun E5=>bin Q .sub 3 false true b2 (ci 1) fun E6=>bin Q .sub 3 false false ba a1 fun E7=>bin Q .sub 3 false false E6 E7 fun E8=>d (ah ac a1 b2 bh a5 aG aC aX E8 (ci 1) br aj D4 E4 E9 F1 F2 F3 F6 F7 F8 F9 G0 G1 G2 G3 G4 G5 G6 (zV zf 51 [ac,a1,b2,E5,b2,E6,ba,a1,E7,E8]))) w) (d (ah ac a1 b2 bh a5 aG aC aX ba bO br aj D4 E4 E9 F1 F2 F3 F6 F7 F8 F9 G0 G1 G2 G3 G4 G5 G6 zf) w)):ae Q (cd f95 [1,1,0,0,0,1,1,1,1,1,0,1]) d (xx (xx xf (rk f95 K) 0) B1 1) (rk f95 K) (ah ac a1 b2 bh a5 aG aC aX ba bO br aj D4 E4 E9 F1 F2 F3 F6 F7 F8 F9 G0 G1 G2 G3 G4 G5 G6 zf) w:=Eq.mp (by kernel_rfl) h
end
theorem sY {B1:KE}(h:cond E4 (call Q 120 #[ac,a1,b2] (fun E5=>bin Q .sub 3 false true b2 (ci 1) fun E6=>bin Q .sub 3 false false ba a1 fun E7=>bin Q .sub 3 false false E6 E7 fun E8=>dw K B1 (ah ac a1 b2 bh a5 aG aC aX E8 (ci 1) br aj D4 E4 E9 F1 F2 F3 F6 F7 F8 F9 G0 G1 G2 G3 G4 G5 G6 (zV zf 51 [ac,a1,b2,E5,b2,E6,ba,a1,E7,E8]))) w) (dw K B1 (ah ac a1 b2 bh a5 aG aC aX ba bO br aj D4 E4 E9 F1 F2 F3 F6 F7 F8 F9 G0 G1 G2 G3 G4 G5 G6 zf) w)):jr K B1 (ah ac a1 b2 bh a5 aG aC aX ba bO br aj D4 E4 E9 F1 F2 F3 F6 F7 F8 F9 G0 G1 G2 G3 G4 G5 G6 zf) w:=by
 delta jr
 exact Eq.mp (congrArg (fun c=>ae Q c (dw K B1) (xx (xx xf (rk f95 K) 0) B1 1) (rk f95 K) (ah ac a1 b2 bh a5 aG aC aX ba bO br aj D4 E4 E9 F1 F2 F3 F6 F7 F8 F9 G0 G1 G2 G3 G4 G5 G6 zf) w) (by kernel_rfl:(cd f95 [1,1,0,0,0,1,1,1,1,1,0,1])=(cd f95 [1,1,0,0,0,1,1,1,1,1,0,1]))) (sX B1 (dw K B1) h)
section
variable {ac a1 b2 bh a5 aG aC aX ba bO br aj D4 E4 E9 F1 F2 F3 F6 F7 F8 F9 G0 G1 G2 G3 G4 G5 G6:Value}
theorem sZ {K:KV}(B1:KE)(u:Code){zf:Nat→Value}{w:World}(h:aJ aG true (fun C=>C [aC] w) (fun k=>k [uu] w) fun j=>pick aG (gd j 0) cF fun F0 w=>aJ F0 true (fun I=>bin Q .eql 150 false true bO (ci 1) (fun F2=>I [bO,F2]) w) (fun k=>k [uu,uu] w) fun d=>pick F0 (gd d 1) cF fun F3=>ae Q u (ae Q (cd f95 [1,1,0,0,0,1,1,1,1,1,1,1]) B1 (fun i=>@Bool.rec (fun _=>KE) ((fun i=>@Bool.rec (fun _=>KE) ((fun _ _ _=>False) i) (rk f95 K) (Nat.beq i 0)) i) B1 (Nat.beq i 1)) (rk f95 K)) (fun i=>@Bool.rec (fun _=>KE) ((fun i=>@Bool.rec (fun _=>KE) ((fun _ _ _=>False) i) (rk f95 K) (Nat.beq i 0)) i) B1 (Nat.beq i 1)) (rk f95 K) (ah ac a1 b2 bh a5 aG aC aX ba bO br aj D4 E4 (gd j 0) (gd d 0) (gd d 1) F3 F6 F7 F8 F9 G0 G1 G2 G3 G4 G5 G6 (zV (zV zf 61 [aG,aG]) 64 [F0,F0]))):ae Q (rep [0,1] u (cd f95 [1,1,0,0,0,1,1,1,1,1,1])) B1 (xx (xx xf (rk f95 K) 0) B1 1) (rk f95 K) (ah ac a1 b2 bh a5 aG aC aX ba bO br aj D4 E4 E9 F1 F2 F3 F6 F7 F8 F9 G0 G1 G2 G3 G4 G5 G6 zf) w:=Eq.mp (by kernel_rfl) h
end
theorem t7 {B1:KE}(h:aJ aG true (fun k63=>k63 [aC] w) (fun k=>k [uu] w) fun us63=>pick aG (gd us63 0) cF fun F0 w=>aJ F0 true (fun k66=>bin Q .eql 150 false true bO (ci 1) (fun F2=>k66 [bO,F2]) w) (fun k=>k [uu,uu] w) fun us66=>pick F0 (gd us66 1) cF fun F3=>gK K B1 (ah ac a1 b2 bh a5 aG aC aX ba bO br aj D4 E4 (gd us63 0) (gd us66 0) (gd us66 1) F3 F6 F7 F8 F9 G0 G1 G2 G3 G4 G5 G6 (zV (zV zf 61 [aG,aG]) 64 [F0,F0]))):dw K B1 (ah ac a1 b2 bh a5 aG aC aX ba bO br aj D4 E4 E9 F1 F2 F3 F6 F7 F8 F9 G0 G1 G2 G3 G4 G5 G6 zf) w:=by
 delta dw
 exact Eq.mp (congrArg (fun c=>ae Q c B1 (xx (xx xf (rk f95 K) 0) B1 1) (rk f95 K) (ah ac a1 b2 bh a5 aG aC aX ba bO br aj D4 E4 E9 F1 F2 F3 F6 F7 F8 F9 G0 G1 G2 G3 G4 G5 G6 zf) w) (by kernel_rfl:(rep [0,1] (cd f95 [1,1,0,0,0,1,1,1,1,1,1,0,1]) (cd f95 [1,1,0,0,0,1,1,1,1,1,1]))=(cd f95 [1,1,0,0,0,1,1,1,1,1,1]))) (sZ B1 (cd f95 [1,1,0,0,0,1,1,1,1,1,1,0,1]) h)
section
variable {ac a1 b2 bh a5 aG aC aX ba bO br aj D4 E4 E9 F1 F2 F3 F6 F7 F8 F9 G0 G1 G2 G3 G4 G5 G6:Value}
theorem t8 {K:KV}(B1:KE)(d:KE){zf:Nat→Value}{w:World}(h:cond F3 (call Q 121 #[ac,a1,b2] (fun F4 w=>cond F4 (K (Value.tuple #[]) w) (d (ah ac a1 b2 bh a5 aG aC aX ba bO br aj D4 E4 E9 F1 F2 F3 F6 F7 F8 F9 G0 G1 G2 G3 G4 G5 G6 (zV zf 69 [ac,a1,b2,F4])) w)) w) (d (ah ac a1 b2 bh a5 aG aC aX ba bO br aj D4 E4 E9 F1 F2 F3 F6 F7 F8 F9 G0 G1 G2 G3 G4 G5 G6 zf) w)):ae Q (cd f95 [1,1,0,0,0,1,1,1,1,1,1,0,1]) d (xx (xx xf (rk f95 K) 0) B1 1) (rk f95 K) (ah ac a1 b2 bh a5 aG aC aX ba bO br aj D4 E4 E9 F1 F2 F3 F6 F7 F8 F9 G0 G1 G2 G3 G4 G5 G6 zf) w:=Eq.mp (by kernel_rfl) h
end
theorem td {B1:KE}(h:cond F3 (call Q 121 #[ac,a1,b2] (fun F4 w=>cond F4 (K (Value.tuple #[]) w) (dx K B1 (ah ac a1 b2 bh a5 aG aC aX ba bO br aj D4 E4 E9 F1 F2 F3 F6 F7 F8 F9 G0 G1 G2 G3 G4 G5 G6 (zV zf 69 [ac,a1,b2,F4])) w)) w) (dx K B1 (ah ac a1 b2 bh a5 aG aC aX ba bO br aj D4 E4 E9 F1 F2 F3 F6 F7 F8 F9 G0 G1 G2 G3 G4 G5 G6 zf) w)):gK K B1 (ah ac a1 b2 bh a5 aG aC aX ba bO br aj D4 E4 E9 F1 F2 F3 F6 F7 F8 F9 G0 G1 G2 G3 G4 G5 G6 zf) w:=by
 delta gK
 exact Eq.mp (congrArg (fun c=>ae Q c (dx K B1) (xx (xx xf (rk f95 K) 0) B1 1) (rk f95 K) (ah ac a1 b2 bh a5 aG aC aX ba bO br aj D4 E4 E9 F1 F2 F3 F6 F7 F8 F9 G0 G1 G2 G3 G4 G5 G6 zf) w) (by kernel_rfl:(cd f95 [1,1,0,0,0,1,1,1,1,1,1,0,1])=(cd f95 [1,1,0,0,0,1,1,1,1,1,1,0,1]))) (t8 B1 (dx K B1) h)
section
variable {ac a1 b2 bh a5 aG aC aX ba bO br aj D4 E4 E9 F1 F2 F3 F6 F7 F8 F9 G0 G1 G2 G3 G4 G5 G6:Value}
theorem te {K:KV}(B1:KE)(j:Code){zf:Nat→Value}{w:World}(h:sti (bin Q .gtr 3 false true a1 (ci 0)) (fun F5 w=>aJ F5 true (fun u=>sti (bin Q .sub 3 false true a1 (ci 1)) (fun F8=>sI 76 ac F8 fun F9=>sL 24 F9 fun G0=>sI 76 ac ba fun G3=>sL 24 G3 fun G4=>sti (call Q 122 #[G0,G4]) fun G5=>sti (un Q .not G5) fun G6=>u [ac,a1,F8,F9,G0,ac,ba,G3,G4,G5,G6]) w) (fun k=>k [uu,uu,uu,uu,uu,uu,uu,uu,uu,uu,uu] w) fun d=>sti (pick F5 (gd d 10) cF) fun G7 w=>cond G7 (call Q 123 #[ac,a1,b2,ba] (fun G8=>B1 (ah ac G8 b2 bh a5 aG aC aX ba bO br aj D4 E4 E9 F1 F2 F3 (gd d 0) (gd d 1) (gd d 2) (gd d 3) (gd d 4) (gd d 5) (gd d 6) (gd d 7) (gd d 8) (gd d 9) (gd d 10) (zV (zV (zV zf 13 [G8]) 73 [a1,F5,F5]) 87 [G7,ac,a1,b2,ba,G8,G8]))) w) (call Q 124 #[ac,a1,b2,ba] (fun G9=>ext Q G9 0 fun H0=>ext Q G9 1 fun H1=>ae Q j B1 (fun i=>@Bool.rec (fun _=>KE) ((fun i=>@Bool.rec (fun _=>KE) ((fun _ _ _=>False) i) (rk f95 K) (Nat.beq i 0)) i) B1 (Nat.beq i 1)) (rk f95 K) (ah ac a1 b2 bh a5 aG aC aX ba bO H0 H1 D4 E4 E9 F1 F2 F3 (gd d 0) (gd d 1) (gd d 2) (gd d 3) (gd d 4) (gd d 5) (gd d 6) (gd d 7) (gd d 8) (gd d 9) (gd d 10) (zV (zV (zV zf 73 [a1,F5,F5]) 87 [G7]) 94 [G9,ac,a1,b2,ba,G9,H0,H1]))) w)) w.drew):ae Q (rep [1,1] j (cd f95 [1,1,0,0,0,1,1,1,1,1,1,1])) B1 (xx (xx xf (rk f95 K) 0) B1 1) (rk f95 K) (ah ac a1 b2 bh a5 aG aC aX ba bO br aj D4 E4 E9 F1 F2 F3 F6 F7 F8 F9 G0 G1 G2 G3 G4 G5 G6 zf) w:=Eq.mp (by kernel_rfl) h
end
theorem tf {B1:KE}(h:sti (bin Q .gtr 3 false true a1 (ci 0)) (fun F5 w=>aJ F5 true (fun k76=>sti (bin Q .sub 3 false true a1 (ci 1)) (fun F8=>sI 76 ac F8 fun F9=>sL 24 F9 fun G0=>sI 76 ac ba fun G3=>sL 24 G3 fun G4=>sti (call Q 122 #[G0,G4]) fun G5=>sti (un Q .not G5) fun G6=>k76 [ac,a1,F8,F9,G0,ac,ba,G3,G4,G5,G6]) w) (fun k=>k [uu,uu,uu,uu,uu,uu,uu,uu,uu,uu,uu] w) fun us76=>sti (pick F5 (gd us76 10) cF) fun G7 w=>cond G7 (call Q 123 #[ac,a1,b2,ba] (fun G8=>B1 (ah ac G8 b2 bh a5 aG aC aX ba bO br aj D4 E4 E9 F1 F2 F3 (gd us76 0) (gd us76 1) (gd us76 2) (gd us76 3) (gd us76 4) (gd us76 5) (gd us76 6) (gd us76 7) (gd us76 8) (gd us76 9) (gd us76 10) (zV (zV (zV zf 13 [G8]) 73 [a1,F5,F5]) 87 [G7,ac,a1,b2,ba,G8,G8]))) w) (call Q 124 #[ac,a1,b2,ba] (fun G9=>ext Q G9 0 fun H0=>ext Q G9 1 fun H1=>gM K B1 (ah ac a1 b2 bh a5 aG aC aX ba bO H0 H1 D4 E4 E9 F1 F2 F3 (gd us76 0) (gd us76 1) (gd us76 2) (gd us76 3) (gd us76 4) (gd us76 5) (gd us76 6) (gd us76 7) (gd us76 8) (gd us76 9) (gd us76 10) (zV (zV (zV zf 73 [a1,F5,F5]) 87 [G7]) 94 [G9,ac,a1,b2,ba,G9,H0,H1]))) w)) w.drew):dx K B1 (ah ac a1 b2 bh a5 aG aC aX ba bO br aj D4 E4 E9 F1 F2 F3 F6 F7 F8 F9 G0 G1 G2 G3 G4 G5 G6 zf) w:=by
 delta dx
 exact Eq.mp (congrArg (fun c=>ae Q c B1 (xx (xx xf (rk f95 K) 0) B1 1) (rk f95 K) (ah ac a1 b2 bh a5 aG aC aX ba bO br aj D4 E4 E9 F1 F2 F3 F6 F7 F8 F9 G0 G1 G2 G3 G4 G5 G6 zf) w) (by kernel_rfl:(rep [1,1] (cd f95 [1,1,0,0,0,1,1,1,1,1,1,1,1,1]) (cd f95 [1,1,0,0,0,1,1,1,1,1,1,1]))=(cd f95 [1,1,0,0,0,1,1,1,1,1,1,1]))) (te B1 (cd f95 [1,1,0,0,0,1,1,1,1,1,1,1,1,1]) h)
section
variable {ac a1 b2 bh a5 aG aC aX ba bO br aj D4 E4 E9 F1 F2 F3 F6 F7 F8 F9 G0 G1 G2 G3 G4 G5 G6:Value}
theorem th {K:KV}(B1:KE){zf:Nat→Value}{w:World}(h:bin Q .sub 3 false false br a1 (fun H2=>bin Q .sub 3 false false b2 br fun H3=>bin Q .quo 3 false true aX (ci 8) fun H4=>lS H2 H3 fun H5 w=>cond H5 (bin Q .geq 3 false false H2 H4 (fun H6=>call Q 95 #[ac,a1,br,bh] fun H7=>nC br fun H8=>B1 (ah ac H8 b2 bh a5 H6 aj aX ba bO br aj D4 E4 E9 F1 F2 F3 F6 F7 F8 F9 G0 G1 G2 G3 G4 G5 G6 (zV (zV zf 16 [H2,H3,H4]) 102 [aj,br,a1,H2,b2,br,H3,aX,H4,H2,H3,H5,H2,H4,H6,ac,a1,br,bh,H7,br,H8]))) w) (bin Q .geq 3 false false H3 H4 (fun H9=>nC br fun I0=>call Q 95 #[ac,I0,b2,bh] fun I1=>B1 (ah ac a1 br bh a5 H9 aj aX ba bO br aj D4 E4 E9 F1 F2 F3 F6 F7 F8 F9 G0 G1 G2 G3 G4 G5 G6 (zV (zV (zV zf 16 [H2,H3,H4]) 102 [aj,br,a1,H2,b2,br,H3,aX,H4,H2,H3,H5]) 124 [H3,H4,H9,ac,br,I0,b2,bh,I1,br]))) w)) w):ae Q (cd f95 [1,1,0,0,0,1,1,1,1,1,1,1,1,1]) B1 (xx (xx xf (rk f95 K) 0) B1 1) (rk f95 K) (ah ac a1 b2 bh a5 aG aC aX ba bO br aj D4 E4 E9 F1 F2 F3 F6 F7 F8 F9 G0 G1 G2 G3 G4 G5 G6 zf) w:=Eq.mp (by kernel_rfl) h
end
theorem ti {B1:KE}(h:bin Q .sub 3 false false br a1 (fun H2=>bin Q .sub 3 false false b2 br fun H3=>bin Q .quo 3 false true aX (ci 8) fun H4=>lS H2 H3 fun H5 w=>cond H5 (bin Q .geq 3 false false H2 H4 (fun H6=>call Q 95 #[ac,a1,br,bh] fun H7=>nC br fun H8=>B1 (ah ac H8 b2 bh a5 H6 aj aX ba bO br aj D4 E4 E9 F1 F2 F3 F6 F7 F8 F9 G0 G1 G2 G3 G4 G5 G6 (zV (zV zf 16 [H2,H3,H4]) 102 [aj,br,a1,H2,b2,br,H3,aX,H4,H2,H3,H5,H2,H4,H6,ac,a1,br,bh,H7,br,H8]))) w) (bin Q .geq 3 false false H3 H4 (fun H9=>nC br fun I0=>call Q 95 #[ac,I0,b2,bh] fun I1=>B1 (ah ac a1 br bh a5 H9 aj aX ba bO br aj D4 E4 E9 F1 F2 F3 F6 F7 F8 F9 G0 G1 G2 G3 G4 G5 G6 (zV (zV (zV zf 16 [H2,H3,H4]) 102 [aj,br,a1,H2,b2,br,H3,aX,H4,H2,H3,H5]) 124 [H3,H4,H9,ac,br,I0,b2,bh,I1,br]))) w)) w):gM K B1 (ah ac a1 b2 bh a5 aG aC aX ba bO br aj D4 E4 E9 F1 F2 F3 F6 F7 F8 F9 G0 G1 G2 G3 G4 G5 G6 zf) w:=by
 delta gM
 exact Eq.mp (congrArg (fun c=>ae Q c B1 (xx (xx xf (rk f95 K) 0) B1 1) (rk f95 K) (ah ac a1 b2 bh a5 aG aC aX ba bO br aj D4 E4 E9 F1 F2 F3 F6 F7 F8 F9 G0 G1 G2 G3 G4 G5 G6 zf) w) (by kernel_rfl:(cd f95 [1,1,0,0,0,1,1,1,1,1,1,1,1,1])=(cd f95 [1,1,0,0,0,1,1,1,1,1,1,1,1,1]))) (th B1 h)
end
attribute [irreducible] lU dv jq dw jr dx gK gM
theorem yp {K:KV}{x0:Value}{w:World}(h:cond cF (conv Q 128 158 x0 (fun A0=>call Q 72 #[A0] K) w) (call Q 73 #[x0] K w)):Gives Q 44 #[x0] w K:=by
 refine aH func44 (by kernel_rfl) ?_;exact mpK h
def dK (ac a1 b2 i6 j7 C2 C3 C4 C5 C6 C7 C8 C9 D0 D1:Value)(zf:Nat→Value):List Value:=ac::a1::b2::zT zf 3 3 (i6::j7::zT zf 8 12 (C2::C3::C4::C5::C6::C7::C8::C9::D0::D1::zT zf 30 19 ([])))
def gO (K:KV):KE:=ae Q (cd f116 [1,0]) (rk f116 K) (xx xf (rk f116 K) 0) (rk f116 K)
def bY (K:KV)(B1:KE):KE:=ae Q (cd f116 [1,0,0,1,1]) B1 (xx xf (rk f116 K) 0) (rk f116 K)
def gP (K:KV)(B1:KE):KE:=ae Q (cd f116 [1,0,0,1,0,0,1,0]) (bY K B1) (xx (xx (xx xf (rk f116 K) 0) (bY K B1) 1) (bY K B1) 2) (rk f116 K)
section
variable {K:KV}{ac a1 b2 i6 j7 C2 C3 C4 C5 C6 C7 C8 C9 D0 D1:Value}{zf:Nat→Value}{w:World}
theorem mS {K:KV}{ac a1 b2:Value}{w:World}(h:nC a1 (fun A3=>gO K (dK ac a1 b2 A3 uu uu uu uu uu uu uu uu uu uu uu (zV zu 8 [a1,A3]))) w):Gives Q 116 #[ac,a1,b2] w K:=by
 refine aH func116 (by kernel_rfl) ?_;revert h;delta gO;exact mpF
theorem ms (Inv:vI 11)(μ:vM 11)(h0:Inv i6 C2 C3 C4 C5 C6 C7 C8 C9 D0 D1 w)(hs:∀(d C I u X j J V R U M:Value) (dd:Nat→Value) (w:World) (m:Nat),Inv d C I u X j J V R U M w→m=μ d C I u X j J V R U M w →
  lS d b2 (fun A6 w=>cond A6 (gP K (fun e2 Z=>(Inv (gd e2 6) (gd e2 20) (gd e2 21) (gd e2 22) (gd e2 23) (gd e2 24) (gd e2 25) (gd e2 26) (gd e2 27) (gd e2 28) (gd e2 29) Z)∧((μ (gd e2 6) (gd e2 20) (gd e2 21) (gd e2 22) (gd e2 23) (gd e2 24) (gd e2 25) (gd e2 26) (gd e2 27) (gd e2 28) (gd e2 29) Z)<m)) (dK ac a1 b2 d d C I u X j J V R U M (zV (zV dd 10 [d,b2,A6]) 15 [d])) w) (K (Value.tuple #[]) w)) w):gO K (dK ac a1 b2 i6 j7 C2 C3 C4 C5 C6 C7 C8 C9 D0 D1 zf) w:=by
 refine aQ (cd f116 [1,0,0]) (zr [(6,2),(10,39)]) (by kernel_rfl) (fun e2 Z=>Inv (gd e2 6) (gd e2 20) (gd e2 21) (gd e2 22) (gd e2 23) (gd e2 24) (gd e2 25) (gd e2 26) (gd e2 27) (gd e2 28) (gd e2 29) Z) (fun e2 Z=>μ (gd e2 6) (gd e2 20) (gd e2 21) (gd e2 22) (gd e2 23) (gd e2 24) (gd e2 25) (gd e2 26) (gd e2 27) (gd e2 28) (gd e2 29) Z) h0 ?_;intro e' w' hI
 have h:=hs (gd e' 6) (gd e' 20) (gd e' 21) (gd e' 22) (gd e' 23) (gd e' 24) (gd e' 25) (gd e' 26) (gd e' 27) (gd e' 28) (gd e' 29) (zM zf (fun i=>gd e' i) (zr [(6,2),(10,39)])) w' _ hI rfl;revert h;delta gP bY;exact mpF
theorem qu {B1:KE}(Inv:vI 11)(μ:vM 11)(h0:Inv j7 C2 C3 C4 C5 C6 C7 C8 C9 D0 D1 w)(hs:∀(j C R M Z u U X V J I:Value) (dd:Nat→Value) (w:World) (m:Nat),Inv j C R M Z u U X V J I w→m=μ j C R M Z u U X V J I w →
  sti (bin Q .gtr 3 false false j a1) (fun C1 w=>aJ C1 true (fun ad=>sI 76 ac j (fun C4=>sL 24 C4 fun C5=>sti (bin Q .sub 3 false true j (ci 1)) fun C8=>sI 76 ac C8 fun C9=>sL 24 C9 fun D0=>sti (call Q 122 #[C5,D0]) fun D1=>ad [ac,j,C4,C5,ac,j,C8,C9,D0,D1]) w) (fun k=>k [uu,uu,uu,uu,uu,uu,uu,uu,uu,uu] w) fun d=>sti (pick C1 (gd d 9) cF) fun D2 w=>cond D2 (aK (fun S w=>hld (fun _=>True) (bin Q .sub 3 false true j (ci 1)) fun D5=>hld (fun _=>True) (bin Q .sub 3 false true j (ci 1)) fun D7=>hI S 76 ac D7 fun D8=>hL S 24 D8 fun D9=>hI S 76 ac j fun E0=>hL S 24 E0 fun E1=>hI S 76 ac j fun E2=>sto Q 24 E2 D9 (fun _=>aK fun S w=>hI S 76 ac D5 fun E3=>sto Q 24 E3 E1 (fun _=>bin Q .sub 3 false true j (ci 1) fun D3 w=>(Inv D3 (gd d 0) (gd d 1) (gd d 2) (gd d 3) (gd d 4) (gd d 5) (gd d 6) (gd d 7) (gd d 8) (gd d 9) w)∧((μ D3 (gd d 0) (gd d 1) (gd d 2) (gd d 3) (gd d 4) (gd d 5) (gd d 6) (gd d 7) (gd d 8) (gd d 9) w)<m)) w) w) w.drew) (bY K B1 (dK ac a1 b2 i6 j (gd d 0) (gd d 1) (gd d 2) (gd d 3) (gd d 4) (gd d 5) (gd d 6) (gd d 7) (gd d 8) (gd d 9) (zV (zV dd 16 [j,a1,C1,C1]) 30 [D2])) w)) w.drew):gP K B1 (dK ac a1 b2 i6 j7 C2 C3 C4 C5 C6 C7 C8 C9 D0 D1 zf) w:=by
 refine aQ (cd f116 [1,0,0,1,0,0,1,0,0]) (zr [(7,1),(16,33)]) (by kernel_rfl) (fun e2 w2=>Inv (gd e2 7) (gd e2 20) (gd e2 21) (gd e2 22) (gd e2 23) (gd e2 24) (gd e2 25) (gd e2 26) (gd e2 27) (gd e2 28) (gd e2 29) w2) (fun e2 w2=>μ (gd e2 7) (gd e2 20) (gd e2 21) (gd e2 22) (gd e2 23) (gd e2 24) (gd e2 25) (gd e2 26) (gd e2 27) (gd e2 28) (gd e2 29) w2) h0 ?_;intro e' w' hI
 have h:=hs (gd e' 7) (gd e' 20) (gd e' 21) (gd e' 22) (gd e' 23) (gd e' 24) (gd e' 25) (gd e' 26) (gd e' 27) (gd e' 28) (gd e' 29) (zM zf (fun i=>gd e' i) (zr [(7,1),(16,33)])) w' _ hI rfl;revert h;generalize (bY K B1)=qc0;exact mpF
theorem mw {B1:KE}(h:nC i6 (fun A7=>B1 (dK ac a1 b2 A7 j7 C2 C3 C4 C5 C6 C7 C8 C9 D0 D1 (zV zf 13 [i6,A7]))) w):bY K B1 (dK ac a1 b2 i6 j7 C2 C3 C4 C5 C6 C7 C8 C9 D0 D1 zf) w:=by
 delta bY;exact mpK h
end
attribute [irreducible] gO bY gP
theorem DC {K:KV}{x0 j:Value}{w:World}(h:call Q 46 #[x0] (fun A1 w=>aJ A1 true (fun I=>call Q 46 #[j] (fun A3=>un Q .not A3 fun A4=>I [j,A3,A4]) w) (fun k=>k [uu,uu,uu] w) fun u=>pick A1 (gd u 2) cF fun A5 w=>aJ A5 false (fun C=>bin Q .lss 24 false false x0 j (fun A8=>C [x0,j,A8]) w) (fun k=>k [uu,uu,uu] w) fun d=>pick A5 cT (gd d 2) K) w):Gives Q 122 #[x0,j] w K:=by
 refine aH func122 (by kernel_rfl) ?_;exact mpK h
theorem vd {K:KV}{x0:Value}{w:World}(h:bin Q .neq 24 false false x0 x0 K w):Gives Q 46 #[x0] w K:=by
 refine aH func46 (by kernel_rfl) ?_;exact mpK h
def aL (x0 n2 A0 A2 A7:Value)(zf:Nat→Value):List Value:=x0::zf 1::n2::zf 3::A0::zT zf 5 3 (A2::zT zf 9 5 (A7::zT zf 15 10 ([])))
def iT (K:KV):KE:=ae Q (cd f73 [1,1]) (rk f73 K) xf (rk f73 K)
def oS (K:KV):KE:=ae Q (cd f73 [1,0,1]) (iT K) xf (rk f73 K)
def iU (K:KV):KE:=ae Q (cd f73 [1,1,1]) (rk f73 K) xf (rk f73 K)
def oT (K:KV):KE:=ae Q (cd f73 [1,1,0,1]) (iU K) xf (rk f73 K)
def iV (K:KV):KE:=ae Q (cd f73 [1,1,1,1]) (rk f73 K) xf (rk f73 K)
def oU (K:KV):KE:=ae Q (cd f73 [1,1,1,0,1]) (iV K) xf (rk f73 K)
section
variable {K:KV}{x0 n2 A0 A2 A7:Value}{zf:Nat→Value}{w:World}
theorem EB {K:KV}(d:Code){x0:Value}{w:World}(h:bin Q .geq 24 false true x0 (cu 4294967296) (fun A0=>ae Q d (ae Q (cd f73 [1,1]) (rk f73 K) (fun _ _ _=>False) (rk f73 K)) (fun _ _ _=>False) (rk f73 K) (aL x0 (ci 0) A0 uu uu (zV zu 3 [x0]))) w):ae Q (rep [1,0,1] d (cd f73 [])) (rk f73 K) xf (rk f73 K) (aL x0 uu uu uu uu zu) w:=Eq.mp (by kernel_rfl) h
theorem vY {K:KV}{x0:Value}{w:World}(h:bin Q .geq 24 false true x0 (cu 4294967296) (fun A0=>oS K (aL x0 (ci 0) A0 uu uu (zV zu 3 [x0]))) w):Gives Q 73 #[x0] w K:=aH func73 (by kernel_rfl) (Eq.mp (congrArg (fun c=>ae Q c (rk f73 K) xf (rk f73 K) (aL x0 uu uu uu uu zu) w) (by kernel_rfl:(rep [1,0,1] (cd f73 [1,0,1]) (cd f73 []))=(cd f73 []))) (EB (cd f73 [1,0,1]) h))
theorem BZ {K:KV}(d:KE){x0 n2 A0 A2 A7:Value}{zf:Nat→Value}{w:World}(h:cond A0 (bin Q .shr 24 false true x0 (cu 32) (fun A1=>d (aL A1 (ci 32) A0 A2 A7 (zV zf 5 [x0,A1]))) w) (d (aL x0 n2 A0 A2 A7 zf) w)):ae Q (cd f73 [1,0,1]) d xf (rk f73 K) (aL x0 n2 A0 A2 A7 zf) w:=Eq.mp (by kernel_rfl) h
theorem uE (h:cond A0 (bin Q .shr 24 false true x0 (cu 32) (fun A1=>iT K (aL A1 (ci 32) A0 A2 A7 (zV zf 5 [x0,A1]))) w) (iT K (aL x0 n2 A0 A2 A7 zf) w)):oS K (aL x0 n2 A0 A2 A7 zf) w:=by
 delta oS
 exact Eq.mp (congrArg (fun c=>ae Q c (iT K) xf (rk f73 K) (aL x0 n2 A0 A2 A7 zf) w) (by kernel_rfl:(cd f73 [1,0,1])=(cd f73 [1,0,1]))) (BZ (iT K) h)
theorem Ca {K:KV}(d:Code){x0 n2 A0 A2 A7:Value}{zf:Nat→Value}{w:World}(h:bin Q .geq 24 false true x0 (cu 65536) (fun A2=>ae Q d (ae Q (cd f73 [1,1,1]) (rk f73 K) (fun _ _ _=>False) (rk f73 K)) (fun _ _ _=>False) (rk f73 K) (aL x0 n2 A0 A2 A7 (zV zf 7 [x0]))) w):ae Q (rep [0,1] d (cd f73 [1,1])) (rk f73 K) xf (rk f73 K) (aL x0 n2 A0 A2 A7 zf) w:=Eq.mp (by kernel_rfl) h
theorem uF (h:bin Q .geq 24 false true x0 (cu 65536) (fun A2=>oT K (aL x0 n2 A0 A2 A7 (zV zf 7 [x0]))) w):iT K (aL x0 n2 A0 A2 A7 zf) w:=by
 delta iT
 exact Eq.mp (congrArg (fun c=>ae Q c (rk f73 K) xf (rk f73 K) (aL x0 n2 A0 A2 A7 zf) w) (by kernel_rfl:(rep [0,1] (cd f73 [1,1,0,1]) (cd f73 [1,1]))=(cd f73 [1,1]))) (Ca (cd f73 [1,1,0,1]) h)
theorem Cb {K:KV}(d:KE){x0 n2 A0 A2 A7:Value}{zf:Nat→Value}{w:World}(h:cond A2 (bin Q .shr 24 false true x0 (cu 16) (fun A4=>bin Q .add 3 false true n2 (ci 16) fun A6=>d (aL A4 A6 A0 A2 A7 (zV zf 9 [x0,A4,n2,A6]))) w) (d (aL x0 n2 A0 A2 A7 zf) w)):ae Q (cd f73 [1,1,0,1]) d xf (rk f73 K) (aL x0 n2 A0 A2 A7 zf) w:=Eq.mp (by kernel_rfl) h
theorem uG (h:cond A2 (bin Q .shr 24 false true x0 (cu 16) (fun A4=>bin Q .add 3 false true n2 (ci 16) fun A6=>iU K (aL A4 A6 A0 A2 A7 (zV zf 9 [x0,A4,n2,A6]))) w) (iU K (aL x0 n2 A0 A2 A7 zf) w)):oT K (aL x0 n2 A0 A2 A7 zf) w:=by
 delta oT
 exact Eq.mp (congrArg (fun c=>ae Q c (iU K) xf (rk f73 K) (aL x0 n2 A0 A2 A7 zf) w) (by kernel_rfl:(cd f73 [1,1,0,1])=(cd f73 [1,1,0,1]))) (Cb (iU K) h)
theorem Cc {K:KV}(d:Code){x0 n2 A0 A2 A7:Value}{zf:Nat→Value}{w:World}(h:bin Q .geq 24 false true x0 (cu 256) (fun A7=>ae Q d (ae Q (cd f73 [1,1,1,1]) (rk f73 K) (fun _ _ _=>False) (rk f73 K)) (fun _ _ _=>False) (rk f73 K) (aL x0 n2 A0 A2 A7 (zV zf 13 [x0]))) w):ae Q (rep [0,1] d (cd f73 [1,1,1])) (rk f73 K) xf (rk f73 K) (aL x0 n2 A0 A2 A7 zf) w:=Eq.mp (by kernel_rfl) h
theorem uH (h:bin Q .geq 24 false true x0 (cu 256) (fun A7=>oU K (aL x0 n2 A0 A2 A7 (zV zf 13 [x0]))) w):iU K (aL x0 n2 A0 A2 A7 zf) w:=by
 delta iU
 exact Eq.mp (congrArg (fun c=>ae Q c (rk f73 K) xf (rk f73 K) (aL x0 n2 A0 A2 A7 zf) w) (by kernel_rfl:(rep [0,1] (cd f73 [1,1,1,0,1]) (cd f73 [1,1,1]))=(cd f73 [1,1,1]))) (Cc (cd f73 [1,1,1,0,1]) h)
theorem Cd {K:KV}(d:KE){x0 n2 A0 A2 A7:Value}{zf:Nat→Value}{w:World}(h:cond A7 (bin Q .shr 24 false true x0 (cu 8) (fun A9=>bin Q .add 3 false true n2 (ci 8) fun C1=>d (aL A9 C1 A0 A2 A7 (zV zf 15 [x0,A9,n2,C1]))) w) (d (aL x0 n2 A0 A2 A7 zf) w)):ae Q (cd f73 [1,1,1,0,1]) d xf (rk f73 K) (aL x0 n2 A0 A2 A7 zf) w:=Eq.mp (by kernel_rfl) h
theorem uI (h:cond A7 (bin Q .shr 24 false true x0 (cu 8) (fun A9=>bin Q .add 3 false true n2 (ci 8) fun C1=>iV K (aL A9 C1 A0 A2 A7 (zV zf 15 [x0,A9,n2,C1]))) w) (iV K (aL x0 n2 A0 A2 A7 zf) w)):oU K (aL x0 n2 A0 A2 A7 zf) w:=by
 delta oU
 exact Eq.mp (congrArg (fun c=>ae Q c (iV K) xf (rk f73 K) (aL x0 n2 A0 A2 A7 zf) w) (by kernel_rfl:(cd f73 [1,1,1,0,1])=(cd f73 [1,1,1,0,1]))) (Cd (iV K) h)
theorem Ce {K:KV}{x0 n2 A0 A2 A7:Value}{zf:Nat→Value}{w:World}(h:conv Q 24 5 x0 (fun C3=>idx Q 9 (Value.string (re [0,1,2,2,3,3,3,3,4,4,4,4,4,4,4,4,5,5,5,5,5,5,5,5,5,5,5,5,5,5,5,5,6,6,6,6,6,6,6,6,6,6,6,6,6,6,6,6,6,6,6,6,6,6,6,6,6,6,6,6,6,6,6,6,7,7,7,7,7,7,7,7,7,7,7,7,7,7,7,7,7,7,7,7,7,7,7,7,7,7,7,7,7,7,7,7,7,7,7,7,7,7,7,7,7,7,7,7,7,7,7,7,7,7,7,7,7,7,7,7,7,7,7,7,7,7,7,7,8,8,8,8,8,8,8,8,8,8,8,8,8,8,8,8,8,8,8,8,8,8,8,8,8,8,8,8,8,8,8,8,8,8,8,8,8,8,8,8,8,8,8,8,8,8,8,8,8,8,8,8,8,8,8,8,8,8,8,8,8,8,8,8,8,8,8,8,8,8,8,8,8,8,8,8,8,8,8,8,8,8,8,8,8,8,8,8,8,8,8,8,8,8,8,8,8,8,8,8,8,8,8,8,8,8,8,8,8,8,8,8,8,8,8,8,8,8,8,8,8,8,8,8,8,8,8,8])) C3 fun C4=>conv Q 5 3 C4 fun C5=>bin Q .add 3 false false n2 C5 K) w):ae Q (cd f73 [1,1,1,1]) (rk f73 K) xf (rk f73 K) (aL x0 n2 A0 A2 A7 zf) w:=Eq.mp (by kernel_rfl) h
theorem uJ (h:conv Q 24 5 x0 (fun C3=>idx Q 9 (Value.string (re [0,1,2,2,3,3,3,3,4,4,4,4,4,4,4,4,5,5,5,5,5,5,5,5,5,5,5,5,5,5,5,5,6,6,6,6,6,6,6,6,6,6,6,6,6,6,6,6,6,6,6,6,6,6,6,6,6,6,6,6,6,6,6,6,7,7,7,7,7,7,7,7,7,7,7,7,7,7,7,7,7,7,7,7,7,7,7,7,7,7,7,7,7,7,7,7,7,7,7,7,7,7,7,7,7,7,7,7,7,7,7,7,7,7,7,7,7,7,7,7,7,7,7,7,7,7,7,7,8,8,8,8,8,8,8,8,8,8,8,8,8,8,8,8,8,8,8,8,8,8,8,8,8,8,8,8,8,8,8,8,8,8,8,8,8,8,8,8,8,8,8,8,8,8,8,8,8,8,8,8,8,8,8,8,8,8,8,8,8,8,8,8,8,8,8,8,8,8,8,8,8,8,8,8,8,8,8,8,8,8,8,8,8,8,8,8,8,8,8,8,8,8,8,8,8,8,8,8,8,8,8,8,8,8,8,8,8,8,8,8,8,8,8,8,8,8,8,8,8,8,8,8,8,8,8,8])) C3 fun C4=>conv Q 5 3 C4 fun C5=>bin Q .add 3 false false n2 C5 K) w):iV K (aL x0 n2 A0 A2 A7 zf) w:=by
 delta iV
 exact Eq.mp (congrArg (fun c=>ae Q c (rk f73 K) xf (rk f73 K) (aL x0 n2 A0 A2 A7 zf) w) (by kernel_rfl:(cd f73 [1,1,1,1])=(cd f73 [1,1,1,1]))) (Ce h)
end
attribute [irreducible] iT oS iU oT iV oU
end
section
open Go.RowKit
def uK (l0 l1 IQ A0 A1 A2 A7 A8:Value)(zf:Nat→Value):List Value:=l0::l1::IQ::zT zf 3 3 (A0::A1::A2::zT zf 9 6 (A7::A8::zT zf 17 6 ([])))
def my (K:KV):KE:=ae Q (cd f74 [1,1]) (rk f74 K) xf (rk f74 K)
def tz (K:KV):KE:=ae Q (cd f74 [1,0,1,0]) (my K) (xx xf (my K) 0) (rk f74 K)
section
variable {K:KV}{l0 l1 IQ A0 A1 A2 A7 A8:Value}{zf:Nat→Value}{w:World}
theorem Jt {K:KV}{l0:Value}{w:World}(h:lN 115 l0 (fun A1=>tz K (uK l0 uu (ci 0) l0 A1 (ci 0) uu uu (zV zu 3 [cF]))) w):Gives Q 74 #[l0] w K:=by
 refine aH func74 (by kernel_rfl) ?_;revert h;delta tz my;exact mpF
theorem GY (Inv:vI 4)(μ:vM 4)(h0:Inv IQ A2 A7 A8 w)(R:∀(d u C I:Value) (U:Nat→Value) (w:World) (m:Nat),Inv d u C I w→m=μ d u C I w →
  lS u A1 (fun A3 w=>cond A3 (aU Q 115 A0 u (fun A4=>ld Q 2 A4 fun A5=>bin Q .lss 2 false true A5 (ci 0) fun A6 w=>aJ A6 false (fun J=>bin Q .gtr 2 false true A5 (ci 1125899906842624) (fun A8=>J [A5,A8]) w) (fun k=>k [uu,uu] w) fun j=>pick A6 cT (gd j 1) fun A9 w=>cond A9 (K (Value.tuple #[ci 0,cF]) w) (bin Q .add 2 false false d A5 (fun C2=>nC u fun C3 w=>(Inv C2 C3 (gd j 0) (gd j 1) w)∧((μ C2 C3 (gd j 0) (gd j 1) w)<m)) w)) w) (my K (uK l0 l1 d A0 A1 u C I (zV U 9 [A3])) w)) w):tz K (uK l0 l1 IQ A0 A1 A2 A7 A8 zf) w:=by
 refine aQ (cd f74 [1,0,1,0,0]) (zr [(2,2),(5,1),(8,14)]) (by kernel_rfl) (fun e2 M=>Inv (gd e2 2) (gd e2 8) (gd e2 15) (gd e2 16) M) (fun e2 M=>μ (gd e2 2) (gd e2 8) (gd e2 15) (gd e2 16) M) h0 ?_;intro e' w' hI;have h:=R (gd e' 2) (gd e' 8) (gd e' 15) (gd e' 16) (zM zf (fun i=>gd e' i) (zr [(2,2),(5,1),(8,14)])) w' _ hI rfl;revert h;generalize (my K)=qc0;exact mpF
theorem GZ (h:K (Value.tuple #[IQ,cT]) w):my K (uK l0 l1 IQ A0 A1 A2 A7 A8 zf) w:=by
 delta my;exact mpK h
end
attribute [irreducible] my tz
def nS (r0 k_1 sC in7 j8 D3 F7:Value)(zf:Nat→Value):List Value:=r0::k_1::zT zf 2 4 (sC::in7::j8::zT zf 9 24 (D3::zT zf 34 40 (F7::zf 75::[])))
def kG (K:KV):KE:=ae Q (cd f49 [1,1,1]) (rk f49 K) xf (rk f49 K)
def nu (K:KV):KE:=ae Q (cd f49 [1,1,0,1,0]) (kG K) (xx xf (kG K) 0) (rk f49 K)
section
variable {K:KV}{r0 k_1 sC in7 j8 D3 F7:Value}{zf:Nat→Value}{w:World}
theorem Ha {K:KV}{r0 k_1:Value}{w:World}(h:aK (fun S w=>hN S r0 fun A7=>hF S 36 A7 1 fun A8=>hI S 33 A8 k_1 fun A9=>hL S 2 A9 fun C0=>hN S r0 fun C4=>hF S 36 C4 0 fun C5=>hI S 33 C5 k_1 fun C6=>hL S 2 C6 fun C7=>hN S r0 fun C8=>hF S 36 C8 2 fun C9=>hI S 33 C9 k_1 fun D0=>hL S 2 D0 fun D1=>(dl Q 115 1 #[(0,C0)] (fun C1=>bF S fun S=>dl Q 115 2 #[(0,C7),(1,D1)] fun D2=>bF S fun _=>nu K (nS r0 k_1 C1 D2 uu (ci 0) uu (zV (zV zu 4 [ci 0,cF]) 13 [r0,k_1,A7,A8,A9,C0,C1,r0,k_1,C4,C5,C6,C7,r0,k_1,C8,C9,D0,D1,D2]))) w)∧(dl Q 115 2 #[(0,C7),(1,D1)] (fun D2=>bF S fun _=>dl Q 115 1 #[(0,C0)] fun C1=>aK fun _=>nu K (nS r0 k_1 C1 D2 uu (ci 0) uu (zV (zV zu 4 [ci 0,cF]) 13 [r0,k_1,A7,A8,A9,C0,C1,r0,k_1,C4,C5,C6,C7,r0,k_1,C8,C9,D0,D1,D2]))) w)) w.drew):Gives Q 49 #[r0,k_1] w K:=by
 refine aH func49 (by kernel_rfl) ?_;revert h;delta nu kG;exact mpF
theorem ED (Inv:vI 3)(μ:vM 3)(h0:Inv sC in7 D3 w)(J:∀(d j u:Value) (I:Nat→Value) (w:World) (m:Nat),Inv d j u w→m=μ d j u w →
  bin Q .lss 3 false true u (ci 6) (fun D4 w=>cond D4 (aK (fun S w=>hN S r0 fun D5=>hF S 36 D5 3 fun D6=>hI S 34 D6 k_1 fun D7=>hI S 33 D7 u fun D8=>hL S 2 D8 fun D9=>hN S r0 fun E2=>hF S 36 E2 3 fun E3=>hI S 34 E3 u fun E4=>hI S 33 E4 k_1 fun E5=>hL S 2 E5 fun E6=>(dl Q 115 1 #[(0,D9)] (fun E0=>bF S fun S w=>(blt Q .append #[115,115] 115 #[false,false] #[d,E0] (fun E1=>bF S fun _=>dl Q 115 1 #[(0,E6)] fun E7=>aK fun _=>blt Q .append #[115,115] 115 #[false,false] #[j,E7] fun E8=>aK fun _=>nC u fun E9 w=>(Inv E1 E8 E9 w)∧((μ E1 E8 E9 w)<m)) w)∧(dl Q 115 1 #[(0,E6)] (fun E7=>aK fun _=>blt Q .append #[115,115] 115 #[false,false] #[d,E0] fun E1=>aK fun _=>blt Q .append #[115,115] 115 #[false,false] #[j,E7] fun E8=>aK fun _=>nC u fun E9 w=>(Inv E1 E8 E9 w)∧((μ E1 E8 E9 w)<m)) w)) w)∧(dl Q 115 1 #[(0,E6)] (fun E7=>bF S fun _=>dl Q 115 1 #[(0,D9)] fun E0=>aK fun _=>blt Q .append #[115,115] 115 #[false,false] #[d,E0] fun E1=>aK fun _=>blt Q .append #[115,115] 115 #[false,false] #[j,E7] fun E8=>aK fun _=>nC u fun E9 w=>(Inv E1 E8 E9 w)∧((μ E1 E8 E9 w)<m)) w)) w.drew) (kG K (nS r0 k_1 d j (I 8) u F7 (zV I 34 [D4])) w)) w):nu K (nS r0 k_1 sC in7 j8 D3 F7 zf) w:=by
 refine aQ (cd f49 [1,1,0,1,0,0]) (zr [(6,3),(33,26)]) (by kernel_rfl) (fun e2 C=>Inv (gd e2 6) (gd e2 7) (gd e2 33) C) (fun e2 C=>μ (gd e2 6) (gd e2 7) (gd e2 33) C) h0 ?_;intro e' w' hI;have h:=J (gd e' 6) (gd e' 7) (gd e' 33) (zM zf (fun i=>gd e' i) (zr [(6,3),(33,26)])) w' _ hI rfl;revert h;generalize (kG K)=qc0;exact mpF
theorem EE (h:call Q 74 #[sC] (fun F0=>ext Q F0 0 fun F1=>ext Q F0 1 fun F2=>call Q 74 #[in7] fun F3=>ext Q F3 0 fun F4=>ext Q F3 1 fun F5=>bin Q .sub 2 false false F4 F1 fun F6 w=>aJ F2 true (fun j=>j [F5] w) (fun k=>k [uu] w) fun d=>pick F2 (gd d 0) cF fun F8=>K (Value.tuple #[F6,F8])) w):kG K (nS r0 k_1 sC in7 j8 D3 F7 zf) w:=by
 delta kG;exact mpK h
end
attribute [irreducible] kG nu
end
section
attribute [local irreducible] bin un conv call dC blt slc ai fld aU idx lkp eX jl eSt rng nxt ent ext alc box bld dl ld sto bo eS mkS ifc pick rdy wts aJ sti cond bM Gives ae fU gX cOp
section
open Go.RowKit
section
variable {w:World}{K:KV}
theorem Le {a:Option Addr}{n c:Nat}{l:List Int}(R:RV w a n c (l.map iv))(hn:n≤1000)(h:K (.tuple #[iv (lT l).1,.bool (lT l).2]) w):call Tryz.prog 74 #[.slice a n c] K w:=by
 have hl:l.length=n:=by simpa using R.len
 refine aB (goK func74) (Jt ?_);refine bx underlying115 <|GY (Inv:=fun s i _ _ wr=>∃j:Nat,s=iv (l.take j).sum∧i=.int .i64 (j:Nat)∧j≤n∧wr=w∧(l.take j).all okA=true) (μ:=fun _ i _ _ _=>n-(intOf i).toNat) ⟨0,by simp[iv],rfl,by omega,rfl,by simp⟩ ?_;rintro _ _ _ _ dd _ m ⟨j,rfl,rfl,hj,rfl,d⟩ hm;by_cases ad:j<n
 ·(repeat (first|refine aV ?_|refine ay (by omega) ?_))
  have hv:(l.map iv)[j]? = some (iv (nA l j)):=by
   simp[nA,List.getD,List.getElem?_eq_getElem (show j<l.length by omega)]
  refine AB underlying115 (fun _=>by kernel_rfl) (by omega) (by omega) R.some_ ?_;rw[Int.toNat_natCast];refine vk (fun _=>by kernel_rfl) (R.cell _ _ hv) ?_;have X:nA l j=l[j]:=by simp[nA,List.getD,show j<l.length by omega]
  have u:l.all okA=true→okA (nA l j)=true:=fun h=>by rw[X];exact List.all_eq_true.1 h _ (List.getElem_mem _)
  have I:okA (nA l j)=false→lT l=(0,false):=fun hb=>by
   unfold lT;cases M:l.all okA with
   | false=>rfl
   | true=>rw[u M]at hb;cases hb
  have V:l.take (j+1)=l.take j++[nA l j]:=by rw[X,List.take_append_getElem (by omega)]
  unfold iv;refine aV ?_;by_cases h0:nA l j<0
  ·refine iZ h0 <|bR h0 <|bu ?_
   have:okA (nA l j)=false:=by
    cases M:okA (nA l j)with
    | false=>rfl
    | true=>have:=kH.1 M;omega
   rw[I this]at h;exact h
  ·refine dZ h0 <|cB <|bE h0 ?_;by_cases Z:nA l j>1125899906842624
   ·refine ay Z ?_
    have:okA (nA l j)=false:=by
     cases M:okA (nA l j)with
     | false=>rfl
     | true=>have:=kH.1 M;simp only[MXA]at this;omega
    rw[I this]at h;exact h
   ·refine au Z ?_;have U:okA (nA l j)=true:=kH.2 ⟨by omega,by simp only[MXA];omega⟩;have C:=BD d;have J:(l.take j).length=j:=by rw[List.length_take];omega
    rw[J]at C;simp only[MXA]at C;refine aR (by omega) (by omega) <|aR (by omega) (by omega) ?_;refine⟨⟨j+1,?_,by simp,by omega,rfl,?_⟩,?_⟩
    ·rw[V];simp[iv]
    ·rw[V,List.all_append,d];simp[U]
    ·rw[hm];simp[intOf];omega
 ·obtain rfl:j=n:=by omega
  (repeat (first|refine GZ ?_|refine aV ?_|refine au (by omega) ?_))
  rw[List.take_of_length_le (by omega)]at d ⊢;unfold lT at h;rw[d]at h;exact h
/-! ## Rows of numbers of the call's own. -/
abbrev OI (w:World)(B p n c:Nat)(l:List Int):Prop:=OV w B 2 (some ⟨p,0,none⟩) n c (l.map iv)
theorem OI.lt {B p n c:Nat}{l:List Int}(h:OI w B p n c l):B≤p∧p<w.heap.size:=OV.block h p rfl
theorem OI.keep {w':World}{B p n c:Nat}{l:List Int}(h:OI w B p n c l)(d:w'.heap[p]? = w.heap[p]?):OI w' B p n c l:=di h fun k e=>by cases e;exact d
theorem bl1 {x:Int}(h:∀w',blk w' w.heap.size 2 [iv x]→Below w.heap.size w w'→w'.heap.size=w.heap.size+1→K (.slice (some ⟨w.heap.size,0,none⟩) 1 1) w'):dl Tryz.prog 115 1 #[(0,iv x)] K w :=
 oe (vs:=[iv x]) underlying115 (s:=1) (by kernel_rfl) (by kernel_rfl) (by omega) rfl (by simp) (by simp) (by simp) (by simp[Value.cells,iv]) fun w' d b s=>h w' (by simpa[iv,Value.cells]using d) b s
theorem bl2 {x y:Int}(h:∀w',blk w' w.heap.size 2 [iv x,iv y]→Below w.heap.size w w'→w'.heap.size=w.heap.size+1→K (.slice (some ⟨w.heap.size,0,none⟩) 2 2) w'):dl Tryz.prog 115 2 #[(0,iv x),(1,iv y)] K w :=
 oe (vs:=[iv x,iv y]) underlying115 (s:=1) (by kernel_rfl) (by kernel_rfl) (by omega) rfl (by simp) (by simp) (by simp) (by simp[Value.cells,iv]) fun w' d b s=>h w' (by simpa[iv,Value.cells]using d) b s
theorem Rf :(Tryz.prog.info? 2).map (fun i=>(i.zero,i.size,i.bytes))=some (some (.int .i64 0),1,8):=by kernel_rfl
theorem ap1 {cs:Array Bool}{ty:TypeId}{B p n c g:Nat}{l:List Int}{x:Int}(Z:OI w B p n c l)(hg:blk w g 2 [iv x])(hB:B≤w.heap.size)(hn:n≤1000)(h:∀d j w',OI w' B d (n+1) j (l++[x])→(d=p∨d=w.heap.size)→(∀k,k<w.heap.size→k≠p→w'.heap[k]? = w.heap[k]?)→Below B w w'→K (.slice (some ⟨d,0,none⟩) (n+1) j) w'):blt Tryz.prog .append #[115,115] ty cs #[.slice (some ⟨p,0,none⟩) n c,.slice (some ⟨g,0,none⟩) 1 1] K w:=by
 obtain⟨i,hi,hz,U,J⟩:=info_parts Rf;refine Ue (base:=B) (s:=1) (m:=1) (ys:=[iv x]) underlying115 hi hz U J rfl (by omega) Z hg rfl (by simp[iv,Value.oneCell']) (by omega) (by omega) hB ?_;intro a' j w' u C X;have hb:Below B w w':=fJ C hB (fun k R=>by cases R;exact Z.lt.1)
 have V:∀k,k<w.heap.size→k≠p→w'.heap[k]? = w.heap[k]? := fun k R I=>C.block k R fun e=>I (by cases e;rfl);have hq:∀d,a'=some ⟨d,0,none⟩→K (.slice a' (n+1) j) w':=by
  rintro d rfl;refine h d j w' (by simpa[OV]using u) ?_ V hb;rcases X with e|e
  ·cases e;exact .inl rfl
  ·cases e;exact .inr rfl
 rcases u.2 with⟨M,ag⟩|⟨g',cap,ad,M,_⟩
 ·omega
 ·simp only[Value.slice.injEq]at M;exact hq g' M.1
end
structure RtA (w:World) (b o:Nat) (E:TypeId) (cs:List Value) (A:List Int):Prop where
 bk:blk w b E cs
 cut:(cs.drop o).take 54=A.map iv
 len:A.length=54
theorem RtA.get {w:World}{b o i:Nat}{E:TypeId}{cs:List Value}{A:List Int}(h:RtA w b o E cs A)(hi:i<54):cs[o+i]? = some (iv (nA A i)):=by
 have d:((cs.drop o).take 54)[i]? = (A.map iv)[i]? := by rw[h.cut]
 rw[List.getElem?_take_of_lt hi,List.getElem?_drop]at d;rw[d]
 have:=h.len
 simp[nA,List.getD,show i<A.length by omega]
theorem RtA.below {w w':World}{B b o:Nat}{E:TypeId}{cs:List Value}{A:List Int}(h:RtA w b o E cs A)(d:Below B w w')(j:b<B):RtA w' b o E cs A:=⟨af d h.bk j,h.cut,h.len⟩
section
variable {w:World}{K:KV}
theorem Pn (A:List Int)(k j:Nat):pU A k (j+1)=pU A k j++[nA A (18+6*k+j)]:=by simp[pU,List.range_succ]
theorem Rg (A:List Int)(k j:Nat):inL A k (j+1)=inL A k j++[nA A (18+6*j+k)]:=by simp[inL,List.range_succ]
theorem Rh (A:List Int)(k j:Nat):(pU A k j).length=1+j:=by simp[pU];omega
theorem Tw (A:List Int)(k j:Nat):(inL A k j).length=2+j:=by simp[inL];omega
def Two (w:World)(B p n c q m d:Nat)(l r:List Int):Prop:=p≠q∧OI w B p n c l∧OI w B q m d r
theorem Two.bel {w':World}{B p n c q m d:Nat}{l r:List Int}(h:Two w B p n c q m d l r)(j:Below w.heap.size w w'):Two w' B p n c q m d l r :=
 ⟨h.1,h.2.1.keep (j.block _ h.2.1.lt.2),h.2.2.keep (j.block _ h.2.2.lt.2)⟩
theorem apL {cs:Array Bool}{ty:TypeId}{B p n c q m d g:Nat}{l r:List Int}{x:Int}(U:Two w B p n c q m d l r)(R:blk w g 2 [iv x])(Z:B≤w.heap.size)(V:n≤1000)(h:∀u j w',Two w' B u (n+1) j q m d (l++[x]) r→(∀k,k<w.heap.size→k≠p→w'.heap[k]? = w.heap[k]?)→Below B w w'→K (.slice (some ⟨u,0,none⟩) (n+1) j) w'):blt Tryz.prog .append #[115,115] ty cs #[.slice (some ⟨p,0,none⟩) n c,.slice (some ⟨g,0,none⟩) 1 1] K w:=by
 obtain⟨I,hl,C⟩:=U;refine ap1 hl R Z V fun u j w' M X J hb=>h u j w' ⟨?_,M,C.keep (J q C.lt.2 (Ne.symm I))⟩ J hb
 have:=C.lt
 rcases X with rfl|rfl<;>omega
theorem apR {cs:Array Bool}{ty:TypeId}{B p n c q m d g:Nat}{l r:List Int}{x:Int}(U:Two w B p n c q m d l r)(R:blk w g 2 [iv x])(hB:B≤w.heap.size)(V:m≤1000)(h:∀j u w',Two w' B p n c j (m+1) u l (r++[x])→(∀k,k<w.heap.size→k≠q→w'.heap[k]? = w.heap[k]?)→Below B w w'→K (.slice (some ⟨j,0,none⟩) (m+1) u) w'):blt Tryz.prog .append #[115,115] ty cs #[.slice (some ⟨q,0,none⟩) m d,.slice (some ⟨g,0,none⟩) 1 1] K w:=by
 obtain⟨C,I,X⟩:=U;refine ap1 X R hB V fun j u w' M Z J hb=>h j u w' ⟨?_,I.keep (J p I.lt.2 C),M⟩ J hb
 have:=I.lt
 rcases Z with rfl|rfl<;>omega
theorem Hb {b o k B p q:Nat}{E:TypeId}{cs:List Value}{A:List Int}{r0 k_1 sC in7 j8 an ar:Value}{zf:Nat→Value}(hA:RtA w b o E cs A)(M:b<B)(hB:B≤w.heap.size)(hk:k<6)(h2:Two w B p 1 1 q 2 2 (pU A k 0) (inL A k 0))(h:∀w',Below B w w'→K (.tuple #[iv (oE A k).1,.bool (oE A k).2]) w')(e0:r0=.pointer (some ⟨b,o,none⟩))(e1:k_1=.int .i64 (k:Nat))(e2:sC=.slice (some ⟨p,0,none⟩) 1 1)(e3:in7=.slice (some ⟨q,0,none⟩) 2 2)(e4:an=.int .i64 0):nu K ((nS r0 k_1 sC in7 j8 an ar zf)) w:=by
 subst e0 e1 e2 e3 e4;refine ED (Inv:=fun a c i wr=>∃(j p q c1 d1:Nat),j≤6∧a=.slice (some ⟨p,0,none⟩) (1+j) c1∧c=.slice (some ⟨q,0,none⟩) (2+j) d1∧i=.int .i64 (j:Nat)∧Two wr B p (1+j) c1 q (2+j) d1 (pU A k j) (inL A k j)∧Below B w wr)
  (μ:=fun _ _ i _=>6-(intOf i).toNat) ⟨0,p,q,1,2,by omega,rfl,rfl,rfl,h2,Below.refl _ _⟩ ?_
 rintro _ _ _ dd C m ⟨j,p1,q1,c1,d1,hj,rfl,rfl,rfl,ht,R⟩ hm;have u:RtA C b o E cs A:=hA.below R M;have av:B≤C.heap.size:=Nat.le_trans hB R.size;refine aV ?_;by_cases a0:j<6
 ·refine ay (by omega) ?_;have am:∀{p2 q2 c2 d2:Nat} {Z:World},Two Z B p2 (1+j+1) c2 q2 (2+j+1) d2 (pU A k j++[nA A (18+6*k+j)]) (inL A k j++[nA A (18+6*j+k)])→Below B C Z →
    (∃(V p q c1 d1:Nat),V≤6∧Value.slice (some ⟨p2,0,none⟩) (1+j+1) c2=.slice (some ⟨p,0,none⟩) (1+V) c1∧Value.slice (some ⟨q2,0,none⟩) (2+j+1) d2=.slice (some ⟨q,0,none⟩) (2+V) d1∧Value.int .i64 ((j:Int)+1)=.int .i64 (V:Nat)∧Two Z B p (1+V) c1 q (2+V) d1 (pU A k V) (inL A k V)∧Below B w Z) ∧
     6-(intOf (.int .i64 ((j:Int)+1))).toNat<m:=by
   intro p2 q2 c2 d2 Z az ap;refine⟨⟨j+1,p2,q2,c2,d2,by omega,rfl,rfl,by simp,?_,R.trans ap⟩,by rw[hm];simp[intOf];omega⟩;rw[Pn,Rg];exact az
  have sB:∀{wa wb:World},B≤wa.heap.size→Below wa.heap.size wa wb→Below B wa wb:=fun h hb=>hb.mono h
  refine aE (fun x=>RtA x b o E cs A) ⟨u.bk.drew,u.cut,u.len⟩ <|ab (fun x d _=>aw) <|ab (fun x d _=>aM (off:=18) (by kernel_rfl)) <|ab (fun x d _=>dB underlying34 (s:=6) (fun _=>by kernel_rfl) (by omega) (by omega)) <|ab (fun x d _=>dB underlying33 (s:=1) (fun _=>by kernel_rfl) (by omega) (by omega)) <|ab (v:=iv (nA A (18+6*k+j))) (fun x d _=>lK d.bk (by rw[←d.get (i:=18+6*k+j) (by omega)];congr 1;simp;omega)) <|ab (fun x d _=>aw) <|ab (fun x d _=>aM (off:=18) (by kernel_rfl)) <|ab (fun x d _=>dB underlying34 (s:=6) (fun _=>by kernel_rfl) (by omega) (by omega)) <|ab (fun x d _=>dB underlying33 (s:=1) (fun _=>by kernel_rfl) (by omega) (by omega)) <|ab (v:=iv (nA A (18+6*j+k))) (fun x d _=>lK d.bk (by rw[←d.get (i:=18+6*j+k) (by omega)];congr 1;simp;omega)) ?_
  have ag:Two C.drew B p1 (1+j) c1 q1 (2+j) d1 (pU A k j) (inL A k j):=ht;have J:B≤C.drew.heap.size:=av;have al:RtA C.drew b o E cs A:=⟨u.bk.drew,u.cut,u.len⟩
  have b0:Below B C C.drew:=(Below.refl B C).drew;generalize C.drew=Z at *;refine⟨?_,?_⟩
  ·refine bl1 fun w3 g3 b3 s3=>?_;have t3:=ag.bel b3;have B3:B≤w3.heap.size:=by omega
   have U:=b0.trans (sB J b3);refine aO (al.below (sB J b3) M) ?_;refine⟨?_,?_⟩
   ·refine apL t3 g3 B3 (by omega) fun p4 c4 w4 t4 k4 I=>?_;refine aO ((al.below (sB J b3) M).below I M) ?_;refine bl1 fun w5 g5 X s5=>?_;have B4:=Nat.le_trans B3 I.size;refine aE (fun _=>True) trivial ?_;refine apR (t4.bel X) g5 (by omega) (by omega) fun q6 d6 w6 t6 k6 b6=>?_;refine aE (fun _=>True) trivial <|aR (by omega) (by omega) ?_
    exact am t6 (((U.trans I).trans (sB B4 X)).trans b6)
   ·refine bl1 fun w4 g4 I s4=>?_;refine aE (fun _=>True) trivial ?_;have ad:blk w4 Z.heap.size 2 [iv (nA A (18+6*k+j))]:=af I g3 (by omega);refine apL (t3.bel I) ad (by omega) (by omega) fun p5 c5 w5 t5 k5 X=>?_;refine aE (fun _=>True) trivial ?_;have aS:blk w5 w3.heap.size 2 [iv (nA A (18+6*j+k))]:=by
     unfold blk;rw[k5 _ (by omega) (by have:=t3.2.1.lt;omega)];exact g4
    refine apR t5 aS (by have:=X.size;omega) (by omega) fun q6 d6 w6 t6 k6 b6=>?_;refine aE (fun _=>True) trivial <|aR (by omega) (by omega) ?_;exact am t6 (((U.trans (sB B3 I)).trans X).trans b6)
  ·refine bl1 fun w3 g3 b3 s3=>?_;have t3:=ag.bel b3;have B3:B≤w3.heap.size:=by omega
   have U:=b0.trans (sB J b3);refine aO (al.below (sB J b3) M) ?_;refine bl1 fun w4 g4 I s4=>?_;refine aE (fun _=>True) trivial ?_;refine apL (t3.bel I) g4 (by omega) (by omega) fun p5 c5 w5 t5 k5 X=>?_;refine aE (fun _=>True) trivial ?_;have ad:blk w5 Z.heap.size 2 [iv (nA A (18+6*j+k))]:=by
    unfold blk;rw[k5 _ (by omega) (by have:=ag.2.1.lt;omega)];exact af I g3 (by omega)
   refine apR t5 ad (by have:=X.size;omega) (by omega) fun q6 d6 w6 t6 k6 b6=>?_;refine aE (fun _=>True) trivial <|aR (by omega) (by omega) ?_;exact am t6 (((U.trans (sB B3 I)).trans X).trans b6)
 ·obtain rfl:j=6:=by omega
  refine au (by omega) <|EE <|Le ht.2.1.rv (by omega) <|eB <|eC <|Le ht.2.2.rv (by omega) <|eB <|eC ?_;have bd:∀l:List Int,l.length≤8→0≤(lT l).1∧(lT l).1≤9007199254740992:=by
   intro l hl;unfold lT;cases hq:l.all okA with
   | false=>simp
   | true =>
    have:=BD hq
    simp only[MXA]at this;simp only;omega
  have h1:=bd (pU A k 6) (by rw[Rh];omega);have h3:=bd (inL A k 6) (by rw[Tw];omega);unfold iv at *;refine bg (by omega) (by omega) ?_;have hl:oE A k=((lT (inL A k 6)).1-(lT (pU A k 6)).1,(lT (pU A k 6)).2&&(lT (inL A k 6)).2):=rfl;cases hq:(lT (pU A k 6)).2 with
  | true =>
   refine nH <|db ?_;rw[hl,hq]at h;exact h C R
  | false =>
   refine mK <|fm ?_;rw[hl,hq]at h;exact h C R
theorem ML {b o k:Nat}{E:TypeId}{cs:List Value}{A:List Int}(j:RtA w b o E cs A)(hk:k<6)(h:∀w',Below w.heap.size w w'→K (.tuple #[iv (oE A k).1,.bool (oE A k).2]) w'):call Tryz.prog 49 #[.pointer (some ⟨b,o,none⟩),.int .i64 (k:Nat)] K w:=by
 have u:=j.bk.lt;refine aB (goK func49) (Ha ?_)
 refine aE (fun x=>RtA x b o E cs A) ⟨j.bk.drew,j.cut,j.len⟩ <|ab (fun x d _=>aw) <|ab (fun x d _=>aM (off:=6) (by kernel_rfl)) <|ab (fun x d _=>dB underlying33 (s:=1) (fun _=>by kernel_rfl) (by omega) (by omega)) <|ab (v:=iv (nA A (6+k))) (fun x d _=>lK d.bk (by rw[←d.get (i:=6+k) (by omega)];congr 1;simp;omega)) <|ab (fun x d _=>aw) <|ab (fun x d _=>aM (off:=0) (by kernel_rfl)) <|ab (fun x d _=>dB underlying33 (s:=1) (fun _=>by kernel_rfl) (by omega) (by omega)) <|ab (v:=iv (nA A k)) (fun x d _=>lK d.bk (by rw[←d.get (i:=k) (by omega)];congr 1;simp)) <|ab (fun x d _=>aw) <|ab (fun x d _=>aM (off:=12) (by kernel_rfl)) <|ab (fun x d _=>dB underlying33 (s:=1) (fun _=>by kernel_rfl) (by omega) (by omega)) <|ab (v:=iv (nA A (12+k))) (fun x d _=>lK d.bk (by rw[←d.get (i:=12+k) (by omega)];congr 1;simp;omega)) ?_
 have J:RtA w.drew b o E cs A:=⟨j.bk.drew,j.cut,j.len⟩
 have R:Below w.heap.size w w.drew:=(Below.refl _ w).drew;have s0:w.drew.heap.size=w.heap.size:=rfl;generalize w.drew=w2 at *;have M:∀{p q:Nat} {U:World},p≠q→blk U p 2 [iv (nA A (6+k))]→blk U q 2 [iv (nA A k),iv (nA A (12+k))]→w.heap.size≤p→w.heap.size≤q→Two U w.heap.size p 1 1 q 2 2 (pU A k 0) (inL A k 0) :=
  fun ad hp hq h1 h2=>⟨ad,Ow hp rfl h1 (by simp[maxLen]),Ow hq rfl h2 (by simp[maxLen])⟩
 refine⟨?_,?_⟩
 ·refine bl1 fun w3 Z I s3=>?_;refine aO (J.below I (by omega)) ?_;refine bl2 fun w4 V C s4=>?_;refine aO ((J.below I (by omega)).below C (by omega)) ?_;refine Hb ((j.below R u).below (I.trans (C.mono (by omega))) (by omega)) u (by omega) hk (M (by omega) (af C Z (by omega)) V (by omega) (by omega)) (fun w' X=>h w' ?_) rfl rfl rfl rfl rfl
  exact((R.trans (I.mono (by omega))).trans (C.mono (by omega))).trans X
 ·refine bl2 fun w3 Z I s3=>?_;refine aO (J.below I (by omega)) ?_;refine bl1 fun w4 V C s4=>?_;refine aE (fun _=>True) trivial ?_;refine Hb ((j.below R u).below (I.trans (C.mono (by omega))) (by omega)) u (by omega) hk (M (by omega) V (af C Z (by omega)) (by omega) (by omega)) (fun w' X=>h w' ?_) rfl rfl rfl rfl rfl
  exact((R.trans (I.mono (by omega))).trans (C.mono (by omega))).trans X
end
end
end
section
open Go.RowKit
theorem FN {K:KV}{d:Value}{w:World}(h:bin Q .geq 3 false true d (ci 1) (fun A0 w=>aJ A0 true (fun u=>bin Q .leq 3 false true d (ci 6) (fun A3=>u [d,A3]) w) (fun k=>k [uu,uu] w) fun j=>pick A0 (gd j 1) cF K) w):Gives Q 47 #[d] w K:=by
 refine aH func47 (by kernel_rfl) ?_;exact mpK h
def uL (r0 r1 A4 C4 C5 C7 C8 C9 D0 D1 D2 D3 D4 D5 D7 D8 D9 E0 E1 E2 E3 F1 F2:Value)(zf:Nat→Value):List Value:=r0::r1::zT zf 2 6 (A4::zT zf 9 10 (C4::C5::zf 21::zf 22::C7::C8::C9::D0::D1::D2::D3::D4::D5::zf 32::zf 33::D7::D8::D9::E0::E1::E2::E3::zT zf 41 10 (F1::F2::zf 53::[])))
def mA (K:KV):KE:=ae Q (cd f48 [1,1]) (rk f48 K) xf (rk f48 K)
def tA (K:KV):KE:=ae Q (cd f48 [1,0,1,0]) (mA K) (xx xf (mA K) 0) (rk f48 K)
section
variable {K:KV}{r0 r1 A4 C4 C5 C7 C8 C9 D0 D1 D2 D3 D4 D5 D7 D8 D9 E0 E1 E2 E3 F1 F2:Value}{zf:Nat→Value}{w:World}
theorem Ju {K:KV}{r0:Value}{w:World}(h:box Q 36 r0 (fun r1=>tA K (uL r0 r1 (ci 0) uu uu uu uu uu uu uu uu uu uu uu uu uu uu uu uu uu uu uu uu (zV zu 2 [cF]))) w):Gives Q 48 #[r0] w K:=by
 refine aH func48 (by kernel_rfl) ?_;revert h;delta tA mA;exact mpF
theorem Hc (Inv:vI 19)(μ:vM 19)(h0:Inv A4 C4 C5 C7 C8 C9 D0 D1 D2 D3 D4 D5 D7 D8 D9 E0 E1 E2 E3 w)(hs:∀(u X az ag ar ap U M R al aS Z V av J an ad I am:Value) (dd:Nat→Value) (w:World) (m:Nat),Inv u X az ag ar ap U M R al aS Z V av J an ad I am w→m=μ u X az ag ar ap U M R al aS Z V av J an ad I am w →
  bin Q .lss 3 false true u (ci 6) (fun A5 w=>cond A5 (call Q 49 #[r1,u] (fun A8=>ext Q A8 0 fun A9=>ext Q A8 1 fun C0 w=>sti (un Q .not C0) (fun C2 w=>aJ C2 false (fun a3=>sti (bin Q .lss 2 false true A9 (ci 0)) (fun C5=>a3 [A9,C5]) w) (fun k=>k [uu,uu] w) fun C=>sti (pick C2 cT (gd C 1)) fun C6 w=>aJ C6 false (fun a0=>sF 36 r1 2 (fun C8=>sI 33 C8 u fun C9=>sL 2 C9 fun D0=>sF 36 r1 1 fun D2=>sI 33 D2 u fun D3=>sL 2 D3 fun D4=>sti (bin Q .gtr 2 false false D0 D4) fun D5=>a0 [u,C8,C9,D0,u,D2,D3,D4,D5]) w) (fun k=>k [uu,uu,uu,uu,uu,uu,uu,uu,uu] w) fun d=>sti (pick C6 cT (gd d 8)) fun D6 w=>aJ D6 false (fun a2=>sF 36 r1 3 (fun D9=>sI 34 D9 u fun E0=>sI 33 E0 u fun E1=>sL 2 E1 fun E2=>sti (bin Q .neq 2 false true E2 (ci 0)) fun E3=>a2 [u,u,D9,E0,E1,E2,E3]) w) (fun k=>k [uu,uu,uu,uu,uu,uu,uu] w) fun j=>sti (pick D6 cT (gd j 6)) fun E4 w=>cond E4 (K cF w) (nC u (fun E5 w=>(Inv E5 (gd C 0) (gd C 1) (gd d 0) (gd d 1) (gd d 2) (gd d 3) (gd d 4) (gd d 5) (gd d 6) (gd d 7) (gd d 8) (gd j 0) (gd j 1) (gd j 2) (gd j 3) (gd j 4) (gd j 5) (gd j 6) w)∧((μ E5 (gd C 0) (gd C 1) (gd d 0) (gd d 1) (gd d 2) (gd d 3) (gd d 4) (gd d 5) (gd d 6) (gd d 7) (gd d 8) (gd j 0) (gd j 1) (gd j 2) (gd j 3) (gd j 4) (gd j 5) (gd j 6) w)<m)) w)) w.drew) w) (mA K (uL r0 r1 u X az ag ar ap U M R al aS Z V av J an ad I am F1 F2 (zV dd 9 [A5])) w)) w):tA K (uL r0 r1 A4 C4 C5 C7 C8 C9 D0 D1 D2 D3 D4 D5 D7 D8 D9 E0 E1 E2 E3 F1 F2 zf) w:=by
 refine aQ (cd f48 [1,0,1,0,0]) (zr [(2,4),(8,35)]) (by kernel_rfl) (fun e2 w2=>Inv (gd e2 8) (gd e2 19) (gd e2 20) (gd e2 23) (gd e2 24) (gd e2 25) (gd e2 26) (gd e2 27) (gd e2 28) (gd e2 29) (gd e2 30) (gd e2 31) (gd e2 34) (gd e2 35) (gd e2 36) (gd e2 37) (gd e2 38) (gd e2 39) (gd e2 40) w2) (fun e2 w2=>μ (gd e2 8) (gd e2 19) (gd e2 20) (gd e2 23) (gd e2 24) (gd e2 25) (gd e2 26) (gd e2 27) (gd e2 28) (gd e2 29) (gd e2 30) (gd e2 31) (gd e2 34) (gd e2 35) (gd e2 36) (gd e2 37) (gd e2 38) (gd e2 39) (gd e2 40) w2) h0 ?_
 intro e' w' hI;have h:=hs (gd e' 8) (gd e' 19) (gd e' 20) (gd e' 23) (gd e' 24) (gd e' 25) (gd e' 26) (gd e' 27) (gd e' 28) (gd e' 29) (gd e' 30) (gd e' 31) (gd e' 34) (gd e' 35) (gd e' 36) (gd e' 37) (gd e' 38) (gd e' 39) (gd e' 40) (zM zf (fun i=>gd e' i) (zr [(2,4),(8,35)])) w' _ hI rfl;revert h;generalize (mA K)=qc0;exact mpF
theorem Hd (h:ai Q 36 r1 0 (fun E6=>slc Q 33 E6 none none none fun E7=>call Q 74 #[E7] fun E8=>ext Q E8 0 fun E9=>ext Q E8 1 fun F0 w=>aJ F0 true (fun j=>bin Q .leq 2 false true E9 (ci 1125899906842624) (fun F2=>j [E9,F2]) w) (fun k=>k [uu,uu] w) fun d=>pick F0 (gd d 1) cF K) w):mA K (uL r0 r1 A4 C4 C5 C7 C8 C9 D0 D1 D2 D3 D4 D5 D7 D8 D9 E0 E1 E2 E3 F1 F2 zf) w:=by
 delta mA;exact mpK h
end
attribute [irreducible] mA tA
theorem He {K:KV}{r0 i1:Value}{w:World}(h:box Q 36 r0 (fun r2=>call Q 47 #[i1] fun A4=>un Q .not A4 fun A5 w=>aJ A5 false (fun j=>ld Q 36 r2 (fun A6=>call Q 48 #[A6] fun A7=>un Q .not A7 fun A8=>j [A6,A7,A8]) w) (fun k=>k [uu,uu,uu] w) fun d=>pick A5 cT (gd d 2) fun A9 w=>cond A9 (K (ci 0) w) (bin Q .sub 3 false true i1 (ci 1) (fun C2=>call Q 49 #[r2,C2] fun C3=>ext Q C3 0 fun C4=>ext Q C3 1 fun _=>K C4) w)) w):Gives Q 31 #[r0,i1] w K:=by
 refine aH func31 (by kernel_rfl) ?_;exact mpK h
def tB (r0 r1 Bd Et A4:Value)(zf:Nat→Value):List Value:=r0::r1::Bd::Et::zT zf 4 4 (A4::zT zf 9 22 ([]))
def lC (K:KV):KE:=ae Q (cd f76 [1,1,1]) (rk f76 K) xf (rk f76 K)
def sc (K:KV):KE:=ae Q (cd f76 [1,1,0,1,0]) (lC K) (xx xf (lC K) 0) (rk f76 K)
section
variable {K:KV}{r0 r1 Bd Et A4:Value}{zf:Nat→Value}{w:World}
theorem Is {K:KV}{r0:Value}{w:World}(h:box Q 36 r0 (fun r1=>ld Q 36 r1 fun A1=>call Q 48 #[A1] fun A2=>un Q .not A2 fun A3 w=>cond A3 (K (Value.tuple #[ci 0,ci 0]) w) (sc K (tB r0 r1 (ci 0) (ci 0) (ci 0) (zV zu 5 [A1,A2,A3])) w)) w):Gives Q 76 #[r0] w K:=by
 refine aH func76 (by kernel_rfl) ?_;revert h;delta sc lC;exact mpF
theorem FO (Inv:vI 3)(μ:vM 3)(h0:Inv Bd Et A4 w)(I:∀(d j u:Value) (J:Nat→Value) (w:World) (m:Nat),Inv d j u w→m=μ d j u w →
  bin Q .lss 3 false true u (ci 6) (fun A5 w=>cond A5 (ai Q 36 r1 0 (fun A8=>aU Q 33 A8 u fun A9=>ld Q 2 A9 fun C0=>bin Q .add 2 false false d C0 fun C1 w=>sF 36 r1 1 (fun C4=>sI 33 C4 u fun C5=>sL 2 C5 fun C6=>sF 36 r1 2 fun C7=>sI 33 C7 u fun C8=>sL 2 C8 fun C9=>sti (bin Q .sub 2 false false C6 C9) fun D0=>sti (bin Q .add 2 false false j D0) fun D1=>nC u fun D2 w=>(Inv C1 D1 D2 w)∧((μ C1 D1 D2 w)<m)) w.drew) w) (lC K (tB r0 r1 d j u (zV J 9 [A5])) w)) w):sc K (tB r0 r1 Bd Et A4 zf) w:=by
 refine aQ (cd f76 [1,1,0,1,0,0]) (zr [(2,3),(8,21)]) (by kernel_rfl) (fun e2 C=>Inv (gd e2 2) (gd e2 3) (gd e2 8) C) (fun e2 C=>μ (gd e2 2) (gd e2 3) (gd e2 8) C) h0 ?_;intro e' w' hI;have h:=I (gd e' 2) (gd e' 3) (gd e' 8) (zM zf (fun i=>gd e' i) (zr [(2,3),(8,21)])) w' _ hI rfl;revert h;generalize (lC K)=qc0;exact mpF
theorem FP (h:K (Value.tuple #[Bd,Et]) w):lC K (tB r0 r1 Bd Et A4 zf) w:=by
 delta lC;exact mpK h
end
attribute [irreducible] lC sc
end
section
attribute [local irreducible] bin un conv call dC blt slc ai fld aU idx lkp eX jl eSt rng nxt ent ext alc box bld dl ld sto bo eS mkS ifc pick rdy wts aJ sti cond bM Gives ae fU gX cOp
section
open Go.RowKit
def okM (A:List Int)(k:Nat):Bool:=(oE A k).2&&decide (0≤(oE A k).1)&&decide (nA A (12+k)≤nA A (6+k))&&decide (nA A (18+6*k+k)=0)
theorem Iu (A:List Int):su A=((List.range 6).all (okM A)&&((lT (gL A)).2&&decide ((lT (gL A)).1≤MXA))):=rfl
theorem Ri {A:List Int}{k:Nat}(d:k<6)(h:okM A k=false):su A=false:=by
 rw[Iu]
 have:(List.range 6).all (okM A)=false:=by
  cases j:(List.range 6).all (okM A)with
  | false=>rfl
  | true=>have:=List.all_eq_true.1 j k (by simpa using d);rw[this]at h;cases h
 rw[this];rfl
theorem Po {A:List Int}(h:∀j,j<6→okM A j=true):su A=((lT (gL A)).2&&decide ((lT (gL A)).1≤MXA)):=by
 rw[Iu]
 have:(List.range 6).all (okM A)=true:=List.all_eq_true.2 fun k d=>h k (by simpa using d)
 rw[this];rfl
section
variable {w:World}{K:KV}
theorem Pp {P:Program}{t e:TypeId}{b o n s:Nat}(d:P.underlying t=some (.array n e))(j:∀w,(sizeOf e).run P w=.ok s w)(h:K (.slice (some ⟨b,o,none⟩) n n) w):slc P t (.pointer (some ⟨b,o,none⟩)) none none none K w:=by
 unfold slc;refine gW (w':=w) ?_ h;simp only[Instr.sliceAt,Instr.sureAddr,Instr.sliceBounds,Sem.run_bind,Sem.run_pure,Result.andThen_ok,run_underlying d,j];by_cases u:n=0<;>simp[u,Addr.add]
theorem RtA.rvG {b:Nat}{E:TypeId}{cs:List Value}{A:List Int}(h:RtA w b 0 E cs A):RV w (some ⟨b,0,none⟩) 6 6 ((gL A).map iv) :=
 ⟨by simp[gL],Nat.le_refl _,fun _=>⟨b,0,rfl⟩,(fun h=>by cases h),fun i v d=>by
  have hi:i<6:=by have:=(List.getElem?_eq_some_iff.1 d).1;simpa[gL]using this
  rw[show Ea (some ⟨b,0,none⟩) i=⟨b,0+i,none⟩from rfl,h.bk.cell,h.get (by omega)];rw[←d];simp[gL,hi]⟩
theorem yq {i:Int}(h:K (.bool (bV i)) w):call Tryz.prog 47 #[.int .i64 i] K w:=by
 refine aB (goK func47) (FN ?_);unfold bV at h;refine cH ?_;by_cases d:i≥1
 ·refine dE d <|ir <|bR d ?_;rw[show decide (1≤i)=true from decide_eq_true d,Bool.true_and]at h;exact h
 ·refine eF d <|bE d ?_;rw[show decide (1≤i)=false from decide_eq_false d,Bool.false_and]at h;exact h
theorem Lf {A:List Int}(hA:A.length=54)(h:∀w',Below w.heap.size w w'→K (.bool (su A)) w'):call Tryz.prog 48 #[.agg (A.map iv).toArray] K w:=by
 refine aB (goK func48) (Ju ?_);refine dc fun M hb b1 s1=>?_;have hb:blk M w.heap.size 36 (A.map iv):=by simpa[Value.cells]using hb
 have hR:RtA M w.heap.size 0 36 (A.map iv) A:=⟨hb,by rw[List.drop_zero,List.take_of_length_le (by simp[hA])],hA⟩
 have R:=hb.lt;refine Hc (Inv:=fun i _ _ _ _ _ _ _ _ _ _ _ _ _ _ _ _ _ _ wr=>∃k:Nat,i=.int .i64 (k:Nat)∧k≤6∧Below M.heap.size M wr∧∀j,j<k→okM A j=true)
  (μ:=fun i _ _ _ _ _ _ _ _ _ _ _ _ _ _ _ _ _ _ _=>6-(intOf i).toNat) ⟨0,rfl,by omega,Below.refl _ _,fun j hj=>by omega⟩ ?_
 rintro _ _ _ _ _ _ _ _ _ _ _ _ _ _ _ _ _ _ _ dd w2 m ⟨k,rfl,ag,b2,C⟩ hm;have J:=hR.below b2 R;have V:=b2.size;refine aV ?_;by_cases hk:k<6
 ·refine ay (by omega) ?_;refine ML J hk fun U b3=>?_;refine eB <|eC ?_;have u:RtA U.drew w.heap.size 0 36 (A.map iv) A:=by have:=J.below b3 (by omega);exact⟨this.bk.drew,this.cut,this.len⟩
  have hB:Below M.heap.size M U.drew:=(b2.trans (b3.mono V)).drew;have Z:okM A k=false→K (.bool false) U.drew:=fun I=>by
   have:=h U.drew (b1.trans (hB.mono (by omega)))
   rw[Ri hk I]at this;exact this
  generalize U.drew=w4 at *;cases I:(oE A k).2 with
  | false =>
   refine aa (fun _=>eh) <|fK <|aa (fun _=>db) <|fK <|aa (fun _=>db) <|fK <|aa (fun _=>db) <|bu ?_;exact Z (by unfold okM;rw[I];rfl)
  | true =>
   refine aa (fun _=>eh) <|nR ?_;unfold iv;refine aa (fun _=>aV) <|aa (fun _=>fm) ?_;by_cases h0:(oE A k).1<0
   ·refine iZ h0 <|aa (fun _=>bR h0) <|fK <|aa (fun _=>db) <|bu <|Z ?_;unfold okM;rw[show decide (0≤(oE A k).1)=false from decide_eq_false (by omega)];simp
   ·refine dZ h0 <|aa (fun _=>aM (off:=12) (by kernel_rfl)) <|aa (fun _=>dB underlying33 (s:=1) (fun _=>by kernel_rfl) (by omega) (by omega)) <|aa (v:=iv (nA A (12+k))) (fun _=>lK u.bk (by rw[←u.get (i:=12+k) (by omega)];congr 1;simp)) <|aa (fun _=>aM (off:=6) (by kernel_rfl)) <|aa (fun _=>dB underlying33 (s:=1) (fun _=>by kernel_rfl) (by omega) (by omega)) <|aa (v:=iv (nA A (6+k))) (fun _=>lK u.bk (by rw[←u.get (i:=6+k) (by omega)];congr 1;simp)) ?_
    unfold iv;refine aa (fun _=>cB) <|aa (fun _=>bE h0) ?_;by_cases h1:nA A (6+k)<nA A (12+k)
    ·refine iZ h1 <|aa (fun _=>bR h1) <|bu <|Z ?_;unfold okM;rw[show decide (nA A (12+k)≤nA A (6+k))=false from decide_eq_false (by omega)];simp
    ·refine dZ h1 <|aa (fun _=>aM (off:=18) (by kernel_rfl)) <|aa (fun _=>dB underlying34 (s:=6) (fun _=>by kernel_rfl) (by omega) (by omega)) <|aa (fun _=>dB underlying33 (s:=1) (fun _=>by kernel_rfl) (by omega) (by omega)) <|aa (v:=iv (nA A (18+6*k+k))) (fun _=>lK u.bk (by rw[←u.get (i:=18+6*k+k) (by omega)];congr 1;simp;omega)) ?_;unfold iv;refine aa (fun _=>cW) <|aa (fun _=>bE h1) ?_
     by_cases X:nA A (18+6*k+k)≠0
     ·refine ay X <|Z ?_;unfold okM;rw[show decide (nA A (18+6*k+k)=0)=false from decide_eq_false X];simp
     ·refine au X <|aR (by omega) (by omega) ?_;refine⟨⟨k+1,by simp,by omega,hB,fun j hj=>?_⟩,by rw[hm];simp[intOf];omega⟩;by_cases ad:j=k
      ·subst ad;unfold okM;rw[I,decide_eq_true (by omega:0≤(oE A j).1),decide_eq_true (by omega:nA A (12+j)≤nA A (6+j)),decide_eq_true (Classical.not_not.1 X)];rfl
      ·exact C j (by omega)
 ·refine au (by omega) ?_;obtain rfl:k=6:=by omega
  refine Hd <|aM (off:=0) (by kernel_rfl) <|Pp underlying33 (s:=1) (fun _=>by kernel_rfl) <|Le (l:=gL A) J.rvG (by omega) <|eB <|eC ?_;have d:=h w2 (b1.trans (b2.mono (by omega)));rw[Po C]at d;cases I:(lT (gL A)).2 with
  | false =>
   refine mK <|fm ?_;rw[I]at d;exact d
  | true =>
   refine nH ?_;unfold iv;refine ir <|db ?_;rw[I]at d;exact d
theorem Cf {A:List Int}{i:Int}(j:A.length=54)(h:∀w',Below w.heap.size w w'→K (iv (if bV i then sv A (i-1).toNat else 0)) w'):call Tryz.prog 31 #[.agg (A.map iv).toArray,.int .i64 i] K w:=by
 refine aB (goK func31) (He ?_);refine dc fun u d b1 s1=>?_;have d:blk u w.heap.size 36 (A.map iv):=by simpa[Value.cells]using d
 have M:RtA u w.heap.size 0 36 (A.map iv) A:=⟨d,by rw[List.drop_zero,List.take_of_length_le (by simp[j])],j⟩
 refine yq <|eh ?_;cases C:bV i with
 | false =>
  refine fK <|db <|bu ?_;rw[C]at h;exact h u b1
 | true =>
  have hi:1≤i∧i≤6:=by simpa[bV]using C
  refine nR <|ldA (n:=54) (vs:=A.map iv) underlying36 rfl (by kernel_rfl) d (by rw[List.drop_zero,List.take_of_length_le (by simp[j])]) (by simp[j]) ?_;refine Lf j fun R b2=>?_;refine eh <|fm ?_;rw[C,if_pos rfl]at h;cases I:su A with
  | false =>
   refine bu ?_
   have:=h R (b1.trans (b2.mono (by omega)))
   unfold sv at this;rw[I]at this;exact this
  | true =>
   refine bw <|bg (by omega) (by omega) ?_;have U:i-1=(((i-1).toNat:Nat):Int):=by omega
   rw[U];refine ML (M.below b2 d.lt) (by omega) fun J V=>?_;refine eB <|eC ?_
   have:=h J (b1.trans ((b2.mono (by omega)).trans (V.mono (by have:=b2.size;omega))))
   unfold sv at this;rw[I]at this;exact this
end
end
end
section
open Go.RowKit
theorem CG {K:KV}{x0:Value}{w:World}(h:bin Q .geq 2 false true x0 (ci 0) (fun A0 w=>aJ A0 true (fun j=>bin Q .leq 2 false true x0 (ci 1125899906842624) (fun A3=>j [x0,A3]) w) (fun k=>k [uu,uu] w) fun d=>pick A0 (gd d 1) cF K) w):Gives Q 128 #[x0] w K:=by
 refine aH func128 (by kernel_rfl) ?_;exact mpK h
theorem CH {K:KV}{d:Value}{w:World}(h:bin Q .geq 3 false true d (ci 1) (fun A0 w=>aJ A0 true (fun u=>bin Q .leq 3 false true d (ci 6) (fun A3=>u [d,A3]) w) (fun k=>k [uu,uu] w) fun j=>pick A0 (gd j 1) cF K) w):Gives Q 111 #[d] w K:=by
 refine aH func111 (by kernel_rfl) ?_;exact mpK h
def py (r0 r2 k_5 sC j7:Value)(zf:Nat→Value):List Value:=r0::zf 1::r2::zf 3::zf 4::k_5::sC::j7::zT zf 8 36 ([])
def iW (K:KV):KE:=ae Q (cd f112 [1,1,1,1]) (rk f112 K) xf (rk f112 K)
def oW (K:KV):KE:=ae Q (cd f112 [1,1,1,0,1,0]) (iW K) (xx xf (iW K) 0) (rk f112 K)
section
variable {K:KV}{r0 r2 k_5 sC j7:Value}{zf:Nat→Value}{w:World}
theorem DD {K:KV}{r0 i1:Value}{w:World}(h:box Q 36 r0 (fun r2=>bin Q .sub 3 false true i1 (ci 1) fun A5 w=>sF 36 r2 0 (fun A7=>sI 33 A7 A5 fun A8=>sL 2 A8 fun A9=>sF 36 r2 1 fun C1=>sI 33 C1 A5 fun C2=>sL 2 C2 fun C3=>sti (bin Q .sub 2 false false A9 C3) fun C4=>sF 36 r2 2 fun C6=>sI 33 C6 A5 fun C7=>sL 2 C7 fun C8=>sti (bin Q .add 2 false false C4 C8) fun C9=>oW K (py r0 r2 A5 C9 (ci 0) (zV (zV (zV zu 1 [i1]) 4 [ci 0]) 8 [i1,A5,A5,A7,A8,A9,A5,C1,C2,C3,C4,A5,C6,C7,C8,C9]))) w.drew) w):Gives Q 112 #[r0,i1] w K:=by
 refine aH func112 (by kernel_rfl) ?_;revert h;delta oW iW;exact mpF
theorem Cg (Inv:Value→Value→World→Prop)(μ:Value→Value→World→Nat)(h0:Inv sC j7 w)(C:∀(d j:Value) (I:Nat→Value) (w:World) (m:Nat),Inv d j w→m=μ d j w →
  bin Q .lss 3 false true j (ci 6) (fun D1 w=>cond D1 (sF 36 r2 3 (fun D7=>sI 34 D7 j fun D8=>sI 33 D8 k_5 fun D9=>sL 2 D9 fun E0=>sti (bin Q .add 2 false false d E0) fun E1=>sF 36 r2 3 fun E4=>sI 34 E4 k_5 fun E5=>sI 33 E5 j fun E6=>sL 2 E6 fun E7=>sti (bin Q .sub 2 false false E1 E7) fun E8=>nC j fun D3 w=>(Inv E8 D3 w)∧((μ E8 D3 w)<m)) w.drew) (iW K (py r0 r2 k_5 d j (zV I 24 [j,D1])) w)) w):oW K (py r0 r2 k_5 sC j7 zf) w:=by
 refine aQ (cd f112 [1,1,1,0,1,0,0]) (zr [(6,2),(24,19)]) (by kernel_rfl) (fun e2 u=>Inv (gd e2 6) (gd e2 7) u) (fun e2 u=>μ (gd e2 6) (gd e2 7) u) h0 ?_;intro e' w' hI;have h:=C (gd e' 6) (gd e' 7) (zM zf (fun i=>gd e' i) (zr [(6,2),(24,19)])) w' _ hI rfl;revert h;generalize (iW K)=qc0;exact mpF
theorem Ci (h:K sC w):iW K (py r0 r2 k_5 sC j7 zf) w:=by
 delta iW;exact mpK h
end
attribute [irreducible] iW oW
def fM (r0 r1 uU i4 j5 i6 C4 C5 C6 C7 C8 C9 D2 D3 D4 D5 D6 D7 E0 E1 E2 E3 E4 E5 E6 E7 E8 F0 F1 F2 F3 F4 F5 F6:Value)(zf:Nat→Value):List Value:=r0::r1::zf 2::uU::i4::j5::i6::zT zf 7 11 (C4::C5::C6::C7::C8::C9::zf 24::zf 25::D2::D3::D4::D5::D6::D7::zf 32::zf 33::E0::E1::E2::E3::E4::E5::E6::E7::E8::zf 43::zf 44::F0::F1::F2::F3::F4::F5::F6::zT zf 52 29 ([]))
def fQ (K:KV):KE:=ae Q (cd f113 [1,1,1]) (rk f113 K) xf (rk f113 K)
def qb (K:KV):KE:=ae Q (cd f113 [1,1,0,1,0]) (fQ K) (xx xf (fQ K) 0) (rk f113 K)
def ji (K:KV)(B1:KE):KE:=ae Q (cd f113 [1,1,0,1,0,0,1,1]) B1 (xx xf (fQ K) 0) (rk f113 K)
def qd (K:KV)(B1:KE):KE:=ae Q (cd f113 [1,1,0,1,0,0,1,0,0,1,1,1,0]) (ji K B1) (xx (xx (xx xf (fQ K) 0) (ji K B1) 1) (ji K B1) 2) (rk f113 K)
def jP (K:KV):KE:=ae Q (cd f113 [1,1,1,1]) (rk f113 K) xf (rk f113 K)
def qe (K:KV):KE:=ae Q (cd f113 [1,1,1,0,1,0]) (jP K) (xx xf (jP K) 4) (rk f113 K)
section
variable {K:KV}{r0 r1 uU i4 j5 i6 C4 C5 C6 C7 C8 C9 D2 D3 D4 D5 D6 D7 E0 E1 E2 E3 E4 E5 E6 E7 E8 F0 F1 F2 F3 F4 F5 F6:Value}{zf:Nat→Value}{w:World}
theorem FQ {K:KV}{r0:Value}{w:World}(h:box Q 36 r0 (fun r1=>qb K (fM r0 r1 (ci 0) (ci 0) uu uu uu uu uu uu uu uu uu uu uu uu uu uu uu uu uu uu uu uu uu uu uu uu uu uu uu uu uu uu (zV zu 2 [cF]))) w):Gives Q 113 #[r0] w K:=by
 refine aH func113 (by kernel_rfl) ?_;revert h;delta qb fQ;exact mpF
theorem DE (Inv:vI 30)(μ:vM 30)(h0:Inv uU i4 C4 C5 C6 C7 C8 C9 D2 D3 D4 D5 D6 D7 E0 E1 E2 E3 E4 E5 E6 E7 E8 F0 F1 F2 F3 F4 F5 F6 w)(hs:∀(J d a6 bi a2 al ar be U am aS ag R X bb a7 M an Z a0 a8 a4 ad a3 bd av ap a9 V az:Value) (dd:Nat→Value) (w:World) (m:Nat),Inv J d a6 bi a2 al ar be U am aS ag R X bb a7 M an Z a0 a8 a4 ad a3 bd av ap a9 V az w→m=μ J d a6 bi a2 al ar be U am aS ag R X bb a7 M an Z a0 a8 a4 ad a3 bd av ap a9 V az w →
  bin Q .lss 3 false true d (ci 6) (fun A4 w=>cond A4 (sF 36 r1 0 (fun A8=>sI 33 A8 d fun A9=>sL 2 A9 fun C0=>sti (call Q 128 #[C0]) fun C1=>sti (un Q .not C1) fun C2 w=>aJ C2 false (fun bW=>sF 36 r1 1 (fun C5=>sI 33 C5 d fun C6=>sL 2 C6 fun C7=>sti (call Q 128 #[C7]) fun C8=>sti (un Q .not C8) fun C9=>bW [d,C5,C6,C7,C8,C9]) w) (fun k=>k [uu,uu,uu,uu,uu,uu] w) fun I=>sti (pick C2 cT (gd I 5)) fun D0 w=>aJ D0 false (fun bv=>sF 36 r1 2 (fun D3=>sI 33 D3 d fun D4=>sL 2 D4 fun D5=>sti (call Q 128 #[D5]) fun D6=>sti (un Q .not D6) fun D7=>bv [d,D3,D4,D5,D6,D7]) w) (fun k=>k [uu,uu,uu,uu,uu,uu] w) fun C=>sti (pick D0 cT (gd C 5)) fun D8 w=>aJ D8 false (fun bk=>sF 36 r1 2 (fun E1=>sI 33 E1 d fun E2=>sL 2 E2 fun E3=>sF 36 r1 1 fun E5=>sI 33 E5 d fun E6=>sL 2 E6 fun E7=>sti (bin Q .gtr 2 false false E3 E7) fun E8=>bk [d,E1,E2,E3,d,E5,E6,E7,E8]) w) (fun k=>k [uu,uu,uu,uu,uu,uu,uu,uu,uu] w) fun j=>sti (pick D8 cT (gd j 8)) fun E9 w=>aJ E9 false (fun bt=>sF 36 r1 3 (fun F2=>sI 34 F2 d fun F3=>sI 33 F3 d fun F4=>sL 2 F4 fun F5=>sti (bin Q .neq 2 false true F5 (ci 0)) fun F6=>bt [d,d,F2,F3,F4,F5,F6]) w) (fun k=>k [uu,uu,uu,uu,uu,uu,uu] w) fun u=>sti (pick E9 cT (gd u 6)) fun F7 w=>cond F7 (K cF w) (ai Q 36 r1 0 (fun F8=>aU Q 33 F8 d fun F9=>ld Q 2 F9 fun G0=>bin Q .add 2 false false J G0 fun G1=>qd K (fun e2 w2=>(Inv (gd e2 3) (gd e2 4) (gd e2 18) (gd e2 19) (gd e2 20) (gd e2 21) (gd e2 22) (gd e2 23) (gd e2 26) (gd e2 27) (gd e2 28) (gd e2 29) (gd e2 30) (gd e2 31) (gd e2 34) (gd e2 35) (gd e2 36) (gd e2 37) (gd e2 38) (gd e2 39) (gd e2 40) (gd e2 41) (gd e2 42) (gd e2 45) (gd e2 46) (gd e2 47) (gd e2 48) (gd e2 49) (gd e2 50) (gd e2 51) w2)∧((μ (gd e2 3) (gd e2 4) (gd e2 18) (gd e2 19) (gd e2 20) (gd e2 21) (gd e2 22) (gd e2 23) (gd e2 26) (gd e2 27) (gd e2 28) (gd e2 29) (gd e2 30) (gd e2 31) (gd e2 34) (gd e2 35) (gd e2 36) (gd e2 37) (gd e2 38) (gd e2 39) (gd e2 40) (gd e2 41) (gd e2 42) (gd e2 45) (gd e2 46) (gd e2 47) (gd e2 48) (gd e2 49) (gd e2 50) (gd e2 51) w2)<m)) (fM r0 r1 G1 d (ci 0) i6 (gd I 0) (gd I 1) (gd I 2) (gd I 3) (gd I 4) (gd I 5) (gd C 0) (gd C 1) (gd C 2) (gd C 3) (gd C 4) (gd C 5) (gd j 0) (gd j 1) (gd j 2) (gd j 3) (gd j 4) (gd j 5) (gd j 6) (gd j 7) (gd j 8) (gd u 0) (gd u 1) (gd u 2) (gd u 3) (gd u 4) (gd u 5) (gd u 6) (zV (zV (zV (zV (zV (zV dd 7 [d,A4]) 11 [d,A8,A9,C0,C1,C2,C2]) 24 [D0,D0]) 32 [D8,D8]) 43 [E9,E9]) 52 [F7,J,d,F8,F9,G0,G1]))) w)) w.drew) (fQ K (fM r0 r1 J d (dd 5) i6 a6 bi a2 al ar be U am aS ag R X bb a7 M an Z a0 a8 a4 ad a3 bd av ap a9 V az (zV dd 7 [d,A4])) w)) w):qb K (fM r0 r1 uU i4 j5 i6 C4 C5 C6 C7 C8 C9 D2 D3 D4 D5 D6 D7 E0 E1 E2 E3 E4 E5 E6 E7 E8 F0 F1 F2 F3 F4 F5 F6 zf) w:=by
 refine aQ (cd f113 [1,1,0,1,0,0]) (zr [(2,4),(7,64)]) (by kernel_rfl) (fun e2 w2=>Inv (gd e2 3) (gd e2 4) (gd e2 18) (gd e2 19) (gd e2 20) (gd e2 21) (gd e2 22) (gd e2 23) (gd e2 26) (gd e2 27) (gd e2 28) (gd e2 29) (gd e2 30) (gd e2 31) (gd e2 34) (gd e2 35) (gd e2 36) (gd e2 37) (gd e2 38) (gd e2 39) (gd e2 40) (gd e2 41) (gd e2 42) (gd e2 45) (gd e2 46) (gd e2 47) (gd e2 48) (gd e2 49) (gd e2 50) (gd e2 51) w2) (fun e2 w2=>μ (gd e2 3) (gd e2 4) (gd e2 18) (gd e2 19) (gd e2 20) (gd e2 21) (gd e2 22) (gd e2 23) (gd e2 26) (gd e2 27) (gd e2 28) (gd e2 29) (gd e2 30) (gd e2 31) (gd e2 34) (gd e2 35) (gd e2 36) (gd e2 37) (gd e2 38) (gd e2 39) (gd e2 40) (gd e2 41) (gd e2 42) (gd e2 45) (gd e2 46) (gd e2 47) (gd e2 48) (gd e2 49) (gd e2 50) (gd e2 51) w2) h0 ?_
 intro e' w' hI
 have h:=hs (gd e' 3) (gd e' 4) (gd e' 18) (gd e' 19) (gd e' 20) (gd e' 21) (gd e' 22) (gd e' 23) (gd e' 26) (gd e' 27) (gd e' 28) (gd e' 29) (gd e' 30) (gd e' 31) (gd e' 34) (gd e' 35) (gd e' 36) (gd e' 37) (gd e' 38) (gd e' 39) (gd e' 40) (gd e' 41) (gd e' 42) (gd e' 45) (gd e' 46) (gd e' 47) (gd e' 48) (gd e' 49) (gd e' 50) (gd e' 51) (zM zf (fun i=>gd e' i) (zr [(2,4),(7,64)])) w' _ hI rfl
 revert h;delta qd ji;generalize (fQ K)=qc0;exact mpF
theorem DF {B1:KE}(Inv:Value→World→Prop)(μ:Value→World→Nat)(h0:Inv j5 w)(u:∀(d:Value) (C:Nat→Value) (w:World) (m:Nat),Inv d w→m=μ d w →
  bin Q .lss 3 false true d (ci 6) (fun G2 w=>cond G2 (ai Q 36 r1 3 (fun G4=>aU Q 34 G4 i4 fun G5=>aU Q 33 G5 d fun G6=>ld Q 2 G6 fun G7=>call Q 128 #[G7] fun G8=>un Q .not G8 fun G9 w=>cond G9 (K cF w) (nC d (fun G3 w=>(Inv G3 w)∧((μ G3 w)<m)) w)) w) (ji K B1 (fM r0 r1 uU i4 d i6 C4 C5 C6 C7 C8 C9 D2 D3 D4 D5 D6 D7 E0 E1 E2 E3 E4 E5 E6 E7 E8 F0 F1 F2 F3 F4 F5 F6 (zV C 59 [d,G2])) w)) w):qd K B1 (fM r0 r1 uU i4 j5 i6 C4 C5 C6 C7 C8 C9 D2 D3 D4 D5 D6 D7 E0 E1 E2 E3 E4 E5 E6 E7 E8 F0 F1 F2 F3 F4 F5 F6 zf) w:=by
 refine aQ (cd f113 [1,1,0,1,0,0,1,0,0,1,1,1,0,0]) (zr [(2,1),(5,1),(59,12)]) (by kernel_rfl) (fun e2 j=>Inv (gd e2 5) j) (fun e2 j=>μ (gd e2 5) j) h0 ?_;intro e' w' hI;have h:=u (gd e' 5) (zM zf (fun i=>gd e' i) (zr [(2,1),(5,1),(59,12)])) w' _ hI rfl;revert h;generalize (fQ K)=qc0;generalize (ji K B1)=qc1;exact mpF
theorem DG (h:qe K (fM r0 r1 uU i4 j5 (ci 1) C4 C5 C6 C7 C8 C9 D2 D3 D4 D5 D6 D7 E0 E1 E2 E3 E4 E5 E6 E7 E8 F0 F1 F2 F3 F4 F5 F6 zf) w):fQ K (fM r0 r1 uU i4 j5 i6 C4 C5 C6 C7 C8 C9 D2 D3 D4 D5 D6 D7 E0 E1 E2 E3 E4 E5 E6 E7 E8 F0 F1 F2 F3 F4 F5 F6 zf) w:=by
 delta fQ;revert h;delta qe jP;exact mpF
theorem DH {B1:KE}(h:nC i4 (fun A6=>B1 (fM r0 r1 uU A6 j5 i6 C4 C5 C6 C7 C8 C9 D2 D3 D4 D5 D6 D7 E0 E1 E2 E3 E4 E5 E6 E7 E8 F0 F1 F2 F3 F4 F5 F6 (zV zf 9 [i4,A6]))) w):ji K B1 (fM r0 r1 uU i4 j5 i6 C4 C5 C6 C7 C8 C9 D2 D3 D4 D5 D6 D7 E0 E1 E2 E3 E4 E5 E6 E7 E8 F0 F1 F2 F3 F4 F5 F6 zf) w:=by
 delta ji;revert h;generalize (fQ K)=qc0;exact mpF
theorem DI (Inv:Value→World→Prop)(μ:Value→World→Nat)(h0:Inv i6 w)(u:∀(d:Value) (C:Nat→Value) (w:World) (m:Nat),Inv d w→m=μ d w →
  bin Q .leq 3 false true d (ci 6) (fun H0 w=>cond H0 (ld Q 36 r1 (fun H2=>call Q 112 #[H2,d] fun H3=>bin Q .lss 2 false true H3 (ci 0) fun H4 w=>cond H4 (K cF w) (nC d (fun H1 w=>(Inv H1 w)∧((μ H1 w)<m)) w)) w) (jP K (fM r0 r1 uU i4 j5 d C4 C5 C6 C7 C8 C9 D2 D3 D4 D5 D6 D7 E0 E1 E2 E3 E4 E5 E6 E7 E8 F0 F1 F2 F3 F4 F5 F6 (zV C 71 [d,H0])) w)) w):qe K (fM r0 r1 uU i4 j5 i6 C4 C5 C6 C7 C8 C9 D2 D3 D4 D5 D6 D7 E0 E1 E2 E3 E4 E5 E6 E7 E8 F0 F1 F2 F3 F4 F5 F6 zf) w:=by
 refine aQ (cd f113 [1,1,1,0,1,0,0]) (zr [(2,1),(6,1),(71,8)]) (by kernel_rfl) (fun e2 j=>Inv (gd e2 6) j) (fun e2 j=>μ (gd e2 6) j) h0 ?_;intro e' w' hI;have h:=u (gd e' 6) (zM zf (fun i=>gd e' i) (zr [(2,1),(6,1),(71,8)])) w' _ hI rfl;revert h;generalize (jP K)=qc0;exact mpF
theorem DJ (h:bin Q .leq 2 false true uU (ci 1125899906842624) K w):jP K (fM r0 r1 uU i4 j5 i6 C4 C5 C6 C7 C8 C9 D2 D3 D4 D5 D6 D7 E0 E1 E2 E3 E4 E5 E6 E7 E8 F0 F1 F2 F3 F4 F5 F6 zf) w:=by
 delta jP;exact mpK h
end
attribute [irreducible] fQ qb ji qd jP qe
end
section
attribute [local irreducible] bin un conv call dC blt slc ai fld aU idx lkp eX jl eSt rng nxt ent ext alc box bld dl ld sto bo eS mkS ifc pick rdy wts aJ sti cond bM Gives ae fU gX cOp
section
open Go.RowKit
def lp (A:List Int)(k j:Nat):Int:=((List.range j).map fun j=>nA A (18+6*j+k)-nA A (18+6*k+j)).sum
theorem MM (A:List Int)(k j:Nat):lp A k (j+1)=lp A k j+(nA A (18+6*j+k)-nA A (18+6*k+j)):=by simp[lp,List.range_succ]
theorem RP {A:List Int}{k:Nat}(h:k<6)(d:∀q,q<54→0≤nA A q∧nA A q≤MXA):∀j,j≤6→-(j*MXA)≤lp A k j∧lp A k j≤j*MXA
 | 0,_=>by simp[lp]
 | j+1,hj=>by
  have I:=RP h d j (by omega);have C:=d (18+6*j+k) (by omega);have u:=d (18+6*k+j) (by omega);rw[MM];have e:(((j+1:Nat):Int))*MXA=(j:Int)*MXA+MXA:=by simp only[MXA];omega
  rw[e];omega
section
variable {w:World}{K:KV}
theorem En {x:Int}(h:K (.bool (okA x)) w):call Tryz.prog 128 #[.int .i64 x] K w:=by
 refine aB (goK func128) (CG ?_);unfold okA at h;refine cH ?_;by_cases d:x≥0
 ·refine dE d <|ir <|bR d ?_;rw[show decide (0≤x)=true from decide_eq_true d,Bool.true_and]at h;exact h
 ·refine eF d <|bE d ?_;rw[show decide (0≤x)=false from decide_eq_false d,Bool.false_and]at h;exact h
theorem Iv {A:List Int}{k:Nat}(hA:A.length=54)(hk:k<6)(C:∀q,q<54→0≤nA A q∧nA A q≤MXA)(h:∀w',Below w.heap.size w w'→K (iv (dG A k)) w'):call Tryz.prog 112 #[.agg (A.map iv).toArray,.int .i64 ((k:Int)+1)] K w:=by
 refine aB (goK func112) (DD ?_);refine dc fun I R b1 s1=>?_;have R:blk I w.heap.size 36 (A.map iv):=by simpa[Value.cells]using R
 have u:RtA I.drew w.heap.size 0 36 (A.map iv) A:=⟨R.drew,by rw[List.drop_zero,List.take_of_length_le (by simp[hA])],hA⟩
 have b1:Below w.heap.size w I.drew:=b1.drew;refine bg (by omega) (by omega) ?_;rw[show (k:Int)+1-1=(k:Nat)by omega];generalize I.drew=w2 at *;have n0:=C k (by omega);have n1:=C (6+k) (by omega);have n2:=C (12+k) (by omega);simp only[MXA]at n0 n1 n2
 refine aa (fun _=>aM (off:=0) (by kernel_rfl)) <|aa (fun _=>dB underlying33 (s:=1) (fun _=>by kernel_rfl) (by omega) (by omega)) <|aa (v:=iv (nA A k)) (fun _=>lK u.bk (by rw[←u.get (i:=k) (by omega)];congr 1;simp)) <|aa (fun _=>aM (off:=6) (by kernel_rfl)) <|aa (fun _=>dB underlying33 (s:=1) (fun _=>by kernel_rfl) (by omega) (by omega)) <|aa (v:=iv (nA A (6+k))) (fun _=>lK u.bk (by rw[←u.get (i:=6+k) (by omega)];congr 1;simp)) ?_
 unfold iv;refine aa (fun _=>bg (by omega) (by omega)) <|aa (fun _=>aM (off:=12) (by kernel_rfl)) <|aa (fun _=>dB underlying33 (s:=1) (fun _=>by kernel_rfl) (by omega) (by omega)) <|aa (v:=iv (nA A (12+k))) (fun _=>lK u.bk (by rw[←u.get (i:=12+k) (by omega)];congr 1;simp)) ?_;unfold iv;refine aa (fun _=>aR (by omega) (by omega)) ?_
 refine Cg (Inv:=fun ov M wr=>∃j:Nat,ov=.int .i64 (nA A k-nA A (6+k)+nA A (12+k)+lp A k j)∧M=.int .i64 (j:Nat)∧j≤6∧Below w2.heap.size w2 wr) (μ:=fun _ M _=>6-(intOf M).toNat)
  ⟨0,by simp[lp],rfl,by omega,Below.refl _ _⟩ ?_
 rintro _ _ dd J m ⟨j,rfl,rfl,Z,U⟩ X;refine aV ?_;by_cases hj:j<6
 ·refine ay (by omega) ?_;have d:RtA J.drew w.heap.size 0 36 (A.map iv) A:=by have:=u.below U u.bk.lt;exact⟨this.bk.drew,this.cut,this.len⟩
  have b4:Below w2.heap.size w2 J.drew:=U.drew;generalize J.drew=w4 at *;have V:=RP hk C j Z;have m1:=C (18+6*j+k) (by omega);have m2:=C (18+6*k+j) (by omega);simp only[MXA]at V m1 m2
  refine aa (fun _=>aM (off:=18) (by kernel_rfl)) <|aa (fun _=>dB underlying34 (s:=6) (fun _=>by kernel_rfl) (by omega) (by omega)) <|aa (fun _=>dB underlying33 (s:=1) (fun _=>by kernel_rfl) (by omega) (by omega)) <|aa (v:=iv (nA A (18+6*j+k))) (fun _=>lK d.bk (by rw[←d.get (i:=18+6*j+k) (by omega)];congr 1;simp;omega)) ?_;unfold iv
  refine aa (fun _=>aR (by omega) (by omega)) <|aa (fun _=>aM (off:=18) (by kernel_rfl)) <|aa (fun _=>dB underlying34 (s:=6) (fun _=>by kernel_rfl) (by omega) (by omega)) <|aa (fun _=>dB underlying33 (s:=1) (fun _=>by kernel_rfl) (by omega) (by omega)) <|aa (v:=iv (nA A (18+6*k+j))) (fun _=>lK d.bk (by rw[←d.get (i:=18+6*k+j) (by omega)];congr 1;simp;omega)) ?_;unfold iv
  refine aa (fun _=>bg (by omega) (by omega)) <|aR (by omega) (by omega) ?_;refine⟨⟨j+1,?_,by simp,by omega,b4⟩,by rw[X];simp[intOf];omega⟩;rw[MM];exact congrArg (Value.int .i64) (by omega)
 ·refine au (by omega) ?_;obtain rfl:j=6:=by omega
  refine Ci ?_
  have:=h J (b1.trans (U.mono b1.size))
  exact this
end
end
end
section
open Go.RowKit
def ke (s0 s1 l2 A1 A2 A5 A6 A7 A8 A9:Value)(zf:Nat→Value):List Value:=s0::s1::l2::zT zf 3 3 (A1::A2::zT zf 8 5 (A5::A6::A7::A8::A9::zT zf 18 8 ([])))
def gU (K:KV):KE:=ae Q (cd f12 [1,1]) (rk f12 K) xf (rk f12 K)
def sd (K:KV):KE:=ae Q (cd f12 [1,0,1,0]) (gU K) (xx xf (gU K) 0) (rk f12 K)
def lD (K:KV)(B1:KE):KE:=ae Q (cd f12 [1,0,1,0,0,1,1,1]) B1 (xx xf (gU K) 0) (rk f12 K)
def pJ (K:KV)(B1:KE):KE:=ae Q (cd f12 [1,0,1,0,0,1,1,0]) (lD K B1) (xx xf (gU K) 0) (rk f12 K)
section
variable {K:KV}{s0 s1 l2 A1 A2 A5 A6 A7 A8 A9:Value}{zf:Nat→Value}{w:World}
theorem Iw {K:KV}{s0:Value}{w:World}(h:box Q 30 s0 (fun s1=>ai Q 30 s1 0 fun A0=>ld Q 23 A0 fun A1=>sd K (ke s0 s1 cN A1 (ci 0) uu uu uu uu uu (zV zu 5 [A0]))) w):Gives Q 12 #[s0] w K:=by
 refine aH func12 (by kernel_rfl) ?_;revert h;delta sd gU;exact mpF
theorem FR (Inv:vI 7)(μ:vM 7)(h0:Inv l2 A2 A5 A6 A7 A8 A9 w)(hs:∀(l2' A2' A5' A6' A7' A8' A9':Value) (dd:Nat→Value) (w:World) (m:Nat),Inv l2' A2' A5' A6' A7' A8' A9' w→m=μ l2' A2' A5' A6' A7' A8' A9' w →
  bin Q .lss 3 false true A2' (ci 6) (fun A3 w=>cond A3 (pJ K (fun e2 w2=>(Inv (gd e2 2) (gd e2 7) (gd e2 13) (gd e2 14) (gd e2 15) (gd e2 16) (gd e2 17) w2)∧((μ (gd e2 2) (gd e2 7) (gd e2 13) (gd e2 14) (gd e2 15) (gd e2 16) (gd e2 17) w2)<m)) (ke s0 s1 l2' A1 A2' A5' A6' A7' A8' A9' (zV dd 8 [A3])) w) (gU K (ke s0 s1 l2' A1 A2' A5' A6' A7' A8' A9' (zV dd 8 [A3])) w)) w):sd K (ke s0 s1 l2 A1 A2 A5 A6 A7 A8 A9 zf) w:=by
 refine aQ (cd f12 [1,0,1,0,0]) (zr [(2,3),(7,18)]) (by kernel_rfl) (fun e2 w2=>Inv (gd e2 2) (gd e2 7) (gd e2 13) (gd e2 14) (gd e2 15) (gd e2 16) (gd e2 17) w2) (fun e2 w2=>μ (gd e2 2) (gd e2 7) (gd e2 13) (gd e2 14) (gd e2 15) (gd e2 16) (gd e2 17) w2) h0 ?_
 intro e' w' hI
 have h:=hs (gd e' 2) (gd e' 7) (gd e' 13) (gd e' 14) (gd e' 15) (gd e' 16) (gd e' 17) (zM zf (fun i=>gd e' i) (zr [(2,3),(7,18)])) w' _ hI rfl
 refine Eq.mp (congrArg (fun c=>ae Q c _ _ _ _ w') (by kernel_rfl:(rep [1,1,0] (cd f12 [1,0,1,0,0,1,1,0]) (cd f12 [1,0,1,0,0]))=(cd f12 [1,0,1,0,0]))) ?_
 revert h
 delta pJ lD
 generalize (cd f12 [1,0,1,0,0,1,1,0])=xc0
 generalize (gU K)=qc0
 exact mpF
theorem FS {B1:KE}(h:idx Q 23 A1 A2 (fun A4 w=>aJ A4 true (fun j=>ai Q 30 s1 1 (fun A6=>aU Q 23 A6 A2 fun A7=>ld Q 4 A7 fun A8=>un Q .not A8 fun A9=>j [A2,A6,A7,A8,A9]) w) (fun k=>k [uu,uu,uu,uu,uu] w) fun d=>pick A4 (gd d 4) cF fun C0 w=>cond C0 (nC A2 (fun C1=>dl Q 56 1 #[(0,C1)] fun C2=>blt Q .append #[56,56] 56 #[false,false] #[l2,C2] fun C3=>lD K B1 (ke s0 s1 C3 A1 A2 (gd d 0) (gd d 1) (gd d 2) (gd d 3) (gd d 4) (zV (zV (zV zf 3 [A2,A4]) 9 [A2,A4,A4,A4]) 18 [C0,l2,A2,C1,C2,C3]))) w) (lD K B1 (ke s0 s1 l2 A1 A2 (gd d 0) (gd d 1) (gd d 2) (gd d 3) (gd d 4) (zV (zV (zV zf 3 [A2,A4]) 9 [A2,A4,A4,A4]) 18 [C0])) w)) w):pJ K B1 (ke s0 s1 l2 A1 A2 A5 A6 A7 A8 A9 zf) w:=by
 delta pJ;revert h;generalize (lD K B1)=qc0;generalize (gU K)=qc1;exact mpF
theorem FT (h:K l2 w):gU K (ke s0 s1 l2 A1 A2 A5 A6 A7 A8 A9 zf) w:=by
 delta gU;exact mpK h
theorem tS {B1:KE}(h:nC A2 (fun C4=>B1 (ke s0 s1 l2 A1 C4 A5 A6 A7 A8 A9 (zV zf 24 [C4]))) w):lD K B1 (ke s0 s1 l2 A1 A2 A5 A6 A7 A8 A9 zf) w:=by
 delta lD;revert h;generalize (gU K)=qc0;exact mpF
end
attribute [irreducible] gU sd lD pJ
end
section
open Go.RowKit
theorem Hf {K:KV}{n0 A0:Value}{w:World}(h:box Q 38 n0 (fun n2=>ai Q 38 n2 0 fun A1=>ld Q 24 A1 fun A2=>ld Q 24 A0 fun A3=>bin Q .eql 24 false false A2 A3 K) w):Gives Q 102 #[n0,A0] w K:=by
 refine aH func102 (by kernel_rfl) ?_;exact mpK h
theorem Jv {K:KV}{s0 id1:Value}{w:World}(h:box Q 30 s0 (fun s2=>box Q 24 id1 fun d=>ai Q 30 s2 3 fun A2=>ld Q 27 A2 fun A3=>call Q 101 #[A3,Value.func (Fn.func 102) #[] #[d]] K) w):Gives Q 75 #[s0,id1] w K:=by
 refine aH func75 (by kernel_rfl) ?_;exact mpK h
def xw (s0 s2 q4 k_6 r7 i8 C9:Value)(zf:Nat→Value):List Value:=s0::zf 1::s2::zf 3::q4::zf 5::k_6::r7::i8::zT zf 9 19 (C9::zT zf 29 11 ([]))
def nQ (K:KV):KE:=ae Q (cd f50 [1,1,1,1,1,1]) (rk f50 K) xf (rk f50 K)
def vN (K:KV):KE:=ae Q (cd f50 [1,1,1,1,1,0,1,0]) (nQ K) (xx xf (nQ K) 0) (rk f50 K)
section
variable {K:KV}{s0 s2 q4 k_6 r7 i8 C9:Value}{zf:Nat→Value}{w:World}
theorem LP {K:KV}{s0 d:Value}{w:World}(h:box Q 30 s0 (fun s2=>alc Q 135 fun q4=>ld Q 30 s2 fun A4=>call Q 75 #[A4,d] fun A5=>bin Q .lss 3 false true A5 (ci 0) fun A6 w=>cond A6 (ld Q 135 q4 (fun A7=>sto Q 135 q4 A7 fun _=>bM Q [(some 135,q4),(none,ci 9)] K) w) (ai Q 30 s2 3 (fun A8=>ld Q 27 A8 fun A9=>aU Q 27 A9 A5 fun C0=>ai Q 38 C0 2 fun C1=>ld Q 36 C1 fun C2=>alc Q 36 fun r7=>sto Q 36 r7 C2 fun _=>ld Q 36 r7 fun C3=>call Q 76 #[C3] fun C4=>ext Q C4 0 fun C5=>ext Q C4 1 fun C6=>ai Q 135 q4 0 fun C7=>sto Q 2 C7 C5 fun _=>ai Q 135 q4 1 fun C8=>sto Q 2 C8 C6 fun _=>vN K (xw s0 s2 q4 A5 r7 uu (ci 0) (zV (zV (zV (zV zu 1 [d]) 5 [ci 0]) 9 [A4,d,A5,A5,A6]) 15 [A8,A9,A5,C0,C1,C2,C4,C3,C4,C5,C6,C7,C8]))) w)) w):Gives Q 50 #[s0,d] w K:=by
 refine aH func50 (by kernel_rfl) ?_;revert h;delta vN nQ;exact mpF
theorem Jw (Inv:Value→World→Prop)(μ:Value→World→Nat)(h0:Inv C9 w)(C:∀(d:Value) (u:Nat→Value) (w:World) (m:Nat),Inv d w→m=μ d w →
  bin Q .lss 3 false true d (ci 6) (fun D0 w=>cond D0 (ld Q 36 r7 (fun D1=>nC d fun D2=>call Q 31 #[D1,D2] fun D3=>ai Q 135 q4 2 fun D4=>aU Q 33 D4 d fun D5=>sto Q 2 D5 D3 fun _=>nC d fun D6 w=>(Inv D6 w)∧((μ D6 w)<m)) w) (nQ K (xw s0 s2 q4 k_6 r7 (u 8) d (zV u 29 [D0])) w)) w):vN K (xw s0 s2 q4 k_6 r7 i8 C9 zf) w:=by
 refine aQ (cd f50 [1,1,1,1,1,0,1,0,0]) (zr [(8,1),(28,11)]) (by kernel_rfl) (fun e2 j=>Inv (gd e2 28) j) (fun e2 j=>μ (gd e2 28) j) h0 ?_;intro e' w' hI;have h:=C (gd e' 28) (zM zf (fun i=>gd e' i) (zr [(8,1),(28,11)])) w' _ hI rfl;revert h;generalize (nQ K)=qc0;exact mpF
theorem Jx (h:ld Q 135 q4 (fun D7=>sto Q 135 q4 D7 fun _=>bM Q [(some 135,q4),(none,ci 0)] K) w):nQ K (xw s0 s2 q4 k_6 r7 i8 C9 zf) w:=by
 delta nQ;exact mpK h
end
attribute [irreducible] nQ vN
end
section
open Go.RowKit
def hU (s0 f1 s2 f3 i5 A0 A1:Value)(zf:Nat→Value):List Value:=s0::f1::s2::f3::zf 4::i5::zf 6::A0::A1::zT zf 9 10 ([])
def cK (K:KV):KE:=ae Q (cd f101 [1,1]) (rk f101 K) xf (rk f101 K)
def gQ (K:KV):KE:=ae Q (cd f101 [1,0,1,0]) (cK K) (xx xf (cK K) 0) (rk f101 K)
section
variable {K:KV}{s0 f1 s2 f3 i5 A0 A1:Value}{zf:Nat→Value}{w:World}
theorem qY {K:KV}{s0 f1:Value}{w:World}(h:lN 27 s0 (fun A0=>gQ K (hU s0 f1 uu uu uu A0 (ci 0) (zV (zV zu 4 [ci 0]) 6 [s0]))) w):Gives Q 101 #[s0,f1] w K:=by
 refine aH func101 (by kernel_rfl) ?_;revert h;delta gQ cK;exact mpF
theorem qw (Inv:Value→World→Prop)(μ:Value→World→Nat)(h0:Inv A1 w)(C:∀(d:Value) (u:Nat→Value) (w:World) (m:Nat),Inv d w→m=μ d w →
  lS d A0 (fun A2 w=>cond A2 (aU Q 27 s0 d (fun A3=>ld Q 38 A3 fun A4=>dC Q f1 #[A4] fun A5 w=>cond A5 (K d w) (nC d (fun A6 w=>(Inv A6 w)∧((μ A6 w)<m)) w)) w) (cK K (hU s0 f1 s2 f3 (u 5) A0 d (zV u 9 [A2])) w)) w):gQ K (hU s0 f1 s2 f3 i5 A0 A1 zf) w:=by
 refine aQ (cd f101 [1,0,1,0,0]) (zr [(4,2),(8,11)]) (by kernel_rfl) (fun e2 j=>Inv (gd e2 8) j) (fun e2 j=>μ (gd e2 8) j) h0 ?_;intro e' w' hI;have h:=C (gd e' 8) (zM zf (fun i=>gd e' i) (zr [(4,2),(8,11)])) w' _ hI rfl;revert h;generalize (cK K)=qc0;exact mpF
theorem qx (h:K (ci (-1)) w):cK K (hU s0 f1 s2 f3 i5 A0 A1 zf) w:=by
 delta cK;exact mpK h
end
attribute [irreducible] cK gQ
end
section
attribute [local irreducible] bin un conv call dC blt slc ai fld aU idx lkp eX jl eSt rng nxt ent ext alc box bld dl ld sto bo eS mkS ifc pick rdy wts aJ sti cond bM Gives ae fU gX cOp
section
open Go.RowKit
def ndC (x:ND):List Value:=.int .u64 x.id::.int .u64 x.par::x.A.map iv
theorem MN {x:ND}(h:x.A.length=54):(ndC x).length=56:=by simp[ndC,h]
structure NR (w:World) (a:Option Addr) (n c:Nat) (L:List ND):Prop where
 len:L.length=n
 cap:n≤c
 some_:0<n→∃b o,a=some ⟨b,o,none⟩
 A54:∀x∈L,x.A.length=54
 cell:∀(i:Nat) (x:ND),L[i]? = some x→∀b o,a=some ⟨b,o,none⟩→∀(j:Nat) (u:Value),(ndC x)[j]? = some u→w.cell? ⟨b,o+i*56+j,none⟩=some u
theorem NR.bel {w w':World}{B:Nat}{a:Option Addr}{n c:Nat}{L:List ND}(h:NR w a n c L)(M:Below B w w')(R:w.heap.size≤B):NR w' a n c L :=
 ⟨h.len,h.cap,h.some_,h.A54,fun i x I b o J j u C=>by
  have:=h.cell i x I b o J j u C
  have d:=World.block_lt_of_cell? w _ this;rw[M.cell (p:=⟨b,o+i*56+j,none⟩) (Nat.lt_of_lt_of_le d R)];exact this⟩
structure STA where
 I:List Bool
 L:List Bool
 V:List Int
 nodes:List ND
 na:Option Addr
 nc:Nat
 gv:Value
def saC (s:STA):List Value:=s.I.map .bool++s.L.map .bool++s.V.map (.int .u64)++[.slice s.na s.nodes.length s.nc,s.gv]
structure SK (w:World) (s:STA):Prop where
 i6:s.I.length=6
 l6:s.L.length=6
 v6:s.V.length=6
 nr:NR w s.na s.nodes.length s.nc s.nodes
 few:s.nodes.length≤1000000
 gv:s.gv.oneCell'=true
theorem SK.bel {w w':World}{B:Nat}{s:STA}(h:SK w s)(d:Below B w w')(j:w.heap.size≤B):SK w' s:=⟨h.i6,h.l6,h.v6,h.nr.bel d j,h.few,h.gv⟩
theorem SK.len {w:World}{s:STA}(h:SK w s):(saC s).length=20:=by simp[saC,h.i6,h.l6,h.v6]
theorem Vn {w:World}{s:STA}(h:SK w s){k:Nat}(d:k<6):(saC s)[6+k]? = some (.bool (s.L.getD k false)):=by
 have:=h.i6
 have:=h.l6
 unfold saC;rw[List.append_assoc,List.append_assoc,List.getElem?_append_right (by simp;omega),List.getElem?_append_left (by simp;omega),List.getElem?_map];rw[show 6+k-(s.I.map Value.bool).length=k by simp;omega,List.getElem?_eq_getElem (by omega)];simp[List.getD,show k<s.L.length by omega]
theorem Hg {w:World}{s:STA}(h:SK w s):(saC s)[18]? = some (.slice s.na s.nodes.length s.nc):=by
 have:=h.i6
 have:=h.l6
 have:=h.v6
 unfold saC;rw[List.getElem?_append_right (by simp;omega)];rw[show 18-(s.I.map Value.bool++s.L.map Value.bool++s.V.map (Value.int .u64)).length=0 by simp;omega];rfl
theorem MO {L:List ND}{id:Int}{k:Nat}{x:ND}(C:L[k]? = some x)(d:x.id=id)(I:∀j y,j<k→L[j]? = some y→y.id≠id):posN L id=k:=by
 obtain⟨h,rfl⟩:=List.getElem?_eq_some_iff.1 C;unfold posN;rw[List.findIdx_eq h];refine⟨by simp[d],fun j u=>?_⟩
 have:=I j _ u (List.getElem?_eq_getElem (by omega))
 simpa using this
theorem DK {L:List ND}{id:Int}(d:∀(j:Nat) y,L[j]? = some y→y.id≠id):¬posN L id<L.length:=by
 intro h;unfold posN at h
 have:=List.findIdx_getElem (w:=h)
 exact d _ _ (List.getElem?_eq_getElem h) (by simpa using this)
def vO (A:List Int):Int×Int:=match su A with|true=>((gL A).sum,((List.range 6).map fun k=>nA A (6+k)-nA A (12+k)).sum)|false=>(0,0)
def quA (A:List Int):List Value:=iv (vO A).1::iv (vO A).2::(List.range 6).map fun k=>iv (sv A k)
theorem yr {w:World}{K:KV}{b o:Nat}(h:K (.pointer (some ⟨b,o+0,none⟩)) w):ai Tryz.prog 30 (.pointer (some ⟨b,o,none⟩)) 0 K w:=aM (by kernel_rfl) h
theorem FU {w:World}{K:KV}{b o:Nat}(h:K (.pointer (some ⟨b,o+6,none⟩)) w):ai Tryz.prog 30 (.pointer (some ⟨b,o,none⟩)) 1 K w:=aM (by kernel_rfl) h
theorem qf {w:World}{K:KV}{b o:Nat}(h:K (.pointer (some ⟨b,o+12,none⟩)) w):ai Tryz.prog 30 (.pointer (some ⟨b,o,none⟩)) 2 K w:=aM (by kernel_rfl) h
theorem dV {w:World}{K:KV}{b o:Nat}(h:K (.pointer (some ⟨b,o+18,none⟩)) w):ai Tryz.prog 30 (.pointer (some ⟨b,o,none⟩)) 3 K w:=aM (by kernel_rfl) h
theorem gB {w:World}{K:KV}{b o:Nat}(h:K (.pointer (some ⟨b,o+19,none⟩)) w):ai Tryz.prog 30 (.pointer (some ⟨b,o,none⟩)) 4 K w:=aM (by kernel_rfl) h
theorem tT {w:World}{K:KV}{b o:Nat}(h:K (.pointer (some ⟨b,o+0,none⟩)) w):ai Tryz.prog 38 (.pointer (some ⟨b,o,none⟩)) 0 K w:=aM (by kernel_rfl) h
theorem ob {w:World}{K:KV}{b o:Nat}(h:K (.pointer (some ⟨b,o+2,none⟩)) w):ai Tryz.prog 38 (.pointer (some ⟨b,o,none⟩)) 2 K w:=aM (by kernel_rfl) h
theorem Rj {w:World}{K:KV}{b o:Nat}(h:K (.pointer (some ⟨b,o+0,none⟩)) w):ai Tryz.prog 135 (.pointer (some ⟨b,o,none⟩)) 0 K w:=aM (by kernel_rfl) h
theorem Rk {w:World}{K:KV}{b o:Nat}(h:K (.pointer (some ⟨b,o+1,none⟩)) w):ai Tryz.prog 135 (.pointer (some ⟨b,o,none⟩)) 1 K w:=aM (by kernel_rfl) h
theorem Lg {w:World}{K:KV}{b o:Nat}(h:K (.pointer (some ⟨b,o+2,none⟩)) w):ai Tryz.prog 135 (.pointer (some ⟨b,o,none⟩)) 2 K w:=aM (by kernel_rfl) h
section
variable {w:World}{K:KV}
theorem UA {a:Option Addr}{n c i b o:Nat}{L:List ND}{x:ND}(h:NR w a n c L)(C:a=some ⟨b,o,none⟩)(d:L[i]? = some x)(hK:K (.agg (ndC x).toArray) w):ld Tryz.prog 38 (.pointer (some ⟨b,o+i*56,none⟩)) K w :=
 Gx (run_loadVar_mid w b (o+i*56) 38 (ndC x) _ (fun j v u=>h.cell i x d b o C j v u) underlying38 rfl (by rw[MN (h.A54 x (List.mem_of_getElem? d))];kernel_rfl)) hK
theorem Vo {x:ND}{g:Nat}{id:Int}(C:x.A.length=54)(j:blk w g 24 [.int .u64 id])(h:∀w',Below w.heap.size w w'→K (.bool (decide (x.id=id))) w'):call Tryz.prog 102 #[.agg (ndC x).toArray,.pointer (some ⟨g,0,none⟩)] K w:=by
 refine aB (goK func102) (Hf ?_);refine dc fun u d b1 s1=>?_;have d:blk u w.heap.size 38 (ndC x):=by simpa[Value.cells]using d
 refine tT <|lK (v:=.int .u64 x.id) d rfl <|lK (v:=.int .u64 id) (af b1 j j.lt) rfl <|bm ?_;exact h u b1
theorem Vp {a:Option Addr}{n c g:Nat}{L:List ND}{id:Int}(I:NR w a n c L)(hn:n≤1000000)(hg:blk w g 24 [.int .u64 id])(h:∀w',Below w.heap.size w w'→K (.int .i64 (fdN L id)) w'):call Tryz.prog 101 #[.slice a n c,.func (.func 102) #[] #[.pointer (some ⟨g,0,none⟩)]] K w:=by
 refine aB (goK func101) (qY ?_);refine bx underlying27 <|qw (Inv:=fun i wr=>∃k:Nat,i=.int .i64 (k:Nat)∧k≤n∧Below w.heap.size w wr∧∀j y,j<k→L[j]? = some y→y.id≠id) (μ:=fun i _=>n-(intOf i).toNat) ⟨0,rfl,by omega,Below.refl _ _,fun j y X=>by omega⟩ ?_;rintro _ dd w2 m ⟨k,rfl,hk,b2,d⟩ hm;have V:=I.bel b2 (Nat.le_refl _);refine aV ?_;by_cases J:k<n
 ·refine ay (by omega) ?_;obtain⟨b,o,R⟩:=I.some_ (by omega);have M:L[k]? = some (L[k]'(by rw[I.len];exact J)):=List.getElem?_eq_getElem _;generalize L[k]'(by rw[I.len];exact J)=x at M;rw[R];refine eu underlying27 (s:=56) (fun _=>by kernel_rfl) (by omega) (by omega) ?_;rw[Int.toNat_natCast];refine UA V R M ?_
  refine ia rfl (Vo (I.A54 x (List.mem_of_getElem? M)) (af b2 hg hg.lt) fun w3 b3=>?_);have hB:Below w.heap.size w w3:=b2.trans (b3.mono b2.size);by_cases u:x.id=id
  ·refine ay u ?_
   have:=h w3 hB
   have U:=MO M u (fun j y X C=>d j y X C);unfold fdN at this;rw[U,if_pos (by rw[I.len];exact J)]at this;exact this
  ·refine au u <|aR (by omega) (by omega) ?_;refine⟨⟨k+1,by simp,by omega,hB,fun j y X C=>?_⟩,by rw[hm];simp[intOf];omega⟩;by_cases Z:j=k
   ·subst Z;rw[M]at C;cases C;exact u
   ·exact d j y (by omega) C
 ·refine au (by omega) ?_;obtain rfl:k=n:=by omega
  refine qx ?_
  have:=h w2 b2
  have U:=DK (L:=L) (id:=id) (fun j y C=>d j y (by have:=(List.getElem?_eq_some_iff.1 C).1;rw[I.len]at this;exact this) C);unfold fdN at this;rw[if_neg U]at this;exact this
theorem UB {s:STA}{id:Int}(C:SK w s)(h:∀w',Below w.heap.size w w'→K (.int .i64 (fdN s.nodes id)) w'):call Tryz.prog 75 #[.agg (saC s).toArray,.int .u64 id] K w:=by
 refine aB (goK func75) (Jv ?_);refine dc fun I j b1 s1=>?_;have j:blk I w.heap.size 30 (saC s):=by simpa[Value.cells]using j
 refine dc fun w2 u b2 s2=>?_;have u:blk w2 I.heap.size 24 [.int .u64 id]:=u;refine dV <|lK (v:=.slice s.na s.nodes.length s.nc) (af b2 j j.lt) (Hg C) ?_;have d:Below w.heap.size w w2:=b1.trans (b2.mono (by omega));refine Vp (C.nr.bel d (Nat.le_refl _)) C.few u fun J M=>?_;exact h J (d.trans (M.mono (by omega)))
end
end
section
open Go.RowKit
theorem Lh {A:List Int}(h:su A=true):∀k,k<6→0≤nA A k∧nA A k≤MXA∧0≤nA A (12+k)∧nA A (12+k)≤nA A (6+k)∧nA A (6+k)≤MXA:=by
 intro k C;rw[Iu,Bool.and_eq_true]at h
 have:=List.all_eq_true.1 h.1 k (by simpa using C)
 unfold okM at this;simp only[Bool.and_eq_true,decide_eq_true_eq]at this;obtain⟨d,u,j,_⟩:=HT.1 this.1.1.1;have d:=kH.1 d;have u:=kH.1 u;have j:=kH.1 j;exact⟨d.1,d.2,j.1,this.1.2,u.2⟩
def sG (A:List Int)(k:Nat):Int:=((List.range k).map fun k=>nA A k).sum
def sU (A:List Int)(k:Nat):Int:=((List.range k).map fun k=>nA A (6+k)-nA A (12+k)).sum
theorem Eo (A:List Int)(k:Nat):sG A (k+1)=sG A k+nA A k:=by simp[sG,List.range_succ]
theorem MP (A:List Int)(k:Nat):sU A (k+1)=sU A k+(nA A (6+k)-nA A (12+k)):=by simp[sU,List.range_succ]
theorem sGU {A:List Int}(h:su A=true):∀k,k≤6→0≤sG A k∧sG A k≤k*MXA∧0≤sU A k∧sU A k≤k*MXA
 | 0,_=>by simp[sG,sU]
 | k+1,hk=>by
  have j:=sGU h k (by omega);have u:=Lh h k (by omega);rw[Eo,MP];have d:(((k+1:Nat):Int))*MXA=(k:Int)*MXA+MXA:=by simp only[MXA];omega
  rw[d];omega
def qz :List Value:=List.replicate 8 (iv 0)
def ofN (L:List ND)(id:Int):List Value×Int:=match L[posN L id]? with|some x=>(quA x.A,0)|none=>(qz,9)
def FV (A:List Int)(k:Nat):List Value:=(List.range 6).map fun j=>if j<k then iv (sv A j)else iv 0
theorem Rl {A:List Int}{k:Nat}(d:k<6){x y:Value}:(x::y::FV A k).set (2+k) (iv (sv A k))=x::y::FV A (k+1):=by
 match k,d with
 | 0,_=>rfl
 | 1,_=>rfl
 | 2,_=>rfl
 | 3,_=>rfl
 | 4,_=>rfl
 | 5,_=>rfl
theorem Li (A:List Int)(k:Nat):(FV A k).length=6:=by simp[FV]
section
variable {w:World}{K:KV}
theorem Tx {A:List Int}(I:A.length=54)(h:∀w',Below w.heap.size w w'→K (.tuple #[iv (vO A).1,iv (vO A).2]) w'):call Tryz.prog 76 #[.agg (A.map iv).toArray] K w:=by
 refine aB (goK func76) (Is ?_);refine dc fun Z C b1 s1=>?_;have C:blk Z w.heap.size 36 (A.map iv):=by simpa[Value.cells]using C
 have hR:RtA Z w.heap.size 0 36 (A.map iv) A:=⟨C,by rw[List.drop_zero,List.take_of_length_le (by simp[I])],I⟩
 refine ldA (n:=54) (vs:=A.map iv) underlying36 rfl (by kernel_rfl) C (by rw[List.drop_zero,List.take_of_length_le (by simp[I])]) (by simp[I]) ?_;refine Lf I fun w2 b2=>?_;have J:=hR.below b2 C.lt;refine eh ?_;have B2:Below w.heap.size w w2:=b1.trans (b2.mono (by omega));cases R:su A with
 | false =>
  refine bu ?_
  have:=h w2 B2
  unfold vO at this;rw[R]at this;exact this
 | true =>
  refine bw <|FO (Inv:=fun l u i wr=>∃k:Nat,l=iv (sG A k)∧u=iv (sU A k)∧i=.int .i64 (k:Nat)∧k≤6∧Below w2.heap.size w2 wr) (μ:=fun _ _ i _=>6-(intOf i).toNat) ⟨0,rfl,rfl,rfl,by omega,Below.refl _ _⟩ ?_;rintro _ _ _ dd M m ⟨k,rfl,rfl,rfl,V,U⟩ X;have d:=J.below U J.bk.lt;refine aV ?_;by_cases hk:k<6
  ·refine ay (by omega) ?_;have hn:=Lh R k hk;have hg:=sGU R k V;simp only[MXA]at hn hg;refine aM (off:=0) (by kernel_rfl) <|dB underlying33 (s:=1) (fun _=>by kernel_rfl) (by omega) (by omega) <|lK (v:=iv (nA A k)) d.bk (by rw[←d.get (i:=k) (by omega)];congr 1;simp) ?_;unfold iv;refine aR (by omega) (by omega) ?_
   have j:RtA M.drew w.heap.size 0 36 (A.map iv) A:=⟨d.bk.drew,d.cut,d.len⟩
   have b4:Below w2.heap.size w2 M.drew:=U.drew;generalize M.drew=w4 at *
   refine aa (fun _=>aM (off:=6) (by kernel_rfl)) <|aa (fun _=>dB underlying33 (s:=1) (fun _=>by kernel_rfl) (by omega) (by omega)) <|aa (v:=iv (nA A (6+k))) (fun _=>lK j.bk (by rw[←j.get (i:=6+k) (by omega)];congr 1;simp)) <|aa (fun _=>aM (off:=12) (by kernel_rfl)) <|aa (fun _=>dB underlying33 (s:=1) (fun _=>by kernel_rfl) (by omega) (by omega)) <|aa (v:=iv (nA A (12+k))) (fun _=>lK j.bk (by rw[←j.get (i:=12+k) (by omega)];congr 1;simp)) ?_
   unfold iv;refine aa (fun _=>bg (by omega) (by omega)) <|aa (fun _=>aR (by omega) (by omega)) <|aR (by omega) (by omega) ?_;exact⟨⟨k+1,by rw[Eo],by rw[MP],by simp,by omega,b4⟩,by rw[X];simp[intOf];omega⟩
  ·refine au (by omega) ?_;obtain rfl:k=6:=by omega
   refine FP ?_
   have:=h M (B2.trans (U.mono (by have:=B2.size;omega)))
   unfold vO at this;rw[R]at this;exact this
theorem UC {q:Nat}{e:Int}{cs:List Value}(C:blk w q 135 cs)(u:cs.length=8)(R:∀v∈cs,v.oneCell'=true)(h:∀w',Below q w w'→K (.tuple #[.agg cs.toArray,.int .i64 e]) w'):ld Tryz.prog 135 (.pointer (some ⟨q,0,none⟩)) (fun t w=>sto Tryz.prog 135 (.pointer (some ⟨q,0,none⟩)) t (fun _t w=>bM Tryz.prog [(some 135,.pointer (some ⟨q,0,none⟩)),(none,.int .i64 e)] K w) w) w:=by
 refine ldA (n:=8) (vs:=cs) underlying135 rfl (by kernel_rfl) C (by rw[List.drop_zero,List.take_of_length_le (by omega)]) u ?_;refine iz (n:=8) (vs:=cs) (by kernel_rfl) u C (by omega) R fun w1 d I=>?_;have d:blk w1 q 135 cs:=by
  rw[List.take_zero,List.nil_append,List.drop_of_length_le (by omega),List.append_nil]at d;exact d
 have M:=run_loadVar_mid (P:=Tryz.prog) w1 q 0 135 cs _ (fun j v J=>by rw[d.cell,Nat.zero_add];exact J) underlying135 rfl (by rw[u];kernel_rfl);have e:(ks [(some 135,.pointer (some ⟨q,0,none⟩)),(none,.int .i64 e)]).run Tryz.prog w1=.ok (.tuple #[.agg cs.toArray,.int .i64 e]) w1:=by
  simp[ks,asAddr,Sem.run_bind,M]
 unfold bM;rw[e];exact⟨rfl,h w1 I.below⟩
theorem Vq {s:STA}{id:Int}(I:SK w s)(h:∀w',Below w.heap.size w w'→K (.tuple #[.agg (ofN s.nodes id).1.toArray,.int .i64 (ofN s.nodes id).2]) w'):call Tryz.prog 50 #[.agg (saC s).toArray,.int .u64 id] K w:=by
 refine aB (goK func50) (LP ?_);refine dc fun w1 hb b1 s1=>?_;have hb:blk w1 w.heap.size 30 (saC s):=by simpa[Value.cells]using hb
 refine dH (z:=.agg qz.toArray) (by kernel_rfl) fun w2 hq b2 s2=>?_;have hq:blk w2 w1.heap.size 135 qz:=hq;have M:=af b2 hb hb.lt;have B2:Below w.heap.size w w2:=b1.trans (b2.mono (by omega));refine ldA (n:=20) (vs:=saC s) underlying30 rfl (by kernel_rfl) M (by rw[List.drop_zero,List.take_of_length_le (by rw[I.len];omega)]) I.len ?_;refine UB (I.bel B2 (Nat.le_refl _)) fun w3 b3=>?_
 have ad:=af b3 hq hq.lt;have aS:=af b3 M M.lt;have B3:Below w.heap.size w w3:=B2.trans (b3.mono B2.size);have a6:=I.bel B3 (Nat.le_refl _);have bb:=b3.size;refine aV ?_;by_cases hp:posN s.nodes id<s.nodes.length
 ·rw[show fdN s.nodes id=((posN s.nodes id:Nat):Int)from if_pos hp];refine au (by omega) ?_;have hx:s.nodes[posN s.nodes id]? = some (s.nodes[posN s.nodes id]'hp):=List.getElem?_eq_getElem hp;generalize s.nodes[posN s.nodes id]'hp=x at hx;have R:ofN s.nodes id=(quA x.A,0):=by unfold ofN;rw[hx]
  rw[R]at h;have hA:=I.nr.A54 x (List.mem_of_getElem? hx);obtain⟨b,o,an⟩:=I.nr.some_ (by omega);refine dV <|lK (v:=.slice s.na s.nodes.length s.nc) aS (Hg I) ?_;rw[an];refine eu underlying27 (s:=56) (fun _=>by kernel_rfl) (by omega) (by omega) ?_;rw[Int.toNat_natCast];refine ob ?_;refine Gx (run_loadVar_mid w3 b (o+posN s.nodes id*56+2) 36 (x.A.map iv) _ (fun j v hj=>by
   have:=a6.nr.cell _ x hx b o an (2+j) v (by unfold ndC;rw[show 2+j=j+1+1 by omega];exact hj)
   rw[show o+posN s.nodes id*56+2+j=o+posN s.nodes id*56+(2+j)by omega];exact this) underlying36 rfl (by rw[List.length_map,hA];kernel_rfl)) ?_
  refine dH (z:=.agg (List.replicate 54 (iv 0)).toArray) (by kernel_rfl) fun w4 hr b4 s4=>?_;have hr:blk w4 w3.heap.size 36 (List.replicate 54 (iv 0)):=hr;refine iz (n:=54) (vs:=x.A.map iv) (by kernel_rfl) (by simp[hA]) hr (by simp) (by simp[iv,Value.oneCell']) fun w5 d o5=>?_;have d:blk w5 w3.heap.size 36 (x.A.map iv):=by
   rw[List.take_zero,List.nil_append,List.drop_of_length_le (by simp),List.append_nil]at d;exact d
  have V:Below w3.heap.size w3 w5:=b4.trans (o5.below);have al:=af V ad (by omega);have C:((x.A.map iv).drop 0).take 54=x.A.map iv:=by rw[List.drop_zero,List.take_of_length_le (by simp[hA])]
  refine ldA (n:=54) (vs:=x.A.map iv) underlying36 rfl (by kernel_rfl) d C (by simp[hA]) ?_;refine Tx hA fun w6 b6=>?_;refine eB <|eC ?_;have a7:=af b6 al al.lt;have a4:=af b6 d d.lt;have ar:Below w3.heap.size w3 w6:=V.trans (b6.mono V.size);refine Rj ?_;refine dY (fun _=>by kernel_rfl) a7 (by simp[qz]) rfl fun w7 a0 o7=>?_;refine Rk ?_
  refine dY (fun _=>by kernel_rfl) a0 (by simp[qz]) rfl fun w8 U o8=>?_;have a2:=o8.blk (o7.blk a4 (by omega)) (by omega);have U:blk w8 w1.heap.size 135 (iv (vO x.A).1::iv (vO x.A).2::FV x.A 0):=U;have av:Below w1.heap.size w3 w8:=((ar.mono (by omega)).trans o7.below).trans o8.below
  refine Jw (Inv:=fun i wr=>∃k:Nat,i=.int .i64 (k:Nat)∧k≤6∧blk wr w1.heap.size 135 (iv (vO x.A).1::iv (vO x.A).2::FV x.A k)∧blk wr w3.heap.size 36 (x.A.map iv)∧Below w1.heap.size w3 wr) (μ:=fun i _=>6-(intOf i).toNat)
   ⟨0,rfl,by omega,U,a2,av⟩ ?_
  rintro _ dd w9 m ⟨k,rfl,bd,J,Z,b9⟩ a8;have a9:=b9.size;refine aV ?_;by_cases hk:k<6
  ·refine ay (by omega) <|ldA (n:=54) (vs:=x.A.map iv) underlying36 rfl (by kernel_rfl) Z C (by simp[hA]) <|aR (by omega) (by omega) ?_;refine Cf hA fun be X=>?_;have ap:=af X J J.lt;have am:=af X Z Z.lt;rw[show bV ((k:Int)+1)=true by simp[bV];omega,if_pos rfl,show ((k:Int)+1-1).toNat=k by omega]
   refine Lg <|dB underlying33 (s:=1) (fun _=>by kernel_rfl) (by omega) (by omega) ?_;refine dY (fun _=>by kernel_rfl) ap (by simp[Li];omega) rfl fun bi u ag=>?_;refine aR (by omega) (by omega) ?_;refine⟨⟨k+1,by simp,by omega,?_,ag.blk am (by omega),(b9.trans (X.mono (by omega))).trans ag.below⟩,by rw[a8];simp[intOf];omega⟩;rw[show 0+2+(k:Int).toNat*1=2+k by omega,Rl hk]at u
   exact u
  ·refine au (by omega) ?_;obtain rfl:k=6:=by omega
   refine Jx ?_;refine UC J (by simp[Li]) (by simp[iv,FV,Value.oneCell',List.range,List.range.loop]) fun az a3=>?_;exact h az ((B3.trans (b9.mono (by omega))).trans (a3.mono (by omega)))
 ·rw[show fdN s.nodes id = -1 from if_neg hp];refine ay (by omega) ?_;have R:ofN s.nodes id=(qz,9):=by unfold ofN;rw[List.getElem?_eq_none (by omega)]
  rw[R]at h;refine UC ad rfl (by simp[qz,iv,Value.oneCell']) fun w4 b4=>?_;exact h w4 (B3.trans (b4.mono (by omega)))
end
end
end
end Go.Proofs.YtgpfkmdknlcemaaGreatDoor
