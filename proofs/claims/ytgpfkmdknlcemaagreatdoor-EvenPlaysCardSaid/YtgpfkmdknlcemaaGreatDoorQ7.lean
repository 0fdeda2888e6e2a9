/- Laid together: SR11 LG LGb LGc. -/
import Derived.Test.YtgpfkmdknlcemaaGreatDoorQ2
import Derived.Test.YtgpfkmdknlcemaaGreatDoorQ6
import Derived.Test.YtgpfkmdknlcemaaGreatDoorQ4
namespace Go.Proofs.YtgpfkmdknlcemaaGreatDoor
open Go.RowKit
set_option maxRecDepth 100000
def ey (K:KV):KE:=ac Q (cd Tryz.f33 [1,1,1,1]) (rk Tryz.f33 K) xf (rk Tryz.f33 K)
def iI (K:KV):KE:=ac Q (cd Tryz.f33 [1,1,1,0,1,0]) (ey K) (xx xf (ey K) 0) (rk Tryz.f33 K)
theorem uF {K:KV} {n0:Value} {w:World}
  (h:bin Q BinOp.lss 3 false true n0 (ci 1) (fun A5 w=>au A5 false (fun k9=>bin Q BinOp.gtr 3 false true n0 (ci 6) (fun A8=>k9 [n0,A8]) w) (fun k=>k [undef,undef] w) fun us9=>pick A5 cT (gd us9 1) fun A9 w=>cond A9 (K (Value.tuple #[Value.pointer none,ci 1]) w) (bld Q 140 #[] (fun C0=>box Q 140 C0 fun C1=>bld Q 79 #[(1,C1)] fun C2=>box Q 79 C2 fun C3=>iI K [n0,undef,Value.pointer none,ci 0,C3,ci 0,n0,A5,A5,gd us9 0,gd us9 1,A9,C0,C1,C2,C3,undef,undef,undef,undef,undef,undef,undef,undef,undef,undef,undef,undef]) w)) w) :
  Gives Q 33 #[n0] w K:=by
 refine aK Tryz.func33 (by kernel_rfl) ?_
 revert h
 delta iI ey
 exact fun h=>Eq.mp (by kernel_rfl) h
theorem uG:bD Q 33:=⟨_,Tryz.func33,by kernel_rfl,by kernel_rfl⟩
theorem rT {K:KV} {n0 n1 A0 A1 l4 i5 A4 A5 A6 A7 A8 A9 C0 C1 C2 C3 C4 C5 C6 C7 C8 C9 D0 D1 D2 D3 D4 D5:Value} {w:World} (Inv:Value→World→Prop) (μ:Value→World→Nat) (h0:Inv i5 w)
  (hs:∀ (i5':Value) (dd:Nat→Value) (w:World) (m:Nat),Inv i5' w→m=μ i5' w →
  bin Q BinOp.lss 3 false false i5' n0 (fun C6 w=>cond C6 (aj l4 (fun D1=>aa Q 79 D1 0 fun D2=>aa Q 30 D2 0 fun D3=>af Q 23 D3 i5' fun D4=>sto Q 4 D4 cT fun _=>bin Q BinOp.add 3 false true i5' (ci 1) fun C8 w=>(Inv C8 w)∧((μ C8 w)<m)) w) (ey K [n0,n1,A0,A1,l4,i5',A4,A5,A6,A7,A8,A9,C0,C1,C2,C3,i5',n0,C6,dd 19,dd 20,dd 21,dd 22,dd 23,dd 24,dd 25,dd 26,D5] w)) w) :
  iI K [n0,n1,A0,A1,l4,i5,A4,A5,A6,A7,A8,A9,C0,C1,C2,C3,C4,C5,C6,C7,C8,C9,D0,D1,D2,D3,D4,D5] w:=by
 refine aB (cd Tryz.f33 [1,1,1,0,1,0,0]) [5,16,17,18,19,20,21,22,23,24,25,26] (by kernel_rfl) (fun e2 w2=>Inv (gd e2 5) w2) (fun e2 w2=>μ (gd e2 5) w2) h0 ?_
 intro e' w' hI
 have h:=hs (gd e' 5) (fun i=>gd e' i) w' _ hI rfl
 revert h
 generalize (ey K)=qc0
 exact fun h=>Eq.mp (by kernel_rfl) h
theorem rU {K:KV} {n0 n1 A0 A1 l4 i5 A4 A5 A6 A7 A8 A9 C0 C1 C2 C3 C4 C5 C6 C7 C8 C9 D0 D1 D2 D3 D4 D5:Value} {w:World}
  (h:K (Value.tuple #[l4,ci 0]) w) :
  ey K [n0,n1,A0,A1,l4,i5,A4,A5,A6,A7,A8,A9,C0,C1,C2,C3,C4,C5,C6,C7,C8,C9,D0,D1,D2,D3,D4,D5] w:=by
 delta ey
 revert h
 exact fun h=>Eq.mp (by kernel_rfl) h
attribute [irreducible] ey iI
def dx (K:KV):KE:=ac Q (cd Tryz.f54 [1,1,1,1]) (rk Tryz.f54 K) xf (rk Tryz.f54 K)
def cz (K:KV):KE:=ac Q (cd Tryz.f54 [1,1,1,1,1,1]) (rk Tryz.f54 K) xf (rk Tryz.f54 K)
def ez (K:KV):KE:=ac Q (cd Tryz.f54 [1,1,1,1,1,0,1,0]) (cz K) (xx xf (cz K) 0) (rk Tryz.f54 K)
theorem nC {K:KV} {l0:Value} {w:World}
  (h:aj l0 (fun A4=>aa Q 79 A4 0 fun A5=>ld Q 30 A5 fun A6=>bld Q 140 #[] fun A7=>box Q 140 A7 fun A8=>bld Q 79 #[(0,A6),(1,A8)] fun A9=>box Q 79 A9 fun C0=>aJ Q 27 0 #[] fun C2=>aj l0 fun C4=>aa Q 79 C4 0 fun C5=>aa Q 30 C5 3 fun C6=>ld Q 27 C6 fun C7=>blt Q Builtin.append #[27,27] 27 #[false,false] #[C2,C7] fun C8=>aj C0 fun C9=>aa Q 79 C9 0 fun D0=>aa Q 30 D0 3 fun D1=>sto Q 27 D1 C8 fun _=>aJ Q 28 0 #[] fun D3=>aj l0 fun D5=>aa Q 79 D5 0 fun D6=>aa Q 30 D6 4 fun D7=>ld Q 28 D7 fun D8=>blt Q Builtin.append #[28,28] 28 #[false,false] #[D3,D8] fun D9=>aj C0 fun E0=>aa Q 79 E0 0 fun E1=>aa Q 30 E1 4 fun E2=>sto Q 28 E2 D9 fun _=>dx K (l0::undef::(Value.pointer none)::C0::undef::l0::A4::A5::A6::A7::A8::A9::C0::C0::C2::l0::C4::C5::C6::C7::C8::C9::D0::D1::C0::D3::l0::D5::D6::D7::D8::D9::E0::E1::E2::undef::undef::undef::undef::undef::undef::undef::undef::undef::undef::undef::undef::undef::undef::undef::undef::undef::undef::undef::undef::undef::undef::undef::undef::undef::undef::undef::undef::undef::undef::undef::undef::undef::undef::undef::undef::undef::undef::undef::undef::undef::undef::undef::undef::[])) w) :
  Gives Q 54 #[l0] w K:=by
 refine aK Tryz.func54 (by kernel_rfl) <|Eq.mp (congrArg (fun c=>ac Q c _ _ _ _ w) (by kernel_rfl:(rep [1,1,1,1] (cd Tryz.f54 [1,1,1,1]) (cd Tryz.f54 []))=(cd Tryz.f54 []))) ?_
 revert h
 delta dx
 generalize (cd Tryz.f54 [1,1,1,1])=xc0
 exact fun h=>Eq.mp (by kernel_rfl) h
theorem nD:bD Q 54:=⟨_,Tryz.func54,by kernel_rfl,by kernel_rfl⟩
section
variable {l0 l1 A0 m3 i4 A3 A4 A5 A6 A7 A8 A9 C0 C1 C2 C3 C4 C5 C6 C7 C8 C9 D0 D1 D2 D3 D4 D5 D6 D7 D8 D9 E0 E1 E2 E3 E4 E5 E6 E7 E8 E9 F0 F1 F2 F3 F4 F5 F6 F7 F8 F9 G0 G1 G2 G3 G4 G5 G6 G7 G8 G9 H0 H1 H2 H3 H4 H5 H6 H7 H8 H9 I0 I1 I2 I3 I4 I5 I6:Value}
theorem mC {K:KV} {w:World}
  (h:aX (fun S w=>hld S (aj m3) fun E4=>hld S (aa Q 79 E4 1) fun E5=>hld S (ld Q 75 E5) fun E6=>hld S (aj m3) fun E8=>hld S (aa Q 79 E8 1) fun E9=>hld S (ld Q 75 E9) fun F0=>hld S (aj F0) fun F1=>hld S (aa Q 140 F1 0) fun F2=>hld S (ld Q 138 F2) fun F3=>hld S (aj l0) fun F5=>hld S (aa Q 79 F5 1) fun F6=>hld S (ld Q 75 F6) fun F7=>hld S (aj F7) fun F8=>hld S (aa Q 140 F8 0) fun F9=>hld S (ld Q 138 F9) fun G0=>blt Q Builtin.append #[138,138] 138 #[false,false] #[F3,G0] (fun G1=>dB S fun S w=>hld S (aj E6) fun G2=>hld S (aa Q 140 G2 0) fun G3=>sto Q 138 G3 G1 (fun _=>ez K (l0::l1::A0::m3::(ci 0)::A3::A4::A5::A6::A7::A8::A9::C0::C1::C2::C3::C4::C5::C6::C7::C8::C9::D0::D1::D2::D3::D4::D5::D6::D7::D8::D9::E0::E1::E2::m3::E4::E5::E6::m3::E8::E9::F0::F1::F2::F3::l0::F5::F6::F7::F8::F9::G0::G1::G2::G3::G4::G5::G6::G7::G8::G9::H0::H1::H2::H3::H4::H5::H6::H7::H8::H9::I0::I1::I2::I3::I4::I5::I6::[])) w) w) w.drew) :
  dx K (l0::l1::A0::m3::i4::A3::A4::A5::A6::A7::A8::A9::C0::C1::C2::C3::C4::C5::C6::C7::C8::C9::D0::D1::D2::D3::D4::D5::D6::D7::D8::D9::E0::E1::E2::E3::E4::E5::E6::E7::E8::E9::F0::F1::F2::F3::F4::F5::F6::F7::F8::F9::G0::G1::G2::G3::G4::G5::G6::G7::G8::G9::H0::H1::H2::H3::H4::H5::H6::H7::H8::H9::I0::I1::I2::I3::I4::I5::I6::[]) w:=by
 delta dx
 revert h
 delta ez cz
 exact fun h=>Eq.mp (by kernel_rfl) h
theorem mD {K:KV} {w:World} (Inv:Value→World→Prop) (μ:Value→World→Nat) (h0:Inv i4 w)
  (hs:∀ (i4':Value) (dd:Nat→Value) (w:World) (m:Nat),Inv i4' w→m=μ i4' w →
  bin Q BinOp.lss 3 false true i4' (ci 6) (fun G5 w=>cond G5 (aX (fun S w=>hld S (aj m3) fun H2=>hld S (aa Q 79 H2 2) fun H3=>hld S (af Q 77 H3 i4') fun H4=>hld S (ld Q 76 H4) fun H5=>hld S (aj l0) fun H8=>hld S (aa Q 79 H8 2) fun H9=>hld S (af Q 77 H9 i4') fun I0=>hld S (ld Q 76 I0) fun I1=>hld S (aj m3) fun I3=>hld S (aa Q 79 I3 2) fun I4=>blt Q Builtin.append #[76,76] 76 #[false,false] #[H5,I1] (fun I2=>dB S fun S w=>hld S (af Q 77 I4 i4') fun I5=>sto Q 76 I5 I2 (fun _=>bin Q BinOp.add 3 false true i4' (ci 1) fun G7 w=>(Inv G7 w)∧((μ G7 w)<m)) w) w) w.drew) (cz K (l0::l1::A0::m3::i4'::A3::A4::A5::A6::A7::A8::A9::C0::C1::C2::C3::C4::C5::C6::C7::C8::C9::D0::D1::D2::D3::D4::D5::D6::D7::D8::D9::E0::E1::E2::E3::E4::E5::E6::E7::E8::E9::F0::F1::F2::F3::F4::F5::F6::F7::F8::F9::G0::G1::G2::G3::i4'::G5::(dd 58)::(dd 59)::(dd 60)::(dd 61)::(dd 62)::(dd 63)::(dd 64)::(dd 65)::(dd 66)::(dd 67)::(dd 68)::(dd 69)::(dd 70)::(dd 71)::(dd 72)::(dd 73)::(dd 74)::(dd 75)::(dd 76)::(dd 77)::I6::[]) w)) w) :
  ez K (l0::l1::A0::m3::i4::A3::A4::A5::A6::A7::A8::A9::C0::C1::C2::C3::C4::C5::C6::C7::C8::C9::D0::D1::D2::D3::D4::D5::D6::D7::D8::D9::E0::E1::E2::E3::E4::E5::E6::E7::E8::E9::F0::F1::F2::F3::F4::F5::F6::F7::F8::F9::G0::G1::G2::G3::G4::G5::G6::G7::G8::G9::H0::H1::H2::H3::H4::H5::H6::H7::H8::H9::I0::I1::I2::I3::I4::I5::I6::[]) w:=by
 refine aB (cd Tryz.f54 [1,1,1,1,1,0,1,0,0]) [4,56,57,58,59,60,61,62,63,64,65,66,67,68,69,70,71,72,73,74,75,76,77] (by kernel_rfl) (fun e2 w2=>Inv (gd e2 4) w2) (fun e2 w2=>μ (gd e2 4) w2) h0 ?_
 intro e' w' hI
 have h:=hs (gd e' 4) (fun i=>gd e' i) w' _ hI rfl
 revert h
 generalize (cz K)=qc0
 exact fun h=>Eq.mp (by kernel_rfl) h
theorem mE {K:KV} {w:World}
  (h:K m3 w) :
  cz K (l0::l1::A0::m3::i4::A3::A4::A5::A6::A7::A8::A9::C0::C1::C2::C3::C4::C5::C6::C7::C8::C9::D0::D1::D2::D3::D4::D5::D6::D7::D8::D9::E0::E1::E2::E3::E4::E5::E6::E7::E8::E9::F0::F1::F2::F3::F4::F5::F6::F7::F8::F9::G0::G1::G2::G3::G4::G5::G6::G7::G8::G9::H0::H1::H2::H3::H4::H5::H6::H7::H8::H9::I0::I1::I2::I3::I4::I5::I6::[]) w:=by
 delta cz
 revert h
 exact fun h=>Eq.mp (by kernel_rfl) h
attribute [irreducible] dx cz ez
def cA (K:KV):KE:=ac Q (cd Tryz.f81 [1,1]) (rk Tryz.f81 K) xf (rk Tryz.f81 K)
def fx (K:KV):KE:=ac Q (cd Tryz.f81 [1,0,1,0]) (cA K) (xx xf (cA K) 0) (rk Tryz.f81 K)
end
theorem nE {K:KV} {l0 id1:Value} {w:World}
  (h:fx K [l0,id1,undef,undef,ci 0,ci 0,undef,undef,undef,undef,undef,undef,undef,undef,undef,undef,undef,undef,undef,undef,undef,undef,undef,undef,undef,undef,undef,undef] w) :
  Gives Q 81 #[l0,id1] w K:=by
 refine aK Tryz.func81 (by kernel_rfl) ?_
 revert h
 delta fx cA
 exact fun h=>Eq.mp (by kernel_rfl) h
theorem nF:bD Q 81:=⟨_,Tryz.func81,by kernel_rfl,by kernel_rfl⟩
theorem mF {K:KV} {l0 id1 l2 id3 A2 i5 A4 A5 A6 A7 A8 A9 C0 C1 C2 C3 C4 C5 C6 C7 C8 C9 D0 D1 D2 D3 D4 D5:Value} {w:World} (Inv:Value→World→Prop) (μ:Value→World→Nat) (h0:Inv i5 w)
  (hs:∀ (i5':Value) (dd:Nat→Value) (w:World) (m:Nat),Inv i5' w→m=μ i5' w →
  aj l0 (fun A6=>aa Q 79 A6 0 fun A7=>aa Q 30 A7 3 fun A8=>ld Q 27 A8 fun A9=>blt Q Builtin.len #[27] 3 #[false] #[A9] fun C0=>bin Q BinOp.lss 3 false false i5' C0 fun C1 w=>cond C1 (aj l0 (fun C5=>aa Q 79 C5 0 fun C6=>aa Q 30 C6 3 fun C7=>ld Q 27 C7 fun C8=>af Q 27 C8 i5' fun D0=>aa Q 38 D0 0 fun D1=>ld Q 24 D1 fun D2=>bin Q BinOp.eql 24 false false D2 id1 fun D4 w=>cond D4 (K i5' w) (bin Q BinOp.add 3 false true i5' (ci 1) (fun C3 w=>(Inv C3 w)∧((μ C3 w)<m)) w)) w) (cA K [l0,id1,l2,id3,dd 4,i5',i5',l0,A6,A7,A8,A9,C0,C1,dd 14,dd 15,dd 16,dd 17,dd 18,dd 19,dd 20,dd 21,dd 22,dd 23,dd 24,dd 25,dd 26,dd 27] w)) w) :
  fx K [l0,id1,l2,id3,A2,i5,A4,A5,A6,A7,A8,A9,C0,C1,C2,C3,C4,C5,C6,C7,C8,C9,D0,D1,D2,D3,D4,D5] w:=by
 refine aB (cd Tryz.f81 [1,0,1,0,0]) [4,5,6,7,8,9,10,11,12,13,14,15,16,17,18,19,20,21,22,23,24,25,26,27] (by kernel_rfl) (fun e2 w2=>Inv (gd e2 5) w2) (fun e2 w2=>μ (gd e2 5) w2) h0 ?_
 intro e' w' hI
 have h:=hs (gd e' 5) (fun i=>gd e' i) w' _ hI rfl
 revert h
 generalize (cA K)=qc0
 exact fun h=>Eq.mp (by kernel_rfl) h
theorem mG {K:KV} {l0 id1 l2 id3 A2 i5 A4 A5 A6 A7 A8 A9 C0 C1 C2 C3 C4 C5 C6 C7 C8 C9 D0 D1 D2 D3 D4 D5:Value} {w:World}
  (h:K (ci (-1)) w) :
  cA K [l0,id1,l2,id3,A2,i5,A4,A5,A6,A7,A8,A9,C0,C1,C2,C3,C4,C5,C6,C7,C8,C9,D0,D1,D2,D3,D4,D5] w:=by
 delta cA
 revert h
 exact fun h=>Eq.mp (by kernel_rfl) h
attribute [irreducible] cA fx
def bU (K:KV):KE:=ac Q (cd Tryz.f108 [1,1]) (rk Tryz.f108 K) xf (rk Tryz.f108 K)
def fi (K:KV):KE:=ac Q (cd Tryz.f108 [1,0,1,0]) (bU K) (xx xf (bU K) 0) (rk Tryz.f108 K)
theorem mN {K:KV} {l0 origin1 req2:Value} {w:World}
  (h:fi K [l0,origin1,req2,undef,undef,undef,ci 0,ci 0,undef,undef,undef,undef,undef,undef,undef,undef,undef,undef,undef,undef,undef,undef,undef,undef,undef,undef,undef,undef,undef,undef,undef,undef,undef,undef,undef,undef,undef,undef,undef,undef,undef,undef,undef] w) :
  Gives Q 108 #[l0,origin1,req2] w K:=by
 refine aK Tryz.func108 (by kernel_rfl) ?_
 revert h
 delta fi bU
 exact fun h=>Eq.mp (by kernel_rfl) h
theorem mO:bD Q 108:=⟨_,Tryz.func108,by kernel_rfl,by kernel_rfl⟩
theorem lF {K:KV} {l0 origin1 req2 l3 origin4 req5 A4 i7 A6 A7 A8 A9 C0 C1 C2 C3 C4 C5 C6 C7 C8 C9 D0 D1 D2 D3 D4 D5 D6 D7 D8 D9 E0 E1 E2 E3 E4 E5 E6 E7 E8 E9 F0:Value} {w:World} (Inv:Value→Value→Value→Value→Value→Value→Value→Value→Value→Value→Value→Value→World→Prop) (μ:Value→Value→Value→Value→Value→Value→Value→Value→Value→Value→Value→Value→World→Nat) (h0:Inv i7 D8 D9 E0 E1 E2 E3 E4 E5 E6 E7 E8 w)
  (hs:∀ (i7' D8' D9' E0' E1' E2' E3' E4' E5' E6' E7' E8':Value) (dd:Nat→Value) (w:World) (m:Nat),Inv i7' D8' D9' E0' E1' E2' E3' E4' E5' E6' E7' E8' w→m=μ i7' D8' D9' E0' E1' E2' E3' E4' E5' E6' E7' E8' w →
  aj l0 (fun A8=>aa Q 79 A8 0 fun A9=>aa Q 30 A9 4 fun C0=>ld Q 28 C0 fun C1=>blt Q Builtin.len #[28] 3 #[false] #[C1] fun C2=>bin Q BinOp.lss 3 false false i7' C2 fun C3 w=>cond C3 (aj l0 (fun C7=>aa Q 79 C7 0 fun C8=>aa Q 30 C8 4 fun C9=>ld Q 28 C9 fun D0=>af Q 28 D0 i7' fun D2=>aa Q 100 D2 0 fun D3=>ld Q 3 D3 fun D4=>bin Q BinOp.eql 3 false false D4 origin1 fun D6 w=>au D6 true (fun k30=>aj l0 (fun D9=>aa Q 79 D9 0 fun E0=>aa Q 30 E0 4 fun E1=>ld Q 28 E1 fun E2=>af Q 28 E2 i7' fun E4=>aa Q 100 E4 1 fun E5=>ld Q 24 E5 fun E6=>bin Q BinOp.eql 24 false false E6 req2 fun E8=>k30 [l0,D9,E0,E1,E2,i7',E4,E5,E6,req2,E8]) w) (fun k=>k [undef,undef,undef,undef,undef,undef,undef,undef,undef,undef,undef] w) fun us30=>pick D6 (gd us30 10) cF fun E9 w=>cond E9 (K i7' w) (bin Q BinOp.add 3 false true i7' (ci 1) (fun C5 w=>(Inv C5 (gd us30 0) (gd us30 1) (gd us30 2) (gd us30 3) (gd us30 4) (gd us30 5) (gd us30 6) (gd us30 7) (gd us30 8) (gd us30 9) (gd us30 10) w)∧((μ C5 (gd us30 0) (gd us30 1) (gd us30 2) (gd us30 3) (gd us30 4) (gd us30 5) (gd us30 6) (gd us30 7) (gd us30 8) (gd us30 9) (gd us30 10) w)<m)) w)) w) (bU K [l0,origin1,req2,l3,origin4,req5,dd 6,i7',i7',l0,A8,A9,C0,C1,C2,C3,dd 16,dd 17,dd 18,dd 19,dd 20,dd 21,dd 22,dd 23,dd 24,dd 25,dd 26,dd 27,dd 28,dd 29,D8',D9',E0',E1',E2',E3',E4',E5',E6',E7',E8',dd 41,dd 42] w)) w) :
  fi K [l0,origin1,req2,l3,origin4,req5,A4,i7,A6,A7,A8,A9,C0,C1,C2,C3,C4,C5,C6,C7,C8,C9,D0,D1,D2,D3,D4,D5,D6,D7,D8,D9,E0,E1,E2,E3,E4,E5,E6,E7,E8,E9,F0] w:=by
 refine aB (cd Tryz.f108 [1,0,1,0,0]) [6,7,8,9,10,11,12,13,14,15,16,17,18,19,20,21,22,23,24,25,26,27,28,29,30,31,32,33,34,35,36,37,38,39,40,41,42] (by kernel_rfl) (fun e2 w2=>Inv (gd e2 7) (gd e2 30) (gd e2 31) (gd e2 32) (gd e2 33) (gd e2 34) (gd e2 35) (gd e2 36) (gd e2 37) (gd e2 38) (gd e2 39) (gd e2 40) w2) (fun e2 w2=>μ (gd e2 7) (gd e2 30) (gd e2 31) (gd e2 32) (gd e2 33) (gd e2 34) (gd e2 35) (gd e2 36) (gd e2 37) (gd e2 38) (gd e2 39) (gd e2 40) w2) h0 ?_
 intro e' w' hI
 have h:=hs (gd e' 7) (gd e' 30) (gd e' 31) (gd e' 32) (gd e' 33) (gd e' 34) (gd e' 35) (gd e' 36) (gd e' 37) (gd e' 38) (gd e' 39) (gd e' 40) (fun i=>gd e' i) w' _ hI rfl
 revert h
 generalize (bU K)=qc0
 exact fun h=>Eq.mp (by kernel_rfl) h
theorem lG {K:KV} {l0 origin1 req2 l3 origin4 req5 A4 i7 A6 A7 A8 A9 C0 C1 C2 C3 C4 C5 C6 C7 C8 C9 D0 D1 D2 D3 D4 D5 D6 D7 D8 D9 E0 E1 E2 E3 E4 E5 E6 E7 E8 E9 F0:Value} {w:World}
  (h:K (ci (-1)) w) :
  bU K [l0,origin1,req2,l3,origin4,req5,A4,i7,A6,A7,A8,A9,C0,C1,C2,C3,C4,C5,C6,C7,C8,C9,D0,D1,D2,D3,D4,D5,D6,D7,D8,D9,E0,E1,E2,E3,E4,E5,E6,E7,E8,E9,F0] w:=by
 delta bU
 revert h
 exact fun h=>Eq.mp (by kernel_rfl) h
attribute [irreducible] bU fi
def bV (K:KV):KE:=ac Q (cd Tryz.f105 [1,1]) (rk Tryz.f105 K) xf (rk Tryz.f105 K)
def fj (K:KV):KE:=ac Q (cd Tryz.f105 [1,0,1,0]) (bV K) (xx xf (bV K) 0) (rk Tryz.f105 K)
theorem mP {K:KV} {l0 origin1 req2:Value} {w:World}
  (h:fj K [l0,origin1,req2,undef,undef,undef,cF,ci 0,undef,undef,undef,undef,undef,undef,undef,undef,undef,undef,undef,undef,undef,undef,undef,undef,undef,undef,undef,undef,undef,undef,undef,undef] w) :
  Gives Q 105 #[l0,origin1,req2] w K:=by
 refine aK Tryz.func105 (by kernel_rfl) ?_
 revert h
 delta fj bV
 exact fun h=>Eq.mp (by kernel_rfl) h
theorem mQ:bD Q 105:=⟨_,Tryz.func105,by kernel_rfl,by kernel_rfl⟩
theorem lH {K:KV} {l0 origin1 req2 l3 origin4 req5 A4 i7 A6 A7 A8 A9 C0 C1 C2 C3 C4 C5 C6 C7 C8 C9 D0 D1 D2 D3 D4 D5 D6 D7 D8 D9:Value} {w:World} (Inv:Value→World→Prop) (μ:Value→World→Nat) (h0:Inv i7 w)
  (hs:∀ (i7':Value) (dd:Nat→Value) (w:World) (m:Nat),Inv i7' w→m=μ i7' w →
  bin Q BinOp.sub 3 false true origin1 (ci 1) (fun A9=>aj l0 fun C0=>aa Q 79 C0 2 fun C1=>af Q 77 C1 A9 fun C2=>ld Q 76 C2 fun C3=>blt Q Builtin.len #[76] 3 #[false] #[C3] fun C4=>bin Q BinOp.lss 3 false false i7' C4 fun C5 w=>cond C5 (bin Q BinOp.sub 3 false true origin1 (ci 1) (fun D0=>aj l0 fun D1=>aa Q 79 D1 2 fun D2=>af Q 77 D2 D0 fun D3=>ld Q 76 D3 fun D4=>af Q 76 D4 i7' fun D6=>ld Q 24 D6 fun D7=>bin Q BinOp.eql 24 false false D7 req2 fun D9 w=>cond D9 (K cT w) (bin Q BinOp.add 3 false true i7' (ci 1) (fun C7 w=>(Inv C7 w)∧((μ C7 w)<m)) w)) w) (bV K [l0,origin1,req2,l3,origin4,req5,dd 6,i7',i7',l0,origin1,A9,C0,C1,C2,C3,C4,C5,dd 18,dd 19,dd 20,dd 21,dd 22,dd 23,dd 24,dd 25,dd 26,dd 27,dd 28,dd 29,dd 30,dd 31] w)) w) :
  fj K [l0,origin1,req2,l3,origin4,req5,A4,i7,A6,A7,A8,A9,C0,C1,C2,C3,C4,C5,C6,C7,C8,C9,D0,D1,D2,D3,D4,D5,D6,D7,D8,D9] w:=by
 refine aB (cd Tryz.f105 [1,0,1,0,0]) [6,7,8,9,10,11,12,13,14,15,16,17,18,19,20,21,22,23,24,25,26,27,28,29,30,31] (by kernel_rfl) (fun e2 w2=>Inv (gd e2 7) w2) (fun e2 w2=>μ (gd e2 7) w2) h0 ?_
 intro e' w' hI
 have h:=hs (gd e' 7) (fun i=>gd e' i) w' _ hI rfl
 revert h
 generalize (bV K)=qc0
 exact fun h=>Eq.mp (by kernel_rfl) h
theorem lI {K:KV} {l0 origin1 req2 l3 origin4 req5 A4 i7 A6 A7 A8 A9 C0 C1 C2 C3 C4 C5 C6 C7 C8 C9 D0 D1 D2 D3 D4 D5 D6 D7 D8 D9:Value} {w:World}
  (h:K cF w) :
  bV K [l0,origin1,req2,l3,origin4,req5,A4,i7,A6,A7,A8,A9,C0,C1,C2,C3,C4,C5,C6,C7,C8,C9,D0,D1,D2,D3,D4,D5,D6,D7,D8,D9] w:=by
 delta bV
 revert h
 exact fun h=>Eq.mp (by kernel_rfl) h
attribute [irreducible] bV fj
def fk (K:KV):KE:=ac Q (cd Tryz.f36 [1,1,1,1,1]) (rk Tryz.f36 K) xf (rk Tryz.f36 K)
def fl (K:KV):KE:=ac Q (cd Tryz.f36 [1,1,1,1,1,1,1,1]) (rk Tryz.f36 K) xf (rk Tryz.f36 K)
theorem nG {K:KV} (xc0:Code) {l0 e1:Value} {w:World}
  (h:box Q 54 e1 (fun e3=>ld Q 54 e3 fun A7=>call Q 51 #[A7] fun A8=>un Q UnOp.not A8 fun A9 w=>cond A9 (K (Value.tuple #[l0,ci 1]) w) (aX (fun S w=>hld S (aj l0) fun C2=>hld S (aa Q 79 C2 0) fun C3=>hld S (aa Q 30 C3 2) fun C4=>hld S (ld Q 26 C4) fun C5=>hld S (ld Q 54 e3) fun C6=>call Q 52 #[C5,C6] (fun C7 w=>cond C7 (K (Value.tuple #[l0,ci 14]) w) (aX (fun S w=>hld S (aj l0) fun D0=>hld S (aa Q 79 D0 0) fun D1=>hld S (aa Q 30 D1 2) fun D2=>hld S (ld Q 26 D2) fun D3=>hld S (ld Q 54 e3) fun D4=>call Q 53 #[D3,D4] (fun D5=>aX fun S w=>hld S (un Q UnOp.not D5) fun D6=>cond D6 (K (Value.tuple #[l0,ci 13]) w) (aa Q 54 e3 0 (fun D8=>ld Q 3 D8 fun D9=>bin Q BinOp.sub 3 false true D9 (ci 1) fun E0=>ac Q xc0 (rk Tryz.f36 K) (fun _ _ _=>False) (rk Tryz.f36 K) (l0::e1::undef::e3::(Value.pointer none)::(ci 0)::E0::undef::undef::A7::A8::A9::undef::l0::C2::C3::C4::C5::C6::C7::undef::l0::D0::D1::D2::D3::D4::D5::D6::undef::D8::D9::E0::undef::undef::undef::undef::undef::undef::undef::undef::undef::undef::undef::undef::undef::undef::undef::undef::undef::undef::undef::undef::undef::undef::undef::undef::undef::undef::undef::undef::undef::undef::undef::undef::undef::undef::undef::undef::undef::undef::undef::undef::[])) w)) w) w.drew)) w) w.drew)) w) :
  ac Q (rep [1,1,1,1,1] xc0 (cd Tryz.f36 [])) (rk Tryz.f36 K) xf (rk Tryz.f36 K) (l0::e1::undef::undef::undef::undef::undef::undef::undef::undef::undef::undef::undef::undef::undef::undef::undef::undef::undef::undef::undef::undef::undef::undef::undef::undef::undef::undef::undef::undef::undef::undef::undef::undef::undef::undef::undef::undef::undef::undef::undef::undef::undef::undef::undef::undef::undef::undef::undef::undef::undef::undef::undef::undef::undef::undef::undef::undef::undef::undef::undef::undef::undef::undef::undef::undef::undef::undef::undef::undef::undef::undef::undef::[]) w:=Eq.mp (by kernel_rfl) h
theorem mR {K:KV} {l0 e1:Value} {w:World}
  (h:box Q 54 e1 (fun e3=>ld Q 54 e3 fun A7=>call Q 51 #[A7] fun A8=>un Q UnOp.not A8 fun A9 w=>cond A9 (K (Value.tuple #[l0,ci 1]) w) (aX (fun S w=>hld S (aj l0) fun C2=>hld S (aa Q 79 C2 0) fun C3=>hld S (aa Q 30 C3 2) fun C4=>hld S (ld Q 26 C4) fun C5=>hld S (ld Q 54 e3) fun C6=>call Q 52 #[C5,C6] (fun C7 w=>cond C7 (K (Value.tuple #[l0,ci 14]) w) (aX (fun S w=>hld S (aj l0) fun D0=>hld S (aa Q 79 D0 0) fun D1=>hld S (aa Q 30 D1 2) fun D2=>hld S (ld Q 26 D2) fun D3=>hld S (ld Q 54 e3) fun D4=>call Q 53 #[D3,D4] (fun D5=>aX fun S w=>hld S (un Q UnOp.not D5) fun D6=>cond D6 (K (Value.tuple #[l0,ci 13]) w) (aa Q 54 e3 0 (fun D8=>ld Q 3 D8 fun D9=>bin Q BinOp.sub 3 false true D9 (ci 1) fun E0=>fk K (l0::e1::undef::e3::(Value.pointer none)::(ci 0)::E0::undef::undef::A7::A8::A9::undef::l0::C2::C3::C4::C5::C6::C7::undef::l0::D0::D1::D2::D3::D4::D5::D6::undef::D8::D9::E0::undef::undef::undef::undef::undef::undef::undef::undef::undef::undef::undef::undef::undef::undef::undef::undef::undef::undef::undef::undef::undef::undef::undef::undef::undef::undef::undef::undef::undef::undef::undef::undef::undef::undef::undef::undef::undef::undef::undef::undef::[])) w)) w) w.drew)) w) w.drew)) w) :
  Gives Q 36 #[l0,e1] w K:=aK Tryz.func36 (by kernel_rfl) (Eq.mp (congrArg (fun c=>ac Q c (rk Tryz.f36 K) xf (rk Tryz.f36 K) (l0::e1::undef::undef::undef::undef::undef::undef::undef::undef::undef::undef::undef::undef::undef::undef::undef::undef::undef::undef::undef::undef::undef::undef::undef::undef::undef::undef::undef::undef::undef::undef::undef::undef::undef::undef::undef::undef::undef::undef::undef::undef::undef::undef::undef::undef::undef::undef::undef::undef::undef::undef::undef::undef::undef::undef::undef::undef::undef::undef::undef::undef::undef::undef::undef::undef::undef::undef::undef::undef::undef::undef::undef::[]) w) (by kernel_rfl:(rep [1,1,1,1,1] (cd Tryz.f36 [1,1,1,1,1]) (cd Tryz.f36 []))=(cd Tryz.f36 []))) (nG (cd Tryz.f36 [1,1,1,1,1]) h))
theorem mS:bD Q 36:=⟨_,Tryz.func36,by kernel_rfl,by kernel_rfl⟩
section
variable {l0 e1 l2 e3 A2 A3 o6 m7 f8 A7 A8 A9 C0 C1 C2 C3 C4 C5 C6 C7 C8 C9 D0 D1 D2 D3 D4 D5 D6 D7 D8 D9 E0 E1 E2 E3 E4 E5 E6 E7 E8 E9 F0 F1 F2 F3 F4 F5 F6 F7 F8 F9 G0 G1 G2 G3 G4 G5 G6 G7 G8 G9 H0 H1 H2 H3 H4 H5 H6 H7 H8 H9 I0:Value}
theorem lJ {K:KV} (xc0:Code) {w:World}
  (h:aj l0 (fun E3=>aa Q 79 E3 0 fun E4=>aa Q 30 E4 0 fun E5=>af Q 23 E5 o6 fun E6=>ld Q 4 E6 fun E7=>un Q UnOp.not E7 fun E8 w=>au E8 false (fun k42=>aj l0 (fun F2=>aa Q 79 F2 0 fun F3=>aa Q 30 F3 1 fun F4=>af Q 23 F4 o6 fun F5=>ld Q 4 F5 fun F6=>k42 [l0,o6,F2,F3,F4,F5,F6]) w) (fun k=>k [undef,undef,undef,undef,undef,undef,undef] w) fun us42=>pick E8 cT (gd us42 6) fun F7 w=>cond F7 (K (Value.tuple #[l0,ci 10]) w) (call Q 54 #[l0] (fun G0=>ld Q 54 e3 fun G2=>call Q 55 #[G0,G2] fun G3=>ac Q xc0 (rk Tryz.f36 K) (fun _ _ _=>False) (rk Tryz.f36 K) (l0::e1::l2::e3::A2::A3::o6::G0::G3::A7::A8::A9::C0::C1::C2::C3::C4::C5::C6::C7::C8::C9::D0::D1::D2::D3::D4::D5::D6::D7::D8::D9::E0::l0::o6::E3::E4::E5::E6::E7::E8::E8::(gd us42 0)::(gd us42 1)::(gd us42 2)::(gd us42 3)::(gd us42 4)::(gd us42 5)::(gd us42 6)::F7::F8::l0::G0::G0::G2::G3::G4::G5::G6::G7::G8::G9::H0::H1::H2::H3::H4::H5::H6::H7::H8::H9::I0::[])) w)) w) :
  ac Q (rep [1,1,1] xc0 (cd Tryz.f36 [1,1,1,1,1])) (rk Tryz.f36 K) xf (rk Tryz.f36 K) (l0::e1::l2::e3::A2::A3::o6::m7::f8::A7::A8::A9::C0::C1::C2::C3::C4::C5::C6::C7::C8::C9::D0::D1::D2::D3::D4::D5::D6::D7::D8::D9::E0::E1::E2::E3::E4::E5::E6::E7::E8::E9::F0::F1::F2::F3::F4::F5::F6::F7::F8::F9::G0::G1::G2::G3::G4::G5::G6::G7::G8::G9::H0::H1::H2::H3::H4::H5::H6::H7::H8::H9::I0::[]) w:=Eq.mp (by kernel_rfl) h
theorem lK {K:KV} {w:World}
  (h:aj l0 (fun E3=>aa Q 79 E3 0 fun E4=>aa Q 30 E4 0 fun E5=>af Q 23 E5 o6 fun E6=>ld Q 4 E6 fun E7=>un Q UnOp.not E7 fun E8 w=>au E8 false (fun k42=>aj l0 (fun F2=>aa Q 79 F2 0 fun F3=>aa Q 30 F3 1 fun F4=>af Q 23 F4 o6 fun F5=>ld Q 4 F5 fun F6=>k42 [l0,o6,F2,F3,F4,F5,F6]) w) (fun k=>k [undef,undef,undef,undef,undef,undef,undef] w) fun us42=>pick E8 cT (gd us42 6) fun F7 w=>cond F7 (K (Value.tuple #[l0,ci 10]) w) (call Q 54 #[l0] (fun G0=>ld Q 54 e3 fun G2=>call Q 55 #[G0,G2] fun G3=>fl K (l0::e1::l2::e3::A2::A3::o6::G0::G3::A7::A8::A9::C0::C1::C2::C3::C4::C5::C6::C7::C8::C9::D0::D1::D2::D3::D4::D5::D6::D7::D8::D9::E0::l0::o6::E3::E4::E5::E6::E7::E8::E8::(gd us42 0)::(gd us42 1)::(gd us42 2)::(gd us42 3)::(gd us42 4)::(gd us42 5)::(gd us42 6)::F7::F8::l0::G0::G0::G2::G3::G4::G5::G6::G7::G8::G9::H0::H1::H2::H3::H4::H5::H6::H7::H8::H9::I0::[])) w)) w) :
  fk K (l0::e1::l2::e3::A2::A3::o6::m7::f8::A7::A8::A9::C0::C1::C2::C3::C4::C5::C6::C7::C8::C9::D0::D1::D2::D3::D4::D5::D6::D7::D8::D9::E0::E1::E2::E3::E4::E5::E6::E7::E8::E9::F0::F1::F2::F3::F4::F5::F6::F7::F8::F9::G0::G1::G2::G3::G4::G5::G6::G7::G8::G9::H0::H1::H2::H3::H4::H5::H6::H7::H8::H9::I0::[]) w:=by
 delta fk
 exact Eq.mp (congrArg (fun c=>ac Q c (rk Tryz.f36 K) xf (rk Tryz.f36 K) (l0::e1::l2::e3::A2::A3::o6::m7::f8::A7::A8::A9::C0::C1::C2::C3::C4::C5::C6::C7::C8::C9::D0::D1::D2::D3::D4::D5::D6::D7::D8::D9::E0::E1::E2::E3::E4::E5::E6::E7::E8::E9::F0::F1::F2::F3::F4::F5::F6::F7::F8::F9::G0::G1::G2::G3::G4::G5::G6::G7::G8::G9::H0::H1::H2::H3::H4::H5::H6::H7::H8::H9::I0::[]) w) (by kernel_rfl:(rep [1,1,1] (cd Tryz.f36 [1,1,1,1,1,1,1,1]) (cd Tryz.f36 [1,1,1,1,1]))=(cd Tryz.f36 [1,1,1,1,1]))) (lJ (cd Tryz.f36 [1,1,1,1,1,1,1,1]) h)
theorem lL {K:KV} {w:World}
  (h:bin Q BinOp.neq 49 false true f8 (ci 0) (fun G5 w=>cond G5 (K (Value.tuple #[l0,f8]) w) (sti (aj m7) (fun H0=>sti (aa Q 79 H0 0) fun H1=>sti (aa Q 30 H1 2) fun H2=>sti (af Q 26 H2 o6) fun H3=>sti (ld Q 24 H3) fun H4=>sti (bin Q BinOp.add 24 false true H4 (cu 1)) fun H5=>sti (aj m7) fun H6=>sti (aa Q 79 H6 0) fun H7=>sti (aa Q 30 H7 2) fun H8=>sti (af Q 26 H8 o6) fun H9=>sto Q 24 H9 H5 fun _=>K (Value.tuple #[m7,ci 0])) w.drew)) w) :
  ac Q (cd Tryz.f36 [1,1,1,1,1,1,1,1]) (rk Tryz.f36 K) xf (rk Tryz.f36 K) (l0::e1::l2::e3::A2::A3::o6::m7::f8::A7::A8::A9::C0::C1::C2::C3::C4::C5::C6::C7::C8::C9::D0::D1::D2::D3::D4::D5::D6::D7::D8::D9::E0::E1::E2::E3::E4::E5::E6::E7::E8::E9::F0::F1::F2::F3::F4::F5::F6::F7::F8::F9::G0::G1::G2::G3::G4::G5::G6::G7::G8::G9::H0::H1::H2::H3::H4::H5::H6::H7::H8::H9::I0::[]) w:=Eq.mp (by kernel_rfl) h
theorem iF {K:KV} {w:World}
  (h:bin Q BinOp.neq 49 false true f8 (ci 0) (fun G5 w=>cond G5 (K (Value.tuple #[l0,f8]) w) (sti (aj m7) (fun H0=>sti (aa Q 79 H0 0) fun H1=>sti (aa Q 30 H1 2) fun H2=>sti (af Q 26 H2 o6) fun H3=>sti (ld Q 24 H3) fun H4=>sti (bin Q BinOp.add 24 false true H4 (cu 1)) fun H5=>sti (aj m7) fun H6=>sti (aa Q 79 H6 0) fun H7=>sti (aa Q 30 H7 2) fun H8=>sti (af Q 26 H8 o6) fun H9=>sto Q 24 H9 H5 fun _=>K (Value.tuple #[m7,ci 0])) w.drew)) w) :
  fl K (l0::e1::l2::e3::A2::A3::o6::m7::f8::A7::A8::A9::C0::C1::C2::C3::C4::C5::C6::C7::C8::C9::D0::D1::D2::D3::D4::D5::D6::D7::D8::D9::E0::E1::E2::E3::E4::E5::E6::E7::E8::E9::F0::F1::F2::F3::F4::F5::F6::F7::F8::F9::G0::G1::G2::G3::G4::G5::G6::G7::G8::G9::H0::H1::H2::H3::H4::H5::H6::H7::H8::H9::I0::[]) w:=by
 delta fl
 exact Eq.mp (congrArg (fun c=>ac Q c (rk Tryz.f36 K) xf (rk Tryz.f36 K) (l0::e1::l2::e3::A2::A3::o6::m7::f8::A7::A8::A9::C0::C1::C2::C3::C4::C5::C6::C7::C8::C9::D0::D1::D2::D3::D4::D5::D6::D7::D8::D9::E0::E1::E2::E3::E4::E5::E6::E7::E8::E9::F0::F1::F2::F3::F4::F5::F6::F7::F8::F9::G0::G1::G2::G3::G4::G5::G6::G7::G8::G9::H0::H1::H2::H3::H4::H5::H6::H7::H8::H9::I0::[]) w) (by kernel_rfl:(cd Tryz.f36 [1,1,1,1,1,1,1,1])=(cd Tryz.f36 [1,1,1,1,1,1,1,1]))) (lL h)
attribute [irreducible] fk fl
def az (K:KV):KE:=ac Q (cd Tryz.f55 [1,1]) (rk Tryz.f55 K) xf (rk Tryz.f55 K)
def eA (K:KV):KE:=ac Q (cd Tryz.f55 [1,0,1]) (az K) xf (rk Tryz.f55 K)
def eB (K:KV):KE:=ac Q (cd Tryz.f55 [1,0,1,0,1,1,1,1,1]) (az K) (xx xf (az K) 0) (rk Tryz.f55 K)
def da (K:KV):KE:=ac Q (cd Tryz.f55 [1,0,1,0,1,1,1,1,1,1,1,1,1,0,1,1,1,1]) (az K) (xx xf (az K) 0) (rk Tryz.f55 K)
def eC (K:KV):KE:=ac Q (cd Tryz.f55 [1,0,1,0,1,1,1,1,1,1,1,1,1,1,1]) (az K) (xx xf (az K) 0) (rk Tryz.f55 K)
end
theorem nH {K:KV} {l0 e1:Value} {w:World}
  (h:box Q 54 e1 (fun e3=>aa Q 54 e3 3 fun A7=>ld Q 5 A7 fun A8=>eA K (l0::e1::undef::e3::(ci 0)::undef::undef::undef::undef::A7::A8::undef::undef::undef::undef::undef::undef::undef::undef::undef::undef::undef::undef::undef::undef::undef::undef::undef::undef::undef::undef::undef::undef::undef::undef::undef::undef::undef::undef::undef::undef::undef::undef::undef::undef::undef::undef::undef::undef::undef::undef::undef::undef::undef::undef::undef::undef::undef::undef::undef::undef::undef::undef::undef::undef::undef::undef::undef::undef::undef::undef::undef::undef::undef::undef::undef::undef::undef::undef::undef::undef::undef::undef::undef::undef::undef::undef::undef::undef::undef::undef::undef::undef::undef::undef::undef::undef::undef::undef::undef::undef::undef::undef::undef::undef::undef::undef::undef::undef::undef::undef::undef::undef::undef::undef::undef::undef::undef::undef::undef::undef::undef::undef::undef::undef::undef::undef::undef::undef::undef::undef::undef::undef::undef::undef::undef::undef::undef::undef::undef::undef::undef::undef::undef::undef::undef::undef::undef::undef::undef::undef::undef::[])) w) :
  Gives Q 55 #[l0,e1] w K:=by
 refine aK Tryz.func55 (by kernel_rfl) <|Eq.mp (congrArg (fun c=>ac Q c _ _ _ _ w) (by kernel_rfl:(rep [1,0,1] (cd Tryz.f55 [1,0,1]) (cd Tryz.f55 []))=(cd Tryz.f55 []))) ?_
 revert h
 delta eA az
 generalize (cd Tryz.f55 [1,0,1])=xc0
 exact fun h=>Eq.mp (by kernel_rfl) h
theorem nI:bD Q 55:=⟨_,Tryz.func55,by kernel_rfl,by kernel_rfl⟩
section
variable {l0 e1 l2 e3 A2 k_5 k_6 r7 f8 A7 A8 A9 C0 C1 C2 C3 C4 C5 C6 C7 C8 C9 D0 D1 D2 D3 D4 D5 D6 D7 D8 D9 E0 E1 E2 E3 E4 E5 E6 E7 E8 E9 F0 F1 F2 F3 F4 F5 F6 F7 F8 F9 G0 G1 G2 G3 G4 G5 G6 G7 G8 G9 H0 H1 H2 H3 H4 H5 H6 H7 H8 H9 I0 I1 I2 I3 I4 I5 I6 I7 I8 I9 J0 J1 J2 J3 J4 J5 J6 J7 J8 J9 L0 L1 L2 L3 L4 L5 L6 L7 L8 L9 M0 M1 M2 M3 M4 M5 M6 M7 M8 M9 N0 N1 N2 N3 N4 N5 N6 N7 N8 N9 O0 O1 O2 O3 O4 O5 O6 O7 O8 O9 P0 P1 P2 P3 P4 P5 P6 P7 P8 P9 Q0 Q1 Q2 Q3 Q4 Q5 Q6 Q7 Q8 Q9:Value}
theorem mH {K:KV} {w:World}
  (h:bin Q BinOp.eql 5 false true A8 (cb 1) (fun C0 w=>cond C0 (ld Q 54 e3 (fun C2=>call Q 80 #[l0,C2] K) w) (bin Q BinOp.eql 5 false true A8 (cb 2) (fun C5 w=>cond C5 (aa Q 54 e3 4 (fun C7=>ld Q 24 C7 fun C8=>call Q 81 #[l0,C8] fun C9=>bin Q BinOp.lss 3 false true C9 (ci 0) fun D1 w=>cond D1 (K (ci 9) w) (sti (aj l0) (fun D3=>sti (aa Q 79 D3 0) fun D4=>sti (aa Q 30 D4 3) fun D5=>sti (ld Q 27 D5) fun D6=>sti (aa Q 54 e3 0) fun D8=>sti (ld Q 3 D8) fun D9=>sti (bin Q BinOp.sub 3 false true D9 (ci 1)) fun E0=>sti (af Q 27 D6 C9) fun E1=>sti (aa Q 38 E1 2) fun E2=>sti (aa Q 36 E2 0) fun E3=>sti (af Q 33 E3 E0) fun E4=>sti (ld Q 2 E4) fun E5=>sti (aa Q 54 e3 6) fun E6=>sti (ld Q 2 E6) fun E7=>sti (bin Q BinOp.add 2 false false E5 E7) fun E8=>sti (bin Q BinOp.gtr 2 false true E8 (ci 140737488355328)) fun E9 w=>cond E9 (K (ci 6) w) (sti (aj l0) (fun F1=>sti (aa Q 79 F1 0) fun F2=>sti (aa Q 30 F2 3) fun F3=>sti (ld Q 27 F3) fun F4=>sti (aa Q 54 e3 0) fun F6=>sti (ld Q 3 F6) fun F7=>sti (bin Q BinOp.sub 3 false true F7 (ci 1)) fun F8=>sti (af Q 27 F4 C9) fun F9=>sti (aa Q 38 F9 2) fun G0=>sti (aa Q 36 G0 0) fun G1=>sti (af Q 33 G1 F8) fun G2=>sti (ld Q 2 G2) fun G3=>sti (aa Q 54 e3 6) fun G4=>sti (ld Q 2 G4) fun G5=>sti (bin Q BinOp.add 2 false false G3 G5) fun G6=>sti (af Q 27 F4 C9) fun G7=>sti (aa Q 38 G7 2) fun G8=>sti (aa Q 36 G8 0) fun G9=>sti (af Q 33 G9 F8) fun H0=>sto Q 2 H0 G6 fun _=>az K (l0::e1::l2::e3::A2::C9::k_6::r7::f8::A7::A8::C0::C0::C1::C2::C3::C5::C5::l0::C7::C8::C9::C9::D1::l0::D3::D4::D5::D6::C9::D8::D9::E0::E1::E2::E3::E4::E5::E6::E7::E8::E9::l0::F1::F2::F3::F4::C9::F6::F7::F8::F9::G0::G1::G2::G3::G4::G5::G6::G7::G8::G9::H0::H1::H2::H3::H4::H5::H6::H7::H8::H9::I0::I1::I2::I3::I4::I5::I6::I7::I8::I9::J0::J1::J2::J3::J4::J5::J6::J7::J8::J9::L0::L1::L2::L3::L4::L5::L6::L7::L8::L9::M0::M1::M2::M3::M4::M5::M6::M7::M8::M9::N0::N1::N2::N3::N4::N5::N6::N7::N8::N9::O0::O1::O2::O3::O4::O5::O6::O7::O8::O9::P0::P1::P2::P3::P4::P5::P6::P7::P8::P9::Q0::Q1::Q2::Q3::Q4::Q5::Q6::Q7::Q8::Q9::[])) w.drew)) w.drew)) w) (bin Q BinOp.eql 5 false true A8 (cb 3) (fun H2=>eB K (l0::e1::l2::e3::A2::k_5::k_6::r7::f8::A7::A8::C0::C0::C1::C2::C3::C5::C5::C6::C7::C8::C9::D0::D1::D2::D3::D4::D5::D6::D7::D8::D9::E0::E1::E2::E3::E4::E5::E6::E7::E8::E9::F0::F1::F2::F3::F4::F5::F6::F7::F8::F9::G0::G1::G2::G3::G4::G5::G6::G7::G8::G9::H0::H2::H2::H3::H4::H5::H6::H7::H8::H9::I0::I1::I2::I3::I4::I5::I6::I7::I8::I9::J0::J1::J2::J3::J4::J5::J6::J7::J8::J9::L0::L1::L2::L3::L4::L5::L6::L7::L8::L9::M0::M1::M2::M3::M4::M5::M6::M7::M8::M9::N0::N1::N2::N3::N4::N5::N6::N7::N8::N9::O0::O1::O2::O3::O4::O5::O6::O7::O8::O9::P0::P1::P2::P3::P4::P5::P6::P7::P8::P9::Q0::Q1::Q2::Q3::Q4::Q5::Q6::Q7::Q8::Q9::[])) w)) w)) w) :
  eA K (l0::e1::l2::e3::A2::k_5::k_6::r7::f8::A7::A8::A9::C0::C1::C2::C3::C4::C5::C6::C7::C8::C9::D0::D1::D2::D3::D4::D5::D6::D7::D8::D9::E0::E1::E2::E3::E4::E5::E6::E7::E8::E9::F0::F1::F2::F3::F4::F5::F6::F7::F8::F9::G0::G1::G2::G3::G4::G5::G6::G7::G8::G9::H0::H1::H2::H3::H4::H5::H6::H7::H8::H9::I0::I1::I2::I3::I4::I5::I6::I7::I8::I9::J0::J1::J2::J3::J4::J5::J6::J7::J8::J9::L0::L1::L2::L3::L4::L5::L6::L7::L8::L9::M0::M1::M2::M3::M4::M5::M6::M7::M8::M9::N0::N1::N2::N3::N4::N5::N6::N7::N8::N9::O0::O1::O2::O3::O4::O5::O6::O7::O8::O9::P0::P1::P2::P3::P4::P5::P6::P7::P8::P9::Q0::Q1::Q2::Q3::Q4::Q5::Q6::Q7::Q8::Q9::[]) w:=by
 delta eA
 refine Eq.mp (congrArg (fun c=>ac Q c _ _ _ _ w) (by kernel_rfl:(rep [0,1,1,1,1,1] (cd Tryz.f55 [1,0,1,0,1,1,1,1,1]) (cd Tryz.f55 [1,0,1]))=(cd Tryz.f55 [1,0,1]))) ?_
 revert h
 delta eB
 generalize (cd Tryz.f55 [1,0,1,0,1,1,1,1,1])=xc0
 generalize (az K)=qc0
 exact fun h=>Eq.mp (by kernel_rfl) h
theorem dM {K:KV} {w:World}
  (h:K (ci 0) w) :
  az K (l0::e1::l2::e3::A2::k_5::k_6::r7::f8::A7::A8::A9::C0::C1::C2::C3::C4::C5::C6::C7::C8::C9::D0::D1::D2::D3::D4::D5::D6::D7::D8::D9::E0::E1::E2::E3::E4::E5::E6::E7::E8::E9::F0::F1::F2::F3::F4::F5::F6::F7::F8::F9::G0::G1::G2::G3::G4::G5::G6::G7::G8::G9::H0::H1::H2::H3::H4::H5::H6::H7::H8::H9::I0::I1::I2::I3::I4::I5::I6::I7::I8::I9::J0::J1::J2::J3::J4::J5::J6::J7::J8::J9::L0::L1::L2::L3::L4::L5::L6::L7::L8::L9::M0::M1::M2::M3::M4::M5::M6::M7::M8::M9::N0::N1::N2::N3::N4::N5::N6::N7::N8::N9::O0::O1::O2::O3::O4::O5::O6::O7::O8::O9::P0::P1::P2::P3::P4::P5::P6::P7::P8::P9::Q0::Q1::Q2::Q3::Q4::Q5::Q6::Q7::Q8::Q9::[]) w:=by
 delta az
 revert h
 exact fun h=>Eq.mp (by kernel_rfl) h
theorem mI {K:KV} {w:World}
  (h:cond H1 (ld Q 54 e3 (fun H4=>call Q 82 #[l0,H4] K) w) (bin Q BinOp.eql 5 false true A8 (cb 4) (fun H7 w=>cond H7 (ld Q 54 e3 (fun H9=>call Q 83 #[l0,H9] K) w) (bin Q BinOp.eql 5 false true A8 (cb 5) (fun I2 w=>cond I2 (aa Q 54 e3 4 (fun I4=>ld Q 24 I4 fun I5=>call Q 81 #[l0,I5] fun I6=>bin Q BinOp.lss 3 false true I6 (ci 0) fun I8 w=>cond I8 (K (ci 9) w) (sti (aa Q 54 e3 5) (fun I9=>sti (ld Q 3 I9) fun J0=>sti (bin Q BinOp.lss 3 false true J0 (ci 1)) fun J1 w=>au J1 false (fun k85=>sti (aa Q 54 e3 5) (fun J3=>sti (ld Q 3 J3) fun J4=>sti (bin Q BinOp.gtr 3 false true J4 (ci 6)) fun J5=>k85 [J3,J4,J5]) w) (fun k=>k [undef,undef,undef] w) fun us85=>sti (pick J1 cT (gd us85 2)) fun J6 w=>au J6 false (fun k90=>sti (aa Q 54 e3 5) (fun J9=>sti (ld Q 3 J9) fun L0=>sti (bin Q BinOp.sub 3 false true L0 (ci 1)) fun L1=>sti (aj l0) fun L2=>sti (aa Q 79 L2 0) fun L3=>sti (aa Q 30 L3 0) fun L4=>sti (af Q 23 L4 L1) fun L5=>sti (ld Q 4 L5) fun L6=>sti (un Q UnOp.not L6) fun L7=>k90 [l0,J9,L0,L1,L2,L3,L4,L5,L6,L7]) w) (fun k=>k [undef,undef,undef,undef,undef,undef,undef,undef,undef,undef] w) fun us90=>sti (pick J6 cT (gd us90 9)) fun L8 w=>cond L8 (K (ci 10) w) (aX (fun S w=>hld S (aj l0) fun M1=>hld S (aa Q 79 M1 0) fun M2=>hld S (aa Q 30 M2 3) fun M3=>hld S (ld Q 27 M3) fun M4=>hld S (af Q 27 M4 I6) fun M6=>hld S (aa Q 38 M6 2) fun M7=>hld S (ld Q 36 M7) fun M8=>hld S (aa Q 54 e3 0) fun M9=>hld S (ld Q 3 M9) fun N0=>hld S (aa Q 54 e3 5) fun N1=>hld S (ld Q 3 N1) fun N2=>hld S (aa Q 54 e3 6) fun N3=>hld S (ld Q 2 N3) fun N4=>(call Q 84 #[M8,N0,N2,N4] (fun N5=>aX fun S w=>hld S (ext Q N5 0) fun N6=>hld S (ext Q N5 1) fun N7=>alc Q 36 (fun r7=>dB S fun S=>sto Q 36 r7 N6 fun _=>dB S fun _=>da K (l0::e1::l2::e3::A2::k_5::I6::r7::N7::A7::A8::A9::C0::C1::C2::C3::C4::C5::C6::C7::C8::C9::D0::D1::D2::D3::D4::D5::D6::D7::D8::D9::E0::E1::E2::E3::E4::E5::E6::E7::E8::E9::F0::F1::F2::F3::F4::F5::F6::F7::F8::F9::G0::G1::G2::G3::G4::G5::G6::G7::G8::G9::H0::H1::H2::H3::H4::H5::H7::H7::H8::H9::I0::I2::I2::l0::I4::I5::I6::I6::I8::I9::J0::J1::J1::(gd us85 0)::(gd us85 1)::(gd us85 2)::J6::J6::(gd us90 0)::(gd us90 1)::(gd us90 2)::(gd us90 3)::(gd us90 4)::(gd us90 5)::(gd us90 6)::(gd us90 7)::(gd us90 8)::(gd us90 9)::L8::N5::l0::M1::M2::M3::M4::I6::M6::M7::M8::M9::N0::N1::N2::N3::N4::N5::N6::N7::N8::N9::O0::O1::O2::O3::O4::O5::O6::O7::O8::O9::P0::P1::P2::P3::P4::P5::P6::P7::P8::P9::Q0::Q1::Q2::Q3::Q4::Q5::Q6::Q7::Q8::Q9::[])) w) w)∧(alc Q 36 (fun r7=>dB S fun _=>call Q 84 #[M8,N0,N2,N4] fun N5=>aX fun S w=>hld S (ext Q N5 0) fun N6=>hld S (ext Q N5 1) fun N7=>sto Q 36 r7 N6 (fun _=>dB S fun _=>da K (l0::e1::l2::e3::A2::k_5::I6::r7::N7::A7::A8::A9::C0::C1::C2::C3::C4::C5::C6::C7::C8::C9::D0::D1::D2::D3::D4::D5::D6::D7::D8::D9::E0::E1::E2::E3::E4::E5::E6::E7::E8::E9::F0::F1::F2::F3::F4::F5::F6::F7::F8::F9::G0::G1::G2::G3::G4::G5::G6::G7::G8::G9::H0::H1::H2::H3::H4::H5::H7::H7::H8::H9::I0::I2::I2::l0::I4::I5::I6::I6::I8::I9::J0::J1::J1::(gd us85 0)::(gd us85 1)::(gd us85 2)::J6::J6::(gd us90 0)::(gd us90 1)::(gd us90 2)::(gd us90 3)::(gd us90 4)::(gd us90 5)::(gd us90 6)::(gd us90 7)::(gd us90 8)::(gd us90 9)::L8::N5::l0::M1::M2::M3::M4::I6::M6::M7::M8::M9::N0::N1::N2::N3::N4::N5::N6::N7::N8::N9::O0::O1::O2::O3::O4::O5::O6::O7::O8::O9::P0::P1::P2::P3::P4::P5::P6::P7::P8::P9::Q0::Q1::Q2::Q3::Q4::Q5::Q6::Q7::Q8::Q9::[])) w) w)) w.drew)) w.drew)) w) (bin Q BinOp.eql 5 false true A8 (cb 6) (fun P1=>eC K (l0::e1::l2::e3::A2::k_5::k_6::r7::f8::A7::A8::A9::C0::C1::C2::C3::C4::C5::C6::C7::C8::C9::D0::D1::D2::D3::D4::D5::D6::D7::D8::D9::E0::E1::E2::E3::E4::E5::E6::E7::E8::E9::F0::F1::F2::F3::F4::F5::F6::F7::F8::F9::G0::G1::G2::G3::G4::G5::G6::G7::G8::G9::H0::H1::H2::H3::H4::H5::H7::H7::H8::H9::I0::I2::I2::I3::I4::I5::I6::I7::I8::I9::J0::J1::J2::J3::J4::J5::J6::J7::J8::J9::L0::L1::L2::L3::L4::L5::L6::L7::L8::L9::M0::M1::M2::M3::M4::M5::M6::M7::M8::M9::N0::N1::N2::N3::N4::N5::N6::N7::N8::N9::O0::O1::O2::O3::O4::O5::O6::O7::O8::O9::P1::P1::P2::P3::P4::P5::P6::P7::P8::P9::Q0::Q1::Q2::Q3::Q4::Q5::Q6::Q7::Q8::Q9::[])) w)) w)) w)) :
  eB K (l0::e1::l2::e3::A2::k_5::k_6::r7::f8::A7::A8::A9::C0::C1::C2::C3::C4::C5::C6::C7::C8::C9::D0::D1::D2::D3::D4::D5::D6::D7::D8::D9::E0::E1::E2::E3::E4::E5::E6::E7::E8::E9::F0::F1::F2::F3::F4::F5::F6::F7::F8::F9::G0::G1::G2::G3::G4::G5::G6::G7::G8::G9::H0::H1::H2::H3::H4::H5::H6::H7::H8::H9::I0::I1::I2::I3::I4::I5::I6::I7::I8::I9::J0::J1::J2::J3::J4::J5::J6::J7::J8::J9::L0::L1::L2::L3::L4::L5::L6::L7::L8::L9::M0::M1::M2::M3::M4::M5::M6::M7::M8::M9::N0::N1::N2::N3::N4::N5::N6::N7::N8::N9::O0::O1::O2::O3::O4::O5::O6::O7::O8::O9::P0::P1::P2::P3::P4::P5::P6::P7::P8::P9::Q0::Q1::Q2::Q3::Q4::Q5::Q6::Q7::Q8::Q9::[]) w:=by
 delta eB
 refine Eq.mp (congrArg (fun c=>ac Q c _ _ _ _ w) (by kernel_rfl:(rep [1,1,1,1,1,1] (cd Tryz.f55 [1,0,1,0,1,1,1,1,1,1,1,1,1,1,1]) (rep [1,1,1,1,0,1,1,1,1] (cd Tryz.f55 [1,0,1,0,1,1,1,1,1,1,1,1,1,0,1,1,1,1]) (cd Tryz.f55 [1,0,1,0,1,1,1,1,1])))=(cd Tryz.f55 [1,0,1,0,1,1,1,1,1]))) ?_
 revert h
 delta eC da
 generalize (cd Tryz.f55 [1,0,1,0,1,1,1,1,1,1,1,1,1,0,1,1,1,1])=xc0
 generalize (cd Tryz.f55 [1,0,1,0,1,1,1,1,1,1,1,1,1,1,1])=xc1
 generalize (az K)=qc0
 exact fun h=>Eq.mp (by kernel_rfl) h
theorem mJ {K:KV} {w:World}
  (h:bin Q BinOp.neq 49 false true f8 (ci 0) (fun N9 w=>cond N9 (K f8 w) (sti (aj l0) (fun O2=>sti (aa Q 79 O2 0) fun O3=>sti (aa Q 30 O3 3) fun O4=>sti (ld Q 27 O4) fun O5=>sti (ld Q 36 r7) fun O7=>sti (af Q 27 O5 k_6) fun O8=>sti (aa Q 38 O8 2) fun O9=>sto Q 36 O9 O7 fun _=>az K (l0::e1::l2::e3::A2::k_5::k_6::r7::f8::A7::A8::A9::C0::C1::C2::C3::C4::C5::C6::C7::C8::C9::D0::D1::D2::D3::D4::D5::D6::D7::D8::D9::E0::E1::E2::E3::E4::E5::E6::E7::E8::E9::F0::F1::F2::F3::F4::F5::F6::F7::F8::F9::G0::G1::G2::G3::G4::G5::G6::G7::G8::G9::H0::H1::H2::H3::H4::H5::H6::H7::H8::H9::I0::I1::I2::I3::I4::I5::I6::I7::I8::I9::J0::J1::J2::J3::J4::J5::J6::J7::J8::J9::L0::L1::L2::L3::L4::L5::L6::L7::L8::L9::M0::M1::M2::M3::M4::M5::M6::M7::M8::M9::N0::N1::N2::N3::N4::N5::N6::N7::f8::N9::O0::l0::O2::O3::O4::O5::k_6::O7::O8::O9::P0::P1::P2::P3::P4::P5::P6::P7::P8::P9::Q0::Q1::Q2::Q3::Q4::Q5::Q6::Q7::Q8::Q9::[])) w.drew)) w) :
  da K (l0::e1::l2::e3::A2::k_5::k_6::r7::f8::A7::A8::A9::C0::C1::C2::C3::C4::C5::C6::C7::C8::C9::D0::D1::D2::D3::D4::D5::D6::D7::D8::D9::E0::E1::E2::E3::E4::E5::E6::E7::E8::E9::F0::F1::F2::F3::F4::F5::F6::F7::F8::F9::G0::G1::G2::G3::G4::G5::G6::G7::G8::G9::H0::H1::H2::H3::H4::H5::H6::H7::H8::H9::I0::I1::I2::I3::I4::I5::I6::I7::I8::I9::J0::J1::J2::J3::J4::J5::J6::J7::J8::J9::L0::L1::L2::L3::L4::L5::L6::L7::L8::L9::M0::M1::M2::M3::M4::M5::M6::M7::M8::M9::N0::N1::N2::N3::N4::N5::N6::N7::N8::N9::O0::O1::O2::O3::O4::O5::O6::O7::O8::O9::P0::P1::P2::P3::P4::P5::P6::P7::P8::P9::Q0::Q1::Q2::Q3::Q4::Q5::Q6::Q7::Q8::Q9::[]) w:=by
 delta da
 revert h
 generalize (az K)=qc0
 exact fun h=>Eq.mp (by kernel_rfl) h
theorem mK {K:KV} {w:World}
  (h:cond P0 (sti (aa Q 54 e3 5) (fun P3=>sti (ld Q 3 P3) fun P4=>sti (bin Q BinOp.sub 3 false true P4 (ci 1)) fun P5=>sti (aj l0) fun P6=>sti (aa Q 79 P6 0) fun P7=>sti (aa Q 30 P7 0) fun P8=>sti (af Q 23 P8 P5) fun P9=>sto Q 4 P9 cT fun _=>az K (l0::e1::l2::e3::A2::k_5::k_6::r7::f8::A7::A8::A9::C0::C1::C2::C3::C4::C5::C6::C7::C8::C9::D0::D1::D2::D3::D4::D5::D6::D7::D8::D9::E0::E1::E2::E3::E4::E5::E6::E7::E8::E9::F0::F1::F2::F3::F4::F5::F6::F7::F8::F9::G0::G1::G2::G3::G4::G5::G6::G7::G8::G9::H0::H1::H2::H3::H4::H5::H6::H7::H8::H9::I0::I1::I2::I3::I4::I5::I6::I7::I8::I9::J0::J1::J2::J3::J4::J5::J6::J7::J8::J9::L0::L1::L2::L3::L4::L5::L6::L7::L8::L9::M0::M1::M2::M3::M4::M5::M6::M7::M8::M9::N0::N1::N2::N3::N4::N5::N6::N7::N8::N9::O0::O1::O2::O3::O4::O5::O6::O7::O8::O9::P0::P1::l0::P3::P4::P5::P6::P7::P8::P9::Q0::Q1::Q2::Q3::Q4::Q5::Q6::Q7::Q8::Q9::[])) w.drew) (bin Q BinOp.eql 5 false true A8 (cb 7) (fun Q1 w=>cond Q1 (sti (aa Q 54 e3 0) (fun Q3=>sti (ld Q 3 Q3) fun Q4=>sti (bin Q BinOp.sub 3 false true Q4 (ci 1)) fun Q5=>sti (aj l0) fun Q6=>sti (aa Q 79 Q6 0) fun Q7=>sti (aa Q 30 Q7 1) fun Q8=>sti (af Q 23 Q8 Q5) fun Q9=>sto Q 4 Q9 cT fun _=>az K (l0::e1::l2::e3::A2::k_5::k_6::r7::f8::A7::A8::A9::C0::C1::C2::C3::C4::C5::C6::C7::C8::C9::D0::D1::D2::D3::D4::D5::D6::D7::D8::D9::E0::E1::E2::E3::E4::E5::E6::E7::E8::E9::F0::F1::F2::F3::F4::F5::F6::F7::F8::F9::G0::G1::G2::G3::G4::G5::G6::G7::G8::G9::H0::H1::H2::H3::H4::H5::H6::H7::H8::H9::I0::I1::I2::I3::I4::I5::I6::I7::I8::I9::J0::J1::J2::J3::J4::J5::J6::J7::J8::J9::L0::L1::L2::L3::L4::L5::L6::L7::L8::L9::M0::M1::M2::M3::M4::M5::M6::M7::M8::M9::N0::N1::N2::N3::N4::N5::N6::N7::N8::N9::O0::O1::O2::O3::O4::O5::O6::O7::O8::O9::P0::P1::P2::P3::P4::P5::P6::P7::P8::P9::Q1::Q1::l0::Q3::Q4::Q5::Q6::Q7::Q8::Q9::[])) w.drew) (az K (l0::e1::l2::e3::A2::k_5::k_6::r7::f8::A7::A8::A9::C0::C1::C2::C3::C4::C5::C6::C7::C8::C9::D0::D1::D2::D3::D4::D5::D6::D7::D8::D9::E0::E1::E2::E3::E4::E5::E6::E7::E8::E9::F0::F1::F2::F3::F4::F5::F6::F7::F8::F9::G0::G1::G2::G3::G4::G5::G6::G7::G8::G9::H0::H1::H2::H3::H4::H5::H6::H7::H8::H9::I0::I1::I2::I3::I4::I5::I6::I7::I8::I9::J0::J1::J2::J3::J4::J5::J6::J7::J8::J9::L0::L1::L2::L3::L4::L5::L6::L7::L8::L9::M0::M1::M2::M3::M4::M5::M6::M7::M8::M9::N0::N1::N2::N3::N4::N5::N6::N7::N8::N9::O0::O1::O2::O3::O4::O5::O6::O7::O8::O9::P0::P1::P2::P3::P4::P5::P6::P7::P8::P9::Q1::Q1::Q2::Q3::Q4::Q5::Q6::Q7::Q8::Q9::[]) w)) w)) :
  eC K (l0::e1::l2::e3::A2::k_5::k_6::r7::f8::A7::A8::A9::C0::C1::C2::C3::C4::C5::C6::C7::C8::C9::D0::D1::D2::D3::D4::D5::D6::D7::D8::D9::E0::E1::E2::E3::E4::E5::E6::E7::E8::E9::F0::F1::F2::F3::F4::F5::F6::F7::F8::F9::G0::G1::G2::G3::G4::G5::G6::G7::G8::G9::H0::H1::H2::H3::H4::H5::H6::H7::H8::H9::I0::I1::I2::I3::I4::I5::I6::I7::I8::I9::J0::J1::J2::J3::J4::J5::J6::J7::J8::J9::L0::L1::L2::L3::L4::L5::L6::L7::L8::L9::M0::M1::M2::M3::M4::M5::M6::M7::M8::M9::N0::N1::N2::N3::N4::N5::N6::N7::N8::N9::O0::O1::O2::O3::O4::O5::O6::O7::O8::O9::P0::P1::P2::P3::P4::P5::P6::P7::P8::P9::Q0::Q1::Q2::Q3::Q4::Q5::Q6::Q7::Q8::Q9::[]) w:=by
 delta eC
 revert h
 generalize (az K)=qc0
 exact fun h=>Eq.mp (by kernel_rfl) h
attribute [irreducible] az eA eB da eC
def aP (K:KV):KE:=ac Q (cd Tryz.f80 [1,1,1]) (rk Tryz.f80 K) xf (rk Tryz.f80 K)
def fm (K:KV):KE:=ac Q (cd Tryz.f80 [1,1,0,1,0]) (aP K) (xx xf (aP K) 0) (rk Tryz.f80 K)
def bW (K:KV) (B1:KE):KE:=ac Q (cd Tryz.f80 [1,1,0,1,0,0,1,1]) B1 (xx xf (aP K) 0) (rk Tryz.f80 K)
def dV (K:KV) (B1:KE):KE:=ac Q (cd Tryz.f80 [1,1,0,1,0,0,1,0]) (bW K B1) (xx xf (aP K) 0) (rk Tryz.f80 K)
def dm (K:KV):KE:=ac Q (cd Tryz.f80 [1,1,1,1,1,1,1,1]) (rk Tryz.f80 K) xf (rk Tryz.f80 K)
def dW (K:KV):KE:=ac Q (cd Tryz.f80 [1,1,1,1,1,1,1,1,1,1,1]) (rk Tryz.f80 K) xf (rk Tryz.f80 K)
def bH (K:KV):KE:=ac Q (cd Tryz.f80 [1,1,1,1,1,1,1,1,1,1,1,1]) (rk Tryz.f80 K) xf (rk Tryz.f80 K)
def fo (K:KV):KE:=ac Q (cd Tryz.f80 [1,1,1,1,1,1,1,1,1,1,1,0,0]) (bH K) (xx xf (bH K) 2) (rk Tryz.f80 K)
end
theorem mT {K:KV} {l0 e1:Value} {w:World}
  (h:box Q 54 e1 (fun e3=>fm K (l0::e1::undef::e3::(ci 0)::(ci 0)::(ci 0)::undef::undef::undef::undef::undef::undef::undef::undef::undef::undef::undef::undef::undef::undef::undef::undef::undef::undef::undef::undef::undef::undef::undef::undef::undef::undef::undef::undef::undef::undef::undef::undef::undef::undef::undef::undef::undef::undef::undef::undef::undef::undef::undef::undef::undef::undef::undef::undef::undef::undef::undef::undef::undef::undef::undef::undef::undef::undef::undef::undef::undef::undef::undef::undef::undef::undef::undef::undef::undef::undef::undef::undef::undef::undef::undef::undef::undef::undef::undef::undef::undef::undef::undef::undef::undef::undef::undef::undef::undef::undef::undef::undef::undef::undef::undef::undef::undef::undef::undef::undef::undef::undef::undef::undef::undef::undef::undef::undef::undef::undef::undef::undef::undef::undef::undef::undef::undef::undef::undef::undef::undef::undef::undef::undef::undef::[])) w) :
  Gives Q 80 #[l0,e1] w K:=by
 refine aK Tryz.func80 (by kernel_rfl) ?_
 revert h
 delta fm aP
 exact fun h=>Eq.mp (by kernel_rfl) h
theorem mU:bD Q 80:=⟨_,Tryz.func80,by kernel_rfl,by kernel_rfl⟩
section
variable {l0 e1 l2 e3 A2 own5 i6 id7 f8 n9 at10 A9 C0 C1 C2 C3 C4 C5 C6 C7 C8 C9 D0 D1 D2 D3 D4 D5 D6 D7 D8 D9 E0 E1 E2 E3 E4 E5 E6 E7 E8 E9 F0 F1 F2 F3 F4 F5 F6 F7 F8 F9 G0 G1 G2 G3 G4 G5 G6 G7 G8 G9 H0 H1 H2 H3 H4 H5 H6 H7 H8 H9 I0 I1 I2 I3 I4 I5 I6 I7 I8 I9 J0 J1 J2 J3 J4 J5 J6 J7 J8 J9 L0 L1 L2 L3 L4 L5 L6 L7 L8 L9 M0 M1 M2 M3 M4 M5 M6 M7 M8 M9 N0 N1 N2 N3 N4 N5 N6 N7 N8 N9 O0 O1 O2 O3 O4 O5 O6 O7 O8 O9:Value}
theorem lM {K:KV} {w:World} (Inv:Value→Value→World→Prop) (μ:Value→Value→World→Nat) (h0:Inv own5 i6 w)
  (hs:∀ (own5' i6':Value) (dd:Nat→Value) (w:World) (m:Nat),Inv own5' i6' w→m=μ own5' i6' w →
  aj l0 (fun C1=>aa Q 79 C1 0 fun C2=>aa Q 30 C2 3 fun C3=>ld Q 27 C3 fun C4=>blt Q Builtin.len #[27] 3 #[false] #[C4] fun C5=>bin Q BinOp.lss 3 false false i6' C5 fun C6 w=>cond C6 (dV K (fun e2 w2=>(Inv (gd e2 5) (gd e2 6) w2)∧((μ (gd e2 5) (gd e2 6) w2)<m)) (l0::e1::l2::e3::A2::own5'::i6'::id7::f8::n9::at10::i6'::l0::C1::C2::C3::C4::C5::C6::(dd 19)::(dd 20)::(dd 21)::(dd 22)::(dd 23)::(dd 24)::(dd 25)::(dd 26)::(dd 27)::(dd 28)::(dd 29)::(dd 30)::(dd 31)::(dd 32)::(dd 33)::(dd 34)::(dd 35)::(dd 36)::E5::E6::E7::E8::E9::F0::F1::F2::F3::F4::F5::F6::F7::F8::F9::G0::G1::G2::G3::G4::G5::G6::G7::G8::G9::H0::H1::H2::H3::H4::H5::H6::H7::H8::H9::I0::I1::I2::I3::I4::I5::I6::I7::I8::I9::J0::J1::J2::J3::J4::J5::J6::J7::J8::J9::L0::L1::L2::L3::L4::L5::L6::L7::L8::L9::M0::M1::M2::M3::M4::M5::M6::M7::M8::M9::N0::N1::N2::N3::N4::N5::N6::N7::N8::N9::O0::O1::O2::O3::O4::O5::O6::O7::O8::O9::[]) w) (aP K (l0::e1::l2::e3::A2::own5'::i6'::id7::f8::n9::at10::i6'::l0::C1::C2::C3::C4::C5::C6::(dd 19)::(dd 20)::(dd 21)::(dd 22)::(dd 23)::(dd 24)::(dd 25)::(dd 26)::(dd 27)::(dd 28)::(dd 29)::(dd 30)::(dd 31)::(dd 32)::(dd 33)::(dd 34)::(dd 35)::(dd 36)::E5::E6::E7::E8::E9::F0::F1::F2::F3::F4::F5::F6::F7::F8::F9::G0::G1::G2::G3::G4::G5::G6::G7::G8::G9::H0::H1::H2::H3::H4::H5::H6::H7::H8::H9::I0::I1::I2::I3::I4::I5::I6::I7::I8::I9::J0::J1::J2::J3::J4::J5::J6::J7::J8::J9::L0::L1::L2::L3::L4::L5::L6::L7::L8::L9::M0::M1::M2::M3::M4::M5::M6::M7::M8::M9::N0::N1::N2::N3::N4::N5::N6::N7::N8::N9::O0::O1::O2::O3::O4::O5::O6::O7::O8::O9::[]) w)) w) :
  fm K (l0::e1::l2::e3::A2::own5::i6::id7::f8::n9::at10::A9::C0::C1::C2::C3::C4::C5::C6::C7::C8::C9::D0::D1::D2::D3::D4::D5::D6::D7::D8::D9::E0::E1::E2::E3::E4::E5::E6::E7::E8::E9::F0::F1::F2::F3::F4::F5::F6::F7::F8::F9::G0::G1::G2::G3::G4::G5::G6::G7::G8::G9::H0::H1::H2::H3::H4::H5::H6::H7::H8::H9::I0::I1::I2::I3::I4::I5::I6::I7::I8::I9::J0::J1::J2::J3::J4::J5::J6::J7::J8::J9::L0::L1::L2::L3::L4::L5::L6::L7::L8::L9::M0::M1::M2::M3::M4::M5::M6::M7::M8::M9::N0::N1::N2::N3::N4::N5::N6::N7::N8::N9::O0::O1::O2::O3::O4::O5::O6::O7::O8::O9::[]) w:=by
 refine aB (cd Tryz.f80 [1,1,0,1,0,0]) [5,6,11,12,13,14,15,16,17,18,19,20,21,22,23,24,25,26,27,28,29,30,31,32,33,34,35,36] (by kernel_rfl) (fun e2 w2=>Inv (gd e2 5) (gd e2 6) w2) (fun e2 w2=>μ (gd e2 5) (gd e2 6) w2) h0 ?_
 intro e' w' hI
 have h:=hs (gd e' 5) (gd e' 6) (fun i=>gd e' i) w' _ hI rfl
 refine Eq.mp (congrArg (fun c=>ac Q c _ _ _ _ w') (by kernel_rfl:(rep [1,0] (cd Tryz.f80 [1,1,0,1,0,0,1,0]) (cd Tryz.f80 [1,1,0,1,0,0]))=(cd Tryz.f80 [1,1,0,1,0,0]))) ?_
 revert h
 delta dV bW
 generalize (cd Tryz.f80 [1,1,0,1,0,0,1,0])=xc0
 generalize (aP K)=qc0
 exact fun h=>Eq.mp (by kernel_rfl) h
theorem lN {K:KV} {B1:KE} {w:World}
  (h:sti (aj l0) (fun D0=>sti (aa Q 79 D0 0) fun D1=>sti (aa Q 30 D1 3) fun D2=>sti (ld Q 27 D2) fun D3=>sti (af Q 27 D3 i6) fun D5=>sti (aa Q 38 D5 0) fun D6=>sti (ld Q 24 D6) fun D7=>sti (bin Q BinOp.shr 24 false true D7 (cu 40)) fun D8=>sti (aa Q 54 e3 0) fun D9=>sti (ld Q 3 D9) fun E0=>sti (conv Q 3 24 E0) fun E1=>sti (bin Q BinOp.eql 24 false false D8 E1) fun E2 w=>cond E2 (bin Q BinOp.add 3 false true own5 (ci 1) (fun E4=>bW K B1 (l0::e1::l2::e3::A2::E4::i6::id7::f8::n9::at10::A9::C0::C1::C2::C3::C4::C5::C6::C7::C8::l0::D0::D1::D2::D3::i6::D5::D6::D7::D8::D9::E0::E1::E2::own5::E4::E5::E6::E7::E8::E9::F0::F1::F2::F3::F4::F5::F6::F7::F8::F9::G0::G1::G2::G3::G4::G5::G6::G7::G8::G9::H0::H1::H2::H3::H4::H5::H6::H7::H8::H9::I0::I1::I2::I3::I4::I5::I6::I7::I8::I9::J0::J1::J2::J3::J4::J5::J6::J7::J8::J9::L0::L1::L2::L3::L4::L5::L6::L7::L8::L9::M0::M1::M2::M3::M4::M5::M6::M7::M8::M9::N0::N1::N2::N3::N4::N5::N6::N7::N8::N9::O0::O1::O2::O3::O4::O5::O6::O7::O8::O9::[])) w) (bW K B1 (l0::e1::l2::e3::A2::own5::i6::id7::f8::n9::at10::A9::C0::C1::C2::C3::C4::C5::C6::C7::C8::l0::D0::D1::D2::D3::i6::D5::D6::D7::D8::D9::E0::E1::E2::E3::E4::E5::E6::E7::E8::E9::F0::F1::F2::F3::F4::F5::F6::F7::F8::F9::G0::G1::G2::G3::G4::G5::G6::G7::G8::G9::H0::H1::H2::H3::H4::H5::H6::H7::H8::H9::I0::I1::I2::I3::I4::I5::I6::I7::I8::I9::J0::J1::J2::J3::J4::J5::J6::J7::J8::J9::L0::L1::L2::L3::L4::L5::L6::L7::L8::L9::M0::M1::M2::M3::M4::M5::M6::M7::M8::M9::N0::N1::N2::N3::N4::N5::N6::N7::N8::N9::O0::O1::O2::O3::O4::O5::O6::O7::O8::O9::[]) w)) w.drew) :
  dV K B1 (l0::e1::l2::e3::A2::own5::i6::id7::f8::n9::at10::A9::C0::C1::C2::C3::C4::C5::C6::C7::C8::C9::D0::D1::D2::D3::D4::D5::D6::D7::D8::D9::E0::E1::E2::E3::E4::E5::E6::E7::E8::E9::F0::F1::F2::F3::F4::F5::F6::F7::F8::F9::G0::G1::G2::G3::G4::G5::G6::G7::G8::G9::H0::H1::H2::H3::H4::H5::H6::H7::H8::H9::I0::I1::I2::I3::I4::I5::I6::I7::I8::I9::J0::J1::J2::J3::J4::J5::J6::J7::J8::J9::L0::L1::L2::L3::L4::L5::L6::L7::L8::L9::M0::M1::M2::M3::M4::M5::M6::M7::M8::M9::N0::N1::N2::N3::N4::N5::N6::N7::N8::N9::O0::O1::O2::O3::O4::O5::O6::O7::O8::O9::[]) w:=by
 delta dV
 revert h
 generalize (bW K B1)=qc0
 generalize (aP K)=qc1
 exact fun h=>Eq.mp (by kernel_rfl) h
theorem lO {K:KV} {w:World}
  (h:bin Q BinOp.geq 3 false true own5 (ci 5) (fun E6 w=>au E6 false (fun k40=>aa Q 54 e3 6 (fun E8=>ld Q 2 E8 fun E9=>bin Q BinOp.gtr 2 false true E9 (ci 140737488355328) fun F0=>k40 [E8,E9,F0]) w) (fun k=>k [undef,undef,undef] w) fun us40=>pick E6 cT (gd us40 2) fun F1 w=>cond F1 (K (ci 6) w) (aa Q 54 e3 0 (fun F2=>ld Q 3 F2 fun F3=>aa Q 54 e3 1 fun F4=>ld Q 24 F4 fun F5=>call Q 103 #[F3,F5] fun F6 w=>aX (fun S w=>hld S (aj l0) fun F8=>hld S (aa Q 79 F8 1) fun F9=>hld S (ld Q 75 F9) fun G0=>hld S (aa Q 54 e3 4) fun G2=>hld S (ld Q 24 G2) fun G3=>call Q 104 #[G0,F6,G3] (fun G4=>aX fun _=>bin Q BinOp.neq 49 false true G4 (ci 0) fun G6 w=>cond G6 (K G4 w) (aa Q 54 e3 4 (fun G9=>ld Q 24 G9 fun H0=>bld Q 38 #[(0,F6),(1,H0)] fun H1=>alc Q 38 fun n9=>sto Q 38 n9 H1 fun _=>dm K (l0::e1::l2::e3::A2::own5::i6::F6::G4::n9::at10::A9::C0::C1::C2::C3::C4::C5::C6::C7::C8::C9::D0::D1::D2::D3::D4::D5::D6::D7::D8::D9::E0::E1::E2::E3::E4::own5::E6::E6::(gd us40 0)::(gd us40 1)::(gd us40 2)::F1::F2::F3::F4::F5::F6::l0::F8::F9::G0::F6::G2::G3::G4::G4::G6::G7::F6::G9::H0::H1::H2::H3::H4::H5::H6::H7::H8::H9::I0::I1::I2::I3::I4::I5::I6::I7::I8::I9::J0::J1::J2::J3::J4::J5::J6::J7::J8::J9::L0::L1::L2::L3::L4::L5::L6::L7::L8::L9::M0::M1::M2::M3::M4::M5::M6::M7::M8::M9::N0::N1::N2::N3::N4::N5::N6::N7::N8::N9::O0::O1::O2::O3::O4::O5::O6::O7::O8::O9::[])) w)) w) w.drew) w)) w) :
  aP K (l0::e1::l2::e3::A2::own5::i6::id7::f8::n9::at10::A9::C0::C1::C2::C3::C4::C5::C6::C7::C8::C9::D0::D1::D2::D3::D4::D5::D6::D7::D8::D9::E0::E1::E2::E3::E4::E5::E6::E7::E8::E9::F0::F1::F2::F3::F4::F5::F6::F7::F8::F9::G0::G1::G2::G3::G4::G5::G6::G7::G8::G9::H0::H1::H2::H3::H4::H5::H6::H7::H8::H9::I0::I1::I2::I3::I4::I5::I6::I7::I8::I9::J0::J1::J2::J3::J4::J5::J6::J7::J8::J9::L0::L1::L2::L3::L4::L5::L6::L7::L8::L9::M0::M1::M2::M3::M4::M5::M6::M7::M8::M9::N0::N1::N2::N3::N4::N5::N6::N7::N8::N9::O0::O1::O2::O3::O4::O5::O6::O7::O8::O9::[]) w:=by
 delta aP
 refine Eq.mp (congrArg (fun c=>ac Q c _ _ _ _ w) (by kernel_rfl:(rep [1,1,1,1,1] (cd Tryz.f80 [1,1,1,1,1,1,1,1]) (cd Tryz.f80 [1,1,1]))=(cd Tryz.f80 [1,1,1]))) ?_
 revert h
 delta dm
 generalize (cd Tryz.f80 [1,1,1,1,1,1,1,1])=xc0
 exact fun h=>Eq.mp (by kernel_rfl) h
theorem iG {K:KV} {B1:KE} {w:World}
  (h:bin Q BinOp.add 3 false true i6 (ci 1) (fun C8=>B1 (l0::e1::l2::e3::A2::own5::C8::id7::f8::n9::at10::A9::C0::C1::C2::C3::C4::C5::C6::i6::C8::C9::D0::D1::D2::D3::D4::D5::D6::D7::D8::D9::E0::E1::E2::E3::E4::E5::E6::E7::E8::E9::F0::F1::F2::F3::F4::F5::F6::F7::F8::F9::G0::G1::G2::G3::G4::G5::G6::G7::G8::G9::H0::H1::H2::H3::H4::H5::H6::H7::H8::H9::I0::I1::I2::I3::I4::I5::I6::I7::I8::I9::J0::J1::J2::J3::J4::J5::J6::J7::J8::J9::L0::L1::L2::L3::L4::L5::L6::L7::L8::L9::M0::M1::M2::M3::M4::M5::M6::M7::M8::M9::N0::N1::N2::N3::N4::N5::N6::N7::N8::N9::O0::O1::O2::O3::O4::O5::O6::O7::O8::O9::[])) w) :
  bW K B1 (l0::e1::l2::e3::A2::own5::i6::id7::f8::n9::at10::A9::C0::C1::C2::C3::C4::C5::C6::C7::C8::C9::D0::D1::D2::D3::D4::D5::D6::D7::D8::D9::E0::E1::E2::E3::E4::E5::E6::E7::E8::E9::F0::F1::F2::F3::F4::F5::F6::F7::F8::F9::G0::G1::G2::G3::G4::G5::G6::G7::G8::G9::H0::H1::H2::H3::H4::H5::H6::H7::H8::H9::I0::I1::I2::I3::I4::I5::I6::I7::I8::I9::J0::J1::J2::J3::J4::J5::J6::J7::J8::J9::L0::L1::L2::L3::L4::L5::L6::L7::L8::L9::M0::M1::M2::M3::M4::M5::M6::M7::M8::M9::N0::N1::N2::N3::N4::N5::N6::N7::N8::N9::O0::O1::O2::O3::O4::O5::O6::O7::O8::O9::[]) w:=by
 delta bW
 revert h
 generalize (aP K)=qc0
 exact fun h=>Eq.mp (by kernel_rfl) h
theorem lP {K:KV} {w:World}
  (h:aa Q 54 e3 0 (fun H2=>ld Q 3 H2 fun H3=>bin Q BinOp.sub 3 false true H3 (ci 1) fun H4=>aa Q 54 e3 6 fun H5=>ld Q 2 H5 fun H6=>aa Q 38 n9 2 fun H7=>aa Q 36 H7 0 fun H8=>af Q 33 H8 H4 fun H9=>sto Q 2 H9 H6 fun _=>aj l0 fun I1=>aa Q 79 I1 0 fun I2=>aa Q 30 I2 3 fun I3=>ld Q 27 I3 fun I4=>blt Q Builtin.len #[27] 3 #[false] #[I4] fun I5 w=>aX (fun S w=>hld S (aj l0) fun I8=>hld S (aa Q 79 I8 0) fun I9=>hld S (aa Q 30 I9 3) fun J0=>hld S (ld Q 27 J0) fun J1=>hld S (ld Q 38 n9) fun J2=>aJ Q 27 1 #[(0,J2)] (fun J3=>dB S fun _=>blt Q Builtin.append #[27,27] 27 #[false,false] #[J1,J3] fun J4=>aX fun S w=>hld S (aj l0) fun J5=>hld S (aa Q 79 J5 0) fun J6=>hld S (aa Q 30 J6 3) fun J7=>sto Q 27 J7 J4 (fun _=>dW K (l0::e1::l2::e3::A2::own5::i6::id7::f8::n9::I5::A9::C0::C1::C2::C3::C4::C5::C6::C7::C8::C9::D0::D1::D2::D3::D4::D5::D6::D7::D8::D9::E0::E1::E2::E3::E4::E5::E6::E7::E8::E9::F0::F1::F2::F3::F4::F5::F6::F7::F8::F9::G0::G1::G2::G3::G4::G5::G6::G7::G8::G9::H0::H1::H2::H3::H4::H5::H6::H7::H8::H9::l0::I1::I2::I3::I4::I5::l0::l0::I8::I9::J0::J1::J2::J3::J4::J5::J6::J7::J8::J9::L0::L1::L2::L3::L4::L5::L6::L7::L8::L9::M0::M1::M2::M3::M4::M5::M6::M7::M8::M9::N0::N1::N2::N3::N4::N5::N6::N7::N8::N9::O0::O1::O2::O3::O4::O5::O6::O7::O8::O9::[])) w) w) w.drew) w) :
  dm K (l0::e1::l2::e3::A2::own5::i6::id7::f8::n9::at10::A9::C0::C1::C2::C3::C4::C5::C6::C7::C8::C9::D0::D1::D2::D3::D4::D5::D6::D7::D8::D9::E0::E1::E2::E3::E4::E5::E6::E7::E8::E9::F0::F1::F2::F3::F4::F5::F6::F7::F8::F9::G0::G1::G2::G3::G4::G5::G6::G7::G8::G9::H0::H1::H2::H3::H4::H5::H6::H7::H8::H9::I0::I1::I2::I3::I4::I5::I6::I7::I8::I9::J0::J1::J2::J3::J4::J5::J6::J7::J8::J9::L0::L1::L2::L3::L4::L5::L6::L7::L8::L9::M0::M1::M2::M3::M4::M5::M6::M7::M8::M9::N0::N1::N2::N3::N4::N5::N6::N7::N8::N9::O0::O1::O2::O3::O4::O5::O6::O7::O8::O9::[]) w:=by
 delta dm
 refine Eq.mp (congrArg (fun c=>ac Q c _ _ _ _ w) (by kernel_rfl:(rep [1,1,1] (cd Tryz.f80 [1,1,1,1,1,1,1,1,1,1,1]) (cd Tryz.f80 [1,1,1,1,1,1,1,1]))=(cd Tryz.f80 [1,1,1,1,1,1,1,1]))) ?_
 revert h
 delta dW
 generalize (cd Tryz.f80 [1,1,1,1,1,1,1,1,1,1,1])=xc0
 exact fun h=>Eq.mp (by kernel_rfl) h
theorem lQ {K:KV} {w:World}
  (h:fo K (l0::e1::l2::e3::A2::own5::i6::id7::f8::n9::at10::A9::C0::C1::C2::C3::C4::C5::C6::C7::C8::C9::D0::D1::D2::D3::D4::D5::D6::D7::D8::D9::E0::E1::E2::E3::E4::E5::E6::E7::E8::E9::F0::F1::F2::F3::F4::F5::F6::F7::F8::F9::G0::G1::G2::G3::G4::G5::G6::G7::G8::G9::H0::H1::H2::H3::H4::H5::H6::H7::H8::H9::I0::I1::I2::I3::I4::I5::I6::I7::I8::I9::J0::J1::J2::J3::J4::J5::J6::J7::J8::J9::L0::L1::L2::L3::L4::L5::L6::L7::L8::L9::M0::M1::M2::M3::M4::M5::M6::M7::M8::M9::N0::N1::N2::N3::N4::N5::N6::N7::N8::N9::O0::O1::O2::O3::O4::O5::O6::O7::O8::O9::[]) w) :
  dW K (l0::e1::l2::e3::A2::own5::i6::id7::f8::n9::at10::A9::C0::C1::C2::C3::C4::C5::C6::C7::C8::C9::D0::D1::D2::D3::D4::D5::D6::D7::D8::D9::E0::E1::E2::E3::E4::E5::E6::E7::E8::E9::F0::F1::F2::F3::F4::F5::F6::F7::F8::F9::G0::G1::G2::G3::G4::G5::G6::G7::G8::G9::H0::H1::H2::H3::H4::H5::H6::H7::H8::H9::I0::I1::I2::I3::I4::I5::I6::I7::I8::I9::J0::J1::J2::J3::J4::J5::J6::J7::J8::J9::L0::L1::L2::L3::L4::L5::L6::L7::L8::L9::M0::M1::M2::M3::M4::M5::M6::M7::M8::M9::N0::N1::N2::N3::N4::N5::N6::N7::N8::N9::O0::O1::O2::O3::O4::O5::O6::O7::O8::O9::[]) w:=by
 delta dW
 revert h
 delta fo bH
 exact fun h=>Eq.mp (by kernel_rfl) h
theorem lR {K:KV} {w:World} (Inv:Value→Value→Value→Value→Value→Value→Value→Value→Value→Value→Value→Value→Value→World→Prop) (μ:Value→Value→Value→Value→Value→Value→Value→Value→Value→Value→Value→Value→Value→World→Nat) (h0:Inv at10 L1 L2 L3 L4 L5 L6 L7 L8 L9 M0 M1 M2 w)
  (hs:∀ (at10' L1' L2' L3' L4' L5' L6' L7' L8' L9' M0' M1' M2':Value) (dd:Nat→Value) (w:World) (m:Nat),Inv at10' L1' L2' L3' L4' L5' L6' L7' L8' L9' M0' M1' M2' w→m=μ at10' L1' L2' L3' L4' L5' L6' L7' L8' L9' M0' M1' M2' w →
  bin Q BinOp.gtr 3 false true at10' (ci 0) (fun J9 w=>au J9 true (fun k93=>aj l0 (fun L2=>aa Q 79 L2 0 fun L3=>aa Q 30 L3 3 fun L4=>ld Q 27 L4 fun L5=>bin Q BinOp.sub 3 false true at10' (ci 1) fun L7=>af Q 27 L5 L7 fun L8=>aa Q 38 L8 0 fun L9=>ld Q 24 L9 fun M0=>bin Q BinOp.gtr 24 false false M0 id7 fun M2=>k93 [l0,L2,L3,L4,L5,at10',L7,L8,L9,M0,id7,M2]) w) (fun k=>k [undef,undef,undef,undef,undef,undef,undef,undef,undef,undef,undef,undef] w) fun us93=>pick J9 (gd us93 11) cF fun M3 w=>cond M3 (sti (aj l0) (fun M5=>sti (aa Q 79 M5 0) fun M6=>sti (aa Q 30 M6 3) fun M7=>sti (ld Q 27 M7) fun M8=>sti (aj l0) fun N1=>sti (aa Q 79 N1 0) fun N2=>sti (aa Q 30 N2 3) fun N3=>sti (ld Q 27 N3) fun N4=>sti (bin Q BinOp.sub 3 false true at10' (ci 1)) fun N6=>sti (af Q 27 N4 N6) fun N7=>sti (ld Q 38 N7) fun N8=>sti (af Q 27 M8 at10') fun N9=>sto Q 38 N9 N8 fun _=>bin Q BinOp.sub 3 false true at10' (ci 1) fun O1 w=>(Inv O1 (gd us93 0) (gd us93 1) (gd us93 2) (gd us93 3) (gd us93 4) (gd us93 5) (gd us93 6) (gd us93 7) (gd us93 8) (gd us93 9) (gd us93 10) (gd us93 11) w)∧((μ O1 (gd us93 0) (gd us93 1) (gd us93 2) (gd us93 3) (gd us93 4) (gd us93 5) (gd us93 6) (gd us93 7) (gd us93 8) (gd us93 9) (gd us93 10) (gd us93 11) w)<m)) w.drew) (bH K (l0::e1::l2::e3::A2::own5::i6::id7::f8::n9::at10'::A9::C0::C1::C2::C3::C4::C5::C6::C7::C8::C9::D0::D1::D2::D3::D4::D5::D6::D7::D8::D9::E0::E1::E2::E3::E4::E5::E6::E7::E8::E9::F0::F1::F2::F3::F4::F5::F6::F7::F8::F9::G0::G1::G2::G3::G4::G5::G6::G7::G8::G9::H0::H1::H2::H3::H4::H5::H6::H7::H8::H9::I0::I1::I2::I3::I4::I5::I6::I7::I8::I9::J0::J1::J2::J3::J4::J5::J6::J7::at10'::J9::J9::(gd us93 0)::(gd us93 1)::(gd us93 2)::(gd us93 3)::(gd us93 4)::(gd us93 5)::(gd us93 6)::(gd us93 7)::(gd us93 8)::(gd us93 9)::(gd us93 10)::(gd us93 11)::M3::(dd 106)::(dd 107)::(dd 108)::(dd 109)::(dd 110)::(dd 111)::(dd 112)::(dd 113)::(dd 114)::(dd 115)::(dd 116)::(dd 117)::(dd 118)::(dd 119)::(dd 120)::(dd 121)::(dd 122)::(dd 123)::O2::O3::O4::O5::O6::O7::O8::O9::[]) w)) w) :
  fo K (l0::e1::l2::e3::A2::own5::i6::id7::f8::n9::at10::A9::C0::C1::C2::C3::C4::C5::C6::C7::C8::C9::D0::D1::D2::D3::D4::D5::D6::D7::D8::D9::E0::E1::E2::E3::E4::E5::E6::E7::E8::E9::F0::F1::F2::F3::F4::F5::F6::F7::F8::F9::G0::G1::G2::G3::G4::G5::G6::G7::G8::G9::H0::H1::H2::H3::H4::H5::H6::H7::H8::H9::I0::I1::I2::I3::I4::I5::I6::I7::I8::I9::J0::J1::J2::J3::J4::J5::J6::J7::J8::J9::L0::L1::L2::L3::L4::L5::L6::L7::L8::L9::M0::M1::M2::M3::M4::M5::M6::M7::M8::M9::N0::N1::N2::N3::N4::N5::N6::N7::N8::N9::O0::O1::O2::O3::O4::O5::O6::O7::O8::O9::[]) w:=by
 refine aB (cd Tryz.f80 [1,1,1,1,1,1,1,1,1,1,1,0,0,0]) [10,90,91,92,93,94,95,96,97,98,99,100,101,102,103,104,105,106,107,108,109,110,111,112,113,114,115,116,117,118,119,120,121,122,123] (by kernel_rfl) (fun e2 w2=>Inv (gd e2 10) (gd e2 93) (gd e2 94) (gd e2 95) (gd e2 96) (gd e2 97) (gd e2 98) (gd e2 99) (gd e2 100) (gd e2 101) (gd e2 102) (gd e2 103) (gd e2 104) w2) (fun e2 w2=>μ (gd e2 10) (gd e2 93) (gd e2 94) (gd e2 95) (gd e2 96) (gd e2 97) (gd e2 98) (gd e2 99) (gd e2 100) (gd e2 101) (gd e2 102) (gd e2 103) (gd e2 104) w2) h0 ?_
 intro e' w' hI
 have h:=hs (gd e' 10) (gd e' 93) (gd e' 94) (gd e' 95) (gd e' 96) (gd e' 97) (gd e' 98) (gd e' 99) (gd e' 100) (gd e' 101) (gd e' 102) (gd e' 103) (gd e' 104) (fun i=>gd e' i) w' _ hI rfl
 revert h
 generalize (bH K)=qc0
 exact fun h=>Eq.mp (by kernel_rfl) h
theorem lS {K:KV} {w:World}
  (h:sti (aj l0) (fun O3=>sti (aa Q 79 O3 0) fun O4=>sti (aa Q 30 O4 3) fun O5=>sti (ld Q 27 O5) fun O6=>sti (ld Q 38 n9) fun O8=>sti (af Q 27 O6 at10) fun O9=>sto Q 38 O9 O8 fun _=>K (ci 0)) w.drew) :
  bH K (l0::e1::l2::e3::A2::own5::i6::id7::f8::n9::at10::A9::C0::C1::C2::C3::C4::C5::C6::C7::C8::C9::D0::D1::D2::D3::D4::D5::D6::D7::D8::D9::E0::E1::E2::E3::E4::E5::E6::E7::E8::E9::F0::F1::F2::F3::F4::F5::F6::F7::F8::F9::G0::G1::G2::G3::G4::G5::G6::G7::G8::G9::H0::H1::H2::H3::H4::H5::H6::H7::H8::H9::I0::I1::I2::I3::I4::I5::I6::I7::I8::I9::J0::J1::J2::J3::J4::J5::J6::J7::J8::J9::L0::L1::L2::L3::L4::L5::L6::L7::L8::L9::M0::M1::M2::M3::M4::M5::M6::M7::M8::M9::N0::N1::N2::N3::N4::N5::N6::N7::N8::N9::O0::O1::O2::O3::O4::O5::O6::O7::O8::O9::[]) w:=by
 delta bH
 revert h
 exact fun h=>Eq.mp (by kernel_rfl) h
attribute [irreducible] aP fm bW dV dm dW bH fo
def aL (K:KV):KE:=ac Q (cd Tryz.f82 [1,1,1,1,1]) (rk Tryz.f82 K) xf (rk Tryz.f82 K)
def dX (K:KV):KE:=ac Q (cd Tryz.f82 [1,1,1,1,0,1,0]) (aL K) (xx xf (aL K) 0) (rk Tryz.f82 K)
def bX (K:KV) (B1:KE):KE:=ac Q (cd Tryz.f82 [1,1,1,1,0,1,0,0,1,1]) B1 (xx xf (aL K) 0) (rk Tryz.f82 K)
def bY (K:KV) (B1:KE):KE:=ac Q (cd Tryz.f82 [1,1,1,1,0,1,0,0,1,0,0,1,1]) (bX K B1) (xx (xx xf (aL K) 0) (bX K B1) 1) (rk Tryz.f82 K)
def dY (K:KV):KE:=ac Q (cd Tryz.f82 [1,1,1,1,1,1,1,1]) (rk Tryz.f82 K) xf (rk Tryz.f82 K)
def bx (K:KV):KE:=ac Q (cd Tryz.f82 [1,1,1,1,1,1,1,1,1]) (rk Tryz.f82 K) xf (rk Tryz.f82 K)
def fp (K:KV):KE:=ac Q (cd Tryz.f82 [1,1,1,1,1,1,1,1,0,0]) (bx K) (xx xf (bx K) 2) (rk Tryz.f82 K)
end
theorem mV {K:KV} {l0 e1:Value} {w:World}
  (h:box Q 54 e1 (fun e3=>aa Q 54 e3 0 fun C1=>ld Q 3 C1 fun C2=>aa Q 54 e3 7 fun C3=>ld Q 24 C3 fun C4=>call Q 105 #[l0,C2,C4] fun C5 w=>cond C5 (K (ci 14) w) (aX (fun S w=>hld S (aj l0) fun C7=>hld S (aa Q 79 C7 1) fun C8=>hld S (ld Q 75 C8) fun C9=>hld S (aa Q 54 e3 4) fun D0=>hld S (ld Q 24 D0) fun D1=>call Q 106 #[C9,D1] (fun D2=>aX fun _=>blt Q Builtin.len #[76] 3 #[false] #[D2] fun D4=>bin Q BinOp.eql 3 false true D4 (ci 0) fun D5 w=>cond D5 (K (ci 9) w) (dX K (l0::e1::undef::e3::(ci 0)::D2::(ci 0)::undef::undef::undef::undef::undef::l0::C1::C2::C3::C4::C5::l0::C7::C8::C9::D0::D1::D2::D2::D4::D5::undef::undef::undef::undef::undef::undef::undef::undef::undef::undef::undef::undef::undef::undef::undef::undef::undef::undef::undef::undef::undef::undef::undef::undef::undef::undef::undef::undef::undef::undef::undef::undef::undef::undef::undef::undef::undef::undef::undef::undef::undef::undef::undef::undef::undef::undef::undef::undef::undef::undef::undef::undef::undef::undef::undef::undef::undef::undef::undef::undef::undef::undef::undef::undef::undef::undef::undef::undef::undef::undef::undef::undef::undef::undef::undef::undef::undef::undef::undef::undef::undef::undef::undef::undef::undef::undef::undef::undef::undef::undef::undef::undef::undef::undef::undef::undef::undef::undef::undef::undef::undef::undef::undef::undef::undef::undef::undef::undef::undef::undef::undef::undef::undef::undef::undef::undef::undef::undef::undef::undef::undef::undef::undef::undef::undef::undef::undef::undef::undef::undef::undef::undef::undef::undef::undef::undef::undef::undef::undef::undef::undef::undef::undef::undef::undef::undef::undef::undef::undef::undef::undef::undef::undef::undef::undef::undef::undef::undef::undef::undef::[]) w)) w) w.drew)) w) :
  Gives Q 82 #[l0,e1] w K:=by
 refine aK Tryz.func82 (by kernel_rfl) ?_
 revert h
 delta dX aL
 exact fun h=>Eq.mp (by kernel_rfl) h
theorem mW:bD Q 82:=⟨_,Tryz.func82,by kernel_rfl,by kernel_rfl⟩
section
variable {l0 e1 l2 e3 A2 p5 i6 k_7 r8 f9 g10 at11 C0 C1 C2 C3 C4 C5 C6 C7 C8 C9 D0 D1 D2 D3 D4 D5 D6 D7 D8 D9 E0 E1 E2 E3 E4 E5 E6 E7 E8 E9 F0 F1 F2 F3 F4 F5 F6 F7 F8 F9 G0 G1 G2 G3 G4 G5 G6 G7 G8 G9 H0 H1 H2 H3 H4 H5 H6 H7 H8 H9 I0 I1 I2 I3 I4 I5 I6 I7 I8 I9 J0 J1 J2 J3 J4 J5 J6 J7 J8 J9 L0 L1 L2 L3 L4 L5 L6 L7 L8 L9 M0 M1 M2 M3 M4 M5 M6 M7 M8 M9 N0 N1 N2 N3 N4 N5 N6 N7 N8 N9 O0 O1 O2 O3 O4 O5 O6 O7 O8 O9 P0 P1 P2 P3 P4 P5 P6 P7 P8 P9 Q0 Q1 Q2 Q3 Q4 Q5 Q6 Q7 Q8 Q9 R0 R1 R2 R3 R4 R5 R6 R7 R8 R9 S0 S1 S2 S3 S4 S5 S6 S7 S8 S9 T0 T1 T2 T3 T4 T5 T6 T7 T8 T9 U0 U1 U2 U3 U4 U5:Value}
theorem lT {K:KV} {w:World} (Inv:Value→World→Prop) (μ:Value→World→Nat) (h0:Inv i6 w)
  (hs:∀ (i6':Value) (dd:Nat→Value) (w:World) (m:Nat),Inv i6' w→m=μ i6' w →
  blt Q Builtin.len #[76] 3 #[false] #[p5] (fun D8=>bin Q BinOp.lss 3 false false i6' D8 fun D9 w=>cond D9 (af Q 76 p5 i6' (fun E5=>ld Q 24 E5 fun E6=>call Q 81 #[l0,E6] fun E7 w=>aX (fun S w=>hld S (aj l0) fun F0=>hld S (aa Q 79 F0 0) fun F1=>hld S (aa Q 30 F1 3) fun F2=>hld S (ld Q 27 F2) fun F3=>hld S (af Q 27 F3 E7) fun F5=>hld S (aa Q 38 F5 2) fun F6=>hld S (ld Q 36 F6) fun F7=>hld S (aa Q 54 e3 0) fun F8=>hld S (ld Q 3 F8) fun F9=>hld S (aa Q 54 e3 6) fun G0=>hld S (ld Q 2 G0) fun G1=>(call Q 107 #[F7,F9,G1] (fun G2=>aX fun S w=>hld S (ext Q G2 0) fun G3=>hld S (ext Q G2 1) fun G4=>alc Q 36 (fun r8=>dB S fun S=>sto Q 36 r8 G3 fun _=>dB S fun _=>bY K (fun e2 w2=>(Inv (gd e2 6) w2)∧((μ (gd e2 6) w2)<m)) (l0::e1::l2::e3::(dd 4)::p5::i6'::E7::r8::G4::g10::at11::C0::C1::C2::C3::C4::C5::C6::C7::C8::C9::D0::D1::D2::D3::D4::D5::i6'::p5::D8::D9::(dd 32)::(dd 33)::l0::p5::i6'::E5::E6::E7::G2::l0::F0::F1::F2::F3::E7::F5::F6::F7::F8::F9::G0::G1::G2::G3::G4::(dd 57)::(dd 58)::(dd 59)::(dd 60)::(dd 61)::(dd 62)::(dd 63)::(dd 64)::(dd 65)::(dd 66)::(dd 67)::(dd 68)::H7::H8::H9::I0::I1::I2::I3::I4::I5::I6::I7::I8::I9::J0::J1::J2::J3::J4::J5::J6::J7::J8::J9::L0::L1::L2::L3::L4::L5::L6::L7::L8::L9::M0::M1::M2::M3::M4::M5::M6::M7::M8::M9::N0::N1::N2::N3::N4::N5::N6::N7::N8::N9::O0::O1::O2::O3::O4::O5::O6::O7::O8::O9::P0::P1::P2::P3::P4::P5::P6::P7::P8::P9::Q0::Q1::Q2::Q3::Q4::Q5::Q6::Q7::Q8::Q9::R0::R1::R2::R3::R4::R5::R6::R7::R8::R9::S0::S1::S2::S3::S4::S5::S6::S7::S8::S9::T0::T1::T2::T3::T4::T5::T6::T7::T8::T9::U0::U1::U2::U3::U4::U5::[])) w) w)∧(alc Q 36 (fun r8=>dB S fun _=>call Q 107 #[F7,F9,G1] fun G2=>aX fun S w=>hld S (ext Q G2 0) fun G3=>hld S (ext Q G2 1) fun G4=>sto Q 36 r8 G3 (fun _=>dB S fun _=>bY K (fun e2 w2=>(Inv (gd e2 6) w2)∧((μ (gd e2 6) w2)<m)) (l0::e1::l2::e3::(dd 4)::p5::i6'::E7::r8::G4::g10::at11::C0::C1::C2::C3::C4::C5::C6::C7::C8::C9::D0::D1::D2::D3::D4::D5::i6'::p5::D8::D9::(dd 32)::(dd 33)::l0::p5::i6'::E5::E6::E7::G2::l0::F0::F1::F2::F3::E7::F5::F6::F7::F8::F9::G0::G1::G2::G3::G4::(dd 57)::(dd 58)::(dd 59)::(dd 60)::(dd 61)::(dd 62)::(dd 63)::(dd 64)::(dd 65)::(dd 66)::(dd 67)::(dd 68)::H7::H8::H9::I0::I1::I2::I3::I4::I5::I6::I7::I8::I9::J0::J1::J2::J3::J4::J5::J6::J7::J8::J9::L0::L1::L2::L3::L4::L5::L6::L7::L8::L9::M0::M1::M2::M3::M4::M5::M6::M7::M8::M9::N0::N1::N2::N3::N4::N5::N6::N7::N8::N9::O0::O1::O2::O3::O4::O5::O6::O7::O8::O9::P0::P1::P2::P3::P4::P5::P6::P7::P8::P9::Q0::Q1::Q2::Q3::Q4::Q5::Q6::Q7::Q8::Q9::R0::R1::R2::R3::R4::R5::R6::R7::R8::R9::S0::S1::S2::S3::S4::S5::S6::S7::S8::S9::T0::T1::T2::T3::T4::T5::T6::T7::T8::T9::U0::U1::U2::U3::U4::U5::[])) w) w)) w.drew) w) (aL K (l0::e1::l2::e3::(dd 4)::p5::i6'::(dd 7)::(dd 8)::(dd 9)::g10::at11::C0::C1::C2::C3::C4::C5::C6::C7::C8::C9::D0::D1::D2::D3::D4::D5::i6'::p5::D8::D9::(dd 32)::(dd 33)::(dd 34)::(dd 35)::(dd 36)::(dd 37)::(dd 38)::(dd 39)::(dd 40)::(dd 41)::(dd 42)::(dd 43)::(dd 44)::(dd 45)::(dd 46)::(dd 47)::(dd 48)::(dd 49)::(dd 50)::(dd 51)::(dd 52)::(dd 53)::(dd 54)::(dd 55)::(dd 56)::(dd 57)::(dd 58)::(dd 59)::(dd 60)::(dd 61)::(dd 62)::(dd 63)::(dd 64)::(dd 65)::(dd 66)::(dd 67)::(dd 68)::H7::H8::H9::I0::I1::I2::I3::I4::I5::I6::I7::I8::I9::J0::J1::J2::J3::J4::J5::J6::J7::J8::J9::L0::L1::L2::L3::L4::L5::L6::L7::L8::L9::M0::M1::M2::M3::M4::M5::M6::M7::M8::M9::N0::N1::N2::N3::N4::N5::N6::N7::N8::N9::O0::O1::O2::O3::O4::O5::O6::O7::O8::O9::P0::P1::P2::P3::P4::P5::P6::P7::P8::P9::Q0::Q1::Q2::Q3::Q4::Q5::Q6::Q7::Q8::Q9::R0::R1::R2::R3::R4::R5::R6::R7::R8::R9::S0::S1::S2::S3::S4::S5::S6::S7::S8::S9::T0::T1::T2::T3::T4::T5::T6::T7::T8::T9::U0::U1::U2::U3::U4::U5::[]) w)) w) :
  dX K (l0::e1::l2::e3::A2::p5::i6::k_7::r8::f9::g10::at11::C0::C1::C2::C3::C4::C5::C6::C7::C8::C9::D0::D1::D2::D3::D4::D5::D6::D7::D8::D9::E0::E1::E2::E3::E4::E5::E6::E7::E8::E9::F0::F1::F2::F3::F4::F5::F6::F7::F8::F9::G0::G1::G2::G3::G4::G5::G6::G7::G8::G9::H0::H1::H2::H3::H4::H5::H6::H7::H8::H9::I0::I1::I2::I3::I4::I5::I6::I7::I8::I9::J0::J1::J2::J3::J4::J5::J6::J7::J8::J9::L0::L1::L2::L3::L4::L5::L6::L7::L8::L9::M0::M1::M2::M3::M4::M5::M6::M7::M8::M9::N0::N1::N2::N3::N4::N5::N6::N7::N8::N9::O0::O1::O2::O3::O4::O5::O6::O7::O8::O9::P0::P1::P2::P3::P4::P5::P6::P7::P8::P9::Q0::Q1::Q2::Q3::Q4::Q5::Q6::Q7::Q8::Q9::R0::R1::R2::R3::R4::R5::R6::R7::R8::R9::S0::S1::S2::S3::S4::S5::S6::S7::S8::S9::T0::T1::T2::T3::T4::T5::T6::T7::T8::T9::U0::U1::U2::U3::U4::U5::[]) w:=by
 refine aB (cd Tryz.f82 [1,1,1,1,0,1,0,0]) [4,6,7,8,9,28,29,30,31,32,33,34,35,36,37,38,39,40,41,42,43,44,45,46,47,48,49,50,51,52,53,54,55,56,57,58,59,60,61,62,63,64,65,66,67,68] (by kernel_rfl) (fun e2 w2=>Inv (gd e2 6) w2) (fun e2 w2=>μ (gd e2 6) w2) h0 ?_
 intro e' w' hI
 have h:=hs (gd e' 6) (fun i=>gd e' i) w' _ hI rfl
 refine Eq.mp (congrArg (fun c=>ac Q c _ _ _ _ w') (by kernel_rfl:(rep [1,0,0,1,1] (cd Tryz.f82 [1,1,1,1,0,1,0,0,1,0,0,1,1]) (cd Tryz.f82 [1,1,1,1,0,1,0,0]))=(cd Tryz.f82 [1,1,1,1,0,1,0,0]))) ?_
 revert h
 delta bY bX
 generalize (cd Tryz.f82 [1,1,1,1,0,1,0,0,1,0,0,1,1])=xc0
 generalize (aL K)=qc0
 exact fun h=>Eq.mp (by kernel_rfl) h
theorem lU {K:KV} {B1:KE} {w:World}
  (h:bin Q BinOp.neq 49 false true f9 (ci 0) (fun G6 w=>cond G6 (K f9 w) (sti (aj l0) (fun G9=>sti (aa Q 79 G9 0) fun H0=>sti (aa Q 30 H0 3) fun H1=>sti (ld Q 27 H1) fun H2=>sti (ld Q 36 r8) fun H4=>sti (af Q 27 H2 k_7) fun H5=>sti (aa Q 38 H5 2) fun H6=>sto Q 36 H6 H4 fun _=>bX K B1 (l0::e1::l2::e3::A2::p5::i6::k_7::r8::f9::g10::at11::C0::C1::C2::C3::C4::C5::C6::C7::C8::C9::D0::D1::D2::D3::D4::D5::D6::D7::D8::D9::E0::E1::E2::E3::E4::E5::E6::E7::E8::E9::F0::F1::F2::F3::F4::F5::F6::F7::F8::F9::G0::G1::G2::G3::G4::f9::G6::G7::l0::G9::H0::H1::H2::k_7::H4::H5::H6::H7::H8::H9::I0::I1::I2::I3::I4::I5::I6::I7::I8::I9::J0::J1::J2::J3::J4::J5::J6::J7::J8::J9::L0::L1::L2::L3::L4::L5::L6::L7::L8::L9::M0::M1::M2::M3::M4::M5::M6::M7::M8::M9::N0::N1::N2::N3::N4::N5::N6::N7::N8::N9::O0::O1::O2::O3::O4::O5::O6::O7::O8::O9::P0::P1::P2::P3::P4::P5::P6::P7::P8::P9::Q0::Q1::Q2::Q3::Q4::Q5::Q6::Q7::Q8::Q9::R0::R1::R2::R3::R4::R5::R6::R7::R8::R9::S0::S1::S2::S3::S4::S5::S6::S7::S8::S9::T0::T1::T2::T3::T4::T5::T6::T7::T8::T9::U0::U1::U2::U3::U4::U5::[])) w.drew)) w) :
  bY K B1 (l0::e1::l2::e3::A2::p5::i6::k_7::r8::f9::g10::at11::C0::C1::C2::C3::C4::C5::C6::C7::C8::C9::D0::D1::D2::D3::D4::D5::D6::D7::D8::D9::E0::E1::E2::E3::E4::E5::E6::E7::E8::E9::F0::F1::F2::F3::F4::F5::F6::F7::F8::F9::G0::G1::G2::G3::G4::G5::G6::G7::G8::G9::H0::H1::H2::H3::H4::H5::H6::H7::H8::H9::I0::I1::I2::I3::I4::I5::I6::I7::I8::I9::J0::J1::J2::J3::J4::J5::J6::J7::J8::J9::L0::L1::L2::L3::L4::L5::L6::L7::L8::L9::M0::M1::M2::M3::M4::M5::M6::M7::M8::M9::N0::N1::N2::N3::N4::N5::N6::N7::N8::N9::O0::O1::O2::O3::O4::O5::O6::O7::O8::O9::P0::P1::P2::P3::P4::P5::P6::P7::P8::P9::Q0::Q1::Q2::Q3::Q4::Q5::Q6::Q7::Q8::Q9::R0::R1::R2::R3::R4::R5::R6::R7::R8::R9::S0::S1::S2::S3::S4::S5::S6::S7::S8::S9::T0::T1::T2::T3::T4::T5::T6::T7::T8::T9::U0::U1::U2::U3::U4::U5::[]) w:=by
 delta bY
 revert h
 generalize (bX K B1)=qc0
 generalize (aL K)=qc1
 exact fun h=>Eq.mp (by kernel_rfl) h
theorem lV {K:KV} {w:World}
  (h:aa Q 54 e3 0 (fun H7=>ld Q 3 H7 fun H8=>aa Q 54 e3 7 fun H9=>ld Q 24 H9 fun I0=>aa Q 54 e3 4 fun I1=>ld Q 24 I1 fun I2=>aa Q 54 e3 6 fun I3=>ld Q 2 I3 fun I4=>bld Q 100 #[(0,H8),(1,I0),(2,I2),(3,I4)] fun I5=>alc Q 100 fun g10=>sto Q 100 g10 I5 fun _=>aj l0 fun I7=>aa Q 79 I7 0 fun I8=>aa Q 30 I8 4 fun I9=>ld Q 28 I9 fun J0=>blt Q Builtin.len #[28] 3 #[false] #[J0] fun J1 w=>aX (fun S w=>hld S (aj l0) fun J4=>hld S (aa Q 79 J4 0) fun J5=>hld S (aa Q 30 J5 4) fun J6=>hld S (ld Q 28 J6) fun J7=>hld S (ld Q 100 g10) fun J8=>aJ Q 28 1 #[(0,J8)] (fun J9=>dB S fun _=>blt Q Builtin.append #[28,28] 28 #[false,false] #[J7,J9] fun L0=>aX fun S w=>hld S (aj l0) fun L1=>hld S (aa Q 79 L1 0) fun L2=>hld S (aa Q 30 L2 4) fun L3=>sto Q 28 L3 L0 (fun _=>dY K (l0::e1::l2::e3::A2::p5::i6::k_7::r8::f9::g10::J1::C0::C1::C2::C3::C4::C5::C6::C7::C8::C9::D0::D1::D2::D3::D4::D5::D6::D7::D8::D9::E0::E1::E2::E3::E4::E5::E6::E7::E8::E9::F0::F1::F2::F3::F4::F5::F6::F7::F8::F9::G0::G1::G2::G3::G4::G5::G6::G7::G8::G9::H0::H1::H2::H3::H4::H5::H6::H7::H8::H9::I0::I1::I2::I3::I4::I5::l0::I7::I8::I9::J0::J1::l0::l0::J4::J5::J6::J7::J8::J9::L0::L1::L2::L3::L4::L5::L6::L7::L8::L9::M0::M1::M2::M3::M4::M5::M6::M7::M8::M9::N0::N1::N2::N3::N4::N5::N6::N7::N8::N9::O0::O1::O2::O3::O4::O5::O6::O7::O8::O9::P0::P1::P2::P3::P4::P5::P6::P7::P8::P9::Q0::Q1::Q2::Q3::Q4::Q5::Q6::Q7::Q8::Q9::R0::R1::R2::R3::R4::R5::R6::R7::R8::R9::S0::S1::S2::S3::S4::S5::S6::S7::S8::S9::T0::T1::T2::T3::T4::T5::T6::T7::T8::T9::U0::U1::U2::U3::U4::U5::[])) w) w) w.drew) w) :
  aL K (l0::e1::l2::e3::A2::p5::i6::k_7::r8::f9::g10::at11::C0::C1::C2::C3::C4::C5::C6::C7::C8::C9::D0::D1::D2::D3::D4::D5::D6::D7::D8::D9::E0::E1::E2::E3::E4::E5::E6::E7::E8::E9::F0::F1::F2::F3::F4::F5::F6::F7::F8::F9::G0::G1::G2::G3::G4::G5::G6::G7::G8::G9::H0::H1::H2::H3::H4::H5::H6::H7::H8::H9::I0::I1::I2::I3::I4::I5::I6::I7::I8::I9::J0::J1::J2::J3::J4::J5::J6::J7::J8::J9::L0::L1::L2::L3::L4::L5::L6::L7::L8::L9::M0::M1::M2::M3::M4::M5::M6::M7::M8::M9::N0::N1::N2::N3::N4::N5::N6::N7::N8::N9::O0::O1::O2::O3::O4::O5::O6::O7::O8::O9::P0::P1::P2::P3::P4::P5::P6::P7::P8::P9::Q0::Q1::Q2::Q3::Q4::Q5::Q6::Q7::Q8::Q9::R0::R1::R2::R3::R4::R5::R6::R7::R8::R9::S0::S1::S2::S3::S4::S5::S6::S7::S8::S9::T0::T1::T2::T3::T4::T5::T6::T7::T8::T9::U0::U1::U2::U3::U4::U5::[]) w:=by
 delta aL
 refine Eq.mp (congrArg (fun c=>ac Q c _ _ _ _ w) (by kernel_rfl:(rep [1,1,1] (cd Tryz.f82 [1,1,1,1,1,1,1,1]) (cd Tryz.f82 [1,1,1,1,1]))=(cd Tryz.f82 [1,1,1,1,1]))) ?_
 revert h
 delta dY
 generalize (cd Tryz.f82 [1,1,1,1,1,1,1,1])=xc0
 exact fun h=>Eq.mp (by kernel_rfl) h
theorem lW {K:KV} {B1:KE} {w:World}
  (h:bin Q BinOp.add 3 false true i6 (ci 1) (fun E1=>B1 (l0::e1::l2::e3::A2::p5::E1::k_7::r8::f9::g10::at11::C0::C1::C2::C3::C4::C5::C6::C7::C8::C9::D0::D1::D2::D3::D4::D5::D6::D7::D8::D9::i6::E1::E2::E3::E4::E5::E6::E7::E8::E9::F0::F1::F2::F3::F4::F5::F6::F7::F8::F9::G0::G1::G2::G3::G4::G5::G6::G7::G8::G9::H0::H1::H2::H3::H4::H5::H6::H7::H8::H9::I0::I1::I2::I3::I4::I5::I6::I7::I8::I9::J0::J1::J2::J3::J4::J5::J6::J7::J8::J9::L0::L1::L2::L3::L4::L5::L6::L7::L8::L9::M0::M1::M2::M3::M4::M5::M6::M7::M8::M9::N0::N1::N2::N3::N4::N5::N6::N7::N8::N9::O0::O1::O2::O3::O4::O5::O6::O7::O8::O9::P0::P1::P2::P3::P4::P5::P6::P7::P8::P9::Q0::Q1::Q2::Q3::Q4::Q5::Q6::Q7::Q8::Q9::R0::R1::R2::R3::R4::R5::R6::R7::R8::R9::S0::S1::S2::S3::S4::S5::S6::S7::S8::S9::T0::T1::T2::T3::T4::T5::T6::T7::T8::T9::U0::U1::U2::U3::U4::U5::[])) w) :
  bX K B1 (l0::e1::l2::e3::A2::p5::i6::k_7::r8::f9::g10::at11::C0::C1::C2::C3::C4::C5::C6::C7::C8::C9::D0::D1::D2::D3::D4::D5::D6::D7::D8::D9::E0::E1::E2::E3::E4::E5::E6::E7::E8::E9::F0::F1::F2::F3::F4::F5::F6::F7::F8::F9::G0::G1::G2::G3::G4::G5::G6::G7::G8::G9::H0::H1::H2::H3::H4::H5::H6::H7::H8::H9::I0::I1::I2::I3::I4::I5::I6::I7::I8::I9::J0::J1::J2::J3::J4::J5::J6::J7::J8::J9::L0::L1::L2::L3::L4::L5::L6::L7::L8::L9::M0::M1::M2::M3::M4::M5::M6::M7::M8::M9::N0::N1::N2::N3::N4::N5::N6::N7::N8::N9::O0::O1::O2::O3::O4::O5::O6::O7::O8::O9::P0::P1::P2::P3::P4::P5::P6::P7::P8::P9::Q0::Q1::Q2::Q3::Q4::Q5::Q6::Q7::Q8::Q9::R0::R1::R2::R3::R4::R5::R6::R7::R8::R9::S0::S1::S2::S3::S4::S5::S6::S7::S8::S9::T0::T1::T2::T3::T4::T5::T6::T7::T8::T9::U0::U1::U2::U3::U4::U5::[]) w:=by
 delta bX
 revert h
 generalize (aL K)=qc0
 exact fun h=>Eq.mp (by kernel_rfl) h
theorem lX {K:KV} {w:World}
  (h:fp K (l0::e1::l2::e3::A2::p5::i6::k_7::r8::f9::g10::at11::C0::C1::C2::C3::C4::C5::C6::C7::C8::C9::D0::D1::D2::D3::D4::D5::D6::D7::D8::D9::E0::E1::E2::E3::E4::E5::E6::E7::E8::E9::F0::F1::F2::F3::F4::F5::F6::F7::F8::F9::G0::G1::G2::G3::G4::G5::G6::G7::G8::G9::H0::H1::H2::H3::H4::H5::H6::H7::H8::H9::I0::I1::I2::I3::I4::I5::I6::I7::I8::I9::J0::J1::J2::J3::J4::J5::J6::J7::J8::J9::L0::L1::L2::L3::L4::L5::L6::L7::L8::L9::M0::M1::M2::M3::M4::M5::M6::M7::M8::M9::N0::N1::N2::N3::N4::N5::N6::N7::N8::N9::O0::O1::O2::O3::O4::O5::O6::O7::O8::O9::P0::P1::P2::P3::P4::P5::P6::P7::P8::P9::Q0::Q1::Q2::Q3::Q4::Q5::Q6::Q7::Q8::Q9::R0::R1::R2::R3::R4::R5::R6::R7::R8::R9::S0::S1::S2::S3::S4::S5::S6::S7::S8::S9::T0::T1::T2::T3::T4::T5::T6::T7::T8::T9::U0::U1::U2::U3::U4::U5::[]) w) :
  dY K (l0::e1::l2::e3::A2::p5::i6::k_7::r8::f9::g10::at11::C0::C1::C2::C3::C4::C5::C6::C7::C8::C9::D0::D1::D2::D3::D4::D5::D6::D7::D8::D9::E0::E1::E2::E3::E4::E5::E6::E7::E8::E9::F0::F1::F2::F3::F4::F5::F6::F7::F8::F9::G0::G1::G2::G3::G4::G5::G6::G7::G8::G9::H0::H1::H2::H3::H4::H5::H6::H7::H8::H9::I0::I1::I2::I3::I4::I5::I6::I7::I8::I9::J0::J1::J2::J3::J4::J5::J6::J7::J8::J9::L0::L1::L2::L3::L4::L5::L6::L7::L8::L9::M0::M1::M2::M3::M4::M5::M6::M7::M8::M9::N0::N1::N2::N3::N4::N5::N6::N7::N8::N9::O0::O1::O2::O3::O4::O5::O6::O7::O8::O9::P0::P1::P2::P3::P4::P5::P6::P7::P8::P9::Q0::Q1::Q2::Q3::Q4::Q5::Q6::Q7::Q8::Q9::R0::R1::R2::R3::R4::R5::R6::R7::R8::R9::S0::S1::S2::S3::S4::S5::S6::S7::S8::S9::T0::T1::T2::T3::T4::T5::T6::T7::T8::T9::U0::U1::U2::U3::U4::U5::[]) w:=by
 delta dY
 revert h
 delta fp bx
 exact fun h=>Eq.mp (by kernel_rfl) h
theorem lY {K:KV} {w:World} (Inv:Value→Value→Value→Value→Value→Value→Value→Value→Value→Value→Value→Value→Value→Value→Value→Value→Value→Value→Value→Value→Value→Value→Value→Value→Value→Value→Value→Value→Value→Value→Value→Value→Value→Value→Value→Value→Value→Value→Value→Value→Value→Value→Value→Value→World→Prop) (μ:Value→Value→Value→Value→Value→Value→Value→Value→Value→Value→Value→Value→Value→Value→Value→Value→Value→Value→Value→Value→Value→Value→Value→Value→Value→Value→Value→Value→Value→Value→Value→Value→Value→Value→Value→Value→Value→Value→Value→Value→Value→Value→Value→Value→World→Nat) (h0:Inv at11 L7 L8 L9 M0 M1 M2 M3 M4 M5 M6 M7 M8 M9 N0 N1 N2 N3 N4 N5 N6 N7 N8 N9 O0 O1 O2 O3 O4 O5 O6 O7 O8 O9 P0 P1 P2 P3 P4 P5 P6 P7 P8 P9 w)
  (hs:∀ (at11' L7' L8' L9' M0' M1' M2' M3' M4' M5' M6' M7' M8' M9' N0' N1' N2' N3' N4' N5' N6' N7' N8' N9' O0' O1' O2' O3' O4' O5' O6' O7' O8' O9' P0' P1' P2' P3' P4' P5' P6' P7' P8' P9':Value) (dd:Nat→Value) (w:World) (m:Nat),Inv at11' L7' L8' L9' M0' M1' M2' M3' M4' M5' M6' M7' M8' M9' N0' N1' N2' N3' N4' N5' N6' N7' N8' N9' O0' O1' O2' O3' O4' O5' O6' O7' O8' O9' P0' P1' P2' P3' P4' P5' P6' P7' P8' P9' w→m=μ at11' L7' L8' L9' M0' M1' M2' M3' M4' M5' M6' M7' M8' M9' N0' N1' N2' N3' N4' N5' N6' N7' N8' N9' O0' O1' O2' O3' O4' O5' O6' O7' O8' O9' P0' P1' P2' P3' P4' P5' P6' P7' P8' P9' w →
  sti (bin Q BinOp.gtr 3 false true at11' (ci 0)) (fun L5 w=>au L5 true (fun k99=>sti (aj l0) (fun L8=>sti (aa Q 79 L8 0) fun L9=>sti (aa Q 30 L9 4) fun M0=>sti (ld Q 28 M0) fun M1=>sti (bin Q BinOp.sub 3 false true at11' (ci 1)) fun M3=>sti (af Q 28 M1 M3) fun M4=>sti (aa Q 100 M4 0) fun M5=>sti (ld Q 3 M5) fun M6=>sti (aa Q 100 g10 0) fun M7=>sti (ld Q 3 M7) fun M8=>sti (bin Q BinOp.gtr 3 false false M6 M8) fun M9=>k99 [l0,L8,L9,M0,M1,at11',M3,M4,M5,M6,M7,M8,M9,M9]) w) (fun k=>k [undef,undef,undef,undef,undef,undef,undef,undef,undef,undef,undef,undef,undef,undef] w) fun us99 w=>au (gd us99 13) false (fun k113=>sti (aj l0) (fun N2=>sti (aa Q 79 N2 0) fun N3=>sti (aa Q 30 N3 4) fun N4=>sti (ld Q 28 N4) fun N5=>sti (bin Q BinOp.sub 3 false true at11' (ci 1)) fun N7=>sti (af Q 28 N5 N7) fun N8=>sti (aa Q 100 N8 0) fun N9=>sti (ld Q 3 N9) fun O0=>sti (aa Q 100 g10 0) fun O1=>sti (ld Q 3 O1) fun O2=>sti (bin Q BinOp.eql 3 false false O0 O2) fun O3=>k113 [l0,N2,N3,N4,N5,at11',N7,N8,N9,O0,O1,O2,O3,O3]) w) (fun k=>k [undef,undef,undef,undef,undef,undef,undef,undef,undef,undef,undef,undef,undef,undef] w) fun us113 w=>au (gd us113 13) true (fun k127=>sti (aj l0) (fun O6=>sti (aa Q 79 O6 0) fun O7=>sti (aa Q 30 O7 4) fun O8=>sti (ld Q 28 O8) fun O9=>sti (bin Q BinOp.sub 3 false true at11' (ci 1)) fun P1=>sti (af Q 28 O9 P1) fun P2=>sti (aa Q 100 P2 1) fun P3=>sti (ld Q 24 P3) fun P4=>sti (aa Q 100 g10 1) fun P5=>sti (ld Q 24 P5) fun P6=>sti (bin Q BinOp.gtr 24 false false P4 P6) fun P7=>k127 [l0,O6,O7,O8,O9,at11',P1,P2,P3,P4,P5,P6,P7]) w) (fun k=>k [undef,undef,undef,undef,undef,undef,undef,undef,undef,undef,undef,undef,undef] w) fun us127 w=>au (gd us99 13) false (fun k140=>sti (pick (gd us113 13) (gd us127 12) cF) (fun P8=>k140 [P8]) w) (fun k=>k [undef] w) fun us140 w=>au L5 true (fun k141=>sti (pick (gd us99 13) cT (gd us140 0)) (fun P9=>k141 [P9]) w) (fun k=>k [undef] w) fun us141=>sti (pick L5 (gd us141 0) cF) fun Q0 w=>cond Q0 (sti (aj l0) (fun Q2=>sti (aa Q 79 Q2 0) fun Q3=>sti (aa Q 30 Q3 4) fun Q4=>sti (ld Q 28 Q4) fun Q5=>sti (aj l0) fun Q8=>sti (aa Q 79 Q8 0) fun Q9=>sti (aa Q 30 Q9 4) fun R0=>sti (ld Q 28 R0) fun R1=>sti (bin Q BinOp.sub 3 false true at11' (ci 1)) fun R3=>sti (af Q 28 R1 R3) fun R4=>sti (ld Q 100 R4) fun R5=>sti (af Q 28 Q5 at11') fun R6=>sto Q 100 R6 R5 fun _=>bin Q BinOp.sub 3 false true at11' (ci 1) fun R8 w=>(Inv R8 (gd us99 0) (gd us99 1) (gd us99 2) (gd us99 3) (gd us99 4) (gd us99 5) (gd us99 6) (gd us99 7) (gd us99 8) (gd us99 9) (gd us99 10) (gd us99 11) (gd us99 12) (gd us99 13) (gd us113 0) (gd us113 1) (gd us113 2) (gd us113 3) (gd us113 4) (gd us113 5) (gd us113 6) (gd us113 7) (gd us113 8) (gd us113 9) (gd us113 10) (gd us113 11) (gd us113 12) (gd us113 13) (gd us127 0) (gd us127 1) (gd us127 2) (gd us127 3) (gd us127 4) (gd us127 5) (gd us127 6) (gd us127 7) (gd us127 8) (gd us127 9) (gd us127 10) (gd us127 11) (gd us127 12) (gd us140 0) (gd us141 0) w)∧((μ R8 (gd us99 0) (gd us99 1) (gd us99 2) (gd us99 3) (gd us99 4) (gd us99 5) (gd us99 6) (gd us99 7) (gd us99 8) (gd us99 9) (gd us99 10) (gd us99 11) (gd us99 12) (gd us99 13) (gd us113 0) (gd us113 1) (gd us113 2) (gd us113 3) (gd us113 4) (gd us113 5) (gd us113 6) (gd us113 7) (gd us113 8) (gd us113 9) (gd us113 10) (gd us113 11) (gd us113 12) (gd us113 13) (gd us127 0) (gd us127 1) (gd us127 2) (gd us127 3) (gd us127 4) (gd us127 5) (gd us127 6) (gd us127 7) (gd us127 8) (gd us127 9) (gd us127 10) (gd us127 11) (gd us127 12) (gd us140 0) (gd us141 0) w)<m)) w.drew) (bx K (l0::e1::l2::e3::A2::p5::i6::k_7::r8::f9::g10::at11'::C0::C1::C2::C3::C4::C5::C6::C7::C8::C9::D0::D1::D2::D3::D4::D5::D6::D7::D8::D9::E0::E1::E2::E3::E4::E5::E6::E7::E8::E9::F0::F1::F2::F3::F4::F5::F6::F7::F8::F9::G0::G1::G2::G3::G4::G5::G6::G7::G8::G9::H0::H1::H2::H3::H4::H5::H6::H7::H8::H9::I0::I1::I2::I3::I4::I5::I6::I7::I8::I9::J0::J1::J2::J3::J4::J5::J6::J7::J8::J9::L0::L1::L2::L3::at11'::L5::L5::(gd us99 0)::(gd us99 1)::(gd us99 2)::(gd us99 3)::(gd us99 4)::(gd us99 5)::(gd us99 6)::(gd us99 7)::(gd us99 8)::(gd us99 9)::(gd us99 10)::(gd us99 11)::(gd us99 12)::(gd us99 13)::(gd us113 0)::(gd us113 1)::(gd us113 2)::(gd us113 3)::(gd us113 4)::(gd us113 5)::(gd us113 6)::(gd us113 7)::(gd us113 8)::(gd us113 9)::(gd us113 10)::(gd us113 11)::(gd us113 12)::(gd us113 13)::(gd us127 0)::(gd us127 1)::(gd us127 2)::(gd us127 3)::(gd us127 4)::(gd us127 5)::(gd us127 6)::(gd us127 7)::(gd us127 8)::(gd us127 9)::(gd us127 10)::(gd us127 11)::(gd us127 12)::(gd us140 0)::(gd us141 0)::Q0::(dd 143)::(dd 144)::(dd 145)::(dd 146)::(dd 147)::(dd 148)::(dd 149)::(dd 150)::(dd 151)::(dd 152)::(dd 153)::(dd 154)::(dd 155)::(dd 156)::(dd 157)::(dd 158)::(dd 159)::(dd 160)::R9::S0::S1::S2::S3::S4::S5::S6::S7::S8::S9::T0::T1::T2::T3::T4::T5::T6::T7::T8::T9::U0::U1::U2::U3::U4::U5::[]) w)) w.drew) :
  fp K (l0::e1::l2::e3::A2::p5::i6::k_7::r8::f9::g10::at11::C0::C1::C2::C3::C4::C5::C6::C7::C8::C9::D0::D1::D2::D3::D4::D5::D6::D7::D8::D9::E0::E1::E2::E3::E4::E5::E6::E7::E8::E9::F0::F1::F2::F3::F4::F5::F6::F7::F8::F9::G0::G1::G2::G3::G4::G5::G6::G7::G8::G9::H0::H1::H2::H3::H4::H5::H6::H7::H8::H9::I0::I1::I2::I3::I4::I5::I6::I7::I8::I9::J0::J1::J2::J3::J4::J5::J6::J7::J8::J9::L0::L1::L2::L3::L4::L5::L6::L7::L8::L9::M0::M1::M2::M3::M4::M5::M6::M7::M8::M9::N0::N1::N2::N3::N4::N5::N6::N7::N8::N9::O0::O1::O2::O3::O4::O5::O6::O7::O8::O9::P0::P1::P2::P3::P4::P5::P6::P7::P8::P9::Q0::Q1::Q2::Q3::Q4::Q5::Q6::Q7::Q8::Q9::R0::R1::R2::R3::R4::R5::R6::R7::R8::R9::S0::S1::S2::S3::S4::S5::S6::S7::S8::S9::T0::T1::T2::T3::T4::T5::T6::T7::T8::T9::U0::U1::U2::U3::U4::U5::[]) w:=by
 refine aB (cd Tryz.f82 [1,1,1,1,1,1,1,1,0,0,0]) [11,96,97,98,99,100,101,102,103,104,105,106,107,108,109,110,111,112,113,114,115,116,117,118,119,120,121,122,123,124,125,126,127,128,129,130,131,132,133,134,135,136,137,138,139,140,141,142,143,144,145,146,147,148,149,150,151,152,153,154,155,156,157,158,159,160] (by kernel_rfl) (fun e2 w2=>Inv (gd e2 11) (gd e2 99) (gd e2 100) (gd e2 101) (gd e2 102) (gd e2 103) (gd e2 104) (gd e2 105) (gd e2 106) (gd e2 107) (gd e2 108) (gd e2 109) (gd e2 110) (gd e2 111) (gd e2 112) (gd e2 113) (gd e2 114) (gd e2 115) (gd e2 116) (gd e2 117) (gd e2 118) (gd e2 119) (gd e2 120) (gd e2 121) (gd e2 122) (gd e2 123) (gd e2 124) (gd e2 125) (gd e2 126) (gd e2 127) (gd e2 128) (gd e2 129) (gd e2 130) (gd e2 131) (gd e2 132) (gd e2 133) (gd e2 134) (gd e2 135) (gd e2 136) (gd e2 137) (gd e2 138) (gd e2 139) (gd e2 140) (gd e2 141) w2) (fun e2 w2=>μ (gd e2 11) (gd e2 99) (gd e2 100) (gd e2 101) (gd e2 102) (gd e2 103) (gd e2 104) (gd e2 105) (gd e2 106) (gd e2 107) (gd e2 108) (gd e2 109) (gd e2 110) (gd e2 111) (gd e2 112) (gd e2 113) (gd e2 114) (gd e2 115) (gd e2 116) (gd e2 117) (gd e2 118) (gd e2 119) (gd e2 120) (gd e2 121) (gd e2 122) (gd e2 123) (gd e2 124) (gd e2 125) (gd e2 126) (gd e2 127) (gd e2 128) (gd e2 129) (gd e2 130) (gd e2 131) (gd e2 132) (gd e2 133) (gd e2 134) (gd e2 135) (gd e2 136) (gd e2 137) (gd e2 138) (gd e2 139) (gd e2 140) (gd e2 141) w2) h0 ?_
 intro e' w' hI
 have h:=hs (gd e' 11) (gd e' 99) (gd e' 100) (gd e' 101) (gd e' 102) (gd e' 103) (gd e' 104) (gd e' 105) (gd e' 106) (gd e' 107) (gd e' 108) (gd e' 109) (gd e' 110) (gd e' 111) (gd e' 112) (gd e' 113) (gd e' 114) (gd e' 115) (gd e' 116) (gd e' 117) (gd e' 118) (gd e' 119) (gd e' 120) (gd e' 121) (gd e' 122) (gd e' 123) (gd e' 124) (gd e' 125) (gd e' 126) (gd e' 127) (gd e' 128) (gd e' 129) (gd e' 130) (gd e' 131) (gd e' 132) (gd e' 133) (gd e' 134) (gd e' 135) (gd e' 136) (gd e' 137) (gd e' 138) (gd e' 139) (gd e' 140) (gd e' 141) (fun i=>gd e' i) w' _ hI rfl
 revert h
 generalize (bx K)=qc0
 exact fun h=>Eq.mp (by kernel_rfl) h
theorem lZ {K:KV} {w:World}
  (h:sti (aj l0) (fun S0=>sti (aa Q 79 S0 0) fun S1=>sti (aa Q 30 S1 4) fun S2=>sti (ld Q 28 S2) fun S3=>sti (ld Q 100 g10) fun S5=>sti (af Q 28 S3 at11) fun S6=>sto Q 100 S6 S5 fun _ w=>aX (fun S w=>hld S (aa Q 54 e3 0) fun S8=>hld S (ld Q 3 S8) fun S9=>hld (fun _=>True) (bin Q BinOp.sub 3 false true S9 (ci 1)) fun T0=>hld S (aa Q 54 e3 0) fun T2=>hld S (ld Q 3 T2) fun T3=>hld (fun _=>True) (bin Q BinOp.sub 3 false true T3 (ci 1)) fun T4=>hld S (aj l0) fun T5=>hld S (aa Q 79 T5 2) fun T6=>hld S (af Q 77 T6 T4) fun T7=>hld S (ld Q 76 T7) fun T8=>hld S (aa Q 54 e3 7) fun T9=>hld S (ld Q 24 T9) fun U0=>hld S (aj l0) fun U3=>hld S (aa Q 79 U3 2) fun U4=>aJ Q 76 1 #[(0,U0)] (fun U1=>dB S fun S=>blt Q Builtin.append #[76,76] 76 #[false,false] #[T8,U1] fun U2=>dB S fun S w=>hld S (af Q 77 U4 T0) fun U5=>sto Q 76 U5 U2 (fun _=>K (ci 0)) w) w) w.drew) w.drew) :
  bx K (l0::e1::l2::e3::A2::p5::i6::k_7::r8::f9::g10::at11::C0::C1::C2::C3::C4::C5::C6::C7::C8::C9::D0::D1::D2::D3::D4::D5::D6::D7::D8::D9::E0::E1::E2::E3::E4::E5::E6::E7::E8::E9::F0::F1::F2::F3::F4::F5::F6::F7::F8::F9::G0::G1::G2::G3::G4::G5::G6::G7::G8::G9::H0::H1::H2::H3::H4::H5::H6::H7::H8::H9::I0::I1::I2::I3::I4::I5::I6::I7::I8::I9::J0::J1::J2::J3::J4::J5::J6::J7::J8::J9::L0::L1::L2::L3::L4::L5::L6::L7::L8::L9::M0::M1::M2::M3::M4::M5::M6::M7::M8::M9::N0::N1::N2::N3::N4::N5::N6::N7::N8::N9::O0::O1::O2::O3::O4::O5::O6::O7::O8::O9::P0::P1::P2::P3::P4::P5::P6::P7::P8::P9::Q0::Q1::Q2::Q3::Q4::Q5::Q6::Q7::Q8::Q9::R0::R1::R2::R3::R4::R5::R6::R7::R8::R9::S0::S1::S2::S3::S4::S5::S6::S7::S8::S9::T0::T1::T2::T3::T4::T5::T6::T7::T8::T9::U0::U1::U2::U3::U4::U5::[]) w:=by
 delta bx
 revert h
 exact fun h=>Eq.mp (by kernel_rfl) h
attribute [irreducible] aL dX bX bY dY bx fp
def dZ (K:KV):KE:=ac Q (cd Tryz.f83 [1,1,1,1,1]) (rk Tryz.f83 K) xf (rk Tryz.f83 K)
def aM (K:KV):KE:=ac Q (cd Tryz.f83 [1,1,1,1,1,1]) (rk Tryz.f83 K) xf (rk Tryz.f83 K)
def ed (K:KV):KE:=ac Q (cd Tryz.f83 [1,1,1,1,1,0,1,0]) (aM K) (xx xf (aM K) 0) (rk Tryz.f83 K)
def bZ (K:KV) (B1:KE):KE:=ac Q (cd Tryz.f83 [1,1,1,1,1,0,1,0,0,1,1]) B1 (xx xf (aM K) 0) (rk Tryz.f83 K)
def ca (K:KV) (B1:KE):KE:=ac Q (cd Tryz.f83 [1,1,1,1,1,0,1,0,0,1,0,0,1,1]) (bZ K B1) (xx (xx xf (aM K) 0) (bZ K B1) 1) (rk Tryz.f83 K)
end
theorem mX {K:KV} {l0 e1:Value} {w:World}
  (h:box Q 54 e1 (fun e3=>aa Q 54 e3 0 fun C0=>ld Q 3 C0 fun C1=>aa Q 54 e3 7 fun C2=>ld Q 24 C2 fun C3=>call Q 105 #[l0,C1,C3] fun C4 w=>cond C4 (K (ci 14) w) (aa Q 54 e3 0 (fun C6=>ld Q 3 C6 fun C7=>aa Q 54 e3 8 fun C8=>ld Q 24 C8 fun C9=>call Q 108 #[l0,C7,C9] fun D0=>bin Q BinOp.lss 3 false true D0 (ci 0) fun D2 w=>au D2 false (fun k26=>aj l0 (fun D5=>aa Q 79 D5 0 fun D6=>aa Q 30 D6 4 fun D7=>ld Q 28 D7 fun D8=>af Q 28 D8 D0 fun E0=>aa Q 100 E0 4 fun E1=>ld Q 24 E1 fun E2=>bin Q BinOp.neq 24 false true E2 (cu 0) fun E3=>k26 [l0,D5,D6,D7,D8,D0,E0,E1,E2,E3]) w) (fun k=>k [undef,undef,undef,undef,undef,undef,undef,undef,undef,undef] w) fun us26=>pick D2 cT (gd us26 9) fun E4 w=>cond E4 (K (ci 12) w) (aX (fun S w=>hld S (aj l0) fun E6=>hld S (aa Q 79 E6 1) fun E7=>hld S (ld Q 75 E7) fun E8=>hld S (aj l0) fun F0=>hld S (aa Q 79 F0 0) fun F1=>hld S (aa Q 30 F1 4) fun F2=>hld S (ld Q 28 F2) fun F3=>hld S (af Q 28 F3 D0) fun F5=>hld S (aa Q 100 F5 2) fun F6=>hld S (ld Q 24 F6) fun F7=>call Q 106 #[E8,F7] (fun F8=>aX fun _=>dZ K (l0::e1::undef::e3::(ci 0)::D0::F8::undef::undef::undef::undef::l0::C0::C1::C2::C3::C4::l0::C6::C7::C8::C9::D0::D0::D2::D2::(gd us26 0)::(gd us26 1)::(gd us26 2)::(gd us26 3)::(gd us26 4)::(gd us26 5)::(gd us26 6)::(gd us26 7)::(gd us26 8)::(gd us26 9)::E4::l0::E6::E7::E8::l0::F0::F1::F2::F3::D0::F5::F6::F7::F8::undef::undef::undef::undef::undef::undef::undef::undef::undef::undef::undef::undef::undef::undef::undef::undef::undef::undef::undef::undef::undef::undef::undef::undef::undef::undef::undef::undef::undef::undef::undef::undef::undef::undef::undef::undef::undef::undef::undef::undef::undef::undef::undef::undef::undef::undef::undef::undef::undef::undef::undef::undef::undef::undef::undef::undef::undef::undef::undef::undef::undef::undef::undef::undef::undef::undef::undef::undef::undef::undef::undef::undef::undef::undef::undef::undef::undef::[])) w) w.drew)) w)) w) :
  Gives Q 83 #[l0,e1] w K:=by
 refine aK Tryz.func83 (by kernel_rfl) <|Eq.mp (congrArg (fun c=>ac Q c _ _ _ _ w) (by kernel_rfl:(rep [1,1,1,1,1] (cd Tryz.f83 [1,1,1,1,1]) (cd Tryz.f83 []))=(cd Tryz.f83 []))) ?_
 revert h
 delta dZ
 generalize (cd Tryz.f83 [1,1,1,1,1])=xc0
 exact fun h=>Eq.mp (by kernel_rfl) h
theorem mY:bD Q 83:=⟨_,Tryz.func83,by kernel_rfl,by kernel_rfl⟩
section
variable {l0 e1 l2 e3 A2 k_5 p6 i7 n8 r9 f10 A9 C0 C1 C2 C3 C4 C5 C6 C7 C8 C9 D0 D1 D2 D3 D4 D5 D6 D7 D8 D9 E0 E1 E2 E3 E4 E5 E6 E7 E8 E9 F0 F1 F2 F3 F4 F5 F6 F7 F8 F9 G0 G1 G2 G3 G4 G5 G6 G7 G8 G9 H0 H1 H2 H3 H4 H5 H6 H7 H8 H9 I0 I1 I2 I3 I4 I5 I6 I7 I8 I9 J0 J1 J2 J3 J4 J5 J6 J7 J8 J9 L0 L1 L2 L3 L4 L5 L6 L7 L8 L9 M0 M1 M2 M3 M4 M5 M6 M7 M8 M9 N0 N1 N2 N3 N4 N5 N6 N7 N8 N9 O0 O1 O2 O3 O4 O5:Value}
theorem m0 {K:KV} {w:World}
  (h:ed K (l0::e1::l2::e3::A2::k_5::p6::(ci 0)::n8::r9::f10::A9::C0::C1::C2::C3::C4::C5::C6::C7::C8::C9::D0::D1::D2::D3::D4::D5::D6::D7::D8::D9::E0::E1::E2::E3::E4::E5::E6::E7::E8::E9::F0::F1::F2::F3::F4::F5::F6::F7::F8::F9::G0::G1::G2::G3::G4::G5::G6::G7::G8::G9::H0::H1::H2::H3::H4::H5::H6::H7::H8::H9::I0::I1::I2::I3::I4::I5::I6::I7::I8::I9::J0::J1::J2::J3::J4::J5::J6::J7::J8::J9::L0::L1::L2::L3::L4::L5::L6::L7::L8::L9::M0::M1::M2::M3::M4::M5::M6::M7::M8::M9::N0::N1::N2::N3::N4::N5::N6::N7::N8::N9::O0::O1::O2::O3::O4::O5::[]) w) :
  dZ K (l0::e1::l2::e3::A2::k_5::p6::i7::n8::r9::f10::A9::C0::C1::C2::C3::C4::C5::C6::C7::C8::C9::D0::D1::D2::D3::D4::D5::D6::D7::D8::D9::E0::E1::E2::E3::E4::E5::E6::E7::E8::E9::F0::F1::F2::F3::F4::F5::F6::F7::F8::F9::G0::G1::G2::G3::G4::G5::G6::G7::G8::G9::H0::H1::H2::H3::H4::H5::H6::H7::H8::H9::I0::I1::I2::I3::I4::I5::I6::I7::I8::I9::J0::J1::J2::J3::J4::J5::J6::J7::J8::J9::L0::L1::L2::L3::L4::L5::L6::L7::L8::L9::M0::M1::M2::M3::M4::M5::M6::M7::M8::M9::N0::N1::N2::N3::N4::N5::N6::N7::N8::N9::O0::O1::O2::O3::O4::O5::[]) w:=by
 delta dZ
 revert h
 delta ed aM
 exact fun h=>Eq.mp (by kernel_rfl) h
theorem m4 {K:KV} {w:World} (Inv:Value→World→Prop) (μ:Value→World→Nat) (h0:Inv i7 w)
  (hs:∀ (i7':Value) (dd:Nat→Value) (w:World) (m:Nat),Inv i7' w→m=μ i7' w →
  blt Q Builtin.len #[76] 3 #[false] #[p6] (fun G1=>bin Q BinOp.lss 3 false false i7' G1 fun G2 w=>cond G2 (af Q 76 p6 i7' (fun G8=>ld Q 24 G8 fun G9=>call Q 81 #[l0,G9] fun H0 w=>aX (fun S w=>hld S (aj l0) fun H3=>hld S (aa Q 79 H3 0) fun H4=>hld S (aa Q 30 H4 3) fun H5=>hld S (ld Q 27 H5) fun H6=>hld S (af Q 27 H6 H0) fun H8=>hld S (aa Q 38 H8 2) fun H9=>hld S (ld Q 36 H9) fun I0=>hld S (aa Q 54 e3 0) fun I1=>hld S (ld Q 3 I1) fun I2=>hld S (aj l0) fun I4=>hld S (aa Q 79 I4 0) fun I5=>hld S (aa Q 30 I5 4) fun I6=>hld S (ld Q 28 I6) fun I7=>hld S (af Q 28 I7 k_5) fun I9=>hld S (aa Q 100 I9 3) fun J0=>hld S (ld Q 2 J0) fun J1=>(call Q 109 #[I0,I2,J1] (fun J2=>aX fun S w=>hld S (ext Q J2 0) fun J3=>hld S (ext Q J2 1) fun J4=>alc Q 36 (fun r9=>dB S fun S=>sto Q 36 r9 J3 fun _=>dB S fun _=>ca K (fun e2 w2=>(Inv (gd e2 7) w2)∧((μ (gd e2 7) w2)<m)) (l0::e1::l2::e3::(dd 4)::k_5::p6::i7'::H0::r9::J4::A9::C0::C1::C2::C3::C4::C5::C6::C7::C8::C9::D0::D1::D2::D3::D4::D5::D6::D7::D8::D9::E0::E1::E2::E3::E4::E5::E6::E7::E8::E9::F0::F1::F2::F3::F4::F5::F6::F7::F8::i7'::p6::G1::G2::(dd 55)::(dd 56)::l0::p6::i7'::G8::G9::H0::J2::l0::H3::H4::H5::H6::H0::H8::H9::I0::I1::I2::l0::I4::I5::I6::I7::k_5::I9::J0::J1::J2::J3::J4::(dd 87)::(dd 88)::(dd 89)::(dd 90)::(dd 91)::(dd 92)::(dd 93)::(dd 94)::(dd 95)::(dd 96)::(dd 97)::(dd 98)::L7::L8::L9::M0::M1::M2::M3::M4::M5::M6::M7::M8::M9::N0::N1::N2::N3::N4::N5::N6::N7::N8::N9::O0::O1::O2::O3::O4::O5::[])) w) w)∧(alc Q 36 (fun r9=>dB S fun _=>call Q 109 #[I0,I2,J1] fun J2=>aX fun S w=>hld S (ext Q J2 0) fun J3=>hld S (ext Q J2 1) fun J4=>sto Q 36 r9 J3 (fun _=>dB S fun _=>ca K (fun e2 w2=>(Inv (gd e2 7) w2)∧((μ (gd e2 7) w2)<m)) (l0::e1::l2::e3::(dd 4)::k_5::p6::i7'::H0::r9::J4::A9::C0::C1::C2::C3::C4::C5::C6::C7::C8::C9::D0::D1::D2::D3::D4::D5::D6::D7::D8::D9::E0::E1::E2::E3::E4::E5::E6::E7::E8::E9::F0::F1::F2::F3::F4::F5::F6::F7::F8::i7'::p6::G1::G2::(dd 55)::(dd 56)::l0::p6::i7'::G8::G9::H0::J2::l0::H3::H4::H5::H6::H0::H8::H9::I0::I1::I2::l0::I4::I5::I6::I7::k_5::I9::J0::J1::J2::J3::J4::(dd 87)::(dd 88)::(dd 89)::(dd 90)::(dd 91)::(dd 92)::(dd 93)::(dd 94)::(dd 95)::(dd 96)::(dd 97)::(dd 98)::L7::L8::L9::M0::M1::M2::M3::M4::M5::M6::M7::M8::M9::N0::N1::N2::N3::N4::N5::N6::N7::N8::N9::O0::O1::O2::O3::O4::O5::[])) w) w)) w.drew) w) (aM K (l0::e1::l2::e3::(dd 4)::k_5::p6::i7'::(dd 8)::(dd 9)::(dd 10)::A9::C0::C1::C2::C3::C4::C5::C6::C7::C8::C9::D0::D1::D2::D3::D4::D5::D6::D7::D8::D9::E0::E1::E2::E3::E4::E5::E6::E7::E8::E9::F0::F1::F2::F3::F4::F5::F6::F7::F8::i7'::p6::G1::G2::(dd 55)::(dd 56)::(dd 57)::(dd 58)::(dd 59)::(dd 60)::(dd 61)::(dd 62)::(dd 63)::(dd 64)::(dd 65)::(dd 66)::(dd 67)::(dd 68)::(dd 69)::(dd 70)::(dd 71)::(dd 72)::(dd 73)::(dd 74)::(dd 75)::(dd 76)::(dd 77)::(dd 78)::(dd 79)::(dd 80)::(dd 81)::(dd 82)::(dd 83)::(dd 84)::(dd 85)::(dd 86)::(dd 87)::(dd 88)::(dd 89)::(dd 90)::(dd 91)::(dd 92)::(dd 93)::(dd 94)::(dd 95)::(dd 96)::(dd 97)::(dd 98)::L7::L8::L9::M0::M1::M2::M3::M4::M5::M6::M7::M8::M9::N0::N1::N2::N3::N4::N5::N6::N7::N8::N9::O0::O1::O2::O3::O4::O5::[]) w)) w) :
  ed K (l0::e1::l2::e3::A2::k_5::p6::i7::n8::r9::f10::A9::C0::C1::C2::C3::C4::C5::C6::C7::C8::C9::D0::D1::D2::D3::D4::D5::D6::D7::D8::D9::E0::E1::E2::E3::E4::E5::E6::E7::E8::E9::F0::F1::F2::F3::F4::F5::F6::F7::F8::F9::G0::G1::G2::G3::G4::G5::G6::G7::G8::G9::H0::H1::H2::H3::H4::H5::H6::H7::H8::H9::I0::I1::I2::I3::I4::I5::I6::I7::I8::I9::J0::J1::J2::J3::J4::J5::J6::J7::J8::J9::L0::L1::L2::L3::L4::L5::L6::L7::L8::L9::M0::M1::M2::M3::M4::M5::M6::M7::M8::M9::N0::N1::N2::N3::N4::N5::N6::N7::N8::N9::O0::O1::O2::O3::O4::O5::[]) w:=by
 refine aB (cd Tryz.f83 [1,1,1,1,1,0,1,0,0]) [4,7,8,9,10,51,52,53,54,55,56,57,58,59,60,61,62,63,64,65,66,67,68,69,70,71,72,73,74,75,76,77,78,79,80,81,82,83,84,85,86,87,88,89,90,91,92,93,94,95,96,97,98] (by kernel_rfl) (fun e2 w2=>Inv (gd e2 7) w2) (fun e2 w2=>μ (gd e2 7) w2) h0 ?_
 intro e' w' hI
 have h:=hs (gd e' 7) (fun i=>gd e' i) w' _ hI rfl
 refine Eq.mp (congrArg (fun c=>ac Q c _ _ _ _ w') (by kernel_rfl:(rep [1,0,0,1,1] (cd Tryz.f83 [1,1,1,1,1,0,1,0,0,1,0,0,1,1]) (cd Tryz.f83 [1,1,1,1,1,0,1,0,0]))=(cd Tryz.f83 [1,1,1,1,1,0,1,0,0]))) ?_
 revert h
 delta ca bZ
 generalize (cd Tryz.f83 [1,1,1,1,1,0,1,0,0,1,0,0,1,1])=xc0
 generalize (aM K)=qc0
 exact fun h=>Eq.mp (by kernel_rfl) h
theorem m5 {K:KV} {B1:KE} {w:World}
  (h:bin Q BinOp.neq 49 false true f10 (ci 0) (fun J6 w=>cond J6 (K f10 w) (sti (aj l0) (fun J9=>sti (aa Q 79 J9 0) fun L0=>sti (aa Q 30 L0 3) fun L1=>sti (ld Q 27 L1) fun L2=>sti (ld Q 36 r9) fun L4=>sti (af Q 27 L2 n8) fun L5=>sti (aa Q 38 L5 2) fun L6=>sto Q 36 L6 L4 fun _=>bZ K B1 (l0::e1::l2::e3::A2::k_5::p6::i7::n8::r9::f10::A9::C0::C1::C2::C3::C4::C5::C6::C7::C8::C9::D0::D1::D2::D3::D4::D5::D6::D7::D8::D9::E0::E1::E2::E3::E4::E5::E6::E7::E8::E9::F0::F1::F2::F3::F4::F5::F6::F7::F8::F9::G0::G1::G2::G3::G4::G5::G6::G7::G8::G9::H0::H1::H2::H3::H4::H5::H6::H7::H8::H9::I0::I1::I2::I3::I4::I5::I6::I7::I8::I9::J0::J1::J2::J3::J4::f10::J6::J7::l0::J9::L0::L1::L2::n8::L4::L5::L6::L7::L8::L9::M0::M1::M2::M3::M4::M5::M6::M7::M8::M9::N0::N1::N2::N3::N4::N5::N6::N7::N8::N9::O0::O1::O2::O3::O4::O5::[])) w.drew)) w) :
  ca K B1 (l0::e1::l2::e3::A2::k_5::p6::i7::n8::r9::f10::A9::C0::C1::C2::C3::C4::C5::C6::C7::C8::C9::D0::D1::D2::D3::D4::D5::D6::D7::D8::D9::E0::E1::E2::E3::E4::E5::E6::E7::E8::E9::F0::F1::F2::F3::F4::F5::F6::F7::F8::F9::G0::G1::G2::G3::G4::G5::G6::G7::G8::G9::H0::H1::H2::H3::H4::H5::H6::H7::H8::H9::I0::I1::I2::I3::I4::I5::I6::I7::I8::I9::J0::J1::J2::J3::J4::J5::J6::J7::J8::J9::L0::L1::L2::L3::L4::L5::L6::L7::L8::L9::M0::M1::M2::M3::M4::M5::M6::M7::M8::M9::N0::N1::N2::N3::N4::N5::N6::N7::N8::N9::O0::O1::O2::O3::O4::O5::[]) w:=by
 delta ca
 revert h
 generalize (bZ K B1)=qc0
 generalize (aM K)=qc1
 exact fun h=>Eq.mp (by kernel_rfl) h
theorem m6 {K:KV} {w:World}
  (h:sti (aj l0) (fun L8=>sti (aa Q 79 L8 0) fun L9=>sti (aa Q 30 L9 4) fun M0=>sti (ld Q 28 M0) fun M1=>sti (aa Q 54 e3 7) fun M3=>sti (ld Q 24 M3) fun M4=>sti (af Q 28 M1 k_5) fun M5=>sti (aa Q 100 M5 4) fun M6=>sto Q 24 M6 M4 fun _ w=>aX (fun S w=>hld S (aa Q 54 e3 0) fun M8=>hld S (ld Q 3 M8) fun M9=>hld (fun _=>True) (bin Q BinOp.sub 3 false true M9 (ci 1)) fun N0=>hld S (aa Q 54 e3 0) fun N2=>hld S (ld Q 3 N2) fun N3=>hld (fun _=>True) (bin Q BinOp.sub 3 false true N3 (ci 1)) fun N4=>hld S (aj l0) fun N5=>hld S (aa Q 79 N5 2) fun N6=>hld S (af Q 77 N6 N4) fun N7=>hld S (ld Q 76 N7) fun N8=>hld S (aa Q 54 e3 7) fun N9=>hld S (ld Q 24 N9) fun O0=>hld S (aj l0) fun O3=>hld S (aa Q 79 O3 2) fun O4=>aJ Q 76 1 #[(0,O0)] (fun O1=>dB S fun S=>blt Q Builtin.append #[76,76] 76 #[false,false] #[N8,O1] fun O2=>dB S fun S w=>hld S (af Q 77 O4 N0) fun O5=>sto Q 76 O5 O2 (fun _=>K (ci 0)) w) w) w.drew) w.drew) :
  aM K (l0::e1::l2::e3::A2::k_5::p6::i7::n8::r9::f10::A9::C0::C1::C2::C3::C4::C5::C6::C7::C8::C9::D0::D1::D2::D3::D4::D5::D6::D7::D8::D9::E0::E1::E2::E3::E4::E5::E6::E7::E8::E9::F0::F1::F2::F3::F4::F5::F6::F7::F8::F9::G0::G1::G2::G3::G4::G5::G6::G7::G8::G9::H0::H1::H2::H3::H4::H5::H6::H7::H8::H9::I0::I1::I2::I3::I4::I5::I6::I7::I8::I9::J0::J1::J2::J3::J4::J5::J6::J7::J8::J9::L0::L1::L2::L3::L4::L5::L6::L7::L8::L9::M0::M1::M2::M3::M4::M5::M6::M7::M8::M9::N0::N1::N2::N3::N4::N5::N6::N7::N8::N9::O0::O1::O2::O3::O4::O5::[]) w:=by
 delta aM
 revert h
 exact fun h=>Eq.mp (by kernel_rfl) h
theorem m8 {K:KV} {B1:KE} {w:World}
  (h:bin Q BinOp.add 3 false true i7 (ci 1) (fun G4=>B1 (l0::e1::l2::e3::A2::k_5::p6::G4::n8::r9::f10::A9::C0::C1::C2::C3::C4::C5::C6::C7::C8::C9::D0::D1::D2::D3::D4::D5::D6::D7::D8::D9::E0::E1::E2::E3::E4::E5::E6::E7::E8::E9::F0::F1::F2::F3::F4::F5::F6::F7::F8::F9::G0::G1::G2::i7::G4::G5::G6::G7::G8::G9::H0::H1::H2::H3::H4::H5::H6::H7::H8::H9::I0::I1::I2::I3::I4::I5::I6::I7::I8::I9::J0::J1::J2::J3::J4::J5::J6::J7::J8::J9::L0::L1::L2::L3::L4::L5::L6::L7::L8::L9::M0::M1::M2::M3::M4::M5::M6::M7::M8::M9::N0::N1::N2::N3::N4::N5::N6::N7::N8::N9::O0::O1::O2::O3::O4::O5::[])) w) :
  bZ K B1 (l0::e1::l2::e3::A2::k_5::p6::i7::n8::r9::f10::A9::C0::C1::C2::C3::C4::C5::C6::C7::C8::C9::D0::D1::D2::D3::D4::D5::D6::D7::D8::D9::E0::E1::E2::E3::E4::E5::E6::E7::E8::E9::F0::F1::F2::F3::F4::F5::F6::F7::F8::F9::G0::G1::G2::G3::G4::G5::G6::G7::G8::G9::H0::H1::H2::H3::H4::H5::H6::H7::H8::H9::I0::I1::I2::I3::I4::I5::I6::I7::I8::I9::J0::J1::J2::J3::J4::J5::J6::J7::J8::J9::L0::L1::L2::L3::L4::L5::L6::L7::L8::L9::M0::M1::M2::M3::M4::M5::M6::M7::M8::M9::N0::N1::N2::N3::N4::N5::N6::N7::N8::N9::O0::O1::O2::O3::O4::O5::[]) w:=by
 delta bZ
 revert h
 generalize (aM K)=qc0
 exact fun h=>Eq.mp (by kernel_rfl) h
attribute [irreducible] dZ aM ed bZ ca
end
end Go.Proofs.YtgpfkmdknlcemaaGreatDoor
namespace Go.Proofs.YtgpfkmdknlcemaaGreatDoor
set_option maxRecDepth 100000
open Go.RowKit
def grC (x:GR):List Value:=[iv x.o,u6 x.q,u6 x.n,iv x.a,u6 x.b]
theorem fO (x:GR):(grC x).length=5:=rfl
theorem nm (x:GR):∀ v ∈ grC x,v.oneCell'=true:=by simp [grC,u6,iv,Value.oneCell']
def ndE (x:ND):List Value:=u6 x.id::u6 x.par::(List.range 54).map fun j=>iv (x.A.getD j 0)
theorem cZ (x:ND):(ndE x).length=56:=by simp [ndE]
theorem pf (x:ND):∀ v ∈ ndE x,v.oneCell'=true:=by simp [ndE,u6,iv,Value.oneCell']
theorem rV {x:ND} (h:x.A.length=54):(List.range 54).map (fun j=>iv (x.A.getD j 0))=x.A.map iv:=by
 apply List.ext_getElem
 ·simp [h]
 ·intro i h1 h2
  simp at h1 h2
  simp [List.getD,h2]
theorem vx {x:ND} (h:x.A.length=54):ndE x=ndC x:=by unfold ndE ndC; rw [rV h]; rfl
structure LG where
 s:STA
 G:List GR
 T:List (Int × Int)
 R:List (List Int)
 t:Nat
 q:List Value
 ga:Option Addr
 gc:Nat
def lgC (l:LG):List Value:=saC l.s++(.pointer (some ⟨l.t,0,none⟩)::l.q)
structure LM (w:World) (B p:Nat) (l:LG):Prop where
 i6:l.s.I.length=6
 l6:l.s.L.length=6
 v6:l.s.V.length=6
 q6:l.q.length=6
 r6:l.R.length=6
 A54:∀ x ∈ l.s.nodes,x.A.length=54
 cl:blk w p 79 (lgC l)
 lo:B≤p
 gv:l.s.gv=.slice l.ga l.G.length l.gc
 nd:w.ownsRow B 38 56 (.slice l.s.na l.s.nodes.length l.s.nc) l.s.nodes.length (l.s.nodes.flatMap ndE)
 gr:w.ownsRow B 100 5 (.slice l.ga l.G.length l.gc) l.G.length (l.G.flatMap grC)
 tm:TM w B l.t l.T
 rq:∀ k,k < 6→∃ a c,l.q[k]? = some (.slice a (l.R.getD k []).length c)∧w.ownsRow B 24 1 (.slice a (l.R.getD k []).length c) (l.R.getD k []).length ((l.R.getD k []).flatMap uC)
 ne:∀ (j k:Nat) (v v':Value) (b:Nat),j≠k→l.q[j]? = some v→l.q[k]? = some v'→v.ownBlock=some b→v'.ownBlock≠some b
section
variable {w w':World} {B p:Nat} {l:LG}
theorem LM.sl (h:LM w B p l):(saC l.s).length=20:=by simp [saC,h.i6,h.l6,h.v6]
theorem LM.ll (h:LM w B p l):(lgC l).length=27:=by simp [lgC,h.sl,h.q6]
theorem LM.fresh (h:LM w B p l) (hb:Below w.heap.size w w'):LM w' B p l :=
 { h with
  cl:=ae hb h.cl h.cl.lt
  nd:=bj h.nd fun k hk=>hb.block k (World.ownsRow.lt h.nd k hk).2
  gr:=bj h.gr fun k hk=>hb.block k (World.ownsRow.lt h.gr k hk).2
  tm:=h.tm.fresh hb
  rq:=fun k hk=>by
   obtain ⟨a,c,h1,h2⟩:=h.rq k hk
   exact ⟨a,c,h1,bj h2 fun k hk=>hb.block k (World.ownsRow.lt h2 k hk).2⟩ }
theorem LM.mono {B':Nat} (h:LM w B p l) (hB:B'≤B):LM w B' p l :=
 { h with
  lo:=Nat.le_trans hB h.lo
  nd:=⟨h.nd.1,h.nd.2.imp id fun ⟨g,cap,cur,a,b,r⟩=>⟨g,cap,cur,a,Nat.le_trans hB b,r⟩⟩
  gr:=⟨h.gr.1,h.gr.2.imp id fun ⟨g,cap,cur,a,b,r⟩=>⟨g,cap,cur,a,Nat.le_trans hB b,r⟩⟩
  tm:=by
   obtain ⟨a,c,h1,h2⟩:=h.tm.row
   exact ⟨⟨a,c,h1,⟨h2.1,h2.2.imp id fun ⟨g,cap,cur,a,b,r⟩=>⟨g,cap,cur,a,Nat.le_trans hB b,r⟩⟩⟩,Nat.le_trans hB h.tm.lo⟩
  rq:=fun k hk=>by
   obtain ⟨a,c,h1,h2⟩:=h.rq k hk
   exact ⟨a,c,h1,⟨h2.1,h2.2.imp id fun ⟨g,cap,cur,a,b,r⟩=>⟨g,cap,cur,a,Nat.le_trans hB b,r⟩⟩⟩ }
theorem vy (h:LM w B p l) {k:Nat} (hk:k < 20):(lgC l)[k]? = (saC l.s)[k]? := by
 unfold lgC
 rw [List.getElem?_append_left (by rw [h.sl]; exact hk)]
theorem Io {s:STA} (h:s.I.length=6) {k:Nat} (hk:k < 6):(saC s)[k]? = some (.bool (s.I.getD k false)):=by
 unfold saC
 rw [List.append_assoc,List.append_assoc,List.getElem?_append_left (by simp; omega),List.getElem?_map,List.getElem?_eq_getElem (by omega)]
 simp [List.getD,show k < s.I.length by omega]
theorem Ip {s:STA} (h:s.I.length=6) (h2:s.L.length=6) {k:Nat} (hk:k < 6):(saC s)[6+k]? = some (.bool (s.L.getD k false)):=by
 unfold saC
 rw [List.append_assoc,List.append_assoc,List.getElem?_append_right (by simp; omega),List.getElem?_append_left (by simp; omega),List.getElem?_map]
 rw [show 6+k - (s.I.map Value.bool).length=k by simp; omega,List.getElem?_eq_getElem (by omega)]
 simp [List.getD,show k < s.L.length by omega]
theorem Iq {s:STA} (h:s.I.length=6) (h2:s.L.length=6) (h3:s.V.length=6) {k:Nat} (hk:k < 6):(saC s)[12+k]? = some (u6 (s.V.getD k 0)):=by
 unfold saC
 rw [List.append_assoc,List.getElem?_append_right (by simp; omega),List.getElem?_append_left (by simp; omega),List.getElem?_map]
 rw [show 12+k - (s.I.map Value.bool++s.L.map Value.bool).length=k by simp; omega,List.getElem?_eq_getElem (by omega)]
 simp [List.getD,show k < s.V.length by omega,u6]
theorem LM.cI (h:LM w B p l) {k:Nat} (hk:k < 6):(lgC l)[k]? = some (.bool (l.s.I.getD k false)):=by rw [vy h (by omega),Io h.i6 hk]
theorem LM.cL (h:LM w B p l) {k:Nat} (hk:k < 6):(lgC l)[6+k]? = some (.bool (l.s.L.getD k false)):=by rw [vy h (by omega),Ip h.i6 h.l6 hk]
theorem LM.cV (h:LM w B p l) {k:Nat} (hk:k < 6):(lgC l)[12+k]? = some (u6 (l.s.V.getD k 0)):=by rw [vy h (by omega),Iq h.i6 h.l6 h.v6 hk]
theorem LM.cN (h:LM w B p l):(lgC l)[18]? = some (.slice l.s.na l.s.nodes.length l.s.nc):=by
 rw [vy h (by omega)]
 unfold saC
 rw [List.getElem?_append_right (by simp [h.i6,h.l6,h.v6])]
 simp [h.i6,h.l6,h.v6]
theorem LM.cG (h:LM w B p l):(lgC l)[19]? = some (.slice l.ga l.G.length l.gc):=by
 rw [vy h (by omega), ← h.gv]
 unfold saC
 rw [List.getElem?_append_right (by simp [h.i6,h.l6,h.v6])]
 simp [h.i6,h.l6,h.v6]
theorem LM.cT (h:LM w B p l):(lgC l)[20]? = some (.pointer (some ⟨l.t,0,none⟩)):=by
 unfold lgC
 rw [List.getElem?_append_right (by rw [h.sl]; omega),h.sl]
 rfl
theorem LM.cQ (h:LM w B p l) {k:Nat}:(lgC l)[21+k]? = l.q[k]? := by
 unfold lgC
 rw [List.getElem?_append_right (by rw [h.sl]; omega),h.sl,show 21+k - 20=k+1 by omega,List.getElem?_cons_succ]
theorem LM.cutS (h:LM w B p l):((lgC l).drop 0).take 20=saC l.s:=by
 unfold lgC
 rw [List.drop_zero,List.take_append_of_le_length (Nat.le_of_eq h.sl.symm),List.take_of_length_le (Nat.le_of_eq h.sl)]
theorem LM.cutV (h:LM w B p l):((lgC l).drop 12).take 6=l.s.V.map u6:=by
 unfold lgC saC
 rw [show (12:Nat)=(l.s.I.map Value.bool++l.s.L.map Value.bool).length by simp [h.i6,h.l6],List.append_assoc,List.append_assoc,List.drop_left',List.take_append_of_le_length (by simp [h.v6]),List.take_of_length_le (by simp [h.v6])]
 ·rfl
 ·rfl
theorem LM.nr (h:LM w B p l):NR w l.s.na l.s.nodes.length l.s.nc l.s.nodes:=by
 refine ⟨rfl, ?_, ?_,h.A54, ?_⟩
 ·rcases h.nd.2 with ⟨h1,h2⟩ | ⟨g,cap,cur,hv,_,_,hn,_⟩
  ·omega
  ·simp only [Value.slice.injEq] at hv
   omega
 ·intro h0
  obtain ⟨g,cur,ha,_⟩:=aZ h.nd h0
  exact ⟨g,0,ha⟩
 ·intro i x hx b o ha j u hu
  have hi:i < l.s.nodes.length:=(List.getElem?_eq_some_iff.1 hx).1
  obtain ⟨g,cur,ha',op⟩:=aZ h.nd (by omega)
  rw [ha'] at ha
  cases ha
  rw [← vx (h.A54 x (List.mem_of_getElem? hx))] at hu
  have hj:j < 56:=by rw [← cZ x]; exact (List.getElem?_eq_some_iff.1 hu).1
  rw [op.blk.cell,Nat.zero_add,op.cell cZ rfl hx hj]
  exact hu
theorem LM.sk (h:LM w B p l) (hf:l.s.nodes.length≤1000000):SK w l.s :=
 ⟨h.i6,h.l6,h.v6,h.nr,hf,by rw [h.gv]; rfl⟩
end
theorem aA {w:World} {K:KV} {b o:Nat} (h:K (.pointer (some ⟨b,o+0,none⟩)) w):aa Tryz.prog 79 (.pointer (some ⟨b,o,none⟩)) 0 K w:=aq (by kernel_rfl) h
theorem kT {w:World} {K:KV} {b o:Nat} (h:K (.pointer (some ⟨b,o+20,none⟩)) w):aa Tryz.prog 79 (.pointer (some ⟨b,o,none⟩)) 1 K w:=aq (by kernel_rfl) h
theorem iJ {w:World} {K:KV} {b o:Nat} (h:K (.pointer (some ⟨b,o+21,none⟩)) w):aa Tryz.prog 79 (.pointer (some ⟨b,o,none⟩)) 2 K w:=aq (by kernel_rfl) h
theorem pT {w:World} {K:KV} {b o:Nat} (h:K (.pointer (some ⟨b,o+0,none⟩)) w):aa Tryz.prog 100 (.pointer (some ⟨b,o,none⟩)) 0 K w:=aq (by kernel_rfl) h
theorem zq {w:World} {K:KV} {b o:Nat} (h:K (.pointer (some ⟨b,o+1,none⟩)) w):aa Tryz.prog 100 (.pointer (some ⟨b,o,none⟩)) 1 K w:=aq (by kernel_rfl) h
theorem Fd {w:World} {K:KV} {b o:Nat} (h:K (.pointer (some ⟨b,o+2,none⟩)) w):aa Tryz.prog 100 (.pointer (some ⟨b,o,none⟩)) 2 K w:=aq (by kernel_rfl) h
theorem Fe {w:World} {K:KV} {b o:Nat} (h:K (.pointer (some ⟨b,o+3,none⟩)) w):aa Tryz.prog 100 (.pointer (some ⟨b,o,none⟩)) 3 K w:=aq (by kernel_rfl) h
theorem Ff {w:World} {K:KV} {b o:Nat} (h:K (.pointer (some ⟨b,o+4,none⟩)) w):aa Tryz.prog 100 (.pointer (some ⟨b,o,none⟩)) 4 K w:=aq (by kernel_rfl) h
attribute [local irreducible] bin un conv call bl blt slc aa fld af idx lkp bL bP eSt rng nxt ent ext alc box bld aJ ld sto aj bm mkS ifc pick rdy wts au sti cond aH Gives ac aW bA cOp
section
variable {w:World} {K:KV} {B p:Nat} {l:LG}
theorem tq {id:Int} (hl:LM w B p l) (hn:l.s.nodes.length≤1000000) (h:K (.int .i64 (fdN l.s.nodes id)) w):call Tryz.prog 81 #[.pointer (some ⟨p,0,none⟩),.int .u64 id] K w:=by
 refine aE nF (nE ?_)
 refine mF (Inv:=fun i wr => ∃ k:Nat,i=.int .i64 (k:Nat)∧k≤l.s.nodes.length∧wr=w∧∀ j y,j < k→l.s.nodes[j]? = some y→y.id≠id) (μ:=fun i _=>l.s.nodes.length - (intOf i).toNat) ⟨0,rfl,by omega,rfl,fun j y hj=>by omega⟩ ?_
 rintro _ dd wr m ⟨k,rfl,hk,rfl,hall⟩ hm
 refine ak ?_
 refine aA ?_
 refine aU ?_
 refine ld1 (v:=.slice l.s.na l.s.nodes.length l.s.nc) (fun _=>by kernel_rfl) hl.cl hl.cN ?_
 refine aI Tryz.underlying27 ?_
 refine aD ?_
 by_cases hkn:k < l.s.nodes.length
 ·refine ai (by omega) ?_
  refine ak ?_
  refine aA ?_
  refine aU ?_
  refine ld1 (v:=.slice l.s.na l.s.nodes.length l.s.nc) (fun _=>by kernel_rfl) hl.cl hl.cN ?_
  have hx:l.s.nodes[k]? = some l.s.nodes[k]:=List.getElem?_eq_getElem hkn
  generalize l.s.nodes[k]=x at hx
  refine rd3 (enc:=ndE) (s:=56) (f':=0) (v:=u6 x.id) Tryz.underlying27 (fun _=>by kernel_rfl) cZ (fun _=>by kernel_rfl) (by kernel_rfl) (by omega) hl.nd rfl hx rfl fun _ _ => ?_
  refine aN ?_
  by_cases he:x.id=id
  ·refine ai he ?_
   have hp:=xh hx he hall
   unfold fdN at h
   rw [hp,if_pos hkn] at h
   exact h
  ·refine ag he ?_
   refine aF (by omega) (by omega) ?_
   refine ⟨⟨k+1,congrArg (Value.int .i64) (by push_cast; rfl),by omega,rfl,fun j y hj hy => ?_⟩,by rw [hm]; show l.s.nodes.length - ((k:Int)+1).toNat < l.s.nodes.length - (k:Int).toNat; omega⟩
   by_cases hjk:j=k
   ·subst hjk; rw [hx] at hy; cases hy; exact he
   ·exact hall j y (by omega) hy
 ·refine ag (by omega) ?_
  refine mG ?_
  have hp:=rX (L:=l.s.nodes) (id:=id) fun j y hy=>hall j y (by have:=(List.getElem?_eq_some_iff.1 hy).1; omega) hy
  unfold fdN at h
  rw [if_neg hp] at h
  exact h
theorem Fg {o q:Int} (hl:LM w B p l) (hn:l.G.length≤1000000) (h:∀ v:Int,(v < 0∨∃ k:Nat,v=k∧k < l.G.length)→K (.int .i64 v) w):call Tryz.prog 108 #[.pointer (some ⟨p,0,none⟩),.int .i64 o,.int .u64 q] K w:=by
 refine aE mO (mN ?_)
 refine lF (Inv:=fun i _ _ _ _ _ _ _ _ _ _ _ wr => ∃ k:Nat,i=.int .i64 (k:Nat)∧k≤l.G.length∧wr=w) (μ:=fun i _ _ _ _ _ _ _ _ _ _ _ _=>l.G.length - (intOf i).toNat) ⟨0,rfl,by omega,rfl⟩ ?_
 rintro _ _ _ _ _ _ _ _ _ _ _ _ dd wr m ⟨k,rfl,hk,rfl⟩ hm
 refine ak ?_
 refine aA ?_
 refine dA ?_
 refine ld1 (v:=.slice l.ga l.G.length l.gc) (fun _=>by kernel_rfl) hl.cl hl.cG ?_
 refine aI Tryz.underlying28 ?_
 refine aD ?_
 by_cases hkn:k < l.G.length
 ·refine ai (by omega) ?_
  refine ak ?_
  refine aA ?_
  refine dA ?_
  refine ld1 (v:=.slice l.ga l.G.length l.gc) (fun _=>by kernel_rfl) hl.cl hl.cG ?_
  have hx:l.G[k]? = some l.G[k]:=List.getElem?_eq_getElem hkn
  generalize l.G[k]=x at hx
  refine rd3 (enc:=grC) (s:=5) (f':=0) (v:=iv x.o) Tryz.underlying28 (fun _=>by kernel_rfl) fO (fun _=>by kernel_rfl) (by kernel_rfl) (by omega) hl.gr rfl hx rfl fun _ _ => ?_
  refine aN ?_
  by_cases he:x.o=o
  ·refine dz he ?_
   refine ak ?_
   refine aA ?_
   refine dA ?_
   refine ld1 (v:=.slice l.ga l.G.length l.gc) (fun _=>by kernel_rfl) hl.cl hl.cG ?_
   refine rd3 (enc:=grC) (s:=5) (f':=1) (v:=u6 x.q) Tryz.underlying28 (fun _=>by kernel_rfl) fO (fun _=>by kernel_rfl) (by kernel_rfl) (by omega) hl.gr rfl hx rfl fun _ _ => ?_
   refine aN ?_
   refine bp he ?_
   by_cases he2:x.q=q
   ·exact ai he2 (h k (.inr ⟨k,rfl,hkn⟩))
   ·refine ag he2 ?_
    refine aF (by omega) (by omega) ?_
    exact ⟨⟨k+1,congrArg (Value.int .i64) (by push_cast; rfl),by omega,rfl⟩,by rw [hm]; show l.G.length - ((k:Int)+1).toNat < l.G.length - (k:Int).toNat; omega⟩
  ·refine eK he ?_
   refine bt he ?_
   refine cW ?_
   refine aF (by omega) (by omega) ?_
   exact ⟨⟨k+1,congrArg (Value.int .i64) (by push_cast; rfl),by omega,rfl⟩,by rw [hm]; show l.G.length - ((k:Int)+1).toNat < l.G.length - (k:Int).toNat; omega⟩
 ·refine ag (by omega) ?_
  refine lG ?_
  exact h (-1) (.inl (by omega))
theorem ixQ {b o k:Nat} {i:Int} {K:KV} (hi:i=(k:Nat)) (hk:k < 6) (hK:K (.pointer (some ⟨b,o+k,none⟩)) w):af Tryz.prog 77 (.pointer (some ⟨b,o,none⟩)) (.int .i64 i) K w:=by
 subst hi
 exact aT Tryz.underlying77 (s:=1) (fun _=>by kernel_rfl) (by omega) (by omega) (by rw [Int.toNat_natCast,Nat.mul_one]; exact hK)
theorem zr {o q:Int} (hl:LM w B p l) (ho:1≤o∧o≤6) (hn:∀ k,k < 6→(l.R.getD k []).length≤1000000) (h:∀ v:Bool,K (.bool v) w):call Tryz.prog 105 #[.pointer (some ⟨p,0,none⟩),.int .i64 o,.int .u64 q] K w:=by
 refine aE mQ (mP ?_)
 obtain ⟨j,hj⟩:∃ j:Nat,j=(o - 1).toNat:=⟨_,rfl⟩
 obtain ⟨a,c,hq,hr⟩:=hl.rq j (by omega)
 have hn:=hn j (by omega)
 have hoj:o - 1=(j:Nat):=by omega
 generalize l.R.getD j []=rs at hr hq hn
 have hc:(lgC l)[21+j]? = some (.slice a rs.length c):=hl.cQ.trans hq
 refine lH (Inv:=fun i wr => ∃ k:Nat,i=.int .i64 (k:Nat)∧k≤rs.length∧wr=w) (μ:=fun i _=>rs.length - (intOf i).toNat) ⟨0,rfl,by omega,rfl⟩ ?_
 rintro _ dd wr m ⟨k,rfl,hk,rfl⟩ hm
 refine bo (by omega) (by omega) <|ak <|iJ <|ixQ hoj (by omega) <|ld1 (v:=.slice a rs.length c) (fun _=>by kernel_rfl) hl.cl (by rw [Nat.zero_add]; exact hc) <|aI Tryz.underlying76 <|aD ?_
 by_cases hkn:k < rs.length
 ·refine ai (by omega) <|bo (by omega) (by omega) <|ak <|iJ <|ixQ hoj (by omega) <|ld1 (v:=.slice a rs.length c) (fun _=>by kernel_rfl) hl.cl (by rw [Nat.zero_add]; exact hc) ?_
  have hx:rs[k]? = some rs[k]:=List.getElem?_eq_getElem hkn
  generalize rs[k]=x at hx
  obtain ⟨g,cur,rfl,op⟩:=aZ hr (by omega)
  refine bJ Tryz.underlying76 (s:=1) (fun _=>by kernel_rfl) (by omega) (by omega) ?_
  refine ld1 (v:=u6 x) (fun _=>by kernel_rfl) op.blk (by
   have:=op.cell (enc:=uC) (s:=1) (j:=0) (fun _=>rfl) rfl hx (by omega)
   rw [Int.toNat_natCast,Nat.zero_add]; exact this) ?_
  refine aN ?_
  by_cases he:x=q
  ·exact ai he (h true)
  ·refine ag he <|aF (by omega) (by omega) ?_
   exact ⟨⟨k+1,congrArg (Value.int .i64) (by push_cast; rfl),by omega,rfl⟩,by rw [hm]; show rs.length - ((k:Int)+1).toNat < rs.length - (k:Int).toNat; omega⟩
 ·refine ag (by omega) <|lI ?_
  exact h false
end
end Go.Proofs.YtgpfkmdknlcemaaGreatDoor
namespace Go.Proofs.YtgpfkmdknlcemaaGreatDoor
set_option maxRecDepth 100000
open Go.RowKit
section
variable {P:Program} {w w':World} {K:KV} {t:TypeId} {g B n c s:Nat} {e:TypeId} {v:Value} {xs:List Value}
theorem Ds {i:TypeInfo} {base:Nat} (ht:P.underlying t=some (.slice e)) (hi:P.info? e=some i) (hsize:i.size=s) (hbase:base≤w.heap.size)
  (h:∀ w',w'.ownsRow base e s (.slice (some ⟨w.heap.size,0,none⟩) 0 0) 0 []→Below w.heap.size w w'→K (.slice (some ⟨w.heap.size,0,none⟩) 0 0) w'):aJ P t 0 #[] K w:=by
 unfold aJ
 have ho:(w.alloc (.cells #[] e)).ownsRow base e s (.slice (some ⟨w.heap.size,0,none⟩) 0 0) 0 []:=by
  refine ⟨by simp,.inr ⟨w.heap.size,0,#[],rfl,hbase, ?_,Nat.le_refl _,Nat.zero_le _,by simp,by simp⟩⟩
  exact heap_alloc_new w (.cells #[] e)
 refine bF (w':=w.alloc (.cells #[] e)) (v:=.slice (some ⟨w.heap.size,0,none⟩) 0 0) ?_ (h _ ho (ce (World.grownBy_alloc _ _ none) (Nat.le_refl _) (fun k hk=>by cases hk)))
 have e0:∀ f:Nat→Value,(Array.range 0).map f=#[]:=fun f=>by apply Array.ext <;> simp
 simp [Instr.buildSlice,Instr.fill,run_underlying ht,sizeOf,typeInfo,hi,hsize,newRow,e0]
theorem yR {ty:TypeId} {cs:Array Bool} {base B0:Nat} {i:TypeInfo} {z:Value} {bytes:Nat} {av a:Option Addr} (ht:P.underlying t=some (.slice e)) (hi:P.info? e=some i) (hz:i.zero=some z)
  (hsize:i.size=s) (hby:i.bytes=bytes) (hzs:z.cells.size=s) (hs0:0 < s) (hown:w.ownsRow base e s (.slice av 0 0) 0 []) (src:w.ownsRow B0 e s (.slice a n c) n xs) (h1:∀ u ∈ xs,u.oneCell'=true)
  (hbytes:n * bytes≤140737488355328) (h63:n≤9223372036854775807) (hbase:base≤w.heap.size)
  (h:∀ a' c' w',w'.ownsRow base e s (.slice a' n c') n xs→w.grownBy w' (Value.slice av 0 0).ownBlock→Below base w w'→((Value.slice a' n c').ownBlock=(Value.slice av 0 0).ownBlock∨(Value.slice a' n c').ownBlock=some w.heap.size)→K (.slice a' n c') w') :
  blt P .append #[t,t] ty cs #[.slice av 0 0,.slice a n c] K w:=by
 by_cases hn0:n=0
 ·subst hn0
  have hxs:xs=[]:=List.eq_nil_of_length_eq_zero (by have:=src.1; omega)
  subst hxs
  refine gN (v:=.slice av 0 0) (w':=w) ?_ (h av 0 w hown ⟨rfl,rfl,rfl,Nat.le_refl _,fun _ _ _=>rfl⟩ (Below.refl _ _) (.inl rfl))
  rw [BigFrame.builtin_append]
  cases a with
  | none=>cases av <;> simp [Builtin.append_,run_underlying ht,sizeOf,typeInfo,hi,Builtin.lenOf,Builtin.firstCells,storeCells]
  | some ad=>cases av <;> simp [Builtin.append_,run_underlying ht,sizeOf,typeInfo,hi,Builtin.lenOf,Builtin.firstCells,storeCells,loadCells,loadCellsFrom]
 ·obtain ⟨g,cur,rfl,op⟩:=aZ src (by omega)
  have hn:∀ j u,xs[j]? = some u→w.cell? ((⟨g,0,none⟩:Addr).add j)=some u:=by
   intro j u hj
   rw [jI,op.blk.cell,Nat.zero_add]
   rw [← op.take,List.getElem?_take] at hj
   split at hj
   ·exact hj
   ·cases hj
  obtain ⟨v',w',hr,h2,h3,_,h5⟩:=run_append_own_at (P:=P) w base t ty e i z s bytes ht hi hz hsize hby hzs hs0 _ 0 [] hown ⟨g,0,none⟩ n c xs op.xl hn h1 (by simp only [maxLen]; omega) (by rw [Nat.zero_add]; exact hbytes) hbase
  rw [Nat.zero_add,List.nil_append] at h2
  obtain ⟨a',c',rfl⟩:∃ a' c',v'=.slice a' n c':=by
   rcases h2.2 with ⟨hv,hn⟩ | ⟨g,cap,cur,hv,_⟩
   ·exact ⟨none,0,by rw [hv,hn]⟩
   ·exact ⟨_,cap,hv⟩
  exact gN (by rw [BigFrame.builtin_append]; simp only [Sem.run_bind,hr,Result.andThen_ok,Sem.run_pure]) (h a' c' w' h2 h3 (ce h3 hbase (fun k hk=>(World.ownsRow.lt hown k hk).1)) h5)
end
section
variable {l:LG}
theorem zt (h1:l.s.I.length=6) (h2:l.s.L.length=6) (h3:l.s.V.length=6) {k:Nat} (hk:k < 6) (b:Bool):(lgC l).set k (.bool b)=lgC { l with s := { l.s with I:=l.s.I.set k b } }:=by
 unfold lgC saC
 simp only [List.append_assoc]
 rw [List.set_append_left _ _ (by simp; omega),List.map_set]
theorem Fh (h1:l.s.I.length=6) (h2:l.s.L.length=6) (h3:l.s.V.length=6) {k:Nat} (hk:k < 6) (b:Bool):(lgC l).set (6+k) (.bool b)=lgC { l with s := { l.s with L:=l.s.L.set k b } }:=by
 unfold lgC saC
 simp only [List.append_assoc]
 rw [List.set_append_right _ _ (by simp; omega),List.length_map,h1,show 6+k - 6=k by omega,List.set_append_left _ _ (by simp; omega),List.map_set]
theorem Fi (h1:l.s.I.length=6) (h2:l.s.L.length=6) (h3:l.s.V.length=6) {k:Nat} (hk:k < 6) (x:Int):(lgC l).set (12+k) (u6 x)=lgC { l with s := { l.s with V:=l.s.V.set k x } }:=by
 unfold lgC saC
 simp only [List.append_assoc]
 rw [List.set_append_right _ _ (by simp; omega),List.length_map,h1,show 12+k - 6=6+k by omega,List.set_append_right _ _ (by simp; omega),List.length_map,h2,show 6+k - 6=k by omega,List.set_append_left _ _ (by simp; omega),List.map_set]
 rfl
theorem pU (h1:l.s.I.length=6) (h2:l.s.L.length=6) (h3:l.s.V.length=6) (N:List ND) (a:Option Addr) (c:Nat):(lgC l).set 18 (.slice a N.length c)=lgC { l with s := { l.s with nodes:=N,na:=a,nc:=c } }:=by
 unfold lgC saC
 simp only [List.append_assoc]
 rw [List.set_append_right _ _ (by simp; omega),List.length_map,h1,show 18 - 6=12 by omega,List.set_append_right _ _ (by simp; omega),List.length_map,h2,show 12 - 6=6 by omega,List.set_append_right _ _ (by simp; omega),List.length_map,h3]
 rfl
theorem uH (h1:l.s.I.length=6) (h2:l.s.L.length=6) (h3:l.s.V.length=6) (G:List GR) (a:Option Addr) (c:Nat):(lgC l).set 19 (.slice a G.length c)=lgC { l with s := { l.s with gv:=.slice a G.length c },G:=G,ga:=a,gc:=c }:=by
 unfold lgC saC
 simp only [List.append_assoc]
 rw [List.set_append_right _ _ (by simp; omega),List.length_map,h1,show 19 - 6=13 by omega,List.set_append_right _ _ (by simp; omega),List.length_map,h2,show 13 - 6=7 by omega,List.set_append_right _ _ (by simp; omega),List.length_map,h3]
 rfl
theorem zu (h1:l.s.I.length=6) (h2:l.s.L.length=6) (h3:l.s.V.length=6) {k:Nat} (v:Value):(lgC l).set (21+k) v=lgC { l with q:=l.q.set k v }:=by
 have hs:(saC l.s).length=20:=by simp [saC,h1,h2,h3]
 unfold lgC
 rw [List.set_append_right _ _ (by omega),hs,show 21+k - 20=k+1 by omega,List.set_cons_succ]
theorem tt (h1:l.s.I.length=6) (h2:l.s.L.length=6) (h3:l.s.V.length=6) (h4:l.q.length=6):(lgC l).length=27:=by simp [lgC,saC,h1,h2,h3,h4]
end
theorem pV {α:Type} {L:List α} (h:L.length=6):∃ a b c d e f,L=[a,b,c,d,e,f]:=by
 match L,h with
 | [a,b,c,d,e,f],_=>exact ⟨a,b,c,d,e,f,rfl⟩
end Go.Proofs.YtgpfkmdknlcemaaGreatDoor
namespace Go.Proofs.YtgpfkmdknlcemaaGreatDoor
set_option maxRecDepth 100000
open Go.RowKit
structure GI (l:LG) (m:Nat):Prop where
 tk:∃ rk,TK l.T rk
 nt:∀ x ∈ l.T, ∃ y ∈ l.s.nodes,y.id=x.1
 nn:l.s.nodes.length≤m
 gn:l.G.length≤m
 tn:l.T.length≤m
 rn:∀ k,k < 6→(l.R.getD k []).length≤m
 vb:∀ k,k < 6→0≤l.s.V.getD k 0∧l.s.V.getD k 0 < 1099511627776
 gr:∀ x ∈ l.G, -9223372036854775808≤x.a∧x.a≤9223372036854775807
theorem GI.mono {l:LG} {m m':Nat} (h:GI l m) (hm:m≤m'):GI l m' :=
 ⟨h.tk,h.nt,Nat.le_trans h.nn hm,Nat.le_trans h.gn hm,Nat.le_trans h.tn hm,fun k hk=>Nat.le_trans (h.rn k hk) hm,h.vb,h.gr⟩
def fu:Value:=.slice none 0 0
def uI:List Value:=List.replicate 6 fu
def lg0 (t:Nat) (I:List Bool):LG:=⟨⟨I,List.replicate 6 false,List.replicate 6 0,[],none,0,.slice none 0 0⟩,[],[],List.replicate 6 [],t,uI,none,0⟩
theorem Bk {k:Nat} {v:Value} (h:uI[k]? = some v):v=fu:=by
 have:=List.mem_of_getElem? h
 exact List.eq_of_mem_replicate this
theorem lm0 {w:World} {B p t:Nat} {I:List Bool} (hI:I.length=6) (hc:blk w p 79 (lgC (lg0 t I))) (ht:blk w t 140 [fu]) (hp:B≤p) (hb:B≤t):LM w B p (lg0 t I) where
 i6:=hI
 l6:=rfl
 v6:=rfl
 q6:=rfl
 r6:=rfl
 A54:=by simp [lg0]
 cl:=hc
 lo:=hp
 gv:=rfl
 nd:=World.ownsRow_nil _ _ _ _
 gr:=World.ownsRow_nil _ _ _ _
 tm:=⟨⟨none,0,ht,World.ownsRow_nil _ _ _ _⟩,hb⟩
 rq:=fun k hk=>by
  have e:(lg0 t I).R.getD k []=[]:=by
   show (List.replicate 6 ([]:List Int)).getD k []=[]
   rw [List.getD_eq_getElem?_getD,List.getElem?_replicate]
   split <;> rfl
  rw [e]
  refine ⟨none,0, ?_,World.ownsRow_nil _ _ _ _⟩
  show uI[k]? = some fu
  unfold uI
  rw [List.getElem?_replicate,if_pos hk]
 ne:=fun j k v v' b hjk hj hk hb=>by
  rw [Bk hj] at hb
  cases hb
theorem gi0 {t:Nat} {I:List Bool}:GI (lg0 t I) 0 :=
 ⟨⟨_,TK.nil⟩,by simp [lg0],Nat.le_refl _,Nat.le_refl _,Nat.le_refl _,fun k hk=>by
  have e:(lg0 t I).R.getD k []=[]:=by
   show (List.replicate 6 ([]:List Int)).getD k []=[]
   rw [List.getD_eq_getElem?_getD,List.getElem?_replicate]
   split <;> rfl
  rw [e]; exact Nat.le_refl _,fun k hk=>by
  have e:(lg0 t I).s.V.getD k 0=0:=by
   show (List.replicate 6 (0:Int)).getD k 0=0
   rw [List.getD_eq_getElem?_getD,List.getElem?_replicate]
   split <;> rfl
  rw [e]; omega,by simp [lg0]⟩
attribute [local irreducible] bin un conv call bl blt slc aa fld af idx lkp bL bP eSt rng nxt ent ext alc box bld aJ ld sto aj bm mkS ifc pick rdy wts au sti cond aH Gives ac aW bA cOp
section
variable {w:World} {K:KV} {B p:Nat} {l:LG}
theorem ixB {b o k:Nat} {i:Int} {K:KV} (hi:i=(k:Nat)) (hk:k < 6) (hK:K (.pointer (some ⟨b,o+k,none⟩)) w):af Tryz.prog 23 (.pointer (some ⟨b,o,none⟩)) (.int .i64 i) K w:=by
 subst hi
 exact aT Tryz.underlying23 (s:=1) (fun _=>by kernel_rfl) (by omega) (by omega) (by rw [Int.toNat_natCast,Nat.mul_one]; exact hK)
theorem Ir {n:Nat} (h1:1≤n) (h6:n≤6) (h:∀ w' p l,LM w' w.heap.size p l→GI l 0→l.s.V=List.replicate 6 0→Below w.heap.size w w'→K (.tuple #[.pointer (some ⟨p,0,none⟩),.int .i64 0]) w'):call Tryz.prog 33 #[.int .i64 (n:Nat)] K w:=by
 refine aE uG (uF ?_)
 refine aD ?_
 refine cE (by omega) ?_
 refine cD ?_
 refine bt (by omega) ?_
 refine ag (by omega) ?_
 refine eE (vs:=[fu]) (by kernel_rfl) ?_
 refine bh fun w1 ht b1 s1 => ?_
 have ht:blk w1 w.heap.size 140 [fu]:=by simpa [Value.cells] using ht
 refine eE (vs:=lgC (lg0 w.heap.size (List.replicate 6 false))) (by kernel_rfl) ?_
 refine bh fun w2 hc b2 s2 => ?_
 have hc:blk w2 w1.heap.size 79 (lgC (lg0 w.heap.size (List.replicate 6 false))):=by simpa [Value.cells] using hc
 have ht:=ae b2 ht ht.lt
 have bb:Below w.heap.size w w2:=b1.trans (b2.mono (by omega))
 rw [s1] at hc ⊢
 refine rT (Inv:=fun i wr => ∃ (k:Nat) (I:List Bool),i=.int .i64 (k:Nat)∧k≤n∧I.length=6∧blk wr (w.heap.size+1) 79 (lgC (lg0 w.heap.size I))∧blk wr w.heap.size 140 [fu]∧Below w.heap.size w wr) (μ:=fun i _=>n - (intOf i).toNat) ⟨0,_,rfl,by omega,rfl,hc,ht,bb⟩ ?_
 rintro _ dd w3 m ⟨k,I,rfl,hk,hI,hc3,ht3,bb3⟩ hm
 refine aD ?_
 by_cases hkn:k < n
 ·refine ai (by omega) ?_
  refine ak ?_
  refine aA ?_
  refine kX ?_
  refine ixB rfl (by omega) ?_
  refine eD (fun _=>by kernel_rfl) hc3 (by rw [tt hI rfl rfl rfl]; omega) rfl fun w4 hc4 o4 => ?_
  refine aF (by omega) (by omega) ?_
  have e:(lgC (lg0 w.heap.size I)).set (0+0+0+k) (.bool true)=lgC (lg0 w.heap.size (I.set k true)):=by
   rw [show 0+0+0+k=k by omega,zt (l:=lg0 w.heap.size I) hI rfl rfl (by omega)]; rfl
  have hc5:blk w4 (w.heap.size+1) 79 (lgC (lg0 w.heap.size (I.set k true))):=by rw [← e]; simpa using hc4
  exact ⟨⟨k+1,I.set k true,congrArg (Value.int .i64) (by push_cast; rfl),by omega,by rw [List.length_set,hI],hc5,o4.blk ht3 (by omega),bN bb3 o4 (by omega)⟩,by rw [hm]; show n - ((k:Int)+1).toNat < n - (k:Int).toNat; omega⟩
 ·refine ag (by omega) ?_
  refine rU ?_
  exact h w3 _ _ (lm0 hI hc3 ht3 (by omega) (Nat.le_refl _)) gi0 rfl bb3
end
end Go.Proofs.YtgpfkmdknlcemaaGreatDoor
