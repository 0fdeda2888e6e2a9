import Derived.Test.YtkfgimlaijifaaaGreatDoorQ10
import Derived.Test.YtkfgimlaijifaaaGreatDoorQ13
import Derived.Test.YtkfgimlaijifaaaGreatDoorQ4
import Derived.Test.YtkfgimlaijifaaaGreatDoorQ14
import Derived.Test.YtkfgimlaijifaaaGreatDoorQ2
import Derived.Test.YtkfgimlaijifaaaGreatDoorQ11
import Derived.Test.YtkfgimlaijifaaaGreatDoorQ6
import Derived.Test.YtkfgimlaijifaaaGreatDoorQ1
import Derived.Test.YtkfgimlaijifaaaGreatDoorRows
import Derived.WalkKit
import Derived.ProofKit
import Derived.OpenShut
import Derived.ShutString
import Derived.ChangeOld
import Derived.Below
import Derived.JoinedCond
import Derived.Deep.Matrix
import Derived.LaidMore
import Derived.LaidHandle
import Derived.Stop.Joined
import Derived.Deep.Slices
import Derived.Test.YtkfgimlaijifaaaGreatDoorQ12
namespace Go.Proofs.YtkfgimlaijifaaaGreatDoor
set_option maxRecDepth 100000
set_option maxHeartbeats 4000000
open Go.Proofs.Tryz
variable {w w' w0:World}{K:KV}{zf:Nat→Value}{b c n o k B i p g m j s z c2 eb f d D B2 Bw hi:Nat}{a av a2:Option Addr}{x r v:Int}{A M0:List Int}{E t e:TypeId}{cs xs vs:List Value}{B1:KE}{P:Program}{L:List (Int×Int)}{C:Nat→Int}{cx cy:Bool}{F:List Nat}{P0:List Value→World→Prop}{V0 W0 X0 Y0 Z0 H1 I1 Q1:Value}
section
attribute [local irreducible] bin un conv call aZ blt slc ai fld aL idx lkp cP eP eSt rng nxt ent ext alc box bld bg ld sto aJ cr mkS ifc pick rdy wts aG sti cond aV Gives ah dy dP cOp
section
open Go.RowKit
theorem VZ {t:STA}(h:t.I.length=6)(j:t.L.length=6)(u:t.V.length=6):((saC t).drop 0).take 6=t.I.map .bool∧((saC t).drop 6).take 6=t.L.map .bool∧((saC t).drop 12).take 6=vCs t.V:=by
 obtain⟨I,L,V,N,J,M,C⟩:=t;obtain⟨_,_,_,_,_,_,rfl⟩:=sR h;obtain⟨_,_,_,_,_,_,rfl⟩:=sR j;obtain⟨_,_,_,_,_,_,rfl⟩:=sR u;exact⟨rfl,rfl,rfl⟩
theorem GD {I:List Bool}(h:I.length=6):jf Q 3 54 (I.map .bool)=true:=by
 obtain⟨_,_,_,_,_,_,rfl⟩:=sR h
 kernel_rfl
theorem zae {x:ND}(h:x.A.length=54):jf Q 6 79 (ndC x)=true:=by
 rw[←LF h]
 kernel_rfl
theorem RP (g:GR):jf Q 3 121 (grC g)=true:=by kernel_rfl
theorem ze1 {u t2:STA}{G:List GR}(C:SK w u)(k2:SK w t2)(eI:t2.I=u.I)(eL:t2.L=u.L)(eV:t2.V=u.V)(eN:t2.nodes=u.nodes)(v1:u.gv=.slice a G.length c)(v2:t2.gv=.slice av G.length c2)(r1:w.ownsRow b 121 5 (.slice a G.length c) G.length (G.flatMap grC))(r2:w.ownsRow B2 121 5 (.slice av G.length c2) G.length (G.flatMap grC))(hG:G.length≤1000000)(h:∀w',Below w.heap.size w w'→K cT w'):call Q 16 #[.agg (saC u).toArray,.agg (saC t2).toArray] K w:=by
 have ap:∀t:STA,(Value.agg (saC t).toArray).cells.toList=saC t:=fun t=>by simp[Value.cells]
 obtain⟨a1,a2,a3⟩:=VZ C.i6 C.l6 C.v6;obtain⟨b1,b2,b3⟩:=VZ k2.i6 k2.l6 k2.v6;rw[eI]at b1;rw[eL]at b2;rw[eV]at b3;refine ak (goK func16) (Na (br fun w1 O l1 s1=>br fun w2 z2 l2 s2=>?_));rw[ap]at O z2;have O:=ae l2 O O.lt;have M:=l1.trans (l2.mono l1.size);have az:=C.bel M oA;have aS:=k2.bel M oA;have U:=MC C.i6 C.l6 C.v6
 have Z:=MC k2.i6 k2.l6 k2.v6;have J:=VY C.i6 C.l6 C.v6;have aa:=VY k2.i6 k2.l6 k2.v6;rw[eN]at Z;rw[v1]at J;rw[v2]at aa;refine AU (ldA (n:=6) (vs:=u.I.map .bool) underlying54 rfl kr O a1 (by simp[C.i6]) (AU (ldA (n:=6) (vs:=u.I.map .bool) underlying54 rfl kr z2 b1 (by simp[C.i6]) ?_)))
 refine AI 3 oo kr kr (GD C.i6) (GD C.i6) fun r hr=>?_;rw[hr.2 rfl];refine iZ (IQ (ldA (n:=6) (vs:=u.L.map .bool) underlying54 rfl kr O a2 (by simp[C.l6]) (IQ (ldA (n:=6) (vs:=u.L.map .bool) underlying54 rfl kr z2 b2 (by simp[C.l6]) ?_))));refine AI 3 oo kr kr (GD C.l6) (GD C.l6) fun r hr=>?_
 rw[hr.2 rfl];refine dh (iZ (qo (ldA (n:=6) (vs:=vCs u.V) underlying33 rfl kr O a3 (by rw[bo];exact C.v6) (qo (ldA (n:=6) (vs:=vCs u.V) underlying33 rfl kr z2 b3 (by rw[bo];exact C.v6) ?_)))));refine AI 3 oo kr kr (MF C.v6) (MF C.v6) fun r hr=>?_;rw[hr.2 rfl]
 refine dh (iZ (dS (lK (v:=.slice u.na u.nodes.length u.nc) O U (bh underlying55 (dS (lK (v:=.slice t2.na u.nodes.length t2.nc) z2 Z (bh underlying55 (aX ?_))))))));refine dh (dt sm (eT (lK (v:=.slice a G.length c) O J (bh underlying56 (eT (lK (v:=.slice av G.length c2) z2 aa (bh underlying56 (aX ?_))))))));refine bj sm (ao sm ?_);have hn:=C.few
 refine Km (Inv:=fun i wr=>∃k:Nat,i=iv (k:Nat)∧k≤u.nodes.length∧Below w2.heap.size w2 wr) (μ:=fun i _=>u.nodes.length-(intOf i).toNat) ⟨0,rfl,Nat.zero_le _,Below.refl _ _⟩ ?_;rintro _ dd w3 mu ⟨k,rfl,hk,l3⟩ al;have y1:=ae l3 O O.lt;have y2:=ae l3 z2 z2.lt;refine dS (lK (v:=.slice u.na u.nodes.length u.nc) y1 U (bh underlying55 (aK ?_)));by_cases ad:k<u.nodes.length
 ·have hx:u.nodes[k]? = some u.nodes[k]:=gE ad;generalize u.nodes[k]=x at hx;have ar:t2.nodes[k]? = some x:=by rw[eN];exact hx
  have n1:=(az.bel l3 oA).nr;have n2:=(aS.bel l3 oA).nr;obtain⟨p1,o1,af⟩:=n1.some_ oo;obtain⟨p2,o2,ag⟩:=n2.some_ (by rw[eN];omega);have n1:=n1.bel (Below.refl w3.heap.size w3).drew oA;have n2:=n2.bel (Below.refl w3.heap.size w3).drew oA;refine ax oo ?_
  refine ac (fun _=>dS) (ac (v:=.slice u.na u.nodes.length u.nc) (fun _=>lK y1.drew U) ?_);refine ac (v:=pA p1 (o1+k*56)) (fun K j=>by
   rw[af];exact dQ underlying55 (s:=56) kf oo oo (by rw[Int.toNat_natCast];exact j)) ?_
  refine ac (v:=.agg (ndC x).toArray) (fun _=>zdt n1 af hx) ?_;refine ac (fun _=>dS) (ac (v:=.slice t2.na u.nodes.length t2.nc) (fun _=>lK y2.drew Z) ?_);refine ac (v:=pA p2 (o2+k*56)) (fun K j=>by
   rw[ag];exact dQ underlying55 (s:=56) kf oo oo (by rw[Int.toNat_natCast];exact j)) ?_
  refine ac (v:=.agg (ndC x).toArray) (fun _=>zdt n2 ag ar) ?_;have hf:=zae (n1.A54 x (mO hx));refine ac (v:=.bool false) (fun K j=>AI 6 oo kr kr hf hf fun r hr=>by rw[hr.2 rfl];exact j) ?_;refine aF (aM oo oo ⟨⟨k+1,congrArg iv (by push_cast;rfl),ad,l3.drew⟩,?_⟩)
  rw[al];show u.nodes.length-((k:Int)+1).toNat<u.nodes.length-(k:Int).toNat;omega
 refine ao oo (Kp ?_);have r1:=cD r1 fun k hk=>M.block k (World.ownsRow.lt r1 k hk).2;have r2:=cD r2 fun k hk=>M.block k (World.ownsRow.lt r2 k hk).2;refine Ko (Inv:=fun i wr=>∃k:Nat,i=iv (k:Nat)∧k≤G.length∧Below w2.heap.size w2 wr) (μ:=fun i _=>G.length-(intOf i).toNat) ⟨0,rfl,Nat.zero_le _,l3⟩ ?_;rintro _ dd w4 mu ⟨k,rfl,hk,l4⟩ al;have y1:=ae l4 O O.lt;have y2:=ae l4 z2 z2.lt
 refine eT (lK (v:=.slice a G.length c) y1 J (bh underlying56 (aK ?_)));by_cases ad:k<G.length
 ·have hx:G[k]? = some G[k]:=gE ad;generalize G[k]=x at hx;have r1:=cD r1 (w':=w4.drew) fun k hk=>l4.drew.block k (World.ownsRow.lt r1 k hk).2;have r2:=cD r2 (w':=w4.drew) fun k hk=>l4.drew.block k (World.ownsRow.lt r2 k hk).2;refine ax oo ?_;refine ac (fun _=>eT) (ac (v:=.slice a G.length c) (fun _=>lK y1.drew J) ?_);obtain⟨p1,a0,af,am⟩:=d9 r1 oo
  obtain⟨p2,a4,ag,an⟩:=d9 r2 oo;refine ac (v:=pA p1 (0+k*5)) (fun K j=>by
   rw[af];exact dQ underlying56 (s:=5) kf oo oo (by rw[Int.toNat_natCast];exact j)) ?_
  refine ac (v:=.agg (grC x).toArray) (fun _=>ldA (n:=5) (vs:=grC x) underlying121 rfl kr am.blk (by rw[Nat.zero_add];exact am.elem iG rfl hx) rfl) ?_;refine ac (fun _=>eT) (ac (v:=.slice av G.length c2) (fun _=>lK y2.drew aa) ?_);refine ac (v:=pA p2 (0+k*5)) (fun K j=>by
   rw[ag];exact dQ underlying56 (s:=5) kf oo oo (by rw[Int.toNat_natCast];exact j)) ?_
  refine ac (v:=.agg (grC x).toArray) (fun _=>ldA (n:=5) (vs:=grC x) underlying121 rfl kr an.blk (by rw[Nat.zero_add];exact an.elem iG rfl hx) rfl) <|ac (v:=.bool false) (fun K j=>AI 3 oo kr kr (RP x) (RP x) fun r hr=>by rw[hr.2 rfl];exact j) ?_;refine aF (aM oo oo ⟨⟨k+1,congrArg iv (by push_cast;rfl),ad,l4.drew⟩,?_⟩)
  rw[al];show G.length-((k:Int)+1).toNat<G.length-(k:Int).toNat;omega
 exact ao oo (Kq (h w4 (M.trans (l4.mono M.size))))
structure EvL (e:EV):Prop where
 may:bJ e=true
 fit:uJ e
 o:2≤e.o
 k:e.k≠6∧e.k≠7
theorem zaw {L:List (Nat×LG)}{E:List EV}{X:List AC}{x:AC}(hw:WM w Bw g L E C)(O:Bw≤w.heap.size)(hn:E.length≤800)(hX:AR w a m c X)(hx:X[j]? = some x)(al:j<m)(hm:m≤1000000)(hk:2≤k∧k≤6)(hL:L.length=k)(e1:V0=.slice a m c)(e2:H1=iv (j:Nat))(e3:Y0=iv (k:Nat))(e4:Z0=pB g)(hB:∀e w' L' E' C',WM w' Bw g L' E' C'→L'.length=L.length→E'.length≤E.length+1→(E'=E∨∃e,EvL e∧E'=E++[e])→Below Bw w w'→gd e 11=iv ((j:Int)+1)→P0 e w'):iH K P0 ((dE V0 W0 X0 Y0 Z0 H1 zf)) w:=by
 subst e1 e2 e3 e4;obtain⟨b,o,ha⟩:=hX.some_ oo;subst ha;have aa:=hX.ok x (mO hx);refine Bq <|dQ underlying22 (s:=9) kf oo oo ?_;rw[Int.toNat_natCast];refine zfa hX rfl hx ?_;refine df (z:=.agg (acC ⟨0,false,0,0,0,0,0,0,0⟩).toArray) kr fun w1 z1 b1 s1=>?_
 have z1:=cZ z1
 refine ip (n:=9) (vs:=acC x) kr rfl z1 (by show 0+9≤9;omega) (by simp[acC,kv8,Value.oneCell']) fun w2 z2 o2=>?_;have z2:blk w2 w.heap.size 30 (acC x):=z2;have b2:Below w.heap.size w w2:=aR b1 o2 oA;refine IJ (lK (v:=kv8 x.who) z2 rfl (ba oo oo ?_));refine bX underlying3 underlying5 ?_
 rw[show IntKind.u8.wrap ((k:Nat)-1:Int)=(k:Nat)-1 by simp[IntKind.wrap,IntKind.signed,IntKind.bits];omega];obtain⟨⟨h1,h2⟩,h3⟩:=aa;refine Ct h1 oo ?_;have ad:0≤x.who%((k:Nat)-1:Int):=Int.emod_nonneg _ oo;have af:x.who%((k:Nat)-1:Int)<(k:Nat)-1:=Int.emod_lt_of_pos _ oo;generalize x.who%((k:Nat)-1:Int)=r at ad af;refine iW ?_
 rw[show IntKind.u8.wrap (1+r)=1+r by simp[IntKind.wrap,IntKind.signed,IntKind.bits];omega];refine IJ (cB kf z2 (by show 0+0<9;omega) rfl fun w3 z3 o3=>?_);have z3:blk w3 w.heap.size 30 (acC {x with who:=1+r}):=z3;have M:Below w.heap.size w w3:=aR b2 o3 oA;have u:=hw.fresh M;have I:LJ {x with who:=1+r}:=⟨⟨by show 0≤1+r;omega,by show 1+r≤255;omega⟩,h3⟩
 have nx:∀{w':World} {L':List (Nat×LG)} {E':List EV} {C':Nat→Int} {zf:Nat→Value},WM w' Bw g L' E' C'→L'.length=L.length→E'.length≤E.length+1→(E'=E∨∃e,EvL e∧E'=E++[e])→Below Bw w w' →
   dW K P0 (dE (.slice (some ⟨b,o,none⟩) m c) W0 X0 (iv (k:Nat)) (pB g) (iv (j:Nat)) zf) w':=fun a1 a2 a3 a5 a4 =>
  By (aM oo oo (hB _ _ _ _ _ a1 a2 a3 a5 a4 rfl))
 have h:Below Bw w w3:=M.mono O;refine NL (lK (v:=kv8 x.kind) z3 rfl (AJ oo (aX ?_)));by_cases J:x.kind.tmod 7≠6
 ·refine cU J (NL (lK (v:=kv8 x.kind) z3 rfl (AJ oo (aX (bA J ?_)))));by_cases h5:x.kind.tmod 7≠5
  ·refine ax h5 (ldA (n:=9) (vs:=acC {x with who:=1+r}) underlying30 rfl kr z3 rfl rfl ?_);have s3:=M.size;refine zf6 u oo hn I fun w4 L4 E4 C4 e4 ag Z U hE b4=>?_;refine nx ag Z U (hE.imp id fun⟨e,⟨q1,q2,q3⟩,q4,q5⟩=>⟨e,⟨q4,q3,?_,?_⟩,q5⟩) (h.trans b4)
   ·have q1:e.o=(1+r)%(L.length:Nat)+1:=q1;rw[hL,Int.emod_eq_of_lt oo oo]at q1;omega
   ·have q2:e.k=IntKind.u8.wrap (1+x.kind.tmod 7):=q2;rw[Iu]at q2;have t1:=Int.tmod_lt_of_pos x.kind (show (0:Int)<7 by omega);have t2:=Int.lt_tmod_of_pos x.kind (show (0:Int)<7 by omega);omega
  ·exact ao h5 (nx u rfl oo (.inl rfl) h)
 ·exact eB J (bj J (aF (nx u rfl oo (.inl rfl) h)))
theorem zeT (hi:i+1≤n)(J:n≤c)(h:K (.slice (some ⟨b,o+i*14,none⟩) 1 (c-i)) w):slc Q 44 (.slice (some ⟨b,o,none⟩) n c) (some (ci (i:Nat))) (some (ci ((i+1:Nat):Int))) none K w:=by
 have C:(Instr.sliceBounds true n c (some (ci (i:Nat))) (some (ci ((i+1:Nat):Int))) none).run Q w=.ok (i,i+1,c) w:=by
  have j:=run_sliceBound (P:=Q) w .i64 ((i+1:Nat):Int) c .sliceAcap oo oo;have u:=run_sliceBound (P:=Q) w .i64 (i:Int) (i+1) .sliceB oo oo;simp[Instr.sliceBounds]at j u ⊢;rw[j];simp[u]
 have I:∀w,(sizeOf 35).run Q w=.ok 14 w:=fun _=>by kernel_rfl
 unfold slc;refine ey (w':=w) ?_ h;simp only[Instr.sliceAt,Instr.slice,Sem.run_bind,Sem.run_pure,Result.andThen_ok,run_underlying underlying44,I,C];rw[if_neg oo];simp[Addr.add]
end
end
section
open Go.RowKit
theorem tx (h:lN 242 V0 (fun C=>conv Q 3 251 C fun j=>call Q 178 #[j] fun u=>call Q 220 #[V0,ci 0,C,u,W0] fun _=>K (.tuple #[])) w):Gives Q 181 #[V0,W0] w K:=by
 refine aq func181 kr ?_;exact mpK h
def iA (data0 a1 b2 limit3 cmp4 wasBalanced10 wasPartitioned11:Value)(zf:Nat→Value):List Value:=data0::a1::b2::limit3::cmp4::zT zf 5 5 (wasBalanced10::wasPartitioned11::zT zf 12 136 ([]))
def oW (data0 a1 b2 limit3 cmp4:Value)(zf:Nat→Value):List Value:=data0::a1::b2::limit3::cmp4::zT zf 5 143 ([])
def oX (data0 a1 b2 limit3 cmp4 wasBalanced10 wasPartitioned11 length12 t39:Value)(zf:Nat→Value):List Value:=data0::a1::b2::limit3::cmp4::zT zf 5 5 (wasBalanced10::wasPartitioned11::length12::zT zf 13 26 (t39::zT zf 40 108 ([])))
def kQ (K:KV):KE:=ah Q (cd f220 [1,1,0]) (rk f220 K) (xx xf (rk f220 K) 0) (rk f220 K)
def oY (K:KV)(B1:KE):KE:=kY f220 (b1 911) B1 (xx (xx xf (rk f220 K) 0) B1 1) K
def oU (K:KV)(B1:KE):KE:=ah Q (cd f220 (b1 1821)) (oY K B1) (xx (xx xf (rk f220 K) 0) B1 1) (rk f220 K)
abbrev pp (K:KV)(hA0:KE)(data0 a1 b2 limit3 cmp4:Value)(w:World):Prop :=
  hA0 (iA data0 a1 b2 limit3 cmp4 cT cT zu) w
theorem wY (h:pp K (ah Q (cd f220 [1,1,0]) (rk f220 K) (fun i=>@Bool.rec (fun _=>KE) ((fun _ _ _=>False) i) (rk f220 K) (Nat.beq i 0)) (rk f220 K)) V0 W0 X0 Y0 Z0 w):ah Q (cd f220 []) (rk f220 K) xf (rk f220 K) (oW V0 W0 X0 Y0 Z0 zu) w:=Eq.mp kr h
theorem ww {K:KV}{V0 W0 X0 Y0 Z0:Value}{w:World}(h:pp K (kQ K) V0 W0 X0 Y0 Z0 w):Gives Q 220 #[V0,W0,X0,Y0,Z0] w K:=aq func220 (by kernel_rfl) (Eq.mp (congrArg (fun c=>ah Q c (rk f220 K) xf (rk f220 K) (oW V0 W0 X0 Y0 Z0 zu) w) (by kernel_rfl:(cd f220 [])=(cd f220 []))) (wY h))
theorem uM (B1:KE)(I:Code)(h:bF .sub 3 X0 W0 (fun j=>bT .leq 3 j (ci 12) fun u w=>cond u (call Q 236 #[V0,W0,X0,Z0] (fun _=>K (.tuple #[])) w) (bT .eql 3 Y0 (ci 0) (fun C w=>cond C (call Q 237 #[V0,W0,X0,Z0] (fun _=>K (.tuple #[])) w) (un Q .not H1 (fun Q1=>ah Q I (ah Q (cd f220 (b1 911)) B1 (fun i=>@Bool.rec (fun _=>KE) ((fun i=>@Bool.rec (fun _=>KE) ((fun _ _ _=>False) i) (rk f220 K) (Nat.beq i 0)) i) B1 (Nat.beq i 1)) (rk f220 K)) (fun i=>@Bool.rec (fun _=>KE) ((fun i=>@Bool.rec (fun _=>KE) ((fun _ _ _=>False) i) (rk f220 K) (Nat.beq i 0)) i) B1 (Nat.beq i 1)) (rk f220 K) (oX V0 W0 X0 Y0 Z0 H1 I1 j Q1 (zV (zV (zV zf 21 [X0,W0,j,j,u]) 31 [Y0,C]) 38 [H1]))) w)) w)) w):ah Q (rep (b1 93) I (cd f220 [1,1,0,0])) B1 (xx xf (rk f220 K) 0) (rk f220 K) (iA V0 W0 X0 Y0 Z0 H1 I1 zf) w:=Eq.mp kr h
theorem uN (Inv:vI 5)(μ:vM 5)(h0:Inv W0 X0 Y0 H1 I1 w)(hs:∀(J M I j u:Value) (dd:Nat→Value) (w:World) (m:Nat),Inv J M I j u w→m=μ J M I j u w →
  bF .sub 3 M J (fun O=>bT .leq 3 O (ci 12) fun U w=>cond U (call Q 236 #[V0,J,M,Z0] (fun _=>K (.tuple #[])) w) (bT .eql 3 I (ci 0) (fun Z w=>cond Z (call Q 237 #[V0,J,M,Z0] (fun _=>K (.tuple #[])) w) (un Q .not j (fun Q1=>oU K (fun C w2=>(Inv (gd C 1) (gd C 2) (gd C 3) (gd C 10) (gd C 11) w2)∧((μ (gd C 1) (gd C 2) (gd C 3) (gd C 10) (gd C 11) w2)<m)) (oX V0 J M I Z0 j u O Q1 (zV (zV (zV dd 21 [M,J,O,O,U]) 31 [I,Z]) 38 [j]))) w)) w)) w):kQ K (iA V0 W0 X0 Y0 Z0 H1 I1 zf) w:=by
 refine aI (cd f220 [1,1,0,0]) (zr [(1,3),(10,138)]) kr (vP [1,2,3,10,11] Inv) (vQ [1,2,3,10,11] μ) h0 ?_;intro e' w' hI;have h:=hs _ _ _ _ _ (zM zf (gd e') (zr [(1,3),(10,138)])) w' _ hI rfl
 have h2:ah Q (rep (b1 93) (cd f220 (b1 1821)) (cd f220 [1,1,0,0])) (fun C w2=>Inv (gd C 1) (gd C 2) (gd C 3) (gd C 10) (gd C 11) w2∧μ (gd C 1) (gd C 2) (gd C 3) (gd C 10) (gd C 11) w2<μ (gd e' 1) (gd e' 2) (gd e' 3) (gd e' 10) (gd e' 11) w') (xx xf (rk f220 K) 0) (rk f220 K) (iA V0 (gd e' 1) (gd e' 2) (gd e' 3) Z0 (gd e' 10) (gd e' 11) (zM zf (gd e') (zr [(1,3),(10,138)]))) w':=uM (fun C w2=>Inv (gd C 1) (gd C 2) (gd C 3) (gd C 10) (gd C 11) w2∧μ (gd C 1) (gd C 2) (gd C 3) (gd C 10) (gd C 11) w2<μ (gd e' 1) (gd e' 2) (gd e' 3) (gd e' 10) (gd e' 11) w') (cd f220 (b1 1821)) (Eq.mp kr h)
 exact Eq.mp kr h2
attribute [irreducible] kQ oY oU
def mA (data0 a1 b2 cmp3 i8:Value)(zf:Nat→Value):List Value:=data0::a1::b2::cmp3::zT zf 4 4 (i8::zT zf 9 44 ([]))
def tB (data0 a1 b2 cmp3 i8 j9:Value)(zf:Nat→Value):List Value:=data0::a1::b2::cmp3::zT zf 4 4 (i8::j9::zT zf 10 43 ([]))
def fU (K:KV):KE:=ah Q (cd f236 [1,0]) (rk f236 K) (xx xf (rk f236 K) 0) (rk f236 K)
def dV (K:KV)(B1:KE):KE:=kY f236 (b1 51) B1 (xx xf (rk f236 K) 0) K
def je (K:KV)(B1:KE):KE:=ah Q (cd f236 (b1 402)) (dV K B1) (xx (xx (xx xf (rk f236 K) 0) (dV K B1) 1) (dV K B1) 2) (rk f236 K)
theorem tC (h:nC W0 (fun j=>fU K (mA V0 W0 X0 Y0 j (zV zu 10 [W0,j]))) w):Gives Q 236 #[V0,W0,X0,Y0] w K:=by
 refine aq func236 kr ?_;revert h;delta fU;exact mpF
theorem sr (Inv:Value→World→Prop)(μ:Value→World→Nat)(I:Inv Z0 w)(J:∀(j:Value) (C:Nat→Value) (w:World) (m:Nat),Inv j w→m=μ j w →
  lS j X0 (fun t14 w=>cond t14 (je K (fun u w2=>(Inv (gd u 8) w2)∧((μ (gd u 8) w2)<m)) (tB V0 W0 X0 Y0 j j (zV (zV C 12 [j,X0,t14]) 17 [j])) w) (K (.tuple #[]) w)) w):fU K (mA V0 W0 X0 Y0 Z0 zf) w:=by
 refine aI (cd f236 [1,0,0]) (zr [(8,2),(12,41)]) kr (vP [8] Inv) (vQ [8] μ) I ?_;intro e' w' hI;have h:=J _ (zM zf (gd e') (zr [(8,2),(12,41)])) w' _ hI rfl;revert h;delta je dV;exact mpF
attribute [irreducible] fU dV je
end
section
attribute [local irreducible] bin un conv call aZ blt slc ai fld aL idx lkp cP eP eSt rng nxt ent ext alc box bld bg ld sto aJ cr mkS ifc pick rdy wts aG sti cond aV Gives ah dy dP cOp
section
open Go.RowKit Go.ChangeMaps
theorem Zj (h:K (pA b (o+0)) w):ai Q 202 (pA b o) 0 K w:=aH kr h
theorem zbB (h:K (.bool false) w):bin Q .eql 141 cx cy (pB b) (.pointer none) K w :=
 gy (by unfold eqG eqGuard;rfl) kr h
theorem zav {f:Value}(h:K (.tuple #[]) w):call Q 181 #[.slice none 0 0,f] K w:=by
 refine ak (goK func181) (tx (bh underlying242 (bX underlying3 underlying251 ?_)));refine TJ (n:=0) oo fun r C=>?_;refine ak (goK func220) (ww ?_);refine uN (Inv:=fun a b _ _ _ wr=>a=ci 0∧b=ci 0∧wr=w) (μ:=fun _ _ _ _ _ _=>0) ⟨rfl,rfl,rfl⟩ ?_;rintro _ _ _ _ _ j u m ⟨rfl,rfl,rfl⟩ _;refine jK (gJ (ax dc ?_));refine ak (goK func236) (tC (aM oo oo ?_))
 refine sr (Inv:=fun i wr=>i=ci 1∧wr=u) (μ:=fun _ _=>0) ⟨rfl,rfl⟩ ?_;rintro _ j _ m ⟨rfl,rfl⟩ _;exact aK (ao dc h)
theorem Z6 (h:DmW w d m [])(I:∀w',Below w.heap.size w w'→K (.slice none 0 0) w'):call Q 77 #[pB d] K w:=by
 refine ak (goK func77) (HA (ak (goK func134) (H8 (zbB (aF (aj (Zj (lK (v:=.map (some m)) h.b rfl ?_))))))));have J:=h.mb.lt;refine LW underlying200 h.mb fun O u b1 s1=>?_;refine Ez (Inv:=fun l wr=>l=cN∧wr=O) (μ:=fun _ _=>0) ⟨rfl,rfl⟩ ?_;rintro _ C w2 Z ⟨rfl,rfl⟩ M;refine LH u oo (fun _=>?_) fun x v w3 j=>by cases j
 refine rG rfl (aF (EA (zav (bh underlying242 ?_))));refine G9 (Inv:=fun o i wr=>o=cN∧i=ci 0∧wr=w2) (μ:=fun _ _ _=>0) ⟨rfl,rfl,rfl⟩ ?_;rintro _ _ C U m ⟨rfl,rfl,rfl⟩ _;exact aK (ao dc (Ga (I U b1)))
structure StO (k m:Nat) (l:PL) (A:List EV):Prop where
 pi:PI l
 ok:okL eff OK (pl0 k) A
 st:l=qY eff (pl0 k) A
 ft:∀e∈A,uJ e
 nj:noJ A
 own:H7 l m
section
variable {k m:Nat}{l:PL}{A F:List EV}{x:AK}
theorem StO.G (h:StO k m l A):l.G.length≤A.length:=by
 have:=(Rq (s:=pl0 k) h.nj).2.2
 rw[←h.st]at this;have e:(pl0 k).G.length=0:=rfl;omega
theorem StO.all (h:StO k m l A):∀e∈A,bJ e=true∧uJ e:=fun e j=>⟨zcc h.ok e j,h.ft e j⟩
theorem VW :∀{F:List EV} {l:PL},PI l→okL eff OK l F→(∀e∈F,2≤e.o)→(qY eff l F).V.getD 0 0=l.V.getD 0 0
 | [],_,_,_,_=>rfl
 | e::F,l,hp,hok,ho=>by
  have j:=VW (hp.eff hok.1) hok.2 fun x C=>ho x (List.mem_cons_of_mem _ C);have h:=congrFun (XL hp hok.1) 0;unfold kV upD at h
  have:=ho e sm
  have u : ¬0=e.q:=by unfold EV.q;omega
  rw[if_neg u]at h;exact j.trans h
theorem StO.zero {s:RS}{W:HM}(J:0<k)(h:DuI k i s W)(C:∀e∈s.A,EvL e):StO k 0 s.l s.A:=by
 have I:noJ s.A:=fun e h=>(C e h).k;obtain⟨j,a2,_⟩:=Rq (s:=pl0 k) I;have u:=VW (JA k) h.ok fun e h=>(C e h).o;rw[←h.st]at j a2 u;exact⟨h.pi,h.ok,h.st,h.ft,I,by rw[j];simp[pl0,J],by rw[a2];rfl,by rw[u];rfl,.inl rfl⟩
theorem StO.make (h:StO k m l A)(M:H6 x)(C:oN (mkP 0 l x) l=0)(I:x.k≠6∧x.k≠7)(J:H7 (eff (mkP 0 l x) l) b):StO k b (eff (mkP 0 l x) l) (A++[mkP 0 l x]):=by
 have u:=(qi h.pi).1 C;refine⟨h.pi.eff u,Ie.2 ⟨h.ok,by rw[←h.st];exact⟨u,trivial⟩⟩,by rw[JD, ←h.st];rfl,fun e j=>(List.mem_append.1 j).elim (h.ft e) fun j=>by rw[mS j];exact QZ h.pi M,fun e j=>(List.mem_append.1 j).elim (h.nj e) fun j=>by rw[mS j];exact I,J⟩
end
structure SX (w:World) (B Se:Nat) (s:PL) (t:STA) (ga:Option Addr) (gc:Nat):Prop where
 so:SO w B s t ga gc
 nd:∀k,(Value.slice t.na s.N.length t.nc).ownBlock=some k→k<Se
 gr:∀k,(Value.slice ga s.G.length gc).ownBlock=some k→k<Se
theorem V7 {x:AK}:∀v∈akC x,v.oneCell'=true:=by
 intro v h;simp only[akC,List.mem_cons,List.not_mem_nil,or_false]at h;rcases h with rfl|rfl|rfl|rfl|rfl|rfl<;>rfl
section
variable {w w':World}{K:KV}{i B Se:Nat}{Y:DuX}{s:RS}{A:List EV}{l:PL}{t:STA}{ga:Option Addr}{gc:Nat}{F:List Nat}
theorem SX.of (h:SO w B l t ga gc)(u:w.heap.size≤Se):SX w B Se l t ga gc:=⟨h,fun k j=>Nat.lt_of_lt_of_le (World.ownsRow.lt h.nd k j).2 u,fun k j=>Nat.lt_of_lt_of_le (World.ownsRow.lt h.gr k j).2 u⟩
theorem SX.ch (h:SX w B Se l t ga gc)(C:Ch F w w')(hF:∀x∈F,x<B∨Se≤x):SX w' B Se l t ga gc :=
 {h with so:={h.so with
  nd:=cD h.so.nd fun k j=>C.block k (World.ownsRow.lt h.so.nd k j).2 fun u=>by
   have:=hF k u;have:=h.nd k j;have:=(World.ownsRow.lt h.so.nd k j).1;omega
  gr:=cD h.so.gr fun k j=>C.block k (World.ownsRow.lt h.so.gr k j).2 fun u=>by
   have:=hF k u;have:=h.gr k j;have:=(World.ownsRow.lt h.so.gr k j).1;omega} }
theorem zeg {s:PL}{K2:Value→KV}(u:SO w b s t ga gc)(C:PI s)(h:∀w',blk w' w.heap.size 58 (saC t)→Below w.heap.size w w'→K2 (pB w.heap.size) undef w'):alc Q 58 (fun p=>sto Q 58 p (.agg (saC t).toArray) (K2 p)) w:=by
 have j:(saC t).length=20:=tu (by rw[u.eI];exact C.i6) (by rw[u.eL];exact C.l6) (by rw[u.eV];exact C.v6);refine df (z:=.agg (saC ⟨List.replicate 6 false,List.replicate 6 false,List.replicate 6 0,[],none,0,.slice none 0 0⟩).toArray) kr fun w2 z2 I O=>?_
 have z2:=cZ z2
 refine ip (n:=20) (vs:=saC t) kr j z2 (by show 0+20≤20;omega) (Rr (by rw[u.gv];rfl)) fun M z3 J=>?_;rw[List.take_zero,List.nil_append,List.drop_of_length_le (by show 20≤0+20;omega),List.append_nil]at z3;exact h M z3 (aR I J oA)
theorem zfb {s:PL}(u:SO w0 c s t ga gc)(j:PI s)(I:blk w b 58 (saC t))(C:K (.agg (saC t).toArray) w):ld Q 58 (pB b) K w:=by
 have h:(saC t).length=20:=tu (by rw[u.eI];exact j.i6) (by rw[u.eL];exact j.l6) (by rw[u.eV];exact j.v6);exact ldA (n:=20) (vs:=saC t) underlying58 rfl kr I (by rw[List.drop_zero,tL oo]) h C
theorem zcW {x:AK}{K2:Value→KV}(h:∀w',blk w' w.heap.size 51 (akC x)→Below w.heap.size w w'→w'.heap.size=w.heap.size+1→K2 (pB w.heap.size) undef w'):alc Q 51 (fun p=>sto Q 51 p (.agg (akC x).toArray) (K2 p)) w:=by
 refine df (z:=.agg (akC ⟨0,0,0,0,0,0⟩).toArray) kr fun w2 z2 C I=>?_;have z2:=cZ z2
 refine ip (n:=6) (vs:=akC x) kr rfl z2 (by show 0+6≤6;omega) V7 fun u z3 j=>?_;have z3:blk u w.heap.size 51 (akC x):=z3;exact h u z3 (aR C j oA) (by rw[j.size];exact I)
theorem zcX {x y:AK}(j:blk w b 51 (akC y))(h:∀w',blk w' b 51 (akC x)→Oth b w w'→K undef w'):sto Q 51 (pB b) (.agg (akC x).toArray) K w :=
 ip (n:=6) (vs:=akC x) kr rfl j (by show 0+6≤6;omega) V7 fun C z3 u=>h C z3 u
theorem Z7 (h:DuM w i Y s A)(j:Y.X.ws=[])(I:∀w' a c,Below w.heap.size w w'→K (.slice a 0 c) w'):call Q 18 #[pB Y.u] K w:=by
 refine ak (goK func18) (ED (yO (aF (aj (IK (lK (v:=pB Y.X.R.p) h.b rfl ?_))))));refine ak (goK func40) (FT (HH (aF (aj (Zo (lK (v:=pB Y.X.R.d) h.rp.rp.b rfl ?_))))));have C:=h.rp.dm;rw[j]at C;exact Z6 C fun w' b1=>I w' _ _ b1
theorem YR {a b:Int}(j:0≤a+b)(u:a+b<18446744073709551616)(h:K (u6 (a+b)) w):bin Q .add 31 cx cy (u6 a) (u6 b) K w :=
 iW (by rw[eu,Int.emod_eq_of_lt j u];exact h)
theorem zaB (h:DuM w 0 Y s s.A)(o:StO k m s.l s.A)(hm:m≤20)(hA:s.A.length≤10000)(b:Below w0.heap.size w0 w)(hF:∀x∈DF Y,w0.heap.size≤x)(U:∀w' K',Below w0.heap.size w0 w'→(∀j,Below w'.heap.size w' j→K' cT j)→call Q 6 #[] K' w')(O:∀w',Below w0.heap.size w0 w'→K cT w'):dY K (pF (pB Y.u) (u6 (m:Nat)) zf) w:=by
 have hG:=o.G;have hv:=o.own.V;refine BD (dl (vs:=akC ak6) kr (Wr h oo o.pi oo oo (by unfold H6;decide) oo rfl (zeG o.pi o.own oo) fun w1 Y1 _ t1 _ _ _=>?_));have e1:(mkP 0 s.l ak6).s=s.l.V.getD 0 0+1:=rfl;have b1:Below w0.heap.size w0 w1:=b.trans (t1.ch.below hF b.size)
 refine bu (bv (jT fun w2 z2 J s2=>iU (e':=mkP 0 s.l ak6) z2 fun w3 z3 Z=>?_));have C:Below w1.heap.size w1 w3:=aR J Z oA;have I:=b1.trans (C.mono b1.size);refine aO (cU rfl (gN (lK (v:=u6 (mkP 0 s.l ak6).s) z3 rfl (YR oo oo (aO (bA rfl (cU oo (U w3 _ I fun w4 M=>?_))))))));exact bA oo (O w4 (I.trans (M.mono I.size)))
theorem zaz (an:KD w0)(hk:1≤k∧k≤6)(hP:RIn w0 a c n M0)(h:DuM w 0 Y s s.A)(hp:Y.p=p)(o:StO k m s.l s.A)(hm:m≤20)(hA:s.A.length≤10000)(b:Below w0.heap.size w0 w)(hF:∀x∈DF Y,w0.heap.size≤x)(e1:V0=pB Y.u)(e2:W0=.slice a c n)(e3:X0=iv (k:Nat))(e4:Y0=pB p)(e5:Z0=u6 (m:Nat))(hW:∀w' K',Below w0.heap.size w0 w'→(∀av,Below w'.heap.size w' av→K' cT av)→call Q 6 #[] K' w')(j:∀w',Below w0.heap.size w0 w'→K cT w'):bD K (pQ W0 X0 Y0 V0 Z0 zf) w:=by
 subst e1 e2 e3 e4 e5 hp;have hG:=o.G;have am:s.l.G.length≤1000000:=by omega
 have bd:0<w0.heap.size:=an.lt;have a0:=h.lt;refine BA (NH h o.pi oo fun w1 t ga gc so b1=>zeg so o.pi fun w2 z2 b2=>?_);have af:=b1.trans (b2.mono b1.size);have s1:=b1.size;have s2:=b2.size;have zl:=z2.lt;have sb:=b.size
 refine Bv (Inv:=fun u i wr=>∃(q:Nat) (Y':DuX) (P:List (List Int)),u=pB Y'.u∧i=iv (q:Nat)∧q≤2∧DuM wr 0 Y' ⟨s.l,s.A,P⟩ s.A∧Y'.p=Y.p∧(∀x∈DF Y',w0.heap.size≤x∧(x<w.heap.size∨w2.heap.size≤x))∧SX wr (w.heap.size+3) w2.heap.size s.l t ga gc∧blk wr w1.heap.size 58 (saC t)∧Below w0.heap.size w0 wr∧w2.heap.size≤wr.heap.size) (μ:=fun _ i _=>2-(intOf i).toNat)
  ⟨0,Y,s.P,rfl,rfl,by omega,h.below af,rfl,fun x M=>⟨hF x M,.inl (a0 x (SG M))⟩,SX.of (so.fresh b2) oA,z2,b.trans (af.mono sb),Nat.le_refl _⟩ ?_
 rintro _ _ dd w3 mu ⟨q,Y3,P3,rfl,rfl,hq,h3,a3,al,a5,z3,b3,s3⟩ a1;refine aK ?_;by_cases aS:q<2
 case neg=>exact ao oo (zaB h3 o hm hA b3 (fun x M=>(al x M).1) hW j)
 refine ax oo ?_;rw[←a3];obtain⟨aa,a2⟩:=al Y3.p (zQ.2 (.inr mp1));refine zbb h3.jk.1 fun w4 k4 o4=>zdI k4 (hP.below (b3.trans (o4.below.mono aa)) oA) fun w5 k5 c5=>?_;have U:Ch [Y3.p] w3 w5:=(Ch.of_oth o4 (List.mem_singleton.2 rfl)).trans c5 fun _ h=>.inl h;have s5:=U.size
 have b5:Below w0.heap.size w0 w5:=b3.trans (U.below (fun x M=>by rw[mS M];exact aa) b3.size);refine aX (ao sm (Mj (i:=0) (A:=s.A) (an.below b5) hk.1 hk.2 oo k5 oo o.all o.ok oo fun w6 Y6 a4 h6 a7 W6 ag f6 a6=>bu (bv ?_)));rw[←o.st]at h6;have Z:Ch [Y3.p] w3 w6:=U.add (ag.mono s5);have s6:=Z.size
 have ap:∀x∈DF Y6,w0.heap.size≤x∧(x<w.heap.size∨w2.heap.size≤x):=fun x M=>(f6 x M).elim (fun e=>by rw[e];exact⟨aa,a2⟩) fun hh=>⟨by have:=b5.size;omega,.inr oo⟩
 have b6:Below w0.heap.size w0 w6:=b5.trans (ag.mono b5.size);have ad:=a5.ch Z fun x M=>by rw[mS M];omega
 have z6:=z3.ch Z fun hh=>by have:=mS hh;omega
 have az:=h6.below (Below.refl _ w6).drew;have ar:SX w6.drew _ _ s.l t ga gc:=ad.ch (F:=[]) (Ch.of_below (Below.refl _ w6).drew) sm;refine au (fun y=>blk y w1.heap.size 58 (saC t)) z6.drew ?_
 refine ab (v:=.bool false) (fun y d _ j=>aX (by simpa using j)) (fy (x:=pB Y6.u) rfl (fun y _ _ j=>j) (fy (x:=.bool false) rfl (fun y d _ j=>yO j) (ab (v:=.bool false) (fun y d _ j=>dh j) ?_)));refine fy (x:=pB Y6.u) rfl (fun y _ _ j=>j) (fy (x:=.agg (saC t).toArray) rfl (fun y d _ j=>zfb ad.so o.pi d j) (Hv rfl (NH az o.pi am fun w7 t7 a8 bb C b7=>?_)))
 have I:=ar.ch (F:=[]) (Ch.of_below b7) sm;refine aC (ae b7 z6.drew z6.drew.lt) (Hv rfl ?_);refine ze1 (C.sk o.pi) (I.so.sk o.pi) (by rw[C.eI,I.so.eI]) (by rw[C.eL,I.so.eL]) (by rw[C.eV,I.so.eV]) (by rw[C.eN,I.so.eN]) C.gv I.so.gv C.gr I.so.gr am fun w8 b8=>?_;have O:Below w6.heap.size w6 w8:=(Below.refl _ w6).drew.trans (b7.trans (b8.mono b7.size))
 have h8:=h6.below O;refine au (fun _=>True) trivial (fy (x:=.bool false) rfl (fun y _ _ j=>bK j) (ab (v:=.bool false) (fun y _ _ j=>dh j) (fy (x:=pB Y6.u) rfl (fun y _ _ j=>j) (Hv rfl (Xr h8 ?_)))));refine au (fun _=>True) trivial (ab (v:=.bool false) (fun y _ _ j=>dh j) (fy (x:=pB Y6.u) rfl (fun y _ _ j=>j) (Hv rfl (Z7 h8 a7 fun w9 a9 c9 b9=>?_))))
 refine au (fun _=>True) trivial (fy (x:=iv (0:Nat)) rfl (fun y _ _ j=>bh underlying62 j) (fy (x:=.bool false) rfl (fun y _ _ j=>bO (by simpa using j)) (ab (v:=.bool false) (fun y _ _ j=>dh j) ?_)));have J:Below w6.heap.size w6 w9:=O.trans (b9.mono O.size)
 refine aF (aM oo oo ⟨⟨q+1,Y6,gp0,rfl,congrArg iv (by push_cast;rfl),aS,h6.below J,a4,ap,ad.ch (F:=[]) (Ch.of_below J) sm,ae J z6 z6.lt,b6.trans (J.mono b6.size),?_⟩,?_⟩)
 ·have:=J.size;omega
 ·rw[a1];show 2-((q:Int)+1).toNat<2-(q:Int).toNat;omega
end
theorem Xh :H6 ak1∧H6 ak2:=by unfold H6;decide
abbrev akJ (j:Nat):AK:=if j=0 then ak1 else ak2
theorem V8 :H6 (akJ j):=by
 unfold akJ;split
 ·exact Xh.1
 ·exact Xh.2
theorem zee :(akJ j).k≠6∧(akJ j).k≠7:=by unfold akJ;split<;>decide
theorem zef :(akJ j).r=0:=by unfold akJ;split<;>rfl
theorem zeH {l:PL}(C:PI l)(h:H7 l j)(I:j≤1000):oN (mkP 0 l (akJ j)) l=0∧H7 (eff (mkP 0 l (akJ j)) l) (j+1):=by
 unfold akJ;by_cases u:j=0
 ·subst u;rw[if_pos rfl];exact zeF C h
 ·rw[if_neg u];exact zeJ C h oo I
section
variable {w:World}{K:KV}{Y:DuX}{s:RS}
theorem zaA (h:DuM w 0 Y s s.A)(o:StO k j s.l s.A)(hj:j≤20)(hA:s.A.length≤10000)(b:Below w0.heap.size w0 w)(hF:∀x∈DF Y,w0.heap.size≤x)(hb:blk w c 51 (akC (akJ j)))(e1:H1=pB Y.u)(U:Z0=iv (j:Nat))(hB:∀e w' Y' s',gd e 17=u6 ((j:Int)+1)→gd e 18=iv ((j:Int)+1)→DuM w' 0 Y' s' s'.A→StO k (j+1) s'.l s'.A→Y'.p=Y.p∧Y'.u=Y.u→s'.A.length=s.A.length+1→(∀x∈DF Y',w0.heap.size≤x)→Below w0.heap.size w0 w'→B1 e w'):dH K B1 (jX V0 W0 X0 Y0 H1 (u6 (j:Nat)) Z0 (pB c) zf) w:=by
 subst e1 U;have hG:=o.G;have hv:=o.own.V;have sb:=b.size;obtain⟨J,ho⟩:=zeH o.pi o.own oo;refine BC (IA hb (Wr h oo o.pi oo oo V8 oo zef J fun w1 Y1 h1 I _ Z _=>?_));have e1:(mkP 0 s.l (akJ j)).s=s.l.V.getD 0 0+1:=rfl;have b1:Below w0.heap.size w0 w1:=b.trans (I.ch.below hF b.size);have s1:=I.ch.size
 refine bu (bv (jT fun w2 z2 M s2=>iU (e':=mkP 0 s.l (akJ j)) z2 fun w3 z3 o3=>?_));have C:Below w1.heap.size w1 w3:=aR M o3 oA;have O:=b1.trans (C.mono b1.size);refine aX (dt sm (gN (lK (v:=u6 (mkP 0 s.l (akJ j)).s) z3 rfl (YR oo oo (aX (bj sm (ao oo (YR oo oo ?_))))))))
 refine BB (aM oo oo (hB _ w3 Y1 _ rfl rfl (h1.below C) (o.make V8 J zee ho) Z sm (fun x hx=>(I.nf x hx).elim (hF x) fun hh=>by omega) O))
def zcQ (w0:World)(k p u n20 a0:Nat)(mv i:Value)(wr:World):Prop:=∃(j:Nat) (Y':DuX) (s':RS),mv=u6 (j:Nat)∧i=iv (j:Nat)∧j≤n20∧DuM wr 0 Y' s' s'.A∧StO k j s'.l s'.A∧(Y'.p=p∧Y'.u=u)∧s'.A.length=a0+j∧(∀x∈DF Y',w0.heap.size≤x)∧Below w0.heap.size w0 wr
theorem zax (ap:KD w0)(hk:1≤k∧k≤6)(ho:0≤r∧r≤255)(hP:RIn w0 a c n A)(h:DuM w 0 Y s s.A)(hp:Y.p=p)(o:StO k 0 s.l s.A)(hA:s.A.length≤9000)(b:Below w0.heap.size w0 w)(hF:∀x∈DF Y,w0.heap.size≤x)(e1:Z0=pB Y.u)(J:W0=.slice a c n)(e3:X0=iv (k:Nat))(e4:Y0=pB p)(e5:V0=kv8 r)(hW:∀w' K',Below w0.heap.size w0 w'→(∀af,Below w'.heap.size w' af→K' cT af)→call Q 6 #[] K' w')(hK:∀w',Below w0.heap.size w0 w'→K cT w'):dX K (pP V0 W0 X0 Y0 Z0 zf) w:=by
 subst e1 J e3 e4 e5;obtain⟨n20,aa⟩:∃n20:Nat,r%20=(n20:Nat):=⟨(r%20).toNat,by omega⟩
 refine Bz (Bu (Inv:=zcQ w0 k p Y.u n20 s.A.length) (μ:=fun _ i _=>n20-(intOf i).toNat)
  ⟨0,Y,s,rfl,rfl,Nat.zero_le _,h,o,⟨hp,rfl⟩,rfl,hF,b⟩ ?_)
 rintro _ _ dd w1 mu ⟨j,Y1,s1,rfl,rfl,hj,h1,o1,⟨ad,C⟩,az,Z,b1⟩ ar;refine bX underlying5 underlying3 ?_;rw[eU oo oo];refine Ct ho.1 oo ?_;rw[aa];refine aK ?_;by_cases an:j<n20
 case neg =>
  obtain rfl:j=n20:=by omega
  refine ao oo ?_;rw[←C];exact zaz ap hk hP h1 ad o1 oo oo b1 Z rfl rfl rfl rfl rfl hW hK
 refine ax oo (dl (vs:=akC ak2) kr (zcW fun w2 z2 b2 s2=>?_));have h2:=h1.below b2;have sb:=b1.size;have ag:=b1.trans (b2.mono sb);have l1:=h1.lt
 have O:∀{w3:World} {zf:Nat→Value},DuM w3 0 Y1 s1 s1.A→Below w0.heap.size w0 w3→blk w3 w1.heap.size 51 (akC (akJ j))→dH K (fun J w2=>zcQ w0 k p Y.u n20 s.A.length (gd J 17) (gd J 18) w2∧n20-(intOf (gd J 18)).toNat<mu) (jX (kv8 r) (.slice a c n) (iv (k:Nat)) (pB p) (pB Y.u) (u6 (j:Nat)) (iv (j:Nat)) (pB w1.heap.size) zf) w3:=fun h3 b3 z3 =>
  zaA h3 o1 oo oo b3 Z z3 (by rw[C]) rfl fun e w' Y' s' al U h' o' M av am b' => ⟨⟨j+1,Y',s',by rw[al];exact congrArg u6 (by push_cast;rfl),by rw[U];exact congrArg iv (by push_cast;rfl),an,h',o',⟨M.1.trans ad,M.2.trans C⟩,by omega,am,b'⟩,by rw[ar,U];show n20-((j:Int)+1).toNat<n20-(j:Int).toNat;omega⟩
 refine aO (Br ?_);by_cases h0:j=0
 ·refine ax oo (dl (vs:=akC ak1) kr (zcX z2 fun w3 z3 o3=>?_));have I:Below w1.heap.size w1 w3:=aR b2 o3 oA;exact O (h1.below I) (b1.trans (I.mono sb)) (by unfold akJ;rw[if_pos h0];exact z3)
 ·exact ao oo (O h2 ag (by unfold akJ;rw[if_neg h0];exact z2))
end
def zcP (w:World)(k p u n:Nat)(i:Value)(wr:World):Prop:=∃(j:Nat) (Y:DuX) (s:RS),i=iv (j:Nat)∧j≤n∧DuM wr 0 Y s s.A∧DuI k 0 s Y.X.W∧(∀e∈s.A,EvL e)∧(∀p∈Y.X.W,EvL p.2)∧s.A.length≤64*j∧(Y.p=p∧Y.u=u)∧(∀x∈DF Y,w.heap.size≤x)∧Below w.heap.size w wr
theorem VR.at_ {L:List EV}{x:EV}(h:VR w (some ⟨b,0,none⟩) n c L)(M:L[i]? = some x):VR w (some ⟨b,0+i*14,none⟩) 1 c2 [x]:=by
 refine⟨rfl,fun _=>⟨_,_,rfl⟩,fun j y C O o I q u J=>?_⟩;cases I;cases j with
 | zero =>
  simp only[List.getElem?_cons_zero,Option.some.injEq]at C;subst C
  have:=h.cell i x M b 0 rfl q u J
  rw[Nat.zero_mul,Nat.add_zero];exact this
 | succ j=>simp at C
theorem zcB {u:Nat}{x:EV}{Y:DuX}{s:RS}(ad:w0.heap.size≤w.heap.size)(h:DuM w 0 Y s s.A)(hI:DuI k 0 s Y.X.W)(hA:∀e∈s.A,EvL e)(hW:∀p∈Y.X.W,EvL p.2)(hl:s.A.length≤64*j)(hj:j<n)(hn:n≤60)(hu:Y.p=p∧Y.u=u)(hF:∀x∈DF Y,w0.heap.size≤x)(b:Below w0.heap.size w0 w)(hb:blk w eb 35 cs)(hv:VR w (some ⟨eb,0+j*14,none⟩) 1 c2 [x])(I:EvL x)(hK:∀w',zcP w0 k p u n (iv ((j:Int)+1)) w'→K (ci 0) w'):bld Q 49 #[(0,cb 1),(1,ci 2),(2,ci 1),(4,.slice (some ⟨eb,0+j*14,none⟩) 1 c2)] (fun t=>call Q 11 #[pB Y.u,t,cu 1] K) w:=by
 have Z:1<s.P.length:=by rw[h.rp.rp.e.l6];omega
 have hP:s.P[1]? = some s.P[1]:=gE Z;generalize s.P[1]=A1 at hP;generalize aa:Value.slice (some ⟨eb,0+j*14,none⟩) 1 c2=sl;refine dl (vs:=mgC 1 (((1:Nat):Int)+1) (((0:Nat):Int)+1) (List.replicate 6 0) sl 0 0) kr ?_;subst aa
 refine zbs (f:=1) (i:=0) (now:=1) h oo hI.pi hI.hk oo hv (fun b' o' J=>?_) (fun e C=>?_) hI.fw oo oo oo rfl dc hP oo fun w1 Y1 l1 F af h1 t1 U _ ep _=>?_
 ·cases J;exact h.rp.ty hb dc
 ·rw[mS C];exact⟨I.may,I.fit⟩
 obtain⟨_,_,a3,_,_,a6⟩:=U.inv hI.pi hI.hk.puts;have O:∀p∈nX s.l.V Y.X.W [x],EvL p.2:=fun p M=>by
  rcases JB p M with J|⟨J,_⟩
  ·exact hW p J
  ·rw[mS J];exact I
 have hs:=t1.ch.size;refine hK w1 ⟨j+1,Y1,_,congrArg iv (by push_cast;rfl),hj,h1,hI.hear (fun e C=>?_) U,fun e C=>?_,fun p M=>O p (U.sub p M),?_,⟨ep.1.trans hu.1,ep.2.trans hu.2⟩,fun x I=>(t1.nf x I).elim (hF x) fun J=>by omega,b.trans (t1.ch.below hF ad)⟩
 ·rw[mS C];exact⟨I.fit,fun hq=>by have:=I.o;unfold EV.q at hq;omega⟩
 ·rcases List.mem_append.1 C with C|C
  ·exact hA e C
  ·obtain⟨_,p,M,rfl⟩:=a6 e C;exact O p M
 ·show (s.A++F).length≤_;rw[List.length_append];omega
theorem zay {L:List (Nat×LG)}{E:List EV}(hw:WM w Bw g L E C)(hE:E.length≤60)(ap:∀e∈E,EvL e)(J:KD w0)(hk:1≤k∧k≤6)(ho:0≤r∧r≤255)(hP:RIn w0 a c n M0)(b:Below w0.heap.size w0 w)(e1:V0=kv8 r)(e2:W0=.slice a c n)(e3:X0=iv (k:Nat))(e4:Y0=pB g)(hW:∀w' K',Below w0.heap.size w0 w'→(∀al,Below w'.heap.size w' al→K' cT al)→call Q 6 #[] K' w')(hK:∀w',Below w0.heap.size w0 w'→K cT w'):co K (pO V0 W0 X0 Y0 zf) w:=by
 subst e1 e2 e3 e4;have sb:=b.size;have a4:0<w0.heap.size:=J.lt;refine Bx (zb9 fun w1 k1 b1=>?_);have s1:=b1.size;refine Mj (i:=0) (A:=[]) (J.below (b.trans (b1.mono sb))) hk.1 hk.2 oo k1 oo sm trivial sm fun w2 Y aS h2 a5 W2 an f2 a2=>?_;have am:Below w.heap.size w w2:=b1.trans (an.mono s1)
 have a1:∀x∈DF Y,w.heap.size≤x:=fun x M=>(f2 x M).elim (fun e=>by omega) fun hh=>by omega
 refine bu (bv (aX (dt sm (yO (bj sm (aF ?_))))));refine Bt (Inv:=zcP w k w.heap.size Y.u E.length) (μ:=fun i _=>E.length-(intOf i).toNat)
  ⟨0,Y,_,rfl,Nat.zero_le _,h2,⟨JA k,by rw[W2];exact HK.nil,trivial,rfl,by simp,by rw[W2];simp,by rw[W2];simp⟩,by simp,by rw[W2];simp,by simp,⟨aS,rfl⟩,a1,am⟩ ?_
 rintro _ dd w3 mu ⟨j,Y3,s3,rfl,hj,h3,Z,O,ar,av,h,U,b3⟩ az;have a0:=hw.fresh b3;obtain⟨la,lc,ea,ec,ad,_,I⟩:=a0.row;refine aj (EK (lK (v:=.slice ea E.length ec) ad rfl (bh underlying44 (aK ?_))));rw[←h.2];by_cases aa:j<E.length
 case neg =>
  exact ao oo (zax J hk ho hP h3 h.1 (StO.zero oo Z O) oo (b.trans (b3.mono sb)) (fun x M=>Nat.le_trans sb (U x M)) rfl rfl rfl rfl rfl hW hK)
 obtain⟨eb,a3,rfl,op⟩:=d9 I oo;have M:E[j]? = some E[j]:=gE aa;have af:=ap E[j] (List.getElem_mem _);generalize E[j]=x at M af;have hv:=(U6 I rfl).at_ (c2:=ec-j) M;refine ax oo (aj (EK (lK (v:=.slice (some ⟨eb,0,none⟩) E.length ec) ad rfl (aM oo oo ?_))));rw[show ((j:Nat):Int)+1=((j+1:Nat):Int)by push_cast;rfl]
 refine zeT oo op.nc (zcB b3.size h3 Z O ar av aa oo h U b3 op.blk hv af fun w4 ag=>aX (ao sm (aM oo oo ⟨by rw[h.2];exact ag,?_⟩)));rw[az];show E.length-((j:Int)+1).toNat<E.length-(j:Int).toNat;omega
theorem X7 (aa:KD w0){X:List AC}(hn:0≤r∧r≤255)(ho:0≤v∧v≤255)(hX:AR w0 a m c X)(hP:RIn w0 av b o A)(hW:∀w' K',Below w0.heap.size w0 w'→(∀I,Below w'.heap.size w' I→K' cT I)→call Q 6 #[] K' w')(hK:∀w',Below w0.heap.size w0 w'→K cT w'):call Q 3 #[kv8 r,.slice a m c,kv8 v,.slice av b o] K w0:=by
 refine ak (goK func3) (DO ?_);refine ak (goK func5) (Of (bh underlying22 (gJ (wZ ?_))));have wk:call Q 6 #[] K w0:=hW w0 K (Below.refl _ _) hK;by_cases hm:m≤60
 case neg=>exact iq oo (bA oo (eA (cz (aT wk))))
 refine dt oo (bh underlying22 (bO (bj oo ?_)));by_cases ap:m≤50
 case neg=>exact iq oo (bA oo (aT wk))
 refine dt oo (bh underlying23 (bO (bj oo ?_)));by_cases ar:b≤20
 case neg=>exact ax oo wk
 refine ao oo (bX underlying5 underlying3 ?_);rw[eU oo oo];refine Ct hn.1 oo ?_;have h5:0≤r%5∧r%5<5:=⟨Int.emod_nonneg _ oo,Int.emod_lt_of_pos _ oo⟩
 obtain⟨k,ad⟩:∃k:Nat,2+r%5=(k:Nat):=⟨(2+r%5).toNat,by omega⟩
 have hk:2≤k∧k≤6:=by omega
 refine aM oo oo ?_;rw[ad];refine WD (n:=k) oo oo fun w1 g L1 al U b1=>?_;refine Bs (Inv:=fun i wr=>∃(j:Nat) (L:List (Nat×LG)) (E:List EV) (C:Nat→Int),i=iv (j:Nat)∧j≤m∧WM wr w0.heap.size g L E C∧L.length=k∧E.length≤j∧(∀e∈E,EvL e)∧Below w0.heap.size w0 wr) (μ:=fun i _=>m-(intOf i).toNat)
  ⟨0,L1,[],_,rfl,Nat.zero_le _,al,U,Nat.le_refl _,by simp,b1⟩ ?_
 rintro _ dd w2 mu ⟨j,L,E,C,rfl,hj,hw,hL,an,h,J⟩ af;refine bh underlying22 (aK ?_);by_cases u:j<m
 ·refine ax oo ?_;have Z:j<X.length:=by rw[hX.len];exact u
  have hx:X[j]? = some X[j]:=gE Z;refine zaw hw J.size oo (hX.bel J oA) hx u oo hk hL rfl rfl rfl rfl fun e w' L' E' C' ag O am M b' ge=>?_;refine⟨⟨j+1,L',E',C',by rw[ge];exact congrArg iv (by push_cast;rfl),u,ag,O.trans hL,by omega,?_,J.trans b'⟩,?_⟩
  ·rcases M with rfl|⟨x,hx,rfl⟩
   ·exact h
   ·exact fun e he=>(List.mem_append.1 he).elim (h e) fun he=>by rw[mS he];exact hx
  ·rw[af,ge];show m-((j:Int)+1).toNat<m-(j:Int).toNat;omega
 exact ao oo (zay hw oo h aa oo ho hP J rfl rfl rfl rfl hW hK)
abbrev wX :AK:=⟨1,0,0,10,0,0⟩
def wP :PL:=eff (mkP 0 (pl0 1) wX) (pl0 1)
theorem zbi :oN (mkP 0 (pl0 1) wX) (pl0 1)=0:=by decide
theorem zfg :wP.N.length=1:=by decide
theorem YP (C:KD w)(h:∀w',Below w.heap.size w w'→K cT w'):call Q 6 #[] K w:=by
 have am:0<w.heap.size:=C.lt;refine ak (goK func6) (Lj (zb9 fun w1 k1 b1=>?_));have s1:=b1.size;refine Mj (n:=1) (i:=0) (A:=[]) (C.below b1) oo oo oo k1 oo sm trivial sm fun w2 Y U h2 an W2 aa f2 a2=>?_;have b2:Below w.heap.size w w2:=b1.trans (aa.mono s1)
 have ad:∀x∈DF Y,w.heap.size≤x:=fun x hx=>(f2 x hx).elim (fun e=>by omega) fun hh=>by omega
 refine bu (bv (aX (dt sm (yO (bj sm (aF ?_))))));refine dl (vs:=akC wX) kr (Wr (now:=0) h2 oo (JA 1) dc dc (by unfold H6;decide) sm rfl zbi fun w3 Y3 Z t3 _ O _=>?_);have Z:DuM w3 0 Y3 ⟨wP,[mkP 0 (pl0 1) wX],gp0⟩ [mkP 0 (pl0 1) wX]:=Z;have I:=(qi (JA 1)).1 zbi;have j:PI wP:=(JA 1).eff I
 have b3:Below w.heap.size w w3:=b2.trans (t3.ch.below ad b2.size);have s3:=b3.size;refine bu (bv (jT fun w4 z4 b4 s4=>iU (e':=mkP 0 (pl0 1) wX) z4 fun w5 z5 o5=>?_));have u:Below w3.heap.size w3 w5:=aR b4 o5 oA;have h5:=Z.below u;have b5:=b3.trans (u.mono s3);have s5:=u.size;have ag:Y3.p=w.heap.size:=O.1.trans U;have af:=Z.ltq _ mp1;have ar:=z5.lt;refine J8 ?_
 rw[←U, ←O.1];refine zbb h5.jk.1 fun w6 k6 o6=>zdI (l:=[]) k6 (RV.nil w6) fun w7 k7 c7=>?_;have M:Ch [Y3.p] w5 w7:=(Ch.of_oth o6 (List.mem_singleton.2 rfl)).trans c7 fun _ h=>.inl h;have b7:Below w.heap.size w w7:=b5.trans (M.below (fun x hx=>by rw[mS hx];omega) b5.size)
 refine Mj (n:=1) (i:=0) (A:=[mkP 0 (pl0 1) wX]) (C.below b7) oo oo oo k7 oo (fun e he=>by rw[mS he];exact⟨I.may,QZ (JA 1) (by unfold H6;decide)⟩) ⟨I,trivial⟩ sm fun w8 Y8 al h8 ap W8 J f8 a8=>?_;have h8:DuM w8 0 Y8 ⟨wP,[mkP 0 (pl0 1) wX],gp0⟩ [mkP 0 (pl0 1) wX]:=h8;have b8:Below w.heap.size w w8:=b7.trans (J.mono b7.size)
 have z7:=z5.ch M fun hh=>by have:=mS hh;omega
 have z8:=ae J z7 z7.lt;refine bu (bv (aX (dt sm (yO (bj sm (aF ?_))))));refine aO (cU rfl (gN (lK (v:=u6 (mkP 0 (pl0 1) wX).s) z8 rfl (aO (bA rfl (cU dc (aO (bA dc (cU rfl ?_)))))))));refine NH h8 j dc fun w9 t ga gc so b9=>?_
 refine zf7 (off:=18) (n:=1) (v:=.slice t.na t.nodes.length t.nc) kr (MC (by rw[so.eI];exact j.i6) (by rw[so.eL];exact j.l6) (by rw[so.eV];exact j.v6)) (bh underlying55 ?_);have hN:t.nodes.length=1:=by rw[so.eN];exact zfg
 rw[hN];refine aO (bA rfl (cU rfl (Xr (h8.below b9) (bK (bA rfl (h w9 (b8.trans (b9.mono b8.size))))))))
theorem ze5 (j:KD w0){X:List AC}(J:0≤x∧x≤255)(M:0≤r∧r≤255)(I:AR w0 a m c X)(C:RIn w0 av n o A)(u:∀w',Below w0.heap.size w0 w'→K cT w'):call Q 3 #[kv8 x,.slice a m c,kv8 r,.slice av n o] K w0 :=
 X7 j J M I C (fun w' K' b h=>YP (j.below b) h) u
end
end
section
open Go.ChangeShapes Go.WideShapes Go.ChangeAt Go.RowKit
theorem YS {x:Addr}(h:x.spot=none)(i:Nat):x.add i=pu (some x) i:=by
 obtain⟨b,o,s⟩:=x;cases h;simp[Addr.add,pu]
section
variable {H:Type}{enc:TypeId×Value→H}{W:World}{base:Nat}{held:Bool}
end
end
section
open Go.RowKit
def gbk (w:World)(g:Nat)(cs:List Value):Prop:=∃E fr,w.heap[g]? = some (.cells cs.toArray E fr)
def fnV (f:FuncId):Value:=.func (.func f) #[] #[]
theorem UQ {base:Nat}{C:Nat→Bool}{fuel:Nat}{ps u:Array TypeId}{v:Value}{q:List MemPlace}{enc:TypeId×Value→List UInt8}(j:P.underlying t=some (.func ps u cx))(h:DataW.trod enc P w base C true fuel t [v]=some (.nil,q)):v=.nilFunc:=by
 cases fuel with
 | zero=>simp[DataW.trod]at h
 | succ n=>cases v<;>simp[DataW.trod,j]at h;rfl
def TG :List Value:=[.nilFunc,fnV 296,fnV 297,fnV 298,fnV 299,fnV 300,fnV 301,fnV 302]
set_option maxRecDepth 100000 in
theorem XO {W:World} {u:List (String × DataW Unit)} (h:laidMetH Q u W) (hm:("leat/ledger.kinds",Rows.laid_leat_ledger_kinds) ∈ u):gbk W 0 TG:=by
 obtain ⟨g,t,cs,fuel,p,hg,ht,C,hd⟩:=h.funcs hm;obtain rfl:=Option.some.inj ((show Tryz.prog.globalNamed "leat/ledger.kinds" = some 0 by kernel_rfl).symm.trans hg);obtain rfl:=Option.some.inj ((show (Tryz.prog.globals[0]?).map (·.type)=some 309 by kernel_rfl).symm.trans ht)
 have ad:DataW.trod (funcToken Q) Q W 0 (fun _=>true) true fuel 309 cs.toList=some (.agg [.nil,.held [40,42,108,101,97,116,47,108,101,100,103,101,114,46,76,101,100,103,101,114,41,46,109,97,107,101,115],.held [40,42,108,101,97,116,47,108,101,100,103,101,114,46,76,101,100,103,101,114,41,46,114,97,105,115,101,115],.held [40,42,108,101,97,116,47,108,101,100,103,101,114,46,76,101,100,103,101,114,41,46,116,97,107,101,115],.held [40,42,108,101,97,116,47,108,101,100,103,101,114,46,76,101,100,103,101,114,41,46,102,114,101,101,115],.held [40,42,108,101,97,116,47,108,101,100,103,101,114,46,76,101,100,103,101,114,41,46,109,111,118,101,115],.held [40,42,108,101,97,116,47,108,101,100,103,101,114,46,76,101,100,103,101,114,41,46,106,111,105,110,115],.held [40,42,108,101,97,116,47,108,101,100,103,101,114,46,76,101,100,103,101,114,41,46,108,101,97,118,101,115]],p):=hd
 obtain ⟨xs,m,rfl,hx,hl,hn,j⟩:=DataW.trod_array (n:=8) (e:=308) kr ad;have hl:cs.toList.length=8:=hl.trans kr;have hc:Tryz.prog.cellsOf 308=1:=by kernel_rfl
 rw [hc] at j;have hx:=(Prod.mk.inj hx).1;generalize aa:cs.toList=l at hl j;obtain ⟨c0,I,c2,J,M,O,U,Z,rfl⟩:∃ c0 I c2 J M O U Z:Value,l=[c0,I,c2,J,M,O,U,Z]:=by
  match l,hl with
  | [c0,I,c2,J,M,O,U,Z],_=>exact ⟨_,_,_,_,_,_,_,_,rfl⟩
 obtain ⟨x0,x1,x2,x3,x4,x5,x6,x7,rfl⟩:∃ x0 x1 x2 x3 x4 x5 x6 x7:DataW (List UInt8) × List MemPlace,xs=[x0,x1,x2,x3,x4,x5,x6,x7]:=by
  match xs,hn with
  | [x0,x1,x2,x3,x4,x5,x6,x7],_=>exact ⟨_,_,_,_,_,_,_,_,rfl⟩
 simp only [List.map_cons,List.map_nil,DataW.agg.injEq,List.cons.injEq,and_true] at hx;obtain ⟨y0,y1,y2,y3,y4,y5,y6,y7⟩:=hx;obtain ⟨d0,q0⟩:=x0;cases y0;have e0:DataW.trod (funcToken Q) Q W 0 (fun _=>true) true m 308 [c0]=some (_,q0):=j 0 oo;obtain rfl:=UQ underlying308 e0;obtain ⟨d1,q1⟩:=x1;cases y1
 have e1:DataW.trod (funcToken Q) Q W 0 (fun _=>true) true m 308 [I]=some (_,q1):=j 1 oo;obtain rfl:=func_of_trod (f0:=296) underlying308 kr e1;obtain ⟨d2,q2⟩:=x2;cases y2;have e2:DataW.trod (funcToken Q) Q W 0 (fun _=>true) true m 308 [c2]=some (_,q2):=j 2 oo;obtain rfl:=func_of_trod (f0:=297) underlying308 kr e2;obtain ⟨d3,q3⟩:=x3;cases y3
 have e3:DataW.trod (funcToken Q) Q W 0 (fun _=>true) true m 308 [J]=some (_,q3):=j 3 oo;obtain rfl:=func_of_trod (f0:=298) underlying308 kr e3;obtain ⟨d4,q4⟩:=x4;cases y4;have e4:DataW.trod (funcToken Q) Q W 0 (fun _=>true) true m 308 [M]=some (_,q4):=j 4 oo;obtain rfl:=func_of_trod (f0:=299) underlying308 kr e4;obtain ⟨d5,q5⟩:=x5;cases y5
 have e5:DataW.trod (funcToken Q) Q W 0 (fun _=>true) true m 308 [O]=some (_,q5):=j 5 oo;obtain rfl:=func_of_trod (f0:=300) underlying308 kr e5;obtain ⟨d6,q6⟩:=x6;cases y6;have e6:DataW.trod (funcToken Q) Q W 0 (fun _=>true) true m 308 [U]=some (_,q6):=j 6 oo;obtain rfl:=func_of_trod (f0:=301) underlying308 kr e6;obtain ⟨d7,q7⟩:=x7;cases y7
 have e7:DataW.trod (funcToken Q) Q W 0 (fun _=>true) true m 308 [Z]=some (_,q7):=j 7 oo;obtain rfl:=func_of_trod (f0:=302) underlying308 kr e7;obtain ⟨fr,af⟩:∃ q:TypeId × (Nat × Nat),W.heap[0]? = some (.cells cs q.1 q.2):=by
  unfold World.var? at C;rw [hg] at C;simp only [Option.bind_some] at C;split at C
  ·rename_i a b c hh; cases C; exact ⟨(b,c),hh⟩
  ·cases C
 exact ⟨fr.1,fr.2,by rw [af, ← Array.toArray_toList (xs:=cs),aa]; rfl⟩
def rlG (g:Nat):Option (Nat×List Value):=match Nat.beq g 0 with|true=>some (0,TG)|false=>none
theorem NI {W:World}(n:Int)(M:0≤n∧n≤255)(a:Option Addr)(m c:Nat)(L:List AC)(hL:AR W a m c L)(_:m≤c)(_:c≤9223372036854775807)(o:Int)(O:0≤o∧o≤255)(C:Option Addr)(u j:Nat)(P:List Int)(I:RIn W C u j P)(_:u≤j)(_:j≤9223372036854775807)(J:∀g e cs,rlG g=some (e,cs)→gbk W g cs)(h:∀w',Below W.heap.size W w'→K (.bool true) w'):call Q 3 #[.int .u8 n,.slice a m c,.int .u8 o,.slice C u j] K W :=
 ze5 (J 0 0 TG rfl) M O hL I h
end
section
theorem Wu :ownKnob Tryz.prog.godebug=none:=by kernel_rfl
theorem Nt :laidOutB Q=true:=by kernel_rfl
end
section
open Go.ChangeShapes Go.WideShapes Go.ChangeAt Go.RowKit Go.Deep
section
variable {H:Type}{enc:TypeId×Value→H}{W:World}{base:Nat}{held:Bool}
theorem Uy (h:(Lit.int .u8 x).wf=true):0≤x∧x≤255:=by simpa[Lit.wf,IntKind.min,IntKind.max,IntKind.signed,IntKind.bits]using h
end
section
variable {H:Type}{enc:TypeId×Value→H}{W:World}{base:Nat}{held:Bool}
theorem zaj {fuel:Nat}{x:DataW H×List MemPlace}(h:DataW.trod enc Q W base (fun _=>true) held fuel 30 cs=some x):∃y:AC,cs=acC y∧LJ y:=by
 obtain⟨xs,n,rfl,rfl,u,I,j⟩:=DataW.trod_struct underlying30 h;have h9:cs.length=9:=by rw[u];kernel_rfl
 match cs,h9 with
 | [c0,c1,c2,c3,c4,c5,c6,c7,c8],_ =>
  have C:xs.length=9:=I
  match xs,C with
  | [x0,x1,x2,x3,x4,x5,x6,x7,x8],_ =>
   have h0:DataW.trod enc Q W base (fun _=>true) held n 5 [c0]=some x0:=Eq.mp kr (j 0 _ rfl);have h1:DataW.trod enc Q W base (fun _=>true) held n 4 [c1]=some x1:=Eq.mp kr (j 1 _ rfl);have h2:DataW.trod enc Q W base (fun _=>true) held n 5 [c2]=some x2:=Eq.mp kr (j 2 _ rfl)
   have h3:DataW.trod enc Q W base (fun _=>true) held n 5 [c3]=some x3:=Eq.mp kr (j 3 _ rfl);have h4:DataW.trod enc Q W base (fun _=>true) held n 5 [c4]=some x4:=Eq.mp kr (j 4 _ rfl);have h5:DataW.trod enc Q W base (fun _=>true) held n 5 [c5]=some x5:=Eq.mp kr (j 5 _ rfl)
   have h6:DataW.trod enc Q W base (fun _=>true) held n 28 [c6]=some x6:=Eq.mp kr (j 6 _ rfl);have h7:DataW.trod enc Q W base (fun _=>true) held n 5 [c7]=some x7:=Eq.mp kr (j 7 _ rfl);have h8:DataW.trod enc Q W base (fun _=>true) held n 5 [c8]=some x8:=Eq.mp kr (j 8 _ rfl);obtain⟨z0,J,_,w0⟩:=DataW.trod_int underlying5 h0
   obtain⟨z1,e1,_⟩:=DataW.trod_bool underlying4 h1;obtain⟨z2,M,_,w2⟩:=DataW.trod_int underlying5 h2;obtain⟨z3,O,_,w3⟩:=DataW.trod_int underlying5 h3;obtain⟨z4,U,_,w4⟩:=DataW.trod_int underlying5 h4;obtain⟨z5,Z,_,w5⟩:=DataW.trod_int underlying5 h5;obtain⟨z6,e6,_,w6⟩:=DataW.trod_int underlying28 h6;obtain⟨z7,e7,_,w7⟩:=DataW.trod_int underlying5 h7
   obtain⟨z8,e8,_,w8⟩:=DataW.trod_int underlying5 h8;simp only[List.cons.injEq,and_true]at J e1 M O U Z e6 e7 e8;subst J e1 M O U Z e6 e7 e8;exact⟨⟨z0,z1,z2,z3,z4,z5,z6,z7,z8⟩,rfl,Uy w0,Uy w2,Uy ‹(Lit.int .u8 z4).wf=true›⟩
theorem Wi {fuel:Nat}{x:DataW H×List MemPlace}(hc:cs=[.slice a n c])(hf:DataW.trod enc Q W base (fun _=>true) held fuel 22 cs=some x):(∃L,AR W a n c L)∧n≤c∧c≤9223372036854775807:=by
 obtain⟨d,p⟩:=x;rcases open_slice underlying22 hf with⟨C,_⟩|⟨J,ap,cap,m,k,D,Pl,C,an,hl,hm,Z,hx,O⟩
 ·rw[hc]at C;simp only[List.cons.injEq,Value.slice.injEq,and_true]at C;obtain⟨rfl,rfl,rfl⟩:=C;exact⟨⟨[],rfl,fun h=>by omega,fun i s h=>by simp at h,fun x hx=>by cases hx⟩,by omega,by omega⟩
 ·rw[hc]at C;simp only[List.cons.injEq,Value.slice.injEq,and_true]at C;obtain⟨rfl,rfl,rfl⟩:=C;simp only[if_true]at Z;subst Z;refine⟨?_,hl,by simpa[maxLen]using hm⟩;have h9:Tryz.prog.cellsOf 30=9:=by kernel_rfl
  have M:∀i,i<n→∃q:AC,LJ q∧∀j u,(acC q)[j]? = some u→W.cell? ((J.add (i*9)).add j)=some u:=by
   intro i hi;obtain⟨am,U,af⟩:=O i oo;rw[h9]at U;obtain⟨_,al,I⟩:=World.cells?_some U;obtain⟨s,rfl,h1⟩:=zaj af;refine⟨s,h1,fun j u hu=>?_⟩;have hj:=(gS hu).1;have hj:j<9:=hj;rw[I j hj];exact hu
  haveI:Inhabited AC:=⟨⟨0,false,0,0,0,0,0,0,0⟩⟩
  obtain⟨Q,hQ⟩:=choose_lt M;have aa:0<n→J.spot=none:=by
   intro h0;obtain⟨_,ag⟩:=hQ 0 h0
   have:=World.cell?_spot (ag 0 _ rfl)
   exact this
  refine⟨(List.range n).map Q,by simp,fun h0=>⟨J.block,J.off,by have:=aa h0;obtain⟨b,o,s⟩:=J;cases this;rfl⟩,fun i s hs b o ha j u hu=>?_,fun x hx=>?_⟩
  ·have hi:i<n:=by have:=(gS hs).1;simpa using this
   simp only[List.getElem?_map,List.getElem?_range hi,Option.map_some,Option.some.injEq]at hs;subst hs;obtain⟨q1,q4⟩:=hQ i hi;cases ha
   have:=q4 j u hu
   rw[Be,Be]at this;exact this
  ·obtain⟨i,hi,rfl⟩:=List.mem_map.1 hx;exact(hQ i (List.mem_range.1 hi)).1
theorem WQ {x:Addr}{cap:Nat}(M:c≤cap)(O:A.length=cap)(h:∀i,i<A.length→w.cell? (x.add i)=some (ci (A.getD i 0))):RIn w (some x) c cap (A.take c):=by
 have u:0<c→x.spot=none:=by
  intro I
  have:=World.cell?_spot (h 0 oo)
  simpa[Addr.add]using this
 refine⟨by simp;omega,M,fun I=>⟨x.block,x.off,by have:=u I;obtain⟨b,o,s⟩:=x;cases this;rfl⟩,(fun J=>by cases J),fun i v C=>?_⟩;have hi:i<c:=by
  have:=(gS C).1
  simp at this;omega
 rw[←YS (u oo),h i oo];have j:i<A.length:=by omega
 rw[List.getElem?_map,List.getElem?_take_of_lt hi,gE j]at C;simp only[Option.map_some,Option.some.injEq]at C;rw[←C];simp[List.getD,j]
theorem WR {fuel:Nat}{x:DataW H×List MemPlace}(u:cs=[.slice a n c])(I:DataW.trod enc Q W base (fun _=>true) held fuel 23 cs=some x):(∃l,RIn W a n c l)∧n≤c∧c≤9223372036854775807:=by
 rcases open_ints underlying23 underlying3 kr I with⟨h,_⟩|⟨x,l,c,U,h,_,C,J,O,_,j,M⟩
 ·rw[u]at h;simp only[List.cons.injEq,Value.slice.injEq,and_true]at h;obtain⟨rfl,rfl,rfl⟩:=h;exact⟨⟨[],RV.nil W⟩,by omega,by omega⟩
 ·rw[u]at h;simp only[List.cons.injEq,Value.slice.injEq,and_true]at h;obtain⟨rfl,rfl,rfl⟩:=h;exact⟨⟨_,WQ C (by simpa using O) j⟩,C,by simpa[maxLen]using J⟩
end
end
end Go.Proofs.YtkfgimlaijifaaaGreatDoor
