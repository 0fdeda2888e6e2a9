import Derived.Test.YtkfgimlaijifaaaGreatDoorQ2
import Derived.Test.YtkfgimlaijifaaaGreatDoorQ11
import Derived.Test.YtkfgimlaijifaaaGreatDoorQ12
import Derived.Test.YtkfgimlaijifaaaGreatDoorQ10
namespace Go.Proofs.YtkfgimlaijifaaaGreatDoor
set_option maxRecDepth 100000
set_option maxHeartbeats 4000000
open Go.Proofs.Tryz
variable {w w' w0:World}{K:KV}{zf:Nat→Value}{b c n o k B i p g m j s z c2 eb f d B2 tb hi:Nat}{a av a2:Option Addr}{x r v:Int}{A M0:List Int}{E t e:TypeId}{cs vs:List Value}{B1:KE}{P:Program}{T L:List (Int×Int)}{C:Nat→Int}{cx cy:Bool}{F:List Nat}{α κ:Type}{V0 W0 X0 Y0 Z0 H1 I1 J1 M1 N1 O1 P1 Q1 T1 U1:Value}
section
open Go.RowKit
def vh (r0 t10 t11 t12:Value)(zf:Nat→Value):List Value:=r0::zT zf 1 9 (t10::t11::t12::zT zf 13 10 ([]))
def vi (zf:Nat→Value):List Value:=zT zf 0 23 ([])
def fl (K:KV):KE:=kZ f31 [1,1,1] K
def mY (K:KV):KE:=ah Q (cd f31 (b1 58)) (fl K) (xx xf (fl K) 0) (rk f31 K)
theorem Ef (h:bT .eql 98 V0 (.pointer none) (fun j w=>cond j (K (ci 2) w) (lN 44 W0 (fun X0=>mY K (vh V0 W0 X0 (ci 0) (zV (zV (zV zu 1 [W0]) 4 [ci 0]) 8 [V0,j]))) w)) w):Gives Q 31 #[V0,W0] w K:=by
 refine aq func31 kr ?_;revert h;delta mY fl;exact mpF
theorem Cu (Inv:Value→World→Prop)(μ:Value→World→Nat)(Z:Inv Y0 w)(hs:∀(j:Value) (U:Nat→Value) (w:World) (m:Nat),Inv j w→m=μ j w →
  lS j X0 (fun t13 w=>cond t13 (aL Q 44 W0 j (fun t14=>ld Q 35 t14 fun t15=>alc Q 35 fun O=>sto Q 35 O t15 fun _=>ld Q 35 O fun J=>call Q 66 #[V0,J] fun u=>bT .neq 40 u (ci 0) fun M w=>cond M (K u w) (nC j (fun C w=>(Inv C w)∧((μ C w)<m)) w)) w) (fl K (vi (zV (zV U 0 [V0]) 10 [W0,X0,j,t13])) w)) w):mY K (vh V0 W0 X0 Y0 zf) w:=by
 refine aI (cd f31 (b1 116)) (zr [(4,1),(6,2),(12,11)]) kr (vP [12] Inv) (vQ [12] μ) Z ?_;intro e' w' hI;have h:=hs _ (zM zf (gd e') (zr [(4,1),(6,2),(12,11)])) w' _ hI rfl;revert h;generalize (fl K)=qc0;exact mpF
theorem Cv (h:K (ci 0) w):fl K (vi zf) w:=by
 delta fl;exact mpK h
attribute [irreducible] fl mY
theorem FT (h:bT .eql 98 V0 (.pointer none) (fun t4 w=>cond t4 (K cN w) (aJ V0 (fun j=>ai Q 144 j 5 fun t7=>ld Q 141 t7 fun u=>call Q 77 #[u] K) w)) w):Gives Q 40 #[V0] w K:=by
 refine aq func40 kr ?_;exact mpK h
end
section
open Go.RowKit Go.ChangeMaps
theorem MB.nblk {kv:κ→Value}{vv:α→Value}{M:List (κ×α)}(h:MB kv vv w m M)(j:blk w k E cs):k≠m:=fun e=>by
 obtain⟨es,c,u⟩:=h;unfold blk at j;rw[e,u.heap]at j;cases j
theorem RepW.ty {X:RpX}{s:RS}(h:RepW w i X s)(u:blk w k E cs)(I:E∉[189,193,274,199,233]):k∉FF X:=fun j=>by
 simp only[List.mem_cons,List.not_mem_nil,or_false,not_or]at I;obtain⟨M,O,U,Z,h5⟩:=I;have C:=h.rp.pm;rcases uo.1 j with j|rfl|j
 ·rcases fQ.1 j with j|rfl|j|rfl|rfl
  ·simp only[LB.wv,List.mem_cons,List.not_mem_nil,or_false]at j;obtain⟨m0,p0,_⟩:=C.tm.mp;obtain⟨m1,p1,_⟩:=C.pm;obtain⟨m2,p2,_⟩:=C.rm;obtain⟨m3,p3,_⟩:=C.gm;obtain⟨m4,p4,_⟩:=C.am;rcases j with j|j|j|j|j|j
   ·exact u.ne C.b M j
   ·exact p0.nblk u j
   ·exact p1.nblk u j
   ·exact p2.nblk u j
   ·exact p3.nblk u j
   ·exact p4.nblk u j
  ·exact u.ne h.rp.g.b O rfl
  ·exact h.rp.g.ty u U j
  ·exact h.rp.h.mb' u rfl
  ·exact u.ne h.rp.e.b Z rfl
 ·exact h.dm.mb.nblk u rfl
 ·obtain⟨J,hw⟩:=h.dm.wlt j;exact u.ne hw h5 rfl
structure DuX where
 X:RpX
 p:Nat
 q:Nat
 u:Nat
def DF (Y:DuX):List Nat:=FF Y.X++[Y.p,Y.q,Y.u]
def DA (Y:DuX):List Nat:=AF Y.X++[Y.p,Y.q,Y.u]
theorem zQ {Y:DuX}:k∈DF Y↔k∈FF Y.X∨k∈[Y.p,Y.q,Y.u]:=by simp[DF]
theorem zP {Y:DuX}:k∈DA Y↔k∈AF Y.X∨k∈[Y.p,Y.q,Y.u]:=by simp[DA]
theorem Md {X:RpX}(h:k∈FF X):k∈AF X:=wg.2 (.inr (.inr (.inr (.inr h))))
theorem SG {Y:DuX}(h:k∈DF Y):k∈DA Y:=(zQ.1 h).elim (fun h=>zP.2 (.inl (Md h))) fun h=>zP.2 (.inr h)
abbrev yz (A:List EV):List (List UInt8):=A.map evB
structure DuM (w:World) (i:Nat) (Y:DuX) (s:RS) (A:List EV):Prop where
 b:blk w Y.u 109 [pB Y.X.R.p,pB Y.q,.bool false]
 rp:RepW w i Y.X s
 jk:JK w Y.p Y.q (cf (yz A))
 xf:∀k∈[Y.p,Y.q,Y.u],k∉AF Y.X
structure DuS (w w':World) (Y Y':DuX):Prop where
 ch:Ch (DF Y) w w'
 nf:∀k∈DF Y',k∈DF Y∨w.heap.size≤k
 na:∀k∈DA Y',k∈DA Y∨w.heap.size≤k
section
variable {w w' w2:World}{i:Nat}{Y Y' Y2:DuX}{s s':RS}{A A':List EV}{X':RpX}
theorem DuS.refl (j:Below w.heap.size w w'):DuS w w' Y Y:=⟨Ch.of_below j,fun _ h=>.inl h,fun _ h=>.inl h⟩
theorem DuS.trans (h:DuS w w' Y Y')(k:DuS w' w2 Y' Y2):DuS w w2 Y Y2 :=
 have C:=h.ch.size
 ⟨h.ch.trans k.ch h.nf,fun x j=>(k.nf x j).elim (h.nf x) fun u=>.inr oo,fun x j=>(k.na x j).elim (h.na x) fun u=>.inr oo⟩
theorem DuM.ltq (h:DuM w i Y s A):∀k∈[Y.p,Y.q,Y.u],k<w.heap.size:=by
 simp only[List.mem_cons,List.not_mem_nil,or_false];rintro k (rfl|rfl|rfl)
 ·exact h.jk.1.lt
 ·exact h.jk.2.lt
 ·exact h.b.lt
theorem DuM.lt (h:DuM w i Y s A):∀k∈DA Y,k<w.heap.size:=fun k j=>(zP.1 j).elim (h.rp.lt k) (h.ltq k)
theorem RepW.noBy (h:RepW w i Y.X s):Go.Proofs.YtkfgimlaijifaaaGreatDoor.noBy w (FF Y.X):=fun k cs j=>h.ty j dc
theorem DuS.add (h:DuS w w' Y Y')(k:Below w.heap.size w' w2):DuS w w2 Y Y':=⟨h.ch.add k,h.nf,h.na⟩
theorem mp1 {a:Nat}:a∈[a,b,c]:=by simp
theorem mp2 {a:Nat}:b∈[a,b,c]:=by simp
theorem mp3 {a:Nat}:c∈[a,b,c]:=by simp
theorem DuM.oth (h:DuM w i Y s A)(o:Oth z w w')(O:z∉DA Y)(J:blk w z E cs)(I:5≠E):DuM w' i Y s A:=by
 have C:Ch [z] w w':=Ch.of_oth o sm;have n:∀k∈DA Y,k∉[z]:=fun k j M=>O (mS M ▸ j);have m:∀k∈[Y.p,Y.q,Y.u],k∉[z]:=fun k j=>n k (zP.2 (.inr j));exact {h with
  b:=h.b.ch C (m _ mp3)
  rp:=h.rp.ch C fun k j=>n k (zP.2 (.inl j))
  jk:=h.jk.ch C (noBy.of J I) (m _ mp1) (m _ mp2)}
theorem DuM.below (h:DuM w i Y s A)(j:Below w.heap.size w w'):DuM w' i Y s A :=
 {h with b:=ae j h.b h.b.lt,rp:=h.rp.below j,jk:=h.jk.below j}
theorem DuM.step (h:DuM w i Y s A)(C:StpX w w' Y.X X')(O:RepW w' i X' s'):DuM w' i {Y with X:=X'} s' A∧DuS w w' Y {Y with X:=X'}:=by
 have J:∀k∈[Y.p,Y.q,Y.u],k∉FF Y.X:=fun k j I=>h.xf k j (Md I);refine⟨⟨?_,O,h.jk.ch C.ch h.rp.noBy (J _ mp1) (J _ mp2),fun k j M=>(C.af k M).elim (h.xf k j) fun I=>by have:=h.ltq k j;omega⟩,C.ch.mono fun k j=>zQ.2 (.inl j),fun k j=>?_,fun k j=>?_⟩
 ·have:=h.b.ch C.ch (J _ mp3)
  rw[←C.R]at this;exact this
 ·rcases zQ.1 j with j|j
  ·exact(C.new k j).imp (fun I=>zQ.2 (.inl I)) id
  ·exact .inl (zQ.2 (.inr j))
 ·rcases zP.1 j with j|j
  ·exact(C.af k j).imp (fun I=>zP.2 (.inl I)) id
  ·exact .inl (zP.2 (.inr j))
theorem DuM.jrn (h:DuM w i Y s A)(j:Ch [Y.p,Y.q] w w')(M:JK w' Y.p Y.q (cf (yz A'))):DuM w' i Y s A'∧DuS w w' Y Y:=by
 have m:∀k∈[Y.p,Y.q],k∈[Y.p,Y.q,Y.u]:=by simp_all
 refine⟨⟨h.b.ch j fun C=>?_,h.rp.ch j fun k I C=>h.xf k (m k C) I,M,h.xf⟩,j.mono fun k I=>zQ.2 (.inr (m k I)),fun _ h=>.inl h,fun _ h=>.inl h⟩;obtain⟨s,n,U,Z,O,J,_⟩:=h.jk.1;rcases List.mem_cons.1 C with e|e
 ·exact h.b.ne J dc e
 ·exact h.b.ne h.jk.2 dc (mS e)
theorem DuM.die (h:DuM w i Y s A)(o:Oth Y.u w w')(J:blk w' Y.u 109 [pB Y.X.R.p,pB Y.q,.bool false]):DuM w' i Y s A∧DuS w w' Y Y:=by
 have C:Ch [Y.u] w w':=Ch.of_oth o sm;obtain⟨x,n,U,Z,O,M,_⟩:=h.jk.1
 exact⟨{h with b:=J,rp:=h.rp.ch C fun k I j=>h.xf _ mp3 (mS j ▸ I),jk:=h.jk.ch C (noBy.of h.b dc) (fun j=>M.ne h.b dc (mS j)) fun j=>h.jk.2.ne h.b dc (mS j)},C.mono fun k I=>zQ.2 (.inr (mS I ▸ mp3)),fun _ h=>.inl h,fun _ h=>.inl h⟩
end
end
section
attribute [local irreducible] bin un conv call aZ blt slc ai fld aL idx lkp cP eP eSt rng nxt ent ext alc box bld bg ld sto aJ cr mkS ifc pick rdy wts aG sti cond aV Gives ah dy dP cOp
section
open Go.RowKit Go.ChangeMaps
theorem U6 {L:List EV}(h:w.ownsRow B 35 14 (.slice a n c) n (L.flatMap evC))(I:L.length=n):VR w a n c L:=by
 refine⟨I,fun Z=>?_,fun i x U b o J j u O=>?_⟩
 ·obtain⟨g,C,e,_⟩:=d9 h Z;exact⟨g,0,e⟩
 ·have hi:i<n:=by rw[←I];exact(gS U).1
  obtain⟨g,C,e,M⟩:=d9 h oo;rw[e]at J;cases J;have he:=M.elem (enc:=evC) (fun x=>(rfl:(evC x).length=14)) I U;have hj:j<14:=(gS O).1;rw[M.blk.cell,Nat.zero_add]
  have:=congrArg (fun l=>l[j]?) he
  simp only[List.getElem?_take,List.getElem?_drop]at this;rw[if_pos hj]at this;rw[this];exact O
theorem RB.blt {l:List UInt8}(h:RB w a n c l)(hi:i<n):(pu a i).block<w.heap.size:=by
 have j:=RV.len h;exact World.block_lt_of_cell? w _ (RV.cell h i _ (gE oo))
theorem IK (h:K (pA b (o+0)) w):ai Q 109 (pA b o) 0 K w:=aH kr h
theorem Zk (h:K (pA b (o+1)) w):ai Q 109 (pA b o) 1 K w:=aH kr h
theorem NM (h:K (pA b (o+2)) w):ai Q 109 (pA b o) 2 K w:=aH kr h
section
variable {w:World}{K:KV}{i:Nat}{X:RpX}{s:RS}
theorem Yv {L:List EV}(h:RepW w i X s)(hp:PI s.l)(hA:s.A.length+L.length≤999000)(M:okL eff OK s.l L)(hv:VR w a n c L)(ag:∀b o,a=some ⟨b,o,none⟩→b∉FF X)(hK:∀w' u,StpX w w' X {X with Rw:=u}→RepW w' i {X with Rw:=u} ⟨qY eff s.l L,s.A++L,s.P⟩→K (ci 0) w'):call Q 31 #[pB X.R.p,.slice a n c] K w:=by
 have hl:=hv.len;refine ak (goK func31) (Ef (HH (aF (bh underlying44 ?_))));refine Cu (Inv:=fun j wr=>∃(k:Nat) (u:List jl),j=ci k∧k≤n∧StpX w wr X {X with Rw:=u}∧RepW wr i {X with Rw:=u} ⟨qY eff s.l (L.take k),s.A++L.take k,s.P⟩) (μ:=fun j _=>n-(intOf j).toNat)
  ⟨0,X.Rw,rfl,Nat.zero_le _,.refl (Below.refl _ _),by simpa[qY]using h⟩ ?_
 rintro _ dd w1 m ⟨k,Z,rfl,hk,I,r1⟩ hm;refine aK ?_;by_cases aa:k<n
 ·have hx:L[k]? = some L[k]:=gE oo;have U:L.take (k+1)=L.take k++[L[k]]:=by rw[List.take_add_one,hx];rfl
  have O:L=L.take k++L[k]::L.drop (k+1):=by rw[←List.drop_eq_getElem_cons oo,List.take_append_drop]
  generalize L[k]=x at hx U O;rw[O]at M;obtain⟨al,C,_⟩:=Ie.1 M;have p1:PI (qY eff s.l (L.take k)):=ledger_sys.invs hp al;obtain⟨b,o,ha⟩:=hv.some_ oo;have af:=hv.ch I.ch ag;subst ha;refine ax oo (dQ underlying44 (s:=14) kf oo oo ?_);rw[Int.toNat_natCast]
  refine WA af rfl hx (jT fun w2 z2 b2 s2=>iU (e':=x) z2 fun w3 z3 o3=>dT z3 ?_);have J:Below w1.heap.size w1 w3:=aR b2 o3 oA;have r3:=r1.below J;have ad:(L.take k).length=k:=by rw[List.length_take];omega
  refine Uj (e:=x) r3.rp p1 C.rdy ((qi p1).2 C) (by show (((s.A++L.take k).length:Nat):Int)<1000000;rw[List.length_append,ad];omega) fun w4 u r4 c4 n4 i4=>aX (ao sm ?_);refine aM oo oo ⟨⟨k+1,u,congrArg ci (by push_cast;rfl),aa,(I.trans (.refl J)).trans (.rw c4 n4),?_⟩,by rw[hm];show n-((k:Int)+1).toNat<n-(k:Int).toNat;omega⟩
  have:=r3.add (sj C.may).1 r4 c4 i4
  rw[U,JD, ←List.append_assoc];exact this
 ·obtain rfl:k=n:=by omega
  rw[tL oo]at r1;exact ao oo (Cv (hK w1 Z I r1))
theorem Xs {A:List EV}{vs:List (Option Addr×Nat×Nat)}(hr:RBB w a n c vs (yz A))(hm:∀e∈A,bJ e=true∧uJ e)(hn:n≤999000)(h:∀w' M O,w'.ownsRow w.heap.size 35 14 (.slice M n O) n (A.flatMap evC)→Below w.heap.size w w'→K (.tuple #[.slice M n O,cT]) w'):call Q 30 #[.slice a n c] K w:=by
 have hl:A.length=n:=by have:=hr.lenL;simpa[yz]using this
 refine ak (goK func30) (MR (bh underlying102 ?_));refine Kb (Inv:=fun l j wr=>∃(k:Nat) (M:Option Addr) (O:Nat),j=ci k∧k≤n∧l=.slice M k O∧wr.ownsRow w.heap.size 35 14 (.slice M k O) k ((A.take k).flatMap evC)∧Below w.heap.size w wr) (μ:=fun _ j _=>n-(intOf j).toNat)
  ⟨0,none,0,rfl,Nat.zero_le _,rfl,World.ownsRow_nil _ _ _ _,Below.refl _ _⟩ ?_
 rintro _ _ dd w1 m ⟨k,M,O,rfl,hk,rfl,C,b1⟩ ap;refine aK ?_;by_cases am:k<n
 ·have hx:A[k]? = some A[k]:=gE oo;have U:A.take (k+1)=A.take k++[A[k]]:=by rw[List.take_add_one,hx];rfl
  obtain⟨m1,m2⟩:=hm A[k] (List.getElem_mem _);generalize A[k]=x at hx U m1 m2;have ar:=hr.below b1 oA;refine ax oo (zaZ ar oo oo fun v l hv u J rb=>zdv J ?_);have an:l=evB x:=by
   rw[Int.toNat_natCast]at u;unfold yz at u;rw[List.getElem?_map,hx]at u;exact(Option.some.inj u).symm
  subst an;have Z:=rb.len;rw[QG]at Z;obtain⟨va,vn,vc⟩:=v;obtain rfl:91=vn:=Z;refine Za m1 m2 rb (fun i hi=>rb.blt hi) fun w2 b2=>PB (PC (PD (jT fun w3 z3 b3 s3=>iU (e':=x) z3 fun w4 z4 o4=>aX (dt sm (we (aX (bj sm (ao sm ?_))))))));have af:Below w2.heap.size w2 w4:=aR b3 o4 oA;have I:=b2.trans (af.mono b2.size);have s1:=b1.size;have a0:=I.size
  refine dT z4 (oG [evV x] underlying44 (s:=14) kr kr oo rfl sm dc rfl (by
   intro v hv;rw[mS hv];rfl) fun w5 e5 b5 s5=>?_)
  have e5:blk w5 w4.heap.size 35 (evC x):=by simpa[Value.cells,evV]using e5
  have aa:=cD C (w':=w4) fun k hk=>I.block k (World.ownsRow.lt C k hk).2;have aS:=cD aa fun k hk=>b5.block k (World.ownsRow.lt aa k hk).2;obtain⟨ii,al,az,av,ag⟩:=info_parts Vt;refine uP (enc:=evC) (x:=x) underlying44 al az av ag rfl oo (fun _=>rfl) aS e5 (sY _) oo oo oo fun a' c' w6 r6 g6 b6 k6=>?_
  have ad:Below w.heap.size w w6:=((b1.trans (I.mono s1)).trans (b5.mono oo)).trans (b6.mono oo);refine aM oo oo ⟨⟨k+1,a',c',congrArg ci (by push_cast;rfl),am,rfl,by rw[U];exact r6,ad⟩,by rw[ap];show n-((k:Int)+1).toNat<n-(k:Int).toNat;omega⟩
 ·obtain rfl:k=n:=by omega
  rw[tL oo]at C;exact ao oo (Kc (h w1 M O C b1))
end
section
variable {w:World}{K:KV}{i:Nat}{Y:DuX}{s:RS}{A:List EV}
theorem Vn (A:List EV):okR (yz A):=fun s h=>by
 obtain⟨e,_,rfl⟩:=List.mem_map.1 h;rw[QG];decide
theorem W9 :∀A:List EV,Dj (yz A)=91*A.length
 | []=>rfl
 | e::A=>by
  have:=W9 A
  unfold yz at *;rw[List.map_cons,Dj,this,QG,List.length_cons];omega
theorem XA (A:List EV):(cf (yz A)).length=99*A.length:=by
 rw[Bi,W9];unfold yz;rw[List.length_map];omega
theorem XM {L:List EV}(h:DuM w i Y s A)(O:VR w a n c L)(hm:∀e∈L,bJ e=true∧uJ e)(al:A.length+L.length≤40000)(hK:∀w',DuM w' i Y s (A++L)→DuS w w' Y Y→K (ci 0) w'):call Q 35 #[pB Y.u,.slice a n c] K w:=by
 have hl:=O.len;refine ak (goK func35) (Ge (bh underlying44 (aO ?_)));by_cases h0:n=0
 ·have hL:L=[]:=List.eq_nil_of_length_eq_zero oo;subst hL;rw[List.append_nil]at hK;exact ax oo (hK w h (.refl (Below.refl _ _)))
 have hL:L≠[]:=fun e=>h0 (by rw[←hl,e];rfl);refine ao oo (bh underlying44 ?_);refine DJ (Inv:=fun l j wr=>∃(k:Nat) (ra:Option Addr) (rc:Nat) (vs:List (Option Addr×Nat×Nat)),j=ci k∧k≤n∧l=.slice ra k rc∧OBB wr w.heap.size ra k rc vs (yz (L.take k))∧Below w.heap.size w wr) (μ:=fun _ j _=>n-(intOf j).toNat)
  ⟨0,none,0,[],rfl,Nat.zero_le _,rfl,⟨OV.nil _ _ _,rfl,fun i v l O=>by simp at O⟩,Below.refl _ _⟩ ?_
 rintro _ _ dd U m ⟨k,ra,rc,vs,rfl,hk,rfl,I,b1⟩ ad;refine aK ?_;by_cases aa:k<n
 ·have hx:L[k]? = some L[k]:=gE oo;have M:L.take (k+1)=L.take k++[L[k]]:=by rw[List.take_add_one,hx];rfl
  obtain⟨m1,m2⟩:=hm L[k] (List.getElem_mem _);generalize L[k]=x at hx M m1 m2;obtain⟨b,o,ha⟩:=O.some_ oo;have af:=O.bel b1 oA;subst ha;refine ax oo (dQ underlying44 (s:=14) kf oo oo ?_);rw[Int.toNat_natCast];refine WA af rfl hx (jT fun w2 z2 b2 s2=>iU (e':=x) z2 fun w3 z3 o3=>dT z3 ?_)
  have J:Below U.heap.size U w3:=aR b2 o3 oA;have s1:=b1.size;have ag:=J.size;refine zbG m1 m2 fun w4 a4 n4 c4 o4 b4=>?_;have s4:=b4.size;refine zaO (v:=(a4,n4,c4)) fun w5 b5 r5 s5=>?_;have C:Below U.heap.size U w5:=(J.trans (b4.mono ag)).trans (b5.mono oo)
  refine Yj w.heap.size (v:=(a4,n4,c4)) (l:=evB x) (I.below C oA) r5 (OV.mono (OV.below o4 b5 oA) oo) oo oo fun a6 c6 w6 o6 g6=>?_;have Z:Below w.heap.size w w6:=(b1.trans (C.mono s1)).grown g6 (by have:=C.size;omega) fun k hk=>(OV.block (I.below C oA).row k hk).1
  refine aM oo oo ⟨⟨k+1,a6,c6,_,congrArg ci (by push_cast;rfl),aa,rfl,by unfold yz at *; rw[M,List.map_append];exact o6,Z⟩,by rw[ad];show n-((k:Int)+1).toNat<n-(k:Int).toNat;omega⟩
 ·obtain rfl:k=n:=by omega
  rw[tL oo]at I;have h1:=h.below b1;refine ao oo (DL (aj (Zk (lK (v:=pB Y.q) h1.b rfl ?_))));refine zed h1.jk I.rbb (by simpa using hL) (Vn L) (by rw[XA,XA];omega) fun w2 j2 c2=>?_;rw[←Hb, ←List.map_append]at j2;obtain⟨h2,t2⟩:=h1.jrn c2 j2;refine aX (aj (NM (cB kf h2.b sm rfl fun w3 z3 o3=>?_)));obtain⟨h3,t3⟩:=h2.die o3 z3
  exact hK w3 h3 (((DuS.refl b1).trans t2).trans t3)
end
end
end
section
def H6 (x:AK):Prop:=(0≤x.n∧x.n<M64)∧(0≤x.r∧x.r<M64)∧(0≤x.f∧x.f<M64)
structure DuI (n i:Nat) (s:RS) (W:HM):Prop where
 pi:PI s.l
 hk:HK s.l.V W
 ok:okL eff OK (pl0 n) s.A
 st:s.l=qY eff (pl0 n) s.A
 ft:∀e∈s.A,uJ e
 fw:∀p∈W,uJ p.2
 nw:∀p∈W,p.2.q≠i
theorem zcc {E:List EV}:∀{l:PL},okL eff OK l E→∀e∈E,bJ e=true:=by
 induction E with
 | nil=>intro l _ e j;cases j
 | cons x E ih=>intro l h e j;exact(List.mem_cons.1 j).elim (fun u=>u ▸ h.1.may) (ih h.2 e)
theorem JB {V:List Int}:∀{L:List EV} {W:HM},∀p∈nX V W L,p∈W∨p.2∈L∧V.getD p.2.q 0<p.2.s
 | [],_,p,hp=>.inl hp
 | e::L,W,p,hp=>by
  rcases JB (L:=L) (W:=LP V W e) p hp with h|h
  ·unfold LP at h;split at h
   ·rename_i u;rcases List.mem_append.1 h with h|h
    ·exact .inl h
    ·have j:=mS h
     have : ¬e.s≤V.getD e.q 0:=fun C=>by have:=(GQ u.1).2 C;rw[u.2.1]at this;cases this
     rw[j];exact .inr ⟨by simp,by show V.getD e.q 0<e.s;omega⟩
   ·exact .inl h
  ·exact .inr ⟨List.mem_cons_of_mem _ h.1,h.2⟩
section
variable {n i:Nat}{s:RS}{W W':HM}{l':PL}{F L:List EV}{P':List (List Int)}
theorem DG.sub {l:PL}(h:DG l W l' W' F):∀p∈W',p∈W:=by
 induction h with
 | nil=>exact fun _ h=>h
 | snoc h hn ih=>exact fun p j=>ih p (I9.1 j).1
theorem DuI.hear (h:DuI n i s W)(hL:∀e∈L,uJ e∧(e.q=i→e.s≤s.l.V.getD i 0))(J:DG s.l (nX s.l.V W L) l' W' F):DuI n i ⟨l',s.A++F,P'⟩ W':=by
 obtain⟨M,a2,a3,O,U,Z⟩:=J.inv h.pi h.hk.puts;have u:∀p∈nX s.l.V W L,uJ p.2∧p.2.q≠i:=fun p j=>by
  rcases JB p j with C|⟨C,h2⟩
  ·exact⟨h.fw p C,h.nw p C⟩
  ·exact⟨(hL _ C).1,fun e=>by have:=(hL _ C).2 e;rw[e]at h2;omega⟩
 refine⟨M,a2,Ie.2 ⟨h.ok,?_⟩,?_,fun e I=>?_,fun p j=>(u p (J.sub p j)).1,fun p j=>(u p (J.sub p j)).2⟩
 ·rw[←h.st];exact O
 ·show l'=qY eff (pl0 n) (s.A++F);rw[JD, ←h.st];exact U
 ·rcases List.mem_append.1 I with I|I
  ·exact h.ft e I
  ·obtain⟨_,p,j,rfl⟩:=Z e I;exact(u p j).1
theorem QZ {l:PL}{x:AK}(h:PI l)(j:H6 x):uJ (mkP i l x):=by
 refine⟨fun v C=>?_,j.1,j.2.1,j.2.2⟩;have I:(mkP i l x).V=l.V:=zb6 h.v6;rw[I]at C;obtain⟨k,u,rfl⟩:=List.mem_iff_getElem.1 C
 have:=(h.vb k (by rw[←h.v6];exact u)).1
 rwa[List.getD_eq_getElem?_getD,gE u]at this
end
end
section
attribute [local irreducible] bin un conv call aZ blt slc ai fld aL idx lkp cP eP eSt rng nxt ent ext alc box bld bg ld sto aJ cr mkS ifc pick rdy wts aG sti cond aV Gives ah dy dP cOp
section
open Go.RowKit Go.ChangeMaps
def s0R (n:Nat):RS:=⟨pl0 n,[],gp0⟩
theorem zcs (af:KD w)(h1:1≤n)(h6:n≤6)(hi:i<6)(hK:∀w' X,RepW w' i X (s0R n)→(∀k∈AF X,k=0∨w.heap.size≤k)→(∀k∈FF X,w.heap.size≤k)→Below w.heap.size w w'→X.ws=[]∧X.W=[]→K (.tuple #[pB X.R.p,ci 0]) w'):call Q 28 #[iv (n:Nat),iv ((i:Int)+1)] K w:=by
 refine ak (goK func28) (Ri (zdS h1 h6 af fun C q p1 q1 b1=>bu (bv (aX (dt sm (aK (bj sm (dt oo (bO (bj oo (ao oo ?_)))))))))));have s1:=b1.size;refine zdJ fun w2 g2 b2 s2=>zdl fun I h3 b3 s3=>zdh fun u e4 b4 s4=>zd7 fun O dm b5 ag=>?_
 refine dl (vs:=[iv ((i:Int)+1),pB q.p,pB C.heap.size,pB (w2.heap.size+1),pB I.heap.size,pB (u.heap.size+1)]) kr (br fun w6 z6 b6 s6=>?_);have z6:=cZ z6
 rw[show iv ((i:Int)+1)=iv ((i+1:Nat))from congrArg iv (by push_cast;rfl)]at z6;have s5:=b5.size;have lt:=p1.lt;have p2:=p1.below b2;have J:Below w2.heap.size w2 w6:=((b3.trans (b4.mono oo)).trans (b5.mono oo)).trans (b6.mono oo);have aa:Below I.heap.size I w6:=(b4.trans (b5.mono oo)).trans (b6.mono oo)
 have ad:Below u.heap.size u w6:=b5.trans (b6.mono oo);have ql:∀k∈q.l,k<C.heap.size:=lt;have M:∀k,C.heap.size≤k→k∉q.l:=fun k h j=>by have:=ql k j;omega
 have lb:lrB lr0=[]:=rfl;have rp:RpM w6 ⟨O.heap.size,q,C.heap.size,w2.heap.size+1,w2.heap.size,I.heap.size,u.heap.size+1⟩ (i+1) (pl0 n) [] lr0 0 gp0:=⟨z6,p2.below J,g2.below J,h3.below aa,e4.below ad,M O.heap.size oo,fun k h=>by
  rw[lb,List.mem_singleton]at h;rw[h];exact M _ oA,M (w2.heap.size+1) oo,M w2.heap.size oo,M I.heap.size oo,fun r hr=>by rw[List.eq_of_mem_replicate hr];exact Int.le_refl _,Int.le_refl _⟩
 have hF:∀k∈RpF ⟨O.heap.size,q,C.heap.size,w2.heap.size+1,w2.heap.size,I.heap.size,u.heap.size+1⟩ lr0,w.heap.size≤k:=fun k h=>by
  rcases fQ.1 h with h|rfl|h|rfl|rfl
  ·rcases q1 k (LB.wl k h)with rfl|j
   ·exact absurd h (by
     have nd:=p1.nd;intro j;simp only[LB.wv,List.mem_cons,List.not_mem_nil,or_false]at j;rcases j with j|j|j|j|j|j
     ·exact LN.zp nd j
     ·exact LN.zd nd j
     ·exact LN.zm nd j
     ·exact LN.zr nd j
     ·exact LN.zg nd j
     ·exact LN.za nd j)
   ·exact j
  ·exact s1
  ·rw[lb]at h;cases h
  ·show w.heap.size≤w2.heap.size;omega
  ·show w.heap.size≤I.heap.size;omega
 have Z:∀k∈FF ⟨⟨O.heap.size,q,C.heap.size,w2.heap.size+1,w2.heap.size,I.heap.size,u.heap.size+1⟩,u.heap.size,[],lr0,[]⟩,w.heap.size≤k:=fun k h=>by
  rcases uo.1 h with h|rfl|h
  ·exact hF k h
  ·show w.heap.size≤u.heap.size;omega
  ·cases h
 have U:=dm.below b6
 refine hK w6 ⟨⟨O.heap.size,q,C.heap.size,w2.heap.size+1,w2.heap.size,I.heap.size,u.heap.size+1⟩,u.heap.size,[],lr0,[]⟩ ⟨rp,rfl,⟨U.b,U.mb,by simp,by simp⟩,M _ (by show C.heap.size≤u.heap.size+1;omega),M _ (by show C.heap.size≤u.heap.size;omega),by show u.heap.size≠w2.heap.size;omega,fun k h=>by cases h⟩ (fun k h=>?_) Z (((b1.trans (b2.mono s1)).trans (J.mono oo))) ⟨rfl,rfl⟩
 rcases wg.1 h with rfl|rfl|rfl|h|h
 ·exact .inr (by show w.heap.size≤O.heap.size;omega)
 ·exact .inr (by show w.heap.size≤w2.heap.size+1;omega)
 ·exact .inr (by show w.heap.size≤u.heap.size+1;omega)
 ·exact q1 k h
 ·exact .inr (Z k h)
section
variable {w:World}{K:KV}{i:Nat}{Y:DuX}{s:RS}{A:List EV}{x:AK}
theorem yO (h:K (.bool false) w):bin Q .eql 39 cx cy (pB b) (.pointer none) K w :=
 gy (by unfold eqG eqGuard;rfl) kr h
theorem V9 {f:Value}(h:DuM w i Y s A)(j:aZ Q f #[] K w):call Q 32 #[pB Y.u,f] K w :=
 ak (goK func32) (EE (yO (aF (aj (NM (lK (v:=.bool false) h.b rfl (aF j)))))))
theorem Xr (h:DuM w i Y s A)(j:K (.bool false) w):call Q 17 #[pB Y.u] K w :=
 ak (goK func17) (Gb (yO (iZ (aj (NM (lK (v:=.bool false) h.b rfl (dh j)))))))
theorem NH (h:DuM w i Y s A)(hi:PI s.l)(hn:s.l.G.length≤1000000)(M:∀w' t ga gc,SO w' (w.heap.size+3) s.l t ga gc→Below w.heap.size w w'→K (.agg (saC t).toArray) w'):call Q 13 #[pB Y.u] K w:=by
 refine ak (goK func13) (EB ?_);refine df (z:=.agg (saC ⟨List.replicate 6 false,List.replicate 6 false,List.replicate 6 0,[],none,0,.slice none 0 0⟩).toArray) kr fun w1 j b1 s1=>?_;have j:=cZ j
 generalize O:saC ⟨List.replicate 6 false,List.replicate 6 false,List.replicate 6 0,[],none,0,.slice none 0 0⟩=zs at j;have aa:zs.length=20:=by rw[←O];rfl
 have g1:=h.below b1;refine yO (aF (aj (IK (lK (v:=pB Y.X.R.p) g1.b rfl ?_))));refine zat g1.rp.rp hi hn fun w2 t ga gc C Z=>?_;have h2:=ae Z j j.lt;have hl:(saC t).length=20:=tu (by rw[C.eI];exact hi.i6) (by rw[C.eL];exact hi.l6) (by rw[C.eV];exact hi.v6);have U:∀v∈saC t,v.oneCell'=true:=by
  intro v J;unfold saC at J;rw[C.gv]at J;simp only[List.mem_append,List.mem_map,List.mem_cons,List.not_mem_nil,or_false]at J;rcases J with((⟨_,_,rfl⟩|⟨_,_,rfl⟩)|⟨_,_,rfl⟩)|(rfl|rfl)<;>rfl
 refine ip (n:=20) (vs:=saC t) kr hl h2 oo U fun w3 h3 o3=>?_;rw[List.take_zero,List.nil_append,List.drop_of_length_le oo,List.append_nil]at h3;refine Cx (v:=.agg (saC t).toArray) (fun _ M=>ldA (n:=20) (vs:=saC t) underlying58 rfl kr h3 (by rw[List.drop_zero,tL oo]) hl M) ?_;have I:=C.oth o3 oo;rw[s1]at I
 exact M w3 t ga gc I (aR (b1.trans (Z.mono b1.size)) o3 oA)
theorem zbs {L:List EV}{V:List Int}{now:Int}(h:DuM w i Y s A)(hi:i<6)(hp:PI s.l)(hk:HK s.l.V Y.X.W)(a0:s.A.length≤990000)(hv:VR w a c k L)(av:∀b o,a=some ⟨b,o,none⟩→b∉FF Y.X)(hm:∀e∈L,bJ e=true∧uJ e)(hW:∀p∈Y.X.W,uJ p.2)(aa:c≤16)(hf:f<6)(al:f≠i)(hV:V.length=6)(am:leV V (List.replicate 6 1099511627776)=true)(hA:s.P[f]? = some M0)(a1:A.length≤30000)(j:∀w' Y' l' F,F.length≤64→DuM w' i Y' ⟨l',s.A++F,s.P.set f (jV M0 V)⟩ (A++F)→DuS w w' Y Y'→DG s.l (nX s.l.V Y.X.W L) l' Y'.X.W F→eK l'.V Y'.X.W 6=none→Y'.p=Y.p∧Y'.u=Y.u→Y'.X.ws=Y.X.ws→K (ci 0) w'):call Q 11 #[pB Y.u,.agg (mgC 1 ((f:Int)+1) ((i:Int)+1) V (.slice a c k) 0 0).toArray,u6 now] K w:=by
 generalize U:mgC 1 ((f:Int)+1) ((i:Int)+1) V (.slice a c k) 0 0=ms;have an:ms.length=12:=by rw[←U];simp[mgC,bo,hV]
 have af:(Value.agg ms.toArray).cells.toList=ms:=by simp[Value.cells]
 refine ak (goK func11) (Gd (br fun M C b1 s1=>br fun w2 z2 b2 s2=>br fun w3 z3 b3 s3=>?_));have C:blk M w.heap.size 39 [pB Y.u]:=C;rw[af]at z2;have z3:blk w3 w2.heap.size 31 [u6 now]:=z3;have O:Below M.heap.size M w3:=b2.trans (b3.mono b2.size);have I:=b1.trans (O.mono b1.size);have C:=ae O C C.lt;have z2:=ae b3 z2 z2.lt;have h3:=h.below I;have ar:=hv.bel I oA
 have aS:∀{y:World} {K:KV},blk y M.heap.size 49 ms→K (.agg ms.toArray) y→ld Q 49 (pB M.heap.size) K y:=fun hy j=>ldA (n:=12) (vs:=ms) underlying49 rfl kr hy (by rw[List.drop_zero,tL oo]) an j;refine lK (v:=pB Y.u) C rfl (V9 h3 (dn (all:=#[pB w.heap.size,pB M.heap.size,pB w2.heap.size]) rfl (ak (goK func33) (DI ?_))))
 have J:=h3.below (Below.refl _ w3).drew;refine au (fun y=>blk y w.heap.size 39 [pB Y.u]∧blk y M.heap.size 49 ms∧blk y w2.heap.size 31 [u6 now]∧blk y Y.u 109 [pB Y.X.R.p,pB Y.q,.bool false]) ⟨C.drew,z2.drew,z3.drew,J.b⟩ ?_;refine ab (v:=pB Y.u) (fun y d _ j=>lK d.1 rfl j) (ab (fun y d _ j=>aj j) (ab (fun y d _ j=>IK j) (ab (v:=pB Y.X.R.p) (fun y d _ j=>lK d.2.2.2 rfl j) ?_)))
 refine ab (fun y d _ j=>aS d.2.1 j) (ab (v:=u6 now) (fun y d _ j=>lK d.2.2.1 rfl j) ?_);rw[←U];have az:VR w3.drew a c k L:=ar.bel (Below.refl _ w3).drew oA;refine zar J.rp hi hp hk oo az av (fun e he=>(hm e he).1) aa hf al hV am hA fun w4 X4 l' F fa fc Z r4 d4 n4 e4 o4=>?_;obtain⟨h4,t4⟩:=J.step Z r4
 have z4:blk w4 w.heap.size 39 [pB Y.u]:=C.drew.ch Z.ch fun hh=>by have:=h.rp.lt _ (Md hh);omega
 refine au (fun _=>True) trivial (ab (fun y _ _ j=>bu j) (ab (fun y _ _ j=>bv j) (aX (ao sm (lK (v:=pB Y.u) z4 rfl ?_)))));have ag:=d4.inv hp hk.puts;have ad:F.length≤64:=by have:=hk.puts (L:=L);have:=this.few;omega
 refine XM (Y:={Y with X:=X4}) h4 (U6 o4 rfl) (fun e he=>?_) oo fun w5 h5 t5=>?_
 ·obtain⟨m1,p,ap,rfl⟩:=ag.2.2.2.2.2 e he;refine⟨m1,?_⟩;rcases JB p ap with h1|⟨h1,_⟩
  ·exact hW p h1
  ·exact(hm _ h1).2
 ·exact j w5 {Y with X:=X4} l' F ad h5 (((DuS.refl I.drew).trans t4).trans t5) d4 n4 ⟨rfl,rfl⟩ e4
abbrev doK (m:Nat)(K:KV):KV:=fun t10=>ld Q 35 (pB m) fun t11=>sto Q 35 (pB m) t11 fun _=>aV Q [(some 35,pB m),(none,t10)] K
theorem zep {j:EV}{e:Int}(u:blk w m 35 (evC j))(C:∀h,Oth m w h→K (.tuple #[evV j,ci e]) h):doK m K (ci e) w :=
 dT u (iU (e':=j) u fun h J I=>KU J (C h I))
theorem zeo {I:EV}(M:blk w m 35 (evC evZ))(u:blk w b 35 (evC I))(O:b≠m)(J:∀C,Oth m w C→K (.tuple #[evV I,ci 0]) C):fX (doK m K) (l9 (pB m) (ci 0) (pB b) (.bool (decide ((0:Int)=0))) zf) w :=
 DE (ax rfl (dT u (iU (e':=I) M fun Z U h=>DH (zep U fun C j=>J C ⟨j.os.trans h.os,j.tape.trans h.tape,j.output.trans h.output,j.size.trans h.size,fun x u=>(j.other x u).trans (h.other x u)⟩))))
theorem zaR {z0:Nat}{U:EV}{t15:Value}{K2:Value→Value→Value→Value→Value→Value→Value→KV}(h:DuM w i Y s A)(hx:blk w b 35 (evC U))(hz:blk w z0 39 [pB Y.u])(aa:b∉DA Y)(af:A.length≤30000)(h0:evC U≠evC evZ)(h1:bJ U=true∧uJ U)(h2:∀j C I J M O w',DuM w' i Y s (A++[U])→DuS w w' Y Y→blk w' b 35 (evC U)→K2 j C I J M O (ci 0) (.bool (decide ((0:Int)=0))) w'):ld Q 35 (pB b) (fun j=>bld Q 35 #[] fun C=>bF .eql 35 j C fun I w=>cond I (K t15 w) (ld Q 39 (pB z0) (fun J=>ld Q 35 (pB b) fun M=>bg Q 44 1 #[(0,M)] fun O=>call Q 35 #[J,O] fun Z=>bT .eql 40 Z (ci 0) fun ad=>K2 j C I J M O Z ad) w)) w:=by
 refine dT hx (dl (vs:=evC evZ) kr (Hw 6 oo kr kr (HL _) (HL _) fun r hr=>?_));cases r with
 | true=>exact absurd (hr.1 rfl) h0
 | false =>
  refine aF (lK (v:=pB Y.u) hz rfl (dT hx (oG [evV U] underlying44 (s:=14) kr kr oo rfl sm dc rfl (by
   intro v hv;rw[mS hv];rfl) fun w6 e6 b6 s6=>?_)))
  have e6:blk w6 w.heap.size 35 (evC U):=by simpa[Value.cells,evV]using e6
  have x6:=ae b6 hx hx.lt;have h6:=h.below b6;refine XM h6 (VR.one e6) (fun e he=>by rw[mS he];exact h1) (by show A.length+1≤_;omega) fun w7 h7 t7=>aO (h2 _ _ _ _ _ _ w7 h7 ((DuS.refl b6).trans t7) ?_);exact x6.ch t7.ch fun hh=>aa (SG hh)
theorem Wr {now:Int}(h:DuM w i Y s A)(hi:i<6)(hp:PI s.l)(hG:s.l.G.length≤1000000)(hA:s.A.length<990000)(hx:H6 x)(am:A.length≤30000)(hr:x.r=0)(h0:oN (mkP i s.l x) s.l=0)(an:∀w' Y',DuM w' i Y' ⟨eff (mkP i s.l x) s.l,s.A++[mkP i s.l x],s.P⟩ (A++[mkP i s.l x])→DuS w w' Y Y'→Y'.X.W=Y.X.W→Y'.p=Y.p∧Y'.u=Y.u→Y'.X.ws=Y.X.ws→K (.tuple #[evV (mkP i s.l x),ci 0]) w'):call Q 12 #[pB Y.u,.agg (akC x).toArray,u6 now] K w:=by
 refine ak (goK func12) (HD (br fun w1 z1 b1 s1=>Iz fun w2 z2 b2 s2=>br fun U z3 b3 s3=>jT fun w4 z4 b4 s4=>?_));have z1:blk w1 w.heap.size 39 [pB Y.u]:=z1;have z3:blk U w2.heap.size 31 [u6 now]:=z3;have ag:Below w2.heap.size w2 w4:=b3.trans (b4.mono b3.size);have af:Below w1.heap.size w1 w4:=b2.trans (ag.mono b2.size);have aa:=b1.trans (af.mono b1.size);have z1:=ae af z1 z1.lt
 have z2:=ae ag z2 z2.lt;have z3:=ae b4 z3 z3.lt;have h4:=h.below aa;have O:=h.lt;refine lK (v:=pB Y.u) z1 rfl (V9 h4 (dn (all:=#[pB w.heap.size,pB w1.heap.size,pB w2.heap.size,pB U.heap.size]) rfl (ak (goK func36) (Gc ?_))));have I:=h4.below (Below.refl _ w4).drew;have M:=z1.drew;have ap:=z4.drew;have ad:Below w.heap.size w w4.drew:=aa.drew;have dd:w4.drew.heap.size=w4.heap.size:=rfl
 have av:U.heap.size<w4.heap.size:=z4.lt;have l3:w.heap.size≤U.heap.size:=(b1.trans ((b2.trans (b3.mono b2.size)).mono b1.size)).size;have a0:∀{J:World} {Y5:DuX},DuS w4.drew J Y Y5→∀z,w.heap.size≤z→z<w4.heap.size→z∉DA Y5:=fun Z z h1 h2 C=>(Z.na z C).elim (fun C=>by have:=O _ C;omega) fun C=>by omega
 have up:∀{J:World} {Y5:DuX},DuS w4.drew J Y Y5→DuS w J Y Y5:=fun Z=>(DuS.refl ad).trans Z;have kp:∀{J:World} {Y5:DuX} {z:Nat} {E:TypeId} {cs:List Value},DuS w4.drew J Y Y5→blk w4.drew z E cs→w.heap.size≤z→blk J z E cs:=fun Z hb hz=>hb.ch Z.ch fun C=>by have:=O _ (SG C);omega
 refine au (fun y=>blk y w.heap.size 39 [pB Y.u]∧blk y w1.heap.size 51 (akC x)∧blk y w2.heap.size 31 [u6 now]∧blk y Y.u 109 [pB Y.X.R.p,pB Y.q,.bool false]) ⟨M,z2.drew,z3.drew,I.b⟩ ?_;refine ab (v:=pB Y.u) (fun y d _ j=>lK d.1 rfl j) (ab (fun y d _ j=>aj j) (ab (fun y d _ j=>IK j) (ab (v:=pB Y.X.R.p) (fun y d _ j=>lK d.2.2.2 rfl j) ?_)))
 refine ab (fun y d _ j=>IA d.2.1 j) (ab (v:=u6 now) (fun y d _ j=>lK d.2.2.1 rfl j) ?_);have mm:∀{w7:World} {Y7:DuX} {x5:Nat} {zf:Nat→Value},DuM w7 i Y7 ⟨eff (mkP i s.l x) s.l,s.A++[mkP i s.l x],s.P⟩ (A++[mkP i s.l x])→DuS w4.drew w7 Y Y7→Y7.X.W=Y.X.W→Y7.p=Y.p∧Y7.u=Y.u→Y7.X.ws=Y.X.ws→blk w7 x5 35 (evC (mkP i s.l x))→x5≠U.heap.size →
   fX (doK U.heap.size K) (l9 (pB U.heap.size) (ci 0) (pB x5) (.bool (decide ((0:Int)=0))) zf) w7:=fun h7 t7 e1 e2 e3 aS az =>
  zeo (kp t7 ap l3) aS az fun w8 o8=>an w8 _ (h7.oth o8 (a0 t7 _ l3 av) (kp t7 ap l3) dc) ((up t7).add (aR (Below.refl _ _) o8 l3)) e1 e2 e3
 have nz : ¬evC (mkP i s.l x)=evC evZ:=fun he=>by have:=WC (r:=true) ⟨fun _=>he,fun _=>rfl⟩;cases this
 have ok:bJ (mkP i s.l x)=true∧uJ (mkP i s.l x):=⟨((qi hp).1 h0).may,QZ hp hx⟩
 refine⟨?_,?_⟩
 ·refine Ym I.rp hp hi hG oo hr h0 fun J X5 a1 r5 a4 W5=>?_;obtain⟨h5,Z⟩:=I.step a1 r5;refine au (fun _=>True) trivial (ab (fun y _ _ j=>bu j) (ab (fun y _ _ j=>bv j) ?_));refine jT fun w6 z6 b6 s6=>aC trivial (iU (e':=mkP i s.l x) z6 fun w7 z7 o7=>aC trivial ?_);have al:Below J.heap.size J w7:=aR b6 o7 oA;have t7:=Z.trans (.refl al);have a6:=Z.ch.size
  refine zaR (K:=doK U.heap.size K) (t15:=ci 0) (h5.below al) z7 (kp t7 M oA) (fun C=>by have:=h5.lt _ C;omega) am nz ok fun _ _ _ _ _ _ w8 h8 t8 x8=>?_;exact mm h8 (t7.trans t8) W5 ⟨rfl,rfl⟩ a4 x8 oo
 ·refine jT fun J z5 b5 s5=>aC ⟨ae b5 M M.lt,ae b5 z2.drew z2.drew.lt,ae b5 z3.drew z3.drew.lt,(I.below b5).b⟩ ?_;have h5:=I.below b5;refine Ym h5.rp hp hi hG oo hr h0 fun w6 X6 a2 r6 a5 W6=>?_;obtain⟨h6,t6⟩:=h5.step a2 r6;have a3:=(DuS.refl b5).trans t6;have n5:w4.drew.heap.size∉DA {Y with X:=X6}:=fun C=>(t6.na _ C).elim (fun C=>by have:=O _ C;omega) fun C=>by omega
  have ar:=z5.ch t6.ch fun C=>by have:=O _ (SG C);omega
  refine au (fun _=>True) trivial (ab (fun y _ _ j=>bu j) (ab (fun y _ _ j=>bv j) ?_));refine iU (e':=mkP i s.l x) ar fun w7 z7 o7=>aC trivial ?_;have h7:=h6.oth o7 n5 ar dc;have t7:=a3.add (aR (Below.refl _ w6) o7 oA);refine zaR (K:=doK U.heap.size K) (t15:=ci 0) h7 z7 (kp t7 M oA) n5 am nz ok fun _ _ _ _ _ _ w8 h8 t8 x8=>?_
  exact mm h8 (t7.trans t8) W6 ⟨rfl,rfl⟩ a5 x8 oo
theorem Mj (M:KD w)(h1:1≤n)(h6:n≤6)(hi:i<6)(hd:DK w p (cf (yz A)) (cf (yz A)) 0 false)(al:p≠0)(hm:∀e∈A,bJ e=true∧uJ e)(ag:okL eff OK (pl0 n) A)(hA:A.length≤900000)(hK:∀w' Y,Y.p=p→DuM w' i Y ⟨qY eff (pl0 n) A,A,gp0⟩ A→Y.X.ws=[]→Y.X.W=[]→Below w.heap.size w w'→(∀k∈DF Y,k=p∨w.heap.size≤k)→(∀k∈DA Y,k=0∨k=p∨w.heap.size≤k)→K (.tuple #[pB Y.u,ci 0]) w'):call Q 10 #[iv (n:Nat),iv ((i:Int)+1),ptr p] K w:=by
 have ap:=hd.lt;have ar:0<w.heap.size:=M.lt;refine ak (goK func10) (QE (Mk (aF (zcs M h1 h6 hi fun w1 X r1 a1 f1 b1 e1=>bu (bv (aX (ao sm ?_)))))));have am:=b1.size;refine zdL (hd.below b1) (Vn A) fun w2 q a nn c vs b2 L2 j2 q2=>PB (PC (PD (NK (aX (ao sm ?_)))));have av:=b2.size;have r2:=r1.below b2;have ad:A.length=nn:=by have:=L2.rbb.lenL;simpa[yz]using this
 refine Xs L2.rbb hm oo fun w3 ra rc O Z=>bu (bv (bK (iZ ?_)));have r3:=r2.below Z;have j3:=j2.below Z;have az:=Z.size;refine Yv r3 (JA n) (by show 0+A.length≤999000;omega) ag (U6 O ad) (fun b o ha j=>?_) fun w4 aa C r4=>aX (dh (ao sm ?_))
 ·have an:=(World.ownsRow.lt O b (by rw[ha];rfl)).1
  have:=r2.lt _ (Md j)
  omega
 have pq:∀k∈[p,q],k<w3.heap.size∧k∉AF X:=by
  simp only[List.mem_cons,List.not_mem_nil,or_false];rintro k (rfl|rfl)
  ·exact⟨j3.1.lt,fun j=>(a1 _ j).elim al fun j=>by omega⟩
  ·exact⟨j3.2.lt,fun j=>by have:=r1.lt _ j;omega⟩
 have j4:=j3.ch C.ch (fun k cs hb=>r3.ty hb dc) (fun j=>(pq p sm).2 (Md j)) fun j=>(pq q sm).2 (Md j);refine dl (vs:=[pB X.R.p,pB q,.bool false]) kr (br fun w5 z5 b5 s5=>?_);have z5:=cZ z5
 have aS:=C.ch.size;have l4:=r4.lt;have e0:(s0R n).A++A=A:=List.nil_append _;rw[e0]at r4;have I:Below w.heap.size w w3:=(b1.trans (b2.mono am)).trans (Z.mono oo);have J:Below w.heap.size w w4:=I.trans (C.ch.below (fun x hx=>f1 x hx) I.size)
 refine hK w5 ⟨{X with Rw:=aa},p,q,w4.heap.size⟩ rfl ⟨z5,r4.below b5,j4.below b5,fun k h hf=>?_⟩ e1.1 e1.2 (J.trans (b5.mono J.size)) (fun k h=>?_) fun k h=>?_
 ·simp only[List.mem_cons,List.not_mem_nil,or_false]at h;have U:k=p∨k=q→False:=fun e=>by
   obtain⟨x1,x2⟩:=pq k (by simpa using e);exact(C.af _ hf).elim x2 fun j=>by omega
  rcases h with h|h|h
  ·exact U (.inl h)
  ·exact U (.inr h)
  ·have:=l4 k hf
   rw[h]at this;exact Nat.lt_irrefl _ this
 ·rcases zQ.1 h with h|h
  ·exact .inr ((C.new k h).elim (f1 k) fun j=>by omega)
  ·simp only[List.mem_cons,List.not_mem_nil,or_false]at h;rcases h with rfl|rfl|rfl
   ·exact .inl rfl
   ·exact .inr oo
   ·exact .inr (by show w.heap.size≤w4.heap.size;omega)
 ·rcases zP.1 h with h|h
  ·rcases C.af k h with j|j
   ·exact(a1 k j).imp id .inr
   ·exact .inr (.inr oo)
  ·simp only[List.mem_cons,List.not_mem_nil,or_false]at h;rcases h with rfl|rfl|rfl
   ·exact .inr (.inl rfl)
   ·exact .inr (.inr oo)
   ·exact .inr (.inr (by show w.heap.size≤w4.heap.size;omega))
end
end
end
section
abbrev nd1 :Int:=1099511627777
abbrev ak1 :AK:=⟨1,0,0,7,0,0⟩
abbrev ak2 :AK:=⟨2,nd1,0,3,0,0⟩
abbrev ak6 :AK:=⟨6,0,2,0,0,0⟩
structure H7 (l:PL) (m:Nat):Prop where
 I:l.I.getD 0 false=true
 L:l.L.getD 0 false=false
 V:l.V.getD 0 0=(m:Nat)
 N:m=0∨dv l.N nd1=true∧nA (aN l.N nd1) 0=3*m+4
section
variable {l:PL}{m:Nat}{x:AK}
theorem kne {a:Int}{p:Prop}(h:x.k≠a):(mkP 0 l x).k=a→p:=fun e=>absurd e h
theorem R5 (I:PI l)(h:H7 l m)(hm:m≤1000)(U:mkP 0 l x=ni (mkP 0 l x))(M:fdE (mkP 0 l x)=true):bJ (mkP 0 l x)=true∧eX l.V (mkP 0 l x)=true:=by
 have C:(mkP 0 l x).V=l.V:=zb6 I.v6;have J:(mkP 0 l x).s=l.V.getD 0 0+1:=rfl;have u:(mkP 0 l x).o=1:=rfl;have Z:=h.V;have j:bJ (mkP 0 l x)=true:=by
  unfold bJ;rw[C,J,u,Z, ←U];simp only[Bool.and_eq_true,decide_eq_true_eq,List.all_eq_true];refine⟨by decide,by omega,by omega,?_,fun k O=>?_,trivial,M⟩
  ·show l.V.getD 0 0=_;omega
  ·exact(I.vb k (List.mem_range.1 O)).2
 refine⟨j,?_⟩;unfold eX;rw[j,C,J,u];simp only[Bool.true_and,Bool.and_eq_true,decide_eq_true_eq,List.all_eq_true];exact⟨rfl,fun k _=>Int.le_refl _⟩
theorem zeG (j:PI l)(h:H7 l m)(J:m≤1000):oN (mkP 0 l ak6) l=0:=by
 obtain⟨u,C⟩:=R5 (x:=ak6) j h J (by simp[ni,mkP,mkE]) (by simp[fdE,mkP,mkE,otE,bG]);exact(qi j).2 ⟨u,C,h.I,h.L,kne (x:=ak6) dc,kne (x:=ak6) dc,kne (x:=ak6) dc,kne (x:=ak6) dc,kne (x:=ak6) dc⟩
theorem zeK (j:PI l):ef l.N 0=[]:=by
 have C:dv l.N 0=false:=by
  refine Bool.eq_false_iff.2 fun h=>?_;obtain⟨y,u,e⟩:=oh.1 h;obtain⟨o,q,M,O,U,Z,I,J⟩:=j.ids y u;unfold M40 at *;omega
 unfold ef cC cv;rw[if_neg (by rw[kW,C];simp)]
theorem zeF (j:PI l)(h:H7 l 0):oN (mkP 0 l ak1) l=0∧H7 (eff (mkP 0 l ak1) l) 1:=by
 obtain⟨J,M⟩:=R5 (x:=ak1) j h oo (by simp[ni,mkP,mkE]) (by simp[fdE,mkP,mkE,smE]);have hv:=h.V;have U:iy l.N 1=0:=by
  unfold iy;rw[List.length_eq_zero_iff,List.filter_eq_nil_iff];intro y hy O;obtain⟨o,q,o1,o6,q1,q2,e,Z⟩:=j.ids y hy
  have:=of_decide_eq_true O
  rw[e,uG oo q2]at this;subst this
  have:l.V.getD 0 0=0:=by omega
  rw[show ((1:Int)-1).toNat=0 by decide,this]at Z;omega
 have ok:OK (mkP 0 l ak1) l:=⟨J,M,h.I,h.L,fun _=>⟨by show iy l.N 1<5;omega,by show (7:Int)≤M47;decide,.inl rfl,by show (ef l.N 0).length<4;rw[zeK j];decide⟩,kne (x:=ak1) dc,kne (x:=ak1) dc,kne (x:=ak1) dc,kne (x:=ak1) dc⟩
 have C:=j.eff ok;have u:idE (mkP 0 l ak1)=nd1:=by
  show (1:Int)*M40+(l.V.getD 0 0+1)=_
  have:l.V.getD 0 0=0:=by omega
  rw[this];decide
 have hN:(eff (mkP 0 l ak1) l).N=eh ⟨nd1,0,z54.set 0 7⟩ l.N:=by
  show (nop (mkP 0 l ak1) l).ap l.N=_;unfold nop;rw[if_pos (show (mkP 0 l ak1).k=1 from rfl),u];rfl
 refine⟨(qi j).2 ok,h.I,h.L,?_,.inr ⟨by rw[hN,EM];simp,?_⟩⟩
 ·show (IF (mkP 0 l ak1) l.V).getD 0 0=1;unfold IF;rw[show (mkP 0 l ak1).q=0 from Q5,pC (by rw[j.v6];omega),if_pos rfl];omega
 ·have:=wC (x:=⟨nd1,0,z54.set 0 7⟩) C.srt (by rw[hN];exact ol.2 (.inl rfl))
  rw[this];rfl
theorem zeJ (j:PI l)(h:H7 l m)(h0:0<m)(hm:m≤1000):oN (mkP 0 l ak2) l=0∧H7 (eff (mkP 0 l ak2) l) (m+1):=by
 obtain⟨Z,h2⟩:=R5 (x:=ak2) j h hm (by simp[ni,mkP,mkE]) (by simp[fdE,mkP,mkE,smE]);have hv:=h.V;obtain⟨u,U⟩:=h.N.resolve_left oo;have ok:OK (mkP 0 l ak2) l:=⟨Z,h2,h.I,h.L,kne (x:=ak2) dc,fun _=>⟨u,by rw[show (mkP 0 l ak2).q=0 from Q5];show nA (aN l.N nd1) 0+3≤M47;rw[U];simp only[M47];omega⟩,kne (x:=ak2) dc,kne (x:=ak2) dc,kne (x:=ak2) dc⟩
 have J:=j.eff ok;have hN:(eff (mkP 0 l ak2) l).N=l.N.map (eD [nd1] 0 3):=by
  show (nop (mkP 0 l ak2) l).ap l.N=_;unfold nop;rw[if_neg (show ¬(mkP 0 l ak2).k=1 from by show ¬(2:Int)=1;decide),if_pos (show (mkP 0 l ak2).k=2 from rfl),show (mkP 0 l ak2).q=0 from Q5];rfl
 refine⟨(qi j).2 ok,h.I,h.L,?_,.inr ⟨by rw[hN,O9 fun y=>(iX y).1];exact u,?_⟩⟩
 ·show (IF (mkP 0 l ak2) l.V).getD 0 0=((m+1:Nat):Int)
  unfold IF;rw[show (mkP 0 l ak2).q=0 from Q5,pC (by rw[j.v6];omega),if_pos rfl];omega
 ·obtain⟨y,M,e⟩:=ua u;have O:=wC j.srt M;rw[e]at O;have hb:=AM (ids:=[nd1]) (c:=0) (v:=3) (y:=y) (by simp[e]);have C:eD [nd1] 0 3 y∈(eff (mkP 0 l ak2) l).N:=by rw[hN];exact List.mem_map_of_mem M
  have:=wC J.srt C
  rw[(iX y).1,e,hb]at this;rw[this];show nA (y.A.set 0 (nA y.A 0+3)) 0=_;have hl:=j.A54 y M;rw[oa oo,sU, ←O,U];push_cast;omega
end
end
section
open Go.RowKit
def dE (acts1 own2 picks3 k_9 w_10 i11:Value)(zf:Nat→Value):List Value:=zf 0::acts1::own2::picks3::zT zf 4 5 (k_9::w_10::i11::zT zf 12 189 ([]))
def pO (own2 picks3 k_9 w_10:Value)(zf:Nat→Value):List Value:=zf 0::zf 1::own2::picks3::zT zf 4 5 (k_9::w_10::zT zf 11 190 ([]))
def uV (own2 picks3 k_9 w_10 d13 u_14 i16:Value)(zf:Nat→Value):List Value:=zf 0::zf 1::own2::picks3::zT zf 4 5 (k_9::w_10::zf 11::zf 12::d13::u_14::zf 15::i16::zT zf 17 184 ([]))
def pP (own2 picks3 k_9 d13 u_14:Value)(zf:Nat→Value):List Value:=zf 0::zf 1::own2::picks3::zT zf 4 5 (k_9::zT zf 10 3 (d13::u_14::zT zf 15 186 ([])))
def jW (own2 picks3 k_9 d13 u_14 made17 i18:Value)(zf:Nat→Value):List Value:=zf 0::zf 1::own2::picks3::zT zf 4 5 (k_9::zT zf 10 3 (d13::u_14::zf 15::zf 16::made17::i18::zT zf 19 182 ([])))
def uW (own2 picks3 k_9 d13 u_14 made17 i18 a19 t122:Value)(zf:Nat→Value):List Value:=zf 0::zf 1::own2::picks3::zT zf 4 5 (k_9::zT zf 10 3 (d13::u_14::zf 15::zf 16::made17::i18::a19::zT zf 20 102 (t122::zT zf 123 78 ([]))))
def pQ (picks3 k_9 d13 u_14 made17:Value)(zf:Nat→Value):List Value:=zT zf 0 3 (picks3::zT zf 4 5 (k_9::zT zf 10 3 (d13::u_14::zf 15::zf 16::made17::zT zf 18 183 ([]))))
def jX (own2 picks3 k_9 d13 u_14 made17 i18 a19:Value)(zf:Nat→Value):List Value:=zf 0::zf 1::own2::picks3::zT zf 4 5 (k_9::zT zf 10 3 (d13::u_14::zf 15::zf 16::made17::i18::a19::zT zf 20 181 ([])))
def uX (picks3 k_9 d13 u_14 made17 was22 i23:Value)(zf:Nat→Value):List Value:=zT zf 0 3 (picks3::zT zf 4 5 (k_9::zT zf 10 3 (d13::u_14::zf 15::zf 16::made17::zT zf 18 4 (was22::i23::zT zf 24 177 ([])))))
def pF (u_14 made17:Value)(zf:Nat→Value):List Value:=zT zf 0 14 (u_14::zf 15::zf 16::made17::zT zf 18 183 ([]))
def co (K:KV):KE:=kZ f3 (b1 63) K
def mF (K:KV):KE:=ah Q (cd f3 (b1 250)) (co K) (xx xf (co K) 0) (rk f3 K)
def dW (K:KV)(B1:KE):KE:=kY f3 (b1 2003) B1 (xx xf (co K) 0) K
def iH (K:KV)(B1:KE):KE:=ah Q (cd f3 (b1 2002)) (dW K B1) (xx xf (co K) 0) (rk f3 K)
def dX (K:KV):KE:=kZ f3 (b1 1023) K
def mG (K:KV):KE:=ah Q (cd f3 (b1 4090)) (dX K) (xx xf (dX K) 2) (rk f3 K)
def bD (K:KV):KE:=kZ f3 (b1 4095) K
def mH (K:KV):KE:=ah Q (cd f3 (b1 16378)) (bD K) (xx xf (bD K) 4) (rk f3 K)
def dG (K:KV)(B1:KE):KE:=kY f3 (b1 131027) B1 (xx xf (bD K) 4) K
def dH (K:KV)(B1:KE):KE:=kY f3 (b1 1048211) (dG K B1) (xx (xx xf (bD K) 4) (dG K B1) 5) K
def jU (K:KV)(B1:KE):KE:=ah Q (cd f3 (b1 2096421)) (dH K B1) (xx (xx xf (bD K) 4) (dG K B1) 5) (rk f3 K)
def dY (K:KV):KE:=kZ f3 (b1 16383) K
def mI (K:KV):KE:=ah Q (cd f3 (b1 65530)) (dY K) (xx xf (dY K) 6) (rk f3 K)
theorem DO (h:call Q 5 #[V0] (fun M=>un Q .not M fun C w=>aG C false (fun ag=>lN 22 V0 (fun O=>bT .gtr 3 O (ci 50) fun am=>ag [V0,O,am]) w) (fun k=>k [uu,uu,uu] w) fun j=>pick C cT (gd j 2) fun I w=>aG I false (fun al=>lN 23 X0 (fun U=>bT .gtr 3 U (ci 20) fun an=>al [X0,U,an]) w) (fun k=>k [uu,uu,uu] w) fun u=>pick I cT (gd u 2) fun Z w=>cond Z (call Q 6 #[] K w) (conv Q 5 3 Y0 (fun aa=>bT .rem 3 aa (ci 5) fun ad=>bin Q .add 3 true false (ci 2) ad fun J=>call Q 7 #[J] fun af=>mF K (dE V0 W0 X0 J af (ci 0) (zV (zV (zV (zV zu 0 [Y0]) 8 [cF]) 28 [V0,M,C,C,gd j 0,gd j 1,gd j 2,I,I,gd u 0,gd u 1,gd u 2,Z]) 42 [Y0,aa,ad,J,J,af]))) w)) w):Gives Q 3 #[Y0,V0,W0,X0] w K:=by
 refine aq func3 kr ?_;revert h;delta mF co;exact mpF
theorem Bs {K:KV}{V0 W0 X0 Y0 Z0 H1:Value}{zf:Nat→Value}{w:World}(Inv:Value→World→Prop)(μ:Value→World→Nat)(h0:Inv H1 w)(hs:∀(i11':Value) (dd:Nat→Value) (w:World) (m:Nat),Inv i11' w→m=μ i11' w →
  lN 22 V0 (fun t50=>lS i11' t50 fun t51 w=>cond t51 (iH K (fun e2 w2=>(Inv (gd e2 11) w2)∧((μ (gd e2 11) w2)<m)) (dE V0 W0 X0 Y0 Z0 i11' (zV dd 48 [i11',V0,t50,t51])) w) (co K (pO W0 X0 Y0 Z0 (zV (zV (zV dd 1 [V0]) 11 [i11']) 48 [i11',V0,t50,t51])) w)) w):mF K (dE V0 W0 X0 Y0 Z0 H1 zf) w:=by
 refine aI (cd f3 (b1 500)) (zr [(11,2),(48,31)]) (by kernel_rfl) (vP [11] Inv) (vQ [11] μ) h0 ?_
 intro e' w' hI
 have h:=hs _ (zM zf (gd e') (zr [(11,2),(48,31)])) w' _ hI rfl
 refine Eq.mp (congrArg (fun c=>ah Q c _ _ _ _ w') (by kernel_rfl:(rep [1,0] (cd f3 (b1 2002)) (cd f3 (b1 500)))=(cd f3 (b1 500)))) ?_
 revert h
 delta iH dW
 generalize (cd f3 (b1 2002))=xc0
 generalize (co K)=qc0
 exact mpF
theorem Bq (h:aL Q 22 V0 H1 (fun I=>ld Q 30 I fun J=>alc Q 30 fun u=>sto Q 30 u J fun _=>ai Q 30 u 0 fun M=>ld Q 5 M fun O=>bT .sub 3 Y0 (ci 1) fun U=>conv Q 3 5 U fun Z=>bF .rem 5 O Z fun aa=>bin Q .add 5 true false (cb 1) aa fun ad=>ai Q 30 u 0 fun af=>sto Q 5 af ad fun _=>ai Q 30 u 3 fun ag=>ld Q 5 ag fun al=>bT .rem 5 al (cb 7) fun am=>bT .neq 5 am (cb 6) fun C w=>aG C true (fun aS=>ai Q 30 u 3 (fun ap=>ld Q 5 ap fun ar=>bT .rem 5 ar (cb 7) fun av=>bT .neq 5 av (cb 5) fun a0=>aS [ap,ar,av,a0]) w) (fun k=>k [uu,uu,uu,uu] w) fun j=>pick C (gd j 3) cF fun an w=>cond an (ld Q 30 u (fun az=>call Q 8 #[Z0,az] fun a1=>dW K B1 (dE V0 W0 X0 Y0 Z0 H1 (zV (zV zf 12 [u]) 54 [V0,H1,I,J,M,O,Y0,U,Z,aa,ad,af,ag,al,am,C,C,gd j 0,gd j 1,gd j 2,gd j 3,an,Z0,az,a1]))) w) (dW K B1 (dE V0 W0 X0 Y0 Z0 H1 (zV (zV zf 12 [u]) 54 [V0,H1,I,J,M,O,Y0,U,Z,aa,ad,af,ag,al,am,C,C,gd j 0,gd j 1,gd j 2,gd j 3,an])) w)) w):iH K B1 (dE V0 W0 X0 Y0 Z0 H1 zf) w:=by
 delta iH;revert h;generalize (dW K B1)=qc0;generalize (co K)=qc1;exact mpF
theorem Bx (h:call Q 9 #[] (fun u=>call Q 10 #[Y0,ci 1,u] fun C=>ext Q C 0 fun I=>ext Q C 1 fun J=>bT .neq 40 J (ci 0) fun M w=>aG M false (fun U=>bT .eql 39 I (.pointer none) (fun Z=>U [I,Z]) w) (fun k=>k [uu,uu] w) fun j=>pick M cT (gd j 1) fun O w=>cond O (K cF w) (mG K (uV W0 X0 Y0 Z0 u I (ci 0) (zV (zV zf 15 [J]) 79 [u,C,Y0,u,C,I,J,J,M,M,gd j 0,gd j 1,O])) w)) w):co K (pO W0 X0 Y0 Z0 zf) w:=by
 delta co;revert h;delta mG dX;exact mpF
theorem By (h:nC H1 (fun j=>B1 (dE V0 W0 X0 Y0 Z0 j (zV zf 52 [H1,j]))) w):dW K B1 (dE V0 W0 X0 Y0 Z0 H1 zf) w:=by
 delta dW;revert h;generalize (co K)=qc0;exact mpF
theorem Bt (Inv:Value→World→Prop)(μ:Value→World→Nat)(h0:Inv M1 w)(hs:∀(j:Value) (dd:Nat→Value) (w:World) (m:Nat),Inv j w→m=μ j w →
  aJ Z0 (fun ad=>ai Q 46 ad 1 fun af=>ld Q 44 af fun ag=>lN 44 ag fun al=>lS j al fun am w=>cond am (aJ Z0 (fun C=>ai Q 46 C 1 fun I=>ld Q 44 I fun J=>nC j fun M=>slc Q 44 J (some j) (some M) none fun O=>bld Q 49 #[(0,cb 1),(1,ci 2),(2,ci 1),(4,O)] fun U=>call Q 11 #[J1,U,cu 1] fun Z=>bT .neq 40 Z (ci 0) fun aa w=>cond aa (K cF w) (nC j (fun u w=>(Inv u w)∧((μ u w)<m)) w)) w) (dX K (pP W0 X0 Y0 I1 J1 (zV (zV (zV dd 10 [Z0]) 16 [j]) 92 [j,Z0,ad,af,ag,al,am])) w)) w):mG K (uV W0 X0 Y0 Z0 I1 J1 M1 zf) w:=by
 refine aI (cd f3 (b1 8180)) (zr [(8,1),(16,1),(92,21)]) kr (vP [16] Inv) (vQ [16] μ) h0 ?_;intro e' w' hI;have h:=hs _ (zM zf (gd e') (zr [(8,1),(16,1),(92,21)])) w' _ hI rfl;revert h;generalize (dX K)=qc0;exact mpF
theorem Bz (h:mH K (jW W0 X0 Y0 I1 J1 (cu 0) (ci 0) zf) w):dX K (pP W0 X0 Y0 I1 J1 zf) w:=by
 delta dX;revert h;delta mH bD;exact mpF
theorem Bu {K:KV}{W0 X0 Y0 I1 J1 N1 O1:Value}{zf:Nat→Value}{w:World}(Inv:Value→Value→World→Prop)(μ:Value→Value→World→Nat)(h0:Inv N1 O1 w)(hs:∀(made17' i18':Value) (dd:Nat→Value) (w:World) (m:Nat),Inv made17' i18' w→m=μ made17' i18' w →
  conv Q 5 3 W0 (fun t115=>bT .rem 3 t115 (ci 20) fun t116=>lS i18' t116 fun t117 w=>cond t117 (bld Q 51 #[(0,cb 2),(1,cu 1099511627777),(3,ci 3)] (fun t120=>alc Q 51 fun P1=>sto Q 51 P1 t120 fun _=>bT .eql 3 i18' (ci 0) fun U1=>jU K (fun e2 w2=>(Inv (gd e2 17) (gd e2 18) w2)∧((μ (gd e2 17) (gd e2 18) w2)<m)) (uW W0 X0 Y0 I1 J1 made17' i18' P1 U1 (zV (zV dd 113 [i18',W0,t115,t116,t117]) 120 [t120,i18']))) w) (bD K (pQ X0 Y0 I1 J1 made17' (zV (zV (zV dd 2 [W0]) 18 [i18']) 113 [i18',W0,t115,t116,t117])) w)) w):mH K (jW W0 X0 Y0 I1 J1 N1 O1 zf) w:=by
 refine aI (cd f3 (b1 32756)) (zr [(8,1),(17,5),(113,28)]) (by kernel_rfl) (vP [17,18] Inv) (vQ [17,18] μ) h0 ?_
 intro e' w' hI
 have h:=hs _ _ (zM zf (gd e') (zr [(8,1),(17,5),(113,28)])) w' _ hI rfl
 refine Eq.mp (congrArg (fun c=>ah Q c _ _ _ _ w') (by kernel_rfl:(rep (b1 101) (cd f3 (b1 2096421)) (cd f3 (b1 32756)))=(cd f3 (b1 32756)))) ?_
 revert h
 delta jU dG dH
 generalize (cd f3 (b1 2096421))=xc0
 generalize (bD K)=qc0
 exact mpF
theorem Br (h:cond U1 (bld Q 51 #[(0,cb 1),(3,ci 7)] (fun j=>sto Q 51 P1 j fun _=>dH K B1 (jX W0 X0 Y0 I1 J1 N1 O1 P1 (zV zf 122 [U1,j]))) w) (dH K B1 (jX W0 X0 Y0 I1 J1 N1 O1 P1 (zV zf 122 [U1])) w)):jU K B1 (uW W0 X0 Y0 I1 J1 N1 O1 P1 U1 zf) w:=by
 delta jU;revert h;generalize (dH K B1)=qc0;generalize (bD K)=qc1;generalize (dG K B1)=qc2;exact mpF
theorem BA (h:call Q 13 #[J1] (fun j=>alc Q 58 fun Q1=>sto Q 58 Q1 j fun _=>mI K (uX X0 Y0 I1 J1 N1 Q1 (ci 0) (zV zf 141 [J1,j]))) w):bD K (pQ X0 Y0 I1 J1 N1 zf) w:=by
 delta bD;revert h;delta mI dY;exact mpF
theorem BC (h:ld Q 51 P1 (fun J=>call Q 12 #[J1,J,cu 2] fun u=>ext Q u 0 fun M=>ext Q u 1 fun C=>alc Q 35 fun af=>sto Q 35 af M fun _=>bT .neq 40 C (ci 0) fun I w=>aG I false (fun ag=>ai Q 35 af 1 (fun O=>ld Q 31 O fun U=>bT .add 31 N1 (cu 1) fun Z=>bF .neq 31 U Z fun al=>ag [O,U,N1,Z,al]) w) (fun k=>k [uu,uu,uu,uu,uu] w) fun j=>pick I cT (gd j 4) fun aa w=>cond aa (K cF w) (bT .add 31 N1 (cu 1) (fun ad=>dG K B1 (jW W0 X0 Y0 I1 J1 ad O1 (zV (zV zf 19 [P1,af,C]) 124 [u,J1,J,u,M,C,C,I,I,gd j 0,gd j 1,gd j 2,gd j 3,gd j 4,aa,N1,ad]))) w)) w):dH K B1 (jX W0 X0 Y0 I1 J1 N1 O1 P1 zf) w:=by
 delta dH;revert h;generalize (dG K B1)=qc0;generalize (bD K)=qc1;exact mpF
theorem Bv (Inv:Value→Value→World→Prop)(μ:Value→Value→World→Nat)(h0:Inv J1 T1 w)(hs:∀(J j:Value) (dd:Nat→Value) (w:World) (m:Nat),Inv J j w→m=μ J j w →
  bT .lss 3 j (ci 2) (fun U w=>cond U (call Q 14 #[I1] (fun _=>call Q 15 #[I1,X0] fun ad=>bT .neq 40 ad (ci 0) fun af w=>cond af (K cF w) (call Q 10 #[Y0,ci 1,I1] (fun aa=>ext Q aa 0 fun u=>ext Q aa 1 fun ag w=>aE (fun S w=>hld S (bT .neq 40 ag (ci 0)) fun M=>hG M false S (fun k=>k u) fun al=>hG M false S (bT .eql 39 al (.pointer none)) fun am=>hld S (pick M cT am) fun C=>hG C false S (fun k=>k u) fun an=>hG C false S (ld Q 58 Q1) fun ar=>xG C false (call Q 13 #[an]) (fun ap=>aU S fun _=>xG C false (call Q 16 #[ap,ar]) fun av=>aE fun S w=>hG C false S (un Q .not av) fun az=>hld S (pick C cT az) fun O=>hG O false S (fun k=>k u) fun aS=>xG O false (call Q 17 #[aS]) (fun a0=>aE fun S w=>hld S (pick O cT a0) fun I=>hG I false S (fun k=>k u) fun a1=>xG I false (call Q 18 #[a1]) (fun a2=>aE fun S w=>hG I false S (blt Q .len #[62] 3 #[false] #[a2]) fun a3=>hG I false S (bT .gtr 3 a3 (ci 0)) fun a4=>hld S (pick I cT a4) fun a5=>cond a5 (K cF w) (nC j (fun Z w=>(Inv u Z w)∧((μ u Z w)<m)) w)) w) w) w) w.drew) w)) w) (dY K (pF J N1 (zV (zV (zV (zV (zV dd 3 [X0]) 9 [Y0]) 13 [I1]) 22 [Q1,j]) 143 [j,U])) w)) w):mI K (uX X0 Y0 I1 J1 N1 Q1 T1 zf) w:=by
 refine aI (cd f3 (b1 131060)) (zr [(8,1),(14,1),(23,3),(143,40)]) kr (vP [14,23] Inv) (vQ [14,23] μ) h0 ?_;intro e' w' hI;have h:=hs _ _ (zM zf (gd e') (zr [(8,1),(14,1),(23,3),(143,40)])) w' _ hI rfl;revert h;generalize (dY K)=qc0;exact mpF
theorem BB (h:nC O1 (fun j=>B1 (jW W0 X0 Y0 I1 J1 N1 j (zV zf 118 [O1,j]))) w):dG K B1 (jW W0 X0 Y0 I1 J1 N1 O1 zf) w:=by
 delta dG;revert h;generalize (bD K)=qc0;exact mpF
theorem BD (h:bld Q 51 #[(0,cb 6),(2,ci 2)] (fun ad=>call Q 12 #[J1,ad,cu 3] fun j=>ext Q j 0 fun af=>ext Q j 1 fun ag=>alc Q 35 fun an=>sto Q 35 an af fun _=>bT .eql 40 ag (ci 0) fun u w=>aG u true (fun Z=>ai Q 35 an 1 (fun C=>ld Q 31 C fun I=>bT .add 31 N1 (cu 1) fun J=>bF .eql 31 I J fun al=>Z [C,I,N1,J,al]) w) (fun k=>k [uu,uu,uu,uu,uu] w) fun O=>pick u (gd O 4) cF fun M w=>aG M true (fun aa=>call Q 6 #[] (fun am=>aa [am]) w) (fun k=>k [uu] w) fun U=>pick M (gd U 0) cF K) w):dY K (pF J1 N1 zf) w:=by
 delta dY;exact mpK h
attribute [irreducible] co mF dW iH dX mG bD mH dG dH jU dY mI
def BE (d1 made4 f5:Value)(zf:Nat→Value):List Value:=zf 0::d1::zf 2::zf 3::made4::f5::zT zf 6 59 ([])
def BF (zf:Nat→Value):List Value:=zT zf 0 65 ([])
def rI (K:KV):KE:=ah Q (cd f6 (b1 63)) (rk f6 K) xf (rk f6 K)
abbrev Dr (K:KV)(hA0:KE)(w:World):Prop :=
  call Q 9 #[] (fun t9=>call Q 10 #[ci 1,ci 1,t9] fun t12=>ext Q t12 0 fun t13=>ext Q t12 1 fun t14=>bT .neq 40 t14 (ci 0) fun t16 w=>aG t16 false (fun k18=>bT .eql 39 t13 (.pointer none) (fun t19=>k18 [t13,t19]) w) (fun k=>k [uu,uu] w) fun us18=>pick t16 cT (gd us18 1) fun t20 w=>cond t20 (K cF w) (bld Q 51 #[(0,cb 1),(3,ci 10)] (fun t23=>call Q 12 #[t13,t23,cu 0] fun t24=>ext Q t24 0 fun t25=>ext Q t24 1 fun t26=>alc Q 35 fun made4=>sto Q 35 made4 t25 fun _=>hA0 (BE t9 made4 t26 (zV (zV (zV zu 0 [cF]) 2 [t13,t14]) 9 [t9,t12,t9,t12,t13,t14,t14,t16,t16,gd us18 0,gd us18 1,t20,t24,t13,t23,t24,t25,t26]))) w)) w
theorem N5 (j:Code)(h:Dr K (ah Q j (rk f6 K) (fun _ _ _=>False) (rk f6 K)) w):ah Q (rep (b1 63) j (cd f6 [])) (rk f6 K) xf (rk f6 K) (BF zu) w:=Eq.mp kr h
theorem Lj {K:KV}{w:World}(h:Dr K (rI K) w):Gives Q 6 #[] w K:=aq func6 (by kernel_rfl) (Eq.mp (congrArg (fun c=>ah Q c (rk f6 K) xf (rk f6 K) (BF zu) w) (by kernel_rfl:(rep (b1 63) (cd f6 (b1 63)) (cd f6 []))=(cd f6 []))) (N5 (cd f6 (b1 63)) h))
theorem J8 (h:call Q 14 #[V0] (fun _=>call Q 15 #[V0,cN] fun u=>call Q 10 #[ci 1,ci 1,V0] fun C=>ext Q C 0 fun j=>ext Q C 1 fun a3=>bT .neq 40 a3 (ci 0) fun I w=>aG I false (fun az=>bT .eql 39 j (.pointer none) (fun a4=>az [j,a4]) w) (fun k=>k [uu,uu] w) fun am=>pick I cT (gd am 1) fun a5 w=>cond a5 (K cF w) (bT .eql 40 X0 (ci 0) (fun J w=>aG J true (fun aS=>ai Q 35 W0 1 (fun M=>ld Q 31 M fun O=>bT .eql 31 O (cu 1) fun a6=>aS [M,O,a6]) w) (fun k=>k [uu,uu,uu] w) fun an=>pick J (gd an 2) cF fun U w=>aG U true (fun a0=>bT .eql 40 u (ci 0) (fun a7=>a0 [u,a7]) w) (fun k=>k [uu,uu] w) fun ap=>pick U (gd ap 1) cF fun Z w=>aG Z true (fun a1=>call Q 13 #[j] (fun aa=>fld Q 58 aa 3 fun ad=>lN 55 ad fun af=>bT .eql 3 af (ci 1) fun a8=>a1 [j,aa,ad,af,a8]) w) (fun k=>k [uu,uu,uu,uu,uu] w) fun ar=>pick Z (gd ar 4) cF fun ag w=>aG ag true (fun a2=>call Q 17 #[j] (fun al=>un Q .not al fun a9=>a2 [j,al,a9]) w) (fun k=>k [uu,uu,uu] w) fun av=>pick ag (gd av 2) cF K) w)) w):rI K (BE V0 W0 X0 zf) w:=by
 delta rI;exact mpK h
attribute [irreducible] rI
theorem Of (h:lN 22 V0 (fun t4=>bT .leq 3 t4 (ci 60) K) w):Gives Q 5 #[V0] w K:=by
 refine aq func5 kr ?_;exact mpK h
def Ds (a2 b3 i5:Value)(zf:Nat→Value):List Value:=zf 0::zf 1::a2::b3::zf 4::i5::zT zf 6 74 ([])
def Dt (a2 b3:Value)(zf:Nat→Value):List Value:=zf 0::zf 1::a2::b3::zT zf 4 76 ([])
def Du (a2 b3 i6:Value)(zf:Nat→Value):List Value:=zf 0::zf 1::a2::b3::zf 4::zf 5::i6::zT zf 7 73 ([])
def Dv (zf:Nat→Value):List Value:=zT zf 0 80 ([])
def jQ (K:KV):KE:=kZ f16 [1,1,1] K
def sK (K:KV):KE:=ah Q (cd f16 (b1 58)) (jQ K) (xx xf (jQ K) 0) (rk f16 K)
def jR (K:KV):KE:=kZ f16 [1,1,1,1] K
def sQ (K:KV):KE:=ah Q (cd f16 (b1 122)) (jR K) (xx xf (jR K) 2) (rk f16 K)
theorem Na (h:box Q 58 X0 (fun V0=>box Q 58 Y0 fun W0=>ai Q 58 V0 0 fun t7=>ld Q 54 t7 fun t8=>ai Q 58 W0 0 fun t9=>ld Q 54 t9 fun Z=>bF .neq 54 t8 Z fun J w=>aG J false (fun a6=>ai Q 58 V0 1 (fun t13=>ld Q 54 t13 fun t14=>ai Q 58 W0 1 fun t15=>ld Q 54 t15 fun aa=>bF .neq 54 t14 aa fun bb=>a6 [t13,t14,t15,aa,bb]) w) (fun k=>k [uu,uu,uu,uu,uu] w) fun C=>pick J cT (gd C 4) fun M w=>aG M false (fun a7=>ai Q 58 V0 2 (fun ad=>ld Q 33 ad fun af=>ai Q 58 W0 2 fun ag=>ld Q 33 ag fun al=>bF .neq 33 af al fun t24=>a7 [ad,af,ag,al,t24]) w) (fun k=>k [uu,uu,uu,uu,uu] w) fun I=>pick M cT (gd I 4) fun O w=>aG O false (fun a8=>ai Q 58 V0 3 (fun am=>ld Q 55 am fun an=>lN 55 an fun ap=>ai Q 58 W0 3 fun ar=>ld Q 55 ar fun av=>lN 55 av fun az=>bF .neq 3 ap az fun bd=>a8 [am,an,ap,ar,av,az,bd]) w) (fun k=>k [uu,uu,uu,uu,uu,uu,uu] w) fun j=>pick O cT (gd j 6) fun U w=>aG U false (fun a9=>ai Q 58 V0 4 (fun aS=>ld Q 56 aS fun a0=>lN 56 a0 fun a1=>ai Q 58 W0 4 fun a2=>ld Q 56 a2 fun a3=>lN 56 a3 fun a4=>bF .neq 3 a1 a4 fun be=>a9 [aS,a0,a1,a2,a3,a4,be]) w) (fun k=>k [uu,uu,uu,uu,uu,uu,uu] w) fun u=>pick U cT (gd u 6) fun a5 w=>cond a5 (K cF w) (sK K (Ds V0 W0 (ci 0) (zV (zV (zV zu 0 [X0,Y0]) 4 [cF]) 7 [t7,t8,t9,Z,J,J,gd C 0,gd C 1,gd C 2,gd C 3,gd C 4,M,M,gd I 0,gd I 1,gd I 2,gd I 3,gd I 4,O,O,gd j 0,gd j 1,gd j 2,gd j 3,gd j 4,gd j 5,gd j 6,U,U,gd u 0,gd u 1,gd u 2,gd u 3,gd u 4,gd u 5,gd u 6,a5])) w)) w):Gives Q 16 #[X0,Y0] w K:=by
 refine aq func16 kr ?_;revert h;delta sK jQ;exact mpF
theorem Km (Inv:Value→World→Prop)(μ:Value→World→Nat)(h0:Inv X0 w)(hs:∀(j:Value) (dd:Nat→Value) (w:World) (m:Nat),Inv j w→m=μ j w →
  ai Q 58 V0 3 (fun u=>ld Q 55 u fun C=>lN 55 C fun I=>lS j I fun J w=>cond J (sF 58 V0 3 (fun U=>sL 55 U fun Z=>sI 55 Z j fun aa=>sL 79 aa fun ad=>sF 58 W0 3 fun af=>sL 55 af fun ag=>sI 55 ag j fun al=>sL 79 al fun am=>sti (bF .neq 79 ad am) fun an w=>cond an (K cF w) (nC j (fun M w=>(Inv M w)∧((μ M w)<m)) w)) w.drew) (jQ K (Dt V0 W0 (zV (zV dd 5 [j]) 44 [j,u,C,I,J])) w)) w):sK K (Ds V0 W0 X0 zf) w:=by
 refine aI (cd f16 (b1 116)) (zr [(4,2),(44,18)]) kr (vP [5] Inv) (vQ [5] μ) h0 ?_;intro e' w' hI;have h:=hs _ (zM zf (gd e') (zr [(4,2),(44,18)])) w' _ hI rfl;revert h;generalize (jQ K)=qc0;exact mpF
theorem Kp (h:sQ K (Du V0 W0 (ci 0) zf) w):jQ K (Dt V0 W0 zf) w:=by
 delta jQ;revert h;delta sQ jR;exact mpF
theorem Ko (Inv:Value→World→Prop)(μ:Value→World→Nat)(h0:Inv Y0 w)(hs:∀(j:Value) (dd:Nat→Value) (w:World) (m:Nat),Inv j w→m=μ j w →
  ai Q 58 V0 4 (fun u=>ld Q 56 u fun C=>lN 56 C fun I=>lS j I fun J w=>cond J (sF 58 V0 4 (fun U=>sL 56 U fun Z=>sI 56 Z j fun aa=>sL 121 aa fun ad=>sF 58 W0 4 fun af=>sL 56 af fun ag=>sI 56 ag j fun al=>sL 121 al fun am=>sti (bF .neq 121 ad am) fun an w=>cond an (K cF w) (nC j (fun M w=>(Inv M w)∧((μ M w)<m)) w)) w.drew) (jR K (Dv (zV (zV (zV dd 2 [V0,W0]) 6 [j]) 62 [j,u,C,I,J])) w)) w):sQ K (Du V0 W0 Y0 zf) w:=by
 refine aI (cd f16 (b1 244)) (zr [(4,1),(6,1),(62,18)]) kr (vP [6] Inv) (vQ [6] μ) h0 ?_;intro e' w' hI;have h:=hs _ (zM zf (gd e') (zr [(4,1),(6,1),(62,18)])) w' _ hI rfl;revert h;generalize (jR K)=qc0;exact mpF
theorem Kq (h:K cT w):jR K (Dv zf) w:=by
 delta jR;exact mpK h
attribute [irreducible] jQ sK jR sQ
end
section
attribute [local irreducible] bin un conv call aZ blt slc ai fld aL idx lkp cP eP eSt rng nxt ent ext alc box bld bg ld sto aJ cr mkS ifc pick rdy wts aG sti cond aV Gives ah dy dP cOp
section
open Go.RowKit
theorem YF {i:Int}(h:A.length=54):((mf A i x).1).length=54:=by
 unfold mf;split
 ·rfl
 split
 ·rfl
 unfold vk;split
 ·rfl
 ·simp[h]
theorem VQ {L:List ND}{id:Int}(h:∃y∈L,y.id=id):∃x,L[posN L id]? = some x∧posN L id<L.length:=by
 obtain⟨y,j,e⟩:=h
 have:posN L id<L.length:=by
  unfold posN;exact List.findIdx_lt_length_of_exists ⟨y,j,by simp[e]⟩
 exact⟨_,gE this,this⟩
def JF (l:LG)(i:Nat)(x:ND):LG:={l with s:={l.s with nodes:=l.s.nodes.set i x} }
theorem Yx {l:LG}{x x':ND}(C:l.s.nodes[i]? = some x)(h:x'.id=x.id):(JF l i x').s.nodes.map (·.id)=l.s.nodes.map (·.id):=by
 show (l.s.nodes.set i x').map (·.id)=_;rw[List.map_set,h];apply List.ext_getElem?;intro j;rw[List.getElem?_set];by_cases u:i=j
 ·subst u;rw[if_pos rfl,List.getElem?_map,C]
  have:=(gS C).1
  simp[this]
 ·rw[if_neg u]
section
variable {w:World}{K:KV}{B p:Nat}{l:LG}
theorem Xa {x:ND}(j:LM w B p l)(hx:l.s.nodes[i]? = some x)(I:M0.length=54)(C:Opn w B 79 56 l.s.nodes.length l.s.nc g cs (l.s.nodes.flatMap ndE))(ha:l.s.na=some ⟨g,0,none⟩)(ho:o=i*56+2)(h:∀w',LM w' B p (JF l i {x with A:=M0})→Oth g w w'→K undef w'):sto Q 77 (pA g o) (.agg (M0.map iv).toArray) K w:=by
 have hi:i<l.s.nodes.length:=(gS hx).1;have h1:(i+1)*56≤l.s.nodes.length*56:=Nat.mul_le_mul_right _ hi;have h2:l.s.nodes.length*56≤l.s.nc*56:=Nat.mul_le_mul_right _ C.nc;rw[Nat.succ_mul]at h1;have aa:=C.len;have O:=C.elem fR rfl hx;refine ip (n:=54) (vs:=M0.map iv) kr (by simp[I]) C.blk oo (zX _) fun w' Z U=>?_
 have e2:(cs.drop (i*56)).take 2=[u6 x.id,u6 x.par]:=by
  have:(cs.drop (i*56)).take 2=((cs.drop (i*56)).take 56).take 2:=by rw[List.take_take];rfl
  rw[this,O];rfl
 have e3:cs.take o++M0.map iv++cs.drop (o+54)=cs.take (i*56)++ndE {x with A:=M0}++cs.drop (i*56+56):=by
  rw[ho,List.take_add,e2,show i*56+2+54=i*56+56 by omega]
  have:ndE {x with A:=M0} = u6 x.id::u6 x.par::M0.map iv:=by
   unfold ndE;rw[Ic (x:={x with A:=M0}) I]
  rw[this];simp
 rw[e3]at Z;have M:=C.set (x:={x with A:=M0}) fR rfl hi Z;have hk:Keep CG B w w':=U.keep C.blk sm C.lo;have u:(l.s.nodes.set i {x with A:=M0}).length=l.s.nodes.length:=List.length_set ..;refine h w' (j.nodes' (N:=l.s.nodes.set i {x with A:=M0}) (a:=l.s.na) (c:=l.s.nc) hk dc dc dc dc ?_ ?_ ?_) U
 ·rw[←Jk j.i6 j.l6 j.v6,u]
  have:(lgC l).set 18 (.slice l.s.na l.s.nodes.length l.s.nc)=lgC l:=by
   have:=j.cN
   obtain⟨J,he⟩:=gS this
   conv=>lhs;rw[←he]
   exact List.set_getElem_self J
  rw[this];exact U.blk j.cl (fun J=>j.cl.ne C.blk dc J)
 ·rw[u,ha];exact Opn.own M
 ·intro y hy;rcases List.mem_or_eq_of_mem_set hy with J|J
  ·exact j.A54 y J
  ·rw[J];exact I
end
structure SL (l l':LG):Prop where
 T:l'.T=l.T
 G:l'.G=l.G
 R:l'.R=l.R
 V:l'.s.V=l.s.V
 ids:l'.s.nodes.map (·.id)=l.s.nodes.map (·.id)
theorem SL.refl (l:LG):SL l l:=⟨rfl,rfl,rfl,rfl,rfl⟩
theorem SL.set {l l':LG}{x x':ND}(h:SL l l')(u:l'.s.nodes[i]? = some x)(j:x'.id=x.id):SL l (JF l' i x'):=⟨h.T,h.G,h.R,h.V,(Yx u j).trans h.ids⟩
theorem SL.len {l l':LG}(h:SL l l'):l'.s.nodes.length=l.s.nodes.length:=by have:=congrArg List.length h.ids;simpa using this
theorem SL.ex {l l':LG}(h:SL l l'){id:Int}(u:∃y∈l.s.nodes,y.id=id):∃y∈l'.s.nodes,y.id=id:=by
 obtain⟨y,C,e⟩:=u
 have:id∈l.s.nodes.map (·.id):=List.mem_map.2 ⟨y,C,e⟩
 rw[←h.ids]at this;obtain⟨z,I,j⟩:=List.mem_map.1 this;exact⟨z,I,j⟩
theorem SL.gi {l l':LG}(h:SL l l')(j:GI l m):GI l' m :=
 ⟨by rw[h.T];exact j.tk,by rw[h.T];exact fun x u=>h.ex (j.nt x u),by rw[h.len];exact j.nn,by rw[h.G];exact j.gn,by rw[h.T];exact j.tn,by rw[h.R];exact j.rn,by rw[h.V];exact j.vb,by rw[h.G];exact j.gr,fun y C=>by
  have:y.id∈l'.s.nodes.map (·.id):=List.mem_map.2 ⟨y,C,rfl⟩
  rw[h.ids]at this;obtain⟨z,I,e⟩:=List.mem_map.1 this;rw[←e];exact j.ib z I⟩
theorem VM {l:LG}(u:GI l m){id y:Int}(h:y∈cC l.T id):∃z∈l.s.nodes,z.id=y:=by
 obtain⟨x,C,e⟩:=ja.1 (RY (T:=l.T) _ id y h);obtain⟨z,I,j⟩:=u.nt x C;exact⟨z,I,by rw[j,e]⟩
section
variable {w:World}{K:KV}{B p:Nat}{l:LG}
theorem zaH {x:ND}{f:Int}(C:LM w B p l)(hx:l.s.nodes[i]? = some x)(u:M0.length=54)(U:blk w b 77 (M0.map iv))(hj:j≤1000000)(q0:V0=pA p 0)(q6:Y0=ci (j:Nat))(q7:Z0=ci (i:Nat))(q8:H1=pA b 0)(q9:I1=ci f)(I:∀w' (v:Int),v≠0→Below B w w'→K (ci v) w')(J:∀(e:List Value) (w':World),gd e 6=ci ((j+1:Nat):Int)→LM w' B p (JF l i {x with A:=M0})→Keep CG B w w'→B1 e w'):fi K B1 ((kj V0 W0 X0 Y0 Z0 H1 I1 zf)) w:=by
 subst q0 q6 q7 q8 q9;refine Ce <|aX ?_;by_cases M:f≠0
 ·exact ax M (I w f M (Below.refl _ _))
 refine ao M ?_;have C:=C.drew;have U:=U.drew;have hi:i<l.s.nodes.length:=(gS hx).1;obtain⟨g,aa,ha,Z⟩:=d9 C.nd oo
 refine ac (fun _=>aj) <|ac (fun _=>bf) <|ac (fun _=>dS) <|ac (v:=.slice l.s.na l.s.nodes.length l.s.nc) (fun _=>lK C.cl C.cN) <|ac (v:=.agg (M0.map iv).toArray) (fun _=>ldA (n:=54) (vs:=M0.map iv) underlying77 rfl kr U (by rw[List.drop_zero,tL (by simp[u])]) (by simp[u])) <|ac (v:=pA g (i*56)) (fun _=>qV ha underlying55 kf hi) <|ac (fun _=>se) ?_
 refine Xa C hx u Z ha rfl fun w' O o'=>?_;refine Ck <|aM oo oo ?_;exact J _ _ (ivS) O ((Keep.of (B:=B) (Below.refl _ w).drew).trans (o'.keep Z.blk sm Z.lo))
theorem zaI {e:EV}{P:List Int}(hl:LM w B p l)(hg:GI l m)(hm:m≤900)(hB:B≤w.heap.size)(ha : -9223372036854775808≤e.a∧e.a≤9223372036854775807)(he:blk w eb 35 (evC e))(hP:w.ownsRow o 31 1 (.slice a P.length c) P.length (P.map u6))(a9:P.length≤100000)(a0:∀y∈P,∃z∈l.s.nodes,z.id=y)(q0:V0=pA p 0)(q3:W0=pA eb 0)(q5:X0=.slice a P.length c)(q6:Y0=ci 0)(av:∀w' (v:Int),v≠0→Below B w w'→K (ci v) w')(aS:∀{V0 W0:Value} {zf:Nat→Value} {w':World} {l':LG},V0=pA p 0→W0=pA eb 0→LM w' B p l'→SL l l'→blk w' eb 35 (evC e)→Below B w w'→bM K ((mV V0 W0 zf)) w'):km K ((iK V0 W0 X0 Y0 zf)) w:=by
 subst q0 q3 q5 q6;refine Cg (Inv:=fun i wr=>∃(k:Nat) (l':LG),i=ci (k:Nat)∧k≤P.length∧LM wr B p l'∧SL l l'∧blk wr eb 35 (evC e)∧wr.ownsRow o 31 1 (.slice a P.length c) P.length (P.map u6)∧Below B w wr) (μ:=fun i _=>P.length-(intOf i).toNat) ⟨0,l,rfl,by omega,hl,SL.refl l,he,hP,Below.refl _ _⟩ ?_;rintro _ dd w1 mm ⟨k,l',rfl,hk,O,U,an,aa,B1⟩ a6;refine bh underlying87 <|aK ?_
 by_cases a3:k<P.length
 ·refine ax oo ?_;have hy:P[k]? = some P[k]:=gE a3;generalize P[k]=y at hy;obtain⟨g,az,rfl,op⟩:=d9 aa oo;refine dQ underlying87 (s:=1) kf oo oo ?_;refine lK (v:=u6 y) op.blk (by
   have h0:(P.map u6)=P.flatMap uC:=(ME P).symm;have a8:Opn w1 o 31 1 P.length c g az (P.flatMap uC):=h0 ▸ op
   have:=a8.cell (enc:=uC) (s:=1) (j:=0) (fun _=>rfl) rfl hy oo
   rw[Int.toNat_natCast,Nat.zero_add];exact this) ?_
  have bb:=hg.nn;refine Ms O (by rw[U.len];omega) ?_;obtain⟨x,hx,af⟩:=VQ (U.ex (a0 y (mO hy)));have a2:fdN l'.s.nodes y=(posN l'.s.nodes y:Nat):=by unfold fdN;rw[if_pos af]
  rw[a2];generalize posN l'.s.nodes y=i at hx af;have I:=O.drew;have J:=an.drew;have M:x.A.length=54:=O.A54 x (mO hx);obtain⟨gn,cn,a1,Z⟩:=d9 I.nd oo;have am:(cn.drop (i*56+2)).take 54=x.A.map iv:=by
   have:=Z.elem fR rfl hx
   rw[show i*56+2=i*56+2 from rfl, ←List.drop_drop];have h3:((cn.drop (i*56)).take 56).drop 2=((cn.drop (i*56)).drop 2).take 54:=by rw[List.drop_take]
   rw[←h3,this];unfold ndE;rw[Ic M];rfl
  refine au (fun z=>blk z p 90 (lgC l')∧blk z gn 79 cn∧blk z eb 35 (evC e)) ⟨I.cl,Z.blk,J⟩ <|ab (fun z u _=>aj) <|ab (fun z u _=>bf) <|ab (fun z u _=>dS) <|ab (v:=.slice l'.s.na l'.s.nodes.length l'.s.nc) (fun z u _=>lK u.1 I.cN) <|ab (v:=pA gn (i*56)) (fun z u _=>qV a1 underlying55 kf af) <|ab (fun z u _=>se) <|ab (v:=.agg (x.A.map iv).toArray) (fun z u _=>ldA (n:=54) (vs:=x.A.map iv) underlying77 rfl kr u.2.1 am (by simp[M])) <|ab (fun z u _=>bw) <|ab (v:=iv e.o) (fun z u _=>lK u.2.2 rfl) <|ab (fun z u _=>du) <|ab (v:=iv e.a) (fun z u _=>lK u.2.2 rfl) ?_
  have s1:B≤w1.drew.heap.size:=Nat.le_trans hB B1.size;have ad:((mf x.A e.o e.a).1).length=54:=YF M;have al:w1.drew.ownsRow o 31 1 (.slice (some ⟨g,0,none⟩) P.length c) P.length (P.map u6):=cD aa fun _ _=>rfl
  have ar:∀{V0 W0 X0 Y0 ag r8 f9:Value} {zf:Nat→Value} {w3:World} {rb:Nat},V0=pA p 0→Y0=ci (k:Nat)→ag=ci (i:Nat)→r8=pA rb 0→f9=ci (mf x.A e.o e.a).2→blk w3 rb 77 ((mf x.A e.o e.a).1.map iv)→Below w1.drew.heap.size w1.drew w3 →
    fi K (fun e2 w2=>(∃(k:Nat) (l':LG),gd e2 6=ci (k:Nat)∧k≤P.length∧LM w2 B p l'∧SL l l'∧blk w2 eb 35 (evC e)∧w2.ownsRow o 31 1 (.slice (some ⟨g,0,none⟩) P.length c) P.length (P.map u6)∧Below B w w2)∧P.length-(intOf (gd e2 6)).toNat<mm) ((kj V0 W0 X0 Y0 ag r8 f9 zf)) w3:=by
   intro V0 W0 X0 Y0 ag r8 f9 zf w3 rb q0 q6 q7 q8 q9 a7 C;have B3:Below B w w3:=B1.drew.trans (C.mono s1);have a4:=I.fresh C;refine zaH a4 hx ad a7 oo q0 q6 q7 q8 q9 (fun w' v hv b=>av w' v hv (B3.trans b)) fun e2 w' ap a5 k4=>?_;have s3:B≤w3.heap.size:=Nat.le_trans s1 C.size
   refine⟨⟨k+1,_,ap,by omega,a5,U.set hx rfl,k4.blk (ae C J J.lt) (.inr dc),gh (cD al fun q hq=>C.block q (World.ownsRow.lt al q hq).2) k4 dc,B3.trans (k4.below s3)⟩,?_⟩;rw[ap,a6];show P.length-(((k+1:Nat):Int)).toNat<P.length-(k:Int).toNat;omega
  refine⟨?_,?_⟩
  ·refine Ui M ha fun w3 C=>?_;refine au (fun _=>True) trivial <|ab (fun z u _=>bu) <|ab (fun z u _=>bv) ?_;refine df (z:=.agg (z54.map iv).toArray) kr fun w4 h4 b4 s4=>?_;have h4:=cZ h4
   refine aC trivial ?_;refine ip (n:=54) (vs:=(mf x.A e.o e.a).1.map iv) kr (by simp[ad]) h4 (by show 0+54≤54;omega) (zX _) fun w5 h5 o5=>?_;refine aC trivial ?_;refine ar rfl rfl rfl rfl rfl (by
    rw[List.take_zero,List.nil_append,List.drop_of_length_le (by show 54≤0+54;omega),List.append_nil]at h5;exact h5) (C.trans (bE (b4.mono C.size) o5 C.size))
  ·refine df (z:=.agg (z54.map iv).toArray) kr fun w3 h3 C s3=>?_;have h3:=cZ h3
   refine aC ⟨ae C I.cl I.cl.lt,ae C Z.blk Z.blk.lt,ae C J J.lt⟩ ?_;refine Ui M ha fun w4 b4=>?_;have h4:=ae b4 h3 h3.lt;refine au (fun _=>True) trivial <|ab (fun z u _=>bu) <|ab (fun z u _=>bv) ?_;refine ip (n:=54) (vs:=(mf x.A e.o e.a).1.map iv) kr (by simp[ad]) h4 (by show 0+54≤54;omega) (zX _) fun w5 h5 o5=>?_;refine aC trivial ?_
   refine ar rfl rfl rfl rfl rfl (by
    rw[List.take_zero,List.nil_append,List.drop_of_length_le (by show 54≤0+54;omega),List.append_nil]at h5;exact h5) (bE (C.trans (b4.mono C.size)) o5 oA)
 ·refine ao oo ?_;exact aS rfl rfl O U an B1
end
end
end
section
open Go.RowKit
theorem LM.grants' {l:LG}{Ts:List TypeId}{G:List GR}(h:LM w B p l)(C:Keep Ts B w w')(M:79∉Ts)(O:127∉Ts)(U:300∉Ts)(Z:31∉Ts)(j:blk w' p 90 (lgC {l with s:={l.s with gv:=.slice a G.length c},G:=G,ga:=a,gc:=c}))(u:w'.ownsRow B 121 5 (.slice a G.length c) G.length (G.flatMap grC)):LM w' B p {l with s:={l.s with gv:=.slice a G.length c},G:=G,ga:=a,gc:=c} :=
 {h with
  cl:=j
  gv:=rfl
  nd:=gh h.nd C M
  gr:=u
  tm:=h.tm.keep C O U
  rq:=fun k I => (h.rq k I).imp fun a=>Exists.imp fun c J=>⟨J.1,gh J.2 C Z⟩}
theorem GK {L:List α}{x d:α}(u:j<L.length):(L.set j x).getD k d=if j=k then x else L.getD k d:=by
 rw[List.getD_eq_getElem?_getD,List.getElem?_set,List.getD_eq_getElem?_getD];by_cases h:j=k
 ·subst h;simp[u]
 ·simp[h]
theorem LM.req' {l:LG}(h:LM w B p l)(hj:j<6)(hq:l.q[j]? = some (.slice a (l.R.getD j []).length c))(hg:w.grownBy w' (Value.slice a (l.R.getD j []).length c).ownBlock)(hr:w'.ownsRow B 31 1 (.slice av ((l.R.getD j []).length+1) n) ((l.R.getD j []).length+1) ((l.R.getD j []++[x]).flatMap uC))(aS:(Value.slice av ((l.R.getD j []).length+1) n).ownBlock=(Value.slice a (l.R.getD j []).length c).ownBlock∨(Value.slice av ((l.R.getD j []).length+1) n).ownBlock=some w.heap.size)(ap:blk w0 p 90 ((lgC l).set (21+j) (.slice av ((l.R.getD j []).length+1) n)))(o:Oth p w' w0):LM w0 B p {l with q:=l.q.set j (.slice av ((l.R.getD j []).length+1) n),R:=l.R.set j (l.R.getD j []++[x])}:=by
 obtain⟨a0,c0,al,O⟩:=h.rq j hj;rw[hq]at al;cases al;have C:blk w' p 90 (lgC l):=fJ h.cl O dc hg;have am:∀k,(l.q.set j (.slice av ((l.R.getD j []).length+1) n))[k]? = if j=k then some (.slice av ((l.R.getD j []).length+1) n)else l.q[k]? := by
  intro k;rw[List.getElem?_set];by_cases u:j=k
  ·subst u;simp[h.q6,hj]
  ·simp[u]
 have ag:∀(k:Nat) (v:Value) (b:Nat),l.q[k]? = some v→v.ownBlock=some b→b<w.heap.size:=by
  intro k v b I J;have az:k<6:=by rw[←h.q6];exact(gS I).1
  obtain⟨a2,c2,M,Z⟩:=h.rq k az;rw[I]at M;cases M;exact(World.ownsRow.lt Z b J).2
 have aa:∀(k:Nat) (v:Value) (b:Nat),j≠k→l.q[k]? = some v→v.ownBlock=some b→(Value.slice av ((l.R.getD j []).length+1) n).ownBlock≠some b:=by
  intro k v b u I J U;rcases aS with h1|h1
  ·rw[h1]at U;exact h.ne j k _ _ b u hq I U J
  ·rw[h1]at U;cases U
   have:=ag k v _ I J
   omega
 exact {
  i6:=h.i6
  l6:=h.l6
  v6:=h.v6
  q6:=by show (l.q.set _ _).length=6;rw[List.length_set];exact h.q6
  r6:=by show (l.R.set _ _).length=6;rw[List.length_set];exact h.r6
  A54:=h.A54
  cl:=by rw[←TN h.i6 h.l6 h.v6 (l:={l with R:=l.R.set j (l.R.getD j []++[x])})];exact ap
  lo:=h.lo
  gv:=h.gv
  nd:=eM (wj h.nd O dc hg) C dc o
  gr:=eM (wj h.gr O dc hg) C dc o
  tm:=by
   obtain⟨ta,tc,tb,tr⟩:=h.tm.row;have an:=fJ tb O dc hg;exact⟨⟨ta,tc,o.blk an (fun U=>an.ne C dc U),eM (wj tr O dc hg) C dc o⟩,h.tm.lo⟩
  rq:=fun k I=>by
   show ∃a c,(l.q.set j _)[k]? = some (.slice a ((l.R.set j _).getD k []).length c)∧_;rw[am,GK (by rw[h.r6];exact hj)];by_cases u:j=k
   ·subst u;rw[if_pos rfl,if_pos rfl];have af:(l.R.getD j []++[x]).length=(l.R.getD j []).length+1:=by simp
    rw[af];exact⟨av,n,rfl,eM hr C dc o⟩
   ·rw[if_neg u,if_neg u];obtain⟨a2,c2,M,Z⟩:=h.rq k I;refine⟨a2,c2,M,eM (cD Z fun b J=>hg.block b (World.ownsRow.lt Z b J).2 (fun U=>?_)) C dc o⟩;exact h.ne j k _ _ b u hq M U.symm J
  ne:=fun i k v v' b ar hi I J=>by
   replace hi:(l.q.set j _)[i]? = some v:=hi
   replace I:(l.q.set j _)[k]? = some v':=I
   rw[am]at hi I;by_cases ad:j=i
   ·rw[if_pos ad]at hi;cases hi;by_cases u:j=k
    ·omega
    ·rw[if_neg u]at I;intro U;exact aa k v' b u I U J
   ·rw[if_neg ad]at hi;by_cases u:j=k
    ·rw[if_pos u]at I;cases I;exact aa i v b ad hi J
    ·rw[if_neg u]at I;exact h.ne i k v v' b ar hi I J}
end
section
attribute [local irreducible] bin un conv call aZ blt slc ai fld aL idx lkp cP eP eSt rng nxt ent ext alc box bld bg ld sto aJ cr mkS ifc pick rdy wts aG sti cond aV Gives ah dy dP cOp
section
open Go.RowKit
abbrev Mx (G:List GR):Prop:=∀x∈G, -9223372036854775808≤x.a∧x.a≤9223372036854775807
abbrev Ky :List TypeId:=[90,121]
theorem My {G:List GR}{x:GR}(h:Mx G)(u : -9223372036854775808≤x.a∧x.a≤9223372036854775807):Mx (G.set i x):=fun y C=>by
 rcases List.mem_or_eq_of_mem_set C with j|j
 ·exact h y j
 ·rw[j];exact u
section
variable {w:World}{K:KV}{B p:Nat}{l:LG}
theorem zaK {e:EV}{G:List GR}{x:GR}(J:LM w0 B p l)(hg:GI l m)(hm:m≤900)(kp:Keep Ky B w0 w)(hB:B≤w0.heap.size)(ho:1≤e.o∧e.o≤6)(he:blk w eb 35 (evC e))(an:blk w o 121 (grC x))(hn:n=l.G.length+1)(hG:G.length=n)(a9:Mx G)(bd : -9223372036854775808≤x.a∧x.a≤9223372036854775807)(hk:k<n)(M:blk w p 90 ((lgC l).set 19 (.slice a n c)))(aa:w.ownsRow B 121 5 (.slice a n c) n (G.flatMap grC))(q0:V0=pA p 0)(q3:W0=pA eb 0)(bi:X0=pA o 0)(bk:Y0=ci (k:Nat))(av:∀w' l',LM w' B p l'→GI l' (m+1)→l'.s.V=l.s.V→Below B w0 w'→K (ci 0) w'):dI K ((fj V0 W0 X0 Y0 zf)) w:=by
 subst q0 q3 bi bk hn;refine Cl ?_;have M:=M.drew;have he:=he.drew;have an:=an.drew;have aa:w.drew.ownsRow B 121 5 (.slice a (l.G.length+1) c) (l.G.length+1) (G.flatMap grC):=aa;have kp:=kp.drew;have az:((lgC l).set 19 (.slice a (l.G.length+1) c))[0+0+19]? = some (.slice a (l.G.length+1) c):=by rw[List.getElem?_set_self (by rw[J.ll];omega)]
 refine ac (fun _=>aj) <|ac (fun _=>bf) <|ac (fun _=>eT) <|ac (v:=.slice a (l.G.length+1) c) (fun _=>lK M az) <|ac (v:=.agg (grC x).toArray) (fun _=>ldA (n:=5) (vs:=grC x) underlying121 rfl kr an rfl rfl) ?_;obtain⟨g,bn,rfl,op⟩:=d9 aa oo
 refine ac (v:=pA g (0+((k:Nat):Int).toNat*5)) (fun _=>dQ underlying56 (s:=5) kf oo oo) ?_;refine op.sto iG hG oo kr (uF _) fun w2 o2 ar=>?_;have k2:Keep Ky B w0 w2:=kp.trans (o2.keep op.blk sm op.lo)
 have aS:blk w2 p 90 ((lgC l).set 19 (.slice (some ⟨g,0,none⟩) (l.G.length+1) c)):=o2.blk M (fun hh=>M.ne op.blk dc hh);have O:blk w2 eb 35 (evC e):=o2.blk he (fun hh=>he.ne op.blk dc hh);have U:(G.set k x).length=l.G.length+1:=by rw[List.length_set,hG]
 have ap:LM w2 B p {l with s:={l.s with gv:=.slice (some ⟨g,0,none⟩) (G.set k x).length c},G:=G.set k x,ga:=some ⟨g,0,none⟩,gc:=c} :=
  J.grants' k2 dc dc dc dc (by rw[←Ok J.i6 J.l6 J.v6,U];exact aS) (by rw[U];exact ar)
 have B2:Below B w0 w2:=k2.below hB;generalize C:({l with s:={l.s with gv:=.slice (some ⟨g,0,none⟩) (G.set k x).length c},G:=G.set k x,ga:=some ⟨g,0,none⟩,gc:=c}:LG)=l2 at ap;have r1:l2.T=l.T:=by rw[←C]
 have r2:l2.R=l.R:=by rw[←C]
 have r3:l2.s.V=l.s.V:=by rw[←C]
 have r4:l2.s.nodes=l.s.nodes:=by rw[←C]
 have r5:l2.G=G.set k x:=by rw[←C]
 obtain⟨j,hj⟩:∃j:Nat,j=(e.o-1).toNat:=⟨_,rfl⟩
 have I:j<6:=by omega
 have ad:=ap.drew;obtain⟨qa,qc,hq,a1⟩:=ad.rq j I;have a3:(lgC l2)[0+21+j]? = some (.slice qa (l2.R.getD j []).length qc):=by rw[Nat.zero_add];exact ad.cQ.trans hq
 have bb:=hg.rn j I;rw[←r2]at bb
 refine au (fun z=>blk z p 90 (lgC l2)∧blk z eb 35 (evC e)) ⟨ad.cl,O.drew⟩ <|ab (fun z u _=>bw) <|ab (v:=iv e.o) (fun z u _=>lK u.2 rfl) <|ab (v:=ci ((j:Nat):Int)) (fun z u K h=>ba oo oo (by rw[show (e.o-1)=(j:Nat)by omega];exact h)) <|ab (fun z u _=>bw) <|ab (v:=iv e.o) (fun z u _=>lK u.2 rfl) <|ab (v:=ci ((j:Nat):Int)) (fun z u K h=>ba oo oo (by rw[show (e.o-1)=(j:Nat)by omega];exact h)) <|ab (fun z u _=>aj) <|ab (fun z u _=>tS) <|ab (fun z u _=>ixQ rfl I) <|ab (v:=.slice qa (l2.R.getD j []).length qc) (fun z u _=>lK u.1 a3) <|ab (fun z u _=>gw) <|ab (v:=u6 e.r) (fun z u _=>lK u.2 rfl) <|ab (fun z u _=>aj) <|ab (fun z u _=>tS) ?_
 refine oG (vs:=[u6 e.r]) underlying87 (s:=1) kr kr oo rfl sm sm sm (by simp[Value.cells,u6]) fun w4 h4 b4 s4=>?_;have h4:blk w4 w2.drew.heap.size 31 (uC e.r):=by simpa[Value.cells,u6,uC]using h4
 have af:=ad.fresh b4;have B4:Below B w0 w4:=B2.drew.trans (b4.mono (Nat.le_trans hB B2.size));refine aC ⟨af.cl,ae b4 O.drew O.drew.lt⟩ ?_;have Z:=cD a1 fun b hb=>b4.block b (World.ownsRow.lt a1 b hb).2;obtain⟨ii,a6,u,be,a2⟩:=info_parts GL
 refine uP (base:=B) (enc:=uC) (x:=e.r) underlying87 a6 u be a2 rfl oo (fun _=>rfl) Z h4 (Uz _) oo oo (Nat.le_trans hB B4.size) fun a5 c5 w5 a8 am b5 a0=>?_;have ag:=fJ af.cl Z dc am;have a4:blk w5 eb 35 (evC e):=fJ (ae b4 O.drew O.drew.lt) Z dc am;refine aC ⟨ag,a4⟩ <|ab (fun z u _=>ixQ rfl I) ?_
 refine cB kf ag (by rw[af.ll];omega) rfl fun w6 al o6=>?_;rw[show 0+21+j=21+j by omega]at al;have a7:=af.req' I hq am a8 a0 al o6;refine av w6 _ a7 ?_ r3 (B4.trans (bE b5 o6 J.lo))
 refine⟨by show ∃rk,TK l2.T rk;rw[r1];exact hg.tk,by show ∀x∈l2.T,∃y∈l2.s.nodes,y.id=x.1;rw[r1,r4];exact hg.nt,by show l2.s.nodes.length≤_;rw[r4];exact Nat.le_trans hg.nn oo,?_,by show l2.T.length≤_;rw[r1];exact Nat.le_trans hg.tn oo,fun i hi=>?_,by show ∀k,k<6→0≤l2.s.V.getD k 0∧l2.s.V.getD k 0<1099511627776;rw[r3];exact hg.vb,?_,by show ∀y∈l2.s.nodes,_;rw[r4];exact hg.ib⟩
 ·show l2.G.length≤_;rw[r5,U];have:=hg.gn;omega
 ·show ((l2.R.set j (l2.R.getD j []++[e.r])).getD i []).length≤m+1;rw[GK (by rw[ap.r6];exact I)];split
  ·rw[List.length_append];show (l2.R.getD j []).length+1≤m+1;omega
  ·rw[r2];have:=hg.rn i hi;omega
 ·show Mx l2.G;rw[r5];exact My a9 bd
end
theorem LM.gn {l:LG}(h:LM w B p l):∀k,(Value.slice l.ga l.G.length l.gc).ownBlock=some k→k<w.heap.size:=fun k j=>(World.ownsRow.lt h.gr k j).2
section
variable {w:World}{K:KV}{B p:Nat}{l:LG}
theorem zaJ {e:EV}(hl:LM w B p l)(hg:GI l m)(hm:m≤900)(hB:B≤w.heap.size)(ho:1≤e.o∧e.o≤6)(bn : -9223372036854775808≤e.a∧e.a≤9223372036854775807)(he:blk w eb 35 (evC e))(q0:V0=pA p 0)(q3:W0=pA eb 0)(a5:∀w' l',LM w' B p l'→GI l' (m+1)→l'.s.V=l.s.V→Below B w w'→K (ci 0) w'):bM K ((mV V0 W0 zf)) w:=by
 subst q0 q3;refine Cj <|bw <|lK (v:=iv e.o) he rfl <|gw <|lK (v:=u6 e.r) he rfl <|dR <|lK (v:=u6 e.n) he rfl <|du <|lK (v:=iv e.a) he rfl <|dl (vs:=grC ⟨e.o,e.r,e.n,e.a,0⟩) kr ?_;refine df (z:=.agg (grC ⟨0,0,0,0,0⟩).toArray) kr fun w1 h1 b1 s1=>?_;have h1:=cZ h1
 refine ip (n:=5) (vs:=grC ⟨e.o,e.r,e.n,e.a,0⟩) kr rfl h1 (by show 0+5≤5;omega) (uF _) fun w2 h2 o2=>?_;have h2:blk w2 w.heap.size 121 (grC ⟨e.o,e.r,e.n,e.a,0⟩):=h2;generalize hx:(⟨e.o,e.r,e.n,e.a,0⟩:GR)=x at h2;have b2:x.a=e.a:=by rw[←hx]
 have az:Below w.heap.size w w2:=bE b1 o2 oA;have af:=hl.fresh az;have a6:=ae az he he.lt;have B2:Below B w w2:=az.mono hB;have s2:B≤w2.heap.size:=Nat.le_trans hB B2.size;have b7:=hg.gn
 refine aj <|bf <|eT <|lK (v:=.slice l.ga l.G.length l.gc) af.cl af.cG <|bh underlying56 <|au (fun y=>blk y p 90 (lgC l)∧blk y w.heap.size 121 (grC x)) ⟨af.cl.drew,h2.drew⟩ <|ab (fun y O _=>aj) <|ab (fun y O _=>bf) <|ab (fun y O _=>eT) <|ab (v:=.slice l.ga l.G.length l.gc) (fun y O _=>lK O.1 af.cG) <|ab (v:=.agg (grC x).toArray) (fun y O _=>ldA (n:=5) (vs:=grC x) underlying121 rfl kr O.2 rfl rfl) ?_
 refine oG (vs:=[.agg (grC x).toArray]) underlying56 (s:=5) kr kr oo rfl sm sm sm (by simp[Value.cells,iG]) fun w3 h3 b3 s3=>?_;have h3:=cZ h3
 have ag:=af.drew.fresh b3;have bi:=ae b3 a6.drew a6.drew.lt;have ad:=ae b3 h2.drew h2.drew.lt;have B3:Below B w2 w3:=(Below.refl B w2).drew.trans (b3.mono s2);have k3:Keep Ky B w2 w3:=(Keep.of (B:=B) (Below.refl _ w2).drew).trans (Keep.of b3);refine aC ⟨ag.cl,ad⟩ ?_;obtain⟨ii,bp,hz,b0,be⟩:=info_parts Vv;have b5:B≤w3.heap.size:=Nat.le_trans s2 B3.size
 refine uP (base:=B) (x:=x) underlying56 bp hz b0 be rfl oo iG ag.gr h3 (uF _) oo oo b5 fun a4 Z w4 bs ap b4 bq=>?_;have k4:Keep Ky B w2 w4:=k3.trans (Keep.grown ap ag.gr sm oA);have U:blk w4 p 90 (lgC l):=fJ ag.cl ag.gr dc ap;have a7:blk w4 eb 35 (evC e):=fJ bi ag.gr dc ap
 have av:blk w4 w.heap.size 121 (grC x):=by
  unfold Go.Proofs.YtkfgimlaijifaaaGreatDoor.blk;rw[ap.block _ ad.lt (fun J=>by have:=hl.gn _ J.symm;omega)];exact ad
 have bb:∀k,(Value.slice a4 (l.G.length+1) Z).ownBlock=some k→k≠w.heap.size:=by
  intro k hk;rcases bq with J|J
  ·rw[J]at hk;have:=hl.gn k hk;omega
  ·rw[J]at hk;cases hk;have:=ad.lt;omega
 refine au (fun _=>True) trivial <|ab (fun y O _=>aj) <|ab (fun y O _=>bf) <|ab (fun y O _=>eT) ?_;refine cB kf U (by rw[hl.ll];omega) rfl fun w5 am o5=>?_;have bt:=eM bs U dc o5;have a8:blk w5 w.heap.size 121 (grC x):=o5.blk av (fun J=>av.ne U dc J);have bk:blk w5 eb 35 (evC e):=o5.blk a7 (fun J=>a7.ne U dc J)
 have k5:Keep Ky B w2 w5:=k4.trans (o5.keep U sm hl.lo);have am:blk w5 p 90 ((lgC l).set 19 (.slice a4 (l.G.length+1) Z)):=am;have I:((lgC l).set 19 (.slice a4 (l.G.length+1) Z))[0+0+19]? = some (.slice a4 (l.G.length+1) Z):=by rw[List.getElem?_set_self (by rw[hl.ll];omega)]
 have bd : -9223372036854775808≤x.a∧x.a≤9223372036854775807:=by rw[b2];exact bn
 refine Cf ?_;refine Ci (Inv:=fun aS wr=>∃(k:Nat) (G:List GR),aS=ci (k:Nat)∧k≤l.G.length∧G.length=l.G.length+1∧Mx G∧blk wr p 90 ((lgC l).set 19 (.slice a4 (l.G.length+1) Z))∧blk wr w.heap.size 121 (grC x)∧blk wr eb 35 (evC e) ∧
   wr.ownsRow B 121 5 (.slice a4 (l.G.length+1) Z) (l.G.length+1) (G.flatMap grC)∧Keep Ky B w2 wr)
  (μ:=fun aS _=>(intOf aS).toNat) ⟨l.G.length,l.G++[x],rfl,Nat.le_refl _,by simp,fun y O=>by
   rcases List.mem_append.1 O with J|J
   ·exact hg.gr y J
   ·rw[mS J];exact bd,am,a8,bk,bt,k5⟩ ?_
 rintro _ dd w6 mm ⟨k,G,rfl,hk,hG,an,j,C,aa,ar,k6⟩ a9;have j:=j.drew;have C:=C.drew;have aa:=aa.drew;have ar:w6.drew.ownsRow B 121 5 (.slice a4 (l.G.length+1) Z) (l.G.length+1) (G.flatMap grC):=ar;have k6:=k6.drew
 have a1:∀{V0 W0 a2 al:Value} {zf:Nat→Value},V0=pA p 0→W0=pA eb 0→a2=pA w.heap.size 0→al=ci (k:Nat)→dI K ((fj V0 W0 a2 al zf)) w6.drew:=by
  intro V0 W0 a2 al zf q1 q2 q3 q4;exact zaK af hg hm k6 s2 ho aa C rfl hG an bd oo j ar q1 q2 q3 q4 fun w' l' h1 h2 h3 h4=>a5 w' l' h1 h2 h3 (B2.trans h4)
 refine ac (fun _=>bO) ?_;by_cases M:(0:Int)<(k:Nat)
 ·refine cU M ?_;obtain⟨k,rfl⟩:=Nat.exists_eq_succ_of_ne_zero (show k≠0 by omega);have ek:((k.succ:Nat):Int)-1=(k:Nat):=by omega
  have O:G[k]? = some G[k]:=gE oo;generalize G[k]=y at O;obtain⟨g,a0,rfl,op⟩:=d9 ar oo;have c0:a0[0+((k:Nat):Int).toNat*5+0]? = some (iv y.o):=by rw[Int.toNat_natCast,Nat.zero_add];exact op.cell iG hG O (show 0<5 by omega)
  have c1:a0[0+((k:Nat):Int).toNat*5+1]? = some (u6 y.q):=by rw[Int.toNat_natCast,Nat.zero_add];exact op.cell iG hG O (show 1<5 by omega)
  have b6:g≠w.heap.size:=bb g rfl;have u:Opn w6.drew.drew B 121 5 (l.G.length+1) Z g a0 (G.flatMap grC):=⟨op.blk,op.lo,op.nc,op.cm,op.len,op.take,op.xl⟩
  refine ac (fun _=>aj) <|ac (fun _=>bf) <|ac (fun _=>eT) <|ac (v:=.slice (some ⟨g,0,none⟩) (l.G.length+1) Z) (fun _=>lK j I) <|ac (v:=ci (k:Nat)) (fun K h=>ba oo oo (by rw[ek];exact h)) <|ac (v:=pA g (0+((k:Nat):Int).toNat*5)) (fun _=>dQ underlying56 (s:=5) kf oo oo) <|ac (fun _=>AN) <|ac (v:=iv y.o) (fun _=>lK op.blk c0) <|ac (fun _=>AN) <|ac (v:=iv x.o) (fun _=>lK C rfl) <|ac (fun _=>bO) ?_
  by_cases h1:x.o<y.o
  ·refine iq h1 <|PG <|iq h1 <|cU M <|ac (fun _=>bA h1) <|ac (fun _=>bA M) <|aT <|ac (fun _=>aj) <|ac (fun _=>bf) <|ac (fun _=>eT) <|ac (v:=.slice (some ⟨g,0,none⟩) (l.G.length+1) Z) (fun _=>lK j.drew I) <|ac (fun _=>aj) <|ac (fun _=>bf) <|ac (fun _=>eT) <|ac (v:=.slice (some ⟨g,0,none⟩) (l.G.length+1) Z) (fun _=>lK j.drew I) <|ac (v:=ci (k:Nat)) (fun K h=>ba oo oo (by rw[ek];exact h)) ?_
   refine ac (v:=pA g (0+((k:Nat):Int).toNat*5)) (fun _=>dQ underlying56 (s:=5) kf oo oo) <|ac (v:=.agg (grC y).toArray) (fun _=>ldA (n:=5) (vs:=grC y) underlying121 rfl kr u.blk (by rw[Int.toNat_natCast,Nat.zero_add];exact u.elem iG hG O) rfl) <|ac (v:=pA g (0+((k.succ:Nat):Int).toNat*5)) (fun _=>dQ underlying56 (s:=5) kf oo oo) ?_
   refine u.sto iG hG oo kr (uF _) fun w7 o7 a3=>?_;refine ba oo oo ?_
   exact⟨⟨k,_,congrArg (Value.int .i64) ek,by omega,by rw[List.length_set,hG],My an (an y (mO O)),o7.blk j.drew (fun J=>j.drew.ne u.blk dc J),o7.blk C.drew oo,o7.blk aa.drew (fun J=>aa.drew.ne u.blk dc J),a3,k6.drew.trans (o7.keep u.blk sm u.lo)⟩,by rw[a9];show (((k.succ:Nat):Int)-1).toNat<((k.succ:Nat):Int).toNat;omega⟩
  ·refine dt h1 <|ac (fun _=>aj) <|ac (fun _=>bf) <|ac (fun _=>eT) <|ac (v:=.slice (some ⟨g,0,none⟩) (l.G.length+1) Z) (fun _=>lK j I) <|ac (v:=ci (k:Nat)) (fun K h=>ba oo oo (by rw[ek];exact h)) <|ac (v:=pA g (0+((k:Nat):Int).toNat*5)) (fun _=>dQ underlying56 (s:=5) kf oo oo) <|ac (fun _=>AN) <|ac (v:=iv y.o) (fun _=>lK op.blk c0) <|ac (fun _=>AN) <|ac (v:=iv x.o) (fun _=>lK C rfl) <|ac (fun _=>aO) ?_
   by_cases h2:y.o=x.o
   ·refine cU h2 <|ac (fun _=>aj) <|ac (fun _=>bf) <|ac (fun _=>eT) <|ac (v:=.slice (some ⟨g,0,none⟩) (l.G.length+1) Z) (fun _=>lK j I) <|ac (v:=ci (k:Nat)) (fun K h=>ba oo oo (by rw[ek];exact h)) <|ac (v:=pA g (0+((k:Nat):Int).toNat*5)) (fun _=>dQ underlying56 (s:=5) kf oo oo) <|ac (fun _=>IL) <|ac (v:=u6 y.q) (fun _=>lK op.blk c1) <|ac (fun _=>IL) <|ac (v:=u6 x.q) (fun _=>lK C rfl) <|ac (fun _=>bO) <|dt h1 <|ac (fun _=>bA h2) <|cU M <|ac (fun _=>bj h1) ?_
    refine ac (fun _=>bA M) ?_;by_cases h3:x.q<y.q
    ·refine ax h3 <|ac (fun _=>aj) <|ac (fun _=>bf) <|ac (fun _=>eT) <|ac (v:=.slice (some ⟨g,0,none⟩) (l.G.length+1) Z) (fun _=>lK j.drew I) <|ac (fun _=>aj) <|ac (fun _=>bf) <|ac (fun _=>eT) <|ac (v:=.slice (some ⟨g,0,none⟩) (l.G.length+1) Z) (fun _=>lK j.drew I) <|ac (v:=ci (k:Nat)) (fun K h=>ba oo oo (by rw[ek];exact h)) <|ac (v:=pA g (0+((k:Nat):Int).toNat*5)) (fun _=>dQ underlying56 (s:=5) kf oo oo) <|ac (v:=.agg (grC y).toArray) (fun _=>ldA (n:=5) (vs:=grC y) underlying121 rfl kr u.blk (by rw[Int.toNat_natCast,Nat.zero_add];exact u.elem iG hG O) rfl) <|ac (v:=pA g (0+((k.succ:Nat):Int).toNat*5)) (fun _=>dQ underlying56 (s:=5) kf oo oo) ?_
     refine u.sto iG hG oo kr (uF _) fun w7 o7 a3=>?_;refine ba oo oo ?_
     exact⟨⟨k,_,congrArg (Value.int .i64) ek,by omega,by rw[List.length_set,hG],My an (an y (mO O)),o7.blk j.drew (fun J=>j.drew.ne u.blk dc J),o7.blk C.drew oo,o7.blk aa.drew (fun J=>aa.drew.ne u.blk dc J),a3,k6.drew.trans (o7.keep u.blk sm u.lo)⟩,by rw[a9];show (((k.succ:Nat):Int)-1).toNat<((k.succ:Nat):Int).toNat;omega⟩
    ·refine ao h3 ?_;exact a1 rfl rfl rfl rfl
   ·refine eB h2 <|dt h1 <|ac (fun _=>bj h2) <|cU M <|ac (fun _=>bj h1) <|ac (fun _=>bA M) <|aF ?_;exact a1 rfl rfl rfl rfl
 ·have:k=0:=by omega
  subst this;refine eB M <|PG <|PG <|PG <|eB M <|ac (fun _=>bj M) <|aF ?_;exact a1 rfl rfl rfl rfl
end
section
variable {w:World}{K:KV}{B p:Nat}{l:LG}
theorem za2 {e:EV}(hl:LM w B p l)(J:GI l m)(hm:m≤900)(hB:B≤w.heap.size)(ho:1≤e.o∧e.o≤6)(U : -9223372036854775808≤e.a∧e.a≤9223372036854775807)(C:∀w' (v:Int),v≠0→Below B w w'→K (ci v) w')(O:∀w' l',LM w' B p l'→GI l' (m+1)→l'.s.V=l.s.V→Below B w w'→K (ci 0) w'):call Q 90 #[pA p 0,.agg (evC e).toArray] K w:=by
 refine ak (goK func90) (DV ?_);refine br fun w1 I b1 s1=>?_;have I:=cZ I
 have h:=hl.fresh b1;have B1:Below B w w1:=b1.mono hB;have ap:B≤w1.heap.size:=Nat.le_trans hB B1.size;have am:=J.rn;have ar:=J.tn;refine bw <|lK (v:=iv e.o) I rfl <|gw <|lK (v:=u6 e.r) I rfl ?_;refine TI h ho (fun k hk=>Nat.le_trans (am k hk) oo) fun b=>?_;cases b with
 | true=>exact aT (C w1 14 dc B1)
 | false =>
  refine aF ?_;obtain⟨rk,an⟩:=J.tk;refine au (fun y=>blk y p 90 (lgC l)∧blk y w.heap.size 35 (evC e)) ⟨h.cl.drew,I.drew⟩ <|ab (fun y u _=>aj) <|ab (fun y u _=>AP) <|ab (v:=pA l.t 0) (fun y u _=>lK u.1 h.cT) <|ab (fun y u _=>dR) <|ab (v:=u6 e.n) (fun y u _=>lK u.2 rfl) ?_;refine Mz an h.drew.tm oo fun w2 a c hP b2=>?_;have af:=h.drew.fresh b2
  have aa:=ae b2 I.drew I.drew.lt;have B2:Below B w w2:=B1.drew.trans (b2.mono ap);refine au (fun _=>True) trivial <|bh underlying87 <|aO ?_;have al:(cC l.T e.n).length≤100000:=by
   have:=GT (T:=l.T) (l.T.length+1) e.n
   unfold cC;omega
  by_cases h0:((cC l.T e.n).length:Int)=0
  ·exact ax h0 (C w2 9 dc B2)
  refine ao h0 <|zaI (P:=cC l.T e.n) af J hm (Nat.le_trans hB B2.size) U aa hP al (fun y u=>VM J u) rfl rfl rfl rfl (fun w' v hv b=>C w' v hv (B2.trans b)) ?_;intro l0 e3 zf w3 l3 q0 q3 ag Z ad B3;have M:=B2.trans B3;exact zaJ ag (Z.gi J) hm (Nat.le_trans hB M.size) ho U ad q0 q3 fun w' l' h1 h2 h3 h4=>O w' l' h1 h2 (h3.trans Z.V) (M.trans h4)
end
theorem XC {i:Int}(h:A.length=54):((mc A i x).1).length=54:=by
 unfold mc;split
 ·rfl
 split
 ·rfl
 ·simp[h]
section
variable {w:World}{K:KV}{B p:Nat}{l:LG}
theorem Zx {x:ND}{f:Int}(C:LM w B p l)(hx:l.s.nodes[i]? = some x)(u:M0.length=54)(U:blk w b 77 (M0.map iv))(hj:j≤1000000)(q0:V0=pA p 0)(q6:Z0=ci (j:Nat))(q7:H1=ci (i:Nat))(q8:I1=pA b 0)(q9:J1=ci f)(I:∀w' (v:Int),v≠0→Below B w w'→K (ci v) w')(J:∀(e:List Value) (w':World),gd e 7=ci ((j+1:Nat):Int)→LM w' B p (JF l i {x with A:=M0})→Keep CG B w w'→B1 e w'):eZ K B1 ((jZ V0 W0 X0 Y0 Z0 H1 I1 J1 zf)) w:=by
 subst q0 q6 q7 q8 q9;refine BR <|aX ?_;by_cases M:f≠0
 ·exact ax M (I w f M (Below.refl _ _))
 refine ao M ?_;have C:=C.drew;have U:=U.drew;have hi:i<l.s.nodes.length:=(gS hx).1;obtain⟨g,aa,ha,Z⟩:=d9 C.nd oo
 refine ac (fun _=>aj) <|ac (fun _=>bf) <|ac (fun _=>dS) <|ac (v:=.slice l.s.na l.s.nodes.length l.s.nc) (fun _=>lK C.cl C.cN) <|ac (v:=.agg (M0.map iv).toArray) (fun _=>ldA (n:=54) (vs:=M0.map iv) underlying77 rfl kr U (by rw[List.drop_zero,tL (by simp[u])]) (by simp[u])) <|ac (v:=pA g (i*56)) (fun _=>qV ha underlying55 kf hi) <|ac (fun _=>se) ?_
 refine Xa C hx u Z ha rfl fun w' O o'=>?_;refine BU <|aM oo oo ?_;exact J _ _ (ivS) O ((Keep.of (B:=B) (Below.refl _ w).drew).trans (o'.keep Z.blk sm Z.lo))
theorem Zy {e:EV}{P:List Int}(hl:LM w B p l)(hg:GI l m)(hm:m≤900)(hB:B≤w.heap.size){gx:GR}(a7:l.G[c2]? = some gx)(ha : -9223372036854775808≤gx.a∧gx.a≤9223372036854775807)(he:blk w eb 35 (evC e))(hP:w.ownsRow o 31 1 (.slice a P.length c) P.length (P.map u6))(bn:P.length≤100000)(a2:∀y∈P,∃z∈l.s.nodes,z.id=y)(q0:V0=pA p 0)(q3:W0=pA eb 0)(qk:X0=ci (c2:Nat))(q5:Y0=.slice a P.length c)(q6:Z0=ci 0)(aS:∀w' (v:Int),v≠0→Below B w w'→K (ci v) w')(a1:∀{V0 W0 X0:Value} {zf:Nat→Value} {w':World} {l':LG},V0=pA p 0→W0=pA eb 0→X0=ci (c2:Nat)→LM w' B p l'→SL l l'→blk w' eb 35 (evC e)→Below B w w'→bL K ((mP V0 W0 X0 zf)) w'):ka K ((iI V0 W0 X0 Y0 Z0 zf)) w:=by
 subst q0 q3 qk q5 q6;refine BS (Inv:=fun i wr=>∃(k:Nat) (l':LG),i=ci (k:Nat)∧k≤P.length∧LM wr B p l'∧SL l l'∧blk wr eb 35 (evC e)∧wr.ownsRow o 31 1 (.slice a P.length c) P.length (P.map u6)∧Below B w wr) (μ:=fun i _=>P.length-(intOf i).toNat) ⟨0,l,rfl,by omega,hl,SL.refl l,he,hP,Below.refl _ _⟩ ?_;rintro _ dd w1 mm ⟨k,l',rfl,hk,U,M,ar,ad,B1⟩ be;refine bh underlying87 <|aK ?_
 by_cases a9:k<P.length
 ·refine ax oo ?_;have hy:P[k]? = some P[k]:=gE a9;generalize P[k]=y at hy;obtain⟨g,a0,rfl,op⟩:=d9 ad oo;refine dQ underlying87 (s:=1) kf oo oo ?_;refine lK (v:=u6 y) op.blk (by
   have h0:(P.map u6)=P.flatMap uC:=(ME P).symm;have bk:Opn w1 o 31 1 P.length c g a0 (P.flatMap uC):=h0 ▸ op
   have:=bk.cell (enc:=uC) (s:=1) (j:=0) (fun _=>rfl) rfl hy oo
   rw[Int.toNat_natCast,Nat.zero_add];exact this) ?_
  have bp:=hg.nn;refine Ms U (by rw[M.len];omega) ?_;obtain⟨x,hx,am⟩:=VQ (M.ex (a2 y (mO hy)));have a6:fdN l'.s.nodes y=(posN l'.s.nodes y:Nat):=by unfold fdN;rw[if_pos am]
  rw[a6];generalize posN l'.s.nodes y=i at hx am;have C:=U.drew;have J:=ar.drew;have O:x.A.length=54:=U.A54 x (mO hx);obtain⟨gn,cn,a4,aa⟩:=d9 C.nd oo;have af:l'.G[c2]? = some gx:=by rw[M.G];exact a7
  have a8:c2<l'.G.length:=(gS af).1;obtain⟨gg,cg,a3,Z⟩:=d9 C.gr oo;have a5:cg[c2*5+3]? = some (iv gx.a):=Z.cell iG rfl af (show 3<5 by omega);have ap:(cn.drop (i*56+2)).take 54=x.A.map iv:=by
   have:=aa.elem fR rfl hx
   rw[show i*56+2=i*56+2 from rfl, ←List.drop_drop];have h3:((cn.drop (i*56)).take 56).drop 2=((cn.drop (i*56)).drop 2).take 54:=by rw[List.drop_take]
   rw[←h3,this];unfold ndE;rw[Ic O];rfl
  refine au (fun z=>blk z p 90 (lgC l')∧blk z gn 79 cn∧blk z eb 35 (evC e)∧blk z gg 121 cg) ⟨C.cl,aa.blk,J,Z.blk⟩ <|ab (fun z u _=>aj) <|ab (fun z u _=>bf) <|ab (fun z u _=>dS) <|ab (v:=.slice l'.s.na l'.s.nodes.length l'.s.nc) (fun z u _=>lK u.1 C.cN) <|ab (v:=pA gn (i*56)) (fun z u _=>qV a4 underlying55 kf am) <|ab (fun z u _=>se) <|ab (v:=.agg (x.A.map iv).toArray) (fun z u _=>ldA (n:=54) (vs:=x.A.map iv) underlying77 rfl kr u.2.1 ap (by simp[O])) <|ab (fun z u _=>bw) <|ab (v:=iv e.o) (fun z u _=>lK u.2.2.1 rfl) <|ab (fun z u _=>aj) <|ab (fun z u _=>bf) <|ab (fun z u _=>eT) <|ab (v:=.slice l'.ga l'.G.length l'.gc) (fun z u _=>lK u.1 C.cG) <|ab (v:=pA gg (c2*5)) (fun z u _=>qV a3 underlying56 kf a8) <|ab (fun z u _=>Tj) ?_
  refine ab (v:=iv gx.a) (fun z u _=>lK u.2.2.2 a5) ?_;have s1:B≤w1.drew.heap.size:=Nat.le_trans hB B1.size;have al:((mc x.A e.o gx.a).1).length=54:=XC O;have an:w1.drew.ownsRow o 31 1 (.slice (some ⟨g,0,none⟩) P.length c) P.length (P.map u6):=cD ad fun _ _=>rfl
  have az:∀{V0 W0 X0 Y0 Z0 n8 r9 ag:Value} {zf:Nat→Value} {w3:World} {rb:Nat},V0=pA p 0→Z0=ci (k:Nat)→n8=ci (i:Nat)→r9=pA rb 0→ag=ci (mc x.A e.o gx.a).2→blk w3 rb 77 ((mc x.A e.o gx.a).1.map iv)→Below w1.drew.heap.size w1.drew w3 →
    eZ K (fun e2 w2=>(∃(k:Nat) (l':LG),gd e2 7=ci (k:Nat)∧k≤P.length∧LM w2 B p l'∧SL l l'∧blk w2 eb 35 (evC e)∧w2.ownsRow o 31 1 (.slice (some ⟨g,0,none⟩) P.length c) P.length (P.map u6)∧Below B w w2)∧P.length-(intOf (gd e2 7)).toNat<mm) ((jZ V0 W0 X0 Y0 Z0 n8 r9 ag zf)) w3:=by
   intro V0 W0 X0 Y0 Z0 n8 r9 ag zf w3 rb q0 q6 q7 q8 q9 bi I;have B3:Below B w w3:=B1.drew.trans (I.mono s1);have bb:=C.fresh I;refine Zx bb hx al bi oo q0 q6 q7 q8 q9 (fun w' v hv b=>aS w' v hv (B3.trans b)) fun e2 w' av bd k4=>?_;have s3:B≤w3.heap.size:=Nat.le_trans s1 I.size
   refine⟨⟨k+1,_,av,by omega,bd,M.set hx rfl,k4.blk (ae I J J.lt) (.inr dc),gh (cD an fun q hq=>I.block q (World.ownsRow.lt an q hq).2) k4 dc,B3.trans (k4.below s3)⟩,?_⟩;rw[av,be];show P.length-(((k+1:Nat):Int)).toNat<P.length-(k:Int).toNat;omega
  refine⟨?_,?_⟩
  ·refine Ug O ha fun w3 I=>?_;refine au (fun _=>True) trivial <|ab (fun z u _=>bu) <|ab (fun z u _=>bv) ?_;refine df (z:=.agg (z54.map iv).toArray) kr fun w4 h4 b4 s4=>?_;have h4:=cZ h4
   refine aC trivial ?_;refine ip (n:=54) (vs:=(mc x.A e.o gx.a).1.map iv) kr (by simp[al]) h4 (by show 0+54≤54;omega) (zX _) fun w5 h5 o5=>?_;refine aC trivial ?_;refine az rfl rfl rfl rfl rfl (by
    rw[List.take_zero,List.nil_append,List.drop_of_length_le (by show 54≤0+54;omega),List.append_nil]at h5;exact h5) (I.trans (bE (b4.mono I.size) o5 I.size))
  ·refine df (z:=.agg (z54.map iv).toArray) kr fun w3 h3 I s3=>?_;have h3:=cZ h3
   refine aC ⟨ae I C.cl C.cl.lt,ae I aa.blk aa.blk.lt,ae I J J.lt,ae I Z.blk Z.blk.lt⟩ ?_;refine Ug O ha fun w4 b4=>?_;have h4:=ae b4 h3 h3.lt;refine au (fun _=>True) trivial <|ab (fun z u _=>bu) <|ab (fun z u _=>bv) ?_;refine ip (n:=54) (vs:=(mc x.A e.o gx.a).1.map iv) kr (by simp[al]) h4 (by show 0+54≤54;omega) (zX _) fun w5 h5 o5=>?_;refine aC trivial ?_
   refine az rfl rfl rfl rfl rfl (by
    rw[List.take_zero,List.nil_append,List.drop_of_length_le (by show 54≤0+54;omega),List.append_nil]at h5;exact h5) (bE (I.trans (b4.mono I.size)) o5 oA)
 ·refine ao oo ?_;exact a1 rfl rfl rfl U M ar B1
end
end
end
end Go.Proofs.YtkfgimlaijifaaaGreatDoor
