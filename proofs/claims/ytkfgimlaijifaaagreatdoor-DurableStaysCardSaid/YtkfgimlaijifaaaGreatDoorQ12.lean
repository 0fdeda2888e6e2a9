import Derived.Test.YtkfgimlaijifaaaGreatDoorQ11
import Derived.Test.YtkfgimlaijifaaaGreatDoorQ2
import Derived.Test.YtkfgimlaijifaaaGreatDoorQ3
import Derived.Test.YtkfgimlaijifaaaGreatDoorQ8
namespace Go.Proofs.YtkfgimlaijifaaaGreatDoor
set_option maxRecDepth 100000
set_option maxHeartbeats 4000000
open Go.Proofs.Tryz
variable {w w' w0:World}{K:KV}{zf:Nat→Value}{b c n o k B i p g m j s z c2 f d B2 B' hi:Nat}{a av a2:Option Addr}{x r v:Int}{A:List Int}{E t e:TypeId}{cs xs ys vs:List Value}{B1:KE}{P:Program}{T L:List (Int×Int)}{C:Nat→Int}{cx cy:Bool}{F:List Nat}{V0 W0 X0 Y0 Z0 H1 I1 J1:Value}
section
attribute [local irreducible] bin un conv call aZ blt slc ai fld aL idx lkp cP eP eSt rng nxt ent ext alc box bld bg ld sto aJ cr mkS ifc pick rdy wts aG sti cond aV Gives ah dy dP cOp
section
open Go.RowKit
section
def Wh (b:List UInt8)(q:Nat):Option (List UInt8)→Prop
 | none=>q=b.length
 | some s=>s.length≤4096∧∃r,b.drop q=zt s++r
theorem zeO {L:List (List UInt8)}(ok:okR L)(k:Nat):Wh (cf L) (cf (L.take k)).length L[k]? := by
 by_cases h:k<L.length
 ·rw[gE h];refine⟨ok _ (List.getElem_mem _),cf (L.drop (k+1)),?_⟩;have e:cf L=cf (L.take k)++cf (L.drop k):=by rw[←Hb,List.take_append_drop]
  rw[e,List.drop_left,List.drop_eq_getElem_cons h];rfl
 ·rw[List.getElem?_eq_none oo,tL oo];exact rfl
theorem XE {b s r:List UInt8}{q:Nat}(h:b.drop q=zt s++r)(I:s.length≤4096):q+8+s.length≤b.length∧nU ((b.drop q).take 4)=s.length∧nU ((b.drop (q+4)).take 4)=(CI 0 (bl s.length 4++s)).toNat∧(b.drop (q+8)).take s.length=s:=by
 have C:=congrArg List.length h;rw[List.length_drop,List.length_append,IV]at C;have e:b.drop q=bl s.length 4++(Ru (bl s.length 4++s)++(s++r)):=by rw[h];simp[zt]
 have j:b.drop (q+4)=Ru (bl s.length 4++s)++(s++r):=by rw[←List.drop_drop,e,List.drop_left' (bm _ _)]
 have u:b.drop (q+8)=s++r:=by rw[show q+8=q+4+4 from rfl, ←List.drop_drop,j];exact List.drop_left' (bm _ _)
 refine⟨by omega,?_,?_,by rw[u,List.take_left]⟩
 ·rw[e,List.take_left' (bm _ _),IB,Nat.mod_eq_of_lt oo]
 ·have:=(CI 0 (bl s.length 4++s)).isLt
  rw[j,Ru,List.take_left' (bm _ _),IB,Nat.mod_eq_of_lt oo]
theorem zdu {v:Option Addr×Nat×Nat}{x:Value}(j:blk w p E [slv v,x])(h:K (.slice v.1 v.2.1 v.2.2) w):ld Q 92 (pA p (0+0)) K w:=lK j rfl h
theorem ZR {v:Option Addr×Nat×Nat}{x:Value}(j:blk w p E [slv v,x])(h:K x w):ld Q 3 (pA p (0+1)) K w:=lK j rfl h
theorem zcx {q:Nat}{l:List UInt8}(O:RB w av n c l)(Z:q≤n)(h:∀M,RB w M (n-q) (c-q) (l.drop q)→(∀J,M=some J→∃C,av=some C∧J.block=C.block)→K (.slice M (n-q) (c-q)) w):slc Q 92 (.slice av n c) (some (ci (q:Nat))) none none K w:=by
 have I:=RV.cap O;have U:(Instr.sliceBounds true n c (some (ci (q:Nat))) none none).run Q w=.ok (q,n,c) w:=by
  have:=run_sliceBound (P:=Q) w .i64 (q:Int) n .sliceB oo oo
  simp[Instr.sliceBounds]at this ⊢;rw[this];simp
 have u:=O.cut q n c Z I oA oA;rw[tL (by rw[O.len];exact Nat.le_refl _)]at u;unfold slc;refine ey (w':=w) ?_ (h (if c=q then av else av.map (·.add (q*1))) u ?_)
 ·simp only[Instr.sliceAt,Instr.slice,Sem.run_bind,Sem.run_pure,Result.andThen_ok,run_underlying underlying92,Ij,U]
 ·intro J j;split at j
  ·exact⟨J,j,rfl⟩
  ·cases av with
   | none=>cases j
   | some a0 =>
    simp only[Option.map_some,Option.some.injEq]at j;subst j;refine⟨a0,rfl,?_⟩;unfold Addr.add;split<;>rfl
theorem RB.upTo {l:List UInt8}(h:RB w a n c l)(O:m≤n):RB w a m c (l.take m):=by
 have C:=RV.cap h;have M:=h.len;refine⟨by simp;omega,by omega,fun J=>RV.some_ h oo,fun I=>?_,fun i u j=>?_⟩
 ·have:=RV.nil_ h I
  omega
 ·refine RV.cell h i u ?_;rw[List.map_take,List.getElem?_take]at j;split at j
  ·exact j
  ·cases j
theorem Yi {q:Nat}{v:Option Addr×Nat×Nat}{b:List UInt8}{x:Option (List UInt8)}(hb:blk w p E [slv v,ci (q:Nat)])(M:RB w v.1 v.2.1 v.2.2 b)(hn:v.2.1≤4294967296)(hx:Wh b q x)(al:0<v.2.1→∀ad,v.1=some ad→ad.block≠p)(h0:x=none→∀w',Below w.heap.size w w'→blk w' p E [slv v,ci (q:Nat)]→K (.tuple #[.slice none 0 0,.bool false]) w')(h1:∀s,x=some s→∀a n c w',OB w' w.heap.size a n c s→blk w' p E [slv v,ci ((q+8+s.length:Nat):Int)]→Keep [E] p w w'→K (.tuple #[.slice a n c,.bool true]) w'):call Q 153 #[ptr p] K w:=by
 have hl:=M.len;refine ak (goK func153) (HO ?_);refine aj <|ldA (n:=2) underlying261 rfl kr hb rfl rfl <|df (z:=.agg #[.slice none 0 0,ci 0]) kr ?_;intro w1 ar b1 s1;refine ip (n:=2) kr rfl ar (by show 0+2≤2;omega) (by simp only[List.take,List.drop,List.mem_cons,List.not_mem_nil,or_false];rintro u (rfl|rfl)<;>rfl) ?_;intro w2 j am
 have j:blk w2 w.heap.size 261 [slv v,ci (q:Nat)]:=j;have B2:Below w.heap.size w w2:=b1.trans am.below;have S2:=B2.size;have Z:=hb.lt;cases x with
 | none =>
  have hq:q=b.length:=hx;refine GU j (M.below B2 oA) hn ?_ (fun hh=>by omega);intro _ w3 b3 I;have B3:Below w.heap.size w w3:=B2.trans (b3.mono S2)
  (repeat (first|refine bu ?_|refine bv ?_))
  refine GU I (M.below B3 oA) hn ?_ (fun hh=>by omega);intro _ w4 b4 h
  (repeat (first|refine bu ?_|refine bv ?_))
  refine bK ?_
  (repeat (first|refine cz ?_|refine aT ?_|refine eA ?_))
  have B4:=B3.trans (b4.mono B3.size);exact h0 rfl _ B4 (ae B4 hb Z)
 | some s =>
 obtain⟨ap,r,hF⟩:=hx;obtain⟨f1,f2,f3,f4⟩:=XE hF ap;refine GU j (M.below B2 oA) hn (fun hh=>by omega) ?_;intro az w3 I k3;rw[f2];have B3:Below w.heap.size w w3:=B2.trans (k3.below (by have:=j.lt;omega))
 (repeat (first|refine bu ?_|refine bv ?_))
 refine GU I (M.below B3 oA) hn (fun hh=>by omega) ?_;intro aS w4 h k4;rw[f3];have B4:Below w.heap.size w w4:=B3.trans (k4.below (by have:=I.lt;omega));have hM:=(CI 0 (bl s.length 4++s)).isLt
 (repeat (first|refine bu ?_|refine bv ?_))
 refine bK ?_
 (repeat (first|refine iZ ?_))
 refine bK ?_
 (repeat (first|refine bO ?_|refine dh ?_|refine iZ ?_|refine dt oo ?_))
 have U:∀{w':World} {K':KV},K' (ci (s.length:Int)) w'→conv Q 302 3 (.int .u32 (s.length:Int)) K' w':=by
  intro w' K' hK;refine bX underlying302 underlying3 ?_;rw[eU oo oo];exact hK
 refine U <|IR <|zdu h ?_
 (repeat (first|refine we ?_))
 refine tT <|ZR h ?_
 (repeat (first|refine bO ?_|refine ba oo oo ?_|refine ao oo ?_|refine bj oo ?_))
 have an:=M.below B4 oA;refine IR <|zdu h <|tT <|ZR h ?_;rw[show ((q+4+4:Nat):Int)=((q+8:Nat):Int)by omega]at *;refine zcx an oo ?_;intro a5 r5 O;have r6:=r5.upTo (m:=s.length) oo;rw[f4]at r6;refine zbf (s:=1) (m:=s.length) underlying92 Ij (by have:=RV.cap M;omega) ?_
 (repeat (first|refine Gf ?_))
 refine L7 oo ?_;intro a7 n7 c7 w7 o7 b7;have B7:Below w.heap.size w w7:=B4.trans (b7.mono B4.size);have h7:=o7.len;rw[bm]at h7;refine zbh o7.rb oo ?_;have r7:=r6.below b7 oA;refine TU r7 oo ?_;rw[T6];refine aX ?_;have av:=ae b7 h h.lt;refine ao oo <|tT <|ZR av <|U ?_
 (repeat (first|refine aM oo oo ?_))
 refine aj <|tT ?_;have aa:=ae B7 hb Z;refine cB OP aa sm rfl ?_;intro w8 C J;have C:blk w8 p E [slv v,ci (((q+8:Nat):Int)+(s.length:Int))]:=C;have r8:RB w8 a5 s.length (v.2.2-(q+8)) s:=r7.oth J (fun _ ad ag=>by
  obtain⟨af,h2,e⟩:=O ad ag;rw[e];exact al oo af h2)
 refine El r8 oo ?_;intro a9 c9 w9 o9 b9;have K9:Keep [E] p w w9:=((Keep.of B7).trans (J.keep aa sm oA)).trans (Keep.of b9);refine h1 s rfl a9 s.length c9 w9 (OV.mono o9 ?_) ?_ K9
 ·have e1:=B7.size;have e2:=J.size;omega
 ·have:=ae b9 C C.lt
  rw[show ((q+8+s.length:Nat):Int)=((q+8:Nat):Int)+(s.length:Int)by omega];exact this
/-! ## A reader, and all records -/
def FR (w:World)(B p:Nat)(b:List UInt8)(q:Nat):Prop:=∃v:Option Addr×Nat×Nat,blk w p 263 [slv v,ci (q:Nat)]∧OB w B v.1 v.2.1 v.2.2 b∧B≤p∧(∀ad,v.1=some ad→ad.block<p)∧q≤b.length∧b.length≤4294967296
theorem zde {b:List UInt8}(M:RB w a n c b)(hn:n≤4294967296)(h:∀p w',FR w' w.heap.size p b 0→Below w.heap.size w w'→K (ptr p) w'):call Q 97 #[.slice a n c] K w:=by
 have Z:=M.len;refine ak (goK func97) (Tr ?_);refine El M oo ?_;intro j u w1 O b1;refine dl (vs:=[slv (j,n,u),ci 0]) kr <|dl (vs:=[slv (j,n,u),ci 0]) kr <|br ?_;intro w2 C J s2;refine h _ w2 ⟨(j,n,u),C,OB.below O J oA,b1.size,fun I U=>?_,by omega,by omega⟩ (b1.trans (J.mono b1.size))
 have:=(OV.block O I.block (by rw[show j=some I from U];rfl)).2
 exact this
theorem zbI {q:Nat}{b:List UInt8}{x:Option (List UInt8)}(hf:FR w B p b q)(O:Wh b q x)(h0:x=none→∀w',Below w.heap.size w w'→FR w' B p b q→K (.tuple #[.slice none 0 0,.bool false]) w')(h1:∀s,x=some s→∀a n c w',OB w' w.heap.size a n c s→FR w' B p b (q+8+s.length)→Keep [263] p w w'→K (.tuple #[.slice a n c,.bool true]) w'):call Q 98 #[ptr p] K w:=by
 obtain⟨v,hb,I,M,u,hq,C⟩:=hf;have aa:=I.len;refine ak (goK func98) (IW ?_);refine gy (v:=.bool false) (by unfold eqG eqGuard;rfl) kr ?_
 (repeat (first|refine aF ?_))
 refine aj <|Ns ?_;refine Yi (v:=v) hb I.rb oo O (fun _ Z ha=>by have:=u Z ha;omega) ?_ ?_
 ·intro h J b1 j
  (repeat (first|refine bu ?_|refine bv ?_))
  exact h0 h J b1 ⟨v,j,OB.below I b1 oA,M,u,hq,C⟩
 ·intro s h a n c J o1 j U
  (repeat (first|refine bu ?_|refine bv ?_))
  refine h1 s h a n c J o1 ⟨v,j,I.keep U dc,M,u,?_,C⟩ U;subst h;obtain⟨hs,r,hF⟩:=O;exact(XE hF hs).1
theorem zeu {q:Nat}{b:List UInt8}(C:FR w B p b q)(h:K (ci (q:Nat)) w):call Q 99 #[ptr p] K w:=by
 obtain⟨v,j,M,J,I,O,u⟩:=C;refine ak (goK func99) (Lb ?_);refine gy (v:=.bool false) (by unfold eqG eqGuard;rfl) kr ?_
 (repeat (first|refine aF ?_))
 refine aj <|Ns <|tT <|lK j rfl ?_;exact h
end
section
theorem OBB.keep {T:List TypeId}{vs:List (Option Addr×Nat×Nat)}{L:List (List UInt8)}(h:OBB w B2 a n c vs L)(C:Keep T B w w')(I:5∉T)(J:92∉T):OBB w' B2 a n c vs L:=by
 refine⟨⟨h.row.1,?_⟩,h.len,fun i v l u Z=>(h.each i v l u Z).keep C I⟩;rcases h.row.2 with M|⟨g,cap,j,u,O,U,r⟩
 ·exact .inl M
 ·exact .inr ⟨g,cap,j,u,O,C.block _ _ U (.inr fun cs E' z e=>by cases e;exact J),r⟩
theorem FR.keep {T:List TypeId}{q:Nat}{b:List UInt8}(h:FR w B2 p b q)(j:Keep T B w w')(u:5∉T)(C:263∉T):FR w' B2 p b q:=by
 obtain⟨v,I,J,r⟩:=h;exact⟨v,j.blk I (.inr C),J.keep j u,r⟩
theorem FR.below {q:Nat}{b:List UInt8}(h:FR w B p b q)(j:Below w.heap.size w w'):FR w' B p b q:=h.keep (Keep.of j:Keep [] 0 w w') sm sm
theorem zdd {L:List (List UInt8)}(hr:RB w a n c (cf L))(hn:n≤4294967296)(ok:okR L)(h:∀C U M vs w',OBB w' w.heap.size C U M vs L→Below w.heap.size w w'→K (.tuple #[.slice C U M,ci ((cf L).length:Nat)]) w'):call Q 56 #[.slice a n c] K w:=by
 have hl:=hr.len;have ad:=Bi L;refine ak (goK func56) (Tq ?_);refine zde hr hn ?_;intro p w1 f1 b1
 refine QK (Inv:=fun x wr=>∃(C:Option Addr) (k M:Nat) (vs:List (Option Addr×Nat×Nat)),x=.slice C k M∧OBB wr w.heap.size C k M vs (L.take k)∧FR wr w.heap.size p (cf L) (cf (L.take k)).length∧Below w.heap.size w wr∧k≤L.length) (μ:=fun x _=>match x with | .slice _ U _=>L.length-U|_=>0) ⟨none,0,0,[],rfl,OBB.nil _ _,f1,b1,by omega⟩ ?_;rintro _ _ w2 m ⟨a2,k,c2,vs,rfl,hL,hf,I,hk⟩ hm
 refine zbI hf (zeO ok k) ?_ ?_
 ·intro j w3 b3 O;have u:=List.getElem?_eq_none_iff.1 j;rw[tL u]at hL O
  (repeat (first|refine bu ?_|refine bv ?_))
  refine bK ?_
  (repeat (first|refine aT ?_))
  refine zeu O ?_
  skip
  exact h _ _ _ _ _ (hL.below b3 oA) (I.trans (b3.mono I.size))
 ·intro s j Z n3 c3 w3 o3 O k3;have u:=(gS j).1;have aa:w.heap.size≤p:=by obtain⟨v,_,_,hB,_⟩:=hf;exact hB
  have L3:=hL.keep k3 dc dc;have B3:Below w.heap.size w w3:=I.trans ((k3.mono (T':=[263]) sm aa).below I.size)
  (repeat (first|refine bu ?_|refine bv ?_))
  refine bK ?_
  (repeat (first|refine aF ?_))
  refine zaO (v:=(Z,n3,c3)) ?_;intro w4 J r4 s4;have o4:OB w4 w.heap.size Z n3 c3 s:=OB.below (OV.mono o3 I.size) J oA;refine Yj (v:=(Z,n3,c3)) w.heap.size (L3.below J oA) r4 o4 oo (by have:=B3.size;omega) ?_;intro a5 c5 w5 L5 g5;have k5:Keep [92] w.heap.size w4 w5:=Keep.grown g5 (L3.below J oA).row sm oA
  have e1:L.take (k+1)=L.take k++[s]:=by rw[List.take_add_one,j];rfl
  have e2:(cf (L.take (k+1))).length=(cf (L.take k)).length+8+s.length:=by rw[Lc L k s j,List.length_append,IV];omega
  refine⟨⟨a5,k+1,c5,_,rfl,by rw[e1];exact L5,by rw[e2];exact(O.below J).keep k5 dc dc,(B3.trans (J.mono B3.size)).trans (k5.below (by have:=B3.size;omega)),u⟩,?_⟩;rw[hm];show L.length-(k+1)<L.length-k;omega
end
end
end
section
open Go.RowKit
theorem UK (h:bld Q 97 #[] (fun j=>box Q 97 j K) w):Gives Q 9 #[] w K:=by
 refine aq func9 kr ?_;exact mpK h
theorem Sp (h:bT .eql 3 V0 (ci 0) (fun t4 w=>aG t4 false (fun u=>bT .eql 3 V0 (ci 1) (fun t7=>u [V0,t7]) w) (fun k=>k [uu,uu] w) fun j=>pick t4 cT (gd j 1) K) w):Gives Q 95 #[V0] w K:=by
 refine aq func95 kr ?_;exact mpK h
theorem KN (h:bT .eql 37 V0 (.pointer none) (fun u w=>cond u (K (ci 2) w) (aJ V0 (fun C=>ai Q 97 C 3 fun I=>ld Q 4 I fun j w=>cond j (K (ci 8) w) (K (ci 0) w)) w)) w):Gives Q 94 #[V0] w K:=by
 refine aq func94 kr ?_;exact mpK h
theorem KM (h:aJ V0 (fun t4=>ai Q 97 t4 4 fun t5=>ld Q 4 t5 fun t6=>un Q .not t6 fun t7 w=>cond t7 (K cF w) (aJ V0 (fun t9=>ai Q 97 t9 5 fun j=>ld Q 3 j fun u=>bT .eql 3 u (ci 0) fun C w=>cond C (call Q 14 #[V0] (fun _=>K cT) w) (aJ V0 (fun I=>ai Q 97 I 5 fun J=>ld Q 3 J fun M=>bT .sub 3 M (ci 1) fun O=>aJ V0 fun U=>ai Q 97 U 5 fun Z=>sto Q 3 Z O fun _=>K cF) w)) w)) w):Gives Q 102 #[V0] w K:=by
 refine aq func102 kr ?_;exact mpK h
theorem MO (h:box Q 118 W0 (fun j w=>aE (fun S w=>hN S V0 fun t7=>hF S 97 t7 2 fun t8=>hL S 95 t8 fun t9=>hL S 118 j fun u=>bg Q 95 1 #[(0,u)] (fun C=>aU S fun _=>blt Q .append #[95,95] 95 #[false,false] #[t9,C] fun I=>aE fun S w=>hN S V0 fun t13=>hF S 97 t13 2 fun t14=>sto Q 95 t14 I (fun _ w=>aE (fun S w=>hF S 118 j 0 fun t15=>hL S 116 t15 fun J=>hN S V0 fun M=>hF S 97 M 1 fun O=>hF S 118 j 1 fun U=>hL S 92 U fun Z=>aZ Q J #[O,Z] (fun _=>call Q 102 #[V0] fun t24 w=>cond t24 (K (ci 8) w) (K (ci 0) w)) w) w.drew) w) w) w.drew) w):Gives Q 100 #[V0,W0] w K:=by
 refine aq func100 kr ?_;exact mpK h
theorem K7 (h:box Q 3 W0 (fun j=>call Q 94 #[V0] fun t9=>bT .neq 40 t9 (ci 0) fun u w=>cond u (K t9 w) (ld Q 3 j (fun t14=>call Q 95 #[t14] fun t15=>un Q .not t15 fun C w=>cond C (K (ci 1) w) (sN V0 (fun I=>sF 97 I 1 fun J=>sI 94 J (ci 0) fun M=>sL 92 M fun O=>sti (blt Q .len #[92] 3 #[false] #[O]) fun U=>sN V0 fun Z=>sF 97 Z 1 fun aa=>sI 94 aa (ci 1) fun ad=>sL 92 ad fun af=>sti (blt Q .len #[92] 3 #[false] #[af]) fun ag=>sti (bF .add 3 U ag) fun al=>sti (blt Q .len #[92] 3 #[false] #[X0]) fun am=>sti (bF .add 3 al am) fun an=>sti (bT .gtr 3 an (ci 4194304)) fun ap w=>cond ap (K (ci 7) w) (call Q 96 #[X0] (fun ar=>bld Q 118 #[(1,ar),(2,cT),(0,.func (.func 171) #[] #[j])] fun av=>call Q 100 #[V0,av] K) w)) w.drew)) w)) w):Gives Q 124 #[V0,W0,X0] w K:=by
 refine aq func124 kr ?_;exact mpK h
theorem HB {f0:Value}(h:aE (fun S w=>hL S 3 W0 fun t6=>hL S 3 W0 fun t8=>hN S f0 fun t9=>hI S 94 t9 t8 fun j=>hL S 92 j fun u=>hL S 3 W0 fun t13=>hN S f0 fun t14=>hI S 94 t14 t13 fun t15=>hL S 92 t15 fun C=>hld S (blt Q .len #[92] 3 #[false] #[C]) fun I=>hL S 3 W0 fun J=>hN S f0 fun M=>hI S 94 M J fun O=>hL S 92 O fun U=>hld S (blt Q .len #[92] 3 #[false] #[U]) fun Z=>hld S (slc Q 92 u none (some I) (some Z)) fun t24=>hN S f0 fun ad=>blt Q .append #[92,92] 92 #[false,false] #[t24,V0] (fun aa=>aU S fun S w=>hI S 94 ad t6 fun af=>sto Q 92 af aa (fun _=>K (.tuple #[])) w) w) w.drew):Gives Q 171 #[f0,V0,W0] w K:=by
 refine aq func171 kr ?_;exact mpK h
theorem MN (h:call Q 94 #[V0] (fun O=>bT .neq 40 O (ci 0) fun t7 w=>cond t7 (K O w) (call Q 102 #[V0] (fun j w=>cond j (K (ci 8) w) (aJ V0 (fun t14=>ai Q 97 t14 1 fun t15=>ld Q 94 t15 fun u=>aJ V0 fun C=>ai Q 97 C 0 fun I=>sto Q 94 I u fun _=>aJ V0 fun J=>ai Q 97 J 2 fun M=>sto Q 95 M cN fun _=>K (ci 0)) w)) w)) w):Gives Q 64 #[V0] w K:=by
 refine aq func64 kr ?_;exact mpK h
theorem Dk (h:call Q 94 #[V0] (fun O=>bT .neq 40 O (ci 0) fun j w=>cond j (K (.tuple #[cN,O]) w) (call Q 95 #[W0] (fun t13=>un Q .not t13 fun t14 w=>cond t14 (K (.tuple #[cN,ci 1]) w) (aJ V0 (fun u=>ai Q 97 u 1 fun C=>aL Q 94 C W0 fun I=>ld Q 92 I fun J=>call Q 96 #[J] fun M=>K (.tuple #[M,ci 0])) w)) w)) w):Gives Q 55 #[V0,W0] w K:=by
 refine aq func55 kr ?_;exact mpK h
theorem NG (h:bT .neq 37 V0 (.pointer none) (fun j w=>cond j (aJ V0 (fun u=>ai Q 97 u 3 fun t7=>sto Q 4 t7 cT fun _=>aJ V0 fun C=>ai Q 97 C 4 fun I=>sto Q 4 I cF fun _=>K (.tuple #[])) w) (K (.tuple #[]) w)) w):Gives Q 14 #[V0] w K:=by
 refine aq func14 kr ?_;exact mpK h
theorem T8 (h:lN 23 V0 (fun U=>bF .geq 3 W0 U fun j w=>aG j false (fun C=>aL Q 23 V0 W0 (fun t14=>ld Q 3 t14 fun t15=>bT .lss 3 t15 (ci 0) fun I=>C [V0,W0,t14,t15,I]) w) (fun k=>k [uu,uu,uu,uu,uu] w) fun u=>pick j cT (gd u 4) fun J w=>cond J (K (ci 0) w) (aL Q 23 V0 W0 (fun M=>ld Q 3 M fun O=>bF .rem 3 O X0 K) w)) w):Gives Q 39 #[V0,W0,X0] w K:=by
 refine aq func39 kr ?_;exact mpK h
def uR (d0 picks1 k_5 f6:Value)(zf:Nat→Value):List Value:=d0::picks1::zT zf 2 3 (k_5::f6::zT zf 7 74 ([]))
def GE (d0 picks1 k_5 f6 t36 t37 t38:Value)(zf:Nat→Value):List Value:=d0::picks1::zT zf 2 3 (k_5::f6::zT zf 7 29 (t36::t37::t38::zT zf 39 42 ([])))
def GF (d0 picks1 k_5 f6 t54:Value)(zf:Nat→Value):List Value:=d0::picks1::zT zf 2 3 (k_5::f6::zT zf 7 47 (t54::zT zf 55 26 ([])))
def uS (d0 f6:Value)(zf:Nat→Value):List Value:=d0::zT zf 1 5 (f6::zT zf 7 74 ([]))
def rE (K:KV):KE:=ah Q (cd f15 [1,1,1,1]) (rk f15 K) xf (rk f15 K)
def lw (K:KV):KE:=kZ f15 (b1 63) K
def uT (K:KV):KE:=ah Q (cd f15 (b1 250)) (lw K) (xx xf (lw K) 1) (rk f15 K)
def jS (K:KV):KE:=kZ f15 (b1 127) K
def rF (K:KV):KE:=ah Q (cd f15 (b1 253)) (jS K) xf (rk f15 K)
theorem Pp {K:KV}{V0 W0:Value}{w:World}(h:bT .eql 37 V0 (.pointer none) (fun t12 w=>cond t12 (K (ci 2) w) (aJ V0 (fun t15=>ai Q 97 t15 3 fun t16=>ld Q 4 t16 fun t17=>un Q .not t17 fun t18 w=>cond t18 (K (ci 3) w) (aJ V0 (fun t21=>ai Q 97 t21 2 fun t22=>ld Q 95 t22 fun t23=>lN 95 t23 fun t24=>nC t24 fun t25=>call Q 39 #[W0,ci 0,t25] fun t26=>aJ V0 fun t28=>ai Q 97 t28 0 fun t29=>ld Q 94 t29 fun t30=>alc Q 94 fun Y0=>sto Q 94 Y0 t30 fun _=>rE K (uR V0 W0 t26 Y0 (zV (zV zu 4 [ci 0]) 10 [t12,V0,t12,t18,V0,t15,t16,t17,t18,W0,V0,t21,t22,t23,t24,t25,t26,V0,t28,t29,t30]))) w)) w)) w):Gives Q 15 #[V0,W0] w K:=by
 refine aq func15 (by kernel_rfl) ?_
 refine Eq.mp (congrArg (fun c=>ah Q c _ _ _ _ w) (by kernel_rfl:(rep [1,1,1,1] (cd f15 [1,1,1,1]) (cd f15 []))=(cd f15 []))) ?_
 revert h
 delta rE
 generalize (cd f15 [1,1,1,1])=xc0
 exact mpF
theorem MI (h:aJ V0 (fun j=>ai Q 97 j 2 fun u=>ld Q 95 u fun C=>slc Q 95 C none (some X0) none fun Z0=>lN 95 Z0 fun H1=>uT K (GE V0 W0 X0 Y0 Z0 H1 (ci 0) (zV zf 31 [V0,j,u,C,X0]))) w):rE K (uR V0 W0 X0 Y0 zf) w:=by
 delta rE;revert h;delta uT lw;exact mpF
theorem MK (Inv:Value→World→Prop)(μ:Value→World→Nat)(h0:Inv I1 w)(hs:∀(j:Value) (dd:Nat→Value) (w:World) (m:Nat),Inv j w→m=μ j w →
  lS j H1 (fun u w=>cond u (aL Q 95 Z0 j (fun M=>ld Q 118 M fun O=>alc Q 118 fun I=>sto Q 118 I O fun _=>ai Q 118 I 0 fun U=>ld Q 116 U fun Z=>ai Q 118 I 1 fun aa=>ld Q 92 aa fun ad=>aZ Q Z #[Y0,ad] fun _=>nC j fun C w=>(Inv C w)∧((μ C w)<m)) w) (lw K (uR V0 W0 X0 Y0 (zV dd 36 [Z0,H1,j,u])) w)) w):uT K (GE V0 W0 X0 Y0 Z0 H1 I1 zf) w:=by
 refine aI (cd f15 (b1 500)) (zr [(8,1),(38,10)]) kr (vP [38] Inv) (vQ [38] μ) h0 ?_;intro e' w' hI;have h:=hs _ (zM zf (gd e') (zr [(8,1),(38,10)])) w' _ hI rfl;revert h;generalize (lw K)=qc0;exact mpF
theorem ML (h:aJ V0 (fun t50=>ai Q 97 t50 2 fun t51=>ld Q 95 t51 fun t52=>lN 95 t52 fun t53=>lS X0 t53 fun J1=>rF K (GF V0 W0 X0 Y0 J1 (zV zf 48 [X0,V0,t50,t51,t52,t53]))) w):lw K (uR V0 W0 X0 Y0 zf) w:=by
 delta lw
 refine Eq.mp (congrArg (fun c=>ah Q c _ _ _ _ w) (by kernel_rfl:(rep [0,1] (cd f15 (b1 253)) (cd f15 (b1 63)))=(cd f15 (b1 63)))) ?_
 revert h
 delta rF jS
 generalize (cd f15 (b1 253))=xc0
 exact mpF
theorem MJ (h:cond J1 (aJ V0 (fun u=>ai Q 97 u 2 fun C=>ld Q 95 C fun I=>aL Q 95 I X0 fun J=>ld Q 118 J fun M=>alc Q 118 fun j=>sto Q 118 j M fun _=>ai Q 118 j 2 fun O=>ld Q 4 O fun U w=>cond U (aE (fun S w=>hF S 118 j 0 fun Z=>hL S 116 Z fun aa=>hF S 118 j 1 fun ad=>hL S 92 ad fun af=>hF S 118 j 1 fun ag=>hL S 92 ag fun al=>hld S (blt Q .len #[92] 3 #[false] #[al]) fun am=>hld (fun _=>True) (bT .add 3 am (ci 1)) fun an=>call Q 39 #[W0,ci 1,an] (fun ap=>aU S fun S w=>hld S (slc Q 92 af none (some ap) none) fun ar=>aZ Q aa #[Y0,ar] (fun av=>jS K (uS V0 Y0 (zV (zV (zV (zV zf 1 [W0]) 5 [X0]) 9 [j]) 54 [J1,V0,u,C,I,X0,J,M,O,U,Z,aa,ad,af,W0,ag,al,am,an,ap,ar,av]))) w) w) w.drew) (jS K (uS V0 Y0 (zV (zV (zV (zV zf 1 [W0]) 5 [X0]) 9 [j]) 54 [J1,V0,u,C,I,X0,J,M,O,U])) w)) w) (jS K (uS V0 Y0 (zV (zV (zV zf 1 [W0]) 5 [X0]) 54 [J1])) w)):rF K (GF V0 W0 X0 Y0 J1 zf) w:=by
 delta rF;revert h;generalize (jS K)=qc0;exact mpF
theorem MM (h:ld Q 94 Y0 (fun j=>ld Q 94 Y0 fun u=>bld Q 97 #[(0,j),(1,u)] fun C=>aJ V0 fun I=>sto Q 97 I C fun _=>K (ci 0)) w):jS K (uS V0 Y0 zf) w:=by
 delta jS;exact mpK h
attribute [irreducible] rE lw uT jS rF
theorem KJ (h:bT .eql 37 V0 (.pointer none) (fun t4 w=>cond t4 (K (ci 0) w) (aJ V0 (fun j=>ai Q 97 j 2 fun t7=>ld Q 95 t7 fun u=>lN 95 u K) w)) w):Gives Q 63 #[V0] w K:=by
 refine aq func63 kr ?_;exact mpK h
end
section
attribute [local irreducible] bin un conv call aZ blt slc ai fld aL idx lkp cP eP eSt rng nxt ent ext alc box bld bg ld sto aJ cr mkS ifc pick rdy wts aG sti cond aV Gives ah dy dP cOp
section
open Go.RowKit
theorem Sd :∀w,(sizeOf 4).run Q w=.ok 1 w:=fun _=>by kernel_rfl
def TB (w:World)(v:Option Addr×Nat×Nat)(l:List UInt8):Prop:=RB w v.1 v.2.1 v.2.2 l∧∀ad,v.1=some ad→∃cs,blk w ad.block 5 cs
def noBy (w:World)(F:List Nat):Prop:=∀k cs,blk w k 5 cs→k∉F
def DK (w:World)(p:Nat)(f g:List UInt8)(k:Nat)(off:Bool):Prop :=
 ∃s n la lc fz,blk w p 97 [slv s,.slice none 0 0,slv n,.slice none 0 0,.slice la k lc,.bool off,.bool false,ci fz]∧(k=0→la=none∧lc=0)∧TB w s f∧TB w n g∧g.length≤4194304
section
variable {w w':World}{F:List Nat}{v:Option Addr×Nat×Nat}{l f g:List UInt8}{p k:Nat}{off:Bool}
theorem TB.rb (h:TB w v l):RB w v.1 v.2.1 v.2.2 l:=h.1
theorem TB.len (h:TB w v l):l.length=v.2.1:=RB.len h.1
theorem TB.ch (h:TB w v l)(J:Ch F w w')(M:noBy w F):TB w' v l:=by
 refine⟨⟨RV.len h.1,RV.cap h.1,RV.some_ h.1,RV.nil_ h.1,fun i u O=>?_⟩,fun U Z=>?_⟩
 ·have hi:i<v.2.1:=by have:=(gS O).1;rw[RV.len h.1]at this;exact this
  obtain⟨b,o,I⟩:=RV.some_ h.1 oo;obtain⟨cs,C⟩:=h.2 _ I;have j:=RV.cell h.1 i u O;rw[I,rV]at j ⊢;rw[C.cell]at j;rw[(C.ch J (M _ _ C)).cell];exact j
 ·obtain⟨cs,C⟩:=h.2 U Z;exact⟨cs,C.ch J (M _ _ C)⟩
theorem TB.nil (w:World):TB w (none,0,0) []:=⟨RV.nil w,fun j h=>by cases h⟩
theorem TB.of_blk {g:Nat}{cs:List Value}{n c:Nat}(h:blk w g 5 cs)(hl:cs.take n=l.map u8v)(hn:l.length=n)(hc:n≤c):TB w (some ⟨g,0,none⟩,n,c) l:=by
 refine⟨⟨by simpa using hn,hc,fun _=>⟨g,0,rfl⟩,(fun h=>by cases h),fun i u hu=>?_⟩,fun ad ha=>by cases ha;exact⟨cs,h⟩⟩
 rw[rV,h.cell,Nat.zero_add]
 have hi:i<n:=by have:=(List.getElem?_eq_some_iff.1 hu).1;simp at this;omega
 rw[←hl,List.getElem?_take,if_pos hi]at hu
 exact hu
theorem TB.of_ob (h:OB w B a n c l):TB w (a,n,c) l:=by
 refine⟨h.rb,fun J C=>?_⟩;rcases h.2 with⟨u,_⟩|⟨g,cap,j,u,M,I,_⟩
 ·cases u;cases C
 ·cases u;cases C;exact⟨j.toList,I⟩
theorem noBy.of (j:blk w p E cs)(h:5≠E):noBy w [p]:=fun k ds C u=>C.ne j h (mS u)
theorem DK.ch (h:DK w p f g k off)(j:Ch F w w')(u:noBy w F)(M:p∉F):DK w' p f g k off:=by
 obtain⟨s,n,O,U,I,J,e1,Z,t1,C⟩:=h;exact⟨s,n,O,U,I,J.ch j M,e1,Z.ch j u,t1.ch j u,C⟩
theorem DK.below (h:DK w p f g k off)(j:Below w.heap.size w w'):DK w' p f g k off:=h.ch (F:=[]) (Ch.of_below j) (fun _ _ _=>by simp) sm
theorem DK.lt (h:DK w p f g k off):p<w.heap.size:=by
 obtain⟨s,n,C,I,u,j,_⟩:=h;exact j.lt
theorem DK.len (h:DK w p f g k off):g.length≤4194304:=by
 obtain⟨s,n,I,J,u,C,e1,M,O,j⟩:=h;exact j
theorem blk.dk (h:blk w z E cs)(I:DK w p f g k off)(C:Ch [p] w w')(j:E≠97):blk w' z E cs:=by
 obtain⟨s,n,O,U,M,u,_⟩:=I;exact h.ch C fun J=>h.ne u j (mS J)
end
theorem RM (h:K (pA b (o+0)) w):ai Q 97 (pA b o) 0 K w:=aH kr h
theorem Bn (h:K (pA b (o+2)) w):ai Q 97 (pA b o) 1 K w:=aH kr h
theorem vE (h:K (pA b (o+4)) w):ai Q 97 (pA b o) 2 K w:=aH kr h
theorem KW (h:K (pA b (o+5)) w):ai Q 97 (pA b o) 3 K w:=aH kr h
theorem RN (h:K (pA b (o+6)) w):ai Q 97 (pA b o) 4 K w:=aH kr h
theorem UL (h:K (pA b (o+0)) w):ai Q 118 (pA b o) 0 K w:=aH kr h
theorem UM (h:K (pA b (o+1)) w):ai Q 118 (pA b o) 1 K w:=aH kr h
theorem zbX (v:Value)(j:blk w b E cs)(u:cs[o]? = some v)(h:K v w):ld Q 3 (pA b o) K w:=lK j u h
theorem QV (v:Value)(j:blk w b E cs)(u:cs[o]? = some v)(h:K v w):ld Q 4 (pA b o) K w:=lK j u h
theorem Vz (v:Value)(j:blk w b E cs)(u:cs[o]? = some v)(h:K v w):ld Q 92 (pA b o) K w:=lK j u h
theorem Mq (v:Value)(j:blk w b E cs)(u:cs[o]? = some v)(h:K v w):ld Q 95 (pA b o) K w:=lK j u h
theorem Mk (h:K (.bool false) w):bin Q .eql 37 cx cy (ptr b) (.pointer none) K w :=
 gy (by unfold eqG eqGuard;rfl) kr h
theorem zca (h:K (.bool true) w):bin Q .neq 37 cx cy (ptr b) (.pointer none) K w :=
 gy (by unfold eqG eqGuard;rfl) kr h
section
variable {w:World}{K:KV}{p k:Nat}{f g:List UInt8}{off:Bool}
theorem IE (j:DK w p f g k false)(h:K (ci 0) w):call Q 94 #[ptr p] K w:=by
 obtain⟨s,n,I,J,u,C,_⟩:=j;refine ak (goK func94) (KN ?_)
 (repeat (first|refine Mk ?_|refine aj ?_|refine KW ?_|(refine QV ?_ (by assumption) ?_ ?_;rotate_left;exact rfl)|refine aF ?_))
 exact h
theorem zbb (hd:DK w p f g k off)(h:∀w',DK w' p f g k true→Oth p w w'→K (.tuple #[]) w'):call Q 14 #[ptr p] K w:=by
 obtain⟨s,n,la,lc,J,M,e1,t0,t1,e2⟩:=hd;refine ak (goK func14) (NG ?_)
 (repeat (first|refine zca ?_|refine aj ?_|refine KW ?_|refine aT ?_))
 refine cB Sd M sm rfl ?_;intro w1 j u;have j:blk w1 p _ [slv s,.slice none 0 0,slv n,.slice none 0 0,.slice la k lc,.bool true,.bool false,ci J]:=j
 (repeat (first|refine aj ?_|refine RN ?_))
 refine cB Sd j sm rfl ?_;intro w2 I C;have o:Oth p w w2:=⟨C.os.trans u.os,C.tape.trans u.tape,C.output.trans u.output,C.size.trans u.size,fun x Z=>(C.other x Z).trans (u.other x Z)⟩
 have O:Ch [p] w w2:=Ch.of_oth o sm;have U:=noBy.of M dc;exact h w2 ⟨s,n,la,lc,J,I,e1,t0.ch O U,t1.ch O U,e2⟩ o
theorem Vd (j:DK w p f g k off)(h:K (.bool false) w):call Q 102 #[ptr p] K w:=by
 obtain⟨s,n,I,J,u,C,_⟩:=j;refine ak (goK func102) (KM ?_)
 (repeat (first|refine aj ?_|refine RN ?_|(refine QV ?_ (by assumption) ?_ ?_;rotate_left;exact rfl)))
 refine bK ?_
 (repeat (first|refine aT ?_))
 exact h
theorem zc2 (j:DK w p f g k off)(h:K (ci (k:Nat)) w):call Q 63 #[ptr p] K w:=by
 obtain⟨s,n,I,J,u,C,_⟩:=j;refine ak (goK func63) (KJ ?_)
 (repeat (first|refine Mk ?_|refine aj ?_|refine vE ?_|(refine Mq ?_ (by assumption) ?_ ?_;rotate_left;exact rfl)|refine aF ?_))
 exact bh underlying95 h
theorem QU {f:Int}(j:f=0∨f=1)(h:K (.bool true) w):call Q 95 #[ci f] K w:=by
 refine ak (goK func95) (Sp ?_);rcases j with rfl|rfl
 ·(repeat (first|refine aO ?_|refine cz ?_|refine eA ?_))
  exact h
 ·(repeat (first|refine aO ?_|refine dh ?_|refine iZ ?_))
  exact h
theorem SM (h:K (pA b o) w):aL Q 94 (pA b o) (ci 0) K w:=ew underlying94 Eu dc dc h
theorem zb0 (h:K (pA b (o+1)) w):aL Q 94 (pA b o) (ci 1) K w:=ew underlying94 Eu dc dc h
theorem RV.full (h:RV w a n c xs):RV w a n n xs:=⟨h.len,Nat.le_refl _,h.some_,fun j=>⟨(h.nil_ j).1,(h.nil_ j).1⟩,h.cell⟩
theorem Xj {q:Nat}{E:TypeId}{gs:List Value}{v x:Option Addr×Nat×Nat}{m l:List UInt8}(hq:blk w q 3 [ci 0])(hg:blk w p E gs)(h0:gs[0+2]? = some (slv x))(t0:TB w x m)(hv:TB w v l)(hl:0<l.length)(hsz:m.length+l.length≤140737488355328)(hE:5≠E)(h:∀w' y,blk w' p E (gs.set (0+2) (slv y))→TB w' y (m++l)→Ch [p] w w'→K (.tuple #[]) w'):call Q 171 #[.pointer (some ⟨p,0+2,none⟩),slv v,ptr q] K w:=by
 have hx:=t0.len
 have hvl:=hv.len
 obtain⟨i,hi,hz,hs,hby⟩:=info_parts HR
 refine ak (goK func171) (HB ?_)
 refine au (fun w=>blk w p E gs∧blk w q 3 [ci 0]) ⟨hg,hq⟩ ?_
 repeat (first|refine ab (fun w hw _=>lK hw.2 rfl) ?_|refine ab (fun w hw _=>aj) ?_|refine ab (fun w hw _=>SM) ?_|refine ab (fun w hw _=>lK hw.1 h0) ?_|refine ab (fun w hw _=>we) ?_|refine ab (fun w hw _=>zfe underlying92 Ij (Nat.le_refl _) t0.rb.cap) ?_)
 refine YU (w:=w.drew) underlying92 hi hz hs hby rfl (RV.full (RB.drew t0.rb).rv) (RB.drew hv.rb).rv (by omega) (by omega) ?_
 intro a' c' w1 hcase hbel
 have hg1:blk w1 p E gs:=ae hbel hg.drew hg.lt
 refine aC ⟨hg1,ae hbel hq.drew hq.lt⟩ ?_
 refine ab (fun w hw _=>SM) ?_
 refine cB Eu hg1 (List.getElem?_eq_some_iff.1 h0).1 rfl ?_
 intro w2 hg2 o2
 have b1:Below w.heap.size w w1:=⟨hbel.os,hbel.tape,hbel.output,hbel.size,hbel.block⟩
 rcases hcase with⟨_,_,hm⟩|⟨zs,hb,hc,rfl⟩
 ·omega
 ·have hb2:=hb.ch (Ch.of_oth (F:=[p]) o2 (by simp)) fun hh=>hb.ne hg1 hE (List.mem_singleton.1 hh)
  refine h w2 (some ⟨w.drew.heap.size,0,none⟩,x.2.1+v.2.1,c') hg2 (TB.of_blk hb2 ?_ (by simp;omega) (by omega)) ((Ch.of_below b1).trans (Ch.of_oth (F:=[p]) o2 (by simp)) fun _ h=>.inl h)
  rw[←List.map_append,List.take_append_of_le_length (by simp;omega),List.take_of_length_le (by simp;omega)]
theorem ZH :(Tryz.prog.info? 118).map (fun i=>(i.zero,i.size,i.bytes))=some (some (.agg #[.nilFunc,.slice none 0 0,.bool false]),3,40):=by kernel_rfl
theorem zbt {q:Nat}{v:Option Addr×Nat×Nat}{b:List UInt8}(hd:DK w p f f 0 false)(hq:blk w q 3 [ci 0])(hv:TB w v b)(az:0<b.length)(a2:f.length+b.length≤4194304)(h:∀w',DK w' p f (f++b) 1 false→Ch [p] w w'→K (ci 0) w'):call Q 100 #[ptr p,.agg #[.func (.func 171) #[] #[ptr q],slv v,.bool true]] K w:=by
 obtain⟨s,n,la,lc,fz,hb,e1,t0,t1,e2⟩:=hd;obtain⟨rfl,rfl⟩:=e1 rfl;generalize ap:Value.func (.func 171) #[] #[ptr q]=fv;have a0:fv.oneCell'=true:=by rw[←ap];rfl
 have hn:=noBy.of hb dc;refine ak (goK func100) (MO ?_);refine br ?_;intro w1 J U a9;have J:blk w1 w.heap.size 118 [fv,slv v,.bool true]:=J;have Z:=ae U hb hb.lt
 refine au (fun w' => blk w' p 97 [slv s,.slice none 0 0,slv n,.slice none 0 0,.slice none 0 0,.bool false,.bool false,ci fz]∧blk w' w.heap.size 118 [fv,slv v,.bool true]) ⟨Z,J⟩ <|ab (fun w I _=>aj) <|ab (fun w I _=>vE) <|ab (fun w I _=>lK I.1 rfl) <|ab (fun w I _=>ldA (n:=3) underlying118 rfl kr I.2 rfl rfl) <|oG (s:=3) [.agg #[fv,slv v,.bool true]] underlying95 kr kr oo rfl sm oo rfl (by simp[Value.cells]) ?_
 intro w2 al C bb;have al:blk w2 w1.heap.size 118 [fv,slv v,.bool true]:=al;have aa:=ae C Z.drew Z.lt;have af:=ae C J.drew J.lt;refine aC ⟨aa,af⟩ ?_;obtain⟨i,hi,hz,a5,aS⟩:=info_parts ZH;have S1:=U.size;have S2:w1.heap.size≤w2.heap.size:=C.size;have a8:=hb.lt
 refine Xi (base:=w2.heap.size) (s:=3) (m:=1) (ys:=[fv,slv v,.bool true]) underlying95 hi hz a5 aS rfl oo (World.ownsRow_nil _ _ _ _) al rfl (by simp only[List.mem_cons,List.not_mem_nil,or_false];rintro u (rfl|rfl|rfl)<;>first|exact a0|rfl) oo oo oo ?_;intro a' c' w3 a7 a1 a6
 have b3:Below w2.heap.size w2 w3:=(Below.refl _ w2).grown a1 oA (fun k hk=>by cases hk);have ad:=ae b3 aa aa.lt;have ag:=ae b3 af af.lt
 refine au (fun w' => blk w' p 97 [slv s,.slice none 0 0,slv n,.slice none 0 0,.slice none 0 0,.bool false,.bool false,ci fz]∧blk w' w.heap.size 118 [fv,slv v,.bool true]) ⟨ad,ag⟩ <|ab (fun w I _=>aj) <|ab (fun w I _=>vE) <|cB (by intro w;kernel_rfl) ad sm rfl ?_;intro w4 O o4
 have O:blk w4 p 97 [slv s,.slice none 0 0,slv n,.slice none 0 0,.slice a' (0+1) c',.bool false,.bool false,ci fz]:=O;have ar:Below w.heap.size w w2:=U.trans ((show Below w1.heap.size w1 w2 from⟨C.os,C.tape,C.output,C.size,C.block⟩).mono S1);have av:Below w.heap.size w w3:=ar.trans (b3.mono oo)
 have c4:Ch [p] w w4:=(Ch.of_below av).trans (Ch.of_oth o4 (List.mem_singleton.2 rfl)) fun _ h=>.inl h;have a4:=ag.ch (Ch.of_oth (F:=[p]) o4 sm) fun hh=>ag.ne ad dc (mS hh)
 refine au (fun w' => blk w' p 97 [slv s,.slice none 0 0,slv n,.slice none 0 0,.slice a' (0+1) c',.bool false,.bool false,ci fz]∧blk w' w.heap.size 118 [fv,slv v,.bool true]) ⟨O,a4⟩ <|ab (fun w I _=>UL) <|ab (fun w I _=>lK I.2 rfl) <|ab (fun w I _=>aj) <|ab (fun w I _=>Bn) <|ab (fun w I _=>UM) <|ab (fun w I _=>lK I.2 rfl) ?_
 have M:Ch [p] w w4.drew:=⟨c4.os,c4.tape,c4.output,c4.size,c4.block⟩
 subst ap;refine dn (all:=#[pA p (0+2),slv v,ptr q]) rfl <|Xj (w:=w4.drew) (hq.ch M fun hh=>hq.ne hb dc (mS hh)) O.drew rfl (t1.ch M hn) (hv.ch M hn) az oo dc ?_;intro w5 y a3 ty c5;have am:Ch [p] w w5:=M.trans c5 fun _ h=>.inl h
 have an:DK w5 p f (f++b) 1 false:=⟨s,y,a',c',fz,a3,(fun h=>absurd h dc),t0.ch am hn,ty,by rw[List.length_append];exact a2⟩
 refine Vd an ?_;exact aF (h w5 an am)
theorem zb9 (h:∀w',DK w' w.heap.size [] [] 0 false→Below w.heap.size w w'→K (ptr w.heap.size) w'):call Q 9 #[] K w:=by
 refine ak (goK func9) (UK ?_);refine dl (vs:=[.slice none 0 0,.slice none 0 0,.slice none 0 0,.slice none 0 0,.slice none 0 0,.bool false,.bool false,ci 0]) kr <|br ?_;intro u j b1 _;exact h u ⟨(none,0,0),(none,0,0),none,0,0,j,fun _=>⟨rfl,rfl⟩,TB.nil _,TB.nil _,by simp⟩ b1
theorem YV {l:List UInt8}(hd:DK w p f f 0 false)(hb:RB w a n c l)(U:0<l.length)(hs:f.length+l.length≤4194304)(h:∀w',DK w' p f (f++l) 1 false→Ch [p] w w'→K (ci 0) w'):call Q 124 #[ptr p,ci 0,.slice a n c] K w:=by
 have hl:=hb.len;refine ak (goK func124) (K7 ?_);refine br ?_;intro Z u b1 _;have u:blk Z w.heap.size 3 [ci 0]:=u;have I:=hd.below b1;refine IE I ?_
 (repeat (first|(refine zbX ?_ (by assumption) ?_ ?_;rotate_left;exact rfl)|refine aX ?_|refine aF ?_))
 refine QU (.inl rfl) <|bK ?_
 (repeat (first|refine aF ?_))
 obtain⟨s,m,la,lc,fz,M,e1,t0,t1,e2⟩:=id I;have aa:=t1.len;have J:=M.drew;have ad:=u.drew
 (repeat (first|refine ac (fun _=>aj) ?_|refine ac (fun _=>Bn) ?_|refine ac (fun _=>SM) ?_|refine ac (fun _=>zb0) ?_|refine ac (fun _=>lK J rfl) ?_|refine ao oo ?_|refine ac (fun _ j=>bO j) ?_|refine ac (fun _ j=>aM oo oo j) ?_|refine ac (fun _ j=>we j) ?_))
 refine El (RB.drew (RB.below hb b1 oA)) oo ?_;intro a2 c2 w2 o2 C;have C:Below Z.heap.size Z w2:=⟨C.os,C.tape,C.output,C.size,C.block⟩
 refine dl (vs:=[.func (.func 171) #[] #[ptr w.heap.size],slv (a2,n,c2),.bool true]) kr <|zbt (I.below C) (ae C u u.lt) (TB.of_ob o2) U hs ?_;intro w3 O c3;exact h w3 O ((Ch.of_below (b1.trans (C.mono b1.size))).trans c3 fun _ h=>.inl h)
theorem ze6 (J:DK w p f g k false)(h:∀w',DK w' p g g 0 false→Ch [p] w w'→K (ci 0) w'):call Q 64 #[ptr p] K w:=by
 refine ak (goK func64) (MN ?_);refine IE J ?_
 (repeat (first|refine aX ?_|refine aF ?_))
 refine Vd J ?_;obtain⟨s,n,la,lc,O,C,e1,t0,t1,Z⟩:=J;have hn:=noBy.of C dc
 (repeat (first|refine aj ?_|refine Bn ?_|refine aF ?_))
 refine ldA (n:=2) underlying94 rfl kr C rfl rfl ?_
 (repeat (first|refine aj ?_|refine RM ?_))
 refine ip (n:=2) kr rfl C sm (by simp only[List.take,List.drop,List.mem_cons,List.not_mem_nil,or_false];rintro u (rfl|rfl)<;>rfl) ?_;intro w2 j o2;have j:blk w2 p 97 [slv n,.slice none 0 0,slv n,.slice none 0 0,.slice la k lc,.bool false,.bool false,ci O]:=j
 (repeat (first|refine aj ?_|refine vE ?_))
 refine cB (by intro w;kernel_rfl) j sm rfl ?_;intro w3 I o3;have M:Ch [p] w w3:=(Ch.of_oth o2 sm).trans (Ch.of_oth (F:=[p]) o3 sm) fun _ h=>.inl h;have U:=t1.ch M hn;exact h w3 ⟨n,n,none,0,O,I,fun _=>⟨rfl,rfl⟩,U,U,Z⟩ M
theorem zcp (j:DK w p f g k false)(h:∀a n c w',OB w' w.heap.size a n c g→Below w.heap.size w w'→K (.tuple #[.slice a n c,ci 0]) w'):call Q 55 #[ptr p,ci 0] K w:=by
 refine ak (goK func55) (Dk ?_);refine IE j ?_
 (repeat (first|refine aX ?_|refine aF ?_))
 refine QU (.inl rfl) <|bK ?_
 (repeat (first|refine aF ?_))
 obtain⟨s,n,U,Z,J,M,e1,t0,u,I⟩:=j;have O:=u.len
 (repeat (first|refine aj ?_|refine Bn ?_|(refine Vz ?_ (by assumption) ?_ ?_;rotate_left;exact rfl)|refine SM ?_))
 refine El u.rb oo ?_;intro a c w1 C b1;exact h _ _ _ _ C b1
theorem zcq (j:DK w p f g k false)(h:∀a c w',Below w.heap.size w w'→K (.tuple #[.slice a 0 c,ci 0]) w'):call Q 55 #[ptr p,ci 1] K w:=by
 refine ak (goK func55) (Dk ?_);refine IE j ?_
 (repeat (first|refine aX ?_|refine aF ?_))
 refine QU (.inr rfl) <|bK ?_
 (repeat (first|refine aF ?_))
 obtain⟨s,n,J,M,C,I,e1,U,Z,u⟩:=j
 (repeat (first|refine aj ?_|refine Bn ?_|(refine Vz ?_ (by assumption) ?_ ?_;rotate_left;exact rfl)|refine zb0 ?_))
 refine El (l:=[]) (RV.nil w) oo ?_;intro a c w1 O b1;exact h _ _ _ b1
def RIn (w:World)(a:Option Addr)(n c:Nat)(l:List Int):Prop:=RV w a n c (l.map (Value.int .i64))
theorem RIn.len {l:List Int}(h:RIn w a n c l):l.length=n:=by simpa using RV.len h
theorem RIn.below {l:List Int}(h:RIn w a n c l)(u:Below B w w')(j:w.heap.size≤B):RIn w' a n c l:=RV.below h u j
theorem zdq {l:List Int}(j:RIn w av n c l)(C:0<n)(h:w.cell? (pu av 0)=some (ci (l.getD 0 0))→K (.pointer (some (pu av 0))) w):aL Q 23 (.slice av n c) (ci 0) K w:=by
 refine HQ underlying23 OP (Int.le_refl _) oo (RV.some_ j) (h ?_);have u:0<l.length:=by rw[j.len];exact C
 rw[RV.cell j 0 (ci l[0]) (by simp[List.getElem?_map,gE u])];simp[List.getD,u]
theorem zdQ {l:List Int}(I:x=1)(u:RIn w a n c l)(h:K (ci ((0:Nat):Int)) w):call Q 39 #[.slice a n c,ci 0,ci x] K w:=by
 subst I;refine ak (goK func39) (T8 ?_);refine bh underlying23 ?_;by_cases C:n=0
 ·subst C
  (repeat (first|refine bI ?_|refine cz ?_|refine aT ?_|refine eA ?_))
  exact h
 (repeat (first|refine bI ?_|refine dt oo ?_))
 refine zdq u oo ?_;intro j;refine yR kf j ?_;by_cases J:l.getD 0 0<0
 ·(repeat (first|refine aK ?_|refine ax oo ?_|refine bj oo ?_))
  exact h
 (repeat (first|refine aK ?_|refine ao oo ?_|refine bj oo ?_))
 refine zdq u oo ?_;intro j;refine yR kf j <|Ct (show 0≤l.getD 0 0 by omega) oo ?_;rw[Int.emod_one];exact h
abbrev TF :TypeId:=94
theorem zdI {l:List Int}(hd:DK w p f f 0 true)(hr:RIn w a n c l)(h:∀w',DK w' p f f 0 false→Ch [p] w w'→K (ci 0) w'):call Q 15 #[ptr p,.slice a n c] K w:=by
 obtain⟨s,m,la,lc,fz,I,e1,t0,t1,e2⟩:=hd;obtain⟨rfl,rfl⟩:=e1 rfl;have hn:=noBy.of I dc;refine ak (goK func15) (Pp ?_)
 (repeat (first|refine Mk ?_|refine aj ?_|refine KW ?_|(refine QV ?_ (by assumption) ?_ ?_;rotate_left;exact rfl)|refine aF ?_))
 refine bK ?_
 (repeat (first|refine aj ?_|refine vE ?_|(refine Mq ?_ (by assumption) ?_ ?_;rotate_left;exact rfl)|refine aF ?_))
 refine bh underlying95 ?_
 (repeat (first|refine aM oo oo ?_))
 refine zdQ sm hr ?_
 (repeat (first|refine aj ?_|refine RM ?_))
 refine ldA (n:=2) underlying94 rfl kr I rfl rfl <|df (z:=.agg #[.slice none 0 0,.slice none 0 0]) kr ?_;intro w1 C b1 _;have C:blk w1 w.heap.size TF [.slice none 0 0,.slice none 0 0]:=C;refine ip (n:=2) kr rfl C sm (by simp only[List.take,List.drop,List.mem_cons,List.not_mem_nil,or_false];rintro u (rfl|rfl)<;>rfl) ?_;intro w2 j o2
 have j:blk w2 w.heap.size TF [slv s,.slice none 0 0]:=j;have O:Below w.heap.size w w2:=b1.trans o2.below;have M:=ae O I I.lt
 (repeat (first|refine aj ?_|refine vE ?_|(refine Mq ?_ (by assumption) ?_ ?_;rotate_left;exact rfl)|refine MI ?_))
 refine zbf (s:=3) (m:=0) underlying95 kf oo <|bh underlying95 <|MK (Inv:=fun i wr=>i=ci 0∧wr=w2) (μ:=fun _ _=>0) ⟨rfl,rfl⟩ ?_;rintro _ _ _ _ ⟨rfl,rfl⟩ _
 (repeat (first|refine aj ?_|refine vE ?_|(refine Mq ?_ (by assumption) ?_ ?_;rotate_left;exact rfl)|refine ML ?_|refine aK ?_|refine aF ?_))
 refine bh underlying95 ?_
 (repeat (first|refine MM ?_|refine MJ ?_|refine aK ?_|refine aF ?_))
 refine ldA (n:=2) underlying94 rfl kr j rfl rfl <|ldA (n:=2) underlying94 rfl kr j rfl rfl <|dl (vs:=[slv s,.slice none 0 0,slv s,.slice none 0 0,.slice none 0 0,.bool false,.bool false,ci 0]) kr <|aj <|ip (n:=8) kr rfl M sm (by simp only[List.mem_cons,List.not_mem_nil,or_false];rintro u (rfl|rfl|rfl|rfl|rfl|rfl|rfl|rfl)<;>rfl) ?_
 intro w3 J o3;have U:Ch [p] w w3:=(Ch.of_below O).trans (Ch.of_oth (F:=[p]) o3 sm) fun _ h=>.inl h;have Z:=t0.ch U hn;exact h w3 ⟨s,s,none,0,0,J,fun _=>⟨rfl,rfl⟩,Z,Z,e2⟩ U
end
def JK (w:World)(p q:Nat)(f:List UInt8):Prop:=DK w p f f 0 false∧blk w q 154 [ptr p,ci (f.length:Nat),.bool false]
theorem OBB.mono {vs:List (Option Addr×Nat×Nat)}{L:List (List UInt8)}(h:OBB w B a n c vs L)(j:B'≤B):OBB w B' a n c vs L :=
 ⟨OV.mono h.row j,h.len,fun i v l C u=>OV.mono (h.each i v l C u) j⟩
section
variable {w w':World}{K:KV}{p q:Nat}{f:List UInt8}{F:List Nat}
theorem JK.ch (h:JK w p q f)(j:Ch F w w')(u:noBy w F)(C:p∉F)(I:q∉F):JK w' p q f:=⟨h.1.ch j u C,h.2.ch j I⟩
theorem JK.below (h:JK w p q f)(j:Below w.heap.size w w'):JK w' p q f:=⟨h.1.below j,ae j h.2 h.2.lt⟩
theorem KX (h:K (pA b (o+0)) w):ai Q 154 (pA b o) 0 K w:=aH kr h
theorem KY (h:K (pA b (o+1)) w):ai Q 154 (pA b o) 1 K w:=aH kr h
theorem KZ (h:K (pA b (o+2)) w):ai Q 154 (pA b o) 2 K w:=aH kr h
theorem VA (v:Value)(j:blk w b E cs)(u:cs[o]? = some v)(h:K v w):ld Q 3 (pA b o) K w:=lK j u h
theorem zbY (v:Value)(j:blk w b E cs)(u:cs[o]? = some v)(h:K v w):ld Q 4 (pA b o) K w:=lK j u h
theorem HU (v:Value)(j:blk w b E cs)(u:cs[o]? = some v)(h:K v w):ld Q 37 (pA b o) K w:=lK j u h
theorem VB (v:Value)(j:blk w b E cs)(u:cs[o]? = some v)(h:K v w):ld Q 101 (pA b o) K w:=lK j u h
theorem VC (v:Value)(j:blk w b E cs)(u:cs[o]? = some v)(h:K v w):ld Q 92 (pA b o) K w:=lK j u h
abbrev TFN :TypeId:=114
theorem Vu :(Tryz.prog.info? TFN).map (fun i=>(i.zero,i.size,i.bytes))=some (some .nilFunc,1,8):=by kernel_rfl
theorem Xt {St:Nat→World→Prop}(u:∀i w,St i w→OV w B' TFN a n c cs)(I:∀i v,cs[i]? = some v→∀(w:World) (K:KV),St i w→(∀w',St (i+1) w'→K (ci 0) w')→aZ Q v #[] K w)(M:St 0 w)(hN:n≤1000)(h:∀w',St n w'→K (ci 0) w'):call Q 57 #[.slice a n c] K w:=by
 have hn:cs.length=n:=RV.len (u _ _ M).rv;refine ak (goK func57) (PQ ?_);refine bh underlying208 <|MY (Inv:=fun i wr=>∃j:Nat,j≤n∧i=ci (j:Nat)∧St j wr) (μ:=fun i _=>n-(intOf i).toNat) ⟨0,by omega,rfl,M⟩ ?_;rintro _ _ U m ⟨j,hj,rfl,J⟩ hm;by_cases Z:j<n
 ·(repeat (first|refine aK ?_|refine ax oo ?_))
  have O:cs[j]? = some cs[j]:=gE oo;refine ZF underlying208 kf (u _ _ J).rv oo (v:=cs[j]) (by rw[Int.toNat_natCast];exact O) ?_;intro C;refine yR kf C (I j _ O U _ J fun w2 s2=>?_)
  (repeat (first|refine aX ?_|refine aM oo oo ?_|refine aF ?_))
  exact⟨⟨j+1,by omega,by simp,s2⟩,by rw[hm];simp only[intOf];omega⟩
 obtain rfl:j=n:=by omega
 (repeat (first|refine MZ ?_|refine aK ?_|refine ao oo ?_))
 exact h U J
theorem ZQ (j:DK w p f f 0 false)(h:∀w',Below w.heap.size w w'→K (ci 0) w'):call Q 61 #[ptr p] K w:=by
 refine ak (goK func61) (Oe ?_);refine zcq j fun a c u b1=>?_
 (repeat (first|refine aO ?_|refine aX ?_|refine bu ?_|refine bv ?_|refine we ?_|refine dh ?_|refine aT ?_|refine iZ ?_))
 exact h u b1
theorem zdL {L:List (List UInt8)}(hd:DK w p (cf L) (cf L) 0 false)(ok:okR L)(h:∀w' q a n c vs,Below w.heap.size w w'→OBB w' w.heap.size a n c vs L→JK w' p q (cf L)→w.heap.size≤q→K (.tuple #[ptr q,.slice a n c,ci 0]) w'):call Q 29 #[ptr p] K w:=by
 refine ak (goK func29) (PP ?_);refine br ?_;intro w1 O b1 _;have O:blk w1 w.heap.size 37 [ptr p]:=O
 (repeat (first|(refine HU ?_ (by assumption) ?_ ?_;rotate_left;exact rfl)))
 refine zcp (hd.below b1) ?_;intro a n c w2 o2 b2;have hn:=o2.len;have a4:=hd.len;have hp:((a,n,c):Option Addr×Nat×Nat).2.1=n:=rfl;have ar:=ae b2 O O.lt
 (repeat (first|refine bu ?_|refine bv ?_))
 refine df (z:=.slice none 0 0) kr ?_;intro w3 af b3 S3;have af:blk w3 w2.heap.size 92 [.slice none 0 0]:=af;refine cB kf af sm rfl ?_;intro w4 J o4;have J:blk w4 w2.heap.size 92 [slv (a,n,c)]:=J;have Z:Below w2.heap.size w2 w4:=b3.trans o4.below;have S1:=b1.size;have S2:=b2.size;have S4:=o4.size;have av:=ae Z ar ar.lt
 have az:Below w.heap.size w w4:=(b1.trans (b2.mono S1)).trans (Z.mono oo)
 (repeat (first|(refine VC ?_ (by assumption) ?_ ?_;rotate_left;exact rfl)|refine aX ?_|refine aF ?_))
 refine zdd (OB.below o2 Z oA).rb oo ok ?_;intro a5 n5 c5 a2 w5 L5 b5;have S5:=b5.size
 (repeat (first|refine bu ?_|refine bv ?_))
 refine df (z:=ci 0) kr ?_;intro w6 ag b6 S6;have ag:blk w6 w5.heap.size 3 [ci 0]:=ag;refine cB kf ag sm rfl ?_;intro w7 j o7;have j:blk w7 w5.heap.size 3 [ci ((cf L).length:Nat)]:=j;have S7:=o7.size;have am:Below w5.heap.size w5 w7:=b6.trans o7.below;have aa:Below w4.heap.size w4 w7:=b5.trans (am.mono S5)
 have aS:Below w.heap.size w w7:=az.trans (aa.mono oo);have u:=ae aa av av.lt;have M:=ae aa J J.lt
 (repeat (first|refine MX ?_))
 obtain⟨i,hi,hz,a1,a3⟩:=info_parts Vu;refine Vc (vs:=[.func (.func 58) #[] #[ptr w5.heap.size,ptr w2.heap.size,ptr w.heap.size],.func (.func 60) #[] #[ptr w.heap.size],.func (.func 62) #[] #[ptr w.heap.size]]) rfl rfl underlying208 hi hz a1 rfl sm sm (by simp[Value.cells]) ?_;intro U C;generalize (w7.alloc _)=w8 at U C ⊢;have S8:=C.size
 have al:Below w.heap.size w w8:=aS.trans (C.mono oo);have d8:=hd.below al;refine Xt (St:=fun _ w' => Below w8.heap.size w8 w') (fun _ _ I=>OV.below U I oA) ?_ (Below.refl _ _) sm fun w9 b9=>?_
 ·intro i v hv w K I hK;have hx:=ae I (ae C u u.lt) (ae C u u.lt).lt;have an:=d8.below I
  match i with
  | 0 =>
   simp only[List.getElem?_cons_zero,Option.some.injEq]at hv;subst hv;have h1:=ae I (ae C j j.lt) (ae C j j.lt).lt;have h2:=ae I (ae C M M.lt) (ae C M M.lt).lt;refine dn rfl (ak (goK func58) (MT ?_))
   (repeat (first|(refine VA ?_ (by assumption) ?_ ?_;rotate_left;exact rfl)|(refine VC ?_ (by assumption) ?_ ?_;rotate_left;exact rfl)|refine aO ?_|refine we ?_|refine ax oo ?_))
   exact hK w I
  | 1 =>
   simp only[List.getElem?_cons_succ,List.getElem?_cons_zero,Option.some.injEq]at hv;subst hv;refine dn rfl (ak (goK func60) (MU ?_))
   (repeat (first|(refine HU ?_ (by assumption) ?_ ?_;rotate_left;exact rfl)))
   exact ZQ an fun w' b' => hK w' (I.trans (b'.mono I.size))
  | 2 =>
   simp only[List.getElem?_cons_succ,List.getElem?_cons_zero,Option.some.injEq]at hv;subst hv;refine dn rfl (ak (goK func62) (MV ?_))
   (repeat (first|(refine HU ?_ (by assumption) ?_ ?_;rotate_left;exact rfl)))
   refine zc2 an ?_
   (repeat (first|refine aO ?_|refine aT ?_))
   exact hK w I
  | i+3=>simp at hv
 have a6:=ae b9 (ae C u u.lt) (ae C u u.lt).lt;have h9:=ae b9 (ae C j j.lt) (ae C j j.lt).lt
 (repeat (first|(refine VA ?_ (by assumption) ?_ ?_;rotate_left;exact rfl)|(refine HU ?_ (by assumption) ?_ ?_;rotate_left;exact rfl)|refine aX ?_|refine aF ?_))
 refine dl (vs:=[ptr p,ci ((cf L).length:Nat),.bool false]) kr <|br ?_;intro w10 ap a0 _;have S9:=b9.size;have ad:Below w8.heap.size w8 w10:=b9.trans (a0.mono S9);refine h w10 _ _ _ _ a2 (al.trans (ad.mono oo)) ((((L5.below am oA).below C oA).below ad oA).mono oo) ⟨d8.below ad,ap⟩ oo
theorem ZP {x:Value}{vs:List (Option Addr×Nat×Nat)}{L:List (List UInt8)}(U:blk w q 154 [ptr p,x,.bool false])(hL:RBB w a n c vs L)(J:n≤4294967296)(M:Dj L≤1000000000000)(ok:okR L)(h:∀j C u w',OB w' w.heap.size j C u (cf L)→Below w.heap.size w w'→K (.tuple #[.slice j C u,ci 0]) w'):call Q 122 #[ptr q,.slice a n c] K w:=by
 refine ak (goK func122) (EW ?_);refine gy (v:=.bool false) (by unfold eqG eqGuard;rfl) kr ?_
 (repeat (first|refine aj ?_|refine KZ ?_|(refine zbY ?_ (by assumption) ?_ ?_;rotate_left;exact rfl)|refine aF ?_))
 refine zdf hL J M ok ?_;intro j C u w' O I
 (repeat (first|refine bu ?_|refine bv ?_))
 exact h j C u w' O I
theorem zbT {x:Value}(I:V0.oneCell'=true)(C:blk w q 154 [ptr p,x,.bool false])(h:∀w',blk w' q 154 [ptr p,V0,.bool false]→Ch [q] w w'→K (ci 0) w'):call Q 125 #[ptr q,V0,ci 0] K w:=by
 refine ak (goK func125) (Gg ?_)
 (repeat (first|refine aj ?_|refine KZ ?_|refine aO ?_))
 refine cB kf C sm rfl ?_;intro O j J;have j:blk O q 154 [ptr p,x,.bool false]:=j
 (repeat (first|refine aj ?_|refine KY ?_|refine DM ?_|refine aO ?_|refine aT ?_))
 refine cB kf j sm I ?_;intro w2 u M
 (repeat (first|refine DN ?_))
 exact h w2 u ((Ch.of_oth J sm).trans (Ch.of_oth (F:=[q]) M sm) fun _ h=>.inl h)
def ACj (p q k1 k2:Nat)(x:Value)(v:Option Addr×Nat×Nat)(b:List UInt8)(w:World):Prop :=
 blk w k1 101 [ptr q]∧blk w k2 92 [slv v]∧blk w q 154 [ptr p,x,.bool false]∧TB w v b
theorem ACj.ch {x:Value}{v:Option Addr×Nat×Nat}{b g C:List UInt8}{off:Bool}(h:ACj p q c o x v b w)(u:DK w p g C k off)(j:Ch [p] w w'):ACj p q c o x v b w':=by
 refine⟨h.1.dk u j dc,h.2.1.dk u j dc,h.2.2.1.dk u j dc,h.2.2.2.ch j ?_⟩;obtain⟨s,n,M,O,J,I,_⟩:=u;exact noBy.of I dc
theorem ACj.drew {x:Value}{v:Option Addr×Nat×Nat}{b:List UInt8}(h:ACj p q c n x v b w):ACj p q c n x v b w.drew:=⟨h.1.drew,h.2.1.drew,h.2.2.1.drew,h.2.2.2.ch (F:=[]) ⟨rfl,rfl,rfl,Nat.le_refl _,fun _ _ _=>rfl⟩ fun _ _ _=>by simp⟩
theorem zed {vs:List (Option Addr×Nat×Nat)}{L:List (List UInt8)}(hj:JK w p q f)(hL:RBB w a n c vs L)(az:L≠[])(ok:okR L)(a3:f.length+(cf L).length≤4194304)(h:∀w',JK w' p q (f++cf L)→Ch [p,q] w w'→K (ci 0) w'):call Q 72 #[ptr q,.slice a n c] K w:=by
 have a5:=hL.lenL;have a9:=Bi L;have a7:0<L.length:=List.length_pos_iff.2 az;obtain⟨hd,hj⟩:=hj;refine ak (goK func72) (Hd ?_);refine br ?_;intro w1 O b1 _;have O:blk w1 w.heap.size 101 [ptr q]:=O
 (repeat (first|(refine VB ?_ (by assumption) ?_ ?_;rotate_left;exact rfl)))
 refine ZP (ae b1 hj hj.lt) (hL.below b1 oA) oo oo ok ?_;intro a2 I c2 w2 o2 b2;have a8:=o2.len;have ar:=ae b2 O O.lt;have ag:Below w.heap.size w w2:=b1.trans (b2.mono b1.size)
 (repeat (first|refine bu ?_|refine bv ?_))
 refine df (z:=.slice none 0 0) kr ?_;intro w3 aa b3 S3;have aa:blk w3 w2.heap.size 92 [.slice none 0 0]:=aa;refine cB kf aa sm rfl ?_;intro w4 M o4;have M:blk w4 w2.heap.size 92 [slv (a2,I,c2)]:=M;have Z:Below w2.heap.size w2 w4:=b3.trans o4.below;have J:Below w.heap.size w w4:=ag.trans (Z.mono ag.size);have d4:=hd.below J
 have am:=ae J hj hj.lt;have av:=ae Z ar ar.lt;have t4:=TB.of_ob (OB.below o2 Z oA)
 (repeat (first|refine zb2 ?_|refine aj ?_|refine KX ?_|(refine HU ?_ (by assumption) ?_ ?_;rotate_left;exact rfl)|(refine VB ?_ (by assumption) ?_ ?_;rotate_left;exact rfl)|refine aO ?_|refine aX ?_|refine dh ?_|refine ao oo ?_|refine iZ ?_))
 obtain⟨i,hi,hz,ap,a4⟩:=info_parts Vu;refine Vc (vs:=[.func (.func 123) #[] #[ptr w.heap.size,ptr w2.heap.size],.func (.func 64) #[ptr p] #[]]) rfl rfl underlying208 hi hz ap rfl sm sm (by simp[Value.cells]) ?_;intro C b5;generalize (w4.alloc _)=w5 at C b5 ⊢;have d5:=d4.below b5;have a6:=d4.lt
 have af:ACj p q w.heap.size w2.heap.size (ci (f.length:Nat)) (a2,I,c2) (cf L) w5:=⟨ae b5 av av.lt,ae b5 M M.lt,ae b5 am am.lt,t4.ch (F:=[]) (Ch.of_below b5) fun _ _ _=>by simp⟩
 refine Xt (St:=fun i w' => Ch [p] w5 w'∧match i with|0=>DK w' p f f 0 false|1=>DK w' p f (f++cf L) 1 false|_=>DK w' p (f++cf L) (f++cf L) 0 false) (fun _ _ hs=>cD C fun k hk=>hs.1.block k (World.ownsRow.lt C k hk).2 fun hh=>by have:=(World.ownsRow.lt C k hk).1;have:=mS hh;omega) ?_ ⟨Ch.refl _ _,d5⟩ sm fun w6 s6=>?_
 ·intro i v hv w K hs j
  match i with
  | 0 =>
   simp only[List.getElem?_cons_zero,Option.some.injEq]at hv;subst hv;obtain⟨cs,aS⟩:=hs;refine dn rfl (ak (goK func123) (ES ?_));have al:=(af.ch d5 cs).drew
   refine au (ACj p q _ w2.heap.size (ci (f.length:Nat)) (a2,I,c2) (cf L)) al <|ab (fun x u _=>lK (v:=ptr q) u.1 rfl) <|ab (fun x u _=>aj) <|ab (fun x u _=>KX) <|ab (fun x u _=>lK (v:=ptr p) u.2.2.1 rfl) <|ab (fun x u _=>lK (v:=slv (a2,I,c2)) u.2.1 rfl) <|YV (aS.below (Below.refl _ w).drew) al.2.2.2.rb oo a3 ?_;intro w' ad c'
   exact au (fun _=>True) trivial (j w' ⟨cs.trans (show Ch [p] w w' from⟨c'.os,c'.tape,c'.output,c'.size,c'.block⟩) fun _ h=>.inl h,ad⟩)
  | 1 =>
   simp only[List.getElem?_cons_succ,List.getElem?_cons_zero,Option.some.injEq]at hv;subst hv;exact dn rfl (ze6 hs.2 fun w' ad c' => j w' ⟨hs.1.trans c' fun _ h=>.inl h,ad⟩)
  | i+2=>simp at hv
 have U:=(af.ch d5 s6.1).drew
 refine EU <|au (ACj p q w.heap.size w2.heap.size (ci (f.length:Nat)) (a2,I,c2) (cf L)) U <|ab (fun x u _=>lK (v:=ptr q) u.1 rfl) <|ab (fun x u _=>lK (v:=ptr q) u.1 rfl) <|ab (fun x u _=>aj) <|ab (fun x u _=>KY) <|ab (fun x u _=>lK (v:=ci (f.length:Nat)) u.2.2.1 rfl) <|ab (fun x u _=>lK (v:=slv (a2,I,c2)) u.2.1 rfl) <|ab (fun x u _=>we) <|ab (fun x u _=>aM (by show _≤(f.length:Int)+(I:Int);omega) (by show (f.length:Int)+(I:Int)≤_;omega)) <|zbT rfl U.2.2.1 ?_
 intro w7 an c7;refine au (fun _=>True) trivial ?_;have a0:((f.length:Nat):Int)+(((a2,I,c2):Option Addr×Nat×Nat).2.1:Int)=(((f++cf L).length:Nat):Int):=by rw[List.length_append];show _+(I:Int)=_;omega
 rw[a0]at an;have d6:DK w6.drew p (f++cf L) (f++cf L) 0 false:=DK.below s6.2 (Below.refl _ w6).drew;have c6:Ch [p] w w6.drew:=((Ch.of_below (J.trans (b5.mono J.size))).trans s6.1 fun _ h=>.inl h).trans (Ch.of_below (F:=[]) (Below.refl _ w6).drew) fun _ h=>by cases h
 have a1:p≠q:=fun e=>by subst e;obtain⟨s,m,la,lc,fz,hb,_⟩:=hd;exact absurd rfl (hb.ne hj dc)
 exact h w7 ⟨d6.ch c7 (noBy.of U.2.2.1 dc) (by simpa using a1),an⟩ ((c6.mono fun _ h=>by simp_all).trans c7 fun _ h=>.inl (by simp_all))
end
end
end
section
def eS (l:List (Nat×Nat)):List UInt8:=l.flatMap fun q=>bl q.1 q.2
def jG (V:List Int):List (Nat×Nat):=V.map fun v=>(v.toNat,8)
def Dg (e:EV):List (Nat×Nat):=(e.o.toNat,1)::(e.s.toNat,8)::jG e.V++[(e.k.toNat,1),(e.n.toNat,8),(e.t.toNat,1),(e.a.toNat,8),(e.r.toNat,8),(e.f.toNat,8)]
def evB (e:EV):List UInt8:=eS (Dg e)
abbrev M64 :Int:=18446744073709551616
structure uJ (e:EV):Prop where
 d:∀v∈e.V,0≤v
 n:0≤e.n∧e.n<M64
 r:0≤e.r∧e.r<M64
 f:0≤e.f∧e.f<M64
theorem EF {l r:List (Nat×Nat)}:eS (l++r)=eS l++eS r:=by unfold eS;rw[List.flatMap_append]
theorem Ta {L:List (Nat×Nat)}{x:Nat}(h:L[i]? = some (x,k)):eS L=eS (L.take i)++bl x k++eS (L.drop (i+1)):=by
 obtain⟨hi,j⟩:=gS h
 conv=>lhs;rw[←List.take_append_drop i L,List.drop_eq_getElem_cons hi,j,EF]
 rw[List.append_assoc];rfl
theorem YH {L:List (Nat×Nat)}{x:Nat}(h:L[i]? = some (x,k))(j:k=1∨k=8)(C:x<256 ^ k):pw (eS L) ((eS (L.take i)).length:Nat) (k:Nat)=(x,(((eS (L.take i)).length+k:Nat):Int),0):=by
 have e:=Ta h;have I:(eS L).length=(eS (L.take i)).length+k+(eS (L.drop (i+1))).length:=by rw[e];simp[bm];omega
 have u:rC (k:Nat)≠0:=by rcases j with rfl|rfl<;>decide
 unfold pw;rw[if_neg (by rintro(h|h|h);exact u h;omega;omega),if_neg oo,Int.toNat_natCast,Int.toNat_natCast]
 have:((eS L).drop (eS (L.take i)).length).take k=bl x k:=by
  rw[e,List.append_assoc,List.drop_left,List.take_append_of_le_length (by rw[bm];omega),tL (by rw[bm];omega)]
 rw[this,IB,Nat.mod_eq_of_lt C];rfl
section
variable {e:EV}
theorem QG :(evB e).length=91:=by simp[evB,eS,Dg,jG,EV.V,bm]
theorem zaV (h:bJ e=true):1≤e.k∧e.k≤7:=by rcases rS h with⟨k,_⟩|⟨k,_⟩|⟨k,_⟩|⟨k,_⟩|⟨k,_⟩|⟨k,_⟩|k<;>omega
end
end
section
open Go.RowKit
def KR (e1 b3 put4:Value)(zf:Nat→Value):List Value:=zf 0::e1::zf 2::b3::put4::zT zf 5 46 ([])
def vD (K:KV):KE:=ah Q (cd f71 (b1 511)) (rk f71 K) xf (rk f71 K)
theorem Tc {K:KV}{e0:Value}{w:World}(h:box Q 35 e0 (fun V0=>ld Q 35 V0 fun t5=>call Q 106 #[t5] fun t6=>un Q .not t6 fun t7 w=>cond t7 (K cN w) (alc Q 92 (fun W0=>ai Q 35 V0 0 fun t10=>ld Q 3 t10 fun t11=>conv Q 3 31 t11 fun t12=>aZ Q (.func (.func 119) #[] #[W0]) #[t12,ci 1] fun t13=>ai Q 35 V0 1 fun t15=>ld Q 31 t15 fun t16=>aZ Q (.func (.func 119) #[] #[W0]) #[t16,ci 8] fun t17 w=>aE (fun S w=>hL S 92 W0 fun t18=>hF S 35 V0 2 fun t19=>hL S 33 t19 fun t20=>call Q 121 #[t20] (fun t21=>aU S fun _=>blt Q .append #[92,92] 92 #[false,false] #[t18,t21] fun t22=>aE fun _=>sto Q 92 W0 t22 fun _=>ai Q 35 V0 3 fun t24=>ld Q 5 t24 fun t25=>conv Q 5 31 t25 fun t26=>aZ Q (.func (.func 119) #[] #[W0]) #[t26,ci 1] fun t27=>vD K (KR V0 W0 (.func (.func 119) #[] #[W0]) (zV (zV (zV zu 0 [e0]) 2 [cN]) 5 [t5,t6,t7,.func (.func 119) #[] #[W0],.func (.func 119) #[] #[W0],t10,t11,t12,t13,.func (.func 119) #[] #[W0],t15,t16,t17,t18,t19,t20,t21,t22,.func (.func 119) #[] #[W0],t24,t25,t26,t27]))) w) w.drew) w)) w):Gives Q 71 #[e0] w K:=by
 refine aq func71 (by kernel_rfl) ?_
 refine Eq.mp (congrArg (fun c=>ah Q c _ _ _ _ w) (by kernel_rfl:(rep (b1 511) (cd f71 (b1 511)) (cd f71 []))=(cd f71 []))) ?_
 revert h
 delta vD
 generalize (cd f71 (b1 511))=xc0
 exact mpF
theorem QJ (h:ai Q 35 V0 4 (fun j=>ld Q 31 j fun u=>aZ Q X0 #[u,ci 8] fun _=>ai Q 35 V0 5 fun C=>ld Q 3 C fun I=>conv Q 3 31 I fun J=>aZ Q X0 #[J,ci 1] fun _=>ai Q 35 V0 6 fun M=>ld Q 2 M fun O=>conv Q 2 31 O fun U=>aZ Q X0 #[U,ci 8] fun _=>ai Q 35 V0 7 fun Z=>ld Q 31 Z fun aa=>aZ Q X0 #[aa,ci 8] fun _=>ai Q 35 V0 8 fun ad=>ld Q 31 ad fun af=>aZ Q X0 #[af,ci 8] fun _=>ld Q 92 W0 K) w):vD K (KR V0 W0 X0 zf) w:=by
 delta vD;exact mpK h
attribute [irreducible] vD
theorem QI (h:ld Q 92 X0 (fun C=>call Q 120 #[C,V0,W0] fun u=>ext Q u 0 fun j=>ext Q u 1 fun _=>sto Q 92 X0 j fun _=>K (.tuple #[])) w):Gives Q 119 #[V0,W0,X0] w K:=by
 refine aq func119 kr ?_;exact mpK h
def uj (at1 b2 e4 next5 t8:Value)(zf:Nat→Value):List Value:=zf 0::at1::b2::zf 3::e4::next5::zf 6::zf 7::t8::zT zf 9 66 ([])
def ym (at1 b2 e4 next5:Value)(zf:Nat→Value):List Value:=zf 0::at1::b2::zf 3::e4::next5::zT zf 6 69 ([])
def JQ (e4 next5 err6 take7:Value)(zf:Nat→Value):List Value:=zT zf 0 4 (e4::next5::err6::take7::zT zf 8 67 ([]))
def JR (e4 next5 err6:Value)(zf:Nat→Value):List Value:=zT zf 0 4 (e4::next5::err6::zT zf 7 68 ([]))
def kR (K:KV):KE:=kZ f65 [1,1] K
def nJ (K:KV):KE:=kY f65 [1,0,0,1] (kR K) (xx xf (kR K) 0) K
def uh (K:KV):KE:=ah Q (cd f65 (b1 49)) (nJ K) (xx xf (kR K) 0) (rk f65 K)
def yl (K:KV):KE:=ah Q (cd f65 (b1 127)) (rk f65 K) xf (rk f65 K)
def ui (K:KV):KE:=ah Q (cd f65 (b1 1023)) (rk f65 K) xf (rk f65 K)
theorem Sr {K:KV}{b0 V0:Value}{w:World}(h:box Q 92 b0 (fun W0=>alc Q 35 fun X0=>alc Q 3 fun Y0=>bT .lss 3 V0 (ci 0) fun t10=>uh K (uj V0 W0 X0 Y0 t10 (zV (zV (zV zu 0 [b0]) 6 [ci 0]) 9 [V0,t10]))) w):Gives Q 65 #[b0,V0] w K:=by
 refine aq func65 (by kernel_rfl) ?_
 refine Eq.mp (congrArg (fun c=>ah Q c _ _ _ _ w) (by kernel_rfl:(rep (b1 49) (cd f65 (b1 49)) (cd f65 []))=(cd f65 []))) ?_
 revert h
 delta uh kR nJ
 generalize (cd f65 (b1 49))=xc0
 exact mpF
theorem Pu (h:cond I1 (nJ K (uj V0 W0 X0 Y0 I1 zf) w) (ld Q 92 W0 (fun j=>lN 92 j fun t13=>bF .gtr 3 V0 t13 fun t14=>nJ K (uj V0 W0 X0 Y0 t14 (zV zf 11 [V0,j,t13,t14]))) w)):uh K (uj V0 W0 X0 Y0 I1 zf) w:=by
 delta uh;revert h;generalize (nJ K)=qc0;generalize (kR K)=qc1;exact mpF
theorem Pz (h:cond I1 (ld Q 35 X0 (fun t15=>sto Q 35 X0 t15 fun _=>sto Q 3 Y0 (ci 0) fun _=>aV Q [(some 35,X0),(some 3,Y0),(none,ci 1)] K) w) (ld Q 92 W0 (fun u=>lN 92 u fun C=>bF .sub 3 C V0 fun I=>bT .lss 3 I (ci 91) fun j w=>cond j (ld Q 35 X0 (fun J=>sto Q 35 X0 J fun _=>sto Q 3 Y0 (ci 0) fun _=>aV Q [(some 35,X0),(some 3,Y0),(none,ci 5)] K) w) (kR K (ym V0 W0 X0 Y0 (zV (zV zf 8 [I1]) 16 [j,u,C,V0,I,j])) w)) w)):nJ K (uj V0 W0 X0 Y0 I1 zf) w:=by
 delta nJ;revert h;generalize (kR K)=qc0;exact mpF
abbrev GH (K:KV)(hA0:KE)(V0 W0 X0 Y0:Value)(zf:Nat→Value)(w:World):Prop :=
  sto Q 3 Y0 V0 (fun _=>aZ Q (.func (.func 103) #[] #[W0,Y0]) #[ci 1] fun t26=>conv Q 31 3 t26 fun t27=>aZ Q (.func (.func 103) #[] #[W0,Y0]) #[ci 8] fun t29=>ai Q 35 X0 0 fun t30=>sto Q 3 t30 t27 fun _=>ai Q 35 X0 1 fun t31=>sto Q 31 t31 t29 fun _=>ld Q 92 W0 fun t33=>ld Q 3 Y0 fun t34=>ld Q 3 Y0 fun t35=>bT .add 3 t35 (ci 48) fun t36=>slc Q 92 t33 (some t34) (some t36) none fun t37=>call Q 105 #[t37] fun t38=>ext Q t38 0 fun t39=>ext Q t38 1 fun t40=>ai Q 35 X0 2 fun t41=>sto Q 33 t41 t39 fun _=>hA0 (JQ X0 Y0 t40 (.func (.func 103) #[] #[W0,Y0]) (zV (zV zf 1 [V0,W0]) 23 [V0,.func (.func 103) #[] #[W0,Y0],.func (.func 103) #[] #[W0,Y0],t26,t27,.func (.func 103) #[] #[W0,Y0],t29,t30,t31,t38,t33,t34,t35,t36,t37,t38,t39,t40,t41]))) w
theorem Px (j:Code)(h:GH K (ah Q j (rk f65 K) (fun _ _ _=>False) (rk f65 K)) V0 W0 X0 Y0 zf w):ah Q (rep [1,1,1,1] j (cd f65 [1,1])) (rk f65 K) xf (rk f65 K) (ym V0 W0 X0 Y0 zf) w:=Eq.mp kr h
theorem Py (h:GH K (yl K) V0 W0 X0 Y0 zf w):kR K (ym V0 W0 X0 Y0 zf) w:=by
 delta kR
 exact Eq.mp (congrArg (fun c=>ah Q c (rk f65 K) xf (rk f65 K) (ym V0 W0 X0 Y0 zf) w) (by kernel_rfl:(rep [1,1,1,1] (cd f65 (b1 127)) (cd f65 [1,1]))=(cd f65 [1,1]))) (Px (cd f65 (b1 127)) h)
theorem Pv (h:ld Q 3 Y0 (fun t42=>bT .add 3 t42 (ci 48) fun t43=>sto Q 3 Y0 t43 fun _=>aZ Q H1 #[ci 1] fun t45=>conv Q 31 5 t45 fun t46=>aZ Q H1 #[ci 8] fun t48=>aZ Q H1 #[ci 1] fun t50=>conv Q 31 3 t50 fun t51=>ai Q 35 X0 3 fun t52=>sto Q 5 t52 t46 fun _=>ai Q 35 X0 4 fun t53=>sto Q 31 t53 t48 fun _=>ai Q 35 X0 5 fun t54=>sto Q 3 t54 t51 fun _=>aZ Q H1 #[ci 8] fun t56=>conv Q 31 2 t56 fun t57=>aZ Q H1 #[ci 8] fun t59=>aZ Q H1 #[ci 8] fun t61=>ai Q 35 X0 6 fun t62=>sto Q 2 t62 t57 fun _=>ai Q 35 X0 7 fun t63=>sto Q 31 t63 t59 fun _=>ai Q 35 X0 8 fun t64=>sto Q 31 t64 t61 fun _=>ui K (JR X0 Y0 Z0 (zV (zV zf 7 [H1]) 42 [t42,t43,H1,t45,t46,H1,t48,H1,t50,t51,t52,t53,t54,H1,t56,t57,H1,t59,H1,t61,t62,t63,t64]))) w):yl K (JQ X0 Y0 Z0 H1 zf) w:=by
 delta yl
 refine Eq.mp (congrArg (fun c=>ah Q c _ _ _ _ w) (by kernel_rfl:(rep [1,1,1] (cd f65 (b1 1023)) (cd f65 (b1 127)))=(cd f65 (b1 127)))) ?_
 revert h
 delta ui
 generalize (cd f65 (b1 1023))=xc0
 exact mpF
theorem Pw (h:bT .neq 40 Z0 (ci 0) (fun j w=>aG j false (fun J=>ld Q 35 X0 (fun u=>call Q 106 #[u] fun C=>un Q .not C fun M=>J [u,C,M]) w) (fun k=>k [uu,uu,uu] w) fun I=>pick j cT (gd I 2) fun O w=>cond O (bld Q 35 #[] (fun U=>sto Q 35 X0 U fun _=>sto Q 3 Y0 (ci 0) fun _=>aV Q [(some 35,X0),(some 3,Y0),(none,ci 5)] K) w) (aE (fun S w=>hL S 35 X0 fun Z=>hL S 3 Y0 fun aa=>sto Q 35 X0 Z (fun _=>aU S fun _=>sto Q 3 Y0 aa fun _=>aE fun _=>aV Q [(some 35,X0),(some 3,Y0),(none,ci 0)] K) w) w.drew)) w):ui K (JR X0 Y0 Z0 zf) w:=by
 delta ui;exact mpK h
attribute [irreducible] kR nJ uh yl ui
theorem Pt (h:ld Q 92 W0 (fun I=>ld Q 3 X0 fun t7=>call Q 104 #[I,t7,V0] fun C=>ext Q C 0 fun j=>ext Q C 1 fun u=>ext Q C 2 fun _=>sto Q 3 X0 u fun _=>K j) w):Gives Q 103 #[V0,W0,X0] w K:=by
 refine aq func103 kr ?_;exact mpK h
def rZ (out3 t7 t8:Value)(zf:Nat→Value):List Value:=zT zf 0 3 (out3::zT zf 4 3 (t7::t8::zT zf 9 14 ([])))
def GZ (out3 n5 t7 t8 t11:Value)(zf:Nat→Value):List Value:=zT zf 0 3 (out3::zf 4::n5::zf 6::t7::t8::zf 9::zf 10::t11::zT zf 12 11 ([]))
def H5 (out3:Value)(zf:Nat→Value):List Value:=zT zf 0 3 (out3::zT zf 4 19 ([]))
def gM (K:KV):KE:=kZ f121 [1,1,1] K
def vl (K:KV):KE:=ah Q (cd f121 (b1 58)) (gM K) (xx xf (gM K) 0) (rk f121 K)
def ko (K:KV)(B1:KE):KE:=kY f121 (b1 935) B1 (xx xf (gM K) 0) K
def vm (K:KV)(B1:KE):KE:=ah Q (cd f121 (b1 14950)) (ko K B1) (xx (xx (xx xf (gM K) 0) (ko K B1) 1) (ko K B1) 2) (rk f121 K)
theorem Qt (h:box Q 33 V0 (fun u=>mkS Q 92 (ci 0) (ci 48) fun j=>ld Q 33 u fun X0=>vl K (rZ j X0 (ci 0) (zV (zV zu 0 [V0,u,cN]) 6 [j]))) w):Gives Q 121 #[V0] w K:=by
 refine aq func121 kr ?_;revert h;delta vl gM;exact mpF
theorem Nk (Inv:Value→Value→World→Prop)(μ:Value→Value→World→Nat)(O:Inv V0 Y0 w)(U:∀(j u:Value) (M:Nat→Value) (w:World) (m:Nat),Inv j u w→m=μ j u w →
  bT .lss 3 u (ci 6) (fun J w=>cond J (idx Q 33 X0 u (fun I=>vm K (fun C w2=>(Inv (gd C 3) (gd C 8) w2)∧((μ (gd C 3) (gd C 8) w2)<m)) (GZ j I X0 u (ci 0) (zV M 9 [J,I]))) w) (gM K (H5 j (zV M 7 [X0,u,J])) w)) w):vl K (rZ V0 X0 Y0 zf) w:=by
 refine aI (cd f121 (b1 116)) (zr [(3,1),(5,1),(8,14)]) kr (vP [3,8] Inv) (vQ [3,8] μ) O ?_;intro e' w' hI;have h:=U _ _ (zM zf (gd e') (zr [(3,1),(5,1),(8,14)])) w' _ hI rfl;revert h;delta vm ko;generalize (gM K)=qc0;exact mpF
theorem Nl (Inv:vI 3)(μ:vM 3)(h0:Inv V0 W0 Z0 w)(hs:∀(j C u:Value) (dd:Nat→Value) (w:World) (m:Nat),Inv j C u w→m=μ j C u w →
  bT .lss 3 u (ci 8) (fun J w=>cond J (call Q 169 #[C,ci 8] (fun t14=>conv Q 31 5 t14 fun U=>bg Q 92 1 #[(0,U)] fun Z=>blt Q .append #[92,92] 92 #[false,false] #[j,Z] fun M=>nC u fun O w=>(Inv M t14 O w)∧((μ M t14 O w)<m)) w) (ko K B1 (rZ j X0 Y0 (zV (zV dd 5 [C]) 11 [u,J])) w)) w):vm K B1 (GZ V0 W0 X0 Y0 Z0 zf) w:=by
 refine aI (cd f121 (b1 29900)) (zr [(3,1),(5,1),(11,10)]) kr (vP [3,5,11] Inv) (vQ [3,5,11] μ) h0 ?_;intro e' w' hI;have h:=hs _ _ _ (zM zf (gd e') (zr [(3,1),(5,1),(11,10)])) w' _ hI rfl;revert h;generalize (gM K)=qc0;generalize (ko K B1)=qc1;exact mpF
theorem Nm (h:K V0 w):gM K (H5 V0 zf) w:=by
 delta gM;exact mpK h
theorem Nn (h:nC Y0 (fun j=>B1 (rZ V0 X0 j (zV zf 21 [j]))) w):ko K B1 (rZ V0 X0 Y0 zf) w:=by
 delta ko;revert h;generalize (gM K)=qc0;exact mpF
attribute [irreducible] gM vl ko vm
theorem UA (h:box Q 92 V0 (fun b1=>alc Q 33 fun v2=>ld Q 92 b1 fun t4=>lN 92 t4 fun I=>bT .neq 3 I (ci 48) fun J w=>cond J (ld Q 33 v2 (fun t7=>sto Q 33 v2 t7 fun _=>aV Q [(some 33,v2),(none,ci 5)] K) w) (call Q 155 #[.func (.func 156) #[] #[b1]] (fun M=>sto Q 33 v2 M fun _=>ld Q 33 v2 fun j=>call Q 110 #[j] fun u=>un Q .not u fun C w=>cond C (bld Q 33 #[] (fun t13=>sto Q 33 v2 t13 fun _=>aV Q [(some 33,v2),(none,ci 5)] K) w) (ld Q 33 v2 (fun t14=>sto Q 33 v2 t14 fun _=>aV Q [(some 33,v2),(none,ci 0)] K) w)) w)) w):Gives Q 105 #[V0] w K:=by
 refine aq func105 kr ?_;exact mpK h
def Im (n3 t10 t11 t12:Value)(zf:Nat→Value):List Value:=zT zf 0 3 (n3::zT zf 4 6 (t10::t11::t12::zT zf 13 10 ([])))
def Io (n3:Value)(zf:Nat→Value):List Value:=zT zf 0 3 (n3::zT zf 4 19 ([]))
def mC (K:KV):KE:=kZ f156 [1,1] K
def xa (K:KV):KE:=ah Q (cd f156 [1,0,1,0]) (mC K) (xx xf (mC K) 0) (rk f156 K)
theorem RG (h:ld Q 92 Y0 (fun j=>bT .mul 3 V0 (ci 8) fun u=>slc Q 92 j (some u) none none fun C=>slc Q 92 C none (some (ci 8)) none fun W0=>lN 92 W0 fun X0=>xa K (Im (cu 0) W0 X0 (ci 0) (zV (zV zu 0 [V0,Y0]) 6 [j,V0,u,C]))) w):Gives Q 156 #[V0,Y0] w K:=by
 refine aq func156 kr ?_;revert h;delta xa mC;exact mpF
theorem OT (Inv:Value→Value→World→Prop)(μ:Value→Value→World→Nat)(Z:Inv V0 Y0 w)(hs:∀(u j:Value) (U:Nat→Value) (w:World) (m:Nat),Inv u j w→m=μ u j w →
  lS j X0 (fun t13 w=>cond t13 (aL Q 92 W0 j (fun t14=>ld Q 5 t14 fun t15=>bT .shl 31 u (cu 8) fun M=>conv Q 5 31 t15 fun O=>bF .or 31 M O fun I=>nC j fun J w=>(Inv I J w)∧((μ I J w)<m)) w) (mC K (Io u (zV U 10 [W0,X0,j,t13])) w)) w):xa K (Im V0 W0 X0 Y0 zf) w:=by
 refine aI (cd f156 (b1 52)) (zr [(3,1),(5,1),(12,10)]) kr (vP [3,12] Inv) (vQ [3,12] μ) Z ?_;intro e' w' hI;have h:=hs _ _ (zM zf (gd e') (zr [(3,1),(5,1),(12,10)])) w' _ hI rfl;revert h;generalize (mC K)=qc0;exact mpF
theorem OU (h:K V0 w):mC K (Io V0 zf) w:=by
 delta mC;exact mpK h
attribute [irreducible] mC xa
theorem Ea (h:conv Q 3 251 W0 (fun t7=>bT .and 251 t7 (cu 63) fun u=>bF .shl 31 V0 u fun j=>bin Q .sub 251 true false (cu 64) u fun t14=>bF .shr 31 V0 t14 fun t15=>bF .or 31 j t15 K) w):Gives Q 169 #[V0,W0] w K:=by
 refine aq func169 kr ?_;exact mpK h
end
section
attribute [local irreducible] bin un conv call aZ blt slc ai fld aL idx lkp cP eP eSt rng nxt ent ext alc box bld bg ld sto aJ cr mkS ifc pick rdy wts aG sti cond aV Gives ah dy dP cOp
section
open Go.RowKit
def rotB (x:Nat):Nat:=x%72057594037927936*256+x / 72057594037927936
def rotI (j x:Nat):Nat:=x%256 ^ (8-j)*256 ^ j+x / 256 ^ (8-j)
theorem zas {x:Nat}(u:x<18446744073709551616)(h:j<8):rotB (rotI j x)=rotI (j+1) x∧rotI (j+1) x%256=x / 256 ^ (7-j)%256∧rotI j x<18446744073709551616:=by
 rcases(by omega:j=0∨j=1∨j=2∨j=3∨j=4∨j=5∨j=6∨j=7)with rfl|rfl|rfl|rfl|rfl|rfl|rfl|rfl<;>(simp only[rotI,rotB];omega)
theorem ze9 {a:Nat}(h:a%256=b%256):UInt8.ofNat a=UInt8.ofNat b:=by
 rw[←UInt8.toNat_inj];simpa using h
theorem tR {V:List Int}:(eS (jG V)).length=8*V.length:=by
 induction V with
 | nil=>rfl
 | cons v V ih =>
  unfold jG eS at *;rw[List.map_cons,List.flatMap_cons,List.length_append,ih,bm,List.length_cons];omega
theorem Xu {V:List Int}(h:V[i]? = some v):eS (jG (V.take (i+1)))=eS (jG (V.take i))++bl v.toNat 8:=by
 rw[List.take_add_one,h];unfold jG;rw[List.map_append,EF];simp[eS]
theorem Wq {s:TypeId}{k:IntKind}{u:TypeDesc}(j:Tryz.prog.underlying s=some u)(C:0≤x)(I:x<18446744073709551616)(h:K (.int .u64 x) w):conv Q s 31 (.int k x) K w:=by
 refine bX j underlying31 ?_;rw[eu,show x%18446744073709551616=x by omega];exact h
theorem zdV {x:Nat}(u:x<18446744073709551616)(h:K (.int .u64 (rotB x:Nat)) w):call Q 169 #[.int .u64 (x:Nat),ci 8] K w:=by
 refine ak (goK func169) (Ea (bX underlying3 underlying251 (Qw ?_)));rw[show oM .and .u64 (IntKind.u64.wrap 8) 63=8 by decide];refine yL oo (jK ?_);rw[show IntKind.u64.wrap (64-8)=56 by decide];refine Ek oo (Pe ?_);have e:=LZ x 7 oo;rw[show (8*((7:Nat):Int))=56 by omega]at e;rw[e,show (256 ^ 7:Nat)=72057594037927936 by decide]
 have m:x%72057594037927936<72057594037927936:=by omega
 have o:=Rb (n:=x%72057594037927936) (c:=x / 72057594037927936) m oo;have j:(2:Int) ^ min (8:Int).toNat IntKind.u64.bits=256:=rfl;rw[j,eu]at o ⊢;rw[show (x:Int)*256%18446744073709551616=((x%72057594037927936:Nat):Int)*256%18446744073709551616 by omega,o];exact h
theorem zaL {V:List Int}(Z:V.length=6)(h0:∀v∈V,0≤v∧v<18446744073709551616)(h:∀w' a n c,OB w' w.heap.size a n c (eS (jG V))→Below w.heap.size w w'→K (.slice a n c) w'):call Q 121 #[.agg (vCs V).toArray] K w:=by
 refine ak (goK func121) (Qt (yf Z fun w1 z1 b1 s1=>?_));refine mk8 w.heap.size 48 rfl oo oo fun a2 w2 o2 b2=>?_;have z2:=ae b2 z1 z1.lt;have M:=b1.trans (b2.mono oo);refine ldA (n:=6) (vs:=vCs V) underlying33 rfl kr z2 (by rw[List.drop_zero,tL (by rw[bo];omega)]) (by rw[bo];exact Z) ?_
 refine Nk (Inv:=fun I i wr=>∃(p:Nat) (a:Option Addr) (c:Nat),p≤6∧i=ci p∧I=.slice a (8*p) c∧OB wr w.heap.size a (8*p) c (eS (jG (V.take p)))∧Below w.heap.size w wr) (μ:=fun _ i _=>6-(intOf i).toNat)
  ⟨0,_,_,Nat.zero_le _,rfl,rfl,o2,M⟩ ?_
 rintro _ _ dd w3 m ⟨p,a3,c3,hp,rfl,rfl,o3,b3⟩ hm;refine aK ?_;by_cases u:p<6
 ·have hv:V[p]? = some V[p]:=gE oo;obtain⟨v0,v1⟩:=h0 V[p] (List.getElem_mem _);have hs:=Xu hv;refine ax oo (zb1 underlying33 kf kf u (v:=u6 V[p]) (by rw[yY Z u,List.getD_eq_getElem?_getD,hv];rfl) ?_);generalize V[p]=v at v0 v1 hs hv;obtain⟨x,rfl⟩:=Int.eq_ofNat_of_zero_le v0;rw[Int.toNat_natCast]at hs
  have hx:x<18446744073709551616:=by omega
  refine Nl (Inv:=fun I n j wr=>∃(q:Nat) (a:Option Addr) (c:Nat),q≤8∧j=ci q∧n=.int .u64 (rotI q x:Nat)∧I=.slice a (8*p+q) c∧OB wr w.heap.size a (8*p+q) c (eS (jG (V.take p))++(bl x 8).take q)∧Below w.heap.size w wr) (μ:=fun _ _ j _=>8-(intOf j).toNat)
   ⟨0,a3,c3,Nat.zero_le _,rfl,by simp[rotI,u6];omega,rfl,by rw[List.take_zero,List.append_nil];exact o3,b3⟩ ?_
  rintro _ _ _ dd w4 m4 ⟨q,a4,c4,hq,rfl,rfl,rfl,J,O⟩ aa;refine aK ?_;by_cases C:q<8
  ·obtain⟨r1,r2,r3⟩:=zas hx C;refine ax oo (zdV r3 (bX underlying31 underlying5 ?_));rw[r1,SW,ze9 r2];have z4:=O.size;refine zd0 rfl fun w5 U r5 s5=>KA w.heap.size (J.below U oo) r5 oo oo fun a6 c6 w6 o6 g6=>?_
   refine aM oo oo ⟨⟨q+1,a6,c6,C,congrArg ci (by push_cast;rfl),rfl,rfl,?_,(O.trans (U.mono oo)).grown g6 oo (fun k hk=>(OV.block (J.below U oo) k hk).1)⟩,by rw[aa];show 8-((q:Int)+1).toNat<8-(q:Int).toNat;omega⟩;rw[KB x 8 q C, ←List.append_assoc];exact o6
  ·obtain rfl:q=8:=by omega
   refine ao oo (Nn (aM oo oo ⟨⟨p+1,a4,c4,u,congrArg ci (by push_cast;rfl),rfl,?_,O⟩,by rw[hm];show 6-((p:Int)+1).toNat<6-(p:Int).toNat;omega⟩));rw[hs];rw[tL (l:=bl x 8) (i:=8) (by rw[bm];exact Nat.le_refl _)]at J;exact J
 ·obtain rfl:p=6:=by omega
  refine ao oo (Nm (h w3 _ _ _ ?_ b3));rw[tL oo]at o3;exact o3
theorem zec {V:List Int}(hV:V.length=6)(h0:∀v∈V,0≤v∧v<18446744073709551616)(hb:blk w b 92 [.slice a n c])(hr:RB w a n c (eS (jG V)))(hk:k<6)(h:K (u6 (V.getD k 0)) w):call Q 156 #[iv (k:Nat),pB b] K w:=by
 have hn:=hr.len;rw[tR,hV]at hn;have hv:V[k]? = some V[k]:=gE oo;obtain⟨v0,v1⟩:=h0 V[k] (List.getElem_mem _);rw[List.getD_eq_getElem?_getD,hv,Option.getD_some]at h;have J:eS (jG V)=eS ((jG V).take k)++bl V[k].toNat 8++eS ((jG V).drop (k+1)):=Ta (by unfold jG;rw[List.getElem?_map,hv];rfl);have hl:(eS ((jG V).take k)).length=8*k:=by
  rw[show (jG V).take k=jG (V.take k)by unfold jG;rw[List.map_take],tR,List.length_take];omega
 generalize V[k]=v at h v0 v1 J;obtain⟨x,rfl⟩:=Int.eq_ofNat_of_zero_le v0;rw[Int.toNat_natCast]at J;refine ak (goK func156) (RG (lK (v:=.slice a n c) hb rfl (Ju oo oo ?_)));rw[show (k:Int)*8=((8*k:Nat):Int)by omega];refine Wp (l:=8*k) (m:=n) hr (.inr ⟨_,rfl⟩) (.inl ⟨rfl,rfl⟩) oo oA fun a1 r1=>?_
 refine Wp (l:=0) (m:=8) r1 (.inl ⟨rfl,rfl⟩) (.inr ⟨_,rfl⟩) oo oo fun a2 r2=>?_;have e:(((eS (jG V)).take n).drop (8*k)).take 8=bl x 8:=by
  have hL:(eS (jG V)).length≤n:=by rw[tR];omega
  rw[tL hL,J,List.append_assoc,List.drop_append_of_le_length oo,List.drop_of_length_le oo,List.nil_append,List.take_append_of_le_length (by rw[bm];omega),tL (by rw[bm];omega)]
 rw[List.drop_zero,e]at r2;refine we <|OT (Inv:=fun n i wr=>∃j:Nat,j≤8∧i=ci j∧n=.int .u64 (nU ((bl x 8).take j):Nat)∧wr=w) (μ:=fun _ i _=>8-(intOf i).toNat) ⟨0,Nat.zero_le _,rfl,rfl,rfl⟩ ?_;rintro _ _ dd _ m ⟨j,hj,rfl,rfl,rfl⟩ hm;refine aK ?_;by_cases U:j<8
 ·refine ax oo (ZE r2 oo oo fun u=>ld8 u (yL oo (bX underlying5 underlying31 ?_)));have aa:=Nz ((bl x 8).take j);have Z:((bl x 8).take j).length=j:=by rw[List.length_take,bm];omega
  rw[Z]at aa;have I:nU ((bl x 8).take j)<72057594037927936:=by
   have:256 ^ j≤256 ^ 7:=Nat.pow_le_pow_right oo oo
   omega
  generalize O:(bl x 8).getD (((j:Nat):Int)).toNat 0=cc;have M:=cc.toNat_lt;refine Pe ?_;rw[eu (cc.toNat:Int),show (cc.toNat:Int)%18446744073709551616=((cc.toNat:Nat):Int)by omega,Rb I oo];have C:(bl x 8).getD j 0=cc:=by simpa using O
  refine aM oo oo ⟨⟨j+1,U,congrArg ci (by push_cast;rfl),?_,rfl⟩,by rw[hm];show 8-((j:Int)+1).toNat<8-(j:Int).toNat;omega⟩;rw[Sg _ _ (by rw[bm];omega),Pd,C]
 ·obtain rfl:j=8:=by omega
  refine ao oo (OU ?_);rw[tL (by rw[bm];omega),IB,Nat.mod_eq_of_lt oo];exact h
theorem zf0 {V:List Int}(u:V.length=6)(h0:∀v∈V,0≤v∧v<18446744073709551616)(ad:leV V (List.replicate 6 1099511627776)=true)(hr:RB w a n c (eS (jG V)))(h:∀w',Below w.heap.size w w'→K (.tuple #[.agg (vCs V).toArray,ci 0]) w'):call Q 105 #[.slice a n c] K w:=by
 have hn:=hr.len;rw[tR,u]at hn;refine ak (goK func105) (UA (br fun I Z b1 s1=>?_));have Z:blk I w.heap.size 92 [.slice a n c]:=Z;refine df (z:=.agg (vCs [0,0,0,0,0,0]).toArray) kr fun w2 z2 b2 s2=>?_;have z2:=cZ z2
 have J:=ae b2 Z Z.lt;have j:=b1.trans (b2.mono b1.size);refine lK (v:=.slice a n c) J rfl (we (aX (ao oo ?_)));have r2:RB w2 a n c (eS (jG V)):=RV.below hr j oA;refine RC u (fun k hk w3 U K' aa => dn (all:=#[iv (k:Nat),pB w.heap.size]) rfl (zec u h0 (ae U J J.lt) (RV.below r2 U oA) hk (aa w3 (Below.refl _ _)))) fun w3 U=>?_
 have z3:=ae U z2 z2.lt;refine ip (n:=6) (vs:=vCs V) kr (by rw[bo];exact u) z3 (by show 0+6≤6;omega) (by simp[vCs,u6,Value.oneCell']) fun w4 M o4=>?_;have M:blk w4 I.heap.size 33 (vCs V):=by
  rw[List.take_zero,List.nil_append,List.drop_of_length_le (by show 6≤0+6;omega),List.append_nil]at M;exact M
 have C:∀{y:World} {K:KV},blk y I.heap.size 33 (vCs V)→K (.agg (vCs V).toArray) y→ld Q 33 (pB I.heap.size) K y:=fun hy hK=>ldA (n:=6) (vs:=vCs V) underlying33 rfl kr hy (by rw[List.drop_zero,tL (by rw[bo];omega)]) (by rw[bo];exact u) hK;refine C M (YO u fun w5 b5=>bK ?_);rw[ad];have z5:=ae b5 M M.lt
 have O:Below I.heap.size w2 w4:=aR (U.mono oo) o4 oA;refine aF (C z5 (ip (n:=6) (vs:=vCs V) kr (by rw[bo];exact u) z5 (by rw[bo];omega) (by simp[vCs,u6,Value.oneCell']) fun w6 z6 o6=>?_));have z6:blk w6 I.heap.size 33 (vCs V):=by
  rw[List.take_zero,List.nil_append,List.drop_of_length_le (by rw[bo];omega),List.append_nil]at z6;exact z6
 exact FW (v:=.agg (vCs V).toArray) (fun _ hK=>C z6 hK) (h w6 (aR ((j.trans (O.mono b1.size)).trans (b5.mono (by have:=j.size;have:=O.size;omega))) o6 b1.size))
end
end
section
open Go.RowKit
theorem zdU {j C:Addr}{v v2 u:Value}(M:∀K':KV,K' v w→ld P t (.pointer (some j)) K' w)(O:∀K':KV,K' v2 w→ld P E (.pointer (some C)) K' w)(h:K (.tuple #[v,v2,u]) w):aV P [(some t,.pointer (some j)),(some E,.pointer (some C)),(none,u)] K w:=by
 have J:∀{t:TypeId} {j:Addr} {v:Value},(∀K':KV,K' v w→ld P t (.pointer (some j)) K' w)→(loadVar t j).run P w=.ok v w:=fun {t j v} M=>by
  have:=M (fun v' w' => v'=v∧w'=w) ⟨rfl,rfl⟩
  unfold ld okV at this;unfold Instr.loadAt at this;simp only[Instr.sureAddr,Sem.run_bind,Sem.run_pure,Result.andThen_ok]at this;split at this
  ·rename_i v' w' I;rw[I,this.1,this.2]
  ·exact this.elim
 unfold aV
 have:(oc [(some t,.pointer (some j)),(some E,.pointer (some C)),(none,u)]).run P w=.ok (.tuple #[v,v2,u]) w:=by simp[oc,asAddr,Sem.run_bind,J M,J O]
 rw[this];exact⟨rfl,h⟩
theorem OB.ne {l:List UInt8}(M:OB w B a n c l)(h:blk w g E cs)(C:E≠5):∀k,(Value.slice a n c).ownBlock=some k→k≠g:=fun k e J=>by
 subst J;rcases M.2 with⟨j,_⟩|⟨g,cap,u,j,_,I,_⟩
 ·rw[j]at e;cases e
 ·rw[j]at e;simp only[Value.ownBlock,Option.some.injEq]at e;subst e;unfold blk at h;rw[I]at h;simp only[Option.some.injEq,Obj.cells.injEq]at h;exact C h.2.1.symm
theorem Tw {l:List UInt8}(h:blk w b E cs)(C:OB w B a n c l)(u:w.grownBy w' (Value.slice a n c).ownBlock)(j:E≠5):blk w' b E cs :=
 h.kp (u.block b h.lt fun e=>C.ne h j b e.symm rfl)
theorem OB.othT {l:List UInt8}(h:OB w B a n c l)(u:blk w g E cs)(j:E≠5)(o:Oth g w w'):OB w' B a n c l:=cD h fun k C=>o.other k (h.ne u j k C)
theorem RV.oth3 {l:List UInt8}(h:RB w a n c l)(I:∀i,i<n→(pu a i).block<B)(o:Oth g w w')(J:B≤g):RB w' a n c l :=
 ⟨RV.len h,RV.cap h,RV.some_ h,RV.nil_ h,fun i u j=>by
  have hi:i<n:=by have:=(gS j).1;rw[RV.len h]at this;exact this
  have C:=RV.cell h i u j
  have:=I i hi
  rw[World.cell?_of_block (o.other _ oo)];exact C⟩
theorem zaU {e:EV}(h:bJ e=true):0≤e.a∧e.a≤1125899906842624:=by
 have C:e=ni e:=by
  unfold bJ at h;simp only[Bool.and_eq_true,decide_eq_true_eq]at h;exact h.2.2.2.2.2.1
 have u:=rS h;by_cases j:e.k=1∨e.k=2∨e.k=3∨e.k=5
 ·rcases u with⟨k,a,b⟩|⟨k,a,b⟩|⟨k,a,b,_⟩|⟨k,_⟩|⟨k,a,b,_⟩|⟨k,_⟩|k<;>first|omega|(simp only[MXA]at *; omega)
 ·have:e.a=0:=by rw[C];unfold ni;exact if_neg j
  omega
theorem zaW {e:EV}(h:bJ e=true):0≤e.t∧e.t≤6:=by
 have C:e=ni e:=by
  unfold bJ at h;simp only[Bool.and_eq_true,decide_eq_true_eq]at h;exact h.2.2.2.2.2.1
 have u:=rS h;by_cases j:e.k=5∨e.k=6
 ·rcases u with⟨k,_⟩|⟨k,_⟩|⟨k,_⟩|⟨k,_⟩|⟨k,_,_,a,b,_⟩|⟨k,a,b,_⟩|k<;>omega
 ·have:e.t=0:=by rw[C];unfold ni;exact if_neg j
  omega
structure EP (w0 w:World) (q p:Nat) (e:EV) (l:List UInt8):Prop where
 bq:blk w q 35 (evC e)
 bp:∃a n c,blk w p 92 [.slice a n c]∧OB w w0.heap.size a n c l
 ne:q≠p
 lo:w0.heap.size≤p
 bel:Below w0.heap.size w0 w
attribute [local irreducible] bin un conv call aZ blt slc ai fld aL idx lkp cP eP eSt rng nxt ent ext alc box bld bg ld sto aJ cr mkS ifc pick rdy wts aG sti cond aV Gives ah dy dP cOp
section
variable {w:World}{K:KV}{e:EV}
theorem KO {q:Nat}{l:List UInt8}(k:Nat)(h:EP w0 w q p e l)(hl:l.length≤1000)(J:k=1∨k=8)(h0:0≤v)(hv:v<((256 ^ k:Nat):Int))(u:r=(k:Nat))(hK:∀w',EP w0 w' q p e (l++bl v.toNat k)→K (.tuple #[]) w'):aZ Q (.func (.func 119) #[] #[pB p]) #[.int .u64 v,ci r] K w:=by
 subst u;obtain⟨x,rfl⟩:=Int.eq_ofNat_of_zero_le h0;obtain⟨a,n,c,C,M⟩:=h.bp;have hn:=M.len;have hx:x<256 ^ k:=by omega
 have j:x<18446744073709551616:=by rcases J with rfl|rfl<;>omega
 refine dn (all:=#[.int .u64 (x:Nat),ci (k:Nat),pB p]) rfl (ak (goK func119) (QI (lK (v:=.slice a n c) C rfl ?_)));refine put_c M.rb oo j fun Z n1 c1 w1 O b1=>bu (bv ?_);have hw:rC (k:Nat)≠0:=by rcases J with rfl|rfl<;>decide
 have hs:Dh l x (k:Nat)=(l++bl x k,0):=by
  unfold Dh;rw[if_neg hw,Int.toNat_natCast,if_neg oo]
 rw[hs]at O;have U:=ae b1 C C.lt;have q1:=ae b1 h.bq h.bq.lt;refine cB Eu U sm rfl fun w2 p2 I=>hK w2 ⟨I.blk q1 h.ne,⟨Z,n1,c1,p2,?_⟩,h.ne,h.lo,aR (h.bel.trans (b1.mono h.bel.size)) I h.lo⟩;exact OV.mono (O.othT U dc I) h.bel.size
theorem zbG (Z:bJ e=true)(J:uJ e)(h:∀w' a n c,OB w' w.heap.size a n c (evB e)→Below w.heap.size w w'→K (.slice a n c) w'):call Q 71 #[.agg (evC e).toArray] K w:=by
 obtain⟨o1,o6,aS,sM⟩:=gW Z;obtain⟨k1,k7⟩:=zaV Z;have ap:=XU Z;have ha:=zaU Z;have ht:=zaW Z;refine ak (goK func71) (Tc (yk fun w1 z1 b1 s1=>dT z1 (Cs fun w2 b2=>bK ?_)));rw[Z];have z2:=ae b2 z1 z1.lt;have I:=b1.trans (b2.mono b1.size);have a0:=b2.size;refine aF (df (z:=.slice none 0 0) kr fun w3 z3 b3 s3=>?_);have z3:blk w3 w2.heap.size 92 [.slice none 0 0]:=z3
 have O:EP w w3 w.heap.size w2.heap.size e []:=⟨ae b3 z2 z2.lt,⟨none,0,0,z3,OB.nil _ _⟩,by omega,I.size,I.trans (b3.mono I.size)⟩
 refine bw (lK (v:=iv e.o) O.bq rfl (Wq underlying3 oo oo (KO 1 O sm (.inl rfl) oo oo rfl fun w4 e4=>?_)));refine gN (lK (v:=u6 e.s) e4.bq rfl (KO 8 e4 (by simp[bm]) (.inr rfl) oo oo rfl fun w5 U=>?_));obtain⟨a5,n5,c5,p5,o5⟩:=U.bp
 refine au (fun y=>blk y w.heap.size 35 (evC e)∧blk y w2.heap.size 92 [.slice a5 n5 c5]) ⟨U.bq.drew,p5.drew⟩ <|ab (v:=.slice a5 n5 c5) (fun y d _ hK=>lK d.2 rfl hK) ?_;refine ab (fun y d _ hK=>qn hK) (ab (v:=.agg (vCs e.V).toArray) (fun y d _ hK=>ldA (n:=6) (vs:=vCs e.V) underlying33 rfl kr d.1 rfl rfl hK) ?_);refine zaL rfl (fun v hv=>⟨J.d v hv,?_⟩) fun w6 a6 n6 c6 an b6=>?_
 ·obtain⟨k,hk,rfl⟩:=List.mem_iff_getElem.1 hv
  have:=ap.2 k
  rw[List.getD_eq_getElem?_getD,gE hk,Option.getD_some]at this;unfold M40 at this;omega
 have u:Below w5.heap.size w5 w6:=(Below.refl _ w5).drew.trans b6;have q6:=ae u U.bq U.bq.lt;have p6:=ae u p5 p5.lt;have C:=o5.below u oA;have j:=U.bel.trans (u.mono U.bel.size);have l5:=o5.len;have l6:=an.len;have av:n5=9:=by rw[←l5];simp[bm]
 have az:n6=48:=by rw[←l6,tR];rfl
 refine aC ⟨q6,p6⟩ (KA w.heap.size C an.rb oo j.size fun a7 c7 w7 o7 g7=>?_);have q7:=Tw q6 C g7 dc;have p7:=Tw p6 C g7 dc;have aa:Below w.heap.size w w7:=j.grown g7 j.size fun k hk=>(OV.block C k hk).1;refine au (fun _=>True) trivial (cB Eu p7 sm rfl fun w8 p8 M=>?_)
 have e8:EP w w8 w.heap.size w2.heap.size e ([]++bl e.o.toNat 1++bl e.s.toNat 8++eS (jG e.V)):=⟨M.blk q7 O.ne,⟨a7,n5+n6,c7,p8,OB.othT o7 p7 dc M⟩,O.ne,O.lo,aR aa M O.lo⟩
 have hl:∀{r:List UInt8},([]++bl e.o.toNat 1++bl e.s.toNat 8++eS (jG e.V)++r).length=57+r.length:=by
  intro r;rw[List.length_append,List.length_append,tR];simp[bm,EV.V]
 refine mh (lK (v:=kv8 e.k) e8.bq rfl (Wq underlying5 oo oo (KO 1 e8 (by rw[←List.append_nil (_++eS _),hl];simp) (.inl rfl) oo oo rfl fun w9 e9=>?_)));refine QJ (dR (lK (v:=u6 e.n) e9.bq rfl (KO 8 e9 (by rw[hl];simp[bm]) (.inr rfl) J.n.1 (by have:=J.n.2;omega) rfl fun a1 ad=>?_)))
 refine gO (lK (v:=iv e.t) ad.bq rfl (Wq underlying3 ht.1 oo (KO 1 ad (by rw[List.append_assoc _ (bl _ _),hl];simp[bm]) (.inl rfl) ht.1 oo rfl fun a2 af=>?_)));refine du (lK (v:=iv e.a) af.bq rfl (Wq underlying2 ha.1 oo (KO 8 af (by rw[List.append_assoc _ (bl _ _),List.append_assoc _ (bl _ _),hl];simp[bm]) (.inr rfl) ha.1 oo rfl fun a3 ag=>?_)))
 refine gw (lK (v:=u6 e.r) ag.bq rfl (KO 8 ag (by simp[bm,tR,EV.V]) (.inr rfl) J.r.1 (by have:=J.r.2;omega) rfl fun a4 al=>?_));refine py (lK (v:=u6 e.f) al.bq rfl (KO 8 al (by simp[bm,tR,EV.V]) (.inr rfl) J.f.1 (by have:=J.f.2;omega) rfl fun ar am=>?_));obtain⟨a,n,c,hp,ho⟩:=am.bp;refine lK (v:=.slice a n c) hp rfl (h ar a n c ?_ am.bel)
 have:evB e=[]++bl e.o.toNat 1++bl e.s.toNat 8++eS (jG e.V)++bl e.k.toNat 1++bl e.n.toNat 8++bl e.t.toNat 1++bl e.a.toNat 8++bl e.r.toNat 8++bl e.f.toNat 8:=by
  unfold evB Dg;simp[eS,jG,EV.V]
 rw[this];exact ho
structure ET (w0 w:World) (a:Option Addr) (c:Nat) (e:EV) (cs:List Value) (pos:Nat):Prop where
 bb:blk w w0.heap.size 92 [.slice a 91 c]
 be:blk w (w0.heap.size+1) 35 cs
 bn:blk w (w0.heap.size+2) 3 [ci (pos:Nat)]
 rb:RB w a 91 c (evB e)
 rl:∀i,i<91→(pu a i).block<w0.heap.size
 bel:Below w0.heap.size w0 w
theorem KP {pos':Nat}(i k:Nat)(h:ET w0 w a c e cs b)(hi:(Dg e)[i]? = some (v.toNat,k))(O:k=1∨k=8)(J:0≤v)(hv:v<((256 ^ k:Nat):Int))(u:r=(k:Nat))(U:(eS ((Dg e).take i)).length=b)(C:pos'=b+k)(M:∀w',ET w0 w' a c e cs pos'→K (.int .u64 v) w'):aZ Q (.func (.func 103) #[] #[pB w0.heap.size,pB (w0.heap.size+2)]) #[ci r] K w:=by
 subst u C;obtain⟨x,rfl⟩:=Int.eq_ofNat_of_zero_le J;rw[Int.toNat_natCast]at hi;refine dn (all:=#[ci (k:Nat),pB w0.heap.size,pB (w0.heap.size+2)]) rfl (ak (goK func103) (Pt (lK (v:=.slice a 91 c) h.bb rfl (lK (v:=ci (b:Nat)) h.bn rfl ?_))));have I:=YH hi O oo;rw[U]at I;refine YI h.rb oo ?_;rw[show pw (evB e) (b:Nat) (k:Nat)=_ from I]
 have h2:w0.heap.size+2<w.heap.size:=h.bn.lt;refine PB (PC (PD (cB kf h.bn sm rfl fun w2 Z j=>M w2 ⟨j.blk h.bb oo,j.blk h.be oo,Z,RV.oth3 h.rb h.rl j oo,h.rl,aR h.bel j oo⟩)))
theorem KQ {v:Value}(h:ET w0 w a c e cs b)(I:∀w,(sizeOf t).run Q w=.ok 1 w)(O:f<cs.length)(J:v.oneCell'=true)(C:∀w',ET w0 w' a c e (cs.set f v) b→K undef w'):sto Q t (pA (w0.heap.size+1) (0+f)) v K w:=by
 have M:w0.heap.size+2<w.heap.size:=h.bn.lt;refine cB I h.be oo J fun w2 u j=>C w2 ⟨j.blk h.bb oo,by rw[Nat.zero_add]at u;exact u,j.blk h.bn oo,RV.oth3 h.rb h.rl j oo,h.rl,aR h.bel j oo⟩
theorem Z5 {d:TypeId}(j:Tryz.prog.underlying d=some (.int .i64))(u:0≤x)(C:x<9223372036854775808)(h:K (ci x) w):conv Q 31 d (.int .u64 x) K w:=by
 refine bX underlying31 j ?_;rw[eU oo oo];exact h
theorem zes :((evB e).take 57).drop 9=eS (jG e.V):=by
 have h:evB e=eS [(e.o.toNat,1),(e.s.toNat,8)]++eS (jG e.V)++eS [(e.k.toNat,1),(e.n.toNat,8),(e.t.toNat,1),(e.a.toNat,8),(e.r.toNat,8),(e.f.toNat,8)]:=by
  rw[←EF, ←EF];rfl
 have j:(eS [(e.o.toNat,1),(e.s.toNat,8)]).length=9:=by simp[eS,bm]
 have u:(eS (jG e.V)).length=48:=tR;rw[h,List.take_append_of_le_length (by rw[List.length_append];omega),tL (by rw[List.length_append];omega),List.drop_append_of_le_length oo,List.drop_of_length_le oo,List.nil_append]
theorem Za (hm:bJ e=true)(hf:uJ e)(hr:RB w a 91 c (evB e))(j:∀i,i<91→(pu a i).block<w.heap.size)(h:∀w',Below w.heap.size w w'→K (.tuple #[evV e,ci 91,ci 0]) w'):call Q 65 #[.slice a 91 c,ci 0] K w:=by
 obtain⟨o1,o6,cc,sM⟩:=gW hm;obtain⟨k1,k7⟩:=zaV hm;have al:=XU hm;have ha:=zaU hm;have ht:=zaW hm;obtain⟨n0,n1⟩:=hf.n;obtain⟨r0,r1⟩:=hf.r;obtain⟨f0,f1⟩:=hf.f;simp only[M64]at n1 r1 f1;refine ak (goK func65) (Sr (br fun w1 z1 b1 s1=>jT fun w2 z2 b2 s2=>df (z:=ci 0) kr fun w3 z3 b3 s3=>?_));have z1:blk w1 w.heap.size 92 [.slice a 91 c]:=z1
 have z3:blk w3 w2.heap.size 3 [ci ((0:Nat):Int)]:=z3;have ag:Below w1.heap.size w1 w3:=b2.trans (b3.mono oo);have af:=b1.trans (ag.mono oo);have ca:=ae ag z1 z1.lt;have a0:=ae b3 z2 z2.lt;rw[s1]at a0 s2 ⊢;rw[s2]at z3 ⊢;have U:ET w w3 a c e (evC evZ) 0:=⟨ca,a0,z3,RV.below hr af oA,j,af⟩
 refine aK (Pu (ao oo (lK (v:=.slice a 91 c) U.bb rfl (we (bO (Pz (ao oo ?_)))))));refine lK (v:=.slice a 91 c) U.bb rfl (we (ba oo oo (aK (ao oo (Py ?_)))));refine cB kf U.bn sm rfl fun w4 n4 o4=>?_;have l3:w.heap.size+2<w3.heap.size:=U.bn.lt
 have e4:ET w w4 a c e (evC evZ) 0:=⟨o4.blk U.bb oo,o4.blk U.be oo,n4,RV.oth3 U.rb j o4 oo,j,aR U.bel o4 oo⟩
 refine KP 0 1 e4 rfl (.inl rfl) oo oo rfl rfl (pos':=1) rfl fun w5 e5=>Z5 underlying3 oo oo ?_;refine KP 1 8 e5 rfl (.inr rfl) oo oo rfl (by simp[Dg,eS,bm]) (pos':=9) rfl fun w6 e6=>?_;refine bw (KQ (f:=0) e6 kf (by simp[evC]) rfl fun w7 e7=>gN (KQ (f:=1) e7 kf (by simp[evC]) rfl fun w8 u=>?_))
 refine lK (v:=.slice a 91 c) u.bb rfl (lK (v:=ci ((9:Nat):Int)) u.bn rfl (lK (v:=ci ((9:Nat):Int)) u.bn rfl (aM oo oo ?_)));refine Wp (l:=9) (m:=57) u.rb (.inr ⟨_,rfl⟩) (.inr ⟨_,rfl⟩) oo oo fun a' r8=>?_;rw[zes]at r8;have hV:∀v∈e.V,0≤v∧v<1099511627776:=fun v hv=>by
  refine⟨hf.d v hv,?_⟩;obtain⟨k,hk,rfl⟩:=List.mem_iff_getElem.1 hv
  have:=al.2 k
  rw[List.getD_eq_getElem?_getD,gE hk,Option.getD_some]at this;exact this
 have bs:leV e.V (List.replicate 6 1099511627776)=true:=by
  unfold leV;rw[List.all_eq_true];intro k hk
  have:=al.2 k
  simp only[M40]at this;have bq:=List.mem_range.1 hk;have bt:(List.replicate 6 (1099511627776:Int)).getD k 0=1099511627776:=by rw[List.getD_eq_getElem?_getD,List.getElem?_replicate,if_pos bq];rfl
  rw[decide_eq_true_eq,bt];omega
 refine zf0 rfl (fun v hv=>⟨(hV v hv).1,by have:=(hV v hv).2;omega⟩) bs r8 fun w9 b9=>bu (bv (qn ?_));have l8:=u.bn.lt;have e9:blk w9 (w.heap.size+1) 35 _:=ae b9 u.be u.be.lt;refine ip (n:=6) (vs:=vCs e.V) kr rfl e9 (by show 2+6≤14;omega) (by simp[vCs,EV.V,u6,Value.oneCell']) fun w10 b8 M=>?_
 have C:Below w.heap.size w w10:=aR (u.bel.trans (b9.mono u.bel.size)) M oo;have aS:RB w10 a 91 c (evB e):=RV.oth3 (RV.below u.rb b9 oA) j M oo
 have J:ET w w10 a c e [iv e.o,u6 e.s,u6 e.d0,u6 e.d1,u6 e.d2,u6 e.d3,u6 e.d4,u6 e.d5,kv8 0,u6 0,iv 0,iv 0,u6 0,u6 0] 9:=⟨M.blk (ae b9 u.bb u.bb.lt) oo,b8,M.blk (ae b9 u.bn u.bn.lt) oo,aS,j,C⟩
 refine Pv (lK (v:=ci ((9:Nat):Int)) J.bn rfl (aM oo oo (cB kf J.bn sm rfl fun b6 b0 O=>?_)));have a2:ET w b6 a c e [iv e.o,u6 e.s,u6 e.d0,u6 e.d1,u6 e.d2,u6 e.d3,u6 e.d4,u6 e.d5,kv8 0,u6 0,iv 0,iv 0,u6 0,u6 0] 57:=⟨O.blk J.bb oo,O.blk J.be oo,b0,RV.oth3 aS j O oo,j,aR C O oo⟩
 have pl:∀{r:List (Nat×Nat)},(eS ((e.o.toNat,1)::(e.s.toNat,8)::jG e.V++r)).length=57+(eS r).length:=fun {r} => by
  rw[EF,List.length_append];simp[eS,jG,EV.V,bm]
 refine KP 8 1 a2 rfl (.inl rfl) oo oo rfl (by simp[Dg,jG,EV.V,eS,bm]) (pos':=58) rfl fun ce a3=>bX underlying31 underlying5 ?_;rw[show IntKind.u8.wrap e.k=e.k by rw[Iu];omega];refine KP 9 8 a3 rfl (.inr rfl) n0 oo rfl (by simp[Dg,jG,EV.V,eS,bm]) (pos':=66) rfl fun cg a4=>?_
 refine KP 10 1 a4 rfl (.inl rfl) ht.1 oo rfl (by simp[Dg,jG,EV.V,eS,bm]) (pos':=67) rfl fun ch a5=>Z5 underlying3 ht.1 oo ?_;refine mh (KQ (f:=8) a5 kf sm rfl fun cj a6=>dR (KQ (f:=9) a6 kf sm rfl fun ck a7=>gO (KQ (f:=10) a7 kf sm rfl fun cl a8=>?_)))
 refine KP 11 8 a8 rfl (.inr rfl) ha.1 oo rfl (by simp[Dg,jG,EV.V,eS,bm]) (pos':=75) rfl fun cm a9=>Z5 underlying2 ha.1 oo ?_;refine KP 12 8 a9 rfl (.inr rfl) r0 oo rfl (by simp[Dg,jG,EV.V,eS,bm]) (pos':=83) rfl fun cn bd=>?_;refine KP 13 8 bd rfl (.inr rfl) f0 oo rfl (by simp[Dg,jG,EV.V,eS,bm]) (pos':=91) rfl fun cp bi=>?_
 refine du (KQ (f:=11) bi kf sm rfl fun cs bk=>gw (KQ (f:=12) bk kf sm rfl fun cG bp=>py (KQ (f:=13) bp kf sm rfl fun b7 I=>?_)));have ad:blk b7 (w.heap.size+1) 35 (evC e):=I.be;refine Pw (aX (dt sm (dT ad (Cs fun cI Z=>bK (bj sm ?_)))));rw[hm];have av:=ae Z ad ad.lt
 have am:=ae Z I.bn I.bn.lt;have aa:=I.bel.trans (Z.mono I.bel.size);refine aF (au (fun y=>blk y (w.heap.size+1) 35 (evC e)∧blk y (w.heap.size+2) 3 [ci ((91:Nat):Int)]) ⟨av.drew,am.drew⟩ ?_);refine ab (v:=evV e) (fun y d _ hK=>dT d.1 hK) (ab (v:=ci ((91:Nat):Int)) (fun y d _ hK=>lK d.2 rfl hK) ?_);refine iU (e':=e) av.drew fun cL az ap=>?_
 have an:=ap.blk am.drew oo;refine aC ⟨az,an⟩ (cB kf an sm rfl fun w26 b4 ar=>?_);have b5:=ar.blk az oo;have a1:Below w.heap.size w w26:=aR (aR aa.drew ap oo) ar oo;exact au (fun _=>True) trivial (zdU (v:=evV e) (v2:=ci 91) (fun _ hK=>dT b5 hK) (fun _ hK=>lK (v:=ci 91) b4 rfl hK) (h _ a1))
end
end
section
open Go.RowKit
def Dl (l2 t9 t10 t11:Value)(zf:Nat→Value):List Value:=zf 0::zf 1::l2::zT zf 3 6 (t9::t10::t11::zT zf 12 23 ([]))
def Dm (l2:Value)(zf:Nat→Value):List Value:=zf 0::zf 1::l2::zT zf 3 32 ([])
def jN (K:KV):KE:=kZ f30 [1,1] K
def sE (K:KV):KE:=ah Q (cd f30 [1,0,1,0]) (jN K) (xx xf (jN K) 0) (rk f30 K)
theorem MR (h:lN 102 V0 (fun X0=>sE K (Dl cN V0 X0 (ci 0) (zV (zV zu 0 [V0]) 3 [cF]))) w):Gives Q 30 #[V0] w K:=by
 refine aq func30 kr ?_;revert h;delta sE jN;exact mpF
theorem Kb (Inv:Value→Value→World→Prop)(μ:Value→Value→World→Nat)(h0:Inv V0 Y0 w)(hs:∀(u j:Value) (dd:Nat→Value) (w:World) (m:Nat),Inv u j w→m=μ u j w →
  lS j X0 (fun J w=>cond J (aL Q 102 W0 j (fun t13=>ld Q 92 t13 fun t14=>call Q 65 #[t14,ci 0] fun C=>ext Q C 0 fun ag=>ext Q C 1 fun M=>ext Q C 2 fun al=>alc Q 35 fun e6=>sto Q 35 e6 ag fun _=>bT .neq 40 al (ci 0) fun O w=>aG O false (fun af=>lN 92 t14 (fun U=>bF .neq 3 M U fun am=>af [M,t14,U,am]) w) (fun k=>k [uu,uu,uu,uu] w) fun ad=>pick O cT (gd ad 3) fun an w=>cond an (K (.tuple #[cN,cF]) w) (ld Q 35 e6 (fun ap=>bg Q 44 1 #[(0,ap)] fun ar=>blt Q .append #[44,44] 44 #[false,false] #[u,ar] fun Z=>nC j fun aa w=>(Inv Z aa w)∧((μ Z aa w)<m)) w)) w) (jN K (Dm u (zV dd 9 [W0,X0,j,J])) w)) w):sE K (Dl V0 W0 X0 Y0 zf) w:=by
 refine aI (cd f30 (b1 52)) (zr [(2,2),(5,4),(11,23)]) kr (vP [2,11] Inv) (vQ [2,11] μ) h0 ?_;intro e' w' hI;have h:=hs _ _ (zM zf (gd e') (zr [(2,2),(5,4),(11,23)])) w' _ hI rfl;revert h;generalize (jN K)=qc0;exact mpF
theorem Kc (h:K (.tuple #[V0,cT]) w):jN K (Dm V0 zf) w:=by
 delta jN;exact mpK h
attribute [irreducible] jN sE
def HE (r8 e9 j10 records11:Value)(zf:Nat→Value):List Value:=zT zf 0 8 (r8::e9::j10::records11::zT zf 12 39 ([]))
def HF (n0 i1 d2:Value)(zf:Nat→Value):List Value:=n0::i1::d2::zT zf 3 48 ([])
def wF (K:KV):KE:=ah Q (cd f10 (b1 63)) (rk f10 K) xf (rk f10 K)
abbrev JP (K:KV)(hA0:KE)(n0 i1 d2:Value)(w:World):Prop :=
  bT .eql 37 d2 (.pointer none) (fun t15 w=>cond t15 (K (.tuple #[.pointer none,ci 2]) w) (call Q 28 #[n0,i1] (fun t19=>ext Q t19 0 fun t20=>ext Q t19 1 fun t21=>bT .neq 40 t21 (ci 0) fun t23 w=>cond t23 (K (.tuple #[.pointer none,t21]) w) (call Q 29 #[d2] (fun t27=>ext Q t27 0 fun t28=>ext Q t27 1 fun t29=>ext Q t27 2 fun t30=>hA0 (HE t20 t30 t28 t29 (zV (zV (zV (zV zu 0 [n0,i1,d2]) 6 [.pointer none,ci 0]) 14 [d2,t15,t19,n0,i1,t19,t20,t21,t21,t23]) 25 [t27,d2,t27,t28,t29,t30]))) w)) w)) w
theorem Sq (j:Code)(h:JP K (ah Q j (rk f10 K) (fun _ _ _=>False) (rk f10 K)) V0 W0 X0 w):ah Q (rep (b1 63) j (cd f10 [])) (rk f10 K) xf (rk f10 K) (HF V0 W0 X0 zu) w:=Eq.mp kr h
theorem QE {K:KV}{V0 W0 X0:Value}{w:World}(h:JP K (wF K) V0 W0 X0 w):Gives Q 10 #[V0,W0,X0] w K:=aq func10 (by kernel_rfl) (Eq.mp (congrArg (fun c=>ah Q c (rk f10 K) xf (rk f10 K) (HF V0 W0 X0 zu) w) (by kernel_rfl:(rep (b1 63) (cd f10 (b1 63)) (cd f10 []))=(cd f10 []))) (Sq (cd f10 (b1 63)) h))
theorem NK (h:bT .neq 40 Z0 (ci 0) (fun O w=>cond O (K (.tuple #[.pointer none,Z0]) w) (call Q 30 #[I1] (fun j=>ext Q j 0 fun u=>ext Q j 1 fun U=>un Q .not U fun C w=>aG C false (fun M=>call Q 31 #[Y0,u] (fun I=>bT .neq 40 I (ci 0) fun Z=>M [Y0,u,I,Z]) w) (fun k=>k [uu,uu,uu,uu] w) fun J=>pick C cT (gd J 3) fun aa w=>cond aa (K (.tuple #[.pointer none,ci 5]) w) (bld Q 109 #[(0,Y0),(1,H1)] (fun ad=>box Q 109 ad fun af=>K (.tuple #[af,ci 0])) w)) w)) w):wF K (HE Y0 Z0 H1 I1 zf) w:=by
 delta wF;exact mpK h
attribute [irreducible] wF
theorem EE (h:bT .eql 39 V0 (.pointer none) (fun t7 w=>cond t7 (K (ci 2) w) (aJ V0 (fun j=>ai Q 109 j 2 fun u=>ld Q 4 u fun C w=>cond C (K (ci 8) w) (aZ Q W0 #[] K w)) w)) w):Gives Q 32 #[V0,W0] w K:=by
 refine aq func32 kr ?_;exact mpK h
def xe (u_0 records5 t12 t13 t14:Value)(zf:Nat→Value):List Value:=u_0::zT zf 1 4 (records5::zT zf 6 6 (t12::t13::t14::zT zf 15 21 ([])))
def xg (u_0 records5:Value)(zf:Nat→Value):List Value:=u_0::zT zf 1 4 (records5::zT zf 6 30 ([]))
def fZ (K:KV):KE:=kZ f35 [1,1,1,1] K
def nV (K:KV):KE:=ah Q (cd f35 (b1 122)) (fZ K) (xx xf (fZ K) 0) (rk f35 K)
theorem Ge (h:lN 44 W0 (fun j=>bT .eql 3 j (ci 0) fun u w=>cond u (K (ci 0) w) (lN 44 W0 (fun Y0=>nV K (xe V0 cN W0 Y0 (ci 0) (zV (zV (zV zu 1 [W0]) 4 [ci 0]) 9 [W0,j,u]))) w)) w):Gives Q 35 #[V0,W0] w K:=by
 refine aq func35 kr ?_;revert h;delta nV fZ;exact mpF
theorem DJ (Inv:Value→Value→World→Prop)(μ:Value→Value→World→Nat)(h0:Inv W0 Z0 w)(hs:∀(j u:Value) (dd:Nat→Value) (w:World) (m:Nat),Inv j u w→m=μ j u w →
  lS u Y0 (fun t15 w=>cond t15 (aL Q 44 X0 u (fun M=>ld Q 35 M fun O=>alc Q 35 fun e7=>sto Q 35 e7 O fun _=>ld Q 35 e7 fun U=>call Q 71 #[U] fun Z=>bg Q 102 1 #[(0,Z)] fun aa=>blt Q .append #[102,102] 102 #[false,false] #[j,aa] fun I=>nC u fun J w=>(Inv I J w)∧((μ I J w)<m)) w) (fZ K (xg V0 j (zV dd 12 [X0,Y0,u,t15])) w)) w):nV K (xe V0 W0 X0 Y0 Z0 zf) w:=by
 refine aI (cd f35 (b1 244)) (zr [(5,1),(7,1),(14,10)]) kr (vP [5,14] Inv) (vQ [5,14] μ) h0 ?_;intro e' w' hI;have h:=hs _ _ (zM zf (gd e') (zr [(5,1),(7,1),(14,10)])) w' _ hI rfl;revert h;generalize (fZ K)=qc0;exact mpF
theorem DL (h:aJ V0 (fun u=>ai Q 109 u 1 fun C=>ld Q 101 C fun I=>call Q 72 #[I,W0] fun j=>bT .neq 40 j (ci 0) fun J=>aJ V0 fun M=>ai Q 109 M 2 fun O=>sto Q 4 O J fun _=>K j) w):fZ K (xg V0 W0 zf) w:=by
 delta fZ;exact mpK h
attribute [irreducible] fZ nV
theorem HD (h:box Q 39 V0 (fun C=>box Q 51 W0 fun M=>box Q 31 X0 fun u=>alc Q 35 fun j=>ld Q 39 C fun O=>call Q 32 #[O,.func (.func 36) #[] #[C,M,u,j]] fun I=>ld Q 35 j fun J=>sto Q 35 j J fun _=>aV Q [(some 35,j),(none,I)] K) w):Gives Q 12 #[V0,W0,X0] w K:=by
 refine aq func12 kr ?_;exact mpK h
def l9 (t3 e4 x5 t25:Value)(zf:Nat→Value):List Value:=zT zf 0 3 (t3::e4::x5::zT zf 6 19 (t25::zf 26::zf 27::[]))
def qT (e4:Value)(zf:Nat→Value):List Value:=zT zf 0 4 (e4::zT zf 5 23 ([]))
def fY (K:KV):KE:=kZ f36 [1,1,1,1] K
def fX (K:KV):KE:=ah Q (cd f36 (b1 123)) (fY K) xf (rk f36 K)
theorem Gc {K:KV}{t0 t1 t2 V0:Value}{w:World}(h:aE (fun S w=>hL S 39 t0 fun t7=>hN S t7 fun t8=>hF S 109 t8 0 fun t9=>hL S 98 t9 fun t10=>hL S 51 t1 fun t11=>hL S 31 t2 fun t12=>(call Q 37 #[t10,t11,t12] (fun t13=>aE fun S w=>hld S (ext Q t13 0) fun t14=>hld S (ext Q t13 1) fun t15=>alc Q 35 (fun X0=>aU S fun S=>sto Q 35 X0 t14 fun _=>aU S fun _=>ld Q 35 X0 fun t16=>bld Q 35 #[] fun t17=>bF .eql 35 t16 t17 fun t18 w=>cond t18 (K t15 w) (ld Q 39 t0 (fun t20=>ld Q 35 X0 fun t21=>bg Q 44 1 #[(0,t21)] fun t22=>call Q 35 #[t20,t22] fun t23=>bT .eql 40 t23 (ci 0) fun Y0=>fX K (l9 V0 t23 X0 Y0 (zV (zV (zV zu 0 [t0,t1,t2]) 6 [t13,t7,t8,t9,t10,t11,t12,t13,t14,t15,t16,t17,t18]) 20 [t20,t21,t22,t23,t23]))) w)) w) w)∧(alc Q 35 (fun X0=>aU S fun _=>call Q 37 #[t10,t11,t12] fun t13=>aE fun S w=>hld S (ext Q t13 0) fun t14=>hld S (ext Q t13 1) fun t15=>sto Q 35 X0 t14 (fun _=>aU S fun _=>ld Q 35 X0 fun t16=>bld Q 35 #[] fun t17=>bF .eql 35 t16 t17 fun t18 w=>cond t18 (K t15 w) (ld Q 39 t0 (fun t20=>ld Q 35 X0 fun t21=>bg Q 44 1 #[(0,t21)] fun t22=>call Q 35 #[t20,t22] fun t23=>bT .eql 40 t23 (ci 0) fun Y0=>fX K (l9 V0 t23 X0 Y0 (zV (zV (zV zu 0 [t0,t1,t2]) 6 [t13,t7,t8,t9,t10,t11,t12,t13,t14,t15,t16,t17,t18]) 20 [t20,t21,t22,t23,t23]))) w)) w) w)) w.drew):Gives Q 36 #[t0,t1,t2,V0] w K:=by
 refine aq func36 (by kernel_rfl) ?_
 refine Eq.mp (congrArg (fun c=>ah Q c _ _ _ _ w) (by kernel_rfl:(rep (b1 123) (cd f36 (b1 123)) (cd f36 []))=(cd f36 []))) ?_
 revert h
 delta fX fY
 generalize (cd f36 (b1 123))=xc0
 exact mpF
theorem DE (h:cond Y0 (ld Q 35 X0 (fun j=>sto Q 35 V0 j fun _=>fY K (qT W0 (zV (zV (zV zf 3 [V0]) 5 [X0]) 25 [Y0,j]))) w) (fY K (qT W0 (zV (zV (zV zf 3 [V0]) 5 [X0]) 25 [Y0])) w)):fX K (l9 V0 W0 X0 Y0 zf) w:=by
 delta fX;revert h;generalize (fY K)=qc0;exact mpF
theorem DH (h:K W0 w):fY K (qT W0 zf) w:=by
 delta fY;exact mpK h
attribute [irreducible] fY fX
theorem Gd (h:box Q 39 V0 (fun u=>box Q 49 W0 fun C=>box Q 31 X0 fun j=>ld Q 39 u fun t7=>call Q 32 #[t7,.func (.func 33) #[] #[u,C,j]] K) w):Gives Q 11 #[V0,W0,X0] w K:=by
 refine aq func11 kr ?_;exact mpK h
theorem DI (h:aE (fun S w=>hL S 39 V0 fun t7=>hN S t7 fun M=>hF S 109 M 0 fun O=>hL S 98 O fun j=>hL S 49 W0 fun u=>hL S 31 X0 fun C=>call Q 34 #[j,u,C] (fun t13=>aE fun S w=>hld S (ext Q t13 0) fun t14=>hld S (ext Q t13 1) fun t15=>bT .neq 40 t15 (ci 0) (fun I w=>cond I (K t15 w) (ld Q 39 V0 (fun J=>call Q 35 #[J,t14] K) w)) w) w) w.drew):Gives Q 33 #[V0,W0,X0] w K:=by
 refine aq func33 kr ?_;exact mpK h
theorem EB (h:alc Q 58 (fun t2=>bT .eql 39 V0 (.pointer none) fun t4 w=>cond t4 (bld Q 58 #[] (fun u=>sto Q 58 t2 u fun _=>aV Q [(some 58,t2)] K) w) (aJ V0 (fun t7=>ai Q 109 t7 0 fun C=>ld Q 98 C fun I=>call Q 38 #[I] fun j=>sto Q 58 t2 j fun _=>aV Q [(some 58,t2)] K) w)) w):Gives Q 13 #[V0] w K:=by
 refine aq func13 kr ?_;exact mpK h
theorem ED (h:bT .eql 39 V0 (.pointer none) (fun t4 w=>cond t4 (K cN w) (aJ V0 (fun j=>ai Q 109 j 0 fun t7=>ld Q 98 t7 fun u=>call Q 40 #[u] K) w)) w):Gives Q 18 #[V0] w K:=by
 refine aq func18 kr ?_;exact mpK h
theorem Gb (h:bT .eql 39 V0 (.pointer none) (fun t4 w=>aG t4 false (fun C=>aJ V0 (fun t7=>ai Q 109 t7 2 fun u=>ld Q 4 u fun I=>C [V0,t7,u,I]) w) (fun k=>k [uu,uu,uu,uu] w) fun j=>pick t4 cT (gd j 3) K) w):Gives Q 17 #[V0] w K:=by
 refine aq func17 kr ?_;exact mpK h
end
end Go.Proofs.YtkfgimlaijifaaaGreatDoor
