import Derived.Test.YtkbhfjljieopoaaGreatDoorQ11
namespace Go.Proofs.YtkbhfjljieopoaaGreatDoor
set_option maxRecDepth 100000
open Go.RowKit Go.ChangeMaps
def AV (w w':World)(ws:List (Int×Option Nat)):Prop:=∀b∈wB ws,∀k a t x,blk w b 162 (wtC k a t x)→∃t' x',blk w' b 162 (wtC k a t' x')
theorem DmW.turn {w w':World}{d m:Nat}{ws:List (Int×Option Nat)}(h:DmW w d m ws)(I:Ch (wB ws) w w')(hs:AV w w' ws):DmW w' d m ws where
 b:=h.b.ch I fun u=>by
  obtain⟨k,a,t,x,j,_⟩:=h.isw u;exact absurd rfl (j.ne h.b (by decide))
 mb:=h.mb.kept (I.block m h.mb.lt fun u=>by
  obtain⟨k,a,t,x,j,_⟩:=h.isw u;exact h.mb.ne j rfl)
 wt:=fun p J=>by
  obtain⟨b,a,t,x,j,hw,M,O,U⟩:=h.wt p J;obtain⟨t',x',C⟩:=hs b (kb.2 ⟨p,J,j⟩) _ _ _ _ hw;exact⟨b,a,t',x',j,C,M,O,U⟩
 few:=h.few
def atW (w:World)(b:Nat):Int:=match w.heap[b]? with
 | some (.cells cs _ _)=>intOf (cs[2]?.getD (ci 0))
 | _=>0
theorem JN {w:World}{b:Nat}{k a t x:Int}(h:blk w b 162 (wtC k a t x)):atW w b=t:=by
 unfold blk at h;unfold atW;rw[h];rfl
attribute [local irreducible] bin un conv call bY blt slc aT fld aV idx lkp dO gY eSt rng nxt ent ext alc box bld bT ld sto aU dE mkS ifc pick rdy wts aI sti cond bp Gives ae fh fT cOp
section
variable {w:World}{K:KV}{d m:Nat}{ws:List (Int×Option Nat)}
theorem Cu {B n c:Nat}{a:Option Addr}{C:List Nat}{j b:Nat}{K2:Value→KV}(U:w.ownsRow B 160 1 (.slice a n c) n (C.flatMap fun b=>[pB b]))(J:C.length=n)(I:C[j]? = some b)(h:∀u,K2 u (pB b) w):aV Tryz.prog 164 (.slice a n c) (iv (j:Nat)) (fun u w=>ld Tryz.prog 160 u (K2 u) w) w:=by
 have hj:j<n:=by rw[←J];exact(List.getElem?_eq_some_iff.1 I).1
 obtain⟨g,O,rfl,M⟩:=cq U (by omega);refine dJ Tryz.underlying164 (s:=1) (fun _=>by kernel_rfl) (by omega) (by omega) ?_;rw[Int.toNat_natCast];refine lK (v:=pB b) M.blk ?_ (h _)
 have:=M.cell (s:=1) (enc:=fun b=>[pB b]) (fun _=>rfl) J I (show 0<1 by omega)
 rw[Nat.zero_add,show j*1=j*1+0 by omega,this];rfl
set_option maxHeartbeats 1000000 in
theorem SZ (h:DmW w d m ws)(hK:∀w' a c (T:List (Int×Int)),Below w.heap.size w w'→T.length≤32→(∀x∈T,∃b t y,(x.1,some b)∈ws∧blk w b 162 (wtC x.1 x.2 t y))→(∀p∈ws,∃x∈T,x.1=p.1)→w'.ownsRow w.heap.size 102 2 (.slice a T.length c) T.length (T.flatMap wnC)→K (.slice a T.length c) w'):call Tryz.prog 31 #[pB d] K w:=by
 refine aj (goK Tryz.func31) (Cj (Of h (pr:=fun _=>true) (fun b O w1 K1 b1 U=>fM rfl (aj (goK Tryz.func62) (tN (U w1 (Below.refl _ _))))) fun w1 a c u b1 a3 ap aa ro=>bj Tryz.underlying164 ?_));obtain⟨ii,an,a0,aS,am⟩:=info_parts Cr
 refine AO (Inv:=fun o i wr=>∃(j:Nat) (T:List (Int×Int)) (oa:Option Addr) (oc:Nat),i=iv (j:Nat)∧j≤u.length∧o=.slice oa j oc∧T.length=j∧Below w1.heap.size w1 wr∧(∀(k:Nat) x,T[k]? = some x→∃b t y,u[k]? = some b∧(x.1,some b)∈ws∧blk w b 162 (wtC x.1 x.2 t y))∧wr.ownsRow w1.heap.size 102 2 (.slice oa j oc) j (T.flatMap wnC)) (μ:=fun _ i _=>u.length-(intOf i).toNat)
  ⟨0,[],none,0,rfl,Nat.zero_le _,rfl,rfl,Below.refl _ _,fun k x J=>by simp at J,World.ownsRow_nil _ _ _ _⟩ ?_
 rintro _ _ dd w2 mu ⟨j,T,oa,oc,rfl,hj,rfl,C,b2,hT,r2⟩ av;refine aM ?_;by_cases ag:j<u.length
 ·have O:u[j]? = some u[j]:=List.getElem?_eq_getElem ag;generalize u[j]=b at O;have a2:=cJ ro (w':=w2) fun k M=>b2.block k (World.ownsRow.lt ro k M).2;obtain⟨k,a1,t,y,I,_,_,_,al⟩:=h.isw (ap b (List.mem_of_getElem? O)).1;have ad:=ac b2 (ac b1 I I.lt) (Nat.lt_of_lt_of_le I.lt b1.size)
  refine ax (by omega) (Cu a2 rfl O fun _=>ai (mH (ldA (n:=2) (vs:=wnC (k,a1)) Tryz.underlying102 rfl (by kernel_rfl) ad rfl rfl ?_)));refine mY [.agg (wnC (k,a1)).toArray] Tryz.underlying99 (s:=2) (by kernel_rfl) (by kernel_rfl) (by omega) rfl (by simp) (by decide) rfl (by
   intro v hv;rw[List.mem_singleton.1 hv];rfl) fun w5 e5 b5 s5=>?_
  have e5:blk w5 w2.heap.size 102 (wnC (k,a1)):=by simpa[Value.cells]using e5
  have r5:=cJ r2 (w':=w5) fun k M=>b5.block k (World.ownsRow.lt r2 k M).2;refine tf (enc:=wnC) (x:=(k,a1)) Tryz.underlying99 an a0 aS am rfl (by omega) (fun _=>rfl) r5 e5 (Ad _) (by omega) (by omega) (Nat.le_trans b2.size b5.size) fun a' c' w6 r6 g6 b6 _=>aW (by omega) (by omega) ?_
  refine⟨⟨j+1,T++[(k,a1)],a',c',congrArg iv (by push_cast;rfl),ag,rfl,by simp[C],(b2.trans (b5.mono b2.size)).trans b6,fun q x J=>?_,r6⟩,by rw[av];show u.length-((j:Int)+1).toNat<u.length-(j:Int).toNat;omega⟩;by_cases hq:q<T.length
  ·rw[List.getElem?_append_left hq]at J;exact hT q x J
  ·have az:q<(T++[(k,a1)]).length:=(List.getElem?_eq_some_iff.1 J).1;have aE:q=T.length:=by simp at az;omega
   subst aE;rw[List.getElem?_append_right (Nat.le_refl _),Nat.sub_self]at J;cases J;exact⟨b,t,y,by rw[C];exact O,al,I⟩
 ·have ar:j=u.length:=by omega
  refine aq (by omega) (AP ?_);rw[←C]at r2 ⊢;refine hK w2 oa oc T (b1.trans (b2.mono b1.size)) (by omega) (fun x J=>?_) (fun p hp=>?_) (Ku r2 b1.size)
  ·obtain⟨k,M⟩:=List.getElem?_of_mem J;obtain⟨b,t,y,_,U,h2⟩:=hT k x M;exact⟨b,t,y,U,h2⟩
  ·obtain⟨b,a1,t,y,O,hw,_⟩:=h.wt p hp;obtain⟨k,M⟩:=List.getElem?_of_mem (aa b (kb.2 ⟨p,hp,O⟩) rfl);have af:k<T.length:=by rw[C,ar];exact(List.getElem?_eq_some_iff.1 M).1
   obtain⟨b',t',y',U,h2,h3⟩:=hT k _ (List.getElem?_eq_getElem af);rw[M]at U;cases U;exact⟨_,List.getElem_mem af,(wT h3 hw).1⟩
set_option maxHeartbeats 2000000 in
theorem UJ {now:Int}(h:DmW w d m ws)(u:∀w' a c (T:List (Int×Int)),DmW w' d m ws→Ch (wB ws) w w'→AV w w' ws→T.length≤32→(∀x∈T,∃b t y,(x.1,some b)∈ws∧blk w b 162 (wtC x.1 x.2 t y))→w'.ownsRow w.heap.size 102 2 (.slice a T.length c) T.length (T.flatMap wnC)→K (.slice a T.length c) w'):call Tryz.prog 35 #[pB d,u6 now] K w:=by
 refine aj (goK Tryz.func35) (CT (cv fun w0 n0 b0 s0=>?_));have n0:blk w0 w.heap.size 31 [u6 now]:=n0;have h0:=h.below b0;refine Of h0 (pr:=fun b=>decide (atW w0 b≤now)) (fun b hb w1 K1 b1 h1=>fM rfl (aj (goK Tryz.func66) (wk ?_))) fun w1 a c U b1 be a4 bb ro=>bj Tryz.underlying164 ?_
 ·obtain⟨k,a1,t,y,C,_⟩:=h0.isw hb;rw[JN C]at h1;have a0:=(ac b1 C C.lt).drew;have n1:=(ac b1 n0 n0.lt).drew;refine aH (fun _=>ai) (aH (fun _=>Bv) (aH (v:=u6 t) (fun _=>lK a0 rfl) (aH (v:=u6 now) (fun _=>lK n1 rfl) (aH (v:=.bool (decide (t≤now))) (fun _=>fU) (h1 _ (Below.refl _ w1).drew)))))
 obtain⟨ii,a3,a9,a8,a2⟩:=info_parts Cr;have J:Below w.heap.size w w1:=b0.trans (b1.mono b0.size);have az:∀k∈wB ws,k<w.heap.size:=fun k hk=>h.lt k (by simp[hk]);have bg:=h.below J;have n1:=ac b1 n0 n0.lt
 refine BC (Inv:=fun o i wr=>∃(j:Nat) (T:List (Int×Int)) (oa:Option Addr) (oc:Nat),i=iv (j:Nat)∧j≤U.length∧o=.slice oa j oc∧T.length=j∧Ch (wB ws) w1 wr∧AV w1 wr ws∧(∀x∈T,∃b t y,(x.1,some b)∈ws∧blk w b 162 (wtC x.1 x.2 t y))∧wr.ownsRow w1.heap.size 102 2 (.slice oa j oc) j (T.flatMap wnC)) (μ:=fun _ i _=>U.length-(intOf i).toNat)
  ⟨0,[],none,0,rfl,Nat.zero_le _,rfl,rfl,Ch.refl _ _,fun b _ k a t x hb=>⟨t,x,hb⟩,fun x I=>by simp at I,World.ownsRow_nil _ _ _ _⟩ ?_
 rintro _ _ dd w2 mu ⟨j,T,oa,oc,rfl,hj,rfl,ap,c2,am,hT,r2⟩ a7;refine aM ?_;by_cases ar:j<U.length
 ·have hb:U[j]? = some U[j]:=List.getElem?_eq_getElem ar;generalize U[j]=b at hb;have aa:=(a4 b (List.mem_of_getElem? hb)).1;have ba:=cJ ro (w':=w2) fun k hk=>c2.block k (World.ownsRow.lt ro k hk).2 fun hh=>by have:=az k hh;have:=(World.ownsRow.lt ro k hk).1;omega
  obtain⟨k,a1,t,y,C,_,_,_,av⟩:=h.isw aa;have M:=ac J C C.lt;obtain⟨t2,y2,ad⟩:=am b aa _ _ _ _ M;have n2:=n1.ch c2 fun hh=>by have:=az _ hh;omega
  refine ax (by omega) (Cu ba rfl hb fun _=>ai (mH (ldA (n:=2) (vs:=wnC (k,a1)) Tryz.underlying102 rfl (by kernel_rfl) ad rfl rfl ?_)));refine mY [.agg (wnC (k,a1)).toArray] Tryz.underlying99 (s:=2) (by kernel_rfl) (by kernel_rfl) (by omega) rfl (by simp) (by decide) rfl (by
   intro v hv;rw[List.mem_singleton.1 hv];rfl) fun w5 e5 b5 s5=>?_
  have e5:blk w5 w2.heap.size 102 (wnC (k,a1)):=by simpa[Value.cells]using e5
  have r5:=cJ r2 (w':=w5) fun k hk=>b5.block k (World.ownsRow.lt r2 k hk).2;have aE:=c2.size;refine tf (enc:=wnC) (x:=(k,a1)) Tryz.underlying99 a3 a9 a8 a2 rfl (by omega) (fun _=>rfl) r5 e5 (Ad _) (by omega) (by omega) (Nat.le_trans aE b5.size) fun a' c' w6 r6 g6 b6 _=>?_;have O:Below w1.heap.size w2 w6:=(b5.mono aE).trans b6;have blt:b<w1.heap.size:=M.lt
  have af:=(ac O ad blt).drew;have n6:=(ac O n2 n1.lt).drew;refine aH (v:=u6 now) (fun _=>lK n6 rfl) (aH (fun _=>ai) (aH (fun _=>yq) (aH (v:=u6 y2) (fun _=>lK af rfl) ?_)));refine aH (v:=u6 (IntKind.u64.wrap (now+y2))) (fun _=>jS) (aH (fun _=>ai) (aH (fun _=>Bv) ?_));refine eB (fun _=>by kernel_rfl) af (by show 0+2<4;omega) rfl fun w7 z7 o7=>?_
  have z7:blk w7 b 162 (wtC k a1 (IntKind.u64.wrap (now+y2)) y2):=z7;refine ai (yq (lK (v:=u6 y2) z7 rfl (SU (Dl (ai (yq ?_))))));refine eB (fun _=>by kernel_rfl) z7 (by show 0+3<4;omega) rfl fun w8 z8 o8=>aW (by omega) (by omega) ?_;obtain⟨t8,y8,z8⟩:∃t' x',blk w8 b 162 (wtC k a1 t' x'):=⟨_,_,z8⟩
  have c6:Ch (wB ws) w1 w6.drew:=(c2.add O).add (Below.refl _ w6).drew;have c8:Ch (wB ws) w1 w8:=(c6.trans (Ch.of_oth o7 aa:Ch (wB ws) _ _) fun x I=>.inl I).trans (Ch.of_oth o8 aa:Ch (wB ws) _ _) fun x I=>.inl I
  refine⟨⟨j+1,T++[(k,a1)],a',c',congrArg iv (by push_cast;rfl),ar,rfl,by simp[ap],c8,fun b' aS k' bd t' y' al=>?_,fun x I=>?_,cJ r6 fun q hq=>?_⟩,by rw[a7];show U.length-((j:Int)+1).toNat<U.length-(j:Int).toNat;omega⟩
  ·by_cases ag:b'=b
   ·subst ag;obtain⟨rfl,rfl⟩:=wT al M;exact⟨_,_,z8⟩
   ·obtain⟨t3,y3,h3⟩:=am b' aS _ _ _ _ al;exact⟨t3,y3,o8.blk (o7.blk (ac O h3 al.lt).drew ag) ag⟩
  ·rcases List.mem_append.1 I with I|I
   ·exact hT x I
   ·rw[List.mem_singleton.1 I];exact⟨b,t,y,av,C⟩
  ·have:=(World.ownsRow.lt r6 q hq).1
   exact(o8.other q (by omega)).trans (o7.other q (by omega))
 ·have bi:j=U.length:=by omega
  refine aq (by omega) (BD ?_);rw[←ap]at r2 ⊢;have an:Ch (wB ws) w w2:=(Ch.of_below J:Ch (wB ws) w w1).trans c2 fun x I=>.inl I;have sa:AV w w2 ws:=fun b hb k a t x hw=>am b hb k a t x (ac J hw hw.lt);exact u w2 oa oc T (h.turn an sa) an sa (by omega) hT (Ku r2 J.size)
theorem Pr {cx cy:Bool}{v:Option Nat}(h:K (.bool v.isSome) w):bin Tryz.prog .neq 160 cx cy (pV v) (.pointer none) K w:=by
 cases v with
 | none=>exact jm (by unfold eqG eqGuard;rfl) (by kernel_rfl) h
 | some b=>exact jm (by unfold eqG eqGuard;rfl) (by kernel_rfl) h
theorem Pb {cx cy:Bool}{v:Option Nat}(h:K (.bool v.isNone) w):bin Tryz.prog .eql 160 cx cy (pV v) (.pointer none) K w:=by
 cases v with
 | none=>exact jm (by unfold eqG eqGuard;rfl) (by kernel_rfl) h
 | some b=>exact jm (by unfold eqG eqGuard;rfl) (by kernel_rfl) h
theorem DmW.get (h:DmW w d m ws){x:Int}{v:Option Nat}(u:dP ws x=some v):∃b a t y,v=some b∧blk w b 162 (wtC x a t y)∧1≤a∧a≤qW∧x≠0∧b∈wB ws:=by
 obtain⟨b,a,t,y,j,M,C,I,J⟩:=h.wt _ (uR u);exact⟨b,a,t,y,j,M,C,I,J,kb.2 ⟨_,uR u,j⟩⟩
set_option maxHeartbeats 1000000 in
theorem JP {node x now:Int}(h:DmW w d m ws)(hK:∀w' ad e,DmW w' d m ad→Ch (m::wB ws) w w'→(∀k∈wB ad,k∈wB ws∨w.heap.size≤k)→K (ci e) w'):call Tryz.prog 28 #[pB d,u6 node,iv x,u6 now] K w:=by
 have no:∀e,K (ci e) w:=fun e=>hK w ws e h (Ch.refl _ _) fun k C=>.inl C;refine aj (goK Tryz.func28) (xr (Tg (aO (aM ?_))));by_cases h1:x<1
 ·exact jy h1 (bO h1 (fV (bX (fV (bX (bu (no 1)))))))
 refine dX h1 (de (bw h1 ?_));by_cases h2:1125899906842624<x
 ·exact jy h2 (bO h2 (fV (bX (bu (no 1)))))
 refine dX h2 (cA (bw h2 ?_));by_cases h3:node=0
 ·exact jy h3 (bO h3 (bu (no 1)))
 refine dX h3 (de (bw h3 ?_));by_cases h4:4611686018427387904<now
 ·exact ax h4 (no 1)
 refine aq h4 (ai (Rb (lK (v:=.map (some m)) h.b rfl (LZ (x:=node) (z0:=(none:Option Nat)) u6K Tryz.underlying146 (fun _=>by kernel_rfl) h.mb (wJ (Pr ?_))))));cases hg:dP ws node with
 | some v =>
  obtain⟨b,a,t,y,rfl,hw,an,ap,_,ag⟩:=h.get hg;refine bu (ai (mH (xu (lK (v:=iv a) hw rfl (SC (ai (mH (xu (eB (fun _=>by kernel_rfl) hw (by show 0+0+1<4;omega) rfl fun U z2 o2=>?_)))))))));have z2:blk U b 162 (wtC node (if a<x then x else a) t y):=z2;have al:∀p∈ws,∀b',p.2=some b'→b'=b→p.1=node:=fun p I b' e e' => by
   obtain⟨b2,a2,t2,y2,j,O,_⟩:=h.wt p I;rw[e]at j;cases j;subst e';exact(wT O hw).1
  refine hK U ws 0 ⟨o2.blk h.b (fun e=>hw.ne h.b (by decide) e.symm),h.mb.oth o2 (fun e=>h.mb.ne hw e.symm),fun p I=>?_,h.few⟩ (Ch.of_oth o2 (List.mem_cons_of_mem _ ag)) fun k C=>.inl C;obtain⟨b2,a2,t2,y2,j,O,h5,h6,h7⟩:=h.wt p I;by_cases J:b2=b
  ·have:=al p I b2 j J
   subst J;rw[this];exact⟨b2,_,_,_,j,z2,by split<;>omega,by unfold qW at *; split<;>omega,h3⟩
  ·exact⟨b2,a2,t2,y2,j,o2.blk O J,h5,h6,h7⟩
 | none =>
  refine aO (wL (ai (Rb (lK (v:=.map (some m)) h.b rfl (RC Tryz.underlying146 h.mb (bM ?_))))));by_cases h5:(32:Int)≤(ws.length:Nat)
  ·exact ax h5 (no 7)
  refine aq h5 (ai (Rb (lK (v:=.map (some m)) h.b rfl ?_)));refine eT (vs:=wnC (node,x)) (by kernel_rfl) (eT (vs:=wtC node x now 1) (by kernel_rfl) (cv fun U z2 b2 s2=>?_));have z2:blk U w.heap.size 162 (wtC node x now 1):=by simpa[Value.cells]using z2
  have u:=h.below b2;refine rL (v:=some w.heap.size) (x:=node) u6K Tryz.underlying146 u.mb fun w3 m3 o3=>?_;rw[uS hg]at m3;have M:∀{k:Nat} {cs:List Value} {E:TypeId},blk U k E cs→k≠m:=fun hb=>u.mb.ne hb;have am:wB (ws++[(node,some w.heap.size)])=wB ws++[w.heap.size]:=by unfold wB;rw[List.filterMap_append];rfl
  refine hK w3 _ 0 ⟨o3.blk u.b (M u.b),m3,fun p I=>?_,by simp;omega⟩ (((Ch.of_below b2:Ch (m::wB ws) w U)).trans (Ch.of_oth o3 (by simp):Ch (m::wB ws) U w3) fun x hx=>.inl hx) fun k C=>?_
  ·rcases List.mem_append.1 I with I|I
   ·obtain⟨b4,a4,t4,y4,af,aa,h6⟩:=u.wt p I;exact⟨b4,a4,t4,y4,af,o3.blk aa (M aa),h6⟩
   ·rw[List.mem_singleton.1 I];exact⟨_,_,_,_,rfl,o3.blk z2 (M z2),by omega,by unfold qW;omega,h3⟩
  ·rw[am]at C;rcases List.mem_append.1 C with C|C
   ·exact .inl C
   ·rw[List.mem_singleton.1 C];exact .inr (Nat.le_refl _)
theorem Gn {x:Int}(h:DmW w d m ws)(I:∀w' r,DmW w' d m (sM ws x)→Ch [m] w w'→K (.bool r) w'):call Tryz.prog 33 #[pB d,u6 x] K w:=by
 refine aj (goK Tryz.func33) (wO (Tg (lR (ai (Rb (lK (v:=.map (some m)) h.b rfl (LZ (x:=x) (z0:=(none:Option Nat)) u6K Tryz.underlying146 (fun _=>by kernel_rfl) h.mb (Pb (dA ?_)))))))));cases J:dP ws x with
 | none =>
  have:=I w false (by rw[Kq (sQ.1 J)];exact h) (Ch.refl _ _)
  exact bu this
 | some v =>
  obtain⟨b,a,t,y,rfl,_⟩:=h.get J;refine aO (ai (Rb (lK (v:=.map (some m)) h.b rfl (UK (x:=x) u6K Tryz.underlying146 h.mb fun w2 m2 C=>?_))));refine I w2 true ⟨C.blk h.b (h.mb.ne h.b),m2,fun p hp=>?_,Nat.le_trans (List.length_filter_le _ _) h.few⟩ (Ch.of_oth C (by simp));obtain⟨O,M,t4,y4,u,j,U⟩:=h.wt p (FY.1 hp).1;exact⟨O,M,t4,y4,u,C.blk j (h.mb.ne j),U⟩
end
end Go.Proofs.YtkbhfjljieopoaaGreatDoor
