import Derived.Test.YtkfgimlaijifaaaGreatDoorQ2
import Derived.Test.YtkfgimlaijifaaaGreatDoorQ1
namespace Go.Proofs.YtkfgimlaijifaaaGreatDoor
set_option maxRecDepth 100000
set_option maxHeartbeats 4000000
open Go.Proofs.Tryz
variable {w w':World}{K:KV}{zf:Nat→Value}{b c n o k B i p g m j s z c2 f D:Nat}{a av a2:Option Addr}{x r v:Int}{A:List Int}{E t e:TypeId}{cs xs vs:List Value}{B1:KE}{P:Program}{T L:List (Int×Int)}{C:Nat→Int}{F:List Nat}{α κ:Type}{I0:FuncId}{V0 W0 X0 Y0 Z0 H1 I1 J1 M1 N1 O1 P1 Q1 T1:Value}
section
open Go.RowKit Go.ChangeMaps
theorem Pf {l:Nat}{e:Env}{ps:Array Tmp}{a bd:Code}:Bd (SI P l D I0 e ps a bd):=fun _ _ _ _ j ⟨I,J,M,O,U⟩ =>
 ⟨I,J,M,O,Bf a U (fun _ _ _ ⟨u,C⟩=>⟨u,Bf bd C (fun _ _ _ ⟨x,y⟩=>⟨x,j _ _ y⟩) (fun _ _ _ _ ⟨x,y⟩=>⟨x,j _ _ y⟩) (fun _ _ _ ⟨x,y⟩=>⟨x,j _ _ y⟩)⟩) (fun _ _ _ _ h=>h) (fun _ _ _ h=>h)⟩
theorem oth_put {l:Nat}{o:Obj}:Oth l w (w.putObj l o):=⟨rfl,rfl,rfl,World.putObj_size,fun k h=>World.putObj_heap_other (fun e=>h (by rw[e]))⟩
theorem zal {l:Nat}{r:Loop}{o:Obj}(h:w.ownsRow B E s (.slice a n c) n xs)(C:w.heap[l]? = some (.loop r)):(w.putObj l o).ownsRow B E s (.slice a n c) n xs :=
 cD h fun k u=>by
  rcases h.2 with⟨j,_⟩|⟨g,cap,I,j,M,J,_⟩
  ·cases j;cases u
  ·cases j;have e:k=g:=by simpa[Value.ownBlock]using u.symm
   subst e;refine World.putObj_heap_other fun e=>?_;subst e;rw[J]at C;cases C
theorem Ua {T:List (Int×Int)}:∀(f:Nat) (id:Int),(cv T f id).length≤f
 | 0,_=>Nat.le_refl _
 | f+1,id=>by
  unfold cv;split
  ·have:=Ua (T:=T) f (el T id);simp;omega
  ·simp
theorem Cx {u:Addr}{v:Value}(I:∀K':KV,K' v w→ld P t (.pointer (some u)) K' w)(h:K v w):aV P [(some t,.pointer (some u))] K w:=by
 have C:(loadVar t u).run P w=.ok v w:=by
  have:=I (fun v' w' => v'=v∧w'=w) ⟨rfl,rfl⟩
  unfold ld okV at this;unfold Instr.loadAt at this;simp only[Instr.sureAddr,Sem.run_bind,Sem.run_pure,Result.andThen_ok]at this;split at this
  ·rename_i v' w' j;rw[j,this.1,this.2]
  ·exact this.elim
 unfold aV
 have:(oc [(some t,.pointer (some u))]).run P w=.ok v w:=by simp[oc,asAddr,Sem.run_bind,C]
 rw[this];exact⟨rfl,h⟩
theorem TreeM.drew {t:Nat}(h:TreeM w t c T):TreeM w.drew t c T:=⟨h.bt,let ⟨m,a,b⟩:=h.mp;⟨m,a.kept rfl,b⟩,h.uq⟩
theorem Ld {v:Value}{o:Obj}(h:w.ownsRow B e s v n xs)(J:w.grownBy w' v.ownBlock)(u:w.heap[k]? = some o)(M:∀cs z,o≠.cells cs e z):w'.heap[k]? = some o:=by
 have C:k<w.heap.size:=(Array.getElem?_eq_some_iff.1 u).1;rw[J.block k C fun e'=>?_];exact u;obtain⟨⟨I,j⟩,_⟩:=If h e'.symm;unfold blk at j;rw[u]at j;exact M _ _ (Option.some.inj j)
theorem TreeM.grow {t:Nat}{v:Value}(u:TreeM w t b T)(h:w.ownsRow B e s v n xs)(C:w.grownBy w' v.ownBlock)(I:259≠e):TreeM w' t b T :=
 ⟨fJ u.bt h I C,let ⟨m,⟨es,c,j⟩,J⟩:=u.mp;⟨m,MB.kept ⟨es,c,j⟩ (by rw[j.heap];exact Ld h C j.heap (fun _ _ e=>by cases e)),J⟩,u.uq⟩
attribute [local irreducible] bin un conv call aZ blt slc ai fld aL idx lkp cP eP eSt rng nxt ent ext alc box bld bg ld sto aJ cr mkS ifc pick rdy wts aG sti cond aV Gives ah dy dP cOp
section
variable {w:World}{K:KV}{t tp:Nat}{T:List (Int×Int)}{id:Int}
theorem Rz {rk:Int→Nat}(hk:TK T rk)(ht:TreeM w t tp T)(hn:T.length≤1000)(h:∀w' a c,w'.ownsRow w.heap.size 31 1 (.slice a (cC T id).length c) (cC T id).length ((cC T id).map u6)→Below w.heap.size w w'→K (.slice a (cC T id).length c) w'):call Q 174 #[pB t,u6 id] K w:=by
 refine ak (goK func174) (Ni (df (z:=.slice none 0 0) kr fun w1 h1 b1 s1=>zeY fun w2 h2 h3 b2 s2=>?_));have h1:=cZ h1
 refine Yp (g:=.tmp 8) (ps:=#[9]) (a:=cd rW []) (bd:=cd rX []) (gf:=228) (cap:=[pB w1.heap.size,pB (w1.heap.size+1)]) kr rfl ?_;intro fn W bW sW hD hL;have aS:=ht.lt;have ar:(cC T id).length≤T.length+1:=Ua _ _;generalize hz:w.heap.size=z at *;rw[s1]at h2 h3 s2 ⊢;have ez:w2.heap.size=z+3:=by omega
 rw[ez]at bW sW hD hL ⊢;rw[s1]at hL;have tW:TreeM W t tp T:=((ht.below (by rw[hz];exact b1)).below (b2.mono oo)).below (bW.mono oo);have B0:Below z w W:=b1.trans ((b2.mono oo).trans (bW.mono oo))
 refine zeZ Pf hk (fun j v=>(TreeM v t tp T∧blk v (z+1) 181 [pB t])∧(∃a c,blk v z 87 [.slice a j c]∧v.ownsRow z 31 1 (.slice a j c) j (((cC T id).take j).flatMap uC)∧((Value.slice a j c).ownBlock≠some (z+2))) ∧
   v.heap[z+4]? = some (.loop (nT fn _ #[9] (cd rW []) (cd rX []) (z+3) .ready none))∧v.heap[z+3]? = some (.deferred (some []))∧Below z w v∧z+5≤v.heap.size) (fun _=>False)
  ⟨⟨tW,ae bW h2 oo⟩,⟨none,0,ae bW (ae (b2.mono (show z+1≤w1.heap.size by omega)) h1 oo) oo,World.ownsRow_nil _ _ _ _,by simp[Value.ownBlock]⟩,hL,hD,B0,by omega⟩ (fun j v hv=>hv.1) ?_ (ae bW h3 oo) ?_ ?_ ?_
 ·rintro j v v' ⟨⟨a1,a2⟩,⟨a,c,g1,g2,g3⟩,M,g5,g6,g7⟩ o;refine⟨⟨a1.drew.oth o oo oo,o.blk a2.drew oo⟩,⟨a,c,o.blk g1.drew oo,cD g2 fun k hk=>o.other k (fun e=>g3 (by rw[hk,e])),g3⟩,(o.other _ oo).trans M,(o.other _ oo).trans g5,bE g6.drew o oo,by rw[o.size];exact g7⟩
 ·rintro j x v K' hx ⟨⟨a1,a2⟩,⟨a,c,g1,g2,g3⟩,M,g5,g6,g7⟩ hb kT kF;refine⟨by kernel_rfl,by kernel_rfl,M,rfl,Kv ⟨M,Kw ?_⟩⟩;generalize C:v.putObj (z+4) _=v1;have I:Oth (z+4) v v1:=C ▸ oth_put;have l1:v1.heap[z+4]? = some (.loop (nT fn _ #[9] (cd rW []) (cd rX []) (z+3) .busy none)):=C ▸ World.putObj_heap_same oo
  have r1:v1.ownsRow z 31 1 (.slice a j c) j (((cC T id).take j).flatMap uC):=C ▸ zal g2 M;have z1:v1.heap.size=v.heap.size:=I.size;have ap:j<(cC T id).length:=(gS hx).1;refine lK (v:=.slice a j c) (I.blk g1 oo) rfl ?_
  refine oG (vs:=[u6 x]) underlying87 (s:=1) kr kr oo rfl sm sm sm (by simp[u6,Value.cells]) fun v2 k2 c2 z2=>?_;have k2:blk v2 v1.heap.size 31 (uC x):=by simpa[Value.cells,u6,uC]using k2
  obtain⟨ii,al,an,am,af⟩:=info_parts (show (Tryz.prog.info? 31).map (fun i=>(i.zero,i.size,i.bytes))=some (some (u6 0),1,8)by kernel_rfl);have U:=cD r1 fun q hq=>c2.block q (World.ownsRow.lt r1 q hq).2
  refine uP (base:=z) (enc:=uC) (x:=x) underlying87 al an am af rfl oo (fun _=>rfl) U k2 (by simp[uC,u6,Value.oneCell']) oo oo (by have:=c2.size;omega) fun a' c' v3 r3 u c3 J=>?_;have old:∀{k o},v1.heap[k]? = some o→v2.heap[k]? = some o:=fun {k o} hk=>by rw[c2.block k (Array.getElem?_eq_some_iff.1 hk).1];exact hk
  have t3:TreeM v3 t tp T:=((a1.oth I oo oo).below c2).grow U u dc;have f3:blk v3 (z+1) 181 [pB t]:=fJ (old (I.blk a2 oo)) U dc u;have s3:blk v3 z 87 [.slice a j c]:=fJ (old (I.blk g1 oo)) U dc u;have l3:=Ld U u (old l1) (fun _ _ e=>by cases e)
  have d3:=Ld U u (old ((I.other _ oo).trans g5)) (fun _ _ e=>by cases e);have x3:blk v3 (z+2) 31 [u6 x]:=(u.block (z+2) (by have:=c2.size;omega) (fun e=>g3 e.symm)).trans (old (I.blk hb oo));refine cB kf s3 (by show 0<1;decide) rfl fun v4 k4 O=>⟨(O.other _ oo).trans l3,kT _ ?_ ?_⟩
  ·generalize aa:v4.putObj (z+4) _=v5;have o5:Oth (z+4) v4 v5:=aa ▸ oth_put;have l4:v4.heap[z+4]? = _:=(O.other _ oo).trans l3;have av:=c2.size;have az:=u.size;have r4:=cD r3 fun q hq=>O.other q (fun e=>by
    subst e;obtain⟨⟨cc,Z⟩,_⟩:=If r3 hq;exact absurd (xv Z s3) dc)
   have r5:v5.ownsRow z 31 1 (.slice a' (j+1) c') (j+1) ((((cC T id).take j)++[x]).flatMap uC):=aa ▸ zal r4 l4;have ad:(cC T id).take j++[x]=(cC T id).take (j+1):=by rw[List.take_add_one,hx];rfl
   rw[ad]at r5;refine⟨⟨(t3.oth O oo oo).oth o5 oo oo,o5.blk (O.blk f3 oo) oo⟩,⟨a',c',o5.blk k4 oo,r5,fun e=>?_⟩,aa ▸ World.putObj_heap_same (Array.getElem?_eq_some_iff.1 l4).1,(o5.other _ oo).trans ((O.other _ oo).trans d3),?_,by rw[o5.size,O.size];omega⟩
   ·rcases J with J|J
    ·exact g3 (J ▸ e)
    ·rw[J]at e
     have:=Option.some.inj e
     omega
   ·exact bE (bE ((bE g6 I oo).trans ((c2.mono oo).trans c3)) O oA) o5 oo
  ·exact oth_put.blk (O.blk x3 oo) oo
 ·rintro v ⟨_,⟨a,c,g1,g2,g3⟩,M,g5,g6,g7⟩;refine⟨none,M,Ku ?_⟩;have l4:=M;generalize C:v.putObj _ _=v1;have I:Oth (z+4) v v1:=C ▸ oth_put;have r1:v1.ownsRow z 31 1 (.slice a (cC T id).length c) (cC T id).length (((cC T id).take (cC T id).length).flatMap uC):=C ▸ zal g2 M;rw[List.take_length,ME]at r1;have k1:=I.blk g1 oo;refine lK (v:=.slice a (cC T id).length c) k1 rfl ?_
  refine cB kf k1 (by show 0<1;decide) rfl fun v2 k2 o2=>⟨(o2.other _ oo).trans ((I.other _ oo).trans g5),?_⟩
  have o3:Oth (z+3) v2 (v2.putObj (z+3) (.deferred none)):=oth_put;have ag:v2.heap[z+3]? = some (.deferred (some [])):=(o2.other _ oo).trans ((I.other _ oo).trans g5);have U:=cD r1 fun q hq=>o2.other q (fun e=>by
   subst e;obtain⟨⟨cc,Z⟩,_⟩:=If r1 hq;exact absurd (xv Z k1) dc)
  have r3:=cD U fun q hq=>o3.other q (fun e=>by
   subst e;obtain⟨⟨cc,Z⟩,_⟩:=If U hq;unfold blk at Z;rw[ag]at Z;cases Z)
  refine Cx (fun _=>lK (v:=.slice a (cC T id).length c) (o3.blk k2 oo) rfl) (h _ a c r3 ?_);exact bE (bE (bE g6 I oo) o2 oA) o3 oo
 ·exact fun _ h=>h.elim
end
end
section
open Go.RowKit Go.ChangeMaps
structure Ch (F:List Nat) (w w':World):Prop where
 os:w'.os=w.os
 tape:w'.tape=w.tape
 output:w'.output=w.output
 size:w.heap.size≤w'.heap.size
 block:∀k,k<w.heap.size→k∉F→w'.heap[k]? = w.heap[k]?
section
variable {F G:List Nat}{a b c w w':World}
theorem Ch.refl (F:List Nat)(w:World):Ch F w w:=⟨rfl,rfl,rfl,Nat.le_refl _,fun _ _ _=>rfl⟩
theorem Ch.of_below (h:Below w.heap.size w w'):Ch F w w':=⟨h.os,h.tape,h.output,h.size,fun k j _=>h.block k j⟩
theorem Ch.of_oth {b:Nat}(h:Oth b w w')(j:b∈F):Ch F w w':=⟨h.os,h.tape,h.output,by rw[h.size];exact Nat.le_refl _,fun k _ u=>h.other k (by rintro rfl;exact u j)⟩
theorem Ch.trans (h:Ch F a b)(k:Ch G b c)(hG:∀x∈G,x∈F∨a.heap.size≤x):Ch F a c :=
 ⟨k.os.trans h.os,k.tape.trans h.tape,k.output.trans h.output,Nat.le_trans h.size k.size,fun x j hF=>by
  rw[k.block x (Nat.lt_of_lt_of_le j h.size) (fun u=>(hG x u).elim hF (fun h=>by omega)),h.block x j hF]⟩
theorem Ch.mono (h:Ch F w w')(hG:∀x∈F,x∈G):Ch G w w':=⟨h.os,h.tape,h.output,h.size,fun k u C=>h.block k u fun j=>C (hG k j)⟩
theorem Ch.below (h:Ch F w w')(hF:∀x∈F,B≤x)(u:B≤w.heap.size):Below B w w':=⟨h.os,h.tape,h.output,h.size,fun k C=>h.block k oo (fun j=>by have:=hF k j;omega)⟩
theorem blk.ch (h:blk w k E cs)(u:Ch F w w')(C:k∉F):blk w' k E cs:=by
 have j:=h.lt;unfold Go.Proofs.YtkfgimlaijifaaaGreatDoor.blk at *; rw[u.block k j C];exact h
theorem MB.ch {kv:κ→Value}{vv:α→Value}{m:List (κ×α)}(h:MB kv vv w k m)(j:Ch F w w')(u:k∉F):MB kv vv w' k m:=h.kept (j.block k h.lt u)
end
end
section
attribute [local irreducible] bin un conv call aZ blt slc ai fld aL idx lkp cP eP eSt rng nxt ent ext alc box bld bg ld sto aJ cr mkS ifc pick rdy wts aG sti cond aV Gives ah dy dP cOp
section
open Go.RowKit Go.ChangeMaps
theorem insA_perm {L:List α}{z:α}:(gu L i z).Perm (L++[z]):=by
 unfold gu;refine(List.perm_middle).trans ?_;rw[List.take_append_drop];exact(List.perm_append_singleton z L).symm
section
variable {w:World}{K:KV}{t tp:Nat}{T:List (Int×Int)}{id par:Int}
theorem Qo {rk:Int→Nat}(hk:TK T rk)(C:TreeM w t tp T)(hn:T.length≤1000)(h:∀w',TreeM w' t tp (jm T id par).1→Ch [tp] w w'→K (ci (jm T id par).2) w'):call Q 306 #[pB t,u6 id,u6 par] K w:=by
 have ok:∀{w':World} (v:Int),jm T id par=(T,v)→Below w.heap.size w w'→K (ci v) w':=fun {w'} v e b=>by
  have:=h w' (by rw[e];exact C.below b) (Ch.of_below b)
  rw[e]at this;exact this
 have b0:=Below.refl w.heap.size w;refine ak (goK func306) (OQ (QF (aF (aO ?_))));by_cases Z:id=0
 ·exact ax Z (ok 1 (by unfold jm;rw[if_pos Z]) b0)
 refine ao Z (Qp C ?_);cases hq:bS T id with
 | true=>exact aT (ok 14 (by unfold jm;rw[if_neg Z,if_pos hq]) b0)
 | false =>
 have O:¬bS T id=true:=by rw[hq];simp
 refine aF (aX ?_);have e9:∀hp:par≠0∧bS T par=false,jm T id par=(T,9):=fun hp=>by unfold jm;rw[if_neg Z,if_neg O,if_pos hp]
 have J : ¬(par≠0∧bS T par=false)→∀{t0 aa j ad:Value} {zf:Nat→Value},t0=pB t→aa=u6 id→j=u6 par→ad=.bool (decide (32≤(T.length:Int)))→qN K ((iF t0 aa j ad zf)) w:=by
  intro hp t0 aa j ad zf q0 q1 q2 q4;subst q0 q1 q2 q4;refine M7 ?_;have e6:32≤T.length∨4≤(cC T par).length→jm T id par=(T,6):=fun hh=>by unfold jm;rw[if_neg Z,if_neg O,if_neg hp,if_pos hh]
  by_cases M:32≤(T.length:Int)
  ·exact ax M (CC (ax M (ok 6 (e6 (.inl (by omega))) b0)))
  refine ao M (Rz hk C hn fun w1 a c ho b1=>bh underlying87 (bI (CC ?_)));by_cases h4:((cC T par).length:Int)≥4
  ·exact ax h4 (ok 6 (e6 (.inr (by omega))) b1)
  refine ao h4 (M9 ?_);have U:=C.below b1;obtain⟨m,hm,u⟩:=U.mp;refine aj (AV (lK (v:=.map (some tp)) U.bt rfl (uI u6K underlying183 hm fun w2 af o2=>?_)));have e0:jm T id par=(gu T (yy (fun x=>decide (id<x.1)) T T.length) (id,par),0):=by unfold jm;rw[if_neg Z,if_neg O,if_neg hp,if_neg (by omega)]
  have I:dK m id=none:=by rw[nL u C.uq,Ib C.uq,hq]
  rw[yC I]at af;have hP:(m++[(id,par)]).Perm (jm T id par).1:=by rw[e0];exact(u.append_right _).trans insA_perm.symm
  have am:((jm T id par).1.map (·.1)).Nodup:=by
   refine(hP.map _).nodup_iff.1 ?_
   have:=zR (x:=id) (v:=par) ((u.map (·.1)).nodup_iff.2 C.uq)
   rwa[yC I]at this
  have al:=C.ne;have hc:Ch [tp] w w2:=(Ch.of_below b1:Ch [tp] w w1).trans (Ch.of_oth o2 (by simp):Ch [tp] w1 w2) (fun x hx=>.inl hx)
  have:=h w2 ⟨o2.blk U.bt al,⟨_,af,hP⟩,am⟩ hc
  rw[e0]at this;exact this
 by_cases p0:par≠0
 ·refine cU p0 (Qp C (bK (bA p0 ?_)));cases ag:bS T par with
  | false=>exact aT (ok 9 (e9 ⟨p0,ag⟩) b0)
  | true =>
   obtain⟨m,hm,u⟩:=C.mp;refine aF (aj (AV (lK (v:=.map (some tp)) C.bt rfl (ZU underlying183 hm (bI ?_)))));exact J (fun hh=>by rw[ag]at hh;cases hh.2) rfl rfl rfl (by rw[u.length_eq])
 ·refine eB p0 (bj p0 (aF ?_));obtain⟨m,hm,u⟩:=C.mp;refine aj (AV (lK (v:=.map (some tp)) C.bt rfl (ZU underlying183 hm (bI ?_))));exact J (fun hh=>p0 hh.1) rfl rfl rfl (by rw[u.length_eq])
end
end
end
section
open Go.RowKit
def aB (data0 a1 b2 i7 j8:Value)(zf:Nat→Value):List Value:=data0::a1::b2::zT zf 3 4 (i7::j8::zT zf 9 124 ([]))
def lW (zf:Nat→Value):List Value:=zT zf 0 133 ([])
def lX (data0 a1 b2 i7 j8 t61:Value)(zf:Nat→Value):List Value:=data0::a1::b2::zT zf 3 4 (i7::j8::zT zf 9 52 (t61::zT zf 62 71 ([])))
def lY (data0 a1 b2 i7 j8 j9:Value)(zf:Nat→Value):List Value:=data0::a1::b2::zT zf 3 4 (i7::j8::j9::zT zf 10 123 ([]))
def lZ (data0 a1 b2 i7 j8 j10:Value)(zf:Nat→Value):List Value:=data0::a1::b2::zT zf 3 4 (i7::j8::zf 9::j10::zT zf 11 122 ([]))
def ay (K:KV):KE:=kZ f257 [1,1,1] K
def fC (K:KV):KE:=ah Q (cd f257 (b1 58)) (ay K) (xx xf (ay K) 0) (rk f257 K)
def aw (K:KV)(B1:KE):KE:=kY f257 (b1 467) B1 (xx xf (ay K) 0) K
def dL (K:KV)(B1:KE):KE:=ah Q (cd f257 (b1 466)) (aw K B1) (xx xf (ay K) 0) (rk f257 K)
def bH (K:KV)(B1:KE):KE:=kY f257 (b1 1865) (aw K B1) (xx (xx xf (ay K) 0) (aw K B1) 1) K
def fD (K:KV)(B1:KE):KE:=ah Q (cd f257 (b1 3728)) (bH K B1) (xx (xx (xx xf (ay K) 0) (aw K B1) 1) (bH K B1) 2) (rk f257 K)
def de (K:KV)(B1:KE):KE:=ah Q (cd f257 (b1 14927)) (aw K B1) (xx (xx xf (ay K) 0) (aw K B1) 1) (rk f257 K)
def aQ (K:KV)(B1:KE):KE:=kY f257 (b1 29855) (aw K B1) (xx (xx xf (ay K) 0) (aw K B1) 1) K
def dN (K:KV)(B1:KE):KE:=ah Q (cd f257 (b1 59709)) (aQ K B1) (xx (xx xf (ay K) 0) (aw K B1) 1) (rk f257 K)
def fE (K:KV)(B1:KE):KE:=ah Q (cd f257 (b1 477674)) (aQ K B1) (xx (xx (xx xf (ay K) 0) (aw K B1) 1) (aQ K B1) 4) (rk f257 K)
def fF (K:KV)(B1:KE):KE:=ah Q (cd f257 (b1 477690)) (aw K B1) (xx (xx (xx xf (ay K) 0) (aw K B1) 1) (aw K B1) 6) (rk f257 K)
theorem ss (h:nC W0 (fun j=>fC K (aB V0 W0 X0 j (ci 0) (zV (zV zu 6 [cF]) 11 [W0,j]))) w):Gives Q 257 #[V0,W0,X0] w K:=by
 refine aq func257 kr ?_;revert h;delta fC ay;exact mpF
theorem rh {K:KV}{V0 W0 X0 Y0 Z0:Value}{zf:Nat→Value}{w:World}(Inv:Value→Value→World→Prop)(μ:Value→Value→World→Nat)(h0:Inv Y0 Z0 w)(hs:∀(i7' j8':Value) (dd:Nat→Value) (w:World) (m:Nat),Inv i7' j8' w→m=μ i7' j8' w →
  bT .lss 3 j8' (ci 5) (fun t14 w=>cond t14 (dL K (fun e2 w2=>(Inv (gd e2 7) (gd e2 8) w2)∧((μ (gd e2 7) (gd e2 8) w2)<m)) (aB V0 W0 X0 i7' j8' (zV dd 13 [j8',t14])) w) (ay K (lW (zV (zV (zV dd 0 [V0,W0,X0]) 7 [i7',j8']) 13 [j8',t14])) w)) w):fC K (aB V0 W0 X0 Y0 Z0 zf) w:=by
 refine aI (cd f257 (b1 116)) (zr [(6,5),(13,120)]) (by kernel_rfl) (vP [7,8] Inv) (vQ [7,8] μ) h0 ?_
 intro e' w' hI
 have h:=hs _ _ (zM zf (gd e') (zr [(6,5),(13,120)])) w' _ hI rfl
 refine Eq.mp (congrArg (fun c=>ah Q c _ _ _ _ w') (by kernel_rfl:(rep [1,0] (cd f257 (b1 466)) (cd f257 (b1 116)))=(cd f257 (b1 116)))) ?_
 revert h
 delta dL aw
 generalize (cd f257 (b1 466))=xc0
 generalize (ay K)=qc0
 exact mpF
theorem qZ (h:fD K B1 (aB V0 W0 X0 Y0 Z0 zf) w):dL K B1 (aB V0 W0 X0 Y0 Z0 zf) w:=by
 delta dL;revert h;delta fD bH;generalize (aw K B1)=qc0;generalize (ay K)=qc1;exact mpF
theorem ru (h:K cF w):ay K (lW zf) w:=by
 delta ay;exact mpK h
theorem ro (Inv:Value→World→Prop)(μ:Value→World→Nat)(h0:Inv Y0 w)(hs:∀(u:Value) (dd:Nat→Value) (w:World) (m:Nat),Inv u w→m=μ u w →
  sti (bF .lss 3 u X0) (fun C w=>aG C true (fun ad=>sI 87 V0 u (fun I=>sL 31 I fun t24=>sti (bT .sub 3 u (ci 1)) fun J=>sI 87 V0 J fun M=>sL 31 M fun O=>sti (call Q 258 #[t24,O]) fun U=>sti (un Q .not U) fun af=>ad [V0,u,I,t24,V0,u,J,M,O,U,af]) w) (fun k=>k [uu,uu,uu,uu,uu,uu,uu,uu,uu,uu,uu] w) fun j=>sti (pick C (gd j 10) cF) fun Z w=>cond Z (nC u (fun aa w=>(Inv aa w)∧((μ aa w)<m)) w) (bH K B1 (aB V0 W0 X0 u Z0 (zV dd 17 [u,X0,C,C,gd j 0,gd j 1,gd j 2,gd j 3,gd j 4,gd j 5,gd j 6,gd j 7,gd j 8,gd j 9,gd j 10,Z])) w)) w.drew):fD K B1 (aB V0 W0 X0 Y0 Z0 zf) w:=by
 refine aI (cd f257 (b1 7456)) (zr [(7,1),(17,18)]) kr (vP [7] Inv) (vQ [7] μ) h0 ?_;intro e' w' hI;have h:=hs _ (zM zf (gd e') (zr [(7,1),(17,18)])) w' _ hI rfl;revert h;generalize (ay K)=qc0;generalize (aw K B1)=qc1;generalize (bH K B1)=qc2;exact mpF
theorem ln {K:KV}{B1:KE}{V0 W0 X0 Y0 Z0:Value}{zf:Nat→Value}{w:World}(h:bF .eql 3 Y0 X0 (fun t37 w=>cond t37 (K cT w) (bF .sub 3 X0 W0 (fun t40=>bT .lss 3 t40 (ci 50) fun t41 w=>cond t41 (K cF w) (aE (fun S w=>hld (fun _=>True) (bT .sub 3 Y0 (ci 1)) fun t46=>hld (fun _=>True) (bT .sub 3 Y0 (ci 1)) fun t49=>hI S 87 V0 t49 fun t50=>hL S 31 t50 fun t51=>hI S 87 V0 Y0 fun t54=>hL S 31 t54 fun t55=>hI S 87 V0 Y0 fun t56=>sto Q 31 t56 t51 (fun _=>aE fun S w=>hI S 87 V0 t46 fun t57=>sto Q 31 t57 t55 (fun _=>de K B1 (aB V0 W0 X0 Y0 Z0 (zV zf 35 [Y0,X0,t37,X0,W0,t40,t41,V0,Y0,V0,Y0,t46,V0,Y0,t49,t50,t51,V0,Y0,t54,t55,t56,t57]))) w) w) w.drew)) w)) w):bH K B1 (aB V0 W0 X0 Y0 Z0 zf) w:=by
 delta bH
 refine Eq.mp (congrArg (fun c=>ah Q c _ _ _ _ w) (by kernel_rfl:(rep [1,1,1] (cd f257 (b1 14927)) (cd f257 (b1 1865)))=(cd f257 (b1 1865)))) ?_
 revert h
 delta de
 generalize (cd f257 (b1 14927))=xc0
 generalize (aw K B1)=qc0
 generalize (ay K)=qc1
 exact mpF
theorem re {K:KV}{B1:KE}{V0 W0 X0 Y0 Z0:Value}{zf:Nat→Value}{w:World}(h:bF .sub 3 Y0 W0 (fun t60=>bT .geq 3 t60 (ci 2) fun J1=>dN K B1 (lX V0 W0 X0 Y0 Z0 J1 (zV zf 58 [Y0,W0,t60]))) w):de K B1 (aB V0 W0 X0 Y0 Z0 zf) w:=by
 delta de
 refine Eq.mp (congrArg (fun c=>ah Q c _ _ _ _ w) (by kernel_rfl:(rep [0,1] (cd f257 (b1 59709)) (cd f257 (b1 14927)))=(cd f257 (b1 14927)))) ?_
 revert h
 delta dN aQ
 generalize (cd f257 (b1 59709))=xc0
 generalize (aw K B1)=qc0
 generalize (ay K)=qc1
 exact mpF
theorem rf (h:cond J1 (bT .sub 3 Y0 (ci 1) (fun j=>fE K B1 (lY V0 W0 X0 Y0 Z0 j (zV zf 61 [J1,Y0,j]))) w) (aQ K B1 (aB V0 W0 X0 Y0 Z0 (zV zf 61 [J1])) w)):dN K B1 (lX V0 W0 X0 Y0 Z0 J1 zf) w:=by
 delta dN;revert h;delta fE;generalize (aQ K B1)=qc0;generalize (ay K)=qc1;generalize (aw K B1)=qc2;exact mpF
theorem rr (Inv:Value→World→Prop)(μ:Value→World→Nat)(h0:Inv H1 w)(hs:∀(j:Value) (dd:Nat→Value) (w:World) (m:Nat),Inv j w→m=μ j w →
  bT .geq 3 j (ci 1) (fun u w=>cond u (aE (fun S w=>hI S 87 V0 j fun I=>hL S 31 I fun J=>hld (fun _=>True) (bT .sub 3 j (ci 1)) fun M=>hI S 87 V0 M fun O=>hL S 31 O fun U=>call Q 258 #[J,U] (fun Z=>aE fun S w=>hld S (un Q .not Z) fun aa=>cond aa (aQ K B1 (aB V0 W0 X0 Y0 Z0 (zV (zV (zV dd 9 [j]) 64 [j,u]) 68 [V0,j,I,J,V0,j,M,O,U,Z,aa])) w) (aE (fun S w=>hld (fun _=>True) (bT .sub 3 j (ci 1)) fun ad=>hld (fun _=>True) (bT .sub 3 j (ci 1)) fun af=>hI S 87 V0 af fun ag=>hL S 31 ag fun al=>hI S 87 V0 j fun am=>hL S 31 am fun an=>hI S 87 V0 j fun ap=>sto Q 31 ap al (fun _=>aE fun S w=>hI S 87 V0 ad fun ar=>sto Q 31 ar an (fun _=>bT .sub 3 j (ci 1) fun C w=>(Inv C w)∧((μ C w)<m)) w) w) w.drew)) w) w.drew) (aQ K B1 (aB V0 W0 X0 Y0 Z0 (zV (zV dd 9 [j]) 64 [j,u])) w)) w):fE K B1 (lY V0 W0 X0 Y0 Z0 H1 zf) w:=by
 refine aI (cd f257 (b1 955348)) (zr [(9,1),(64,31)]) kr (vP [9] Inv) (vQ [9] μ) h0 ?_;intro e' w' hI;have h:=hs _ (zM zf (gd e') (zr [(9,1),(64,31)])) w' _ hI rfl;revert h;generalize (ay K)=qc0;generalize (aw K B1)=qc1;generalize (aQ K B1)=qc2;exact mpF
theorem rA (h:bF .sub 3 X0 Y0 (fun u=>bT .geq 3 u (ci 2) fun C w=>cond C (nC Y0 (fun j=>fF K B1 (lZ V0 W0 X0 Y0 Z0 j (zV zf 95 [X0,Y0,u,C,Y0,j]))) w) (aw K B1 (aB V0 W0 X0 Y0 Z0 (zV zf 95 [X0,Y0,u,C])) w)) w):aQ K B1 (aB V0 W0 X0 Y0 Z0 zf) w:=by
 delta aQ;revert h;delta fF;generalize (aw K B1)=qc0;generalize (ay K)=qc1;exact mpF
theorem rt (Inv:Value→World→Prop)(μ:Value→World→Nat)(h0:Inv I1 w)(hs:∀(j:Value) (dd:Nat→Value) (w:World) (m:Nat),Inv j w→m=μ j w →
  lS j X0 (fun u w=>cond u (aE (fun S w=>hI S 87 V0 j fun I=>hL S 31 I fun J=>hld (fun _=>True) (bT .sub 3 j (ci 1)) fun M=>hI S 87 V0 M fun O=>hL S 31 O fun U=>call Q 258 #[J,U] (fun Z=>aE fun S w=>hld S (un Q .not Z) fun aa=>cond aa (aw K B1 (aB V0 W0 X0 Y0 Z0 (zV (zV (zV dd 10 [j]) 101 [j,X0,u]) 106 [V0,j,I,J,V0,j,M,O,U,Z,aa])) w) (aE (fun S w=>hld (fun _=>True) (bT .sub 3 j (ci 1)) fun ad=>hld (fun _=>True) (bT .sub 3 j (ci 1)) fun af=>hI S 87 V0 af fun ag=>hL S 31 ag fun al=>hI S 87 V0 j fun am=>hL S 31 am fun an=>hI S 87 V0 j fun ap=>sto Q 31 ap al (fun _=>aE fun S w=>hI S 87 V0 ad fun ar=>sto Q 31 ar an (fun _=>nC j fun C w=>(Inv C w)∧((μ C w)<m)) w) w) w.drew)) w) w.drew) (aw K B1 (aB V0 W0 X0 Y0 Z0 (zV (zV dd 10 [j]) 101 [j,X0,u])) w)) w):fF K B1 (lZ V0 W0 X0 Y0 Z0 I1 zf) w:=by
 refine aI (cd f257 (b1 955380)) (zr [(10,1),(101,32)]) kr (vP [10] Inv) (vQ [10] μ) h0 ?_;intro e' w' hI;have h:=hs _ (zM zf (gd e') (zr [(10,1),(101,32)])) w' _ hI rfl;revert h;generalize (ay K)=qc0;generalize (aw K B1)=qc1;exact mpF
theorem io (h:nC Z0 (fun j=>B1 (aB V0 W0 X0 Y0 j (zV zf 15 [Z0,j]))) w):aw K B1 (aB V0 W0 X0 Y0 Z0 zf) w:=by
 delta aw;revert h;generalize (ay K)=qc0;exact mpF
attribute [irreducible] ay fC aw dL bH fD de aQ dN fE fF
def fp (data0 a1 length6 random7 modulus8 idx9:Value)(zf:Nat→Value):List Value:=data0::a1::zT zf 2 4 (length6::random7::modulus8::idx9::zT zf 10 55 ([]))
def ox (data0 a1 length6 random7 modulus8 idx9 other10 t43:Value)(zf:Nat→Value):List Value:=data0::a1::zT zf 2 4 (length6::random7::modulus8::idx9::other10::zT zf 11 32 (t43::zT zf 44 21 ([])))
def hZ (data0 a1 length6 random7 modulus8 idx9 other10:Value)(zf:Nat→Value):List Value:=data0::a1::zT zf 2 4 (length6::random7::modulus8::idx9::other10::zT zf 11 54 ([]))
def ia (K:KV):KE:=ah Q (cd f254 (b1 238)) (rk f254 K) (xx xf (rk f254 K) 0) (rk f254 K)
def bB (K:KV)(B1:KE):KE:=kY f254 (b1 1907) B1 (xx xf (rk f254 K) 0) K
def bQ (K:KV)(B1:KE):KE:=kY f254 (b1 15251) (bB K B1) (xx (xx xf (rk f254 K) 0) (bB K B1) 1) K
def fm (K:KV)(B1:KE):KE:=ah Q (cd f254 (b1 30501)) (bQ K B1) (xx (xx xf (rk f254 K) 0) (bB K B1) 1) (rk f254 K)
theorem vo (h:bF .sub 3 X0 W0 (fun t13=>bT .geq 3 t13 (ci 8) fun t15 w=>cond t15 (conv Q 3 339 t13 (fun j=>alc Q 339 fun Y0=>sto Q 339 Y0 j fun _=>call Q 232 #[t13] fun u=>bT .quo 3 t13 (ci 4) fun C=>bT .mul 3 C (ci 2) fun I=>bF .add 3 W0 I fun t24=>bT .sub 3 t24 (ci 1) fun J=>ia K (fp V0 W0 t13 Y0 u J (zV (zV zu 2 [X0]) 11 [X0,W0,t13,t13,t15,t13,j,t13,u,W0,t13,C,I,t24,J]))) w) (K (.tuple #[]) w)) w):Gives Q 254 #[V0,W0,X0] w K:=by
 refine aq func254 kr ?_;revert h;delta ia;exact mpF
theorem uz (Inv:Value→World→Prop)(μ:Value→World→Nat)(h0:Inv H1 w)(hs:∀(idx9':Value) (dd:Nat→Value) (w:World) (m:Nat),Inv idx9' w→m=μ idx9' w →
  bT .quo 3 X0 (ci 4) (fun t29=>bT .mul 3 t29 (ci 2) fun t30=>bF .add 3 W0 t30 fun t31=>nC t31 fun t32=>bF .leq 3 idx9' t32 fun t33 w=>cond t33 (call Q 233 #[Y0] (fun t36=>bT .sub 251 Z0 (cu 1) fun t38=>bF .and 251 t36 t38 fun t39=>conv Q 251 3 t39 fun t40=>bF .geq 3 t40 X0 fun J1=>fm K (fun e2 w2=>(Inv (gd e2 9) w2)∧((μ (gd e2 9) w2)<m)) (ox V0 W0 X0 Y0 Z0 idx9' t40 J1 (zV (zV dd 26 [idx9',W0,X0,t29,t30,t31,t32,t33]) 36 [t36,Z0,t38,t39,t40,t40,X0]))) w) (K (.tuple #[]) w)) w):ia K (fp V0 W0 X0 Y0 Z0 H1 zf) w:=by
 refine aI (cd f254 (b1 476)) (zr [(9,2),(26,39)]) (by kernel_rfl) (vP [9] Inv) (vQ [9] μ) h0 ?_
 intro e' w' hI
 have h:=hs _ (zM zf (gd e') (zr [(9,2),(26,39)])) w' _ hI rfl
 refine Eq.mp (congrArg (fun c=>ah Q c _ _ _ _ w') (by kernel_rfl:(rep (b1 101) (cd f254 (b1 30501)) (cd f254 (b1 476)))=(cd f254 (b1 476)))) ?_
 revert h
 delta fm bB bQ
 generalize (cd f254 (b1 30501))=xc0
 exact mpF
theorem uy (h:cond J1 (bF .sub 3 I1 X0 (fun j=>bQ K B1 (hZ V0 W0 X0 Y0 Z0 H1 j (zV zf 43 [J1,I1,X0,j]))) w) (bQ K B1 (hZ V0 W0 X0 Y0 Z0 H1 I1 (zV zf 43 [J1])) w)):fm K B1 (ox V0 W0 X0 Y0 Z0 H1 I1 J1 zf) w:=by
 delta fm;revert h;generalize (bQ K B1)=qc0;generalize (bB K B1)=qc1;exact mpF
theorem uB (h:aE (fun S w=>hld (fun _=>True) (bF .add 3 W0 I1) fun j=>hld (fun _=>True) (bF .add 3 W0 I1) fun u=>hI S 87 V0 u fun C=>hL S 31 C fun I=>hI S 87 V0 H1 fun J=>hL S 31 J fun M=>hI S 87 V0 H1 fun O=>sto Q 31 O I (fun _=>aE fun S w=>hI S 87 V0 j fun U=>sto Q 31 U M (fun _=>bB K B1 (fp V0 W0 X0 Y0 Z0 H1 (zV (zV zf 10 [I1]) 47 [V0,H1,V0,W0,I1,j,V0,W0,I1,u,C,I,V0,H1,J,M,O,U]))) w) w) w.drew):bQ K B1 (hZ V0 W0 X0 Y0 Z0 H1 I1 zf) w:=by
 delta bQ;revert h;generalize (bB K B1)=qc0;exact mpF
theorem uA (h:nC H1 (fun j=>B1 (fp V0 W0 X0 Y0 Z0 j (zV zf 34 [H1,j]))) w):bB K B1 (fp V0 W0 X0 Y0 Z0 H1 zf) w:=by
 delta bB;exact mpK h
attribute [irreducible] ia bB bQ fm
theorem G6 (h:conv Q 3 251 V0 (fun t4=>call Q 178 #[t4] fun j=>bin Q .shl 251 true false (cu 1) j K) w):Gives Q 232 #[V0] w K:=by
 refine aq func232 kr ?_;exact mpK h
theorem GB (h:sN V0 (fun t4=>sL 339 t4 fun t5=>sN V0 fun t7=>sL 339 t7 fun t8=>sti (bT .shl 339 t8 (cu 13)) fun t9=>sti (bF .xor 339 t5 t9) fun j=>sN V0 fun u=>sto Q 339 u j fun _ w=>sN V0 (fun t13=>sL 339 t13 fun t14=>sN V0 fun C=>sL 339 C fun I=>sti (bT .shr 339 I (cu 7)) fun J=>sti (bF .xor 339 t14 J) fun M=>sN V0 fun O=>sto Q 339 O M fun _ w=>sN V0 (fun U=>sL 339 U fun Z=>sN V0 fun aa=>sL 339 aa fun ad=>sti (bT .shl 339 ad (cu 17)) fun af=>sti (bF .xor 339 Z af) fun ag=>sN V0 fun al=>sto Q 339 al ag fun _=>aJ V0 fun am=>ld Q 339 am K) w.drew) w.drew) w.drew):Gives Q 233 #[V0] w K:=by
 refine aq func233 kr ?_;exact mpK h
def iP (data0 l8 swaps9 i10 j11 k_12:Value)(zf:Nat→Value):List Value:=data0::zT zf 1 7 (l8::swaps9::i10::j11::k_12::zT zf 13 44 ([]))
def po (data0 a1 b2:Value)(zf:Nat→Value):List Value:=data0::a1::b2::zT zf 3 54 ([])
def iQ (data0 l8 swaps9 i10 j11 k_12 t32:Value)(zf:Nat→Value):List Value:=data0::zT zf 1 7 (l8::swaps9::i10::j11::k_12::zT zf 13 19 (t32::zT zf 33 24 ([])))
def iS (data0 swaps9 i10 j11 k_12 t34:Value)(zf:Nat→Value):List Value:=data0::zT zf 1 8 (swaps9::i10::j11::k_12::zT zf 13 21 (t34::zT zf 35 22 ([])))
def fT (swaps9 j11:Value)(zf:Nat→Value):List Value:=zT zf 0 9 (swaps9::zf 10::j11::zT zf 12 45 ([]))
def eC (data0 swaps9 i10 j11 k_12:Value)(zf:Nat→Value):List Value:=data0::zT zf 1 8 (swaps9::i10::j11::k_12::zT zf 13 44 ([]))
def iL (K:KV):KE:=ah Q (cd f255 (b1 127)) (rk f255 K) xf (rk f255 K)
def bx (K:KV):KE:=kZ f255 (b1 255) K
def iM (K:KV):KE:=ah Q (cd f255 (b1 509)) (bx K) xf (rk f255 K)
def cW (K:KV):KE:=kY f255 (b1 2037) (bx K) xf K
def iO (K:KV):KE:=ah Q (cd f255 (b1 4073)) (cW K) xf (rk f255 K)
abbrev pK (K:KV)(hA0:KE)(data0 a1 b2:Value)(w:World):Prop :=
  bF .sub 3 b2 a1 (fun t15=>alc Q 3 fun swaps9=>bT .quo 3 t15 (ci 4) fun t18=>bT .mul 3 t18 (ci 1) fun t19=>bF .add 3 a1 t19 fun t20=>bT .quo 3 t15 (ci 4) fun t23=>bT .mul 3 t23 (ci 2) fun t24=>bF .add 3 a1 t24 fun t25=>bT .quo 3 t15 (ci 4) fun t28=>bT .mul 3 t28 (ci 3) fun t29=>bF .add 3 a1 t29 fun t30=>hA0 (iP data0 t15 swaps9 t20 t25 t30 (zV (zV (zV zu 1 [a1,b2]) 6 [ci 0,ci 0]) 13 [b2,a1,t15,a1,t15,t18,t19,t20,a1,t15,t23,t24,t25,a1,t15,t28,t29,t30]))) w
theorem xo (j:Code)(h:pK K (ah Q j (rk f255 K) (fun _ _ _=>False) (rk f255 K)) V0 W0 X0 w):ah Q (rep (b1 127) j (cd f255 [])) (rk f255 K) xf (rk f255 K) (po V0 W0 X0 zu) w:=Eq.mp kr h
theorem wK {K:KV}{V0 W0 X0:Value}{w:World}(h:pK K (iL K) V0 W0 X0 w):Gives Q 255 #[V0,W0,X0] w K:=aq func255 (by kernel_rfl) (Eq.mp (congrArg (fun c=>ah Q c (rk f255 K) xf (rk f255 K) (po V0 W0 X0 zu) w) (by kernel_rfl:(rep (b1 127) (cd f255 (b1 127)) (cd f255 []))=(cd f255 []))) (xo (cd f255 (b1 127)) h))
abbrev oy (K:KV)(hA0:KE)(V0 Y0 Z0 H1 I1 J1:Value)(zf:Nat→Value)(w:World):Prop :=
  bT .geq 3 Y0 (ci 8) (fun M1=>hA0 (iQ V0 Y0 Z0 H1 I1 J1 M1 (zV zf 31 [Y0]))) w
theorem vp (j:Code)(h:oy K (ah Q j (ah Q (cd f255 (b1 255)) (rk f255 K) (fun _ _ _=>False) (rk f255 K)) (fun _ _ _=>False) (rk f255 K)) V0 Y0 Z0 H1 I1 J1 zf w):ah Q (rep [0,1] j (cd f255 (b1 127))) (rk f255 K) xf (rk f255 K) (iP V0 Y0 Z0 H1 I1 J1 zf) w:=Eq.mp kr h
theorem vr {K:KV}{V0 Y0 Z0 H1 I1 J1:Value}{zf:Nat→Value}{w:World}(h:oy K (iM K) V0 Y0 Z0 H1 I1 J1 zf w):iL K (iP V0 Y0 Z0 H1 I1 J1 zf) w:=by
 delta iL
 exact Eq.mp (congrArg (fun c=>ah Q c (rk f255 K) xf (rk f255 K) (iP V0 Y0 Z0 H1 I1 J1 zf) w) (by kernel_rfl:(rep [0,1] (cd f255 (b1 509)) (cd f255 (b1 127)))=(cd f255 (b1 127)))) (vp (cd f255 (b1 509)) h)
abbrev oz (K:KV)(hA0 hA1:KE)(V0 Y0 Z0 H1 I1 J1 M1:Value)(zf:Nat→Value)(w:World):Prop :=
  cond M1 (bT .geq 3 Y0 (ci 50) (fun N1=>hA0 (iS V0 Z0 H1 I1 J1 N1 (zV (zV zf 8 [Y0]) 32 [M1,Y0]))) w) (hA1 (fT Z0 I1 (zV (zV (zV (zV (zV zf 0 [V0]) 8 [Y0]) 10 [H1]) 12 [J1]) 32 [M1])) w)
theorem vt (j:KE)(u:Code)(h:oz K (ah Q u (ah Q (cd f255 (b1 2037)) j (fun _ _ _=>False) (rk f255 K)) (fun _ _ _=>False) (rk f255 K)) j V0 Y0 Z0 H1 I1 J1 M1 zf w):ah Q (rep [0,0,1] u (cd f255 (b1 509))) j xf (rk f255 K) (iQ V0 Y0 Z0 H1 I1 J1 M1 zf) w:=Eq.mp kr h
theorem vu (h:oz K (iO K) (bx K) V0 Y0 Z0 H1 I1 J1 M1 zf w):iM K (iQ V0 Y0 Z0 H1 I1 J1 M1 zf) w:=by
 delta iM
 exact Eq.mp (congrArg (fun c=>ah Q c (bx K) xf (rk f255 K) (iQ V0 Y0 Z0 H1 I1 J1 M1 zf) w) (by kernel_rfl:(rep [0,0,1] (cd f255 (b1 4073)) (cd f255 (b1 509)))=(cd f255 (b1 509)))) (vt (bx K) (cd f255 (b1 4073)) h)
abbrev oB (K:KV)(hA0:KE)(V0 Z0 H1 I1 J1 N1:Value)(zf:Nat→Value)(w:World):Prop :=
  cond N1 (call Q 269 #[V0,H1,Z0] (fun t37=>call Q 269 #[V0,I1,Z0] fun t40=>call Q 269 #[V0,J1,Z0] fun t43=>hA0 (eC V0 Z0 t37 t40 t43 (zV zf 34 [N1,V0,H1,t37,V0,I1,t40,V0,J1,t43]))) w) (hA0 (eC V0 Z0 H1 I1 J1 (zV zf 34 [N1])) w)
theorem vw (j:KE)(h:oB K j V0 Z0 H1 I1 J1 N1 zf w):ah Q (cd f255 (b1 4073)) j xf (rk f255 K) (iS V0 Z0 H1 I1 J1 N1 zf) w:=Eq.mp kr h
theorem vx (h:oB K (cW K) V0 Z0 H1 I1 J1 N1 zf w):iO K (iS V0 Z0 H1 I1 J1 N1 zf) w:=by
 delta iO
 exact Eq.mp (congrArg (fun c=>ah Q c (cW K) xf (rk f255 K) (iS V0 Z0 H1 I1 J1 N1 zf) w) (by kernel_rfl:(cd f255 (b1 4073))=(cd f255 (b1 4073)))) (vw (cW K) h)
abbrev oC (K:KV)(Z0 I1:Value)(zf:Nat→Value)(w:World):Prop :=
  ld Q 3 Z0 (fun t49=>bT .eql 3 t49 (ci 0) fun t52 w=>cond t52 (K (.tuple #[I1,ci 1]) w) (bT .eql 3 t49 (ci 12) (fun t55 w=>cond t55 (K (.tuple #[I1,ci 2]) w) (K (.tuple #[I1,ci 0]) w)) w)) w
theorem vy (h:oC K Z0 I1 zf w):ah Q (cd f255 (b1 255)) (rk f255 K) xf (rk f255 K) (fT Z0 I1 zf) w:=Eq.mp kr h
theorem vz (h:oC K Z0 I1 zf w):bx K (fT Z0 I1 zf) w:=by
 delta bx
 exact Eq.mp (congrArg (fun c=>ah Q c (rk f255 K) xf (rk f255 K) (fT Z0 I1 zf) w) (by kernel_rfl:(cd f255 (b1 255))=(cd f255 (b1 255)))) (vy h)
abbrev oD (K:KV)(hA0:KE)(V0 Z0 H1 I1 J1:Value)(zf:Nat→Value)(w:World):Prop :=
  call Q 270 #[V0,H1,I1,J1,Z0] (fun t48=>hA0 (fT Z0 t48 (zV (zV (zV (zV zf 0 [V0]) 10 [H1]) 12 [J1]) 44 [V0,H1,I1,J1,t48]))) w
theorem vA (j:KE)(h:oD K j V0 Z0 H1 I1 J1 zf w):ah Q (cd f255 (b1 2037)) j xf (rk f255 K) (eC V0 Z0 H1 I1 J1 zf) w:=Eq.mp kr h
theorem vB (h:oD K (bx K) V0 Z0 H1 I1 J1 zf w):cW K (eC V0 Z0 H1 I1 J1 zf) w:=by
 delta cW
 exact Eq.mp (congrArg (fun c=>ah Q c (bx K) xf (rk f255 K) (eC V0 Z0 H1 I1 J1 zf) w) (by kernel_rfl:(cd f255 (b1 2037))=(cd f255 (b1 2037)))) (vA (bx K) h)
attribute [irreducible] iL bx iM cW iO
theorem uL (h:bT .sub 3 W0 (ci 1) (fun u=>nC W0 fun j=>call Q 270 #[V0,u,W0,j,X0] K) w):Gives Q 269 #[V0,W0,X0] w K:=by
 refine aq func269 kr ?_;exact mpK h
theorem Ad (h:call Q 273 #[V0,W0,X0,Z0] (fun j=>ext Q j 0 fun C=>ext Q j 1 fun I=>call Q 273 #[V0,I,Y0,Z0] fun t24=>ext Q t24 0 fun J=>ext Q t24 1 fun _=>call Q 273 #[V0,C,J,Z0] fun u=>ext Q u 0 fun _=>ext Q u 1 K) w):Gives Q 270 #[V0,W0,X0,Y0,Z0] w K:=by
 refine aq func270 kr ?_;exact mpK h
theorem Ae (h:aE (fun S w=>hI S 87 V0 X0 fun j=>hL S 31 j fun t13=>hI S 87 V0 W0 fun u=>hL S 31 u fun C=>call Q 258 #[t13,C] (fun I w=>cond I (aJ Y0 (fun J=>ld Q 3 J fun M=>nC M fun O=>aJ Y0 fun U=>sto Q 3 U O fun _=>K (.tuple #[X0,W0])) w) (K (.tuple #[W0,X0]) w)) w) w.drew):Gives Q 273 #[V0,W0,X0,Y0] w K:=by
 refine aq func273 kr ?_;exact mpK h
def qJ (data0 first6 lo7 hi8 i9:Value)(zf:Nat→Value):List Value:=data0::zT zf 1 5 (first6::lo7::hi8::i9::zT zf 10 46 ([]))
def qK (data0 first6 lo7 hi8:Value)(zf:Nat→Value):List Value:=data0::zT zf 1 5 (first6::lo7::hi8::zT zf 9 47 ([]))
def qL (data0 first6 lo7 i10:Value)(zf:Nat→Value):List Value:=data0::zT zf 1 5 (first6::lo7::zf 8::zf 9::i10::zT zf 11 45 ([]))
def dx (K:KV):KE:=kZ f253 [1,1,1,1] K
def jA (K:KV):KE:=ah Q (cd f253 (b1 122)) (dx K) (xx xf (dx K) 0) (rk f253 K)
def jB (K:KV):KE:=ah Q (cd f253 (b1 126)) (rk f253 K) (xx xf (rk f253 K) 2) (rk f253 K)
theorem yI (h:bF .sub 3 X0 W0 (fun t14=>bT .sub 3 t14 (ci 1) fun j=>bT .quo 3 j (ci 2) fun u=>jA K (qJ V0 W0 (ci 0) t14 u (zV (zV zu 1 [W0,X0]) 11 [W0,X0,W0,t14,t14,j,u]))) w):Gives Q 253 #[V0,W0,X0] w K:=by
 refine aq func253 kr ?_;revert h;delta jA dx;exact mpF
theorem xp (Inv:Value→World→Prop)(μ:Value→World→Nat)(M:Inv Z0 w)(O:∀(j:Value) (J:Nat→Value) (w:World) (m:Nat),Inv j w→m=μ j w →
  bT .geq 3 j (ci 0) (fun u w=>cond u (call Q 268 #[V0,j,Y0,W0] (fun _=>bT .sub 3 j (ci 1) fun C w=>(Inv C w)∧((μ C w)<m)) w) (dx K (qK V0 W0 X0 Y0 (zV (zV J 9 [j]) 18 [j,u])) w)) w):jA K (qJ V0 W0 X0 Y0 Z0 zf) w:=by
 refine aI (cd f253 (b1 244)) (zr [(9,1),(18,9)]) kr (vP [9] Inv) (vQ [9] μ) M ?_;intro e' w' hI;have h:=O _ (zM zf (gd e') (zr [(9,1),(18,9)])) w' _ hI rfl;revert h;generalize (dx K)=qc0;exact mpF
theorem xr (h:bT .sub 3 Y0 (ci 1) (fun j=>jB K (qL V0 W0 X0 j (zV (zV zf 8 [Y0]) 27 [Y0,j]))) w):dx K (qK V0 W0 X0 Y0 zf) w:=by
 delta dx;revert h;delta jB;exact mpF
theorem xq (Inv:Value→World→Prop)(μ:Value→World→Nat)(h0:Inv H1 w)(hs:∀(j:Value) (dd:Nat→Value) (w:World) (m:Nat),Inv j w→m=μ j w →
  bT .geq 3 j (ci 0) (fun I w=>cond I (aE (fun S w=>hld (fun _=>True) (bF .add 3 W0 j) fun J=>hld (fun _=>True) (bF .add 3 W0 j) fun M=>hI S 87 V0 M fun O=>hL S 31 O fun U=>hI S 87 V0 W0 fun Z=>hL S 31 Z fun aa=>hI S 87 V0 W0 fun ad=>sto Q 31 ad U (fun _=>aE fun S w=>hI S 87 V0 J fun af=>sto Q 31 af aa (fun _=>call Q 268 #[V0,X0,j,W0] fun _=>bT .sub 3 j (ci 1) fun u w=>(Inv u w)∧((μ u w)<m)) w) w) w.drew) (K (.tuple #[]) w)) w):jB K (qL V0 W0 X0 H1 zf) w:=by
 refine aI (cd f253 (b1 252)) (zr [(10,1),(29,27)]) kr (vP [10] Inv) (vQ [10] μ) h0 ?_;intro e' w' hI;have h:=hs _ (zM zf (gd e') (zr [(10,1),(29,27)])) w' _ hI rfl;exact mpK h
attribute [irreducible] dx jA jB
def mi (data0 hi2 first3 root8:Value)(zf:Nat→Value):List Value:=data0::zf 1::hi2::first3::zT zf 4 4 (root8::zT zf 9 67 ([]))
def qM (data0 hi2 first3 root8 child9 t36:Value)(zf:Nat→Value):List Value:=data0::zf 1::hi2::first3::zT zf 4 4 (root8::child9::zT zf 10 26 (t36::zT zf 37 39 ([])))
def jC (data0 hi2 first3 root8 child9:Value)(zf:Nat→Value):List Value:=data0::zf 1::hi2::first3::zT zf 4 4 (root8::child9::zT zf 10 66 ([]))
def jD (K:KV):KE:=ah Q (cd f268 [1,0]) (rk f268 K) (xx xf (rk f268 K) 0) (rk f268 K)
def cS (K:KV)(B1:KE):KE:=kY f268 (b1 199) B1 (xx (xx xf (rk f268 K) 0) B1 1) K
def gR (K:KV)(B1:KE):KE:=ah Q (cd f268 (b1 397)) (cS K B1) (xx (xx xf (rk f268 K) 0) B1 1) (rk f268 K)
theorem yJ (h:jD K (mi V0 W0 X0 Y0 (zV (zV zu 1 [Y0]) 10 [Y0])) w):Gives Q 268 #[V0,Y0,W0,X0] w K:=by
 refine aq func268 kr ?_;revert h;delta jD;exact mpF
theorem xt (Inv:Value→World→Prop)(μ:Value→World→Nat)(h0:Inv Y0 w)(hs:∀(root8':Value) (dd:Nat→Value) (w:World) (m:Nat),Inv root8' w→m=μ root8' w →
  bin Q .mul 3 true false (ci 2) root8' (fun t12=>nC t12 fun t13=>bF .geq 3 t13 W0 fun t16 w=>cond t16 (K (.tuple #[]) w) (sti (bT .add 3 t13 (ci 1)) (fun t18=>sti (bF .lss 3 t18 W0) fun t20 w=>aG t20 true (fun k22=>sti (bF .add 3 X0 t13) (fun t25=>sI 87 V0 t25 fun t26=>sL 31 t26 fun t27=>sti (bF .add 3 X0 t13) fun t31=>sti (bT .add 3 t31 (ci 1)) fun t32=>sI 87 V0 t32 fun t33=>sL 31 t33 fun t34=>sti (call Q 258 #[t27,t34]) fun t35=>k22 [V0,X0,t13,t25,t26,t27,V0,X0,t13,t31,t32,t33,t34,t35]) w) (fun k=>k [uu,uu,uu,uu,uu,uu,uu,uu,uu,uu,uu,uu,uu,uu] w) fun us22=>sti (pick t20 (gd us22 13) cF) fun H1=>gR K (fun e2 w2=>(Inv (gd e2 8) w2)∧((μ (gd e2 8) w2)<m)) (qM V0 W0 X0 root8' t13 H1 (zV dd 11 [root8',t12,t13,t13,W0,t16,t13,t18,W0,t20,t20,gd us22 0,gd us22 1,gd us22 2,gd us22 3,gd us22 4,gd us22 5,gd us22 6,gd us22 7,gd us22 8,gd us22 9,gd us22 10,gd us22 11,gd us22 12,gd us22 13]))) w.drew)) w):jD K (mi V0 W0 X0 Y0 zf) w:=by
 refine aI (cd f268 [1,0,0]) (zr [(8,2),(11,65)]) (by kernel_rfl) (vP [8] Inv) (vQ [8] μ) h0 ?_
 intro e' w' hI
 have h:=hs _ (zM zf (gd e') (zr [(8,2),(11,65)])) w' _ hI rfl
 refine Eq.mp (congrArg (fun c=>ah Q c _ _ _ _ w') (by kernel_rfl:(rep (b1 45) (cd f268 (b1 397)) (cd f268 [1,0,0]))=(cd f268 [1,0,0]))) ?_
 revert h
 delta gR cS
 generalize (cd f268 (b1 397))=xc0
 exact mpF
theorem pL (h:cond H1 (nC Z0 (fun j=>cS K B1 (jC V0 W0 X0 Y0 j (zV zf 36 [H1,Z0,j]))) w) (cS K B1 (jC V0 W0 X0 Y0 Z0 (zV zf 36 [H1])) w)):gR K B1 (qM V0 W0 X0 Y0 Z0 H1 zf) w:=by
 delta gR;revert h;generalize (cS K B1)=qc0;exact mpF
theorem xu (h:aE (fun S w=>hld (fun _=>True) (bF .add 3 X0 Y0) fun j=>hI S 87 V0 j fun u=>hL S 31 u fun C=>hld (fun _=>True) (bF .add 3 X0 Z0) fun I=>hI S 87 V0 I fun J=>hL S 31 J fun M=>call Q 258 #[C,M] (fun O=>aE fun S w=>hld S (un Q .not O) fun U=>cond U (K (.tuple #[]) w) (aE (fun S w=>hld (fun _=>True) (bF .add 3 X0 Y0) fun Z=>hld (fun _=>True) (bF .add 3 X0 Z0) fun aa=>hld (fun _=>True) (bF .add 3 X0 Z0) fun ad=>hI S 87 V0 ad fun af=>hL S 31 af fun ag=>hld (fun _=>True) (bF .add 3 X0 Y0) fun al=>hI S 87 V0 al fun am=>hL S 31 am fun an=>hI S 87 V0 Z fun ap=>sto Q 31 ap ag (fun _=>aE fun S w=>hI S 87 V0 aa fun ar=>sto Q 31 ar an (fun _=>B1 (mi V0 W0 X0 Z0 (zV (zV zf 9 [Z0]) 39 [V0,X0,Y0,j,u,C,V0,X0,Z0,I,J,M,O,U,V0,X0,Y0,Z,V0,X0,Z0,aa,V0,X0,Z0,ad,af,ag,V0,X0,Y0,al,am,an,ap,ar,Z0]))) w) w) w.drew)) w) w.drew):cS K B1 (jC V0 W0 X0 Y0 Z0 zf) w:=by
 delta cS;exact mpK h
attribute [irreducible] jD cS gR
def oZ (data0 i6 j7:Value)(zf:Nat→Value):List Value:=data0::zT zf 1 5 (i6::j7::zT zf 8 24 ([]))
def iB (K:KV):KE:=ah Q (cd f256 [1,1,0]) (rk f256 K) (xx xf (rk f256 K) 0) (rk f256 K)
theorem wy (h:bT .sub 3 X0 (ci 1) (fun j=>iB K (oZ V0 W0 j (zV (zV zu 1 [W0,X0]) 8 [W0,X0,j]))) w):Gives Q 256 #[V0,W0,X0] w K:=by
 refine aq func256 kr ?_;revert h;delta iB;exact mpF
theorem uO (Inv:Value→Value→World→Prop)(μ:Value→Value→World→Nat)(h0:Inv W0 X0 w)(hs:∀(j u:Value) (dd:Nat→Value) (w:World) (m:Nat),Inv j u w→m=μ j u w →
  lS j u (fun t13 w=>cond t13 (aE (fun S w=>hI S 87 V0 u fun M=>hL S 31 M fun O=>hI S 87 V0 j fun t24=>hL S 31 t24 fun U=>hI S 87 V0 j fun Z=>sto Q 31 Z O (fun _=>aE fun S w=>hI S 87 V0 u fun aa=>sto Q 31 aa U (fun _=>nC j fun I=>bT .sub 3 u (ci 1) fun J w=>(Inv I J w)∧((μ I J w)<m)) w) w) w.drew) (K (.tuple #[]) w)) w):iB K (oZ V0 W0 X0 zf) w:=by
 refine aI (cd f256 [1,1,0,0]) (zr [(6,2),(11,21)]) kr (vP [6,7] Inv) (vQ [6,7] μ) h0 ?_;intro e' w' hI;have h:=hs _ _ (zM zf (gd e') (zr [(6,2),(11,21)])) w' _ hI rfl;exact mpK h
attribute [irreducible] iB
def aD (data0 a1 i10 j11:Value)(zf:Nat→Value):List Value:=data0::a1::zT zf 2 8 (i10::j11::zT zf 12 156 ([]))
def pX (data0 a1 j11:Value)(zf:Nat→Value):List Value:=data0::a1::zT zf 2 9 (j11::zT zf 12 156 ([]))
def cE (K:KV):KE:=kZ f260 [1,1,1,1] K
def jg (K:KV):KE:=ah Q (cd f260 (b1 60)) (cE K) (xx xf (cE K) 0) (rk f260 K)
def cH (K:KV):KE:=kZ f260 (b1 63) K
def jh (K:KV):KE:=ah Q (cd f260 (b1 124)) (cH K) (xx xf (cH K) 2) (rk f260 K)
def gH (K:KV):KE:=ah Q (cd f260 (b1 255)) (rk f260 K) xf (rk f260 K)
def aW (K:KV):KE:=kZ f260 (b1 2047) K
def ji (K:KV):KE:=ah Q (cd f260 (b1 4092)) (aW K) (xx xf (aW K) 4) (rk f260 K)
def cJ (K:KV)(B1:KE):KE:=kY f260 (b1 32737) B1 (xx (xx xf (aW K) 4) B1 5) K
def gI (K:KV)(B1:KE):KE:=ah Q (cd f260 (b1 65472)) (cJ K B1) (xx (xx (xx xf (aW K) 4) B1 5) (cJ K B1) 6) (rk f260 K)
def cK (K:KV)(B1:KE):KE:=kY f260 (b1 65475) B1 (xx (xx xf (aW K) 4) B1 5) K
def jj (K:KV)(B1:KE):KE:=ah Q (cd f260 (b1 130948)) (cK K B1) (xx (xx (xx xf (aW K) 4) B1 5) (cK K B1) 8) (rk f260 K)
theorem xQ (h:aE (fun S w=>hI S 87 V0 Y0 fun j=>hL S 31 j fun u=>hI S 87 V0 W0 fun C=>hL S 31 C fun I=>hI S 87 V0 W0 fun t24=>sto Q 31 t24 u (fun _=>aE fun S w=>hI S 87 V0 Y0 fun J=>sto Q 31 J I (fun _=>nC W0 fun M=>bT .sub 3 X0 (ci 1) fun O=>jg K (aD V0 W0 M O (zV (zV (zV zu 2 [X0,Y0]) 8 [ci 0,cF]) 12 [V0,W0,V0,Y0,V0,Y0,j,u,V0,W0,C,I,t24,J,W0,M,X0,O]))) w) w) w.drew):Gives Q 260 #[V0,W0,X0,Y0] w K:=by
 refine aq func260 kr ?_;revert h;delta jg cE;exact mpF
theorem wM (Inv:Value→World→Prop)(μ:Value→World→Nat)(h0:Inv X0 w)(hs:∀(u:Value) (dd:Nat→Value) (w:World) (m:Nat),Inv u w→m=μ u w →
  sti (bF .leq 3 u Y0) (fun C w=>aG C true (fun aa=>sI 87 V0 u (fun I=>sL 31 I fun J=>sI 87 V0 W0 fun M=>sL 31 M fun O=>sti (call Q 258 #[J,O]) fun ad=>aa [V0,u,I,J,V0,W0,M,O,ad]) w) (fun k=>k [uu,uu,uu,uu,uu,uu,uu,uu,uu] w) fun j=>sti (pick C (gd j 8) cF) fun U w=>cond U (nC u (fun Z w=>(Inv Z w)∧((μ Z w)<m)) w) (cE K (aD V0 W0 u Y0 (zV dd 30 [u,Y0,C,C,gd j 0,gd j 1,gd j 2,gd j 3,gd j 4,gd j 5,gd j 6,gd j 7,gd j 8,U])) w)) w.drew):jg K (aD V0 W0 X0 Y0 zf) w:=by
 refine aI (cd f260 (b1 120)) (zr [(10,1),(30,16)]) kr (vP [10] Inv) (vQ [10] μ) h0 ?_;intro e' w' hI;have h:=hs _ (zM zf (gd e') (zr [(10,1),(30,16)])) w' _ hI rfl;revert h;generalize (cE K)=qc0;exact mpF
theorem wS (h:jh K (aD V0 W0 X0 Y0 zf) w):cE K (aD V0 W0 X0 Y0 zf) w:=by
 delta cE;revert h;delta jh cH;exact mpF
theorem wN (Inv:Value→World→Prop)(μ:Value→World→Nat)(h0:Inv Y0 w)(hs:∀(u:Value) (dd:Nat→Value) (w:World) (m:Nat),Inv u w→m=μ u w →
  sti (bF .leq 3 X0 u) (fun C w=>aG C true (fun ad=>sI 87 V0 u (fun I=>sL 31 I fun J=>sI 87 V0 W0 fun M=>sL 31 M fun O=>sti (call Q 258 #[J,O]) fun U=>sti (un Q .not U) fun af=>ad [V0,u,I,J,V0,W0,M,O,U,af]) w) (fun k=>k [uu,uu,uu,uu,uu,uu,uu,uu,uu,uu] w) fun j=>sti (pick C (gd j 9) cF) fun Z w=>cond Z (bT .sub 3 u (ci 1) (fun aa w=>(Inv aa w)∧((μ aa w)<m)) w) (cH K (aD V0 W0 X0 u (zV dd 46 [X0,u,C,C,gd j 0,gd j 1,gd j 2,gd j 3,gd j 4,gd j 5,gd j 6,gd j 7,gd j 8,gd j 9,Z])) w)) w.drew):jh K (aD V0 W0 X0 Y0 zf) w:=by
 refine aI (cd f260 (b1 248)) (zr [(11,1),(46,17)]) kr (vP [11] Inv) (vQ [11] μ) h0 ?_;intro e' w' hI;have h:=hs _ (zM zf (gd e') (zr [(11,1),(46,17)])) w' _ hI rfl;revert h;generalize (cH K)=qc0;exact mpF
theorem wT (h:bF .gtr 3 X0 Y0 (fun t65 w=>cond t65 (aE (fun S w=>hI S 87 V0 W0 fun t72=>hL S 31 t72 fun t73=>hI S 87 V0 Y0 fun t76=>hL S 31 t76 fun t77=>hI S 87 V0 Y0 fun t78=>sto Q 31 t78 t73 (fun _=>aE fun S w=>hI S 87 V0 W0 fun t79=>sto Q 31 t79 t77 (fun _=>K (.tuple #[Y0,cT])) w) w) w.drew) (aE (fun S w=>hI S 87 V0 Y0 fun t87=>hL S 31 t87 fun t88=>hI S 87 V0 X0 fun t91=>hL S 31 t91 fun t92=>hI S 87 V0 X0 fun t93=>sto Q 31 t93 t88 (fun _=>aE fun S w=>hI S 87 V0 Y0 fun t94=>sto Q 31 t94 t92 (fun _=>gH K (aD V0 W0 X0 Y0 (zV (zV zf 63 [X0,Y0,t65]) 81 [V0,X0,V0,Y0,V0,Y0,t87,t88,V0,X0,t91,t92,t93,t94]))) w) w) w.drew)) w):cH K (aD V0 W0 X0 Y0 zf) w:=by
 delta cH
 refine Eq.mp (congrArg (fun c=>ah Q c _ _ _ _ w) (by kernel_rfl:(rep [1,1] (cd f260 (b1 255)) (cd f260 (b1 63)))=(cd f260 (b1 63)))) ?_
 revert h
 delta gH
 generalize (cd f260 (b1 255))=xc0
 exact mpF
theorem wL (h:nC X0 (fun j=>bT .sub 3 Y0 (ci 1) fun u=>ji K (aD V0 W0 j u (zV zf 95 [X0,j,Y0,u]))) w):gH K (aD V0 W0 X0 Y0 zf) w:=by
 delta gH;revert h;delta ji aW;exact mpF
theorem wO (Inv:Value→Value→World→Prop)(μ:Value→Value→World→Nat)(J:Inv X0 Y0 w)(M:∀(j u:Value) (I:Nat→Value) (w:World) (m:Nat),Inv j u w→m=μ j u w →
  gI K (fun C w2=>(Inv (gd C 10) (gd C 11) w2)∧((μ (gd C 10) (gd C 11) w2)<m)) (aD V0 W0 j u I) w):ji K (aD V0 W0 X0 Y0 zf) w:=by
 refine aI (cd f260 (b1 8184)) (zr [(10,2),(99,54)]) kr (vP [10,11] Inv) (vQ [10,11] μ) J ?_;intro e' w' hI;have h:=M _ _ (zM zf (gd e') (zr [(10,2),(99,54)])) w' _ hI rfl;revert h;delta gI cJ;generalize (aW K)=qc0;exact mpF
theorem wQ (Inv:Value→World→Prop)(μ:Value→World→Nat)(h0:Inv X0 w)(hs:∀(u:Value) (dd:Nat→Value) (w:World) (m:Nat),Inv u w→m=μ u w →
  sti (bF .leq 3 u Y0) (fun C w=>aG C true (fun aa=>sI 87 V0 u (fun I=>sL 31 I fun J=>sI 87 V0 W0 fun M=>sL 31 M fun O=>sti (call Q 258 #[J,O]) fun ad=>aa [V0,u,I,J,V0,W0,M,O,ad]) w) (fun k=>k [uu,uu,uu,uu,uu,uu,uu,uu,uu] w) fun j=>sti (pick C (gd j 8) cF) fun U w=>cond U (nC u (fun Z w=>(Inv Z w)∧((μ Z w)<m)) w) (cJ K B1 (aD V0 W0 u Y0 (zV dd 99 [u,Y0,C,C,gd j 0,gd j 1,gd j 2,gd j 3,gd j 4,gd j 5,gd j 6,gd j 7,gd j 8,U])) w)) w.drew):gI K B1 (aD V0 W0 X0 Y0 zf) w:=by
 refine aI (cd f260 (b1 130944)) (zr [(10,1),(99,16)]) kr (vP [10] Inv) (vQ [10] μ) h0 ?_;intro e' w' hI;have h:=hs _ (zM zf (gd e') (zr [(10,1),(99,16)])) w' _ hI rfl;revert h;generalize (aW K)=qc0;generalize (cJ K B1)=qc1;exact mpF
theorem wV (h:jj K B1 (aD V0 W0 X0 Y0 zf) w):cJ K B1 (aD V0 W0 X0 Y0 zf) w:=by
 delta cJ;revert h;delta jj cK;generalize (aW K)=qc0;exact mpF
theorem wR (Inv:Value→World→Prop)(μ:Value→World→Nat)(h0:Inv Y0 w)(hs:∀(u:Value) (dd:Nat→Value) (w:World) (m:Nat),Inv u w→m=μ u w →
  sti (bF .leq 3 X0 u) (fun C w=>aG C true (fun ad=>sI 87 V0 u (fun I=>sL 31 I fun J=>sI 87 V0 W0 fun M=>sL 31 M fun O=>sti (call Q 258 #[J,O]) fun U=>sti (un Q .not U) fun af=>ad [V0,u,I,J,V0,W0,M,O,U,af]) w) (fun k=>k [uu,uu,uu,uu,uu,uu,uu,uu,uu,uu] w) fun j=>sti (pick C (gd j 9) cF) fun Z w=>cond Z (bT .sub 3 u (ci 1) (fun aa w=>(Inv aa w)∧((μ aa w)<m)) w) (cK K B1 (aD V0 W0 X0 u (zV dd 115 [X0,u,C,C,gd j 0,gd j 1,gd j 2,gd j 3,gd j 4,gd j 5,gd j 6,gd j 7,gd j 8,gd j 9,Z])) w)) w.drew):jj K B1 (aD V0 W0 X0 Y0 zf) w:=by
 refine aI (cd f260 (b1 261896)) (zr [(11,1),(115,17)]) kr (vP [11] Inv) (vQ [11] μ) h0 ?_;intro e' w' hI;have h:=hs _ (zM zf (gd e') (zr [(11,1),(115,17)])) w' _ hI rfl;revert h;generalize (aW K)=qc0;generalize (cK K B1)=qc1;exact mpF
theorem wW (h:bF .gtr 3 X0 Y0 (fun j w=>cond j (aW K (pX V0 W0 Y0 (zV (zV zf 10 [X0]) 132 [X0,Y0,j])) w) (aE (fun S w=>hI S 87 V0 Y0 fun u=>hL S 31 u fun C=>hI S 87 V0 X0 fun I=>hL S 31 I fun J=>hI S 87 V0 X0 fun M=>sto Q 31 M C (fun _=>aE fun S w=>hI S 87 V0 Y0 fun O=>sto Q 31 O J (fun _=>nC X0 fun U=>bT .sub 3 Y0 (ci 1) fun Z=>B1 (aD V0 W0 U Z (zV zf 132 [X0,Y0,j,V0,X0,V0,Y0,V0,Y0,u,C,V0,X0,I,J,M,O,X0,U,Y0,Z]))) w) w) w.drew)) w):cK K B1 (aD V0 W0 X0 Y0 zf) w:=by
 delta cK;revert h;generalize (aW K)=qc0;exact mpF
theorem wU (h:aE (fun S w=>hI S 87 V0 W0 fun j=>hL S 31 j fun u=>hI S 87 V0 Y0 fun C=>hL S 31 C fun I=>hI S 87 V0 Y0 fun J=>sto Q 31 J u (fun _=>aE fun S w=>hI S 87 V0 W0 fun M=>sto Q 31 M I (fun _=>K (.tuple #[Y0,cF])) w) w) w.drew):aW K (pX V0 W0 Y0 zf) w:=by
 delta aW;exact mpK h
attribute [irreducible] cE jg cH jh gH aW ji cJ gI cK jj
theorem tA (h:lN 87 V0 (fun t4=>conv Q 3 251 t4 fun j=>call Q 178 #[j] fun u=>call Q 230 #[V0,ci 0,t4,u] fun _=>K (.tuple #[])) w):Gives Q 209 #[V0] w K:=by
 refine aq func209 kr ?_;exact mpK h
def en (data0 a1 b2 limit3 wasBalanced8 wasPartitioned9:Value)(zf:Nat→Value):List Value:=data0::a1::b2::limit3::zT zf 4 4 (wasBalanced8::wasPartitioned9::zT zf 10 124 ([]))
def qR (data0 a1 b2 limit3:Value)(zf:Nat→Value):List Value:=data0::a1::b2::limit3::zT zf 4 130 ([])
def gZ (data0 a1 b2 limit3 wasBalanced8 wasPartitioned9 length10 t35:Value)(zf:Nat→Value):List Value:=data0::a1::b2::limit3::zT zf 4 4 (wasBalanced8::wasPartitioned9::length10::zT zf 11 24 (t35::zT zf 36 98 ([])))
def fG (data0 a1 b2 limit3 wasBalanced8 wasPartitioned9 length10:Value)(zf:Nat→Value):List Value:=data0::a1::b2::limit3::zT zf 4 4 (wasBalanced8::wasPartitioned9::length10::zT zf 11 123 ([]))
def jJ (data0 a1 b2 limit3 wasBalanced8 wasPartitioned9 length10 pivot11 hint12 t50:Value)(zf:Nat→Value):List Value:=data0::a1::b2::limit3::zT zf 4 4 (wasBalanced8::wasPartitioned9::length10::pivot11::hint12::zT zf 13 37 (t50::zT zf 51 83 ([])))
def fH (data0 a1 b2 limit3 wasBalanced8 wasPartitioned9 length10 pivot11 hint12:Value)(zf:Nat→Value):List Value:=data0::a1::b2::limit3::zT zf 4 4 (wasBalanced8::wasPartitioned9::length10::pivot11::hint12::zT zf 13 121 ([]))
def hJ (data0 a1 b2 limit3 wasBalanced8 wasPartitioned9 length10 pivot11 t68:Value)(zf:Nat→Value):List Value:=data0::a1::b2::limit3::zT zf 4 4 (wasBalanced8::wasPartitioned9::length10::pivot11::zT zf 12 56 (t68::zT zf 69 65 ([])))
def fI (data0 a1 b2 limit3 wasBalanced8 wasPartitioned9 length10 pivot11:Value)(zf:Nat→Value):List Value:=data0::a1::b2::limit3::zT zf 4 4 (wasBalanced8::wasPartitioned9::length10::pivot11::zT zf 12 122 ([]))
def hU (data0 a1 b2 limit3 length10 mid14 alreadyPartitioned15:Value)(zf:Nat→Value):List Value:=data0::a1::b2::limit3::zT zf 4 6 (length10::zT zf 11 3 (mid14::alreadyPartitioned15::zT zf 16 118 ([])))
def nk (K:KV):KE:=ah Q (cd f230 [1,1,0]) (rk f230 K) (xx xf (rk f230 K) 0) (rk f230 K)
def dB (K:KV)(B1:KE):KE:=kY f230 (b1 911) B1 (xx (xx xf (rk f230 K) 0) B1 1) K
def jH (K:KV)(B1:KE):KE:=ah Q (cd f230 (b1 1821)) (dB K B1) (xx (xx xf (rk f230 K) 0) B1 1) (rk f230 K)
def dC (K:KV)(B1:KE):KE:=kY f230 (b1 3647) B1 (xx (xx xf (rk f230 K) 0) B1 1) K
def jI (K:KV)(B1:KE):KE:=ah Q (cd f230 (b1 7293)) (dC K B1) (xx (xx xf (rk f230 K) 0) B1 1) (rk f230 K)
def dD (K:KV)(B1:KE):KE:=kY f230 (b1 7295) B1 (xx (xx xf (rk f230 K) 0) B1 1) K
def gX (K:KV)(B1:KE):KE:=ah Q (cd f230 (b1 14589)) (dD K B1) (xx (xx xf (rk f230 K) 0) B1 1) (rk f230 K)
def gY (K:KV)(B1:KE):KE:=ah Q (cd f230 (b1 29183)) B1 (xx (xx xf (rk f230 K) 0) B1 1) (rk f230 K)
abbrev rU (K:KV)(hA0:KE)(data0 a1 b2 limit3:Value)(w:World):Prop :=
  hA0 (en data0 a1 b2 limit3 cT cT zu) w
theorem Ag (h:rU K (ah Q (cd f230 [1,1,0]) (rk f230 K) (fun i=>@Bool.rec (fun _=>KE) ((fun _ _ _=>False) i) (rk f230 K) (Nat.beq i 0)) (rk f230 K)) V0 W0 X0 Y0 w):ah Q (cd f230 []) (rk f230 K) xf (rk f230 K) (qR V0 W0 X0 Y0 zu) w:=Eq.mp kr h
theorem qS {K:KV}{V0 W0 X0 Y0:Value}{w:World}(h:rU K (nk K) V0 W0 X0 Y0 w):Gives Q 230 #[V0,W0,X0,Y0] w K:=aq func230 (by kernel_rfl) (Eq.mp (congrArg (fun c=>ah Q c (rk f230 K) xf (rk f230 K) (qR V0 W0 X0 Y0 zu) w) (by kernel_rfl:(cd f230 [])=(cd f230 []))) (Ag h))
theorem xZ (B1:KE)(I:Code)(h:bF .sub 3 X0 W0 (fun j=>bT .leq 3 j (ci 12) fun u w=>cond u (call Q 252 #[V0,W0,X0] (fun _=>K (.tuple #[])) w) (bT .eql 3 Y0 (ci 0) (fun C w=>cond C (call Q 253 #[V0,W0,X0] (fun _=>K (.tuple #[])) w) (un Q .not Z0 (fun P1=>ah Q I (ah Q (cd f230 (b1 911)) B1 (fun i=>@Bool.rec (fun _=>KE) ((fun i=>@Bool.rec (fun _=>KE) ((fun _ _ _=>False) i) (rk f230 K) (Nat.beq i 0)) i) B1 (Nat.beq i 1)) (rk f230 K)) (fun i=>@Bool.rec (fun _=>KE) ((fun i=>@Bool.rec (fun _=>KE) ((fun _ _ _=>False) i) (rk f230 K) (Nat.beq i 0)) i) B1 (Nat.beq i 1)) (rk f230 K) (gZ V0 W0 X0 Y0 Z0 H1 j P1 (zV (zV (zV zf 19 [X0,W0,j,j,u]) 28 [Y0,C]) 34 [Z0]))) w)) w)) w):ah Q (rep (b1 93) I (cd f230 [1,1,0,0])) B1 (xx xf (rk f230 K) 0) (rk f230 K) (en V0 W0 X0 Y0 Z0 H1 zf) w:=Eq.mp kr h
theorem qe (Inv:vI 5)(μ:vM 5)(h0:Inv W0 X0 Y0 Z0 H1 w)(hs:∀(J M I j u:Value) (dd:Nat→Value) (w:World) (m:Nat),Inv J M I j u w→m=μ J M I j u w →
  bF .sub 3 M J (fun O=>bT .leq 3 O (ci 12) fun U w=>cond U (call Q 252 #[V0,J,M] (fun _=>K (.tuple #[])) w) (bT .eql 3 I (ci 0) (fun Z w=>cond Z (call Q 253 #[V0,J,M] (fun _=>K (.tuple #[])) w) (un Q .not j (fun P1=>jH K (fun C w2=>(Inv (gd C 1) (gd C 2) (gd C 3) (gd C 8) (gd C 9) w2)∧((μ (gd C 1) (gd C 2) (gd C 3) (gd C 8) (gd C 9) w2)<m)) (gZ V0 J M I j u O P1 (zV (zV (zV dd 19 [M,J,O,O,U]) 28 [I,Z]) 34 [j]))) w)) w)) w):nk K (en V0 W0 X0 Y0 Z0 H1 zf) w:=by
 refine aI (cd f230 [1,1,0,0]) (zr [(1,3),(8,126)]) kr (vP [1,2,3,8,9] Inv) (vQ [1,2,3,8,9] μ) h0 ?_;intro e' w' hI;have h:=hs _ _ _ _ _ (zM zf (gd e') (zr [(1,3),(8,126)])) w' _ hI rfl
 have h2:ah Q (rep (b1 93) (cd f230 (b1 1821)) (cd f230 [1,1,0,0])) (fun C w2=>Inv (gd C 1) (gd C 2) (gd C 3) (gd C 8) (gd C 9) w2∧μ (gd C 1) (gd C 2) (gd C 3) (gd C 8) (gd C 9) w2<μ (gd e' 1) (gd e' 2) (gd e' 3) (gd e' 8) (gd e' 9) w') (xx xf (rk f230 K) 0) (rk f230 K) (en V0 (gd e' 1) (gd e' 2) (gd e' 3) (gd e' 8) (gd e' 9) (zM zf (gd e') (zr [(1,3),(8,126)]))) w':=xZ (fun C w2=>Inv (gd C 1) (gd C 2) (gd C 3) (gd C 8) (gd C 9) w2∧μ (gd C 1) (gd C 2) (gd C 3) (gd C 8) (gd C 9) w2<μ (gd e' 1) (gd e' 2) (gd e' 3) (gd e' 8) (gd e' 9) w') (cd f230 (b1 1821)) (Eq.mp kr h)
 exact Eq.mp kr h2
abbrev pY (K:KV)(B1:KE)(hA0:KE)(V0 W0 X0 Y0 Z0 H1 I1 P1:Value)(zf:Nat→Value)(w:World):Prop :=
  cond P1 (call Q 254 #[V0,W0,X0] (fun t39=>bT .sub 3 Y0 (ci 1) fun t41=>hA0 (fG V0 W0 X0 t41 Z0 H1 I1 (zV zf 35 [P1,V0,W0,X0,t39,Y0,t41]))) w) (hA0 (fG V0 W0 X0 Y0 Z0 H1 I1 (zV zf 35 [P1])) w)
theorem xR (B1:KE)(j:KE)(h:pY K B1 j V0 W0 X0 Y0 Z0 H1 I1 P1 zf w):ah Q (cd f230 (b1 1821)) j (xx (xx xf (rk f230 K) 0) B1 1) (rk f230 K) (gZ V0 W0 X0 Y0 Z0 H1 I1 P1 zf) w:=Eq.mp kr h
theorem xS {K:KV}{B1:KE}{V0 W0 X0 Y0 Z0 H1 I1 P1:Value}{zf:Nat→Value}{w:World}(h:pY K B1 (dB K B1) V0 W0 X0 Y0 Z0 H1 I1 P1 zf w):jH K B1 (gZ V0 W0 X0 Y0 Z0 H1 I1 P1 zf) w:=by
 delta jH
 exact Eq.mp (congrArg (fun c=>ah Q c (dB K B1) (xx (xx xf (rk f230 K) 0) B1 1) (rk f230 K) (gZ V0 W0 X0 Y0 Z0 H1 I1 P1 zf) w) (by kernel_rfl:(cd f230 (b1 1821))=(cd f230 (b1 1821)))) (xR B1 (dB K B1) h)
abbrev qf (K:KV)(B1:KE)(hA0:KE)(V0 W0 X0 Y0 Z0 H1 I1:Value)(zf:Nat→Value)(w:World):Prop :=
  call Q 255 #[V0,W0,X0] (fun t46=>ext Q t46 0 fun t47=>ext Q t46 1 fun t48=>bT .eql 323 t48 (ci 2) fun Q1=>hA0 (jJ V0 W0 X0 Y0 Z0 H1 I1 t47 t48 Q1 (zV zf 42 [t46,V0,W0,X0,t46,t47,t48,t48]))) w
theorem y8 (B1:KE)(j:Code)(h:qf K B1 (ah Q j (ah Q (cd f230 (b1 3647)) B1 (fun i=>@Bool.rec (fun _=>KE) ((fun i=>@Bool.rec (fun _=>KE) ((fun _ _ _=>False) i) (rk f230 K) (Nat.beq i 0)) i) B1 (Nat.beq i 1)) (rk f230 K)) (fun i=>@Bool.rec (fun _=>KE) ((fun i=>@Bool.rec (fun _=>KE) ((fun _ _ _=>False) i) (rk f230 K) (Nat.beq i 0)) i) B1 (Nat.beq i 1)) (rk f230 K)) V0 W0 X0 Y0 Z0 H1 I1 zf w):ah Q (rep [1,0,1] j (cd f230 (b1 911))) B1 (xx (xx xf (rk f230 K) 0) B1 1) (rk f230 K) (fG V0 W0 X0 Y0 Z0 H1 I1 zf) w:=Eq.mp kr h
theorem ya {K:KV}{B1:KE}{V0 W0 X0 Y0 Z0 H1 I1:Value}{zf:Nat→Value}{w:World}(h:qf K B1 (jI K B1) V0 W0 X0 Y0 Z0 H1 I1 zf w):dB K B1 (fG V0 W0 X0 Y0 Z0 H1 I1 zf) w:=by
 delta dB
 exact Eq.mp (congrArg (fun c=>ah Q c B1 (xx (xx xf (rk f230 K) 0) B1 1) (rk f230 K) (fG V0 W0 X0 Y0 Z0 H1 I1 zf) w) (by kernel_rfl:(rep [1,0,1] (cd f230 (b1 7293)) (cd f230 (b1 911)))=(cd f230 (b1 911)))) (y8 B1 (cd f230 (b1 7293)) h)
abbrev pZ (K:KV)(B1:KE)(hA0:KE)(V0 W0 X0 Y0 Z0 H1 I1 J1 M1 Q1:Value)(zf:Nat→Value)(w:World):Prop :=
  cond Q1 (call Q 256 #[V0,W0,X0] (fun t54=>bT .sub 3 X0 (ci 1) fun t56=>bF .sub 3 J1 W0 fun t59=>bF .sub 3 t56 t59 fun t60=>hA0 (fH V0 W0 X0 Y0 Z0 H1 I1 t60 (ci 1) (zV zf 50 [Q1,V0,W0,X0,t54,X0,t56,J1,W0,t59,t60]))) w) (hA0 (fH V0 W0 X0 Y0 Z0 H1 I1 J1 M1 (zV zf 50 [Q1])) w)
theorem xT (B1:KE)(j:KE)(h:pZ K B1 j V0 W0 X0 Y0 Z0 H1 I1 J1 M1 Q1 zf w):ah Q (cd f230 (b1 7293)) j (xx (xx xf (rk f230 K) 0) B1 1) (rk f230 K) (jJ V0 W0 X0 Y0 Z0 H1 I1 J1 M1 Q1 zf) w:=Eq.mp kr h
theorem xU {K:KV}{B1:KE}{V0 W0 X0 Y0 Z0 H1 I1 J1 M1 Q1:Value}{zf:Nat→Value}{w:World}(h:pZ K B1 (dC K B1) V0 W0 X0 Y0 Z0 H1 I1 J1 M1 Q1 zf w):jI K B1 (jJ V0 W0 X0 Y0 Z0 H1 I1 J1 M1 Q1 zf) w:=by
 delta jI
 exact Eq.mp (congrArg (fun c=>ah Q c (dC K B1) (xx (xx xf (rk f230 K) 0) B1 1) (rk f230 K) (jJ V0 W0 X0 Y0 Z0 H1 I1 J1 M1 Q1 zf) w) (by kernel_rfl:(cd f230 (b1 7293))=(cd f230 (b1 7293)))) (xT B1 (dC K B1) h)
abbrev qg (K:KV)(B1:KE)(hA0:KE)(V0 W0 X0 Y0 Z0 H1 I1 J1 M1:Value)(zf:Nat→Value)(w:World):Prop :=
  aG Z0 true (fun k63=>k63 [H1] w) (fun k=>k [uu] w) fun us63=>pick Z0 (gd us63 0) cF fun t64 w=>aG t64 true (fun k66=>bT .eql 323 M1 (ci 1) (fun t67=>k66 [M1,t67]) w) (fun k=>k [uu,uu] w) fun us66=>pick t64 (gd us66 1) cF fun T1=>hA0 (hJ V0 W0 X0 Y0 Z0 H1 I1 J1 T1 (zV (zV zf 12 [M1]) 61 [Z0,Z0,gd us63 0,t64,t64,gd us66 0,gd us66 1]))
theorem yb (B1:KE)(j:Code)(h:qg K B1 (ah Q j (ah Q (cd f230 (b1 7295)) B1 (fun i=>@Bool.rec (fun _=>KE) ((fun i=>@Bool.rec (fun _=>KE) ((fun _ _ _=>False) i) (rk f230 K) (Nat.beq i 0)) i) B1 (Nat.beq i 1)) (rk f230 K)) (fun i=>@Bool.rec (fun _=>KE) ((fun i=>@Bool.rec (fun _=>KE) ((fun _ _ _=>False) i) (rk f230 K) (Nat.beq i 0)) i) B1 (Nat.beq i 1)) (rk f230 K)) V0 W0 X0 Y0 Z0 H1 I1 J1 M1 zf w):ah Q (rep [0,1] j (cd f230 (b1 3647))) B1 (xx (xx xf (rk f230 K) 0) B1 1) (rk f230 K) (fH V0 W0 X0 Y0 Z0 H1 I1 J1 M1 zf) w:=Eq.mp kr h
theorem yc {K:KV}{B1:KE}{V0 W0 X0 Y0 Z0 H1 I1 J1 M1:Value}{zf:Nat→Value}{w:World}(h:qg K B1 (gX K B1) V0 W0 X0 Y0 Z0 H1 I1 J1 M1 zf w):dC K B1 (fH V0 W0 X0 Y0 Z0 H1 I1 J1 M1 zf) w:=by
 delta dC
 exact Eq.mp (congrArg (fun c=>ah Q c B1 (xx (xx xf (rk f230 K) 0) B1 1) (rk f230 K) (fH V0 W0 X0 Y0 Z0 H1 I1 J1 M1 zf) w) (by kernel_rfl:(rep [0,1] (cd f230 (b1 14589)) (cd f230 (b1 3647)))=(cd f230 (b1 3647)))) (yb B1 (cd f230 (b1 14589)) h)
abbrev qb (K:KV)(B1:KE)(hA0:KE)(V0 W0 X0 Y0 Z0 H1 I1 J1 T1:Value)(zf:Nat→Value)(w:World):Prop :=
  cond T1 (call Q 257 #[V0,W0,X0] (fun t72 w=>cond t72 (K (.tuple #[]) w) (hA0 (fI V0 W0 X0 Y0 Z0 H1 I1 J1 (zV zf 68 [T1,V0,W0,X0,t72])) w)) w) (hA0 (fI V0 W0 X0 Y0 Z0 H1 I1 J1 (zV zf 68 [T1])) w)
theorem xV (B1:KE)(j:KE)(h:qb K B1 j V0 W0 X0 Y0 Z0 H1 I1 J1 T1 zf w):ah Q (cd f230 (b1 14589)) j (xx (xx xf (rk f230 K) 0) B1 1) (rk f230 K) (hJ V0 W0 X0 Y0 Z0 H1 I1 J1 T1 zf) w:=Eq.mp kr h
theorem xW {K:KV}{B1:KE}{V0 W0 X0 Y0 Z0 H1 I1 J1 T1:Value}{zf:Nat→Value}{w:World}(h:qb K B1 (dD K B1) V0 W0 X0 Y0 Z0 H1 I1 J1 T1 zf w):gX K B1 (hJ V0 W0 X0 Y0 Z0 H1 I1 J1 T1 zf) w:=by
 delta gX
 exact Eq.mp (congrArg (fun c=>ah Q c (dD K B1) (xx (xx xf (rk f230 K) 0) B1 1) (rk f230 K) (hJ V0 W0 X0 Y0 Z0 H1 I1 J1 T1 zf) w) (by kernel_rfl:(cd f230 (b1 14589))=(cd f230 (b1 14589)))) (xV B1 (dD K B1) h)
abbrev qh (K:KV)(B1:KE)(hA0:KE)(V0 W0 X0 Y0 Z0 H1 I1 J1:Value)(zf:Nat→Value)(w:World):Prop :=
  sti (bT .gtr 3 W0 (ci 0)) (fun t74 w=>aG t74 true (fun k76=>sti (bT .sub 3 W0 (ci 1)) (fun t78=>sI 87 V0 t78 fun t79=>sL 31 t79 fun t80=>sI 87 V0 J1 fun t83=>sL 31 t83 fun t84=>sti (call Q 258 #[t80,t84]) fun t85=>sti (un Q .not t85) fun t86=>k76 [V0,W0,t78,t79,t80,V0,J1,t83,t84,t85,t86]) w) (fun k=>k [uu,uu,uu,uu,uu,uu,uu,uu,uu,uu,uu] w) fun us76=>sti (pick t74 (gd us76 10) cF) fun t87 w=>cond t87 (call Q 259 #[V0,W0,X0,J1] (fun t92=>B1 (en V0 t92 X0 Y0 Z0 H1 (zV (zV (zV zf 10 [I1,J1]) 13 [t92]) 73 [W0,t74,t74,gd us76 0,gd us76 1,gd us76 2,gd us76 3,gd us76 4,gd us76 5,gd us76 6,gd us76 7,gd us76 8,gd us76 9,gd us76 10,t87,V0,W0,X0,J1,t92,t92]))) w) (call Q 260 #[V0,W0,X0,J1] (fun t99=>ext Q t99 0 fun t100=>ext Q t99 1 fun t101=>hA0 (hU V0 W0 X0 Y0 I1 t100 t101 (zV (zV (zV (zV zf 8 [Z0,H1]) 11 [J1]) 73 [W0,t74,t74,gd us76 0,gd us76 1,gd us76 2,gd us76 3,gd us76 4,gd us76 5,gd us76 6,gd us76 7,gd us76 8,gd us76 9,gd us76 10,t87]) 94 [t99,V0,W0,X0,J1,t99,t100,t101]))) w)) w.drew
theorem yd (B1:KE)(j:Code)(h:qh K B1 (ah Q j B1 (fun i=>@Bool.rec (fun _=>KE) ((fun i=>@Bool.rec (fun _=>KE) ((fun _ _ _=>False) i) (rk f230 K) (Nat.beq i 0)) i) B1 (Nat.beq i 1)) (rk f230 K)) V0 W0 X0 Y0 Z0 H1 I1 J1 zf w):ah Q (rep [1,1] j (cd f230 (b1 7295))) B1 (xx (xx xf (rk f230 K) 0) B1 1) (rk f230 K) (fI V0 W0 X0 Y0 Z0 H1 I1 J1 zf) w:=Eq.mp kr h
theorem ye {B1:KE}(h:qh K B1 (gY K B1) V0 W0 X0 Y0 Z0 H1 I1 J1 zf w):dD K B1 (fI V0 W0 X0 Y0 Z0 H1 I1 J1 zf) w:=by
 delta dD
 exact Eq.mp (congrArg (fun c=>ah Q c B1 (xx (xx xf (rk f230 K) 0) B1 1) (rk f230 K) (fI V0 W0 X0 Y0 Z0 H1 I1 J1 zf) w) (by kernel_rfl:(rep [1,1] (cd f230 (b1 29183)) (cd f230 (b1 7295)))=(cd f230 (b1 7295)))) (yd B1 (cd f230 (b1 29183)) h)
abbrev qd (K:KV)(B1:KE)(V0 W0 X0 Y0 I1 N1 O1:Value)(zf:Nat→Value)(w:World):Prop :=
  bF .sub 3 N1 W0 (fun t105=>bF .sub 3 X0 N1 fun t108=>bT .quo 3 I1 (ci 8) fun t110=>lS t105 t108 fun t113 w=>cond t113 (bF .geq 3 t105 t110 (fun t116=>call Q 230 #[V0,W0,N1,Y0] fun t121=>nC N1 fun t123=>B1 (en V0 t123 X0 Y0 t116 O1 (zV (zV (zV zf 10 [I1]) 14 [N1,O1,t105,t108,t110]) 102 [O1,N1,W0,t105,X0,N1,t108,I1,t110,t105,t108,t113,t105,t110,t116,V0,W0,N1,Y0,t121,N1,t123]))) w) (bF .geq 3 t108 t110 (fun t126=>nC N1 fun t129=>call Q 230 #[V0,t129,X0,Y0] fun t132=>B1 (en V0 W0 N1 Y0 t126 O1 (zV (zV (zV (zV zf 10 [I1]) 14 [N1,O1,t105,t108,t110]) 102 [O1,N1,W0,t105,X0,N1,t108,I1,t110,t105,t108,t113]) 124 [t108,t110,t126,V0,N1,t129,X0,Y0,t132,N1]))) w)) w
theorem xX (B1:KE)(h:qd K B1 V0 W0 X0 Y0 I1 N1 O1 zf w):ah Q (cd f230 (b1 29183)) B1 (xx (xx xf (rk f230 K) 0) B1 1) (rk f230 K) (hU V0 W0 X0 Y0 I1 N1 O1 zf) w:=Eq.mp kr h
theorem xY {B1:KE}(h:qd K B1 V0 W0 X0 Y0 I1 N1 O1 zf w):gY K B1 (hU V0 W0 X0 Y0 I1 N1 O1 zf) w:=by
 delta gY
 exact Eq.mp (congrArg (fun c=>ah Q c B1 (xx (xx xf (rk f230 K) 0) B1 1) (rk f230 K) (hU V0 W0 X0 Y0 I1 N1 O1 zf) w) (by kernel_rfl:(cd f230 (b1 29183))=(cd f230 (b1 29183)))) (xX B1 h)
attribute [irreducible] nk dB jH dC jI dD gX gY
theorem FK (h:cond cF (conv Q 251 302 V0 (fun t4=>call Q 218 #[t4] K) w) (call Q 219 #[V0] K w)):Gives Q 178 #[V0] w K:=by
 refine aq func178 kr ?_;exact mpK h
def fu (data0 a1 b2 i6:Value)(zf:Nat→Value):List Value:=data0::a1::b2::zT zf 3 3 (i6::zT zf 7 42 ([]))
def oE (data0 a1 b2 i6 j7:Value)(zf:Nat→Value):List Value:=data0::a1::b2::zT zf 3 3 (i6::j7::zT zf 8 41 ([]))
def ic (K:KV):KE:=ah Q (cd f252 [1,0]) (rk f252 K) (xx xf (rk f252 K) 0) (rk f252 K)
def bR (K:KV)(B1:KE):KE:=kY f252 (b1 51) B1 (xx xf (rk f252 K) 0) K
def ig (K:KV)(B1:KE):KE:=ah Q (cd f252 (b1 402)) (bR K B1) (xx (xx (xx xf (rk f252 K) 0) (bR K B1) 1) (bR K B1) 2) (rk f252 K)
theorem oF (h:nC W0 (fun j=>ic K (fu V0 W0 X0 j (zV zu 8 [W0,j]))) w):Gives Q 252 #[V0,W0,X0] w K:=by
 refine aq func252 kr ?_;revert h;delta ic;exact mpF
theorem nR (Inv:Value→World→Prop)(μ:Value→World→Nat)(J:Inv Y0 w)(M:∀(j:Value) (I:Nat→Value) (w:World) (m:Nat),Inv j w→m=μ j w →
  lS j X0 (fun C w=>cond C (ig K (fun u w2=>(Inv (gd u 6) w2)∧((μ (gd u 6) w2)<m)) (oE V0 W0 X0 j j (zV (zV I 10 [j,X0,C]) 15 [j])) w) (K (.tuple #[]) w)) w):ic K (fu V0 W0 X0 Y0 zf) w:=by
 refine aI (cd f252 [1,0,0]) (zr [(6,2),(10,39)]) kr (vP [6] Inv) (vQ [6] μ) J ?_;intro e' w' hI;have h:=M _ (zM zf (gd e') (zr [(6,2),(10,39)])) w' _ hI rfl;revert h;delta ig bR;exact mpF
theorem uD (Inv:Value→World→Prop)(μ:Value→World→Nat)(h0:Inv Z0 w)(hs:∀(u:Value) (dd:Nat→Value) (w:World) (m:Nat),Inv u w→m=μ u w →
  sti (bF .gtr 3 u W0) (fun C w=>aG C true (fun ad=>sI 87 V0 u (fun I=>sL 31 I fun J=>sti (bT .sub 3 u (ci 1)) fun M=>sI 87 V0 M fun O=>sL 31 O fun U=>sti (call Q 258 #[J,U]) fun af=>ad [V0,u,I,J,V0,u,M,O,U,af]) w) (fun k=>k [uu,uu,uu,uu,uu,uu,uu,uu,uu,uu] w) fun j=>sti (pick C (gd j 9) cF) fun Z w=>cond Z (aE (fun S w=>hld (fun _=>True) (bT .sub 3 u (ci 1)) fun ag=>hld (fun _=>True) (bT .sub 3 u (ci 1)) fun al=>hI S 87 V0 al fun am=>hL S 31 am fun an=>hI S 87 V0 u fun ap=>hL S 31 ap fun ar=>hI S 87 V0 u fun av=>sto Q 31 av an (fun _=>aE fun S w=>hI S 87 V0 ag fun az=>sto Q 31 az ar (fun _=>bT .sub 3 u (ci 1) fun aa w=>(Inv aa w)∧((μ aa w)<m)) w) w) w.drew) (bR K B1 (fu V0 W0 X0 Y0 (zV (zV dd 7 [u]) 16 [u,W0,C,C,gd j 0,gd j 1,gd j 2,gd j 3,gd j 4,gd j 5,gd j 6,gd j 7,gd j 8,gd j 9,Z])) w)) w.drew):ig K B1 (oE V0 W0 X0 Y0 Z0 zf) w:=by
 refine aI (cd f252 (b1 804)) (zr [(7,1),(16,33)]) kr (vP [7] Inv) (vQ [7] μ) h0 ?_;intro e' w' hI;have h:=hs _ (zM zf (gd e') (zr [(7,1),(16,33)])) w' _ hI rfl;revert h;generalize (bR K B1)=qc0;exact mpF
theorem nS (h:nC Y0 (fun t14=>B1 (fu V0 W0 X0 t14 (zV zf 13 [Y0,t14]))) w):bR K B1 (fu V0 W0 X0 Y0 zf) w:=by
 delta bR;exact mpK h
attribute [irreducible] ic bR ig
theorem KG (h:call Q 180 #[V0] (fun M w=>aG M true (fun U=>call Q 180 #[W0] (fun O=>un Q .not O fun I=>U [W0,O,I]) w) (fun k=>k [uu,uu,uu] w) fun J=>pick M (gd J 2) cF fun j w=>aG j false (fun C=>bF .lss 31 V0 W0 (fun t15=>C [V0,W0,t15]) w) (fun k=>k [uu,uu,uu] w) fun u=>pick j cT (gd u 2) K) w):Gives Q 258 #[V0,W0] w K:=by
 refine aq func258 kr ?_;exact mpK h
theorem AB (h:bF .neq 31 V0 V0 K w):Gives Q 180 #[V0] w K:=by
 refine aq func180 kr ?_;exact mpK h
def rP (x0 n2 t4:Value)(zf:Nat→Value):List Value:=x0::zf 1::n2::zf 3::t4::zT zf 5 20 ([])
def Cp (x0:Value)(zf:Nat→Value):List Value:=x0::zT zf 1 24 ([])
def dw (x0 n2:Value)(zf:Nat→Value):List Value:=x0::zf 1::n2::zT zf 3 22 ([])
def rQ (x0 n2 t8:Value)(zf:Nat→Value):List Value:=x0::zf 1::n2::zT zf 3 5 (t8::zT zf 9 16 ([]))
def rR (x0 n2 t14:Value)(zf:Nat→Value):List Value:=x0::zf 1::n2::zT zf 3 11 (t14::zT zf 15 10 ([]))
def kN (K:KV):KE:=kZ f219 [1,1] K
def rM (K:KV):KE:=ah Q (cd f219 [1,0,1]) (kN K) xf (rk f219 K)
def kO (K:KV):KE:=kZ f219 [1,1,1] K
def rN (K:KV):KE:=ah Q (cd f219 [1,1,0,1]) (kO K) xf (rk f219 K)
def kP (K:KV):KE:=kZ f219 [1,1,1,1] K
def rO (K:KV):KE:=ah Q (cd f219 (b1 61)) (kP K) xf (rk f219 K)
abbrev Dw (K:KV)(hA0:KE)(x0:Value)(w:World):Prop :=
  bT .geq 31 x0 (cu 4294967296) (fun t4=>hA0 (rP x0 (ci 0) t4 (zV zu 3 [x0]))) w
theorem Nb (j:Code)(h:Dw K (ah Q j (ah Q (cd f219 [1,1]) (rk f219 K) (fun _ _ _=>False) (rk f219 K)) (fun _ _ _=>False) (rk f219 K)) V0 w):ah Q (rep [1,0,1] j (cd f219 [])) (rk f219 K) xf (rk f219 K) (Cp V0 zu) w:=Eq.mp kr h
theorem Cq {K:KV}{V0:Value}{w:World}(h:Dw K (rM K) V0 w):Gives Q 219 #[V0] w K:=aq func219 (by kernel_rfl) (Eq.mp (congrArg (fun c=>ah Q c (rk f219 K) xf (rk f219 K) (Cp V0 zu) w) (by kernel_rfl:(rep [1,0,1] (cd f219 [1,0,1]) (cd f219 []))=(cd f219 []))) (Nb (cd f219 [1,0,1]) h))
abbrev zC (K:KV)(hA0:KE)(V0 W0 X0:Value)(zf:Nat→Value)(w:World):Prop :=
  cond X0 (bT .shr 31 V0 (cu 32) (fun t6=>hA0 (dw t6 (ci 32) (zV zf 4 [X0,V0,t6]))) w) (hA0 (dw V0 W0 (zV zf 4 [X0])) w)
theorem Jm (j:KE)(h:zC K j V0 W0 X0 zf w):ah Q (cd f219 [1,0,1]) j xf (rk f219 K) (rP V0 W0 X0 zf) w:=Eq.mp kr h
theorem zD {K:KV}{V0 W0 X0:Value}{zf:Nat→Value}{w:World}(h:zC K (kN K) V0 W0 X0 zf w):rM K (rP V0 W0 X0 zf) w:=by
 delta rM
 exact Eq.mp (congrArg (fun c=>ah Q c (kN K) xf (rk f219 K) (rP V0 W0 X0 zf) w) (by kernel_rfl:(cd f219 [1,0,1])=(cd f219 [1,0,1]))) (Jm (kN K) h)
abbrev zI (K:KV)(hA0:KE)(V0 W0:Value)(zf:Nat→Value)(w:World):Prop :=
  bT .geq 31 V0 (cu 65536) (fun Y0=>hA0 (rQ V0 W0 Y0 (zV zf 7 [V0]))) w
theorem Jp (j:Code)(h:zI K (ah Q j (ah Q (cd f219 [1,1,1]) (rk f219 K) (fun _ _ _=>False) (rk f219 K)) (fun _ _ _=>False) (rk f219 K)) V0 W0 zf w):ah Q (rep [0,1] j (cd f219 [1,1])) (rk f219 K) xf (rk f219 K) (dw V0 W0 zf) w:=Eq.mp kr h
theorem zJ {K:KV}{V0 W0:Value}{zf:Nat→Value}{w:World}(h:zI K (rN K) V0 W0 zf w):kN K (dw V0 W0 zf) w:=by
 delta kN
 exact Eq.mp (congrArg (fun c=>ah Q c (rk f219 K) xf (rk f219 K) (dw V0 W0 zf) w) (by kernel_rfl:(rep [0,1] (cd f219 [1,1,0,1]) (cd f219 [1,1]))=(cd f219 [1,1]))) (Jp (cd f219 [1,1,0,1]) h)
abbrev zE (K:KV)(hA0:KE)(V0 W0 Y0:Value)(zf:Nat→Value)(w:World):Prop :=
  cond Y0 (bT .shr 31 V0 (cu 16) (fun t10=>bT .add 3 W0 (ci 16) fun t12=>hA0 (dw t10 t12 (zV zf 8 [Y0,V0,t10,W0,t12]))) w) (hA0 (dw V0 W0 (zV zf 8 [Y0])) w)
theorem Jn (j:KE)(h:zE K j V0 W0 Y0 zf w):ah Q (cd f219 [1,1,0,1]) j xf (rk f219 K) (rQ V0 W0 Y0 zf) w:=Eq.mp kr h
theorem zF {K:KV}{V0 W0 Y0:Value}{zf:Nat→Value}{w:World}(h:zE K (kO K) V0 W0 Y0 zf w):rN K (rQ V0 W0 Y0 zf) w:=by
 delta rN
 exact Eq.mp (congrArg (fun c=>ah Q c (kO K) xf (rk f219 K) (rQ V0 W0 Y0 zf) w) (by kernel_rfl:(cd f219 [1,1,0,1])=(cd f219 [1,1,0,1]))) (Jn (kO K) h)
abbrev zK (K:KV)(hA0:KE)(V0 W0:Value)(zf:Nat→Value)(w:World):Prop :=
  bT .geq 31 V0 (cu 256) (fun Z0=>hA0 (rR V0 W0 Z0 (zV zf 13 [V0]))) w
theorem Jq (j:Code)(h:zK K (ah Q j (ah Q (cd f219 [1,1,1,1]) (rk f219 K) (fun _ _ _=>False) (rk f219 K)) (fun _ _ _=>False) (rk f219 K)) V0 W0 zf w):ah Q (rep [0,1] j (cd f219 [1,1,1])) (rk f219 K) xf (rk f219 K) (dw V0 W0 zf) w:=Eq.mp kr h
theorem zL (h:zK K (rO K) V0 W0 zf w):kO K (dw V0 W0 zf) w:=by
 delta kO
 exact Eq.mp (congrArg (fun c=>ah Q c (rk f219 K) xf (rk f219 K) (dw V0 W0 zf) w) (by kernel_rfl:(rep [0,1] (cd f219 (b1 61)) (cd f219 [1,1,1]))=(cd f219 [1,1,1]))) (Jq (cd f219 (b1 61)) h)
abbrev zG (K:KV)(hA0:KE)(V0 W0 Z0:Value)(zf:Nat→Value)(w:World):Prop :=
  cond Z0 (bT .shr 31 V0 (cu 8) (fun t16=>bT .add 3 W0 (ci 8) fun t18=>hA0 (dw t16 t18 (zV zf 14 [Z0,V0,t16,W0,t18]))) w) (hA0 (dw V0 W0 (zV zf 14 [Z0])) w)
theorem Jo (j:KE)(h:zG K j V0 W0 Z0 zf w):ah Q (cd f219 (b1 61)) j xf (rk f219 K) (rR V0 W0 Z0 zf) w:=Eq.mp kr h
theorem zH (h:zG K (kP K) V0 W0 Z0 zf w):rO K (rR V0 W0 Z0 zf) w:=by
 delta rO
 exact Eq.mp (congrArg (fun c=>ah Q c (kP K) xf (rk f219 K) (rR V0 W0 Z0 zf) w) (by kernel_rfl:(cd f219 (b1 61))=(cd f219 (b1 61)))) (Jo (kP K) h)
abbrev zN (K:KV)(V0 W0:Value)(zf:Nat→Value)(w:World):Prop :=
  conv Q 31 5 V0 (fun t21=>idx Q 9 (Value.string (xk [0,1,2,2,3,3,3,3,4,4,4,4,4,4,4,4,5,5,5,5,5,5,5,5,5,5,5,5,5,5,5,5,6,6,6,6,6,6,6,6,6,6,6,6,6,6,6,6,6,6,6,6,6,6,6,6,6,6,6,6,6,6,6,6,7,7,7,7,7,7,7,7,7,7,7,7,7,7,7,7,7,7,7,7,7,7,7,7,7,7,7,7,7,7,7,7,7,7,7,7,7,7,7,7,7,7,7,7,7,7,7,7,7,7,7,7,7,7,7,7,7,7,7,7,7,7,7,7,8,8,8,8,8,8,8,8,8,8,8,8,8,8,8,8,8,8,8,8,8,8,8,8,8,8,8,8,8,8,8,8,8,8,8,8,8,8,8,8,8,8,8,8,8,8,8,8,8,8,8,8,8,8,8,8,8,8,8,8,8,8,8,8,8,8,8,8,8,8,8,8,8,8,8,8,8,8,8,8,8,8,8,8,8,8,8,8,8,8,8,8,8,8,8,8,8,8,8,8,8,8,8,8,8,8,8,8,8,8,8,8,8,8,8,8,8,8,8,8,8,8,8,8,8,8,8,8])) t21 fun t22=>conv Q 5 3 t22 fun t23=>bF .add 3 W0 t23 K) w
theorem Jr (h:zN K V0 W0 zf w):ah Q (cd f219 [1,1,1,1]) (rk f219 K) xf (rk f219 K) (dw V0 W0 zf) w:=Eq.mp kr h
theorem zO (h:zN K V0 W0 zf w):kP K (dw V0 W0 zf) w:=by
 delta kP
 exact Eq.mp (congrArg (fun c=>ah Q c (rk f219 K) xf (rk f219 K) (dw V0 W0 zf) w) (by kernel_rfl:(cd f219 [1,1,1,1])=(cd f219 [1,1,1,1]))) (Jr h)
attribute [irreducible] kN rM kO rN kP rO
end
section
/-! ## May rights be, and what a region may still take -/
theorem Rx {l:List Int}(h:(nl l).2=true):l.all okA=true∧nl l=(l.sum,true):=by
 unfold nl at *;cases j:l.all okA with
 | true=>exact⟨rfl,rfl⟩
 | false=>rw[j]at h;cases h
theorem Rv {l:List Int}(h:l.all okA=true):nl l=(l.sum,true):=by unfold nl;rw[h]
theorem Uw {l:List Int}:(nl l).2=true↔l.all okA=true:=⟨fun h=>(Rx h).1,fun h=>by rw[Rv h]⟩
theorem r6 {p:Nat→Prop}:(∀k∈List.range 6,p k)↔p 0∧p 1∧p 2∧p 3∧p 4∧p 5:=by
 constructor
 ·intro h;exact⟨h 0 sm,h 1 sm,h 2 sm,h 3 sm,h 4 sm,h 5 sm⟩
 ·rintro⟨j,u,C,I,J,M⟩ k O
  have:k<6:=by simpa using O
  match k,this with
  | 0,_=>exact j
  | 1,_=>exact u
  | 2,_=>exact C
  | 3,_=>exact I
  | 4,_=>exact J
  | 5,_=>exact M
theorem VE :(qX A k).2=true↔okA (nA A k)=true∧okA (nA A (6+k))=true∧okA (nA A (12+k))=true∧(∀j∈List.range 6,okA (nA A (18+6*k+j))=true)∧∀j∈List.range 6,okA (nA A (18+6*j+k))=true:=by
 unfold qX;simp only[Bool.and_eq_true,Uw,ue,inL,List.all_cons,List.all_map,List.all_eq_true,Function.comp];constructor
 ·rintro⟨⟨h,u⟩,C,I,J⟩;exact⟨C,h,I,u,J⟩
 ·rintro⟨C,h,I,u,J⟩;exact⟨⟨h,u⟩,C,I,J⟩
theorem On (h:(qX A k).2=true):(qX A k).1=gQ A k:=by
 have j:=h;unfold qX at j;simp only[Bool.and_eq_true]at j;obtain⟨u,C⟩:=j;unfold qX;simp only;rw[(Rx u).2,(Rx C).2];simp only[ue,inL,gQ,List.range,List.range.loop,List.map_cons,List.map_nil,List.sum_cons,List.sum_nil];omega
theorem XV (A:List Int):Df A=jn A:=by
 have I:Df A=true↔jn A=true:=by
  unfold Df jn;simp only[Bool.and_eq_true,List.all_eq_true,decide_eq_true_eq,yE,Uw];constructor
  ·rintro⟨h,J,M⟩;have hL:∀k∈List.range 6,gQ A k=(qX A k).1:=fun k u=>(On (h k u).1.1.1).symm;refine⟨⟨fun k u=>?_,fun k u=>?_⟩,?_⟩
   ·obtain⟨⟨⟨U,a2⟩,Z⟩,a4⟩:=h k u;obtain⟨b1,b2,b3,b4,b5⟩:=VE.1 U;exact⟨⟨⟨⟨⟨b1,b2⟩,b3⟩,Z⟩,a4⟩,b4⟩
   ·rw[hL k u];exact(h k u).1.1.2
   ·rw[Rv (by simpa only[List.all_eq_true]using J)]at M;exact M
  ·rintro⟨⟨h,hl⟩,M⟩;have C:∀k∈List.range 6,(qX A k).2=true:=fun k u=>VE.2 ⟨(h k u).1.1.1.1.1,(h k u).1.1.1.1.2,(h k u).1.1.1.2,(h k u).2,fun j hj=>(h j hj).2 k u⟩;have J:(gL A).all okA=true:=by
    simp only[gL,List.all_map,List.all_eq_true,Function.comp];exact fun k u=>(h k u).1.1.1.1.1
   refine⟨fun k u=>⟨⟨⟨C k u,?_⟩,(h k u).1.1.2⟩,(h k u).1.2⟩,List.all_eq_true.1 J,?_⟩
   ·rw[On (C k u)];exact hl k u
   ·rw[Rv J];exact M
 cases O:Df A with
 | true=>rw[I.1 O]
 | false =>
  cases h2:jn A with
  | false=>rfl
  | true=>rw[I.2 h2]at O;cases O
def QS (A:List Int)(k:Nat):Int:=match Df A with|true=>(qX A k).1|false=>0
theorem ZD (A:List Int)(j:k<6):QS A k=match jn A with|true=>gQ A k|false=>0:=by
 unfold QS;rw[←XV];cases h:Df A with
 | false=>rfl
 | true =>
  unfold Df at h;simp only[Bool.and_eq_true,List.all_eq_true,decide_eq_true_eq]at h;exact On (h.1 k (by simpa using j)).1.1.1
/-! ## Live regions, what they have, their shares -/
def shr (all:Int)(c k:Nat):Int:=all / (c:Int)+if (k:Int)<all%(c:Int)then 1 else 0
/-! ## Moves -/
def zdg (p:Nat→Bool)(n:Nat):Nat→Nat
 | 0=>n
 | f+1=>if p (n-(f+1))then n-(f+1)else zdg p n f
def fs (p:Nat→Bool)(n i:Nat):Nat:=zdg p n (n-i)
end
section
open Go.RowKit
def JZ (all2 t6 t7 t8:Value)(zf:Nat→Value):List Value:=zf 0::zf 1::all2::zT zf 3 3 (t6::t7::t8::zT zf 9 14 ([]))
def K6 (all2:Value)(zf:Nat→Value):List Value:=zf 0::zf 1::all2::zT zf 3 20 ([])
def nO (K:KV):KE:=kZ f221 [1,1] K
def yr (K:KV):KE:=ah Q (cd f221 [1,0,1,0]) (nO K) (xx xf (nO K) 0) (rk f221 K)
theorem SB (h:lN 333 V0 (fun X0=>yr K (JZ (ci 0) V0 X0 (ci 0) (zV (zV zu 0 [V0]) 3 [cF]))) w):Gives Q 221 #[V0] w K:=by
 refine aq func221 kr ?_;revert h;delta yr nO;exact mpF
theorem Ql (Inv:Value→Value→World→Prop)(μ:Value→Value→World→Nat)(h0:Inv V0 Y0 w)(hs:∀(j u:Value) (dd:Nat→Value) (w:World) (m:Nat),Inv j u w→m=μ j u w →
  lS u X0 (fun t9 w=>cond t9 (aL Q 333 W0 u (fun Z=>ld Q 2 Z fun C=>bT .lss 2 C (ci 0) fun t13 w=>aG t13 false (fun U=>bT .gtr 2 C (ci 1125899906842624) (fun aa=>U [C,aa]) w) (fun k=>k [uu,uu] w) fun O=>pick t13 cT (gd O 1) fun ad w=>cond ad (K (.tuple #[ci 0,cF]) w) (bF .add 2 j C (fun J=>nC u fun M w=>(Inv J M w)∧((μ J M w)<m)) w)) w) (nO K (K6 j (zV dd 6 [W0,X0,u,t9])) w)) w):yr K (JZ V0 W0 X0 Y0 zf) w:=by
 refine aI (cd f221 (b1 52)) (zr [(2,2),(5,1),(8,14)]) kr (vP [2,8] Inv) (vQ [2,8] μ) h0 ?_;intro e' w' hI;have h:=hs _ _ (zM zf (gd e') (zr [(2,2),(5,1),(8,14)])) w' _ hI rfl;revert h;generalize (nO K)=qc0;exact mpF
theorem Qm (h:K (.tuple #[V0,cT]) w):nO K (K6 V0 zf) w:=by
 delta nO;exact mpK h
attribute [irreducible] nO yr
def vj (r0 k_1 ud in7 t33:Value)(zf:Nat→Value):List Value:=r0::k_1::zT zf 2 4 (ud::in7::zT zf 8 25 (t33::zT zf 34 42 ([])))
def GX (ud in7:Value)(zf:Nat→Value):List Value:=zT zf 0 6 (ud::in7::zT zf 8 68 ([]))
def lF (K:KV):KE:=kZ f185 [1,1,1] K
def pk (K:KV):KE:=ah Q (cd f185 (b1 58)) (lF K) (xx xf (lF K) 0) (rk f185 K)
theorem Qk (h:aE (fun S w=>hN S V0 fun t15=>hF S 77 t15 1 fun M=>hI S 74 M W0 fun O=>hL S 2 O fun C=>hN S V0 fun U=>hF S 77 U 0 fun Z=>hI S 74 Z W0 fun t24=>hL S 2 t24 fun I=>hN S V0 fun aa=>hF S 77 aa 2 fun ad=>hI S 74 ad W0 fun af=>hL S 2 af fun J=>(bg Q 333 1 #[(0,C)] (fun j=>aU S fun S=>bg Q 333 2 #[(0,I),(1,J)] fun u=>aU S fun _=>pk K (vj V0 W0 j u (ci 0) (zV (zV zu 4 [ci 0,cF]) 13 [V0,W0,t15,M,O,C,j,V0,W0,U,Z,t24,I,V0,W0,aa,ad,af,J,u]))) w)∧(bg Q 333 2 #[(0,I),(1,J)] (fun u=>aU S fun _=>bg Q 333 1 #[(0,C)] fun j=>aE fun _=>pk K (vj V0 W0 j u (ci 0) (zV (zV zu 4 [ci 0,cF]) 13 [V0,W0,t15,M,O,C,j,V0,W0,U,Z,t24,I,V0,W0,aa,ad,af,J,u]))) w)) w.drew):Gives Q 185 #[V0,W0] w K:=by
 refine aq func185 kr ?_;revert h;delta pk lF;exact mpF
theorem Nf (Inv:vI 3)(μ:vM 3)(h0:Inv X0 Y0 Z0 w)(hs:∀(u C j:Value) (dd:Nat→Value) (w:World) (m:Nat),Inv u C j w→m=μ u C j w →
  bT .lss 3 j (ci 6) (fun ad w=>cond ad (aE (fun S w=>hN S V0 fun ag=>hF S 77 ag 3 fun al=>hI S 75 al W0 fun am=>hI S 74 am j fun an=>hL S 2 an fun af=>hN S V0 fun ap=>hF S 77 ap 3 fun ar=>hI S 75 ar j fun av=>hI S 74 av W0 fun az=>hL S 2 az fun aa=>(bg Q 333 1 #[(0,af)] (fun U=>aU S fun S w=>(blt Q .append #[333,333] 333 #[false,false] #[u,U] (fun I=>aU S fun _=>bg Q 333 1 #[(0,aa)] fun O=>aE fun _=>blt Q .append #[333,333] 333 #[false,false] #[C,O] fun J=>aE fun _=>nC j fun M w=>(Inv I J M w)∧((μ I J M w)<m)) w)∧(bg Q 333 1 #[(0,aa)] (fun O=>aE fun _=>blt Q .append #[333,333] 333 #[false,false] #[u,U] fun I=>aE fun _=>blt Q .append #[333,333] 333 #[false,false] #[C,O] fun J=>aE fun _=>nC j fun M w=>(Inv I J M w)∧((μ I J M w)<m)) w)) w)∧(bg Q 333 1 #[(0,aa)] (fun O=>aU S fun _=>bg Q 333 1 #[(0,af)] fun U=>aE fun _=>blt Q .append #[333,333] 333 #[false,false] #[u,U] fun I=>aE fun _=>blt Q .append #[333,333] 333 #[false,false] #[C,O] fun J=>aE fun _=>nC j fun M w=>(Inv I J M w)∧((μ I J M w)<m)) w)) w.drew) (lF K (GX u C (zV (zV dd 0 [V0,W0]) 33 [j,ad])) w)) w):pk K (vj V0 W0 X0 Y0 Z0 zf) w:=by
 refine aI (cd f185 (b1 116)) (zr [(6,3),(33,26)]) kr (vP [6,7,33] Inv) (vQ [6,7,33] μ) h0 ?_;intro e' w' hI;have h:=hs _ _ _ (zM zf (gd e') (zr [(6,3),(33,26)])) w' _ hI rfl;revert h;generalize (lF K)=qc0;exact mpF
theorem Ng (h:call Q 221 #[X0] (fun j=>ext Q j 0 fun M=>ext Q j 1 fun u=>call Q 221 #[Y0] fun C=>ext Q C 0 fun O=>ext Q C 1 fun U=>bF .sub 2 O M fun Z w=>aG u true (fun J=>J [U] w) (fun k=>k [uu] w) fun I=>pick u (gd I 0) cF fun aa=>K (.tuple #[Z,aa])) w):lF K (GX X0 Y0 zf) w:=by
 delta lF;exact mpK h
attribute [irreducible] lF pk
end
end Go.Proofs.YtkfgimlaijifaaaGreatDoor
