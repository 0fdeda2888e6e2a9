import Derived.Test.YtkbhfjljieopoaaGreatDoorQ2
import Derived.Test.YtkbhfjljieopoaaGreatDoorQ1
namespace Go.Proofs.YtkbhfjljieopoaaGreatDoor
set_option maxRecDepth 100000
set_option maxHeartbeats 4000000
open Go.Proofs.Tryz
variable {w w':World}{K:KV}{zf dd:Nat→Value}{b c n k o B i g p m s j z d f D:Nat}{x r v:Int}{A xs:List Int}{B1:KE}{a av:Option Addr}{E t e:TypeId}{cs:List Value}{P:Program}{T L:List (Int×Int)}{F:List Nat}{α X1:Type}{U0:FuncId}{Y1 Z1 U2 V2 W2 X2 Y2 Z2 U3 V3 W3 X3 Y3 Z3 j4 U4 V4 W4 X4 Y4 Z4 U5 V5 W5 X5 Y5 Z5 K6 T6 U6 V6 W6 X6 Y6 Z6 u7 B7 K7 T7 U7 V7 W7 X7 Y7:Value}
section
open Go.RowKit Go.ChangeMaps
theorem Ik {l:Nat}{e:Env}{ps:Array Tmp}{a bd:Code}:xe (La P l D U0 e ps a bd):=fun _ _ _ _ d ⟨I,J,M,O,U⟩ =>
 ⟨I,J,M,O,xg a U (fun _ _ _ ⟨j,u⟩=>⟨j,xg bd u (fun _ _ _ ⟨x,y⟩=>⟨x,d _ _ y⟩) (fun _ _ _ _ ⟨x,y⟩=>⟨x,d _ _ y⟩) (fun _ _ _ ⟨x,y⟩=>⟨x,d _ _ y⟩)⟩) (fun _ _ _ _ h=>h) (fun _ _ _ h=>h)⟩
theorem oth_put {l:Nat}{o:Obj}:Oth l w (w.putObj l o):=⟨rfl,rfl,rfl,World.putObj_size,fun k d=>World.putObj_heap_other (fun e=>d (by rw[e]))⟩
theorem RZ {l:Nat}{xs:List Value}{r:Loop}{o:Obj}(h:w.ownsRow B E s (.slice a n c) n xs)(u:w.heap[l]? = some (.loop r)):(w.putObj l o).ownsRow B E s (.slice a n c) n xs :=
 cJ h fun k j=>by
  rcases h.2 with⟨d,_⟩|⟨g,cap,I,d,M,J,_⟩
  ·cases d;cases j
  ·cases d;have e:k=g:=by simpa[Value.ownBlock]using j.symm
   subst e;refine World.putObj_heap_other fun e=>?_;subst e;rw[J]at u;cases u
theorem Mq {T:List (Int×Int)}:∀(f:Nat) (id:Int),(cB T f id).length≤f
 | 0,_=>Nat.le_refl _
 | f+1,id=>by
  unfold cB;split
  ·have:=Mq (T:=T) f (eE T id);simp;omega
  ·simp
theorem vD {j:Addr}{v:Value}(I:∀K':KV,K' v w→ld P t (.pointer (some j)) K' w)(h:K v w):bp P [(some t,.pointer (some j))] K w:=by
 have u:(loadVar t j).run P w=.ok v w:=by
  have:=I (fun v' w' => v'=v∧w'=w) ⟨rfl,rfl⟩
  unfold ld okV at this;unfold Instr.loadAt at this;simp only[Instr.sureAddr,Sem.run_bind,Sem.run_pure,Result.andThen_ok]at this;split at this
  ·rename_i v' w' d;rw[d,this.1,this.2]
  ·exact this.elim
 unfold bp
 have:(oB [(some t,.pointer (some j))]).run P w=.ok v w:=by simp[oB,asAddr,Sem.run_bind,u]
 rw[this];exact⟨rfl,h⟩
theorem TreeM.drew {t:Nat}(h:TreeM w t c T):TreeM w.drew t c T:=⟨h.bt,let ⟨m,a,b⟩:=h.mp;⟨m,a.kept rfl,b⟩,h.uq⟩
theorem EI {v:Value}{xs:List Value}{o:Obj}(h:w.ownsRow B e s v n xs)(J:w.grownBy w' v.ownBlock)(j:w.heap[k]? = some o)(M:∀cs z,o≠.cells cs e z):w'.heap[k]? = some o:=by
 have u:k<w.heap.size:=(Array.getElem?_eq_some_iff.1 j).1;rw[J.block k u fun e'=>?_];exact j;obtain⟨⟨I,d⟩,_⟩:=CF h e'.symm;unfold blk at d;rw[j]at d;exact M _ _ (Option.some.inj d)
theorem TreeM.grow {t:Nat}{v:Value}{xs:List Value}(j:TreeM w t b T)(h:w.ownsRow B e s v n xs)(u:w.grownBy w' v.ownBlock)(I:192≠e):TreeM w' t b T :=
 ⟨fL j.bt h I u,let ⟨m,⟨es,c,d⟩,J⟩:=j.mp;⟨m,MB.kept ⟨es,c,d⟩ (by rw[d.heap];exact EI h u d.heap (fun _ _ e=>by cases e)),J⟩,j.uq⟩
attribute [local irreducible] bin un conv call bY blt slc af fld aV idx lkp dO gY eSt rng nxt ent ext alc box bld bT ld sto aU dE mkS ifc pick rdy wts aI sti cond bp Gives ae fh fT cOp
section
variable {w:World}{K:KV}{t tp:Nat}{T:List (Int×Int)}{id:Int}
theorem Kb {rk:Int→Nat}(hk:TK T rk)(ht:TreeM w t tp T)(hn:T.length≤1000)(h:∀w' a c,w'.ownsRow w.heap.size 31 1 (.slice a (dh T id).length c) (dh T id).length ((dh T id).map u6)→Below w.heap.size w w'→K (.slice a (dh T id).length c) w'):call Tryz.prog 99 #[pB t,u6 id] K w:=by
 refine aj (goK func99) (GA (dZ (z:=.slice none 0 0) (by kernel_rfl) fun w1 h1 b1 s1=>Wr fun w2 h2 h3 b2 s2=>?_));have h1:blk w1 w.heap.size 120 [.slice none 0 0]:=by simpa[Value.cells]using h1
 refine Qj (g:=.tmp 8) (ps:=#[9]) (a:=cd pU []) (bd:=cd pV []) (gf:=166) (cap:=[pB w1.heap.size,pB (w1.heap.size+1)]) (by kernel_rfl) rfl ?_;intro fn W bW sW hD hL;have a3:=ht.lt;have az:(dh T id).length≤T.length+1:=Mq _ _;generalize hz:w.heap.size=z at *;rw[s1]at h2 h3 s2 ⊢;have ez:w2.heap.size=z+3:=by omega
 rw[ez]at bW sW hD hL ⊢;rw[s1]at hL;have tW:TreeM W t tp T:=((ht.below (by rw[hz];exact b1)).below (b2.mono (by omega))).below (bW.mono (by omega));have B0:Below z w W:=b1.trans ((b2.mono (by omega)).trans (bW.mono (by omega)))
 refine Ws Ik hk (fun j v=>(TreeM v t tp T∧blk v (z+1) 127 [pB t])∧(∃a c,blk v z 120 [.slice a j c]∧v.ownsRow z 31 1 (.slice a j c) j (((dh T id).take j).flatMap uC)∧((Value.slice a j c).ownBlock≠some (z+2))) ∧
   v.heap[z+4]? = some (.loop (mX fn _ #[9] (cd pU []) (cd pV []) (z+3) .ready none))∧v.heap[z+3]? = some (.deferred (some []))∧Below z w v∧z+5≤v.heap.size) (fun _=>False)
  ⟨⟨tW,ac bW h2 (by omega)⟩,⟨none,0,ac bW (ac (b2.mono (show z+1≤w1.heap.size by omega)) h1 (by omega)) (by omega),World.ownsRow_nil _ _ _ _,by simp[Value.ownBlock]⟩,hL,hD,B0,by omega⟩ (fun j v hv=>hv.1) ?_ (ac bW h3 (by omega)) ?_ ?_ ?_
 ·rintro j v v' ⟨⟨a1,a2⟩,⟨a,c,g1,g2,g3⟩,O,g5,g6,g7⟩ o;refine⟨⟨a1.drew.oth o (by omega) (by omega),o.blk a2.drew (by omega)⟩,⟨a,c,o.blk g1.drew (by omega),cJ g2 fun k hk=>o.other k (fun e=>g3 (by rw[hk,e])),g3⟩,(o.other _ (by omega)).trans O,(o.other _ (by omega)).trans g5,bG g6.drew o (by omega),by rw[o.size];exact g7⟩
 ·rintro j x v K' hx ⟨⟨a1,a2⟩,⟨a,c,g1,g2,g3⟩,O,g5,g6,g7⟩ hb kT kF;refine⟨by kernel_rfl,by kernel_rfl,O,rfl,Et ⟨O,Eu ?_⟩⟩;generalize u:v.putObj (z+4) _=v1;have I:Oth (z+4) v v1:=u ▸ oth_put;have l1:v1.heap[z+4]? = some (.loop (mX fn _ #[9] (cd pU []) (cd pV []) (z+3) .busy none)):=u ▸ World.putObj_heap_same (by omega)
  have r1:v1.ownsRow z 31 1 (.slice a j c) j (((dh T id).take j).flatMap uC):=u ▸ RZ g2 O;have z1:v1.heap.size=v.heap.size:=I.size;have av:j<(dh T id).length:=(List.getElem?_eq_some_iff.1 hx).1;refine lK (v:=.slice a j c) (I.blk g1 (by omega)) rfl ?_
  refine mY (vs:=[u6 x]) underlying120 (s:=1) (by kernel_rfl) (by kernel_rfl) (by omega) rfl (by simp) (by simp) (by simp) (by simp[u6,Value.cells]) fun v2 k2 Z z2=>?_;have k2:blk v2 v1.heap.size 31 (uC x):=by simpa[Value.cells,u6,uC]using k2
  obtain⟨ii,an,ar,ap,al⟩:=info_parts (show (Tryz.prog.info? 31).map (fun i=>(i.zero,i.size,i.bytes))=some (some (u6 0),1,8)by kernel_rfl);have X:=cJ r1 fun q hq=>Z.block q (World.ownsRow.lt r1 q hq).2
  refine tf (base:=z) (enc:=uC) (x:=x) underlying120 an ar ap al rfl (by omega) (fun _=>rfl) X k2 (by simp[uC,u6,Value.oneCell']) (by omega) (by omega) (by have:=Z.size;omega) fun a' c' v3 r3 d c3 J=>?_;have M:∀{k o},v1.heap[k]? = some o→v2.heap[k]? = some o:=fun {k o} hk=>by rw[Z.block k (Array.getElem?_eq_some_iff.1 hk).1];exact hk
  have t3:TreeM v3 t tp T:=((a1.oth I (by omega) (by omega)).below Z).grow X d (by decide);have f3:blk v3 (z+1) 127 [pB t]:=fL (M (I.blk a2 (by omega))) X (by decide) d;have s3:blk v3 z 120 [.slice a j c]:=fL (M (I.blk g1 (by omega))) X (by decide) d;have l3:=EI X d (M l1) (fun _ _ e=>by cases e)
  have d3:=EI X d (M ((I.other _ (by omega)).trans g5)) (fun _ _ e=>by cases e);have x3:blk v3 (z+2) 31 [u6 x]:=(d.block (z+2) (by have:=Z.size;omega) (fun e=>g3 e.symm)).trans (M (I.blk hb (by omega)));refine eB (fun _=>by kernel_rfl) s3 (by show 0<1;decide) rfl fun v4 k4 U=>⟨(U.other _ (by omega)).trans l3,kT _ ?_ ?_⟩
  ·generalize ad:v4.putObj (z+4) _=v5;have o5:Oth (z+4) v4 v5:=ad ▸ oth_put;have l4:v4.heap[z+4]? = _:=(U.other _ (by omega)).trans l3;have aS:=Z.size;have a0:=d.size;have r4:=cJ r3 fun q hq=>U.other q (fun e=>by
    subst e;obtain⟨⟨cc,hc⟩,_⟩:=CF r3 hq;exact absurd (uc hc s3) (by decide))
   have r5:v5.ownsRow z 31 1 (.slice a' (j+1) c') (j+1) ((((dh T id).take j)++[x]).flatMap uC):=ad ▸ RZ r4 l4;have ag:(dh T id).take j++[x]=(dh T id).take (j+1):=by rw[List.take_add_one,hx];rfl
   rw[ag]at r5;refine⟨⟨(t3.oth U (by omega) (by omega)).oth o5 (by omega) (by omega),o5.blk (U.blk f3 (by omega)) (by omega)⟩,⟨a',c',o5.blk k4 (by omega),r5,fun e=>?_⟩,ad ▸ World.putObj_heap_same (Array.getElem?_eq_some_iff.1 l4).1,(o5.other _ (by omega)).trans ((U.other _ (by omega)).trans d3),?_,by rw[o5.size,U.size];omega⟩
   ·rcases J with J|J
    ·exact g3 (J ▸ e)
    ·rw[J]at e
     have:=Option.some.inj e
     omega
   ·exact bG (bG ((bG g6 I (by omega)).trans ((Z.mono (by omega)).trans c3)) U (Nat.le_refl _)) o5 (by omega)
  ·exact oth_put.blk (U.blk x3 (by omega)) (by omega)
 ·rintro v ⟨_,⟨a,c,g1,g2,g3⟩,O,g5,g6,g7⟩;refine⟨none,O,Es ?_⟩;have l4:=O;generalize u:v.putObj _ _=v1;have I:Oth (z+4) v v1:=u ▸ oth_put;have r1:v1.ownsRow z 31 1 (.slice a (dh T id).length c) (dh T id).length (((dh T id).take (dh T id).length).flatMap uC):=u ▸ RZ g2 O;rw[List.take_length,Gi]at r1;have k1:=I.blk g1 (by omega);refine lK (v:=.slice a (dh T id).length c) k1 rfl ?_
  refine eB (fun _=>by kernel_rfl) k1 (by show 0<1;decide) rfl fun v2 k2 o2=>⟨(o2.other _ (by omega)).trans ((I.other _ (by omega)).trans g5),?_⟩
  have o3:Oth (z+3) v2 (v2.putObj (z+3) (.deferred none)):=oth_put;have am:v2.heap[z+3]? = some (.deferred (some [])):=(o2.other _ (by omega)).trans ((I.other _ (by omega)).trans g5);have X:=cJ r1 fun q hq=>o2.other q (fun e=>by
   subst e;obtain⟨⟨cc,hc⟩,_⟩:=CF r1 hq;exact absurd (uc hc k1) (by decide))
  have r3:=cJ X fun q hq=>o3.other q (fun e=>by
   subst e;obtain⟨⟨cc,hc⟩,_⟩:=CF X hq;unfold blk at hc;rw[am]at hc;cases hc)
  refine vD (fun _=>lK (v:=.slice a (dh T id).length c) (o3.blk k2 (by omega)) rfl) (h _ a c r3 ?_);exact bG (bG (bG g6 I (by omega)) o2 (Nat.le_refl _)) o3 (by omega)
 ·exact fun _ h=>h.elim
end
end
section
open Go.RowKit Go.ChangeMaps
structure Ch (F:List Nat) (w w':World):Prop where
 os:w'.os=w.os
 tape:w'.tape=w.tape
 output:w'.output=w.output
 size:w.heap.size≤w'.heap.size
 block:∀k,k<w.heap.size→k∉F→w'.heap[k]? = w.heap[k]?
section
variable {F G:List Nat}{a b c w w':World}
theorem Ch.of_below (h:Below w.heap.size w w'):Ch F w w':=⟨h.os,h.tape,h.output,h.size,fun k d _=>h.block k d⟩
theorem Ch.of_oth {b:Nat}(h:Oth b w w')(hb:b∈F):Ch F w w':=⟨h.os,h.tape,h.output,by rw[h.size];exact Nat.le_refl _,fun k _ hk=>h.other k (by rintro rfl;exact hk hb)⟩
theorem Ch.trans (h:Ch F a b)(k:Ch G b c)(hG:∀x∈G,x∈F∨a.heap.size≤x):Ch F a c :=
 ⟨k.os.trans h.os,k.tape.trans h.tape,k.output.trans h.output,Nat.le_trans h.size k.size,fun x d hF=>by
  rw[k.block x (Nat.lt_of_lt_of_le d h.size) (fun j=>(hG x j).elim hF (fun h=>by omega)),h.block x d hF]⟩
theorem Ch.mono (h:Ch F w w')(hG:∀x∈F,x∈G):Ch G w w':=⟨h.os,h.tape,h.output,h.size,fun k j u=>h.block k j fun d=>u (hG k d)⟩
theorem Ch.below (h:Ch F w w')(hF:∀x∈F,B≤x)(j:B≤w.heap.size):Below B w w':=⟨h.os,h.tape,h.output,h.size,fun k u=>h.block k (by omega) (fun d=>by have:=hF k d;omega)⟩
theorem blk.ch (h:blk w k E cs)(j:Ch F w w')(u:k∉F):blk w' k E cs:=by
 have d:=h.lt;unfold Go.Proofs.YtkbhfjljieopoaaGreatDoor.blk at *; rw[j.block k d u];exact h
theorem MB.ch {kv:α→Value}{vv:X1→Value}{m:List (α×X1)}(h:MB kv vv w k m)(d:Ch F w w')(j:k∉F):MB kv vv w' k m:=h.kept (d.block k h.lt j)
end
end
section
attribute [local irreducible] bin un conv call bY blt slc af fld aV idx lkp dO gY eSt rng nxt ent ext alc box bld bT ld sto aU dE mkS ifc pick rdy wts aI sti cond bp Gives ae fh fT cOp
open Go.RowKit Go.ChangeMaps
theorem insA_perm {L:List α}{z:α}:(fl L i z).Perm (L++[z]):=by
 unfold fl;refine(List.perm_middle).trans ?_;rw[List.take_append_drop];exact(List.perm_append_singleton z L).symm
section
variable {w:World}{K:KV}{t tp:Nat}{T:List (Int×Int)}{id par:Int}
theorem Jh {rk:Int→Nat}(hk:TK T rk)(ht:TreeM w t tp T)(hn:T.length≤1000)(h:∀w',TreeM w' t tp (iX T id par).1→Ch [tp] w w'→K (.int .i64 (iX T id par).2) w'):call Tryz.prog 239 #[pB t,u6 id,u6 par] K w:=by
 have ok:∀{w':World} (v:Int),iX T id par=(T,v)→Below w.heap.size w w'→K (.int .i64 v) w':=fun {w'} v e b=>by
  have:=h w' (by rw[e];exact ht.below b) (Ch.of_below b)
  rw[e]at this;exact this
 have b0:=Below.refl w.heap.size w
 refine aj (goK func239) (HU (Jw (aO (bg ?_))))
 by_cases i0:id=0
 ·exact ax i0 (ok 1 (by unfold iX;rw[if_pos i0]) b0)
 refine aq i0 (Ji ht ?_)
 cases hq:cr T id with
 | true=>exact bu (ok 14 (by unfold iX;rw[if_neg i0,if_pos hq]) b0)
 | false =>
 have hq':¬cr T id=true:=by rw[hq];simp
 refine aO (bN ?_)
 have e9:∀hp:par≠0∧cr T par=false,iX T id par=(T,9):=fun hp=>by unfold iX;rw[if_neg i0,if_neg hq',if_pos hp]
 have tail : ¬(par≠0∧cr T par=false)→∀{t0 id1 parent2 t26:Value} {zf:Nat→Value},t0=pB t→id1=u6 id→parent2=u6 par→t26=.bool (decide (32≤(T.length:Int)))→oU K ((dl t0 id1 parent2 t26 zf)) w:=by
  intro hp t0 id1 parent2 t26 zf q0 q1 q2 q4
  subst q0 q1 q2 q4
  refine FD ?_
  have e6:32≤T.length∨4≤(dh T par).length→iX T id par=(T,6):=fun hh=>by unfold iX;rw[if_neg i0,if_neg hq',if_neg hp,if_pos hh]
  by_cases h32:32≤(T.length:Int)
  ·exact ax h32 (ya (ax h32 (ok 6 (e6 (.inl (by omega))) b0)))
  refine aq h32 (Kb hk ht hn fun w1 a c ho b1=>bj underlying120 (bM (ya ?_)))
  by_cases h4:((dh T par).length:Int)≥4
  ·exact ax h4 (ok 6 (e6 (.inr (by omega))) b1)
  refine aq h4 (FF ?_)
  have ht1:=ht.below b1
  obtain⟨m,hm,hpm⟩:=ht1.mp
  refine ai (wI (lK (v:=.map (some tp)) ht1.bt rfl (rL u6K underlying129 hm fun w2 hm2 o2=>?_)))
  have e0:iX T id par=(fl T (oG (fun x=>decide (id<x.1)) T T.length) (id,par),0):=by unfold iX;rw[if_neg i0,if_neg hq',if_neg hp,if_neg (by omega)]
  have hnone:dP m id=none:=by rw[mQ hpm ht.uq,Cw ht.uq,hq]
  rw[uS hnone]at hm2
  have hP:(m++[(id,par)]).Perm (iX T id par).1:=by rw[e0];exact(hpm.append_right _).trans insA_perm.symm
  have huq:((iX T id par).1.map (·.1)).Nodup:=by
   refine(hP.map _).nodup_iff.1 ?_
   have:=vz (x:=id) (v:=par) ((hpm.map (·.1)).nodup_iff.2 ht.uq)
   rwa[uS hnone]at this
  have hne:=ht.ne
  have hc:Ch [tp] w w2:=(Ch.of_below b1:Ch [tp] w w1).trans (Ch.of_oth o2 (by simp):Ch [tp] w1 w2) (fun x hx=>.inl hx)
  have:=h w2 ⟨o2.blk ht1.bt hne,⟨_,hm2,hP⟩,huq⟩ hc
  rw[e0]at this
  exact this
 by_cases p0:par≠0
 ·refine dD p0 (Ji ht (dB (bO p0 ?_)))
  cases hq2:cr T par with
  | false=>exact bu (ok 9 (e9 ⟨p0,hq2⟩) b0)
  | true =>
   obtain⟨m,hm,hpm⟩:=ht.mp
   refine aO (ai (wI (lK (v:=.map (some tp)) ht.bt rfl (RC underlying129 hm (bM ?_)))))
   exact tail (fun hh=>by rw[hq2]at hh;cases hh.2) rfl rfl rfl (by rw[hpm.length_eq])
 ·refine dY p0 (bw p0 (aO ?_))
  obtain⟨m,hm,hpm⟩:=ht.mp
  refine ai (wI (lK (v:=.map (some tp)) ht.bt rfl (RC underlying129 hm (bM ?_))))
  exact tail (fun hh=>p0 hh.1) rfl rfl rfl (by rw[hpm.length_eq])
end
end
section
open Go.RowKit
def ak (aJ a1 b2 i7 j8 j9 j10 C6 C7 C8 C9 D0 D1 D2 D3 D4 D5 D6 F9:Value)(zf:Nat→Value):List Value:=aJ::a1::b2::zT zf 3 4 (i7::j8::j9::j10::zT zf 11 10 (C6::C7::C8::C9::D0::D1::D2::D3::D4::D5::D6::zT zf 32 29 (F9::zT zf 62 71 ([]))))
def au (K:KV):KE:=ae Q (cd f192 [1,1,1]) (rk f192 K) xf (rk f192 K)
def fG (K:KV):KE:=ae Q (cd f192 (b1 58)) (au K) (xx xf (au K) 0) (rk f192 K)
def ao (K:KV)(B1:KE):KE:=ae Q (cd f192 (b1 467)) B1 (xx xf (au K) 0) (rk f192 K)
def eh (K:KV)(B1:KE):KE:=ae Q (cd f192 (b1 466)) (ao K B1) (xx xf (au K) 0) (rk f192 K)
def bH (K:KV)(B1:KE):KE:=ae Q (cd f192 (b1 1865)) (ao K B1) (xx (xx xf (au K) 0) (ao K B1) 1) (rk f192 K)
def fH (K:KV)(B1:KE):KE:=ae Q (cd f192 (b1 3728)) (bH K B1) (xx (xx (xx xf (au K) 0) (ao K B1) 1) (bH K B1) 2) (rk f192 K)
def dy (K:KV)(B1:KE):KE:=ae Q (cd f192 (b1 14927)) (ao K B1) (xx (xx xf (au K) 0) (ao K B1) 1) (rk f192 K)
def aX (K:KV)(B1:KE):KE:=ae Q (cd f192 (b1 29855)) (ao K B1) (xx (xx xf (au K) 0) (ao K B1) 1) (rk f192 K)
def el (K:KV)(B1:KE):KE:=ae Q (cd f192 (b1 59709)) (aX K B1) (xx (xx xf (au K) 0) (ao K B1) 1) (rk f192 K)
def fI (K:KV)(B1:KE):KE:=ae Q (cd f192 (b1 477674)) (aX K B1) (xx (xx (xx xf (au K) 0) (ao K B1) 1) (aX K B1) 4) (rk f192 K)
def fJ (K:KV)(B1:KE):KE:=ae Q (cd f192 (b1 477690)) (ao K B1) (xx (xx (xx xf (au K) 0) (ao K B1) 1) (ao K B1) 6) (rk f192 K)
theorem qj (h:nC Z1 (fun A7=>fG K (ak Y1 Z1 U2 A7 (ci 0) uu uu uu uu uu uu uu uu uu uu uu uu uu uu (zV (zV zu 6 [cF]) 11 [Z1,A7]))) w):Gives Q 192 #[Y1,Z1,U2] w K:=by
 refine aB func192 (by kernel_rfl) ?_;revert h;delta fG au;exact mpF
theorem pE (Inv:vI 13)(μ:vM 13)(h0:Inv V2 W2 Z2 U3 V3 W3 X3 Y3 Z3 j4 U4 V4 W4 w)(hs:∀(i7' j8' C6' C7' C8' C9' D0' D1' D2' D3' D4' D5' D6':Value) (dd:Nat→Value) (w:World) (m:Nat),Inv i7' j8' C6' C7' C8' C9' D0' D1' D2' D3' D4' D5' D6' w→m=μ i7' j8' C6' C7' C8' C9' D0' D1' D2' D3' D4' D5' D6' w →
  bin Q .lss 3 false true j8' (ci 5) (fun A9 w=>cond A9 (eh K (fun e2 w2=>(Inv (gd e2 7) (gd e2 8) (gd e2 21) (gd e2 22) (gd e2 23) (gd e2 24) (gd e2 25) (gd e2 26) (gd e2 27) (gd e2 28) (gd e2 29) (gd e2 30) (gd e2 31) w2)∧((μ (gd e2 7) (gd e2 8) (gd e2 21) (gd e2 22) (gd e2 23) (gd e2 24) (gd e2 25) (gd e2 26) (gd e2 27) (gd e2 28) (gd e2 29) (gd e2 30) (gd e2 31) w2)<m)) (ak Y1 Z1 U2 i7' j8' (dd 9) (dd 10) C6' C7' C8' C9' D0' D1' D2' D3' D4' D5' D6' (dd 61) (zV dd 13 [j8',A9])) w) (au K (ak Y1 Z1 U2 i7' j8' (dd 9) (dd 10) C6' C7' C8' C9' D0' D1' D2' D3' D4' D5' D6' (dd 61) (zV dd 13 [j8',A9])) w)) w):fG K (ak Y1 Z1 U2 V2 W2 X2 Y2 Z2 U3 V3 W3 X3 Y3 Z3 j4 U4 V4 W4 X4 zf) w:=by
 refine aL (cd f192 (b1 116)) (zr [(6,5),(13,120)]) (by kernel_rfl) (vP [7,8,21,22,23,24,25,26,27,28,29,30,31] Inv) (vQ [7,8,21,22,23,24,25,26,27,28,29,30,31] μ) h0 ?_
 intro e' w' hI
 have h:=hs _ _ _ _ _ _ _ _ _ _ _ _ _ (zM zf (fun i=>gd e' i) (zr [(6,5),(13,120)])) w' _ hI rfl
 refine Eq.mp (congrArg (fun c=>ae Q c _ _ _ _ w') (by kernel_rfl:(rep [1,0] (cd f192 (b1 466)) (cd f192 (b1 116)))=(cd f192 (b1 116)))) ?_
 revert h
 delta eh ao
 generalize (cd f192 (b1 466))=xc0
 generalize (au K)=qc0
 exact mpF
theorem pA (h:fH K B1 (ak Y1 Z1 U2 V2 W2 X2 Y2 Z2 U3 V3 W3 X3 Y3 Z3 j4 U4 V4 W4 X4 zf) w):eh K B1 (ak Y1 Z1 U2 V2 W2 X2 Y2 Z2 U3 V3 W3 X3 Y3 Z3 j4 U4 V4 W4 X4 zf) w:=by
 delta eh;revert h;delta fH bH;generalize (ao K B1)=qc0;generalize (au K)=qc1;exact mpF
theorem pI (h:K cF w):au K (ak Y1 Z1 U2 V2 W2 X2 Y2 Z2 U3 V3 W3 X3 Y3 Z3 j4 U4 V4 W4 X4 zf) w:=by
 delta au;exact mpK h
theorem pF (Inv:vI 12)(μ:vM 12)(h0:Inv V2 Z2 U3 V3 W3 X3 Y3 Z3 j4 U4 V4 W4 w)(hs:∀(u I J M O U X Z ad ag al am:Value) (dd:Nat→Value) (w:World) (m:Nat),Inv u I J M O U X Z ad ag al am w→m=μ u I J M O U X Z ad ag al am w →
  sti (bin Q .lss 3 false false u U2) (fun C4 w=>aI C4 true (fun an=>sI 120 Y1 u (fun V3=>sL 31 V3 fun W3=>sti (bin Q .sub 3 false true u (ci 1)) fun Z3=>sI 120 Y1 Z3 fun j4=>sL 31 j4 fun U4=>sti (call Q 193 #[W3,U4]) fun V4=>sti (un Q .not V4) fun W4=>an [Y1,u,V3,W3,Y1,u,Z3,j4,U4,V4,W4]) w) (fun k=>k [uu,uu,uu,uu,uu,uu,uu,uu,uu,uu,uu] w) fun d=>sti (pick C4 (gd d 10) cF) fun D7 w=>cond D7 (nC u (fun D9 w=>(Inv D9 (gd d 0) (gd d 1) (gd d 2) (gd d 3) (gd d 4) (gd d 5) (gd d 6) (gd d 7) (gd d 8) (gd d 9) (gd d 10) w)∧((μ D9 (gd d 0) (gd d 1) (gd d 2) (gd d 3) (gd d 4) (gd d 5) (gd d 6) (gd d 7) (gd d 8) (gd d 9) (gd d 10) w)<m)) w) (bH K B1 (ak Y1 Z1 U2 u W2 X2 Y2 (gd d 0) (gd d 1) (gd d 2) (gd d 3) (gd d 4) (gd d 5) (gd d 6) (gd d 7) (gd d 8) (gd d 9) (gd d 10) X4 (zV (zV dd 17 [u,U2,C4,C4]) 32 [D7])) w)) w.drew):fH K B1 (ak Y1 Z1 U2 V2 W2 X2 Y2 Z2 U3 V3 W3 X3 Y3 Z3 j4 U4 V4 W4 X4 zf) w:=by
 refine aL (cd f192 (b1 7456)) (zr [(7,1),(17,18)]) (by kernel_rfl) (vP [7,21,22,23,24,25,26,27,28,29,30,31] Inv) (vQ [7,21,22,23,24,25,26,27,28,29,30,31] μ) h0 ?_;intro e' w' hI;have h:=hs _ _ _ _ _ _ _ _ _ _ _ _ (zM zf (fun i=>gd e' i) (zr [(7,1),(17,18)])) w' _ hI rfl;revert h;generalize (au K)=qc0;generalize (ao K B1)=qc1;generalize (bH K B1)=qc2;exact mpF
theorem kY {B1:KE}(h:bin Q .eql 3 false false V2 U2 (fun E2 w=>cond E2 (K cT w) (bin Q .sub 3 false false U2 Z1 (fun E5=>bin Q .lss 3 false true E5 (ci 50) fun E6 w=>cond E6 (K cF w) (aG (fun S w=>hld (fun _=>True) (bin Q .sub 3 false true V2 (ci 1)) fun E8=>hld (fun _=>True) (bin Q .sub 3 false true V2 (ci 1)) fun E9=>hI S 120 Y1 E9 fun F0=>hL S 31 F0 fun F1=>hI S 120 Y1 V2 fun F3=>hL S 31 F3 fun F4=>hI S 120 Y1 V2 fun F5=>sto Q 31 F5 F1 (fun _=>aG fun S w=>hI S 120 Y1 E8 fun F6=>sto Q 31 F6 F4 (fun _=>dy K B1 (ak Y1 Z1 U2 V2 W2 X2 Y2 Z2 U3 V3 W3 X3 Y3 Z3 j4 U4 V4 W4 X4 (zV zf 35 [V2,U2,E2,U2,Z1,E5,E6,Y1,V2,Y1,V2,E8,Y1,V2,E9,F0,F1,Y1,V2,F3,F4,F5,F6]))) w) w) w.drew)) w)) w):bH K B1 (ak Y1 Z1 U2 V2 W2 X2 Y2 Z2 U3 V3 W3 X3 Y3 Z3 j4 U4 V4 W4 X4 zf) w:=by
 delta bH
 refine Eq.mp (congrArg (fun c=>ae Q c _ _ _ _ w) (by kernel_rfl:(rep [1,1,1] (cd f192 (b1 14927)) (cd f192 (b1 1865)))=(cd f192 (b1 1865)))) ?_
 revert h
 delta dy
 generalize (cd f192 (b1 14927))=xc0
 generalize (ao K B1)=qc0
 generalize (au K)=qc1
 exact mpF
theorem pC {B1:KE}(h:bin Q .sub 3 false false V2 Z1 (fun F8=>bin Q .geq 3 false true F8 (ci 2) fun X4=>el K B1 (ak Y1 Z1 U2 V2 W2 X2 Y2 Z2 U3 V3 W3 X3 Y3 Z3 j4 U4 V4 W4 X4 (zV zf 58 [V2,Z1,F8]))) w):dy K B1 (ak Y1 Z1 U2 V2 W2 X2 Y2 Z2 U3 V3 W3 X3 Y3 Z3 j4 U4 V4 W4 X4 zf) w:=by
 delta dy
 refine Eq.mp (congrArg (fun c=>ae Q c _ _ _ _ w) (by kernel_rfl:(rep [0,1] (cd f192 (b1 59709)) (cd f192 (b1 14927)))=(cd f192 (b1 14927)))) ?_
 revert h
 delta el aX
 generalize (cd f192 (b1 59709))=xc0
 generalize (ao K B1)=qc0
 generalize (au K)=qc1
 exact mpF
theorem pD (h:cond X4 (bin Q .sub 3 false true V2 (ci 1) (fun G1=>fI K B1 (ak Y1 Z1 U2 V2 W2 G1 Y2 Z2 U3 V3 W3 X3 Y3 Z3 j4 U4 V4 W4 X4 (zV zf 62 [V2,G1]))) w) (aX K B1 (ak Y1 Z1 U2 V2 W2 X2 Y2 Z2 U3 V3 W3 X3 Y3 Z3 j4 U4 V4 W4 X4 zf) w)):el K B1 (ak Y1 Z1 U2 V2 W2 X2 Y2 Z2 U3 V3 W3 X3 Y3 Z3 j4 U4 V4 W4 X4 zf) w:=by
 delta el;revert h;delta fI;generalize (aX K B1)=qc0;generalize (au K)=qc1;generalize (ao K B1)=qc2;exact mpF
theorem pG (Inv:Value→World→Prop)(μ:Value→World→Nat)(I:Inv X2 w)(J:∀(d:Value) (dd:Nat→Value) (w:World) (m:Nat),Inv d w→m=μ d w →
  bin Q .geq 3 false true d (ci 1) (fun G3 w=>cond G3 (aG (fun S w=>hI S 120 Y1 d fun G5=>hL S 31 G5 fun G6=>hld (fun _=>True) (bin Q .sub 3 false true d (ci 1)) fun G7=>hI S 120 Y1 G7 fun G8=>hL S 31 G8 fun G9=>call Q 193 #[G6,G9] (fun H0=>aG fun S w=>hld S (un Q .not H0) fun H1=>cond H1 (aX K B1 (ak Y1 Z1 U2 V2 W2 d Y2 Z2 U3 V3 W3 X3 Y3 Z3 j4 U4 V4 W4 X4 (zV (zV dd 64 [d,G3]) 68 [Y1,d,G5,G6,Y1,d,G7,G8,G9,H0,H1])) w) (aG (fun S w=>hld (fun _=>True) (bin Q .sub 3 false true d (ci 1)) fun H2=>hld (fun _=>True) (bin Q .sub 3 false true d (ci 1)) fun H3=>hI S 120 Y1 H3 fun H4=>hL S 31 H4 fun H5=>hI S 120 Y1 d fun H6=>hL S 31 H6 fun H7=>hI S 120 Y1 d fun H8=>sto Q 31 H8 H5 (fun _=>aG fun S w=>hI S 120 Y1 H2 fun H9=>sto Q 31 H9 H7 (fun _=>bin Q .sub 3 false true d (ci 1) fun G4 w=>(Inv G4 w)∧((μ G4 w)<m)) w) w) w.drew)) w) w.drew) (aX K B1 (ak Y1 Z1 U2 V2 W2 d Y2 Z2 U3 V3 W3 X3 Y3 Z3 j4 U4 V4 W4 X4 (zV dd 64 [d,G3])) w)) w):fI K B1 (ak Y1 Z1 U2 V2 W2 X2 Y2 Z2 U3 V3 W3 X3 Y3 Z3 j4 U4 V4 W4 X4 zf) w:=by
 refine aL (cd f192 (b1 955348)) (zr [(9,1),(64,31)]) (by kernel_rfl) (vP [9] Inv) (vQ [9] μ) I ?_;intro e' w' hI;have h:=J _ (zM zf (fun i=>gd e' i) (zr [(9,1),(64,31)])) w' _ hI rfl;revert h;generalize (au K)=qc0;generalize (ao K B1)=qc1;generalize (aX K B1)=qc2;exact mpF
theorem pJ (h:bin Q .sub 3 false false U2 V2 (fun I0=>bin Q .geq 3 false true I0 (ci 2) fun I1 w=>cond I1 (nC V2 (fun I2=>fJ K B1 (ak Y1 Z1 U2 V2 W2 X2 I2 Z2 U3 V3 W3 X3 Y3 Z3 j4 U4 V4 W4 X4 (zV zf 95 [U2,V2,I0,I1,V2,I2]))) w) (ao K B1 (ak Y1 Z1 U2 V2 W2 X2 Y2 Z2 U3 V3 W3 X3 Y3 Z3 j4 U4 V4 W4 X4 (zV zf 95 [U2,V2,I0,I1])) w)) w):aX K B1 (ak Y1 Z1 U2 V2 W2 X2 Y2 Z2 U3 V3 W3 X3 Y3 Z3 j4 U4 V4 W4 X4 zf) w:=by
 delta aX;revert h;delta fJ;generalize (ao K B1)=qc0;generalize (au K)=qc1;exact mpF
theorem pH (Inv:Value→World→Prop)(μ:Value→World→Nat)(I:Inv Y2 w)(J:∀(d:Value) (dd:Nat→Value) (w:World) (m:Nat),Inv d w→m=μ d w →
  lS d U2 (fun I3 w=>cond I3 (aG (fun S w=>hI S 120 Y1 d fun I5=>hL S 31 I5 fun I6=>hld (fun _=>True) (bin Q .sub 3 false true d (ci 1)) fun I7=>hI S 120 Y1 I7 fun I8=>hL S 31 I8 fun I9=>call Q 193 #[I6,I9] (fun J0=>aG fun S w=>hld S (un Q .not J0) fun J1=>cond J1 (ao K B1 (ak Y1 Z1 U2 V2 W2 X2 d Z2 U3 V3 W3 X3 Y3 Z3 j4 U4 V4 W4 X4 (zV (zV dd 101 [d,U2,I3]) 106 [Y1,d,I5,I6,Y1,d,I7,I8,I9,J0,J1])) w) (aG (fun S w=>hld (fun _=>True) (bin Q .sub 3 false true d (ci 1)) fun J2=>hld (fun _=>True) (bin Q .sub 3 false true d (ci 1)) fun J3=>hI S 120 Y1 J3 fun J4=>hL S 31 J4 fun J5=>hI S 120 Y1 d fun J6=>hL S 31 J6 fun J7=>hI S 120 Y1 d fun J8=>sto Q 31 J8 J5 (fun _=>aG fun S w=>hI S 120 Y1 J2 fun J9=>sto Q 31 J9 J7 (fun _=>nC d fun I4 w=>(Inv I4 w)∧((μ I4 w)<m)) w) w) w.drew)) w) w.drew) (ao K B1 (ak Y1 Z1 U2 V2 W2 X2 d Z2 U3 V3 W3 X3 Y3 Z3 j4 U4 V4 W4 X4 (zV dd 101 [d,U2,I3])) w)) w):fJ K B1 (ak Y1 Z1 U2 V2 W2 X2 Y2 Z2 U3 V3 W3 X3 Y3 Z3 j4 U4 V4 W4 X4 zf) w:=by
 refine aL (cd f192 (b1 955380)) (zr [(10,1),(101,32)]) (by kernel_rfl) (vP [10] Inv) (vQ [10] μ) I ?_;intro e' w' hI;have h:=J _ (zM zf (fun i=>gd e' i) (zr [(10,1),(101,32)])) w' _ hI rfl;revert h;generalize (au K)=qc0;generalize (ao K B1)=qc1;exact mpF
theorem im (h:nC W2 (fun C1=>B1 (ak Y1 Z1 U2 V2 C1 X2 Y2 Z2 U3 V3 W3 X3 Y3 Z3 j4 U4 V4 W4 X4 (zV zf 15 [W2,C1]))) w):ao K B1 (ak Y1 Z1 U2 V2 W2 X2 Y2 Z2 U3 V3 W3 X3 Y3 Z3 j4 U4 V4 W4 X4 zf) w:=by
 delta ao;revert h;generalize (au K)=qc0;exact mpF
attribute [irreducible] au fG ao eh bH fH dy aX el fI fJ
def bA (aJ a1 b2 length6 random7 modulus8 idx9 other10 E7:Value)(zf:Nat→Value):List Value:=aJ::a1::b2::zT zf 3 3 (length6::random7::modulus8::idx9::other10::zT zf 11 32 (E7::zT zf 44 21 ([])))
def hZ (K:KV):KE:=ae Q (cd f189 (b1 238)) (rk f189 K) (xx xf (rk f189 K) 0) (rk f189 K)
def bE (K:KV)(B1:KE):KE:=ae Q (cd f189 (b1 1907)) B1 (xx xf (rk f189 K) 0) (rk f189 K)
def bZ (K:KV)(B1:KE):KE:=ae Q (cd f189 (b1 15251)) (bE K B1) (xx (xx xf (rk f189 K) 0) (bE K B1) 1) (rk f189 K)
def fD (K:KV)(B1:KE):KE:=ae Q (cd f189 (b1 30501)) (bZ K B1) (xx (xx xf (rk f189 K) 0) (bE K B1) 1) (rk f189 K)
theorem rZ (h:bin Q .sub 3 false false U2 Z1 (fun A8=>bin Q .geq 3 false true A8 (ci 8) fun C0 w=>cond C0 (conv Q 3 258 A8 (fun C2=>alc Q 258 fun W2=>sto Q 258 W2 C2 fun _=>call Q 161 #[A8] fun C4=>bin Q .quo 3 false true A8 (ci 4) fun C7=>bin Q .mul 3 false true C7 (ci 2) fun C8=>bin Q .add 3 false false Z1 C8 fun C9=>bin Q .sub 3 false true C9 (ci 1) fun D0=>hZ K (bA Y1 Z1 U2 A8 W2 C4 D0 uu uu (zV zu 11 [U2,Z1,A8,A8,C0,A8,C2,A8,C4,Z1,A8,C7,C8,C9,D0]))) w) (K (Value.tuple #[]) w)) w):Gives Q 189 #[Y1,Z1,U2] w K:=by
 refine aB func189 (by kernel_rfl) ?_;revert h;delta hZ;exact mpF
theorem rE (Inv:Value→World→Prop)(μ:Value→World→Nat)(h0:Inv Y2 w)(hs:∀(idx9':Value) (dd:Nat→Value) (w:World) (m:Nat),Inv idx9' w→m=μ idx9' w →
  bin Q .quo 3 false true V2 (ci 4) (fun D4=>bin Q .mul 3 false true D4 (ci 2) fun D5=>bin Q .add 3 false false Z1 D5 fun D6=>nC D6 fun D7=>bin Q .leq 3 false false idx9' D7 fun D8 w=>cond D8 (call Q 162 #[W2] (fun E1=>bin Q .sub 196 false true X2 (cu 1) fun E3=>bin Q .and 196 false false E1 E3 fun E4=>conv Q 196 3 E4 fun E5=>bin Q .geq 3 false false E5 V2 fun U3=>fD K (fun e2 w2=>(Inv (gd e2 9) w2)∧((μ (gd e2 9) w2)<m)) (bA Y1 Z1 U2 V2 W2 X2 idx9' E5 U3 (zV (zV dd 26 [idx9',Z1,V2,D4,D5,D6,D7,D8]) 36 [E1,X2,E3,E4,E5,E5,V2]))) w) (K (Value.tuple #[]) w)) w):hZ K (bA Y1 Z1 U2 V2 W2 X2 Y2 Z2 U3 zf) w:=by
 refine aL (cd f189 (b1 476)) (zr [(9,2),(26,39)]) (by kernel_rfl) (vP [9] Inv) (vQ [9] μ) h0 ?_
 intro e' w' hI
 have h:=hs _ (zM zf (fun i=>gd e' i) (zr [(9,2),(26,39)])) w' _ hI rfl
 refine Eq.mp (congrArg (fun c=>ae Q c _ _ _ _ w') (by kernel_rfl:(rep (b1 101) (cd f189 (b1 30501)) (cd f189 (b1 476)))=(cd f189 (b1 476)))) ?_
 revert h
 delta fD bE bZ
 generalize (cd f189 (b1 30501))=xc0
 exact mpF
theorem rD (h:cond U3 (bin Q .sub 3 false false Z2 V2 (fun E8=>bZ K B1 (bA Y1 Z1 U2 V2 W2 X2 Y2 E8 U3 (zV zf 44 [Z2,V2,E8]))) w) (bZ K B1 (bA Y1 Z1 U2 V2 W2 X2 Y2 Z2 U3 zf) w)):fD K B1 (bA Y1 Z1 U2 V2 W2 X2 Y2 Z2 U3 zf) w:=by
 delta fD;revert h;generalize (bZ K B1)=qc0;generalize (bE K B1)=qc1;exact mpF
theorem rG (h:aG (fun S w=>hld (fun _=>True) (bin Q .add 3 false false Z1 Z2) fun F2=>hld (fun _=>True) (bin Q .add 3 false false Z1 Z2) fun F5=>hI S 120 Y1 F5 fun F6=>hL S 31 F6 fun F7=>hI S 120 Y1 Y2 fun F9=>hL S 31 F9 fun G0=>hI S 120 Y1 Y2 fun G1=>sto Q 31 G1 F7 (fun _=>aG fun S w=>hI S 120 Y1 F2 fun G2=>sto Q 31 G2 G0 (fun _=>bE K B1 (bA Y1 Z1 U2 V2 W2 X2 Y2 Z2 U3 (zV zf 47 [Y1,Y2,Y1,Z1,Z2,F2,Y1,Z1,Z2,F5,F6,F7,Y1,Y2,F9,G0,G1,G2]))) w) w) w.drew):bZ K B1 (bA Y1 Z1 U2 V2 W2 X2 Y2 Z2 U3 zf) w:=by
 delta bZ;revert h;generalize (bE K B1)=qc0;exact mpF
theorem rF (h:nC Y2 (fun E0=>B1 (bA Y1 Z1 U2 V2 W2 X2 E0 Z2 U3 (zV zf 34 [Y2,E0]))) w):bE K B1 (bA Y1 Z1 U2 V2 W2 X2 Y2 Z2 U3 zf) w:=by
 delta bE;exact mpK h
attribute [irreducible] hZ bE bZ fD
theorem AL (h:conv Q 3 196 Y1 (fun A0=>call Q 91 #[A0] fun A1=>bin Q .shl 196 true false (cu 1) A1 K) w):Gives Q 161 #[Y1] w K:=by
 refine aB func161 (by kernel_rfl) ?_;exact mpK h
theorem Bo (h:sN Y1 (fun A0=>sL 258 A0 fun A1=>sN Y1 fun A2=>sL 258 A2 fun A3=>sti (bin Q .shl 258 false true A3 (cu 13)) fun A4=>sti (bin Q .xor 258 false false A1 A4) fun A5=>sN Y1 fun A6=>sto Q 258 A6 A5 fun _ w=>sN Y1 (fun A8=>sL 258 A8 fun A9=>sN Y1 fun C1=>sL 258 C1 fun C2=>sti (bin Q .shr 258 false true C2 (cu 7)) fun C3=>sti (bin Q .xor 258 false false A9 C3) fun C4=>sN Y1 fun C5=>sto Q 258 C5 C4 fun _ w=>sN Y1 (fun C7=>sL 258 C7 fun C8=>sN Y1 fun D0=>sL 258 D0 fun D1=>sti (bin Q .shl 258 false true D1 (cu 17)) fun D2=>sti (bin Q .xor 258 false false C8 D2) fun D3=>sN Y1 fun D4=>sto Q 258 D4 D3 fun _=>aU Y1 fun D6=>ld Q 258 D6 K) w.drew) w.drew) w.drew):Gives Q 162 #[Y1] w K:=by
 refine aB func162 (by kernel_rfl) ?_;exact mpK h
def aA (aJ a1 b2 l8 swaps9 i10 j11 k_12 C7 C8:Value)(zf:Nat→Value):List Value:=aJ::a1::b2::zT zf 3 5 (l8::swaps9::i10::j11::k_12::zT zf 13 19 (C7::zf 33::C8::zT zf 35 22 ([])))
def iK (K:KV):KE:=ae Q (cd f190 (b1 127)) (rk f190 K) xf (rk f190 K)
def bC (K:KV):KE:=ae Q (cd f190 (b1 255)) (rk f190 K) xf (rk f190 K)
def iL (K:KV):KE:=ae Q (cd f190 (b1 509)) (bC K) xf (rk f190 K)
def cC (K:KV):KE:=ae Q (cd f190 (b1 2037)) (bC K) xf (rk f190 K)
def iM (K:KV):KE:=ae Q (cd f190 (b1 4073)) (cC K) xf (rk f190 K)
theorem tV (d:Code)(h:bin Q .sub 3 false false U2 Z1 (fun A3=>alc Q 3 fun W2=>bin Q .quo 3 false true A3 (ci 4) fun A6=>bin Q .mul 3 false true A6 (ci 1) fun A7=>bin Q .add 3 false false Z1 A7 fun A8=>bin Q .quo 3 false true A3 (ci 4) fun C1=>bin Q .mul 3 false true C1 (ci 2) fun C2=>bin Q .add 3 false false Z1 C2 fun C3=>bin Q .quo 3 false true A3 (ci 4) fun C4=>bin Q .mul 3 false true C4 (ci 3) fun C5=>bin Q .add 3 false false Z1 C5 fun C6=>ae Q d (rk f190 K) (fun _ _ _=>False) (rk f190 K) (aA Y1 Z1 U2 A3 W2 A8 C3 C6 uu uu (zV (zV zu 6 [ci 0,ci 0]) 13 [U2,Z1,A3,Z1,A3,A6,A7,A8,Z1,A3,C1,C2,C3,Z1,A3,C4,C5,C6]))) w):ae Q (rep (b1 127) d (cd f190 [])) (rk f190 K) xf (rk f190 K) (aA Y1 Z1 U2 uu uu uu uu uu uu uu zu) w:=Eq.mp (by kernel_rfl) h
theorem tA {K:KV}{Y1 Z1 U2:Value}{w:World}(h:bin Q .sub 3 false false U2 Z1 (fun A3=>alc Q 3 fun W2=>bin Q .quo 3 false true A3 (ci 4) fun A6=>bin Q .mul 3 false true A6 (ci 1) fun A7=>bin Q .add 3 false false Z1 A7 fun A8=>bin Q .quo 3 false true A3 (ci 4) fun C1=>bin Q .mul 3 false true C1 (ci 2) fun C2=>bin Q .add 3 false false Z1 C2 fun C3=>bin Q .quo 3 false true A3 (ci 4) fun C4=>bin Q .mul 3 false true C4 (ci 3) fun C5=>bin Q .add 3 false false Z1 C5 fun C6=>iK K (aA Y1 Z1 U2 A3 W2 A8 C3 C6 uu uu (zV (zV zu 6 [ci 0,ci 0]) 13 [U2,Z1,A3,Z1,A3,A6,A7,A8,Z1,A3,C1,C2,C3,Z1,A3,C4,C5,C6]))) w):Gives Q 190 #[Y1,Z1,U2] w K:=aB func190 (by kernel_rfl) (Eq.mp (congrArg (fun c=>ae Q c (rk f190 K) xf (rk f190 K) (aA Y1 Z1 U2 uu uu uu uu uu uu uu zu) w) (by kernel_rfl:(rep (b1 127) (cd f190 (b1 127)) (cd f190 []))=(cd f190 []))) (tV (cd f190 (b1 127)) h))
theorem sa (d:Code)(h:bin Q .geq 3 false true V2 (ci 8) (fun U3=>ae Q d (ae Q (cd f190 (b1 255)) (rk f190 K) (fun _ _ _=>False) (rk f190 K)) (fun _ _ _=>False) (rk f190 K) (aA Y1 Z1 U2 V2 W2 X2 Y2 Z2 U3 V3 (zV zf 31 [V2]))) w):ae Q (rep [0,1] d (cd f190 (b1 127))) (rk f190 K) xf (rk f190 K) (aA Y1 Z1 U2 V2 W2 X2 Y2 Z2 U3 V3 zf) w:=Eq.mp (by kernel_rfl) h
theorem sb (h:bin Q .geq 3 false true V2 (ci 8) (fun U3=>iL K (aA Y1 Z1 U2 V2 W2 X2 Y2 Z2 U3 V3 (zV zf 31 [V2]))) w):iK K (aA Y1 Z1 U2 V2 W2 X2 Y2 Z2 U3 V3 zf) w:=by
 delta iK
 exact Eq.mp (congrArg (fun c=>ae Q c (rk f190 K) xf (rk f190 K) (aA Y1 Z1 U2 V2 W2 X2 Y2 Z2 U3 V3 zf) w) (by kernel_rfl:(rep [0,1] (cd f190 (b1 509)) (cd f190 (b1 127)))=(cd f190 (b1 127)))) (sa (cd f190 (b1 509)) h)
theorem sc (d:KE)(j:Code)(h:cond U3 (bin Q .geq 3 false true V2 (ci 50) (fun V3=>ae Q j (ae Q (cd f190 (b1 2037)) d (fun _ _ _=>False) (rk f190 K)) (fun _ _ _=>False) (rk f190 K) (aA Y1 Z1 U2 V2 W2 X2 Y2 Z2 U3 V3 (zV zf 33 [V2]))) w) (d (aA Y1 Z1 U2 V2 W2 X2 Y2 Z2 U3 V3 zf) w)):ae Q (rep [0,0,1] j (cd f190 (b1 509))) d xf (rk f190 K) (aA Y1 Z1 U2 V2 W2 X2 Y2 Z2 U3 V3 zf) w:=Eq.mp (by kernel_rfl) h
theorem sd (h:cond U3 (bin Q .geq 3 false true V2 (ci 50) (fun V3=>iM K (aA Y1 Z1 U2 V2 W2 X2 Y2 Z2 U3 V3 (zV zf 33 [V2]))) w) (bC K (aA Y1 Z1 U2 V2 W2 X2 Y2 Z2 U3 V3 zf) w)):iL K (aA Y1 Z1 U2 V2 W2 X2 Y2 Z2 U3 V3 zf) w:=by
 delta iL
 exact Eq.mp (congrArg (fun c=>ae Q c (bC K) xf (rk f190 K) (aA Y1 Z1 U2 V2 W2 X2 Y2 Z2 U3 V3 zf) w) (by kernel_rfl:(rep [0,0,1] (cd f190 (b1 4073)) (cd f190 (b1 509)))=(cd f190 (b1 509)))) (sc (bC K) (cd f190 (b1 4073)) h)
theorem se (d:KE)(h:cond V3 (call Q 205 #[Y1,X2,W2] (fun C9=>call Q 205 #[Y1,Y2,W2] fun D0=>call Q 205 #[Y1,Z2,W2] fun D1=>d (aA Y1 Z1 U2 V2 W2 C9 D0 D1 U3 V3 (zV zf 35 [Y1,X2,C9,Y1,Y2,D0,Y1,Z2,D1]))) w) (d (aA Y1 Z1 U2 V2 W2 X2 Y2 Z2 U3 V3 zf) w)):ae Q (cd f190 (b1 4073)) d xf (rk f190 K) (aA Y1 Z1 U2 V2 W2 X2 Y2 Z2 U3 V3 zf) w:=Eq.mp (by kernel_rfl) h
theorem sf (h:cond V3 (call Q 205 #[Y1,X2,W2] (fun C9=>call Q 205 #[Y1,Y2,W2] fun D0=>call Q 205 #[Y1,Z2,W2] fun D1=>cC K (aA Y1 Z1 U2 V2 W2 C9 D0 D1 U3 V3 (zV zf 35 [Y1,X2,C9,Y1,Y2,D0,Y1,Z2,D1]))) w) (cC K (aA Y1 Z1 U2 V2 W2 X2 Y2 Z2 U3 V3 zf) w)):iM K (aA Y1 Z1 U2 V2 W2 X2 Y2 Z2 U3 V3 zf) w:=by
 delta iM
 exact Eq.mp (congrArg (fun c=>ae Q c (cC K) xf (rk f190 K) (aA Y1 Z1 U2 V2 W2 X2 Y2 Z2 U3 V3 zf) w) (by kernel_rfl:(cd f190 (b1 4073))=(cd f190 (b1 4073)))) (se (cC K) h)
theorem sg (h:ld Q 3 W2 (fun D3=>bin Q .eql 3 false true D3 (ci 0) fun D4 w=>cond D4 (K (Value.tuple #[Y2,ci 1]) w) (bin Q .eql 3 false true D3 (ci 12) (fun D5 w=>cond D5 (K (Value.tuple #[Y2,ci 2]) w) (K (Value.tuple #[Y2,ci 0]) w)) w)) w):ae Q (cd f190 (b1 255)) (rk f190 K) xf (rk f190 K) (aA Y1 Z1 U2 V2 W2 X2 Y2 Z2 U3 V3 zf) w:=Eq.mp (by kernel_rfl) h
theorem sh (h:ld Q 3 W2 (fun D3=>bin Q .eql 3 false true D3 (ci 0) fun D4 w=>cond D4 (K (Value.tuple #[Y2,ci 1]) w) (bin Q .eql 3 false true D3 (ci 12) (fun D5 w=>cond D5 (K (Value.tuple #[Y2,ci 2]) w) (K (Value.tuple #[Y2,ci 0]) w)) w)) w):bC K (aA Y1 Z1 U2 V2 W2 X2 Y2 Z2 U3 V3 zf) w:=by
 delta bC
 exact Eq.mp (congrArg (fun c=>ae Q c (rk f190 K) xf (rk f190 K) (aA Y1 Z1 U2 V2 W2 X2 Y2 Z2 U3 V3 zf) w) (by kernel_rfl:(cd f190 (b1 255))=(cd f190 (b1 255)))) (sg h)
theorem si (d:KE)(h:call Q 206 #[Y1,X2,Y2,Z2,W2] (fun D2=>d (aA Y1 Z1 U2 V2 W2 X2 D2 Z2 U3 V3 (zV zf 44 [Y1,X2,Y2,Z2,D2]))) w):ae Q (cd f190 (b1 2037)) d xf (rk f190 K) (aA Y1 Z1 U2 V2 W2 X2 Y2 Z2 U3 V3 zf) w:=Eq.mp (by kernel_rfl) h
theorem sj (h:call Q 206 #[Y1,X2,Y2,Z2,W2] (fun D2=>bC K (aA Y1 Z1 U2 V2 W2 X2 D2 Z2 U3 V3 (zV zf 44 [Y1,X2,Y2,Z2,D2]))) w):cC K (aA Y1 Z1 U2 V2 W2 X2 Y2 Z2 U3 V3 zf) w:=by
 delta cC
 exact Eq.mp (congrArg (fun c=>ae Q c (bC K) xf (rk f190 K) (aA Y1 Z1 U2 V2 W2 X2 Y2 Z2 U3 V3 zf) w) (by kernel_rfl:(cd f190 (b1 2037))=(cd f190 (b1 2037)))) (si (bC K) h)
attribute [irreducible] iK bC iL cC iM
theorem rM (h:bin Q .sub 3 false true Z1 (ci 1) (fun A0=>nC Z1 fun A1=>call Q 206 #[Y1,A0,Z1,A1,U2] K) w):Gives Q 205 #[Y1,Z1,U2] w K:=by
 refine aB func205 (by kernel_rfl) ?_;exact mpK h
theorem vH (h:call Q 209 #[Y1,Z1,U2,W2] (fun A4=>ext Q A4 0 fun A5=>ext Q A4 1 fun A6=>call Q 209 #[Y1,A6,V2,W2] fun C2=>ext Q C2 0 fun C3=>ext Q C2 1 fun _=>call Q 209 #[Y1,A5,C3,W2] fun C7=>ext Q C7 0 fun _=>ext Q C7 1 K) w):Gives Q 206 #[Y1,Z1,U2,V2,W2] w K:=by
 refine aB func206 (by kernel_rfl) ?_;exact mpK h
theorem vJ (h:aG (fun S w=>hI S 120 Y1 U2 fun A1=>hL S 31 A1 fun A2=>hI S 120 Y1 Z1 fun A4=>hL S 31 A4 fun A5=>call Q 193 #[A2,A5] (fun A6 w=>cond A6 (aU V2 (fun A8=>ld Q 3 A8 fun A9=>nC A9 fun C0=>aU V2 fun C1=>sto Q 3 C1 C0 fun _=>K (Value.tuple #[U2,Z1])) w) (K (Value.tuple #[Z1,U2]) w)) w) w.drew):Gives Q 209 #[Y1,Z1,U2,V2] w K:=by
 refine aB func209 (by kernel_rfl) ?_;exact mpK h
def fK (aJ a1 b2 first6 lo7 hi8 i9 i10:Value)(zf:Nat→Value):List Value:=aJ::a1::b2::zT zf 3 3 (first6::lo7::hi8::i9::i10::zT zf 11 45 ([]))
def dF (K:KV):KE:=ae Q (cd f188 [1,1,1,1]) (rk f188 K) xf (rk f188 K)
def jI (K:KV):KE:=ae Q (cd f188 (b1 122)) (dF K) (xx xf (dF K) 0) (rk f188 K)
def jJ (K:KV):KE:=ae Q (cd f188 (b1 126)) (rk f188 K) (xx xf (rk f188 K) 2) (rk f188 K)
theorem uX (h:bin Q .sub 3 false false U2 Z1 (fun A3=>bin Q .sub 3 false true A3 (ci 1) fun A4=>bin Q .quo 3 false true A4 (ci 2) fun A5=>jI K (fK Y1 Z1 U2 Z1 (ci 0) A3 A5 uu (zV zu 11 [Z1,U2,Z1,A3,A3,A4,A5]))) w):Gives Q 188 #[Y1,Z1,U2] w K:=by
 refine aB func188 (by kernel_rfl) ?_;revert h;delta jI dF;exact mpF
theorem tX (Inv:Value→World→Prop)(μ:Value→World→Nat)(I:Inv Y2 w)(J:∀(d:Value) (dd:Nat→Value) (w:World) (m:Nat),Inv d w→m=μ d w →
  bin Q .geq 3 false true d (ci 0) (fun A7 w=>cond A7 (call Q 204 #[Y1,d,X2,V2] (fun _=>bin Q .sub 3 false true d (ci 1) fun A9 w=>(Inv A9 w)∧((μ A9 w)<m)) w) (dF K (fK Y1 Z1 U2 V2 W2 X2 d Z2 (zV dd 18 [d,A7])) w)) w):jI K (fK Y1 Z1 U2 V2 W2 X2 Y2 Z2 zf) w:=by
 refine aL (cd f188 (b1 244)) (zr [(9,1),(18,9)]) (by kernel_rfl) (vP [9] Inv) (vQ [9] μ) I ?_;intro e' w' hI;have h:=J _ (zM zf (fun i=>gd e' i) (zr [(9,1),(18,9)])) w' _ hI rfl;revert h;generalize (dF K)=qc0;exact mpF
theorem tZ (h:bin Q .sub 3 false true X2 (ci 1) (fun C6=>jJ K (fK Y1 Z1 U2 V2 W2 X2 Y2 C6 (zV zf 27 [X2,C6]))) w):dF K (fK Y1 Z1 U2 V2 W2 X2 Y2 Z2 zf) w:=by
 delta dF;revert h;delta jJ;exact mpF
theorem tY (Inv:Value→World→Prop)(μ:Value→World→Nat)(I:Inv Z2 w)(J:∀(d:Value) (dd:Nat→Value) (w:World) (m:Nat),Inv d w→m=μ d w →
  bin Q .geq 3 false true d (ci 0) (fun C8 w=>cond C8 (aG (fun S w=>hld (fun _=>True) (bin Q .add 3 false false V2 d) fun D6=>hld (fun _=>True) (bin Q .add 3 false false V2 d) fun E0=>hI S 120 Y1 E0 fun E1=>hL S 31 E1 fun E2=>hI S 120 Y1 V2 fun E4=>hL S 31 E4 fun E5=>hI S 120 Y1 V2 fun E6=>sto Q 31 E6 E2 (fun _=>aG fun S w=>hI S 120 Y1 D6 fun E7=>sto Q 31 E7 E5 (fun _=>call Q 204 #[Y1,W2,d,V2] fun _=>bin Q .sub 3 false true d (ci 1) fun D0 w=>(Inv D0 w)∧((μ D0 w)<m)) w) w) w.drew) (K (Value.tuple #[]) w)) w):jJ K (fK Y1 Z1 U2 V2 W2 X2 Y2 Z2 zf) w:=by
 refine aL (cd f188 (b1 252)) (zr [(10,1),(29,27)]) (by kernel_rfl) (vP [10] Inv) (vQ [10] μ) I ?_;intro e' w' hI;have h:=J _ (zM zf (fun i=>gd e' i) (zr [(10,1),(29,27)])) w' _ hI rfl;exact mpK h
attribute [irreducible] dF jI jJ
def dw (aJ hi2 first3 root8 child9 C0 C1 C2 C3 C4 C5 C6 C7 C8 C9 D0 D1 D2 D3 D4:Value)(zf:Nat→Value):List Value:=aJ::zf 1::hi2::first3::zT zf 4 4 (root8::child9::zT zf 10 12 (C0::C1::C2::C3::C4::C5::C6::C7::C8::C9::D0::D1::D2::D3::D4::zT zf 37 39 ([])))
def jK (K:KV):KE:=ae Q (cd f204 [1,0]) (rk f204 K) (xx xf (rk f204 K) 0) (rk f204 K)
def df (K:KV)(B1:KE):KE:=ae Q (cd f204 (b1 199)) B1 (xx (xx xf (rk f204 K) 0) B1 1) (rk f204 K)
def gT (K:KV)(B1:KE):KE:=ae Q (cd f204 (b1 397)) (df K B1) (xx (xx xf (rk f204 K) 0) B1 1) (rk f204 K)
theorem uY (h:jK K (dw Y1 Z1 U2 V2 uu uu uu uu uu uu uu uu uu uu uu uu uu uu uu uu (zV (zV zu 1 [V2]) 10 [V2])) w):Gives Q 204 #[Y1,V2,Z1,U2] w K:=by
 refine aB func204 (by kernel_rfl) ?_;revert h;delta jK;exact mpF
theorem u9 (Inv:vI 15)(μ:vM 15)(h0:Inv V2 X2 Y2 Z2 U3 V3 W3 X3 Y3 Z3 j4 U4 V4 W4 X4 w)(hs:∀(root8' C0' C1' C2' C3' C4' C5' C6' C7' C8' C9' D0' D1' D2' D3':Value) (dd:Nat→Value) (w:World) (m:Nat),Inv root8' C0' C1' C2' C3' C4' C5' C6' C7' C8' C9' D0' D1' D2' D3' w→m=μ root8' C0' C1' C2' C3' C4' C5' C6' C7' C8' C9' D0' D1' D2' D3' w →
  bin Q .mul 3 true false (ci 2) root8' (fun A1=>nC A1 fun A2=>bin Q .geq 3 false false A2 Z1 fun A4 w=>cond A4 (K (Value.tuple #[]) w) (sti (bin Q .add 3 false true A2 (ci 1)) (fun A6=>sti (bin Q .lss 3 false false A6 Z1) fun A8 w=>aI A8 true (fun k22=>sti (bin Q .add 3 false false U2 A2) (fun U3=>sI 120 Y1 U3 fun V3=>sL 31 V3 fun W3=>sti (bin Q .add 3 false false U2 A2) fun j4=>sti (bin Q .add 3 false true j4 (ci 1)) fun U4=>sI 120 Y1 U4 fun V4=>sL 31 V4 fun W4=>sti (call Q 193 #[W3,W4]) fun X4=>k22 [Y1,U2,A2,U3,V3,W3,Y1,U2,A2,j4,U4,V4,W4,X4]) w) (fun k=>k [uu,uu,uu,uu,uu,uu,uu,uu,uu,uu,uu,uu,uu,uu] w) fun us22=>sti (pick A8 (gd us22 13) cF) fun Y4=>gT K (fun e2 w2=>(Inv (gd e2 8) (gd e2 22) (gd e2 23) (gd e2 24) (gd e2 25) (gd e2 26) (gd e2 27) (gd e2 28) (gd e2 29) (gd e2 30) (gd e2 31) (gd e2 32) (gd e2 33) (gd e2 34) (gd e2 35) w2)∧((μ (gd e2 8) (gd e2 22) (gd e2 23) (gd e2 24) (gd e2 25) (gd e2 26) (gd e2 27) (gd e2 28) (gd e2 29) (gd e2 30) (gd e2 31) (gd e2 32) (gd e2 33) (gd e2 34) (gd e2 35) w2)<m)) (dw Y1 Z1 U2 root8' A2 (gd us22 0) (gd us22 1) (gd us22 2) (gd us22 3) (gd us22 4) (gd us22 5) (gd us22 6) (gd us22 7) (gd us22 8) (gd us22 9) (gd us22 10) (gd us22 11) (gd us22 12) (gd us22 13) Y4 (zV dd 11 [root8',A1,A2,A2,Z1,A4,A2,A6,Z1,A8,A8]))) w.drew)) w):jK K (dw Y1 Z1 U2 V2 W2 X2 Y2 Z2 U3 V3 W3 X3 Y3 Z3 j4 U4 V4 W4 X4 Y4 zf) w:=by
 refine aL (cd f204 [1,0,0]) (zr [(8,2),(11,65)]) (by kernel_rfl) (vP [8,22,23,24,25,26,27,28,29,30,31,32,33,34,35] Inv) (vQ [8,22,23,24,25,26,27,28,29,30,31,32,33,34,35] μ) h0 ?_
 intro e' w' hI
 have h:=hs _ _ _ _ _ _ _ _ _ _ _ _ _ _ _ (zM zf (fun i=>gd e' i) (zr [(8,2),(11,65)])) w' _ hI rfl
 refine Eq.mp (congrArg (fun c=>ae Q c _ _ _ _ w') (by kernel_rfl:(rep (b1 45) (cd f204 (b1 397)) (cd f204 [1,0,0]))=(cd f204 [1,0,0]))) ?_
 revert h
 delta gT df
 generalize (cd f204 (b1 397))=xc0
 exact mpF
theorem oC (h:cond Y4 (nC W2 (fun D6=>df K B1 (dw Y1 Z1 U2 V2 D6 X2 Y2 Z2 U3 V3 W3 X3 Y3 Z3 j4 U4 V4 W4 X4 Y4 (zV zf 37 [W2,D6]))) w) (df K B1 (dw Y1 Z1 U2 V2 W2 X2 Y2 Z2 U3 V3 W3 X3 Y3 Z3 j4 U4 V4 W4 X4 Y4 zf) w)):gT K B1 (dw Y1 Z1 U2 V2 W2 X2 Y2 Z2 U3 V3 W3 X3 Y3 Z3 j4 U4 V4 W4 X4 Y4 zf) w:=by
 delta gT;revert h;generalize (df K B1)=qc0;exact mpF
theorem ua (h:aG (fun S w=>hld (fun _=>True) (bin Q .add 3 false false U2 V2) fun E0=>hI S 120 Y1 E0 fun E1=>hL S 31 E1 fun E2=>hld (fun _=>True) (bin Q .add 3 false false U2 W2) fun E5=>hI S 120 Y1 E5 fun E6=>hL S 31 E6 fun E7=>call Q 193 #[E2,E7] (fun E8=>aG fun S w=>hld S (un Q .not E8) fun E9=>cond E9 (K (Value.tuple #[]) w) (aG (fun S w=>hld (fun _=>True) (bin Q .add 3 false false U2 V2) fun F3=>hld (fun _=>True) (bin Q .add 3 false false U2 W2) fun F7=>hld (fun _=>True) (bin Q .add 3 false false U2 W2) fun F9=>hI S 120 Y1 F9 fun G0=>hL S 31 G0 fun G1=>hld (fun _=>True) (bin Q .add 3 false false U2 V2) fun G2=>hI S 120 Y1 G2 fun G3=>hL S 31 G3 fun G4=>hI S 120 Y1 F3 fun G5=>sto Q 31 G5 G1 (fun _=>aG fun S w=>hI S 120 Y1 F7 fun G6=>sto Q 31 G6 G4 (fun _=>B1 (dw Y1 Z1 U2 W2 W2 X2 Y2 Z2 U3 V3 W3 X3 Y3 Z3 j4 U4 V4 W4 X4 Y4 (zV zf 39 [Y1,U2,V2,E0,E1,E2,Y1,U2,W2,E5,E6,E7,E8,E9,Y1,U2,V2,F3,Y1,U2,W2,F7,Y1,U2,W2,F9,G0,G1,Y1,U2,V2,G2,G3,G4,G5,G6,W2]))) w) w) w.drew)) w) w.drew):df K B1 (dw Y1 Z1 U2 V2 W2 X2 Y2 Z2 U3 V3 W3 X3 Y3 Z3 j4 U4 V4 W4 X4 Y4 zf) w:=by
 delta df;exact mpK h
attribute [irreducible] jK df gT
def oq (aJ a1 b2 i6 j7:Value)(zf:Nat→Value):List Value:=aJ::a1::b2::zT zf 3 3 (i6::j7::zT zf 8 24 ([]))
def iA (K:KV):KE:=ae Q (cd f191 [1,1,0]) (rk f191 K) (xx xf (rk f191 K) 0) (rk f191 K)
theorem sZ (h:bin Q .sub 3 false true U2 (ci 1) (fun A0=>iA K (oq Y1 Z1 U2 Z1 A0 (zV zu 8 [Z1,U2,A0]))) w):Gives Q 191 #[Y1,Z1,U2] w K:=by
 refine aB func191 (by kernel_rfl) ?_;revert h;delta iA;exact mpF
theorem rR (Inv:Value→Value→World→Prop)(μ:Value→Value→World→Nat)(J:Inv V2 W2 w)(M:∀(d j:Value) (dd:Nat→Value) (w:World) (m:Nat),Inv d j w→m=μ d j w →
  lS d j (fun A2 w=>cond A2 (aG (fun S w=>hI S 120 Y1 j fun A8=>hL S 31 A8 fun A9=>hI S 120 Y1 d fun C2=>hL S 31 C2 fun C3=>hI S 120 Y1 d fun C4=>sto Q 31 C4 A9 (fun _=>aG fun S w=>hI S 120 Y1 j fun C5=>sto Q 31 C5 C3 (fun _=>nC d fun C7=>bin Q .sub 3 false true j (ci 1) fun C9 w=>(Inv C7 C9 w)∧((μ C7 C9 w)<m)) w) w) w.drew) (K (Value.tuple #[]) w)) w):iA K (oq Y1 Z1 U2 V2 W2 zf) w:=by
 refine aL (cd f191 [1,1,0,0]) (zr [(6,2),(11,21)]) (by kernel_rfl) (vP [6,7] Inv) (vQ [6,7] μ) J ?_;intro e' w' hI;have h:=M _ _ (zM zf (fun i=>gd e' i) (zr [(6,2),(11,21)])) w' _ hI rfl;exact mpK h
attribute [irreducible] iA
def aD (aJ a1 b2 a5 i10 j11 D2 D3 D4 D5 D6 D7 D8 D9 E0 E7 E8 E9 F0 F1 F2 F3 F4 F5 F6 I0 I1 I2 I3 I4 I5 I6 I7 I8 J2 J3 J4 J5 J6 J7 J8 J9 L0 L1:Value)(zf:Nat→Value):List Value:=aJ::a1::b2::zf 3::zf 4::a5::zT zf 6 4 (i10::j11::zT zf 12 22 (D2::D3::D4::D5::D6::D7::D8::D9::E0::zT zf 43 7 (E7::E8::E9::F0::F1::F2::F3::F4::F5::F6::zT zf 60 43 (I0::I1::I2::I3::I4::I5::I6::I7::I8::zT zf 112 7 (J2::J3::J4::J5::J6::J7::J8::J9::L0::L1::zT zf 129 39 ([]))))))
def cS (K:KV):KE:=ae Q (cd f195 [1,1,1,1]) (rk f195 K) xf (rk f195 K)
def jf (K:KV):KE:=ae Q (cd f195 (b1 60)) (cS K) (xx xf (cS K) 0) (rk f195 K)
def cU (K:KV):KE:=ae Q (cd f195 (b1 63)) (rk f195 K) xf (rk f195 K)
def jg (K:KV):KE:=ae Q (cd f195 (b1 124)) (cU K) (xx xf (cU K) 2) (rk f195 K)
def gN (K:KV):KE:=ae Q (cd f195 (b1 255)) (rk f195 K) xf (rk f195 K)
def bc (K:KV):KE:=ae Q (cd f195 (b1 2047)) (rk f195 K) xf (rk f195 K)
def jh (K:KV):KE:=ae Q (cd f195 (b1 4092)) (bc K) (xx xf (bc K) 4) (rk f195 K)
def cW (K:KV)(B1:KE):KE:=ae Q (cd f195 (b1 32737)) B1 (xx (xx xf (bc K) 4) B1 5) (rk f195 K)
def gO (K:KV)(B1:KE):KE:=ae Q (cd f195 (b1 65472)) (cW K B1) (xx (xx (xx xf (bc K) 4) B1 5) (cW K B1) 6) (rk f195 K)
def cY (K:KV)(B1:KE):KE:=ae Q (cd f195 (b1 65475)) B1 (xx (xx xf (bc K) 4) B1 5) (rk f195 K)
def ji (K:KV)(B1:KE):KE:=ae Q (cd f195 (b1 130948)) (cY K B1) (xx (xx (xx xf (bc K) 4) B1 5) (cY K B1) 8) (rk f195 K)
theorem ue (h:aG (fun S w=>hI S 120 Y1 V2 fun A6=>hL S 31 A6 fun A7=>hI S 120 Y1 Z1 fun C0=>hL S 31 C0 fun C1=>hI S 120 Y1 Z1 fun C2=>sto Q 31 C2 A7 (fun _=>aG fun S w=>hI S 120 Y1 V2 fun C3=>sto Q 31 C3 C1 (fun _=>nC Z1 fun C5=>bin Q .sub 3 false true U2 (ci 1) fun C7=>jf K (aD Y1 Z1 U2 uu C5 C7 uu uu uu uu uu uu uu uu uu uu uu uu uu uu uu uu uu uu uu uu uu uu uu uu uu uu uu uu uu uu uu uu uu uu uu uu uu uu (zV (zV (zV zu 3 [V2]) 8 [ci 0,cF]) 12 [Y1,Z1,Y1,V2,Y1,V2,A6,A7,Y1,Z1,C0,C1,C2,C3,Z1,C5,U2,C7]))) w) w) w.drew):Gives Q 195 #[Y1,Z1,U2,V2] w K:=by
 refine aB func195 (by kernel_rfl) ?_;revert h;delta jf cS;exact mpF
theorem tC (Inv:vI 10)(μ:vM 10)(h0:Inv W2 Y2 Z2 U3 V3 W3 X3 Y3 Z3 j4 w)(hs:∀(j I J M O U X Z ad ag:Value) (dd:Nat→Value) (w:World) (m:Nat),Inv j I J M O U X Z ad ag w→m=μ j I J M O U X Z ad ag w →
  sti (bin Q .leq 3 false false j X2) (fun D0 w=>aI D0 true (fun al=>sI 120 Y1 j (fun U3=>sL 31 U3 fun V3=>sI 120 Y1 Z1 fun Y3=>sL 31 Y3 fun Z3=>sti (call Q 193 #[V3,Z3]) fun j4=>al [Y1,j,U3,V3,Y1,Z1,Y3,Z3,j4]) w) (fun k=>k [uu,uu,uu,uu,uu,uu,uu,uu,uu] w) fun d=>sti (pick D0 (gd d 8) cF) fun E1 w=>cond E1 (nC j (fun E3 w=>(Inv E3 (gd d 0) (gd d 1) (gd d 2) (gd d 3) (gd d 4) (gd d 5) (gd d 6) (gd d 7) (gd d 8) w)∧((μ E3 (gd d 0) (gd d 1) (gd d 2) (gd d 3) (gd d 4) (gd d 5) (gd d 6) (gd d 7) (gd d 8) w)<m)) w) (cS K (aD Y1 Z1 U2 V2 j X2 (gd d 0) (gd d 1) (gd d 2) (gd d 3) (gd d 4) (gd d 5) (gd d 6) (gd d 7) (gd d 8) U4 V4 W4 X4 Y4 Z4 U5 V5 W5 X5 Y5 Z5 K6 T6 U6 V6 W6 X6 Y6 Z6 u7 B7 K7 T7 U7 V7 W7 X7 Y7 (zV (zV dd 30 [j,X2,D0,D0]) 43 [E1])) w)) w.drew):jf K (aD Y1 Z1 U2 V2 W2 X2 Y2 Z2 U3 V3 W3 X3 Y3 Z3 j4 U4 V4 W4 X4 Y4 Z4 U5 V5 W5 X5 Y5 Z5 K6 T6 U6 V6 W6 X6 Y6 Z6 u7 B7 K7 T7 U7 V7 W7 X7 Y7 zf) w:=by
 refine aL (cd f195 (b1 120)) (zr [(10,1),(30,16)]) (by kernel_rfl) (vP [10,34,35,36,37,38,39,40,41,42] Inv) (vQ [10,34,35,36,37,38,39,40,41,42] μ) h0 ?_;intro e' w' hI;have h:=hs _ _ _ _ _ _ _ _ _ _ (zM zf (fun i=>gd e' i) (zr [(10,1),(30,16)])) w' _ hI rfl;revert h;generalize (cS K)=qc0;exact mpF
theorem tH (h:jg K (aD Y1 Z1 U2 V2 W2 X2 Y2 Z2 U3 V3 W3 X3 Y3 Z3 j4 U4 V4 W4 X4 Y4 Z4 U5 V5 W5 X5 Y5 Z5 K6 T6 U6 V6 W6 X6 Y6 Z6 u7 B7 K7 T7 U7 V7 W7 X7 Y7 zf) w):cS K (aD Y1 Z1 U2 V2 W2 X2 Y2 Z2 U3 V3 W3 X3 Y3 Z3 j4 U4 V4 W4 X4 Y4 Z4 U5 V5 W5 X5 Y5 Z5 K6 T6 U6 V6 W6 X6 Y6 Z6 u7 B7 K7 T7 U7 V7 W7 X7 Y7 zf) w:=by
 delta cS;revert h;delta jg cU;exact mpF
theorem tD (Inv:vI 11)(μ:vM 11)(h0:Inv X2 U4 V4 W4 X4 Y4 Z4 U5 V5 W5 X5 w)(hs:∀(j I J M O U X Z ad ag al:Value) (dd:Nat→Value) (w:World) (m:Nat),Inv j I J M O U X Z ad ag al w→m=μ j I J M O U X Z ad ag al w →
  sti (bin Q .leq 3 false false W2 j) (fun E5 w=>aI E5 true (fun am=>sI 120 Y1 j (fun W4=>sL 31 W4 fun X4=>sI 120 Y1 Z1 fun U5=>sL 31 U5 fun V5=>sti (call Q 193 #[X4,V5]) fun W5=>sti (un Q .not W5) fun X5=>am [Y1,j,W4,X4,Y1,Z1,U5,V5,W5,X5]) w) (fun k=>k [uu,uu,uu,uu,uu,uu,uu,uu,uu,uu] w) fun d=>sti (pick E5 (gd d 9) cF) fun F7 w=>cond F7 (bin Q .sub 3 false true j (ci 1) (fun F8 w=>(Inv F8 (gd d 0) (gd d 1) (gd d 2) (gd d 3) (gd d 4) (gd d 5) (gd d 6) (gd d 7) (gd d 8) (gd d 9) w)∧((μ F8 (gd d 0) (gd d 1) (gd d 2) (gd d 3) (gd d 4) (gd d 5) (gd d 6) (gd d 7) (gd d 8) (gd d 9) w)<m)) w) (cU K (aD Y1 Z1 U2 V2 W2 j Y2 Z2 U3 V3 W3 X3 Y3 Z3 j4 (gd d 0) (gd d 1) (gd d 2) (gd d 3) (gd d 4) (gd d 5) (gd d 6) (gd d 7) (gd d 8) (gd d 9) Y5 Z5 K6 T6 U6 V6 W6 X6 Y6 Z6 u7 B7 K7 T7 U7 V7 W7 X7 Y7 (zV (zV dd 46 [W2,j,E5,E5]) 60 [F7])) w)) w.drew):jg K (aD Y1 Z1 U2 V2 W2 X2 Y2 Z2 U3 V3 W3 X3 Y3 Z3 j4 U4 V4 W4 X4 Y4 Z4 U5 V5 W5 X5 Y5 Z5 K6 T6 U6 V6 W6 X6 Y6 Z6 u7 B7 K7 T7 U7 V7 W7 X7 Y7 zf) w:=by
 refine aL (cd f195 (b1 248)) (zr [(11,1),(46,17)]) (by kernel_rfl) (vP [11,50,51,52,53,54,55,56,57,58,59] Inv) (vQ [11,50,51,52,53,54,55,56,57,58,59] μ) h0 ?_;intro e' w' hI;have h:=hs _ _ _ _ _ _ _ _ _ _ _ (zM zf (fun i=>gd e' i) (zr [(11,1),(46,17)])) w' _ hI rfl;revert h;generalize (cU K)=qc0;exact mpF
theorem tI (h:bin Q .gtr 3 false false W2 X2 (fun G0 w=>cond G0 (aG (fun S w=>hI S 120 Y1 Z1 fun G4=>hL S 31 G4 fun G5=>hI S 120 Y1 X2 fun G7=>hL S 31 G7 fun G8=>hI S 120 Y1 X2 fun G9=>sto Q 31 G9 G5 (fun _=>aG fun S w=>hI S 120 Y1 Z1 fun H0=>sto Q 31 H0 G8 (fun _=>K (Value.tuple #[X2,cT])) w) w) w.drew) (aG (fun S w=>hI S 120 Y1 X2 fun H1=>hL S 31 H1 fun H2=>hI S 120 Y1 W2 fun H3=>hL S 31 H3 fun H4=>hI S 120 Y1 W2 fun H5=>sto Q 31 H5 H2 (fun _=>aG fun S w=>hI S 120 Y1 X2 fun H6=>sto Q 31 H6 H4 (fun _=>gN K (aD Y1 Z1 U2 V2 W2 X2 Y2 Z2 U3 V3 W3 X3 Y3 Z3 j4 U4 V4 W4 X4 Y4 Z4 U5 V5 W5 X5 Y5 Z5 K6 T6 U6 V6 W6 X6 Y6 Z6 u7 B7 K7 T7 U7 V7 W7 X7 Y7 (zV (zV zf 63 [W2,X2,G0]) 81 [Y1,W2,Y1,X2,Y1,X2,H1,H2,Y1,W2,H3,H4,H5,H6]))) w) w) w.drew)) w):cU K (aD Y1 Z1 U2 V2 W2 X2 Y2 Z2 U3 V3 W3 X3 Y3 Z3 j4 U4 V4 W4 X4 Y4 Z4 U5 V5 W5 X5 Y5 Z5 K6 T6 U6 V6 W6 X6 Y6 Z6 u7 B7 K7 T7 U7 V7 W7 X7 Y7 zf) w:=by
 delta cU
 refine Eq.mp (congrArg (fun c=>ae Q c _ _ _ _ w) (by kernel_rfl:(rep [1,1] (cd f195 (b1 255)) (cd f195 (b1 63)))=(cd f195 (b1 63)))) ?_
 revert h
 delta gN
 generalize (cd f195 (b1 255))=xc0
 exact mpF
theorem tB (h:nC W2 (fun H7=>bin Q .sub 3 false true X2 (ci 1) fun H8=>jh K (aD Y1 Z1 U2 V2 H7 H8 Y2 Z2 U3 V3 W3 X3 Y3 Z3 j4 U4 V4 W4 X4 Y4 Z4 U5 V5 W5 X5 Y5 Z5 K6 T6 U6 V6 W6 X6 Y6 Z6 u7 B7 K7 T7 U7 V7 W7 X7 Y7 (zV zf 95 [W2,H7,X2,H8]))) w):gN K (aD Y1 Z1 U2 V2 W2 X2 Y2 Z2 U3 V3 W3 X3 Y3 Z3 j4 U4 V4 W4 X4 Y4 Z4 U5 V5 W5 X5 Y5 Z5 K6 T6 U6 V6 W6 X6 Y6 Z6 u7 B7 K7 T7 U7 V7 W7 X7 Y7 zf) w:=by
 delta gN;revert h;delta jh bc;exact mpF
theorem tE (Inv:vI 21)(μ:vM 21)(h0:Inv W2 X2 Y5 Z5 K6 T6 U6 V6 W6 X6 Y6 Z6 u7 B7 K7 T7 U7 V7 W7 X7 Y7 w)(hs:∀(j u I J M O U X Z ad ag al am an ap ar av az aS a0 a2:Value) (dd:Nat→Value) (w:World) (m:Nat),Inv j u I J M O U X Z ad ag al am an ap ar av az aS a0 a2 w→m=μ j u I J M O U X Z ad ag al am an ap ar av az aS a0 a2 w →
  gO K (fun d w2=>(Inv (gd d 10) (gd d 11) (gd d 103) (gd d 104) (gd d 105) (gd d 106) (gd d 107) (gd d 108) (gd d 109) (gd d 110) (gd d 111) (gd d 119) (gd d 120) (gd d 121) (gd d 122) (gd d 123) (gd d 124) (gd d 125) (gd d 126) (gd d 127) (gd d 128) w2)∧((μ (gd d 10) (gd d 11) (gd d 103) (gd d 104) (gd d 105) (gd d 106) (gd d 107) (gd d 108) (gd d 109) (gd d 110) (gd d 111) (gd d 119) (gd d 120) (gd d 121) (gd d 122) (gd d 123) (gd d 124) (gd d 125) (gd d 126) (gd d 127) (gd d 128) w2)<m)) (aD Y1 Z1 U2 V2 j u Y2 Z2 U3 V3 W3 X3 Y3 Z3 j4 U4 V4 W4 X4 Y4 Z4 U5 V5 W5 X5 I J M O U X Z ad ag al am an ap ar av az aS a0 a2 dd) w):jh K (aD Y1 Z1 U2 V2 W2 X2 Y2 Z2 U3 V3 W3 X3 Y3 Z3 j4 U4 V4 W4 X4 Y4 Z4 U5 V5 W5 X5 Y5 Z5 K6 T6 U6 V6 W6 X6 Y6 Z6 u7 B7 K7 T7 U7 V7 W7 X7 Y7 zf) w:=by
 refine aL (cd f195 (b1 8184)) (zr [(10,2),(99,54)]) (by kernel_rfl) (vP [10,11,103,104,105,106,107,108,109,110,111,119,120,121,122,123,124,125,126,127,128] Inv) (vQ [10,11,103,104,105,106,107,108,109,110,111,119,120,121,122,123,124,125,126,127,128] μ) h0 ?_;intro e' w' hI;have h:=hs _ _ _ _ _ _ _ _ _ _ _ _ _ _ _ _ _ _ _ _ _ (zM zf (fun i=>gd e' i) (zr [(10,2),(99,54)])) w' _ hI rfl;revert h
 delta gO cW;generalize (bc K)=qc0;exact mpF
theorem tF (Inv:vI 10)(μ:vM 10)(h0:Inv W2 Y5 Z5 K6 T6 U6 V6 W6 X6 Y6 w)(hs:∀(j I J M O U X Z ad ag:Value) (dd:Nat→Value) (w:World) (m:Nat),Inv j I J M O U X Z ad ag w→m=μ j I J M O U X Z ad ag w →
  sti (bin Q .leq 3 false false j X2) (fun H9 w=>aI H9 true (fun al=>sI 120 Y1 j (fun K6=>sL 31 K6 fun T6=>sI 120 Y1 Z1 fun W6=>sL 31 W6 fun X6=>sti (call Q 193 #[T6,X6]) fun Y6=>al [Y1,j,K6,T6,Y1,Z1,W6,X6,Y6]) w) (fun k=>k [uu,uu,uu,uu,uu,uu,uu,uu,uu] w) fun d=>sti (pick H9 (gd d 8) cF) fun I9 w=>cond I9 (nC j (fun J0 w=>(Inv J0 (gd d 0) (gd d 1) (gd d 2) (gd d 3) (gd d 4) (gd d 5) (gd d 6) (gd d 7) (gd d 8) w)∧((μ J0 (gd d 0) (gd d 1) (gd d 2) (gd d 3) (gd d 4) (gd d 5) (gd d 6) (gd d 7) (gd d 8) w)<m)) w) (cW K B1 (aD Y1 Z1 U2 V2 j X2 Y2 Z2 U3 V3 W3 X3 Y3 Z3 j4 U4 V4 W4 X4 Y4 Z4 U5 V5 W5 X5 (gd d 0) (gd d 1) (gd d 2) (gd d 3) (gd d 4) (gd d 5) (gd d 6) (gd d 7) (gd d 8) Z6 u7 B7 K7 T7 U7 V7 W7 X7 Y7 (zV (zV dd 99 [j,X2,H9,H9]) 112 [I9])) w)) w.drew):gO K B1 (aD Y1 Z1 U2 V2 W2 X2 Y2 Z2 U3 V3 W3 X3 Y3 Z3 j4 U4 V4 W4 X4 Y4 Z4 U5 V5 W5 X5 Y5 Z5 K6 T6 U6 V6 W6 X6 Y6 Z6 u7 B7 K7 T7 U7 V7 W7 X7 Y7 zf) w:=by
 refine aL (cd f195 (b1 130944)) (zr [(10,1),(99,16)]) (by kernel_rfl) (vP [10,103,104,105,106,107,108,109,110,111] Inv) (vQ [10,103,104,105,106,107,108,109,110,111] μ) h0 ?_;intro e' w' hI;have h:=hs _ _ _ _ _ _ _ _ _ _ (zM zf (fun i=>gd e' i) (zr [(10,1),(99,16)])) w' _ hI rfl;revert h;generalize (bc K)=qc0;generalize (cW K B1)=qc1;exact mpF
theorem tK (h:ji K B1 (aD Y1 Z1 U2 V2 W2 X2 Y2 Z2 U3 V3 W3 X3 Y3 Z3 j4 U4 V4 W4 X4 Y4 Z4 U5 V5 W5 X5 Y5 Z5 K6 T6 U6 V6 W6 X6 Y6 Z6 u7 B7 K7 T7 U7 V7 W7 X7 Y7 zf) w):cW K B1 (aD Y1 Z1 U2 V2 W2 X2 Y2 Z2 U3 V3 W3 X3 Y3 Z3 j4 U4 V4 W4 X4 Y4 Z4 U5 V5 W5 X5 Y5 Z5 K6 T6 U6 V6 W6 X6 Y6 Z6 u7 B7 K7 T7 U7 V7 W7 X7 Y7 zf) w:=by
 delta cW;revert h;delta ji cY;generalize (bc K)=qc0;exact mpF
theorem tG (Inv:vI 11)(μ:vM 11)(h0:Inv X2 Z6 u7 B7 K7 T7 U7 V7 W7 X7 Y7 w)(hs:∀(j I J M O U X Z ad ag al:Value) (dd:Nat→Value) (w:World) (m:Nat),Inv j I J M O U X Z ad ag al w→m=μ j I J M O U X Z ad ag al w →
  sti (bin Q .leq 3 false false W2 j) (fun J1 w=>aI J1 true (fun am=>sI 120 Y1 j (fun B7=>sL 31 B7 fun K7=>sI 120 Y1 Z1 fun V7=>sL 31 V7 fun W7=>sti (call Q 193 #[K7,W7]) fun X7=>sti (un Q .not X7) fun Y7=>am [Y1,j,B7,K7,Y1,Z1,V7,W7,X7,Y7]) w) (fun k=>k [uu,uu,uu,uu,uu,uu,uu,uu,uu,uu] w) fun d=>sti (pick J1 (gd d 9) cF) fun L2 w=>cond L2 (bin Q .sub 3 false true j (ci 1) (fun L3 w=>(Inv L3 (gd d 0) (gd d 1) (gd d 2) (gd d 3) (gd d 4) (gd d 5) (gd d 6) (gd d 7) (gd d 8) (gd d 9) w)∧((μ L3 (gd d 0) (gd d 1) (gd d 2) (gd d 3) (gd d 4) (gd d 5) (gd d 6) (gd d 7) (gd d 8) (gd d 9) w)<m)) w) (cY K B1 (aD Y1 Z1 U2 V2 W2 j Y2 Z2 U3 V3 W3 X3 Y3 Z3 j4 U4 V4 W4 X4 Y4 Z4 U5 V5 W5 X5 Y5 Z5 K6 T6 U6 V6 W6 X6 Y6 (gd d 0) (gd d 1) (gd d 2) (gd d 3) (gd d 4) (gd d 5) (gd d 6) (gd d 7) (gd d 8) (gd d 9) (zV (zV dd 115 [W2,j,J1,J1]) 129 [L2])) w)) w.drew):ji K B1 (aD Y1 Z1 U2 V2 W2 X2 Y2 Z2 U3 V3 W3 X3 Y3 Z3 j4 U4 V4 W4 X4 Y4 Z4 U5 V5 W5 X5 Y5 Z5 K6 T6 U6 V6 W6 X6 Y6 Z6 u7 B7 K7 T7 U7 V7 W7 X7 Y7 zf) w:=by
 refine aL (cd f195 (b1 261896)) (zr [(11,1),(115,17)]) (by kernel_rfl) (vP [11,119,120,121,122,123,124,125,126,127,128] Inv) (vQ [11,119,120,121,122,123,124,125,126,127,128] μ) h0 ?_;intro e' w' hI;have h:=hs _ _ _ _ _ _ _ _ _ _ _ (zM zf (fun i=>gd e' i) (zr [(11,1),(115,17)])) w' _ hI rfl;revert h;generalize (bc K)=qc0;generalize (cY K B1)=qc1;exact mpF
theorem tL (h:bin Q .gtr 3 false false W2 X2 (fun L4 w=>cond L4 (bc K (aD Y1 Z1 U2 V2 W2 X2 Y2 Z2 U3 V3 W3 X3 Y3 Z3 j4 U4 V4 W4 X4 Y4 Z4 U5 V5 W5 X5 Y5 Z5 K6 T6 U6 V6 W6 X6 Y6 Z6 u7 B7 K7 T7 U7 V7 W7 X7 Y7 (zV zf 132 [W2,X2,L4])) w) (aG (fun S w=>hI S 120 Y1 X2 fun L5=>hL S 31 L5 fun L6=>hI S 120 Y1 W2 fun L7=>hL S 31 L7 fun L8=>hI S 120 Y1 W2 fun L9=>sto Q 31 L9 L6 (fun _=>aG fun S w=>hI S 120 Y1 X2 fun M0=>sto Q 31 M0 L8 (fun _=>nC W2 fun M1=>bin Q .sub 3 false true X2 (ci 1) fun M2=>B1 (aD Y1 Z1 U2 V2 M1 M2 Y2 Z2 U3 V3 W3 X3 Y3 Z3 j4 U4 V4 W4 X4 Y4 Z4 U5 V5 W5 X5 Y5 Z5 K6 T6 U6 V6 W6 X6 Y6 Z6 u7 B7 K7 T7 U7 V7 W7 X7 Y7 (zV zf 132 [W2,X2,L4,Y1,W2,Y1,X2,Y1,X2,L5,L6,Y1,W2,L7,L8,L9,M0,W2,M1,X2,M2]))) w) w) w.drew)) w):cY K B1 (aD Y1 Z1 U2 V2 W2 X2 Y2 Z2 U3 V3 W3 X3 Y3 Z3 j4 U4 V4 W4 X4 Y4 Z4 U5 V5 W5 X5 Y5 Z5 K6 T6 U6 V6 W6 X6 Y6 Z6 u7 B7 K7 T7 U7 V7 W7 X7 Y7 zf) w:=by
 delta cY;revert h;generalize (bc K)=qc0;exact mpF
theorem tJ (h:aG (fun S w=>hI S 120 Y1 Z1 fun M3=>hL S 31 M3 fun M4=>hI S 120 Y1 X2 fun M5=>hL S 31 M5 fun M6=>hI S 120 Y1 X2 fun M7=>sto Q 31 M7 M4 (fun _=>aG fun S w=>hI S 120 Y1 Z1 fun M8=>sto Q 31 M8 M6 (fun _=>K (Value.tuple #[X2,cF])) w) w) w.drew):bc K (aD Y1 Z1 U2 V2 W2 X2 Y2 Z2 U3 V3 W3 X3 Y3 Z3 j4 U4 V4 W4 X4 Y4 Z4 U5 V5 W5 X5 Y5 Z5 K6 T6 U6 V6 W6 X6 Y6 Z6 u7 B7 K7 T7 U7 V7 W7 X7 Y7 zf) w:=by
 delta bc;exact mpK h
attribute [irreducible] cS jf cU jg gN bc jh cW gO cY ji
theorem qJ (h:lN 120 Y1 (fun A0=>conv Q 3 196 A0 fun A2=>call Q 91 #[A2] fun A3=>call Q 159 #[Y1,ci 0,A0,A3] fun _=>K (Value.tuple #[])) w):Gives Q 123 #[Y1] w K:=by
 refine aB func123 (by kernel_rfl) ?_;exact mpK h
def ah (aJ a1 b2 bV a5 ba aR bL cK eM dV aF D4 E4 E9 F1 F2 F3 F6 F7 F8 F9 G0 G1 G2 G3 G4 G5 G6:Value)(zf:Nat→Value):List Value:=aJ::a1::b2::bV::zf 4::a5::zf 6::zf 7::ba::aR::bL::cK::eM::zf 13::dV::aF::zT zf 16 19 (D4::zT zf 36 14 (E4::zT zf 51 12 (E9::zf 64::zf 65::F1::F2::F3::zT zf 69 7 (F6::F7::F8::F9::G0::G1::G2::G3::G4::G5::G6::zT zf 87 47 ([])))))
def mA (K:KV):KE:=ae Q (cd f159 [1,1,0]) (rk f159 K) (xx xf (rk f159 K) 0) (rk f159 K)
def dt (K:KV)(B1:KE):KE:=ae Q (cd f159 (b1 911)) B1 (xx (xx xf (rk f159 K) 0) B1 1) (rk f159 K)
def jQ (K:KV)(B1:KE):KE:=ae Q (cd f159 (b1 1821)) (dt K B1) (xx (xx xf (rk f159 K) 0) B1 1) (rk f159 K)
def du (K:KV)(B1:KE):KE:=ae Q (cd f159 (b1 3647)) B1 (xx (xx xf (rk f159 K) 0) B1 1) (rk f159 K)
def jR (K:KV)(B1:KE):KE:=ae Q (cd f159 (b1 7293)) (du K B1) (xx (xx xf (rk f159 K) 0) B1 1) (rk f159 K)
def dv (K:KV)(B1:KE):KE:=ae Q (cd f159 (b1 7295)) B1 (xx (xx xf (rk f159 K) 0) B1 1) (rk f159 K)
def hJ (K:KV)(B1:KE):KE:=ae Q (cd f159 (b1 14589)) (dv K B1) (xx (xx xf (rk f159 K) 0) B1 1) (rk f159 K)
def hU (K:KV)(B1:KE):KE:=ae Q (cd f159 (b1 29183)) B1 (xx (xx xf (rk f159 K) 0) B1 1) (rk f159 K)
section
variable {K:KV}{aJ a1 b2 bV a5 ba aR bL cK eM dV aF D4 E4 E9 F1 F2 F3 F6 F7 F8 F9 G0 G1 G2 G3 G4 G5 G6:Value}{zf:Nat→Value}{w:World}
theorem vK (h:ae Q (cd f159 [1,1,0]) (rk f159 K) (fun i=>@Bool.rec (fun _=>KE) ((fun _ _ _=>False) i) (rk f159 K) (Nat.beq i 0)) (rk f159 K) (ah Y1 Z1 U2 V2 uu cT cT uu uu uu uu uu uu uu uu uu uu uu uu uu uu uu uu uu uu uu uu uu uu zu) w):ae Q (cd f159 []) (rk f159 K) xf (rk f159 K) (ah Y1 Z1 U2 V2 uu uu uu uu uu uu uu uu uu uu uu uu uu uu uu uu uu uu uu uu uu uu uu uu uu zu) w:=Eq.mp (by kernel_rfl) h
theorem pf {K:KV}{aJ a1 b2 bV:Value}{w:World}(h:mA K (ah aJ a1 b2 bV uu cT cT uu uu uu uu uu uu uu uu uu uu uu uu uu uu uu uu uu uu uu uu uu uu zu) w):Gives Q 159 #[aJ,a1,b2,bV] w K:=aB func159 (by kernel_rfl) (Eq.mp (congrArg (fun c=>ae Q c (rk f159 K) xf (rk f159 K) (ah aJ a1 b2 bV uu uu uu uu uu uu uu uu uu uu uu uu uu uu uu uu uu uu uu uu uu uu uu uu uu zu) w) (by kernel_rfl:(cd f159 [])=(cd f159 []))) (vK h))
theorem uo (B1:KE)(d:Code)(h:bin Q .sub 3 false false U2 Z1 (fun C3=>bin Q .leq 3 false true C3 (ci 12) fun C5 w=>cond C5 (call Q 187 #[Y1,Z1,U2] (fun _=>K (Value.tuple #[])) w) (bin Q .eql 3 false true V2 (ci 0) (fun D1 w=>cond D1 (call Q 188 #[Y1,Z1,U2] (fun _=>K (Value.tuple #[])) w) (un Q .not X2 (fun D4=>ae Q d (ae Q (cd f159 (b1 911)) B1 (fun i=>@Bool.rec (fun _=>KE) ((fun i=>@Bool.rec (fun _=>KE) ((fun _ _ _=>False) i) (rk f159 K) (Nat.beq i 0)) i) B1 (Nat.beq i 1)) (rk f159 K)) (fun i=>@Bool.rec (fun _=>KE) ((fun i=>@Bool.rec (fun _=>KE) ((fun _ _ _=>False) i) (rk f159 K) (Nat.beq i 0)) i) B1 (Nat.beq i 1)) (rk f159 K) (ah Y1 Z1 U2 V2 W2 X2 Y2 C3 (dd 11) (dd 12) (dd 14) (dd 15) D4 (dd 50) Z2 U3 V3 (dd 68) W3 X3 Y3 Z3 j4 U4 V4 W4 X4 Y4 Z4 (zV (zV (zV dd 19 [U2,Z1,C3,C3,C5]) 28 [V2,D1]) 34 [X2]))) w)) w)) w):ae Q (rep (b1 93) d (cd f159 [1,1,0,0])) B1 (xx xf (rk f159 K) 0) (rk f159 K) (ah Y1 Z1 U2 V2 W2 X2 Y2 (dd 10) (dd 11) (dd 12) (dd 14) (dd 15) (dd 35) (dd 50) Z2 U3 V3 (dd 68) W3 X3 Y3 Z3 j4 U4 V4 W4 X4 Y4 Z4 dd) w:=Eq.mp (by kernel_rfl) h
theorem oJ (Inv:vI 19)(μ:vM 19)(h0:Inv a1 b2 bV ba aR E9 F1 F2 F6 F7 F8 F9 G0 G1 G2 G3 G4 G5 G6 w)(hs:∀(J M I j u U X Z ad ag al am an ap ar av az aS a0:Value) (dd:Nat→Value) (w:World) (m:Nat),Inv J M I j u U X Z ad ag al am an ap ar av az aS a0 w→m=μ J M I j u U X Z ad ag al am an ap ar av az aS a0 w →
  bin Q .sub 3 false false M J (fun C3=>bin Q .leq 3 false true C3 (ci 12) fun C5 w=>cond C5 (call Q 187 #[aJ,J,M] (fun _=>K (Value.tuple #[])) w) (bin Q .eql 3 false true I (ci 0) (fun D1 w=>cond D1 (call Q 188 #[aJ,J,M] (fun _=>K (Value.tuple #[])) w) (un Q .not j (fun D4=>jQ K (fun d O=>(Inv (gd d 1) (gd d 2) (gd d 3) (gd d 8) (gd d 9) (gd d 63) (gd d 66) (gd d 67) (gd d 76) (gd d 77) (gd d 78) (gd d 79) (gd d 80) (gd d 81) (gd d 82) (gd d 83) (gd d 84) (gd d 85) (gd d 86) O)∧((μ (gd d 1) (gd d 2) (gd d 3) (gd d 8) (gd d 9) (gd d 63) (gd d 66) (gd d 67) (gd d 76) (gd d 77) (gd d 78) (gd d 79) (gd d 80) (gd d 81) (gd d 82) (gd d 83) (gd d 84) (gd d 85) (gd d 86) O)<m)) (ah aJ J M I a5 j u C3 (dd 11) (dd 12) (dd 14) (dd 15) D4 (dd 50) U X Z (dd 68) ad ag al am an ap ar av az aS a0 (zV (zV (zV dd 19 [M,J,C3,C3,C5]) 28 [I,D1]) 34 [j]))) w)) w)) w):mA K (ah aJ a1 b2 bV a5 ba aR bL cK eM dV aF D4 E4 E9 F1 F2 F3 F6 F7 F8 F9 G0 G1 G2 G3 G4 G5 G6 zf) w:=by
 refine aL (cd f159 [1,1,0,0]) (zr [(1,3),(8,126)]) (by kernel_rfl) (vP [1,2,3,8,9,63,66,67,76,77,78,79,80,81,82,83,84,85,86] Inv) (vQ [1,2,3,8,9,63,66,67,76,77,78,79,80,81,82,83,84,85,86] μ) h0 ?_;intro e' w' hI;have h:=hs _ _ _ _ _ _ _ _ _ _ _ _ _ _ _ _ _ _ _ (zM zf (fun i=>gd e' i) (zr [(1,3),(8,126)])) w' _ hI rfl
 have h2:ae Q (rep (b1 93) (cd f159 (b1 1821)) (cd f159 [1,1,0,0])) (fun d O=>Inv (gd d 1) (gd d 2) (gd d 3) (gd d 8) (gd d 9) (gd d 63) (gd d 66) (gd d 67) (gd d 76) (gd d 77) (gd d 78) (gd d 79) (gd d 80) (gd d 81) (gd d 82) (gd d 83) (gd d 84) (gd d 85) (gd d 86) O∧μ (gd d 1) (gd d 2) (gd d 3) (gd d 8) (gd d 9) (gd d 63) (gd d 66) (gd d 67) (gd d 76) (gd d 77) (gd d 78) (gd d 79) (gd d 80) (gd d 81) (gd d 82) (gd d 83) (gd d 84) (gd d 85) (gd d 86) O<μ (gd e' 1) (gd e' 2) (gd e' 3) (gd e' 8) (gd e' 9) (gd e' 63) (gd e' 66) (gd e' 67) (gd e' 76) (gd e' 77) (gd e' 78) (gd e' 79) (gd e' 80) (gd e' 81) (gd e' 82) (gd e' 83) (gd e' 84) (gd e' 85) (gd e' 86) w') (xx xf (rk f159 K) 0) (rk f159 K) (ah aJ (gd e' 1) (gd e' 2) (gd e' 3) a5 (gd e' 8) (gd e' 9) (gd e' 10) (gd e' 11) (gd e' 12) (gd e' 14) (gd e' 15) (gd e' 35) (gd e' 50) (gd e' 63) (gd e' 66) (gd e' 67) (gd e' 68) (gd e' 76) (gd e' 77) (gd e' 78) (gd e' 79) (gd e' 80) (gd e' 81) (gd e' 82) (gd e' 83) (gd e' 84) (gd e' 85) (gd e' 86) (zM zf (fun i=>gd e' i) (zr [(1,3),(8,126)]))) w':=uo (fun d O=>Inv (gd d 1) (gd d 2) (gd d 3) (gd d 8) (gd d 9) (gd d 63) (gd d 66) (gd d 67) (gd d 76) (gd d 77) (gd d 78) (gd d 79) (gd d 80) (gd d 81) (gd d 82) (gd d 83) (gd d 84) (gd d 85) (gd d 86) O∧μ (gd d 1) (gd d 2) (gd d 3) (gd d 8) (gd d 9) (gd d 63) (gd d 66) (gd d 67) (gd d 76) (gd d 77) (gd d 78) (gd d 79) (gd d 80) (gd d 81) (gd d 82) (gd d 83) (gd d 84) (gd d 85) (gd d 86) O<μ (gd e' 1) (gd e' 2) (gd e' 3) (gd e' 8) (gd e' 9) (gd e' 63) (gd e' 66) (gd e' 67) (gd e' 76) (gd e' 77) (gd e' 78) (gd e' 79) (gd e' 80) (gd e' 81) (gd e' 82) (gd e' 83) (gd e' 84) (gd e' 85) (gd e' 86) w') (cd f159 (b1 1821)) (Eq.mp (by kernel_rfl) h)
 exact Eq.mp (by kernel_rfl) h2
theorem uf (B1:KE)(d:KE)(h:cond Y3 (call Q 189 #[Y1,Z1,U2] (fun D6=>bin Q .sub 3 false true V2 (ci 1) fun D8=>d (ah Y1 Z1 U2 D8 W2 X2 Y2 Z2 U3 V3 W3 X3 Y3 Z3 j4 U4 V4 W4 X4 Y4 Z4 U5 V5 W5 X5 Y5 Z5 K6 T6 (zV zf 36 [Y1,Z1,U2,D6,V2,D8]))) w) (d (ah Y1 Z1 U2 V2 W2 X2 Y2 Z2 U3 V3 W3 X3 Y3 Z3 j4 U4 V4 W4 X4 Y4 Z4 U5 V5 W5 X5 Y5 Z5 K6 T6 zf) w)):ae Q (cd f159 (b1 1821)) d (xx (xx xf (rk f159 K) 0) B1 1) (rk f159 K) (ah Y1 Z1 U2 V2 W2 X2 Y2 Z2 U3 V3 W3 X3 Y3 Z3 j4 U4 V4 W4 X4 Y4 Z4 U5 V5 W5 X5 Y5 Z5 K6 T6 zf) w:=Eq.mp (by kernel_rfl) h
theorem ug {B1:KE}(h:cond D4 (call Q 189 #[aJ,a1,b2] (fun D6=>bin Q .sub 3 false true bV (ci 1) fun D8=>dt K B1 (ah aJ a1 b2 D8 a5 ba aR bL cK eM dV aF D4 E4 E9 F1 F2 F3 F6 F7 F8 F9 G0 G1 G2 G3 G4 G5 G6 (zV zf 36 [aJ,a1,b2,D6,bV,D8]))) w) (dt K B1 (ah aJ a1 b2 bV a5 ba aR bL cK eM dV aF D4 E4 E9 F1 F2 F3 F6 F7 F8 F9 G0 G1 G2 G3 G4 G5 G6 zf) w)):jQ K B1 (ah aJ a1 b2 bV a5 ba aR bL cK eM dV aF D4 E4 E9 F1 F2 F3 F6 F7 F8 F9 G0 G1 G2 G3 G4 G5 G6 zf) w:=by
 delta jQ
 exact Eq.mp (congrArg (fun c=>ae Q c (dt K B1) (xx (xx xf (rk f159 K) 0) B1 1) (rk f159 K) (ah aJ a1 b2 bV a5 ba aR bL cK eM dV aF D4 E4 E9 F1 F2 F3 F6 F7 F8 F9 G0 G1 G2 G3 G4 G5 G6 zf) w) (by kernel_rfl:(cd f159 (b1 1821))=(cd f159 (b1 1821)))) (uf B1 (dt K B1) h)
theorem ur (B1:KE)(d:Code)(h:call Q 190 #[Y1,Z1,U2] (fun E1=>ext Q E1 0 fun E2=>ext Q E1 1 fun E3=>bin Q .eql 222 false true E3 (ci 2) fun Z3=>ae Q d (ae Q (cd f159 (b1 3647)) B1 (fun i=>@Bool.rec (fun _=>KE) ((fun i=>@Bool.rec (fun _=>KE) ((fun _ _ _=>False) i) (rk f159 K) (Nat.beq i 0)) i) B1 (Nat.beq i 1)) (rk f159 K)) (fun i=>@Bool.rec (fun _=>KE) ((fun i=>@Bool.rec (fun _=>KE) ((fun _ _ _=>False) i) (rk f159 K) (Nat.beq i 0)) i) B1 (Nat.beq i 1)) (rk f159 K) (ah Y1 Z1 U2 V2 W2 X2 Y2 Z2 E2 E3 W3 X3 Y3 Z3 j4 U4 V4 W4 X4 Y4 Z4 U5 V5 W5 X5 Y5 Z5 K6 T6 (zV zf 42 [E1,Y1,Z1,U2,E1,E2,E3,E3]))) w):ae Q (rep [1,0,1] d (cd f159 (b1 911))) B1 (xx (xx xf (rk f159 K) 0) B1 1) (rk f159 K) (ah Y1 Z1 U2 V2 W2 X2 Y2 Z2 U3 V3 W3 X3 Y3 Z3 j4 U4 V4 W4 X4 Y4 Z4 U5 V5 W5 X5 Y5 Z5 K6 T6 zf) w:=Eq.mp (by kernel_rfl) h
theorem ut {B1:KE}(h:call Q 190 #[aJ,a1,b2] (fun E1=>ext Q E1 0 fun E2=>ext Q E1 1 fun E3=>bin Q .eql 222 false true E3 (ci 2) fun E4=>jR K B1 (ah aJ a1 b2 bV a5 ba aR bL E2 E3 dV aF D4 E4 E9 F1 F2 F3 F6 F7 F8 F9 G0 G1 G2 G3 G4 G5 G6 (zV zf 42 [E1,aJ,a1,b2,E1,E2,E3,E3]))) w):dt K B1 (ah aJ a1 b2 bV a5 ba aR bL cK eM dV aF D4 E4 E9 F1 F2 F3 F6 F7 F8 F9 G0 G1 G2 G3 G4 G5 G6 zf) w:=by
 delta dt
 exact Eq.mp (congrArg (fun c=>ae Q c B1 (xx (xx xf (rk f159 K) 0) B1 1) (rk f159 K) (ah aJ a1 b2 bV a5 ba aR bL cK eM dV aF D4 E4 E9 F1 F2 F3 F6 F7 F8 F9 G0 G1 G2 G3 G4 G5 G6 zf) w) (by kernel_rfl:(rep [1,0,1] (cd f159 (b1 7293)) (cd f159 (b1 911)))=(cd f159 (b1 911)))) (ur B1 (cd f159 (b1 7293)) h)
theorem uh (B1:KE)(d:KE)(h:cond Z3 (call Q 191 #[Y1,Z1,U2] (fun E5=>bin Q .sub 3 false true U2 (ci 1) fun E6=>bin Q .sub 3 false false U3 Z1 fun E7=>bin Q .sub 3 false false E6 E7 fun E8=>d (ah Y1 Z1 U2 V2 W2 X2 Y2 Z2 E8 (ci 1) W3 X3 Y3 Z3 j4 U4 V4 W4 X4 Y4 Z4 U5 V5 W5 X5 Y5 Z5 K6 T6 (zV zf 51 [Y1,Z1,U2,E5,U2,E6,U3,Z1,E7,E8]))) w) (d (ah Y1 Z1 U2 V2 W2 X2 Y2 Z2 U3 V3 W3 X3 Y3 Z3 j4 U4 V4 W4 X4 Y4 Z4 U5 V5 W5 X5 Y5 Z5 K6 T6 zf) w)):ae Q (cd f159 (b1 7293)) d (xx (xx xf (rk f159 K) 0) B1 1) (rk f159 K) (ah Y1 Z1 U2 V2 W2 X2 Y2 Z2 U3 V3 W3 X3 Y3 Z3 j4 U4 V4 W4 X4 Y4 Z4 U5 V5 W5 X5 Y5 Z5 K6 T6 zf) w:=Eq.mp (by kernel_rfl) h
theorem ui {B1:KE}(h:cond E4 (call Q 191 #[aJ,a1,b2] (fun E5=>bin Q .sub 3 false true b2 (ci 1) fun E6=>bin Q .sub 3 false false cK a1 fun E7=>bin Q .sub 3 false false E6 E7 fun E8=>du K B1 (ah aJ a1 b2 bV a5 ba aR bL E8 (ci 1) dV aF D4 E4 E9 F1 F2 F3 F6 F7 F8 F9 G0 G1 G2 G3 G4 G5 G6 (zV zf 51 [aJ,a1,b2,E5,b2,E6,cK,a1,E7,E8]))) w) (du K B1 (ah aJ a1 b2 bV a5 ba aR bL cK eM dV aF D4 E4 E9 F1 F2 F3 F6 F7 F8 F9 G0 G1 G2 G3 G4 G5 G6 zf) w)):jR K B1 (ah aJ a1 b2 bV a5 ba aR bL cK eM dV aF D4 E4 E9 F1 F2 F3 F6 F7 F8 F9 G0 G1 G2 G3 G4 G5 G6 zf) w:=by
 delta jR
 exact Eq.mp (congrArg (fun c=>ae Q c (du K B1) (xx (xx xf (rk f159 K) 0) B1 1) (rk f159 K) (ah aJ a1 b2 bV a5 ba aR bL cK eM dV aF D4 E4 E9 F1 F2 F3 F6 F7 F8 F9 G0 G1 G2 G3 G4 G5 G6 zf) w) (by kernel_rfl:(cd f159 (b1 7293))=(cd f159 (b1 7293)))) (uh B1 (du K B1) h)
theorem uw (B1:KE)(u:Code)(h:aI X2 true (fun I=>I [Y2] w) (fun k=>k [uu] w) fun j=>pick X2 (gd j 0) cF fun F0 w=>aI F0 true (fun J=>bin Q .eql 222 false true V3 (ci 1) (fun V4=>J [V3,V4]) w) (fun k=>k [uu,uu] w) fun d=>pick F0 (gd d 1) cF fun W4=>ae Q u (ae Q (cd f159 (b1 7295)) B1 (fun i=>@Bool.rec (fun _=>KE) ((fun i=>@Bool.rec (fun _=>KE) ((fun _ _ _=>False) i) (rk f159 K) (Nat.beq i 0)) i) B1 (Nat.beq i 1)) (rk f159 K)) (fun i=>@Bool.rec (fun _=>KE) ((fun i=>@Bool.rec (fun _=>KE) ((fun _ _ _=>False) i) (rk f159 K) (Nat.beq i 0)) i) B1 (Nat.beq i 1)) (rk f159 K) (ah Y1 Z1 U2 V2 W2 X2 Y2 Z2 U3 V3 W3 X3 Y3 Z3 (gd j 0) (gd d 0) (gd d 1) W4 X4 Y4 Z4 U5 V5 W5 X5 Y5 Z5 K6 T6 (zV (zV zf 61 [X2,X2]) 64 [F0,F0]))):ae Q (rep [0,1] u (cd f159 (b1 3647))) B1 (xx (xx xf (rk f159 K) 0) B1 1) (rk f159 K) (ah Y1 Z1 U2 V2 W2 X2 Y2 Z2 U3 V3 W3 X3 Y3 Z3 j4 U4 V4 W4 X4 Y4 Z4 U5 V5 W5 X5 Y5 Z5 K6 T6 zf) w:=Eq.mp (by kernel_rfl) h
theorem ux {B1:KE}(h:aI ba true (fun k63=>k63 [aR] w) (fun k=>k [uu] w) fun us63=>pick ba (gd us63 0) cF fun F0 w=>aI F0 true (fun k66=>bin Q .eql 222 false true eM (ci 1) (fun F2=>k66 [eM,F2]) w) (fun k=>k [uu,uu] w) fun us66=>pick F0 (gd us66 1) cF fun F3=>hJ K B1 (ah aJ a1 b2 bV a5 ba aR bL cK eM dV aF D4 E4 (gd us63 0) (gd us66 0) (gd us66 1) F3 F6 F7 F8 F9 G0 G1 G2 G3 G4 G5 G6 (zV (zV zf 61 [ba,ba]) 64 [F0,F0]))):du K B1 (ah aJ a1 b2 bV a5 ba aR bL cK eM dV aF D4 E4 E9 F1 F2 F3 F6 F7 F8 F9 G0 G1 G2 G3 G4 G5 G6 zf) w:=by
 delta du
 exact Eq.mp (congrArg (fun c=>ae Q c B1 (xx (xx xf (rk f159 K) 0) B1 1) (rk f159 K) (ah aJ a1 b2 bV a5 ba aR bL cK eM dV aF D4 E4 E9 F1 F2 F3 F6 F7 F8 F9 G0 G1 G2 G3 G4 G5 G6 zf) w) (by kernel_rfl:(rep [0,1] (cd f159 (b1 14589)) (cd f159 (b1 3647)))=(cd f159 (b1 3647)))) (uw B1 (cd f159 (b1 14589)) h)
theorem uj (B1:KE)(d:KE)(h:cond W4 (call Q 192 #[Y1,Z1,U2] (fun F4 w=>cond F4 (K (Value.tuple #[]) w) (d (ah Y1 Z1 U2 V2 W2 X2 Y2 Z2 U3 V3 W3 X3 Y3 Z3 j4 U4 V4 W4 X4 Y4 Z4 U5 V5 W5 X5 Y5 Z5 K6 T6 (zV zf 69 [Y1,Z1,U2,F4])) w)) w) (d (ah Y1 Z1 U2 V2 W2 X2 Y2 Z2 U3 V3 W3 X3 Y3 Z3 j4 U4 V4 W4 X4 Y4 Z4 U5 V5 W5 X5 Y5 Z5 K6 T6 zf) w)):ae Q (cd f159 (b1 14589)) d (xx (xx xf (rk f159 K) 0) B1 1) (rk f159 K) (ah Y1 Z1 U2 V2 W2 X2 Y2 Z2 U3 V3 W3 X3 Y3 Z3 j4 U4 V4 W4 X4 Y4 Z4 U5 V5 W5 X5 Y5 Z5 K6 T6 zf) w:=Eq.mp (by kernel_rfl) h
theorem uk {B1:KE}(h:cond F3 (call Q 192 #[aJ,a1,b2] (fun F4 w=>cond F4 (K (Value.tuple #[]) w) (dv K B1 (ah aJ a1 b2 bV a5 ba aR bL cK eM dV aF D4 E4 E9 F1 F2 F3 F6 F7 F8 F9 G0 G1 G2 G3 G4 G5 G6 (zV zf 69 [aJ,a1,b2,F4])) w)) w) (dv K B1 (ah aJ a1 b2 bV a5 ba aR bL cK eM dV aF D4 E4 E9 F1 F2 F3 F6 F7 F8 F9 G0 G1 G2 G3 G4 G5 G6 zf) w)):hJ K B1 (ah aJ a1 b2 bV a5 ba aR bL cK eM dV aF D4 E4 E9 F1 F2 F3 F6 F7 F8 F9 G0 G1 G2 G3 G4 G5 G6 zf) w:=by
 delta hJ
 exact Eq.mp (congrArg (fun c=>ae Q c (dv K B1) (xx (xx xf (rk f159 K) 0) B1 1) (rk f159 K) (ah aJ a1 b2 bV a5 ba aR bL cK eM dV aF D4 E4 E9 F1 F2 F3 F6 F7 F8 F9 G0 G1 G2 G3 G4 G5 G6 zf) w) (by kernel_rfl:(cd f159 (b1 14589))=(cd f159 (b1 14589)))) (uj B1 (dv K B1) h)
theorem uy (B1:KE)(j:Code)(h:sti (bin Q .gtr 3 false true Z1 (ci 0)) (fun F5 w=>aI F5 true (fun u=>sti (bin Q .sub 3 false true Z1 (ci 1)) (fun Z4=>sI 120 Y1 Z4 fun U5=>sL 31 U5 fun V5=>sI 120 Y1 U3 fun Y5=>sL 31 Y5 fun Z5=>sti (call Q 193 #[V5,Z5]) fun K6=>sti (un Q .not K6) fun T6=>u [Y1,Z1,Z4,U5,V5,Y1,U3,Y5,Z5,K6,T6]) w) (fun k=>k [uu,uu,uu,uu,uu,uu,uu,uu,uu,uu,uu] w) fun d=>sti (pick F5 (gd d 10) cF) fun G7 w=>cond G7 (call Q 194 #[Y1,Z1,U2,U3] (fun G8=>B1 (ah Y1 G8 U2 V2 W2 X2 Y2 Z2 U3 V3 W3 X3 Y3 Z3 j4 U4 V4 W4 (gd d 0) (gd d 1) (gd d 2) (gd d 3) (gd d 4) (gd d 5) (gd d 6) (gd d 7) (gd d 8) (gd d 9) (gd d 10) (zV (zV (zV zf 13 [G8]) 73 [Z1,F5,F5]) 87 [G7,Y1,Z1,U2,U3,G8,G8]))) w) (call Q 195 #[Y1,Z1,U2,U3] (fun G9=>ext Q G9 0 fun H0=>ext Q G9 1 fun H1=>ae Q j B1 (fun i=>@Bool.rec (fun _=>KE) ((fun i=>@Bool.rec (fun _=>KE) ((fun _ _ _=>False) i) (rk f159 K) (Nat.beq i 0)) i) B1 (Nat.beq i 1)) (rk f159 K) (ah Y1 Z1 U2 V2 W2 X2 Y2 Z2 U3 V3 H0 H1 Y3 Z3 j4 U4 V4 W4 (gd d 0) (gd d 1) (gd d 2) (gd d 3) (gd d 4) (gd d 5) (gd d 6) (gd d 7) (gd d 8) (gd d 9) (gd d 10) (zV (zV (zV zf 73 [Z1,F5,F5]) 87 [G7]) 94 [G9,Y1,Z1,U2,U3,G9,H0,H1]))) w)) w.drew):ae Q (rep [1,1] j (cd f159 (b1 7295))) B1 (xx (xx xf (rk f159 K) 0) B1 1) (rk f159 K) (ah Y1 Z1 U2 V2 W2 X2 Y2 Z2 U3 V3 W3 X3 Y3 Z3 j4 U4 V4 W4 X4 Y4 Z4 U5 V5 W5 X5 Y5 Z5 K6 T6 zf) w:=Eq.mp (by kernel_rfl) h
theorem uz {B1:KE}(h:sti (bin Q .gtr 3 false true a1 (ci 0)) (fun F5 w=>aI F5 true (fun k76=>sti (bin Q .sub 3 false true a1 (ci 1)) (fun F8=>sI 120 aJ F8 fun F9=>sL 31 F9 fun G0=>sI 120 aJ cK fun G3=>sL 31 G3 fun G4=>sti (call Q 193 #[G0,G4]) fun G5=>sti (un Q .not G5) fun G6=>k76 [aJ,a1,F8,F9,G0,aJ,cK,G3,G4,G5,G6]) w) (fun k=>k [uu,uu,uu,uu,uu,uu,uu,uu,uu,uu,uu] w) fun us76=>sti (pick F5 (gd us76 10) cF) fun G7 w=>cond G7 (call Q 194 #[aJ,a1,b2,cK] (fun G8=>B1 (ah aJ G8 b2 bV a5 ba aR bL cK eM dV aF D4 E4 E9 F1 F2 F3 (gd us76 0) (gd us76 1) (gd us76 2) (gd us76 3) (gd us76 4) (gd us76 5) (gd us76 6) (gd us76 7) (gd us76 8) (gd us76 9) (gd us76 10) (zV (zV (zV zf 13 [G8]) 73 [a1,F5,F5]) 87 [G7,aJ,a1,b2,cK,G8,G8]))) w) (call Q 195 #[aJ,a1,b2,cK] (fun G9=>ext Q G9 0 fun H0=>ext Q G9 1 fun H1=>hU K B1 (ah aJ a1 b2 bV a5 ba aR bL cK eM H0 H1 D4 E4 E9 F1 F2 F3 (gd us76 0) (gd us76 1) (gd us76 2) (gd us76 3) (gd us76 4) (gd us76 5) (gd us76 6) (gd us76 7) (gd us76 8) (gd us76 9) (gd us76 10) (zV (zV (zV zf 73 [a1,F5,F5]) 87 [G7]) 94 [G9,aJ,a1,b2,cK,G9,H0,H1]))) w)) w.drew):dv K B1 (ah aJ a1 b2 bV a5 ba aR bL cK eM dV aF D4 E4 E9 F1 F2 F3 F6 F7 F8 F9 G0 G1 G2 G3 G4 G5 G6 zf) w:=by
 delta dv
 exact Eq.mp (congrArg (fun c=>ae Q c B1 (xx (xx xf (rk f159 K) 0) B1 1) (rk f159 K) (ah aJ a1 b2 bV a5 ba aR bL cK eM dV aF D4 E4 E9 F1 F2 F3 F6 F7 F8 F9 G0 G1 G2 G3 G4 G5 G6 zf) w) (by kernel_rfl:(rep [1,1] (cd f159 (b1 29183)) (cd f159 (b1 7295)))=(cd f159 (b1 7295)))) (uy B1 (cd f159 (b1 29183)) h)
theorem ul (B1:KE)(h:bin Q .sub 3 false false W3 Z1 (fun H2=>bin Q .sub 3 false false U2 W3 fun H3=>bin Q .quo 3 false true Z2 (ci 8) fun H4=>lS H2 H3 fun H5 w=>cond H5 (bin Q .geq 3 false false H2 H4 (fun H6=>call Q 159 #[Y1,Z1,W3,V2] fun H7=>nC W3 fun H8=>B1 (ah Y1 H8 U2 V2 W2 H6 X3 Z2 U3 V3 W3 X3 Y3 Z3 j4 U4 V4 W4 X4 Y4 Z4 U5 V5 W5 X5 Y5 Z5 K6 T6 (zV (zV zf 16 [H2,H3,H4]) 102 [X3,W3,Z1,H2,U2,W3,H3,Z2,H4,H2,H3,H5,H2,H4,H6,Y1,Z1,W3,V2,H7,W3,H8]))) w) (bin Q .geq 3 false false H3 H4 (fun H9=>nC W3 fun I0=>call Q 159 #[Y1,I0,U2,V2] fun I1=>B1 (ah Y1 Z1 W3 V2 W2 H9 X3 Z2 U3 V3 W3 X3 Y3 Z3 j4 U4 V4 W4 X4 Y4 Z4 U5 V5 W5 X5 Y5 Z5 K6 T6 (zV (zV (zV zf 16 [H2,H3,H4]) 102 [X3,W3,Z1,H2,U2,W3,H3,Z2,H4,H2,H3,H5]) 124 [H3,H4,H9,Y1,W3,I0,U2,V2,I1,W3]))) w)) w):ae Q (cd f159 (b1 29183)) B1 (xx (xx xf (rk f159 K) 0) B1 1) (rk f159 K) (ah Y1 Z1 U2 V2 W2 X2 Y2 Z2 U3 V3 W3 X3 Y3 Z3 j4 U4 V4 W4 X4 Y4 Z4 U5 V5 W5 X5 Y5 Z5 K6 T6 zf) w:=Eq.mp (by kernel_rfl) h
theorem um {B1:KE}(h:bin Q .sub 3 false false dV a1 (fun H2=>bin Q .sub 3 false false b2 dV fun H3=>bin Q .quo 3 false true bL (ci 8) fun H4=>lS H2 H3 fun H5 w=>cond H5 (bin Q .geq 3 false false H2 H4 (fun H6=>call Q 159 #[aJ,a1,dV,bV] fun H7=>nC dV fun H8=>B1 (ah aJ H8 b2 bV a5 H6 aF bL cK eM dV aF D4 E4 E9 F1 F2 F3 F6 F7 F8 F9 G0 G1 G2 G3 G4 G5 G6 (zV (zV zf 16 [H2,H3,H4]) 102 [aF,dV,a1,H2,b2,dV,H3,bL,H4,H2,H3,H5,H2,H4,H6,aJ,a1,dV,bV,H7,dV,H8]))) w) (bin Q .geq 3 false false H3 H4 (fun H9=>nC dV fun I0=>call Q 159 #[aJ,I0,b2,bV] fun I1=>B1 (ah aJ a1 dV bV a5 H9 aF bL cK eM dV aF D4 E4 E9 F1 F2 F3 F6 F7 F8 F9 G0 G1 G2 G3 G4 G5 G6 (zV (zV (zV zf 16 [H2,H3,H4]) 102 [aF,dV,a1,H2,b2,dV,H3,bL,H4,H2,H3,H5]) 124 [H3,H4,H9,aJ,dV,I0,b2,bV,I1,dV]))) w)) w):hU K B1 (ah aJ a1 b2 bV a5 ba aR bL cK eM dV aF D4 E4 E9 F1 F2 F3 F6 F7 F8 F9 G0 G1 G2 G3 G4 G5 G6 zf) w:=by
 delta hU
 exact Eq.mp (congrArg (fun c=>ae Q c B1 (xx (xx xf (rk f159 K) 0) B1 1) (rk f159 K) (ah aJ a1 b2 bV a5 ba aR bL cK eM dV aF D4 E4 E9 F1 F2 F3 F6 F7 F8 F9 G0 G1 G2 G3 G4 G5 G6 zf) w) (by kernel_rfl:(cd f159 (b1 29183))=(cd f159 (b1 29183)))) (ul B1 h)
end
attribute [irreducible] mA dt jQ du jR dv hJ hU
theorem Az (h:cond cF (conv Q 196 230 Y1 (fun A0=>call Q 132 #[A0] K) w) (call Q 133 #[Y1] K w)):Gives Q 91 #[Y1] w K:=by
 refine aB func91 (by kernel_rfl) ?_;exact mpK h
def dG (aJ a1 b2 i6 j7 C2 C3 C4 C5 C6 C7 C8 C9 D0 D1:Value)(zf:Nat→Value):List Value:=aJ::a1::b2::zT zf 3 3 (i6::j7::zT zf 8 12 (C2::C3::C4::C5::C6::C7::C8::C9::D0::D1::zT zf 30 19 ([])))
def ia (K:KV):KE:=ae Q (cd f187 [1,0]) (rk f187 K) (xx xf (rk f187 K) 0) (rk f187 K)
def cf (K:KV)(B1:KE):KE:=ae Q (cd f187 (b1 51)) B1 (xx xf (rk f187 K) 0) (rk f187 K)
def ib (K:KV)(B1:KE):KE:=ae Q (cd f187 (b1 402)) (cf K B1) (xx (xx (xx xf (rk f187 K) 0) (cf K B1) 1) (cf K B1) 2) (rk f187 K)
theorem nE (h:nC Z1 (fun A3=>ia K (dG Y1 Z1 U2 A3 uu uu uu uu uu uu uu uu uu uu uu (zV zu 8 [Z1,A3]))) w):Gives Q 187 #[Y1,Z1,U2] w K:=by
 refine aB func187 (by kernel_rfl) ?_;revert h;delta ia;exact mpF
theorem mU (Inv:vI 11)(μ:vM 11)(h0:Inv V2 X2 Y2 Z2 U3 V3 W3 X3 Y3 Z3 j4 w)(hs:∀(j u I J M O U X Z ad ag:Value) (dd:Nat→Value) (w:World) (m:Nat),Inv j u I J M O U X Z ad ag w→m=μ j u I J M O U X Z ad ag w →
  lS j U2 (fun A6 w=>cond A6 (ib K (fun d w2=>(Inv (gd d 6) (gd d 20) (gd d 21) (gd d 22) (gd d 23) (gd d 24) (gd d 25) (gd d 26) (gd d 27) (gd d 28) (gd d 29) w2)∧((μ (gd d 6) (gd d 20) (gd d 21) (gd d 22) (gd d 23) (gd d 24) (gd d 25) (gd d 26) (gd d 27) (gd d 28) (gd d 29) w2)<m)) (dG Y1 Z1 U2 j j u I J M O U X Z ad ag (zV (zV dd 10 [j,U2,A6]) 15 [j])) w) (K (Value.tuple #[]) w)) w):ia K (dG Y1 Z1 U2 V2 W2 X2 Y2 Z2 U3 V3 W3 X3 Y3 Z3 j4 zf) w:=by
 refine aL (cd f187 [1,0,0]) (zr [(6,2),(10,39)]) (by kernel_rfl) (vP [6,20,21,22,23,24,25,26,27,28,29] Inv) (vQ [6,20,21,22,23,24,25,26,27,28,29] μ) h0 ?_;intro e' w' hI;have h:=hs _ _ _ _ _ _ _ _ _ _ _ (zM zf (fun i=>gd e' i) (zr [(6,2),(10,39)])) w' _ hI rfl;revert h;delta ib cf;exact mpF
theorem rH (Inv:vI 11)(μ:vM 11)(h0:Inv W2 X2 Y2 Z2 U3 V3 W3 X3 Y3 Z3 j4 w)(hs:∀(j I J M O U X Z ad ag al:Value) (dd:Nat→Value) (w:World) (m:Nat),Inv j I J M O U X Z ad ag al w→m=μ j I J M O U X Z ad ag al w →
  sti (bin Q .gtr 3 false false j Z1) (fun C1 w=>aI C1 true (fun am=>sI 120 Y1 j (fun Z2=>sL 31 Z2 fun U3=>sti (bin Q .sub 3 false true j (ci 1)) fun X3=>sI 120 Y1 X3 fun Y3=>sL 31 Y3 fun Z3=>sti (call Q 193 #[U3,Z3]) fun j4=>am [Y1,j,Z2,U3,Y1,j,X3,Y3,Z3,j4]) w) (fun k=>k [uu,uu,uu,uu,uu,uu,uu,uu,uu,uu] w) fun d=>sti (pick C1 (gd d 9) cF) fun D2 w=>cond D2 (aG (fun S w=>hld (fun _=>True) (bin Q .sub 3 false true j (ci 1)) fun D5=>hld (fun _=>True) (bin Q .sub 3 false true j (ci 1)) fun D7=>hI S 120 Y1 D7 fun D8=>hL S 31 D8 fun D9=>hI S 120 Y1 j fun E0=>hL S 31 E0 fun E1=>hI S 120 Y1 j fun E2=>sto Q 31 E2 D9 (fun _=>aG fun S w=>hI S 120 Y1 D5 fun E3=>sto Q 31 E3 E1 (fun _=>bin Q .sub 3 false true j (ci 1) fun D3 w=>(Inv D3 (gd d 0) (gd d 1) (gd d 2) (gd d 3) (gd d 4) (gd d 5) (gd d 6) (gd d 7) (gd d 8) (gd d 9) w)∧((μ D3 (gd d 0) (gd d 1) (gd d 2) (gd d 3) (gd d 4) (gd d 5) (gd d 6) (gd d 7) (gd d 8) (gd d 9) w)<m)) w) w) w.drew) (cf K B1 (dG Y1 Z1 U2 V2 j (gd d 0) (gd d 1) (gd d 2) (gd d 3) (gd d 4) (gd d 5) (gd d 6) (gd d 7) (gd d 8) (gd d 9) (zV (zV dd 16 [j,Z1,C1,C1]) 30 [D2])) w)) w.drew):ib K B1 (dG Y1 Z1 U2 V2 W2 X2 Y2 Z2 U3 V3 W3 X3 Y3 Z3 j4 zf) w:=by
 refine aL (cd f187 (b1 804)) (zr [(7,1),(16,33)]) (by kernel_rfl) (vP [7,20,21,22,23,24,25,26,27,28,29] Inv) (vQ [7,20,21,22,23,24,25,26,27,28,29] μ) h0 ?_;intro e' w' hI;have h:=hs _ _ _ _ _ _ _ _ _ _ _ (zM zf (fun i=>gd e' i) (zr [(7,1),(16,33)])) w' _ hI rfl;revert h;generalize (cf K B1)=qc0;exact mpF
theorem mV (h:nC V2 (fun A7=>B1 (dG Y1 Z1 U2 A7 W2 X2 Y2 Z2 U3 V3 W3 X3 Y3 Z3 j4 (zV zf 13 [V2,A7]))) w):cf K B1 (dG Y1 Z1 U2 V2 W2 X2 Y2 Z2 U3 V3 W3 X3 Y3 Z3 j4 zf) w:=by
 delta cf;exact mpK h
attribute [irreducible] ia cf ib
theorem Ez (h:call Q 93 #[Y1] (fun A1 w=>aI A1 true (fun I=>call Q 93 #[Z1] (fun A3=>un Q .not A3 fun A4=>I [Z1,A3,A4]) w) (fun k=>k [uu,uu,uu] w) fun u=>pick A1 (gd u 2) cF fun A5 w=>aI A5 false (fun j=>bin Q .lss 31 false false Y1 Z1 (fun A8=>j [Y1,Z1,A8]) w) (fun k=>k [uu,uu,uu] w) fun d=>pick A5 cT (gd d 2) K) w):Gives Q 193 #[Y1,Z1] w K:=by
 refine aB func193 (by kernel_rfl) ?_;exact mpK h
theorem wn (h:bin Q .neq 31 false false Y1 Y1 K w):Gives Q 93 #[Y1] w K:=by
 refine aB func93 (by kernel_rfl) ?_;exact mpK h
def aQ (x0 n2 A0 A2 A7:Value)(zf:Nat→Value):List Value:=x0::zf 1::n2::zf 3::A0::zT zf 5 3 (A2::zT zf 9 5 (A7::zT zf 15 10 ([])))
def jq (K:KV):KE:=ae Q (cd f133 [1,1]) (rk f133 K) xf (rk f133 K)
def pO (K:KV):KE:=ae Q (cd f133 [1,0,1]) (jq K) xf (rk f133 K)
def jr (K:KV):KE:=ae Q (cd f133 [1,1,1]) (rk f133 K) xf (rk f133 K)
def pP (K:KV):KE:=ae Q (cd f133 [1,1,0,1]) (jr K) xf (rk f133 K)
def js (K:KV):KE:=ae Q (cd f133 [1,1,1,1]) (rk f133 K) xf (rk f133 K)
def pQ (K:KV):KE:=ae Q (cd f133 (b1 61)) (js K) xf (rk f133 K)
theorem Gr (d:Code)(h:bin Q .geq 31 false true Y1 (cu 4294967296) (fun U2=>ae Q d (ae Q (cd f133 [1,1]) (rk f133 K) (fun _ _ _=>False) (rk f133 K)) (fun _ _ _=>False) (rk f133 K) (aQ Y1 (ci 0) U2 uu uu (zV zu 3 [Y1]))) w):ae Q (rep [1,0,1] d (cd f133 [])) (rk f133 K) xf (rk f133 K) (aQ Y1 uu uu uu uu zu) w:=Eq.mp (by kernel_rfl) h
theorem xW {K:KV}{Y1:Value}{w:World}(h:bin Q .geq 31 false true Y1 (cu 4294967296) (fun U2=>pO K (aQ Y1 (ci 0) U2 uu uu (zV zu 3 [Y1]))) w):Gives Q 133 #[Y1] w K:=aB func133 (by kernel_rfl) (Eq.mp (congrArg (fun c=>ae Q c (rk f133 K) xf (rk f133 K) (aQ Y1 uu uu uu uu zu) w) (by kernel_rfl:(rep [1,0,1] (cd f133 [1,0,1]) (cd f133 []))=(cd f133 []))) (Gr (cd f133 [1,0,1]) h))
theorem DA (d:KE)(h:cond U2 (bin Q .shr 31 false true Y1 (cu 32) (fun A1=>d (aQ A1 (ci 32) U2 V2 W2 (zV zf 5 [Y1,A1]))) w) (d (aQ Y1 Z1 U2 V2 W2 zf) w)):ae Q (cd f133 [1,0,1]) d xf (rk f133 K) (aQ Y1 Z1 U2 V2 W2 zf) w:=Eq.mp (by kernel_rfl) h
theorem vr (h:cond U2 (bin Q .shr 31 false true Y1 (cu 32) (fun A1=>jq K (aQ A1 (ci 32) U2 V2 W2 (zV zf 5 [Y1,A1]))) w) (jq K (aQ Y1 Z1 U2 V2 W2 zf) w)):pO K (aQ Y1 Z1 U2 V2 W2 zf) w:=by
 delta pO
 exact Eq.mp (congrArg (fun c=>ae Q c (jq K) xf (rk f133 K) (aQ Y1 Z1 U2 V2 W2 zf) w) (by kernel_rfl:(cd f133 [1,0,1])=(cd f133 [1,0,1]))) (DA (jq K) h)
theorem DD (d:Code)(h:bin Q .geq 31 false true Y1 (cu 65536) (fun V2=>ae Q d (ae Q (cd f133 [1,1,1]) (rk f133 K) (fun _ _ _=>False) (rk f133 K)) (fun _ _ _=>False) (rk f133 K) (aQ Y1 Z1 U2 V2 W2 (zV zf 7 [Y1]))) w):ae Q (rep [0,1] d (cd f133 [1,1])) (rk f133 K) xf (rk f133 K) (aQ Y1 Z1 U2 V2 W2 zf) w:=Eq.mp (by kernel_rfl) h
theorem vw (h:bin Q .geq 31 false true Y1 (cu 65536) (fun V2=>pP K (aQ Y1 Z1 U2 V2 W2 (zV zf 7 [Y1]))) w):jq K (aQ Y1 Z1 U2 V2 W2 zf) w:=by
 delta jq
 exact Eq.mp (congrArg (fun c=>ae Q c (rk f133 K) xf (rk f133 K) (aQ Y1 Z1 U2 V2 W2 zf) w) (by kernel_rfl:(rep [0,1] (cd f133 [1,1,0,1]) (cd f133 [1,1]))=(cd f133 [1,1]))) (DD (cd f133 [1,1,0,1]) h)
theorem DB (d:KE)(h:cond V2 (bin Q .shr 31 false true Y1 (cu 16) (fun A4=>bin Q .add 3 false true Z1 (ci 16) fun A6=>d (aQ A4 A6 U2 V2 W2 (zV zf 9 [Y1,A4,Z1,A6]))) w) (d (aQ Y1 Z1 U2 V2 W2 zf) w)):ae Q (cd f133 [1,1,0,1]) d xf (rk f133 K) (aQ Y1 Z1 U2 V2 W2 zf) w:=Eq.mp (by kernel_rfl) h
theorem vt (h:cond V2 (bin Q .shr 31 false true Y1 (cu 16) (fun A4=>bin Q .add 3 false true Z1 (ci 16) fun A6=>jr K (aQ A4 A6 U2 V2 W2 (zV zf 9 [Y1,A4,Z1,A6]))) w) (jr K (aQ Y1 Z1 U2 V2 W2 zf) w)):pP K (aQ Y1 Z1 U2 V2 W2 zf) w:=by
 delta pP
 exact Eq.mp (congrArg (fun c=>ae Q c (jr K) xf (rk f133 K) (aQ Y1 Z1 U2 V2 W2 zf) w) (by kernel_rfl:(cd f133 [1,1,0,1])=(cd f133 [1,1,0,1]))) (DB (jr K) h)
theorem DE (d:Code)(h:bin Q .geq 31 false true Y1 (cu 256) (fun W2=>ae Q d (ae Q (cd f133 [1,1,1,1]) (rk f133 K) (fun _ _ _=>False) (rk f133 K)) (fun _ _ _=>False) (rk f133 K) (aQ Y1 Z1 U2 V2 W2 (zV zf 13 [Y1]))) w):ae Q (rep [0,1] d (cd f133 [1,1,1])) (rk f133 K) xf (rk f133 K) (aQ Y1 Z1 U2 V2 W2 zf) w:=Eq.mp (by kernel_rfl) h
theorem vx (h:bin Q .geq 31 false true Y1 (cu 256) (fun W2=>pQ K (aQ Y1 Z1 U2 V2 W2 (zV zf 13 [Y1]))) w):jr K (aQ Y1 Z1 U2 V2 W2 zf) w:=by
 delta jr
 exact Eq.mp (congrArg (fun c=>ae Q c (rk f133 K) xf (rk f133 K) (aQ Y1 Z1 U2 V2 W2 zf) w) (by kernel_rfl:(rep [0,1] (cd f133 (b1 61)) (cd f133 [1,1,1]))=(cd f133 [1,1,1]))) (DE (cd f133 (b1 61)) h)
theorem DC (d:KE)(h:cond W2 (bin Q .shr 31 false true Y1 (cu 8) (fun A9=>bin Q .add 3 false true Z1 (ci 8) fun C1=>d (aQ A9 C1 U2 V2 W2 (zV zf 15 [Y1,A9,Z1,C1]))) w) (d (aQ Y1 Z1 U2 V2 W2 zf) w)):ae Q (cd f133 (b1 61)) d xf (rk f133 K) (aQ Y1 Z1 U2 V2 W2 zf) w:=Eq.mp (by kernel_rfl) h
theorem vu (h:cond W2 (bin Q .shr 31 false true Y1 (cu 8) (fun A9=>bin Q .add 3 false true Z1 (ci 8) fun C1=>js K (aQ A9 C1 U2 V2 W2 (zV zf 15 [Y1,A9,Z1,C1]))) w) (js K (aQ Y1 Z1 U2 V2 W2 zf) w)):pQ K (aQ Y1 Z1 U2 V2 W2 zf) w:=by
 delta pQ
 exact Eq.mp (congrArg (fun c=>ae Q c (js K) xf (rk f133 K) (aQ Y1 Z1 U2 V2 W2 zf) w) (by kernel_rfl:(cd f133 (b1 61))=(cd f133 (b1 61)))) (DC (js K) h)
theorem DF (h:conv Q 31 5 Y1 (fun C3=>idx Q 9 (Value.string (sq [0,1,2,2,3,3,3,3,4,4,4,4,4,4,4,4,5,5,5,5,5,5,5,5,5,5,5,5,5,5,5,5,6,6,6,6,6,6,6,6,6,6,6,6,6,6,6,6,6,6,6,6,6,6,6,6,6,6,6,6,6,6,6,6,7,7,7,7,7,7,7,7,7,7,7,7,7,7,7,7,7,7,7,7,7,7,7,7,7,7,7,7,7,7,7,7,7,7,7,7,7,7,7,7,7,7,7,7,7,7,7,7,7,7,7,7,7,7,7,7,7,7,7,7,7,7,7,7,8,8,8,8,8,8,8,8,8,8,8,8,8,8,8,8,8,8,8,8,8,8,8,8,8,8,8,8,8,8,8,8,8,8,8,8,8,8,8,8,8,8,8,8,8,8,8,8,8,8,8,8,8,8,8,8,8,8,8,8,8,8,8,8,8,8,8,8,8,8,8,8,8,8,8,8,8,8,8,8,8,8,8,8,8,8,8,8,8,8,8,8,8,8,8,8,8,8,8,8,8,8,8,8,8,8,8,8,8,8,8,8,8,8,8,8,8,8,8,8,8,8,8,8,8,8,8,8])) C3 fun C4=>conv Q 5 3 C4 fun C5=>bin Q .add 3 false false Z1 C5 K) w):ae Q (cd f133 [1,1,1,1]) (rk f133 K) xf (rk f133 K) (aQ Y1 Z1 U2 V2 W2 zf) w:=Eq.mp (by kernel_rfl) h
theorem vy (h:conv Q 31 5 Y1 (fun C3=>idx Q 9 (Value.string (sq [0,1,2,2,3,3,3,3,4,4,4,4,4,4,4,4,5,5,5,5,5,5,5,5,5,5,5,5,5,5,5,5,6,6,6,6,6,6,6,6,6,6,6,6,6,6,6,6,6,6,6,6,6,6,6,6,6,6,6,6,6,6,6,6,7,7,7,7,7,7,7,7,7,7,7,7,7,7,7,7,7,7,7,7,7,7,7,7,7,7,7,7,7,7,7,7,7,7,7,7,7,7,7,7,7,7,7,7,7,7,7,7,7,7,7,7,7,7,7,7,7,7,7,7,7,7,7,7,8,8,8,8,8,8,8,8,8,8,8,8,8,8,8,8,8,8,8,8,8,8,8,8,8,8,8,8,8,8,8,8,8,8,8,8,8,8,8,8,8,8,8,8,8,8,8,8,8,8,8,8,8,8,8,8,8,8,8,8,8,8,8,8,8,8,8,8,8,8,8,8,8,8,8,8,8,8,8,8,8,8,8,8,8,8,8,8,8,8,8,8,8,8,8,8,8,8,8,8,8,8,8,8,8,8,8,8,8,8,8,8,8,8,8,8,8,8,8,8,8,8,8,8,8,8,8,8])) C3 fun C4=>conv Q 5 3 C4 fun C5=>bin Q .add 3 false false Z1 C5 K) w):js K (aQ Y1 Z1 U2 V2 W2 zf) w:=by
 delta js
 exact Eq.mp (congrArg (fun c=>ae Q c (rk f133 K) xf (rk f133 K) (aQ Y1 Z1 U2 V2 W2 zf) w) (by kernel_rfl:(cd f133 [1,1,1,1])=(cd f133 [1,1,1,1]))) (DF h)
attribute [irreducible] jq pO jr pP js pQ
end
section
/-! ## May rights be, and what a region may still take -/
theorem K9 {l:List Int}(h:(mB l).2=true):l.all okA=true∧mB l=(l.sum,true):=by
 unfold mB at *;cases d:l.all okA with
 | true=>exact⟨rfl,rfl⟩
 | false=>rw[d]at h;cases h
theorem JZ {l:List Int}(h:l.all okA=true):mB l=(l.sum,true):=by unfold mB;rw[h]
theorem MM {l:List Int}:(mB l).2=true↔l.all okA=true:=⟨fun h=>(K9 h).1,fun h=>by rw[JZ h]⟩
theorem r6 {p:Nat→Prop}:(∀k∈List.range 6,p k)↔p 0∧p 1∧p 2∧p 3∧p 4∧p 5:=by
 constructor
 ·intro h;exact⟨h 0 (by simp),h 1 (by simp),h 2 (by simp),h 3 (by simp),h 4 (by simp),h 5 (by simp)⟩
 ·rintro⟨d,j,u,I,J,M⟩ k O
  have:k<6:=by simpa using O
  match k,this with
  | 0,_=>exact d
  | 1,_=>exact j
  | 2,_=>exact u
  | 3,_=>exact I
  | 4,_=>exact J
  | 5,_=>exact M
theorem NK :(pk A k).2=true↔okA (nA A k)=true∧okA (nA A (6+k))=true∧okA (nA A (12+k))=true∧(∀j∈List.range 6,okA (nA A (18+6*k+j))=true)∧∀j∈List.range 6,okA (nA A (18+6*j+k))=true:=by
 unfold pk;simp only[Bool.and_eq_true,MM,re,inL,List.all_cons,List.all_map,List.all_eq_true,Function.comp];constructor
 ·rintro⟨⟨d,h⟩,u,I,J⟩;exact⟨u,d,I,h,J⟩
 ·rintro⟨u,d,I,h,J⟩;exact⟨⟨d,h⟩,u,I,J⟩
theorem Hv (h:(pk A k).2=true):(pk A k).1=gS A k:=by
 have d:=h;unfold pk at d;simp only[Bool.and_eq_true]at d;obtain⟨j,u⟩:=d;unfold pk;simp only;rw[(K9 j).2,(K9 u).2];simp only[re,inL,gS,List.range,List.range.loop,List.map_cons,List.map_nil,List.sum_cons,List.sum_nil];omega
theorem PT (A:List Int):yD A=jj A:=by
 have I:yD A=true↔jj A=true:=by
  unfold yD jj;simp only[Bool.and_eq_true,List.all_eq_true,decide_eq_true_eq,uU,MM];constructor
  ·rintro⟨h,J,M⟩;have hL:∀k∈List.range 6,gS A k=(pk A k).1:=fun k d=>(Hv (h k d).1.1.1).symm;refine⟨⟨fun k d=>?_,fun k d=>?_⟩,?_⟩
   ·obtain⟨⟨⟨a1,a2⟩,U⟩,X⟩:=h k d;obtain⟨b1,b2,Z,b4,b5⟩:=NK.1 a1;exact⟨⟨⟨⟨⟨b1,b2⟩,Z⟩,U⟩,X⟩,b4⟩
   ·rw[hL k d];exact(h k d).1.1.2
   ·rw[JZ (by simpa only[List.all_eq_true]using J)]at M;exact M
  ·rintro⟨⟨h,hl⟩,M⟩;have u:∀k∈List.range 6,(pk A k).2=true:=fun k d=>NK.2 ⟨(h k d).1.1.1.1.1,(h k d).1.1.1.1.2,(h k d).1.1.1.2,(h k d).2,fun j hj=>(h j hj).2 k d⟩;have J:(gL A).all okA=true:=by
    simp only[gL,List.all_map,List.all_eq_true,Function.comp];exact fun k d=>(h k d).1.1.1.1.1
   refine⟨fun k d=>⟨⟨⟨u k d,?_⟩,(h k d).1.1.2⟩,(h k d).1.2⟩,List.all_eq_true.1 J,?_⟩
   ·rw[Hv (u k d)];exact hl k d
   ·rw[JZ J];exact M
 cases O:yD A with
 | true=>rw[I.1 O]
 | false =>
  cases h2:jj A with
  | false=>rfl
  | true=>rw[I.2 h2]at O;cases O
def JA (A:List Int)(k:Nat):Int:=match yD A with|true=>(pk A k).1|false=>0
theorem Rn (A:List Int)(d:k<6):JA A k=match jj A with|true=>gS A k|false=>0:=by
 unfold JA;rw[←PT];cases h:yD A with
 | false=>rfl
 | true =>
  unfold yD at h;simp only[Bool.and_eq_true,List.all_eq_true,decide_eq_true_eq]at h;exact Hv (h.1 k (by simpa using d)).1.1.1
/-! ## Live regions, what they have, their shares -/
def shr (all:Int)(c k:Nat):Int:=all / (c:Int)+if (k:Int)<all%(c:Int)then 1 else 0
/-! ## Moves -/
def UO (p:Nat→Bool)(n:Nat):Nat→Nat
 | 0=>n
 | f+1=>if p (n-(f+1))then n-(f+1)else UO p n f
def fs (p:Nat→Bool)(n i:Nat):Nat:=UO p n (n-i)
end
end Go.Proofs.YtkbhfjljieopoaaGreatDoor
