import Derived.Test.YtgpfkmdknlcemaaGreatDoorQ3
import Derived.Test.YtgpfkmdknlcemaaGreatDoorQ1
namespace Go.Proofs.YtgpfkmdknlcemaaGreatDoor
set_option maxRecDepth 100000
set_option maxHeartbeats 4000000
open Tryz
section
attribute [local irreducible] bin un conv call dC blt slc ai fld aU idx lkp eX jl eSt rng nxt ent ext alc box bld dl ld sto bo eS mkS ifc pick rdy wts aJ sti cond bM Gives ae fU gX cOp
section
open Go.RowKit Go.ChangeMaps
abbrev pB (b:Nat):Value:=.pointer (some ⟨b,0,none⟩)
theorem u6K :CT Tryz.prog 24 u6:=QD underlying24
theorem u6z :∀w,(zeroValue 24).run Tryz.prog w=.ok (u6 0) w:=fun w=>by kernel_rfl
theorem mn {κ ν:Type}[DecidableEq κ]{m L:List (κ×ν)}(h:m.Perm L)(C:(L.map (·.1)).Nodup)(x:κ):gA m x=gA L x:=by
 have u:(m.map (·.1)).Nodup:=(h.map _).nodup_iff.2 C;cases d:gA L x with
 | none =>
  rw[vQ]at d ⊢;exact fun j=>d ((h.map _).mem_iff.1 j)
 | some v=>exact pf u (h.mem_iff.2 (Ff d))
structure TreeM (w:World) (t tp:Nat) (T:List (Int×Int)):Prop where
 bt:blk w t 119 [.map (some tp)]
 mp:∃m,MB u6 u6 w tp m∧m.Perm T
 uq:(T.map (·.1)).Nodup
section
variable {w w':World}{t tp:Nat}{T:List (Int×Int)}
theorem TreeM.below (h:TreeM w t tp T)(d:Below w.heap.size w w'):TreeM w' t tp T :=
 ⟨af d h.bt h.bt.lt,let ⟨m,j,u⟩:=h.mp;⟨m,j.below d,u⟩,h.uq⟩
theorem TreeM.lt (h:TreeM w t tp T):t<w.heap.size∧tp<w.heap.size:=⟨h.bt.lt,let ⟨_,d,_⟩:=h.mp;d.lt⟩
theorem TreeM.ne (h:TreeM w t tp T):t≠tp:=by
 obtain⟨m,⟨es,c,d⟩,_⟩:=h.mp;rintro rfl
 have:=h.bt
 unfold blk at this;rw[d.heap]at this;cases this
theorem TreeM.oth {b:Nat}(h:TreeM w t tp T)(d:Oth b w w')(j:t≠b)(I:tp≠b):TreeM w' t tp T :=
 ⟨d.blk h.bt j,let ⟨m,u,C⟩:=h.mp;⟨m,u.oth d I,C⟩,h.uq⟩
theorem Az {T:List (Int×Int)}(u:(T.map (·.1)).Nodup)(id:Int):gA T id=match cf T id with|true=>some (ew T id)|false=>none:=by
 cases d:cf T id with
 | true=>exact pf u (mN d)
 | false =>
  refine vQ.2 fun j=>?_;obtain⟨p,h,e⟩:=List.mem_map.1 j;rw[je.2 ⟨p,h,e⟩]at d;cases d
end
theorem vj {w:World}{K:KV}{b o:Nat}(h:K (.pointer (some ⟨b,o+0,none⟩)) w):ai Tryz.prog 119 (.pointer (some ⟨b,o,none⟩)) 0 K w:=aM (by kernel_rfl) h
section
variable {w:World}{K:KV}{t tp:Nat}{T:List (Int×Int)}{id:Int}
theorem HC {cx cy:Bool}{b:Nat}(h:K (.bool false) w):bin Tryz.prog .eql 84 cx cy (pB b) (.pointer none) K w :=
 lW (by unfold eqG eqGuard;rfl) (by kernel_rfl) h
theorem Ou (h:∀w' t tp,TreeM w' t tp []→Below w.heap.size w w'→w.heap.size≤t→w.heap.size≤tp→K (pB t) w'):call Tryz.prog 23 #[] K w:=by
 refine aB (goK func23) (LD ?_);refine vl underlying86 rfl u6 u6 fun C u b1 s1=>?_;refine fS (vs:=[.map (some w.heap.size)]) (by kernel_rfl) ?_;refine dc fun j d b2 s2=>?_;have d:blk j C.heap.size 119 [.map (some w.heap.size)]:=by simpa[Value.cells]using d
 exact h j _ _ ⟨d,⟨[],u.below b2,.refl _⟩,by simp⟩ (b1.trans (b2.mono (by omega))) (by omega) (Nat.le_refl _)
theorem Gr (h:TreeM w t tp T)(d:K (.bool (cf T id)) w):call Tryz.prog 152 #[pB t,u6 id] K w:=by
 obtain⟨m,u,j⟩:=h.mp;refine aB (goK func152) (Fg (HC (bw (aw (vj (lK (v:=.map (some tp)) h.bt rfl (QF (z0:=0) u6K underlying86 u6z u ?_)))))));have e:(gA m id).isSome=cf T id:=by
  rw[mn j h.uq,Az h.uq];cases cf T id<;>rfl
 rw[e];exact eB (eC d)
theorem Ub (h:TreeM w t tp T)(hh:cf T id=true)(d:K (u6 (ew T id)) w):lkp Tryz.prog 86 (.map (some tp)) (u6 id) false K w:=by
 obtain⟨m,u,j⟩:=h.mp;refine Nl (z0:=0) u6K underlying86 u6z u ?_;rw[mn j h.uq,Az h.uq,hh];exact d
theorem ST {rk:Int→Nat}(j:TK T rk){x:Int}(hh:cf T x=true):upT T rk (ew T x)<upT T rk x:=by
 have u:upT T rk x=rk x+1:=by unfold upT;rw[hh]
 have I:=mN hh;rw[u];unfold upT;cases h:cf T (ew T x)with
 | false=>show 0<rk x+1;omega
 | true =>
  rcases j.up _ I with h0|⟨y,J,e,d⟩
  ·exfalso;obtain⟨z,C,e⟩:=je.1 h;exact j.nz z C (e.trans h0)
  ·have e:y.1=ew T x:=e;rw[←e]
   have:rk y.1<rk x:=d
   show rk y.1+1<rk x+1;omega
theorem xGn {v:Value}{d:Bool}{s:KV→World→Prop}{K:KV}{w:World}(j:asB v≠some d)(h:K undef w):xG v d s K w:=⟨fun hh=>absurd hh j,fun _=>h⟩
def c0 (w:World)(b:Nat):Int:=match w.cell? ⟨b,0,none⟩with|some v=>intOf v|none=>0
theorem Va {Y:YB}{l b1 b2:Nat}{rk:Int→Nat}(hY:vG Y)(hk:TK T rk)(Inv:Nat→World→Prop)(u:World→Prop)(h0:Inv 0 w)(hm:∀j w,Inv j w→TreeM w t tp T∧blk w b1 84 [pB t])(hi:∀j w w',Inv j w→Oth b2 w.drew w'→Inv j w')(I:blk w b2 24 [u6 id])(hy:∀j x w K,(df T id)[j]? = some x→Inv j w→blk w b2 24 [u6 x]→(∀w',Inv (j+1) w'→blk w' b2 24 [u6 x]→K (.bool true) w')→(∀w',u w'→K (.bool false) w')→Y [u6 x] K w)(he:∀w',Inv (df T id).length w'→K (.tuple #[]) w')(hs:∀w',u w'→K (.tuple #[]) w'):vS Tryz.prog Y l 192 [.func (.yield l) #[] #[],pB b1,pB b2] w K:=by
 refine Eu (Cy hY (Inv:=fun _ _ _ w=>∃j x f,Inv j w∧blk w b2 24 [u6 x]∧(df T id).drop j=cw T f x∧j≤(df T id).length∧upT T rk x≤f) (μ:=fun _ _ _ w=>upT T rk (c0 w b2))
  ⟨0,id,T.length+1,h0,I,by rw[List.drop_zero];rfl,Nat.zero_le _,by have:=yf hk id;omega⟩ ?_)
 rintro _ _ _ dd w m ⟨j,x,f,hI,I,J,hj,hu⟩ ad;obtain⟨ht,h1⟩:=hm j w hI;have al:c0 w b2=x:=by unfold c0;rw[I.cell];rfl
 refine lK (v:=pB t) h1 rfl (lK (v:=u6 x) I rfl (Gr ht ?_));cases U:cf T x with
 | false =>
  refine xGn (by decide) (xGn (by decide) (xGn (by decide) (fm (bw ?_))));refine he w ?_
  have:cw T f x=[]:=by cases f<;>simp[cw,U]
  rw[this,List.drop_eq_nil_iff]at J
  have:j=(df T id).length:=by omega
  rw[←this];exact hI
 | true =>
  have ag:=ST hk U;obtain⟨f',rfl⟩:∃f',f=f'+1:=⟨f-1,by omega⟩
  have hp:cw T (f'+1) x=x::cw T f' (ew T x):=by simp[cw,U]
  rw[hp]at J;have ap:j<(df T id).length:=by
   rcases Nat.lt_or_ge j (df T id).length with h|h
   ·exact h
   ·rw[List.drop_eq_nil_of_le h]at J;cases J
  have hx:(df T id)[j]? = some x:=by
   have:=congrArg List.head? J
   rw[List.head?_drop]at this;exact this
  have V:(df T id).drop (j+1)=cw T f' (ew T x):=by
   have:=congrArg List.tail J
   rw[List.tail_drop]at this;exact this
  refine Fe rfl (Fe rfl (lK (v:=u6 x) I rfl (Fe rfl (.inl ⟨rfl,hy j x w _ hx hI I (fun w' M am => db (bu ?_)) (fun w' Z => db (bw (hs w' Z)))⟩))));obtain⟨C,an⟩:=hm _ _ M;have R:=am.drew;have d:TreeM w'.drew t tp T:=⟨C.bt,let ⟨m,a,b⟩:=C.mp;⟨m,a.kept rfl,b⟩,C.uq⟩
  refine aa (fun _=>lK (v:=pB t) an.drew rfl) (aa (fun _=>aw) (aa (fun _=>vj) (aa (fun _=>lK (v:=.map (some tp)) d.bt rfl) (aa (fun _=>lK (v:=u6 x) R rfl) (aa (fun _=>Ub d U) ?_)))));refine dY (fun _=>by kernel_rfl) R (by show 0<1;decide) rfl fun w2 h2 o2=>?_;refine⟨⟨j+1,ew T x,f',hi _ _ _ M o2,h2,V,by omega,by omega⟩,?_⟩;have X:c0 w2 b2=ew T x:=by unfold c0;rw[h2.cell];rfl
  rw[ad,al,X];exact ag
theorem Vb (h:∀w',blk w' w.heap.size 84 [pB t]→blk w' (w.heap.size+1) 24 [u6 id]→Below w.heap.size w w'→w'.heap.size=w.heap.size+2→K (.func (.func 192) #[] #[pB w.heap.size,pB (w.heap.size+1)]) w'):call Tryz.prog 189 #[pB t,u6 id] K w:=by
 refine aB (goK func189) (GB ?_);refine dc fun C j b1 s1=>dc fun u d b2 s2=>?_;rw[s1]at d ⊢;exact h u (af b2 (by simpa[Value.cells]using j) (by omega)) (by simpa[Value.cells,u6]using d) (b1.trans (b2.mono (by omega))) (by omega)
end
end
end
section
open Go.RowKit Go.ChangeMaps
theorem Gs {P:Program}{l D:Nat}{j:FuncId}{e:Env}{ps:Array Tmp}{a bd:Code}:vG (JE P l D j e ps a bd):=fun _ _ _ _ d ⟨U,I,C,R,M⟩ =>
 ⟨U,I,C,R,vK a M (fun _ _ _ ⟨J,u⟩=>⟨J,vK bd u (fun _ _ _ ⟨x,y⟩=>⟨x,d _ _ y⟩) (fun _ _ _ _ ⟨x,y⟩=>⟨x,d _ _ y⟩) (fun _ _ _ ⟨x,y⟩=>⟨x,d _ _ y⟩)⟩) (fun _ _ _ _ h=>h) (fun _ _ _ h=>h)⟩
theorem oth_put {w:World}{l:Nat}{o:Obj}:Oth l w (w.putObj l o):=⟨rfl,rfl,rfl,World.putObj_size,fun k d=>World.putObj_heap_other (fun e=>d (by rw[e]))⟩
theorem QA {w:World}{B s n c l:Nat}{E:TypeId}{a:Option Addr}{xs:List Value}{r:Loop}{o:Obj}(h:w.ownsRow B E s (.slice a n c) n xs)(u:w.heap[l]? = some (.loop r)):(w.putObj l o).ownsRow B E s (.slice a n c) n xs :=
 di h fun k j=>by
  rcases h.2 with⟨d,_⟩|⟨g,cap,C,d,I,hh,_⟩
  ·cases d;cases j
  ·cases d;have e:k=g:=by simpa[Value.ownBlock]using j.symm
   subst e;refine World.putObj_heap_other fun e=>?_;subst e;rw[hh]at u;cases u
theorem Kd {T:List (Int×Int)}:∀(f:Nat) (id:Int),(cw T f id).length≤f
 | 0,_=>Nat.le_refl _
 | f+1,id=>by
  unfold cw;split
  ·have:=Kd (T:=T) f (ew T id);simp;omega
  ·simp
theorem CO {P:Program}{t:TypeId}{j:Addr}{v:Value}{K:KV}{w:World}(C:∀K':KV,K' v w→ld P t (.pointer (some j)) K' w)(h:K v w):bM P [(some t,.pointer (some j))] K w:=by
 have u:(loadVar t j).run P w=.ok v w:=by
  have:=C (fun v' w' => v'=v∧w'=w) ⟨rfl,rfl⟩
  unfold ld okV at this;unfold Instr.loadAt at this;simp only[Instr.sureAddr,Sem.run_bind,Sem.run_pure,Result.andThen_ok]at this;split at this
  ·rename_i v' w' d;rw[d,this.1,this.2]
  ·exact this.elim
 unfold bM
 have:(ks [(some t,.pointer (some j))]).run P w=.ok v w:=by simp[ks,asAddr,Sem.run_bind,u]
 rw[this];exact⟨rfl,h⟩
theorem TreeM.drew {w:World}{t tp:Nat}{T:List (Int×Int)}(h:TreeM w t tp T):TreeM w.drew t tp T:=⟨h.bt,let ⟨m,a,b⟩:=h.mp;⟨m,a.kept rfl,b⟩,h.uq⟩
theorem CQ {w w':World}{B s n k:Nat}{e:TypeId}{v:Value}{xs:List Value}{o:Obj}(h:w.ownsRow B e s v n xs)(I:w.grownBy w' v.ownBlock)(u:w.heap[k]? = some o)(C:∀cs z,o≠.cells cs e z):w'.heap[k]? = some o:=by
 have d:k<w.heap.size:=(Array.getElem?_eq_some_iff.1 u).1;rw[I.block k d fun e'=>?_];exact u;obtain⟨⟨J,j⟩,_⟩:=AD h e'.symm;unfold blk at j;rw[u]at j;exact C _ _ (Option.some.inj j)
theorem TreeM.grow {w w':World}{t tp B s n:Nat}{T:List (Int×Int)}{e:TypeId}{v:Value}{xs:List Value}(d:TreeM w t tp T)(h:w.ownsRow B e s v n xs)(u:w.grownBy w' v.ownBlock)(C:119≠e):TreeM w' t tp T :=
 ⟨eT d.bt h C u,let ⟨m,⟨es,c,j⟩,I⟩:=d.mp;⟨m,MB.kept ⟨es,c,j⟩ (by rw[j.heap];exact CQ h u j.heap (fun _ _ e=>by cases e)),I⟩,d.uq⟩
attribute [local irreducible] bin un conv call dC blt slc ai fld aU idx lkp eX jl eSt rng nxt ent ext alc box bld dl ld sto bo eS mkS ifc pick rdy wts aJ sti cond bM Gives ae fU gX cOp
section
variable {w:World}{K:KV}{t tp:Nat}{T:List (Int×Int)}{id:Int}
theorem HD {rk:Int→Nat}(hk:TK T rk)(ht:TreeM w t tp T)(hn:T.length≤1000)(h:∀w' a c,w'.ownsRow w.heap.size 24 1 (.slice a (df T id).length c) (df T id).length ((df T id).map u6)→Below w.heap.size w w'→K (.slice a (df T id).length c) w'):call Tryz.prog 177 #[pB t,u6 id] K w:=by
 refine aB (goK func177) (Ev (dH (z:=.slice none 0 0) (by kernel_rfl) fun w1 h1 b1 s1=>Vb fun w2 h2 h3 b2 s2=>?_));have h1:blk w1 w.heap.size 76 [.slice none 0 0]:=by simpa[Value.cells]using h1
 refine OE (g:=.tmp 8) (ps:=#[9]) (a:=cd oJ []) (bd:=cd oK []) (gf:=192) (cap:=[pB w1.heap.size,pB (w1.heap.size+1)]) (by kernel_rfl) rfl ?_;intro fn W bW sW hD hL;have az:=ht.lt;have aS:(df T id).length≤T.length+1:=Kd _ _;generalize hz:w.heap.size=z at *;rw[s1]at h2 h3 s2 ⊢;have ez:w2.heap.size=z+3:=by omega
 rw[ez]at bW sW hD hL ⊢;rw[s1]at hL;have tW:TreeM W t tp T:=((ht.below (by rw[hz];exact b1)).below (b2.mono (by omega))).below (bW.mono (by omega));have B0:Below z w W:=b1.trans ((b2.mono (by omega)).trans (bW.mono (by omega)))
 refine Va Gs hk (fun j v=>(TreeM v t tp T∧blk v (z+1) 84 [pB t])∧(∃a c,blk v z 76 [.slice a j c]∧v.ownsRow z 24 1 (.slice a j c) j (((df T id).take j).flatMap uC)∧((Value.slice a j c).ownBlock≠some (z+2))) ∧
   v.heap[z+4]? = some (.loop (mE fn _ #[9] (cd oJ []) (cd oK []) (z+3) .ready none))∧v.heap[z+3]? = some (.deferred (some []))∧Below z w v∧z+5≤v.heap.size) (fun _=>False)
  ⟨⟨tW,af bW h2 (by omega)⟩,⟨none,0,af bW (af (b2.mono (show z+1≤w1.heap.size by omega)) h1 (by omega)) (by omega),World.ownsRow_nil _ _ _ _,by simp[Value.ownBlock]⟩,hL,hD,B0,by omega⟩ (fun j v hv=>hv.1) ?_ (af bW h3 (by omega)) ?_ ?_ ?_
 ·rintro j v v' ⟨⟨a1,a2⟩,⟨a,c,g1,g2,g3⟩,M,g5,g6,g7⟩ o;refine⟨⟨a1.drew.oth o (by omega) (by omega),o.blk a2.drew (by omega)⟩,⟨a,c,o.blk g1.drew (by omega),di g2 fun k hk=>o.other k (fun e=>g3 (by rw[hk,e])),g3⟩,(o.other _ (by omega)).trans M,(o.other _ (by omega)).trans g5,bA g6.drew o (by omega),by rw[o.size];exact g7⟩
 ·rintro j x v K' hx ⟨⟨a1,a2⟩,⟨a,c,g1,g2,g3⟩,M,g5,g6,g7⟩ hb kT kF;refine⟨by kernel_rfl,by kernel_rfl,M,rfl,CA ⟨M,CB ?_⟩⟩;generalize C:v.putObj (z+4) _=v1;have u:Oth (z+4) v v1:=C ▸ oth_put;have l1:v1.heap[z+4]? = some (.loop (mE fn _ #[9] (cd oJ []) (cd oK []) (z+3) .busy none)):=C ▸ World.putObj_heap_same (by omega)
  have r1:v1.ownsRow z 24 1 (.slice a j c) j (((df T id).take j).flatMap uC):=C ▸ QA g2 M;have z1:v1.heap.size=v.heap.size:=u.size;have ar:j<(df T id).length:=(List.getElem?_eq_some_iff.1 hx).1;refine lK (v:=.slice a j c) (u.blk g1 (by omega)) rfl ?_
  refine oe (vs:=[u6 x]) underlying76 (s:=1) (by kernel_rfl) (by kernel_rfl) (by omega) rfl (by simp) (by simp) (by simp) (by simp[u6,Value.cells]) fun v2 k2 Z z2=>?_;have k2:blk v2 v1.heap.size 24 (uC x):=by simpa[Value.cells,u6,uC]using k2
  obtain⟨ii,ag,ap,am,an⟩:=info_parts (show (Tryz.prog.info? 24).map (fun i=>(i.zero,i.size,i.bytes))=some (some (u6 0),1,8)by kernel_rfl);have r2:=di r1 fun q U=>Z.block q (World.ownsRow.lt r1 q U).2
  refine rU (base:=z) (enc:=uC) (x:=x) underlying76 ag ap am an rfl (by omega) (fun _=>rfl) r2 k2 (by simp[uC,u6,Value.oneCell']) (by omega) (by omega) (by have:=Z.size;omega) fun a' c' v3 r3 d c3 I=>?_;have J:∀{k o},v1.heap[k]? = some o→v2.heap[k]? = some o:=fun {k o} hk=>by rw[Z.block k (Array.getElem?_eq_some_iff.1 hk).1];exact hk
  have t3:TreeM v3 t tp T:=((a1.oth u (by omega) (by omega)).below Z).grow r2 d (by decide);have f3:blk v3 (z+1) 84 [pB t]:=eT (J (u.blk a2 (by omega))) r2 (by decide) d;have s3:blk v3 z 76 [.slice a j c]:=eT (J (u.blk g1 (by omega))) r2 (by decide) d;have l3:=CQ r2 d (J l1) (fun _ _ e=>by cases e)
  have d3:=CQ r2 d (J ((u.other _ (by omega)).trans g5)) (fun _ _ e=>by cases e);have x3:blk v3 (z+2) 24 [u6 x]:=(d.block (z+2) (by have:=Z.size;omega) (fun e=>g3 e.symm)).trans (J (u.blk hb (by omega)));refine dY (fun _=>by kernel_rfl) s3 (by show 0<1;decide) rfl fun v4 k4 R=>⟨(R.other _ (by omega)).trans l3,kT _ ?_ ?_⟩
  ·generalize X:v4.putObj (z+4) _=v5;have o5:Oth (z+4) v4 v5:=X ▸ oth_put;have l4:v4.heap[z+4]? = _:=(R.other _ (by omega)).trans l3;have av:=Z.size;have a0:=d.size;have r4:=di r3 fun q U=>R.other q (fun e=>by
    subst e;obtain⟨⟨cc,V⟩,_⟩:=AD r3 U;exact absurd (sJ V s3) (by decide))
   have r5:v5.ownsRow z 24 1 (.slice a' (j+1) c') (j+1) ((((df T id).take j)++[x]).flatMap uC):=X ▸ QA r4 l4;have al:(df T id).take j++[x]=(df T id).take (j+1):=by rw[List.take_add_one,hx];rfl
   rw[al]at r5;refine⟨⟨(t3.oth R (by omega) (by omega)).oth o5 (by omega) (by omega),o5.blk (R.blk f3 (by omega)) (by omega)⟩,⟨a',c',o5.blk k4 (by omega),r5,fun e=>?_⟩,X ▸ World.putObj_heap_same (Array.getElem?_eq_some_iff.1 l4).1,(o5.other _ (by omega)).trans ((R.other _ (by omega)).trans d3),?_,by rw[o5.size,R.size];omega⟩
   ·rcases I with I|I
    ·exact g3 (I ▸ e)
    ·rw[I]at e
     have:=Option.some.inj e
     omega
   ·exact bA (bA ((bA g6 u (by omega)).trans ((Z.mono (by omega)).trans c3)) R (Nat.le_refl _)) o5 (by omega)
  ·exact oth_put.blk (R.blk x3 (by omega)) (by omega)
 ·rintro v ⟨_,⟨a,c,g1,g2,g3⟩,M,g5,g6,g7⟩;refine⟨none,M,Cz ?_⟩;have l4:=M;generalize C:v.putObj _ _=v1;have u:Oth (z+4) v v1:=C ▸ oth_put;have r1:v1.ownsRow z 24 1 (.slice a (df T id).length c) (df T id).length (((df T id).take (df T id).length).flatMap uC):=C ▸ QA g2 M;rw[List.take_length,Ed]at r1;have k1:=u.blk g1 (by omega);refine lK (v:=.slice a (df T id).length c) k1 rfl ?_
  refine dY (fun _=>by kernel_rfl) k1 (by show 0<1;decide) rfl fun v2 k2 o2=>⟨(o2.other _ (by omega)).trans ((u.other _ (by omega)).trans g5),?_⟩
  have o3:Oth (z+3) v2 (v2.putObj (z+3) (.deferred none)):=oth_put;have ad:v2.heap[z+3]? = some (.deferred (some [])):=(o2.other _ (by omega)).trans ((u.other _ (by omega)).trans g5);have r2:=di r1 fun q U=>o2.other q (fun e=>by
   subst e;obtain⟨⟨cc,V⟩,_⟩:=AD r1 U;exact absurd (sJ V k1) (by decide))
  have r3:=di r2 fun q U=>o3.other q (fun e=>by
   subst e;obtain⟨⟨cc,V⟩,_⟩:=AD r2 U;unfold blk at V;rw[ad]at V;cases V)
  refine CO (fun _=>lK (v:=.slice a (df T id).length c) (o3.blk k2 (by omega)) rfl) (h _ a c r3 ?_);exact bA (bA (bA g6 u (by omega)) o2 (Nat.le_refl _)) o3 (by omega)
 ·exact fun _ h=>h.elim
end
end
section
open Go.RowKit Go.ChangeMaps
structure Ch (F:List Nat) (w w':World):Prop where
 os:w'.os=w.os
 tape:w'.tape=w.tape
 output:w'.output=w.output
 size:w.heap.size≤w'.heap.size
 block:∀k,k<w.heap.size→k∉F→w'.heap[k]? = w.heap[k]?
section
variable {F G:List Nat}{a b c w w':World}
theorem Ch.refl (F:List Nat)(w:World):Ch F w w:=⟨rfl,rfl,rfl,Nat.le_refl _,fun _ _ _=>rfl⟩
theorem Ch.of_below (h:Below w.heap.size w w'):Ch F w w':=⟨h.os,h.tape,h.output,h.size,fun k d _=>h.block k d⟩
theorem Ch.of_oth {b:Nat}(h:Oth b w w')(j:b∈F):Ch F w w':=⟨h.os,h.tape,h.output,by rw[h.size];exact Nat.le_refl _,fun k _ d=>h.other k (by rintro rfl;exact d j)⟩
theorem Ch.trans (h:Ch F a b)(k:Ch G b c)(hG:∀x∈G,x∈F∨a.heap.size≤x):Ch F a c :=
 ⟨k.os.trans h.os,k.tape.trans h.tape,k.output.trans h.output,Nat.le_trans h.size k.size,fun x d hF=>by
  rw[k.block x (Nat.lt_of_lt_of_le d h.size) (fun j=>(hG x j).elim hF (fun h=>by omega)),h.block x d hF]⟩
theorem Ch.mono (h:Ch F w w')(hG:∀x∈F,x∈G):Ch G w w':=⟨h.os,h.tape,h.output,h.size,fun k d j=>h.block k d fun u=>j (hG k u)⟩
theorem Ch.below {B:Nat}(h:Ch F w w')(hF:∀x∈F,B≤x)(u:B≤w.heap.size):Below B w w':=⟨h.os,h.tape,h.output,h.size,fun k j=>h.block k (by omega) (fun d=>by have:=hF k d;omega)⟩
theorem blk.ch {k:Nat}{E:TypeId}{cs:List Value}(h:blk w k E cs)(j:Ch F w w')(u:k∉F):blk w' k E cs:=by
 have d:=h.lt;unfold Go.Proofs.YtgpfkmdknlcemaaGreatDoor.blk at *; rw[j.block k d u];exact h
theorem MB.ch {κ ν:Type}{kv:κ→Value}{vv:ν→Value}{k:Nat}{m:List (κ×ν)}(h:MB kv vv w k m)(j:Ch F w w')(d:k∉F):MB kv vv w' k m:=h.kept (j.block k h.lt d)
end
end
section
attribute [local irreducible] bin un conv call dC blt slc ai fld aU idx lkp eX jl eSt rng nxt ent ext alc box bld dl ld sto bo eS mkS ifc pick rdy wts aJ sti cond bM Gives ae fU gX cOp
section
open Go.RowKit Go.ChangeMaps
theorem insA_perm {α:Type}{L:List α}{i:Nat}{z:α}:(fa L i z).Perm (L++[z]):=by
 unfold fa;refine(List.perm_middle).trans ?_;rw[List.take_append_drop];exact(List.perm_append_singleton z L).symm
section
variable {w:World}{K:KV}{t tp:Nat}{T:List (Int×Int)}{id par:Int}
theorem Gt {rk:Int→Nat}(hk:TK T rk)(j:TreeM w t tp T)(hn:T.length≤1000)(h:∀w',TreeM w' t tp (iE T id par).1→Ch [tp] w w'→K (.int .i64 (iE T id par).2) w'):call Tryz.prog 164 #[pB t,u6 id,u6 par] K w:=by
 have ok:∀{w':World} (v:Int),iE T id par=(T,v)→Below w.heap.size w w'→K (.int .i64 v) w':=fun {w'} v e b=>by
  have:=h w' (by rw[e];exact j.below b) (Ch.of_below b)
  rw[e]at this;exact this
 have b0:=Below.refl w.heap.size w;refine aB (goK func164) (Fh (HC (bw (bm ?_))));by_cases U:id=0
 ·exact ay U (ok 1 (by unfold iE;rw[if_pos U]) b0)
 refine au U (Gr j ?_);cases hq:cf T id with
 | true=>exact bu (ok 14 (by unfold iE;rw[if_neg U,if_pos hq]) b0)
 | false =>
 have M:¬cf T id=true:=by rw[hq];simp
 refine bw (cW ?_);have e9:∀X:par≠0∧cf T par=false,iE T id par=(T,9):=fun X=>by unfold iE;rw[if_neg U,if_neg M,if_pos X]
 have C : ¬(par≠0∧cf T par=false)→∀{t0 id1 aI J:Value} {zf:Nat→Value},t0=pB t→id1=u6 id→aI=u6 par→J=.bool (decide (32≤(T.length:Int)))→nV K ((de t0 id1 aI J zf)) w:=by
  intro X t0 id1 aI J zf q0 q1 q2 q4;subst q0 q1 q2 q4;refine CV ?_;have e6:32≤T.length∨4≤(df T par).length→iE T id par=(T,6):=fun hh=>by unfold iE;rw[if_neg U,if_neg M,if_neg X,if_pos hh]
  by_cases R:32≤(T.length:Int)
  ·exact ay R (vT (ay R (ok 6 (e6 (.inl (by omega))) b0)))
  refine au R (HD hk j hn fun w1 a c ho b1=>bx underlying76 (cH (vT ?_)));by_cases h4:((df T par).length:Int)≥4
  ·exact ay h4 (ok 6 (e6 (.inr (by omega))) b1)
  refine au h4 (CY ?_);have I:=j.below b1;obtain⟨m,hm,d⟩:=I.mp;refine aw (vj (lK (v:=.map (some tp)) I.bt rfl (vm u6K underlying86 hm fun w2 ad o2=>?_)));have e0:iE T id par=(fa T (nL (fun x=>decide (id<x.1)) T T.length) (id,par),0):=by unfold iE;rw[if_neg U,if_neg M,if_neg X,if_neg (by omega)]
  have u:gA m id=none:=by rw[mn d j.uq,Az j.uq,hq]
  rw[vn u]at ad;have hP:(m++[(id,par)]).Perm (iE T id par).1:=by rw[e0];exact(d.append_right _).trans insA_perm.symm
  have ag:((iE T id par).1.map (·.1)).Nodup:=by
   refine(hP.map _).nodup_iff.1 ?_
   have:=uk (x:=id) (v:=par) ((d.map (·.1)).nodup_iff.2 j.uq)
   rwa[vn u]at this
  have al:=j.ne;have hc:Ch [tp] w w2:=(Ch.of_below b1:Ch [tp] w w1).trans (Ch.of_oth o2 (by simp):Ch [tp] w1 w2) (fun x hx=>.inl hx)
  have:=h w2 ⟨o2.blk I.bt al,⟨_,ad,hP⟩,ag⟩ hc
  rw[e0]at this;exact this
 by_cases V:par≠0
 ·refine dE V (Gr j (eh (bR V ?_)));cases Z:cf T par with
  | false=>exact bu (ok 9 (e9 ⟨V,Z⟩) b0)
  | true =>
   obtain⟨m,hm,d⟩:=j.mp;refine bw (aw (vj (lK (v:=.map (some tp)) j.bt rfl (Ud underlying86 hm (cH ?_)))));exact C (fun hh=>by rw[Z]at hh;cases hh.2) rfl rfl rfl (by rw[d.length_eq])
 ·refine eF V (bE V (bw ?_));obtain⟨m,hm,d⟩:=j.mp;refine aw (vj (lK (v:=.map (some tp)) j.bt rfl (Ud underlying86 hm (cH ?_))));exact C (fun hh=>V hh.1) rfl rfl rfl (by rw[d.length_eq])
end
end
end
section
open Go.RowKit
def ak (ac a1 b2 i7 j8 j9 j10 C6 C7 C8 C9 D0 D1 D2 D3 D4 D5 D6 F9:Value)(zf:Nat→Value):List Value:=ac::a1::b2::zT zf 3 4 (i7::j8::j9::j10::zT zf 11 10 (C6::C7::C8::C9::D0::D1::D2::D3::D4::D5::D6::zT zf 32 29 (F9::zT zf 62 71 ([]))))
def ax (K:KV):KE:=ae Q (cd f121 [1,1,1]) (rk f121 K) xf (rk f121 K)
def fp (K:KV):KE:=ae Q (cd f121 [1,1,0,1,0]) (ax K) (xx xf (ax K) 0) (rk f121 K)
def aq (K:KV)(B1:KE):KE:=ae Q (cd f121 [1,1,0,1,0,0,1,1]) B1 (xx xf (ax K) 0) (rk f121 K)
def dT (K:KV)(B1:KE):KE:=ae Q (cd f121 [1,1,0,1,0,0,1,0]) (aq K B1) (xx xf (ax K) 0) (rk f121 K)
def bP (K:KV)(B1:KE):KE:=ae Q (cd f121 [1,1,0,1,0,0,1,0,0,1]) (aq K B1) (xx (xx xf (ax K) 0) (aq K B1) 1) (rk f121 K)
def fu (K:KV)(B1:KE):KE:=ae Q (cd f121 [1,1,0,1,0,0,1,0,0,0,0]) (bP K B1) (xx (xx (xx xf (ax K) 0) (aq K B1) 1) (bP K B1) 2) (rk f121 K)
def dy (K:KV)(B1:KE):KE:=ae Q (cd f121 [1,1,0,1,0,0,1,0,0,1,1,1,1]) (aq K B1) (xx (xx xf (ax K) 0) (aq K B1) 1) (rk f121 K)
def aW (K:KV)(B1:KE):KE:=ae Q (cd f121 [1,1,0,1,0,0,1,0,0,1,1,1,1,1]) (aq K B1) (xx (xx xf (ax K) 0) (aq K B1) 1) (rk f121 K)
def dU (K:KV)(B1:KE):KE:=ae Q (cd f121 [1,1,0,1,0,0,1,0,0,1,1,1,1,0,1]) (aW K B1) (xx (xx xf (ax K) 0) (aq K B1) 1) (rk f121 K)
def fw (K:KV)(B1:KE):KE:=ae Q (cd f121 [1,1,0,1,0,0,1,0,0,1,1,1,1,0,1,0,1,0]) (aW K B1) (xx (xx (xx xf (ax K) 0) (aq K B1) 1) (aW K B1) 4) (rk f121 K)
def fx (K:KV)(B1:KE):KE:=ae Q (cd f121 [1,1,0,1,0,0,1,0,0,1,1,1,1,1,1,0,1,0]) (aq K B1) (xx (xx (xx xf (ax K) 0) (aq K B1) 1) (aq K B1) 6) (rk f121 K)
section
variable {K:KV}{ac a1 b2 i7 j8 j9 j10 C6 C7 C8 C9 D0 D1 D2 D3 D4 D5 D6 F9:Value}{zf:Nat→Value}{w:World}
theorem pc {K:KV}{ac a1 b2:Value}{w:World}(h:nC a1 (fun A7=>fp K (ak ac a1 b2 A7 (ci 0) uu uu uu uu uu uu uu uu uu uu uu uu uu uu (zV (zV zu 6 [cF]) 11 [a1,A7]))) w):Gives Q 121 #[ac,a1,b2] w K:=by
 refine aH func121 (by kernel_rfl) ?_;revert h;delta fp ax;exact mpF
theorem oo (Inv:vI 13)(μ:vM 13)(h0:Inv i7 j8 C6 C7 C8 C9 D0 D1 D2 D3 D4 D5 D6 w)(hs:∀(i7' j8' C6' C7' C8' C9' D0' D1' D2' D3' D4' D5' D6':Value) (dd:Nat→Value) (w:World) (m:Nat),Inv i7' j8' C6' C7' C8' C9' D0' D1' D2' D3' D4' D5' D6' w→m=μ i7' j8' C6' C7' C8' C9' D0' D1' D2' D3' D4' D5' D6' w →
  bin Q .lss 3 false true j8' (ci 5) (fun A9 w=>cond A9 (dT K (fun e2 w2=>(Inv (gd e2 7) (gd e2 8) (gd e2 21) (gd e2 22) (gd e2 23) (gd e2 24) (gd e2 25) (gd e2 26) (gd e2 27) (gd e2 28) (gd e2 29) (gd e2 30) (gd e2 31) w2)∧((μ (gd e2 7) (gd e2 8) (gd e2 21) (gd e2 22) (gd e2 23) (gd e2 24) (gd e2 25) (gd e2 26) (gd e2 27) (gd e2 28) (gd e2 29) (gd e2 30) (gd e2 31) w2)<m)) (ak ac a1 b2 i7' j8' (dd 9) (dd 10) C6' C7' C8' C9' D0' D1' D2' D3' D4' D5' D6' (dd 61) (zV dd 13 [j8',A9])) w) (ax K (ak ac a1 b2 i7' j8' (dd 9) (dd 10) C6' C7' C8' C9' D0' D1' D2' D3' D4' D5' D6' (dd 61) (zV dd 13 [j8',A9])) w)) w):fp K (ak ac a1 b2 i7 j8 j9 j10 C6 C7 C8 C9 D0 D1 D2 D3 D4 D5 D6 F9 zf) w:=by
 refine aQ (cd f121 [1,1,0,1,0,0]) (zr [(6,5),(13,120)]) (by kernel_rfl) (fun e2 w2=>Inv (gd e2 7) (gd e2 8) (gd e2 21) (gd e2 22) (gd e2 23) (gd e2 24) (gd e2 25) (gd e2 26) (gd e2 27) (gd e2 28) (gd e2 29) (gd e2 30) (gd e2 31) w2) (fun e2 w2=>μ (gd e2 7) (gd e2 8) (gd e2 21) (gd e2 22) (gd e2 23) (gd e2 24) (gd e2 25) (gd e2 26) (gd e2 27) (gd e2 28) (gd e2 29) (gd e2 30) (gd e2 31) w2) h0 ?_
 intro e' w' hI
 have h:=hs (gd e' 7) (gd e' 8) (gd e' 21) (gd e' 22) (gd e' 23) (gd e' 24) (gd e' 25) (gd e' 26) (gd e' 27) (gd e' 28) (gd e' 29) (gd e' 30) (gd e' 31) (zM zf (fun i=>gd e' i) (zr [(6,5),(13,120)])) w' _ hI rfl
 refine Eq.mp (congrArg (fun c=>ae Q c _ _ _ _ w') (by kernel_rfl:(rep [1,0] (cd f121 [1,1,0,1,0,0,1,0]) (cd f121 [1,1,0,1,0,0]))=(cd f121 [1,1,0,1,0,0]))) ?_
 revert h
 delta dT aq
 generalize (cd f121 [1,1,0,1,0,0,1,0])=xc0
 generalize (ax K)=qc0
 exact mpF
theorem oq {B1:KE}(h:fu K B1 (ak ac a1 b2 i7 j8 j9 j10 C6 C7 C8 C9 D0 D1 D2 D3 D4 D5 D6 F9 zf) w):dT K B1 (ak ac a1 b2 i7 j8 j9 j10 C6 C7 C8 C9 D0 D1 D2 D3 D4 D5 D6 F9 zf) w:=by
 delta dT;revert h;delta fu bP;generalize (aq K B1)=qc0;generalize (ax K)=qc1;exact mpF
theorem ot (h:K cF w):ax K (ak ac a1 b2 i7 j8 j9 j10 C6 C7 C8 C9 D0 D1 D2 D3 D4 D5 D6 F9 zf) w:=by
 delta ax;exact mpK h
theorem ou {B1:KE}(Inv:vI 12)(μ:vM 12)(h0:Inv i7 C6 C7 C8 C9 D0 D1 D2 D3 D4 D5 D6 w)(hs:∀(j u U Z X M I J V ad R C:Value) (dd:Nat→Value) (w:World) (m:Nat),Inv j u U Z X M I J V ad R C w→m=μ j u U Z X M I J V ad R C w →
  sti (bin Q .lss 3 false false j b2) (fun C4 w=>aJ C4 true (fun ag=>sI 76 ac j (fun C8=>sL 24 C8 fun C9=>sti (bin Q .sub 3 false true j (ci 1)) fun D2=>sI 76 ac D2 fun D3=>sL 24 D3 fun D4=>sti (call Q 122 #[C9,D4]) fun D5=>sti (un Q .not D5) fun D6=>ag [ac,j,C8,C9,ac,j,D2,D3,D4,D5,D6]) w) (fun k=>k [uu,uu,uu,uu,uu,uu,uu,uu,uu,uu,uu] w) fun d=>sti (pick C4 (gd d 10) cF) fun D7 w=>cond D7 (nC j (fun D9 w=>(Inv D9 (gd d 0) (gd d 1) (gd d 2) (gd d 3) (gd d 4) (gd d 5) (gd d 6) (gd d 7) (gd d 8) (gd d 9) (gd d 10) w)∧((μ D9 (gd d 0) (gd d 1) (gd d 2) (gd d 3) (gd d 4) (gd d 5) (gd d 6) (gd d 7) (gd d 8) (gd d 9) (gd d 10) w)<m)) w) (bP K B1 (ak ac a1 b2 j j8 j9 j10 (gd d 0) (gd d 1) (gd d 2) (gd d 3) (gd d 4) (gd d 5) (gd d 6) (gd d 7) (gd d 8) (gd d 9) (gd d 10) F9 (zV (zV dd 17 [j,b2,C4,C4]) 32 [D7])) w)) w.drew):fu K B1 (ak ac a1 b2 i7 j8 j9 j10 C6 C7 C8 C9 D0 D1 D2 D3 D4 D5 D6 F9 zf) w:=by
 refine aQ (cd f121 [1,1,0,1,0,0,1,0,0,0,0,0]) (zr [(7,1),(17,18)]) (by kernel_rfl) (fun e2 w2=>Inv (gd e2 7) (gd e2 21) (gd e2 22) (gd e2 23) (gd e2 24) (gd e2 25) (gd e2 26) (gd e2 27) (gd e2 28) (gd e2 29) (gd e2 30) (gd e2 31) w2) (fun e2 w2=>μ (gd e2 7) (gd e2 21) (gd e2 22) (gd e2 23) (gd e2 24) (gd e2 25) (gd e2 26) (gd e2 27) (gd e2 28) (gd e2 29) (gd e2 30) (gd e2 31) w2) h0 ?_
 intro e' w' hI;have h:=hs (gd e' 7) (gd e' 21) (gd e' 22) (gd e' 23) (gd e' 24) (gd e' 25) (gd e' 26) (gd e' 27) (gd e' 28) (gd e' 29) (gd e' 30) (gd e' 31) (zM zf (fun i=>gd e' i) (zr [(7,1),(17,18)])) w' _ hI rfl;revert h;generalize (ax K)=qc0;generalize (aq K B1)=qc1;generalize (bP K B1)=qc2;exact mpF
theorem kq {B1:KE}(h:bin Q .eql 3 false false i7 b2 (fun E2 w=>cond E2 (K cT w) (bin Q .sub 3 false false b2 a1 (fun E5=>bin Q .lss 3 false true E5 (ci 50) fun E6 w=>cond E6 (K cF w) (aK (fun S w=>hld (fun _=>True) (bin Q .sub 3 false true i7 (ci 1)) fun E8=>hld (fun _=>True) (bin Q .sub 3 false true i7 (ci 1)) fun E9=>hI S 76 ac E9 fun F0=>hL S 24 F0 fun F1=>hI S 76 ac i7 fun F3=>hL S 24 F3 fun F4=>hI S 76 ac i7 fun F5=>sto Q 24 F5 F1 (fun _=>aK fun S w=>hI S 76 ac E8 fun F6=>sto Q 24 F6 F4 (fun _=>dy K B1 (ak ac a1 b2 i7 j8 j9 j10 C6 C7 C8 C9 D0 D1 D2 D3 D4 D5 D6 F9 (zV zf 35 [i7,b2,E2,b2,a1,E5,E6,ac,i7,ac,i7,E8,ac,i7,E9,F0,F1,ac,i7,F3,F4,F5,F6]))) w) w) w.drew)) w)) w):bP K B1 (ak ac a1 b2 i7 j8 j9 j10 C6 C7 C8 C9 D0 D1 D2 D3 D4 D5 D6 F9 zf) w:=by
 delta bP
 refine Eq.mp (congrArg (fun c=>ae Q c _ _ _ _ w) (by kernel_rfl:(rep [1,1,1] (cd f121 [1,1,0,1,0,0,1,0,0,1,1,1,1]) (cd f121 [1,1,0,1,0,0,1,0,0,1]))=(cd f121 [1,1,0,1,0,0,1,0,0,1]))) ?_
 revert h
 delta dy
 generalize (cd f121 [1,1,0,1,0,0,1,0,0,1,1,1,1])=xc0
 generalize (aq K B1)=qc0
 generalize (ax K)=qc1
 exact mpF
theorem ow {B1:KE}(h:bin Q .sub 3 false false i7 a1 (fun F8=>bin Q .geq 3 false true F8 (ci 2) fun F9=>dU K B1 (ak ac a1 b2 i7 j8 j9 j10 C6 C7 C8 C9 D0 D1 D2 D3 D4 D5 D6 F9 (zV zf 58 [i7,a1,F8]))) w):dy K B1 (ak ac a1 b2 i7 j8 j9 j10 C6 C7 C8 C9 D0 D1 D2 D3 D4 D5 D6 F9 zf) w:=by
 delta dy
 refine Eq.mp (congrArg (fun c=>ae Q c _ _ _ _ w) (by kernel_rfl:(rep [0,1] (cd f121 [1,1,0,1,0,0,1,0,0,1,1,1,1,0,1]) (cd f121 [1,1,0,1,0,0,1,0,0,1,1,1,1]))=(cd f121 [1,1,0,1,0,0,1,0,0,1,1,1,1]))) ?_
 revert h
 delta dU aW
 generalize (cd f121 [1,1,0,1,0,0,1,0,0,1,1,1,1,0,1])=xc0
 generalize (aq K B1)=qc0
 generalize (ax K)=qc1
 exact mpF
theorem oy {B1:KE}(h:cond F9 (bin Q .sub 3 false true i7 (ci 1) (fun G1=>fw K B1 (ak ac a1 b2 i7 j8 G1 j10 C6 C7 C8 C9 D0 D1 D2 D3 D4 D5 D6 F9 (zV zf 62 [i7,G1]))) w) (aW K B1 (ak ac a1 b2 i7 j8 j9 j10 C6 C7 C8 C9 D0 D1 D2 D3 D4 D5 D6 F9 zf) w)):dU K B1 (ak ac a1 b2 i7 j8 j9 j10 C6 C7 C8 C9 D0 D1 D2 D3 D4 D5 D6 F9 zf) w:=by
 delta dU;revert h;delta fw;generalize (aW K B1)=qc0;generalize (ax K)=qc1;generalize (aq K B1)=qc2;exact mpF
theorem oA {B1:KE}(Inv:Value→World→Prop)(μ:Value→World→Nat)(h0:Inv j9 w)(C:∀(d:Value) (u:Nat→Value) (w:World) (m:Nat),Inv d w→m=μ d w →
  bin Q .geq 3 false true d (ci 1) (fun G3 w=>cond G3 (aK (fun S w=>hI S 76 ac d fun G5=>hL S 24 G5 fun G6=>hld (fun _=>True) (bin Q .sub 3 false true d (ci 1)) fun G7=>hI S 76 ac G7 fun G8=>hL S 24 G8 fun G9=>call Q 122 #[G6,G9] (fun H0=>aK fun S w=>hld S (un Q .not H0) fun H1=>cond H1 (aW K B1 (ak ac a1 b2 i7 j8 d j10 C6 C7 C8 C9 D0 D1 D2 D3 D4 D5 D6 F9 (zV (zV u 64 [d,G3]) 68 [ac,d,G5,G6,ac,d,G7,G8,G9,H0,H1])) w) (aK (fun S w=>hld (fun _=>True) (bin Q .sub 3 false true d (ci 1)) fun H2=>hld (fun _=>True) (bin Q .sub 3 false true d (ci 1)) fun H3=>hI S 76 ac H3 fun H4=>hL S 24 H4 fun H5=>hI S 76 ac d fun H6=>hL S 24 H6 fun H7=>hI S 76 ac d fun H8=>sto Q 24 H8 H5 (fun _=>aK fun S w=>hI S 76 ac H2 fun H9=>sto Q 24 H9 H7 (fun _=>bin Q .sub 3 false true d (ci 1) fun G4 w=>(Inv G4 w)∧((μ G4 w)<m)) w) w) w.drew)) w) w.drew) (aW K B1 (ak ac a1 b2 i7 j8 d j10 C6 C7 C8 C9 D0 D1 D2 D3 D4 D5 D6 F9 (zV u 64 [d,G3])) w)) w):fw K B1 (ak ac a1 b2 i7 j8 j9 j10 C6 C7 C8 C9 D0 D1 D2 D3 D4 D5 D6 F9 zf) w:=by
 refine aQ (cd f121 [1,1,0,1,0,0,1,0,0,1,1,1,1,0,1,0,1,0,0]) (zr [(9,1),(64,31)]) (by kernel_rfl) (fun e2 j=>Inv (gd e2 9) j) (fun e2 j=>μ (gd e2 9) j) h0 ?_;intro e' w' hI;have h:=C (gd e' 9) (zM zf (fun i=>gd e' i) (zr [(9,1),(64,31)])) w' _ hI rfl;revert h;generalize (ax K)=qc0;generalize (aq K B1)=qc1;generalize (aW K B1)=qc2;exact mpF
theorem oB {B1:KE}(h:bin Q .sub 3 false false b2 i7 (fun I0=>bin Q .geq 3 false true I0 (ci 2) fun I1 w=>cond I1 (nC i7 (fun I2=>fx K B1 (ak ac a1 b2 i7 j8 j9 I2 C6 C7 C8 C9 D0 D1 D2 D3 D4 D5 D6 F9 (zV zf 95 [b2,i7,I0,I1,i7,I2]))) w) (aq K B1 (ak ac a1 b2 i7 j8 j9 j10 C6 C7 C8 C9 D0 D1 D2 D3 D4 D5 D6 F9 (zV zf 95 [b2,i7,I0,I1])) w)) w):aW K B1 (ak ac a1 b2 i7 j8 j9 j10 C6 C7 C8 C9 D0 D1 D2 D3 D4 D5 D6 F9 zf) w:=by
 delta aW;revert h;delta fx;generalize (aq K B1)=qc0;generalize (ax K)=qc1;exact mpF
theorem oC {B1:KE}(Inv:Value→World→Prop)(μ:Value→World→Nat)(h0:Inv j10 w)(C:∀(d:Value) (u:Nat→Value) (w:World) (m:Nat),Inv d w→m=μ d w →
  lS d b2 (fun I3 w=>cond I3 (aK (fun S w=>hI S 76 ac d fun I5=>hL S 24 I5 fun I6=>hld (fun _=>True) (bin Q .sub 3 false true d (ci 1)) fun I7=>hI S 76 ac I7 fun I8=>hL S 24 I8 fun I9=>call Q 122 #[I6,I9] (fun J0=>aK fun S w=>hld S (un Q .not J0) fun J1=>cond J1 (aq K B1 (ak ac a1 b2 i7 j8 j9 d C6 C7 C8 C9 D0 D1 D2 D3 D4 D5 D6 F9 (zV (zV u 101 [d,b2,I3]) 106 [ac,d,I5,I6,ac,d,I7,I8,I9,J0,J1])) w) (aK (fun S w=>hld (fun _=>True) (bin Q .sub 3 false true d (ci 1)) fun J2=>hld (fun _=>True) (bin Q .sub 3 false true d (ci 1)) fun J3=>hI S 76 ac J3 fun J4=>hL S 24 J4 fun J5=>hI S 76 ac d fun J6=>hL S 24 J6 fun J7=>hI S 76 ac d fun J8=>sto Q 24 J8 J5 (fun _=>aK fun S w=>hI S 76 ac J2 fun J9=>sto Q 24 J9 J7 (fun _=>nC d fun I4 w=>(Inv I4 w)∧((μ I4 w)<m)) w) w) w.drew)) w) w.drew) (aq K B1 (ak ac a1 b2 i7 j8 j9 d C6 C7 C8 C9 D0 D1 D2 D3 D4 D5 D6 F9 (zV u 101 [d,b2,I3])) w)) w):fx K B1 (ak ac a1 b2 i7 j8 j9 j10 C6 C7 C8 C9 D0 D1 D2 D3 D4 D5 D6 F9 zf) w:=by
 refine aQ (cd f121 [1,1,0,1,0,0,1,0,0,1,1,1,1,1,1,0,1,0,0]) (zr [(10,1),(101,32)]) (by kernel_rfl) (fun e2 j=>Inv (gd e2 10) j) (fun e2 j=>μ (gd e2 10) j) h0 ?_;intro e' w' hI;have h:=C (gd e' 10) (zM zf (fun i=>gd e' i) (zr [(10,1),(101,32)])) w' _ hI rfl;revert h;generalize (ax K)=qc0;generalize (aq K B1)=qc1;exact mpF
theorem gR {B1:KE}(h:nC j8 (fun C1=>B1 (ak ac a1 b2 i7 C1 j9 j10 C6 C7 C8 C9 D0 D1 D2 D3 D4 D5 D6 F9 (zV zf 15 [j8,C1]))) w):aq K B1 (ak ac a1 b2 i7 j8 j9 j10 C6 C7 C8 C9 D0 D1 D2 D3 D4 D5 D6 F9 zf) w:=by
 delta aq;revert h;generalize (ax K)=qc0;exact mpF
end
attribute [irreducible] ax fp aq dT bP fu dy aW dU fw fx
def bC (ac a1 b2 ko lE li qj kK E7:Value)(zf:Nat→Value):List Value:=ac::a1::b2::zT zf 3 3 (ko::lE::li::qj::kK::zT zf 11 32 (E7::zT zf 44 21 ([])))
def gN (K:KV):KE:=ae Q (cd f118 [1,1,0,1,1,1,0]) (rk f118 K) (xx xf (rk f118 K) 0) (rk f118 K)
def bN (K:KV)(B1:KE):KE:=ae Q (cd f118 [1,1,0,1,1,1,0,0,1,1]) B1 (xx xf (rk f118 K) 0) (rk f118 K)
def bX (K:KV)(B1:KE):KE:=ae Q (cd f118 [1,1,0,1,1,1,0,0,1,0,0,1,1]) (bN K B1) (xx (xx xf (rk f118 K) 0) (bN K B1) 1) (rk f118 K)
def fl (K:KV)(B1:KE):KE:=ae Q (cd f118 [1,1,0,1,1,1,0,0,1,0,0,1,0,1]) (bX K B1) (xx (xx xf (rk f118 K) 0) (bN K B1) 1) (rk f118 K)
section
variable {K:KV}{ac a1 b2 ko lE li qj kK E7:Value}{zf:Nat→Value}{w:World}
theorem qN {K:KV}{ac a1 b2:Value}{w:World}(h:bin Q .sub 3 false false b2 a1 (fun A8=>bin Q .geq 3 false true A8 (ci 8) fun C0 w=>cond C0 (conv Q 3 171 A8 (fun C2=>alc Q 171 fun lE=>sto Q 171 lE C2 fun _=>call Q 97 #[A8] fun C4=>bin Q .quo 3 false true A8 (ci 4) fun C7=>bin Q .mul 3 false true C7 (ci 2) fun C8=>bin Q .add 3 false false a1 C8 fun C9=>bin Q .sub 3 false true C9 (ci 1) fun D0=>gN K (bC ac a1 b2 A8 lE C4 D0 uu uu (zV zu 11 [b2,a1,A8,A8,C0,A8,C2,A8,C4,a1,A8,C7,C8,C9,D0]))) w) (K (Value.tuple #[]) w)) w):Gives Q 118 #[ac,a1,b2] w K:=by
 refine aH func118 (by kernel_rfl) ?_;revert h;delta gN;exact mpF
theorem qo (Inv:Value→World→Prop)(μ:Value→World→Nat)(h0:Inv qj w)(hs:∀(idx9':Value) (dd:Nat→Value) (w:World) (m:Nat),Inv idx9' w→m=μ idx9' w →
  bin Q .quo 3 false true ko (ci 4) (fun D4=>bin Q .mul 3 false true D4 (ci 2) fun D5=>bin Q .add 3 false false a1 D5 fun D6=>nC D6 fun D7=>bin Q .leq 3 false false idx9' D7 fun D8 w=>cond D8 (call Q 98 #[lE] (fun E1=>bin Q .sub 128 false true li (cu 1) fun E3=>bin Q .and 128 false false E1 E3 fun E4=>conv Q 128 3 E4 fun E5=>bin Q .geq 3 false false E5 ko fun E7=>fl K (fun e2 w2=>(Inv (gd e2 9) w2)∧((μ (gd e2 9) w2)<m)) (bC ac a1 b2 ko lE li idx9' E5 E7 (zV (zV dd 26 [idx9',a1,ko,D4,D5,D6,D7,D8]) 36 [E1,li,E3,E4,E5,E5,ko]))) w) (K (Value.tuple #[]) w)) w):gN K (bC ac a1 b2 ko lE li qj kK E7 zf) w:=by
 refine aQ (cd f118 [1,1,0,1,1,1,0,0]) (zr [(9,2),(26,39)]) (by kernel_rfl) (fun e2 w2=>Inv (gd e2 9) w2) (fun e2 w2=>μ (gd e2 9) w2) h0 ?_
 intro e' w' hI
 have h:=hs (gd e' 9) (zM zf (fun i=>gd e' i) (zr [(9,2),(26,39)])) w' _ hI rfl
 refine Eq.mp (congrArg (fun c=>ae Q c _ _ _ _ w') (by kernel_rfl:(rep [1,0,0,1,0,1] (cd f118 [1,1,0,1,1,1,0,0,1,0,0,1,0,1]) (cd f118 [1,1,0,1,1,1,0,0]))=(cd f118 [1,1,0,1,1,1,0,0]))) ?_
 revert h
 delta fl bN bX
 generalize (cd f118 [1,1,0,1,1,1,0,0,1,0,0,1,0,1])=xc0
 exact mpF
theorem qp {B1:KE}(h:cond E7 (bin Q .sub 3 false false kK ko (fun E8=>bX K B1 (bC ac a1 b2 ko lE li qj E8 E7 (zV zf 44 [kK,ko,E8]))) w) (bX K B1 (bC ac a1 b2 ko lE li qj kK E7 zf) w)):fl K B1 (bC ac a1 b2 ko lE li qj kK E7 zf) w:=by
 delta fl;revert h;generalize (bX K B1)=qc0;generalize (bN K B1)=qc1;exact mpF
theorem qq {B1:KE}(h:aK (fun S w=>hld (fun _=>True) (bin Q .add 3 false false a1 kK) fun F2=>hld (fun _=>True) (bin Q .add 3 false false a1 kK) fun F5=>hI S 76 ac F5 fun F6=>hL S 24 F6 fun F7=>hI S 76 ac qj fun F9=>hL S 24 F9 fun G0=>hI S 76 ac qj fun G1=>sto Q 24 G1 F7 (fun _=>aK fun S w=>hI S 76 ac F2 fun G2=>sto Q 24 G2 G0 (fun _=>bN K B1 (bC ac a1 b2 ko lE li qj kK E7 (zV zf 47 [ac,qj,ac,a1,kK,F2,ac,a1,kK,F5,F6,F7,ac,qj,F9,G0,G1,G2]))) w) w) w.drew):bX K B1 (bC ac a1 b2 ko lE li qj kK E7 zf) w:=by
 delta bX;revert h;generalize (bN K B1)=qc0;exact mpF
theorem qr {B1:KE}(h:nC qj (fun E0=>B1 (bC ac a1 b2 ko lE li E0 kK E7 (zV zf 34 [qj,E0]))) w):bN K B1 (bC ac a1 b2 ko lE li qj kK E7 zf) w:=by
 delta bN;exact mpK h
end
attribute [irreducible] gN bN bX fl
theorem yb {K:KV}{d:Value}{w:World}(h:conv Q 3 128 d (fun A0=>call Q 44 #[A0] fun A1=>bin Q .shl 128 true false (cu 1) A1 K) w):Gives Q 97 #[d] w K:=by
 refine aH func97 (by kernel_rfl) ?_;exact mpK h
theorem zw {K:KV}{r0:Value}{w:World}(h:sN r0 (fun A0=>sL 171 A0 fun A1=>sN r0 fun A2=>sL 171 A2 fun A3=>sti (bin Q .shl 171 false true A3 (cu 13)) fun A4=>sti (bin Q .xor 171 false false A1 A4) fun A5=>sN r0 fun A6=>sto Q 171 A6 A5 fun _ w=>sN r0 (fun A8=>sL 171 A8 fun A9=>sN r0 fun C1=>sL 171 C1 fun C2=>sti (bin Q .shr 171 false true C2 (cu 7)) fun C3=>sti (bin Q .xor 171 false false A9 C3) fun C4=>sN r0 fun C5=>sto Q 171 C5 C4 fun _ w=>sN r0 (fun C7=>sL 171 C7 fun C8=>sN r0 fun D0=>sL 171 D0 fun D1=>sti (bin Q .shl 171 false true D1 (cu 17)) fun D2=>sti (bin Q .xor 171 false false C8 D2) fun D3=>sN r0 fun D4=>sto Q 171 D4 D3 fun _=>bo r0 fun D6=>ld Q 171 D6 K) w.drew) w.drew) w.drew):Gives Q 98 #[r0] w K:=by
 refine aH func98 (by kernel_rfl) ?_;exact mpK h
end
section
open Go.RowKit
def aA (ac a1 b2 l8 dt i10 j11 im C7 C8:Value)(zf:Nat→Value):List Value:=ac::a1::b2::zT zf 3 5 (l8::dt::i10::j11::im::zT zf 13 19 (C7::zf 33::C8::zT zf 35 22 ([])))
def io (K:KV):KE:=ae Q (cd f119 [1,1,1,1,1,1]) (rk f119 K) xf (rk f119 K)
def bG (K:KV):KE:=ae Q (cd f119 [1,1,1,1,1,1,1]) (rk f119 K) xf (rk f119 K)
def ip (K:KV):KE:=ae Q (cd f119 [1,1,1,1,1,1,0,1]) (bG K) xf (rk f119 K)
def cv (K:KV):KE:=ae Q (cd f119 [1,1,1,1,1,1,0,1,0,1]) (bG K) xf (rk f119 K)
def iq (K:KV):KE:=ae Q (cd f119 [1,1,1,1,1,1,0,1,0,0,1]) (cv K) xf (rk f119 K)
section
variable {K:KV}{ac a1 b2 l8 dt i10 j11 im C7 C8:Value}{zf:Nat→Value}{w:World}
theorem sg {K:KV}(d:Code){ac a1 b2:Value}{w:World}(h:bin Q .sub 3 false false b2 a1 (fun A3=>alc Q 3 fun dt=>bin Q .quo 3 false true A3 (ci 4) fun A6=>bin Q .mul 3 false true A6 (ci 1) fun A7=>bin Q .add 3 false false a1 A7 fun A8=>bin Q .quo 3 false true A3 (ci 4) fun C1=>bin Q .mul 3 false true C1 (ci 2) fun C2=>bin Q .add 3 false false a1 C2 fun C3=>bin Q .quo 3 false true A3 (ci 4) fun C4=>bin Q .mul 3 false true C4 (ci 3) fun C5=>bin Q .add 3 false false a1 C5 fun C6=>ae Q d (rk f119 K) (fun _ _ _=>False) (rk f119 K) (aA ac a1 b2 A3 dt A8 C3 C6 uu uu (zV (zV zu 6 [ci 0,ci 0]) 13 [b2,a1,A3,a1,A3,A6,A7,A8,a1,A3,C1,C2,C3,a1,A3,C4,C5,C6]))) w):ae Q (rep [1,1,1,1,1,1] d (cd f119 [])) (rk f119 K) xf (rk f119 K) (aA ac a1 b2 uu uu uu uu uu uu uu zu) w:=Eq.mp (by kernel_rfl) h
theorem rH {K:KV}{ac a1 b2:Value}{w:World}(h:bin Q .sub 3 false false b2 a1 (fun A3=>alc Q 3 fun dt=>bin Q .quo 3 false true A3 (ci 4) fun A6=>bin Q .mul 3 false true A6 (ci 1) fun A7=>bin Q .add 3 false false a1 A7 fun A8=>bin Q .quo 3 false true A3 (ci 4) fun C1=>bin Q .mul 3 false true C1 (ci 2) fun C2=>bin Q .add 3 false false a1 C2 fun C3=>bin Q .quo 3 false true A3 (ci 4) fun C4=>bin Q .mul 3 false true C4 (ci 3) fun C5=>bin Q .add 3 false false a1 C5 fun C6=>io K (aA ac a1 b2 A3 dt A8 C3 C6 uu uu (zV (zV zu 6 [ci 0,ci 0]) 13 [b2,a1,A3,a1,A3,A6,A7,A8,a1,A3,C1,C2,C3,a1,A3,C4,C5,C6]))) w):Gives Q 119 #[ac,a1,b2] w K:=aH func119 (by kernel_rfl) (Eq.mp (congrArg (fun c=>ae Q c (rk f119 K) xf (rk f119 K) (aA ac a1 b2 uu uu uu uu uu uu uu zu) w) (by kernel_rfl:(rep [1,1,1,1,1,1] (cd f119 [1,1,1,1,1,1]) (cd f119 []))=(cd f119 []))) (sg (cd f119 [1,1,1,1,1,1]) h))
theorem qO {K:KV}(d:Code){ac a1 b2 l8 dt i10 j11 im C7 C8:Value}{zf:Nat→Value}{w:World}(h:bin Q .geq 3 false true l8 (ci 8) (fun C7=>ae Q d (ae Q (cd f119 [1,1,1,1,1,1,1]) (rk f119 K) (fun _ _ _=>False) (rk f119 K)) (fun _ _ _=>False) (rk f119 K) (aA ac a1 b2 l8 dt i10 j11 im C7 C8 (zV zf 31 [l8]))) w):ae Q (rep [0,1] d (cd f119 [1,1,1,1,1,1])) (rk f119 K) xf (rk f119 K) (aA ac a1 b2 l8 dt i10 j11 im C7 C8 zf) w:=Eq.mp (by kernel_rfl) h
theorem qP (h:bin Q .geq 3 false true l8 (ci 8) (fun C7=>ip K (aA ac a1 b2 l8 dt i10 j11 im C7 C8 (zV zf 31 [l8]))) w):io K (aA ac a1 b2 l8 dt i10 j11 im C7 C8 zf) w:=by
 delta io
 exact Eq.mp (congrArg (fun c=>ae Q c (rk f119 K) xf (rk f119 K) (aA ac a1 b2 l8 dt i10 j11 im C7 C8 zf) w) (by kernel_rfl:(rep [0,1] (cd f119 [1,1,1,1,1,1,0,1]) (cd f119 [1,1,1,1,1,1]))=(cd f119 [1,1,1,1,1,1]))) (qO (cd f119 [1,1,1,1,1,1,0,1]) h)
theorem qQ {K:KV}(d:KE)(j:Code){ac a1 b2 l8 dt i10 j11 im C7 C8:Value}{zf:Nat→Value}{w:World}(h:cond C7 (bin Q .geq 3 false true l8 (ci 50) (fun C8=>ae Q j (ae Q (cd f119 [1,1,1,1,1,1,0,1,0,1]) d (fun _ _ _=>False) (rk f119 K)) (fun _ _ _=>False) (rk f119 K) (aA ac a1 b2 l8 dt i10 j11 im C7 C8 (zV zf 33 [l8]))) w) (d (aA ac a1 b2 l8 dt i10 j11 im C7 C8 zf) w)):ae Q (rep [0,0,1] j (cd f119 [1,1,1,1,1,1,0,1])) d xf (rk f119 K) (aA ac a1 b2 l8 dt i10 j11 im C7 C8 zf) w:=Eq.mp (by kernel_rfl) h
theorem qR (h:cond C7 (bin Q .geq 3 false true l8 (ci 50) (fun C8=>iq K (aA ac a1 b2 l8 dt i10 j11 im C7 C8 (zV zf 33 [l8]))) w) (bG K (aA ac a1 b2 l8 dt i10 j11 im C7 C8 zf) w)):ip K (aA ac a1 b2 l8 dt i10 j11 im C7 C8 zf) w:=by
 delta ip
 exact Eq.mp (congrArg (fun c=>ae Q c (bG K) xf (rk f119 K) (aA ac a1 b2 l8 dt i10 j11 im C7 C8 zf) w) (by kernel_rfl:(rep [0,0,1] (cd f119 [1,1,1,1,1,1,0,1,0,0,1]) (cd f119 [1,1,1,1,1,1,0,1]))=(cd f119 [1,1,1,1,1,1,0,1]))) (qQ (bG K) (cd f119 [1,1,1,1,1,1,0,1,0,0,1]) h)
theorem qS {K:KV}(d:KE){ac a1 b2 l8 dt i10 j11 im C7 C8:Value}{zf:Nat→Value}{w:World}(h:cond C8 (call Q 132 #[ac,i10,dt] (fun C9=>call Q 132 #[ac,j11,dt] fun D0=>call Q 132 #[ac,im,dt] fun D1=>d (aA ac a1 b2 l8 dt C9 D0 D1 C7 C8 (zV zf 35 [ac,i10,C9,ac,j11,D0,ac,im,D1]))) w) (d (aA ac a1 b2 l8 dt i10 j11 im C7 C8 zf) w)):ae Q (cd f119 [1,1,1,1,1,1,0,1,0,0,1]) d xf (rk f119 K) (aA ac a1 b2 l8 dt i10 j11 im C7 C8 zf) w:=Eq.mp (by kernel_rfl) h
theorem qT (h:cond C8 (call Q 132 #[ac,i10,dt] (fun C9=>call Q 132 #[ac,j11,dt] fun D0=>call Q 132 #[ac,im,dt] fun D1=>cv K (aA ac a1 b2 l8 dt C9 D0 D1 C7 C8 (zV zf 35 [ac,i10,C9,ac,j11,D0,ac,im,D1]))) w) (cv K (aA ac a1 b2 l8 dt i10 j11 im C7 C8 zf) w)):iq K (aA ac a1 b2 l8 dt i10 j11 im C7 C8 zf) w:=by
 delta iq
 exact Eq.mp (congrArg (fun c=>ae Q c (cv K) xf (rk f119 K) (aA ac a1 b2 l8 dt i10 j11 im C7 C8 zf) w) (by kernel_rfl:(cd f119 [1,1,1,1,1,1,0,1,0,0,1])=(cd f119 [1,1,1,1,1,1,0,1,0,0,1]))) (qS (cv K) h)
theorem qU {K:KV}{ac a1 b2 l8 dt i10 j11 im C7 C8:Value}{zf:Nat→Value}{w:World}(h:ld Q 3 dt (fun D3=>bin Q .eql 3 false true D3 (ci 0) fun D4 w=>cond D4 (K (Value.tuple #[j11,ci 1]) w) (bin Q .eql 3 false true D3 (ci 12) (fun D5 w=>cond D5 (K (Value.tuple #[j11,ci 2]) w) (K (Value.tuple #[j11,ci 0]) w)) w)) w):ae Q (cd f119 [1,1,1,1,1,1,1]) (rk f119 K) xf (rk f119 K) (aA ac a1 b2 l8 dt i10 j11 im C7 C8 zf) w:=Eq.mp (by kernel_rfl) h
theorem qV (h:ld Q 3 dt (fun D3=>bin Q .eql 3 false true D3 (ci 0) fun D4 w=>cond D4 (K (Value.tuple #[j11,ci 1]) w) (bin Q .eql 3 false true D3 (ci 12) (fun D5 w=>cond D5 (K (Value.tuple #[j11,ci 2]) w) (K (Value.tuple #[j11,ci 0]) w)) w)) w):bG K (aA ac a1 b2 l8 dt i10 j11 im C7 C8 zf) w:=by
 delta bG
 exact Eq.mp (congrArg (fun c=>ae Q c (rk f119 K) xf (rk f119 K) (aA ac a1 b2 l8 dt i10 j11 im C7 C8 zf) w) (by kernel_rfl:(cd f119 [1,1,1,1,1,1,1])=(cd f119 [1,1,1,1,1,1,1]))) (qU h)
theorem qW {K:KV}(d:KE){ac a1 b2 l8 dt i10 j11 im C7 C8:Value}{zf:Nat→Value}{w:World}(h:call Q 133 #[ac,i10,j11,im,dt] (fun D2=>d (aA ac a1 b2 l8 dt i10 D2 im C7 C8 (zV zf 44 [ac,i10,j11,im,D2]))) w):ae Q (cd f119 [1,1,1,1,1,1,0,1,0,1]) d xf (rk f119 K) (aA ac a1 b2 l8 dt i10 j11 im C7 C8 zf) w:=Eq.mp (by kernel_rfl) h
theorem qX (h:call Q 133 #[ac,i10,j11,im,dt] (fun D2=>bG K (aA ac a1 b2 l8 dt i10 D2 im C7 C8 (zV zf 44 [ac,i10,j11,im,D2]))) w):cv K (aA ac a1 b2 l8 dt i10 j11 im C7 C8 zf) w:=by
 delta cv
 exact Eq.mp (congrArg (fun c=>ae Q c (bG K) xf (rk f119 K) (aA ac a1 b2 l8 dt i10 j11 im C7 C8 zf) w) (by kernel_rfl:(cd f119 [1,1,1,1,1,1,0,1,0,1])=(cd f119 [1,1,1,1,1,1,0,1,0,1]))) (qW (bG K) h)
end
attribute [irreducible] io bG ip cv iq
theorem qG {K:KV}{ac a1 d:Value}{w:World}(h:bin Q .sub 3 false true a1 (ci 1) (fun A0=>nC a1 fun A1=>call Q 133 #[ac,A0,a1,A1,d] K) w):Gives Q 132 #[ac,a1,d] w K:=by
 refine aH func132 (by kernel_rfl) ?_;exact mpK h
theorem ug {K:KV}{ac a1 b2 j d:Value}{w:World}(h:call Q 134 #[ac,a1,b2,d] (fun A4=>ext Q A4 0 fun A5=>ext Q A4 1 fun A6=>call Q 134 #[ac,A6,j,d] fun C2=>ext Q C2 0 fun C3=>ext Q C2 1 fun _=>call Q 134 #[ac,A5,C3,d] fun C7=>ext Q C7 0 fun _=>ext Q C7 1 K) w):Gives Q 133 #[ac,a1,b2,j,d] w K:=by
 refine aH func133 (by kernel_rfl) ?_;exact mpK h
theorem uh {K:KV}{ac a1 b2 d:Value}{w:World}(h:aK (fun S w=>hI S 76 ac b2 fun A1=>hL S 24 A1 fun A2=>hI S 76 ac a1 fun A4=>hL S 24 A4 fun A5=>call Q 122 #[A2,A5] (fun A6 w=>cond A6 (bo d (fun A8=>ld Q 3 A8 fun A9=>nC A9 fun C0=>bo d fun C1=>sto Q 3 C1 C0 fun _=>K (Value.tuple #[b2,a1])) w) (K (Value.tuple #[a1,b2]) w)) w) w.drew):Gives Q 134 #[ac,a1,b2,d] w K:=by
 refine aH func134 (by kernel_rfl) ?_;exact mpK h
end
section
open Go.RowKit
def fC (ac a1 b2 pL lo7 hi8 i9 i10:Value)(zf:Nat→Value):List Value:=ac::a1::b2::zT zf 3 3 (pL::lo7::hi8::i9::i10::zT zf 11 45 ([]))
def dI (K:KV):KE:=ae Q (cd f117 [1,1,1,1]) (rk f117 K) xf (rk f117 K)
def ja (K:KV):KE:=ae Q (cd f117 [1,1,1,0,1,0]) (dI K) (xx xf (dI K) 0) (rk f117 K)
def jb (K:KV):KE:=ae Q (cd f117 [1,1,1,1,1,0]) (rk f117 K) (xx xf (rk f117 K) 2) (rk f117 K)
section
variable {K:KV}{ac a1 b2 pL lo7 hi8 i9 i10:Value}{zf:Nat→Value}{w:World}
theorem tI {K:KV}{ac a1 b2:Value}{w:World}(h:bin Q .sub 3 false false b2 a1 (fun A3=>bin Q .sub 3 false true A3 (ci 1) fun A4=>bin Q .quo 3 false true A4 (ci 2) fun A5=>ja K (fC ac a1 b2 a1 (ci 0) A3 A5 uu (zV zu 11 [a1,b2,a1,A3,A3,A4,A5]))) w):Gives Q 117 #[ac,a1,b2] w K:=by
 refine aH func117 (by kernel_rfl) ?_;revert h;delta ja dI;exact mpF
theorem si (Inv:Value→World→Prop)(μ:Value→World→Nat)(h0:Inv i9 w)(u:∀(d:Value) (C:Nat→Value) (w:World) (m:Nat),Inv d w→m=μ d w →
  bin Q .geq 3 false true d (ci 0) (fun A7 w=>cond A7 (call Q 131 #[ac,d,hi8,pL] (fun _=>bin Q .sub 3 false true d (ci 1) fun A9 w=>(Inv A9 w)∧((μ A9 w)<m)) w) (dI K (fC ac a1 b2 pL lo7 hi8 d i10 (zV C 18 [d,A7])) w)) w):ja K (fC ac a1 b2 pL lo7 hi8 i9 i10 zf) w:=by
 refine aQ (cd f117 [1,1,1,0,1,0,0]) (zr [(9,1),(18,9)]) (by kernel_rfl) (fun e2 j=>Inv (gd e2 9) j) (fun e2 j=>μ (gd e2 9) j) h0 ?_;intro e' w' hI;have h:=u (gd e' 9) (zM zf (fun i=>gd e' i) (zr [(9,1),(18,9)])) w' _ hI rfl;revert h;generalize (dI K)=qc0;exact mpF
theorem sj (h:bin Q .sub 3 false true hi8 (ci 1) (fun C6=>jb K (fC ac a1 b2 pL lo7 hi8 i9 C6 (zV zf 27 [hi8,C6]))) w):dI K (fC ac a1 b2 pL lo7 hi8 i9 i10 zf) w:=by
 delta dI;revert h;delta jb;exact mpF
theorem sm (Inv:Value→World→Prop)(μ:Value→World→Nat)(h0:Inv i10 w)(u:∀(d:Value) (C:Nat→Value) (w:World) (m:Nat),Inv d w→m=μ d w →
  bin Q .geq 3 false true d (ci 0) (fun C8 w=>cond C8 (aK (fun S w=>hld (fun _=>True) (bin Q .add 3 false false pL d) fun D6=>hld (fun _=>True) (bin Q .add 3 false false pL d) fun E0=>hI S 76 ac E0 fun E1=>hL S 24 E1 fun E2=>hI S 76 ac pL fun E4=>hL S 24 E4 fun E5=>hI S 76 ac pL fun E6=>sto Q 24 E6 E2 (fun _=>aK fun S w=>hI S 76 ac D6 fun E7=>sto Q 24 E7 E5 (fun _=>call Q 131 #[ac,lo7,d,pL] fun _=>bin Q .sub 3 false true d (ci 1) fun D0 w=>(Inv D0 w)∧((μ D0 w)<m)) w) w) w.drew) (K (Value.tuple #[]) w)) w):jb K (fC ac a1 b2 pL lo7 hi8 i9 i10 zf) w:=by
 refine aQ (cd f117 [1,1,1,1,1,0,0]) (zr [(10,1),(29,27)]) (by kernel_rfl) (fun e2 j=>Inv (gd e2 10) j) (fun e2 j=>μ (gd e2 10) j) h0 ?_;intro e' w' hI;have h:=u (gd e' 10) (zM zf (fun i=>gd e' i) (zr [(10,1),(29,27)])) w' _ hI rfl;exact mpK h
end
attribute [irreducible] dI ja jb
def du (ac hi2 gF pb lF C0 C1 C2 C3 C4 C5 C6 C7 C8 C9 D0 D1 D2 D3 D4:Value)(zf:Nat→Value):List Value:=ac::zf 1::hi2::gF::zT zf 4 4 (pb::lF::zT zf 10 12 (C0::C1::C2::C3::C4::C5::C6::C7::C8::C9::D0::D1::D2::D3::D4::zT zf 37 39 ([])))
def jc (K:KV):KE:=ae Q (cd f131 [1,0]) (rk f131 K) (xx xf (rk f131 K) 0) (rk f131 K)
def d9 (K:KV)(B1:KE):KE:=ae Q (cd f131 [1,0,0,0,1,1,1]) B1 (xx (xx xf (rk f131 K) 0) B1 1) (rk f131 K)
def gy (K:KV)(B1:KE):KE:=ae Q (cd f131 [1,0,0,0,1,1,0,1]) (d9 K B1) (xx (xx xf (rk f131 K) 0) B1 1) (rk f131 K)
section
variable {K:KV}{ac hi2 gF pb lF C0 C1 C2 C3 C4 C5 C6 C7 C8 C9 D0 D1 D2 D3 D4:Value}{zf:Nat→Value}{w:World}
theorem tJ {K:KV}{ac d hi2 gF:Value}{w:World}(h:jc K (du ac hi2 gF d uu uu uu uu uu uu uu uu uu uu uu uu uu uu uu uu (zV (zV zu 1 [d]) 10 [d])) w):Gives Q 131 #[ac,d,hi2,gF] w K:=by
 refine aH func131 (by kernel_rfl) ?_;revert h;delta jc;exact mpF
theorem sr (Inv:vI 15)(μ:vM 15)(h0:Inv pb C0 C1 C2 C3 C4 C5 C6 C7 C8 C9 D0 D1 D2 D3 w)(hs:∀(root8' C0' C1' C2' C3' C4' C5' C6' C7' C8' C9' D0' D1' D2' D3':Value) (dd:Nat→Value) (w:World) (m:Nat),Inv root8' C0' C1' C2' C3' C4' C5' C6' C7' C8' C9' D0' D1' D2' D3' w→m=μ root8' C0' C1' C2' C3' C4' C5' C6' C7' C8' C9' D0' D1' D2' D3' w →
  bin Q .mul 3 true false (ci 2) root8' (fun A1=>nC A1 fun A2=>bin Q .geq 3 false false A2 hi2 fun A4 w=>cond A4 (K (Value.tuple #[]) w) (sti (bin Q .add 3 false true A2 (ci 1)) (fun A6=>sti (bin Q .lss 3 false false A6 hi2) fun A8 w=>aJ A8 true (fun k22=>sti (bin Q .add 3 false false gF A2) (fun C3=>sI 76 ac C3 fun C4=>sL 24 C4 fun C5=>sti (bin Q .add 3 false false gF A2) fun C9=>sti (bin Q .add 3 false true C9 (ci 1)) fun D0=>sI 76 ac D0 fun D1=>sL 24 D1 fun D2=>sti (call Q 122 #[C5,D2]) fun D3=>k22 [ac,gF,A2,C3,C4,C5,ac,gF,A2,C9,D0,D1,D2,D3]) w) (fun k=>k [uu,uu,uu,uu,uu,uu,uu,uu,uu,uu,uu,uu,uu,uu] w) fun us22=>sti (pick A8 (gd us22 13) cF) fun D4=>gy K (fun e2 w2=>(Inv (gd e2 8) (gd e2 22) (gd e2 23) (gd e2 24) (gd e2 25) (gd e2 26) (gd e2 27) (gd e2 28) (gd e2 29) (gd e2 30) (gd e2 31) (gd e2 32) (gd e2 33) (gd e2 34) (gd e2 35) w2)∧((μ (gd e2 8) (gd e2 22) (gd e2 23) (gd e2 24) (gd e2 25) (gd e2 26) (gd e2 27) (gd e2 28) (gd e2 29) (gd e2 30) (gd e2 31) (gd e2 32) (gd e2 33) (gd e2 34) (gd e2 35) w2)<m)) (du ac hi2 gF root8' A2 (gd us22 0) (gd us22 1) (gd us22 2) (gd us22 3) (gd us22 4) (gd us22 5) (gd us22 6) (gd us22 7) (gd us22 8) (gd us22 9) (gd us22 10) (gd us22 11) (gd us22 12) (gd us22 13) D4 (zV dd 11 [root8',A1,A2,A2,hi2,A4,A2,A6,hi2,A8,A8]))) w.drew)) w):jc K (du ac hi2 gF pb lF C0 C1 C2 C3 C4 C5 C6 C7 C8 C9 D0 D1 D2 D3 D4 zf) w:=by
 refine aQ (cd f131 [1,0,0]) (zr [(8,2),(11,65)]) (by kernel_rfl) (fun e2 w2=>Inv (gd e2 8) (gd e2 22) (gd e2 23) (gd e2 24) (gd e2 25) (gd e2 26) (gd e2 27) (gd e2 28) (gd e2 29) (gd e2 30) (gd e2 31) (gd e2 32) (gd e2 33) (gd e2 34) (gd e2 35) w2) (fun e2 w2=>μ (gd e2 8) (gd e2 22) (gd e2 23) (gd e2 24) (gd e2 25) (gd e2 26) (gd e2 27) (gd e2 28) (gd e2 29) (gd e2 30) (gd e2 31) (gd e2 32) (gd e2 33) (gd e2 34) (gd e2 35) w2) h0 ?_
 intro e' w' hI
 have h:=hs (gd e' 8) (gd e' 22) (gd e' 23) (gd e' 24) (gd e' 25) (gd e' 26) (gd e' 27) (gd e' 28) (gd e' 29) (gd e' 30) (gd e' 31) (gd e' 32) (gd e' 33) (gd e' 34) (gd e' 35) (zM zf (fun i=>gd e' i) (zr [(8,2),(11,65)])) w' _ hI rfl
 refine Eq.mp (congrArg (fun c=>ae Q c _ _ _ _ w') (by kernel_rfl:(rep [0,1,1,0,1] (cd f131 [1,0,0,0,1,1,0,1]) (cd f131 [1,0,0]))=(cd f131 [1,0,0]))) ?_
 revert h
 delta gy d9
 generalize (cd f131 [1,0,0,0,1,1,0,1])=xc0
 exact mpF
theorem nG {B1:KE}(h:cond D4 (nC lF (fun D6=>d9 K B1 (du ac hi2 gF pb D6 C0 C1 C2 C3 C4 C5 C6 C7 C8 C9 D0 D1 D2 D3 D4 (zV zf 37 [lF,D6]))) w) (d9 K B1 (du ac hi2 gF pb lF C0 C1 C2 C3 C4 C5 C6 C7 C8 C9 D0 D1 D2 D3 D4 zf) w)):gy K B1 (du ac hi2 gF pb lF C0 C1 C2 C3 C4 C5 C6 C7 C8 C9 D0 D1 D2 D3 D4 zf) w:=by
 delta gy;revert h;generalize (d9 K B1)=qc0;exact mpF
theorem ss {B1:KE}(h:aK (fun S w=>hld (fun _=>True) (bin Q .add 3 false false gF pb) fun E0=>hI S 76 ac E0 fun E1=>hL S 24 E1 fun E2=>hld (fun _=>True) (bin Q .add 3 false false gF lF) fun E5=>hI S 76 ac E5 fun E6=>hL S 24 E6 fun E7=>call Q 122 #[E2,E7] (fun E8=>aK fun S w=>hld S (un Q .not E8) fun E9=>cond E9 (K (Value.tuple #[]) w) (aK (fun S w=>hld (fun _=>True) (bin Q .add 3 false false gF pb) fun F3=>hld (fun _=>True) (bin Q .add 3 false false gF lF) fun F7=>hld (fun _=>True) (bin Q .add 3 false false gF lF) fun F9=>hI S 76 ac F9 fun G0=>hL S 24 G0 fun G1=>hld (fun _=>True) (bin Q .add 3 false false gF pb) fun G2=>hI S 76 ac G2 fun G3=>hL S 24 G3 fun G4=>hI S 76 ac F3 fun G5=>sto Q 24 G5 G1 (fun _=>aK fun S w=>hI S 76 ac F7 fun G6=>sto Q 24 G6 G4 (fun _=>B1 (du ac hi2 gF lF lF C0 C1 C2 C3 C4 C5 C6 C7 C8 C9 D0 D1 D2 D3 D4 (zV zf 39 [ac,gF,pb,E0,E1,E2,ac,gF,lF,E5,E6,E7,E8,E9,ac,gF,pb,F3,ac,gF,lF,F7,ac,gF,lF,F9,G0,G1,ac,gF,pb,G2,G3,G4,G5,G6,lF]))) w) w) w.drew)) w) w.drew):d9 K B1 (du ac hi2 gF pb lF C0 C1 C2 C3 C4 C5 C6 C7 C8 C9 D0 D1 D2 D3 D4 zf) w:=by
 delta d9;exact mpK h
end
attribute [irreducible] jc d9 gy
def nm (ac a1 b2 i6 j7:Value)(zf:Nat→Value):List Value:=ac::a1::b2::zT zf 3 3 (i6::j7::zT zf 8 24 ([]))
def gV (K:KV):KE:=ae Q (cd f120 [1,1,0]) (rk f120 K) (xx xf (rk f120 K) 0) (rk f120 K)
section
variable {K:KV}{ac a1 b2 i6 j7:Value}{zf:Nat→Value}{w:World}
theorem rc {K:KV}{ac a1 b2:Value}{w:World}(h:bin Q .sub 3 false true b2 (ci 1) (fun A0=>gV K (nm ac a1 b2 a1 A0 (zV zu 8 [a1,b2,A0]))) w):Gives Q 120 #[ac,a1,b2] w K:=by
 refine aH func120 (by kernel_rfl) ?_;revert h;delta gV;exact mpF
theorem qH (Inv:Value→Value→World→Prop)(μ:Value→Value→World→Nat)(h0:Inv i6 j7 w)(C:∀(d j:Value) (I:Nat→Value) (w:World) (m:Nat),Inv d j w→m=μ d j w →
  lS d j (fun A2 w=>cond A2 (aK (fun S w=>hI S 76 ac j fun A8=>hL S 24 A8 fun A9=>hI S 76 ac d fun C2=>hL S 24 C2 fun C3=>hI S 76 ac d fun C4=>sto Q 24 C4 A9 (fun _=>aK fun S w=>hI S 76 ac j fun C5=>sto Q 24 C5 C3 (fun _=>nC d fun C7=>bin Q .sub 3 false true j (ci 1) fun C9 w=>(Inv C7 C9 w)∧((μ C7 C9 w)<m)) w) w) w.drew) (K (Value.tuple #[]) w)) w):gV K (nm ac a1 b2 i6 j7 zf) w:=by
 refine aQ (cd f120 [1,1,0,0]) (zr [(6,2),(11,21)]) (by kernel_rfl) (fun e2 u=>Inv (gd e2 6) (gd e2 7) u) (fun e2 u=>μ (gd e2 6) (gd e2 7) u) h0 ?_;intro e' w' hI;have h:=C (gd e' 6) (gd e' 7) (zM zf (fun i=>gd e' i) (zr [(6,2),(11,21)])) w' _ hI rfl;exact mpK h
end
attribute [irreducible] gV
def aF (ac a1 b2 a5 i10 j11 D2 D3 D4 D5 D6 D7 D8 D9 E0 E7 E8 E9 F0 F1 F2 F3 F4 F5 F6 I0 I1 I2 I3 I4 I5 I6 I7 I8 J2 J3 J4 J5 J6 J7 J8 J9 L0 L1:Value)(zf:Nat→Value):List Value:=ac::a1::b2::zf 3::zf 4::a5::zT zf 6 4 (i10::j11::zT zf 12 22 (D2::D3::D4::D5::D6::D7::D8::D9::E0::zT zf 43 7 (E7::E8::E9::F0::F1::F2::F3::F4::F5::F6::zT zf 60 43 (I0::I1::I2::I3::I4::I5::I6::I7::I8::zT zf 112 7 (J2::J3::J4::J5::J6::J7::J8::J9::L0::L1::zT zf 129 39 ([]))))))
def cM (K:KV):KE:=ae Q (cd f124 [1,1,1,1]) (rk f124 K) xf (rk f124 K)
def iJ (K:KV):KE:=ae Q (cd f124 [1,1,1,0,0]) (cM K) (xx xf (cM K) 0) (rk f124 K)
def cP (K:KV):KE:=ae Q (cd f124 [1,1,1,1,1]) (rk f124 K) xf (rk f124 K)
def iK (K:KV):KE:=ae Q (cd f124 [1,1,1,1,0,0]) (cP K) (xx xf (cP K) 2) (rk f124 K)
def fW (K:KV):KE:=ae Q (cd f124 [1,1,1,1,1,1,1]) (rk f124 K) xf (rk f124 K)
def bc (K:KV):KE:=ae Q (cd f124 [1,1,1,1,1,1,1,1,1,1]) (rk f124 K) xf (rk f124 K)
def iL (K:KV):KE:=ae Q (cd f124 [1,1,1,1,1,1,1,1,1,0,0]) (bc K) (xx xf (bc K) 4) (rk f124 K)
def cR (K:KV)(B1:KE):KE:=ae Q (cd f124 [1,1,1,1,1,1,1,1,1,0,0,0,0,1]) B1 (xx (xx xf (bc K) 4) B1 5) (rk f124 K)
def fX (K:KV)(B1:KE):KE:=ae Q (cd f124 [1,1,1,1,1,1,1,1,1,0,0,0,0,0,0]) (cR K B1) (xx (xx (xx xf (bc K) 4) B1 5) (cR K B1) 6) (rk f124 K)
def cS (K:KV)(B1:KE):KE:=ae Q (cd f124 [1,1,1,1,1,1,1,1,1,0,0,0,0,1,1]) B1 (xx (xx xf (bc K) 4) B1 5) (rk f124 K)
def iM (K:KV)(B1:KE):KE:=ae Q (cd f124 [1,1,1,1,1,1,1,1,1,0,0,0,0,1,0,0]) (cS K B1) (xx (xx (xx xf (bc K) 4) B1 5) (cS K B1) 8) (rk f124 K)
section
variable {K:KV}{ac a1 b2 a5 i10 j11 D2 D3 D4 D5 D6 D7 D8 D9 E0 E7 E8 E9 F0 F1 F2 F3 F4 F5 F6 I0 I1 I2 I3 I4 I5 I6 I7 I8 J2 J3 J4 J5 J6 J7 J8 J9 L0 L1:Value}{zf:Nat→Value}{w:World}
theorem sE {K:KV}{ac a1 b2 d:Value}{w:World}(h:aK (fun S w=>hI S 76 ac d fun A6=>hL S 24 A6 fun A7=>hI S 76 ac a1 fun C0=>hL S 24 C0 fun C1=>hI S 76 ac a1 fun C2=>sto Q 24 C2 A7 (fun _=>aK fun S w=>hI S 76 ac d fun C3=>sto Q 24 C3 C1 (fun _=>nC a1 fun C5=>bin Q .sub 3 false true b2 (ci 1) fun C7=>iJ K (aF ac a1 b2 uu C5 C7 uu uu uu uu uu uu uu uu uu uu uu uu uu uu uu uu uu uu uu uu uu uu uu uu uu uu uu uu uu uu uu uu uu uu uu uu uu uu (zV (zV (zV zu 3 [d]) 8 [ci 0,cF]) 12 [ac,a1,ac,d,ac,d,A6,A7,ac,a1,C0,C1,C2,C3,a1,C5,b2,C7]))) w) w) w.drew):Gives Q 124 #[ac,a1,b2,d] w K:=by
 refine aH func124 (by kernel_rfl) ?_;revert h;delta iJ cM;exact mpF
theorem rI (Inv:vI 10)(μ:vM 10)(h0:Inv i10 D2 D3 D4 D5 D6 D7 D8 D9 E0 w)(hs:∀(j M J X C I U V u R:Value) (dd:Nat→Value) (w:World) (m:Nat),Inv j M J X C I U V u R w→m=μ j M J X C I U V u R w →
  sti (bin Q .leq 3 false false j j11) (fun D0 w=>aJ D0 true (fun ad=>sI 76 ac j (fun D4=>sL 24 D4 fun D5=>sI 76 ac a1 fun D8=>sL 24 D8 fun D9=>sti (call Q 122 #[D5,D9]) fun E0=>ad [ac,j,D4,D5,ac,a1,D8,D9,E0]) w) (fun k=>k [uu,uu,uu,uu,uu,uu,uu,uu,uu] w) fun d=>sti (pick D0 (gd d 8) cF) fun E1 w=>cond E1 (nC j (fun E3 w=>(Inv E3 (gd d 0) (gd d 1) (gd d 2) (gd d 3) (gd d 4) (gd d 5) (gd d 6) (gd d 7) (gd d 8) w)∧((μ E3 (gd d 0) (gd d 1) (gd d 2) (gd d 3) (gd d 4) (gd d 5) (gd d 6) (gd d 7) (gd d 8) w)<m)) w) (cM K (aF ac a1 b2 a5 j j11 (gd d 0) (gd d 1) (gd d 2) (gd d 3) (gd d 4) (gd d 5) (gd d 6) (gd d 7) (gd d 8) E7 E8 E9 F0 F1 F2 F3 F4 F5 F6 I0 I1 I2 I3 I4 I5 I6 I7 I8 J2 J3 J4 J5 J6 J7 J8 J9 L0 L1 (zV (zV dd 30 [j,j11,D0,D0]) 43 [E1])) w)) w.drew):iJ K (aF ac a1 b2 a5 i10 j11 D2 D3 D4 D5 D6 D7 D8 D9 E0 E7 E8 E9 F0 F1 F2 F3 F4 F5 F6 I0 I1 I2 I3 I4 I5 I6 I7 I8 J2 J3 J4 J5 J6 J7 J8 J9 L0 L1 zf) w:=by
 refine aQ (cd f124 [1,1,1,0,0,0]) (zr [(10,1),(30,16)]) (by kernel_rfl) (fun e2 Z=>Inv (gd e2 10) (gd e2 34) (gd e2 35) (gd e2 36) (gd e2 37) (gd e2 38) (gd e2 39) (gd e2 40) (gd e2 41) (gd e2 42) Z) (fun e2 Z=>μ (gd e2 10) (gd e2 34) (gd e2 35) (gd e2 36) (gd e2 37) (gd e2 38) (gd e2 39) (gd e2 40) (gd e2 41) (gd e2 42) Z) h0 ?_;intro e' w' hI
 have h:=hs (gd e' 10) (gd e' 34) (gd e' 35) (gd e' 36) (gd e' 37) (gd e' 38) (gd e' 39) (gd e' 40) (gd e' 41) (gd e' 42) (zM zf (fun i=>gd e' i) (zr [(10,1),(30,16)])) w' _ hI rfl;revert h;generalize (cM K)=qc0;exact mpF
theorem rJ (h:iK K (aF ac a1 b2 a5 i10 j11 D2 D3 D4 D5 D6 D7 D8 D9 E0 E7 E8 E9 F0 F1 F2 F3 F4 F5 F6 I0 I1 I2 I3 I4 I5 I6 I7 I8 J2 J3 J4 J5 J6 J7 J8 J9 L0 L1 zf) w):cM K (aF ac a1 b2 a5 i10 j11 D2 D3 D4 D5 D6 D7 D8 D9 E0 E7 E8 E9 F0 F1 F2 F3 F4 F5 F6 I0 I1 I2 I3 I4 I5 I6 I7 I8 J2 J3 J4 J5 J6 J7 J8 J9 L0 L1 zf) w:=by
 delta cM;revert h;delta iK cP;exact mpF
theorem rK (Inv:vI 11)(μ:vM 11)(h0:Inv j11 E7 E8 E9 F0 F1 F2 F3 F4 F5 F6 w)(hs:∀(j C u I J X Z R U V M:Value) (dd:Nat→Value) (w:World) (m:Nat),Inv j C u I J X Z R U V M w→m=μ j C u I J X Z R U V M w →
  sti (bin Q .leq 3 false false i10 j) (fun E5 w=>aJ E5 true (fun ad=>sI 76 ac j (fun E9=>sL 24 E9 fun F0=>sI 76 ac a1 fun F3=>sL 24 F3 fun F4=>sti (call Q 122 #[F0,F4]) fun F5=>sti (un Q .not F5) fun F6=>ad [ac,j,E9,F0,ac,a1,F3,F4,F5,F6]) w) (fun k=>k [uu,uu,uu,uu,uu,uu,uu,uu,uu,uu] w) fun d=>sti (pick E5 (gd d 9) cF) fun F7 w=>cond F7 (bin Q .sub 3 false true j (ci 1) (fun F8 w=>(Inv F8 (gd d 0) (gd d 1) (gd d 2) (gd d 3) (gd d 4) (gd d 5) (gd d 6) (gd d 7) (gd d 8) (gd d 9) w)∧((μ F8 (gd d 0) (gd d 1) (gd d 2) (gd d 3) (gd d 4) (gd d 5) (gd d 6) (gd d 7) (gd d 8) (gd d 9) w)<m)) w) (cP K (aF ac a1 b2 a5 i10 j D2 D3 D4 D5 D6 D7 D8 D9 E0 (gd d 0) (gd d 1) (gd d 2) (gd d 3) (gd d 4) (gd d 5) (gd d 6) (gd d 7) (gd d 8) (gd d 9) I0 I1 I2 I3 I4 I5 I6 I7 I8 J2 J3 J4 J5 J6 J7 J8 J9 L0 L1 (zV (zV dd 46 [i10,j,E5,E5]) 60 [F7])) w)) w.drew):iK K (aF ac a1 b2 a5 i10 j11 D2 D3 D4 D5 D6 D7 D8 D9 E0 E7 E8 E9 F0 F1 F2 F3 F4 F5 F6 I0 I1 I2 I3 I4 I5 I6 I7 I8 J2 J3 J4 J5 J6 J7 J8 J9 L0 L1 zf) w:=by
 refine aQ (cd f124 [1,1,1,1,0,0,0]) (zr [(11,1),(46,17)]) (by kernel_rfl) (fun e2 w2=>Inv (gd e2 11) (gd e2 50) (gd e2 51) (gd e2 52) (gd e2 53) (gd e2 54) (gd e2 55) (gd e2 56) (gd e2 57) (gd e2 58) (gd e2 59) w2) (fun e2 w2=>μ (gd e2 11) (gd e2 50) (gd e2 51) (gd e2 52) (gd e2 53) (gd e2 54) (gd e2 55) (gd e2 56) (gd e2 57) (gd e2 58) (gd e2 59) w2) h0 ?_;intro e' w' hI
 have h:=hs (gd e' 11) (gd e' 50) (gd e' 51) (gd e' 52) (gd e' 53) (gd e' 54) (gd e' 55) (gd e' 56) (gd e' 57) (gd e' 58) (gd e' 59) (zM zf (fun i=>gd e' i) (zr [(11,1),(46,17)])) w' _ hI rfl;revert h;generalize (cP K)=qc0;exact mpF
theorem rL (h:bin Q .gtr 3 false false i10 j11 (fun G0 w=>cond G0 (aK (fun S w=>hI S 76 ac a1 fun G4=>hL S 24 G4 fun G5=>hI S 76 ac j11 fun G7=>hL S 24 G7 fun G8=>hI S 76 ac j11 fun G9=>sto Q 24 G9 G5 (fun _=>aK fun S w=>hI S 76 ac a1 fun H0=>sto Q 24 H0 G8 (fun _=>K (Value.tuple #[j11,cT])) w) w) w.drew) (aK (fun S w=>hI S 76 ac j11 fun H1=>hL S 24 H1 fun H2=>hI S 76 ac i10 fun H3=>hL S 24 H3 fun H4=>hI S 76 ac i10 fun H5=>sto Q 24 H5 H2 (fun _=>aK fun S w=>hI S 76 ac j11 fun H6=>sto Q 24 H6 H4 (fun _=>fW K (aF ac a1 b2 a5 i10 j11 D2 D3 D4 D5 D6 D7 D8 D9 E0 E7 E8 E9 F0 F1 F2 F3 F4 F5 F6 I0 I1 I2 I3 I4 I5 I6 I7 I8 J2 J3 J4 J5 J6 J7 J8 J9 L0 L1 (zV (zV zf 63 [i10,j11,G0]) 81 [ac,i10,ac,j11,ac,j11,H1,H2,ac,i10,H3,H4,H5,H6]))) w) w) w.drew)) w):cP K (aF ac a1 b2 a5 i10 j11 D2 D3 D4 D5 D6 D7 D8 D9 E0 E7 E8 E9 F0 F1 F2 F3 F4 F5 F6 I0 I1 I2 I3 I4 I5 I6 I7 I8 J2 J3 J4 J5 J6 J7 J8 J9 L0 L1 zf) w:=by
 delta cP
 refine Eq.mp (congrArg (fun c=>ae Q c _ _ _ _ w) (by kernel_rfl:(rep [1,1] (cd f124 [1,1,1,1,1,1,1]) (cd f124 [1,1,1,1,1]))=(cd f124 [1,1,1,1,1]))) ?_
 revert h
 delta fW
 generalize (cd f124 [1,1,1,1,1,1,1])=xc0
 exact mpF
theorem rM (h:nC i10 (fun H7=>bin Q .sub 3 false true j11 (ci 1) fun H8=>iL K (aF ac a1 b2 a5 H7 H8 D2 D3 D4 D5 D6 D7 D8 D9 E0 E7 E8 E9 F0 F1 F2 F3 F4 F5 F6 I0 I1 I2 I3 I4 I5 I6 I7 I8 J2 J3 J4 J5 J6 J7 J8 J9 L0 L1 (zV zf 95 [i10,H7,j11,H8]))) w):fW K (aF ac a1 b2 a5 i10 j11 D2 D3 D4 D5 D6 D7 D8 D9 E0 E7 E8 E9 F0 F1 F2 F3 F4 F5 F6 I0 I1 I2 I3 I4 I5 I6 I7 I8 J2 J3 J4 J5 J6 J7 J8 J9 L0 L1 zf) w:=by
 delta fW;revert h;delta iL bc;exact mpF
theorem rN (Inv:vI 21)(μ:vM 21)(h0:Inv i10 j11 I0 I1 I2 I3 I4 I5 I6 I7 I8 J2 J3 J4 J5 J6 J7 J8 J9 L0 L1 w)(hs:∀(d j R al an u az J C ap U I V ad av am X ar M ag Z:Value) (dd:Nat→Value) (w:World) (m:Nat),Inv d j R al an u az J C ap U I V ad av am X ar M ag Z w→m=μ d j R al an u az J C ap U I V ad av am X ar M ag Z w →
  fX K (fun e2 w2=>(Inv (gd e2 10) (gd e2 11) (gd e2 103) (gd e2 104) (gd e2 105) (gd e2 106) (gd e2 107) (gd e2 108) (gd e2 109) (gd e2 110) (gd e2 111) (gd e2 119) (gd e2 120) (gd e2 121) (gd e2 122) (gd e2 123) (gd e2 124) (gd e2 125) (gd e2 126) (gd e2 127) (gd e2 128) w2)∧((μ (gd e2 10) (gd e2 11) (gd e2 103) (gd e2 104) (gd e2 105) (gd e2 106) (gd e2 107) (gd e2 108) (gd e2 109) (gd e2 110) (gd e2 111) (gd e2 119) (gd e2 120) (gd e2 121) (gd e2 122) (gd e2 123) (gd e2 124) (gd e2 125) (gd e2 126) (gd e2 127) (gd e2 128) w2)<m)) (aF ac a1 b2 a5 d j D2 D3 D4 D5 D6 D7 D8 D9 E0 E7 E8 E9 F0 F1 F2 F3 F4 F5 F6 R al an u az J C ap U I V ad av am X ar M ag Z dd) w):iL K (aF ac a1 b2 a5 i10 j11 D2 D3 D4 D5 D6 D7 D8 D9 E0 E7 E8 E9 F0 F1 F2 F3 F4 F5 F6 I0 I1 I2 I3 I4 I5 I6 I7 I8 J2 J3 J4 J5 J6 J7 J8 J9 L0 L1 zf) w:=by
 refine aQ (cd f124 [1,1,1,1,1,1,1,1,1,0,0,0]) (zr [(10,2),(99,54)]) (by kernel_rfl) (fun e2 w2=>Inv (gd e2 10) (gd e2 11) (gd e2 103) (gd e2 104) (gd e2 105) (gd e2 106) (gd e2 107) (gd e2 108) (gd e2 109) (gd e2 110) (gd e2 111) (gd e2 119) (gd e2 120) (gd e2 121) (gd e2 122) (gd e2 123) (gd e2 124) (gd e2 125) (gd e2 126) (gd e2 127) (gd e2 128) w2) (fun e2 w2=>μ (gd e2 10) (gd e2 11) (gd e2 103) (gd e2 104) (gd e2 105) (gd e2 106) (gd e2 107) (gd e2 108) (gd e2 109) (gd e2 110) (gd e2 111) (gd e2 119) (gd e2 120) (gd e2 121) (gd e2 122) (gd e2 123) (gd e2 124) (gd e2 125) (gd e2 126) (gd e2 127) (gd e2 128) w2) h0 ?_
 intro e' w' hI;have h:=hs (gd e' 10) (gd e' 11) (gd e' 103) (gd e' 104) (gd e' 105) (gd e' 106) (gd e' 107) (gd e' 108) (gd e' 109) (gd e' 110) (gd e' 111) (gd e' 119) (gd e' 120) (gd e' 121) (gd e' 122) (gd e' 123) (gd e' 124) (gd e' 125) (gd e' 126) (gd e' 127) (gd e' 128) (zM zf (fun i=>gd e' i) (zr [(10,2),(99,54)])) w' _ hI rfl;revert h;delta fX cR;generalize (bc K)=qc0;exact mpF
theorem rO {B1:KE}(Inv:vI 10)(μ:vM 10)(h0:Inv i10 I0 I1 I2 I3 I4 I5 I6 I7 I8 w)(hs:∀(j Z R U u X M I V C:Value) (dd:Nat→Value) (w:World) (m:Nat),Inv j Z R U u X M I V C w→m=μ j Z R U u X M I V C w →
  sti (bin Q .leq 3 false false j j11) (fun H9 w=>aJ H9 true (fun J=>sI 76 ac j (fun I2=>sL 24 I2 fun I3=>sI 76 ac a1 fun I6=>sL 24 I6 fun I7=>sti (call Q 122 #[I3,I7]) fun I8=>J [ac,j,I2,I3,ac,a1,I6,I7,I8]) w) (fun k=>k [uu,uu,uu,uu,uu,uu,uu,uu,uu] w) fun d=>sti (pick H9 (gd d 8) cF) fun I9 w=>cond I9 (nC j (fun J0 w=>(Inv J0 (gd d 0) (gd d 1) (gd d 2) (gd d 3) (gd d 4) (gd d 5) (gd d 6) (gd d 7) (gd d 8) w)∧((μ J0 (gd d 0) (gd d 1) (gd d 2) (gd d 3) (gd d 4) (gd d 5) (gd d 6) (gd d 7) (gd d 8) w)<m)) w) (cR K B1 (aF ac a1 b2 a5 j j11 D2 D3 D4 D5 D6 D7 D8 D9 E0 E7 E8 E9 F0 F1 F2 F3 F4 F5 F6 (gd d 0) (gd d 1) (gd d 2) (gd d 3) (gd d 4) (gd d 5) (gd d 6) (gd d 7) (gd d 8) J2 J3 J4 J5 J6 J7 J8 J9 L0 L1 (zV (zV dd 99 [j,j11,H9,H9]) 112 [I9])) w)) w.drew):fX K B1 (aF ac a1 b2 a5 i10 j11 D2 D3 D4 D5 D6 D7 D8 D9 E0 E7 E8 E9 F0 F1 F2 F3 F4 F5 F6 I0 I1 I2 I3 I4 I5 I6 I7 I8 J2 J3 J4 J5 J6 J7 J8 J9 L0 L1 zf) w:=by
 refine aQ (cd f124 [1,1,1,1,1,1,1,1,1,0,0,0,0,0,0,0]) (zr [(10,1),(99,16)]) (by kernel_rfl) (fun e2 w2=>Inv (gd e2 10) (gd e2 103) (gd e2 104) (gd e2 105) (gd e2 106) (gd e2 107) (gd e2 108) (gd e2 109) (gd e2 110) (gd e2 111) w2) (fun e2 w2=>μ (gd e2 10) (gd e2 103) (gd e2 104) (gd e2 105) (gd e2 106) (gd e2 107) (gd e2 108) (gd e2 109) (gd e2 110) (gd e2 111) w2) h0 ?_;intro e' w' hI
 have h:=hs (gd e' 10) (gd e' 103) (gd e' 104) (gd e' 105) (gd e' 106) (gd e' 107) (gd e' 108) (gd e' 109) (gd e' 110) (gd e' 111) (zM zf (fun i=>gd e' i) (zr [(10,1),(99,16)])) w' _ hI rfl;revert h;generalize (bc K)=qc0;generalize (cR K B1)=qc1;exact mpF
theorem rP {B1:KE}(h:iM K B1 (aF ac a1 b2 a5 i10 j11 D2 D3 D4 D5 D6 D7 D8 D9 E0 E7 E8 E9 F0 F1 F2 F3 F4 F5 F6 I0 I1 I2 I3 I4 I5 I6 I7 I8 J2 J3 J4 J5 J6 J7 J8 J9 L0 L1 zf) w):cR K B1 (aF ac a1 b2 a5 i10 j11 D2 D3 D4 D5 D6 D7 D8 D9 E0 E7 E8 E9 F0 F1 F2 F3 F4 F5 F6 I0 I1 I2 I3 I4 I5 I6 I7 I8 J2 J3 J4 J5 J6 J7 J8 J9 L0 L1 zf) w:=by
 delta cR;revert h;delta iM cS;generalize (bc K)=qc0;exact mpF
theorem rQ {B1:KE}(Inv:vI 11)(μ:vM 11)(h0:Inv j11 J2 J3 J4 J5 J6 J7 J8 J9 L0 L1 w)(hs:∀(j u J U ad X M Z C V R:Value) (dd:Nat→Value) (w:World) (m:Nat),Inv j u J U ad X M Z C V R w→m=μ j u J U ad X M Z C V R w →
  sti (bin Q .leq 3 false false i10 j) (fun J1 w=>aJ J1 true (fun I=>sI 76 ac j (fun J4=>sL 24 J4 fun J5=>sI 76 ac a1 fun J8=>sL 24 J8 fun J9=>sti (call Q 122 #[J5,J9]) fun L0=>sti (un Q .not L0) fun L1=>I [ac,j,J4,J5,ac,a1,J8,J9,L0,L1]) w) (fun k=>k [uu,uu,uu,uu,uu,uu,uu,uu,uu,uu] w) fun d=>sti (pick J1 (gd d 9) cF) fun L2 w=>cond L2 (bin Q .sub 3 false true j (ci 1) (fun L3 w=>(Inv L3 (gd d 0) (gd d 1) (gd d 2) (gd d 3) (gd d 4) (gd d 5) (gd d 6) (gd d 7) (gd d 8) (gd d 9) w)∧((μ L3 (gd d 0) (gd d 1) (gd d 2) (gd d 3) (gd d 4) (gd d 5) (gd d 6) (gd d 7) (gd d 8) (gd d 9) w)<m)) w) (cS K B1 (aF ac a1 b2 a5 i10 j D2 D3 D4 D5 D6 D7 D8 D9 E0 E7 E8 E9 F0 F1 F2 F3 F4 F5 F6 I0 I1 I2 I3 I4 I5 I6 I7 I8 (gd d 0) (gd d 1) (gd d 2) (gd d 3) (gd d 4) (gd d 5) (gd d 6) (gd d 7) (gd d 8) (gd d 9) (zV (zV dd 115 [i10,j,J1,J1]) 129 [L2])) w)) w.drew):iM K B1 (aF ac a1 b2 a5 i10 j11 D2 D3 D4 D5 D6 D7 D8 D9 E0 E7 E8 E9 F0 F1 F2 F3 F4 F5 F6 I0 I1 I2 I3 I4 I5 I6 I7 I8 J2 J3 J4 J5 J6 J7 J8 J9 L0 L1 zf) w:=by
 refine aQ (cd f124 [1,1,1,1,1,1,1,1,1,0,0,0,0,1,0,0,0]) (zr [(11,1),(115,17)]) (by kernel_rfl) (fun e2 w2=>Inv (gd e2 11) (gd e2 119) (gd e2 120) (gd e2 121) (gd e2 122) (gd e2 123) (gd e2 124) (gd e2 125) (gd e2 126) (gd e2 127) (gd e2 128) w2) (fun e2 w2=>μ (gd e2 11) (gd e2 119) (gd e2 120) (gd e2 121) (gd e2 122) (gd e2 123) (gd e2 124) (gd e2 125) (gd e2 126) (gd e2 127) (gd e2 128) w2) h0 ?_
 intro e' w' hI;have h:=hs (gd e' 11) (gd e' 119) (gd e' 120) (gd e' 121) (gd e' 122) (gd e' 123) (gd e' 124) (gd e' 125) (gd e' 126) (gd e' 127) (gd e' 128) (zM zf (fun i=>gd e' i) (zr [(11,1),(115,17)])) w' _ hI rfl;revert h;generalize (bc K)=qc0;generalize (cS K B1)=qc1;exact mpF
theorem rR {B1:KE}(h:bin Q .gtr 3 false false i10 j11 (fun L4 w=>cond L4 (bc K (aF ac a1 b2 a5 i10 j11 D2 D3 D4 D5 D6 D7 D8 D9 E0 E7 E8 E9 F0 F1 F2 F3 F4 F5 F6 I0 I1 I2 I3 I4 I5 I6 I7 I8 J2 J3 J4 J5 J6 J7 J8 J9 L0 L1 (zV zf 132 [i10,j11,L4])) w) (aK (fun S w=>hI S 76 ac j11 fun L5=>hL S 24 L5 fun L6=>hI S 76 ac i10 fun L7=>hL S 24 L7 fun L8=>hI S 76 ac i10 fun L9=>sto Q 24 L9 L6 (fun _=>aK fun S w=>hI S 76 ac j11 fun M0=>sto Q 24 M0 L8 (fun _=>nC i10 fun M1=>bin Q .sub 3 false true j11 (ci 1) fun M2=>B1 (aF ac a1 b2 a5 M1 M2 D2 D3 D4 D5 D6 D7 D8 D9 E0 E7 E8 E9 F0 F1 F2 F3 F4 F5 F6 I0 I1 I2 I3 I4 I5 I6 I7 I8 J2 J3 J4 J5 J6 J7 J8 J9 L0 L1 (zV zf 132 [i10,j11,L4,ac,i10,ac,j11,ac,j11,L5,L6,ac,i10,L7,L8,L9,M0,i10,M1,j11,M2]))) w) w) w.drew)) w):cS K B1 (aF ac a1 b2 a5 i10 j11 D2 D3 D4 D5 D6 D7 D8 D9 E0 E7 E8 E9 F0 F1 F2 F3 F4 F5 F6 I0 I1 I2 I3 I4 I5 I6 I7 I8 J2 J3 J4 J5 J6 J7 J8 J9 L0 L1 zf) w:=by
 delta cS;revert h;generalize (bc K)=qc0;exact mpF
theorem rS (h:aK (fun S w=>hI S 76 ac a1 fun M3=>hL S 24 M3 fun M4=>hI S 76 ac j11 fun M5=>hL S 24 M5 fun M6=>hI S 76 ac j11 fun M7=>sto Q 24 M7 M4 (fun _=>aK fun S w=>hI S 76 ac a1 fun M8=>sto Q 24 M8 M6 (fun _=>K (Value.tuple #[j11,cF])) w) w) w.drew):bc K (aF ac a1 b2 a5 i10 j11 D2 D3 D4 D5 D6 D7 D8 D9 E0 E7 E8 E9 F0 F1 F2 F3 F4 F5 F6 I0 I1 I2 I3 I4 I5 I6 I7 I8 J2 J3 J4 J5 J6 J7 J8 J9 L0 L1 zf) w:=by
 delta bc;exact mpK h
end
attribute [irreducible] cM iJ cP iK fW bc iL cR fX cS iM
end
end Go.Proofs.YtgpfkmdknlcemaaGreatDoor
