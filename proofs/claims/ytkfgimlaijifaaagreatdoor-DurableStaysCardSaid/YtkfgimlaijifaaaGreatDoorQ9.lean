import Derived.Test.YtkfgimlaijifaaaGreatDoorQ8
import Derived.Test.YtkfgimlaijifaaaGreatDoorQ5
import Derived.Test.YtkfgimlaijifaaaGreatDoorQ2
import Derived.Test.YtkfgimlaijifaaaGreatDoorQ4
import Derived.Test.YtkfgimlaijifaaaGreatDoorQ7
namespace Go.Proofs.YtkfgimlaijifaaaGreatDoor
set_option maxRecDepth 100000
set_option maxHeartbeats 4000000
open Go.Proofs.Tryz
variable {w w' w0:World}{K:KV}{zf:Nat→Value}{b c n o k B i p g m j s z c2 f d B2 hi:Nat}{a av a2:Option Addr}{x r v:Int}{E t e:TypeId}{cs xs vs:List Value}{B1:KE}{P:Program}{T L:List (Int×Int)}{C:Nat→Int}{cx cy:Bool}{F:List Nat}{α:Type}{V0 W0 X0 Y0 Z0 H1 I1 J1 M1:Value}
section
attribute [local irreducible] bin un conv call aZ blt slc ai fld aL idx lkp cP eP eSt rng nxt ent ext alc box bld bg ld sto aJ cr mkS ifc pick rdy wts aG sti cond aV Gives ah dy dP cOp
section
open Go.RowKit
structure jl where
 a:Option Nat
 cap:Nat
 it:List (EV×Int)
def lrV (r:jl):Value:=.slice (r.a.map fun b=>⟨b,0,none⟩) r.it.length r.cap
def itC (x:EV×Int):List Value:=evC x.1++[u6 x.2]
def loC (R:List jl)(V:List Int)(c:Int):List Value:=R.map lrV++(vCs V++[u6 c])
theorem zbR (x:EV×Int):(itC x).length=15:=rfl
theorem zbS (x:EV×Int):∀v∈itC x,v.oneCell'=true:=by
 intro v h;rcases List.mem_append.1 h with h|h
 ·exact sY _ v h
 ·rw[mS h];rfl
theorem AW (r:jl):(lrV r).ownBlock=r.a:=by
 unfold lrV;cases r.a<;>rfl
def lrB (R:List jl):List Nat:=R.filterMap (·.a)
structure LoM (w:World) (g:Nat) (R:List jl) (V:List Int) (c:Int):Prop where
 b:blk w g 193 (loC R V c)
 l6:R.length=6
 v6:V.length=6
 row:∀(i:Nat) r,R[i]? = some r→w.ownsRow 0 274 15 (lrV r) r.it.length (r.it.flatMap itC)
 nd:∀(i j:Nat) ri rj,i≠j→R[i]? = some ri→R[j]? = some rj→∀b,ri.a=some b→rj.a≠some b
 few:∀r∈R,r.it.length≤1000000
section
variable {w w':World}{g:Nat}{R:List jl}{V:List Int}{c:Int}
theorem LoM.in (h:LoM w g R V c)(j:b∈lrB R):∃(i:Nat) (r:jl),R[i]? = some r∧r.a=some b:=by
 obtain⟨r,u,e⟩:=List.mem_filterMap.1 j;obtain⟨i,hi⟩:=List.getElem?_of_mem u;exact⟨i,r,hi,e⟩
theorem LoM.cur (h:LoM w g R V c){r:jl}(J:R[i]? = some r)(C:r.a=some b):∃cs,w.heap[b]? = some (.cells cs 274 (0,0)):=by
 rcases(h.row i r J).2 with⟨u,_⟩|⟨g,cap,j,u,_,I,_⟩
 ·have:=AW r;rw[u,C]at this;cases this
 ·have:=AW r
  rw[u,C]at this;simp only[Value.ownBlock,Option.some.injEq]at this;subst this;exact⟨j,I⟩
theorem LoM.ng (h:LoM w g R V c):g∉lrB R:=fun u=>by
 obtain⟨i,r,C,e⟩:=h.in u;obtain⟨cs,j⟩:=h.cur C e
 have:=h.b
 unfold blk at this;rw[j]at this;simp only[Option.some.injEq,Obj.cells.injEq]at this;exact absurd this.2.1 dc
theorem LoM.lt (h:LoM w g R V c):∀k∈g::lrB R,k<w.heap.size:=by
 intro k j;rcases List.mem_cons.1 j with rfl|j
 ·exact h.b.lt
 ·obtain⟨i,r,C,e⟩:=h.in j;obtain⟨cs,u⟩:=h.cur C e;exact(Array.getElem?_eq_some_iff.1 u).1
theorem LoM.keep (h:LoM w g R V c)(u:∀k∈g::lrB R,w'.heap[k]? = w.heap[k]?):LoM w' g R V c :=
 {h with
  b:=by have:=h.b;unfold blk at *; rw[u g sm];exact this
  row:=fun i r C=>cD (h.row i r C) fun k j => u k (by rw[AW]at j;exact List.mem_cons_of_mem _ (List.mem_filterMap.2 ⟨r,mO C,j⟩))}
theorem LoM.below (h:LoM w g R V c)(j:Below w.heap.size w w'):LoM w' g R V c:=h.keep fun k u=>j.block k (h.lt k u)
theorem LoM.ch (h:LoM w g R V c)(u:Ch F w w')(hF:∀k∈g::lrB R,k∉F):LoM w' g R V c:=h.keep fun k j=>u.block k (h.lt k j) (hF k j)
theorem LoM.len (h:LoM w g R V c):(loC R V c).length=13:=by simp[loC,h.l6,bo,h.v6]
theorem LoM.cR (h:LoM w g R V c){r:jl}(j:R[k]? = some r):(loC R V c)[k]? = some (lrV r):=by
 have:=(gS j).1
 unfold loC;rw[List.getElem?_append_left (by simpa using this),List.getElem?_map,j];rfl
theorem LoM.c12 (h:LoM w g R V c):(loC R V c)[12]? = some (u6 c):=by
 unfold loC;rw[show 12=6+(6+0)by rfl,iT (n:=6) (by rw[List.length_map,h.l6]),iT (n:=6) (by rw[bo,h.v6])];rfl
theorem LoM.cV (h:LoM w g R V c):((loC R V c).drop 6).take 6=vCs V:=by
 unfold loC;rw[List.drop_append,List.drop_of_length_le (by rw[List.length_map,h.l6];omega),List.nil_append,List.length_map,h.l6,Nat.sub_self,List.drop_zero,List.take_append_of_le_length (by rw[bo,h.v6];omega),tL (by rw[bo,h.v6];omega)]
theorem zeA {r:jl}(h:R.length=6)(j:k<6):(loC R V c).set k (lrV r)=loC (R.set k r) V c:=by
 unfold loC;rw[List.set_append_left _ _ (by rw[List.length_map,h];exact j),List.map_set]
theorem zeB (h:R.length=6)(u:V.length=6)(j:k<6):(loC R V c).set (6+k) (u6 x)=loC R (V.set k x) c:=by
 unfold loC;rw[uw (n:=6) (by rw[List.length_map,h]),LY (n:=6) (by rw[bo,u]) j];unfold vCs;rw[List.map_set]
theorem zeC (h:R.length=6)(j:V.length=6):(loC R V c).set 12 (u6 x)=loC R V x:=by
 unfold loC;rw[show 12=6+(6+0)by rfl,uw (n:=6) (by rw[List.length_map,h]),uw (n:=6) (by rw[bo,j])];rfl
end
theorem XJ :(Tryz.prog.info? 274).map (fun i=>(i.zero,i.size,i.bytes))=some (some (.agg (itC (evZ,0)).toArray),15,120):=by kernel_rfl
theorem Tk (h:K (pA b (o+0)) w):ai Q 193 (pA b o) 0 K w:=aH kr h
theorem NS (h:K (pA b (o+6)) w):ai Q 193 (pA b o) 1 K w:=aH kr h
theorem NT (h:K (pA b (o+12)) w):ai Q 193 (pA b o) 2 K w:=aH kr h
section
variable {w:World}{K:KV}{g:Nat}{R:List jl}{V:List Int}{c:Int}{e:EV}
theorem zbD (h:K (.bool false) w):bin Q .eql 135 cx cy (pB b) (.pointer none) K w :=
 gy (by unfold eqG eqGuard;rfl) kr h
theorem zdJ (J:∀w',LoM w' w.heap.size (List.replicate 6 ⟨none,0,[]⟩) (List.replicate 6 0) 0→Below w.heap.size w w'→w'.heap.size=w.heap.size+1→K (pB w.heap.size) w'):call Q 51 #[] K w:=by
 refine ak (goK func51) (Sy (dl (vs:=loC (List.replicate 6 ⟨none,0,[]⟩) (List.replicate 6 0) 0) kr (br fun U I b1 O=>?_)));have u:∀(i:Nat) (r:jl),(List.replicate 6 (⟨none,0,[]⟩:jl))[i]? = some r→r=⟨none,0,[]⟩:=fun i r u=>List.eq_of_mem_replicate (mO u)
 refine J U ⟨by simpa[Value.cells]using I,rfl,rfl,fun i r h=>?_,fun i j M Z _ hi _ b C=>?_,fun r h=>?_⟩ b1 O
 ·rw[u i r h];exact World.ownsRow_nil _ _ _ _
 ·rw[u i M hi]at C;cases C
 ·rw[List.eq_of_mem_replicate h];exact Nat.zero_le _
theorem zdH {r:jl}(h:LoM w g R V c)(hr:R[e.q]? = some r)(hm:eX V e=true)(hv:∀k,k<6→0≤V.getD k 0)(hc:0≤c∧c≤1000000)(hl:r.it.length<1000000)(u:∀w' a' cap',LoM w' g (R.set e.q ⟨a',cap',r.it++[(e,c)]⟩) (V.set e.q e.s) (c+1)→(∀b,a'=some b→r.a=some b∨w.heap.size≤b)→Ch (g::lrB R) w w'→K (ci 0) w'):call Q 108 #[pB g,evV e] K w:=by
 have M:bJ e=true:=by unfold eX at hm;simp only[Bool.and_eq_true]at hm;exact hm.1
 obtain⟨Z,ho⟩:=sj M;obtain⟨o1,o6,b8,b9⟩:=gW M;have b7:=wm hm;have av:qQ V e=false:=by
  refine Bool.eq_false_iff.2 fun J=>?_
  have:=(GQ M).1 J
  omega
 have bs:=h.b.lt;refine ak (goK func108) (Nd (yk fun w1 e1 b1 s1=>zbD (aF (dT e1 (Cs fun w2 b2=>bK ?_)))));rw[M];have ag:=b1.trans (b2.mono oo);have h2:=h.below ag;have e2:=ae b2 e1 e1.lt;refine aF (au (fun x=>LoM x g R V c∧blk x w.heap.size 35 (evC e)) ⟨h2.below (Below.refl _ w2).drew,e2.drew⟩ ?_)
 refine ab (fun x d _ u=>aj u) (ab (fun x d _ u=>NS u) (ab (fun x d _ u=>ldA (n:=6) (vs:=vCs V) underlying33 rfl kr d.1.b d.1.cV (by rw[bo];exact d.1.v6) u) ?_));refine ab (fun x d _ u=>dT d.2 u) (Mv h.v6 fun w3 b3=>?_);rw[av];have al:=ag.drew.trans (b3.mono ag.size);have h3:=h.below al;have e3:=ae b3 e2.drew e2.drew.lt;refine au (fun _=>True) trivial (aF ?_)
 refine au (fun x=>LoM x g R V c∧blk x w.heap.size 35 (evC e)) ⟨h3.below (Below.refl _ w3).drew,e3.drew⟩ ?_;refine ab (fun x d _ u=>aj u) (ab (fun x d _ u=>NS u) (ab (fun x d _ u=>ldA (n:=6) (vs:=vCs V) underlying33 rfl kr d.1.b d.1.cV (by rw[bo];exact d.1.v6) u) ?_));refine ab (fun x d _ u=>dT d.2 u) (Oz h.v6 hv fun w4 b4=>?_);rw[hm]
 have am:=al.drew.trans (b4.mono al.size);have h4:=h.below am;have e4:=ae b4 e3.drew e3.drew.lt;refine au (fun _=>True) trivial (ab (v:=.bool false) (fun x _ _ u=>bK u) (aF ?_));refine bw (lK (v:=iv e.o) e4 rfl (ba oo oo ?_));rw[show e.o-1=(e.q:Nat)by omega];refine Kr <|au (fun x=>blk x g 193 (loC R V c)∧blk x w.heap.size 35 (evC e)) ⟨h4.b.drew,e4.drew⟩ ?_
 have ix:∀{x:World} {K:KV},K (pA g e.q) x→aL Q 191 (pB g) (iv (e.q:Nat)) K x:=fun u=>ew underlying191 (s:=1) kf oo oo (by rw[Nat.zero_add,Int.toNat_natCast,Nat.mul_one];exact u);refine ab (fun x d _ u=>aj u) (ab (fun x d _ u=>Tk u) (ab (fun x d _ u=>ix u) ?_))
 refine ab (v:=lrV r) (fun x d _ u=>lK d.1 (h.cR hr) u) (ab (fun x d _ u=>dT d.2 u) ?_);refine ab (fun x d _ u=>aj u) (ab (fun x d _ u=>NT u) (ab (v:=u6 c) (fun x d _ u=>lK d.1 h.c12 u) ?_));refine ab (v:=.agg (itC (e,c)).toArray) (fun x d _ u=>dl (vs:=itC (e,c)) kr u) ?_;refine ab (fun x d _ u=>aj u) (ab (fun x d _ u=>Tk u) ?_)
 refine oG [.agg (itC (e,c)).toArray] underlying190 (s:=15) kr kr oo rfl sm dc rfl (by
  intro v hv;rw[mS hv];rfl) fun w5 i5 b5 s5=>?_
 have i5:=cZ i5
 have O:=am.drew.trans (b5.mono am.size);have h5:=h.below O;have e5:=ae b5 e4.drew e4.drew.lt;refine aC ⟨h5.b,e5⟩ ?_;obtain⟨ii,bd,bn,bk,a4⟩:=info_parts XJ;refine uP (enc:=itC) (x:=(e,c)) underlying190 bd bn bk a4 rfl oo zbR (h5.row e.q r hr) i5 (zbS _) oo oo (Nat.zero_le _) fun a' c' w6 r6 g6 _ k6=>?_;obtain⟨U,bq,a3,a2⟩:=d9 r6 oo;subst a3
 have ap:r.a=some U∨U=w5.heap.size:=by
  have:=AW r
  unfold lrV at this;rcases k6 with k6|k6
  ·rw[this]at k6;exact .inl k6.symm
  ·simp only[Value.ownBlock,Option.some.injEq]at k6;exact .inr k6
 have bp:(Value.slice (r.a.map fun b=>(⟨b,0,none⟩:Addr)) r.it.length r.cap).ownBlock=r.a:=AW r;rw[bp]at g6
 -- what the append has turned
 have o6:∀k,k<w5.heap.size→r.a≠some k→w6.heap[k]? = w5.heap[k]? := fun k C bi=>g6.block k C fun e=>bi e.symm;have bb:r.a≠some g:=fun e=>h.ng (List.mem_filterMap.2 ⟨r,mO hr,e⟩);have a5:r.a≠some w.heap.size:=fun e=>by
  have:=h.lt w.heap.size (List.mem_cons_of_mem _ (List.mem_filterMap.2 ⟨r,mO hr,e⟩))
  omega
 have an:blk w6 g 193 (loC R V c):=by
  have:=h5.b;unfold blk at *; rw[o6 g h5.b.lt bb];exact this
 have e6:blk w6 w.heap.size 35 (evC e):=by
  have ad:=e5.lt;unfold blk at *; rw[o6 _ ad a5];exact e5
 have aS:∀(j:Nat) rj,j≠e.q→R[j]? = some rj→w6.ownsRow 0 274 15 (lrV rj) rj.it.length (rj.it.flatMap itC):=fun j rj hj az=>by
  refine cD (h5.row j rj az) fun k C=>o6 k (World.ownsRow.lt (h5.row j rj az) k C).2 fun e'=>?_;rw[AW]at C;exact h.nd j e.q rj r hj az hr k C e'
 refine aC ⟨an,e6⟩ (ab (fun x d _ u=>ix u) ?_);have bt:=O.size;have b0:=g6.size;have b6:U<w6.heap.size:=a2.blk.lt;have a6:U≠g:=fun e' => by
  have:=a2.blk
  rw[e']at this;exact absurd this (fun J=>absurd rfl (an.ne J dc))
 -- the row's new slice
 refine cB kf an (by rw[h.len];omega) rfl fun w7 z7 o7=>?_;rw[show (Value.slice (some ⟨U,0,none⟩) (r.it.length+1) c')=lrV ⟨some U,c',r.it++[(e,c)]⟩by unfold lrV;rw[List.length_append];rfl,zeA h.l6 Z]at z7;have e7:=(o7.blk e6 oo).drew;have z7:=z7.drew;have aa:(R.set e.q ⟨some U,c',r.it++[(e,c)]⟩).length=6:=by rw[List.length_set];exact h.l6
 refine ac (fun _=>gN) (ac (v:=u6 e.s) (fun _=>lK e7 rfl) ?_);refine ac (fun _=>aj) (ac (fun _=>NS) (ac (fun _=>ixV rfl Z) ?_));refine cB kf z7 (by simp only[loC,List.length_append,List.length_map,aa,bo,h.v6,List.length_singleton];omega) rfl fun w8 z8 o8=>?_;rw[Nat.zero_add,zeB aa h.v6 Z]at z8;have af:(V.set e.q e.s).length=6:=by rw[List.length_set];exact h.v6
 refine Ks (aj (NT (lK (v:=u6 c) z8 ?_ (iW ?_))))
 ·unfold loC;rw[show 0+12=6+(6+0)by rfl,iT (n:=6) (by rw[List.length_map,aa]),iT (n:=6) (by rw[bo,af])];rfl
 rw[eu,show (c+1)%18446744073709551616=c+1 by omega];refine aj (NT (cB kf z8 (by simp only[loC,List.length_append,List.length_map,aa,bo,af,List.length_singleton];omega) rfl fun w9 z9 o9=>?_));have z9:blk w9 g 193 (loC (R.set e.q ⟨some U,c',r.it++[(e,c)]⟩) (V.set e.q e.s) (c+1)):=by rw[←zeC (c:=c) aa af];exact z9
 have t9:∀k,k≠g→w9.heap[k]? = w6.heap[k]? := fun k C=>(o9.other k C).trans ((o8.other k C).trans (o7.other k C));refine u w9 (some U) c' ⟨z9,aa,af,fun i ri hi=>?_,fun i j ri rj ar hi hj b hb=>?_,fun ri hi=>?_⟩ (fun b hb=>?_) ?_
 ·by_cases I:i=e.q
  ·subst I;rw[List.getElem?_set_self (by rw[h.l6];exact Z)]at hi;cases hi;rw[show (r.it++[(e,c)]).length=r.it.length+1 by simp]
   have:=cD r6 (w':=w9) fun k C=>t9 k (by
    simp only[Value.ownBlock,Option.some.injEq]at C;rw[←C];exact a6)
   unfold lrV;simpa using this
  ·rw[List.getElem?_set_ne (fun e' => I e'.symm)]at hi;refine cD (aS i ri I hi) fun k C=>t9 k fun e'=>?_;rw[AW,e']at C;exact h.ng (List.mem_filterMap.2 ⟨ri,mO hi,C⟩)
 ·have ad:∀(x:Nat) (rx:jl) (b:Nat),R[x]? = some rx→rx.a=some b→b<w.heap.size:=fun x rx b hx hb=>h.lt b (List.mem_cons_of_mem _ (List.mem_filterMap.2 ⟨rx,mO hx,hb⟩));have a1:∀b,b<w.heap.size→b≠w5.heap.size:=fun b hb=>by omega
  by_cases I:i=e.q
  ·subst I;rw[List.getElem?_set_self (by rw[h.l6];exact Z)]at hi;rw[List.getElem?_set_ne ar]at hj;cases hi;cases hb;rcases ap with J|J
   ·exact h.nd e.q j r rj ar hr hj U J
   ·exact fun e' => a1 _ (ad j rj U hj e') J
  ·rw[List.getElem?_set_ne (fun e' => I e'.symm)]at hi;by_cases a0:j=e.q
   ·subst a0;rw[List.getElem?_set_self (by rw[h.l6];exact Z)]at hj;cases hj;intro e';cases e';rcases ap with J|J
    ·exact h.nd i e.q ri r I hi hr U hb J
    ·exact a1 _ (ad i ri U hi hb) J
   ·rw[List.getElem?_set_ne (fun e' => a0 e'.symm)]at hj;exact h.nd i j ri rj ar hi hj b hb
 ·rcases List.mem_or_eq_of_mem_set hi with hi|rfl
  ·exact h.few ri hi
  ·simp;omega
 ·cases hb;rcases ap with J|J
  ·exact .inl J
  ·exact .inr oo
 ·refine⟨?_,?_,?_,?_,fun k C hn=>?_⟩
  ·exact o9.os.trans (o8.os.trans (o7.os.trans (g6.os.trans O.os)))
  ·exact o9.tape.trans (o8.tape.trans (o7.tape.trans (g6.tape.trans O.tape)))
  ·exact o9.output.trans (o8.output.trans (o7.output.trans (g6.output.trans O.output)))
  ·have a9:=o9.size;have a8:=o8.size;have a7:=o7.size;have d7:w7.drew.heap.size=w7.heap.size:=rfl;omega
  ·have be:k≠g:=fun e' => hn (by simp[e']);rw[t9 k be,o6 k oo (fun e' => hn (List.mem_cons_of_mem _ (List.mem_filterMap.2 ⟨r,mO hr,e'⟩))),O.block k C]
end
end
section
open Go.RowKit Go.ChangeMaps
theorem zan (k:Nat)(h:k<6):({pl0 k with I:=(pl0 k).I.set k true}:PL)=pl0 (k+1):=by
 unfold pl0
 congr 1
 match k,h with
 | 0,_=>rfl
 | 1,_=>rfl
 | 2,_=>rfl
 | 3,_=>rfl
 | 4,_=>rfl
 | 5,_=>rfl
theorem YY {q:LB}:Tryz.prog.built 189 [(3,pB q.t),(4,.map (some q.pm)),(5,.map (some q.rm)),(7,.map (some q.gm)),(8,.map (some q.am))]=some (plC q (pl0 0)).toArray:=by kernel_rfl
theorem zdS (h1:1≤n)(h6:n≤6)(j:KD w)(hK:∀w' q,PM w' q (pl0 n)→(∀k∈q.l,k=0∨w.heap.size≤k)→Below w.heap.size w w'→K (.tuple #[pB q.p,ci 0]) w'):call Q 50 #[iv (n:Nat)] K w:=by
 refine ak (goK func50) (Sv (aK (dt oo (bO (bj oo (ao oo ?_))))));refine YJ fun w1 t tp t1 b1 ht aS=>?_;refine ub underlying183 rfl u6 u6 fun w2 m2 b2 s2=>ub underlying184 rfl u6 rgV fun w3 m3 b3 s3=>ub underlying185 rfl rqV grV fun w4 m4 b4 s4=>ub underlying186 rfl rqV Value.bool fun w5 m5 Z s5=>?_;have az:=t1.lt;have an:=b1.size;have h0:=j.lt
 obtain⟨q,C⟩:∃q:LB,q=⟨w5.heap.size,t,tp,w1.heap.size,w2.heap.size,w3.heap.size,w4.heap.size⟩:=⟨_,rfl⟩
 have ep:q.p=w5.heap.size:=by rw[C]
 have et:q.t=t:=by rw[C]
 have ed:q.tp=tp:=by rw[C]
 have em:q.pm=w1.heap.size:=by rw[C]
 have er:q.rm=w2.heap.size:=by rw[C]
 have eg:q.gm=w3.heap.size:=by rw[C]
 have ea:q.am=w4.heap.size:=by rw[C]
 have av:=t1.ne;have ag:q.l.Nodup:=by
  unfold LB.l;rw[ep,et,ed,em,er,eg,ea];simp only[List.nodup_cons,List.mem_cons,List.not_mem_nil,or_false,not_or,List.nodup_nil,and_true];refine⟨⟨?_,?_,?_,?_,?_,?_,?_⟩,⟨?_,?_,?_,?_,?_,?_⟩,⟨?_,?_,?_,?_,?_⟩,⟨?_,?_,?_,?_⟩,⟨?_,?_,?_⟩,⟨?_,?_⟩,?_,not_false⟩<;>omega
 rw[←et, ←em, ←er, ←eg, ←ea];refine dl YY (br fun w6 u b6 s6=>?_);rw[←ep]at u ⊢;have h:(Value.agg (plC q (pl0 0)).toArray).cells.toList=plC q (pl0 0):=by simp[Value.cells]
 rw[h]at u;have U:Below w2.heap.size w2 w6:=b3.trans ((b4.mono oo).trans ((Z.mono oo).trans (b6.mono oo)));have aa:Below w3.heap.size w3 w6:=b4.trans ((Z.mono oo).trans (b6.mono oo));have ad:Below w4.heap.size w4 w6:=Z.trans (b6.mono oo);have O:Below w1.heap.size w1 w6:=b2.trans (U.mono oo)
 have M:Below w.heap.size w w6:=b1.trans (O.mono an);have p6:PM w6 q (pl0 0):=⟨rfl,rfl,rfl,u,by rw[et,ed];exact t1.below O,⟨[],by rw[em];exact m2.below U,.refl _⟩,⟨[],by rw[er];exact m3.below aa,.refl _⟩,⟨[],by rw[eg];exact m4.below ad,.refl _⟩,⟨[],by rw[ea];exact m5.below b6,fun o r h1 h6=>by
  have:od (pl0 0).R (o-1).toNat r=false:=by
   unfold od
   have:(pl0 0).R.getD (o-1).toNat []=[]:=by
    show (List.replicate 6 ([]:List Int)).getD _ []=[]
    rw[List.getD_eq_getElem?_getD,List.getElem?_replicate];split<;>rfl
   rw[this];rfl
  rw[this];rfl⟩,ag,j.below M⟩
 have al:∀k∈q.l,k=0∨w.heap.size≤k:=by
  intro k hk;unfold LB.l at hk;rw[ep,et,ed,em,er,eg,ea]at hk;simp only[List.mem_cons,List.not_mem_nil,or_false]at hk;omega
 refine PU (Inv:=fun i wr=>∃k:Nat,i=iv (k:Nat)∧k≤n∧PM wr q (pl0 k)∧Below w.heap.size w wr) (μ:=fun i _=>n-(intOf i).toNat) ⟨0,rfl,Nat.zero_le _,p6,M⟩ ?_;rintro _ dd w7 m ⟨k,rfl,ar,J,b7⟩ hm;refine aK ?_;by_cases af:k<n
 ·refine ax oo (aj (EI (Re rfl oo (cB kf J.b (by rw[J.len];omega) rfl fun w8 h8 I=>aM oo oo ?_))));have nd:=J.nd;rw[Nat.zero_add,J.sI oo,zan k oo]at h8;refine⟨⟨k+1,ivS,af,?_,bE b7 I (by rw[ep];have:=Z.size;omega)⟩,by rw[hm];show n-((k:Int)+1).toNat<n-(k:Int).toNat;omega⟩
  obtain⟨i6,l6,v6,b,tm,⟨m1,x1,e1⟩,⟨m2,x2,e2⟩,⟨m3,x3,e3⟩,⟨m4,x4,e4⟩,_,j⟩:=J;exact⟨by simp[pl0],l6,v6,h8,tm.oth I (LN.tp nd) (LN.dp nd),⟨m1,x1.oth I (LN.mp nd),e1⟩,⟨m2,x2.oth I (LN.rp nd),e2⟩,⟨m3,x3.oth I (LN.gp nd),e3⟩,⟨m4,x4.oth I (LN.ap nd),e4⟩,nd,j.keep (I.other 0 (LN.zp nd))⟩
 ·have e:k=n:=by omega
  subst e;exact ao oo (PV (hK w7 q J al b7))
end
section
open Go.RowKit
theorem cutV {V:List Int}(h:V.length=6):((V.map u6).drop 0).take 6=V.map u6:=by rw[List.drop_zero,tL (by simp[h])]
theorem Wn {V:List Int}(h:k<V.length):(V.map u6)[k]? = some (u6 (V.getD k 0)):=by simp[List.getD,h]
theorem zds {V:List Int}{e:EV}(hV:V.length=6)(h:∀w',Below w.heap.size w w'→K (.bool (qQ V e)) w'):call Q 46 #[.agg (V.map u6).toArray,.agg (evC e).toArray] K w:=by
 refine ak (goK func46) (N9 ?_);refine br fun w1 I b1 s1=>?_;have I:=cZ I
 refine br fun w2 J b2 s2=>?_;have J:=cZ J
 have I:=ae b2 I I.lt;have l2:Below w.heap.size w w2:=b1.trans (b2.mono oo);rw[s1]at J ⊢;refine au (fun x=>blk x (w.heap.size+1) 35 (evC e)) J.drew <|ab (fun x u _=>ldA (n:=14) (vs:=evC e) underlying35 rfl kr u rfl rfl) ?_;refine WB fun w3 M=>?_;have O:=ae M J.drew J.drew.lt;have Z:=ae M I.drew I.drew.lt
 have l3:Below w.heap.size w w3:=l2.drew.trans (M.mono l2.drew.size);have h:=h w3 l3;unfold qQ at h;refine au (fun x=>blk x (w.heap.size+1) 35 (evC e)∧blk x w.heap.size 33 (V.map u6)) ⟨O,Z⟩ ?_;cases U:bJ e with
 | false =>
  rw[U,Bool.false_and]at h;have C:asB (.bool false)≠some true:=by simp[asB]
  refine qr C (qr C (qr C (qr C (qr C (qr C (qr C (qr C ?_)))))));refine ab (fun x u _=>dh) ?_;exact h
 | true =>
  rw[U,Bool.true_and]at h;have hi:=gW U;obtain⟨k,hk⟩:∃k:Nat,k=(e.o-1).toNat:=⟨_,rfl⟩
  rw[←hk]at h
  refine fy rfl (fun x u _=>gN) <|fy (x:=u6 e.s) rfl (fun x u _=>lK u.1 rfl) <|fy rfl (fun x u _=>bw) <|fy (x:=iv e.o) rfl (fun x u _=>lK u.1 rfl) <|fy (x:=ci ((k:Nat):Int)) rfl (fun x u K j=>jK (by rw[eU oo oo,show (e.o-1)=(k:Nat)by omega];exact j)) <|fy rfl (fun x u _=>ixV rfl oo) <|fy (x:=u6 (V.getD k 0)) rfl (fun x u _=>lK u.2 (by rw[Nat.zero_add];exact Wn oo)) <|fy rfl (fun x u _=>gJ) <|ab (fun x u _=>cz) ?_
  exact h
theorem zcr {V:List Int}{e:EV}(hV:V.length=6)(hr:∀k,k<6→0≤V.getD k 0∧V.getD k 0<9223372036854775808)(h:∀w',Below w.heap.size w w'→K (.bool (eX V e)) w'):call Q 47 #[.agg (V.map u6).toArray,.agg (evC e).toArray] K w:=by
 refine ak (goK func47) (Ly ?_);refine br fun w1 U b1 s1=>?_;have U:=cZ U
 refine br fun w2 hb b2 s2=>?_;have hb:=cZ hb
 have U:=ae b2 U U.lt;have l2:Below w.heap.size w w2:=b1.trans (b2.mono oo);rw[s1]at hb ⊢;refine au (fun x=>blk x (w.heap.size+1) 35 (evC e)) hb.drew <|ab (fun x C _=>ldA (n:=14) (vs:=evC e) underlying35 rfl kr C rfl rfl) ?_;refine WB fun w3 b3=>?_;have aa:=ae b3 hb.drew hb.drew.lt;have af:=ae b3 U.drew U.drew.lt
 have l3:Below w.heap.size w w3:=l2.drew.trans (b3.mono l2.drew.size);refine au (fun x=>blk x (w.heap.size+1) 35 (evC e)∧blk x w.heap.size 33 (V.map u6)) ⟨aa,af⟩ <|ab (fun x C _=>bK) ?_;cases hm:bJ e with
 | false =>
  have h:=h w3 l3;unfold eX at h;rw[hm,Bool.false_and]at h;have J:asB (.bool (!false))≠some false:=by simp[asB]
  refine qr J (qr J (qr J (qr J (qr J (qr J (qr J (qr J (qr J ?_))))))));refine ab (fun x C _=>cz) ?_;exact aT h
 | true =>
  have hi:=gW hm;obtain⟨k,hk⟩:∃k:Nat,k=(e.o-1).toNat:=⟨_,rfl⟩
  have am:=hr k oo
  refine fy rfl (fun x C _=>gN) <|fy (x:=u6 e.s) rfl (fun x C _=>lK C.1 rfl) <|fy rfl (fun x C _=>bw) <|fy (x:=iv e.o) rfl (fun x C _=>lK C.1 rfl) <|fy (x:=ci ((k:Nat):Int)) rfl (fun x C K u=>jK (by rw[eU oo oo,show (e.o-1)=(k:Nat)by omega];exact u)) <|fy rfl (fun x C _=>ixV rfl oo) <|fy (x:=u6 (V.getD k 0)) rfl (fun x C _=>lK C.2 (by rw[Nat.zero_add];exact Wn oo)) <|fy (x:=u6 (V.getD k 0+1)) rfl (fun x C K u=>iW (by rw[eu,show (V.getD k 0+1)%18446744073709551616=V.getD k 0+1 by omega];exact u)) <|fy rfl (fun x C _=>aX) <|ab (fun x C _=>dh) ?_
  by_cases Z:e.s≠V.getD k 0+1
  ·refine ax Z ?_;have h:=h w3 l3;unfold eX at h;rw[←hk,show decide (e.s=V.getD k 0+1)=false from decide_eq_false Z,Bool.false_and,Bool.and_false]at h;exact h
  refine ao Z ?_;have Z:e.s=V.getD k 0+1:=by simpa using Z
  refine Jc (Inv:=fun i wr=>∃j:Nat,i=ci (j:Nat)∧j≤6∧(∀q,q<j→e.V.getD q 0≤V.getD q 0)∧blk wr (w.heap.size+1) 35 (evC e)∧blk wr w.heap.size 33 (V.map u6)∧Below w.heap.size w wr) (μ:=fun i _=>6-(intOf i).toNat) ⟨0,rfl,by omega,fun q hq=>by omega,aa,af,l3⟩ ?_;rintro _ dd w4 m ⟨j,rfl,ad,O,I,M,l4⟩ ag;refine aK ?_;by_cases hj:j<6
  ·refine ax oo ?_;have I:blk w4.drew (w.heap.size+1) 35 (evC e):=I.drew;have M:blk w4.drew w.heap.size 33 (V.map u6):=M.drew;have l4:Below w.heap.size w w4.drew:=l4.drew;have h:=h _ l4
   refine ac (fun _=>qn) <|ac (fun _=>ixV rfl hj) <|ac (v:=u6 (e.V.getD j 0)) (fun _=>lK I (Ps hj)) <|ac (fun _=>ixV rfl hj) <|ac (v:=u6 (V.getD j 0)) (fun _=>lK M (by rw[Nat.zero_add];exact Wn oo)) <|ac (fun _=>bO) ?_;by_cases h4:V.getD j 0<e.V.getD j 0
   ·refine ax h4 ?_
    have:(List.range 6).all (fun k=>decide (e.V.getD k 0≤V.getD k 0))=false:=by
     rw[List.all_eq_false];exact⟨j,by simpa using hj,by simpa using h4⟩
    unfold eX at h;rw[this,Bool.and_false,Bool.and_false]at h;exact h
   refine ao h4 <|aM oo oo ?_;refine⟨⟨j+1,by simp,by omega,fun q hq=>?_,I,M,l4⟩,?_⟩
   ·by_cases al:q<j
    ·exact O q al
    ·have:q=j:=by omega
     subst this;omega
   ·rw[ag];simp only[intOf];omega
  refine ao oo ?_;have ad:j=6:=by omega
  subst ad;refine Jd ?_;have h:=h _ l4;have e1:(List.range 6).all (fun k=>decide (e.V.getD k 0≤V.getD k 0))=true:=by
   rw[List.all_eq_true];exact fun q hq=>by simpa using O q (by simpa using hq)
  unfold eX at h;rw[hm,e1, ←hk,show decide (e.s=V.getD k 0+1)=true from decide_eq_true Z]at h;exact h
end
end
section
open Go.RowKit
def Fl (n0 l4 i5:Value)(zf:Nat→Value):List Value:=n0::zT zf 1 3 (l4::i5::zT zf 6 22 ([]))
def Fm (l4:Value)(zf:Nat→Value):List Value:=zT zf 0 4 (l4::zT zf 5 23 ([]))
def kG (K:KV):KE:=kZ f24 [1,1,1,1] K
def u7 (K:KV):KE:=ah Q (cd f24 (b1 122)) (kG K) (xx xf (kG K) 0) (rk f24 K)
theorem Oj (h:bT .lss 3 V0 (ci 1) (fun t7 w=>aG t7 false (fun J=>bT .gtr 3 V0 (ci 6) (fun I=>J [V0,I]) w) (fun k=>k [uu,uu] w) fun j=>pick t7 cT (gd j 1) fun u w=>cond u (K (.tuple #[.pointer none,ci 1]) w) (bld Q 127 #[] (fun C=>box Q 127 C fun t13=>bld Q 90 #[(1,t13)] fun t14=>box Q 90 t14 fun t15=>u7 K (Fl V0 t15 (ci 0) (zV (zV zu 2 [.pointer none,ci 0]) 6 [V0,t7,t7,gd j 0,gd j 1,u,C,t13,t14,t15]))) w)) w):Gives Q 24 #[V0] w K:=by
 refine aq func24 kr ?_;revert h;delta u7 kG;exact mpF
theorem Lz (Inv:Value→World→Prop)(μ:Value→World→Nat)(Z:Inv X0 w)(hs:∀(j:Value) (U:Nat→Value) (w:World) (m:Nat),Inv j w→m=μ j w →
  lS j V0 (fun u w=>cond u (aJ W0 (fun J=>ai Q 90 J 0 fun t24=>ai Q 58 t24 0 fun M=>aL Q 54 M j fun O=>sto Q 4 O cT fun _=>nC j fun C w=>(Inv C w)∧((μ C w)<m)) w) (kG K (Fm W0 (zV (zV (zV U 0 [V0]) 5 [j]) 16 [j,V0,u])) w)) w):u7 K (Fl V0 W0 X0 zf) w:=by
 refine aI (cd f24 (b1 244)) (zr [(5,1),(16,11)]) kr (vP [5] Inv) (vQ [5] μ) Z ?_;intro e' w' hI;have h:=hs _ (zM zf (gd e') (zr [(5,1),(16,11)])) w' _ hI rfl;revert h;generalize (kG K)=qc0;exact mpF
theorem LA (h:K (.tuple #[W0,ci 0]) w):kG K (Fm W0 zf) w:=by
 delta kG;exact mpK h
attribute [irreducible] kG u7
def qz (l0 m3:Value)(zf:Nat→Value):List Value:=l0::zf 1::zf 2::m3::zT zf 4 75 ([])
def qA (l0 m3 i4:Value)(zf:Nat→Value):List Value:=l0::zf 1::zf 2::m3::i4::zT zf 5 74 ([])
def vL (m3:Value)(zf:Nat→Value):List Value:=zT zf 0 3 (m3::zT zf 4 75 ([]))
def jb (K:KV):KE:=ah Q (cd f48 [1,1,1,1]) (rk f48 K) xf (rk f48 K)
def fK (K:KV):KE:=kZ f48 (b1 127) K
def kB (K:KV):KE:=ah Q (cd f48 (b1 506)) (fK K) (xx xf (fK K) 0) (rk f48 K)
theorem Fi {K:KV}{V0:Value}{w:World}(h:aJ V0 (fun t6=>ai Q 90 t6 0 fun t7=>ld Q 58 t7 fun t8=>bld Q 127 #[] fun t9=>box Q 127 t9 fun t10=>bld Q 90 #[(0,t8),(1,t10)] fun t11=>box Q 90 t11 fun t12=>bg Q 55 0 #[] fun t14=>aJ V0 fun t16=>ai Q 90 t16 0 fun t17=>ai Q 58 t17 3 fun t18=>ld Q 55 t18 fun t19=>blt Q .append #[55,55] 55 #[false,false] #[t14,t19] fun t20=>aJ t12 fun t21=>ai Q 90 t21 0 fun t22=>ai Q 58 t22 3 fun t23=>sto Q 55 t23 t20 fun _=>bg Q 56 0 #[] fun t25=>aJ V0 fun t27=>ai Q 90 t27 0 fun t28=>ai Q 58 t28 4 fun t29=>ld Q 56 t29 fun t30=>blt Q .append #[56,56] 56 #[false,false] #[t25,t30] fun t31=>aJ t12 fun t32=>ai Q 90 t32 0 fun t33=>ai Q 58 t33 4 fun t34=>sto Q 56 t34 t31 fun _=>jb K (qz V0 t12 (zV (zV zu 2 [.pointer none]) 5 [V0,t6,t7,t8,t9,t10,t11,t12,t12,t14,V0,t16,t17,t18,t19,t20,t21,t22,t23,t12,t25,V0,t27,t28,t29,t30,t31,t32,t33,t34]))) w):Gives Q 48 #[V0] w K:=by
 refine aq func48 (by kernel_rfl) ?_
 refine Eq.mp (congrArg (fun c=>ah Q c _ _ _ _ w) (by kernel_rfl:(rep [1,1,1,1] (cd f48 [1,1,1,1]) (cd f48 []))=(cd f48 []))) ?_
 revert h
 delta jb
 generalize (cd f48 [1,1,1,1])=xc0
 exact mpF
theorem CJ (h:aE (fun S w=>hN S W0 fun j=>hF S 90 j 1 fun u=>hL S 86 u fun C=>hN S W0 fun I=>hF S 90 I 1 fun J=>hL S 86 J fun M=>hN S M fun O=>hF S 127 O 0 fun U=>hL S 125 U fun Z=>hN S V0 fun aa=>hF S 90 aa 1 fun ad=>hL S 86 ad fun af=>hN S af fun ag=>hF S 127 ag 0 fun al=>hL S 125 al fun am=>blt Q .append #[125,125] 125 #[false,false] #[Z,am] (fun an=>aU S fun S w=>hN S C fun ap=>hF S 127 ap 0 fun ar=>sto Q 125 ar an (fun _=>kB K (qA V0 W0 (ci 0) (zV zf 35 [W0,j,u,C,W0,I,J,M,O,U,Z,V0,aa,ad,af,ag,al,am,an,ap,ar]))) w) w) w.drew):jb K (qz V0 W0 zf) w:=by
 delta jb;revert h;delta kB fK;exact mpF
theorem CK (Inv:Value→World→Prop)(μ:Value→World→Nat)(h0:Inv X0 w)(hs:∀(j:Value) (dd:Nat→Value) (w:World) (m:Nat),Inv j w→m=μ j w →
  bT .lss 3 j (ci 6) (fun u w=>cond u (aE (fun S w=>hN S W0 fun J=>hF S 90 J 2 fun M=>hI S 88 M j fun O=>hL S 87 O fun U=>hN S V0 fun Z=>hF S 90 Z 2 fun aa=>hI S 88 aa j fun ad=>hL S 87 ad fun af=>hN S W0 fun al=>hF S 90 al 2 fun am=>blt Q .append #[87,87] 87 #[false,false] #[U,af] (fun ag=>aU S fun S w=>hI S 88 am j fun an=>sto Q 87 an ag (fun _=>nC j fun C w=>(Inv C w)∧((μ C w)<m)) w) w) w.drew) (fK K (vL W0 (zV (zV (zV dd 0 [V0]) 4 [j]) 56 [j,u])) w)) w):kB K (qA V0 W0 X0 zf) w:=by
 refine aI (cd f48 (b1 1012)) (zr [(4,1),(56,22)]) kr (vP [4] Inv) (vQ [4] μ) h0 ?_;intro e' w' hI;have h:=hs _ (zM zf (gd e') (zr [(4,1),(56,22)])) w' _ hI rfl;revert h;generalize (fK K)=qc0;exact mpF
theorem CL (h:K W0 w):fK K (vL W0 zf) w:=by
 delta fK;exact mpK h
attribute [irreducible] jb fK kB
def vS (l0 id1 i5:Value)(zf:Nat→Value):List Value:=l0::id1::zT zf 2 3 (i5::zT zf 6 22 ([]))
def vT (zf:Nat→Value):List Value:=zT zf 0 28 ([])
def fL (K:KV):KE:=kZ f89 [1,1] K
def nB (K:KV):KE:=ah Q (cd f89 [1,0,1,0]) (fL K) (xx xf (fL K) 0) (rk f89 K)
theorem Fk (h:nB K (vS V0 W0 (ci 0) (zV zu 4 [ci 0])) w):Gives Q 89 #[V0,W0] w K:=by
 refine aq func89 kr ?_;revert h;delta nB fL;exact mpF
theorem CR (Inv:Value→World→Prop)(μ:Value→World→Nat)(h0:Inv X0 w)(hs:∀(j:Value) (dd:Nat→Value) (w:World) (m:Nat),Inv j w→m=μ j w →
  aJ V0 (fun t8=>ai Q 90 t8 0 fun t9=>ai Q 58 t9 3 fun u=>ld Q 55 u fun C=>lN 55 C fun I=>lS j I fun t13 w=>cond t13 (aJ V0 (fun M=>ai Q 90 M 0 fun O=>ai Q 58 O 3 fun U=>ld Q 55 U fun Z=>aL Q 55 Z j fun aa=>ai Q 79 aa 0 fun ad=>ld Q 31 ad fun t24=>bF .eql 31 t24 W0 fun af w=>cond af (K j w) (nC j (fun t15 w=>(Inv t15 w)∧((μ t15 w)<m)) w)) w) (fL K (vT (zV (zV dd 0 [V0,W0]) 5 [j,j,V0,t8,t9,u,C,I,t13])) w)) w):nB K (vS V0 W0 X0 zf) w:=by
 refine aI (cd f89 (b1 52)) (zr [(4,24)]) kr (vP [5] Inv) (vQ [5] μ) h0 ?_;intro e' w' hI;have h:=hs _ (zM zf (gd e') (zr [(4,24)])) w' _ hI rfl;revert h;generalize (fL K)=qc0;exact mpF
theorem CS (h:K (ci (-1)) w):fL K (vT zf) w:=by
 delta fL;exact mpK h
attribute [irreducible] fL nB
def vf (l0 origin1 req2 i7:Value)(zf:Nat→Value):List Value:=l0::origin1::req2::zT zf 3 4 (i7::zT zf 8 35 ([]))
def vg (zf:Nat→Value):List Value:=zT zf 0 43 ([])
def ff (K:KV):KE:=kZ f148 [1,1] K
def mQ (K:KV):KE:=ah Q (cd f148 [1,0,1,0]) (ff K) (xx xf (ff K) 0) (rk f148 K)
theorem DT (h:mQ K (vf V0 W0 X0 (ci 0) (zV zu 6 [ci 0])) w):Gives Q 148 #[V0,W0,X0] w K:=by
 refine aq func148 kr ?_;revert h;delta mQ ff;exact mpF
theorem BV (Inv:Value→World→Prop)(μ:Value→World→Nat)(h0:Inv Y0 w)(hs:∀(j:Value) (dd:Nat→Value) (w:World) (m:Nat),Inv j w→m=μ j w →
  aJ V0 (fun u=>ai Q 90 u 0 fun C=>ai Q 58 C 4 fun I=>ld Q 56 I fun t13=>lN 56 t13 fun t14=>lS j t14 fun t15 w=>cond t15 (aJ V0 (fun an=>ai Q 90 an 0 fun ap=>ai Q 58 ap 4 fun ar=>ld Q 56 ar fun av=>aL Q 56 av j fun t24=>ai Q 121 t24 0 fun az=>ld Q 3 az fun aS=>bF .eql 3 aS W0 fun M w=>aG M true (fun am=>aJ V0 (fun O=>ai Q 90 O 0 fun U=>ai Q 58 U 4 fun Z=>ld Q 56 Z fun aa=>aL Q 56 aa j fun ad=>ai Q 121 ad 1 fun af=>ld Q 31 af fun ag=>bF .eql 31 ag X0 fun a0=>am [V0,O,U,Z,aa,j,ad,af,ag,X0,a0]) w) (fun k=>k [uu,uu,uu,uu,uu,uu,uu,uu,uu,uu,uu] w) fun al=>pick M (gd al 10) cF fun a1 w=>cond a1 (K j w) (nC j (fun J w=>(Inv J w)∧((μ J w)<m)) w)) w) (ff K (vg (zV (zV dd 0 [V0,W0,X0]) 7 [j,j,V0,u,C,I,t13,t14,t15])) w)) w):mQ K (vf V0 W0 X0 Y0 zf) w:=by
 refine aI (cd f148 (b1 52)) (zr [(6,37)]) kr (vP [7] Inv) (vQ [7] μ) h0 ?_;intro e' w' hI;have h:=hs _ (zM zf (gd e') (zr [(6,37)])) w' _ hI rfl;revert h;generalize (ff K)=qc0;exact mpF
theorem BW (h:K (ci (-1)) w):ff K (vg zf) w:=by
 delta ff;exact mpK h
attribute [irreducible] ff mQ
def uZ (l0 origin1 req2 i7:Value)(zf:Nat→Value):List Value:=l0::origin1::req2::zT zf 3 4 (i7::zT zf 8 24 ([]))
def vd (zf:Nat→Value):List Value:=zT zf 0 32 ([])
def eY (K:KV):KE:=kZ f145 [1,1] K
def mN (K:KV):KE:=ah Q (cd f145 [1,0,1,0]) (eY K) (xx xf (eY K) 0) (rk f145 K)
theorem DQ (h:mN K (uZ V0 W0 X0 (ci 0) (zV zu 6 [cF])) w):Gives Q 145 #[V0,W0,X0] w K:=by
 refine aq func145 kr ?_;revert h;delta mN eY;exact mpF
theorem BO (Inv:Value→World→Prop)(μ:Value→World→Nat)(h0:Inv Y0 w)(hs:∀(j:Value) (dd:Nat→Value) (w:World) (m:Nat),Inv j w→m=μ j w →
  bT .sub 3 W0 (ci 1) (fun u=>aJ V0 fun C=>ai Q 90 C 2 fun t13=>aL Q 88 t13 u fun t14=>ld Q 87 t14 fun t15=>lN 87 t15 fun I=>lS j I fun J w=>cond J (bT .sub 3 W0 (ci 1) (fun U=>aJ V0 fun Z=>ai Q 90 Z 2 fun t24=>aL Q 88 t24 U fun aa=>ld Q 87 aa fun ad=>aL Q 87 ad j fun af=>ld Q 31 af fun ag=>bF .eql 31 ag X0 fun al w=>cond al (K cT w) (nC j (fun M w=>(Inv M w)∧((μ M w)<m)) w)) w) (eY K (vd (zV (zV dd 0 [V0,W0,X0]) 7 [j,j,V0,W0,u,C,t13,t14,t15,I,J])) w)) w):mN K (uZ V0 W0 X0 Y0 zf) w:=by
 refine aI (cd f145 (b1 52)) (zr [(6,26)]) kr (vP [7] Inv) (vQ [7] μ) h0 ?_;intro e' w' hI;have h:=hs _ (zM zf (gd e') (zr [(6,26)])) w' _ hI rfl;revert h;generalize (eY K)=qc0;exact mpF
theorem BP (h:K cF w):eY K (vd zf) w:=by
 delta eY;exact mpK h
attribute [irreducible] eY mN
def mL (l0 e3 o6:Value)(zf:Nat→Value):List Value:=l0::zf 1::zf 2::e3::zf 4::zf 5::o6::zT zf 7 66 ([])
def uY (l0 e1:Value)(zf:Nat→Value):List Value:=l0::e1::zT zf 2 71 ([])
def mM (l0 o6 m7 f8:Value)(zf:Nat→Value):List Value:=l0::zT zf 1 5 (o6::m7::f8::zT zf 9 64 ([]))
def mJ (K:KV):KE:=ah Q (cd f27 (b1 63)) (rk f27 K) xf (rk f27 K)
def mK (K:KV):KE:=ah Q (cd f27 (b1 511)) (rk f27 K) xf (rk f27 K)
abbrev vK (K:KV)(hA0:KE)(l0 e1:Value)(w:World):Prop :=
  box Q 35 e1 (fun e3=>ld Q 35 e3 fun t9=>call Q 45 #[t9] fun t10=>un Q .not t10 fun t11 w=>cond t11 (K (.tuple #[l0,ci 1]) w) (aE (fun S w=>hN S l0 fun t14=>hF S 90 t14 0 fun t15=>hF S 58 t15 2 fun t16=>hL S 33 t16 fun t17=>hL S 35 e3 fun t18=>call Q 46 #[t17,t18] (fun t19 w=>cond t19 (K (.tuple #[l0,ci 14]) w) (aE (fun S w=>hN S l0 fun t22=>hF S 90 t22 0 fun t23=>hF S 58 t23 2 fun t24=>hL S 33 t24 fun t25=>hL S 35 e3 fun t26=>call Q 47 #[t25,t26] (fun t27=>aE fun S w=>hld S (un Q .not t27) fun t28=>cond t28 (K (.tuple #[l0,ci 13]) w) (ai Q 35 e3 0 (fun t30=>ld Q 3 t30 fun t31=>bT .sub 3 t31 (ci 1) fun t32=>hA0 (mL l0 e3 t32 (zV (zV (zV (zV (zV (zV zu 1 [e1]) 4 [.pointer none,ci 0]) 9 [t9,t10,t11]) 13 [l0,t14,t15,t16,t17,t18,t19]) 21 [l0,t22,t23,t24,t25,t26,t27,t28]) 30 [t30,t31,t32]))) w)) w) w.drew)) w) w.drew)) w
theorem Fh (j:Code)(h:vK K (ah Q j (rk f27 K) (fun _ _ _=>False) (rk f27 K)) V0 W0 w):ah Q (rep (b1 63) j (cd f27 [])) (rk f27 K) xf (rk f27 K) (uY V0 W0 zu) w:=Eq.mp kr h
theorem DP {K:KV}{V0 W0:Value}{w:World}(h:vK K (mJ K) V0 W0 w):Gives Q 27 #[V0,W0] w K:=aq func27 (by kernel_rfl) (Eq.mp (congrArg (fun c=>ah Q c (rk f27 K) xf (rk f27 K) (uY V0 W0 zu) w) (by kernel_rfl:(rep (b1 63) (cd f27 (b1 63)) (cd f27 []))=(cd f27 []))) (Fh (cd f27 (b1 63)) h))
abbrev tG (K:KV)(hA0:KE)(V0 X0 Y0:Value)(zf:Nat→Value)(w:World):Prop :=
  aJ V0 (fun t35=>ai Q 90 t35 0 fun t36=>ai Q 58 t36 0 fun t37=>aL Q 54 t37 Y0 fun t38=>ld Q 4 t38 fun t39=>un Q .not t39 fun t40 w=>aG t40 false (fun k42=>aJ V0 (fun t44=>ai Q 90 t44 0 fun t45=>ai Q 58 t45 1 fun t46=>aL Q 54 t46 Y0 fun t47=>ld Q 4 t47 fun t48=>k42 [V0,Y0,t44,t45,t46,t47,t48]) w) (fun k=>k [uu,uu,uu,uu,uu,uu,uu] w) fun us42=>pick t40 cT (gd us42 6) fun t49 w=>cond t49 (K (.tuple #[V0,ci 10]) w) (call Q 48 #[V0] (fun t52=>ld Q 35 X0 fun t54=>call Q 49 #[t52,t54] fun t55=>hA0 (mM V0 Y0 t52 t55 (zV (zV (zV zf 3 [X0]) 33 [V0,Y0,t35,t36,t37,t38,t39,t40,t40,gd us42 0,gd us42 1,gd us42 2,gd us42 3,gd us42 4,gd us42 5,gd us42 6,t49]) 51 [V0,t52,t52,t54,t55]))) w)) w
theorem BL (j:Code)(h:tG K (ah Q j (rk f27 K) (fun _ _ _=>False) (rk f27 K)) V0 X0 Y0 zf w):ah Q (rep [1,1,1] j (cd f27 (b1 63))) (rk f27 K) xf (rk f27 K) (mL V0 X0 Y0 zf) w:=Eq.mp kr h
theorem BM (h:tG K (mK K) V0 X0 Y0 zf w):mJ K (mL V0 X0 Y0 zf) w:=by
 delta mJ
 exact Eq.mp (congrArg (fun c=>ah Q c (rk f27 K) xf (rk f27 K) (mL V0 X0 Y0 zf) w) (by kernel_rfl:(rep [1,1,1] (cd f27 (b1 511)) (cd f27 (b1 63)))=(cd f27 (b1 63)))) (BL (cd f27 (b1 511)) h)
abbrev tH (K:KV)(V0 Y0 Z0 H1:Value)(zf:Nat→Value)(w:World):Prop :=
  bT .neq 40 H1 (ci 0) (fun t57 w=>cond t57 (K (.tuple #[V0,H1]) w) (sN Z0 (fun t62=>sF 90 t62 0 fun t63=>sF 58 t63 2 fun t64=>sI 33 t64 Y0 fun t65=>sL 31 t65 fun t66=>sti (bT .add 31 t66 (cu 1)) fun t67=>sN Z0 fun t68=>sF 90 t68 0 fun t69=>sF 58 t69 2 fun t70=>sI 33 t70 Y0 fun t71=>sto Q 31 t71 t67 fun _=>K (.tuple #[Z0,ci 0])) w.drew)) w
theorem BN (h:tH K V0 Y0 Z0 H1 zf w):ah Q (cd f27 (b1 511)) (rk f27 K) xf (rk f27 K) (mM V0 Y0 Z0 H1 zf) w:=Eq.mp kr h
theorem tI (h:tH K V0 Y0 Z0 H1 zf w):mK K (mM V0 Y0 Z0 H1 zf) w:=by
 delta mK
 exact Eq.mp (congrArg (fun c=>ah Q c (rk f27 K) xf (rk f27 K) (mM V0 Y0 Z0 H1 zf) w) (by kernel_rfl:(cd f27 (b1 511))=(cd f27 (b1 511)))) (BN h)
attribute [irreducible] mJ mK
def vN (l0 e3 t10:Value)(zf:Nat→Value):List Value:=l0::zf 1::zf 2::e3::zT zf 4 6 (t10::zT zf 11 141 ([]))
def jc (zf:Nat→Value):List Value:=zT zf 0 152 ([])
def vO (l0 e3 t10 t63:Value)(zf:Nat→Value):List Value:=l0::zf 1::zf 2::e3::zT zf 4 6 (t10::zT zf 11 52 (t63::zT zf 64 88 ([])))
def ny (l0 k_6 r7 f8:Value)(zf:Nat→Value):List Value:=l0::zT zf 1 5 (k_6::r7::f8::zT zf 9 143 ([]))
def vR (l0 e3 t10 t132:Value)(zf:Nat→Value):List Value:=l0::zf 1::zf 2::e3::zT zf 4 6 (t10::zT zf 11 121 (t132::zT zf 133 19 ([])))
def bc (K:KV):KE:=kZ f49 [1,1] K
def kC (K:KV):KE:=ah Q (cd f49 [1,0,1]) (bc K) xf (rk f49 K)
def kD (K:KV):KE:=ah Q (cd f49 (b1 863)) (bc K) (xx xf (bc K) 0) (rk f49 K)
def gP (K:KV):KE:=ah Q (cd f49 (b1 442351)) (bc K) (xx xf (bc K) 0) (rk f49 K)
def kE (K:KV):KE:=ah Q (cd f49 (b1 55295)) (bc K) (xx xf (bc K) 0) (rk f49 K)
theorem Fj {K:KV}{V0 e1:Value}{w:World}(h:box Q 35 e1 (fun W0=>ai Q 35 W0 3 fun t9=>ld Q 5 t9 fun H1=>kC K (vN V0 W0 H1 (zV (zV (zV zu 1 [e1]) 4 [ci 0]) 9 [t9]))) w):Gives Q 49 #[V0,e1] w K:=by
 refine aq func49 (by kernel_rfl) ?_
 refine Eq.mp (congrArg (fun c=>ah Q c _ _ _ _ w) (by kernel_rfl:(rep [1,0,1] (cd f49 [1,0,1]) (cd f49 []))=(cd f49 []))) ?_
 revert h
 delta kC bc
 generalize (cd f49 [1,0,1])=xc0
 exact mpF
theorem CM {K:KV}{V0 W0 H1:Value}{zf:Nat→Value}{w:World}(h:bT .eql 5 H1 (cb 1) (fun t12 w=>cond t12 (ld Q 35 W0 (fun t14=>call Q 88 #[V0,t14] K) w) (bT .eql 5 H1 (cb 2) (fun t17 w=>cond t17 (ai Q 35 W0 4 (fun t19=>ld Q 31 t19 fun t20=>call Q 89 #[V0,t20] fun t21=>bT .lss 3 t21 (ci 0) fun t23 w=>cond t23 (K (ci 9) w) (sN V0 (fun t25=>sF 90 t25 0 fun t26=>sF 58 t26 3 fun t27=>sL 55 t27 fun t28=>sF 35 W0 0 fun t30=>sL 3 t30 fun t31=>sti (bT .sub 3 t31 (ci 1)) fun t32=>sI 55 t28 t21 fun t33=>sF 79 t33 2 fun t34=>sF 77 t34 0 fun t35=>sI 74 t35 t32 fun t36=>sL 2 t36 fun t37=>sF 35 W0 6 fun t38=>sL 2 t38 fun t39=>sti (bF .add 2 t37 t39) fun t40=>sti (bT .gtr 2 t40 (ci 140737488355328)) fun t41 w=>cond t41 (K (ci 6) w) (sN V0 (fun t43=>sF 90 t43 0 fun t44=>sF 58 t44 3 fun t45=>sL 55 t45 fun t46=>sF 35 W0 0 fun t48=>sL 3 t48 fun t49=>sti (bT .sub 3 t49 (ci 1)) fun t50=>sI 55 t46 t21 fun t51=>sF 79 t51 2 fun t52=>sF 77 t52 0 fun t53=>sI 74 t53 t50 fun t54=>sL 2 t54 fun t55=>sF 35 W0 6 fun t56=>sL 2 t56 fun t57=>sti (bF .add 2 t55 t57) fun t58=>sI 55 t46 t21 fun t59=>sF 79 t59 2 fun t60=>sF 77 t60 0 fun t61=>sI 74 t61 t50 fun t62=>sto Q 2 t62 t58 fun _=>bc K (jc (zV (zV (zV (zV (zV zf 0 [V0]) 3 [W0]) 5 [t21]) 10 [H1,t12,t12]) 16 [t17,t17,V0,t19,t20,t21,t21,t23,V0,t25,t26,t27,t28,t21,t30,t31,t32,t33,t34,t35,t36,t37,t38,t39,t40,t41,V0,t43,t44,t45,t46,t21,t48,t49,t50,t51,t52,t53,t54,t55,t56,t57,t58,t59,t60,t61,t62]))) w.drew)) w.drew)) w) (bT .eql 5 H1 (cb 3) (fun t64=>kD K (vO V0 W0 H1 t64 (zV (zV (zV zf 11 [t12,t12]) 16 [t17,t17]) 64 [t64]))) w)) w)) w):kC K (vN V0 W0 H1 zf) w:=by
 delta kC
 refine Eq.mp (congrArg (fun c=>ah Q c _ _ _ _ w) (by kernel_rfl:(rep (b1 95) (cd f49 (b1 863)) (cd f49 [1,0,1]))=(cd f49 [1,0,1]))) ?_
 revert h
 delta kD
 generalize (cd f49 (b1 863))=xc0
 generalize (bc K)=qc0
 exact mpF
theorem jF (h:K (ci 0) w):bc K (jc zf) w:=by
 delta bc;exact mpK h
theorem CN (h:cond I1 (ld Q 35 W0 (fun t66=>call Q 90 #[V0,t66] K) w) (bT .eql 5 H1 (cb 4) (fun t69 w=>cond t69 (ld Q 35 W0 (fun t71=>call Q 91 #[V0,t71] K) w) (bT .eql 5 H1 (cb 5) (fun t74 w=>cond t74 (ai Q 35 W0 4 (fun t76=>ld Q 31 t76 fun t77=>call Q 89 #[V0,t77] fun t78=>bT .lss 3 t78 (ci 0) fun t80 w=>cond t80 (K (ci 9) w) (sF 35 W0 5 (fun t81=>sL 3 t81 fun t82=>sti (bT .lss 3 t82 (ci 1)) fun t83 w=>aG t83 false (fun k85=>sF 35 W0 5 (fun t85=>sL 3 t85 fun t86=>sti (bT .gtr 3 t86 (ci 6)) fun t87=>k85 [t85,t86,t87]) w) (fun k=>k [uu,uu,uu] w) fun us85=>sti (pick t83 cT (gd us85 2)) fun t88 w=>aG t88 false (fun k90=>sF 35 W0 5 (fun t91=>sL 3 t91 fun t92=>sti (bT .sub 3 t92 (ci 1)) fun t93=>sN V0 fun t94=>sF 90 t94 0 fun t95=>sF 58 t95 0 fun t96=>sI 54 t96 t93 fun t97=>sL 4 t97 fun t98=>sti (un Q .not t98) fun t99=>k90 [V0,t91,t92,t93,t94,t95,t96,t97,t98,t99]) w) (fun k=>k [uu,uu,uu,uu,uu,uu,uu,uu,uu,uu] w) fun us90=>sti (pick t88 cT (gd us90 9)) fun t100 w=>cond t100 (K (ci 10) w) (aE (fun S w=>hN S V0 fun t103=>hF S 90 t103 0 fun t104=>hF S 58 t104 3 fun t105=>hL S 55 t105 fun t106=>hI S 55 t106 t78 fun t108=>hF S 79 t108 2 fun t109=>hL S 77 t109 fun t110=>hF S 35 W0 0 fun t111=>hL S 3 t111 fun t112=>hF S 35 W0 5 fun t113=>hL S 3 t113 fun t114=>hF S 35 W0 6 fun t115=>hL S 2 t115 fun t116=>(call Q 92 #[t110,t112,t114,t116] (fun t117=>aE fun S w=>hld S (ext Q t117 0) fun t118=>hld S (ext Q t117 1) fun t119=>alc Q 77 (fun Y0=>aU S fun S=>sto Q 77 Y0 t118 fun _=>aU S fun _=>gP K (ny V0 t78 Y0 t119 (zV (zV (zV (zV (zV zf 3 [W0]) 10 [H1]) 63 [I1]) 68 [t69,t69]) 73 [t74,t74,V0,t76,t77,t78,t78,t80,t81,t82,t83,t83,gd us85 0,gd us85 1,gd us85 2,t88,t88,gd us90 0,gd us90 1,gd us90 2,gd us90 3,gd us90 4,gd us90 5,gd us90 6,gd us90 7,gd us90 8,gd us90 9,t100,t117,V0,t103,t104,t105,t106,t78,t108,t109,t110,t111,t112,t113,t114,t115,t116,t117,t118,t119]))) w) w)∧(alc Q 77 (fun Y0=>aU S fun _=>call Q 92 #[t110,t112,t114,t116] fun t117=>aE fun S w=>hld S (ext Q t117 0) fun t118=>hld S (ext Q t117 1) fun t119=>sto Q 77 Y0 t118 (fun _=>aU S fun _=>gP K (ny V0 t78 Y0 t119 (zV (zV (zV (zV (zV zf 3 [W0]) 10 [H1]) 63 [I1]) 68 [t69,t69]) 73 [t74,t74,V0,t76,t77,t78,t78,t80,t81,t82,t83,t83,gd us85 0,gd us85 1,gd us85 2,t88,t88,gd us90 0,gd us90 1,gd us90 2,gd us90 3,gd us90 4,gd us90 5,gd us90 6,gd us90 7,gd us90 8,gd us90 9,t100,t117,V0,t103,t104,t105,t106,t78,t108,t109,t110,t111,t112,t113,t114,t115,t116,t117,t118,t119]))) w) w)) w.drew)) w.drew)) w) (bT .eql 5 H1 (cb 6) (fun t133=>kE K (vR V0 W0 H1 t133 (zV (zV (zV (zV zf 63 [I1]) 68 [t69,t69]) 73 [t74,t74]) 133 [t133]))) w)) w)) w)):kD K (vO V0 W0 H1 I1 zf) w:=by
 delta kD
 refine Eq.mp (congrArg (fun c=>ah Q c _ _ _ _ w) (by kernel_rfl:(rep (b1 127) (cd f49 (b1 55295)) (rep (b1 1007) (cd f49 (b1 442351)) (cd f49 (b1 863))))=(cd f49 (b1 863)))) ?_
 revert h
 delta kE gP
 generalize (cd f49 (b1 442351))=xc0
 generalize (cd f49 (b1 55295))=xc1
 generalize (bc K)=qc0
 exact mpF
theorem CO (h:bT .neq 40 Z0 (ci 0) (fun j w=>cond j (K Z0 w) (sN V0 (fun u=>sF 90 u 0 fun C=>sF 58 C 3 fun I=>sL 55 I fun J=>sL 77 Y0 fun M=>sI 55 J X0 fun O=>sF 79 O 2 fun U=>sto Q 77 U M fun _=>bc K (jc (zV (zV (zV (zV zf 0 [V0]) 6 [X0,Y0,Z0]) 120 [Z0,j]) 123 [V0,u,C,I,J,X0,M,O,U]))) w.drew)) w):gP K (ny V0 X0 Y0 Z0 zf) w:=by
 delta gP;revert h;generalize (bc K)=qc0;exact mpF
theorem CQ (h:cond J1 (sF 35 W0 5 (fun u=>sL 3 u fun C=>sti (bT .sub 3 C (ci 1)) fun I=>sN V0 fun J=>sF 90 J 0 fun M=>sF 58 M 0 fun O=>sI 54 O I fun U=>sto Q 4 U cT fun _=>bc K (jc (zV (zV (zV (zV (zV zf 0 [V0]) 3 [W0]) 10 [H1]) 132 [J1]) 134 [V0,u,C,I,J,M,O,U]))) w.drew) (bT .eql 5 H1 (cb 7) (fun j w=>cond j (sF 35 W0 0 (fun Z=>sL 3 Z fun aa=>sti (bT .sub 3 aa (ci 1)) fun ad=>sN V0 fun af=>sF 90 af 0 fun ag=>sF 58 ag 1 fun al=>sI 54 al ad fun am=>sto Q 4 am cT fun _=>bc K (jc (zV (zV (zV (zV (zV zf 0 [V0]) 3 [W0]) 10 [H1]) 132 [J1]) 142 [j,j,V0,Z,aa,ad,af,ag,al,am]))) w.drew) (bc K (jc (zV (zV (zV (zV (zV zf 0 [V0]) 3 [W0]) 10 [H1]) 132 [J1]) 142 [j,j])) w)) w)):kE K (vR V0 W0 H1 J1 zf) w:=by
 delta kE;revert h;generalize (bc K)=qc0;exact mpF
attribute [irreducible] bc kC kD gP kE
def fg (l0 e3 own5 i6:Value)(zf:Nat→Value):List Value:=l0::zf 1::zf 2::e3::zf 4::own5::i6::zT zf 7 125 ([])
def pR (l0 e3 own5:Value)(zf:Nat→Value):List Value:=l0::zf 1::zf 2::e3::zf 4::own5::zT zf 6 126 ([])
def pS (l0 e3 id7 n9:Value)(zf:Nat→Value):List Value:=l0::zf 1::zf 2::e3::zT zf 4 3 (id7::zf 8::n9::zT zf 10 122 ([]))
def mR (l0 id7 n9 at10:Value)(zf:Nat→Value):List Value:=l0::zT zf 1 6 (id7::zf 8::n9::at10::zT zf 11 121 ([]))
def pT (l0 n9 at10:Value)(zf:Nat→Value):List Value:=l0::zT zf 1 8 (n9::at10::zT zf 11 121 ([]))
def cq (K:KV):KE:=kZ f88 [1,1,1] K
def mT (K:KV):KE:=ah Q (cd f88 (b1 58)) (cq K) (xx xf (cq K) 0) (rk f88 K)
def fh (K:KV)(B1:KE):KE:=kY f88 (b1 467) B1 (xx xf (cq K) 0) K
def kb (K:KV)(B1:KE):KE:=ah Q (cd f88 (b1 466)) (fh K B1) (xx xf (cq K) 0) (rk f88 K)
def iJ (K:KV):KE:=ah Q (cd f88 (b1 511)) (rk f88 K) xf (rk f88 K)
def ke (K:KV):KE:=ah Q (cd f88 (b1 4095)) (rk f88 K) xf (rk f88 K)
def dZ (K:KV):KE:=kZ f88 (b1 8191) K
def mU (K:KV):KE:=ah Q (cd f88 (b1 16380)) (dZ K) (xx xf (dZ K) 2) (rk f88 K)
theorem DU (h:box Q 35 X0 (fun W0=>mT K (fg V0 W0 (ci 0) (ci 0) (zV (zV zu 1 [X0]) 4 [ci 0]))) w):Gives Q 88 #[V0,X0] w K:=by
 refine aq func88 kr ?_;revert h;delta mT cq;exact mpF
theorem Ca {K:KV}{V0 W0 X0 Y0:Value}{zf:Nat→Value}{w:World}(Inv:Value→Value→World→Prop)(μ:Value→Value→World→Nat)(h0:Inv X0 Y0 w)(hs:∀(own5' i6':Value) (dd:Nat→Value) (w:World) (m:Nat),Inv own5' i6' w→m=μ own5' i6' w →
  aJ V0 (fun t13=>ai Q 90 t13 0 fun t14=>ai Q 58 t14 3 fun t15=>ld Q 55 t15 fun t16=>lN 55 t16 fun t17=>lS i6' t17 fun t18 w=>cond t18 (kb K (fun e2 w2=>(Inv (gd e2 5) (gd e2 6) w2)∧((μ (gd e2 5) (gd e2 6) w2)<m)) (fg V0 W0 own5' i6' (zV dd 11 [i6',V0,t13,t14,t15,t16,t17,t18])) w) (cq K (pR V0 W0 own5' (zV (zV dd 6 [i6']) 11 [i6',V0,t13,t14,t15,t16,t17,t18])) w)) w):mT K (fg V0 W0 X0 Y0 zf) w:=by
 refine aI (cd f88 (b1 116)) (zr [(5,2),(11,26)]) (by kernel_rfl) (vP [5,6] Inv) (vQ [5,6] μ) h0 ?_
 intro e' w' hI
 have h:=hs _ _ (zM zf (gd e') (zr [(5,2),(11,26)])) w' _ hI rfl
 refine Eq.mp (congrArg (fun c=>ah Q c _ _ _ _ w') (by kernel_rfl:(rep [1,0] (cd f88 (b1 466)) (cd f88 (b1 116)))=(cd f88 (b1 116)))) ?_
 revert h
 delta kb fh
 generalize (cd f88 (b1 466))=xc0
 generalize (cq K)=qc0
 exact mpF
theorem BX (h:sN V0 (fun j=>sF 90 j 0 fun u=>sF 58 u 3 fun t24=>sL 55 t24 fun C=>sI 55 C Y0 fun I=>sF 79 I 0 fun J=>sL 31 J fun M=>sti (bT .shr 31 M (cu 40)) fun O=>sF 35 W0 0 fun U=>sL 3 U fun Z=>sti (conv Q 3 31 Z) fun aa=>sti (bF .eql 31 O aa) fun ad w=>cond ad (nC X0 (fun af=>fh K B1 (fg V0 W0 af Y0 (zV zf 21 [V0,j,u,t24,C,Y0,I,J,M,O,U,Z,aa,ad,X0,af]))) w) (fh K B1 (fg V0 W0 X0 Y0 (zV zf 21 [V0,j,u,t24,C,Y0,I,J,M,O,U,Z,aa,ad])) w)) w.drew):kb K B1 (fg V0 W0 X0 Y0 zf) w:=by
 delta kb;revert h;generalize (fh K B1)=qc0;generalize (cq K)=qc1;exact mpF
theorem Cc {K:KV}{V0 W0 X0:Value}{zf:Nat→Value}{w:World}(h:bT .geq 3 X0 (ci 5) (fun t38 w=>aG t38 false (fun k40=>ai Q 35 W0 6 (fun t40=>ld Q 2 t40 fun t41=>bT .gtr 2 t41 (ci 140737488355328) fun t42=>k40 [t40,t41,t42]) w) (fun k=>k [uu,uu,uu] w) fun us40=>pick t38 cT (gd us40 2) fun t43 w=>cond t43 (K (ci 6) w) (ai Q 35 W0 0 (fun t44=>ld Q 3 t44 fun t45=>ai Q 35 W0 1 fun t46=>ld Q 31 t46 fun t47=>call Q 143 #[t45,t47] fun t48 w=>aE (fun S w=>hN S V0 fun t50=>hF S 90 t50 1 fun t51=>hL S 86 t51 fun t52=>hF S 35 W0 4 fun t54=>hL S 31 t54 fun t55=>call Q 144 #[t52,t48,t55] (fun t56=>aE fun _=>bT .neq 40 t56 (ci 0) fun t58 w=>cond t58 (K t56 w) (ai Q 35 W0 4 (fun t61=>ld Q 31 t61 fun t62=>bld Q 79 #[(0,t48),(1,t62)] fun t63=>alc Q 79 fun H1=>sto Q 79 H1 t63 fun _=>iJ K (pS V0 W0 t48 H1 (zV (zV (zV (zV zf 5 [X0]) 8 [t56]) 37 [X0,t38,t38,gd us40 0,gd us40 1,gd us40 2,t43,t44,t45,t46,t47,t48,V0,t50,t51,t52,t48,t54,t55,t56,t56,t58]) 60 [t48,t61,t62,t63]))) w)) w) w.drew) w)) w):cq K (pR V0 W0 X0 zf) w:=by
 delta cq
 refine Eq.mp (congrArg (fun c=>ah Q c _ _ _ _ w) (by kernel_rfl:(rep (b1 63) (cd f88 (b1 511)) (cd f88 [1,1,1]))=(cd f88 [1,1,1]))) ?_
 revert h
 delta iJ
 generalize (cd f88 (b1 511))=xc0
 exact mpF
theorem tJ (h:nC Y0 (fun j=>B1 (fg V0 W0 X0 j (zV zf 19 [Y0,j]))) w):fh K B1 (fg V0 W0 X0 Y0 zf) w:=by
 delta fh;revert h;generalize (cq K)=qc0;exact mpF
theorem BY (h:ai Q 35 W0 0 (fun t64=>ld Q 3 t64 fun t65=>bT .sub 3 t65 (ci 1) fun t66=>ai Q 35 W0 6 fun t67=>ld Q 2 t67 fun t68=>ai Q 79 H1 2 fun t69=>ai Q 77 t69 0 fun t70=>aL Q 74 t70 t66 fun t71=>sto Q 2 t71 t68 fun _=>aJ V0 fun t73=>ai Q 90 t73 0 fun t74=>ai Q 58 t74 3 fun t75=>ld Q 55 t75 fun t76=>lN 55 t76 fun t77 w=>aE (fun S w=>hN S V0 fun t80=>hF S 90 t80 0 fun t81=>hF S 58 t81 3 fun t82=>hL S 55 t82 fun t83=>hL S 79 H1 fun t84=>bg Q 55 1 #[(0,t84)] (fun t85=>aU S fun _=>blt Q .append #[55,55] 55 #[false,false] #[t83,t85] fun t86=>aE fun S w=>hN S V0 fun t87=>hF S 90 t87 0 fun t88=>hF S 58 t88 3 fun t89=>sto Q 55 t89 t86 (fun _=>ke K (mR V0 Z0 H1 t77 (zV (zV zf 3 [W0]) 64 [t64,t65,t66,t67,t68,t69,t70,t71,V0,t73,t74,t75,t76,t77,V0,V0,t80,t81,t82,t83,t84,t85,t86,t87,t88,t89]))) w) w) w.drew) w):iJ K (pS V0 W0 Z0 H1 zf) w:=by
 delta iJ
 refine Eq.mp (congrArg (fun c=>ah Q c _ _ _ _ w) (by kernel_rfl:(rep [1,1,1] (cd f88 (b1 4095)) (cd f88 (b1 511)))=(cd f88 (b1 511)))) ?_
 revert h
 delta ke
 generalize (cd f88 (b1 4095))=xc0
 exact mpF
theorem BZ (h:mU K (mR V0 Z0 H1 I1 zf) w):ke K (mR V0 Z0 H1 I1 zf) w:=by
 delta ke;revert h;delta mU dZ;exact mpF
theorem Cb (Inv:Value→World→Prop)(μ:Value→World→Nat)(h0:Inv I1 w)(hs:∀(j:Value) (dd:Nat→Value) (w:World) (m:Nat),Inv j w→m=μ j w →
  bT .gtr 3 j (ci 0) (fun C w=>aG C true (fun a5=>aJ V0 (fun a0=>ai Q 90 a0 0 fun a1=>ai Q 58 a1 3 fun a2=>ld Q 55 a2 fun a3=>bT .sub 3 j (ci 1) fun a4=>aL Q 55 a3 a4 fun I=>ai Q 79 I 0 fun J=>ld Q 31 J fun M=>bF .gtr 31 M Z0 fun Z=>a5 [V0,a0,a1,a2,a3,j,a4,I,J,M,Z0,Z]) w) (fun k=>k [uu,uu,uu,uu,uu,uu,uu,uu,uu,uu,uu,uu] w) fun u=>pick C (gd u 11) cF fun O w=>cond O (sN V0 (fun aa=>sF 90 aa 0 fun ad=>sF 58 ad 3 fun af=>sL 55 af fun ag=>sN V0 fun al=>sF 90 al 0 fun am=>sF 58 am 3 fun an=>sL 55 an fun ap=>sti (bT .sub 3 j (ci 1)) fun ar=>sI 55 ap ar fun av=>sL 79 av fun az=>sI 55 ag j fun aS=>sto Q 79 aS az fun _=>bT .sub 3 j (ci 1) fun U w=>(Inv U w)∧((μ U w)<m)) w.drew) (dZ K (pT V0 H1 j (zV (zV dd 7 [Z0]) 90 [j,C,C,gd u 0,gd u 1,gd u 2,gd u 3,gd u 4,gd u 5,gd u 6,gd u 7,gd u 8,gd u 9,gd u 10,gd u 11,O])) w)) w):mU K (mR V0 Z0 H1 I1 zf) w:=by
 refine aI (cd f88 (b1 32760)) (zr [(10,1),(90,34)]) kr (vP [10] Inv) (vQ [10] μ) h0 ?_;intro e' w' hI;have h:=hs _ (zM zf (gd e') (zr [(10,1),(90,34)])) w' _ hI rfl;revert h;generalize (dZ K)=qc0;exact mpF
theorem Cd (h:sN V0 (fun j=>sF 90 j 0 fun u=>sF 58 u 3 fun C=>sL 55 C fun I=>sL 79 H1 fun J=>sI 55 I I1 fun M=>sto Q 79 M J fun _=>K (ci 0)) w.drew):dZ K (pT V0 H1 I1 zf) w:=by
 delta dZ;exact mpK h
attribute [irreducible] cq mT fh kb iJ ke dZ mU
def iK (l0 e3 p5 i6:Value)(zf:Nat→Value):List Value:=l0::zf 1::zf 2::e3::zf 4::p5::i6::zT zf 7 181 ([])
def kj (l0 e3 p5 i6 k_7 r8 f9:Value)(zf:Nat→Value):List Value:=l0::zf 1::zf 2::e3::zf 4::p5::i6::k_7::r8::f9::zT zf 10 178 ([])
def mV (l0 e3:Value)(zf:Nat→Value):List Value:=l0::zf 1::zf 2::e3::zT zf 4 184 ([])
def fj (l0 e3 g10 at11:Value)(zf:Nat→Value):List Value:=l0::zf 1::zf 2::e3::zT zf 4 6 (g10::at11::zT zf 12 176 ([]))
def bM (K:KV):KE:=kZ f90 (b1 63) K
def km (K:KV):KE:=ah Q (cd f90 (b1 250)) (bM K) (xx xf (bM K) 0) (rk f90 K)
def fk (K:KV)(B1:KE):KE:=kY f90 (b1 2003) B1 (xx xf (bM K) 0) K
def fi (K:KV)(B1:KE):KE:=ah Q (cd f90 (b1 16019)) (fk K B1) (xx (xx xf (bM K) 0) (fk K B1) 1) (rk f90 K)
def kg (K:KV):KE:=ah Q (cd f90 (b1 511)) (rk f90 K) xf (rk f90 K)
def dI (K:KV):KE:=kZ f90 (b1 1023) K
def mW (K:KV):KE:=ah Q (cd f90 (b1 2044)) (dI K) (xx xf (dI K) 2) (rk f90 K)
theorem DV (h:box Q 35 X0 (fun W0=>ai Q 35 W0 0 fun t13=>ld Q 3 t13 fun t14=>ai Q 35 W0 7 fun t15=>ld Q 31 t15 fun j=>call Q 145 #[V0,t14,j] fun u w=>cond u (K (ci 14) w) (aE (fun S w=>hN S V0 fun C=>hF S 90 C 1 fun I=>hL S 86 I fun J=>hF S 35 W0 4 fun M=>hL S 31 M fun O=>call Q 146 #[J,O] (fun t24=>aE fun _=>lN 87 t24 fun U=>bT .eql 3 U (ci 0) fun Z w=>cond Z (K (ci 9) w) (km K (iK V0 W0 t24 (ci 0) (zV (zV (zV zu 1 [X0]) 4 [ci 0]) 12 [V0,t13,t14,t15,j,u,V0,C,I,J,M,O,t24,t24,U,Z])) w)) w) w.drew)) w):Gives Q 90 #[V0,X0] w K:=by
 refine aq func90 kr ?_;revert h;delta km bM;exact mpF
theorem Cg {K:KV}{V0 W0 X0 Y0:Value}{zf:Nat→Value}{w:World}(Inv:Value→World→Prop)(μ:Value→World→Nat)(h0:Inv Y0 w)(hs:∀(i6':Value) (dd:Nat→Value) (w:World) (m:Nat),Inv i6' w→m=μ i6' w →
  lN 87 X0 (fun t30=>lS i6' t30 fun t31 w=>cond t31 (aL Q 87 X0 i6' (fun t37=>ld Q 31 t37 fun t38=>call Q 89 #[V0,t38] fun t39 w=>aE (fun S w=>hN S V0 fun t42=>hF S 90 t42 0 fun t43=>hF S 58 t43 3 fun t44=>hL S 55 t44 fun t45=>hI S 55 t45 t39 fun t47=>hF S 79 t47 2 fun t48=>hL S 77 t48 fun t49=>hF S 35 W0 0 fun t50=>hL S 3 t50 fun t51=>hF S 35 W0 6 fun t52=>hL S 2 t52 fun t53=>(call Q 147 #[t49,t51,t53] (fun t54=>aE fun S w=>hld S (ext Q t54 0) fun t55=>hld S (ext Q t54 1) fun t56=>alc Q 77 (fun H1=>aU S fun S=>sto Q 77 H1 t55 fun _=>aU S fun _=>fi K (fun e2 w2=>(Inv (gd e2 6) w2)∧((μ (gd e2 6) w2)<m)) (kj V0 W0 X0 i6' t39 H1 t56 (zV (zV dd 28 [i6',X0,t30,t31]) 34 [V0,X0,i6',t37,t38,t39,t54,V0,t42,t43,t44,t45,t39,t47,t48,t49,t50,t51,t52,t53,t54,t55,t56]))) w) w)∧(alc Q 77 (fun H1=>aU S fun _=>call Q 147 #[t49,t51,t53] fun t54=>aE fun S w=>hld S (ext Q t54 0) fun t55=>hld S (ext Q t54 1) fun t56=>sto Q 77 H1 t55 (fun _=>aU S fun _=>fi K (fun e2 w2=>(Inv (gd e2 6) w2)∧((μ (gd e2 6) w2)<m)) (kj V0 W0 X0 i6' t39 H1 t56 (zV (zV dd 28 [i6',X0,t30,t31]) 34 [V0,X0,i6',t37,t38,t39,t54,V0,t42,t43,t44,t45,t39,t47,t48,t49,t50,t51,t52,t53,t54,t55,t56]))) w) w)) w.drew) w) (bM K (mV V0 W0 (zV (zV dd 5 [X0,i6']) 28 [i6',X0,t30,t31])) w)) w):km K (iK V0 W0 X0 Y0 zf) w:=by
 refine aI (cd f90 (b1 500)) (zr [(4,1),(6,4),(28,41)]) (by kernel_rfl) (vP [6] Inv) (vQ [6] μ) h0 ?_
 intro e' w' hI
 have h:=hs _ (zM zf (gd e') (zr [(4,1),(6,4),(28,41)])) w' _ hI rfl
 refine Eq.mp (congrArg (fun c=>ah Q c _ _ _ _ w') (by kernel_rfl:(rep (b1 51) (cd f90 (b1 16019)) (cd f90 (b1 500)))=(cd f90 (b1 500)))) ?_
 revert h
 delta fi fk
 generalize (cd f90 (b1 16019))=xc0
 generalize (bM K)=qc0
 exact mpF
theorem Ce (h:bT .neq 40 I1 (ci 0) (fun j w=>cond j (K I1 w) (sN V0 (fun u=>sF 90 u 0 fun C=>sF 58 C 3 fun I=>sL 55 I fun J=>sL 77 H1 fun M=>sI 55 J Z0 fun O=>sF 79 O 2 fun U=>sto Q 77 U M fun _=>fk K B1 (iK V0 W0 X0 Y0 (zV (zV (zV zf 7 [Z0,H1,I1]) 57 [I1,j]) 60 [V0,u,C,I,J,Z0,M,O,U]))) w.drew)) w):fi K B1 (kj V0 W0 X0 Y0 Z0 H1 I1 zf) w:=by
 delta fi;revert h;generalize (fk K B1)=qc0;generalize (bM K)=qc1;exact mpF
theorem Cj (h:ai Q 35 W0 0 (fun t69=>ld Q 3 t69 fun t70=>ai Q 35 W0 7 fun t71=>ld Q 31 t71 fun t72=>ai Q 35 W0 4 fun t73=>ld Q 31 t73 fun t74=>ai Q 35 W0 6 fun t75=>ld Q 2 t75 fun t76=>bld Q 121 #[(0,t70),(1,t72),(2,t74),(3,t76)] fun t77=>alc Q 121 fun J1=>sto Q 121 J1 t77 fun _=>aJ V0 fun t79=>ai Q 90 t79 0 fun t80=>ai Q 58 t80 4 fun t81=>ld Q 56 t81 fun t82=>lN 56 t82 fun t83 w=>aE (fun S w=>hN S V0 fun t86=>hF S 90 t86 0 fun t87=>hF S 58 t87 4 fun t88=>hL S 56 t88 fun t89=>hL S 121 J1 fun t90=>bg Q 56 1 #[(0,t90)] (fun t91=>aU S fun _=>blt Q .append #[56,56] 56 #[false,false] #[t89,t91] fun t92=>aE fun S w=>hN S V0 fun t93=>hF S 90 t93 0 fun t94=>hF S 58 t94 4 fun t95=>sto Q 56 t95 t92 (fun _=>kg K (fj V0 W0 J1 t83 (zV zf 69 [t69,t70,t71,t72,t73,t74,t75,t76,t77,V0,t79,t80,t81,t82,t83,V0,V0,t86,t87,t88,t89,t90,t91,t92,t93,t94,t95]))) w) w) w.drew) w):bM K (mV V0 W0 zf) w:=by
 delta bM
 refine Eq.mp (congrArg (fun c=>ah Q c _ _ _ _ w) (by kernel_rfl:(rep [1,1,1] (cd f90 (b1 511)) (cd f90 (b1 63)))=(cd f90 (b1 63)))) ?_
 revert h
 delta kg
 generalize (cd f90 (b1 511))=xc0
 exact mpF
theorem Ck (h:nC Y0 (fun j=>B1 (iK V0 W0 X0 j (zV zf 32 [Y0,j]))) w):fk K B1 (iK V0 W0 X0 Y0 zf) w:=by
 delta fk;revert h;generalize (bM K)=qc0;exact mpF
theorem Cf (h:mW K (fj V0 W0 J1 M1 zf) w):kg K (fj V0 W0 J1 M1 zf) w:=by
 delta kg;revert h;delta mW dI;exact mpF
theorem Ci (Inv:Value→World→Prop)(μ:Value→World→Nat)(h0:Inv M1 w)(hs:∀(u:Value) (dd:Nat→Value) (w:World) (m:Nat),Inv u w→m=μ u w →
  sti (bT .gtr 3 u (ci 0)) (fun J w=>aG J true (fun cp=>sN V0 (fun U=>sF 90 U 0 fun Z=>sF 58 Z 4 fun aa=>sL 56 aa fun ad=>sti (bT .sub 3 u (ci 1)) fun af=>sI 56 ad af fun ag=>sF 121 ag 0 fun al=>sL 3 al fun am=>sF 121 J1 0 fun an=>sL 3 an fun ap=>sti (bF .gtr 3 am ap) fun ar=>cp [V0,U,Z,aa,ad,u,af,ag,al,am,an,ap,ar,ar]) w) (fun k=>k [uu,uu,uu,uu,uu,uu,uu,uu,uu,uu,uu,uu,uu,uu] w) fun I w=>aG (gd I 13) false (fun b0=>sN V0 (fun av=>sF 90 av 0 fun az=>sF 58 az 4 fun aS=>sL 56 aS fun a0=>sti (bT .sub 3 u (ci 1)) fun a1=>sI 56 a0 a1 fun a2=>sF 121 a2 0 fun a3=>sL 3 a3 fun a4=>sF 121 J1 0 fun a5=>sL 3 a5 fun a6=>sti (bF .eql 3 a4 a6) fun a7=>b0 [V0,av,az,aS,a0,u,a1,a2,a3,a4,a5,a6,a7,a7]) w) (fun k=>k [uu,uu,uu,uu,uu,uu,uu,uu,uu,uu,uu,uu,uu,uu] w) fun j w=>aG (gd j 13) true (fun b2=>sN V0 (fun a8=>sF 90 a8 0 fun a9=>sF 58 a9 4 fun bb=>sL 56 bb fun bd=>sti (bT .sub 3 u (ci 1)) fun be=>sI 56 bd be fun bi=>sF 121 bi 1 fun bk=>sL 31 bk fun bn=>sF 121 J1 1 fun bp=>sL 31 bp fun bq=>sti (bF .gtr 31 bn bq) fun b5=>b2 [V0,a8,a9,bb,bd,u,be,bi,bk,bn,bp,bq,b5]) w) (fun k=>k [uu,uu,uu,uu,uu,uu,uu,uu,uu,uu,uu,uu,uu] w) fun C w=>aG (gd I 13) false (fun b3=>sti (pick (gd j 13) (gd C 12) cF) (fun b6=>b3 [b6]) w) (fun k=>k [uu] w) fun M w=>aG J true (fun b4=>sti (pick (gd I 13) cT (gd M 0)) (fun b7=>b4 [b7]) w) (fun k=>k [uu] w) fun O=>sti (pick J (gd O 0) cF) fun bs w=>cond bs (sN V0 (fun b8=>sF 90 b8 0 fun b9=>sF 58 b9 4 fun ca=>sL 56 ca fun cc=>sN V0 fun ce=>sF 90 ce 0 fun cg=>sF 58 cg 4 fun ch=>sL 56 ch fun cj=>sti (bT .sub 3 u (ci 1)) fun ck=>sI 56 cj ck fun cl=>sL 121 cl fun cm=>sI 56 cc u fun cn=>sto Q 121 cn cm fun _=>bT .sub 3 u (ci 1) fun bt w=>(Inv bt w)∧((μ bt w)<m)) w.drew) (dI K (fj V0 W0 J1 u (zV dd 96 [u,J,J,gd I 0,gd I 1,gd I 2,gd I 3,gd I 4,gd I 5,gd I 6,gd I 7,gd I 8,gd I 9,gd I 10,gd I 11,gd I 12,gd I 13,gd j 0,gd j 1,gd j 2,gd j 3,gd j 4,gd j 5,gd j 6,gd j 7,gd j 8,gd j 9,gd j 10,gd j 11,gd j 12,gd j 13,gd C 0,gd C 1,gd C 2,gd C 3,gd C 4,gd C 5,gd C 6,gd C 7,gd C 8,gd C 9,gd C 10,gd C 11,gd C 12,gd M 0,gd O 0,bs])) w)) w.drew):mW K (fj V0 W0 J1 M1 zf) w:=by
 refine aI (cd f90 (b1 4088)) (zr [(11,1),(96,65)]) kr (vP [11] Inv) (vQ [11] μ) h0 ?_;intro e' w' hI;have h:=hs _ (zM zf (gd e') (zr [(11,1),(96,65)])) w' _ hI rfl;revert h;generalize (dI K)=qc0;exact mpF
theorem Cl (h:sN V0 (fun j=>sF 90 j 0 fun u=>sF 58 u 4 fun C=>sL 56 C fun I=>sL 121 J1 fun J=>sI 56 I M1 fun M=>sto Q 121 M J fun _ w=>aE (fun S w=>hF S 35 W0 0 fun O=>hL S 3 O fun U=>hld (fun _=>True) (bT .sub 3 U (ci 1)) fun Z=>hF S 35 W0 0 fun aa=>hL S 3 aa fun ad=>hld (fun _=>True) (bT .sub 3 ad (ci 1)) fun af=>hN S V0 fun ag=>hF S 90 ag 2 fun al=>hI S 88 al af fun am=>hL S 87 am fun an=>hF S 35 W0 7 fun ap=>hL S 31 ap fun ar=>hN S V0 fun aS=>hF S 90 aS 2 fun a0=>bg Q 87 1 #[(0,ar)] (fun av=>aU S fun S=>blt Q .append #[87,87] 87 #[false,false] #[an,av] fun az=>aU S fun S w=>hI S 88 a0 Z fun a1=>sto Q 87 a1 az (fun _=>K (ci 0)) w) w) w.drew) w.drew):dI K (fj V0 W0 J1 M1 zf) w:=by
 delta dI;exact mpK h
attribute [irreducible] bM km fk fi kg dI mW
def ve (l0 e3 k_5 p6:Value)(zf:Nat→Value):List Value:=l0::zf 1::zf 2::e3::zf 4::k_5::p6::zT zf 7 121 ([])
def iI (l0 e3 k_5 p6 i7:Value)(zf:Nat→Value):List Value:=l0::zf 1::zf 2::e3::zf 4::k_5::p6::i7::zT zf 8 120 ([])
def jZ (l0 e3 k_5 p6 i7 n8 r9 f10:Value)(zf:Nat→Value):List Value:=l0::zf 1::zf 2::e3::zf 4::k_5::p6::i7::n8::r9::f10::zT zf 11 117 ([])
def mP (l0 e3 k_5:Value)(zf:Nat→Value):List Value:=l0::zf 1::zf 2::e3::zf 4::k_5::zT zf 6 122 ([])
def jY (K:KV):KE:=ah Q (cd f91 (b1 63)) (rk f91 K) xf (rk f91 K)
def bL (K:KV):KE:=kZ f91 (b1 127) K
def ka (K:KV):KE:=ah Q (cd f91 (b1 506)) (bL K) (xx xf (bL K) 0) (rk f91 K)
def fe (K:KV)(B1:KE):KE:=kY f91 (b1 4051) B1 (xx xf (bL K) 0) K
def eZ (K:KV)(B1:KE):KE:=ah Q (cd f91 (b1 32403)) (fe K B1) (xx (xx xf (bL K) 0) (fe K B1) 1) (rk f91 K)
theorem DS {K:KV}{V0 e1:Value}{w:World}(h:box Q 35 e1 (fun W0=>ai Q 35 W0 0 fun t12=>ld Q 3 t12 fun t13=>ai Q 35 W0 7 fun t14=>ld Q 31 t14 fun t15=>call Q 145 #[V0,t13,t15] fun t16 w=>cond t16 (K (ci 14) w) (ai Q 35 W0 0 (fun t18=>ld Q 3 t18 fun t19=>ai Q 35 W0 8 fun t20=>ld Q 31 t20 fun t21=>call Q 148 #[V0,t19,t21] fun t22=>bT .lss 3 t22 (ci 0) fun t24 w=>aG t24 false (fun k26=>aJ V0 (fun t27=>ai Q 90 t27 0 fun t28=>ai Q 58 t28 4 fun t29=>ld Q 56 t29 fun t30=>aL Q 56 t30 t22 fun t32=>ai Q 121 t32 4 fun t33=>ld Q 31 t33 fun t34=>bT .neq 31 t34 (cu 0) fun t35=>k26 [V0,t27,t28,t29,t30,t22,t32,t33,t34,t35]) w) (fun k=>k [uu,uu,uu,uu,uu,uu,uu,uu,uu,uu] w) fun us26=>pick t24 cT (gd us26 9) fun t36 w=>cond t36 (K (ci 12) w) (aE (fun S w=>hN S V0 fun t38=>hF S 90 t38 1 fun t39=>hL S 86 t39 fun t40=>hN S V0 fun t42=>hF S 90 t42 0 fun t43=>hF S 58 t43 4 fun t44=>hL S 56 t44 fun t45=>hI S 56 t45 t22 fun t47=>hF S 121 t47 2 fun t48=>hL S 31 t48 fun t49=>call Q 146 #[t40,t49] (fun t50=>aE fun _=>jY K (ve V0 W0 t22 t50 (zV (zV (zV zu 1 [e1]) 4 [ci 0]) 11 [V0,t12,t13,t14,t15,t16,V0,t18,t19,t20,t21,t22,t22,t24,t24,gd us26 0,gd us26 1,gd us26 2,gd us26 3,gd us26 4,gd us26 5,gd us26 6,gd us26 7,gd us26 8,gd us26 9,t36,V0,t38,t39,t40,V0,t42,t43,t44,t45,t22,t47,t48,t49,t50]))) w) w.drew)) w)) w):Gives Q 91 #[V0,e1] w K:=by
 refine aq func91 (by kernel_rfl) ?_
 refine Eq.mp (congrArg (fun c=>ah Q c _ _ _ _ w) (by kernel_rfl:(rep (b1 63) (cd f91 (b1 63)) (cd f91 []))=(cd f91 []))) ?_
 revert h
 delta jY
 generalize (cd f91 (b1 63))=xc0
 exact mpF
theorem BQ (h:ka K (iI V0 W0 X0 Y0 (ci 0) zf) w):jY K (ve V0 W0 X0 Y0 zf) w:=by
 delta jY;revert h;delta ka bL;exact mpF
theorem BS (Inv:Value→World→Prop)(μ:Value→World→Nat)(h0:Inv Z0 w)(hs:∀(i7':Value) (dd:Nat→Value) (w:World) (m:Nat),Inv i7' w→m=μ i7' w →
  lN 87 Y0 (fun t53=>lS i7' t53 fun t54 w=>cond t54 (aL Q 87 Y0 i7' (fun t60=>ld Q 31 t60 fun t61=>call Q 89 #[V0,t61] fun t62 w=>aE (fun S w=>hN S V0 fun t65=>hF S 90 t65 0 fun t66=>hF S 58 t66 3 fun t67=>hL S 55 t67 fun t68=>hI S 55 t68 t62 fun t70=>hF S 79 t70 2 fun t71=>hL S 77 t71 fun t72=>hF S 35 W0 0 fun t73=>hL S 3 t73 fun t74=>hN S V0 fun t76=>hF S 90 t76 0 fun t77=>hF S 58 t77 4 fun t78=>hL S 56 t78 fun t79=>hI S 56 t79 X0 fun t81=>hF S 121 t81 3 fun t82=>hL S 2 t82 fun t83=>(call Q 149 #[t72,t74,t83] (fun t84=>aE fun S w=>hld S (ext Q t84 0) fun t85=>hld S (ext Q t84 1) fun t86=>alc Q 77 (fun I1=>aU S fun S=>sto Q 77 I1 t85 fun _=>aU S fun _=>eZ K (fun e2 w2=>(Inv (gd e2 7) w2)∧((μ (gd e2 7) w2)<m)) (jZ V0 W0 X0 Y0 i7' t62 I1 t86 (zV (zV dd 51 [i7',Y0,t53,t54]) 57 [V0,Y0,i7',t60,t61,t62,t84,V0,t65,t66,t67,t68,t62,t70,t71,t72,t73,t74,V0,t76,t77,t78,t79,X0,t81,t82,t83,t84,t85,t86]))) w) w)∧(alc Q 77 (fun I1=>aU S fun _=>call Q 149 #[t72,t74,t83] fun t84=>aE fun S w=>hld S (ext Q t84 0) fun t85=>hld S (ext Q t84 1) fun t86=>sto Q 77 I1 t85 (fun _=>aU S fun _=>eZ K (fun e2 w2=>(Inv (gd e2 7) w2)∧((μ (gd e2 7) w2)<m)) (jZ V0 W0 X0 Y0 i7' t62 I1 t86 (zV (zV dd 51 [i7',Y0,t53,t54]) 57 [V0,Y0,i7',t60,t61,t62,t84,V0,t65,t66,t67,t68,t62,t70,t71,t72,t73,t74,V0,t76,t77,t78,t79,X0,t81,t82,t83,t84,t85,t86]))) w) w)) w.drew) w) (bL K (mP V0 W0 X0 (zV (zV dd 6 [Y0,i7']) 51 [i7',Y0,t53,t54])) w)) w):ka K (iI V0 W0 X0 Y0 Z0 zf) w:=by
 refine aI (cd f91 (b1 1012)) (zr [(4,1),(7,4),(51,48)]) (by kernel_rfl) (vP [7] Inv) (vQ [7] μ) h0 ?_
 intro e' w' hI
 have h:=hs _ (zM zf (gd e') (zr [(4,1),(7,4),(51,48)])) w' _ hI rfl
 refine Eq.mp (congrArg (fun c=>ah Q c _ _ _ _ w') (by kernel_rfl:(rep (b1 51) (cd f91 (b1 32403)) (cd f91 (b1 1012)))=(cd f91 (b1 1012)))) ?_
 revert h
 delta eZ fe
 generalize (cd f91 (b1 32403))=xc0
 generalize (bL K)=qc0
 exact mpF
theorem BR (h:bT .neq 40 J1 (ci 0) (fun j w=>cond j (K J1 w) (sN V0 (fun u=>sF 90 u 0 fun C=>sF 58 C 3 fun I=>sL 55 I fun J=>sL 77 I1 fun M=>sI 55 J H1 fun O=>sF 79 O 2 fun U=>sto Q 77 U M fun _=>fe K B1 (iI V0 W0 X0 Y0 Z0 (zV (zV (zV zf 8 [H1,I1,J1]) 87 [J1,j]) 90 [V0,u,C,I,J,H1,M,O,U]))) w.drew)) w):eZ K B1 (jZ V0 W0 X0 Y0 Z0 H1 I1 J1 zf) w:=by
 delta eZ;revert h;generalize (fe K B1)=qc0;generalize (bL K)=qc1;exact mpF
theorem BT (h:sN V0 (fun j=>sF 90 j 0 fun u=>sF 58 u 4 fun C=>sL 56 C fun I=>sF 35 W0 7 fun J=>sL 31 J fun M=>sI 56 I X0 fun O=>sF 121 O 4 fun U=>sto Q 31 U M fun _ w=>aE (fun S w=>hF S 35 W0 0 fun Z=>hL S 3 Z fun aa=>hld (fun _=>True) (bT .sub 3 aa (ci 1)) fun ad=>hF S 35 W0 0 fun af=>hL S 3 af fun ag=>hld (fun _=>True) (bT .sub 3 ag (ci 1)) fun al=>hN S V0 fun am=>hF S 90 am 2 fun an=>hI S 88 an al fun ap=>hL S 87 ap fun ar=>hF S 35 W0 7 fun av=>hL S 31 av fun az=>hN S V0 fun a1=>hF S 90 a1 2 fun a2=>bg Q 87 1 #[(0,az)] (fun aS=>aU S fun S=>blt Q .append #[87,87] 87 #[false,false] #[ar,aS] fun a0=>aU S fun S w=>hI S 88 a2 ad fun a3=>sto Q 87 a3 a0 (fun _=>K (ci 0)) w) w) w.drew) w.drew):bL K (mP V0 W0 X0 zf) w:=by
 delta bL;exact mpK h
theorem BU (h:nC Z0 (fun j=>B1 (iI V0 W0 X0 Y0 j (zV zf 55 [Z0,j]))) w):fe K B1 (iI V0 W0 X0 Y0 Z0 zf) w:=by
 delta fe;revert h;generalize (bL K)=qc0;exact mpF
attribute [irreducible] jY bL ka fe eZ
end
section
attribute [local irreducible] bin un conv call aZ blt slc ai fld aL idx lkp cP eP eSt rng nxt ent ext alc box bld bg ld sto aJ cr mkS ifc pick rdy wts aG sti cond aV Gives ah dy dP cOp
section
open Go.RowKit
def ndE (x:ND):List Value:=u6 x.id::u6 x.par::(List.range 54).map fun j=>iv (x.A.getD j 0)
theorem fR (x:ND):(ndE x).length=56:=by simp[ndE]
theorem Eo (x:ND):∀v∈ndE x,v.oneCell'=true:=by simp[ndE,u6,iv,Value.oneCell']
theorem Ic {x:ND}(h:x.A.length=54):(List.range 54).map (fun j=>iv (x.A.getD j 0))=x.A.map iv:=by
 apply List.ext_getElem
 ·simp[h]
 ·intro i C u;simp at C u;simp[List.getD,u]
theorem LF {x:ND}(h:x.A.length=54):ndE x=ndC x:=by unfold ndE ndC;rw[Ic h];rfl
structure LG where
 s:STA
 G:List GR
 T:List (Int×Int)
 R:List (List Int)
 t:Nat
 q:List Value
 ga:Option Addr
 gc:Nat
def lgC (l:LG):List Value:=saC l.s++(pA l.t 0::l.q)
structure LM (w:World) (B p:Nat) (l:LG):Prop where
 i6:l.s.I.length=6
 l6:l.s.L.length=6
 v6:l.s.V.length=6
 q6:l.q.length=6
 r6:l.R.length=6
 A54:∀x∈l.s.nodes,x.A.length=54
 cl:blk w p 90 (lgC l)
 lo:B≤p
 gv:l.s.gv=.slice l.ga l.G.length l.gc
 nd:w.ownsRow B 79 56 (.slice l.s.na l.s.nodes.length l.s.nc) l.s.nodes.length (l.s.nodes.flatMap ndE)
 gr:w.ownsRow B 121 5 (.slice l.ga l.G.length l.gc) l.G.length (l.G.flatMap grC)
 tm:TM w B l.t l.T
 rq:∀k,k<6→∃a c,l.q[k]? = some (.slice a (l.R.getD k []).length c)∧w.ownsRow B 31 1 (.slice a (l.R.getD k []).length c) (l.R.getD k []).length ((l.R.getD k []).flatMap uC)
 ne:∀(j k:Nat) (v v':Value) (b:Nat),j≠k→l.q[j]? = some v→l.q[k]? = some v'→v.ownBlock=some b→v'.ownBlock≠some b
section
variable {w w':World}{B p:Nat}{l:LG}
theorem LM.sl (h:LM w B p l):(saC l.s).length=20:=by simp[saC,h.i6,h.l6,h.v6]
theorem LM.ll (h:LM w B p l):(lgC l).length=27:=by simp[lgC,h.sl,h.q6]
theorem LM.fresh (h:LM w B p l)(u:Below w.heap.size w w'):LM w' B p l :=
 {h with
  cl:=ae u h.cl h.cl.lt
  nd:=cD h.nd fun k j=>u.block k (World.ownsRow.lt h.nd k j).2
  gr:=cD h.gr fun k j=>u.block k (World.ownsRow.lt h.gr k j).2
  tm:=h.tm.fresh u
  rq:=fun k j=>by
   obtain⟨a,c,I,C⟩:=h.rq k j;exact⟨a,c,I,cD C fun k j=>u.block k (World.ownsRow.lt C k j).2⟩}
theorem PW (h:LM w B p l)(j:k<20):(lgC l)[k]? = (saC l.s)[k]? := by
 unfold lgC;rw[List.getElem?_append_left (by rw[h.sl];exact j)]
theorem zdY {s:STA}(h:s.I.length=6)(j:k<6):(saC s)[k]? = some (.bool (s.I.getD k false)):=by
 unfold saC;rw[List.append_assoc,List.append_assoc,List.getElem?_append_left (by simp;omega),List.getElem?_map,gE oo];simp[List.getD,show k<s.I.length by omega]
theorem zdZ {s:STA}(h:s.I.length=6)(j:s.L.length=6)(u:k<6):(saC s)[6+k]? = some (.bool (s.L.getD k false)):=by
 unfold saC;rw[List.append_assoc,List.append_assoc,List.getElem?_append_right (by simp;omega),List.getElem?_append_left (by simp;omega),List.getElem?_map];rw[show 6+k-(s.I.map Value.bool).length=k by simp;omega,gE oo];simp[List.getD,show k<s.L.length by omega]
theorem ze0 {s:STA}(h:s.I.length=6)(j:s.L.length=6)(u:s.V.length=6)(C:k<6):(saC s)[12+k]? = some (u6 (s.V.getD k 0)):=by
 unfold saC;rw[List.append_assoc,List.getElem?_append_right (by simp;omega),List.getElem?_append_left (by simp;omega),List.getElem?_map];rw[show 12+k-(s.I.map Value.bool++s.L.map Value.bool).length=k by simp;omega,gE oo];simp[List.getD,show k<s.V.length by omega,u6]
theorem LM.cI (h:LM w B p l)(j:k<6):(lgC l)[k]? = some (.bool (l.s.I.getD k false)):=by rw[PW h oo,zdY h.i6 j]
theorem LM.cL (h:LM w B p l)(j:k<6):(lgC l)[6+k]? = some (.bool (l.s.L.getD k false)):=by rw[PW h oo,zdZ h.i6 h.l6 j]
theorem LM.cV (h:LM w B p l)(j:k<6):(lgC l)[12+k]? = some (u6 (l.s.V.getD k 0)):=by rw[PW h oo,ze0 h.i6 h.l6 h.v6 j]
theorem LM.cN (h:LM w B p l):(lgC l)[18]? = some (.slice l.s.na l.s.nodes.length l.s.nc):=by
 rw[PW h oo];unfold saC;rw[List.getElem?_append_right (by simp[h.i6,h.l6,h.v6])];simp[h.i6,h.l6,h.v6]
theorem LM.cG (h:LM w B p l):(lgC l)[19]? = some (.slice l.ga l.G.length l.gc):=by
 rw[PW h oo, ←h.gv];unfold saC;rw[List.getElem?_append_right (by simp[h.i6,h.l6,h.v6])];simp[h.i6,h.l6,h.v6]
theorem LM.cT (h:LM w B p l):(lgC l)[20]? = some (pA l.t 0):=by
 unfold lgC;rw[List.getElem?_append_right (by rw[h.sl];omega),h.sl];rfl
theorem LM.cQ (h:LM w B p l):(lgC l)[21+k]? = l.q[k]? := by
 unfold lgC;rw[List.getElem?_append_right (by rw[h.sl];omega),h.sl,show 21+k-20=k+1 by omega,List.getElem?_cons_succ]
theorem LM.cutS (h:LM w B p l):((lgC l).drop 0).take 20=saC l.s:=by
 unfold lgC;rw[List.drop_zero,List.take_append_of_le_length (Nat.le_of_eq h.sl.symm),tL (Nat.le_of_eq h.sl)]
theorem LM.cutV (h:LM w B p l):((lgC l).drop 12).take 6=l.s.V.map u6:=by
 unfold lgC saC;rw[show (12:Nat)=(l.s.I.map Value.bool++l.s.L.map Value.bool).length by simp[h.i6,h.l6],List.append_assoc,List.append_assoc,List.drop_left',List.take_append_of_le_length (by simp[h.v6]),tL (by simp[h.v6])]
 ·rfl
 ·rfl
end
theorem bf (h:K (pA b (o+0)) w):ai Q 90 (pA b o) 0 K w:=aH kr h
theorem AP (h:K (pA b (o+20)) w):ai Q 90 (pA b o) 1 K w:=aH kr h
theorem tS (h:K (pA b (o+21)) w):ai Q 90 (pA b o) 2 K w:=aH kr h
section
variable {w:World}{K:KV}{B p:Nat}{l:LG}
theorem Ms {id:Int}(J:LM w B p l)(hn:l.s.nodes.length≤1000000)(h:K (ci (fdN l.s.nodes id)) w):call Q 89 #[pA p 0,.int .u64 id] K w:=by
 refine ak (goK func89) (Fk ?_);refine CR (Inv:=fun i wr=>∃k:Nat,i=ci (k:Nat)∧k≤l.s.nodes.length∧wr=w∧∀j y,j<k→l.s.nodes[j]? = some y→y.id≠id) (μ:=fun i _=>l.s.nodes.length-(intOf i).toNat) ⟨0,rfl,by omega,rfl,fun j y hj=>by omega⟩ ?_;rintro _ dd wr m ⟨k,rfl,hk,rfl,u⟩ hm;refine aj <|bf <|dS <|lK (v:=.slice l.s.na l.s.nodes.length l.s.nc) J.cl J.cN <|bh underlying55 <|aK ?_
 by_cases I:k<l.s.nodes.length
 ·refine ax oo <|aj <|bf <|dS <|lK (v:=.slice l.s.na l.s.nodes.length l.s.nc) J.cl J.cN ?_;have O:l.s.nodes[k]? = some l.s.nodes[k]:=gE I;generalize l.s.nodes[k]=x at O;refine rd3 (enc:=ndE) (s:=56) (f':=0) (v:=u6 x.id) underlying55 kf fR kf kr oo J.nd rfl O rfl fun _ _=>?_;refine aO ?_
  by_cases M:x.id=id
  ·refine ax M ?_;have Z:=zcj O M u;unfold fdN at h;rw[Z,if_pos I]at h;exact h
  ·refine ao M <|aM oo oo ?_;refine⟨⟨k+1,ivS,by omega,rfl,fun j y hj C=>?_⟩,by rw[hm];show l.s.nodes.length-((k:Int)+1).toNat<l.s.nodes.length-(k:Int).toNat;omega⟩;by_cases U:j=k
   ·subst U;rw[O]at C;cases C;exact M
   ·exact u j y oo C
 ·refine ao oo <|CS ?_;have Z:=Yg (L:=l.s.nodes) (id:=id) fun j y C=>u j y (by have:=(gS C).1;omega) C;unfold fdN at h;rw[if_neg Z]at h;exact h
theorem ZY {o q:Int}(j:LM w B p l)(Z:l.G.length≤1000000)(h:∀v:Int,(v<0∨∃k:Nat,v=k∧k<l.G.length)→K (ci v) w):call Q 148 #[pA p 0,ci o,.int .u64 q] K w:=by
 refine ak (goK func148) (DT ?_);refine BV (Inv:=fun i wr=>∃k:Nat,i=ci (k:Nat)∧k≤l.G.length∧wr=w) (μ:=fun i _=>l.G.length-(intOf i).toNat) ⟨0,rfl,by omega,rfl⟩ ?_;rintro _ O wr m ⟨k,rfl,U,rfl⟩ M;refine aj <|bf <|eT <|lK (v:=.slice l.ga l.G.length l.gc) j.cl j.cG <|bh underlying56 <|aK ?_;by_cases C:k<l.G.length
 ·refine ax oo <|aj <|bf <|eT <|lK (v:=.slice l.ga l.G.length l.gc) j.cl j.cG ?_;have J:l.G[k]? = some l.G[k]:=gE C;generalize l.G[k]=x at J;refine rd3 (enc:=grC) (s:=5) (f':=0) (v:=iv x.o) underlying56 kf iG kf kr oo j.gr rfl J rfl fun _ _=>?_;refine aO ?_;by_cases I:x.o=o
  ·refine cU I <|aj <|bf <|eT <|lK (v:=.slice l.ga l.G.length l.gc) j.cl j.cG ?_;refine rd3 (enc:=grC) (s:=5) (f':=1) (v:=u6 x.q) underlying56 kf iG kf kr oo j.gr rfl J rfl fun _ _=>?_;refine aO <|bA I ?_;by_cases u:x.q=q
   ·exact ax u (h k (.inr ⟨k,rfl,C⟩))
   ·refine ao u <|aM oo oo ?_;exact⟨⟨k+1,ivS,by omega,rfl⟩,by rw[M];show l.G.length-((k:Int)+1).toNat<l.G.length-(k:Int).toNat;omega⟩
  ·refine eB I <|bj I <|aF <|aM oo oo ?_;exact⟨⟨k+1,ivS,by omega,rfl⟩,by rw[M];show l.G.length-((k:Int)+1).toNat<l.G.length-(k:Int).toNat;omega⟩
 ·refine ao oo <|BW ?_;exact h (-1) (.inl oo)
theorem ixQ {i:Int}(hi:i=(k:Nat))(j:k<6)(h:K (pA b (o+k)) w):aL Q 88 (pA b o) (ci i) K w:=by
 subst hi;exact ew underlying88 (s:=1) kf oo oo (by rw[Int.toNat_natCast,Nat.mul_one];exact h)
theorem TI {o q:Int}(C:LM w B p l)(ho:1≤o∧o≤6)(J:∀k,k<6→(l.R.getD k []).length≤1000000)(h:∀v:Bool,K (.bool v) w):call Q 145 #[pA p 0,ci o,.int .u64 q] K w:=by
 refine ak (goK func145) (DQ ?_);obtain⟨j,hj⟩:∃j:Nat,j=(o-1).toNat:=⟨_,rfl⟩
 obtain⟨a,c,U,Z⟩:=C.rq j oo;have J:=J j oo;have u:o-1=(j:Nat):=by omega
 generalize l.R.getD j []=rs at Z U J;have M:(lgC l)[21+j]? = some (.slice a rs.length c):=C.cQ.trans U;refine BO (Inv:=fun i wr=>∃k:Nat,i=ci (k:Nat)∧k≤rs.length∧wr=w) (μ:=fun i _=>rs.length-(intOf i).toNat) ⟨0,rfl,by omega,rfl⟩ ?_;rintro _ dd wr m ⟨k,rfl,hk,rfl⟩ hm
 refine ba oo oo <|aj <|tS <|ixQ u oo <|lK (v:=.slice a rs.length c) C.cl (by rw[Nat.zero_add];exact M) <|bh underlying87 <|aK ?_;by_cases I:k<rs.length
 ·refine ax oo <|ba oo oo <|aj <|tS <|ixQ u oo <|lK (v:=.slice a rs.length c) C.cl (by rw[Nat.zero_add];exact M) ?_;have hx:rs[k]? = some rs[k]:=gE I;generalize rs[k]=x at hx;obtain⟨g,aa,rfl,op⟩:=d9 Z oo;refine dQ underlying87 (s:=1) kf oo oo ?_;refine lK (v:=u6 x) op.blk (by
   have:=op.cell (enc:=uC) (s:=1) (j:=0) (fun _=>rfl) rfl hx oo
   rw[Int.toNat_natCast,Nat.zero_add];exact this) ?_
  refine aO ?_;by_cases O:x=q
  ·exact ax O (h true)
  ·refine ao O <|aM oo oo ?_;exact⟨⟨k+1,ivS,by omega,rfl⟩,by rw[hm];show rs.length-((k:Int)+1).toNat<rs.length-(k:Int).toNat;omega⟩
 ·refine ao oo <|BP ?_;exact h false
end
end
end
section
open Go.RowKit
section
variable {P:Program}{w w':World}{K:KV}{t:TypeId}{g B n c s:Nat}{e:TypeId}{v:Value}{xs:List Value}
theorem Xl {i:TypeInfo}{base:Nat}(M:P.underlying t=some (.slice e))(hi:P.info? e=some i)(u:i.size=s)(j:base≤w.heap.size)(h:∀w',w'.ownsRow base e s (.slice (some ⟨w.heap.size,0,none⟩) 0 0) 0 []→Below w.heap.size w w'→K (.slice (some ⟨w.heap.size,0,none⟩) 0 0) w'):bg P t 0 #[] K w:=by
 unfold bg;have J:(w.alloc (.cells #[] e)).ownsRow base e s (.slice (some ⟨w.heap.size,0,none⟩) 0 0) 0 []:=by
  refine⟨by simp,.inr ⟨w.heap.size,0,#[],rfl,j,?_,Nat.le_refl _,Nat.zero_le _,by simp,by simp⟩⟩;exact heap_alloc_new w (.cells #[] e)
 refine ey (w':=w.alloc (.cells #[] e)) (v:=.slice (some ⟨w.heap.size,0,none⟩) 0 0) ?_ (h _ J (cM (World.grownBy_alloc _ _ none) oA (fun k I=>by cases I)));have C:∀f:Nat→Value,(Array.range 0).map f=#[]:=fun f=>by apply Array.ext<;>simp
 simp[Instr.buildSlice,Instr.fill,run_underlying M,sizeOf,typeInfo,hi,u,newRow,C]
theorem SJ {ty : TypeId} {cs : Array Bool} {base B0 : Nat} {i : TypeInfo} {z : Value} {bytes : Nat} {av a : Option Addr} (ht : P.underlying t = some (.slice e)) (hi : P.info? e = some i) (hz : i.zero = some z)
    (hsize : i.size = s) (hby : i.bytes = bytes) (hzs : z.cells.size = s) (hs0 : 0 < s) (hown : w.ownsRow base e s (.slice av 0 0) 0 []) (src : w.ownsRow B0 e s (.slice a n c) n xs) (h1 : ∀ u ∈ xs, u.oneCell' = true)
    (hbytes : n * bytes ≤ 140737488355328) (h63 : n ≤ 9223372036854775807) (hbase : base ≤ w.heap.size)
    (h : ∀ a' c' w', w'.ownsRow base e s (.slice a' n c') n xs → w.grownBy w' (Value.slice av 0 0).ownBlock → Below base w w' → ((Value.slice a' n c').ownBlock = (Value.slice av 0 0).ownBlock ∨ (Value.slice a' n c').ownBlock = some w.heap.size) → K (.slice a' n c') w') :
    blt P .append #[t, t] ty cs #[.slice av 0 0, .slice a n c] K w := by
  by_cases hn0 : n = 0
  · subst hn0
    have hxs : xs = [] := List.eq_nil_of_length_eq_zero (by have := src.1; omega)
    subst hxs
    refine rD (v := .slice av 0 0) (w' := w) ?_ (h av 0 w hown ⟨rfl, rfl, rfl, Nat.le_refl _, fun _ _ _ => rfl⟩ (Below.refl _ _) (.inl rfl))
    rw [BigFrame.builtin_append]
    cases a with
    | none => cases av <;> simp [Builtin.append_, run_underlying ht, sizeOf, typeInfo, hi, Builtin.lenOf, Builtin.firstCells, storeCells]
    | some ad => cases av <;> simp [Builtin.append_, run_underlying ht, sizeOf, typeInfo, hi, Builtin.lenOf, Builtin.firstCells, storeCells, loadCells, loadCellsFrom]
  · obtain ⟨g, cur, rfl, op⟩ := d9 src (by omega)
    have hn : ∀ j u, xs[j]? = some u → w.cell? ((⟨g, 0, none⟩ : Addr).add j) = some u := by
      intro j u hj
      rw [Be, op.blk.cell, Nat.zero_add]
      rw [← op.take, List.getElem?_take] at hj
      split at hj
      · exact hj
      · cases hj
    obtain ⟨v', w', hr, h2, h3, _, h5⟩ := run_append_own_at (P := P) w base t ty e i z s bytes ht hi hz hsize hby hzs hs0 _ 0 [] hown ⟨g, 0, none⟩ n c xs op.xl hn h1 (by simp only [maxLen]; omega) (by rw [Nat.zero_add]; exact hbytes) hbase
    rw [Nat.zero_add, List.nil_append] at h2
    obtain ⟨a', c', rfl⟩ : ∃ a' c', v' = .slice a' n c' := by
      rcases h2.2 with ⟨hv, hn⟩ | ⟨g, cap, cur, hv, _⟩
      · exact ⟨none, 0, by rw [hv, hn]⟩
      · exact ⟨_, cap, hv⟩
    exact rD (by rw [BigFrame.builtin_append]; simp only [Sem.run_bind, hr, Result.andThen_ok, Sem.run_pure]) (h a' c' w' h2 h3 (cM h3 hbase (fun k hk => (World.ownsRow.lt hown k hk).1)) h5)
end
section
variable {l:LG}
theorem TL (h:l.s.I.length=6)(j:l.s.L.length=6)(u:l.s.V.length=6)(C:k<6)(b:Bool):(lgC l).set k (.bool b)=lgC {l with s:={l.s with I:=l.s.I.set k b} }:=by
 unfold lgC saC;simp only[List.append_assoc];rw[List.set_append_left _ _ (by simp;omega),List.map_set]
theorem ZW (h:l.s.I.length=6)(j:l.s.L.length=6)(u:l.s.V.length=6)(C:k<6)(b:Bool):(lgC l).set (6+k) (.bool b)=lgC {l with s:={l.s with L:=l.s.L.set k b} }:=by
 unfold lgC saC;simp only[List.append_assoc];rw[List.set_append_right _ _ (by simp;omega),List.length_map,h,show 6+k-6=k by omega,List.set_append_left _ _ (by simp;omega),List.map_set]
theorem ZX (h:l.s.I.length=6)(j:l.s.L.length=6)(u:l.s.V.length=6)(C:k<6)(x:Int):(lgC l).set (12+k) (u6 x)=lgC {l with s:={l.s with V:=l.s.V.set k x} }:=by
 unfold lgC saC;simp only[List.append_assoc];rw[List.set_append_right _ _ (by simp;omega),List.length_map,h,show 12+k-6=6+k by omega,List.set_append_right _ _ (by simp;omega),List.length_map,j,show 6+k-6=k by omega,List.set_append_left _ _ (by simp;omega),List.map_set];rfl
theorem Jk (h:l.s.I.length=6)(j:l.s.L.length=6)(u:l.s.V.length=6)(N:List ND)(a:Option Addr)(c:Nat):(lgC l).set 18 (.slice a N.length c)=lgC {l with s:={l.s with nodes:=N,na:=a,nc:=c} }:=by
 unfold lgC saC;simp only[List.append_assoc];rw[List.set_append_right _ _ (by simp;omega),List.length_map,h,show 18-6=12 by omega,List.set_append_right _ _ (by simp;omega),List.length_map,j,show 12-6=6 by omega,List.set_append_right _ _ (by simp;omega),List.length_map,u];rfl
theorem Ok (h:l.s.I.length=6)(j:l.s.L.length=6)(u:l.s.V.length=6)(G:List GR)(a:Option Addr)(c:Nat):(lgC l).set 19 (.slice a G.length c)=lgC {l with s:={l.s with gv:=.slice a G.length c},G:=G,ga:=a,gc:=c}:=by
 unfold lgC saC;simp only[List.append_assoc];rw[List.set_append_right _ _ (by simp;omega),List.length_map,h,show 19-6=13 by omega,List.set_append_right _ _ (by simp;omega),List.length_map,j,show 13-6=7 by omega,List.set_append_right _ _ (by simp;omega),List.length_map,u];rfl
theorem TN (h:l.s.I.length=6)(j:l.s.L.length=6)(u:l.s.V.length=6)(v:Value):(lgC l).set (21+k) v=lgC {l with q:=l.q.set k v}:=by
 have C:(saC l.s).length=20:=by simp[saC,h,j,u]
 unfold lgC;rw[List.set_append_right _ _ oo,C,show 21+k-20=k+1 by omega,List.set_cons_succ]
theorem Mr (h:l.s.I.length=6)(j:l.s.L.length=6)(u:l.s.V.length=6)(C:l.q.length=6):(lgC l).length=27:=by simp[lgC,saC,h,j,u,C]
end
theorem sR {L:List α}(h:L.length=6):∃a b c d e f,L=[a,b,c,d,e,f]:=by
 match L,h with
 | [a,b,c,d,e,f],_=>exact⟨a,b,c,d,e,f,rfl⟩
end
section
attribute [local irreducible] bin un conv call aZ blt slc ai fld aL idx lkp cP eP eSt rng nxt ent ext alc box bld bg ld sto aJ cr mkS ifc pick rdy wts aG sti cond aV Gives ah dy dP cOp
section
open Go.RowKit
structure GI (l:LG) (m:Nat):Prop where
 tk:∃rk,TK l.T rk
 nt:∀x∈l.T,∃y∈l.s.nodes,y.id=x.1
 nn:l.s.nodes.length≤m
 gn:l.G.length≤m
 tn:l.T.length≤m
 rn:∀k,k<6→(l.R.getD k []).length≤m
 vb:∀k,k<6→0≤l.s.V.getD k 0∧l.s.V.getD k 0<1099511627776
 gr:∀x∈l.G, -9223372036854775808≤x.a∧x.a≤9223372036854775807
 ib:∀y∈l.s.nodes,0≤y.id∧y.id<18446744073709551616
theorem GI.mono {l:LG}(h:GI l m)(j:m≤b):GI l b :=
 ⟨h.tk,h.nt,Nat.le_trans h.nn j,Nat.le_trans h.gn j,Nat.le_trans h.tn j,fun k u=>Nat.le_trans (h.rn k u) j,h.vb,h.gr,h.ib⟩
def nh :Value:=.slice none 0 0
def Ot :List Value:=List.replicate 6 nh
def lg0 (t:Nat)(I:List Bool):LG:=⟨⟨I,List.replicate 6 false,List.replicate 6 0,[],none,0,.slice none 0 0⟩,[],[],List.replicate 6 [],t,Ot,none,0⟩
theorem VL {v:Value}(h:Ot[k]? = some v):v=nh:=by
 have:=mO h
 exact List.eq_of_mem_replicate this
theorem lm0 {t:Nat}{I:List Bool}(hI:I.length=6)(C:blk w p 90 (lgC (lg0 t I)))(U:blk w t 127 [nh])(O:B≤p)(h:B≤t):LM w B p (lg0 t I) where
 i6:=hI
 l6:=rfl
 v6:=rfl
 q6:=rfl
 r6:=rfl
 A54:=by simp[lg0]
 cl:=C
 lo:=O
 gv:=rfl
 nd:=World.ownsRow_nil _ _ _ _
 gr:=World.ownsRow_nil _ _ _ _
 tm:=⟨⟨none,0,U,World.ownsRow_nil _ _ _ _⟩,h⟩
 rq:=fun k u=>by
  have e:(lg0 t I).R.getD k []=[]:=by
   show (List.replicate 6 ([]:List Int)).getD k []=[]
   rw[List.getD_eq_getElem?_getD,List.getElem?_replicate];split<;>rfl
  rw[e];refine⟨none,0,?_,World.ownsRow_nil _ _ _ _⟩;show Ot[k]? = some nh;unfold Ot;rw[List.getElem?_replicate,if_pos u]
 ne:=fun j k v v' b M J u h=>by
  rw[VL J]at h;cases h
theorem gi0 {t:Nat}{I:List Bool}:GI (lg0 t I) 0 :=
 ⟨⟨_,TK.nil⟩,by simp[lg0],Nat.le_refl _,Nat.le_refl _,Nat.le_refl _,fun k h=>by
  have e:(lg0 t I).R.getD k []=[]:=by
   show (List.replicate 6 ([]:List Int)).getD k []=[]
   rw[List.getD_eq_getElem?_getD,List.getElem?_replicate];split<;>rfl
  rw[e];exact Nat.le_refl _,fun k h=>by
  have e:(lg0 t I).s.V.getD k 0=0:=by
   show (List.replicate 6 (0:Int)).getD k 0=0;rw[List.getD_eq_getElem?_getD,List.getElem?_replicate];split<;>rfl
  rw[e];omega,by simp[lg0],by simp[lg0]⟩
def iN (n:Nat):List Bool:=(List.range 6).map fun k=>decide (k<n)
theorem zdn :∀{k:Nat},k<6→(iN k).set k true=iN (k+1)
 | 0,_=>rfl
 | 1,_=>rfl
 | 2,_=>rfl
 | 3,_=>rfl
 | 4,_=>rfl
 | 5,_=>rfl
section
variable {w:World}{K:KV}{B p:Nat}{l:LG}
theorem ixB {i:Int}(hi:i=(k:Nat))(j:k<6)(h:K (pA b (o+k)) w):aL Q 54 (pA b o) (ci i) K w:=by
 subst hi;exact ew underlying54 (s:=1) kf oo oo (by rw[Int.toNat_natCast,Nat.mul_one];exact h)
theorem zdz (h1:1≤n)(h6:n≤6)(h:∀w' p l,LM w' w.heap.size p l→GI l 0→l.s.V=List.replicate 6 0→l=lg0 l.t (iN n)→Below w.heap.size w w'→K (.tuple #[pA p 0,ci 0]) w'):call Q 24 #[ci (n:Nat)] K w:=by
 refine ak (goK func24) (Oj ?_);refine aK <|dt oo <|bO <|bj oo <|ao oo <|dl (vs:=[nh]) kr ?_;refine br fun w1 j b1 s1=>?_;have j:=cZ j
 refine dl (vs:=lgC (lg0 w.heap.size (List.replicate 6 false))) kr ?_;refine br fun w2 O b2 s2=>?_;have O:=cZ O
 have j:=ae b2 j j.lt;have bb:Below w.heap.size w w2:=b1.trans (b2.mono oo);rw[s1]at O ⊢;refine Lz (Inv:=fun i wr=>∃(k:Nat) (I:List Bool),i=ci (k:Nat)∧k≤n∧I.length=6∧I=iN k∧blk wr (w.heap.size+1) 90 (lgC (lg0 w.heap.size I))∧blk wr w.heap.size 127 [nh]∧Below w.heap.size w wr) (μ:=fun i _=>n-(intOf i).toNat) ⟨0,_,rfl,by omega,rfl,rfl,O,j,bb⟩ ?_
 rintro _ dd w3 m ⟨k,I,rfl,hk,hI,C,J,M,u⟩ hm;refine aK ?_;by_cases aa:k<n
 ·refine ax oo <|aj <|bf <|AU <|ixB rfl oo ?_;refine cB kf J (by rw[Mr hI rfl rfl rfl];omega) rfl fun w4 U o4=>?_;refine aM oo oo ?_;have e:(lgC (lg0 w.heap.size I)).set (0+0+0+k) (.bool true)=lgC (lg0 w.heap.size (I.set k true)):=by
   rw[show 0+0+0+k=k by omega,TL (l:=lg0 w.heap.size I) hI rfl rfl oo];rfl
  have Z:blk w4 (w.heap.size+1) 90 (lgC (lg0 w.heap.size (I.set k true))):=by rw[←e];simpa using U
  exact⟨⟨k+1,I.set k true,ivS,by omega,by rw[List.length_set,hI],by rw[C,zdn oo],Z,o4.blk M oo,bE u o4 oo⟩,by rw[hm];show n-((k:Int)+1).toNat<n-(k:Int).toNat;omega⟩
 ·refine ao oo <|LA ?_;exact h w3 _ _ (lm0 hI J M oo oA) gi0 rfl (by rw[C,show k=n by omega];rfl) u
end
theorem IU {enc:α→List Value}(h:∀x,∀v∈enc x,v.oneCell'=true)(L:List α):∀v∈L.flatMap enc,v.oneCell'=true:=by
 intro v j;obtain⟨x,_,u⟩:=List.mem_flatMap.1 j;exact h x v u
section
variable {w:World}{K:KV}{B p:Nat}{l:LG}
theorem Vw :(Tryz.prog.info? 79).map (fun i=>(i.zero,i.size,i.bytes))=some (some (.agg (ndE ⟨0,0,z54⟩).toArray),56,448):=by kernel_rfl
theorem Vv :(Tryz.prog.info? 121).map (fun i=>(i.zero,i.size,i.bytes))=some (some (.agg (grC ⟨0,0,0,0,0⟩).toArray),5,40):=by kernel_rfl
theorem Uz (x:Int):∀v∈uC x,v.oneCell'=true:=by simp[uC,u6,Value.oneCell']
structure CP (w0 w:World) (l m:LG) (p k:Nat):Prop where
 i6:m.s.I.length=6
 l6:m.s.L.length=6
 v6:m.s.V.length=6
 q6:m.q.length=6
 R:m.R=l.R
 cl:blk w p 90 (lgC m)
 lo:w0.heap.size≤p
 gv:m.s.gv=.slice m.ga m.G.length m.gc
 nd:w.ownsRow w0.heap.size 79 56 (.slice m.s.na m.s.nodes.length m.s.nc) m.s.nodes.length (m.s.nodes.flatMap ndE)
 gr:w.ownsRow w0.heap.size 121 5 (.slice m.ga m.G.length m.gc) m.G.length (m.G.flatMap grC)
 tm:TM w w0.heap.size m.t m.T
 rq:∀j,j<k→∃a c,m.q[j]? = some (.slice a (l.R.getD j []).length c)∧w.ownsRow w0.heap.size 31 1 (.slice a (l.R.getD j []).length c) (l.R.getD j []).length ((l.R.getD j []).flatMap uC)
 nq:∀j,j<6→k≤j→m.q[j]? = some nh
 ne:∀(j k:Nat) (v v':Value) (b:Nat),j≠k→m.q[j]? = some v→m.q[k]? = some v'→v.ownBlock=some b→v'.ownBlock≠some b
 bel:Below w0.heap.size w0 w
theorem CP.drew {m:LG}(h:CP w0 w l m p k):CP w0 w.drew l m p k :=
 {h with
  bel:=h.bel.drew
  cl:=h.cl.drew
  tm:=h.tm.fresh (Below.refl _ w).drew
  nd:=cD h.nd fun _ _=>rfl
  gr:=cD h.gr fun _ _=>rfl
  rq:=fun j C=>(h.rq j C).imp fun a=>Exists.imp fun c u=>⟨u.1,cD u.2 fun _ _=>rfl⟩}
theorem zbr {m:LG}(hl:LM w0 B p l)(hr:∀k,k<6→(l.R.getD k []).length≤1000000)(hc:CP w0 w l m n 0)(hA:∀x∈m.s.nodes,x.A.length=54)(q0:V0=pA p 0)(q3:W0=pA n 0)(q4:X0=ci 0)(h:∀w' C,LM w' w0.heap.size n C→Below w0.heap.size w0 w'→C.s.I=m.s.I→C.s.L=m.s.L→C.s.V=m.s.V→C.s.nodes=m.s.nodes→C.G=m.G→C.T=m.T→C.R=l.R→K (pA n 0) w'):kB K ((qA V0 W0 X0 zf)) w:=by
 subst q0 q3 q4;refine CK (Inv:=fun i wr=>∃(k:Nat) (C:LG),i=ci (k:Nat)∧k≤6∧CP w0 wr l C n k∧C.s.I=m.s.I∧C.s.L=m.s.L∧C.s.V=m.s.V∧C.s.nodes=m.s.nodes∧C.G=m.G∧C.T=m.T) (μ:=fun i _=>6-(intOf i).toNat) ⟨0,m,rfl,by omega,hc,rfl,rfl,rfl,rfl,rfl,rfl⟩ ?_;rintro _ dd w1 mm ⟨k,C,rfl,hk,u,e1,e2,e3,e4,e5,e6⟩ hm;refine aK ?_;by_cases O:k<6
 ·refine ax oo ?_;have u:=u.drew;have aa:LM w1.drew B p l:=hl.fresh u.bel;obtain⟨a,c,hq,am⟩:=aa.rq k O;have az:(lgC l)[0+21+k]? = some (.slice a (l.R.getD k []).length c):=by rw[Nat.zero_add];exact aa.cQ.trans hq
  have a7:=u.nq k O oA;have a3:(lgC C)[0+21+k]? = some nh:=by
   rw[Nat.zero_add];unfold lgC;have hs:(saC C.s).length=20:=by simp[saC,u.i6,u.l6,u.v6]
   rw[List.getElem?_append_right oo,hs,show 21+k-20=k+1 by omega,List.getElem?_cons_succ];exact a7
  have a9:=hr k O;generalize bb:l.R.getD k []=rs at am hq az a9
  refine au (fun x=>blk x n 90 (lgC C)∧blk x p 90 (lgC l)) ⟨u.cl,aa.cl⟩ <|ab (fun x hx _=>aj) <|ab (fun x hx _=>tS) <|ab (fun x hx _=>ixQ rfl O) <|ab (v:=nh) (fun x hx _=>lK hx.1 a3) <|ab (fun x hx _=>aj) <|ab (fun x hx _=>tS) <|ab (fun x hx _=>ixQ rfl O) <|ab (v:=.slice a rs.length c) (fun x hx _=>lK hx.2 az) <|ab (fun x hx _=>aj) <|ab (fun x hx _=>tS) ?_
  obtain⟨ii,a4,hz,bd,a1⟩:=info_parts GL;refine SJ (base:=w0.heap.size) (av:=none) (s:=1) underlying87 a4 hz bd a1 rfl oo (World.ownsRow_nil _ _ _ _) am (IU Uz _) oo oo u.bel.size fun a' c' w2 a0 hg b2 a8=>?_;have B2:Below w1.drew.heap.size w1.drew w2:=cM hg oA (fun k hk=>by cases hk);have U:=ae B2 u.cl u.cl.lt
  refine aC ⟨U,ae B2 aa.cl aa.cl.lt⟩ <|ab (fun x hx _=>ixQ rfl O) ?_;have be:(lgC C).length=27:=Mr u.i6 u.l6 u.v6 u.q6;refine cB kf U oo rfl fun w3 ar o3=>?_;refine aM oo oo ?_;rw[show 0+21+k=21+k by omega,TN u.i6 u.l6 u.v6]at ar
  have ap:∀j,(C.q.set k (.slice a' rs.length c'))[j]? = if k=j then some (.slice a' rs.length c')else C.q[j]? := by
   intro j;rw[List.getElem?_set];by_cases J:k=j
   ·subst J;simp[u.q6,O]
   ·simp[J]
  have al:∀(j:Nat) (v:Value) (b:Nat),C.q[j]? = some v→v.ownBlock=some b→b<w1.drew.heap.size:=by
   intro j v b Z hb;have an:j<6:=by rw[←u.q6];exact(gS Z).1
   by_cases a6:j<k
   ·obtain⟨a2,c2,ad,af⟩:=u.rq j a6;rw[Z]at ad;cases ad;exact(World.ownsRow.lt af b hb).2
   ·rw[u.nq j an oo]at Z;cases Z;cases hb
  have ag:∀b,(Value.slice a' rs.length c').ownBlock=some b→b=w1.drew.heap.size:=by
   intro b hb;rcases a8 with h1|h1
   ·rw[h1]at hb;cases hb
   ·rw[h1]at hb;cases hb;rfl
  refine⟨⟨k+1, {C with q:=C.q.set k (.slice a' rs.length c')},ivS,by omega,?_,e1,e2,e3,e4,e5,e6⟩,by rw[hm];show 6-((k:Int)+1).toNat<6-(k:Int).toNat;omega⟩;exact {
   i6:=u.i6
   l6:=u.l6
   v6:=u.v6
   q6:=by rw[List.length_set];exact u.q6
   R:=u.R
   cl:=ar
   lo:=u.lo
   gv:=u.gv
   nd:=eM (cD u.nd fun q hq=>B2.block q (World.ownsRow.lt u.nd q hq).2) U dc o3
   gr:=eM (cD u.gr fun q hq=>B2.block q (World.ownsRow.lt u.gr q hq).2) U dc o3
   tm:=(u.tm.fresh B2).keep (o3.keep (T:=[90]) (B:=w0.heap.size) U sm u.lo) dc dc
   rq:=fun j Z=>by
    show ∃a c,(C.q.set k (.slice a' rs.length c'))[j]? = _∧_;rw[ap];by_cases J:k=j
    ·subst J;rw[if_pos rfl,bb];exact⟨a',c',rfl,eM a0 U dc o3⟩
    ·rw[if_neg J];obtain⟨a2,c2,ad,af⟩:=u.rq j oo;exact⟨a2,c2,ad,eM (cD af fun q hq=>B2.block q (World.ownsRow.lt af q hq).2) U dc o3⟩
   nq:=fun j an J=>by
    show (C.q.set k (.slice a' rs.length c'))[j]? = _;rw[ap,if_neg oo];exact u.nq j an oo
   ne:=fun i j v v' b a5 hi Z hb=>by
    replace hi:(C.q.set k (.slice a' rs.length c'))[i]? = some v:=hi
    replace Z:(C.q.set k (.slice a' rs.length c'))[j]? = some v':=Z
    rw[ap]at hi Z;by_cases aS:k=i
    ·rw[if_pos aS]at hi;cases hi;have bi:=ag b hb;by_cases J:k=j
     ·omega
     ·rw[if_neg J]at Z;intro hh
      have:=al j v' b Z hh
      omega
    ·rw[if_neg aS]at hi;by_cases J:k=j
     ·rw[if_pos J]at Z;cases Z;intro hh;have h1:=ag b hh
      have:=al i v b hi hb
      omega
     ·rw[if_neg J]at Z;exact u.ne i j v v' b a5 hi Z hb
   bel:=bE (u.bel.trans (B2.mono u.bel.size)) o3 u.lo}
 ·refine ao oo ?_;have O:k=6:=by omega
  subst O;refine CL ?_;refine h w1 C ?_ u.bel e1 e2 e3 e4 e5 e6 u.R;exact {
   i6:=u.i6
   l6:=u.l6
   v6:=u.v6
   q6:=u.q6
   r6:=by rw[u.R];exact hl.r6
   A54:=by rw[e4];exact hA
   cl:=u.cl
   lo:=u.lo
   gv:=u.gv
   nd:=u.nd
   gr:=u.gr
   tm:=u.tm
   rq:=by rw[u.R];exact u.rq
   ne:=u.ne}
end
section
variable {w:World}{K:KV}{B p:Nat}{l:LG}
theorem zbq {w0 : World} {m : LG} {l0 m3 : Value} {zf : Nat → Value} (hl : LM w0 B p l) (hr : ∀ k, k < 6 → (l.R.getD k []).length ≤ 1000000) (ht : l.T.length ≤ 1000000) {pm : Nat} (hc : CP w0 w l m pm 0) (hA : ∀ x ∈ m.s.nodes, x.A.length = 54) (hmT : m.T = []) (hb : blk w m.t 127 [nh])
    (q0 : l0 = .pointer (some ⟨p, 0, none⟩)) (q3 : m3 = .pointer (some ⟨pm, 0, none⟩))
    (h : ∀ w' m', LM w' w0.heap.size pm m' → Below w0.heap.size w0 w' → m'.s.I = m.s.I → m'.s.L = m.s.L → m'.s.V = m.s.V → m'.s.nodes = m.s.nodes → m'.G = m.G → m'.T = l.T → m'.R = l.R → K (.pointer (some ⟨pm, 0, none⟩)) w') : jb K ((qz l0 m3 zf)) w := by
  subst q0 q3
  refine CJ ?_
  have hc := hc.drew
  have hb : blk w.drew m.t 127 [nh] := hb.drew
  have hl1 : LM w.drew B p l := hl.fresh hc.bel
  obtain ⟨a, c, htb, hrow⟩ := hl1.tm.row
  have hct : (lgC m)[20]? = some (.pointer (some ⟨m.t, 0, none⟩)) := by
    have hs : (saC m.s).length = 20 := by simp [saC, hc.i6, hc.l6, hc.v6]
    unfold lgC
    rw [List.getElem?_append_right (by omega), hs]
    rfl
  refine au (fun x => blk x pm 90 (lgC m) ∧ blk x p 90 (lgC l) ∧ blk x m.t 127 [nh] ∧ blk x l.t 127 [.slice a l.T.length c]) ⟨hc.cl, hl1.cl, hb, htb⟩ ?_
  refine ab (fun x hx K hK => aj hK) ?_
  refine ab (fun x hx K hK => AP hK) ?_
  refine ab (v := .pointer (some ⟨m.t, 0, none⟩)) (fun x hx K hK => ld1 (fun _ => by kernel_rfl) hx.1 hct hK) ?_
  refine ab (fun x hx K hK => aj hK) ?_
  refine ab (fun x hx K hK => AP hK) ?_
  refine ab (v := .pointer (some ⟨m.t, 0, none⟩)) (fun x hx K hK => ld1 (fun _ => by kernel_rfl) hx.1 hct hK) ?_
  refine ab (fun x hx K hK => aj hK) ?_
  refine ab (fun x hx K hK => lr hK) ?_
  refine ab (v := nh) (fun x hx K hK => ld1 (fun _ => by kernel_rfl) hx.2.2.1 rfl hK) ?_
  refine ab (fun x hx K hK => aj hK) ?_
  refine ab (fun x hx K hK => AP hK) ?_
  refine ab (v := .pointer (some ⟨l.t, 0, none⟩)) (fun x hx K hK => ld1 (fun _ => by kernel_rfl) hx.2.1 hl1.cT hK) ?_
  refine ab (fun x hx K hK => aj hK) ?_
  refine ab (fun x hx K hK => lr hK) ?_
  refine ab (v := .slice a l.T.length c) (fun x hx K hK => ld1 (fun _ => by kernel_rfl) hx.2.2.2 rfl hK) ?_
  obtain ⟨ii, hi', hz, hsz, hby⟩ := info_parts Tx
  refine SJ (base := w0.heap.size) (av := none) (s := 2) Tryz.underlying125 hi' hz hsz hby rfl (by omega) (World.ownsRow_nil _ _ _ _) hrow (IU MD _) (by omega) (by omega) hc.bel.size fun a' c' w2 hown hg b2 hob => ?_
  have B2 : Below w.drew.heap.size w.drew w2 := cM hg (Nat.le_refl _) (fun k hk => by cases hk)
  have hb2 := ae B2 hb hb.lt
  refine aC ⟨ae B2 hc.cl hc.cl.lt, ae B2 hl1.cl hl1.cl.lt, hb2, ae B2 htb htb.lt⟩ ?_
  refine ab (fun x hx K hK => aj hK) ?_
  refine ab (fun x hx K hK => lr hK) ?_
  refine cB (fun _ => by kernel_rfl) hb2 (by simp) rfl fun w3 hb3 o3 => ?_
  have hb3 : blk w3 m.t 127 [.slice a' l.T.length c'] := hb3
  have c3 : CP w0 w3 l { m with T := l.T } pm 0 := {
      i6 := hc.i6
      l6 := hc.l6
      v6 := hc.v6
      q6 := hc.q6
      R := hc.R
      cl := o3.blk (ae B2 hc.cl hc.cl.lt) (fun hh => hc.cl.ne hb (by decide) hh)
      lo := hc.lo
      gv := hc.gv
      nd := eM (cD hc.nd fun q hq => B2.block q (World.ownsRow.lt hc.nd q hq).2) hb2 (by decide) o3
      gr := eM (cD hc.gr fun q hq => B2.block q (World.ownsRow.lt hc.gr q hq).2) hb2 (by decide) o3
      tm := ⟨⟨a', c', hb3, eM hown hb2 (by decide) o3⟩, hc.tm.lo⟩
      rq := fun j hj => absurd hj (by omega)
      nq := hc.nq
      ne := hc.ne
      bel := bE (hc.bel.trans (B2.mono hc.bel.size)) o3 hc.tm.lo }
  exact zbr hl hr c3 hA rfl rfl rfl h
theorem zbW {m : Nat} (hl : LM w B p l) (hg : GI l m) (hm : m ≤ 100000)
    (h : ∀ w' p' l', LM w' w.heap.size p' l' → GI l' m → Below w.heap.size w w' → l'.s.I = l.s.I → l'.s.L = l.s.L → l'.s.V = l.s.V → K (.pointer (some ⟨p', 0, none⟩)) w') : call Tryz.prog 48 #[.pointer (some ⟨p, 0, none⟩)] K w := by
  refine ak (goK Tryz.func48) (Fi ?_)
  have hnn := hg.nn
  have hgn := hg.gn
  have htn := hg.tn
  refine aj ?_
  refine bf ?_
  refine ldA (n := 20) (vs := saC l.s) Tryz.underlying58 rfl (by kernel_rfl) hl.cl hl.cutS hl.sl ?_
  refine dl (vs := [nh]) (by kernel_rfl) ?_
  refine br fun w1 ht b1 s1 => ?_
  have ht : blk w1 w.heap.size 127 [nh] := by simpa [Value.cells] using ht
  obtain ⟨i0, i1, i2, i3, i4, i5, hI⟩ := sR hl.i6
  obtain ⟨x0, x1, x2, x3, x4, x5, hL⟩ := sR hl.l6
  obtain ⟨v0, v1, v2, v3, v4, v5, hV⟩ := sR hl.v6
  let l1 : LG := { l with T := [], t := w.heap.size, q := Ot }
  have hl1 : lgC l1 = [.bool i0, .bool i1, .bool i2, .bool i3, .bool i4, .bool i5, .bool x0, .bool x1, .bool x2, .bool x3, .bool x4, .bool x5, .int .u64 v0, .int .u64 v1, .int .u64 v2, .int .u64 v3, .int .u64 v4, .int .u64 v5, .slice l.s.na l.s.nodes.length l.s.nc, .slice l.ga l.G.length l.gc, .pointer (some ⟨w.heap.size, 0, none⟩), nh, nh, nh, nh, nh, nh] := by
    show saC l.s ++ _ = _
    unfold saC
    rw [hI, hL, hV, hl.gv]
    rfl
  have hs1 : saC l.s = [.bool i0, .bool i1, .bool i2, .bool i3, .bool i4, .bool i5, .bool x0, .bool x1, .bool x2, .bool x3, .bool x4, .bool x5, .int .u64 v0, .int .u64 v1, .int .u64 v2, .int .u64 v3, .int .u64 v4, .int .u64 v5, .slice l.s.na l.s.nodes.length l.s.nc, .slice l.ga l.G.length l.gc] := by
    unfold saC
    rw [hI, hL, hV, hl.gv]
    rfl
  refine dl (vs := lgC l1) (by rw [hl1, hs1]; kernel_rfl) ?_
  refine br fun w2 hc b2 s2 => ?_
  have hc : blk w2 w1.heap.size 90 (lgC l1) := by
    rw [hl1] at hc ⊢
    simpa [Value.cells] using hc
  rw [s1] at hc ⊢
  have ht2 := ae b2 ht ht.lt
  have bb2 : Below w.heap.size w w2 := b1.trans (b2.mono (by omega))
  obtain ⟨in1, hn1, hnz, hnsz, hnby⟩ := info_parts Vw
  refine Xl (base := w.heap.size) Tryz.underlying55 hn1 hnsz bb2.size fun w3 hd3 b3 => ?_
  have bb3 := bb2.trans (b3.mono bb2.size)
  have hl3 := hl.fresh bb3
  have hc3 := ae b3 hc hc.lt
  have ht3 := ae b3 ht2 ht2.lt
  refine aj ?_
  refine bf ?_
  refine dS ?_
  refine ld1 (v := .slice l.s.na l.s.nodes.length l.s.nc) (fun _ => by kernel_rfl) hl3.cl hl3.cN ?_
  refine SJ (base := w.heap.size) (s := 56) Tryz.underlying55 hn1 hnz hnsz hnby rfl (by omega) hd3 hl3.nd (IU Eo _) (by omega) (by omega) bb3.size fun a4 c4 w4 hn4 hg4 b4 _ => ?_
  have bb4 := bb3.trans b4
  have hc4 := fJ hc3 hd3 (by decide) hg4
  have ht4 := fJ ht3 hd3 (by decide) hg4
  refine aj ?_
  refine bf ?_
  refine dS ?_
  refine cB (fun _ => by kernel_rfl) hc4 (by rw [Mr (l := l1) hl.i6 hl.l6 hl.v6 rfl]; omega) rfl fun w5 hc5 o5 => ?_
  have hc5 : blk w5 (w.heap.size + 1) 90 (lgC { l1 with s := { l1.s with nodes := l.s.nodes, na := a4, nc := c4 } }) := by rw [← Jk (l := l1) hl.i6 hl.l6 hl.v6]; exact hc5
  have bb5 := bE bb4 o5 (by omega)
  have ht5 := o5.blk ht4 (by omega)
  have hn5 := eM hn4 hc4 (by decide) o5
  obtain ⟨ig1, hg1, hgz, hgsz, hgby⟩ := info_parts Vv
  refine Xl (base := w.heap.size) Tryz.underlying56 hg1 hgsz bb5.size fun w6 hd6 b6 => ?_
  have bb6 := bb5.trans (b6.mono bb5.size)
  have hl6 := hl.fresh bb6
  have hc6 := ae b6 hc5 hc5.lt
  have ht6 := ae b6 ht5 ht5.lt
  have hn6 := cD hn5 fun q hq => b6.block q (World.ownsRow.lt hn5 q hq).2
  refine aj ?_
  refine bf ?_
  refine eT ?_
  refine ld1 (v := .slice l.ga l.G.length l.gc) (fun _ => by kernel_rfl) hl6.cl hl6.cG ?_
  refine SJ (base := w.heap.size) (s := 5) Tryz.underlying56 hg1 hgz hgsz hgby rfl (by omega) hd6 hl6.gr (IU uF _) (by omega) (by omega) bb6.size fun a7 c7 w7 hg7 hg7' b7 _ => ?_
  have bb7 := bb6.trans b7
  have hc7 := fJ hc6 hd6 (by decide) hg7'
  have ht7 := fJ ht6 hd6 (by decide) hg7'
  have hn7 := wj hn6 hd6 (by decide) hg7'
  refine aj ?_
  refine bf ?_
  refine eT ?_
  refine cB (fun _ => by kernel_rfl) hc7 (by rw [Mr (l := { l1 with s := { l1.s with nodes := l.s.nodes, na := a4, nc := c4 } }) hl.i6 hl.l6 hl.v6 rfl]; omega) rfl fun w8 hc8 o8 => ?_
  have ht8 : blk w8 w.heap.size 127 [nh] := o8.blk ht7 (by omega)
  let l8 : LG := { l1 with s := { l1.s with nodes := l.s.nodes, na := a4, nc := c4, gv := .slice a7 l.G.length c7 }, ga := a7, gc := c7 }
  have hc8 : blk w8 (w.heap.size + 1) 90 (lgC l8) := by
    have e := Ok (l := { l1 with s := { l1.s with nodes := l.s.nodes, na := a4, nc := c4 } }) hl.i6 hl.l6 hl.v6 l.G a7 c7
    exact e ▸ hc8
  have hcp : CP w w8 l l8 (w.heap.size + 1) 0 := {
      i6 := hl.i6
      l6 := hl.l6
      v6 := hl.v6
      q6 := rfl
      R := rfl
      cl := hc8
      lo := by omega
      gv := rfl
      nd := eM hn7 hc7 (by decide) o8
      gr := eM hg7 hc7 (by decide) o8
      tm := ⟨⟨none, 0, ht8, World.ownsRow_nil _ _ _ _⟩, Nat.le_refl _⟩
      rq := fun j hj => absurd hj (by omega)
      nq := fun j hj _ => by
        show Ot[j]? = some nh
        unfold Ot
        rw [List.getElem?_replicate, if_pos hj]
      ne := fun j k v v' b hjk hj hk hb => by
        rw [VL hj] at hb
        cases hb
      bel := bE bb7 o8 (by omega) }
  refine zbq hl (fun k hk => Nat.le_trans (hg.rn k hk) (by omega)) (by omega) hcp hl.A54 rfl ht8 rfl rfl fun w' l' hm' hb' e1 e2 e3 e4 e5 e6 e7 => ?_
  refine h w' _ l' hm' ?_ hb' e1 e2 e3
  exact ⟨by rw [e6]; exact hg.tk, by rw [e6, e4]; exact hg.nt, by rw [e4]; exact hg.nn, by rw [e5]; exact hg.gn, by rw [e6]; exact hg.tn, by rw [e7]; exact hg.rn, by rw [e3]; exact hg.vb, by rw [e5]; exact hg.gr, by rw [e4]; exact hg.ib⟩
end
end
end
end Go.Proofs.YtkfgimlaijifaaaGreatDoor
