import Derived.Test.YtgpfkmdknlcemaaGreatDoorQ12
import Derived.Test.YtgpfkmdknlcemaaGreatDoorQ8
import Derived.Test.YtgpfkmdknlcemaaGreatDoorQ1
import Derived.Test.YtgpfkmdknlcemaaGreatDoorQ2
namespace Go.Proofs.YtgpfkmdknlcemaaGreatDoor
set_option maxRecDepth 100000
set_option maxHeartbeats 4000000
open Tryz
section
attribute [local irreducible] bin un conv call dC blt slc ai fld aU idx lkp eX jl eSt rng nxt ent ext alc box bld dl ld sto bo eS mkS ifc pick rdy wts aJ sti cond bM Gives ae fU gX cOp
section
open Go.RowKit
theorem PV :(Tryz.prog.info? 100).map (fun i=>(i.zero,i.size,i.bytes))=some (some (.agg (grC ⟨0,0,0,0,0⟩).toArray),5,40):=by kernel_rfl
theorem NQ {G G':List GR}(d:G.Pairwise ltG)(R:G'.Perm G)(h:G'.Pairwise fun x y=>¬ltG y x):G'=G:=by
 have U:∀x∈G,∀y∈G,¬ltG x y→¬ltG y x→x=y:=by
  intro x Z y X J u;obtain⟨i,hi⟩:=List.getElem?_of_mem Z;obtain⟨j,V⟩:=List.getElem?_of_mem X;obtain⟨a1,rfl⟩:=List.getElem?_eq_some_iff.1 hi;obtain⟨M,rfl⟩:=List.getElem?_eq_some_iff.1 V;rcases Nat.lt_trichotomy i j with e|e|e
  ·exact absurd (List.pairwise_iff_getElem.1 d i j a1 M e) J
  ·subst e;rfl
  ·exact absurd (List.pairwise_iff_getElem.1 d j i M a1 e) u
 refine List.Perm.eq_of_pairwise (le:=fun x y=>¬ltG y x) (fun a b ha hb J u=>U a (R.mem_iff.1 ha) b hb u J) h (d.imp fun {x y} I C=>SZ (Kw I C)) R
section
variable {w:World}{K:KV}{q:LB}{s:PL}
theorem Bf (h:PM w q s)(hi:PI s)(hn:s.G.length≤1000000)(hK:∀w' t d j,SO w' (w.heap.size+1) s t d j→Below w.heap.size w w'→K (.agg (saC t).toArray) w'):call Tryz.prog 11 #[pB q.p] K w:=by
 have b6:=h.lt;refine Qt h hi ?_;intro l0 l1 s2 c6 cX c4 c3 zf w1 X U q0 q1 z1 n1 J;subst q0 q1;have p1:=h.below J;obtain⟨m,hm,C⟩:=p1.gm;refine yK ?_;refine aw (Bn (lK (v:=.map (some q.gm)) p1.b (by rw[Nat.zero_add];exact p1.c27) (Kh underlying88 hm fun w2 aS b2 s2=>?_)));have hz:=z1.lt;have cV:q.gm<w.heap.size:=b6 _ (by simp[LB.l]);have z2:=af b2 z1 z1.lt
 have n2:=di n1 fun k u=>b2.block k (World.ownsRow.lt n1 k u).2;have bi:=J.trans (b2.mono J.size);have az:(m.map (·.1)).Nodup:=aS.nodup.2.1;have cg:m.length=s.G.length:=by rw[C.length_eq];unfold grL;rw[List.length_map]
 generalize hr:w1.heap.size=r at aS s2;obtain⟨ii,ch,cD,cl,b9⟩:=info_parts PV;refine yL (Inv:=fun wr=>∃(D:List ((Int×Int)×GR)) (d:Option Addr) (j:Nat),IT rqV grV wr r q.gm m (D.map (·.1))∧(∀x∈D,x∈m)∧blk wr w.heap.size 30 (saC ⟨s.I,s.L,s.V,s.N,X,U,.slice d D.length j⟩) ∧
   wr.ownsRow (r+1) 100 5 (.slice d D.length j) D.length ((D.map (·.2)).flatMap grC)∧wr.ownsRow (w.heap.size+1) 38 56 (.slice X s.N.length U) s.N.length (s.N.flatMap ndE)∧Below w.heap.size w wr∧r+1≤wr.heap.size) (μ:=fun wr=>lX wr q.gm r)
  ⟨[],none,0,aS,by simp,z2,World.ownsRow_nil _ _ _ _,n2,bi,by omega⟩ ?_
 rintro dd w3 mu ⟨D,d,j,R,hD,z3,r3,n3,al,cj⟩ cm;have a2:(D.map (·.1)).Nodup:=R.nodup.1;have c2:D.length≤s.G.length:=by
  have:=vR a2 R.nodup.2.2
  simpa[cg]using this
 refine Ki R (by omega) (fun be=>?_) fun id v w4 ad c7 Z cn o4 cO=>?_
 ·refine vP rfl (bw ?_);refine yM ?_;have bv:D.Perm m:=by
   have ca:D.Nodup:=(List.pairwise_map.1 a2).imp fun ap e=>ap (by rw[e]);have cG:m.Nodup:=(List.pairwise_map.1 az).imp fun ap e=>ap (by rw[e]);refine(List.perm_ext_iff_of_nodup ca cG).2 fun x=>⟨hD x,fun hx=>?_⟩
   obtain⟨y,hy,e⟩:=List.mem_map.1 (be x.1 (List.mem_map.2 ⟨x,hx,rfl⟩));have h1:=pf (x:=x.1) (v:=x.2) az hx;have h2:=pf (x:=y.1) (v:=y.2) az (hD y hy);rw[e,h1]at h2
   have:x=y:=Prod.ext e.symm (Option.some.inj h2)
   rw[this];exact hy
  have bd:(D.map (·.2)).Perm s.G:=by
   have:=(bv.trans C).map (·.2)
   have e:(grL s.G).map (·.2)=s.G:=by unfold grL;rw[List.map_map];exact List.map_id _
   rw[e]at this;exact this
  have bb:D.length=s.G.length:=by have:=bd.length_eq;rwa[List.length_map]at this
  have ar:(saC ⟨s.I,s.L,s.V,s.N,X,U,.slice d D.length j⟩)[19]? = some (.slice d D.length j):=by
   rw[CM,show (19:Nat)=18+1 by omega,List.getElem?_append_right (by simp[hi.i6,hi.l6,hi.v6])];simp[hi.i6,hi.l6,hi.v6]
  refine gB (lK (v:=.slice d D.length j) z3 (by rw[Nat.zero_add];exact ar) ?_);refine TJ r3 (by rw[List.length_map]) (by omega) fun w5 G' bW ce r5 a0=>?_;have cI:G'=s.G:=NQ hi.gs (bW.trans bd) ce;subst cI;have z5:=eT z3 r3 (by decide) a0;have n5:=oI n3 r3 (by decide) a0
  have a3:Below w.heap.size w w5:=al.trans (fJ a0 (by omega) fun k u=>by have:=(World.ownsRow.lt r3 k u).1;omega);rw[bb]at z5 r5;have a6:((saC ⟨s.I,s.L,s.V,s.N,X,U,.slice d s.G.length j⟩).drop 0).take 20=saC ⟨s.I,s.L,s.V,s.N,X,U,.slice d s.G.length j⟩:=by
   rw[List.drop_zero,List.take_of_length_le (by rw[ue hi.i6 hi.l6 hi.v6];omega)]
  refine ldA (n:=20) (vs:=saC ⟨s.I,s.L,s.V,s.N,X,U,.slice d s.G.length j⟩) underlying30 rfl (by kernel_rfl) z5 a6 (ue hi.i6 hi.l6 hi.v6) ?_;refine iz (n:=20) (vs:=saC ⟨s.I,s.L,s.V,s.N,X,U,.slice d s.G.length j⟩) (by kernel_rfl) (ue hi.i6 hi.l6 hi.v6) z5 (by rw[ue hi.i6 hi.l6 hi.v6];omega) (DY rfl) fun w6 z6 o6=>?_
  refine JF (vs:=saC ⟨s.I,s.L,s.V,s.N,X,U,.slice d s.G.length j⟩) underlying30 rfl (by rw[ue hi.i6 hi.l6 hi.v6];kernel_rfl) z6 (by rw[List.take_zero,List.nil_append,List.drop_of_length_le (by rw[ue hi.i6 hi.l6 hi.v6];omega),List.append_nil]) ?_;have r6:=dJ r5 z5 (by decide) o6
  refine hK w6 _ d j ⟨rfl,rfl,rfl,rfl,rfl,dJ n5 z5 (by decide) o6,⟨r6.1,r6.2.imp id fun⟨g,cap,a4,a,b,c⟩=>⟨g,cap,a4,a,by omega,c⟩⟩⟩ (bA a3 o6 (Nat.le_refl _))
 ·have hv:(id,v)∈grL s.G:=C.mem_iff.1 ad;obtain⟨g0,c5,e1⟩:=List.mem_map.1 hv;simp only[Prod.mk.injEq]at e1;obtain⟨rfl,rfl⟩:=e1;have cQ:D.length<s.G.length:=by
   have h1:(D.map (·.1)++[(g0.o,g0.q)]).Nodup:=Z.nodup.1
   have:=vR h1 Z.nodup.2.2
   simp only[List.length_append,List.length_map,List.length_singleton]at this;omega
  refine vP rfl (bu (Kg cn (eC ?_)));have c1:=R.lt;have z4:=o4.blk z3 (by omega);have r4:=di r3 fun k u=>o4.other k (by have:=(World.ownsRow.lt r3 k u).1;omega);have n4:w4.ownsRow (w.heap.size+1) 38 56 (.slice X s.N.length U) s.N.length (s.N.flatMap ndE):=di n3 fun k u=>o4.other k (fun e=>by
   obtain⟨⟨a4,hc⟩,_⟩:=AD n3 u;subst e;obtain⟨es,c,b4,cL,c0,_,hh,_⟩:=R;unfold Go.Proofs.YtgpfkmdknlcemaaGreatDoor.blk at hc;rw[hc]at hh;cases hh)
  have am:=bA al o4 (by omega);have b3:r+1≤w4.heap.size:=by rw[o4.size];exact cj
  refine dH (z:=.agg (grC ⟨0,0,0,0,0⟩).toArray) (by kernel_rfl) fun w5 g5 b5 s5=>?_;have g5:blk w5 w4.heap.size 100 (grC ⟨0,0,0,0,0⟩):=by simpa[Value.cells]using g5
  refine iz (n:=5) (vs:=grC g0) (by kernel_rfl) rfl g5 (by show 0+5≤5;omega) (qF _) fun w6 g6 o6=>?_;have g6:blk w6 w4.heap.size 100 (grC g0):=g6;have B6:Below w4.heap.size w4 w6:=bA b5 o6 (Nat.le_refl _);have z6:=af B6 z4 z4.lt;have r6:=di r4 fun k u=>B6.block k (World.ownsRow.lt r4 k u).2;have n6:=di n4 fun k u=>B6.block k (World.ownsRow.lt n4 k u).2;have bk:=Z.below B6
  have an:=am.trans (B6.mono am.size);have b0:=Nat.le_trans b3 B6.size;have ar:(saC ⟨s.I,s.L,s.V,s.N,X,U,.slice d D.length j⟩)[19]? = some (.slice d D.length j):=by
   rw[CM,show (19:Nat)=18+1 by omega,List.getElem?_append_right (by simp[hi.i6,hi.l6,hi.v6])];simp[hi.i6,hi.l6,hi.v6]
  refine gB (lK (v:=.slice d D.length j) z6 (by rw[Nat.zero_add];exact ar) ?_);refine ldA (n:=5) (vs:=grC g0) underlying100 rfl (by kernel_rfl) g6 rfl rfl ?_;refine oe (vs:=[.agg (grC g0).toArray]) underlying28 (s:=5) (by kernel_rfl) (by kernel_rfl) (by omega) rfl (by simp) (by simp) (by simp) (by simp[Value.cells,j4]) fun w7 g7 b7 s7=>?_
  have g7:blk w7 w6.heap.size 100 (grC g0):=by simpa[Value.cells]using g7
  have z7:=af b7 z6 z6.lt;have r7:=di r6 fun k u=>b7.block k (World.ownsRow.lt r6 k u).2;have n7:=di n6 fun k u=>b7.block k (World.ownsRow.lt n6 k u).2;have M:=bk.below b7;have a9:=an.trans (b7.mono an.size);have a7:=Nat.le_trans b0 b7.size
  refine rU (base:=r+1) (enc:=grC) (x:=g0) underlying28 ch cD cl b9 rfl (by omega) j4 r7 g7 (qF _) (by omega) (by omega) a7 fun a8 c8 w8 r8 av b8 _=>?_;have z8:=eT z7 r7 (by decide) av;have n8:=oI n7 r7 (by decide) av;have k8:∀k,k<r+1→k<w7.heap.size→w8.heap[k]? = w7.heap[k]? := fun k u hl=>av.block k hl fun e=>by have:=(World.ownsRow.lt r7 k e.symm).1;omega
  have cp:=M.kept (k8 _ (by omega) M.lt.2) (k8 _ (by omega) M.lt.1);have bt:=a9.trans (b8.mono (by omega));refine gB (dY (fun _=>by kernel_rfl) z8 (by rw[ue hi.i6 hi.l6 hi.v6];omega) rfl fun w9 z9 o9=>?_);rw[Nat.zero_add,Sr hi.i6 hi.l6 hi.v6]at z9;have ck:=Nat.le_trans a7 b8.size;have ag:(D++[((g0.o,g0.q),g0)]).length=D.length+1:=by simp
  refine⟨⟨D++[((g0.o,g0.q),g0)],a8,c8,?_,?_,by rw[ag];exact z9,?_,dJ n8 z8 (by decide) o9,bA bt o9 (Nat.le_refl _),by rw[o9.size];exact ck⟩,?_⟩
  ·rw[List.map_append];exact cp.kept (o9.other _ (by omega)) (o9.other _ (by omega))
  ·intro x hx;rcases List.mem_append.1 hx with hh|hh
   ·exact hD x hh
   ·rw[List.mem_singleton.1 hh];exact ad
  ·rw[ag,List.map_append,List.flatMap_append];have e2:([((g0.o,g0.q),g0)].map (fun x:(Int×Int)×GR=>x.2)).flatMap grC=grC g0:=by simp
   rw[e2];have cc:w8.ownsRow (r+1) 100 5 (.slice a8 (D.length+1) c8) (D.length+1) ((D.map (·.2)).flatMap grC++grC g0):=by
    have:=r8
    rw[List.flatMap_append]at this;simpa using this
   exact dJ cc z8 (by decide) o9
  ·rw[cm];have e1:lX w9 q.gm r=lX w8 q.gm r:=ul (o9.other _ (by omega)) (o9.other _ (by omega));have e2:lX w8 q.gm r=lX w7 q.gm r:=ul (k8 _ (by omega) M.lt.2) (k8 _ (by omega) M.lt.1);have e3:lX w7 q.gm r=lX w6 q.gm r:=EG bk b7;have e4:lX w6 q.gm r=lX w4 q.gm r:=EG Z B6;omega
end
end
section
open Go.RowKit
theorem NS {A:List Int}{i x:Int}(h:A.length=54):((iu A i x).1).length=54:=by
 unfold iu;split
 ·rfl
 split
 ·rfl
 unfold qK;split
 ·rfl
 ·simp[h]
def zS (l:LG)(i:Nat)(x:ND):LG:={l with s:={l.s with nodes:=l.s.nodes.set i x} }
section
variable {w:World}{K:KV}{B p:Nat}{l:LG}
theorem Nf {i g o:Nat}{x:ND}{A':List Int}{d:List Value}(j:LM w B p l)(U:l.s.nodes[i]? = some x)(I:A'.length=54)(C:Opn w B 38 56 l.s.nodes.length l.s.nc g d (l.s.nodes.flatMap ndE))(ha:l.s.na=some ⟨g,0,none⟩)(X:o=i*56+2)(h:∀w',LM w' B p (zS l i {x with A:=A'})→Oth g w w'→K undef w'):sto Tryz.prog 36 (.pointer (some ⟨g,o,none⟩)) (.agg (A'.map iv).toArray) K w:=by
 have hi:i<l.s.nodes.length:=(List.getElem?_eq_some_iff.1 U).1;have h1:(i+1)*56≤l.s.nodes.length*56:=Nat.mul_le_mul_right _ hi;have h2:l.s.nodes.length*56≤l.s.nc*56:=Nat.mul_le_mul_right _ C.nc;rw[Nat.succ_mul]at h1;have ad:=C.len;have M:=C.elem eZ rfl U;refine iz (n:=54) (vs:=A'.map iv) (by kernel_rfl) (by simp[I]) C.blk (by omega) (uB _) fun w' V R=>?_
 have e2:(d.drop (i*56)).take 2=[u6 x.id,u6 x.par]:=by
  have:(d.drop (i*56)).take 2=((d.drop (i*56)).take 56).take 2:=by rw[List.take_take];rfl
  rw[this,M];rfl
 have e3:d.take o++A'.map iv++d.drop (o+54)=d.take (i*56)++ndE {x with A:=A'}++d.drop (i*56+56):=by
  rw[X,List.take_add,e2,show i*56+2+54=i*56+56 by omega]
  have:ndE {x with A:=A'} = u6 x.id::u6 x.par::A'.map iv:=by
   unfold ndE;rw[Ay (x:={x with A:=A'}) I]
  rw[this];simp
 rw[e3]at V;have J:=C.set (x:={x with A:=A'}) eZ rfl hi V;have hk:Keep wK B w w':=R.keep C.blk (by simp) C.lo;have u:(l.s.nodes.set i {x with A:=A'}).length=l.s.nodes.length:=List.length_set ..;refine h w' (j.nodes' (N:=l.s.nodes.set i {x with A:=A'}) (a:=l.s.na) (c:=l.s.nc) hk (by decide) (by decide) (by decide) (by decide) ?_ ?_ ?_) R
 ·rw[←Bi j.i6 j.l6 j.v6,u]
  have:(lgC l).set 18 (.slice l.s.na l.s.nodes.length l.s.nc)=lgC l:=by
   have:=j.cN
   obtain⟨hh,he⟩:=List.getElem?_eq_some_iff.1 this
   conv=>lhs;rw[←he]
   exact List.set_getElem_self hh
  rw[this];exact R.blk j.cl (fun hh=>j.cl.ne C.blk (by decide) hh)
 ·rw[u,ha];exact Opn.own J
 ·intro y Z;rcases List.mem_or_eq_of_mem_set Z with hh|hh
  ·exact j.A54 y hh
  ·rw[hh];exact I
end
structure SL (l l':LG):Prop where
 T:l'.T=l.T
 G:l'.G=l.G
 R:l'.R=l.R
 V:l'.s.V=l.s.V
 ids:l'.s.nodes.map (·.id)=l.s.nodes.map (·.id)
end
end
section
open Go.RowKit
theorem LM.grants' {w w':World}{B p:Nat}{l:LG}{Ts:List TypeId}{G:List GR}{a:Option Addr}{c:Nat}(h:LM w B p l)(d:Keep Ts B w w')(R:38∉Ts)(J:140∉Ts)(I:199∉Ts)(M:24∉Ts)(u:blk w' p 79 (lgC {l with s:={l.s with gv:=.slice a G.length c},G:=G,ga:=a,gc:=c}))(C:w'.ownsRow B 100 5 (.slice a G.length c) G.length (G.flatMap grC)):LM w' B p {l with s:={l.s with gv:=.slice a G.length c},G:=G,ga:=a,gc:=c} :=
 {h with
  cl:=u
  gv:=rfl
  nd:=dW h.nd d R
  gr:=C
  tm:=h.tm.keep d J I
  rq:=fun k j => (h.rq k j).imp fun a=>Exists.imp fun c hh=>⟨hh.1,dW hh.2 d M⟩}
theorem zU {α:Type}{L:List α}{j k:Nat}{x d:α}(u:j<L.length):(L.set j x).getD k d=if j=k then x else L.getD k d:=by
 rw[List.getD_eq_getElem?_getD,List.getElem?_set,List.getD_eq_getElem?_getD];by_cases h:j=k
 ·subst h;simp[u]
 ·simp[h]
theorem LM.req' {w w1 w2:World}{B p j:Nat}{l:LG}{a X:Option Addr}{c U:Nat}{x:Int}(h:LM w B p l)(hj:j<6)(hq:l.q[j]? = some (.slice a (l.R.getD j []).length c))(hg:w.grownBy w1 (Value.slice a (l.R.getD j []).length c).ownBlock)(hr:w1.ownsRow B 24 1 (.slice X ((l.R.getD j []).length+1) U) ((l.R.getD j []).length+1) ((l.R.getD j []++[x]).flatMap uC))(az:(Value.slice X ((l.R.getD j []).length+1) U).ownBlock=(Value.slice a (l.R.getD j []).length c).ownBlock∨(Value.slice X ((l.R.getD j []).length+1) U).ownBlock=some w.heap.size)(aS:blk w2 p 79 ((lgC l).set (21+j) (.slice X ((l.R.getD j []).length+1) U)))(o:Oth p w1 w2):LM w2 B p {l with q:=l.q.set j (.slice X ((l.R.getD j []).length+1) U),R:=l.R.set j (l.R.getD j []++[x])}:=by
 obtain⟨a0,c0,an,M⟩:=h.rq j hj;rw[hq]at an;cases an;have u:blk w1 p 79 (lgC l):=eT h.cl M (by decide) hg;have ap:∀k,(l.q.set j (.slice X ((l.R.getD j []).length+1) U))[k]? = if j=k then some (.slice X ((l.R.getD j []).length+1) U)else l.q[k]? := by
  intro k;rw[List.getElem?_set];by_cases d:j=k
  ·subst d;simp[h.q6,hj]
  ·simp[d]
 have al:∀(k:Nat) (v:Value) (b:Nat),l.q[k]? = some v→v.ownBlock=some b→b<w.heap.size:=by
  intro k v b C I;have ar:k<6:=by rw[←h.q6];exact(List.getElem?_eq_some_iff.1 C).1
  obtain⟨a2,c2,J,V⟩:=h.rq k ar;rw[C]at J;cases J;exact(World.ownsRow.lt V b I).2
 have Z:∀(k:Nat) (v:Value) (b:Nat),j≠k→l.q[k]? = some v→v.ownBlock=some b→(Value.slice X ((l.R.getD j []).length+1) U).ownBlock≠some b:=by
  intro k v b d C I hh;rcases az with h1|h1
  ·rw[h1]at hh;exact h.ne j k _ _ b d hq C hh I
  ·rw[h1]at hh;cases hh
   have:=al k v _ C I
   omega
 exact {
  i6:=h.i6
  l6:=h.l6
  v6:=h.v6
  q6:=by show (l.q.set _ _).length=6;rw[List.length_set];exact h.q6
  r6:=by show (l.R.set _ _).length=6;rw[List.length_set];exact h.r6
  A54:=h.A54
  cl:=by rw[←K6 h.i6 h.l6 h.v6 (l:={l with R:=l.R.set j (l.R.getD j []++[x])})];exact aS
  lo:=h.lo
  gv:=h.gv
  nd:=dJ (oI h.nd M (by decide) hg) u (by decide) o
  gr:=dJ (oI h.gr M (by decide) hg) u (by decide) o
  tm:=by
   obtain⟨ta,tc,tb,tr⟩:=h.tm.row;have ag:=eT tb M (by decide) hg;exact⟨⟨ta,tc,o.blk ag (fun hh=>ag.ne u (by decide) hh),dJ (oI tr M (by decide) hg) u (by decide) o⟩,h.tm.lo⟩
  rq:=fun k C=>by
   show ∃a c,(l.q.set j _)[k]? = some (.slice a ((l.R.set j _).getD k []).length c)∧_;rw[ap,zU (by rw[h.r6];exact hj)];by_cases d:j=k
   ·subst d;rw[if_pos rfl,if_pos rfl];have am:(l.R.getD j []++[x]).length=(l.R.getD j []).length+1:=by simp
    rw[am];exact⟨X,U,rfl,dJ hr u (by decide) o⟩
   ·rw[if_neg d,if_neg d];obtain⟨a2,c2,J,V⟩:=h.rq k C;refine⟨a2,c2,J,dJ (di V fun b I=>hg.block b (World.ownsRow.lt V b I).2 (fun hh=>?_)) u (by decide) o⟩;exact h.ne j k _ _ b d hq J hh.symm I
  ne:=fun i k v v' b av hi C I=>by
   replace hi:(l.q.set j _)[i]? = some v:=hi
   replace C:(l.q.set j _)[k]? = some v':=C
   rw[ap]at hi C;by_cases ad:j=i
   ·rw[if_pos ad]at hi;cases hi;by_cases d:j=k
    ·omega
    ·rw[if_neg d]at C;intro hh;exact Z k v' b d C hh I
   ·rw[if_neg ad]at hi;by_cases d:j=k
    ·rw[if_pos d]at C;cases C;exact Z i v b ad hi I
    ·rw[if_neg d]at C;exact h.ne i k v v' b av hi C I}
end
section
attribute [local irreducible] bin un conv call dC blt slc ai fld aU idx lkp eX jl eSt rng nxt ent ext alc box bld dl ld sto bo eS mkS ifc pick rdy wts aJ sti cond bM Gives ae fU gX cOp
section
open Go.RowKit
abbrev CK :List TypeId:=[79,100]
end
section
open Go.RowKit
theorem LM.gn {w:World}{B p:Nat}{l:LG}(h:LM w B p l):∀k,(Value.slice l.ga l.G.length l.gc).ownBlock=some k→k<w.heap.size:=fun k d=>(World.ownsRow.lt h.gr k d).2
end
section
open Go.RowKit
end
section
open Go.RowKit
theorem NT {A:List Int}{i x:Int}(h:A.length=54):((iw A i x).1).length=54:=by
 unfold iw;split
 ·rfl
 split
 ·rfl
 ·simp[h]
end
section
open Go.RowKit
def RH (l:LG)(i:Nat)(x:GR):LG:={l with s:={l.s with gv:=.slice l.ga (l.G.set i x).length l.gc},G:=l.G.set i x}
section
variable {w:World}{K:KV}{B p:Nat}{l:LG}
theorem V4 {i g o:Nat}{x:GR}{r:Int}{J:List Value}(u:LM w B p l)(M:l.G[i]? = some x)(j:Opn w B 100 5 l.G.length l.gc g J (l.G.flatMap grC))(ha:l.ga=some ⟨g,0,none⟩)(R:o=i*5+4)(h:∀w',LM w' B p (RH l i {x with b:=r})→Oth g w w'→K undef w'):sto Tryz.prog 24 (.pointer (some ⟨g,o,none⟩)) (u6 r) K w:=by
 have hi:i<l.G.length:=(List.getElem?_eq_some_iff.1 M).1;have Z:(i+1)*5≤l.G.length*5:=Nat.mul_le_mul_right _ hi;have h2:l.G.length*5≤l.gc*5:=Nat.mul_le_mul_right _ j.nc;rw[Nat.succ_mul]at Z;have X:=j.len;subst R;refine dY (fun _=>by kernel_rfl) j.blk (by omega) rfl fun w' hb I=>?_;have C:=j.set1 (x':={x with b:=r}) (v:=u6 r) j4 rfl M (show 4<5 by omega) rfl hb
 have V:Keep CK B w w':=I.keep j.blk (by simp) j.lo;have d:(l.G.set i {x with b:=r}).length=l.G.length:=List.length_set ..;refine h w' (u.grants' (G:=l.G.set i {x with b:=r}) (a:=l.ga) (c:=l.gc) V (by decide) (by decide) (by decide) (by decide) ?_ ?_) I
 ·rw[←EY u.i6 u.l6 u.v6,d]
  have:(lgC l).set 19 (.slice l.ga l.G.length l.gc)=lgC l:=by
   have:=u.cG
   obtain⟨hh,U⟩:=List.getElem?_eq_some_iff.1 this
   conv=>lhs;rw[←U]
   exact List.set_getElem_self hh
  rw[this];exact I.blk u.cl (fun hh=>u.cl.ne j.blk (by decide) hh)
 ·rw[d,ha];exact Opn.own C
end
end
section
open Go.RowKit
theorem TR {e:EV}(h:eE e=true):0≤e.a∧e.a≤1125899906842624:=by
 unfold eE at h;simp only[Bool.and_eq_true,decide_eq_true_eq]at h;obtain⟨_,_,_,_,_,U,d⟩:=h;unfold fdE at d;have C : ¬(e.k=1∨e.k=2∨e.k=3∨e.k=5)→e.a=0:=fun M=>by
  have:=congrArg EV.a U
  unfold nW at this;simp only at this;rw[if_neg M]at this;exact this
 by_cases j:e.k=1
 ·rw[if_pos j]at d;simp only[Bool.and_eq_true,decide_eq_true_eq]at d;omega
 rw[if_neg j]at d;by_cases I:e.k=2
 ·rw[if_pos I]at d;unfold smE at d;simp only[Bool.and_eq_true,decide_eq_true_eq]at d;omega
 rw[if_neg I]at d;by_cases u:e.k=3
 ·rw[if_pos u]at d;unfold smE at d;simp only[Bool.and_eq_true,decide_eq_true_eq]at d;omega
 rw[if_neg u]at d;by_cases R:e.k=4
 ·have:=C (by omega);omega
 rw[if_neg R]at d;by_cases J:e.k=5
 ·rw[if_pos J]at d;unfold smE at d;simp only[Bool.and_eq_true,decide_eq_true_eq]at d;omega
 ·have:=C (by omega);omega
theorem TS {e:EV}(h:eE e=true)(j:e.k=6):1≤e.t∧e.t≤6:=by
 unfold eE at h;simp only[Bool.and_eq_true,decide_eq_true_eq]at h;obtain⟨_,_,_,_,_,u,d⟩:=h;unfold fdE at d;rw[if_neg (by omega),if_neg (by omega),if_neg (by omega),if_neg (by omega),if_neg (by omega),if_pos j]at d;unfold otE bV at d;simp only[Bool.and_eq_true,decide_eq_true_eq]at d;exact d.1
theorem NU {A:List Int}{i j x:Int}(h:A.length=54):((kh A i j x).1).length=54:=by
 unfold kh;split
 ·rfl
 split
 ·rfl
 split
 ·rfl
 split
 ·rfl
 unfold qK;split
 ·rfl
 ·simp[h]
section
variable {w:World}{K:KV}{B p:Nat}{l:LG}
theorem LM.setI {w':World}{k:Nat}{b:Bool}(h:LM w B p l)(C:k<6)(u:blk w' p 79 ((lgC l).set k (.bool b)))(o:Oth p w w'):LM w' B p {l with s:={l.s with I:=l.s.I.set k b} } :=
 have d:Keep [79] B w w':=o.keep h.cl (by simp) h.lo
 {h with
  i6:=by show (l.s.I.set k b).length=6;rw[List.length_set];exact h.i6
  cl:=by rw[←K1 h.i6 h.l6 h.v6 C];exact u
  nd:=dW h.nd d (by decide)
  gr:=dW h.gr d (by decide)
  tm:=h.tm.keep d (by decide) (by decide)
  rq:=fun k j => (h.rq k j).imp fun a=>Exists.imp fun c hh=>⟨hh.1,dW hh.2 d (by decide)⟩}
theorem LM.setL {w':World}{k:Nat}{b:Bool}(h:LM w B p l)(C:k<6)(u:blk w' p 79 ((lgC l).set (6+k) (.bool b)))(o:Oth p w w'):LM w' B p {l with s:={l.s with L:=l.s.L.set k b} } :=
 have d:Keep [79] B w w':=o.keep h.cl (by simp) h.lo
 {h with
  l6:=by show (l.s.L.set k b).length=6;rw[List.length_set];exact h.l6
  cl:=by rw[←Qq h.i6 h.l6 h.v6 C];exact u
  nd:=dW h.nd d (by decide)
  gr:=dW h.gr d (by decide)
  tm:=h.tm.keep d (by decide) (by decide)
  rq:=fun k j => (h.rq k j).imp fun a=>Exists.imp fun c hh=>⟨hh.1,dW hh.2 d (by decide)⟩}
theorem LM.setV {w':World}{k:Nat}{x:Int}(h:LM w B p l)(C:k<6)(u:blk w' p 79 ((lgC l).set (12+k) (u6 x)))(o:Oth p w w'):LM w' B p {l with s:={l.s with V:=l.s.V.set k x} } :=
 have d:Keep [79] B w w':=o.keep h.cl (by simp) h.lo
 {h with
  v6:=by show (l.s.V.set k x).length=6;rw[List.length_set];exact h.v6
  cl:=by rw[←Qr h.i6 h.l6 h.v6 C];exact u
  nd:=dW h.nd d (by decide)
  gr:=dW h.gr d (by decide)
  tm:=h.tm.keep d (by decide) (by decide)
  rq:=fun k j => (h.rq k j).imp fun a=>Exists.imp fun c hh=>⟨hh.1,dW hh.2 d (by decide)⟩}
theorem V5 {i g o q:Nat}{x:ND}{v:Int}{M:List Value}(d:LM w B p l)(R:l.s.nodes[i]? = some x)(hq:q<54)(u:Opn w B 38 56 l.s.nodes.length l.s.nc g M (l.s.nodes.flatMap ndE))(ha:l.s.na=some ⟨g,0,none⟩)(U:o=i*56+(2+q))(h:∀w',LM w' B p (zS l i {x with A:=x.A.set q v})→Oth g w w'→K undef w'):sto Tryz.prog 2 (.pointer (some ⟨g,o,none⟩)) (iv v) K w:=by
 have hi:i<l.s.nodes.length:=(List.getElem?_eq_some_iff.1 R).1;have Z:(i+1)*56≤l.s.nodes.length*56:=Nat.mul_le_mul_right _ hi;have h2:l.s.nodes.length*56≤l.s.nc*56:=Nat.mul_le_mul_right _ u.nc;rw[Nat.succ_mul]at Z;have ad:=u.len;have C:=d.A54 x (List.mem_of_getElem? R);subst U;refine dY (fun _=>by kernel_rfl) u.blk (by omega) rfl fun w' hb J=>?_
 have I:=u.set1 (x':={x with A:=x.A.set q v}) eZ rfl R (show 2+q<56 by omega) (Ma C hq v) hb;have X:Keep wK B w w':=J.keep u.blk (by simp) u.lo;have j:(l.s.nodes.set i {x with A:=x.A.set q v}).length=l.s.nodes.length:=List.length_set ..
 refine h w' (d.nodes' (N:=l.s.nodes.set i {x with A:=x.A.set q v}) (a:=l.s.na) (c:=l.s.nc) X (by decide) (by decide) (by decide) (by decide) ?_ ?_ ?_) J
 ·rw[←Bi d.i6 d.l6 d.v6,j]
  have:(lgC l).set 18 (.slice l.s.na l.s.nodes.length l.s.nc)=lgC l:=by
   have:=d.cN
   obtain⟨hh,he⟩:=List.getElem?_eq_some_iff.1 this
   conv=>lhs;rw[←he]
   exact List.set_getElem_self hh
  rw[this];exact J.blk d.cl (fun hh=>d.cl.ne u.blk (by decide) hh)
 ·rw[j,ha];exact Opn.own I
 ·intro y V;rcases List.mem_or_eq_of_mem_set V with hh|hh
  ·exact d.A54 y hh
  ·rw[hh];show (x.A.set q v).length=54;rw[List.length_set];exact C
end
end
section
open Go.RowKit
end
section
open Go.RowKit
def sV (V:List Int):Nat:=(V.getD 0 0+V.getD 1 0+V.getD 2 0+V.getD 3 0+V.getD 4 0+V.getD 5 0).toNat
theorem TT {V:List Int}(h:V.length=6)(h0:∀k,k<6→0≤V.getD k 0){k:Nat}(I:k<6):sV (V.set k (V.getD k 0+1))=sV V+1:=by
 obtain⟨a,b,c,d,e,f,rfl⟩:=ud h;have u:=h0 0 (by omega);have j:=h0 1 (by omega);have J:=h0 2 (by omega);have C:=h0 3 (by omega);have M:=h0 4 (by omega);have p5:=h0 5 (by omega);simp only[List.getD_cons_zero,List.getD_cons_succ]at u j J C M p5
 match k,I with
 | 0,_=>simp[sV];omega
 | 1,_=>simp[sV];omega
 | 2,_=>simp[sV];omega
 | 3,_=>simp[sV];omega
 | 4,_=>simp[sV];omega
 | 5,_=>simp[sV];omega
end
end
section
def toP (l:LG):PL:=⟨l.s.I,l.s.L,l.s.V,l.s.nodes,l.G,l.R⟩
structure XI (l:LG) (m:Nat):Prop where
 pi:PI (toP l)
 t:l.T=tr l.s.nodes
 gn:l.G.length≤m
 rn:∀k,k<6→(l.R.getD k []).length≤m
def qZ (e:EV)(s:PL):PL:=⟨mG e s.I,mH e s.L,s.V,(nop e s).ap s.N,(gop e).ap s.G,kw e s.R⟩
section
variable {N:List ND}{G:List GR}{x:ND}{k:Nat}
theorem PI.n30 {s:PL}(h:PI s):s.N.length≤30:=by
 rw[HL fun x u=>by
  obtain⟨o,q,a1,j,C,d,a5,_⟩:=h.ids x u;exact⟨o,q,a1,j,C,d,a5⟩]
 have U:=h.own 1;have M:=h.own 2;have I:=h.own 3;have J:=h.own 4;have V:=h.own 5;have R:=h.own 6;omega
theorem XI.n30 {l:LG}{m:Nat}(h:XI l m):l.s.nodes.length≤30:=h.pi.n30
theorem XI.tk {l:LG}{m:Nat}(h:XI l m):∃rk,TK l.T rk:=by rw[h.t];exact h.pi.tk
theorem XI.tl {l:LG}{m:Nat}(h:XI l m):l.T.length≤30:=by rw[h.t];unfold tr;rw[List.length_map];exact h.n30
theorem NV :∀{N:List ND} {k:Nat},k≤N.length→(∀j y,j<k→N[j]? = some y→¬x.id<y.id)→(∀y,N[k]? = some y→x.id<y.id)→dL x N=fa N k x
 | [],k,hk,_,_=>by
  have:k=0:=by simpa using hk
  subst this;rfl
 | y::N,0,_,_,h=>by
  unfold dL;rw[if_pos (h y rfl)];rfl
 | y::N,k+1,hk,lo,h=>by
  unfold dL;rw[if_neg (lo 0 y (by omega) rfl),NV (N:=N) (k:=k) (by simpa using hk) (fun j z u d=>lo (j+1) z (by omega) (by simpa using d)) (fun z d=>h z (by simpa using d))];rfl
theorem NW {x:GR}:∀{N:List GR} {k:Nat},k≤N.length→(∀j y,j<k→N[j]? = some y→¬ltG x y)→(∀y,N[k]? = some y→ltG x y)→ib x N=fa N k x
 | [],k,hk,_,_=>by
  have:k=0:=by simpa using hk
  subst this;rfl
 | y::N,0,_,_,h=>by
  unfold ib;rw[if_pos (h y rfl)];rfl
 | y::N,k+1,hk,lo,h=>by
  unfold ib;rw[if_neg (lo 0 y (by omega) rfl),NW (N:=N) (k:=k) (by simpa using hk) (fun j z u d=>lo (j+1) z (by omega) (by simpa using d)) (fun z d=>h z (by simpa using d))];rfl
theorem Bg {α:Type}{R:α→α→Prop}{L:List α}(h:L.Pairwise R){i j:Nat}{a b:α}(hi:L[i]? = some a)(u:L[j]? = some b)(d:i<j):R a b:=by
 obtain⟨I,rfl⟩:=List.getElem?_eq_some_iff.1 hi;obtain⟨C,rfl⟩:=List.getElem?_eq_some_iff.1 u;exact List.pairwise_iff_getElem.1 h i j I C d
theorem JT (J:N.Pairwise (·.id < ·.id))(I:k≤N.length)(lo:∀y,0<k→N[k-1]? = some y→¬x.id<y.id)(hi:∀y,N[k]? = some y→x.id<y.id):dL x N=fa N k x:=by
 refine NV I (fun j y R C d=>?_) hi;have M:k-1<N.length:=by omega
 have h:N[k-1]? = some N[k-1]:=List.getElem?_eq_getElem M;refine lo _ (by omega) h ?_;by_cases u:j=k-1
 ·subst u;rw[h]at C;cases C;exact d
 ·have:=Bg J C h (by omega);omega
theorem PW {x:GR}(J:G.Pairwise ltG)(I:k≤G.length)(lo:∀y,0<k→G[k-1]? = some y→¬ltG x y)(hi:∀y,G[k]? = some y→ltG x y):ib x G=fa G k x:=by
 refine NW I (fun j y R C d=>?_) hi;have M:k-1<G.length:=by omega
 have h:G[k-1]? = some G[k-1]:=List.getElem?_eq_getElem M;refine lo _ (by omega) h ?_;by_cases u:j=k-1
 ·subst u;rw[h]at C;cases C;exact d
 ·exact Kw d (Bg J C h (by omega))
theorem LT {α:Type}{f:α→Bool}{L:List α}:∀k,k≤L.length→(∀y,0<nL f L k→L[nL f L k-1]? = some y→f y=false)∧(∀j y,nL f L k≤j→j<k→L[j]? = some y→f y=true)
 | 0,_=>⟨fun y h=>absurd h (by simp[nL]),fun j y _ h=>absurd h (by omega)⟩
 | k+1,hk=>by
  have d:L[k]? = some L[k]:=List.getElem?_eq_getElem (by omega);generalize L[k]=x at d;unfold nL;rw[d];simp only;cases C:f x with
  | true =>
   rw[if_pos rfl];have h:=LT (f:=f) (L:=L) k (by omega);refine⟨h.1,fun j y J I u=>?_⟩;by_cases M:j=k
   ·subst M;rw[d]at u;cases u;exact C
   ·exact h.2 j y J (by omega) u
  | false =>
   rw[if_neg (by simp)];refine⟨fun y _ h=>?_,fun j y J I=>absurd I (by omega)⟩;rw[Nat.add_sub_cancel,d]at h;cases h;exact C
theorem RJ {j:Nat}:(tr N)[j]? = (N[j]?).map fun x=>(x.id,x.par):=by unfold tr;rw[List.getElem?_map]
theorem Se (u:N.Pairwise (·.id < ·.id)):fa (tr N) (nL (fun y=>decide (x.id<y.1)) (tr N) (tr N).length) (x.id,x.par)=tr (dL x N):=by
 have C:(tr N).length=N.length:=by unfold tr;rw[List.length_map]
 have h:=LT (f:=fun y:Int×Int=>decide (x.id<y.1)) (L:=tr N) (tr N).length (Nat.le_refl _);have d:=Mm (f:=fun y:Int×Int=>decide (x.id<y.1)) (L:=tr N) (tr N).length;generalize nL (fun y:Int×Int=>decide (x.id<y.1)) (tr N) (tr N).length=k at h d;rw[C]at h d;rw[JT (k:=k) u d (fun y h0 j=>by
  have:=h.1 (y.id,y.par) h0 (by rw[RJ,j];rfl)
  simpa using this) (fun y j=>by
  have:=h.2 k (y.id,y.par) (Nat.le_refl _) (List.getElem?_eq_some_iff.1 j).1 (by rw[RJ,j];rfl)
  simpa using this)]
 unfold fa tr;rw[List.map_append,List.map_cons,List.map_take,List.map_drop]
theorem DU {id:Int}(h:bL N id=true):∃x,N[posN N id]? = some x∧posN N id<N.length∧x.id=id:=by
 obtain⟨y,u,e⟩:=ky.1 h;have d:posN N id<N.length:=by
  unfold posN;exact List.findIdx_lt_length_of_exists ⟨y,u,by simp[e]⟩
 refine⟨_,List.getElem?_eq_getElem d,d,?_⟩;have j:=List.findIdx_getElem (p:=fun x:ND=>x.id==id) (w:=d);exact eq_of_beq j
theorem NY {id:Int}(h:bL N id=false):fdN N id = -1:=by
 unfold fdN;rw[if_neg];refine DK fun j y d e=>?_
 have:bL N id=true:=ky.2 ⟨y,List.mem_of_getElem? d,e⟩
 rw[h]at this;cases this
theorem VF {c:Nat}{v:Int}:N.map (dN [] c v)=N:=by
 conv=>rhs;rw[←List.map_id N]
 exact List.map_congr_left fun y _=>oH (by simp)
theorem JU {ids:List Int}{c i:Nat}{v:Int}(V:N.Pairwise (·.id < ·.id))(u:(N.map (dN ids c v))[i]? = some x)(X:x.id∉ids):N[i]? = some x∧(N.map (dN ids c v)).set i {x with A:=x.A.set c (nA x.A c+v)} = N.map (dN (ids++[x.id]) c v):=by
 rw[List.getElem?_map]at u;cases C:N[i]? with
 | none=>rw[C]at u;cases u
 | some y =>
  rw[C]at u;simp only[Option.map_some,Option.some.injEq]at u;have J:x.id=y.id:=by rw[←u];exact(gu y).1
  have M:x=y:=by rw[←u];exact oH (by rw[←J];exact X)
  subst M;refine⟨rfl,List.ext_getElem? fun j=>?_⟩;rw[List.getElem?_set,List.getElem?_map,List.getElem?_map];by_cases d:i=j
  ·subst d
   have:=(List.getElem?_eq_some_iff.1 C).1
   rw[if_pos rfl,List.length_map,if_pos this,C];simp only[Option.map_some];rw[pV (by simp)]
  ·rw[if_neg d];cases U:N[j]? with
   | none=>rfl
   | some z =>
    simp only[Option.map_some,Option.some.injEq];have R:z.id≠x.id:=by
     rcases Nat.lt_or_gt_of_ne d with h|h
     ·have:=Bg V C U h;omega
     ·have:=Bg V U C h;omega
    by_cases I:z.id∈ids
    ·rw[pV I,pV (by simp[I])]
    ·rw[oH I,oH (by simp[I,R])]
theorem Sf {o q:Int}{g:GR}(h:G[k]? = some g)(M:g.o=o)(J:g.q=q)(R:∀j y,j<k→G[j]? = some y→¬(y.o=o∧y.q=q)):iA G o q=some g:=by
 unfold iA;rw[List.find?_eq_some_iff_getElem];obtain⟨u,rfl⟩:=List.getElem?_eq_some_iff.1 h;refine⟨by simp[M,J],k,u,rfl,fun j C=>?_⟩
 have:=R j _ C (List.getElem?_eq_getElem (by omega))
 simp only[Bool.not_eq_true',Bool.and_eq_false_iff,beq_eq_false_iff_ne];by_cases d:(G[j]'(by omega)).o=o
 ·exact .inr fun I=>this ⟨d,I⟩
 ·exact .inl d
theorem NZ {o q:Int}(h:∀(j:Nat) y,G[j]? = some y→¬(y.o=o∧y.q=q)):iA G o q=none:=by
 unfold iA;rw[List.find?_eq_none];intro y d;obtain⟨j,u⟩:=List.getElem?_of_mem d
 have:=h j y u
 simp only[Bool.and_eq_true,beq_iff_eq];exact this
theorem PX {g:GR}{b:Int}(J:G.Pairwise ltG)(u:G[k]? = some g):G.set k {g with b:=b} = G.map (mF g.o g.q b):=by
 refine List.ext_getElem? fun j=>?_;rw[List.getElem?_set,List.getElem?_map];by_cases d:k=j
 ·subst d
  have:=(List.getElem?_eq_some_iff.1 u).1
  rw[if_pos rfl,if_pos this,u];simp[mF]
 ·rw[if_neg d];cases I:G[j]? with
  | none=>rfl
  | some z =>
   simp only[Option.map_some,Option.some.injEq];have C : ¬(z.o=g.o∧z.q=g.q):=by
    rcases Nat.lt_or_gt_of_ne d with h|h
    ·have:=Bg J u I h;unfold ltG at this;omega
    ·have:=Bg J I u h;unfold ltG at this;omega
   unfold mF;rw[if_neg C]
theorem EU {id:Int}:(dh N id).length=0↔bL N id=false:=by
 cases h:bL N id with
 | true=>obtain⟨l,d⟩:=NA h;rw[d];simp
 | false =>
  unfold dh df cw;rw[if_neg (by rw[jF,h];simp)];simp
theorem JV {id:Int}(d:∃rk,TK (tr N) rk):(dh N id).Nodup:=by
 obtain⟨rk,d⟩:=d
 have:=xy d ((tr N).length+1) id
 unfold dh df;refine this.imp fun h e=>?_;rw[e]at h;omega
theorem JW {o:Int}{y:ND}(d:N[k]? = some y):gj (N.take (k+1)) o=gj (N.take k) o+if y.id / M40=o then 1 else 0:=by
 unfold gj;rw[List.take_add_one,d,Option.toList_some,List.filter_append,List.length_append]
 congr 1
 by_cases h:y.id / M40=o
 ·rw[if_pos h];simp[h]
 ·rw[if_neg h];simp[h]
end
end
section
attribute [local irreducible] bin un conv call dC blt slc ai fld aU idx lkp eX jl eSt rng nxt ent ext alc box bld dl ld sto bo eS mkS ifc pick rdy wts aJ sti cond bM Gives ae fU gX cOp
section
open Go.RowKit
theorem XI.eq {l l':LG}{m:Nat}(h:XI l m)(e:toP l'=toP l)(d:l'.T=l.T):XI l' m:=by
 have e1:l'.G=l.G:=congrArg PL.G e;have e2:l'.R=l.R:=congrArg PL.R e;have e3:l'.s.nodes=l.s.nodes:=congrArg PL.N e;exact⟨e ▸ h.pi,by rw[d,e3];exact h.t,by rw[e1];exact h.gn,by rw[e2];exact h.rn⟩
section
variable {w:World}{K:KV}{B p:Nat}{l:LG}
theorem PY {o q:Int}(I:LM w B p l)(hn:l.G.length≤1000000)(U:iA l.G o q=none→K (.int .i64 (-1)) w)(h:∀(k:Nat) x,l.G[k]? = some x→iA l.G o q=some x→K (.int .i64 (k:Nat)) w):call Tryz.prog 108 #[.pointer (some ⟨p,0,none⟩),.int .i64 o,.int .u64 q] K w:=by
 refine aB (goK func108) (xE ?_);refine vZ (Inv:=fun i _ _ _ _ _ _ _ _ _ _ _ wr=>∃k:Nat,i=.int .i64 (k:Nat)∧k≤l.G.length∧wr=w∧∀j y,j<k→l.G[j]? = some y→¬(y.o=o∧y.q=q)) (μ:=fun i _ _ _ _ _ _ _ _ _ _ _ _=>l.G.length-(intOf i).toNat) ⟨0,rfl,by omega,rfl,fun j y hj=>by omega⟩ ?_;rintro _ _ _ _ _ _ _ _ _ _ _ _ dd wr m ⟨k,rfl,hk,rfl,d⟩ hm
 refine aw <|bq <|gB <|lK (v:=.slice l.ga l.G.length l.gc) I.cl I.cG <|bx underlying28 <|aV ?_;by_cases V:k<l.G.length
 ·refine ay (by omega) <|aw <|bq <|gB <|lK (v:=.slice l.ga l.G.length l.gc) I.cl I.cG ?_;have R:l.G[k]? = some l.G[k]:=List.getElem?_eq_getElem V;generalize l.G[k]=x at R;have C : ¬(x.o=o∧x.q=q)→∀j y,j<k+1→l.G[j]? = some y→¬(y.o=o∧y.q=q):=fun X j y hj M=>by
   by_cases Z:j=k
   ·subst Z;rw[R]at M;cases M;exact X
   ·exact d j y (by omega) M
  refine rd3 (enc:=grC) (s:=5) (f':=0) (v:=iv x.o) underlying28 (fun _=>by kernel_rfl) j4 (fun _=>by kernel_rfl) (by kernel_rfl) (by omega) I.gr rfl R rfl fun _ _=>?_;refine bm ?_;by_cases J:x.o=o
  ·refine dE J <|aw <|bq <|gB <|lK (v:=.slice l.ga l.G.length l.gc) I.cl I.cG ?_;refine rd3 (enc:=grC) (s:=5) (f':=1) (v:=u6 x.q) underlying28 (fun _=>by kernel_rfl) j4 (fun _=>by kernel_rfl) (by kernel_rfl) (by omega) I.gr rfl R rfl fun _ _=>?_;refine bm <|bR J ?_;by_cases u:x.q=q
   ·exact ay u (h k x R (Sf R J u d))
   ·refine au u <|aR (by omega) (by omega) ?_;exact⟨⟨k+1,ivS,by omega,rfl,C fun hh=>u hh.2⟩,by rw[hm];show l.G.length-((k:Int)+1).toNat<l.G.length-(k:Int).toNat;omega⟩
  ·refine eF J <|bE J <|bw <|aR (by omega) (by omega) ?_;exact⟨⟨k+1,ivS,by omega,rfl,C fun hh=>J hh.1⟩,by rw[hm];show l.G.length-((k:Int)+1).toNat<l.G.length-(k:Int).toNat;omega⟩
 ·refine au (by omega) <|wc ?_;exact U (NZ fun j y M=>d j y (by have:=(List.getElem?_eq_some_iff.1 M).1;omega) M)
theorem JX {o q:Int}(I:LM w B p l)(ho:1≤o∧o≤6)(V:∀k,k<6→(l.R.getD k []).length≤1000000)(h:K (.bool (jf l.R (o-1).toNat q)) w):call Tryz.prog 105 #[.pointer (some ⟨p,0,none⟩),.int .i64 o,.int .u64 q] K w:=by
 refine aB (goK func105) (xF ?_);obtain⟨j,hj⟩:∃j:Nat,j=(o-1).toNat:=⟨_,rfl⟩
 obtain⟨a,c,hq,hr⟩:=I.rq j (by omega);have V:=V j (by omega);have u:o-1=(j:Nat):=by omega
 unfold jf at h;rw[←hj]at h;generalize l.R.getD j []=rs at hr hq V h;have M:(lgC l)[21+j]? = some (.slice a rs.length c):=I.cQ.trans hq;refine wd (Inv:=fun i wr=>∃k:Nat,i=.int .i64 (k:Nat)∧k≤rs.length∧wr=w∧∀j y,j<k→rs[j]? = some y→y≠q) (μ:=fun i _=>rs.length-(intOf i).toNat) ⟨0,rfl,by omega,rfl,fun j y hj=>by omega⟩ ?_;rintro _ dd wr m ⟨k,rfl,hk,rfl,d⟩ hm
 refine bg (by omega) (by omega) <|aw <|pP <|ixQ u (by omega) <|lK (v:=.slice a rs.length c) I.cl (by rw[Nat.zero_add];exact M) <|bx underlying76 <|aV ?_;by_cases Z:k<rs.length
 ·refine ay (by omega) <|bg (by omega) (by omega) <|aw <|pP <|ixQ u (by omega) <|lK (v:=.slice a rs.length c) I.cl (by rw[Nat.zero_add];exact M) ?_;have C:rs[k]? = some rs[k]:=List.getElem?_eq_getElem Z;generalize rs[k]=x at C;obtain⟨g,ad,rfl,op⟩:=cY hr (by omega);refine eu underlying76 (s:=1) (fun _=>by kernel_rfl) (by omega) (by omega) ?_;refine lK (v:=u6 x) op.blk (by
   have:=op.cell (enc:=uC) (s:=1) (j:=0) (fun _=>rfl) rfl C (by omega)
   rw[Int.toNat_natCast,Nat.zero_add];exact this) ?_
  refine bm ?_;by_cases J:x=q
  ·refine ay J ?_;rw[show rs.contains q=true from by rw[List.contains_iff_mem, ←J];exact List.mem_of_getElem? C]at h;exact h
  ·refine au J <|aR (by omega) (by omega) ?_;exact⟨⟨k+1,ivS,by omega,rfl,fun i y hi U=>by
    by_cases X:i=k
    ·subst X;rw[C]at U;cases U;exact J
    ·exact d i y (by omega) U⟩,by rw[hm];show rs.length-((k:Int)+1).toNat<rs.length-(k:Int).toNat;omega⟩
 ·refine au (by omega) <|we ?_;rw[show rs.contains q=false from by
   cases M:rs.contains q with
   | false=>rfl
   | true =>
    obtain⟨i,hi⟩:=List.getElem?_of_mem (List.contains_iff_mem.1 M);exact absurd rfl (d i q (by have:=(List.getElem?_eq_some_iff.1 hi).1;omega) hi)]at h
  exact h
theorem Sg {m:Nat}(d:LM w B p l)(hg:XI l m)(hm:m≤100000)(h:∀w' p' l',LM w' w.heap.size p' l'→toP l'=toP l→l'.T=l.T→Below w.heap.size w w'→K (.pointer (some ⟨p',0,none⟩)) w'):call Tryz.prog 54 #[.pointer (some ⟨p,0,none⟩)] K w:=by
 refine aB (goK func54) (yP ?_);have cm:=hg.n30;have ck:=hg.gn;have cD:=hg.tl;refine aw <|bq <|ldA (n:=20) (vs:=saC l.s) underlying30 rfl (by kernel_rfl) d.cl d.cutS d.sl <|fS (vs:=[lQ]) (by kernel_rfl) ?_;refine dc fun w1 ht b1 s1=>?_;have ht:blk w1 w.heap.size 140 [lQ]:=by simpa[Value.cells]using ht
 obtain⟨i0,i1,i2,i3,i4,i5,hI⟩:=ud d.i6;obtain⟨x0,x1,x2,x3,x4,x5,hL⟩:=ud d.l6;obtain⟨v0,v1,v2,v3,v4,v5,hV⟩:=ud d.v6
 let l1:LG:={l with T:=[],t:=w.heap.size,q:=EZ}
 have a6:lgC l1=[.bool i0,.bool i1,.bool i2,.bool i3,.bool i4,.bool i5,.bool x0,.bool x1,.bool x2,.bool x3,.bool x4,.bool x5,.int .u64 v0,.int .u64 v1,.int .u64 v2,.int .u64 v3,.int .u64 v4,.int .u64 v5,.slice l.s.na l.s.nodes.length l.s.nc,.slice l.ga l.G.length l.gc,.pointer (some ⟨w.heap.size,0,none⟩),lQ,lQ,lQ,lQ,lQ,lQ]:=by
  show saC l.s++_=_;unfold saC;rw[hI,hL,hV,d.gv];rfl
 have bt:saC l.s=[.bool i0,.bool i1,.bool i2,.bool i3,.bool i4,.bool i5,.bool x0,.bool x1,.bool x2,.bool x3,.bool x4,.bool x5,.int .u64 v0,.int .u64 v1,.int .u64 v2,.int .u64 v3,.int .u64 v4,.int .u64 v5,.slice l.s.na l.s.nodes.length l.s.nc,.slice l.ga l.G.length l.gc]:=by
  unfold saC;rw[hI,hL,hV,d.gv];rfl
 refine fS (vs:=lgC l1) (by rw[a6,bt];kernel_rfl) ?_;refine dc fun w2 hc b2 s2=>?_;have hc:blk w2 w1.heap.size 79 (lgC l1):=by
  rw[a6]at hc ⊢;simpa[Value.cells]using hc
 rw[s1]at hc ⊢;have a3:=af b2 ht ht.lt;have V:Below w.heap.size w w2:=b1.trans (b2.mono (by omega));obtain⟨cI,az,be,J,a9⟩:=info_parts LY;refine Ol (base:=w.heap.size) underlying27 az J V.size fun w3 al b3=>?_;have ag:=V.trans (b3.mono V.size);have an:=d.fresh ag;have ca:=af b3 hc hc.lt;have cj:=af b3 a3 a3.lt
 refine aw <|bq <|dV <|lK (v:=.slice l.s.na l.s.nodes.length l.s.nc) an.cl an.cN ?_;refine JC (base:=w.heap.size) (s:=56) underlying27 az be J a9 rfl (by omega) al an.nd (Bk xP _) (by omega) (by omega) ag.size fun a4 c4 w4 b8 ar b4 _=>?_;have bb:=ag.trans b4;have a0:=eT ca al (by decide) ar;have ce:=eT cj al (by decide) ar;refine aw <|bq <|dV ?_
 refine dY (fun _=>by kernel_rfl) a0 (by rw[DX (l:=l1) d.i6 d.l6 d.v6 rfl];omega) rfl fun w5 I o5=>?_;have I:blk w5 (w.heap.size+1) 79 (lgC {l1 with s:={l1.s with nodes:=l.s.nodes,na:=a4,nc:=c4} }):=by rw[←Bi (l:=l1) d.i6 d.l6 d.v6];exact I
 have X:=bA bb o5 (by omega);have ap:=o5.blk ce (by omega);have av:=dJ b8 a0 (by decide) o5;obtain⟨cp,a8,bd,M,aS⟩:=info_parts LZ;refine Ol (base:=w.heap.size) underlying28 a8 M X.size fun w6 C b6=>?_;have Z:=X.trans (b6.mono X.size);have am:=d.fresh Z;have cg:=af b6 I I.lt;have bi:=af b6 ap ap.lt
 have ch:=di av fun q hq=>b6.block q (World.ownsRow.lt av q hq).2;refine aw <|bq <|gB <|lK (v:=.slice l.ga l.G.length l.gc) am.cl am.cG ?_;refine JC (base:=w.heap.size) (s:=5) underlying28 a8 bd M aS rfl (by omega) C am.gr (Bk qF _) (by omega) (by omega) Z.size fun a7 c7 w7 b9 u b7 _=>?_;have b0:=Z.trans b7;have ad:=eT cg C (by decide) u
 have b5:=eT bi C (by decide) u;have bW:=oI ch C (by decide) u;refine aw <|bq <|gB ?_;refine dY (fun _=>by kernel_rfl) ad (by rw[DX (l:={l1 with s:={l1.s with nodes:=l.s.nodes,na:=a4,nc:=c4} }) d.i6 d.l6 d.v6 rfl];omega) rfl fun w8 U o8=>?_;have a2:blk w8 w.heap.size 140 [lQ]:=o8.blk b5 (by omega)
 let l8:LG:={l1 with s:={l1.s with nodes:=l.s.nodes,na:=a4,nc:=c4,gv:=.slice a7 l.G.length c7},ga:=a7,gc:=c7}
 have U:blk w8 (w.heap.size+1) 79 (lgC l8):=by
  have e:=EY (l:={l1 with s:={l1.s with nodes:=l.s.nodes,na:=a4,nc:=c4} }) d.i6 d.l6 d.v6 l.G a7 c7;exact e ▸ U
 have bk:CP w w8 l l8 (w.heap.size+1) 0:={
   i6:=d.i6
   l6:=d.l6
   v6:=d.v6
   q6:=rfl
   R:=rfl
   cl:=U
   lo:=by omega
   gv:=rfl
   nd:=dJ bW ad (by decide) o8
   gr:=dJ b9 ad (by decide) o8
   tm:=⟨⟨none,0,a2,World.ownsRow_nil _ _ _ _⟩,Nat.le_refl _⟩
   rq:=fun j hj=>absurd hj (by omega)
   nq:=fun j hj _=>by
    show EZ[j]? = some lQ;unfold EZ;rw[List.getElem?_replicate,if_pos hj]
   ne:=fun j k v v' b cn hj hk hb=>by
    rw[LX hj]at hb;cases hb
   bel:=bA b0 o8 (by omega)}
 refine So d (fun k hk=>Nat.le_trans (hg.rn k hk) (by omega)) (by omega) bk d.A54 rfl a2 rfl rfl fun w' l' bv cc e1 e2 e3 e4 e5 e6 e7=>?_;refine h w' _ l' bv ?_ e6 cc;unfold toP;rw[e1,e2,e3,e4,e5,e7]
end
end
section
open Go.RowKit
section
variable {w:World}{K:KV}{B p:Nat}{l:LG}
theorem Oa {l0 e1 l2 e3 mj i6 id7 f8 n9 mR a2 a6 bk be a8 bd bb a4 a9 bi am Z ad ag M:Value}{zf:Nat→Value}{e:EV}{id:Int}{eb nb:Nat}(hl:LM w B p l)(hs:l.s.nodes.Pairwise (·.id < ·.id))(hN:l.s.nodes.length≤1000)(hB:B≤w.heap.size)(ho:1≤e.o∧e.o≤6)(he:blk w eb 54 (evC e))(hn:blk w nb 38 (ndE ⟨id,e.n,z54⟩))(cI:B≤nb)(b8:∀k,(Value.slice l.s.na l.s.nodes.length l.s.nc).ownBlock=some k→k<nb)(q0:l0=.pointer (some ⟨p,0,none⟩))(q3:e3=.pointer (some ⟨eb,0,none⟩))(q7:id7=.int .u64 id)(q9:n9=.pointer (some ⟨nb,0,none⟩))(ar:∀w' l',LM w' B p l'→l'.T=l.T→toP l'={toP l with N:=dL ⟨id,e.n,z54.set (e.o-1).toNat e.a⟩ l.s.nodes}→Keep wK B w w'→K (.int .i64 0) w'):iy K ((bl l0 e1 l2 e3 mj i6 id7 f8 n9 mR a2 a6 bk be a8 bd bb a4 a9 bi am Z ad ag M zf)) w:=by
 subst q0 q3 q7 q9;refine wn <|bS <|lK (v:=iv e.o) he rfl <|bg (by omega) (by omega) <|dQ <|lK (v:=iv e.a) he rfl ?_;obtain⟨q,hq⟩:∃q:Nat,q=(e.o-1).toNat:=⟨_,rfl⟩
 have c2:q<6:=by omega
 refine ob <|rt <|ixR (k:=q) (by omega) c2 ?_;refine dY (fun _=>by kernel_rfl) hn (by rw[eZ];omega) rfl fun w1 av o1=>?_;rw[show 0+2+0+q=2+q by omega,Ma (by rfl) (by omega)]at av;rw[←hq]at ar;generalize hx:(⟨id,e.n,z54.set q e.a⟩:ND)=x at av ar;have ce:x.A.length=54:=by rw[←hx];show (z54.set q e.a).length=54;rw[List.length_set];rfl
 have b4:x.id=id:=by rw[←hx]
 have k1:Keep wK B w w1:=o1.keep hn (by simp) cI;have I:blk w1 p 79 (lgC l):=o1.blk hl.cl (fun hh=>hl.cl.ne hn (by decide) hh);have b7:w1.ownsRow B 38 56 (.slice l.s.na l.s.nodes.length l.s.nc) l.s.nodes.length (l.s.nodes.flatMap ndE):=di hl.nd fun k hk=>o1.other k (by have:=b8 k hk;omega)
 refine aw <|bq <|dV <|lK (v:=.slice l.s.na l.s.nodes.length l.s.nc) I hl.cN <|bx underlying27 <|aE (fun y=>blk y p 79 (lgC l)∧blk y nb 38 (ndE x)) ⟨I.drew,av.drew⟩ <|ab (fun y j _=>aw) <|ab (fun y j _=>bq) <|ab (fun y j _=>dV) <|ab (v:=.slice l.s.na l.s.nodes.length l.s.nc) (fun y j _=>lK j.1 hl.cN) <|ab (v:=.agg (ndE x).toArray) (fun y j _=>ldA (n:=56) (vs:=ndE x) underlying38 rfl (by kernel_rfl) j.2 (by rw[List.drop_zero,List.take_of_length_le (by rw[eZ];omega)]) (eZ x)) ?_
 refine oe (vs:=[.agg (ndE x).toArray]) underlying27 (s:=56) (by kernel_rfl) (by kernel_rfl) (by omega) rfl (by simp) (by simp) (by simp) (by simp[Value.cells,eZ]) fun w2 h2 b2 s2=>?_;have h2:blk w2 w1.drew.heap.size 38 (ndE x):=by simpa[Value.cells]using h2
 have b0:blk w2 p 79 (lgC l):=af b2 I.drew I.drew.lt;have V:blk w2 nb 38 (ndE x):=af b2 av.drew av.drew.lt;have ap:=di b7 fun q hq=>b2.block q (World.ownsRow.lt b7 q hq).2;have k2:Keep wK B w w2:=k1.drew.trans (Keep.of b2);refine aO ⟨b0,V⟩ ?_;obtain⟨ii,cQ,hz,cV,cL⟩:=info_parts LY;have cD:B≤w2.heap.size:=Nat.le_trans hB k2.size
 refine rU (base:=B) (x:=x) underlying27 cQ hz cV cL rfl (by omega) eZ ap h2 (xP _) (by omega) (by omega) cD fun a3 J w3 ch b9 b3 cG=>?_;have k3:Keep wK B w w3:=k2.trans (Keep.grown b9 ap (by simp) (Nat.le_refl _));have U:blk w3 p 79 (lgC l):=eT b0 ap (by decide) b9;have bt:blk w3 nb 38 (ndE x):=by
  unfold Go.Proofs.YtgpfkmdknlcemaaGreatDoor.blk;rw[b9.block nb V.lt (fun hh=>by have:=b8 nb hh.symm;omega)];exact V
 have cc:∀k,(Value.slice a3 (l.s.nodes.length+1) J).ownBlock=some k→k≠nb:=by
  intro k hk;rcases cG with hh|hh
  ·rw[hh]at hk;have:=b8 k hk;omega
  ·rw[hh]at hk;cases hk;have:=V.lt;omega
 refine aE (fun _=>True) trivial <|ab (fun y j _=>aw) <|ab (fun y j _=>bq) <|ab (fun y j _=>dV) ?_;refine dY (fun _=>by kernel_rfl) U (by rw[hl.ll];omega) rfl fun w4 X o4=>?_;have b5:=dJ ch U (by decide) o4;rw[←insA_end]at b5;have ck:blk w4 nb 38 (ndE x):=o4.blk bt (fun hh=>bt.ne U (by decide) hh);have k4:Keep wK B w w4:=k3.trans (o4.keep U (by simp) hl.lo)
 have X:blk w4 p 79 ((lgC l).set 18 (.slice a3 (l.s.nodes.length+1) J)):=X;generalize al:(lgC l).set 18 (.slice a3 (l.s.nodes.length+1) J)=cells at X;have R:cells[0+0+18]? = some (.slice a3 (l.s.nodes.length+1) J):=by rw[←al,List.getElem?_set_self (by rw[hl.ll];omega)]
 refine wo ?_;refine wq (Inv:=fun ca _ _ _ _ _ _ _ _ _ _ _ _ wr=>∃(k:Nat) (z:ND),ca=.int .i64 (k:Nat)∧k≤l.s.nodes.length∧(∀y,l.s.nodes[k]? = some y→id<y.id)∧z.A.length=54∧blk wr p 79 cells∧blk wr nb 38 (ndE x) ∧
   wr.ownsRow B 38 56 (.slice a3 (l.s.nodes.length+1) J) (l.s.nodes.length+1) ((fa l.s.nodes k z).flatMap ndE)∧Keep wK B w wr)
  (μ:=fun ca _ _ _ _ _ _ _ _ _ _ _ _ _=>(intOf ca).toNat) ⟨l.s.nodes.length,x,rfl,Nat.le_refl _,(fun y j=>by rw[List.getElem?_eq_none (Nat.le_refl _)]at j;cases j),ce,X,ck,b5,k4⟩ ?_
 rintro _ _ _ _ _ _ _ _ _ _ _ _ _ dd w5 mm ⟨k,z,rfl,hk,cX,c5,d,C,aS,k5⟩ hm;have cn:∀{l0 e1 l2 e3 mj i6 id7 f8 n9 mR a2 a6 bk be a8 bd bb a4 a9 bi am Z ad ag M:Value} {zf:Nat→Value} {w5:World},(∀y,0<k→l.s.nodes[k-1]? = some y→¬id<y.id)→l0=.pointer (some ⟨p,0,none⟩)→n9=.pointer (some ⟨nb,0,none⟩)→mR=.int .i64 (k:Nat)→blk w5 p 79 cells→blk w5 nb 38 (ndE x) →
   w5.ownsRow B 38 56 (.slice a3 (l.s.nodes.length+1) J) (l.s.nodes.length+1) ((fa l.s.nodes k z).flatMap ndE)→Keep wK B w w5→eD K ((bl l0 e1 l2 e3 mj i6 id7 f8 n9 mR a2 a6 bk be a8 bd bb a4 a9 bi am Z ad ag M zf)) w5:=by
  intro l0 e1 l2 e3 mj i6 id7 f8 n9 mR a2 a6 bk be a8 bd bb a4 a9 bi am Z ad ag M zf w5 c1 q1 q2 q3 u az h k6;subst q1 q2 q3;refine wt ?_;have u:=u.drew;have az:=az.drew;have h:w5.drew.ownsRow B 38 56 (.slice a3 (l.s.nodes.length+1) J) (l.s.nodes.length+1) ((fa l.s.nodes k z).flatMap ndE):=h
  refine aa (fun _=>aw) <|aa (fun _=>bq) <|aa (fun _=>dV) <|aa (v:=.slice a3 (l.s.nodes.length+1) J) (fun _=>lK u R) <|aa (v:=.agg (ndE x).toArray) (fun _=>ldA (n:=56) (vs:=ndE x) underlying38 rfl (by kernel_rfl) az (by rw[List.drop_zero,List.take_of_length_le (by rw[eZ];omega)]) (eZ x)) ?_;obtain⟨g,cg,rfl,op⟩:=cY h (by omega)
  refine aa (v:=.pointer (some ⟨g,0+((k:Nat):Int).toNat*56,none⟩)) (fun _=>eu underlying27 (s:=56) (fun _=>by kernel_rfl) (by omega) (by omega)) ?_;refine op.sto eZ nF (by omega) (by kernel_rfl) (xP _) fun w7 o7 bW=>?_;rw[vr hk]at bW;have k7:Keep wK B w w7:=k6.drew.trans (o7.keep op.blk (by simp) op.lo);have cj:blk w7 p 79 cells:=o7.blk u (fun hh=>u.ne op.blk (by decide) hh)
  have b6:(fa l.s.nodes k x).length=l.s.nodes.length+1:=nF;refine ar w7 {l with s:={l.s with nodes:=fa l.s.nodes k x,na:=some ⟨g,0,none⟩,nc:=J} } (hl.nodes' k7 (by decide) (by decide) (by decide) (by decide) ?_ ?_ ?_) rfl ?_ k7
  ·rw[←Bi hl.i6 hl.l6 hl.v6,b6,al];exact cj
  ·rw[b6];exact bW
  ·intro y j;rcases rj.1 j with e|e
   ·rw[e];exact ce
   ·exact hl.A54 y e
  ·rw[JT (x:=x) hs hk (by rw[b4];exact c1) (by rw[b4];exact cX)];rfl
 refine cB ?_;by_cases a7:(0:Int)<(k:Nat)
 ·refine dE a7 ?_;obtain⟨k,rfl⟩:=Nat.exists_eq_succ_of_ne_zero (show k≠0 by omega);have ek:((k.succ:Nat):Int)-1=(k:Nat):=by omega
  have cO:k<l.s.nodes.length:=by omega
  have j:l.s.nodes[k]? = some l.s.nodes[k]:=List.getElem?_eq_getElem cO;generalize l.s.nodes[k]=y at j;have bv:(fa l.s.nodes k.succ z)[k]? = some y:=by have:=Fk (L:=l.s.nodes) (z:=z) (show 0<k.succ by omega) hk;rw[Nat.succ_sub_one]at this;rw[this];exact j
  obtain⟨g,cg,rfl,op⟩:=cY aS (by omega);refine aw <|bq <|dV <|lK (v:=.slice (some ⟨g,0,none⟩) (l.s.nodes.length+1) J) d R <|bg (by omega) (by omega) ?_;rw[ek];refine eu underlying27 (s:=56) (fun _=>by kernel_rfl) (by omega) (by omega) <|tT <|lK (v:=u6 y.id) op.blk (by rw[Int.toNat_natCast,Nat.zero_add];exact op.cell eZ nF bv (show 0<56 by omega)) <|cB <|bR a7 ?_;by_cases a0:id<y.id
  ·refine ay a0 ?_;have d:=d.drew;have C:=C.drew;have an:Opn w5.drew B 38 56 (l.s.nodes.length+1) J g cg ((fa l.s.nodes k.succ z).flatMap ndE):=⟨op.blk,op.lo,op.nc,op.cm,op.len,op.take,op.xl⟩
   refine aa (fun _=>aw) <|aa (fun _=>bq) <|aa (fun _=>dV) <|aa (v:=.slice (some ⟨g,0,none⟩) (l.s.nodes.length+1) J) (fun _=>lK d R) <|aa (fun _=>aw) <|aa (fun _=>bq) <|aa (fun _=>dV) <|aa (v:=.slice (some ⟨g,0,none⟩) (l.s.nodes.length+1) J) (fun _=>lK d R) <|aa (v:=.int .i64 (k:Nat)) (fun K hK=>bg (by omega) (by omega) (by rw[ek];exact hK)) <|aa (v:=.pointer (some ⟨g,0+((k:Nat):Int).toNat*56,none⟩)) (fun _=>eu underlying27 (s:=56) (fun _=>by kernel_rfl) (by omega) (by omega)) <|aa (v:=.agg (ndE y).toArray) (fun _=>ldA (n:=56) (vs:=ndE y) underlying38 rfl (by kernel_rfl) an.blk (by rw[Int.toNat_natCast,Nat.zero_add];exact an.elem eZ nF bv) (eZ y)) <|aa (v:=.pointer (some ⟨g,0+((k.succ:Nat):Int).toNat*56,none⟩)) (fun _=>eu underlying27 (s:=56) (fun _=>by kernel_rfl) (by omega) (by omega)) ?_
   refine an.sto eZ nF (by omega) (by kernel_rfl) (xP _) fun w6 o6 h=>?_;rw[vr hk]at h;have cp:fa l.s.nodes k.succ y=fa l.s.nodes k y:=by have:=BE (L:=l.s.nodes) (x:=y) (show 0<k.succ by omega) (by rw[Nat.succ_sub_one];exact j);rwa[Nat.succ_sub_one]at this
   rw[cp]at h;refine bg (by omega) (by omega) ?_;have c4:g≠nb:=by
    have:(Value.slice (some ⟨g,0,none⟩) (l.s.nodes.length+1) J).ownBlock=some g:=rfl
    exact cc g this
   refine⟨⟨k,y,congrArg (Value.int .i64) ek,by omega,(fun z hz=>by rw[j]at hz;cases hz;exact a0),hl.A54 y (List.mem_of_getElem? j),o6.blk d (fun hh=>d.ne an.blk (by decide) hh),o6.blk C (by omega),h,k5.drew.trans (o6.keep an.blk (by simp) an.lo)⟩,by rw[hm];show (((k.succ:Nat):Int)-1).toNat<((k.succ:Nat):Int).toNat;omega⟩
  ·refine au a0 ?_;exact cn (fun z _ hz=>by rw[Nat.succ_sub_one,j]at hz;cases hz;exact a0) rfl rfl rfl d C aS k5
 ·have:k=0:=by omega
  subst this;refine eF a7 <|bE a7 <|bw ?_;exact cn (fun z h0=>absurd h0 (by omega)) rfl rfl rfl d C aS k5
theorem Ob {l0 e1 l2 e3 mj i6 id7 f8 n9 mR az a7 bi a8 be a4 a0 a3 ap bd am R X ag Z:Value}{zf:Nat→Value}{e:EV}{m eb:Nat}(hl:LM w B p l)(u:XI l m)(ad:e.k=1)(bk:eE e=true)(b0:gY l.s.V e=true)(hB:B≤w.heap.size)(ho:1≤e.o∧e.o≤6)(hs:1≤e.s∧e.s<1099511627776)(U:blk w eb 54 (evC e))(q0:l0=.pointer (some ⟨p,0,none⟩))(q3:e3=.pointer (some ⟨eb,0,none⟩))(q5:mj=.int .i64 (gj l.s.nodes e.o:Nat))(d:∀w',eM e (toP l)≠0→Below B w w'→K (.int .i64 (eM e (toP l))) w')(an:∀w' l',eM e (toP l)=0→LM w' B p l'→toP l'=qZ e (toP l)→l'.T=tr l'.s.nodes→Below B w w'→K (.int .i64 0) w'):cz K ((bl l0 e1 l2 e3 mj i6 id7 f8 n9 mR az a7 bi a8 be a4 a0 a3 ap bd am R X ag Z zf)) w:=by
 subst q0 q3 q5;obtain⟨rk,aS⟩:=u.tk;have bt:=u.n30;have bW:=u.tl;have j:eM e (toP l)=if 5≤gj l.s.nodes e.o∨M47<e.a then 6 else (iE l.T (idE e) e.n).2:=by rw[u.t];unfold eM;rw[if_pos ad];rfl
 refine wm <|cH ?_;generalize bv:gj l.s.nodes e.o=c at *;by_cases hc:(c:Int)≥5
 ·refine iZ hc <|bR hc <|bu ?_;rw[if_pos (.inl (by omega))]at j;rw[j]at d;exact d w (by decide) (Below.refl _ _)
 refine dZ hc <|dQ <|lK (v:=iv e.a) U rfl <|cB <|bE hc ?_;by_cases ha:140737488355328<e.a
 ·refine ay ha ?_;rw[if_pos (.inr ha)]at j;rw[j]at d;exact d w (by decide) (Below.refl _ _)
 refine au ha <|bS <|lK (v:=iv e.o) U rfl <|lh <|lK (v:=u6 e.s) U rfl <|Vm (by omega) (by omega) ?_;rw[if_neg (by omega)];rw[if_neg (fun hh=>hh.elim (fun h=>by omega) ha)]at j;have ar:e.o*1099511627776+e.s=idE e:=rfl;rw[ar];have al:qZ e (toP l)={toP l with N:=dL ⟨idE e,e.n,z54.set (e.o-1).toNat e.a⟩ l.s.nodes}:=by
  unfold qZ nop gop mG mH kw;rw[if_pos ad,if_neg (by omega),if_neg (by omega),if_neg (by omega),if_neg (by omega),if_neg (by omega)];rfl
 generalize idE e=id at *;refine aE (fun y=>blk y p 79 (lgC l)∧blk y eb 54 (evC e)) ⟨hl.cl.drew,U.drew⟩ <|ab (fun y J _=>aw) <|ab (fun y J _=>vg) <|ab (v:=.pointer (some ⟨l.t,0,none⟩)) (fun y J _=>lK J.1 hl.cT) <|ab (fun y J _=>eO) <|ab (v:=u6 e.n) (fun y J _=>lK J.2 rfl) ?_;refine Uz aS hl.drew.tm (by omega) hB fun w2 a9 k2=>?_
 have M:LM w2 B p {l with T:=(iE l.T id e.n).1}:=hl.drew.tree' k2 a9;have C:blk w2 eb 54 (evC e):=k2.blk U.drew (.inr (by decide));have B2:Below B w w2:=(k2.undrew).below hB;have s2:B≤w2.heap.size:=Nat.le_trans hB k2.size;refine aE (fun _=>True) trivial <|cW ?_;by_cases I:(iE l.T id e.n).2≠0
 ·refine ay I ?_;rw[j]at d;exact d w2 I B2
 refine au I ?_;have I:(iE l.T id e.n).2=0:=by simpa using I
 have j:=j.trans I;obtain⟨f0,f1,f2,f3,f4⟩:=Sp I;refine eO <|lK (v:=u6 e.n) C rfl <|fS (vs:=ndE ⟨id,e.n,z54⟩) (by kernel_rfl) ?_;refine dH (z:=.agg (ndE ⟨0,0,z54⟩).toArray) (by kernel_rfl) fun w3 h3 b3 s3=>?_;have h3:blk w3 w2.heap.size 38 (ndE ⟨0,0,z54⟩):=by simpa[Value.cells]using h3
 refine iz (n:=56) (vs:=ndE ⟨id,e.n,z54⟩) (by kernel_rfl) (eZ _) h3 (by rw[eZ];omega) (xP _) fun w4 h4 o4=>?_;have h4:blk w4 w2.heap.size 38 (ndE ⟨id,e.n,z54⟩):=by
  rw[List.take_zero,List.nil_append,List.drop_of_length_le (by rw[eZ];omega),List.append_nil]at h4;exact h4
 have B4:Below w2.heap.size w2 w4:=bA b3 o4 (Nat.le_refl _);have av:=M.fresh B4;have a2:=af B4 C C.lt;have a6:Below B w w4:=B2.trans (B4.mono s2);refine Oa av u.pi.srt (by show l.s.nodes.length≤1000;omega) (Nat.le_trans s2 B4.size) ho a2 h4 s2 (fun k hk=>M.nn k hk) rfl rfl rfl rfl fun w5 l5 bb e1 e2 k5=>?_
 refine an w5 l5 j bb (by rw[al];exact e2) ?_ (a6.trans (k5.below (Nat.le_trans s2 B4.size)));have e1:l5.T=fa l.T (nL (gtI id) l.T l.T.length) (id,e.n):=e1.trans f4;have e3:l5.s.nodes=dL ⟨id,e.n,z54.set (e.o-1).toNat e.a⟩ l.s.nodes:=congrArg PL.N e2;rw[e1,e3,u.t];exact Se (x:=⟨id,e.n,z54.set (e.o-1).toNat e.a⟩) u.pi.srt
theorem PZ {e:EV}{m:Nat}(hl:LM w B p l)(hg:XI l m)(X:e.k=1)(C:eE e=true)(ad:gY l.s.V e=true)(hB:B≤w.heap.size)(ho:1≤e.o∧e.o≤6)(hs:1≤e.s∧e.s<1099511627776)(Z:∀w',eM e (toP l)≠0→Below B w w'→K (.int .i64 (eM e (toP l))) w')(R:∀w' l',eM e (toP l)=0→LM w' B p l'→toP l'=qZ e (toP l)→l'.T=tr l'.s.nodes→Below B w w'→K (.int .i64 0) w'):call Tryz.prog 80 #[.pointer (some ⟨p,0,none⟩),.agg (evC e).toArray] K w:=by
 refine aB (goK func80) (xI ?_);refine dc fun w1 he b1 s1=>?_;have he:blk w1 w.heap.size 54 (evC e):=by simpa[Value.cells]using he
 have al:=hl.fresh b1;have ap:=hg.n30;have B1:Below B w w1:=b1.mono hB;refine wj (Inv:=fun ag i wr=>∃(k:Nat) (c:Nat),i=.int .i64 (k:Nat)∧k≤l.s.nodes.length∧ag=.int .i64 (c:Nat)∧c=gj (l.s.nodes.take k) e.o∧c≤k∧LM wr B p l∧blk wr w.heap.size 54 (evC e)∧Below B w wr) (μ:=fun _ i _=>l.s.nodes.length-(intOf i).toNat) ⟨0,0,rfl,by omega,rfl,rfl,by omega,al,he,B1⟩ ?_
 rintro _ _ dd w2 mm ⟨k,c,rfl,hk,rfl,c0,ck,h,J,B2⟩ M;refine aw <|bq <|dV <|lK (v:=.slice l.s.na l.s.nodes.length l.s.nc) h.cl h.cN <|bx underlying27 <|aV ?_;by_cases I:k<l.s.nodes.length
 ·refine ay (by omega) <|wk ?_;have d:=h.drew;have u:=J.drew;have B3:=B2.drew;have U:l.s.nodes[k]? = some l.s.nodes[k]:=List.getElem?_eq_getElem I;generalize l.s.nodes[k]=x at U;obtain⟨g,an,ha,op⟩:=cY d.nd (by omega)
  refine aa (fun _=>aw) <|aa (fun _=>bq) <|aa (fun _=>dV) <|aa (v:=.slice l.s.na l.s.nodes.length l.s.nc) (fun _=>lK d.cl d.cN) <|aa (v:=.pointer (some ⟨g,k*56,none⟩)) (fun _=>nK ha underlying27 (fun _=>by kernel_rfl) I) <|aa (fun _=>tT) <|aa (v:=u6 x.id) (fun _=>lK op.blk (op.cell eZ rfl U (show 0<56 by omega))) <|aa (fun _=>Mh (by omega)) <|aa (fun _=>bS) <|aa (v:=iv e.o) (fun _=>lK u rfl) <|aa (fun _=>eK underlying3 underlying24) <|aa (fun _=>bm) ?_
  have j:x.id.fdiv (2 ^ min (Int.toNat 40) IntKind.u64.bits)=IntKind.u64.wrap e.o↔x.id / M40=e.o:=by
   rw[hZ,show e.o%18446744073709551616=e.o by omega,show (2:Int) ^ min (Int.toNat 40) IntKind.u64.bits=M40 from by decide,Int.fdiv_eq_ediv_of_nonneg _ (by decide)]
  refine ui (fun hd=>?_) (fun hd=>?_)
  ·refine aR (by omega) (by omega) <|pO <|aR (by omega) (by omega) ?_;exact⟨⟨k+1,c+1,ivS,by omega,ivS,by rw[JW U, ←c0,if_pos (j.1 (of_decide_eq_true hd))],by omega,d,u,B3⟩,by rw[M];show l.s.nodes.length-((k:Int)+1).toNat<l.s.nodes.length-(k:Int).toNat;omega⟩
  ·refine pO <|aR (by omega) (by omega) ?_;exact⟨⟨k+1,c,ivS,by omega,rfl,by rw[JW U, ←c0,if_neg (fun hh=>of_decide_eq_false hd (j.2 hh)),Nat.add_zero],by omega,d,u,B3⟩,by rw[M];show l.s.nodes.length-((k:Int)+1).toNat<l.s.nodes.length-(k:Int).toNat;omega⟩
 ·refine au (by omega) ?_;have am:k=l.s.nodes.length:=by omega
  rw[am,List.take_length]at c0;exact Ob h hg X C ad (Nat.le_trans hB B2.size) ho hs J rfl rfl (by rw[c0]) (fun w' hv b=>Z w' hv (B2.trans b)) (fun w' l' h1 h2 h3 h4 b=>R w' l' h1 h2 h3 h4 (B2.trans b))
end
end
section
open Go.RowKit
structure BL (l l':LG) (ids:List Int) (c:Nat) (a:Int):Prop where
 T:l'.T=l.T
 P:toP l'={toP l with N:=l.s.nodes.map (dN ids c a)}
section
variable {l l':LG}{ids:List Int}{c:Nat}{a:Int}
theorem BL.refl (l:LG):BL l l [] c a:=⟨rfl,by rw[VF];rfl⟩
theorem BL.N (h:BL l l' ids c a):l'.s.nodes=l.s.nodes.map (dN ids c a):=congrArg PL.N h.P
theorem BL.G (h:BL l l' ids c a):l'.G=l.G:=congrArg PL.G h.P
theorem BL.R (h:BL l l' ids c a):l'.R=l.R:=congrArg PL.R h.P
theorem BL.len (h:BL l l' ids c a):l'.s.nodes.length=l.s.nodes.length:=by rw[h.N,List.length_map]
theorem BL.has (h:BL l l' ids c a){id:Int}:bL l'.s.nodes id=bL l.s.nodes id:=by rw[h.N];exact Fp fun y=>(gu y).1
theorem BL.tr (h:BL l l' ids c a)(d:l.T=tr l.s.nodes):l'.T=Go.Proofs.YtgpfkmdknlcemaaGreatDoor.tr l'.s.nodes:=by rw[h.T,d,h.N];exact(AF fun y=>gu y).symm
theorem BL.next {P:List Int}{k i:Nat}{x:ND}{y:Int}{f:List Int→Int}(h:BL l l' (P.take k) c a)(M:l.s.nodes.Pairwise (·.id < ·.id))(X:P.Nodup)(u:P[k]? = some y)(U:l'.s.nodes[i]? = some x)(I:x.id=y):l.s.nodes[i]? = some x∧(∀{A':List Int},A'=x.A.set c (nA x.A c+a)→BL l (zS l' i {x with A:=A'}) (P.take (k+1)) c a)∧kz f l.s.nodes (P.drop k)=if f x.A≠0 then f x.A else kz f l.s.nodes (P.drop (k+1)):=by
 subst I;have R:k<P.length:=(List.getElem?_eq_some_iff.1 u).1;have hn:x.id∉P.take k:=fun hm=>by
  obtain⟨j,C⟩:=List.getElem?_of_mem hm;rw[List.getElem?_take]at C;split at C
  ·rename_i J
   have:=Bg X C u J
   exact this rfl
  ·cases C
 rw[h.N]at U;obtain⟨V,Z⟩:=JU M U hn;refine⟨V,fun {A'} e=>⟨h.T,?_⟩,?_⟩
 ·subst e;rw[List.take_add_one,u,Option.toList_some, ←Z, ←h.N];have d:=h.P;unfold toP at d ⊢;simp only[PL.mk.injEq]at d ⊢;exact⟨d.1,d.2.1,d.2.2.1,rfl,d.2.2.2.2.1,d.2.2.2.2.2⟩
 ·have e0:P.drop k=x.id::P.drop (k+1):=by
   rw[List.drop_eq_getElem_cons R];rw[List.getElem?_eq_getElem R,Option.some.injEq]at u;rw[u]
  rw[e0,kz,oN M (List.mem_of_getElem? V)]
end
section
variable {w:World}{K:KV}{B p:Nat}{l:LG}
theorem Oc {l0 e1 l2 e3 p5 i6 k_7 r8 f9 g10 jE cc b4 J az a4 a2 a8 bv b0 av a9 an al M aS b7 b6 b5 ap am bi ag ad U a7 bt bd bW bk I V ar a6 b3 u a0 bb X C be Z a3 R:Value}{zf:Nat→Value}{B1:KE}{i rb j:Nat}{x:ND}{A':List Int}{f:Int}(h:LM w B p l)(hx:l.s.nodes[i]? = some x)(d:A'.length=54)(hr:blk w rb 36 (A'.map iv))(hj:j≤1000000)(q0:l0=.pointer (some ⟨p,0,none⟩))(q6:i6=.int .i64 (j:Nat))(q7:k_7=.int .i64 (i:Nat))(q8:r8=.pointer (some ⟨rb,0,none⟩))(q9:f9=.int .i64 f)(b8:∀w',f≠0→Below B w w'→K (.int .i64 f) w')(b9:∀(e:List Value) (w':World),f=0→gd e 6=.int .i64 ((j+1:Nat):Int)→LM w' B p (zS l i {x with A:=A'})→Keep wK B w w'→B1 e w'):fi K B1 ((aZ l0 e1 l2 e3 p5 i6 k_7 r8 f9 g10 jE cc b4 J az a4 a2 a8 bv b0 av a9 an al M aS b7 b6 b5 ap am bi ag ad U a7 bt bd bW bk I V ar a6 b3 u a0 bb X C be Z a3 R zf)) w:=by
 subst q0 q6 q7 q8 q9;refine wy <|cW ?_;by_cases hf:f≠0
 ·exact ay hf (b8 w hf (Below.refl _ _))
 refine au hf ?_;have h:=h.drew;have hr:=hr.drew;have hi:i<l.s.nodes.length:=(List.getElem?_eq_some_iff.1 hx).1;obtain⟨g,ce,ha,op⟩:=cY h.nd (by omega)
 refine aa (fun _=>aw) <|aa (fun _=>bq) <|aa (fun _=>dV) <|aa (v:=.slice l.s.na l.s.nodes.length l.s.nc) (fun _=>lK h.cl h.cN) <|aa (v:=.agg (A'.map iv).toArray) (fun _=>ldA (n:=54) (vs:=A'.map iv) underlying36 rfl (by kernel_rfl) hr (by rw[List.drop_zero,List.take_of_length_le (by simp[d])]) (by simp[d])) <|aa (v:=.pointer (some ⟨g,i*56,none⟩)) (fun _=>nK ha underlying27 (fun _=>by kernel_rfl) hi) <|aa (fun _=>ob) ?_
 refine Nf h hx d op ha rfl fun w' ca o'=>?_;refine wB <|aR (by omega) (by omega) ?_;exact b9 _ _ (by simpa using hf) (ivS) ca ((Keep.of (B:=B) (Below.refl _ w).drew).trans (o'.keep op.blk (by simp) op.lo))
theorem Od {l0 e1 l2 e3 p5 i6 k_7 r8 f9 g10 jE ca b5 av a7 a9 X bd b0 al a6 ad a2 M u V ap b7 an a3 R bt a0 J C bb bW bi ag bv ar b6 a4 Z am d U be I h bk aS a8 az:Value}{zf:Nat→Value}{e:EV}{P:List Int}{a:Option Addr}{m c eb Bp:Nat}(hl:LM w B p l)(hg:XI l m)(hB:B≤w.heap.size)(ha : -9223372036854775808≤e.a∧e.a≤9223372036854775807)(he:blk w eb 54 (evC e))(hP:w.ownsRow Bp 24 1 (.slice a P.length c) P.length (P.map u6))(dr:P.length≤100000)(dg:∀y∈P,bL l.s.nodes y=true)(dk:P.Nodup)(q0:l0=.pointer (some ⟨p,0,none⟩))(q3:e3=.pointer (some ⟨eb,0,none⟩))(q5:p5=.slice a P.length c)(q6:i6=.int .i64 0)(cQ:∀w',kz (fun A=>(iu A e.o e.a).2) l.s.nodes P≠0→Below B w w'→K (.int .i64 (kz (fun A=>(iu A e.o e.a).2) l.s.nodes P)) w')(c7:∀{l0 e1 l2 e3 p5 i6 k_7 r8 f9 g10 jE ca b5 av a7 a9 X bd b0 al a6 ad a2 M u V ap b7 an a3 R bt a0 J C bb bW bi ag bv ar b6 a4 Z am d U be I h bk aS a8 az:Value} {zf:Nat→Value} {w':World} {l':LG},l0=.pointer (some ⟨p,0,none⟩)→e3=.pointer (some ⟨eb,0,none⟩)→LM w' B p l'→BL l l' P (6+e.q) e.a→kz (fun A=>(iu A e.o e.a).2) l.s.nodes P=0→blk w' eb 54 (evC e)→Below B w w'→bT K ((aZ l0 e1 l2 e3 p5 i6 k_7 r8 f9 g10 jE ca b5 av a7 a9 X bd b0 al a6 ad a2 M u V ap b7 an a3 R bt a0 J C bb bW bi ag bv ar b6 a4 Z am d U be I h bk aS a8 az zf)) w'):jz K ((aZ l0 e1 l2 e3 p5 i6 k_7 r8 f9 g10 jE ca b5 av a7 a9 X bd b0 al a6 ad a2 M u V ap b7 an a3 R bt a0 J C bb bW bi ag bv ar b6 a4 Z am d U be I h bk aS a8 az zf)) w:=by
 subst q0 q3 q5 q6
 refine ww (Inv:=fun i wr=>∃(k:Nat) (l':LG),i=.int .i64 (k:Nat)∧k≤P.length∧LM wr B p l'∧BL l l' (P.take k) (6+e.q) e.a∧kz (fun A=>(iu A e.o e.a).2) l.s.nodes P=kz (fun A=>(iu A e.o e.a).2) l.s.nodes (P.drop k)∧blk wr eb 54 (evC e)∧wr.ownsRow Bp 24 1 (.slice a P.length c) P.length (P.map u6)∧Below B w wr) (μ:=fun i _=>P.length-(intOf i).toNat) ⟨0,l,rfl,by omega,hl,BL.refl l,rfl,he,hP,Below.refl _ _⟩ ?_
 rintro _ dd w1 mm ⟨k,l',rfl,hk,cj,cc,cm,cG,ck,B1⟩ dm;refine bx underlying76 <|aV ?_;by_cases c6:k<P.length
 ·refine ay (by omega) ?_;have hy:P[k]? = some P[k]:=List.getElem?_eq_getElem c6;generalize P[k]=y at hy;obtain⟨g,c3,rfl,op⟩:=cY ck (by omega);refine eu underlying76 (s:=1) (fun _=>by kernel_rfl) (by omega) (by omega) ?_;refine lK (v:=u6 y) op.blk (by
   have h0:(P.map u6)=P.flatMap uC:=(Ed P).symm;have dp:Opn w1 Bp 24 1 P.length c g c3 (P.flatMap uC):=h0 ▸ op
   have:=dp.cell (enc:=uC) (s:=1) (j:=0) (fun _=>rfl) rfl hy (by omega)
   rw[Int.toNat_natCast,Nat.zero_add];exact this) ?_
  have dz:=hg.n30;refine DW cj (by rw[cc.len];omega) ?_;obtain⟨x,hx,cp,cO⟩:=DU (N:=l'.s.nodes) (id:=y) (by rw[cc.has];exact dg y (List.mem_of_getElem? hy));have c9:fdN l'.s.nodes y=(posN l'.s.nodes y:Nat):=by unfold fdN;rw[if_pos cp]
  rw[c9];generalize posN l'.s.nodes y=i at hx cp;obtain⟨d0,cX,b8⟩:=cc.next hg.pi.srt dk hy hx cO (f:=fun A=>(iu A e.o e.a).2)
  have b8:=cm.trans b8;have b9:=cj.drew;have cg:=cG.drew;have ce:x.A.length=54:=cj.A54 x (List.mem_of_getElem? hx);obtain⟨gn,cn,c4,ch⟩:=cY b9.nd (by omega);have cI:(cn.drop (i*56+2)).take 54=x.A.map iv:=by
   have:=ch.elem eZ rfl hx
   rw[show i*56+2=i*56+2 from rfl, ←List.drop_drop];have h3:((cn.drop (i*56)).take 56).drop 2=((cn.drop (i*56)).drop 2).take 54:=by rw[List.drop_take]
   rw[←h3,this];unfold ndE;rw[Ay ce];rfl
  refine aE (fun z=>blk z p 79 (lgC l')∧blk z gn 38 cn∧blk z eb 54 (evC e)) ⟨b9.cl,ch.blk,cg⟩ <|ab (fun z hz _=>aw) <|ab (fun z hz _=>bq) <|ab (fun z hz _=>dV) <|ab (v:=.slice l'.s.na l'.s.nodes.length l'.s.nc) (fun z hz _=>lK hz.1 b9.cN) <|ab (v:=.pointer (some ⟨gn,i*56,none⟩)) (fun z hz _=>nK c4 underlying27 (fun _=>by kernel_rfl) cp) <|ab (fun z hz _=>ob) <|ab (v:=.agg (x.A.map iv).toArray) (fun z hz _=>ldA (n:=54) (vs:=x.A.map iv) underlying36 rfl (by kernel_rfl) hz.2.1 cI (by simp[ce])) <|ab (fun z hz _=>bS) <|ab (v:=iv e.o) (fun z hz _=>lK hz.2.2 rfl) <|ab (fun z hz _=>dQ) <|ab (v:=iv e.a) (fun z hz _=>lK hz.2.2 rfl) ?_
  have s1:B≤w1.drew.heap.size:=Nat.le_trans hB B1.size;have cD:((iu x.A e.o e.a).1).length=54:=NS ce;have c8:=KC (A:=x.A) (o:=e.o) (a:=e.a);have cL:w1.drew.ownsRow Bp 24 1 (.slice (some ⟨g,0,none⟩) P.length c) P.length (P.map u6):=di ck fun _ _=>rfl
  have cV:∀{l0 e1 l2 e3 p5 i6 k_7 r8 f9 g10 jE ca b5 av a7 a9 X bd b0 al a6 ad a2 M u V ap b7 an a3 R bt a0 J C bb bW bi ag bv ar b6 a4 Z am d U be I h bk aS a8 az:Value} {zf:Nat→Value} {w3:World} {rb:Nat},l0=.pointer (some ⟨p,0,none⟩)→i6=.int .i64 (k:Nat)→k_7=.int .i64 (i:Nat)→r8=.pointer (some ⟨rb,0,none⟩)→f9=.int .i64 (iu x.A e.o e.a).2→blk w3 rb 36 ((iu x.A e.o e.a).1.map iv)→Below w1.drew.heap.size w1.drew w3 →
    fi K (fun e2 w2=>(∃(k:Nat) (l':LG),gd e2 6=.int .i64 (k:Nat)∧k≤P.length∧LM w2 B p l'∧BL l l' (P.take k) (6+e.q) e.a∧kz (fun A=>(iu A e.o e.a).2) l.s.nodes P=kz (fun A=>(iu A e.o e.a).2) l.s.nodes (P.drop k)∧blk w2 eb 54 (evC e)∧w2.ownsRow Bp 24 1 (.slice (some ⟨g,0,none⟩) P.length c) P.length (P.map u6)∧Below B w w2)∧P.length-(intOf (gd e2 6)).toNat<mm) ((aZ l0 e1 l2 e3 p5 i6 k_7 r8 f9 g10 jE ca b5 av a7 a9 X bd b0 al a6 ad a2 M u V ap b7 an a3 R bt a0 J C bb bW bi ag bv ar b6 a4 Z am d U be I h bk aS a8 az zf)) w3:=by
   intro l0 e1 l2 e3 p5 i6 k_7 r8 f9 g10 jE ca b5 av a7 a9 X bd b0 al a6 ad a2 M u V ap b7 an a3 R bt a0 J C bb bW bi ag bv ar b6 a4 Z am d U be I h bk aS a8 az zf w3 rb q0 q6 q7 q8 q9 c5 b3;have B3:Below B w w3:=B1.drew.trans (b3.mono s1);have dj:=b9.fresh b3
   refine Oc dj hx cD c5 (by omega) q0 q6 q7 q8 q9 (fun w' hv b=>by
    rw[if_pos hv]at b8;rw[b8]at cQ;exact cQ w' hv (B3.trans b)) fun e2 w' hf c2 da k4=>?_
   rw[if_neg (by simpa using hf)]at b8;have s3:B≤w3.heap.size:=Nat.le_trans s1 b3.size;refine⟨⟨k+1,_,c2,by omega,da,cX (by rw[c8 hf];rfl),b8,k4.blk (af b3 cg cg.lt) (.inr (by decide)),dW (di cL fun q hq=>b3.block q (World.ownsRow.lt cL q hq).2) k4 (by decide),B3.trans (k4.below s3)⟩,?_⟩;rw[c2,dm];show P.length-(((k+1:Nat):Int)).toNat<P.length-(k:Int).toNat;omega
  refine⟨?_,?_⟩
  ·refine KW ce ha fun w3 b3=>?_;refine aE (fun _=>True) trivial <|ab (fun z hz _=>eB) <|ab (fun z hz _=>eC) ?_;refine dH (z:=.agg (z54.map iv).toArray) (by kernel_rfl) fun w4 h4 b4 s4=>?_;have h4:blk w4 w3.heap.size 36 (z54.map iv):=by simpa[Value.cells]using h4
   refine aO trivial ?_;refine iz (n:=54) (vs:=(iu x.A e.o e.a).1.map iv) (by kernel_rfl) (by simp[cD]) h4 (by show 0+54≤54;omega) (uB _) fun w5 h5 o5=>?_;refine aO trivial ?_;refine cV rfl rfl rfl rfl rfl (by
    rw[List.take_zero,List.nil_append,List.drop_of_length_le (by show 54≤0+54;omega),List.append_nil]at h5;exact h5) (b3.trans (bA (b4.mono b3.size) o5 b3.size))
  ·refine dH (z:=.agg (z54.map iv).toArray) (by kernel_rfl) fun w3 h3 b3 s3=>?_;have h3:blk w3 w1.drew.heap.size 36 (z54.map iv):=by simpa[Value.cells]using h3
   refine aO ⟨af b3 b9.cl b9.cl.lt,af b3 ch.blk ch.blk.lt,af b3 cg cg.lt⟩ ?_;refine KW ce ha fun w4 b4=>?_;have h4:=af b4 h3 h3.lt;refine aE (fun _=>True) trivial <|ab (fun z hz _=>eB) <|ab (fun z hz _=>eC) ?_;refine iz (n:=54) (vs:=(iu x.A e.o e.a).1.map iv) (by kernel_rfl) (by simp[cD]) h4 (by show 0+54≤54;omega) (uB _) fun w5 h5 o5=>?_;refine aO trivial ?_
   refine cV rfl rfl rfl rfl rfl (by
    rw[List.take_zero,List.nil_append,List.drop_of_length_le (by show 54≤0+54;omega),List.append_nil]at h5;exact h5) (bA (b3.trans (b4.mono b3.size)) o5 (Nat.le_refl _))
 ·refine au (by omega) ?_;have c1:k=P.length:=by omega
  rw[c1,List.take_length]at cc;rw[c1,List.drop_length]at cm;exact c7 rfl rfl cj cc cm cG B1
end
end
section
open Go.RowKit
section
variable {w:World}{K:KV}{B p:Nat}{l:LG}
theorem Oe {l0 e1 l2 e3 p5 i6 k_7 r8 f9 g10 jE dp c3 b7 ck cp a9 cG c2 bk cj be ce a2 av a8 b0 c6 bv cg a3 cV ca a0 az cD c1 cL bi cX b6 c4 ch bd bt ap a7 cI aS ar cO b9 cm b8:Value}{zf:Nat→Value}{w0:World}{e:EV}{G:List GR}{x:GR}{a:Option Addr}{m n c k eb gb:Nat}(h:LM w0 B p l)(cc:∀k,k<6→(l.R.getD k []).length≤m)(hm:m≤900)(kp:Keep CK B w0 w)(hB:B≤w0.heap.size)(ho:1≤e.o∧e.o≤6)(he:blk w eb 54 (evC e))(am:blk w gb 100 (grC x))(hn:n=l.G.length+1)(hG:G.length=n)(da:G.set k x=ib x l.G)(hk:k<n)(U:blk w p 79 ((lgC l).set 19 (.slice a n c)))(u:w.ownsRow B 100 5 (.slice a n c) n (G.flatMap grC))(q0:l0=.pointer (some ⟨p,0,none⟩))(q3:e3=.pointer (some ⟨eb,0,none⟩))(dm:g10=.pointer (some ⟨gb,0,none⟩))(dg:jE=.int .i64 (k:Nat))(bW:∀w' l',LM w' B p l'→toP l'={toP l with G:=ib x l.G,R:=l.R.set (e.o-1).toNat (l.R.getD (e.o-1).toNat []++[e.r])}→l'.T=l.T→Below B w0 w'→K (.int .i64 0) w'):dO K ((aZ l0 e1 l2 e3 p5 i6 k_7 r8 f9 g10 jE dp c3 b7 ck cp a9 cG c2 bk cj be ce a2 av a8 b0 c6 bv cg a3 cV ca a0 az cD c1 cL bi cX b6 c4 ch bd bt ap a7 cI aS ar cO b9 cm b8 zf)) w:=by
 subst q0 q3 dm dg hn;refine wE ?_;have U:=U.drew;have he:=he.drew;have am:=am.drew;have u:w.drew.ownsRow B 100 5 (.slice a (l.G.length+1) c) (l.G.length+1) (G.flatMap grC):=u;have kp:=kp.drew;have a6:((lgC l).set 19 (.slice a (l.G.length+1) c))[0+0+19]? = some (.slice a (l.G.length+1) c):=by rw[List.getElem?_set_self (by rw[h.ll];omega)]
 refine aa (fun _=>aw) <|aa (fun _=>bq) <|aa (fun _=>gB) <|aa (v:=.slice a (l.G.length+1) c) (fun _=>lK U a6) <|aa (v:=.agg (grC x).toArray) (fun _=>ldA (n:=5) (vs:=grC x) underlying100 rfl (by kernel_rfl) am rfl rfl) ?_;obtain⟨g,d0,rfl,op⟩:=cY u (by omega)
 refine aa (v:=.pointer (some ⟨g,0+((k:Nat):Int).toNat*5,none⟩)) (fun _=>eu underlying28 (s:=5) (fun _=>by kernel_rfl) (by omega) (by omega)) ?_;refine op.sto j4 hG (by omega) (by kernel_rfl) (qF _) fun w2 o2 al=>?_;have k2:Keep CK B w0 w2:=kp.trans (o2.keep op.blk (by simp) op.lo)
 have bb:blk w2 p 79 ((lgC l).set 19 (.slice (some ⟨g,0,none⟩) (l.G.length+1) c)):=o2.blk U (fun hh=>U.ne op.blk (by decide) hh);have M:blk w2 eb 54 (evC e):=o2.blk he (fun hh=>he.ne op.blk (by decide) hh);have ag:(G.set k x).length=l.G.length+1:=by rw[List.length_set,hG]
 have b3:LM w2 B p {l with s:={l.s with gv:=.slice (some ⟨g,0,none⟩) (G.set k x).length c},G:=G.set k x,ga:=some ⟨g,0,none⟩,gc:=c} :=
  h.grants' k2 (by decide) (by decide) (by decide) (by decide) (by rw[←EY h.i6 h.l6 h.v6,ag];exact bb) (by rw[ag];exact al)
 have B2:Below B w0 w2:=k2.below hB;generalize C:({l with s:={l.s with gv:=.slice (some ⟨g,0,none⟩) (G.set k x).length c},G:=G.set k x,ga:=some ⟨g,0,none⟩,gc:=c}:LG)=l2 at b3;have r1:l2.T=l.T:=by rw[←C]
 have r2:l2.R=l.R:=by rw[←C]
 have r5:toP l2={toP l with G:=ib x l.G}:=by rw[←C, ←da];rfl
 obtain⟨j,hj⟩:∃j:Nat,j=(e.o-1).toNat:=⟨_,rfl⟩
 have I:j<6:=by omega
 have X:=b3.drew;obtain⟨qa,qc,hq,a4⟩:=X.rq j I;have dz:(lgC l2)[0+21+j]? = some (.slice qa (l2.R.getD j []).length qc):=by rw[Nat.zero_add];exact X.cQ.trans hq
 have c9:=cc j I;rw[←r2]at c9
 refine aE (fun z=>blk z p 79 (lgC l2)∧blk z eb 54 (evC e)) ⟨X.cl,M.drew⟩ <|ab (fun z d _=>bS) <|ab (v:=iv e.o) (fun z d _=>lK d.2 rfl) <|ab (v:=.int .i64 ((j:Nat):Int)) (fun z d K hK=>bg (by omega) (by omega) (by rw[show (e.o-1)=(j:Nat)by omega];exact hK)) <|ab (fun z d _=>bS) <|ab (v:=iv e.o) (fun z d _=>lK d.2 rfl) <|ab (v:=.int .i64 ((j:Nat):Int)) (fun z d K hK=>bg (by omega) (by omega) (by rw[show (e.o-1)=(j:Nat)by omega];exact hK)) <|ab (fun z d _=>aw) <|ab (fun z d _=>pP) <|ab (fun z d _=>ixQ rfl I) <|ab (v:=.slice qa (l2.R.getD j []).length qc) (fun z d _=>lK d.1 dz) <|ab (fun z d _=>gS) <|ab (v:=u6 e.r) (fun z d _=>lK d.2 rfl) <|ab (fun z d _=>aw) <|ab (fun z d _=>pP) ?_
 refine oe (vs:=[u6 e.r]) underlying76 (s:=1) (by kernel_rfl) (by kernel_rfl) (by omega) rfl (by simp) (by simp) (by simp) (by simp[Value.cells,u6]) fun w4 h4 b4 s4=>?_;have h4:blk w4 w2.drew.heap.size 24 (uC e.r):=by simpa[Value.cells,u6,uC]using h4
 have V:=X.fresh b4;have B4:Below B w0 w4:=B2.drew.trans (b4.mono (Nat.le_trans hB B2.size));refine aO ⟨V.cl,af b4 M.drew M.drew.lt⟩ ?_;have J:=di a4 fun b hb=>b4.block b (World.ownsRow.lt a4 b hb).2;obtain⟨ii,dd,d,dj,c8⟩:=info_parts Ab
 refine rU (base:=B) (enc:=uC) (x:=e.r) underlying76 dd d dj c8 rfl (by omega) (fun _=>rfl) J h4 (K7 _) (by omega) (by omega) (Nat.le_trans hB B4.size) fun a5 c5 w5 c7 an b5 cn=>?_;have ad:=eT V.cl J (by decide) an;have dk:blk w5 eb 54 (evC e):=eT (af b4 M.drew M.drew.lt) J (by decide) an;refine aO ⟨ad,dk⟩ <|ab (fun z d _=>ixQ rfl I) ?_
 refine dY (fun _=>by kernel_rfl) ad (by rw[V.ll];omega) rfl fun w6 Z o6=>?_;rw[show 0+21+j=21+j by omega]at Z;have dr:=V.req' I hq an c7 cn Z o6;refine bW w6 _ dr ?_ r1 (B4.trans (bA b5 o6 h.lo));have e6:∀(q:List Value) (R:List (List Int)),toP {l2 with q:=q,R:=R} = {toP l2 with R:=R}:=fun _ _=>rfl;rw[e6,r5,r2,hj]
theorem Of {l0 e1 l2 e3 p5 i6 k_7 r8 f9 g10 jE cX cp be b6 b8 a0 ca cn a7 b5 a3 bv ar al aS bb cI a9 bW av ch bt ap am b9 ck ce a6 cj bd cD b0 a2 a8 Z az cc an ad cg bk b7 bi:Value}{zf:Nat→Value}{e:EV}{m eb:Nat}(hl:LM w B p l)(ec:l.G.Pairwise ltG)(el:l.G.length≤m)(d0:∀k,k<6→(l.R.getD k []).length≤m)(hm:m≤900)(hB:B≤w.heap.size)(ho:1≤e.o∧e.o≤6)(en : -9223372036854775808≤e.a∧e.a≤9223372036854775807)(he:blk w eb 54 (evC e))(q0:l0=.pointer (some ⟨p,0,none⟩))(q3:e3=.pointer (some ⟨eb,0,none⟩))(c5:∀w' l',LM w' B p l'→toP l'={toP l with G:=ib ⟨e.o,e.r,e.n,e.a,0⟩ l.G,R:=l.R.set (e.o-1).toNat (l.R.getD (e.o-1).toNat []++[e.r])}→l'.T=l.T→Below B w w'→K (.int .i64 0) w'):bT K ((aZ l0 e1 l2 e3 p5 i6 k_7 r8 f9 g10 jE cX cp be b6 b8 a0 ca cn a7 b5 a3 bv ar al aS bb cI a9 bW av ch bt ap am b9 ck ce a6 cj bd cD b0 a2 a8 Z az cc an ad cg bk b7 bi zf)) w:=by
 subst q0 q3;refine wA <|bS <|lK (v:=iv e.o) he rfl <|gS <|lK (v:=u6 e.r) he rfl <|eO <|lK (v:=u6 e.n) he rfl <|dQ <|lK (v:=iv e.a) he rfl <|fS (vs:=grC ⟨e.o,e.r,e.n,e.a,0⟩) (by kernel_rfl) ?_;refine dH (z:=.agg (grC ⟨0,0,0,0,0⟩).toArray) (by kernel_rfl) fun w1 J b1 s1=>?_;have J:blk w1 w.heap.size 100 (grC ⟨0,0,0,0,0⟩):=by simpa[Value.cells]using J
 refine iz (n:=5) (vs:=grC ⟨e.o,e.r,e.n,e.a,0⟩) (by kernel_rfl) rfl J (by show 0+5≤5;omega) (qF _) fun w2 X o2=>?_;have X:blk w2 w.heap.size 100 (grC ⟨e.o,e.r,e.n,e.a,0⟩):=X;generalize hx:(⟨e.o,e.r,e.n,e.a,0⟩:GR)=x at X c5;have em:x.a=e.a:=by rw[←hx]
 have c8:Below w.heap.size w w2:=bA b1 o2 (Nat.le_refl _);have cL:=hl.fresh c8;have d1:=af c8 he he.lt;have B2:Below B w w2:=c8.mono hB;have s2:B≤w2.heap.size:=Nat.le_trans hB B2.size
 refine aw <|bq <|gB <|lK (v:=.slice l.ga l.G.length l.gc) cL.cl cL.cG <|bx underlying28 <|aE (fun y=>blk y p 79 (lgC l)∧blk y w.heap.size 100 (grC x)) ⟨cL.cl.drew,X.drew⟩ <|ab (fun y I _=>aw) <|ab (fun y I _=>bq) <|ab (fun y I _=>gB) <|ab (v:=.slice l.ga l.G.length l.gc) (fun y I _=>lK I.1 cL.cG) <|ab (v:=.agg (grC x).toArray) (fun y I _=>ldA (n:=5) (vs:=grC x) underlying100 rfl (by kernel_rfl) I.2 rfl rfl) ?_
 refine oe (vs:=[.agg (grC x).toArray]) underlying28 (s:=5) (by kernel_rfl) (by kernel_rfl) (by omega) rfl (by simp) (by simp) (by simp) (by simp[Value.cells,j4]) fun w3 h3 b3 s3=>?_;have h3:blk w3 w2.drew.heap.size 100 (grC x):=by simpa[Value.cells]using h3
 have cO:=cL.drew.fresh b3;have d4:=af b3 d1.drew d1.drew.lt;have ag:=af b3 X.drew X.drew.lt;have B3:Below B w2 w3:=(Below.refl B w2).drew.trans (b3.mono s2);have k3:Keep CK B w2 w3:=(Keep.of (B:=B) (Below.refl _ w2).drew).trans (Keep.of b3);refine aO ⟨cO.cl,ag⟩ ?_;obtain⟨ii,ea,hz,ed,d7⟩:=info_parts LZ;have d8:B≤w3.heap.size:=Nat.le_trans s2 B3.size
 refine rU (base:=B) (x:=x) underlying28 ea hz ed d7 rfl (by omega) j4 cO.gr h3 (qF _) (by omega) (by omega) d8 fun a4 U w4 ei cV b4 d6=>?_;have k4:Keep CK B w2 w4:=k3.trans (Keep.grown cV cO.gr (by simp) (Nat.le_refl _));have M:blk w4 p 79 (lgC l):=eT cO.cl cO.gr (by decide) cV;have dr:blk w4 eb 54 (evC e):=eT d4 cO.gr (by decide) cV
 have c3:blk w4 w.heap.size 100 (grC x):=by
  unfold Go.Proofs.YtgpfkmdknlcemaaGreatDoor.blk;rw[cV.block _ ag.lt (fun hh=>by have:=hl.gn _ hh.symm;omega)];exact ag
 have d2:∀k,(Value.slice a4 (l.G.length+1) U).ownBlock=some k→k≠w.heap.size:=by
  intro k hk;rcases d6 with hh|hh
  ·rw[hh]at hk;have:=hl.gn k hk;omega
  ·rw[hh]at hk;cases hk;have:=ag.lt;omega
 refine aE (fun _=>True) trivial <|ab (fun y I _=>aw) <|ab (fun y I _=>bq) <|ab (fun y I _=>gB) ?_;refine dY (fun _=>by kernel_rfl) M (by rw[hl.ll];omega) rfl fun w5 cQ o5=>?_;have d5:=dJ ei M (by decide) o5;have dz:blk w5 w.heap.size 100 (grC x):=o5.blk c3 (fun hh=>c3.ne M (by decide) hh);have ee:blk w5 eb 54 (evC e):=o5.blk dr (fun hh=>dr.ne M (by decide) hh)
 have k5:Keep CK B w2 w5:=k4.trans (o5.keep M (by simp) hl.lo);have cQ:blk w5 p 79 ((lgC l).set 19 (.slice a4 (l.G.length+1) U)):=cQ;have u:((lgC l).set 19 (.slice a4 (l.G.length+1) U))[0+0+19]? = some (.slice a4 (l.G.length+1) U):=by rw[List.getElem?_set_self (by rw[hl.ll];omega)]
 refine wC ?_;refine wD (Inv:=fun c9 _ _ _ _ _ _ _ _ _ _ _ _ _ _ _ _ _ _ _ _ _ _ _ _ _ _ _ _ _ _ _ _ _ _ _ _ _ _ _ _ _ _ _ wr=>∃(k:Nat) (G:List GR),c9=.int .i64 (k:Nat)∧k≤l.G.length∧G.length=l.G.length+1∧(∃z,G=fa l.G k z)∧(∀y,l.G[k]? = some y→ltG x y)∧blk wr p 79 ((lgC l).set 19 (.slice a4 (l.G.length+1) U))∧blk wr w.heap.size 100 (grC x)∧blk wr eb 54 (evC e) ∧
   wr.ownsRow B 100 5 (.slice a4 (l.G.length+1) U) (l.G.length+1) (G.flatMap grC)∧Keep CK B w2 wr)
  (μ:=fun c9 _ _ _ _ _ _ _ _ _ _ _ _ _ _ _ _ _ _ _ _ _ _ _ _ _ _ _ _ _ _ _ _ _ _ _ _ _ _ _ _ _ _ _ _=>(intOf c9).toNat) ⟨l.G.length,l.G++[x],rfl,Nat.le_refl _,by simp,⟨x,insA_end.symm⟩,(fun y I=>by rw[List.getElem?_eq_none (Nat.le_refl _)]at I;cases I),cQ,dz,ee,d5,k5⟩ ?_
 rintro _ _ _ _ _ _ _ _ _ _ _ _ _ _ _ _ _ _ _ _ _ _ _ _ _ _ _ _ _ _ _ _ _ _ _ _ _ _ _ _ _ _ _ _ dd w6 mm ⟨k,G,rfl,hk,hG,⟨z,dj⟩,ef,d,j,V,c2,k6⟩ d3;have d:=d.drew;have j:=j.drew;have V:=V.drew;have c2:w6.drew.ownsRow B 100 5 (.slice a4 (l.G.length+1) U) (l.G.length+1) (G.flatMap grC):=c2;have k6:=k6.drew
 have dm:∀{l0 e1 l2 e3 p5 i6 k_7 r8 f9 g10 jE cX cp be b6 b8 a0 ca cn a7 b5 a3 bv ar al aS bb cI a9 bW av ch bt ap am b9 ck ce a6 cj bd cD b0 a2 a8 Z az cc an ad cg bk b7 bi:Value} {zf:Nat→Value},(∀y,0<k→l.G[k-1]? = some y→¬ltG x y)→l0=.pointer (some ⟨p,0,none⟩)→e3=.pointer (some ⟨eb,0,none⟩)→g10=.pointer (some ⟨w.heap.size,0,none⟩)→jE=.int .i64 (k:Nat)→dO K ((aZ l0 e1 l2 e3 p5 i6 k_7 r8 f9 g10 jE cX cp be b6 b8 a0 ca cn a7 b5 a3 bv ar al aS bb cI a9 bW av ch bt ap am b9 ck ce a6 cj bd cD b0 a2 a8 Z az cc an ad cg bk b7 bi zf)) w6.drew:=by
  intro l0 e1 l2 e3 p5 i6 k_7 r8 f9 g10 jE cX cp be b6 b8 a0 ca cn a7 b5 a3 bv ar al aS bb cI a9 bW av ch bt ap am b9 ck ce a6 cj bd cD b0 a2 a8 Z az cc an ad cg bk b7 bi zf eg q1 q2 q3 q4
  exact Oe cL d0 hm k6 s2 ho V j rfl hG (by rw[dj,vr hk,PW ec hk eg ef]) (by omega) d c2 q1 q2 q3 q4 fun w' l' J X h3 h4=>c5 w' l' J X h3 (B2.trans h4)
 refine aa (fun _=>cB) ?_;by_cases C:(0:Int)<(k:Nat)
 ·refine dE C ?_;obtain⟨k,rfl⟩:=Nat.exists_eq_succ_of_ne_zero (show k≠0 by omega);have ek:((k.succ:Nat):Int)-1=(k:Nat):=by omega
  have I:G[k]? = some G[k]:=List.getElem?_eq_getElem (by omega);generalize G[k]=y at I;have dg:l.G[k]? = some y:=by
   have:=Fk (L:=l.G) (z:=z) (show 0<k.succ by omega) hk
   rw[Nat.succ_sub_one]at this;rw[←this, ←dj];exact I
  have dp:G.set k.succ y=fa l.G k y:=by
   have:=BE (L:=l.G) (x:=y) (show 0<k.succ by omega) (by rw[Nat.succ_sub_one];exact dg)
   rw[Nat.succ_sub_one]at this;rw[dj,vr hk,this]
  have c6:¬ltG x y→∀z,0<k.succ→l.G[k.succ-1]? = some z→¬ltG x z:=fun hn z _ hz=>by rw[Nat.succ_sub_one,dg]at hz;cases hz;exact hn
  have c7:ltG x y→∀z,l.G[k]? = some z→ltG x z:=fun hn z hz=>by rw[dg]at hz;cases hz;exact hn
  obtain⟨g,da,rfl,op⟩:=cY c2 (by omega);have c0:da[0+((k:Nat):Int).toNat*5+0]? = some (iv y.o):=by rw[Int.toNat_natCast,Nat.zero_add];exact op.cell j4 hG I (show 0<5 by omega)
  have c1:da[0+((k:Nat):Int).toNat*5+1]? = some (u6 y.q):=by rw[Int.toNat_natCast,Nat.zero_add];exact op.cell j4 hG I (show 1<5 by omega)
  have ej:g≠w.heap.size:=d2 g rfl;have h:Opn w6.drew.drew B 100 5 (l.G.length+1) U g da (G.flatMap grC):=⟨op.blk,op.lo,op.nc,op.cm,op.len,op.take,op.xl⟩
  refine aa (fun _=>aw) <|aa (fun _=>bq) <|aa (fun _=>gB) <|aa (v:=.slice (some ⟨g,0,none⟩) (l.G.length+1) U) (fun _=>lK d u) <|aa (v:=.int .i64 (k:Nat)) (fun K hK=>bg (by omega) (by omega) (by rw[ek];exact hK)) <|aa (v:=.pointer (some ⟨g,0+((k:Nat):Int).toNat*5,none⟩)) (fun _=>eu underlying28 (s:=5) (fun _=>by kernel_rfl) (by omega) (by omega)) <|aa (fun _=>vC) <|aa (v:=iv y.o) (fun _=>lK op.blk c0) <|aa (fun _=>vC) <|aa (v:=iv x.o) (fun _=>lK j rfl) <|aa (fun _=>cB) ?_
  by_cases J:x.o<y.o
  ·refine iZ J <|Gw <|iZ J <|dE C <|aa (fun _=>bR J) <|aa (fun _=>bR C) <|bu <|aa (fun _=>aw) <|aa (fun _=>bq) <|aa (fun _=>gB) <|aa (v:=.slice (some ⟨g,0,none⟩) (l.G.length+1) U) (fun _=>lK d.drew u) <|aa (fun _=>aw) <|aa (fun _=>bq) <|aa (fun _=>gB) <|aa (v:=.slice (some ⟨g,0,none⟩) (l.G.length+1) U) (fun _=>lK d.drew u) <|aa (v:=.int .i64 (k:Nat)) (fun K hK=>bg (by omega) (by omega) (by rw[ek];exact hK)) ?_
   refine aa (v:=.pointer (some ⟨g,0+((k:Nat):Int).toNat*5,none⟩)) (fun _=>eu underlying28 (s:=5) (fun _=>by kernel_rfl) (by omega) (by omega)) <|aa (v:=.agg (grC y).toArray) (fun _=>ldA (n:=5) (vs:=grC y) underlying100 rfl (by kernel_rfl) h.blk (by rw[Int.toNat_natCast,Nat.zero_add];exact h.elem j4 hG I) rfl) <|aa (v:=.pointer (some ⟨g,0+((k.succ:Nat):Int).toNat*5,none⟩)) (fun _=>eu underlying28 (s:=5) (fun _=>by kernel_rfl) (by omega) (by omega)) ?_
   refine h.sto j4 hG (by omega) (by kernel_rfl) (qF _) fun w7 o7 dk=>?_;refine bg (by omega) (by omega) ?_
   exact⟨⟨k,_,congrArg (Value.int .i64) ek,by omega,by rw[List.length_set,hG],⟨y,dp⟩,c7 (.inl J),o7.blk d.drew (fun hh=>d.drew.ne h.blk (by decide) hh),o7.blk j.drew (by omega),o7.blk V.drew (fun hh=>V.drew.ne h.blk (by decide) hh),dk,k6.drew.trans (o7.keep h.blk (by simp) h.lo)⟩,by rw[d3];show (((k.succ:Nat):Int)-1).toNat<((k.succ:Nat):Int).toNat;omega⟩
  ·refine dZ J <|aa (fun _=>aw) <|aa (fun _=>bq) <|aa (fun _=>gB) <|aa (v:=.slice (some ⟨g,0,none⟩) (l.G.length+1) U) (fun _=>lK d u) <|aa (v:=.int .i64 (k:Nat)) (fun K hK=>bg (by omega) (by omega) (by rw[ek];exact hK)) <|aa (v:=.pointer (some ⟨g,0+((k:Nat):Int).toNat*5,none⟩)) (fun _=>eu underlying28 (s:=5) (fun _=>by kernel_rfl) (by omega) (by omega)) <|aa (fun _=>vC) <|aa (v:=iv y.o) (fun _=>lK op.blk c0) <|aa (fun _=>vC) <|aa (v:=iv x.o) (fun _=>lK j rfl) <|aa (fun _=>bm) ?_
   by_cases X:y.o=x.o
   ·refine dE X <|aa (fun _=>aw) <|aa (fun _=>bq) <|aa (fun _=>gB) <|aa (v:=.slice (some ⟨g,0,none⟩) (l.G.length+1) U) (fun _=>lK d u) <|aa (v:=.int .i64 (k:Nat)) (fun K hK=>bg (by omega) (by omega) (by rw[ek];exact hK)) <|aa (v:=.pointer (some ⟨g,0+((k:Nat):Int).toNat*5,none⟩)) (fun _=>eu underlying28 (s:=5) (fun _=>by kernel_rfl) (by omega) (by omega)) <|aa (fun _=>Cm) <|aa (v:=u6 y.q) (fun _=>lK op.blk c1) <|aa (fun _=>Cm) <|aa (v:=u6 x.q) (fun _=>lK j rfl) <|aa (fun _=>cB) <|dZ J <|aa (fun _=>bR X) <|dE C <|aa (fun _=>bE J) ?_
    refine aa (fun _=>bR C) ?_;by_cases h3:x.q<y.q
    ·refine ay h3 <|aa (fun _=>aw) <|aa (fun _=>bq) <|aa (fun _=>gB) <|aa (v:=.slice (some ⟨g,0,none⟩) (l.G.length+1) U) (fun _=>lK d.drew u) <|aa (fun _=>aw) <|aa (fun _=>bq) <|aa (fun _=>gB) <|aa (v:=.slice (some ⟨g,0,none⟩) (l.G.length+1) U) (fun _=>lK d.drew u) <|aa (v:=.int .i64 (k:Nat)) (fun K hK=>bg (by omega) (by omega) (by rw[ek];exact hK)) <|aa (v:=.pointer (some ⟨g,0+((k:Nat):Int).toNat*5,none⟩)) (fun _=>eu underlying28 (s:=5) (fun _=>by kernel_rfl) (by omega) (by omega)) <|aa (v:=.agg (grC y).toArray) (fun _=>ldA (n:=5) (vs:=grC y) underlying100 rfl (by kernel_rfl) h.blk (by rw[Int.toNat_natCast,Nat.zero_add];exact h.elem j4 hG I) rfl) <|aa (v:=.pointer (some ⟨g,0+((k.succ:Nat):Int).toNat*5,none⟩)) (fun _=>eu underlying28 (s:=5) (fun _=>by kernel_rfl) (by omega) (by omega)) ?_
     refine h.sto j4 hG (by omega) (by kernel_rfl) (qF _) fun w7 o7 dk=>?_;refine bg (by omega) (by omega) ?_
     exact⟨⟨k,_,congrArg (Value.int .i64) ek,by omega,by rw[List.length_set,hG],⟨y,dp⟩,c7 (.inr ⟨X.symm,h3⟩),o7.blk d.drew (fun hh=>d.drew.ne h.blk (by decide) hh),o7.blk j.drew (by omega),o7.blk V.drew (fun hh=>V.drew.ne h.blk (by decide) hh),dk,k6.drew.trans (o7.keep h.blk (by simp) h.lo)⟩,by rw[d3];show (((k.succ:Nat):Int)-1).toNat<((k.succ:Nat):Int).toNat;omega⟩
    ·refine au h3 ?_;exact dm (c6 fun hh=>hh.elim J fun hh=>h3 hh.2) rfl rfl rfl  rfl
   ·refine eF X <|dZ J <|aa (fun _=>bE X) <|dE C <|aa (fun _=>bE J) <|aa (fun _=>bR C) <|bw ?_;exact dm (c6 fun hh=>hh.elim J fun hh=>X hh.1.symm) rfl rfl rfl  rfl
 ·have:k=0:=by omega
  subst this;refine eF C <|Gw <|Gw <|Gw <|eF C <|aa (fun _=>bE C) <|bw ?_;exact dm (fun y h0=>absurd h0 (by omega)) rfl rfl rfl  rfl
theorem Qa {e:EV}{m:Nat}(hl:LM w B p l)(j:XI l m)(C:e.k=3)(hm:m≤900)(Z:B≤w.heap.size)(ho:1≤e.o∧e.o≤6)(U : -9223372036854775808≤e.a∧e.a≤9223372036854775807)(h:∀w',eM e (toP l)≠0→Below B w w'→K (.int .i64 (eM e (toP l))) w')(X:∀w' l',eM e (toP l)=0→LM w' B p l'→toP l'=qZ e (toP l)→l'.T=tr l'.s.nodes→Below B w w'→K (.int .i64 0) w'):call Tryz.prog 82 #[.pointer (some ⟨p,0,none⟩),.agg (evC e).toArray] K w:=by
 refine aB (goK func82) (xJ ?_);refine dc fun w1 M b1 s1=>?_;have M:blk w1 w.heap.size 54 (evC e):=by simpa[Value.cells]using M
 have u:=hl.fresh b1;have B1:Below B w w1:=b1.mono Z;have az:B≤w1.heap.size:=Nat.le_trans Z B1.size;have ad:=j.rn;have c2:=j.tl;have J:eM e (toP l)=if jf l.R e.q e.r=true then 14 else if bL l.s.nodes e.n=false then 9 else kz (fun A=>(iu A e.o e.a).2) l.s.nodes (dh l.s.nodes e.n):=by unfold eM;rw[if_neg (by omega),if_neg (by omega),if_pos C];rfl
 have am:df l.T e.n=dh l.s.nodes e.n:=by rw[j.t];rfl
 refine bS <|lK (v:=iv e.o) M rfl <|gS <|lK (v:=u6 e.r) M rfl <|JX u ho (fun k hk=>Nat.le_trans (ad k hk) (by omega)) ?_;cases hb:jf l.R (e.o-1).toNat e.r with
 | true =>
  rw[if_pos (show jf l.R e.q e.r=true from hb)]at J;rw[J]at h;exact bu (h w1 (by decide) B1)
 | false =>
  rw[if_neg (show ¬jf l.R e.q e.r=true from by rw[show jf l.R e.q e.r=false from hb];simp)]at J;refine bw ?_;obtain⟨rk,ap⟩:=j.tk;refine aE (fun y=>blk y p 79 (lgC l)∧blk y w.heap.size 54 (evC e)) ⟨u.cl.drew,M.drew⟩ <|ab (fun y I _=>aw) <|ab (fun y I _=>vg) <|ab (v:=.pointer (some ⟨l.t,0,none⟩)) (fun y I _=>lK I.1 u.cT) <|ab (fun y I _=>eO) <|ab (v:=u6 e.n) (fun y I _=>lK I.2 rfl) ?_
  refine Em ap u.drew.tm (by omega) fun w2 a c hP b2=>?_;rw[am]at hP ⊢;have ag:=u.drew.fresh b2;have ar:=af b2 M.drew M.drew.lt;have B2:Below B w w2:=B1.drew.trans (b2.mono az);refine aE (fun _=>True) trivial <|bx underlying76 <|bm ?_;have c3:(dh l.s.nodes e.n).length≤4∨(dh l.s.nodes e.n).length=0:=by
   cases hh:bL l.s.nodes e.n with
   | true =>
    obtain⟨x,hx,av⟩:=lY hh;rw[←av];exact .inl (j.pi.dep x hx)
   | false=>exact .inr (EU.2 hh)
  by_cases h0:((dh l.s.nodes e.n).length:Int)=0
  ·rw[if_pos (EU.1 (by omega))]at J;rw[J]at h;exact ay h0 (h w2 (by decide) B2)
  rw[if_neg (fun hh=>h0 (by rw[EU.2 hh];rfl))]at J;rw[J]at h;refine au h0 <|Od (P:=dh l.s.nodes e.n) ag j (Nat.le_trans Z B2.size) U ar hP (by omega) (fun y I=>mq I) (JV j.pi.tk) rfl rfl rfl rfl (fun w' hv b=>h w' hv (B2.trans b)) ?_
  intro l0 e1 l2 e3 p5 i6 k_7 r8 f9 g10 jE c1 cO a4 b4 b9 b7 ce cD cI b3 cg bv bk a6 b5 cX cV cQ bW bt cm bi be a8 cc cp cj cG cn a3 a9 b0 ca cL a0 b6 ch bb a2 ck bd b8 a7 zf w3 l3 q0 q3 aS d al an B3;have V:=B2.trans B3
  refine Of (m:=m) aS (by rw[d.G];exact j.pi.gs) (by rw[d.G];exact j.gn) (by rw[d.R];exact j.rn) hm (Nat.le_trans Z V.size) ho U an q0 q3 fun w' l' h1 h2 h3 h4=>X w' l' (J.trans al) h1 ?_ ?_ (V.trans h4)
  ·rw[h2,d.P,d.G,d.R];unfold qZ nop gop mG mH kw;rw[if_neg (by omega),if_neg (by omega),if_pos C,if_pos C,if_neg (by omega),if_neg (by omega),if_pos (.inl C)];rfl
  ·rw[h3,d.tr j.t];exact congrArg (fun s=>tr (PL.N s)) h2.symm
end
end
section
open Go.RowKit
section
variable {w:World}{K:KV}{B p:Nat}{l:LG}
theorem Og {l0 e1 l2 e3 k_5 p6 i7 n8 r9 f10:Value}{zf:Nat→Value}{B1:KE}{i U j:Nat}{x:ND}{A':List Int}{f:Int}(h:LM w B p l)(V:l.s.nodes[i]? = some x)(d:A'.length=54)(J:blk w U 36 (A'.map iv))(hj:j≤1000000)(q0:l0=.pointer (some ⟨p,0,none⟩))(q6:i7=.int .i64 (j:Nat))(q7:n8=.int .i64 (i:Nat))(q8:r9=.pointer (some ⟨U,0,none⟩))(q9:f10=.int .i64 f)(I:∀w',f≠0→Below B w w'→K (.int .i64 f) w')(M:∀(e:List Value) (w':World),f=0→gd e 7=.int .i64 ((j+1:Nat):Int)→LM w' B p (zS l i {x with A:=A'})→Keep wK B w w'→B1 e w'):fk K B1 ((bD l0 e1 l2 e3 k_5 p6 i7 n8 r9 f10 zf)) w:=by
 subst q0 q6 q7 q8 q9;refine wH <|cW ?_;by_cases u:f≠0
 ·exact ay u (I w u (Below.refl _ _))
 refine au u ?_;have h:=h.drew;have J:=J.drew;have hi:i<l.s.nodes.length:=(List.getElem?_eq_some_iff.1 V).1;obtain⟨g,ad,X,R⟩:=cY h.nd (by omega)
 refine aa (fun _=>aw) <|aa (fun _=>bq) <|aa (fun _=>dV) <|aa (v:=.slice l.s.na l.s.nodes.length l.s.nc) (fun _=>lK h.cl h.cN) <|aa (v:=.agg (A'.map iv).toArray) (fun _=>ldA (n:=54) (vs:=A'.map iv) underlying36 rfl (by kernel_rfl) J (by rw[List.drop_zero,List.take_of_length_le (by simp[d])]) (by simp[d])) <|aa (v:=.pointer (some ⟨g,i*56,none⟩)) (fun _=>nK X underlying27 (fun _=>by kernel_rfl) hi) <|aa (fun _=>ob) ?_
 refine Nf h V d R X rfl fun w' C Z=>?_;refine wJ <|aR (by omega) (by omega) ?_;exact M _ _ (by simpa using u) (ivS) C ((Keep.of (B:=B) (Below.refl _ w).drew).trans (Z.keep R.blk (by simp) R.lo))
theorem Oh {l0 e1 l2 e3 k_5 p6 i7 n8 r9 f10:Value}{zf:Nat→Value}{e:EV}{P:List Int}{a:Option Addr}{m c eb Bp:Nat}(hl:LM w B p l)(hg:XI l m)(hB:B≤w.heap.size){k5:Nat}{gx:GR}(a8:l.G[k5]? = some gx)(ha : -9223372036854775808≤gx.a∧gx.a≤9223372036854775807)(he:blk w eb 54 (evC e))(hP:w.ownsRow Bp 24 1 (.slice a P.length c) P.length (P.map u6))(b7:P.length≤100000)(a9:∀y∈P,bL l.s.nodes y=true)(bt:P.Nodup)(q0:l0=.pointer (some ⟨p,0,none⟩))(q3:e3=.pointer (some ⟨eb,0,none⟩))(qk:k_5=.int .i64 (k5:Nat))(q5:p6=.slice a P.length c)(q6:i7=.int .i64 0)(an:∀w',kz (fun A=>(iw A e.o gx.a).2) l.s.nodes P≠0→Below B w w'→K (.int .i64 (kz (fun A=>(iw A e.o gx.a).2) l.s.nodes P)) w')(a3:∀{l0 e1 l2 e3 k_5 p6 i7 n8 r9 f10:Value} {zf:Nat→Value} {w':World} {l':LG},l0=.pointer (some ⟨p,0,none⟩)→e3=.pointer (some ⟨eb,0,none⟩)→k_5=.int .i64 (k5:Nat)→LM w' B p l'→BL l l' P (12+e.q) gx.a→kz (fun A=>(iw A e.o gx.a).2) l.s.nodes P=0→blk w' eb 54 (evC e)→Below B w w'→bU K ((bD l0 e1 l2 e3 k_5 p6 i7 n8 r9 f10 zf)) w'):jC K ((bD l0 e1 l2 e3 k_5 p6 i7 n8 r9 f10 zf)) w:=by
 subst q0 q3 qk q5 q6
 refine wG (Inv:=fun i wr=>∃(k:Nat) (l':LG),i=.int .i64 (k:Nat)∧k≤P.length∧LM wr B p l'∧BL l l' (P.take k) (12+e.q) gx.a∧kz (fun A=>(iw A e.o gx.a).2) l.s.nodes P=kz (fun A=>(iw A e.o gx.a).2) l.s.nodes (P.drop k)∧blk wr eb 54 (evC e)∧wr.ownsRow Bp 24 1 (.slice a P.length c) P.length (P.map u6)∧Below B w wr) (μ:=fun i _=>P.length-(intOf i).toNat) ⟨0,l,rfl,by omega,hl,BL.refl l,rfl,he,hP,Below.refl _ _⟩ ?_
 rintro _ dd w1 mm ⟨k,l',rfl,hk,V,C,al,ap,Z,B1⟩ b5;refine bx underlying76 <|aV ?_;by_cases b0:k<P.length
 ·refine ay (by omega) ?_;have hy:P[k]? = some P[k]:=List.getElem?_eq_getElem b0;generalize P[k]=y at hy;obtain⟨g,bd,rfl,op⟩:=cY Z (by omega);refine eu underlying76 (s:=1) (fun _=>by kernel_rfl) (by omega) (by omega) ?_;refine lK (v:=u6 y) op.blk (by
   have h0:(P.map u6)=P.flatMap uC:=(Ed P).symm;have b6:Opn w1 Bp 24 1 P.length c g bd (P.flatMap uC):=h0 ▸ op
   have:=b6.cell (enc:=uC) (s:=1) (j:=0) (fun _=>rfl) rfl hy (by omega)
   rw[Int.toNat_natCast,Nat.zero_add];exact this) ?_
  have b8:=hg.n30;refine DW V (by rw[C.len];omega) ?_;obtain⟨x,hx,ad,a2⟩:=DU (N:=l'.s.nodes) (id:=y) (by rw[C.has];exact a9 y (List.mem_of_getElem? hy));have a6:fdN l'.s.nodes y=(posN l'.s.nodes y:Nat):=by unfold fdN;rw[if_pos ad]
  rw[a6];generalize posN l'.s.nodes y=i at hx ad;obtain⟨b9,ar,I⟩:=C.next hg.pi.srt bt hy hx a2 (f:=(fun A=>(iw A e.o gx.a).2))
  have I:=al.trans I;have h:=V.drew;have J:=ap.drew;have M:x.A.length=54:=V.A54 x (List.mem_of_getElem? hx);obtain⟨gn,cn,bv,R⟩:=cY h.nd (by omega);have X:l'.G[k5]? = some gx:=by rw[C.G];exact a8
  have bb:k5<l'.G.length:=(List.getElem?_eq_some_iff.1 X).1;obtain⟨gg,cg,bi,U⟩:=cY h.gr (by omega);have be:cg[k5*5+3]? = some (iv gx.a):=U.cell j4 rfl X (show 3<5 by omega);have aS:(cn.drop (i*56+2)).take 54=x.A.map iv:=by
   have:=R.elem eZ rfl hx
   rw[show i*56+2=i*56+2 from rfl, ←List.drop_drop];have h3:((cn.drop (i*56)).take 56).drop 2=((cn.drop (i*56)).drop 2).take 54:=by rw[List.drop_take]
   rw[←h3,this];unfold ndE;rw[Ay M];rfl
  refine aE (fun z=>blk z p 79 (lgC l')∧blk z gn 38 cn∧blk z eb 54 (evC e)∧blk z gg 100 cg) ⟨h.cl,R.blk,J,U.blk⟩ <|ab (fun z d _=>aw) <|ab (fun z d _=>bq) <|ab (fun z d _=>dV) <|ab (v:=.slice l'.s.na l'.s.nodes.length l'.s.nc) (fun z d _=>lK d.1 h.cN) <|ab (v:=.pointer (some ⟨gn,i*56,none⟩)) (fun z d _=>nK bv underlying27 (fun _=>by kernel_rfl) ad) <|ab (fun z d _=>ob) <|ab (v:=.agg (x.A.map iv).toArray) (fun z d _=>ldA (n:=54) (vs:=x.A.map iv) underlying36 rfl (by kernel_rfl) d.2.1 aS (by simp[M])) <|ab (fun z d _=>bS) <|ab (v:=iv e.o) (fun z d _=>lK d.2.2.1 rfl) <|ab (fun z d _=>aw) <|ab (fun z d _=>bq) <|ab (fun z d _=>gB) <|ab (v:=.slice l'.ga l'.G.length l'.gc) (fun z d _=>lK d.1 h.cG) <|ab (v:=.pointer (some ⟨gg,k5*5,none⟩)) (fun z d _=>nK bi underlying28 (fun _=>by kernel_rfl) bb) <|ab (fun z d _=>Lm) ?_
  refine ab (v:=iv gx.a) (fun z d _=>lK d.2.2.2 be) ?_;have s1:B≤w1.drew.heap.size:=Nat.le_trans hB B1.size;have ag:((iw x.A e.o gx.a).1).length=54:=NT M;have a4:=KG (A:=x.A) (o:=e.o) (a:=gx.a);have a0:w1.drew.ownsRow Bp 24 1 (.slice (some ⟨g,0,none⟩) P.length c) P.length (P.map u6):=di Z fun _ _=>rfl
  have am:∀{l0 e1 l2 e3 k_5 p6 i7 n8 r9 f10:Value} {zf:Nat→Value} {w3:World} {rb:Nat},l0=.pointer (some ⟨p,0,none⟩)→i7=.int .i64 (k:Nat)→n8=.int .i64 (i:Nat)→r9=.pointer (some ⟨rb,0,none⟩)→f10=.int .i64 (iw x.A e.o gx.a).2→blk w3 rb 36 ((iw x.A e.o gx.a).1.map iv)→Below w1.drew.heap.size w1.drew w3 →
    fk K (fun e2 w2=>(∃(k:Nat) (l':LG),gd e2 7=.int .i64 (k:Nat)∧k≤P.length∧LM w2 B p l'∧BL l l' (P.take k) (12+e.q) gx.a∧kz (fun A=>(iw A e.o gx.a).2) l.s.nodes P=kz (fun A=>(iw A e.o gx.a).2) l.s.nodes (P.drop k)∧blk w2 eb 54 (evC e)∧w2.ownsRow Bp 24 1 (.slice (some ⟨g,0,none⟩) P.length c) P.length (P.map u6)∧Below B w w2)∧P.length-(intOf (gd e2 7)).toNat<mm) ((bD l0 e1 l2 e3 k_5 p6 i7 n8 r9 f10 zf)) w3:=by
   intro l0 e1 l2 e3 k_5 p6 i7 n8 r9 f10 zf w3 rb q0 q6 q7 q8 q9 bW u;have B3:Below B w w3:=B1.drew.trans (u.mono s1);have bk:=h.fresh u;refine Og bk hx ag bW (by omega) q0 q6 q7 q8 q9 (fun w' hv b=>by
    rw[if_pos hv]at I;rw[I]at an;exact an w' hv (B3.trans b)) fun e2 w' hf az a7 k4=>?_
   rw[if_neg (by simpa using hf)]at I;have s3:B≤w3.heap.size:=Nat.le_trans s1 u.size;refine⟨⟨k+1,_,az,by omega,a7,ar (by rw[a4 hf];rfl),I,k4.blk (af u J J.lt) (.inr (by decide)),dW (di a0 fun q hq=>u.block q (World.ownsRow.lt a0 q hq).2) k4 (by decide),B3.trans (k4.below s3)⟩,?_⟩;rw[az,b5];show P.length-(((k+1:Nat):Int)).toNat<P.length-(k:Int).toNat;omega
  refine⟨?_,?_⟩
  ·refine KX M ha fun w3 u=>?_;refine aE (fun _=>True) trivial <|ab (fun z d _=>eB) <|ab (fun z d _=>eC) ?_;refine dH (z:=.agg (z54.map iv).toArray) (by kernel_rfl) fun w4 h4 b4 s4=>?_;have h4:blk w4 w3.heap.size 36 (z54.map iv):=by simpa[Value.cells]using h4
   refine aO trivial ?_;refine iz (n:=54) (vs:=(iw x.A e.o gx.a).1.map iv) (by kernel_rfl) (by simp[ag]) h4 (by show 0+54≤54;omega) (uB _) fun w5 h5 o5=>?_;refine aO trivial ?_;refine am rfl rfl rfl rfl rfl (by
    rw[List.take_zero,List.nil_append,List.drop_of_length_le (by show 54≤0+54;omega),List.append_nil]at h5;exact h5) (u.trans (bA (b4.mono u.size) o5 u.size))
  ·refine dH (z:=.agg (z54.map iv).toArray) (by kernel_rfl) fun w3 h3 u s3=>?_;have h3:blk w3 w1.drew.heap.size 36 (z54.map iv):=by simpa[Value.cells]using h3
   refine aO ⟨af u h.cl h.cl.lt,af u R.blk R.blk.lt,af u J J.lt,af u U.blk U.blk.lt⟩ ?_;refine KX M ha fun w4 b4=>?_;have h4:=af b4 h3 h3.lt;refine aE (fun _=>True) trivial <|ab (fun z d _=>eB) <|ab (fun z d _=>eC) ?_;refine iz (n:=54) (vs:=(iw x.A e.o gx.a).1.map iv) (by kernel_rfl) (by simp[ag]) h4 (by show 0+54≤54;omega) (uB _) fun w5 h5 o5=>?_;refine aO trivial ?_
   refine am rfl rfl rfl rfl rfl (by
    rw[List.take_zero,List.nil_append,List.drop_of_length_le (by show 54≤0+54;omega),List.append_nil]at h5;exact h5) (bA (u.trans (b4.mono u.size)) o5 (Nat.le_refl _))
 ·refine au (by omega) ?_;have av:k=P.length:=by omega
  rw[av,List.take_length]at C;rw[av,List.drop_length]at al;exact a3 rfl rfl rfl V C al ap B1
theorem Oi {l0 e1 l2 e3 k_5 p6 i7 n8 r9 f10:Value}{zf:Nat→Value}{e:EV}{m eb k5:Nat}{gx:GR}(Z:LM w B p l)(az:l.G.Pairwise ltG)(al:∀k,k<6→(l.R.getD k []).length≤m)(hm:m≤900)(hB:B≤w.heap.size)(ho:1≤e.o∧e.o≤6)(X:l.G[k5]? = some gx)(he:blk w eb 54 (evC e))(q0:l0=.pointer (some ⟨p,0,none⟩))(q3:e3=.pointer (some ⟨eb,0,none⟩))(qk:k_5=.int .i64 (k5:Nat))(ap:∀w' l',LM w' B p l'→toP l'={toP l with G:=l.G.map (mF gx.o gx.q e.r),R:=l.R.set (e.o-1).toNat (l.R.getD (e.o-1).toNat []++[e.r])}→l'.T=l.T→Below B w w'→K (.int .i64 0) w'):bU K ((bD l0 e1 l2 e3 k_5 p6 i7 n8 r9 f10 zf)) w:=by
 subst q0 q3 qk;refine wI ?_;have Z:=Z.drew;have he:=he.drew;have a3:k5<l.G.length:=(List.getElem?_eq_some_iff.1 X).1;obtain⟨g,a8,ha,op⟩:=cY Z.gr (by omega)
 refine aa (fun _=>aw) <|aa (fun _=>bq) <|aa (fun _=>gB) <|aa (v:=.slice l.ga l.G.length l.gc) (fun _=>lK Z.cl Z.cG) <|aa (fun _=>gS) <|aa (v:=u6 e.r) (fun _=>lK he rfl) <|aa (v:=.pointer (some ⟨g,k5*5,none⟩)) (fun _=>nK ha underlying28 (fun _=>by kernel_rfl) a3) <|aa (fun _=>Gc) ?_;refine V4 Z X op ha rfl fun w2 ag o2=>?_
 have k2:Keep CK B w w2:=(Keep.of (B:=B) (Below.refl _ w).drew).trans (o2.keep op.blk (by simp) op.lo);have B2:Below B w w2:=k2.below hB;have u:blk w2 eb 54 (evC e):=o2.blk he (fun hh=>he.ne op.blk (by decide) hh);generalize C:RH l k5 {gx with b:=e.r} = l2 at ag;have r1:l2.T=l.T:=by rw[←C];rfl
 have r2:l2.R=l.R:=by rw[←C];rfl
 have r5:toP l2={toP l with G:=l.G.map (mF gx.o gx.q e.r)}:=by rw[←C, ←PX az X];rfl
 obtain⟨j,hj⟩:∃j:Nat,j=(e.o-1).toNat:=⟨_,rfl⟩
 have I:j<6:=by omega
 have M:=ag.drew;obtain⟨qa,qc,hq,am⟩:=M.rq j I;have a7:(lgC l2)[0+21+j]? = some (.slice qa (l2.R.getD j []).length qc):=by rw[Nat.zero_add];exact M.cQ.trans hq
 have ar:=al j I;rw[←r2]at ar
 refine aE (fun z=>blk z p 79 (lgC l2)∧blk z eb 54 (evC e)) ⟨M.cl,u.drew⟩ <|ab (fun z d _=>bS) <|ab (v:=iv e.o) (fun z d _=>lK d.2 rfl) <|ab (v:=.int .i64 ((j:Nat):Int)) (fun z d K hK=>bg (by omega) (by omega) (by rw[show (e.o-1)=(j:Nat)by omega];exact hK)) <|ab (fun z d _=>bS) <|ab (v:=iv e.o) (fun z d _=>lK d.2 rfl) <|ab (v:=.int .i64 ((j:Nat):Int)) (fun z d K hK=>bg (by omega) (by omega) (by rw[show (e.o-1)=(j:Nat)by omega];exact hK)) <|ab (fun z d _=>aw) <|ab (fun z d _=>pP) <|ab (fun z d _=>ixQ rfl I) <|ab (v:=.slice qa (l2.R.getD j []).length qc) (fun z d _=>lK d.1 a7) <|ab (fun z d _=>gS) <|ab (v:=u6 e.r) (fun z d _=>lK d.2 rfl) <|ab (fun z d _=>aw) <|ab (fun z d _=>pP) ?_
 refine oe (vs:=[u6 e.r]) underlying76 (s:=1) (by kernel_rfl) (by kernel_rfl) (by omega) rfl (by simp) (by simp) (by simp) (by simp[Value.cells,u6]) fun w4 h4 b4 s4=>?_;have h4:blk w4 w2.drew.heap.size 24 (uC e.r):=by simpa[Value.cells,u6,uC]using h4
 have J:=M.fresh b4;have B4:Below B w w4:=B2.drew.trans (b4.mono (Nat.le_trans hB B2.size));refine aO ⟨J.cl,af b4 u.drew u.drew.lt⟩ ?_;have h:=di am fun b hb=>b4.block b (World.ownsRow.lt am b hb).2;obtain⟨ii,av,d,aS,a4⟩:=info_parts Ab
 refine rU (base:=B) (enc:=uC) (x:=e.r) underlying76 av d aS a4 rfl (by omega) (fun _=>rfl) h h4 (K7 _) (by omega) (by omega) (Nat.le_trans hB B4.size) fun a5 c5 w5 a2 ad b5 an=>?_;have U:=eT J.cl h (by decide) ad;have a0:blk w5 eb 54 (evC e):=eT (af b4 u.drew u.drew.lt) h (by decide) ad;refine aO ⟨U,a0⟩ <|ab (fun z d _=>ixQ rfl I) ?_
 refine dY (fun _=>by kernel_rfl) U (by rw[J.ll];omega) rfl fun w6 V o6=>?_;rw[show 0+21+j=21+j by omega]at V;have a6:=J.req' I hq ad a2 an V o6;refine ap w6 _ a6 ?_ r1 (B4.trans (bA b5 o6 Z.lo));have e6:∀(q:List Value) (R:List (List Int)),toP {l2 with q:=q,R:=R} = {toP l2 with R:=R}:=fun _ _=>rfl;rw[e6,r5,r2,hj]
theorem Qb {e:EV}{m:Nat}(hl:LM w B p l)(I:XI l m)(V:e.k=4)(hm:m≤900)(hB:B≤w.heap.size)(ho:1≤e.o∧e.o≤6)(h:∀w',eM e (toP l)≠0→Below B w w'→K (.int .i64 (eM e (toP l))) w')(am:∀w' l',eM e (toP l)=0→LM w' B p l'→toP l'=qZ e (toP l)→l'.T=tr l'.s.nodes→Below B w w'→K (.int .i64 0) w'):call Tryz.prog 83 #[.pointer (some ⟨p,0,none⟩),.agg (evC e).toArray] K w:=by
 refine aB (goK func83) (xK ?_);refine dc fun w1 X b1 s1=>?_;have X:blk w1 w.heap.size 54 (evC e):=by simpa[Value.cells]using X
 have d:=hl.fresh b1;have B1:Below B w w1:=b1.mono hB;have bb:B≤w1.heap.size:=Nat.le_trans hB B1.size;have an:=I.rn;have b3:=I.tl
 have C:eM e (toP l)=if jf l.R e.q e.r=true then 14 else match iA l.G e.o e.f with|none=>12|some g=>if g.b≠0 then 12 else kz (fun A=>(iw A e.o g.a).2) l.s.nodes (dh l.s.nodes g.n):=by unfold eM;rw[if_neg (by omega),if_neg (by omega),if_neg (by omega),if_pos V];rfl
 have b0:=I.gn;refine bS <|lK (v:=iv e.o) X rfl <|gS <|lK (v:=u6 e.r) X rfl <|JX d ho (fun k hk=>Nat.le_trans (an k hk) (by omega)) ?_;cases hb:jf l.R (e.o-1).toNat e.r with
 | true =>
  rw[if_pos (show jf l.R e.q e.r=true from hb)]at C;rw[C]at h;exact bu (h w1 (by decide) B1)
 | false =>
  rw[if_neg (show ¬jf l.R e.q e.r=true from by rw[show jf l.R e.q e.r=false from hb];simp)]at C;refine bw <|bS <|lK (v:=iv e.o) X rfl <|po <|lK (v:=u6 e.f) X rfl ?_;refine PY d (by omega) (fun be=>?_) fun k5 gx J u=>?_
  ·rw[be]at C;replace C:eM e (toP l)=12:=C;rw[C]at h;refine aV <|iZ (by omega) <|bR (by omega) <|bu ?_;exact h w1 (by decide) B1
  rw[u]at C;refine aV ?_;have ad : ¬((k5:Nat):Int)<0:=by omega
  refine dZ ad ?_;have a7:k5<l.G.length:=(List.getElem?_eq_some_iff.1 J).1;refine aw <|bq <|gB <|lK (v:=.slice l.ga l.G.length l.gc) d.cl d.cG ?_;refine rd3 (enc:=grC) (s:=5) (f':=4) (v:=u6 gx.b) underlying28 (fun _=>by kernel_rfl) j4 (fun _=>by kernel_rfl) (by kernel_rfl) (by omega) d.gr rfl J rfl fun _ _=>?_;refine cW <|bE ad ?_;by_cases U:gx.b≠0
  ·simp only[if_pos U]at C;rw[C]at h;exact ay U (h w1 (by decide) B1)
  simp only[if_neg U]at C;rw[C]at h;obtain⟨bk,bi,a2⟩:=pW u;obtain⟨bt,bW,a6,_⟩:=I.pi.gk gx bk;have av:df l.T gx.n=dh l.s.nodes gx.n:=by rw[I.t];rfl
  have ag:bL l.s.nodes gx.n=true:=bt;refine au U ?_;obtain⟨rk,a0⟩:=I.tk;obtain⟨gg,cg,a9,Z⟩:=cY d.drew.gr (by omega);have a8:cg[k5*5+2]? = some (u6 gx.n):=Z.cell j4 rfl J (show 2<5 by omega)
  refine aE (fun y=>blk y p 79 (lgC l)∧blk y gg 100 cg) ⟨d.cl.drew,Z.blk⟩ <|ab (fun y M _=>aw) <|ab (fun y M _=>vg) <|ab (v:=.pointer (some ⟨l.t,0,none⟩)) (fun y M _=>lK M.1 d.cT) <|ab (fun y M _=>aw) <|ab (fun y M _=>bq) <|ab (fun y M _=>gB) <|ab (v:=.slice l.ga l.G.length l.gc) (fun y M _=>lK M.1 d.cG) <|ab (v:=.pointer (some ⟨gg,k5*5,none⟩)) (fun z hz _=>nK a9 underlying28 (fun _=>by kernel_rfl) a7) <|ab (fun z hz _=>Ll) <|ab (v:=u6 gx.n) (fun z hz _=>lK hz.2 a8) ?_
  refine Em a0 d.drew.tm (by omega) fun w2 a c hP b2=>?_;rw[av]at hP ⊢;have ap:=d.drew.fresh b2;have a3:=af b2 X.drew X.drew.lt;have B2:Below B w w2:=B1.drew.trans (b2.mono bb);refine aE (fun _=>True) trivial <|wF ?_;have b4:(dh l.s.nodes gx.n).length≤4:=by
   obtain⟨x,hx,a4⟩:=lY ag;rw[←a4];exact I.pi.dep x hx
  have bv:gx.a≤1125899906842624:=a6;refine Oh (P:=dh l.s.nodes gx.n) ap I (Nat.le_trans hB B2.size) J (by omega) a3 hP (by omega) (fun y M=>mq M) (JV I.pi.tk) rfl rfl rfl rfl rfl (fun w' hv b=>h w' hv (B2.trans b)) ?_;intro l0 e1 l2 e3 k_5 p6 i7 n8 r9 f10 zf w3 l3 q0 q3 qk bd j ar aS B3;have al:=B2.trans B3
  refine Oi (m:=m) bd (by rw[j.G];exact I.pi.gs) (by rw[j.R];exact I.rn) hm (Nat.le_trans hB al.size) ho (by rw[j.G];exact J) aS q0 q3 qk fun w' l' h1 h2 h3 h4=>am w' l' (C.trans ar) h1 ?_ ?_ (al.trans h4)
  ·have az:gOf (toP l) e=gx:=by unfold gOf;rw[show iA (toP l).G e.o e.f=some gx from u];rfl
   rw[h2,j.P,j.G,j.R,bi,a2];unfold qZ nop gop mG mH kw;rw[az,if_neg (by omega),if_neg (by omega),if_neg (by omega),if_pos V,if_neg (by omega),if_pos V,if_neg (by omega),if_neg (by omega),if_pos (.inr V)];rfl
  ·rw[h3,j.tr I.t];exact congrArg (fun s=>tr (PL.N s)) h2.symm
end
end
end
end Go.Proofs.YtgpfkmdknlcemaaGreatDoor
