import Derived.Test.YtkbhfjljieopoaaGreatDoorQ10
import Derived.Test.YtkbhfjljieopoaaGreatDoorQ5
import Derived.Test.YtkbhfjljieopoaaGreatDoorQ6
namespace Go.Proofs.YtkbhfjljieopoaaGreatDoor
set_option maxRecDepth 100000
set_option maxHeartbeats 4000000
open Go.Proofs.Tryz
variable {w w' w0:World}{K:KV}{zf dd:Nat→Value}{b n c o k B i g p j m s z f d D gc c2 hi:Nat}{x r Y0 Z1:Int}{a av:Option Addr}{cs ys:List Value}{E t e:TypeId}{xs v:List Int}{α:Type}{T:List (Int×Int)}{F:List Nat}{cx cy:Bool}{Y5 Z5 K6 W6 X6:Value}
section
attribute [local irreducible] bin un conv call bY blt slc aT fld aV idx lkp dO gY eSt rng nxt ent ext alc box bld bT ld sto aU dE mkS ifc pick rdy wts aI sti cond bp Gives ae fh fT cOp
open Go.RowKit Go.ChangeMaps
theorem UB {l k:List Int}(u:l.Perm k)(h:l.Pairwise (· < ·))(j:k.Pairwise (· < ·)):l=k :=
 List.Perm.eq_of_pairwise (le:=(· < ·)) (fun a b _ _ h j=>by omega) h j u
theorem CK (t:STA):saC t=(t.I.map .bool++t.L.map .bool++t.V.map (.int .u64))++[.slice t.na t.nodes.length t.nc,t.gv]:=rfl
theorem Ub {t:STA}(h:t.I.length=6)(j:t.L.length=6)(u:t.V.length=6){N:List ND}(C:N.length=n):(saC t).set 18 (.slice a n c)=saC {t with nodes:=N,na:=a,nc:=c}:=by
 subst C;rw[CK,show (18:Nat)=18+0 by omega,rB (n:=18) (by simp[h,j,u])];rfl
theorem Uc {t:STA}(h:t.I.length=6)(j:t.L.length=6)(u:t.V.length=6){v:Value}:(saC t).set 19 v=saC {t with gv:=v}:=by
 rw[CK,show (19:Nat)=18+1 by omega,rB (n:=18) (by simp[h,j,u])];rfl
theorem JV {t:STA}(h:t.I.length=6)(j:t.L.length=6)(u:t.V.length=6):(saC t)[18]? = some (.slice t.na t.nodes.length t.nc):=by
 rw[CK,show (18:Nat)=18+0 by omega,iP (n:=18) (by simp[h,j,u])];rfl
theorem Oc {t:STA}(h:t.I.length=6)(j:t.L.length=6)(u:t.V.length=6):(saC t)[19]? = some t.gv:=by
 rw[CK,show (19:Nat)=18+1 by omega,iP (n:=18) (by simp[h,j,u])];rfl
theorem rA {t:STA}(h:t.I.length=6)(j:t.L.length=6)(u:t.V.length=6):(saC t).length=20:=by simp[saC,h,j,u]
theorem NR.own {L:List ND}(h:w.ownsRow B 52 56 (.slice a n c) n (L.flatMap ndE))(M:L.length=n)(hA:∀x∈L,x.A.length=54):NR w a n c L:=by
 refine⟨M,?_,?_,hA,?_⟩
 ·rcases h.2 with⟨h1,h2⟩|⟨g,cap,C,hv,_,_,hn,_⟩
  ·omega
  ·simp only[Value.slice.injEq]at hv;omega
 ·intro h0;obtain⟨g,C,I,_⟩:=cq h h0;exact⟨g,0,I⟩
 ·intro i x U b o I j u O;have hi:i<n:=by rw[←M];exact(List.getElem?_eq_some_iff.1 U).1
  obtain⟨g,C,J,op⟩:=cq h (by omega);rw[J]at I;cases I;rw[←Cx (hA x (List.mem_of_getElem? U))]at O;have hj:j<56:=by rw[←fC x];exact(List.getElem?_eq_some_iff.1 O).1
  rw[op.blk.cell,Nat.zero_add,op.cell fC M U hj];exact O
structure SO (w:World) (B:Nat) (s:PL) (t:STA) (ga:Option Addr) (gc:Nat):Prop where
 eI:t.I=s.I
 eL:t.L=s.L
 eV:t.V=s.V
 eN:t.nodes=s.N
 gv:t.gv=.slice ga s.G.length gc
 nd:w.ownsRow B 52 56 (.slice t.na s.N.length t.nc) s.N.length (s.N.flatMap ndE)
 gr:w.ownsRow B 126 5 (.slice ga s.G.length gc) s.G.length (s.G.flatMap grC)
theorem SO.sk {s:PL}{t:STA}(h:SO w B s t a gc)(hi:PI s):SK w t:=by
 have aa:=hi.len30;obtain⟨I,L,V,j,na,nc,gv⟩:=t;obtain⟨u,C,J,M,O,U,h2⟩:=h;simp only at u C J M O U;subst u C J M O;exact⟨hi.i6,hi.l6,hi.v6,NR.own U rfl hi.A54,by show s.N.length≤_;omega,rfl⟩
theorem PA :(Tryz.prog.info? 52).map (fun i=>(i.zero,i.size,i.bytes))=some (some (.agg (ndE ⟨0,0,[]⟩).toArray),56,448):=by kernel_rfl
theorem QL {x:ND}(h:x.A.length=54):Tryz.prog.built 52 [(0,u6 x.id),(1,u6 x.par),(2,rgV x.A)]=some (ndE x).toArray:=by
 unfold rgV;rw[←Cy h]
 kernel_rfl
theorem Ph {I L:List Bool}{V:List Int}(h:I.length=6)(j:L.length=6)(u:V.length=6):Tryz.prog.built 45 [(0,.agg (I.map .bool).toArray),(1,.agg (L.map .bool).toArray),(2,.agg (vCs V).toArray)]=some (saC ⟨I,L,V,[],none,0,.slice none 0 0⟩).toArray:=by
 obtain⟨_,_,_,_,_,_,rfl⟩:=rU h;obtain⟨_,_,_,_,_,_,rfl⟩:=rU j;obtain⟨_,_,_,_,_,_,rfl⟩:=rU u
 kernel_rfl
theorem Od {t:STA}(j:t.gv.oneCell'=true):∀v∈saC t,v.oneCell'=true:=by
 intro v h;unfold saC at h;simp only[List.mem_append,List.mem_map,List.mem_cons,List.not_mem_nil,or_false]at h;rcases h with((⟨_,_,rfl⟩|⟨_,_,rfl⟩)|⟨_,_,rfl⟩)|(rfl|rfl)
 ·rfl
 ·rfl
 ·rfl
 ·rfl
 ·exact j
section
variable {w:World}{K:KV}{q:LB}{s:PL}
theorem PM.ldI (h:PM w q s)(j:K (.agg (s.I.map .bool).toArray) w):ld Tryz.prog 41 (.pointer (some ⟨q.p,0+0,none⟩)) K w:=by
 refine ldA (n:=6) (vs:=s.I.map .bool) underlying41 rfl (by kernel_rfl) h.b ?_ (by simp[h.i6]) j;unfold plC;rw[Nat.zero_add,List.drop_zero,List.take_append_of_le_length (by simp[h.i6]),List.take_of_length_le (by simp[h.i6])]
theorem PM.ldL (h:PM w q s)(j:K (.agg (s.L.map .bool).toArray) w):ld Tryz.prog 41 (.pointer (some ⟨q.p,0+6,none⟩)) K w:=by
 refine ldA (n:=6) (vs:=s.L.map .bool) underlying41 rfl (by kernel_rfl) h.b ?_ (by simp[h.l6]) j;unfold plC;rw[Nat.zero_add,show (6:Nat)=(s.I.map Value.bool).length by simp[h.i6],List.drop_left',List.take_append_of_le_length (by simp[h.i6,h.l6]),List.take_of_length_le (by simp[h.i6,h.l6])];rfl
theorem Sf (h:PM w q s)(hi:PI s)(hP:∀{l0 l1 s2 be bg bi bk:Value} {zf:Nat→Value} (w':World) M O,l0=pB q.p→s2=pB w.heap.size→blk w' w.heap.size 45 (saC ⟨s.I,s.L,s.V,s.N,M,O,.slice none 0 0⟩)→w'.ownsRow (w.heap.size+1) 52 56 (.slice M s.N.length O) s.N.length (s.N.flatMap ndE)→Below w.heap.size w w'→fF K ((fY l0 l1 s2 be bg bi bk zf)) w'):call Tryz.prog 25 #[pB q.p] K w:=by
 have bW:=h.lt;have bn:=hi.len30;refine aj (goK func25) (BR ?_);refine dZ (z:=.agg (saC ⟨List.replicate 6 false,List.replicate 6 false,List.replicate 6 0,[],none,0,.slice none 0 0⟩).toArray) (by kernel_rfl) fun w1 z1 b1 s1=>Ck (aO ?_);have z1:blk w1 w.heap.size 45 (saC ⟨List.replicate 6 false,List.replicate 6 false,List.replicate 6 0,[],none,0,.slice none 0 0⟩):=by simpa[Value.cells]using z1
 have p1:=(h.below b1).drew;have z1:=z1.drew;have b1:=b1.drew;refine aH (fun _=>ai) (aH (fun _=>zO) (aH (fun _=>p1.ldI) ?_));refine aH (fun _=>ai) (aH (fun _=>GQ) (aH (fun _=>p1.ldL) ?_));refine aH (fun _=>ai) (aH (fun _=>wD) (aH (fun _=>p1.ldV) ?_));refine aH (fun _=>eT (vs:=saC ⟨s.I,s.L,s.V,[],none,0,.slice none 0 0⟩) (Ph hi.i6 hi.l6 hi.v6)) ?_
 refine jP (n:=20) (by kernel_rfl) (rA hi.i6 hi.l6 hi.v6) z1 (by simp[saC]) (Od rfl) fun w2 z2 o2=>?_;have z2:blk w2 w.heap.size 45 (saC ⟨s.I,s.L,s.V,[],none,0,.slice none 0 0⟩):=by
  rw[List.take_zero,List.nil_append,List.drop_of_length_le (by simp[saC]),List.append_nil]at z2;exact z2
 have b2:=bG b1 o2 (Nat.le_refl _);have p2:=h.below b2;refine ai (wF (lK (v:=pB q.t) p2.b (by rw[Nat.zero_add];exact p2.c18) ?_));refine NV p2.tm (by rw[Ac];omega) fun w3 a c ids af a9 a4 b3=>bj underlying120 ?_;have ad:ids=s.N.map (·.id):=by
  refine UB ?_ a9 ?_
  ·have e:(tr s.N).map (·.1)=s.N.map (·.id):=by unfold tr;rw[List.map_map];rfl
   rw[←e];exact af
  ·exact List.pairwise_map.2 hi.srt
 have bs:ids.length=s.N.length:=by rw[ad,List.length_map]
 have z3:=ac b3 z2 z2.lt;have ag:=b2.trans (b3.mono b2.size);have b0:=z3.lt;obtain⟨ii,a3,hz,av,a2⟩:=info_parts PA
 refine Af (Inv:=fun i wr=>∃(k:Nat) (M:Option Addr) (O:Nat),i=iv (k:Nat)∧k≤ids.length∧blk wr w.heap.size 45 (saC ⟨s.I,s.L,s.V,s.N.take k,M,O,.slice none 0 0⟩)∧wr.ownsRow (w.heap.size+1) 52 56 (.slice M k O) k ((s.N.take k).flatMap ndE)∧IdR wr w2.heap.size a c ids∧Below w.heap.size w wr)
  (μ:=fun i _=>ids.length-(intOf i).toNat) ⟨0,none,0,rfl,Nat.zero_le _,z3,World.ownsRow_nil _ _ _ _,a4,ag⟩ ?_
 rintro _ dd w4 m ⟨k,M,O,rfl,bt,z4,r4,az,J⟩ hm;refine aM ?_;by_cases U:k<ids.length
 ·have a7:k<s.N.length:=by omega
  have hx:s.N[k]? = some s.N[k]:=List.getElem?_eq_getElem a7;generalize s.N[k]=x at hx;have aa:x∈s.N:=List.mem_of_getElem? hx;have ap:ids[k]=x.id:=by
   have:ids[k]? = some x.id:=by rw[ad,List.getElem?_map,hx];rfl
   rw[List.getElem?_eq_getElem U]at this;exact Option.some.inj this
  have ba:(s.N.take k).length=k:=by rw[List.length_take];omega
  refine ax (by omega) (az.at2 U fun pt=>?_);rw[ap];have hT:cr (tr s.N) x.id=true:=by rw[kh];exact mF.2 ⟨x,aa,rfl⟩
  have ar:eE (tr s.N) x.id=x.par:=CG (Kc hi.srt) (List.mem_map.2 ⟨x,aa,rfl⟩);have hA:aN s.N x.id=x.A:=te hi.srt aa;have p4:=(h.below J).drew;have z4:=z4.drew;have aS:(saC ⟨s.I,s.L,s.V,s.N.take k,M,O,.slice none 0 0⟩)[18]? = some (.slice M k O):=by rw[JV hi.i6 hi.l6 hi.v6];show some (Value.slice M (s.N.take k).length O)=_;rw[ba]
  refine aw (fun u=>blk u w.heap.size 45 (saC ⟨s.I,s.L,s.V,s.N.take k,M,O,.slice none 0 0⟩)∧PM u q s) ⟨z4,p4⟩ ?_;refine ab (fun u C _=>jO) (ab (fun u C _=>lK (v:=.slice M k O) C.1 (by rw[Nat.zero_add];exact aS)) ?_);refine ab (fun u C _=>ai) (ab (fun u C _=>GS) (ab (fun u C _=>lK (v:=.map (some q.pm)) C.2.b (by rw[Nat.zero_add];exact C.2.c19)) (ab (fun u C _=>C.2.par_l hi hT) ?_)))
  refine ab (fun u C _=>ai) (ab (fun u C _=>kz) (ab (fun u C _=>lK (v:=.map (some q.rm)) C.2.b (by rw[Nat.zero_add];exact C.2.c20)) (ab (fun u C _=>C.2.rg_l hi) ?_)));rw[ar,hA];refine ab (fun u C _=>eT (vs:=ndE x) (QL (hi.A54 x aa))) ?_
  refine mY (vs:=[.agg (ndE x).toArray]) underlying42 (s:=56) (by kernel_rfl) (by kernel_rfl) (by omega) rfl (by simp) (by simp) (by simp) (by simp[Value.cells,fC]) fun w5 k5 b5 s5=>?_;have k5:blk w5 w4.drew.heap.size 52 (ndE x):=by simpa[Value.cells]using k5
  have z5:=ac b5 z4 z4.lt;have p5:=p4.below b5;have aE:w4.drew.ownsRow (w.heap.size+1) 52 56 (.slice M k O) k ((s.N.take k).flatMap ndE):=r4;have r5:=cJ aE fun g hg=>b5.block g (World.ownsRow.lt aE g hg).2;have bb:=(az.below (Below.refl _ w4).drew).below b5;have al:=J.drew.trans (b5.mono J.drew.size);refine bR ⟨z5,p5⟩ ?_
  refine tf (base:=w.heap.size+1) (enc:=ndE) (x:=x) underlying42 a3 hz av a2 rfl (by omega) fC r5 k5 (zD x) (by omega) (by omega) (by have:=z5.lt;omega) fun a6 c6 w6 r6 an b6 _=>?_;have z6:=fL z5 r5 (by decide) an;have bd:IdR w6 w2.heap.size a c ids:=bb.imp fun g cs _ hb=>fL hb r5 (by decide) an;have am:=al.trans (b6.mono (by omega))
  refine aw (fun _=>True) trivial (ab (fun u C _=>jO) ?_);refine eB (fun _=>by kernel_rfl) z6 (by rw[rA hi.i6 hi.l6 hi.v6];omega) rfl fun w7 z7 o7=>aW (by omega) (by omega) ?_;have a0:s.N.take (k+1)=s.N.take k++[x]:=by rw[List.take_add_one,hx];rfl
  rw[Nat.zero_add,Ub hi.i6 hi.l6 hi.v6 (N:=s.N.take (k+1)) (by rw[List.length_take];omega)]at z7;refine⟨⟨k+1,a6,c6,ivS,U,z7,by rw[a0];exact eZ r6 z6 (by decide) o7,bd.imp fun g cs _ hb=>o7.blk hb fun e=>?_,bG am o7 (Nat.le_refl _)⟩,by rw[hm];show ids.length-((k:Int)+1).toNat<ids.length-(k:Int).toNat;omega⟩;subst e;exact absurd (uc hb z6) (by decide)
 ·have a8:k=s.N.length:=by omega
  subst a8;rw[List.take_length]at z4 r4;exact aq (by omega) (hP w4 M O rfl rfl z4 r4 J)
end
end
section
attribute [local irreducible] bin un conv call bY blt slc aT fld aV idx lkp dO gY eSt rng nxt ent ext alc box bld bT ld sto aU dE mkS ifc pick rdy wts aI sti cond bp Gives ae fh fT cOp
open Go.RowKit
theorem Rq :(Tryz.prog.info? 126).map (fun i=>(i.zero,i.size,i.bytes))=some (some (.agg (grC ⟨0,0,0,0,0⟩).toArray),5,40):=by kernel_rfl
theorem Qt {G G':List GR}(I:G.Pairwise ltG)(U:G'.Perm G)(h:G'.Pairwise fun x y=>¬ltG y x):G'=G:=by
 have hu:∀x∈G,∀y∈G,¬ltG x y→¬ltG y x→x=y:=by
  intro x hx y hy u C;obtain⟨i,hi⟩:=List.getElem?_of_mem hx;obtain⟨j,hj⟩:=List.getElem?_of_mem hy;obtain⟨a1,rfl⟩:=List.getElem?_eq_some_iff.1 hi;obtain⟨O,rfl⟩:=List.getElem?_eq_some_iff.1 hj;rcases Nat.lt_trichotomy i j with e|e|e
  ·exact absurd (List.pairwise_iff_getElem.1 I i j a1 O e) u
  ·subst e;rfl
  ·exact absurd (List.pairwise_iff_getElem.1 I j i O a1 e) C
 refine List.Perm.eq_of_pairwise (le:=fun x y=>¬ltG y x) (fun a b ha hb u C=>hu a (U.mem_iff.1 ha) b hb C u) h (I.imp fun {x y} J M=>Tz (Mc J M)) U
section
variable {w:World}{K:KV}{q:LB}{s:PL}
theorem HG (h:PM w q s)(hi:PI s)(hn:s.G.length≤1000000)(hK:∀w' t j gc,SO w' (w.heap.size+1) s t j gc→Below w.heap.size w w'→K (.agg (saC t).toArray) w'):call Tryz.prog 25 #[pB q.p] K w:=by
 have bW:=h.lt;refine Sf h hi ?_;intro l0 l1 s2 c4 c5 c6 c7 zf w1 U nc q0 q1 z1 n1 J;subst q0 q1;have p1:=h.below J;obtain⟨m,hm,C⟩:=p1.gm;refine Ah ?_;refine ai (CY (lK (v:=.map (some q.gm)) p1.b (by rw[Nat.zero_add];exact p1.c27) (Fx underlying131 hm fun w2 aE b2 s2=>?_)));have hz:=z1.lt;have c1:q.gm<w.heap.size:=bW _ (by simp[LB.l]);have z2:=ac b2 z1 z1.lt
 have n2:=cJ n1 fun k u=>b2.block k (World.ownsRow.lt n1 k u).2;have aS:=J.trans (b2.mono J.size);have av:(m.map (·.1)).Nodup:=aE.nodup.2.1;have b0:m.length=s.G.length:=by rw[C.length_eq];unfold grL;rw[List.length_map]
 generalize hr:w1.heap.size=r at aE s2;obtain⟨ii,bt,ca,b9,bs⟩:=info_parts Rq;refine Ag (Inv:=fun wr=>∃(D:List ((Int×Int)×GR)) (j:Option Addr) (gc:Nat),IT rqV grV wr r q.gm m (D.map (·.1))∧(∀x∈D,x∈m)∧blk wr w.heap.size 45 (saC ⟨s.I,s.L,s.V,s.N,U,nc,.slice j D.length gc⟩) ∧
   wr.ownsRow (r+1) 126 5 (.slice j D.length gc) D.length ((D.map (·.2)).flatMap grC)∧wr.ownsRow (w.heap.size+1) 52 56 (.slice U s.N.length nc) s.N.length (s.N.flatMap ndE)∧Below w.heap.size w wr∧r+1≤wr.heap.size) (μ:=fun wr=>lC wr q.gm r)
  ⟨[],none,0,aE,by simp,z2,World.ownsRow_nil _ _ _ _,n2,aS,by omega⟩ ?_
 rintro dd w3 mu ⟨D,j,gc,M,hD,z3,r3,n3,ad,cm⟩ b3;have a9:(D.map (·.1)).Nodup:=M.nodup.1;have cV:D.length≤s.G.length:=by
  have:=pS a9 M.nodup.2.2
  simpa[b0]using this
 refine Fl M (by omega) (fun bb=>?_) fun id v w4 am c2 aa bi o4 cO=>?_
 ·refine sv rfl (aO ?_);refine Ai ?_;have bk:D.Perm m:=by
   have ce:D.Nodup:=(List.pairwise_map.1 a9).imp fun az e=>az (by rw[e]);have cf:m.Nodup:=(List.pairwise_map.1 av).imp fun az e=>az (by rw[e]);refine(List.perm_ext_iff_of_nodup ce cf).2 fun x=>⟨hD x,fun hx=>?_⟩
   obtain⟨y,hy,e⟩:=List.mem_map.1 (bb x.1 (List.mem_map.2 ⟨x,hx,rfl⟩));have h1:=nN (x:=x.1) (v:=x.2) av hx;have h2:=nN (x:=y.1) (v:=y.2) av (hD y hy);rw[e,h1]at h2
   have:x=y:=Prod.ext e.symm (Option.some.inj h2)
   rw[this];exact hy
  have ba:(D.map (·.2)).Perm s.G:=by
   have:=(bk.trans C).map (·.2)
   have e:(grL s.G).map (·.2)=s.G:=by unfold grL;rw[List.map_map];exact List.map_id _
   rw[e]at this;exact this
  have a7:D.length=s.G.length:=by have:=ba.length_eq;rwa[List.length_map]at this
  have an:(saC ⟨s.I,s.L,s.V,s.N,U,nc,.slice j D.length gc⟩)[19]? = some (.slice j D.length gc):=by
   rw[CK,show (19:Nat)=18+1 by omega,List.getElem?_append_right (by simp[hi.i6,hi.l6,hi.v6])];simp[hi.i6,hi.l6,hi.v6]
  refine fj (lK (v:=.slice j D.length gc) z3 (by rw[Nat.zero_add];exact an) ?_);refine Ug r3 (by rw[List.length_map]) (by omega) fun w5 G' b4 b6 r5 ap=>?_;have bn:G'=s.G:=Qt hi.gs (b4.trans ba) b6;subst bn;have z5:=fL z3 r3 (by decide) ap;have n5:=sR n3 r3 (by decide) ap
  have a0:Below w.heap.size w w5:=ad.trans (dW ap (by omega) fun k u=>by have:=(World.ownsRow.lt r3 k u).1;omega);rw[a7]at z5 r5;have bd:((saC ⟨s.I,s.L,s.V,s.N,U,nc,.slice j s.G.length gc⟩).drop 0).take 20=saC ⟨s.I,s.L,s.V,s.N,U,nc,.slice j s.G.length gc⟩:=by
   rw[List.drop_zero,List.take_of_length_le (by rw[rA hi.i6 hi.l6 hi.v6];omega)]
  refine ldA (n:=20) (vs:=saC ⟨s.I,s.L,s.V,s.N,U,nc,.slice j s.G.length gc⟩) underlying45 rfl (by kernel_rfl) z5 bd (rA hi.i6 hi.l6 hi.v6) ?_;refine jP (n:=20) (vs:=saC ⟨s.I,s.L,s.V,s.N,U,nc,.slice j s.G.length gc⟩) (by kernel_rfl) (rA hi.i6 hi.l6 hi.v6) z5 (by rw[rA hi.i6 hi.l6 hi.v6];omega) (Od rfl) fun w6 z6 o6=>?_
  refine Ld (vs:=saC ⟨s.I,s.L,s.V,s.N,U,nc,.slice j s.G.length gc⟩) underlying45 rfl (by rw[rA hi.i6 hi.l6 hi.v6];kernel_rfl) z6 (by rw[List.take_zero,List.nil_append,List.drop_of_length_le (by rw[rA hi.i6 hi.l6 hi.v6];omega),List.append_nil]) ?_;have r6:=eZ r5 z5 (by decide) o6
  refine hK w6 _ j gc ⟨rfl,rfl,rfl,rfl,rfl,eZ n5 z5 (by decide) o6,⟨r6.1,r6.2.imp id fun⟨g,cap,a4,a,b,c⟩=>⟨g,cap,a4,a,by omega,c⟩⟩⟩ (bG a0 o6 (Nat.le_refl _))
 ·have hv:(id,v)∈grL s.G:=C.mem_iff.1 am;obtain⟨g0,cX,e1⟩:=List.mem_map.1 hv;simp only[Prod.mk.injEq]at e1;obtain⟨rfl,rfl⟩:=e1;have cL:D.length<s.G.length:=by
   have h1:(D.map (·.1)++[(g0.o,g0.q)]).Nodup:=aa.nodup.1
   have:=pS h1 aa.nodup.2.2
   simp only[List.length_append,List.length_map,List.length_singleton]at this;omega
  refine sv rfl (bu (Iu bi (db ?_)));have c3:=M.lt;have z4:=o4.blk z3 (by omega);have r4:=cJ r3 fun k u=>o4.other k (by have:=(World.ownsRow.lt r3 k u).1;omega);have n4:w4.ownsRow (w.heap.size+1) 52 56 (.slice U s.N.length nc) s.N.length (s.N.flatMap ndE):=cJ n3 fun k u=>o4.other k (fun e=>by
   obtain⟨⟨a4,hc⟩,_⟩:=CF n3 u;subst e;obtain⟨es,c,cl,cR,c0,_,hh,_⟩:=M;unfold Go.Proofs.YtkbhfjljieopoaaGreatDoor.blk at hc;rw[hc]at hh;cases hh)
  have af:=bG ad o4 (by omega);have cp:r+1≤w4.heap.size:=by rw[o4.size];exact cm
  refine dZ (z:=.agg (grC ⟨0,0,0,0,0⟩).toArray) (by kernel_rfl) fun w5 g5 b5 s5=>?_;have g5:blk w5 w4.heap.size 126 (grC ⟨0,0,0,0,0⟩):=by simpa[Value.cells]using g5
  refine jP (n:=5) (vs:=grC g0) (by kernel_rfl) rfl g5 (by show 0+5≤5;omega) (rJ _) fun w6 g6 o6=>?_;have g6:blk w6 w4.heap.size 126 (grC g0):=g6;have B6:Below w4.heap.size w4 w6:=bG b5 o6 (Nat.le_refl _);have z6:=ac B6 z4 z4.lt;have r6:=cJ r4 fun k u=>B6.block k (World.ownsRow.lt r4 k u).2;have n6:=cJ n4 fun k u=>B6.block k (World.ownsRow.lt n4 k u).2;have be:=aa.below B6
  have ag:=af.trans (B6.mono af.size);have cD:=Nat.le_trans cp B6.size;have an:(saC ⟨s.I,s.L,s.V,s.N,U,nc,.slice j D.length gc⟩)[19]? = some (.slice j D.length gc):=by
   rw[CK,show (19:Nat)=18+1 by omega,List.getElem?_append_right (by simp[hi.i6,hi.l6,hi.v6])];simp[hi.i6,hi.l6,hi.v6]
  refine fj (lK (v:=.slice j D.length gc) z6 (by rw[Nat.zero_add];exact an) ?_);refine ldA (n:=5) (vs:=grC g0) underlying126 rfl (by kernel_rfl) g6 rfl rfl ?_;refine mY (vs:=[.agg (grC g0).toArray]) underlying43 (s:=5) (by kernel_rfl) (by kernel_rfl) (by omega) rfl (by simp) (by simp) (by simp) (by simp[Value.cells,iI]) fun w7 g7 b7 s7=>?_
  have g7:blk w7 w6.heap.size 126 (grC g0):=by simpa[Value.cells]using g7
  have z7:=ac b7 z6 z6.lt;have r7:=cJ r6 fun k u=>b7.block k (World.ownsRow.lt r6 k u).2;have n7:=cJ n6 fun k u=>b7.block k (World.ownsRow.lt n6 k u).2;have O:=be.below b7;have a2:=ag.trans (b7.mono ag.size);have bg:=Nat.le_trans cD b7.size
  refine tf (base:=r+1) (enc:=grC) (x:=g0) underlying43 bt ca b9 bs rfl (by omega) iI r7 g7 (rJ _) (by omega) (by omega) bg fun a8 c8 w8 r8 ar b8 _=>?_;have z8:=fL z7 r7 (by decide) ar;have n8:=sR n7 r7 (by decide) ar;have k8:∀k,k<r+1→k<w7.heap.size→w8.heap[k]? = w7.heap[k]? := fun k u hl=>ar.block k hl fun e=>by have:=(World.ownsRow.lt r7 k e.symm).1;omega
  have cc:=O.kept (k8 _ (by omega) O.lt.2) (k8 _ (by omega) O.lt.1);have a3:=a2.trans (b8.mono (by omega));refine fj (eB (fun _=>by kernel_rfl) z8 (by rw[rA hi.i6 hi.l6 hi.v6];omega) rfl fun w9 z9 o9=>?_);rw[Nat.zero_add,Uc hi.i6 hi.l6 hi.v6]at z9;have cI:=Nat.le_trans bg b8.size;have al:(D++[((g0.o,g0.q),g0)]).length=D.length+1:=by simp
  refine⟨⟨D++[((g0.o,g0.q),g0)],a8,c8,?_,?_,by rw[al];exact z9,?_,eZ n8 z8 (by decide) o9,bG a3 o9 (Nat.le_refl _),by rw[o9.size];exact cI⟩,?_⟩
  ·rw[List.map_append];exact cc.kept (o9.other _ (by omega)) (o9.other _ (by omega))
  ·intro x hx;rcases List.mem_append.1 hx with hh|hh
   ·exact hD x hh
   ·rw[List.mem_singleton.1 hh];exact am
  ·rw[al,List.map_append,List.flatMap_append];have e2:([((g0.o,g0.q),g0)].map (fun x:(Int×Int)×GR=>x.2)).flatMap grC=grC g0:=by simp
   rw[e2];have ch:w8.ownsRow (r+1) 126 5 (.slice a8 (D.length+1) c8) (D.length+1) ((D.map (·.2)).flatMap grC++grC g0):=by
    have:=r8
    rw[List.flatMap_append]at this;simpa using this
   exact eZ ch z8 (by decide) o9
  ·rw[b3];have e1:lC w9 q.gm r=lC w8 q.gm r:=tw (o9.other _ (by omega)) (o9.other _ (by omega));have e2:lC w8 q.gm r=lC w7 q.gm r:=tw (k8 _ (by omega) O.lt.2) (k8 _ (by omega) O.lt.1);have e3:lC w7 q.gm r=lC w6 q.gm r:=GG be b7;have e4:lC w6 q.gm r=lC w4 q.gm r:=GG aa B6;omega
end
end
section
attribute [local irreducible] bin un conv call bY blt slc aT fld aV idx lkp dO gY eSt rng nxt ent ext alc box bld bT ld sto aU dE mkS ifc pick rdy wts aI sti cond bp Gives ae fh fT cOp
open Go.RowKit Go.ChangeMaps
theorem Ch.add {a b c:World}(h:Ch F a b)(k:Below a.heap.size b c):Ch F a c :=
 ⟨k.os.trans h.os,k.tape.trans h.tape,k.output.trans h.output,Nat.le_trans h.size k.size,fun x j u=>(k.block x j).trans (h.block x j u)⟩
theorem JB :(Tryz.prog.info? 54).map (fun i=>(i.zero,i.size,i.bytes))=some (some (.agg (evC ⟨0,0,0,0,0,0,0,0,0,0,0,0,0,0⟩).toArray),14,112):=by kernel_rfl
def jb (R:List kN):List (List (EV×Int)):=R.map (·.it)
structure RpB where
 p:Nat
 q:LB
 g:Nat
 h:Nat
 m:Nat
 e:Nat
 d:Nat
def RpF (R:RpB)(Rw:List kN):List Nat:=R.q.wv++(R.g::lrB Rw++[R.m,R.e])
theorem gD {R:RpB}{Rw:List kN}:k∈RpF R Rw↔k∈R.q.wv∨k=R.g∨k∈lrB Rw∨k=R.m∨k=R.e:=by simp[RpF,or_assoc]
structure RpM (w:World) (R:RpB) (i:Nat) (l:PL) (W:HM) (Rw:List kN) (c:Int) (L:List (List Int)):Prop where
 b:blk w R.p 91 [iv (i:Nat),pB R.q.p,pB R.g,pB R.h,pB R.e,pB R.d]
 pm:PM w R.q l
 g:LoM w R.g Rw l.V c
 h:HoM w R.h R.m W
 e:GoM w R.e L
 pq:R.p∉R.q.l
 gq:∀k∈R.g::lrB Rw,k∉R.q.l
 hq:R.h∉R.q.l
 mq:R.m∉R.q.l
 eq:R.e∉R.q.l
 few:∀r∈Rw,(r.it.length:Int)≤c
 c0:0≤c
theorem Fb {R:List kN}{e:EV}{c:Int}{r:kN}{a:Option Nat}{cap:Nat}(h:R[e.q]? = some r):jb (R.set e.q ⟨a,cap,r.it++[(e,c)]⟩)=qX (jb R) e c:=by
 unfold jb qX;rw[List.map_set,List.getD_eq_getElem?_getD,List.getElem?_map,h];rfl
theorem HoM.mb' {q:Nat}{W:HM}(h:HoM w p m W)(j:blk w q E cs):q≠m:=fun e=>by
 obtain⟨es,c,u⟩:=h.mb;unfold blk at j;rw[e,u.heap]at j;cases j
theorem LoM.ty {R:List kN}{V:List Int}{c:Int}(h:LoM w g R V c)(j:blk w k E cs)(C:E≠200):k∉lrB R:=fun J=>by
 obtain⟨i,r,M,e⟩:=h.in J;obtain⟨u,I⟩:=h.cur M e;unfold blk at j;rw[I]at j;simp only[Option.some.injEq,Obj.cells.injEq]at j;exact C j.2.1.symm
section
variable {w w':World}{R:RpB}{i:Nat}{l:PL}{W:HM}{Rw:List kN}{c:Int}{L:List (List Int)}
theorem RpM.below (h:RpM w R i l W Rw c L)(j:Below w.heap.size w w'):RpM w' R i l W Rw c L :=
 {h with b:=ac j h.b h.b.lt,pm:=h.pm.below j,g:=h.g.below j,h:=h.h.below j,e:=h.e.below j}
theorem RpM.lt (h:RpM w R i l W Rw c L):∀k∈RpF R Rw,k<w.heap.size:=fun k j=>by
 rcases gD.1 j with j|rfl|j|rfl|rfl
 ·exact h.pm.lt k (LB.wl k j)
 ·exact h.g.b.lt
 ·exact h.g.lt k (List.mem_cons_of_mem _ j)
 ·exact h.h.lt.2
 ·exact h.e.b.lt
theorem RpM.ml (h:RpM w R i l W Rw c L):R.m∉lrB Rw:=fun I=>by
 obtain⟨j,r,M,e⟩:=h.g.in I;obtain⟨C,u⟩:=h.g.cur M e;obtain⟨es,O,J⟩:=h.h.mb;rw[J.heap]at u;cases u
theorem RpM.out (h:RpM w R i l W Rw c L)(u:blk w k E cs)(C:E≠200)(I:E≠139)(J:E≠145)(M:k∉R.q.l):k∉RpF R Rw:=fun j=>by
 rcases gD.1 j with j|rfl|j|rfl|rfl
 ·exact M (LB.wl k j)
 ·exact absurd rfl (u.ne h.g.b I)
 ·exact h.g.ty u C j
 ·exact h.h.mb' u rfl
 ·exact absurd rfl (u.ne h.e.b J)
theorem RpM.wq (h:RpM w R i l W Rw c L)(u:k∉R.q.l):k∉R.q.wv:=fun j=>u (LB.wl k j)
theorem RpM.setH {W':HM}(h:RpM w R i l W Rw c L)(u:Ch [R.m] w w')(C:HoM w' R.h R.m W'):RpM w' R i l W' Rw c L :=
 have n:∀k,k≠R.m→k∉[R.m]:=fun k j C=>j (List.mem_singleton.1 C)
 {h with
  b:=h.b.ch u (n _ (h.h.mb' h.b))
  pm:=h.pm.ch u fun k j=>n k fun e=>h.mq (e ▸ j)
  g:=h.g.ch u fun k j=>n k fun e=>(List.mem_cons.1 j).elim (fun e' => h.h.mb' h.g.b (e'.symm.trans e)) fun j=>h.ml (e ▸ j)
  h:=C
  e:=h.e.ch u (n _ (h.h.mb' h.e.b))}
theorem RpM.setE {L':List (List Int)}(h:RpM w R i l W Rw c L)(u:Ch [R.e] w w')(C:GoM w' R.e L'):RpM w' R i l W Rw c L' :=
 have n:∀k,k≠R.e→k∉[R.e]:=fun k j C=>j (List.mem_singleton.1 C)
 {h with
  b:=h.b.ch u (n _ (h.b.ne h.e.b (by decide)))
  pm:=h.pm.ch u fun k j=>n k fun e=>h.eq (e ▸ j)
  g:=h.g.ch u fun k j=>n k fun e=>(List.mem_cons.1 j).elim (fun e' => h.g.b.ne h.e.b (by decide) (e'.symm.trans e)) fun j=>h.g.ty h.e.b (by decide) (e ▸ j)
  h:=h.h.ch u (n _ (h.h.b.ne h.e.b (by decide))) (n _ (h.h.mb' h.e.b).symm)
  e:=C}
theorem RpM.sub1 (h:RpM w R i l W Rw c L)(j:Ch [R.m] w w'):Ch (RpF R Rw) w w':=j.mono fun k u=>gD.2 (by rw[List.mem_singleton.1 u];simp)
theorem RpM.sub2 (h:RpM w R i l W Rw c L)(j:Ch [R.e] w w'):Ch (RpF R Rw) w w':=j.mono fun k u=>gD.2 (by rw[List.mem_singleton.1 u];simp)
end
theorem wG (h:K (.pointer (some ⟨b,o+0,none⟩)) w):aT Tryz.prog 91 (.pointer (some ⟨b,o,none⟩)) 0 K w:=aK (by kernel_rfl) h
theorem uN (h:K (.pointer (some ⟨b,o+1,none⟩)) w):aT Tryz.prog 91 (.pointer (some ⟨b,o,none⟩)) 1 K w:=aK (by kernel_rfl) h
theorem yp (h:K (.pointer (some ⟨b,o+2,none⟩)) w):aT Tryz.prog 91 (.pointer (some ⟨b,o,none⟩)) 2 K w:=aK (by kernel_rfl) h
theorem Db (h:K (.pointer (some ⟨b,o+3,none⟩)) w):aT Tryz.prog 91 (.pointer (some ⟨b,o,none⟩)) 3 K w:=aK (by kernel_rfl) h
theorem LA (h:K (.pointer (some ⟨b,o+4,none⟩)) w):aT Tryz.prog 91 (.pointer (some ⟨b,o,none⟩)) 4 K w:=aK (by kernel_rfl) h
theorem LD (h:K (.pointer (some ⟨b,o+5,none⟩)) w):aT Tryz.prog 91 (.pointer (some ⟨b,o,none⟩)) 5 K w:=aK (by kernel_rfl) h
section
variable {w:World}{K:KV}{R:RpB}{i:Nat}{l:PL}{W:HM}{Rw:List kN}{c:Int}{L:List (List Int)}{e:EV}
theorem wy (h:K (.bool false) w):bin Tryz.prog .eql 26 cx cy (pB b) (.pointer none) K w :=
 jm (by unfold eqG eqGuard;rfl) (by kernel_rfl) h
theorem Ef {x:World}(h:RpM w0 R i l W Rw c L)(hi:PI l)(hm:ey l.V e=true)(U:dK e=true)(hc:c<1000000)(p2:PM x R.q (eff e l))(c2:Ch R.q.wv w0 x)(hK:∀w' Rw',RpM w' R i (eff e l) W Rw' (c+1) L→Ch (R.g::lrB Rw) x w'→(∀k∈lrB Rw',k∈lrB Rw∨x.heap.size≤k)→jb Rw'=qX (jb Rw) e c→K (ci 0) w'):call Tryz.prog 58 #[pB R.g,evV e] K x:=by
 obtain⟨ag,ho⟩:=qe U;have hn:∀k,k∉R.q.l→k∉R.q.wv:=fun k u=>h.wq u;have af:=h.pm.lt;have z2:=h.b.ch c2 (hn _ h.pq);have g2:=h.g.ch c2 fun k u=>hn _ (h.gq k u);have o2:=h.h.ch c2 (hn _ h.hq) (hn _ h.mq);have f2:=h.e.ch c2 (hn _ h.eq);have ad:e.q<Rw.length:=by rw[g2.l6];exact ag
 have hr:Rw[e.q]? = some Rw[e.q]:=List.getElem?_eq_getElem ad;generalize Rw[e.q]=r at hr;have al:=h.few r (List.mem_of_getElem? hr);have aa:=h.c0;have am:=c2.size;refine PY g2 hr hm (fun k u=>(hi.vb k u).1) ⟨aa,by omega⟩ (by omega) fun w3 a' O g3 n3 M=>?_;have hV:l.V.set e.q e.s=(eff e l).V:=by
  show _=l.V.set e.q (l.V.getD e.q 0+1);rw[(nB hm).1]
 rw[hV]at g3;have I:∀{k:Nat},k∉lrB Rw→k≠R.g→k∉R.g::lrB Rw:=fun h1 h2 C=>(List.mem_cons.1 C).elim h2 h1;have J:∀k∈lrB (Rw.set e.q ⟨a',O,r.it++[(e,c)]⟩),k∈lrB Rw∨x.heap.size≤k:=fun k u=>by
  obtain⟨r',j,e'⟩:=List.mem_filterMap.1 u;rcases List.mem_or_eq_of_mem_set j with j|rfl
  ·exact .inl (List.mem_filterMap.2 ⟨r',j,e'⟩)
  ·rcases n3 k e' with C|C
   ·exact .inl (List.mem_filterMap.2 ⟨r,List.mem_of_getElem? hr,C⟩)
   ·exact .inr C
 refine hK w3 _ ⟨z2.ch M (I (h.g.ty h.b (by decide)) (h.b.ne h.g.b (by decide))),p2.ch M fun k u C=>h.gq k C u,g3,o2.ch M (I (h.g.ty h.h.b (by decide)) (h.h.b.ne h.g.b (by decide))) (I h.ml (h.h.mb' h.g.b).symm),f2.ch M (I (h.g.ty h.e.b (by decide)) (h.e.b.ne h.g.b (by decide))),h.pq,fun k u=>?_,h.hq,h.mq,h.eq,fun r' j=>?_,by omega⟩ M J (Fb hr)
 ·rcases List.mem_cons.1 u with rfl|u
  ·exact h.gq _ (by simp)
  ·rcases J k u with C|C
   ·exact h.gq k (List.mem_cons_of_mem _ C)
   ·exact fun hq=>by have:=af k hq;omega
 ·rcases List.mem_or_eq_of_mem_set j with j|rfl
  ·have:=h.few r' j;omega
  ·simp;omega
theorem Sh (h:RpM w R i l W Rw c L)(hi:PI l)(hm:ey l.V e=true)(U:np e l=0)(hc:c<1000000)(j:∀w' u,RpM w' R i (eff e l) W u (c+1) L→Ch (RpF R Rw) w w'→(∀k∈lrB u,k∈lrB Rw∨w.heap.size≤k)→jb u=qX (jb Rw) e c→K (ci 0) w'):call Tryz.prog 81 #[pB R.p,evV e] K w:=by
 have J:dK e=true:=((vc hi).1 U).may;refine aj (goK func81) (AG (xj fun M e1 b1 s1=>?_));have h1:=h.below b1;refine aw (fun x=>blk x R.p 91 [iv (i:Nat),pB R.q.p,pB R.g,pB R.h,pB R.e,pB R.d]∧blk x w.heap.size 54 (evC e)) ⟨h1.b.drew,e1.drew⟩ ?_;refine ab (fun x d _ j=>ai j) (ab (fun x d _ j=>uN j) (ab (v:=pB R.q.p) (fun x d _ j=>lK d.1 rfl j) (ab (fun x d _ j=>gB d.2 j) ?_)))
 have C:=h1.below (Below.refl _ M).drew;refine Mn C.pm hi fun O p2 c2=>?_;rw[U];rw[show jL e l=eff e l by unfold jL;rw[if_pos U]]at p2;have aa:=h.pm.lt;have z2:=C.b.ch c2 (C.wq h.pq);have e2:=e1.drew.ch c2 (C.wq fun hh=>by have:=aa _ hh;omega);refine aw (fun _=>True) trivial (bN (aq (by simp) ?_))
 refine aw (fun x=>blk x R.p 91 [iv (i:Nat),pB R.q.p,pB R.g,pB R.h,pB R.e,pB R.d]∧blk x w.heap.size 54 (evC e)) ⟨z2.drew,e2.drew⟩ ?_;refine ab (fun x d _ j=>ai j) (ab (fun x d _ j=>yp j) (ab (v:=pB R.g) (fun x d _ j=>lK d.1 rfl j) (ab (fun x d _ j=>gB d.2 j) ?_)));have I:=c2.add (Below.refl _ O).drew;have ad:=c2.size;have d1:M.drew.heap.size=M.heap.size:=rfl
 have d2:O.drew.heap.size=O.heap.size:=rfl;refine Ef C hi hm J hc p2.drew I fun w3 u h3 c3 n3 i3=>j w3 u h3 ?_ (fun k hk=>(n3 k hk).imp id fun hh=>by omega) i3;have a1:Ch (RpF R Rw) w M.drew:=Ch.of_below b1.drew;have a3:Ch (RpF R Rw) w O.drew:=a1.trans I fun x hx=>.inl (gD.2 (.inl hx))
 exact a3.trans c3 fun x hx=>.inl (gD.2 ((List.mem_cons.1 hx).elim (fun h=>.inr (.inl h)) fun h=>.inr (.inr (.inl h))))
end
def Js (W:HM):Option EV→HM
 | none=>W
 | some e=>sM W (mW e)
def WA :Value→Nat
 | .slice _ n _=>n
 | _=>0
theorem VR.ch {L:List EV}(h:VR w a n c L)(J:Ch F w w')(hF:∀b o,a=some ⟨b,o,none⟩→b∉F):VR w' a n c L :=
 ⟨h.len,h.some_,fun i x O b o I j u M=>by
  have:=h.cell i x O b o I j u M
  have C:=World.block_lt_of_cell? w _ this;rw[World.cell?_of_block (J.block b C (hF b o I))];exact this⟩
theorem VR.nm {L:List EV}(h:VR w a n c L)(j:0<n){es:Array MapEntry}(I:w.heap[m]? = some (.map es k)):∀b o,a=some ⟨b,o,none⟩→b≠m:=fun b o u e=>by
 have C:0<L.length:=by rw[h.len];exact j
 have:=h.cell 0 L[0] (List.getElem?_eq_getElem C) b o u 0 _ rfl
 subst e;simp[World.cell?,I]at this
section
variable {w w':World}{R:RpB}{i:Nat}{l:PL}{W:HM}{Rw:List kN}{c:Int}{L:List (List Int)}{B:Nat}
theorem blk.kp (h:blk w k E cs)(j:w'.heap[k]? = w.heap[k]?):blk w' k E cs:=by unfold Go.Proofs.YtkbhfjljieopoaaGreatDoor.blk at *; rw[j];exact h
theorem RpM.keep (h:RpM w R i l W Rw c L)(j:∀k,k=R.p∨k=R.h∨k∈R.q.l∨k∈RpF R Rw→w'.heap[k]? = w.heap[k]?):RpM w' R i l W Rw c L :=
 {h with
  b:=h.b.kp (j _ (.inl rfl))
  pm:=h.pm.keep fun k u _=>j k (.inr (.inr (.inl u)))
  g:=h.g.keep fun k u=>j k (.inr (.inr (.inr (gD.2 ((List.mem_cons.1 u).elim (fun e=>.inr (.inl e)) fun e=>.inr (.inr (.inl e)))))))
  h:=⟨h.h.b.kp (j _ (.inr (.inl rfl))),h.h.mb.kept (j _ (.inr (.inr (.inr (gD.2 (by simp))))))⟩
  e:=⟨h.e.b.kp (j _ (.inr (.inr (.inr (gD.2 (by simp)))))),h.e.l6,h.e.v6⟩}
theorem RpM.neE (h:RpM w R i l W Rw c L)(C:∀k∈R.q.l,k<B)(u:blk w z 54 cs)(J:B≤z):∀k,k=R.p∨k=R.h∨k∈R.q.l∨k∈RpF R Rw→k≠z:=fun k j e=>by
 subst e;rcases j with rfl|rfl|j|j
 ·exact absurd rfl (u.ne h.b (by decide))
 ·exact absurd rfl (u.ne h.h.b (by decide))
 ·have:=C _ j;omega
 ·exact h.out u (by decide) (by decide) (by decide) (fun I=>by have:=C _ I;omega) j
theorem RpM.othE (h:RpM w R i l W Rw c L)(C:∀k∈R.q.l,k<B)(I:blk w z 54 cs)(j:B≤z)(o:Oth z w w'):RpM w' R i l W Rw c L :=
 h.keep fun k u=>o.other k (h.neE C I j k u)
theorem RpM.grow (h:RpM w R i l W Rw c L)(M:∀k∈R.q.l,k<B){v:Value}{xs:List Value}(O:w.ownsRow B 54 14 v n xs)(C:w.grownBy w' v.ownBlock):RpM w' R i l W Rw c L:=by
 have U:∀k,k=R.p∨k=R.h∨k∈R.q.l∨k∈RpF R Rw→some k≠v.ownBlock:=fun k j e=>by
  rcases O.2 with⟨I,_⟩|⟨g,cap,u,I,J,C,_⟩
  ·rw[I]at e;cases e
  ·rw[I]at e;simp only[Value.ownBlock,Option.some.injEq]at e;exact h.neE M (show blk w g 54 u.toList by unfold blk;rw[C]) J k j e
 refine h.keep fun k j=>C.block k ?_ (U k j);rcases j with rfl|rfl|j|j
 ·exact h.b.lt
 ·exact h.h.b.lt
 ·exact h.pm.lt k j
 ·exact h.lt k j
theorem RpM.row (h:RpM w R i l W Rw c L)(U:∀k∈R.q.l,k<B){v:Value}{xs:List Value}(C:w.ownsRow B 54 14 v n xs)(J:Ch (RpF R Rw) w w'):w'.ownsRow B 54 14 v n xs:=by
 refine cJ C fun k j=>J.block k (World.ownsRow.lt C k j).2 ?_;rcases C.2 with⟨I,_⟩|⟨g,cap,u,I,hB,M,_⟩
 ·rw[I]at j;cases j
 ·rw[I]at j;simp only[Value.ownBlock,Option.some.injEq]at j;subst j;exact h.out (show blk w g 54 u.toList by unfold blk;rw[M]) (by decide) (by decide) (by decide) fun O=>by have:=U _ O;omega
theorem RpM.ev (h:RpM w R i l W Rw c L)(I:∀k∈R.q.l,k<B){e:EV}(j:blk w z 54 (evC e))(J:B≤z)(u:Ch (RpF R Rw) w w'):blk w' z 54 (evC e) :=
 j.ch u (h.out j (by decide) (by decide) (by decide) fun C=>by have:=I _ C;omega)
end
section
variable {w:World}{K:KV}{R:RpB}{i:Nat}{l:PL}{W:HM}{Rw:List kN}{c:Int}{L:List (List Int)}{e:EV}{n ct:Nat}{E:List EV}
theorem RHL.late (h:RHL n E l W ct):∀x∈W,nH l.V x.2=false:=fun x j=>by
 refine Bool.eq_false_iff.2 fun u=>?_
 have:=(xq (h.may j)).1 u
 have:=h.hw.new x j
 omega
theorem Dj (h:HoM w p m W)(u:RHL n E l W ct)(C:∀w',HoM w' p m (Js W (eH l.V W 6))→Ch [m] w w'→K (.tuple #[evV ((eH l.V W 6).getD evZ),.bool (eH l.V W 6).isSome]) w'):call Tryz.prog 80 #[pB p,.agg (vCs l.V).toArray] K w:=by
 refine Tp h u.pi.v6 (fun k M=>u.pi.vb k M) (fun x O=>u.hw.key x O) u.late (fun j w' b=>?_) fun e j w' J I=>?_
 ·have:=C w' (by rw[j];exact h.below b) (Ch.of_below b)
  rwa[j]at this
 ·have:=C w' (by rw[j];exact J) I
  rwa[j]at this
theorem Wj {j:List kN}(hr:RHL n E l W ct)(hW:W.length≤64)(hc:c+100≤1000000)(hq:∀k∈R.q.l,k<w0.heap.size)(h:RpM w R i l (Js W (eH l.V W 6)) Rw c L)(hz:blk w z 54 (evC ((eH l.V W 6).getD evZ)))(zz:w0.heap.size≤z)(a8:Ch (RpF R j) w0 w)(hB:∀k∈lrB Rw,k∈lrB j∨w0.heap.size≤k)(u:∀w' l' W' aa F fa fc,RpM w' R i l' W' aa (c+(F.length:Nat)) L→DR l W l' W' F→eH l'.V W' 6=none→w'.ownsRow w0.heap.size 54 14 (.slice fa F.length fc) F.length (F.flatMap evC)→Ch (RpF R j) w0 w'→(∀k∈lrB aa,k∈lrB j∨w0.heap.size≤k)→jb aa=xb (jb Rw) c F→K (.slice fa F.length fc) w'):fR K (ay (pB R.p) Y5 (.slice none 0 0) Z5 (pB z) (.bool (eH l.V W 6).isSome) K6 W6 X6 zf) w:=by
 refine vW (Inv:=fun fr e7 bn wr=>∃(l1:PL) (W1:HM) (F:List EV) (fa:Option Addr) (fc:Nat) (C:List kN) (z:Nat),fr=.slice fa F.length fc∧e7=pB z∧bn=.bool (eH l1.V W1 6).isSome∧DR l W l1 W1 F ∧
   RpM wr R i l1 (Js W1 (eH l1.V W1 6)) C (c+(F.length:Nat)) L∧blk wr z 54 (evC ((eH l1.V W1 6).getD evZ))∧w0.heap.size≤z∧wr.ownsRow w0.heap.size 54 14 (.slice fa F.length fc) F.length (F.flatMap evC)∧Ch (RpF R j) w0 wr∧(∀k∈lrB C,k∈lrB j∨w0.heap.size≤k)∧(Value.slice fa F.length fc).ownBlock≠some z∧jb C=xb (jb Rw) c F) (μ:=fun fr _ _ _=>W.length+1-WA fr)
  ⟨l,W,[],none,0,Rw,z,rfl,rfl,rfl,.nil,by rw[List.length_nil];simpa using h,hz,zz,World.ownsRow_nil _ _ _ _,a8,hB,(fun e=>by cases e),rfl⟩ ?_
 rintro _ _ _ dd w1 mu ⟨l1,W1,F,fa,fc,C,z1,rfl,rfl,rfl,hd,h1,M,bt,aS,af,ag,av,aE⟩ bd;obtain⟨i1,i2,i3,i4⟩:=hd.ri hr;cases hn:eH l1.V W1 6 with
 | none =>
  rw[hn]at h1;exact aO (wc (u w1 l1 W1 C F fa fc h1 hd hn aS af ag aE))
 | some e =>
  rw[hn]at h1 M;obtain⟨he,be,hg,h0,hs,hv⟩:=i1.step hn;have M:blk w1 z1 54 (evC e):=M;have h1:RpM w1 R i l1 (sM W1 (mW e)) C (c+(F.length:Nat)) L:=h1;refine bu (vS (gB M ?_));have bW:=af.size;refine Sh h1 i1.pi be h0 (by omega) fun w2 an h2 c2 n2 bs=>cA (ax rfl ?_);have al:=h1.ev hq M bt c2;have a0:=h1.row hq aS c2;have b0:=c2.size
  refine gB al (mY [evV e] underlying36 (s:=14) (by kernel_rfl) (by kernel_rfl) (by omega) rfl (by simp) (by decide) rfl (by
   intro v hv;rw[List.mem_singleton.1 hv];rfl) fun w3 e3 b3 s3=>?_)
  have e3:blk w3 w2.heap.size 54 (evC e):=by simpa[Value.cells,evV]using e3
  have h3:=h2.below b3;have az:=ac b3 al al.lt;have am:=cJ a0 fun k I=>b3.block k (World.ownsRow.lt a0 k I).2;obtain⟨ii,ba,bi,bg,a7⟩:=info_parts JB;refine tf (enc:=evC) (x:=e) underlying36 ba bi bg a7 rfl (by omega) (fun _=>rfl) am e3 (qy _) (by omega) (by omega) (by omega) fun a' c' w4 r4 g4 b4 k4=>?_;have b6:=b3.size;have h4:=h3.grow hq am g4;have bb:=World.ownsRow.lt am
  have ap:Below w0.heap.size w3 w4:=dW g4 (by omega) fun k I=>(bb k I).1;have sub:∀x∈RpF R C,x∈RpF R j∨w0.heap.size≤x:=fun x J=>by
   rcases gD.1 J with J|J|J|J
   ·exact .inl (gD.2 (.inl J))
   ·exact .inl (gD.2 (.inr (.inl J)))
   ·exact(ag x J).imp (fun J=>gD.2 (.inr (.inr (.inl J)))) id
   ·exact .inl (gD.2 (.inr (.inr (.inr J))))
  have a2:Ch (RpF R j) w0 w4:=((af.trans c2 sub).add (b3.mono (by omega))).add ap;have a4:∀k∈lrB an,k∈lrB j∨w0.heap.size≤k:=fun k I=>(n2 k I).elim (fun I=>ag k I) fun I=>.inr (by omega);have bk:blk w4 z1 54 (evC e):=az.kp (g4.block z1 az.lt fun e' => av e'.symm);have b8:=ap.size;have ca:=g4.size;refine we (gB bk (nG fun w5 z5 b5 s5=>lj (e':=e) z5 fun w6 z6 o6=>?_))
  have O:Below w4.heap.size w4 w6:=bv b5 o6 (Nat.le_refl _);have h6:=h4.below O;have b9:=O.size;have cc:w4.heap.size<w6.heap.size:=z6.lt;refine aw (fun x=>blk x R.p 91 [iv (i:Nat),pB R.q.p,pB R.g,pB R.h,pB R.e,pB R.d]) h6.b.drew ?_;refine ab (fun x d _ u=>ai u) (ab (fun x d _ u=>Db u) (ab (v:=pB R.h) (fun x d _ u=>lK d rfl u) ?_))
  refine ab (fun x d _ u=>ai u) (ab (fun x d _ u=>uN u) (ab (v:=pB R.q.p) (fun x d _ u=>lK d rfl u) ?_));have ar:=h6.below (Below.refl _ w6).drew;refine AB ar.pm fun w7 b7=>?_;have h7:=ar.below b7;have ad:Below w6.heap.size w6 w7:=(Below.refl _ w6).drew.trans b7;have z7:=ac ad z6 z6.lt;refine bR h7.b ?_;refine Dj h7.h hs fun w8 a9 c8=>?_;have h8:=h7.setH c8 a9
  refine aw (fun _=>True) trivial (ab (fun x _ _ u=>cZ u) (ab (fun x _ _ u=>db u) ?_));have z8:blk w8 w4.heap.size 54 (evC e):=z7.ch c8 fun hh=>h7.h.mb' z7 (List.mem_singleton.1 hh);refine lj (e':=(eH (eff e l1).V (sM W1 (mW e)) 6).getD evZ) z8 fun w9 z9 o9=>?_;refine bR trivial ?_;have r6:=cJ r4 fun k I=>O.block k (World.ownsRow.lt r4 k I).2
  have r7:=cJ r6 fun k I=>ad.block k (World.ownsRow.lt r6 k I).2;have r8:=h7.row hq r7 (h7.sub1 c8);have r9:=cJ r8 (w':=w9) fun k I=>o9.other k fun e' => by have:=(World.ownsRow.lt r4 k I).2;omega
  have U:(F++[e]).length=F.length+1:=by simp
  have a3:Ch (RpF R j) w0 w9:=(((a2.add (O.mono (by omega))).add (ad.mono (by omega))).trans c8 fun x J=>.inl (gD.2 (by rw[List.mem_singleton.1 J];simp))).add (bv (Below.refl _ w8) o9 (by omega))
  refine⟨⟨eff e l1,sM W1 (mW e),F++[e],a',c',an,w4.heap.size,congrArg (fun n=>Value.slice a' n c') U.symm,rfl,rfl,hd.snoc hn,?_,z9,by omega,by rw[U];exact r9,a3,a4,(fun e'=>?_),by rw[bs,aE,yO]⟩,?_⟩
  ·have:=h8.othE hq z8 (by omega) o9
   rw[U,show c+((F.length+1:Nat):Int)=c+(F.length:Nat)+1 by omega];exact this
  ·rw[U]at e'
   have:=(World.ownsRow.lt r4 _ e').2
   omega
  ·rw[bd];show W.length+1-(F.length+1)<W.length+1-F.length;omega
end
section
variable {w:World}{K:KV}{R:RpB}{i:Nat}{l:PL}{W:HM}{Rw:List kN}{c:Int}{L:List (List Int)}{e:EV}{n ct:Nat}{E:List EV}
theorem TZ {E1:List EV}{f t:Int}{V:List Int}(h:RpM w R i l W Rw c L)(hr:RHL n E l W ct)(hW:W.length+E1.length≤64)(hc:c+100≤1000000)(hv:VR w a k B E1)(az:∀e∈E1,e∈E)(hk:k≤16)(hV:V.length=6)(u:∀w' l' W' ad F fa fc,RpM w' R i l' W' ad (c+(F.length:Nat)) L→DR l (nf l.V W E1) l' W' F→eH l'.V W' 6=none→w'.ownsRow w.heap.size 54 14 (.slice fa F.length fc) F.length (F.flatMap evC)→Ch (RpF R Rw) w w'→(∀k∈lrB ad,k∈lrB Rw∨w.heap.size≤k)→jb ad=xb (jb Rw) c F→K (.slice fa F.length fc) w'):call Tryz.prog 43 #[pB R.p,.agg (mgC 1 f t V (.slice a k B) 0 0).toArray] K w:=by
 have hq:=h.pm.lt;have a3:(Value.agg (mgC 1 f t V (.slice a k B) 0 0).toArray).cells.toList=mgC 1 f t V (.slice a k B) 0 0:=by simp[Value.cells]
 have c9:(mgC 1 f t V (.slice a k B) 0 0)[9]? = some (.slice a k B):=by
  unfold mgC;rw[show 9=3+6 by rfl,iP (n:=3) rfl,show 6=6+0 by rfl,iP (n:=6) (by rw[bQ,hV])];rfl
 refine aj (goK func43) (xY (cv fun w1 m1 b1 s1=>?_));rw[a3]at m1;refine zP (lK (v:=.slice a k B) m1 c9 (bj underlying36 ?_));have h1:=h.below b1;refine vU (Inv:=fun j wr=>∃q:Nat,j=iv (q:Nat)∧q≤k∧RpM wr R i l (nf l.V W (E1.take q)) Rw c L∧Ch [R.m] w wr) (μ:=fun j _=>k-(intOf j).toNat)
  ⟨0,rfl,Nat.zero_le _,by rw[List.take_zero];exact h1,Ch.of_below b1⟩ ?_
 rintro _ dd w2 mu ⟨q,rfl,bi,h2,c2⟩ bb;have bk:(E1.take q).length≤q:=by rw[List.length_take];omega
 have bg:=hv.len;obtain⟨U,_,a9,_⟩:RHL n E l (nf l.V W (E1.take q)) ct∧_:=hr.puts (L:=E1.take q) (fun x I=>az x (List.mem_of_mem_take I)) (by omega);refine aM ?_;by_cases aE:q<k
 ·have a8:q<E1.length:=by rw[hv.len];exact aE
  have I:E1[q]? = some E1[q]:=List.getElem?_eq_getElem a8;have aa:E1.take (q+1)=E1.take q++[E1[q]]:=by rw[List.take_add_one,I];rfl
  generalize E1[q]=x at I aa;have bn:=az x (List.mem_of_getElem? I);obtain⟨b,o,ha⟩:=hv.some_ (by omega);obtain⟨es,cl,ba⟩:=h.h.mb;have be:VR w2 a k B E1:=hv.ch c2 fun b o ha hh=>hv.nm (by omega) ba.heap b o ha (List.mem_singleton.1 hh);subst ha;refine ax (by omega) (dJ underlying36 (s:=14) (fun _=>by kernel_rfl) (by omega) (by omega) ?_);rw[Int.toNat_natCast]
  refine Fc be rfl I (nG fun w3 z3 O s3=>lj (e':=x) z3 fun w4 z4 o4=>?_);have an:Below w2.heap.size w2 w4:=bv O o4 (Nat.le_refl _);have M:=h2.below an;refine aw (fun y=>blk y R.p 91 [iv (i:Nat),pB R.q.p,pB R.g,pB R.h,pB R.e,pB R.d]∧blk y w2.heap.size 54 (evC x)) ⟨M.b.drew,z4.drew⟩ ?_
  refine ab (fun y d _ u=>ai u) (ab (fun y d _ u=>Db u) (ab (v:=pB R.h) (fun y d _ u=>lK d.1 rfl u) ?_));refine ab (fun y d _ u=>ai u) (ab (fun y d _ u=>uN u) (ab (v:=pB R.q.p) (fun y d _ u=>lK d.1 rfl u) (ab (fun y d _ u=>gB d.2 u) ?_)));have av:=M.below (Below.refl _ w4).drew;refine AB av.pm fun w5 b5=>?_;have ap:Below w4.heap.size w4 w5:=(Below.refl _ w4).drew.trans b5
  have h5:=av.below b5;refine bR ⟨h5.b,ac ap z4 z4.lt⟩ <|UU h5.h hr.pi.v6 (by omega) fun w6 _ a7 c6=>aW (by omega) (by omega) ?_;have h6:=h5.setH c6 a7;refine⟨⟨q+1,congrArg iv (by push_cast;rfl),aE,?_,?_⟩,by rw[bb];show k-((q:Int)+1).toNat<k-(q:Int).toNat;omega⟩
  ·rw[aa];unfold nf;rw[List.foldl_append];exact h6
  ·have a1:=c2.add (an.mono c2.size);have a2:=a1.add (ap.mono a1.size);exact a2.trans c6 fun x I=>.inl I
 ·have bd:q=k:=by omega
  subst bd;have aa:E1.take q=E1:=by rw[←hv.len];exact List.take_length
  rw[aa]at h2 U a9;refine aq (by omega) (vY ?_);have bt:=c2.size;have aS:Ch (RpF R Rw) w w2:=h.sub1 c2;have bs:∀k∈R.q.l,k<w.heap.size:=hq;refine aw (fun y=>blk y R.p 91 [iv (i:Nat),pB R.q.p,pB R.g,pB R.h,pB R.e,pB R.d]) h2.b.drew ?_;refine ab (fun y d _ u=>ai u) (ab (fun y d _ u=>Db u) (ab (v:=pB R.h) (fun y d _ u=>lK d rfl u) ?_))
  refine ab (fun y d _ u=>ai u) (ab (fun y d _ u=>uN u) (ab (v:=pB R.q.p) (fun y d _ u=>lK d rfl u) ?_));have J:=h2.below (Below.refl _ w2).drew;have C:Ch (RpF R Rw) w w2.drew:=aS.add (Below.refl _ w2).drew
  -- the last step,whatever the order
  have ag:∀{wr:World} {z:Nat} {zf:Nat→Value} {e6:Value},RpM wr R i l (Js (nf l.V W E1) (eH l.V (nf l.V W E1) 6)) Rw c L→blk wr z 54 (evC ((eH l.V (nf l.V W E1) 6).getD evZ))→w.heap.size≤z→Ch (RpF R Rw) w wr →
    fR K (ay (pB R.p) (pB w.heap.size) (.slice none 0 0) e6 (pB z) (.bool (eH l.V (nf l.V W E1) 6).isSome) (.slice a q B) (iv (q:Nat)) (iv (q:Nat)) zf) wr:=fun ha hb hz a0 =>
   Wj U (by omega) hc hq ha hb hz a0 (fun k hk=>.inl hk) u
  have am:∀{wr w':World} {z:Nat},RpM wr R i l (Js (nf l.V W E1) (eH l.V (nf l.V W E1) 6)) Rw c L→blk wr z 54 (evC evZ)→w.heap.size≤z→Oth z wr w'→RpM w' R i l (Js (nf l.V W E1) (eH l.V (nf l.V W E1) 6)) Rw c L:=fun ha hb hz o=>ha.othE hq hb hz o;refine⟨?_,?_⟩
  ·refine AB J.pm fun w3 O=>bR (J.below O).b ⟨?_,?_⟩
   ·have h3:=J.below O;have c3:=C.add (O.mono C.size);refine Dj h3.h U fun w4 a4 c4=>?_;have M:=h3.setH c4 a4;have ar:=c3.trans c4 fun x I=>.inl (gD.2 (by rw[List.mem_singleton.1 I];simp));refine aw (fun _=>True) trivial (ab (fun x _ _ u=>cZ u) (ab (fun x _ _ u=>db u) ?_))
    refine nG fun w5 z5 b5 s5=>bR trivial (lj (e':=(eH l.V (nf l.V W E1) 6).getD evZ) z5 fun w6 z6 o6=>bR trivial ?_);have s4:=ar.size;exact ag (am (M.below b5) z5 s4 o6) z6 s4 ((ar.add (b5.mono s4)).add (bv (Below.refl _ w5) o6 s4))
   ·have h3:=J.below O;have c3:=C.add (O.mono C.size);refine nG fun w4 z4 b4 s4=>bR (h3.below b4).b ?_;have M:=h3.below b4;have s3:=c3.size;have c4:=c3.add (b4.mono s3);refine Dj M.h U fun w5 al c5=>?_;have h5:=M.setH c5 al;have z5:=z4.ch c5 fun hh=>M.h.mb' z4 (List.mem_singleton.1 hh);have af:=c4.trans c5 fun x I=>.inl (gD.2 (by rw[List.mem_singleton.1 I];simp))
    refine aw (fun _=>True) trivial (ab (fun x _ _ u=>cZ u) (ab (fun x _ _ u=>db u) ?_));refine lj (e':=(eH l.V (nf l.V W E1) 6).getD evZ) z5 fun w6 z6 o6=>bR trivial ?_;exact ag (am h5 z5 s3 o6) z6 s3 (af.add (bv (Below.refl _ w5) o6 s3))
  ·refine nG fun w3 z3 O s3=>bR (J.below O).b ?_;have h3:=J.below O;have c3:=C.add (O.mono C.size);have s2:=C.size;refine AB h3.pm fun w4 b4=>bR (h3.below b4).b ?_;have M:=h3.below b4;have z4:=ac b4 z3 z3.lt;have c4:=c3.add (b4.mono c3.size);refine Dj M.h U fun w5 al c5=>?_;have h5:=M.setH c5 al;have z5:=z4.ch c5 fun hh=>M.h.mb' z4 (List.mem_singleton.1 hh)
   have af:=c4.trans c5 fun x I=>.inl (gD.2 (by rw[List.mem_singleton.1 I];simp));refine aw (fun _=>True) trivial (ab (fun x _ _ u=>cZ u) (ab (fun x _ _ u=>db u) ?_));refine lj (e':=(eH l.V (nf l.V W E1) 6).getD evZ) z5 fun w6 z6 o6=>bR trivial ?_;exact ag (am h5 z5 s2 o6) z6 s2 (af.add (bv (Below.refl _ w5) o6 s2))
theorem u8K :zH Tryz.prog 5 (Value.int .u8):=LS underlying5
end
abbrev lr0 :List kN:=List.replicate 6 ⟨none,0,[]⟩
abbrev gp0 :List (List Int):=List.replicate 6 (List.replicate 6 0)
theorem SO.oth {s:PL}{t:STA}(h:SO w B s t a gc)(o:Oth z w w')(u:z<B):SO w' B s t a gc :=
 {h with
  nd:=cJ h.nd fun k j=>o.other k fun e=>by have:=(World.ownsRow.lt h.nd k j).1;omega
  gr:=cJ h.gr fun k j=>o.other k fun e=>by have:=(World.ownsRow.lt h.gr k j).1;omega}
theorem SO.fresh {s:PL}{t:STA}(h:SO w B s t a gc)(b:Below w.heap.size w w'):SO w' B s t a gc :=
 {h with
  nd:=cJ h.nd fun k j=>b.block k (World.ownsRow.lt h.nd k j).2
  gr:=cJ h.gr fun k j=>b.block k (World.ownsRow.lt h.gr k j).2}
def pV :Option Nat→Value
 | some b=>pB b
 | none=>.pointer none
structure DmM (w:World) (d m:Nat):Prop where
 b:blk w d 148 [.map (some m)]
 mb:MB u6 pV w m []
theorem DmM.below (h:DmM w d m)(j:Below w.heap.size w w'):DmM w' d m:=⟨ac j h.b h.b.lt,h.mb.below j⟩
section
variable {w:World}{K:KV}{R:RpB}{i:Nat}{l:PL}{W:HM}{Rw:List kN}{c:Int}{L:List (List Int)}
theorem Si (h:RpM w R i l W Rw c L)(hi:PI l)(hn:l.G.length≤1000000)(M:∀w' t J gc,SO w' (w.heap.size+2) l t J gc→Below w.heap.size w w'→K (.agg (saC t).toArray) w'):call Tryz.prog 8 #[pB R.p] K w:=by
 refine aj (goK func8) (sY ?_);refine dZ (z:=.agg (saC ⟨List.replicate 6 false,List.replicate 6 false,List.replicate 6 0,[],none,0,.slice none 0 0⟩).toArray) (by kernel_rfl) fun w1 j b1 s1=>?_;have j:blk w1 w.heap.size 45 (saC ⟨List.replicate 6 false,List.replicate 6 false,List.replicate 6 0,[],none,0,.slice none 0 0⟩):=by simpa[Value.cells]using j
 generalize O:saC ⟨List.replicate 6 false,List.replicate 6 false,List.replicate 6 0,[],none,0,.slice none 0 0⟩=zs at j;have aa:zs.length=20:=by rw[←O];rfl
 have g1:=h.below b1;refine wy (aO (ai (uN (lK (v:=pB R.q.p) g1.b rfl ?_))));refine HG g1.pm hi hn fun w2 t J gc u b2=>?_;have h2:=ac b2 j j.lt;have hl:(saC t).length=20:=rA (by rw[u.eI];exact hi.i6) (by rw[u.eL];exact hi.l6) (by rw[u.eV];exact hi.v6);have U:∀v∈saC t,v.oneCell'=true:=by
  intro v I;unfold saC at I;rw[u.gv]at I;simp only[List.mem_append,List.mem_map,List.mem_cons,List.not_mem_nil,or_false]at I;rcases I with((⟨_,_,rfl⟩|⟨_,_,rfl⟩)|⟨_,_,rfl⟩)|(rfl|rfl)<;>rfl
 refine jP (n:=20) (vs:=saC t) (by kernel_rfl) hl h2 (by omega) U fun w3 h3 o3=>?_;rw[List.take_zero,List.nil_append,List.drop_of_length_le (by omega),List.append_nil]at h3;refine vD (v:=.agg (saC t).toArray) (fun _ M=>ldA (n:=20) (vs:=saC t) underlying45 rfl (by kernel_rfl) h3 (by rw[List.drop_zero,List.take_of_length_le (by omega)]) hl M) ?_;have C:=u.oth o3 (by omega);rw[s1]at C
 exact M w3 t J gc C (bv (b1.trans (b2.mono b1.size)) o3 (Nat.le_refl _))
theorem UL (j:∀w',DmM w' (w.heap.size+1) w.heap.size→Below w.heap.size w w'→w'.heap.size=w.heap.size+2→K (pB (w.heap.size+1)) w'):call Tryz.prog 24 #[] K w:=by
 refine aj (goK func24) (KN (qZ underlying146 rfl u6 pV fun M u b1 C=>eT (vs:=[.map (some w.heap.size)]) (by kernel_rfl) (cv fun I h b2 J=>?_)));rw[C]at h ⊢;exact j I ⟨by simpa[Value.cells]using h,u.below b2⟩ (b1.trans (b2.mono b1.size)) (by omega)
end
end
section
open Go.RowKit Go.ChangeMaps
abbrev qW :Int:=1125899906842624
structure DmW (w:World) (d m:Nat) (ws:List (Int×Option Nat)):Prop where
 b:blk w d 148 [.map (some m)]
 mb:MB u6 pV w m ws
 wt:∀p∈ws,∃b a t x,p.2=some b∧blk w b 162 [u6 p.1,iv a,u6 t,u6 x]∧1≤a∧a≤qW∧p.1≠0
 few:ws.length≤32
def wB (ws:List (Int×Option Nat)):List Nat:=ws.filterMap (·.2)
theorem kb {ws:List (Int×Option Nat)}:k∈wB ws↔∃p∈ws,p.2=some k:=by
 unfold wB;rw[List.mem_filterMap]
section
variable {w w':World}{d m:Nat}{ws:List (Int×Option Nat)}
theorem DmW.wlt (h:DmW w d m ws)(u:k∈wB ws):∃cs,blk w k 162 cs:=by
 obtain⟨p,C,e⟩:=kb.1 u;obtain⟨b,a,t,x,j,I,_⟩:=h.wt p C;rw[j]at e;cases e;exact⟨_,I⟩
theorem DmW.lt (h:DmW w d m ws):∀k∈d::m::wB ws,k<w.heap.size:=by
 intro k j;rcases List.mem_cons.1 j with rfl|j
 ·exact h.b.lt
 ·rcases List.mem_cons.1 j with rfl|j
  ·exact h.mb.lt
  ·obtain⟨cs,u⟩:=h.wlt j;exact u.lt
theorem DmW.keep (h:DmW w d m ws)(j:∀k∈d::m::wB ws,w'.heap[k]? = w.heap[k]?):DmW w' d m ws :=
 ⟨by have:=h.b;unfold blk at *; rw[j d (by simp)];exact this,h.mb.kept (j m (by simp)),fun p C=>by
  obtain⟨b,a,t,x,u,J,I⟩:=h.wt p C;refine⟨b,a,t,x,u,?_,I⟩;unfold blk at *;rw[j b (by simp[kb];exact .inr (.inr ⟨p.1,by rw[←u];exact C⟩))];exact J,h.few⟩
theorem DmW.below (h:DmW w d m ws)(j:Below w.heap.size w w'):DmW w' d m ws:=h.keep fun k u=>j.block k (h.lt k u)
end
structure RpX where
 R:RpB
 m:Nat
 ws:List (Int×Option Nat)
 Rw:List kN
def FF (X:RpX):List Nat:=RpF X.R X.Rw++X.m::wB X.ws
def AF (X:RpX):List Nat:=X.R.p::X.R.h::X.R.d::X.R.q.l++FF X
theorem gX {X:RpX}:k∈FF X↔k∈RpF X.R X.Rw∨k=X.m∨k∈wB X.ws:=by simp[FF]
theorem gl {X:RpX}:k∈AF X↔k=X.R.p∨k=X.R.h∨k=X.R.d∨k∈X.R.q.l∨k∈FF X:=by simp[AF]
structure RepW (w:World) (i:Nat) (X:RpX) (s:RS):Prop where
 rp:RpM w X.R (i+1) s.l [] X.Rw (s.A.length:Nat) s.P
 it:jb X.Rw=lp s.A
 dm:DmW w X.R.d X.m X.ws
 dq:X.R.d∉X.R.q.l
 nq:X.m∉X.R.q.l
 nm:X.m≠X.R.m
 wq:∀k∈wB X.ws,k∉X.R.q.l
section
variable {w w':World}{i:Nat}{X:RpX}{s:RS}
theorem RepW.lt (h:RepW w i X s):∀k∈AF X,k<w.heap.size:=fun k j=>by
 rcases gl.1 j with rfl|rfl|rfl|j|j
 ·exact h.rp.b.lt
 ·exact h.rp.h.b.lt
 ·exact h.dm.b.lt
 ·exact h.rp.pm.lt k j
 ·rcases gX.1 j with j|rfl|j
  ·exact h.rp.lt k j
  ·exact h.dm.mb.lt
  ·exact h.dm.lt k (by simp[j])
theorem RepW.keep (h:RepW w i X s)(u:∀k∈AF X,w'.heap[k]? = w.heap[k]?):RepW w' i X s :=
 {h with
  rp:=h.rp.keep fun k j => u k (gl.2 (by
   rcases j with h|h|h|h
   ·exact .inl h
   ·exact .inr (.inl h)
   ·exact .inr (.inr (.inr (.inl h)))
   ·exact .inr (.inr (.inr (.inr (gX.2 (.inl h)))))))
  dm:=h.dm.keep fun k j => u k (gl.2 (by
   rcases List.mem_cons.1 j with h|h
   ·exact .inr (.inr (.inl h))
   ·exact .inr (.inr (.inr (.inr (gX.2 (.inr (List.mem_cons.1 h))))))))}
theorem RepW.below (h:RepW w i X s)(j:Below w.heap.size w w'):RepW w' i X s:=h.keep fun k u=>j.block k (h.lt k u)
theorem RepW.ch (h:RepW w i X s)(u:Ch F w w')(hF:∀k∈AF X,k∉F):RepW w' i X s:=h.keep fun k j=>u.block k (h.lt k j) (hF k j)
theorem MB.ne {kv:Int→Value}{ws:List (Int×Option Nat)}(h:MB kv pV w b ws)(j:blk w k E cs):k≠b:=fun e=>by
 obtain⟨es,c,u⟩:=h;unfold blk at j;rw[e,u.heap]at j;cases j
theorem RepW.dF (h:RepW w i X s):∀k∈X.R.d::X.m::wB X.ws,k∉RpF X.R X.Rw:=fun k C=>by
 rcases List.mem_cons.1 C with rfl|C
 ·exact h.rp.out h.dm.b (by decide) (by decide) (by decide) h.dq
 ·rcases List.mem_cons.1 C with rfl|C
  ·intro u;rcases gD.1 u with u|u|u|u|u
   ·exact h.nq (LB.wl _ u)
   ·exact h.dm.mb.ne h.rp.g.b u.symm
   ·obtain⟨j,r,O,e⟩:=h.rp.g.in u;obtain⟨I,M⟩:=h.rp.g.cur O e;exact h.dm.mb.ne (show blk w X.m 200 I.toList by unfold blk;rw[M]) rfl
   ·exact h.nm u
   ·exact h.dm.mb.ne h.rp.e.b u.symm
  ·obtain⟨cs,J⟩:=h.dm.wlt C;exact h.rp.out J (by decide) (by decide) (by decide) (h.wq k C)
theorem RepW.turn {j:List kN}{s':RS}(h:RepW w i X s)(I:RpM w' X.R (i+1) s'.l [] j (s'.A.length:Nat) s'.P)(hi:jb j=lp s'.A)(C:Ch (RpF X.R X.Rw) w w'):RepW w' i {X with Rw:=j} s' :=
 {h with
  rp:=I
  it:=hi
  dm:=h.dm.keep fun k u=>C.block k (h.dm.lt k u) (h.dF k u)}
theorem RepW.want {C:List (Int×Option Nat)}(h:RepW w i X s)(hd:DmW w' X.R.d X.m C)(U:Ch (X.m::wB X.ws) w w')(hn:∀k∈wB C,k∈wB X.ws∨w.heap.size≤k):RepW w' i {X with ws:=C} s:=by
 refine {h with dm:=hd,wq:=fun k u O=>(hn k u).elim (fun M=>h.wq k M O) (fun M=>by have:=h.rp.pm.lt k O;omega),rp:=h.rp.keep fun k u=>?_};have J:k<w.heap.size:=h.lt k (gl.2 (by
   rcases u with h|h|h|h
   ·exact .inl h
   ·exact .inr (.inl h)
   ·exact .inr (.inr (.inr (.inl h)))
   ·exact .inr (.inr (.inr (.inr (gX.2 (.inl h)))))))
 refine U.block k J fun j=>?_;rcases u with rfl|rfl|u|u
 ·rcases List.mem_cons.1 j with e|j
  ·exact h.dm.mb.ne h.rp.b e
  ·obtain⟨cs,I⟩:=h.dm.wlt j;exact absurd rfl (I.ne h.rp.b (by decide))
 ·rcases List.mem_cons.1 j with e|j
  ·exact h.dm.mb.ne h.rp.h.b e
  ·obtain⟨cs,I⟩:=h.dm.wlt j;exact absurd rfl (I.ne h.rp.h.b (by decide))
 ·rcases List.mem_cons.1 j with rfl|j
  ·exact h.nq u
  ·exact h.wq k j u
 ·exact h.dF k (List.mem_cons_of_mem _ j) u
end
structure StpX (w w':World) (X X':RpX):Prop where
 R:X'.R=X.R
 m:X'.m=X.m
 ch:Ch (FF X) w w'
 new:∀k∈FF X',k∈FF X∨w.heap.size≤k
theorem StpX.af {X X':RpX}(h:StpX w w' X X'):∀k∈AF X',k∈AF X∨w.heap.size≤k:=fun k j=>by
 rcases gl.1 j with j|j|j|j|j
 ·exact .inl (gl.2 (.inl (h.R ▸ j)))
 ·exact .inl (gl.2 (.inr (.inl (h.R ▸ j))))
 ·exact .inl (gl.2 (.inr (.inr (.inl (h.R ▸ j)))))
 ·exact .inl (gl.2 (.inr (.inr (.inr (.inl (h.R ▸ j))))))
 ·exact(h.new k j).imp (fun u=>gl.2 (.inr (.inr (.inr (.inr u))))) id
theorem StpX.refl {X:RpX}(h:Below w.heap.size w w'):StpX w w' X X:=⟨rfl,rfl,Ch.of_below h,fun _ j=>.inl j⟩
theorem StpX.trans {a b c:World}{X Y Z:RpX}(h:StpX a b X Y)(k:StpX b c Y Z):StpX a c X Z :=
 have C:=h.ch.size
 ⟨k.R.trans h.R,k.m.trans h.m,h.ch.trans k.ch h.new,fun x u=>(k.new x u).elim (fun j=>h.new x j) fun j=>.inr (by omega)⟩
theorem StpX.rw {X:RpX}{j:List kN}(u:Ch (RpF X.R X.Rw) w w')(C:∀k∈lrB j,k∈lrB X.Rw∨w.heap.size≤k):StpX w w' X {X with Rw:=j} :=
 ⟨rfl,rfl,u.mono fun k h=>gX.2 (.inl h),fun k h=>by
  rcases gX.1 h with h|h
  ·rcases gD.1 h with h|h|h|h
   ·exact .inl (gX.2 (.inl (gD.2 (.inl h))))
   ·exact .inl (gX.2 (.inl (gD.2 (.inr (.inl h)))))
   ·exact(C k h).imp (fun h=>gX.2 (.inl (gD.2 (.inr (.inr (.inl h)))))) id
   ·exact .inl (gX.2 (.inl (gD.2 (.inr (.inr (.inr h))))))
  ·exact .inl (gX.2 (.inr h))⟩
theorem StpX.ws {X:RpX}{j:List (Int×Option Nat)}(u:Ch (X.m::wB X.ws) w w')(C:∀k∈wB j,k∈wB X.ws∨w.heap.size≤k):StpX w w' X {X with ws:=j} :=
 ⟨rfl,rfl,u.mono fun k h=>gX.2 (.inr (List.mem_cons.1 h)),fun k h=>by
  rcases gX.1 h with h|h|h
  ·exact .inl (gX.2 (.inl h))
  ·exact .inl (gX.2 (.inr (.inl h)))
  ·exact(C k h).imp (fun h=>gX.2 (.inr (.inr h))) id⟩
def upX (X:Nat→RpX)(i:Nat)(x:RpX):Nat→RpX:=fun j=>if j=i then x else X j
theorem kt {X:Nat→RpX}{x:RpX}:upX X i x i=x:=if_pos rfl
theorem ke {X:Nat→RpX}{x:RpX}(h:j≠i):upX X i x j=X j:=if_neg h
structure WW (w:World) (B k:Nat) (X:Nat→RpX) (S:Nat→RS) (Z:List Nat):Prop where
 rp:∀i,i<k→RepW w i (X i) (S i)
 sep:∀i j,i<k→j<k→i≠j→∀x∈AF (X i),x∉FF (X j)
 z:∀i,i<k→∀x∈Z,x∉AF (X i)
 zl:∀x∈Z,x<w.heap.size
 lo:∀i,i<k→∀x∈FF (X i),B≤x
section
variable {w w':World}{B k i:Nat}{X:Nat→RpX}{S:Nat→RS}{Z Z':List Nat}{x':RpX}{s':RS}
theorem WW.zF (h:WW w B k X S Z)(hi:i<k):∀x∈Z,x∉FF (X i):=fun x u j=>h.z i hi x u (gl.2 (.inr (.inr (.inr (.inr j)))))
theorem WW.call (h:WW w B k X S Z)(hi:i<k)(O:StpX w w' (X i) x')(hr:RepW w' i x' s')(hB:B≤w.heap.size):WW w' B k (upX X i x') (upS S i s') Z:=by
 have sz:=O.ch.size;refine⟨fun j M=>?_,fun a b ha hb I x u=>?_,fun j M x u=>?_,fun x u=>Nat.lt_of_lt_of_le (h.zl x u) sz,fun j M x u=>?_⟩
 ·by_cases C:j=i
  ·subst C;rw[kt,gR];exact hr
  ·rw[ke C,jd C];exact(h.rp j M).ch O.ch fun x u=>h.sep j i M hi C x u
 ·by_cases U:a=i
  ·subst U;rw[kt]at u;rw[ke fun e=>I e.symm];rcases O.af x u with u|u
   ·exact h.sep a b ha hb I x u
   ·exact fun hh=>by have:=(h.rp b hb).lt x (gl.2 (.inr (.inr (.inr (.inr hh)))));omega
  ·rw[ke U]at u;by_cases aa:b=i
   ·subst aa;rw[kt];exact fun hh=>(O.new x hh).elim (fun J=>h.sep a b ha hb I x u J) fun J=>by have:=(h.rp a ha).lt x u;omega
   ·rw[ke aa];exact h.sep a b ha hb I x u
 ·by_cases C:j=i
  ·subst C;rw[kt];exact fun hh=>(O.af x hh).elim (fun J=>h.z j M x u J) fun J=>by have:=h.zl x u;omega
  ·rw[ke C];exact h.z j M x u
 ·by_cases C:j=i
  ·subst C;rw[kt]at u;exact(O.new x u).elim (fun J=>h.lo j M x J) fun J=>by omega
  ·rw[ke C]at u;exact h.lo j M x u
theorem WW.below (h:WW w B k X S Z)(u:Below w.heap.size w w'):WW w' B k X S Z :=
 ⟨fun j C=>(h.rp j C).below u,h.sep,h.z,fun x I=>Nat.lt_of_lt_of_le (h.zl x I) u.size,h.lo⟩
theorem WW.own (h:WW w B k X S Z)(O:Ch Z w w')(J:∀x∈Z',(x∈Z∨w.heap.size≤x)∧x<w'.heap.size):WW w' B k X S Z' :=
 ⟨fun j u=>(h.rp j u).ch O fun x C U=>h.z j u x U C,h.sep,fun j u x C M=>(J x C).1.elim (fun I=>h.z j u x I M) fun I=>by have:=(h.rp j u).lt x M;omega,fun x C=>(J x C).2,h.lo⟩
theorem WW.bel (h:WW w B k X S Z)(hi:i<k)(u:StpX w w' (X i) x')(j:B≤w.heap.size):Below B w w':=u.ch.below (h.lo i hi) j
end
end
section
attribute [local irreducible] bin un conv call bY blt slc aT fld aV idx lkp dO gY eSt rng nxt ent ext alc box bld bT ld sto aU dE mkS ifc pick rdy wts aI sti cond bp Gives ae fh fT cOp
open Go.RowKit
theorem Rb (h:K (.pointer (some ⟨b,o+0,none⟩)) w):aT Tryz.prog 148 (.pointer (some ⟨b,o,none⟩)) 0 K w:=aK (by kernel_rfl) h
theorem mH (h:K (.pointer (some ⟨b,o+0,none⟩)) w):aT Tryz.prog 162 (.pointer (some ⟨b,o,none⟩)) 0 K w:=aK (by kernel_rfl) h
theorem Bv (h:K (.pointer (some ⟨b,o+2,none⟩)) w):aT Tryz.prog 162 (.pointer (some ⟨b,o,none⟩)) 1 K w:=aK (by kernel_rfl) h
theorem yq (h:K (.pointer (some ⟨b,o+3,none⟩)) w):aT Tryz.prog 162 (.pointer (some ⟨b,o,none⟩)) 2 K w:=aK (by kernel_rfl) h
theorem lZ (h:K (.pointer (some ⟨b,o+0,none⟩)) w):aT Tryz.prog 102 (.pointer (some ⟨b,o,none⟩)) 0 K w:=aK (by kernel_rfl) h
theorem xu (h:K (.pointer (some ⟨b,o+1,none⟩)) w):aT Tryz.prog 102 (.pointer (some ⟨b,o,none⟩)) 1 K w:=aK (by kernel_rfl) h
def wtC (k a t x:Int):List Value:=[u6 k,iv a,u6 t,u6 x]
def IsW (w:World)(p:Int×Nat):Prop:=∃a t x,blk w p.2 162 (wtC p.1 a t x)
theorem Tg (h:K (.bool false) w):bin Tryz.prog .eql 88 cx cy (pB b) (.pointer none) K w :=
 jm (by unfold eqG eqGuard;rfl) (by kernel_rfl) h
theorem My {p q:Int×Nat}{W:World}(I:IsW W p)(J:IsW W q):Calls Tryz.prog 101 (#[pB p.2,pB q.2]++#[]) W fun e w' => e=.returned (.int .i64 (tT p.1 q.1))∧∃n os',w'=Go.Sort.grow (W.drewN n) os':=by
 obtain⟨a,t,x,I⟩:=I;obtain⟨M,t',x',J⟩:=J;have C:Gives Tryz.prog 101 #[pB p.2,pB q.2] W fun v w' => v=.int .i64 (tT p.1 q.1)∧∃n os',w'=Go.Sort.grow (W.drewN n) os':=by
  refine sD <|aw (fun u=>blk u p.2 162 (wtC p.1 a t x)∧blk u q.2 162 (wtC q.1 M t' x')) ⟨I.drew,J.drew⟩ ?_;refine ab (fun u j _=>ai) (ab (fun u j _=>mH) (ab (fun u j _=>lZ) (ab (fun u j _=>lK (v:=u6 p.1) j.1 rfl) ?_)));refine ab (fun u j _=>ai) (ab (fun u j _=>mH) (ab (fun u j _=>lZ) (ab (fun u j _=>lK (v:=u6 q.1) j.2 rfl) ?_)));refine VN (aw (fun _=>True) trivial ⟨rfl,1,#[],?_⟩)
  unfold Go.Sort.grow World.drewN World.drew;simp
 rw[show (#[pB p.2,pB q.2]++#[]:Array Value)=#[pB p.2,pB q.2]from rfl];unfold Gives at C;exact Calls.mono C fun _ _ ⟨v,O,U,hw⟩=>⟨by rw[O,U],hw⟩
open Go.Sort in
theorem BL [Inhabited α]{enc:α→Value}{d:Array α}{os:Array Obj}(j:b<w.heap.size)(h:b≠g):(sortWorld enc w g 0 m d os).heap[b]? = w.heap[b]? := by
 show (w.heap.modify g _++os)[b]? = _;rw[Array.getElem?_append_left (by simpa using j),Array.getElem?_modify,if_neg (fun e=>h e.symm)]
open Go.Sort in
theorem Ps [Inhabited α]{enc:α→Value}{d:Array α}{os:Array Obj}:sortWorld enc w g 0 m d os=sortWorldK (fun x=>[enc x]) 1 w g 0 m d os:=by
 have e:∀c:Array Value,putCells enc 0 d c=putCells id 0 (flatK (fun x=>[enc x]) 1 d) c:=fun c=>by
  apply Array.ext_getElem?;intro k;unfold putCells;rw[Array.getElem?_mapIdx,Array.getElem?_mapIdx,size_flatK,Nat.mul_one];by_cases h:0≤k∧k<0+d.size
  ·have j:k<d.size*1:=by omega
   cases c[k]? with
   | none=>rfl
   | some v =>
    rw[Option.map_some,Option.map_some,if_pos h,if_pos h,Nat.sub_zero,get_flatK _ _ _ _ j,Nat.div_one,Nat.mod_one];rfl
  ·cases c[k]? with
   | none=>rfl
   | some v=>rw[Option.map_some,Option.map_some,if_neg h,if_neg h]
 show grow (mapBlock (Go.Sort.ahead w m) g (putCells enc 0 d)) os=grow (mapBlock (Go.Sort.ahead w m) g (putCells id 0 (flatK (fun x=>[enc x]) 1 d))) os;rw[show putCells enc 0 d=putCells id 0 (flatK (fun x=>[enc x]) 1 d)from funext e]
open Go.Sort in
theorem Ie (hr:w.ownsRow B 160 1 (.slice a n c) n (F.flatMap fun b=>[pB b]))(hl:F.length=n)(hn:n<4611686018427387904)(hw:∀b∈F,∃k,IsW w (k,b))(h:∀(w':World) (M:List Nat),M.Perm F→w'.ownsRow B 160 1 (.slice a n c) n (M.flatMap fun b=>[pB b])→w.grownBy w' (Value.slice a n c).ownBlock→K (.tuple #[]) w'):call Tryz.prog 100 #[.slice a n c,.func (.func 101) #[] #[]] K w:=by
 have af:EO Tryz.prog 100:=⟨_,func100,by kernel_rfl,by kernel_rfl⟩
 refine aj af ?_;unfold Gives;by_cases hz:n=0
 ·subst hz;have hG:F=[]:=List.eq_nil_of_length_eq_zero hl;subst hG;have J:=AnyF.slices_SortFunc_none {Tryz.sortWt with} a c (.func (.func 101) #[] #[]) w;change Calls Tryz.prog 100 _ _ _ at J;refine Calls.mono J fun e w' he=>?_;obtain⟨rfl,rfl⟩:=he;exact⟨_,rfl,h _ [] (List.Perm.refl _) hr ⟨rfl,rfl,rfl,Nat.le_refl _,fun _ _ _=>rfl⟩⟩
 ·obtain⟨g,ag,rfl,I⟩:=cq hr (by omega);subst hl;obtain⟨D,O⟩:∃D:List {p:Int×Nat // IsW w p},D.map (fun p=>p.1.2)=F:=by
   clear h hr I hz hn
   induction F with
   | nil=>exact⟨[],rfl⟩
   | cons b F ih =>
    obtain⟨D,O⟩:=ih fun b hb=>hw b (List.mem_cons_of_mem _ hb);obtain⟨k,hk⟩:=hw b (by simp);exact⟨⟨(k,b),hk⟩::D,by rw[List.map_cons,O]⟩
  have u:D.length=F.length:=by rw[←O,List.length_map]
  haveI:Inhabited {p:Int×Nat // IsW w p}:=⟨D[0]'(by omega)⟩
  have ad:F.flatMap (fun b=>[pB b])=D.flatMap fun p=>[pB p.1.2]:=by rw[←O,List.flatMap_map]
  rw[ad]at I;have C:∀p : {p:Int×Nat // IsW w p},p.1.2≠g∧p.1.2<w.heap.size:=fun p=>by
   obtain⟨_,_,_,hp⟩:=p.2;exact⟨fun e=>(hp.ne I.blk (by decide)) e,hp.lt⟩
  have hH:Holds (fun p : {p:Int×Nat // IsW w p} => pB p.1.2) w g 0 D.toArray:=by
   intro j hj;have hj:j<D.length:=by simpa using hj
   have hx:D[j]? = some D[j]:=List.getElem?_eq_getElem hj;refine⟨?_,?_⟩
   ·have:=I.cell (s:=1) (enc:=fun p : {p:Int×Nat // IsW w p} => [pB p.1.2]) (fun _=>rfl) u hx (show 0<1 by omega)
    rw[I.blk.cell,Nat.zero_add];rw[show j*1+0=j by omega]at this;rw[this];simp[hj]
   ·have U:=I.blk;unfold Go.Proofs.YtkbhfjljieopoaaGreatDoor.blk at U;unfold World.frozen?;rw[U];rfl
  have J:=Any.slices_SortFunc Tryz.sortWt (fun p : {p:Int×Nat // IsW w p} => pB p.1.2) (fun _=>rfl) (fun x y=>tT x.1.1 y.1.1) (swoZ fun x : {p:Int×Nat // IsW w p} => x.1.1) 101 #[] g 0 c D.toArray w
   (enters_of func101 (by kernel_rfl) rfl) (fun m os dk _ x y=>My (p:=x.1) (q:=y.1) (by
    obtain⟨a1,t1,x1,h1⟩:=x.2;refine⟨a1,t1,x1,?_⟩;unfold Go.Proofs.YtkbhfjljieopoaaGreatDoor.blk at *;rw[BL (C x).2 (C x).1];exact h1) (by
    obtain⟨a1,t1,x1,h1⟩:=y.2;refine⟨a1,t1,x1,?_⟩;unfold Go.Proofs.YtkbhfjljieopoaaGreatDoor.blk at *;rw[BL (C y).2 (C y).1];exact h1)) hH I.blk.lt (by simpa[u]using hn)
  change Calls Tryz.prog 100 _ _ _ at J;rw[List.size_toArray,u]at J;refine Calls.mono J fun e w' he=>?_;obtain⟨rfl,d',m,os,hp,hs,rfl⟩:=he;have hd:d'.toList.toArray=d':=rfl;have aa:d'.toList.length=F.length:=by
   have:=hp.1
   simpa[u]using this
  rw[←hd,Ps];obtain⟨o2,g2⟩:=xD (k0:=1) (m:=m) (os:=os) Nat.one_pos (fun _=>rfl) I (G':=d'.toList) aa;refine⟨_,rfl,h _ (d'.toList.map fun p=>p.1.2) ?_ ?_ g2⟩
  ·have h2:=hp.2.2;have e1:d'.extract 0 F.length=d':=by rw[←aa];simp
   have e2:D.toArray.extract 0 F.length=D.toArray:=by rw[←u];simp
   rw[e1,e2]at h2;rw[←O];exact List.Perm.map _ h2
  ·rw[List.flatMap_map];exact o2.own
end
section
open Go.RowKit
instance:Inhabited (EV×Int):=⟨(evZ,0)⟩
def tl (A:List EV)(v:List Int):List EV:=((zA A v).take 16).map (·.1)
theorem Ei {A:List EV}:(gj A v n).length≤A.length:=by
 have:=pS (l:=gj A v n) (l':=A.zipIdx.map toI) xU fun x u=>by
  obtain⟨p,h,_,_,j⟩:=xC.1 u;exact List.mem_map.2 ⟨p,h,j⟩
 rwa[List.length_map,List.length_zipIdx]at this
theorem AA {α:Type}{enc:α→List Value}{s:Nat}(h:∀x,(enc x).length=s):∀(L:List α) (q:Nat),(L.flatMap enc).drop (q*s)=(L.drop q).flatMap enc
 | [],q=>by simp
 | x::L,0=>by simp
 | x::L,q+1=>by
  rw[List.flatMap_cons,List.drop_succ_cons,List.drop_append,List.drop_of_length_le (by rw[h,Nat.succ_mul];omega),List.nil_append,h,show (q+1)*s-s=q*s by rw[Nat.succ_mul];omega,AA h L q]
theorem AC {α:Type}{enc:α→List Value}{s:Nat}(h:∀x,(enc x).length=s):∀(L:List α) (q:Nat),(L.flatMap enc).take (q*s)=(L.take q).flatMap enc
 | [],q=>by simp
 | x::L,0=>by simp
 | x::L,q+1=>by
  rw[List.flatMap_cons,List.take_succ_cons,List.take_append,List.take_of_length_le (by rw[h,Nat.succ_mul];omega),h,show (q+1)*s-s=q*s by rw[Nat.succ_mul];omega,AC h L q,List.flatMap_cons]
section
variable {P:Program}{w:World}{K:KV}
theorem JM {t e ty : TypeId} {cs : Array Bool} {s m c c2 : Nat} {av x : Option Addr} (ht : P.underlying t = some (.slice e)) (hs : ∀ w, (sizeOf e).run P w = .ok s w) (hc : m ≤ c) (h : K (.slice av m c) w) : blt P .append #[t, t] ty cs #[.slice av m c, .slice x 0 c2] K w := by
  refine qv (v := .slice av m c) (w' := w) ?_ h
  rw [BigFrame.builtin_append]
  cases av <;> cases x <;> simp [Builtin.append_, run_underlying ht, hs, Builtin.lenOf, Builtin.firstCells, Sem.run_pure, Sem.run_bind, Result.andThen, hc, storeCells, loadCells, loadCellsFrom]
end
attribute [local irreducible] bin un conv call bY blt slc aT fld aV idx lkp dO gY eSt rng nxt ent ext alc box bld bT ld sto aU dE mkS ifc pick rdy wts aI sti cond bp Gives ae fh fT cOp
theorem Mv {x:EV×Int}{v:Int}(h:∀w',Below w.heap.size w w'→K (iv (if x.1.s≤v then -1 else 1)) w'):call Tryz.prog 146 #[.agg (itC x).toArray,u6 v] K w:=by
 refine aj (goK func146) (Gu (cv fun C u b1 I=>?_));have u:blk C w.heap.size 200 (itC x):=by simpa[Value.cells]using u
 refine aK (off:=0) (by kernel_rfl) (iZ (lK (v:=u6 x.1.s) u rfl (fU ?_)))
 have:=h C b1
 by_cases j:x.1.s≤v
 ·rw[if_pos j]at this;exact ax j this
 ·rw[if_neg j]at this;exact aq j this
theorem Ho {L:List (EV×Int)}{v:Int}(hr:w.ownsRow B 200 15 (.slice a n c) n (L.flatMap itC))(hl:L.length=n)(hn:n≤1000000)(hs:L.Pairwise fun x y=>x.1.s<y.1.s)(h:∀w' (q:Nat),q≤n→L.drop q=L.filter (fun p=>decide (v<p.1.s))→Below w.heap.size w w'→K (iv (q:Nat)) w'):call Tryz.prog 105 #[.slice a n c,u6 v] K w:=by
 refine aj (goK func105) (By (aj (goK func145) (iV (bj underlying136 ?_))));refine iB (Inv:=fun i j wr=>∃p q:Nat,i=iv (p:Nat)∧j=iv (q:Nat)∧p≤q∧q≤n∧(∀(k:Nat) x,L[k]? = some x→k<p→x.1.s≤v)∧(∀(k:Nat) x,L[k]? = some x→q≤k→v<x.1.s)∧Below w.heap.size w wr) (μ:=fun i j _=>(intOf j).toNat-(intOf i).toNat)
  ⟨0,n,rfl,rfl,Nat.zero_le _,Nat.le_refl _,fun k x _ I=>by omega,fun k x u I=>by have:=(List.getElem?_eq_some_iff.1 u).1;omega,Below.refl _ _⟩ ?_
 rintro _ _ dd w1 mu ⟨p,q,rfl,rfl,av,U,h1,h2,b1⟩ ad;have af:=cJ hr (w':=w1) fun k I=>b1.block k (World.ownsRow.lt hr k I).2;have M:∀(i j:Nat) x y,L[i]? = some x→L[j]? = some y→i<j→x.1.s<y.1.s:=fun i j x y u J ag=>by
  obtain⟨a1,rfl⟩:=List.getElem?_eq_some_iff.1 u;obtain⟨a2,rfl⟩:=List.getElem?_eq_some_iff.1 J;exact List.pairwise_iff_getElem.1 hs i j a1 a2 ag
 refine aM ?_;by_cases ap:p<q
 ·refine ax (by omega) (aW (by omega) (by omega) (dS underlying3 underlying196 ?_));rw[show IntKind.u64.wrap ((p:Int)+(q:Nat))=((p+q:Nat):Int)by rw[gF];omega];refine Np (by omega) ?_;rw[show Int.fdiv ((p+q:Nat):Int) (2 ^ (min (1:Int).toNat IntKind.u64.bits))=(((p+q) / 2:Nat):Int)by
   rw[show (2:Int) ^ (min (1:Int).toNat IntKind.u64.bits)=2 from rfl,Int.fdiv_eq_ediv_of_nonneg _ (by omega)];omega]
  refine dS underlying196 underlying3 ?_;rw[eK (by omega) (by omega)];generalize hm:(p+q) / 2=m;have al:p≤m:=by omega
  have am:m<q:=by omega
  have u:L[m]? = some L[m]:=List.getElem?_eq_getElem (by omega);generalize L[m]=x at u;refine Ge (i:=m) (enc:=itC) (s:=15) (L:=L) (x:=x) underlying136 (fun _=>by kernel_rfl) underlying200 rfl (by kernel_rfl) FU af hl u fun _=>fM rfl (Mv fun w2 b2=>aM ?_);have C:=b1.trans (b2.mono b1.size);by_cases aa:x.1.s≤v
  ·rw[if_pos aa];refine ax (by omega) (aW (by omega) (by omega) ⟨⟨m+1,q,congrArg iv (by push_cast;rfl),rfl,am,U,fun k y J I=>?_,h2,C⟩,?_⟩)
   ·by_cases O:k=m
    ·subst O;rw[u]at J;cases J;exact aa
    ·have:=M k m y x J u (by omega);omega
   ·rw[ad];show (q:Int).toNat-((m:Int)+1).toNat<(q:Int).toNat-(p:Int).toNat;omega
  ·rw[if_neg aa];refine aq (by omega) ⟨⟨p,m,rfl,rfl,al,by omega,h1,fun k y J I=>?_,C⟩,?_⟩
   ·by_cases O:k=m
    ·subst O;rw[u]at J;cases J;omega
    ·have:=M m k x y u J (by omega);omega
   ·rw[ad];show (m:Int).toNat-(p:Int).toNat<(q:Int).toNat-(p:Int).toNat;omega
 ·have an:p=q:=by omega
  subst an;have hd:=yo (p:=fun p=>decide (v<p.1.s)) (l:=L) (i:=p) (fun k x u I=>decide_eq_false (by have:=h1 k x u I;omega)) fun k x u I=>decide_eq_true (h2 k x u I);refine aq (by omega) (iC (aM ?_));by_cases ar:p<n
  ·have u:L[p]? = some L[p]:=List.getElem?_eq_getElem (by omega);generalize L[p]=x at u;refine dD (by omega) (Ge (i:=p) (enc:=itC) (s:=15) (L:=L) (x:=x) underlying136 (fun _=>by kernel_rfl) underlying200 rfl (by kernel_rfl) FU af hl u fun _=>fM rfl (Mv fun w2 b2=>cA ?_));have C:=b1.trans (b2.mono b1.size);exact bO (by omega) (cZ (db (h w2 p U hd C)))
  ·exact dY (by omega) (bw (by omega) (cZ (db (h w1 p U hd b1))))
theorem ME (x y:EV×Int)(W:World):Calls Tryz.prog 107 (#[.agg (itC x).toArray,.agg (itC y).toArray]++#[]) W fun e w' => e=.returned (.int .i64 (tT x.2 y.2))∧∃q os',w'=Go.Sort.grow (W.drewN q) os':=by
 have h:Gives Tryz.prog 107 #[.agg (itC x).toArray,.agg (itC y).toArray] W fun v w' => v=.int .i64 (tT x.2 y.2)∧∃q os',w'=Go.Sort.grow (W.drewN q) os':=by
  refine wQ ?_;refine Pi (Pi ?_);generalize u:W.alloc (.cells (Value.agg (itC x).toArray).cells 200)=w1;have a1:blk w1 W.heap.size 200 (itC x):=by
   rw[←u];unfold Go.Proofs.YtkbhfjljieopoaaGreatDoor.blk;rw[heap_alloc_new];rfl
  generalize j:w1.alloc (.cells (Value.agg (itC y).toArray).cells 200)=w2;have b2:blk w2 w1.heap.size 200 (itC y):=by
   rw[←j];unfold Go.Proofs.YtkbhfjljieopoaaGreatDoor.blk;rw[heap_alloc_new];rfl
  have b1:blk w2 W.heap.size 200 (itC x):=by
   rw[←j];exact ac (dW (World.grownBy_alloc _ _ none) (Nat.le_refl _) (fun k I=>by cases I)) a1 a1.lt
  refine aK (off:=14) (by kernel_rfl) (lK (v:=u6 x.2) b1 rfl ?_);refine aK (off:=14) (by kernel_rfl) (lK (v:=u6 y.2) b2 rfl ?_);refine VN ⟨rfl,0,#[.cells (Value.agg (itC x).toArray).cells 200,.cells (Value.agg (itC y).toArray).cells 200],?_⟩;rw[←j, ←u];unfold Go.Sort.grow World.drewN World.alloc
  simp only[Array.push_eq_append,Array.append_assoc,List.append_toArray,List.cons_append,List.nil_append];rfl
 rw[show (#[.agg (itC x).toArray,.agg (itC y).toArray]++#[]:Array Value)=#[.agg (itC x).toArray,.agg (itC y).toArray]from rfl];unfold Gives at h;exact Calls.mono h fun _ _ ⟨v,C,J,M⟩=>⟨by rw[C,J],M⟩
theorem IA {G:List (EV×Int)}(U:w.ownsRow B 200 15 (.slice a n c) n (G.flatMap itC))(J:G.length=n)(M:n<4611686018427387904)(h:∀(w':World) (G':List (EV×Int)),G'.Perm G→G'.Pairwise (fun x y=>¬y.2<x.2)→w'.ownsRow B 200 15 (.slice a n c) n (G'.flatMap itC)→w.grownBy w' (Value.slice a n c).ownBlock→K (.tuple #[]) w'):call Tryz.prog 106 #[.slice a n c,.func (.func 107) #[] #[]] K w :=
 II (by omega) FU JD Tryz.sortIt (fun W=>by kernel_rfl) (fun W=>by kernel_rfl) (swoZ (fun x:EV×Int=>x.2)) (enters_of func107 (by kernel_rfl) rfl) ⟨_,func106,by kernel_rfl,by kernel_rfl⟩ ME U J M
  fun w' G' O hs u I=>h w' G' O (hs.imp fun {x y} C j=>C (by show tT y.2 x.2<0;unfold tT;rw[if_pos j];decide)) u I
end
section
attribute [local irreducible] bin un conv call bY blt slc aT fld aV idx lkp dO gY eSt rng nxt ent ext alc box bld bT ld sto aU dE mkS ifc pick rdy wts aI sti cond bp Gives ae fh fT cOp
open Go.RowKit
theorem Ku {v:Value}{xs:List Value}(h:w.ownsRow B E s v n xs)(J:b≤B):w.ownsRow b E s v n xs:=by
 refine⟨h.1,h.2.imp id ?_⟩;rintro⟨g,cap,j,u,C,I⟩;exact⟨g,cap,j,u,Nat.le_trans J C,I⟩
theorem Lu {enc:α→List Value}{L:List α}(hs:∀x,(enc x).length=s)(h:w.ownsRow B E s (.slice a n c) n (L.flatMap enc))(C:m≤n):w.ownsRow B E s (.slice a m c) m ((L.take m).flatMap enc):=by
 by_cases M:n=0
 ·subst M
  have:m=0:=by omega
  subst this;rcases h.2 with⟨I,_⟩|⟨g,cap,u,I,O,U,h3,h4,h5,h6⟩
  ·rw[I];exact World.ownsRow_nil _ _ _ _
  ·exact⟨by simp,.inr ⟨g,cap,u,I,O,U,h3,h4,h5,by simp⟩⟩
 ·obtain⟨g,u,rfl,j⟩:=cq h (by omega);have J:(L.take m).flatMap enc=u.take (m*s):=by
   rw[←AC hs, ←j.take,List.take_take,Nat.min_eq_left (Nat.mul_le_mul_right _ C)]
  refine Opn.own ⟨j.blk,j.lo,Nat.le_trans C j.nc,j.cm,j.len,J.symm,?_⟩;rw[J,List.length_take,j.len,Nat.min_eq_left];exact Nat.mul_le_mul_right _ (Nat.le_trans C j.nc)
theorem FW {Z:List α}:Z.take (min 16 Z.length)=Z.take 16:=by
 by_cases h:Z.length≤16
 ·rw[Nat.min_eq_right h,List.take_length,List.take_of_length_le h]
 ·rw[Nat.min_eq_left (by omega)]
theorem BZ {A:List EV}:gj A v (n+1)=gj A v n++(kJ A n).filter fun p=>decide (v.getD n 0<p.1.s):=by
 unfold gj;rw[List.range_succ,List.flatMap_append];simp
theorem LL (h:k<v.length):(vCs v)[k]? = some (u6 (v.getD k 0)):=by
 unfold vCs;rw[List.getElem?_map,List.getD_eq_getElem?_getD,List.getElem?_eq_getElem h];rfl
theorem Ud {Rw:List kN}{V:List Int}{A:List EV}{c:Int}(h:LoM w g Rw V c)(b0:jb Rw=lp A)(hA:∀e∈A,e.q<6)(ch:A.Pairwise fun a b=>a.q=b.q→a.s<b.s)(hl:A.length≤1000)(hv:v.length=6)(hK:∀w' fa fc,w'.ownsRow w.heap.size 54 14 (.slice fa (tl A v).length fc) (tl A v).length ((tl A v).flatMap evC)→Below w.heap.size w w'→K (.slice fa (tl A v).length fc) w'):call Tryz.prog 64 #[pB g,.agg (vCs v).toArray,ci 16] K w:=by
 refine aj (goK func64) (Ep (uA hv fun w1 v1 b1 s1=>Nu (aO (ai (GU ?_)))));have h1:=h.below b1;have c0:((loC Rw V c).drop 0).take 6=Rw.map lrV:=by
  unfold loC;rw[List.drop_zero,List.take_append_of_le_length (by rw[List.length_map,h.l6];omega),List.take_of_length_le (by rw[List.length_map,h.l6];omega)]
 refine ldA (n:=6) (vs:=Rw.map lrV) underlying137 rfl (by kernel_rfl) h1.b c0 (by rw[List.length_map,h.l6]) ?_;obtain⟨ii,bW,cf,ce,bi⟩:=info_parts Km
 refine CB (Inv:=fun al t wr=>∃(k:Nat) (fa:Option Addr) (fc:Nat),t=iv (k:Nat)∧k≤6∧Below w.heap.size w wr∧blk wr w.heap.size 35 (vCs v)∧al=.slice fa (gj A v k).length fc∧wr.ownsRow (w.heap.size+1) 200 15 (.slice fa (gj A v k).length fc) (gj A v k).length ((gj A v k).flatMap itC)) (μ:=fun _ t _=>6-(intOf t).toNat)
  ⟨0,none,0,rfl,by omega,b1,v1,rfl,World.ownsRow_nil _ _ _ _⟩ ?_
 rintro al _ dd w2 mu ⟨k,fa,fc,rfl,I,b2,v2,rfl,ho⟩ cc;have a4:(gj A v k).length≤1000:=Nat.le_trans Ei hl;refine aM ?_;by_cases M:k<6
 ·refine ax (by omega) ?_;have aS:6-(intOf (iv ((k:Int)+1))).toNat<mu:=by rw[cc];show 6-((k:Int)+1).toNat<6-((k:Nat):Int).toNat;omega
  have bg:k<Rw.length:=by rw[h.l6];exact M
  have hr:Rw[k]? = some Rw[k]:=List.getElem?_eq_getElem bg;generalize Rw[k]=r at hr;have ar:r.it=kJ A k:=by
   have h1:(jb Rw)[k]? = some r.it:=by unfold jb;rw[List.getElem?_map,hr];rfl
   rw[b0,xB M]at h1;exact(Option.some.inj h1).symm
  have ag:=h.row k r hr;have ap:=cJ ag (w':=w2) fun k I=>b2.block k (World.ownsRow.lt ag k I).2;have cm:r.it.length≤1000:=by rw[ar];exact Nat.le_trans Hq hl
  refine Lc (v:=lrV r) underlying137 (fun _=>by kernel_rfl) (fun _=>by kernel_rfl) M (by rw[List.getElem?_map,hr];rfl) (ixV rfl M (lK (v:=u6 (v.getD k 0)) v2 (by rw[Nat.zero_add];exact LL (by omega)) ?_));refine Ho ap rfl (by omega) (by rw[ar];exact Fr ch) fun w3 q hq hd b3=>?_;have a9:=cJ ap (w':=w3) fun k I=>b3.block k (World.ownsRow.lt ap k I).2
  have aa:=cJ ho (w':=w3) fun k I=>b3.block k (World.ownsRow.lt ho k I).2;have J:=b2.trans (b3.mono b2.size);have v3:=ac b3 v2 v2.lt;have ad:gj A v (k+1)=gj A v k++r.it.drop q:=by rw[BZ, ←ar,hd]
  have a3:(gj A v k).length≤fc:=by
   rcases aa.2 with⟨C,h0⟩|⟨_,_,_,C,_,_,h1,_⟩
   ·simp only[Value.slice.injEq]at C;omega
   ·simp only[Value.slice.injEq]at C;omega
  by_cases hz:r.it.length=q
  ·have a0:q≤r.cap:=by
    rcases a9.2 with⟨C,h0⟩|⟨_,_,_,C,_,_,h1,_⟩
    ·omega
    ·unfold lrV at C;simp only[Value.slice.injEq]at C;omega
   refine OX (q:=q) underlying136 (s:=15) (fun _=>by kernel_rfl) hq (by omega) ?_;rw[show r.it.length-q=0 by omega];refine JM (s:=15) underlying136 (fun _=>by kernel_rfl) a3 (aW (by omega) (by omega) ⟨⟨k+1,fa,fc,congrArg iv (by push_cast;rfl),M,J,v3,?_,?_⟩,aS⟩)
   ·rw[ad,show r.it.drop q=[]from List.drop_eq_nil_of_le (by omega),List.append_nil]
   ·rw[ad,show r.it.drop q=[]from List.drop_eq_nil_of_le (by omega),List.append_nil];exact aa
  ·obtain⟨gb,aE,ha,op⟩:=cq a9 (by omega);have a0:=op.nc;refine OX (q:=q) underlying136 (s:=15) (fun _=>by kernel_rfl) hq a0 ?_;rw[if_neg (by omega : ¬r.cap=q),ha,show (Option.map (fun x:Addr=>x.add (q*15)) (some ⟨gb,0,none⟩))=some ⟨gb,0+q*15,none⟩by rw[Option.map_some,Bq]];have a2:(aE.drop (0+q*15)).take ((r.it.length-q)*15)=(r.it.drop q).flatMap itC:=by
    rw[←AA FU, ←op.take,List.drop_take,Nat.zero_add,Nat.mul_sub_right_distrib]
   refine FK (s:=15) (m:=r.it.length-q) (g:=gb) (q:=0+q*15) (zs:=aE) (ys:=(r.it.drop q).flatMap itC) underlying136 bW cf ce bi rfl (by omega) aa op.blk (by rw[Dd FU,List.length_drop]) a2 (fun u hu=>by
    obtain⟨x,_,hx⟩:=List.mem_flatMap.1 hu;exact JD x u hx) (by omega) (by omega) v3.lt fun a' c' w4 r4 g4=>?_
   have av:Below (w.heap.size+1) w3 w4:=dW g4 v3.lt fun k I=>(World.ownsRow.lt aa k I).1;have af:(gj A v (k+1)).length=(gj A v k).length+(r.it.length-q):=by rw[ad,List.length_append,List.length_drop]
   refine aW (by omega) (by omega) ⟨⟨k+1,a',c',congrArg iv (by push_cast;rfl),M,J.trans (av.mono (by omega)),ac av v3 (by omega),by rw[af],?_⟩,aS⟩;rw[af,ad,List.flatMap_append];exact r4
 ·have b9:k=6:=by omega
  subst b9;refine aq (by omega) (CD (IA ho rfl (by omega) fun w3 G' hp hs r3 g3=>?_));have hG:=Fs hA hp hs;subst hG;have hn:(gj A v 6).length=(zA A v).length:=hp.length_eq.symm;have be:Below w.heap.size w2 w3:=dW g3 b2.size fun k I=>by have:=(World.ownsRow.lt ho k I).1;omega
  have J:=b2.trans be;rw[hn]at r3 a4 ⊢;generalize hZ:zA A v=Z at r3 a4 ⊢;have a3:Z.length≤fc:=by
   rcases r3.2 with⟨C,h0⟩|⟨_,_,_,C,_,_,h1,_⟩
   ·simp only[Value.slice.injEq]at C;omega
   ·simp only[Value.slice.injEq]at C;omega
  have hT:(Z.take 16).length=min 16 Z.length:=List.length_take;have an:tl A v=(Z.take 16).map (·.1):=by unfold tl;rw[hZ]
  have r3:w3.ownsRow (w.heap.size+1) 200 15 (.slice fa (Z.take 16).length fc) (Z.take 16).length ((Z.take 16).flatMap itC):=by
   have:=Lu FU r3 (m:=(Z.take 16).length) (by omega)
   rwa[show Z.take (Z.take 16).length=Z.take 16 by rw[hT];exact FW]at this
  refine bj underlying136 (Dl (SC ?_));rw[show (if (if (Z.length:Int)<16 then (Z.length:Int)else 16)<0 then (0:Int)else if (Z.length:Int)<16 then (Z.length:Int)else 16)=((Z.take 16).length:Nat)by rw[hT];split<;>split<;>omega];refine Wn (m:=(Z.take 16).length) underlying136 (s:=15) (fun _=>by kernel_rfl) (by omega) (bj underlying136 ?_);generalize Z.take 16=T at r3 hT an ⊢
  have cl:T.length≤16:=by omega
  obtain⟨ei,bn,bt,bs,bk⟩:=info_parts JB;refine CC (Inv:=fun bb t wr=>∃(j:Nat) (O:Option Addr) (U:Nat),t=iv (j:Nat)∧j≤T.length∧bb=.slice O j U∧Below w3.heap.size w3 wr∧wr.ownsRow w3.heap.size 54 14 (.slice O j U) j (((T.take j).map (·.1)).flatMap evC)) (μ:=fun _ t _=>T.length-(intOf t).toNat)
   ⟨0,none,0,rfl,Nat.zero_le _,rfl,Below.refl _ _,World.ownsRow_nil _ _ _ _⟩ ?_
  rintro bb _ dd w4 cp ⟨j,O,U,rfl,hj,rfl,b4,o4⟩ a8;have bd:=b4.size;refine aM ?_;by_cases a7:j<T.length
  ·have hx:T[j]? = some T[j]:=List.getElem?_eq_getElem a7;have ba:(T.take (j+1)).map (·.1)=(T.take j).map (·.1)++[T[j].1]:=by rw[List.take_add_one,hx,List.map_append];rfl
   generalize T[j]=x at hx ba;have r4:=cJ r3 (w':=w4) fun k I=>b4.block k (World.ownsRow.lt r3 k I).2;refine ax (by omega) (Ge (i:=j) (enc:=itC) (s:=15) (L:=T) (x:=x) underlying136 (fun _=>by kernel_rfl) underlying200 rfl (by kernel_rfl) FU r4 rfl hx fun _=>?_);refine dZ (z:=.agg (itC (evZ,0)).toArray) (by kernel_rfl) fun w5 z5 b5 s5=>?_
   have z5:blk w5 w4.heap.size 200 (itC (evZ,0)):=by simpa[Value.cells]using z5
   refine jP (n:=15) (vs:=itC x) (by kernel_rfl) rfl z5 (by show 0+15≤15;omega) (JD _) fun w6 z6 p6=>?_;have z6:blk w6 w4.heap.size 200 (itC x):=z6;refine aK (off:=0) (by kernel_rfl) (ldA (n:=14) (vs:=evC x.1) underlying54 rfl (by kernel_rfl) z6 rfl rfl ?_);have az:Below w4.heap.size w4 w6:=bv b5 p6 (Nat.le_refl _)
   refine mY [evV x.1] underlying36 (s:=14) (by kernel_rfl) (by kernel_rfl) (by omega) rfl (by simp) (by decide) rfl (by
    intro v hv;rw[List.mem_singleton.1 hv];rfl) fun w7 e7 b7 s7=>?_
   have e7:blk w7 w6.heap.size 54 (evC x.1):=by simpa[Value.cells,evV]using e7
   have am:=az.trans (b7.mono az.size);have o7:=cJ o4 (w':=w7) fun k I=>am.block k (World.ownsRow.lt o4 k I).2;refine tf (enc:=evC) (x:=x.1) underlying36 bn bt bs bk rfl (by omega) (fun _=>rfl) o7 e7 (qy _) (by omega) (by omega) (Nat.le_trans bd am.size) fun a' c' w8 r8 g8 b8 _=>?_
   refine aW (by omega) (by omega) ⟨⟨j+1,a',c',congrArg iv (by push_cast;rfl),a7,rfl,(b4.trans (am.mono bd)).trans b8,by rw[ba];exact r8⟩,?_⟩;rw[a8];show T.length-((j:Int)+1).toNat<T.length-(j:Int).toNat;omega
  ·have b6:j=T.length:=by omega
   subst b6;rw[List.take_length, ←an]at o4;have ca:(tl A v).length=T.length:=by rw[an,List.length_map]
   refine aq (by omega) (CE ?_);rw[←ca]at o4 ⊢;exact hK w4 O U (Ku o4 J.size) (J.trans (b4.mono J.size))
theorem WC {L:List (List Int)}(h:GoM w p L)(hj:j<6)(I:L[j]? = some v)(C:∀w',Below w.heap.size w w'→K (.agg (vCs v).toArray) w'):call Tryz.prog 65 #[pB p,iv ((j:Int)+1)] K w:=by
 have u:=h.v6 v (List.mem_of_getElem? I);refine aj (goK func65) (EH (AN fun w1 O b1 s1=>Ju (lR (Px (dB ?_)))));rw[show bK ((j:Int)+1)=true by unfold bK;simp;omega];refine dA (aO (bh (by omega) (by omega) (ai (GO ?_))));have J:=h.below b1;rw[show (j:Int)+1-1=(j:Nat)by omega];refine eO underlying143 (s:=6) (fun _=>by kernel_rfl) (by omega) (by omega) ?_;rw[Int.toNat_natCast]
 refine ldA (n:=6) (vs:=vCs v) underlying35 rfl (by kernel_rfl) J.b (by rw[Nat.zero_add];exact Pw h.v6 I) (by rw[bQ];exact u) (yb (W:=v) rfl u O fun w2 U M=>?_);exact vD (v:=.agg (vCs v).toArray) (fun _ C=>pe u U C) (C w2 (bv b1 M (Nat.le_refl _)))
theorem Tw {L:List (List Int)}{Rw:List kN}{V:List Int}{A:List EV}{c:Int}(M:GoM w p L)(hj:j<6)(O:L[j]? = some v)(h:LoM w g Rw V c)(I:jb Rw=lp A)(U:∀e∈A,e.q<6)(J:A.Pairwise fun a b=>a.q=b.q→a.s<b.s)(hl:A.length≤1000)(hK:∀w' u C,w'.ownsRow w.heap.size 54 14 (.slice u (tl A v).length C) (tl A v).length ((tl A v).flatMap evC)→Below w.heap.size w w'→K (.slice u (tl A v).length C) w'):call Tryz.prog 34 #[pB p,iv ((j:Int)+1),pB g,ci 16] K w:=by
 refine aj (goK func34) (Cl (Ju (aO (WC M hj O fun w1 b1=>Ud (h.below b1) I U J hl (M.v6 v (List.mem_of_getElem? O)) fun w2 u C r2 b2=>?_))));exact hK w2 u C (Ku r2 b1.size) (b1.trans (b2.mono b1.size))
end
section
attribute [local irreducible] bin un conv call bY blt slc aT fld aV idx lkp dO gY eSt rng nxt ent ext alc box bld bT ld sto aU dE mkS ifc pick rdy wts aI sti cond bp Gives ae fh fT cOp
open Go.RowKit Go.ChangeMaps
def wnC (p:Int×Int):List Value:=[u6 p.1,iv p.2]
theorem Ad (p:Int×Int):∀v∈wnC p,v.oneCell'=true:=by
 intro v h;simp only[wnC,List.mem_cons,List.not_mem_nil,or_false]at h;rcases h with rfl|rfl<;>rfl
theorem GN :(Tryz.prog.info? 160).map (fun i=>(i.zero,i.size,i.bytes))=some (some (.pointer none),1,8):=by kernel_rfl
theorem Cr :(Tryz.prog.info? 102).map (fun i=>(i.zero,i.size,i.bytes))=some (some (.agg (wnC (0,0)).toArray),2,16):=by kernel_rfl
section
variable {w w':World}{d m:Nat}{ws:List (Int×Option Nat)}
theorem DmW.isw (h:DmW w d m ws)(M:b∈wB ws):∃k a t x,blk w b 162 (wtC k a t x)∧1≤a∧a≤qW∧k≠0∧(k,some b)∈ws:=by
 obtain⟨p,u,e⟩:=kb.1 M;obtain⟨U,a,t,x,j,O,C,I,J⟩:=h.wt p u;rw[j]at e;cases e;exact⟨p.1,a,t,x,O,C,I,J,by rw[←j];exact u⟩
theorem wT {k a t x':Int}(h:blk w b 162 (wtC k a t x))(j:blk w b 162 (wtC r Y0 Z1 x')):k=r∧a=Y0:=by
 unfold blk at h j;rw[h]at j;simp[wtC,u6,iv]at j;exact⟨j.1,j.2.1⟩
end
section
variable {w:World}{K:KV}{d m:Nat}{ws:List (Int×Option Nat)}
theorem Of {f:Value}{pr:Nat→Bool}(h:DmW w d m ws)(hf:∀b∈wB ws,∀(w1:World) (K1:KV),Below w.heap.size w w1→(∀w2,Below w1.heap.size w1 w2→K1 (.bool (pr b)) w2)→bY Tryz.prog f #[pB b] K1 w1)(hK:∀w' a c (j:List Nat),Below w.heap.size w w'→j.length≤32→(∀b∈j,b∈wB ws∧pr b=true)→(∀b∈wB ws,pr b=true→b∈j)→w'.ownsRow (w.heap.size+1) 160 1 (.slice a j.length c) j.length (j.flatMap fun b=>[pB b])→K (.slice a j.length c) w'):call Tryz.prog 61 #[pB d,f] K w:=by
 refine aj (goK func61) (BE (Tg (aO (ai (Rb (lK (v:=.map (some m)) h.b rfl ?_))))));refine Fx underlying146 h.mb fun w1 a4 b1 s1=>?_;have ce:=h.mb.lt;have am:=a4.nodup.2.1;obtain⟨ii,bk,bt,bn,bg⟩:=info_parts GN
 refine zK (Inv:=fun l wr=>∃(D:List Int) (j:List Nat) (a:Option Addr) (c:Nat),l=.slice a j.length c∧IT u6 pV wr w.heap.size m ws D∧Below w.heap.size w wr∧w.heap.size+1≤wr.heap.size∧j.length≤D.length∧(∀b∈j,b∈wB ws∧pr b=true)∧(∀p∈ws,p.1∈D→∀b,p.2=some b→pr b=true→b∈j)∧wr.ownsRow (w.heap.size+1) 160 1 (.slice a j.length c) j.length (j.flatMap fun b=>[pB b])) (μ:=fun _ wr=>lC wr m w.heap.size)
  ⟨[],[],none,0,rfl,a4,b1,by omega,Nat.le_refl _,by simp,by simp,World.ownsRow_nil _ _ _ _⟩ ?_
 rintro _ dd w2 mu ⟨D,j,a,c,rfl,av,b2,ch,ca,ad,J,ro⟩ a0;have b9:D.length≤ws.length:=by
  have:=pS av.nodup.1 av.nodup.2.2
  simpa using this
 have b8:=h.few;have bi:=h.below b2;refine Fl av (by omega) (fun ar=>?_) fun x v w3 M cf ag bd o3 al=>?_
 ·refine sv rfl (aO (zL (Ie ro rfl (by omega) (fun b hb=>?_) fun w4 bb O r4 g4=>?_)))
  ·obtain⟨k,a1,t,y,C,_⟩:=bi.isw (ad b hb).1;exact⟨k,a1,t,y,C⟩
  ·have hl:=O.length_eq;rw[←hl]at r4 ⊢;refine hK w4 a c bb (b2.trans (dW g4 b2.size fun k hk=>by have:=(World.ownsRow.lt ro k hk).1;omega)) (by omega) (fun b hb=>ad b (O.mem_iff.1 hb)) (fun b hb af=>O.mem_iff.2 ?_) r4;obtain⟨p,a2,e⟩:=kb.1 hb;exact J p a2 (ar p.1 (List.mem_map.2 ⟨p,a2,rfl⟩)) b e af
 ·have b7:D.length<ws.length:=by
   have:=pS ag.nodup.1 ag.nodup.2.2
   simp only[List.length_append,List.length_map,List.length_singleton]at this;omega
  obtain⟨b,a1,t,y,a3,cc,_⟩:=h.wt _ M;simp only at a3;subst a3;have aS:b∈wB ws:=kb.2 ⟨_,M,rfl⟩;have an:Below w.heap.size w w3:=bG b2 o3 (Nat.le_refl _);have a9:=cJ ro fun k hk=>o3.other k (by have:=(World.ownsRow.lt ro k hk).1;omega);have a7:∀p∈ws,∀I,p.2=some I→p.1∈D++[x]→p.1∈D∨I=b:=fun p O I e hm=>by
   rcases List.mem_append.1 hm with hm|hm
   ·exact .inl hm
   ·rw[List.mem_singleton]at hm;have C:=nN (x:=p.1) (v:=p.2) am O;have h2:=nN am M;rw[hm,h2,e]at C;exact .inr (Option.some.inj (Option.some.inj C)).symm
  refine sv rfl (bu (Iu bd (db ?_)));refine hf b aS w3 _ an fun w4 b4=>?_;have az:=ag.below b4;have ap:=an.trans (b4.mono an.size);have aE:=cJ a9 fun k hk=>b4.block k (World.ownsRow.lt a9 k hk).2;have s3:w3.heap.size=w2.heap.size:=o3.size;have s4:=b4.size;have a8:lC w4 m w.heap.size=lC w3 m w.heap.size:=GG ag b4;cases af:pr b with
  | false =>
   refine aO ⟨⟨D++[x],j,a,c,rfl,az,ap,by omega,by rw[List.length_append];omega,ad,fun p O hm I e U=>?_,aE⟩,by rw[a0,a8];exact al⟩;rcases a7 p O I e hm with C|rfl
   ·exact J p O C I e U
   ·rw[af]at U;cases U
  | true =>
   refine bu (mY [pB b] underlying164 (s:=1) (by kernel_rfl) (by kernel_rfl) (by omega) rfl (by simp) (by decide) rfl (by
    intro v hv;rw[List.mem_singleton.1 hv];rfl) fun w5 e5 b5 s5=>?_)
   have e5:blk w5 w4.heap.size 160 [pB b]:=by simpa[Value.cells]using e5
   have aa:=az.below b5;have ba:=cJ aE fun k hk=>b5.block k (World.ownsRow.lt aE k hk).2;have b0:lC w5 m w.heap.size=lC w4 m w.heap.size:=GG az b5;refine tf (enc:=fun b=>[pB b]) (x:=b) underlying164 bk bt bn bg rfl (by omega) (fun _=>rfl) ba e5 (by intro u hu;rw[List.mem_singleton.1 hu];rfl) (by omega) (by omega) (by omega) fun a' c' w6 r6 g6 b6 _=>?_
   have k6:∀k,k<w.heap.size+1→k<w5.heap.size→w6.heap[k]? = w5.heap[k]? := fun k hk hl=>g6.block k hl fun e=>by have:=(World.ownsRow.lt ba k e.symm).1;omega
   have bW:=aa.kept (k6 _ (by omega) aa.lt.2) (k6 _ (by omega) aa.lt.1);have b3:lC w6 m w.heap.size=lC w5 m w.heap.size:=tw (k6 _ (by omega) aa.lt.2) (k6 _ (by omega) aa.lt.1);have hl:(j++[b]).length=j.length+1:=by simp
   refine⟨⟨D++[x],j++[b],a',c',by rw[hl],bW,(ap.trans (b5.mono ap.size)).trans (b6.mono (by omega)),by have:=b6.size;omega,by simp;omega,fun I be=>?_,fun p O hm I e U=>?_,by rw[hl];exact r6⟩,by rw[a0,b3,b0,a8];exact al⟩
   ·rcases List.mem_append.1 be with C|C
    ·exact ad I C
    ·rw[List.mem_singleton.1 C];exact⟨aS,af⟩
   ·rcases a7 p O I e hm with C|rfl
    ·exact List.mem_append_left _ (J p O C I e U)
    ·simp
end
end
end Go.Proofs.YtkbhfjljieopoaaGreatDoor
