import Derived.Test.YtkfgimlaijifaaaGreatDoorQ7
import Derived.Test.YtkfgimlaijifaaaGreatDoorQ2
import Derived.Test.YtkfgimlaijifaaaGreatDoorQ4
namespace Go.Proofs.YtkfgimlaijifaaaGreatDoor
set_option maxRecDepth 100000
set_option maxHeartbeats 4000000
open Go.Proofs.Tryz
variable {w w':World}{K:KV}{zf:Nat→Value}{b c n o k B i p g m j s z c2 f d D B' hi:Nat}{a av a2:Option Addr}{x r v:Int}{A:List Int}{E t e:TypeId}{cs vs:List Value}{B1:KE}{P:Program}{T L:List (Int×Int)}{C:Nat→Int}{cx cy:Bool}{F:List Nat}{κ:Type}{V0 W0 X0 Y0 Z0 H1 I1 J1 M1:Value}
section
attribute [local irreducible] bin un conv call aZ blt slc ai fld aL idx lkp cP eP eSt rng nxt ent ext alc box bld bg ld sto aJ cr mkS ifc pick rdy wts aG sti cond aV Gives ah dy dP cOp
section
open Go.RowKit Go.ChangeMaps
theorem Vl {g:List Int→Int}{N:List ND}:∀{P:List Int} {k:Nat} {id:Int},P[k]? = some id→(∀j y,j<k→P[j]? = some y→g (aN N y)=0)→g (aN N id)≠0→zj g N P=g (aN N id)
 | [],_,_,h,_,_=>by simp at h
 | y::P,0,id,h,_,hn=>by
  simp at h;subst h;unfold zj;rw[if_pos hn]
 | y::P,k+1,id,h,h0,hn=>by
  unfold zj;rw[if_neg (by rw[h0 0 y oo rfl];simp)];exact Vl (by simpa using h) (fun j z C u=>h0 (j+1) z oo (by simpa using u)) hn
theorem Wl {a b:List Int}(h:∀y,y∈a↔y∈b):eD a c x=eD b c x:=by
 funext y;by_cases j:y.id∈a
 ·rw[AM j,AM ((h _).1 j)]
 ·rw[AL j,AL (fun u=>j ((h _).2 u))]
theorem US {s:PL}(hi:PI s)(id:Int):(ef s.N id).Nodup:=by
 obtain⟨rk,h⟩:=hi.tk;exact(Jz h _ _).imp fun {a b} j e=>by subst e;omega
section
variable {w:World}{K:KV}{q:LB}{s:PL}
theorem YT {y:Nat}{P:List Int}{f:List Int→List Int×Int}(hz:blk w z 132 [pB q.p])(hy:blk w y 184 [.map (some b)])(hf:MB u6 rgV w b (P.map fun id=>(id,(f (aN s.N id)).1)))(a1:z∉q.l)(az:b∉q.l)(h:PM w q s)(hi:PI s)(hP:∀id∈P,dv s.N id=true∧(f (aN s.N id)).1=(aN s.N id).set c (nA (aN s.N id) c+x))(hl:∀A,A.length=54→(f A).1.length=54)(j:∀w',PM w' q {s with N:=s.N.map (eD P c x)}→Ch q.wv w w'→K (.tuple #[]) w'):call Q 321 #[pB y,pB z] K w:=by
 have aa:=h.lt;have ad:q.rm∈q.l:=by simp[LB.l]
 refine ak (goK func321) (Fu (lK (v:=.map (some b)) hy rfl (LW underlying184 hf fun w1 a2 b1 s1=>?_)));have a5:=hf.lt;have af:b≠q.rm:=fun e=>az (e ▸ ad);have al:w.heap.size≠q.rm:=fun e=>by have:=aa _ ad;omega
 refine Da (Inv:=fun wr=>∃done,IT u6 rgV wr w.heap.size b (P.map fun id=>(id,(f (aN s.N id)).1)) done∧PM wr q {s with N:=s.N.map (eD done c x)}∧blk wr z 132 [pB q.p]∧Ch q.wv w wr∧w.heap.size+1≤wr.heap.size) (μ:=fun wr=>lG wr b w.heap.size)
  ⟨[],a2,by rw[SV];exact h.below b1,ae b1 hz hz.lt,Ch.of_below b1,by omega⟩ ?_
 rintro dd w2 m ⟨done,ar,p2,z2,c2,s2⟩ hm;refine LH ar oo (fun M=>?_) fun id v w3 am a0 I av o3 a4=>?_
 ·refine rG rfl (aF (j w2 ?_ c2));have O:=ar.nodup.2.2;rw[List.map_map]at M O;have e:∀y,y∈done↔y∈P:=fun y=>⟨fun J=>by simpa using O y J,fun J=>M y (by simpa using J)⟩
  rw[←Wl e];exact p2
 ·obtain⟨C,ag,e1⟩:=List.mem_map.1 am;simp only[Prod.mk.injEq]at e1;obtain⟨rfl,rfl⟩:=e1;obtain⟨J,an⟩:=hP C ag;have ap:=hl _ (Me hi C);refine rG rfl (aT (Pr av (bu (bv (zY fun w4 r4 b4 s4=>xP rfl ap r4 fun w5 r5 o5=>?_)))));have s3:=o3.size;have aS:w.heap.size∉q.l:=fun J=>by have:=aa _ J;omega
  have p3:=p2.oth o3 aS;have z3:=o3.blk z2 (by have:=hz.lt;omega);have p5:=((p3.below b4).oth o5 fun J=>by have:=aa _ J;omega).drew;have z5:=(o5.blk (ae b4 z3 z3.lt) (by have:=z3.lt;omega)).drew;have Z:Ch [w3.heap.size] w3 w5:=(Ch.of_below b4:Ch [w3.heap.size] w3 w4).trans (Ch.of_oth o5 sm:Ch [w3.heap.size] w4 w5) (fun x hx=>.inl hx)
  have c3:Ch q.wv w w3:=c2.trans (Ch.of_oth o3 sm:Ch [w.heap.size] w2 w3) sm;have c5:Ch q.wv w w5.drew:=(c3.trans Z (by
   intro k hk;have hk:k=w3.heap.size:=by simpa using hk
   exact .inr oo)).trans (Ch.of_below (Below.refl _ w5).drew:Ch [] w5 w5.drew) sm
  have s5:=Z.size;have k5:∀k,k<w3.heap.size→w5.drew.heap[k]? = w3.heap[k]? := fun k hk=>(Z.block k hk (by simp;omega))
  have a3:IT u6 rgV w5.drew w.heap.size b _ (done++[C]):=I.kept (k5 _ I.lt.2) (k5 _ I.lt.1);refine au (fun u=>PM u q {s with N:=s.N.map (eD done c x)}∧blk u z 132 [pB q.p]∧blk u w3.heap.size 77 ((f (aN s.N C)).1.map iv)) ⟨p5,z5,r5.drew⟩ ?_;refine ab (fun u U _=>lK (v:=pB q.p) U.2.1 rfl) (ab (fun u U _=>aj) (ab (fun u U _=>vF) ?_))
  refine ab (fun u U _=>lK (v:=.map (some q.rm)) U.1.b (by rw[Nat.zero_add];exact U.1.c20)) <|ab (fun u U _=>rT ap U.2.2) ?_;refine p5.put_c hi a0 J an fun w6 p6 o6=>⟨⟨done++[C],?_,p6,?_,?_,by rw[o6.size];show _≤w5.heap.size;omega⟩,?_⟩
  ·exact a3.kept (o6.other _ af) (o6.other _ al)
  ·exact o6.blk z5 fun e=>a1 (e ▸ ad)
  ·exact c5.trans (Ch.of_oth o6 sm:Ch [q.rm] w5.drew w6) (by simp[LB.wv])
  ·rw[hm];have e1:lG w6 b w.heap.size=lG w3 b w.heap.size:=wI ((o6.other _ af).trans (k5 _ I.lt.2)) ((o6.other _ al).trans (k5 _ I.lt.1));omega
theorem U8 {f:List Int→List Int×Int}(h:PM w q s)(hi:PI s)(hl:∀A,A.length=54→(f A).1.length=54)(ar:∀A,(f A).2=0→(f A).1=A.set c (nA A c+x))(am:∀A,A.length=54→∀w1,Below w.heap.size w w1→∀K':KV,(∀w2,Below w1.heap.size w1 w2→K' (.tuple #[rgV (f A).1,ci (f A).2]) w2)→aZ Q V0 #[rgV A] K' w1)(no:∀w',zj (fun A=>(f A).2) s.N (ef s.N r)≠0→Below w.heap.size w w'→K (.tuple #[.nilFunc,ci (zj (fun A=>(f A).2) s.N (ef s.N r))]) w')(aS:zj (fun A=>(f A).2) s.N (ef s.N r)=0→∀w' fv,fv.oneCell'=true→Below w.heap.size w w'→zcO w' q {s with N:=s.N.map (eD (ef s.N r) c x)} fv→K (.tuple #[fv,ci 0]) w'):call Q 308 #[pB q.p,u6 r,V0] K w:=by
 have a5:=h.lt;obtain⟨rk,a8⟩:=hi.tk;have bd:=hi.len30;have al:=hi.plen r;have af:=US hi r;have U:∀id∈ef s.N r,dv s.N id=true:=fun id=>pW;refine ak (goK func308) (Hk (br fun w1 h1 b1 s1=>ub underlying184 rfl u6 rgV fun w2 m2 b2 s2=>df (z:=.map none) kr fun w3 h3 b3 s3=>?_));have h1:=cZ h1
 have h3:=cZ h3
 refine cB kf h3 (by show 0<1;decide) rfl fun w4 h4 o4=>?_;have h4:blk w4 w2.heap.size 184 [.map (some w1.heap.size)]:=h4;have O:Below w.heap.size w w4:=bE (b1.trans ((b2.mono oo).trans (b3.mono oo))) o4 oo;have z4:blk w4 w.heap.size 132 [pB q.p]:=o4.blk (ae b3 (ae b2 h1 h1.lt) oo) oo;have m4:=(m2.below b3).oth o4 oo
 have p4:=h.below O;have s4:w4.heap.size=w.heap.size+3:=by rw[o4.size];omega
 rw[show w2.heap.size=w.heap.size+2 by omega]at h4 ⊢;rw[s1]at h4 m4;refine lK (v:=pB q.p) z4 rfl (aj (AS (lK (v:=pB q.t) p4.b (by rw[Nat.zero_add];exact p4.c18) ?_)));refine Rz a8 p4.tm (by rw[Ry];omega) fun w5 a ca ho b5=>bh underlying87 ?_;change World.ownsRow w5 w4.heap.size _ 1 (.slice a (ef s.N r).length ca) (ef s.N r).length ((ef s.N r).map u6)at ho;show lM K _ w5
 obtain⟨P,an⟩:∃P,P=ef s.N r:=⟨_,rfl⟩
 have ap:cC (tr s.N) r=P:=by rw[an];rfl
 rw[ap];rw[←an]at al af U no aS ho;have J:IdR w5 w4.heap.size a ca P:=IdR.own ho rfl;have nz:∀b,w.heap.size≤b→b∉q.l:=fun b hb hh=>by have:=a5 _ hh;omega
 refine Fv (Inv:=fun i wr=>∃k:Nat,i=iv (k:Nat)∧k≤P.length∧PM wr q s∧blk wr w.heap.size 132 [pB q.p]∧blk wr (w.heap.size+2) 184 [.map (some (w.heap.size+1))] ∧
   MB u6 rgV wr (w.heap.size+1) ((P.take k).map fun id=>(id,(f (aN s.N id)).1))∧IdR wr w4.heap.size a ca P∧Below w.heap.size w wr∧(∀j y,j<k→P[j]? = some y→(f (aN s.N y)).2=0)∧w.heap.size+3≤wr.heap.size)
  (μ:=fun i _=>P.length-(intOf i).toNat) ⟨0,rfl,Nat.zero_le _,p4.below b5,ae b5 z4 z4.lt,ae b5 h4 h4.lt,m4.below b5,J,O.trans (b5.mono O.size),fun j y hj=>by omega,by have:=b5.size;omega⟩ ?_
 rintro _ dd w6 m ⟨k,rfl,be,p6,z6,y6,m6,av,C,hz,bi⟩ hm;refine aK ?_;by_cases u:k<P.length
 ·refine ax oo (av.at2 u fun pt=>?_);have hx:P[k]? = some P[k]:=gE u;generalize P[k]=id at hx;have bb:id∈P:=mO hx;refine lK (v:=pB q.p) z6 rfl (aj (vF (lK (v:=.map (some q.rm)) p6.b (by rw[Nat.zero_add];exact p6.c20) ?_)))
  refine p6.rg_l hi (am _ (Me hi id) w6 C _ fun w7 Z=>bu (bv (zY fun w8 r8 b8 s8=>xP rfl (hl _ (Me hi id)) r8 fun w9 r9 o9=>aX ?_)));have I:=Z.trans (b8.mono Z.size);have aa:Below w.heap.size w w9:=bE (C.trans (I.mono C.size)) o9 (by have:=Z.size;omega);have s7:=Z.size;by_cases h7:(f (aN s.N id)).2≠0
  ·refine ax h7 ?_;have ee:=Vl (g:=fun A=>(f A).2) hx hz h7
   have:=no w9 (by rw[ee];exact h7) aa
   rwa[ee]at this
  have h7:(f (aN s.N id)).2=0:=by simpa using h7
  have z9:=o9.blk (ae I z6 z6.lt) (by have:=z6.lt;omega);have y9:=o9.blk (ae I y6 y6.lt) (by have:=y6.lt;omega);have m9:=(m6.below I).oth o9 (by have:=m6.lt;omega);have p9:=(p6.below I).oth o9 (nz _ oo)
  refine ao (by simp[h7]) (lK (v:=.map (some (w.heap.size+1))) y9 rfl (rT (hl _ (Me hi id)) r9 (uI (v:=(f (aN s.N id)).1) u6K underlying184 m9 fun a9 az M=>aM oo oo ?_)));have ag:dK ((P.take k).map fun id=>(id,(f (aN s.N id)).1)) id=none:=by
   rw[wh,List.map_map];intro hh;obtain⟨y,hy,e⟩:=List.mem_map.1 hh;have e:y=id:=e;subst e;obtain⟨i,a2,e2⟩:=List.getElem_of_mem hy;rw[List.getElem_take]at e2;have a3:i<k:=by simp at a2;omega
   have:=(List.pairwise_iff_getElem.1 af) i k oo u a3
   rw[gE u]at hx;exact this (e2.trans (Option.some.inj hx).symm)
  rw[yC ag]at az;have a0:P.take (k+1)=P.take k++[id]:=by rw[List.take_add_one,hx];rfl
  refine⟨⟨k+1,ivS,u,p9.oth M (nz _ oo),M.blk z9 oo,M.blk y9 oo,by rw[a0,List.map_append];exact az,?_,bE aa M oo,fun j y hj hy=>?_,by rw[M.size,o9.size];omega⟩,by rw[hm];show P.length-((k:Int)+1).toNat<P.length-(k:Int).toNat;omega⟩
  ·have a7:∀g cs,blk w9 g 31 cs→blk a9 g 31 cs:=fun g cs hb=>M.blk hb fun e=>by
    subst e;obtain⟨es,cc,a6⟩:=m9;exact Ep a6.heap sm _ hb
   refine((av.below I).imp fun g cs _ hb=>o9.blk hb fun e=>?_).imp fun g cs _=>a7 g cs;subst e;exact absurd (xv hb r8) dc
  ·by_cases e:j=k
   ·subst e;rw[hx]at hy;cases hy;exact h7
   ·exact hz j y oo hy
 ·have a4:k=P.length:=by omega
  refine ao oo (Fw ?_);have ad:∀id∈P,(f (aN s.N id)).2=0:=fun id J=>by
   obtain⟨j,hj,e⟩:=List.getElem_of_mem J;exact hz j id oo (by rw[gE hj,e])
  rw[a4,List.take_length]at m6;refine aS (Em.2 ad) w6 _ rfl C fun w7 K2 Z a1=>dn rfl ?_;exact YT (ae Z z6 z6.lt) (ae Z y6 y6.lt) (m6.below Z) (nz _ oo) (nz _ oo) (p6.below Z) hi (fun id J=>⟨U id J,ar _ (ad id J)⟩) hl a1
end
theorem YW {R:List (List Int)}(u:k<R.length):od (R.set k (R.getD k []++[r])) j x=(od R j x || (decide (j=k)&&decide (x=r))):=by
 unfold od;rw[pC u];by_cases h:j=k
 ·subst h;rw[if_pos rfl,Bool.eq_iff_iff];simp
 ·rw[if_neg h];simp[h]
theorem ZB {G:List GR}{o f:Int}:kU (G.map (qO o f r)) o f=(kU G o f).map fun g=>{g with b:=r}:=by
 unfold kU;rw[List.find?_map];have e:((fun g:GR=>g.o==o&&g.q==f) ∘ qO o f r)=fun g:GR=>g.o==o&&g.q==f:=by
  funext g;show ((qO o f r g).o==o&&(qO o f r g).q==f)=_;rw[(nG g).1,(nG g).2]
 rw[e];cases j:G.find? fun g=>g.o==o&&g.q==f with
 | none=>rfl
 | some g =>
  have h:=List.find?_some j;rw[Bool.and_eq_true,beq_iff_eq,beq_iff_eq]at h;simp only[Option.map_some]
  congr 1
  unfold qO;rw[if_pos h]
theorem Wv {s:PL}(hi:PI s){o:Int}(h:od s.R (o-1).toNat r=false):kU s.G o r=none:=by
 cases C:kU s.G o r with
 | none=>rfl
 | some g =>
  obtain⟨u,e1,j⟩:=yw C
  have:=(hi.gk g u).2.2.2.2.2.2
  rw[e1,j,h]at this;cases this
section
variable {w:World}{K:KV}{q:LB}{s:PL}{e:EV}
theorem PM.ask_c {o:Int}(h:PM w q s)(h1:1≤o)(h6:o≤6)(hR:s.R.length=6)(hK:∀w',PM w' q {s with R:=s.R.set (o-1).toNat (s.R.getD (o-1).toNat []++[r])}→Oth q.am w w'→K undef w'):cP Q 186 (.map (some q.am)) (rqV (o,r)) (.bool true) K w:=by
 have nd:=h.nd;obtain⟨m,hm,hp⟩:=h.am;refine uI (v:=true) rqK underlying186 hm fun w1 J j=>hK w1 ?_ j;obtain⟨i6,l6,v6,b,tm,⟨m1,p1,e1⟩,⟨m2,p2,Z⟩,⟨m3,p3,e3⟩,_,_,kd⟩:=h;refine⟨i6,l6,v6,j.blk b (LN.pa nd),tm.oth j (LN.ta nd) (LN.da nd),⟨m1,p1.oth j (LN.ma nd),e1⟩,⟨m2,p2.oth j (LN.ra nd),Z⟩,⟨m3,p3.oth j (LN.ga nd),e3⟩,⟨_,J,fun M O u C=>?_⟩,nd,kd.keep (j.other 0 (LN.za nd))⟩
 rw[Jt,hp M O u C,YW (by rw[hR];omega)];by_cases I:M=o∧O=r
 ·obtain⟨rfl,rfl⟩:=I;simp
 ·rw[if_neg (by simpa using I)]
  have:(decide ((M-1).toNat=(o-1).toNat)&&decide (O=r))=false:=by
   rw[Bool.eq_false_iff];intro U;rw[Bool.and_eq_true,decide_eq_true_eq,decide_eq_true_eq]at U;exact I ⟨by omega,U.2⟩
  rw[this,Bool.or_false]
theorem PM.gm_c {g:GR}{G':List GR}(h:PM w q s)(Z:s.G.Pairwise ltG)(C:G'.Pairwise ltG)(hG:∀o r,kU G' o r=if (o,r)=(g.o,g.q)then some g else kU s.G o r)(O:∀w',PM w' q {s with G:=G'}→Oth q.gm w w'→K undef w'):cP Q 185 (.map (some q.gm)) (rqV (g.o,g.q)) (grV g) K w:=by
 have nd:=h.nd;obtain⟨m,I,U⟩:=h.gm;refine uI (v:=g) rqK underlying185 I fun w1 u j=>O w1 ?_ j;obtain⟨i6,l6,v6,b,tm,⟨m1,p1,e1⟩,⟨m2,p2,J⟩,_,⟨m4,p4,M⟩,_,kd⟩:=h;refine⟨i6,l6,v6,j.blk b (LN.pg nd),tm.oth j (LN.tg nd) (LN.dg nd),⟨m1,p1.oth j (LN.mg nd),e1⟩,⟨m2,p2.oth j (LN.rg nd),J⟩,⟨_,u,?_⟩,⟨m4,p4.oth j (LN.ag nd),M⟩,nd,kd.keep (j.other 0 (LN.zg nd))⟩
 refine Sb (zR I.nodup) (IZ C) fun y=>?_;obtain⟨o,r⟩:=y;rw[Jt,nL U (IZ Z),En,En,hG]
theorem FZ {o:Int}(j:blk w b 236 [iv o,u6 r])(h:K (rqV (o,r)) w):ld Q 236 (pB b) K w :=
 ldA (n:=2) (vs:=[iv o,u6 r]) underlying236 rfl kr j rfl rfl h
theorem zct {o:Int}{K2:Value→KV}(h:∀w',blk w' w.heap.size 236 [iv o,u6 r]→Below w.heap.size w w'→K2 (pB w.heap.size) undef w'):alc Q 236 (fun b=>sto Q 236 b (.agg [iv o,u6 r].toArray) (K2 b)) w:=by
 refine df (z:=.agg #[iv 0,u6 0]) kr fun I j b1 J=>?_;have j:blk I w.heap.size 236 [iv 0,u6 0]:=by simpa[Value.cells,iv,u6]using j
 exact ip (n:=2) kr rfl j sm (by simp[iv,u6,Value.oneCell']) fun w2 u C=>h w2 (by simpa using u) (bE b1 C oA)
theorem zaF (u:A.length=54)(J:blk w (z+1) 35 (evC e))(U:∀w',Below w.heap.size w w'→K (.tuple #[rgV (mf A e.o e.a).1,ci (mf A e.o e.a).2]) w'):call Q 309 #[rgV A,pB (z+1)] K w:=by
 have M:=Qc (i:=e.o) (x:=e.a) u;refine ak (goK func309) (FI (Qe fun w1 O b1 s1=>zY fun w2 t2 C s2=>?_));have h:=b1.trans (C.mono oo);have j:=ae h J J.lt;refine rT u (ae C O O.lt) (bw (lK (v:=iv e.o) j rfl (du (lK (v:=iv e.a) j rfl ?_))));refine zcn u fun w3 I=>bu (bv (xP rfl M (ae I t2 t2.lt) fun w4 t4 Z=>?_))
 exact FW (fun _=>rT M t4) (U _ (bE (h.trans (I.mono h.size)) Z oo))
theorem zaG {x y:Nat}(g:LV w z q e)(hx:blk w x 270 [V0])(hy:blk w y 236 [iv e.o,u6 e.r])(hq:∀k∈q.l,k<z)(an:z≤x)(ag:z≤y)(hi:PI s)(hm:bJ e=true)(U:e.k=3)(M:od s.R e.q e.r=false)(O:dv s.N e.n=true)(hf:∀K2:KV,(∀J,PM J q {s with N:=s.N.map (eD (ef s.N e.n) (6+e.q) e.a)}→Ch q.wv w J→K2 (.tuple #[]) J)→aZ Q V0 #[] K2 w)(h:∀w',PM w' q (sX e s)→Ch q.wv w w'→K (.tuple #[]) w'):call Q 311 #[pB x,pB z,pB y,pB (z+1)] K w:=by
 have Z:=gW hm;have hw:∀k∈q.wv,k<z:=fun k U=>hq k (LB.wl k U);have zn:∀b,z≤b→b∉q.wv:=fun b hb O=>by have:=hw b O;omega
 refine ak (goK func311) (FJ (lK (v:=V0) hx rfl (hf _ fun w1 p1 c1=>?_)));have g1:=(g.ch c1 fun k U=>.inl (hw k U)).drew;have y1:=(hy.ch c1 (zn _ ag)).drew;have p1:=p1.drew;refine au (fun u=>LV u z q e∧blk u y 236 [iv e.o,u6 e.r]∧PM u q {s with N:=s.N.map (eD (ef s.N e.n) (6+e.q) e.a)}) ⟨g1,y1,p1⟩ ?_
 refine ab (fun u j _=>lK (v:=pB q.p) j.1.l rfl) (ab (fun u j _=>aj) (ab (fun u j _=>IN) ?_));refine ab (fun u j _=>lK (v:=.map (some q.am)) j.2.2.b (by rw[Nat.zero_add];exact j.2.2.c28)) <|ab (fun u j _=>FZ j.2.1) ?_;refine p1.ask_c Z.1 Z.2.1 hi.r6 fun w2 p2 o2=>?_;have ad:q.am<z:=hq _ (by simp[LB.l]);have al:q.gm<z:=hq _ (by simp[LB.l]);have g2:=(g1.oth o2 (.inl ad)).drew
 have y2:=(o2.blk y1 oo).drew;have p2:=p2.drew;refine au (fun u=>LV u z q e∧blk u y 236 [iv e.o,u6 e.r]∧PM u q {s with N:=s.N.map (eD (ef s.N e.n) (6+e.q) e.a),R:=s.R.set (e.o-1).toNat (s.R.getD (e.o-1).toNat []++[e.r])}) ⟨g2,y2,p2⟩ ?_;refine ab (fun u j _=>lK (v:=pB q.p) j.1.l rfl) (ab (fun u j _=>aj) (ab (fun u j _=>IM) ?_))
 refine ab (fun u j _=>lK (v:=.map (some q.gm)) j.2.2.b (by rw[Nat.zero_add];exact j.2.2.c27)) <|ab (fun u j _=>FZ j.2.1) ?_;refine ab (fun u j _=>bw) (ab (fun u j _=>lK (v:=iv e.o) j.1.e rfl) ?_);refine ab (fun u j _=>gw) (ab (fun u j _=>lK (v:=u6 e.r) j.1.e rfl) ?_);refine ab (fun u j _=>dR) (ab (fun u j _=>lK (v:=u6 e.n) j.1.e rfl) ?_)
 refine ab (fun u j _=>du) (ab (fun u j _=>lK (v:=iv e.a) j.1.e rfl) ?_);refine ab (fun u j _=>dl (vs:=grC ⟨e.o,e.r,e.n,e.a,0⟩) kr) ?_;have C:kU s.G e.o e.r=none:=Wv hi M;have aa:(kX ⟨e.o,e.r,e.n,e.a,0⟩ s.G).Pairwise ltG:=Hc hi.gs fun y hy O=>by
  have hg:kU s.G y.o y.q≠none:=by
   unfold kU;intro hn
   have:=List.find?_eq_none.1 hn y hy
   simp at this
  rw[O.1,O.2]at hg;exact hg C
 have I:(grL (kX ⟨e.o,e.r,e.n,e.a,0⟩ s.G)).Perm (grL s.G++[((e.o,e.r),⟨e.o,e.r,e.n,e.a,0⟩)]):=(insG_perm.map _).trans (List.perm_append_singleton _ _).symm;refine p2.gm_c (g:=⟨e.o,e.r,e.n,e.a,0⟩) (G':=kX ⟨e.o,e.r,e.n,e.a,0⟩ s.G) hi.gs aa (fun o r=>?_) fun J p3 o3=>h J ?_ ?_
 ·have af:((grL s.G++[((e.o,e.r),(⟨e.o,e.r,e.n,e.a,0⟩:GR))]).map (·.1)).Nodup:=(I.map (·.1)).nodup_iff.1 (IZ aa);show _=if (o,r)=(e.o,e.r)then _ else _
  rw[←En,nL I af, ←yC (m:=grL s.G) (x:=(e.o,e.r)) (by rw[En];exact C),Jt, ←En]
 ·rw[zbw U];exact p3
 ·have c2:Ch q.wv w w2:=(c1.trans (Ch.of_below (Below.refl _ w1).drew:Ch [] w1 w1.drew) sm).trans (Ch.of_oth o2 sm:Ch [q.am] w1.drew w2) (by simp[LB.wv]);exact(c2.trans (Ch.of_below (Below.refl _ w2).drew:Ch [] w2 w2.drew) sm).trans (Ch.of_oth o3 sm:Ch [q.gm] w2.drew J) (by simp[LB.wv])
theorem zcE (h:PM w q s)(hi:PI s)(hm:bJ e=true)(hk:e.k=3)(kd:Kind w q s e K):call Q 298 #[pB q.p,.agg (evC e).toArray] K w:=by
 have az:=kd.y;obtain⟨no,_⟩:=kd;obtain⟨aS,ho⟩:=sj hm;have ad:=gW hm;have av:=h.lt;have C:og e s=if od s.R e.q e.r=true then 14 else if dv s.N e.n=false then 9 else zj (fun A=>(mf A e.o e.a).2) s.N (ef s.N e.n):=by unfold og;rw[if_neg oo,if_neg oo,if_pos hk]
 refine ak (goK func298) (Hr (LE.make fun w1 g1 s1=>?_));have p1:=h.below g1.bel;refine bw (lK (v:=iv e.o) g1.e rfl (gw (lK (v:=u6 e.r) g1.e rfl (dl (vs:=[iv e.o,u6 e.r]) kr (zct fun w2 y2 b2=>?_)))));have g2:=(g1.fresh b2).drew;have p2:=(p1.below b2).drew;have y2:=y2.drew;have zy:w.heap.size+2≤w1.heap.size:=g1.sz
 refine ac (fun _=>lK (v:=pB q.p) g2.l rfl) (ac (fun _=>aj) (ac (fun _=>IN) ?_));refine ac (fun _=>lK (v:=.map (some q.am)) p2.b (by rw[Nat.zero_add];exact p2.c28)) (ac (fun _=>FZ y2) (ac (fun _=>p2.ask_l ad.1 ad.2.1) ?_));rw[show (e.o-1).toNat=e.q from rfl];cases I:od s.R e.q e.r with
 | true =>
  rw[I,if_pos rfl]at C
  have:=no _ (by rw[C];decide) g2.bel
  rw[C]at this;exact aT this
 | false =>
 rw[I,if_neg sm]at C;have U:=g2.drew;have p3:=p2.drew;refine aF (au (fun u=>LE w u q e∧PM u q s) ⟨U,p3⟩ ?_);refine ab (fun u J _=>lK (v:=pB q.p) J.1.l rfl) (ab (fun u J _=>aj) (ab (fun u J _=>AS) ?_));refine ab (fun u J _=>lK (v:=pB q.t) J.2.b (by rw[Nat.zero_add];exact J.2.c18)) ?_;refine ab (fun u J _=>dR) (ab (fun u J _=>lK (v:=u6 e.n) J.1.e rfl) ?_)
 refine Qp p3.tm (au (fun _=>True) trivial (ab (fun u J _=>bK) ?_));rw[kW];cases hh:dv s.N e.n with
 | false =>
  rw[hh,if_pos rfl]at C
  have:=no _ (by rw[C];decide) U.bel
  rw[C]at this;exact aT this
 | true =>
 rw[hh,if_neg sm]at C;refine aF (lK (v:=pB q.p) U.l rfl (dR (lK (v:=u6 e.n) U.e rfl ?_)));refine U8 (f:=fun A=>mf A e.o e.a) (c:=6+e.q) (x:=e.a) p3 hi (fun A hA=>Qc hA) (fun A hA=>zaE hA) (fun A hA M b4 K' ag => dn rfl (zaF hA (U.fresh b4).e ag)) (fun M af b4=>?_) fun h0 M fv ar b4 ap=>?_
 ·have g4:=U.fresh b4;refine bu (bv (df (z:=.nilFunc) kr fun w5 Z b5 s5=>?_));have Z:=cZ Z
  refine cB kf Z sm rfl fun w6 x6 o6=>wd (aX (ax af ?_))
  have:=no w6 (by rw[C];exact af) (bE (g4.fresh b5).bel o6 (by have:=g4.sz;omega))
  rwa[C]at this
 ·have g4:=U.fresh b4;refine bu (bv (df (z:=.nilFunc) kr fun w5 Z b5 s5=>?_));have Z:=cZ Z
  refine cB kf Z sm ar fun w6 x6 o6=>wd (aX (ao sm ?_));have x6:blk w6 M.heap.size 270 [fv]:=x6;have O:Below M.heap.size M w6:=bE b5 o6 oA;have g6:=g4.fresh O;have a0:=g4.sz;refine az (by rw[C];exact h0) w6 _ g6.bel fun w7 K2 b7 al=>dn rfl ?_;have aa:Below M.heap.size M w7:=O.trans (b7.mono O.size);have y4:=ae b4 y2.drew y2.lt
  exact zaG (g6.fresh b7).lv (ae b7 x6 x6.lt) (ae aa y4 y4.lt) av oo oo hi hm hk I hh (fun K3 an=>ap w7 K3 aa an) al
end
section
variable {w:World}{K:KV}{q:LB}{s:PL}{e:EV}
theorem MA (h:∀w',blk w' w.heap.size 236 [iv 0,u6 0]→Below w.heap.size w w'→w'.heap.size=w.heap.size+1→K (pB w.heap.size) w'):alc Q 236 K w :=
 df (z:=.agg #[iv 0,u6 0]) kr fun C j b1 u=>h C (by simpa[Value.cells,iv,u6]using j) b1 u
theorem VV {o:Int}(u:blk w b 236 [iv 0,u6 0])(h:∀w',blk w' b 236 [iv o,u6 r]→Oth b w w'→K undef w'):sto Q 236 (pB b) (.agg [iv o,u6 r].toArray) K w :=
 ip (n:=2) kr rfl u sm (by simp[iv,u6,Value.oneCell']) fun w2 j C=>h w2 (by simpa using j) C
theorem zeD {S0:World→Prop}{T:Value→Value→(World→Prop)→World→Prop}(J:∀w',Below w.heap.size w w'→S0 w')(h:∀w' I bk,blk w' I 236 [iv 0,u6 0]→blk w' bk 236 [iv 0,u6 0]→I≠bk→w.heap.size≤I→w.heap.size≤bk→Below w.heap.size w w'→T (pB I) (pB bk) S0 w'):(alc Q 236 (fun i=>aU S0 fun S=>alc Q 236 fun k=>aU S fun S=>T i k S) w)∧(alc Q 236 (fun k=>aU S0 fun S=>alc Q 236 fun i=>aU S fun S=>T i k S) w):=by
 refine⟨MA fun Z C b1 O=>aC (J _ b1) (MA fun w2 M j U=>?_),MA fun Z C b1 O=>aC (J _ b1) (MA fun w2 M j U=>?_)⟩
 ·have u:=b1.trans (j.mono oo);exact aC (J _ u) (h w2 _ _ (ae j C C.lt) M oo oo oo u)
 ·have u:=b1.trans (j.mono oo);exact aC (J _ u) (h w2 _ _ M (ae j C C.lt) oo oo oo u)
theorem Zv {y:Nat}{g:GR}(j:A.length=54)(M:blk w (z+1) 35 (evC e))(U:blk w y 121 (grC g))(hK:∀w',Below w.heap.size w w'→K (.tuple #[rgV (mc A e.o g.a).1,ci (mc A e.o g.a).2]) w'):call Q 312 #[rgV A,pB (z+1),pB y] K w:=by
 have O:=Qb (i:=e.o) (x:=g.a) j;refine ak (goK func312) (FA (Qe fun w1 Z b1 s1=>zY fun w2 t2 I s2=>?_));have h:=b1.trans (I.mono oo);have u:=ae h M M.lt;have C:=ae h U U.lt;refine rT j (ae I Z Z.lt) (bw (lK (v:=iv e.o) u rfl (Tj (lK (v:=iv g.a) C rfl ?_))));refine zcg j fun w3 J=>bu (bv (xP rfl O (ae J t2 t2.lt) fun w4 t4 o4=>?_))
 exact FW (fun _=>rT O t4) (hK _ (bE (h.trans (J.mono h.size)) o4 oo))
theorem Zw {x y v u:Nat}{gr:GR}(g:LV w z q e)(hx:blk w x 270 [V0])(hy:blk w y 236 [iv e.o,u6 e.r])(hv:blk w v 121 (grC gr))(j:blk w u 236 [iv e.o,u6 e.f])(Z:∀k∈q.l,k<z)(ar:z≤x)(an:z≤y)(ag:z+2≤v)(af:z≤u)(hi:PI s)(hm:bJ e=true)(M:e.k=4)(hg:kU s.G e.o e.f=some gr)(hf:∀K2:KV,(∀C,PM C q {s with N:=s.N.map (eD (ef s.N gr.n) (12+e.q) gr.a)}→Ch q.wv w C→K2 (.tuple #[]) C)→aZ Q V0 #[] K2 w)(h:∀w',PM w' q (sX e s)→Ch (v::q.wv) w w'→K (.tuple #[]) w'):call Q 314 #[pB x,pB z,pB y,pB (z+1),pB v,pB u] K w:=by
 have O:=gW hm;have hw:∀k∈q.wv,k<z:=fun k M=>Z k (LB.wl k M);have zn:∀b,z≤b→b∉q.wv:=fun b hb I=>by have:=hw b I;omega
 obtain⟨_,go,gq⟩:=yw hg;refine ak (goK func314) (FB (lK (v:=V0) hx rfl (hf _ fun w1 p1 J=>?_)));have g1:=(g.ch J fun k M=>.inl (hw k M)).drew;have y1:=(hy.ch J (zn _ an)).drew;have v1:=(hv.ch J (zn _ oo)).drew;have u1:=(j.ch J (zn _ af)).drew;have p1:=p1.drew
 refine au (fun k=>LV k z q e∧blk k y 236 [iv e.o,u6 e.r]∧PM k q {s with N:=s.N.map (eD (ef s.N gr.n) (12+e.q) gr.a)}) ⟨g1,y1,p1⟩ ?_;refine ab (fun u j _=>lK (v:=pB q.p) j.1.l rfl) (ab (fun u j _=>aj) (ab (fun u j _=>IN) ?_));refine ab (fun u j _=>lK (v:=.map (some q.am)) j.2.2.b (by rw[Nat.zero_add];exact j.2.2.c28)) <|ab (fun u j _=>FZ j.2.1) ?_
 refine p1.ask_c O.1 O.2.1 hi.r6 fun w2 p2 o2=>?_;have aa:q.am<z:=Z _ (by simp[LB.l]);have ap:q.gm<z:=Z _ (by simp[LB.l]);have g2:=g1.oth o2 (.inl aa);have v2:=o2.blk v1 oo;have u2:=o2.blk u1 oo;refine gw (lK (v:=u6 e.r) g2.e rfl (NN (cB kf v2 (by simp[grC]) rfl fun C U o3=>?_)));have U:blk C v 121 (grC {gr with b:=e.r}):=U
 have g3:=(g2.oth o3 (.inr ag)).drew;have uv:u≠v:=fun e=>absurd (xv u2 (e ▸ v2)) dc;have u3:=(o3.blk u2 uv).drew;have p3:=(p2.oth o3 fun I=>by have:=Z _ I;omega).drew;have U:=U.drew
 refine au (fun k=>LV k z q e∧blk k u 236 [iv e.o,u6 e.f]∧blk k v 121 (grC {gr with b:=e.r})∧PM k q {s with N:=s.N.map (eD (ef s.N gr.n) (12+e.q) gr.a),R:=s.R.set (e.o-1).toNat (s.R.getD (e.o-1).toNat []++[e.r])}) ⟨g3,u3,U,p3⟩ ?_;refine ab (fun u j _=>lK (v:=pB q.p) j.1.l rfl) (ab (fun u j _=>aj) (ab (fun u j _=>IM) ?_))
 refine ab (fun u j _=>lK (v:=.map (some q.gm)) j.2.2.2.b (by rw[Nat.zero_add];exact j.2.2.2.c27)) <|ab (fun u j _=>FZ j.2.1) <|ab (v:=grV {gr with b:=e.r}) (fun u j _=>ldA (n:=5) (vs:=grC {gr with b:=e.r}) underlying121 rfl kr j.2.2.1 rfl rfl) ?_;have ek:rqV (e.o,e.f)=rqV (({gr with b:=e.r}:GR).o,({gr with b:=e.r}:GR).q):=by show _=rqV (gr.o,gr.q);rw[go,gq]
 rw[ek];have ad:(s.G.map (qO e.o e.f e.r)).Pairwise ltG:=by
  rw[List.pairwise_map];refine hi.gs.imp fun {x y} al=>?_;unfold ltG at *;rw[(nG x).1,(nG x).2,(nG y).1,(nG y).2];exact al
 refine p3.gm_c (g:={gr with b:=e.r}) (G':=s.G.map (qO e.o e.f e.r)) hi.gs ad (fun o r=>?_) fun w4 p4 o4=>h w4 ?_ ?_
 ·show _=if (o,r)=(gr.o,gr.q)then _ else _
  rw[show (gr.o,gr.q)=(e.o,e.f)by rw[go,gq]];by_cases I:(o,r)=(e.o,e.f)
  ·rw[if_pos I];obtain⟨rfl,rfl⟩:=Prod.mk.inj I;rw[ZB,hg];rfl
  ·rw[if_neg I];refine O7 nG fun y e1 e2=>?_;unfold qO;rw[if_neg fun h2=>I (by rw[←e1, ←e2,h2.1,h2.2])]
 ·rw[zbx M]
  have:gOf s e=gr:=by unfold gOf;rw[hg];rfl
  rw[this];exact p4
 ·have c2:Ch (v::q.wv) w w2:=((J.mono fun x hx=>List.mem_cons_of_mem _ hx).trans (Ch.of_below (Below.refl _ w1).drew:Ch [] w1 w1.drew) sm).trans (Ch.of_oth o2 sm:Ch [q.am] w1.drew w2) (by simp[LB.wv])
  exact((c2.trans (Ch.of_oth o3 sm:Ch [v] w2 C) sm).trans (Ch.of_below (Below.refl _ C).drew:Ch [] C C.drew) sm).trans (Ch.of_oth o4 sm:Ch [q.gm] C.drew w4) (by simp[LB.wv])
theorem zbM (h:PM w q s)(hi:PI s)(hm:bJ e=true)(hk:e.k=4)(kd:Kind w q s e K):call Q 299 #[pB q.p,.agg (evC e).toArray] K w:=by
 obtain⟨no,a4⟩:=kd;obtain⟨a5,ho⟩:=sj hm;have ap:=gW hm;have Z:=h.lt;have I:og e s=if od s.R e.q e.r=true then 14 else match kU s.G e.o e.f with|none=>12|some g=>if g.b≠0 then 12 else zj (fun A=>(mc A e.o g.a).2) s.N (ef s.N g.n):=by unfold og;rw[if_neg oo,if_neg oo,if_neg oo,if_pos hk];rfl
 refine ak (goK func299) (Hm (LE.make fun w1 g1 s1=>?_));have g1:=g1.drew;have p1:=h.below g1.bel;refine au (fun u=>LE w u q e∧PM u q s) ⟨g1,p1⟩ ?_;refine ab (fun u C _=>bw) (ab (fun u C _=>lK (v:=iv e.o) C.1.e rfl) ?_);refine ab (fun u C _=>gw) (ab (fun u C _=>lK (v:=u6 e.r) C.1.e rfl) ?_);refine ab (fun u C _=>dl (vs:=[iv e.o,u6 e.r]) kr) ?_
 refine ab (fun u C _=>bw) (ab (fun u C _=>lK (v:=iv e.o) C.1.e rfl) ?_);refine ab (fun u C _=>py) (ab (fun u C _=>lK (v:=u6 e.f) C.1.e rfl) ?_);refine ab (fun u C _=>dl (vs:=[iv e.o,u6 e.f]) kr) ?_;refine zeD (fun w' b=>⟨g1.fresh b,p1.below b⟩) fun w2 bi bk i2 k2 an zi zk b2=>?_;have z2:w.heap.size+2≤w1.drew.heap.size:=g1.sz;have zi:w.heap.size+2≤bi:=Nat.le_trans z2 zi
 have zk:w.heap.size+2≤bk:=Nat.le_trans z2 zk;have g2:=g1.fresh b2;have p2:=p1.below b2;refine VV i2 fun w3 i3 o3=>?_;have g3:=g2.oth o3 zi;have p3:=p2.oth o3 fun hh=>by have:=Z _ hh;omega
 have k3:=o3.blk k2 (fun e=>an e.symm);refine aC ⟨g3,p3⟩ (VV k3 fun w4 k4 o4=>?_);have i4:=(o4.blk i3 an).drew;have k4:=k4.drew;have g4:=(g3.oth o4 zk).drew;have p4:=(p3.oth o4 fun hh=>by have:=Z _ hh;omega).drew;refine ac (fun _=>lK (v:=pB q.p) g4.l rfl) (ac (fun _=>aj) (ac (fun _=>IN) ?_))
 refine ac (fun _=>lK (v:=.map (some q.am)) p4.b (by rw[Nat.zero_add];exact p4.c28)) (ac (fun _=>FZ i4) (ac (fun _=>p4.ask_l ap.1 ap.2.1) ?_));rw[show (e.o-1).toNat=e.q from rfl];cases aa:od s.R e.q e.r with
 | true =>
  rw[aa,if_pos rfl]at I
  have:=no _ (by rw[I];decide) g4.bel
  rw[I]at this;exact aT this
 | false =>
 rw[aa,if_neg sm]at I;have g5:=g4.drew;have p5:=p4.drew;have i5:=i4.drew;have k5:=k4.drew;refine aF (au (fun u=>LE w u q e∧PM u q s∧blk u bk 236 [iv e.o,u6 e.f]) ⟨g5,p5,k5⟩ ?_);refine ab (fun u C _=>lK (v:=pB q.p) C.1.l rfl) (ab (fun u C _=>aj) (ab (fun u C _=>IM) ?_));refine ab (fun u C _=>lK (v:=.map (some q.gm)) C.2.1.b (by rw[Nat.zero_add];exact C.2.1.c27)) ?_
 refine ab (fun u C _=>FZ C.2.2) (ab (fun u C _=>C.2.1.gr_l hi) (ab (fun u C _=>bu) (ab (fun u C _=>bv) ?_)));generalize U:(kU s.G e.o e.f).getD ⟨0,0,0,0,0⟩=gr;refine df (z:=grV ⟨0,0,0,0,0⟩) kr fun w6 v6 b6 s6=>?_;have v6:blk w6 w4.drew.drew.heap.size 121 (grC ⟨0,0,0,0,0⟩):=by simpa[Value.cells,grV]using v6
 have g6:=g5.fresh b6;have p6:=p5.below b6;have i6:=ae b6 i5 i5.lt;have k6:=ae b6 k5 k5.lt;have z6:w.heap.size+2≤w4.drew.drew.heap.size:=g5.sz;refine aC ⟨g6,p6,k6⟩ (ip (n:=5) (vs:=grC gr) kr rfl v6 (by simp[grC]) (uF _) fun w7 v7 o7=>?_);generalize hv:w4.drew.drew.heap.size=v at *;have v7:blk w7 v 121 (grC gr):=v7;have g7:=g6.oth o7 z6
 have p7:=p6.oth o7 fun hh=>by have:=Z _ hh;omega
 have a2:bi≠v:=fun e=>absurd (xv i6 (e ▸ v6)) dc;have a3:bk≠v:=fun e=>absurd (xv k6 (e ▸ v6)) dc;have i7:=o7.blk i6 a2;have k7:=o7.blk k6 a3;refine aC ⟨g7,p7,k7⟩ (FC (bK ?_));cases hq:kU s.G e.o e.f with
 | none =>
  rw[hq]at I;have I:og e s=12:=I;refine eA (cz (aT ?_))
  have:=no _ (by rw[I];decide) g7.bel
  rwa[I]at this
 | some g0 =>
 rw[hq]at I U;have U:g0=gr:=U;subst U;simp only at I;refine iZ (NN (lK (v:=u6 g0.b) v7 rfl (aX (dh ?_))));by_cases hb:g0.b≠0
 ·refine ax hb ?_;rw[if_pos hb]at I
  have:=no _ (by rw[I];decide) g7.bel
  rwa[I]at this
 rw[if_neg hb]at I;refine ao hb (lK (v:=pB q.p) g7.l rfl (Ti (lK (v:=u6 g0.n) v7 rfl ?_)));refine U8 (f:=fun A=>mc A e.o g0.a) (c:=12+e.q) (x:=g0.a) p7 hi (fun A hA=>Qb hA) (fun A hA=>Zu hA) (fun A hA w8 M K' av => dn rfl (Zv hA (g7.fresh M).e (ae M v7 v7.lt) av)) (fun w8 ar M=>?_) fun h0 w8 fv a1 M a0=>?_
 ·have g8:=g7.fresh M;refine bu (bv (df (z:=.nilFunc) kr fun w9 x9 b9 s9=>?_));have x9:=cZ x9
  refine cB kf x9 sm rfl fun w10 J ag=>aX (ax ar ?_)
  have:=no w10 (by rw[I];exact ar) (bE (g8.fresh b9).bel ag (by have:=g8.sz;omega))
  rwa[I]at this
 ·have g8:=g7.fresh M;refine bu (bv (df (z:=.nilFunc) kr fun w9 x9 b9 s9=>?_));have x9:=cZ x9
  refine cB kf x9 sm a1 fun w10 J ag=>aX (ao sm ?_);have J:blk w10 w8.heap.size 270 [fv]:=J;have af:Below w8.heap.size w8 w10:=bE b9 ag oA;have al:=g8.fresh af;have a6:=g8.sz;refine a4 (by rw[I];exact h0) w10 _ al.bel ⟨[v],by simp;omega,fun w11 K2 ad az=>dn rfl ?_⟩;have O:Below w8.heap.size w8 w11:=af.trans (ad.mono af.size)
  have i8:=ae M i7 i7.lt;have k8:=ae M k7 k7.lt;have v8:=ae M v7 v7.lt;exact Zw (al.fresh ad).lv (ae ad J J.lt) (ae O i8 i8.lt) (ae O v8 v8.lt) (ae O k8 k8.lt) Z oo oo z6 oo hi hm hk hq (fun K3 aS=>a0 w11 K3 O aS) az
end
end
end
section
open Go.RowKit
def xE (l0 s2 t27 t28 t29:Value)(zf:Nat→Value):List Value:=l0::zf 1::s2::zT zf 3 24 (t27::t28::t29::zT zf 30 42 ([]))
def sf (l0 s2:Value)(zf:Nat→Value):List Value:=l0::zf 1::s2::zT zf 3 69 ([])
def xF (s2 t57:Value)(zf:Nat→Value):List Value:=zf 0::zf 1::s2::zT zf 3 54 (t57::zT zf 58 14 ([]))
def xH (s2:Value)(zf:Nat→Value):List Value:=zf 0::zf 1::s2::zT zf 3 69 ([])
def fA (K:KV):KE:=kZ f76 [1,1,1,1] K
def oK (K:KV):KE:=ah Q (cd f76 (b1 122)) (fA K) (xx xf (fA K) 0) (rk f76 K)
def gD (K:KV):KE:=kZ f76 (b1 63) K
def oL (K:KV):KE:=ah Q (cd f76 (b1 250)) (gD K) (xx xf (gD K) 2) (rk f76 K)
theorem Hj (h:alc Q 58 (fun W0=>bT .eql 132 V0 (.pointer none) fun t8 w=>cond t8 (ld Q 58 W0 (fun t9=>sto Q 58 W0 t9 fun _=>aV Q [(some 58,W0)] K) w) (sN V0 (fun j=>sF 189 j 0 fun u=>sL 54 u fun t13=>sN V0 fun t15=>sF 189 t15 1 fun C=>sL 54 C fun I=>sN V0 fun J=>sF 189 J 2 fun M=>sL 33 M fun O=>sti (bld Q 58 #[(0,t13),(1,I),(2,O)]) fun U=>sto Q 58 W0 U fun _=>aJ V0 fun t24=>ai Q 189 t24 3 fun Z=>ld Q 181 Z fun aa=>call Q 128 #[aa] fun X0=>lN 87 X0 fun Y0=>oK K (xE V0 W0 X0 Y0 (ci 0) (zV (zV zu 7 [V0,t8]) 10 [V0,j,u,t13,V0,t15,C,I,V0,J,M,O,U,V0,t24,Z,aa]))) w.drew)) w):Gives Q 76 #[V0] w K:=by
 refine aq func76 kr ?_;revert h;delta oK fA;exact mpF
theorem Fq (Inv:Value→World→Prop)(μ:Value→World→Nat)(h0:Inv Z0 w)(hs:∀(j:Value) (dd:Nat→Value) (w:World) (m:Nat),Inv j w→m=μ j w →
  lS j Y0 (fun C w=>cond C (aL Q 87 X0 j (fun M=>ld Q 31 M fun u w=>aE (fun S w=>hF S 58 W0 3 fun O=>hL S 55 O fun U=>hN S V0 fun Z=>hF S 189 Z 4 fun aa=>hL S 183 aa fun ad=>hld S (lkp Q 183 ad u false) fun af=>hN S V0 fun ag=>hF S 189 ag 5 fun al=>hL S 184 al fun am=>hld S (lkp Q 184 am u false) fun an=>hld S (bld Q 79 #[(0,u),(1,af),(2,an)]) fun ap=>bg Q 55 1 #[(0,ap)] (fun ar=>aU S fun _=>blt Q .append #[55,55] 55 #[false,false] #[U,ar] fun av=>aE fun S w=>hF S 58 W0 3 fun az=>sto Q 55 az av (fun _=>nC j fun I w=>(Inv I w)∧((μ I w)<m)) w) w) w.drew) w) (fA K (sf V0 W0 (zV dd 27 [X0,Y0,j,C])) w)) w):oK K (xE V0 W0 X0 Y0 Z0 zf) w:=by
 refine aI (cd f76 (b1 244)) (zr [(4,1),(29,24)]) kr (vP [29] Inv) (vQ [29] μ) h0 ?_;intro e' w' hI;have h:=hs _ (zM zf (gd e') (zr [(4,1),(29,24)])) w' _ hI rfl;revert h;generalize (fA K)=qc0;exact mpF
theorem Fs (h:aJ V0 (fun j=>ai Q 189 j 7 fun u=>ld Q 185 u fun C=>rng Q 185 C fun H1=>oL K (xF W0 H1 (zV (zV zf 0 [V0]) 53 [V0,j,u,C]))) w):fA K (sf V0 W0 zf) w:=by
 delta fA;revert h;delta oL gD;exact mpF
theorem Fr (Inv:World→Prop)(μ:World→Nat)(h0:Inv w)(hs:∀(dd:Nat→Value) (w:World) (m:Nat),Inv w→m=μ w →
  nxt Q H1 false 0 (fun j=>ext Q j 0 fun u w=>cond u (ent Q H1 (fun C=>ext Q C 1 fun I=>alc Q 121 fun g6=>sto Q 121 g6 I fun _=>ai Q 58 W0 4 fun J=>ld Q 56 J fun M=>ld Q 121 g6 fun O=>bg Q 56 1 #[(0,O)] fun U=>blt Q .append #[56,56] 56 #[false,false] #[M,U] fun Z=>ai Q 58 W0 4 fun aa=>sto Q 56 aa Z fun _ w=>(Inv w)∧((μ w)<m)) w) (gD K (xH W0 (zV dd 57 [H1,j,u])) w)) w):oL K (xF W0 H1 zf) w:=by
 refine aI (cd f76 (b1 500)) (zr [(6,1),(58,10)]) kr (fun e2 w2=>Inv w2) (fun e2 w2=>μ w2) h0 ?_;intro e' w' hI;have h:=hs (zM zf (gd e') (zr [(6,1),(58,10)])) w' _ hI rfl;revert h;generalize (gD K)=qc0;exact mpF
theorem Ft (h:ai Q 58 W0 4 (fun j=>ld Q 56 j fun u=>call Q 129 #[u,.func (.func 130) #[] #[]] fun _=>ld Q 58 W0 fun C=>sto Q 58 W0 C fun _=>aV Q [(some 58,W0)] K) w):gD K (xH W0 zf) w:=by
 delta gD;exact mpK h
attribute [irreducible] fA oK gD oL
theorem Fp (h:box Q 121 V0 (fun a2=>box Q 121 W0 fun J w=>aE (fun S w=>hF S 121 a2 0 fun M=>hL S 3 M fun O=>hF S 121 J 0 fun t7=>hL S 3 t7 fun U=>hF S 121 a2 1 fun j=>hL S 31 j fun u=>hF S 121 J 1 fun C=>hL S 31 C fun t13=>call Q 132 #[O,U] (fun Z=>aU S fun _=>call Q 133 #[u,t13] fun t14=>aE fun _=>bg Q 23 2 #[(0,Z),(1,t14)] fun t15=>aE fun _=>call Q 131 #[t15] fun I=>aE fun _=>K I) w) w.drew) w):Gives Q 130 #[V0,W0] w K:=by
 refine aq func130 kr ?_;exact mpK h
theorem Hi (h:alc Q 33 (fun t2=>bT .eql 132 V0 (.pointer none) fun t4 w=>cond t4 (bld Q 33 #[] (fun j=>sto Q 33 t2 j fun _=>aV Q [(some 33,t2)] K) w) (aJ V0 (fun t7=>ai Q 189 t7 2 fun u=>ld Q 33 u fun C=>sto Q 33 t2 C fun _=>aV Q [(some 33,t2)] K) w)) w):Gives Q 116 #[V0] w K:=by
 refine aq func116 kr ?_;exact mpK h
end
section
attribute [local irreducible] bin un conv call aZ blt slc ai fld aL idx lkp cP eP eSt rng nxt ent ext alc box bld bg ld sto aJ cr mkS ifc pick rdy wts aG sti cond aV Gives ah dy dP cOp
section
open Go.RowKit Go.ChangeMaps
theorem DoesB.mono {q:LB}{j:PL}(h:DoesB B w' q j V0)(I:B'≤B):DoesB B' w' q j V0:=by
 obtain⟨X,u,C⟩:=h;exact⟨X,fun k J=>Nat.le_trans I (u k J),C⟩
section
variable {w:World}{K:KV}{q:LB}{s:PL}{e:EV}
theorem HG (h:K (.bool false) w):bin Q .eql 132 cx cy (pB b) (.pointer none) K w :=
 gy (by unfold eqG eqGuard;rfl) kr h
theorem PM.cutV (h:PM w q s):((plC q s).drop 12).take 6=vCs s.V:=by
 unfold plC;rw[show (12:Nat)=(s.I.map Value.bool++s.L.map Value.bool).length by simp[h.i6,h.l6], ←List.append_assoc,List.drop_left',List.take_append_of_le_length (by rw[bo,h.v6];omega),tL (by rw[bo,h.v6];omega)];rfl
theorem PM.ldV (h:PM w q s)(j:K (.agg (vCs s.V).toArray) w):ld Q 33 (pA q.p (0+12)) K w :=
 ldA (n:=6) (vs:=vCs s.V) underlying33 rfl kr h.b h.cutV (by rw[bo,h.v6]) j
theorem Ud (h:PM w q s)(hi:PI s)(no:∀w',oN e s≠0→Below w.heap.size w w'→K (.tuple #[.nilFunc,ci (oN e s)]) w')(aS:oN e s=0→∀w' fv,Below w.heap.size w w'→DoesB w.heap.size w' q (sX e s) fv→K (.tuple #[fv,ci 0]) w'):call Q 160 #[pB q.p,.agg (evC e).toArray] K w:=by
 have M:oN e s=if bJ e=false then 1 else if qQ s.V e=true then 14 else if eX s.V e=false then 13 else if s.I.getD e.q false=false∨s.L.getD e.q false=true then 10 else og e s:=rfl
 refine ak (goK func160) (Hl (yk fun w1 e1 b1 s1=>HG (aF (dT e1 (Cs fun w2 b2=>bK ?_)))));have O:=b1.trans (b2.mono b1.size);have e2:=ae b2 e1 e1.lt;have p2:=h.below O;cases hm:bJ e with
 | false =>
  rw[hm,if_pos rfl]at M
  have:=no _ (by rw[M];decide) O
  rw[M]at this;exact aT this
 | true =>
 rw[hm,if_neg sm]at M;obtain⟨al,ho⟩:=sj hm;have a1:=gW hm;have p2:=p2.drew;have e2:=e2.drew;have O:=O.drew;refine aF (au (fun u=>PM u q s∧blk u w.heap.size 35 (evC e)) ⟨p2,e2⟩ ?_);refine ab (fun u J _=>aj) (ab (fun u J _=>AQ) (ab (fun u J _=>J.1.ldV) (ab (fun u J _=>dT J.2) ?_)));refine Mv h.v6 fun w3 b3=>au (fun _=>True) trivial ?_;have Z:=O.trans (b3.mono O.size)
 have e3:=ae b3 e2 e2.lt;have p3:=p2.below b3;cases hL:qQ s.V e with
 | true =>
  rw[hL,if_pos rfl]at M
  have:=no _ (by rw[M];decide) Z
  rw[M]at this;exact aT this
 | false =>
 rw[hL,if_neg sm]at M;have p3:=p3.drew;have e3:=e3.drew;have Z:=Z.drew;refine aF (au (fun u=>PM u q s∧blk u w.heap.size 35 (evC e)) ⟨p3,e3⟩ ?_);refine ab (fun u J _=>aj) (ab (fun u J _=>AQ) (ab (fun u J _=>J.1.ldV) (ab (fun u J _=>dT J.2) ?_)));refine Oz h.v6 (fun k hk=>(hi.vb k hk).1) fun w4 b4=>au (fun _=>True) trivial (ab (fun u J _=>bK) ?_)
 have C:=Z.trans (b4.mono Z.size);have e4:=ae b4 e3 e3.lt;have U:=p3.below b4;refine Fx ?_;cases hr:eX s.V e with
 | false =>
  rw[hr,if_pos rfl]at M
  have:=no _ (by rw[M];decide) C
  rw[M]at this;exact aT this
 | true =>
 rw[hr,if_neg sm]at M;have U:=U.drew;have e4:=e4.drew;have C:=C.drew;refine aF (ac (fun _=>bw) (ac (fun _=>lK (v:=iv e.o) e4 rfl) ?_));refine ac (v:=iv (e.q:Nat)) (fun K j=>ba oo oo (by rw[show e.o-1=(e.q:Nat)by omega];exact j)) ?_;refine ac (fun _=>aj) (ac (fun _=>EI) (ac (fun _=>Re rfl al) ?_))
 refine ac (fun _=>lK (v:=.bool (s.I.getD e.q false)) U.b (by rw[Nat.zero_add];exact U.cI al)) (ac (fun _=>bK) (Fy ?_));cases hI:s.I.getD e.q false with
 | false =>
  rw[hI,if_pos (.inl rfl)]at M
  have:=no _ (by rw[M];decide) C
  rw[M]at this;exact aT (vZ (aT this))
 | true =>
 have U:=U.drew;have e4:=e4.drew;have C:=C.drew;refine aF (ac (fun _=>bw) (ac (fun _=>lK (v:=iv e.o) e4 rfl) ?_));refine ac (v:=iv (e.q:Nat)) (fun K j=>ba oo oo (by rw[show e.o-1=(e.q:Nat)by omega];exact j)) ?_;refine ac (fun _=>aj) (ac (fun _=>NO) (ac (fun _=>Re rfl al) ?_))
 refine ac (fun _=>lK (v:=.bool (s.L.getD e.q false)) U.b (by rw[Nat.zero_add];exact U.cL al)) (vZ ?_);cases am:s.L.getD e.q false with
 | true =>
  rw[hI,am,if_pos (.inr rfl)]at M
  have:=no _ (by rw[M];decide) C
  rw[M]at this;exact aT this
 | false =>
 rw[hI,am,if_neg sm]at M;have U:=U.drew;have e4:=e4.drew;have C:=C.drew;refine aF (Fz (au (fun u=>PM u q s∧blk u w.heap.size 35 (evC e)) ⟨U,e4⟩ ?_));refine ab (fun u J _=>mh) (ab (fun u J _=>lK (v:=kv8 e.k) J.2 rfl) ?_)
 have ad:∀(fv:Value) (f:FuncId),fv=.func (.func f) #[] #[]→kindsV[e.k.toNat]? = some fv→0≤e.k→call Q f #[pB q.p,.agg (evC e).toArray] (fun aa w=>aE (fun S w=>hld S (ext Q aa 0) fun af=>hld S (ext Q aa 1) fun ag=>K (.tuple #[af,ag]) w) w) _ →
   hld (fun u=>PM u q s∧blk u w.heap.size 35 (evC e)) (aL Q 309 (pA 0 0) (.int .u8 e.k)) fun ar=>hld (fun u=>PM u q s∧blk u w.heap.size 35 (evC e)) (ld Q 308 ar) fun av=>hld (fun u=>PM u q s∧blk u w.heap.size 35 (evC e)) (ld Q 35 (pB w.heap.size)) fun az=>aZ Q av #[pB q.p,az] (fun aa w=>aE (fun S w=>hld S (ext Q aa 0) fun af=>hld S (ext Q aa 1) fun ag=>K (.tuple #[af,ag]) w) w) w4.drew.drew.drew:=fun fv f an hk h0 hc=>by
  have a0:e.k.toNat<8:=(gS hk).1;refine ab (v:=pA 0 e.k.toNat) (fun u J K j=>ew underlying309 (s:=1) kf h0 oo (by rw[Nat.mul_one,Nat.zero_add];exact j)) ?_;refine ab (v:=fv) (fun u J K j=>by
   obtain⟨E,fr,h0⟩:=J.1.kd;refine yR kf ?_ j;unfold World.cell?;rw[h0];simpa using hk) (ab (fun u J _=>dT J.2) ?_)
  subst an;exact dn rfl hc
 have kd:Kind w4.drew.drew.drew q s e (fun aa w=>aE (fun S w=>hld S (ext Q aa 0) fun af=>hld S (ext Q aa 1) fun ag=>K (.tuple #[af,ag]) w) w):=by
  refine⟨fun w5 ap b5=>au (fun _=>True) trivial (ab (fun u J _=>bu) (ab (fun u J _=>bv) ?_)),fun h0 w5 fv b5 hd=>au (fun _=>True) trivial (ab (fun u J _=>bu) (ab (fun u J _=>bv) ?_))⟩
  ·have:=no w5 (by rw[M];exact ap) (C.trans (b5.mono C.size))
   rwa[M]at this
  ·exact aS (by rw[M];exact h0) w5 fv (C.trans (b5.mono C.size)) (hd.mono C.size)
 have hn:=hi.new hm hr;rcases rS hm with⟨k,_⟩|⟨k,_⟩|⟨k,_⟩|⟨k,_⟩|⟨k,_⟩|⟨k,_⟩|k
 ·exact ad _ _ rfl (by rw[k];rfl) oo (zc4 U hi hm k hn kd)
 ·exact ad _ _ rfl (by rw[k];rfl) oo (zaq U hi hm k kd)
 ·exact ad _ _ rfl (by rw[k];rfl) oo (zcE U hi hm k kd)
 ·exact ad _ _ rfl (by rw[k];rfl) oo (zbM U hi hm k kd)
 ·exact ad _ _ rfl (by rw[k];rfl) oo (zao U hi hm k kd)
 ·exact ad _ _ rfl (by rw[k];rfl) oo (zbV U hm k kd)
 ·exact ad _ _ rfl (by rw[k];rfl) oo (ZT U hm k kd)
theorem Ox (h:PM w q s)(hi:PI s)(j:∀w',PM w' q (lJ e s)→Ch q.wv w w'→K (ci (oN e s)) w'):call Q 107 #[pB q.p,.agg (evC e).toArray] K w:=by
 have ag:=h.lt;refine ak (goK func107) (Hg (yk fun w1 e1 b1 s1=>dT e1 ?_));have p1:=h.below b1;refine Ud p1 hi (fun w2 U b2=>bu (bv (aX (ax U ?_)))) fun h0 w2 fv b2 hd=>bu (bv (aX (ao sm ?_)))
 ·have C:=b1.trans (b2.mono oo);refine j w2 ?_ (Ch.of_below C);unfold lJ;rw[if_neg U];exact h.below C
 ·obtain⟨X,hX,ad⟩:=hd;have al:=(qi hi).1 h0;have hm:=al.may;obtain⟨u,ho⟩:=sj hm;have an:=gW hm;refine ad w2 _ (Below.refl _ w2) fun Z I c3=>?_;have e2:=ae b2 e1 e1.lt;have e3:=(e2.ch c3 fun M=>by
   rcases List.mem_append.1 M with M|M
   ·have:=hX _ M;omega
   ·have:=ag _ (LB.wl _ M);omega).drew
  have I:=I.drew;have C:=b1.trans (b2.mono oo);have aa:Ch q.wv w Z.drew:=((Ch.of_below C:Ch q.wv w w2).trans c3 (fun k O=>by
   rcases List.mem_append.1 O with O|O
   ·right;have:=hX _ O;omega
   ·exact .inl O)).trans (Ch.of_below (Below.refl _ Z).drew:Ch [] Z Z.drew) sm
  refine ac (fun _=>bw) (ac (fun _=>lK (v:=iv e.o) e3 rfl) ?_);refine ac (v:=iv (e.q:Nat)) (fun K j=>ba oo oo (by rw[show e.o-1=(e.q:Nat)by omega];exact j)) ?_;refine ac (fun _=>aj) (ac (fun _=>AQ) (ac (fun _=>ixV rfl u) ?_));have am:=hi.vb _ u
  refine ac (fun _=>lK (v:=u6 (s.V.getD e.q 0)) I.b (by rw[show 0+12+e.q=12+e.q by omega];exact I.cV u)) <|ac (v:=u6 (s.V.getD e.q 0+1)) (fun K j=>iW (by rw[eu,show (s.V.getD e.q 0+1)%18446744073709551616=s.V.getD e.q 0+1 by simp only[M40]at am;omega];exact j)) ?_;refine ac (fun _=>aj) (ac (fun _=>AQ) (ac (fun _=>ixV rfl u) ?_))
  refine cB kf I.b (by rw[I.len];omega) rfl fun w4 b4 J=>?_;rw[show 0+12+e.q=12+e.q by omega,I.sV u]at b4;rw[h0]at j;refine j w4 ?_ (aa.trans (Ch.of_oth J sm:Ch [q.p] Z.drew w4) (by simp[LB.wv]));have ea:lJ e s={sX e s with V:=s.V.set e.q (s.V.getD e.q 0+1)}:=by unfold lJ;rw[if_pos h0];rfl
  rw[ea];have nd:=I.nd;obtain⟨i6,l6,v6,b,tm,⟨m1,x1,e1⟩,⟨m2,x2,e2⟩,⟨m3,x3,e3⟩,⟨m4,x4,e4⟩,_,af⟩:=I;exact⟨i6,l6,by show (s.V.set _ _).length=6;rw[List.length_set];exact h.v6,b4,tm.oth J (LN.tp nd) (LN.dp nd),⟨m1,x1.oth J (LN.mp nd),e1⟩,⟨m2,x2.oth J (LN.rp nd),e2⟩,⟨m3,x3.oth J (LN.gp nd),e3⟩,⟨m4,x4.oth J (LN.ap nd),e4⟩,nd,af.keep (J.other 0 (LN.zp nd))⟩
theorem FP (h:PM w q s)(j:∀w',Below w.heap.size w w'→K (.agg (vCs s.V).toArray) w'):call Q 116 #[pB q.p] K w:=by
 refine ak (goK func116) (Hi (Il fun J C b1 I=>HG (aF (aj (AQ ?_)))));refine(h.below b1).ldV (G8 rfl h.v6 C fun w2 t2 u=>?_);exact Cx (v:=.agg (vCs s.V).toArray) (fun _=>sa h.v6 t2) (j _ (aR b1 u oA))
end
end
section
open Go.RowKit
theorem zb1 {k:IntKind}{v:Value}(J:P.underlying t=some (.array n e))(C:∀w,(isAgg e).run P w=.ok false w)(I:∀w,(sizeOf e).run P w=.ok 1 w)(hi:i<n)(M:cs[i]? = some v)(h:K v w):idx P t (.agg cs.toArray) (.int k (i:Nat)) K w:=by
 unfold idx;refine ey (w':=w) (v:=v) ?_ h;have j:(0:Int)≤(i:Int):=by omega
 have u:(i:Int)<(n:Int):=by omega
 simp only[Instr.index,asIntOf,Sem.run_bind,Sem.run_pure,Result.andThen_ok,run_underlying J,j,u,and_self,if_true,I,part,C,Int.toNat_natCast,Nat.mul_one];simp[M]
end
end
section
open Go.RowKit
theorem UP (h:cr Q 194 none (fun j=>bld Q 196 #[(0,j)] fun t2=>box Q 196 t2 K) w):Gives Q 52 #[] w K:=by
 refine aq func52 kr ?_;exact mpK h
def EO (h_0 known4 e5 k_7 there9:Value)(zf:Nat→Value):List Value:=h_0::zT zf 1 3 (known4::e5::zf 6::k_7::zf 8::there9::zT zf 10 38 ([]))
def EQ (h_0 e5 k_7 there9 t30:Value)(zf:Nat→Value):List Value:=h_0::zT zf 1 4 (e5::zf 6::k_7::zf 8::there9::zT zf 10 20 (t30::zT zf 31 17 ([])))
def yx (h_0 e5 k_7 t30:Value)(zf:Nat→Value):List Value:=h_0::zT zf 1 4 (e5::zf 6::k_7::zT zf 8 22 (t30::zT zf 31 17 ([])))
def ER (h_0 e5 k_7:Value)(zf:Nat→Value):List Value:=h_0::zT zf 1 4 (e5::zf 6::k_7::zT zf 8 40 ([]))
def qs (K:KV):KE:=ah Q (cd f115 [1,1,1,1]) (rk f115 K) xf (rk f115 K)
def iC (K:KV):KE:=kZ f115 (b1 63) K
def kx (K:KV):KE:=kY f115 (b1 999) (iC K) (xx xf (iC K) 0) K
def qt (K:KV):KE:=ah Q (cd f115 (b1 1997)) (kx K) (xx xf (iC K) 0) (rk f115 K)
theorem Oa {K:KV}{V0 known1 e_2:Value}{w:World}(h:box Q 33 known1 (fun W0=>box Q 35 e_2 fun X0=>bT .eql 137 V0 (.pointer none) fun t11 w=>cond t11 (K (ci 2) w) (ai Q 35 X0 0 (fun t12=>ld Q 3 t12 fun t13=>ai Q 35 X0 1 fun t14=>ld Q 31 t14 fun t15=>bld Q 281 #[(0,t13),(1,t15)] fun t16=>alc Q 281 fun Y0=>sto Q 281 Y0 t16 fun _ w=>aE (fun S w=>hN S V0 fun t19=>hF S 196 t19 0 fun t20=>hL S 194 t20 fun t21=>hL S 281 Y0 fun t22=>hld S (lkp Q 194 t21 t22 true) fun t23=>hld S (ext Q t23 0) fun t24=>hld S (ext Q t23 1) fun t25=>alc Q 35 (fun t8=>aU S fun S=>sto Q 35 t8 t24 fun _=>aU S fun _=>qs K (EO V0 W0 X0 Y0 t25 (zV (zV (zV (zV zu 1 [known1,e_2]) 6 [ci 0]) 8 [t8]) 10 [V0,t11,t12,t13,t14,t15,t16,t23,V0,t19,t20,t21,t22,t23,t24,t25]))) w) w.drew) w)) w):Gives Q 115 #[V0,known1,e_2] w K:=by
 refine aq func115 (by kernel_rfl) ?_
 refine Eq.mp (congrArg (fun c=>ah Q c _ _ _ _ w) (by kernel_rfl:(rep [1,1,1,1] (cd f115 [1,1,1,1]) (cd f115 []))=(cd f115 []))) ?_
 revert h
 delta qs
 generalize (cd f115 [1,1,1,1])=xc0
 exact mpF
theorem Le (h:ld Q 35 X0 (fun t27=>call Q 106 #[t27] fun t28=>un Q .not t28 fun t29 w=>cond t29 (K (ci 1) w) (ld Q 33 W0 (fun t31=>ld Q 35 X0 fun t32=>call Q 161 #[t31,t32] fun t33=>qt K (EQ V0 X0 Y0 Z0 t33 (zV (zV (zV zf 4 [W0]) 26 [t29,t27,t28,t29]) 31 [t31,t32,t33]))) w)) w):qs K (EO V0 W0 X0 Y0 Z0 zf) w:=by
 delta qs
 refine Eq.mp (congrArg (fun c=>ah Q c _ _ _ _ w) (by kernel_rfl:(rep (b1 77) (cd f115 (b1 1997)) (cd f115 [1,1,1,1]))=(cd f115 [1,1,1,1]))) ?_
 revert h
 delta qt iC kx
 generalize (cd f115 (b1 1997))=xc0
 exact mpF
theorem Lf (h:cond H1 (kx K (yx V0 X0 Y0 H1 (zV zf 9 [Z0])) w) (kx K (yx V0 X0 Y0 Z0 (zV (zV zf 9 [Z0]) 34 [Z0])) w)):qt K (EQ V0 X0 Y0 Z0 H1 zf) w:=by
 delta qt;revert h;generalize (kx K)=qc0;generalize (iC K)=qc1;exact mpF
theorem Bo (h:cond H1 (K (ci 14) w) (aJ V0 (fun u=>ai Q 196 u 0 fun C=>ld Q 194 C fun I=>lN 194 I fun J=>bT .geq 3 J (ci 64) fun j w=>cond j (K (ci 7) w) (iC K (ER V0 X0 Y0 (zV (zV zf 30 [H1]) 35 [j,V0,u,C,I,J,j])) w)) w)):kx K (yx V0 X0 Y0 H1 zf) w:=by
 delta kx;revert h;generalize (iC K)=qc0;exact mpF
theorem Lg (h:aE (fun S w=>hN S V0 fun j=>hF S 196 j 0 fun u=>hL S 194 u fun C=>hL S 281 Y0 fun I=>hL S 35 X0 fun J=>cP Q 194 C I J (fun _=>K (ci 0)) w) w.drew):iC K (ER V0 X0 Y0 zf) w:=by
 delta iC;exact mpK h
attribute [irreducible] qs iC kx qt
def Dn (h_0 known3 t4 t20:Value)(zf:Nat→Value):List Value:=h_0::zf 1::zf 2::known3::t4::zT zf 5 15 (t20::zT zf 21 46 ([]))
def Do (h_0 known3 t4:Value)(zf:Nat→Value):List Value:=h_0::zf 1::zf 2::known3::t4::zT zf 5 62 ([])
def pH (h_0 known3 t4 t34 t35:Value)(zf:Nat→Value):List Value:=h_0::zf 1::zf 2::known3::t4::zT zf 5 29 (t34::t35::zT zf 36 31 ([]))
def Dp (h_0 known3 t4 k_10 e11 t34 t35 t58:Value)(zf:Nat→Value):List Value:=h_0::zf 1::zf 2::known3::t4::zT zf 5 5 (k_10::e11::zT zf 12 22 (t34::t35::zT zf 36 22 (t58::zT zf 59 8 ([]))))
def Dq (t4:Value)(zf:Nat→Value):List Value:=zT zf 0 4 (t4::zT zf 5 62 ([]))
def jO (K:KV):KE:=kZ f117 [1,1,1] K
def sH (K:KV):KE:=ah Q (cd f117 (b1 58)) (jO K) (xx xf (jO K) 0) (rk f117 K)
def fx (K:KV):KE:=kZ f117 [1,1,1,1] K
def sJ (K:KV):KE:=ah Q (cd f117 (b1 122)) (fx K) (xx xf (fx K) 2) (rk f117 K)
def jP (K:KV)(B1:KE):KE:=kY f117 (b1 1959) B1 (xx xf (fx K) 2) K
def pG (K:KV)(B1:KE):KE:=ah Q (cd f117 (b1 62671)) (jP K B1) (xx (xx xf (fx K) 2) (jP K B1) 3) (rk f117 K)
theorem MS (h:box Q 33 Y0 (fun W0=>alc Q 35 fun X0=>bT .eql 137 V0 (.pointer none) fun t14 w=>cond t14 (bld Q 35 #[] (fun t15=>sto Q 35 X0 t15 fun _=>aV Q [(some 35,X0),(none,cF)] K) w) (aJ V0 (fun j=>ai Q 196 j 0 fun u=>ld Q 194 u fun C=>rng Q 194 C fun H1=>sH K (Dn V0 W0 X0 H1 (zV (zV (zV (zV zu 1 [Y0]) 5 [cF]) 13 [V0,t14]) 16 [V0,j,u,C]))) w)) w):Gives Q 117 #[V0,Y0] w K:=by
 refine aq func117 kr ?_;revert h;delta sH jO;exact mpF
theorem Ke (Inv:World→Prop)(μ:World→Nat)(h0:Inv w)(hs:∀(dd:Nat→Value) (w:World) (m:Nat),Inv w→m=μ w →
  nxt Q H1 false 0 (fun u=>ext Q u 0 fun C w=>cond C (ent Q H1 (fun I=>ext Q I 0 fun t24=>ext Q I 1 fun J=>alc Q 281 fun j=>alc Q 35 fun e7=>sto Q 281 j t24 fun _=>sto Q 35 e7 J fun _=>ld Q 33 W0 fun M=>ld Q 35 e7 fun O=>call Q 161 #[M,O] fun U w=>cond U (aE (fun S w=>hN S V0 fun Z=>hF S 196 Z 0 fun aa=>hL S 194 aa fun ad=>hL S 281 j fun af=>blt Q .delete #[194,281] 0 #[false,false] #[ad,af] (fun _ w=>(Inv w)∧((μ w)<m)) w) w.drew) ((Inv w)∧((μ w)<m))) w) (jO K (Do V0 W0 X0 (zV dd 20 [H1,u,C])) w)) w):sH K (Dn V0 W0 X0 H1 zf) w:=by
 refine aI (cd f117 (b1 116)) (zr [(6,2),(21,13)]) kr (fun e2 w2=>Inv w2) (fun e2 w2=>μ w2) h0 ?_;intro e' w' hI;have h:=hs (zM zf (gd e') (zr [(6,2),(21,13)])) w' _ hI rfl;revert h;generalize (jO K)=qc0;exact mpF
theorem Kg (h:ld Q 33 W0 (fun I1=>sJ K (pH V0 W0 X0 I1 (ci 0) zf)) w):jO K (Do V0 W0 X0 zf) w:=by
 delta jO;revert h;delta sJ fx;exact mpF
theorem Kf (Inv:Value→World→Prop)(μ:Value→World→Nat)(h0:Inv J1 w)(hs:∀(t35':Value) (dd:Nat→Value) (w:World) (m:Nat),Inv t35' w→m=μ t35' w →
  bT .lss 3 t35' (ci 6) (fun t36 w=>cond t36 (idx Q 33 I1 t35' (fun t38=>nC t35' fun t40=>bT .add 31 t38 (cu 1) fun t42=>bld Q 281 #[(0,t40),(1,t42)] fun t43=>alc Q 281 fun Y0=>sto Q 281 Y0 t43 fun _ w=>aE (fun S w=>hN S V0 fun t46=>hF S 196 t46 0 fun t47=>hL S 194 t47 fun t48=>hL S 281 Y0 fun t49=>hld S (lkp Q 194 t48 t49 true) fun t50=>hld S (ext Q t50 0) fun t51=>hld S (ext Q t50 1) fun t52=>alc Q 35 (fun Z0=>aU S fun S=>sto Q 35 Z0 t51 fun _=>aU S fun _ w=>aG t52 true (fun k55=>ld Q 33 W0 (fun t55=>ld Q 35 Z0 fun t56=>call Q 162 #[t55,t56] fun t57=>k55 [t55,t56,t57]) w) (fun k=>k [uu,uu,uu] w) fun us55=>pick t52 (gd us55 2) cF fun M1=>pG K (fun e2 w2=>(Inv (gd e2 35) w2)∧((μ (gd e2 35) w2)<m)) (Dp V0 W0 X0 Y0 Z0 I1 t35' M1 (zV (zV (zV dd 8 [t35',t38]) 12 [t52]) 36 [t36,t35',t38,t35',t40,t38,t42,t43,t50,V0,t46,t47,t48,t49,t50,t51,t52,t52,t52,gd us55 0,gd us55 1,gd us55 2]))) w) w.drew) w) (fx K (Dq X0 (zV (zV (zV dd 0 [V0]) 3 [W0]) 34 [I1,t35',t36])) w)) w):sJ K (pH V0 W0 X0 I1 J1 zf) w:=by
 refine aI (cd f117 (b1 244)) (zr [(5,1),(8,5),(35,31)]) (by kernel_rfl) (vP [35] Inv) (vQ [35] μ) h0 ?_
 intro e' w' hI
 have h:=hs _ (zM zf (gd e') (zr [(5,1),(8,5),(35,31)])) w' _ hI rfl
 refine Eq.mp (congrArg (fun c=>ah Q c _ _ _ _ w') (by kernel_rfl:(rep (b1 463) (cd f117 (b1 62671)) (cd f117 (b1 244)))=(cd f117 (b1 244)))) ?_
 revert h
 delta pG jP
 generalize (cd f117 (b1 62671))=xc0
 generalize (fx K)=qc0
 exact mpF
theorem AD (h:cond M1 (aE (fun S w=>hN S V0 fun j=>hF S 196 j 0 fun u=>hL S 194 u fun C=>hL S 281 Y0 fun I=>blt Q .delete #[194,281] 0 #[false,false] #[C,I] (fun _=>ld Q 35 Z0 fun J=>sto Q 35 X0 J fun _=>aV Q [(some 35,X0),(none,cT)] K) w) w.drew) (jP K B1 (pH V0 W0 X0 I1 J1 (zV (zV zf 10 [Y0,Z0]) 58 [M1])) w)):pG K B1 (Dp V0 W0 X0 Y0 Z0 I1 J1 M1 zf) w:=by
 delta pG;revert h;generalize (jP K B1)=qc0;generalize (fx K)=qc1;exact mpF
theorem Kh (h:bld Q 35 #[] (fun j=>sto Q 35 X0 j fun _=>aV Q [(some 35,X0),(none,cF)] K) w):fx K (Dq X0 zf) w:=by
 delta fx;exact mpK h
theorem AE (h:nC J1 (fun j=>B1 (pH V0 W0 X0 I1 j (zV zf 65 [j]))) w):jP K B1 (pH V0 W0 X0 I1 J1 zf) w:=by
 delta jP;revert h;generalize (fx K)=qc0;exact mpF
attribute [irreducible] jO sH fx sJ jP pG
end
section
attribute [local irreducible] bin un conv call aZ blt slc ai fld aL idx lkp cP eP eSt rng nxt ent ext alc box bld bg ld sto aJ cr mkS ifc pick rdy wts aG sti cond aV Gives ah dy dP cOp
section
open Go.RowKit Go.ChangeMaps
def evV (e:EV):Value:=.agg (evC e).toArray
abbrev evZ :EV:=⟨0,0,0,0,0,0,0,0,0,0,0,0,0,0⟩
theorem hkK :Ev Q 281 rqV:=by
 refine ST _ underlying281 (fun x=>⟨_,rfl⟩) (fun x y h=>?_) (fun w M x=>by kernel_rfl) (fun w x y=>⟨decide (x=y),?_,?_⟩) (fun x=>?_)
 ·simp only[rqV,Value.agg.injEq]at h;simp at h;exact Prod.ext h.1 h.2
 ·have C:Tryz.prog.underlying 281=some (.struct (Tryz.prog.fieldsOf 281)):=by kernel_rfl
  have I:Tryz.prog.stoodInHeld 281=false:=by kernel_rfl
  have O:=underlying3;have U:=underlying31;have J:=Tryz.isAgg3;have a2:=Tryz.isAgg31;have Z:=Tryz.sizeOf3;have z2:=Tryz.sizeOf31;simp only[rqV];show (Op.equalIn (9999+1) _ _ _).run _ w=_;rw[run_equalIn_agg w 9999 281 _ _ C I];simp only[Program.fieldsOf,underlying281]
  go_simp
  by_cases j:x.1=y.1<;>by_cases u:x.2=y.2<;>simp[j,u,Prod.ext_iff]
 ·simp[rqV];constructor
  ·rintro rfl;exact⟨rfl,rfl⟩
  ·rintro⟨j,u⟩;exact Prod.ext j u
 ·unfold Instr.sameBits;simp[rqV];constructor<;>(unfold Instr.sameBits;simp)
structure HoM (w:World) (p m:Nat) (W:HM):Prop where
 b:blk w p 196 [.map (some m)]
 mb:MB rqV evV w m W
section
variable {w w':World}{p m:Nat}{W:HM}
theorem HoM.ne (h:HoM w p m W):p≠m:=fun e=>by
 obtain⟨es,c,j⟩:=h.mb
 have:=h.b
 unfold blk at this;rw[e,j.heap]at this;cases this
theorem HoM.lt (h:HoM w p m W):p<w.heap.size∧m<w.heap.size:=⟨h.b.lt,h.mb.lt⟩
theorem HoM.below (h:HoM w p m W)(j:Below w.heap.size w w'):HoM w' p m W:=⟨ae j h.b h.b.lt,h.mb.below j⟩
theorem HoM.ch (h:HoM w p m W)(j:Ch F w w')(u:p∉F)(C:m∉F):HoM w' p m W:=⟨h.b.ch j u,h.mb.ch j C⟩
end
theorem AO (h:K (pA b (o+0)) w):ai Q 196 (pA b o) 0 K w:=aH kr h
section
variable {w:World}{K:KV}{p m:Nat}{W:HM}{V:List Int}{e:EV}
theorem zaT {q:Nat}{b:Bool}(u:blk w q 35 (evC e))(h:K (.tuple #[evV e,.bool b]) w):aV Q [(some 35,pA q 0),(none,.bool b)] K w :=
 FW (v:=evV e) (fun _ j=>dT u j) h
theorem Vj (h:K (.bool false) w):bin Q .eql 137 cx cy (pB b) (.pointer none) K w :=
 gy (by unfold eqG eqGuard;rfl) kr h
theorem zf9 {t k e:TypeId}{b:Nat}{κ ν:Type}{kv:κ→Value}{vv:ν→Value}{m:List (κ×ν)}(u:Tryz.prog.underlying t=some (.map k e))(j:MB kv vv w b m)(h:K (ci (m.length:Int)) w):lN t (.map (some b)) K w:=ZU u j h
theorem iU {e e':EV}(u:blk w b 35 (evC e))(h:∀w',blk w' b 35 (evC e')→Oth b w w'→K undef w'):sto Q 35 (pA b 0) (evV e') K w :=
 ip (n:=14) (vs:=evC e') kr rfl u (by show 0+14≤14;omega) (sY _) fun w' j o=>h w' j o
theorem jT (h:∀w',blk w' w.heap.size 35 (evC evZ)→Below w.heap.size w w'→w'.heap.size=w.heap.size+1→K (pA w.heap.size 0) w'):alc Q 35 K w :=
 df (z:=evV evZ) kr fun w' j b s=>h w' (by simpa[Value.cells,evV]using j) b s
theorem zba {x:Int×Int}{F:Value→KV}(h:∀w',blk w' w.heap.size 281 [iv x.1,u6 x.2]→Below w.heap.size w w'→w'.heap.size=w.heap.size+1→F (rqV x) (pB w.heap.size) w'):bld Q 281 #[(0,iv x.1),(1,u6 x.2)] (fun v=>alc Q 281 fun k=>sto Q 281 k v fun _=>F v k) w:=by
 refine dl (vs:=[iv x.1,u6 x.2]) kr (df (z:=.agg #[iv 0,u6 0]) kr fun J u b1 I=>?_);refine ip (n:=2) (vs:=[iv x.1,u6 x.2]) kr rfl (by simpa[Value.cells]using u) (by show 0+2≤2;omega) (by simp[u6,iv,Value.oneCell']) fun w2 C j=>?_;exact h w2 C (aR b1 j oA) (by rw[j.size,I])
theorem WE {x:Int×Int}(j:blk w b 281 [iv x.1,u6 x.2])(h:K (rqV x) w):ld Q 281 (pA b 0) K w :=
 ldA (n:=2) (vs:=[iv x.1,u6 x.2]) underlying281 rfl kr j rfl rfl h
theorem Xz (w:World):(zeroValue 35).run Q w=.ok (evV evZ) w:=by kernel_rfl
theorem zdm (h:HoM w p m W)(hV:V.length=6)(hW:W.length≤1000)(j:∀w' (f:Int),HoM w' p m (LP V W e)→Ch [m] w w'→K (ci f) w'):call Q 115 #[pB p,.agg (vCs V).toArray,evV e] K w:=by
 have no:∀{w':World} (f:Int),¬(bJ e=true∧qQ V e=false∧dK W (nu e)=none∧W.length<64)→Below w.heap.size w w'→K (ci f) w':=fun f hn hb=>j _ f (by unfold LP;rw[if_neg hn];exact h.below hb) (Ch.of_below hb);refine ak (goK func115) (Oa ?_);refine yf hV fun w1 v1 b1 s1=>yk fun w2 e2 b2 s2=>Vj (aF ?_);have v2:=ae b2 v1 v1.lt;refine bw (lK (v:=iv e.o) e2 rfl (gN (lK (v:=u6 e.s) e2 rfl ?_)))
 refine zba (x:=nu e) fun w3 k3 b3 s3=>?_;have I:=(b1.trans (b2.mono oo)).trans (b3.mono oo);have v3:=ae b3 v2 v2.lt;have e3:=ae b3 e2 e2.lt;have h3:=h.below I;have hl:=h.lt;refine au (fun x=>HoM x p m W∧blk x w2.heap.size 281 [iv (nu e).1,u6 (nu e).2]) ⟨h3.below (Below.refl _ w3).drew,k3.drew⟩ ?_
 refine ab (fun x d _ j=>aj j) (ab (fun x d _ j=>AO j) (ab (fun x d _ j=>lK (v:=.map (some m)) d.1.b rfl j) ?_));refine ab (fun x d _ j=>WE d.2 j) (ab (v:=.tuple #[evV ((dK W (nu e)).getD evZ),.bool (dK W (nu e)).isSome]) (fun x d _ j=>TP hkK underlying194 Xz d.1.mb j) ?_);refine ab (fun x d _ j=>bu j) (ab (fun x d _ j=>bv j) ?_);refine jT fun w4 t4 Z s4=>?_
 have hd:w3.drew.heap.size=w3.heap.size:=rfl;have J:Below w.heap.size w w4:=I.drew.trans (Z.mono (by rw[hd];omega));have h4:=h.below J;have k4:=ae Z k3.drew k3.drew.lt;have e4:=ae Z e3.drew e3.drew.lt;have v4:=ae Z v3.drew v3.drew.lt;refine aC ⟨h4,k4⟩ (iU t4 fun w5 t5 U=>?_);have M:Below w.heap.size w w5:=aR J U oo;have h5:=h.below M;have k5:=U.blk k4 oo
 have e5:=U.blk e4 oo;have v5:=U.blk v4 oo;have s5:=U.size;refine aC ⟨h5,k5⟩ ?_;refine Le (dT e5 (Cs fun w6 O=>bK ?_));have C:=M.trans (O.mono oo);have v6:=ae O v5 v5.lt;have e6:=ae O e5 e5.lt;have k6:=ae O k5 k5.lt;have h6:=h.below C;cases hm:bJ e with
 | false=>exact aT (no 1 (by rw[hm];simp) C)
 | true =>
 refine aF (sa hV v6 (dT e6 (Mv hV fun w7 b7=>?_)));have s6:=O.size;have u:=C.trans (b7.mono C.size);have e7:=ae b7 e6 e6.lt;have k7:=ae b7 k6 k6.lt;have h7:=h.below u;refine Lf ?_;cases hl:qQ V e with
 | true=>exact aT (Bo (aT (no 14 (by rw[hl];simp) u)))
 | false =>
 refine aF (Bo ?_);cases hg:dK W (nu e)with
 | some f=>exact aT (no 14 (by rw[hg];simp) u)
 | none =>
 refine aF (aj (AO (lK (v:=.map (some m)) h7.b rfl (zf9 underlying194 h7.mb (bI ?_)))));by_cases hf:(64:Int)≤(W.length:Nat)
 ·exact ax hf (no 7 oo u)
 refine ao hf (Lg ?_);refine au (fun x=>HoM x p m W∧blk x w2.heap.size 281 [iv (nu e).1,u6 (nu e).2]∧blk x w1.heap.size 35 (evC e)) ⟨h7.below (Below.refl _ w7).drew,k7.drew,e7.drew⟩ ?_;refine ab (fun x d _ j=>aj j) (ab (fun x d _ j=>AO j) (ab (fun x d _ j=>lK (v:=.map (some m)) d.1.b rfl j) ?_));refine ab (fun x d _ j=>WE d.2.1 j) (ab (v:=evV e) (fun x d _ j=>dT d.2.2 j) ?_)
 have h8:=h7.below (Below.refl _ w7).drew;refine uI (v:=e) hkK underlying194 h8.mb fun w8 m8 o8=>?_;refine j w8 0 ?_ ((Ch.of_below u.drew:Ch [m] w w7.drew).trans (Ch.of_oth o8 sm:Ch [m] w7.drew w8) sm);unfold LP;rw[if_pos ⟨hm,hl,hg,by omega⟩, ←yC hg];exact⟨o8.blk h8.b h.ne,m8⟩
theorem zdl (u:∀w',HoM w' (w.heap.size+1) w.heap.size []→Below w.heap.size w w'→w'.heap.size=w.heap.size+2→K (pB (w.heap.size+1)) w'):call Q 52 #[] K w:=by
 refine ak (goK func52) (UP (ub underlying194 rfl rqV evV fun M C b1 I=>dl (vs:=[.map (some w.heap.size)]) kr (br fun w2 j h J=>?_)));rw[I]at j ⊢;exact u w2 ⟨by simpa[Value.cells]using j,C.below h⟩ (b1.trans (h.mono oo)) oo
end
theorem TX {V:List Int}{W:HM}(I:k<6)(h:∀f,dK W ((k:Int)+1,V.getD k 0+1)=some f→eX V f=false):eK V W (6-k)=eK V W (6-(k+1)):=by
 obtain⟨j,C⟩:∃j,6-k=j+1:=⟨5-k,by omega⟩
 rw[C,show 6-(k+1)=j by omega];show (match dK W (((5-j:Nat):Int)+1,V.getD (5-j) 0+1)with|some e=>if eX V e=true then some e else eK V W j|none=>eK V W j)=_;rw[show 5-j=k by omega];cases u:dK W ((k:Int)+1,V.getD k 0+1)with
 | none=>rfl
 | some f=>show (if _ then _ else _)=_;rw[if_neg (by rw[h f u];simp)]
theorem zad {V:List Int}{W:HM}{f:EV}(I:k<6)(u:dK W ((k:Int)+1,V.getD k 0+1)=some f)(h:eX V f=true):eK V W (6-k)=some f:=by
 obtain⟨j,C⟩:∃j,6-k=j+1:=⟨5-k,by omega⟩
 rw[C];show (match dK W (((5-j:Nat):Int)+1,V.getD (5-j) 0+1)with|some e=>if eX V e=true then some e else eK V W j|none=>eK V W j)=_;rw[show 5-j=k by omega,u];show (if _ then _ else _)=_;rw[if_pos h]
section
variable {w:World}{K:KV}{p m:Nat}{W:HM}{V:List Int}{e:EV}
theorem zbN (h:HoM w p m W)(hV:V.length=6)(hv:∀k,k<6→0≤V.getD k 0∧V.getD k 0<M40)(av:∀x∈W,x.1=nu x.2)(a1:∀x∈W,qQ V x.2=false)(no:eK V W 6=none→∀w',Below w.heap.size w w'→K (.tuple #[evV evZ,.bool false]) w')(bs:∀e,eK V W 6=some e→∀w',HoM w' p m (u9 W (nu e))→Ch [m] w w'→K (.tuple #[evV e,.bool true]) w'):call Q 117 #[pB p,.agg (vCs V).toArray] K w:=by
 have hl:=h.lt;have bd:=h.ne;refine ak (goK func117) (MS ?_);refine yf hV fun w1 v1 b1 s1=>jT fun w2 t2 b2 s2=>Vj (aF (aj (AO ?_)));have v2:=ae b2 v1 v1.lt;have al:=b1.trans (b2.mono oo);have h2:=h.below al;refine lK (v:=.map (some m)) h2.b rfl (LW underlying194 h2.mb fun w3 a3 b3 s3=>?_);generalize hr:w2.heap.size=r at a3 s3
 refine Ke (Inv:=fun wr=>∃D,IT rqV evV wr r m W D∧blk wr w.heap.size 33 (vCs V)∧blk wr w1.heap.size 35 (evC evZ)∧Below w.heap.size w wr∧r+1≤wr.heap.size) (μ:=fun wr=>lG wr m r)
  ⟨[],a3,ae b3 v2 v2.lt,ae b3 t2 t2.lt,al.trans (b3.mono oo),by omega⟩ ?_
 rintro dd w4 mu ⟨D,bi,v4,t4,ar,z4⟩ a9;refine LH bi oo (fun _=>?_) fun x f w5 aS b4 a4 a6 o5 bt=>?_
 ·refine rG rfl (aF (Kg (sa hV v4 ?_)));refine Kf (Inv:=fun i wr=>∃k:Nat,i=iv (k:Nat)∧k≤6∧eK V W 6=eK V W (6-k)∧blk wr w.heap.size 33 (vCs V)∧blk wr w1.heap.size 35 (evC evZ)∧Below w.heap.size w wr∧r+1≤wr.heap.size) (μ:=fun i _=>6-(intOf i).toNat)
   ⟨0,rfl,by omega,rfl,v4,t4,ar,z4⟩ ?_
  rintro _ dd w5 mu2 ⟨k,rfl,hk,hn,v5,t5,u,z5⟩ a0;refine aK ?_;by_cases M:k<6
  ·refine ax oo (zb1 underlying33 kf kf M (yY hV M) (aM oo oo ?_));have be:=hv k M;simp only[M40]at be;refine iW ?_;rw[eu,show (V.getD k 0+1)%18446744073709551616=V.getD k 0+1 by omega];refine zba (x:=((k:Int)+1,V.getD k 0+1)) fun w6 k6 U s6=>?_;have Z:=u.trans (U.mono u.size);have h6:=h.below Z
   have v6:=ae U v5 v5.lt;have t6:=ae U t5 t5.lt;refine au (fun x=>HoM x p m W∧blk x w5.heap.size 281 [iv ((k:Int)+1),u6 (V.getD k 0+1)]) ⟨h6.below (Below.refl _ w6).drew,k6.drew⟩ ?_;refine ab (fun x d _ j=>aj j) (ab (fun x d _ j=>AO j) (ab (fun x d _ j=>lK (v:=.map (some m)) d.1.b rfl j) ?_))
   refine ab (fun x d _ j=>WE (x:=((k:Int)+1,V.getD k 0+1)) d.2 j) (ab (v:=.tuple #[evV ((dK W ((k:Int)+1,V.getD k 0+1)).getD evZ),.bool (dK W ((k:Int)+1,V.getD k 0+1)).isSome]) (fun x d _ j=>TP hkK underlying194 Xz d.1.mb j) ?_);refine ab (fun x d _ j=>bu j) (ab (fun x d _ j=>bv j) ?_);refine jT fun w7 t7 O s7=>?_;have hd:w6.drew.heap.size=w6.heap.size:=rfl
   have aa:Below w.heap.size w w7:=Z.drew.trans (O.mono (by rw[hd];exact Z.size));have h7:=h.below aa;have k7:=ae O k6.drew k6.drew.lt;have v7:=ae O v6.drew v6.drew.lt;have bq:=ae O t6.drew t6.drew.lt;have z6:=U.size;have lv:=v5.lt;have lt:=t5.lt;refine aC ⟨h7,k7⟩ (iU t7 fun w8 t8 I=>?_);have s8:=I.size;have ad:Below w.heap.size w w8:=aR aa I (by rw[hd];exact Z.size)
   have h8:=h.below ad;have k8:=I.blk k7 (by rw[hd];omega);have v8:=I.blk v7 (by rw[hd];omega);have ap:=I.blk bq (by rw[hd];omega);have z8:r+1≤w8.heap.size:=by rw[s8,s7,hd];omega
   refine aC ⟨h8,k8⟩ ?_;have ag:∀wr,eK V W (6-k)=eK V W (6-(k+1))→blk wr w.heap.size 33 (vCs V)→blk wr w1.heap.size 35 (evC evZ)→Below w.heap.size w wr→r+1≤wr.heap.size →
     (∃k':Nat,iv ((k:Int)+1)=iv (k':Nat)∧k'≤6∧eK V W 6=eK V W (6-k')∧blk wr w.heap.size 33 (vCs V)∧blk wr w1.heap.size 35 (evC evZ)∧Below w.heap.size w wr∧r+1≤wr.heap.size)∧6-(intOf (iv ((k:Int)+1))).toNat<mu2:=fun wr e1 e2 e3 e4 e5 =>
    ⟨⟨k+1,congrArg iv (by push_cast;rfl),by omega,hn.trans e1,e2,e3,e4,e5⟩,by rw[a0];show 6-((k:Int)+1).toNat<6-((k:Nat):Int).toNat;omega⟩
   cases hg:dK W ((k:Int)+1,V.getD k 0+1)with
   | none =>
    refine nY (dh (AD (aF (AE (aM oo oo ?_)))));exact ag w8 (TX M fun f hf=>by rw[hg]at hf;cases hf) v8 ap ad z8
   | some f =>
    rw[hg]at t8;refine qq (sa hV v8 (dT (e:=f) t8 (Oz hV (fun k hk=>(hv k hk).1) fun w9 b9=>cz ?_)));have J:=ad.trans (b9.mono ad.size);refine AD ?_;have v9:=ae b9 v8 v8.lt;have t9:=ae b9 ap ap.lt;cases a2:eX V f with
    | false =>
     refine aF (AE (aM oo oo ?_));exact ag w9 (TX M fun f' hf=>by rw[hg]at hf;cases hf;exact a2) v9 t9 J (Nat.le_trans z8 b9.size)
    | true =>
     have bb:eK V W 6=some f:=hn.trans (zad M hg a2);have a8:nu f=((k:Int)+1,V.getD k 0+1):=(av _ (yB hg)).symm;have h9:=(h.below J).below (Below.refl _ w9).drew;have k9:=(ae b9 k8 k8.lt).drew;have f9:=(ae b9 t8 t8.lt).drew;refine aT (au (fun x=>HoM x p m W∧blk x w5.heap.size 281 [iv ((k:Int)+1),u6 (V.getD k 0+1)]) ⟨h9,k9⟩ ?_)
     refine ab (fun x d _ j=>aj j) (ab (fun x d _ j=>AO j) (ab (fun x d _ j=>lK (v:=.map (some m)) d.1.b rfl j) ?_));refine ab (fun x d _ j=>WE (x:=((k:Int)+1,V.getD k 0+1)) d.2 j) ?_;refine zd6 hkK underlying194 h9.mb fun w10 bn af=>?_;have az:∀{q:Nat} {E:TypeId} {cs:List Value},blk w9.drew q E cs→q≠m:=fun hb e=>by
      obtain⟨es,c,hm⟩:=h9.mb;unfold blk at hb;rw[e,hm.heap]at hb;cases hb
     refine dT (af.blk f9 (az f9)) (iU (af.blk t9.drew (az t9.drew)) fun a5 bp an=>?_);refine zaT bp (bs f bb a5 ?_ ?_)
     ·rw[a8];exact⟨an.blk (af.blk h9.b bd) oo,bn.oth an oo⟩
     ·have hc:Ch [m] w w10:=(Ch.of_below J.drew:Ch [m] w w9.drew).trans (Ch.of_oth af sm:Ch [m] w9.drew w10) sm;exact hc.trans (Ch.of_oth an sm:Ch [w1.heap.size] w10 a5) (by simp;omega)
  ·have a7:k=6:=by omega
   subst a7;refine ao oo (Kh ?_);refine dl (vs:=evC evZ) kr (iU (e':=evZ) t5 fun w6 t6 o6=>?_);exact zaT t6 (no hn w6 (aR u o6 oo))
 ·refine rG rfl (aT (Pr a6 (bu (bv ?_))));have b0:=a4.lt;refine df (z:=.agg #[iv 0,u6 0]) kr fun w6 k6 U s6=>jT fun w7 f7 O s7=>?_;have k6:=cZ k6
  have k7:=ae O k6 k6.lt;have b5:=o5.size;have v5:=o5.blk v4 (by have:=v2.lt;omega);have t5:=o5.blk t4 (by have:=t2.lt;omega);have u:Below w.heap.size w w5:=aR ar o5 (by have:=al.size;omega);have aa:Below w.heap.size w w7:=(u.trans (U.mono u.size)).trans (O.mono (by have:=u.size;omega));have bk:=(a4.below U).below O;have v7:=ae O (ae U v5 v5.lt) (by have:=v5.lt;omega)
  have t7:=ae O (ae U t5 t5.lt) (by have:=t5.lt;omega);refine ip (n:=2) (vs:=[iv x.1,u6 x.2]) kr rfl k7 (by show 0+2≤2;omega) (by simp[u6,iv,Value.oneCell']) fun w8 k8 I=>?_;have f8:=I.blk f7 oo;refine iU (e':=f) f8 fun w9 f9 o9=>?_;have b8:=I.size;have ca:=o9.size;have lv:=v5.lt;have lt:=t5.lt;have v9:=o9.blk (I.blk v7 oo) oo
  have t9:=o9.blk (I.blk t7 oo) oo;have J:Below w.heap.size w w9:=aR (aR aa I (by have:=u.size;omega)) o9 (by have:=u.size;omega);have am:=bk.kept ((o9.other m oo).trans (I.other m oo)) ((o9.other r oo).trans (I.other r oo));refine sa hV v9 (dT f9 (Mv hV fun w10 C=>?_));rw[a1 _ aS]
  refine aF ⟨⟨D++[x],am.below C,ae C v9 v9.lt,ae C t9 t9.lt,J.trans (C.mono J.size),by have:=C.size;omega⟩,?_⟩;rw[a9]
  have e1:lG w10 m r=lG w5 m r:=wI ((C.block m am.lt.2).trans ((o9.other m oo).trans ((I.other m oo).trans ((O.block m oo).trans (U.block m oo))))) ((C.block r am.lt.1).trans ((o9.other r oo).trans ((I.other r oo).trans ((O.block r oo).trans (U.block r oo)))));omega
end
end
end
section
/-! ## What events leave as it was -/
def noJ (E:List EV):Prop:=∀e∈E,e.k≠6∧e.k≠7
theorem TA {x:GR}:∀{G:List GR},(kX x G).length=G.length+1
 | []=>rfl
 | y::G=>by
  unfold kX;split
  ·rfl
  ·rw[List.length_cons,TA,List.length_cons]
theorem zda {e:EV}{s:PL}(h:e.k≠6∧e.k≠7):(eff e s).I=s.I∧(eff e s).L=s.L∧(eff e s).G.length≤s.G.length+1:=by
 refine⟨?_,?_,?_⟩
 ·show tP e s.I=s.I;unfold tP;rw[if_neg h.1]
 ·show tQ e s.L=s.L;unfold tQ;rw[if_neg h.2]
 ·show ((gop e).ap s.G).length≤_;cases gop e with
  | ins x=>show (kX x s.G).length≤_;rw[TA];exact Nat.le_refl _
  | upd o q b=>show (s.G.map (qO o q b)).length≤_;rw[List.length_map];exact Nat.le_succ _
  | non=>exact Nat.le_succ _
theorem Rq :∀{E:List EV} {s:PL},noJ E→(qY eff s E).I=s.I∧(qY eff s E).L=s.L∧(qY eff s E).G.length≤s.G.length+E.length
 | [],s,_=>⟨rfl,rfl,Nat.le_refl _⟩
 | e::E,s,h=>by
  obtain⟨j,a2,M⟩:=zda (s:=s) (h e sm);obtain⟨b1,u,C⟩:=Rq (E:=E) (s:=eff e s) fun f J=>h f (List.mem_cons_of_mem _ J);refine⟨b1.trans j,u.trans a2,?_⟩;rw[List.length_cons];exact Nat.le_trans C oo
/-! ## How many are known -/
def cnE (E:List EV)(V:List Int):Nat:=E.countP fun f=>decide (f.s≤V.getD f.q 0)
/-! ## The rows of a log -/
def Ew (T:List (List (EV×Int)))(e:EV)(c:Int):List (List (EV×Int)):=T.set e.q (T.getD e.q []++[(e,c)])
def GC (T:List (List (EV×Int)))(c:Int)(F:List EV):List (List (EV×Int)):=F.zipIdx.foldl (fun T p=>Ew T p.1 (c+(p.2:Nat))) T
theorem P8 {T:List (List (EV×Int))}{c:Int}{F:List EV}{e:EV}:GC T c (F++[e])=Ew (GC T c F) e (c+(F.length:Nat)):=by
 unfold GC;rw[List.zipIdx_append,List.foldl_append];simp
def Rp (A:List EV)(q:Nat):List (EV×Int):=(A.zipIdx.filter fun p=>decide (p.1.q=q)).map fun p=>(p.1,(p.2:Int))
def yu (A:List EV):List (List (EV×Int)):=(List.range 6).map (Rp A)
theorem Yt {A:List EV}{e:EV}{q:Nat}:Rp (A++[e]) q=if e.q=q then Rp A q++[(e,(A.length:Int))]else Rp A q:=by
 unfold Rp;rw[List.zipIdx_append,List.filter_append,List.map_append];by_cases h:e.q=q
 ·rw[if_pos h];simp[h]
 ·rw[if_neg h];simp[h]
theorem ON {A:List EV}{q:Nat}(h:q<6):(yu A)[q]? = some (Rp A q):=by
 unfold yu;rw[List.getElem?_map,List.getElem?_range h];rfl
theorem Qn {A:List EV}{e:EV}(h:e.q<6):yu (A++[e])=Ew (yu A) e (A.length:Nat):=by
 have u:∀A,(yu A).length=6:=fun A=>by simp[yu]
 unfold Ew;rw[List.getD_eq_getElem?_getD,ON h,Option.getD_some];refine List.ext_getElem? fun q=>?_;by_cases C:q<6
 ·rw[ON C,Yt,List.getElem?_set,u];by_cases j:e.q=q
  ·rw[if_pos j,if_pos j,if_pos h,j]
  ·rw[if_neg j,if_neg j,ON C]
 ·rw[List.getElem?_eq_none (by rw[u];omega),List.getElem?_eq_none (by rw[List.length_set,u];omega)]
theorem WS {A:List EV}:∀{F:List EV},(∀e∈F,e.q<6)→yu (A++F)=GC (yu A) (A.length:Nat) F:=by
 intro F;generalize j:F.length=m
 induction m generalizing F with
 | zero=>intro _;rw[List.eq_nil_of_length_eq_zero j,List.append_nil];rfl
 | succ m ih =>
  intro h;rcases List.eq_nil_or_concat F with rfl|⟨F',e,rfl⟩
  ·simp at j
  ·rw[List.concat_eq_append]at j h ⊢;have u:F'.length=m:=by simpa using j
   rw[P8, ←ih u fun x C=>h x (List.mem_append_left _ C), ←List.append_assoc,Qn (h e sm),List.length_append];push_cast;rfl
/-! ## In which order -/
structure zf1 (E A:List EV) (l:PL):Prop where
 mem:∀f,f∈A↔f∈E∧f.s≤l.V.getD f.q 0
 nd:A.Nodup
 inc:A.Pairwise fun a b=>a.q=b.q→a.s<b.s
 ord:∀X e Y,A=X++e::Y→∀f∈E,f.s≤Ws e f.q→f∈X
def ChE (E:List EV)(P:List Int)(L:List EV):Prop:=∀X e Y,L=X++e::Y→e∈E∧∀f∈E,f.s≤Ws e f.q→f.s≤P.getD f.q 0∨f∈X
section
variable {n c:Nat}{E A:List EV}{l l':PL}{W W':HM}{e:EV}{P:List Int}{L F:List EV}
/-! ## What is heard -/
def nX (V:List Int)(W:HM)(E:List EV):HM:=E.foldl (LP V) W
end
end
section
open Go.RowKit
theorem Nc (h:bT .geq 3 V0 (ci 1) (fun t4 w=>aG t4 true (fun u=>bT .leq 3 V0 (ci 6) (fun t7=>u [V0,t7]) w) (fun k=>k [uu,uu] w) fun j=>pick t4 (gd j 1) cF K) w):Gives Q 109 #[V0] w K:=by
 refine aq func109 kr ?_;exact mpK h
def Ia (m1 t28:Value)(zf:Nat→Value):List Value:=zf 0::m1::zT zf 2 26 (t28::zT zf 29 44 ([]))
def QX (m1 t52:Value)(zf:Nat→Value):List Value:=zf 0::m1::zT zf 2 50 (t52::zT zf 53 20 ([]))
def qj (K:KV):KE:=kZ f67 [1,1,1] K
def th (K:KV):KE:=ah Q (cd f67 [1,1,0,1]) (qj K) xf (rk f67 K)
def AZ (K:KV):KE:=ah Q (cd f67 (b1 471)) (qj K) (xx xf (qj K) 0) (rk f67 K)
theorem QY {K:KV}{m0:Value}{w:World}(h:box Q 49 m0 (fun V0=>ai Q 49 V0 1 fun t4=>ld Q 3 t4 fun t5=>call Q 109 #[t5] fun t6=>un Q .not t6 fun t7 w=>aG t7 false (fun k9=>ai Q 49 V0 2 (fun t9=>ld Q 3 t9 fun t10=>call Q 109 #[t10] fun t11=>un Q .not t11 fun t12=>k9 [t9,t10,t11,t12]) w) (fun k=>k [uu,uu,uu,uu] w) fun us9=>pick t7 cT (gd us9 3) fun t13 w=>aG t13 false (fun k15=>ai Q 49 V0 1 (fun t15=>ld Q 3 t15 fun t16=>ai Q 49 V0 2 fun t17=>ld Q 3 t17 fun t18=>bF .eql 3 t16 t18 fun t19=>k15 [t15,t16,t17,t18,t19]) w) (fun k=>k [uu,uu,uu,uu,uu] w) fun us15=>pick t13 cT (gd us15 4) fun t20 w=>aG t20 false (fun k22=>ai Q 49 V0 3 (fun t22=>ld Q 33 t22 fun t23=>call Q 110 #[t23] fun t24=>un Q .not t24 fun t25=>k22 [t22,t23,t24,t25]) w) (fun k=>k [uu,uu,uu,uu] w) fun us22=>pick t20 cT (gd us22 3) fun t26 w=>cond t26 (K cF w) (ai Q 49 V0 0 (fun t27=>ld Q 5 t27 fun W0=>th K (Ia V0 W0 (zV (zV (zV zu 0 [m0]) 2 [cF]) 4 [t4,t5,t6,t7,t7,gd us9 0,gd us9 1,gd us9 2,gd us9 3,t13,t13,gd us15 0,gd us15 1,gd us15 2,gd us15 3,gd us15 4,t20,t20,gd us22 0,gd us22 1,gd us22 2,gd us22 3,t26,t27]))) w)) w):Gives Q 67 #[m0] w K:=by
 refine aq func67 (by kernel_rfl) ?_
 refine Eq.mp (congrArg (fun c=>ah Q c _ _ _ _ w) (by kernel_rfl:(rep [1,1,0,1] (cd f67 [1,1,0,1]) (cd f67 []))=(cd f67 []))) ?_
 revert h
 delta th qj
 generalize (cd f67 [1,1,0,1])=xc0
 exact mpF
theorem Oq (h:bT .eql 5 W0 (cb 1) (fun t30 w=>cond t30 (ai Q 49 V0 4 (fun t31=>ld Q 44 t31 fun t32=>call Q 111 #[t32,.func (.func 112) #[] #[]] fun t33=>un Q .not t33 fun t35 w=>aG t35 true (fun k37=>ai Q 49 V0 4 (fun t37=>ld Q 44 t37 fun t38=>lN 44 t38 fun t39=>bT .leq 3 t39 (ci 16) fun t40=>k37 [t37,t38,t39,t40]) w) (fun k=>k [uu,uu,uu,uu] w) fun us37=>pick t35 (gd us37 3) cF fun t41 w=>aG t41 true (fun k43=>ai Q 49 V0 5 (fun t43=>ld Q 31 t43 fun t44=>bT .eql 31 t44 (cu 0) fun t45=>k43 [t43,t44,t45]) w) (fun k=>k [uu,uu,uu] w) fun us43=>pick t41 (gd us43 2) cF fun t46 w=>aG t46 true (fun k48=>ai Q 49 V0 6 (fun t48=>ld Q 2 t48 fun t49=>bT .eql 2 t49 (ci 0) fun t50=>k48 [t48,t49,t50]) w) (fun k=>k [uu,uu,uu] w) fun us48=>pick t46 (gd us48 2) cF K) w) (bT .eql 5 W0 (cb 2) (fun t53=>AZ K (QX V0 t53 (zV (zV zf 28 [W0,t30,t30]) 53 [t53]))) w)) w):th K (Ia V0 W0 zf) w:=by
 delta th
 refine Eq.mp (congrArg (fun c=>ah Q c _ _ _ _ w) (by kernel_rfl:(rep [0,1,1,1] (cd f67 (b1 471)) (cd f67 [1,1,0,1]))=(cd f67 [1,1,0,1]))) ?_
 revert h
 delta AZ
 generalize (cd f67 (b1 471))=xc0
 generalize (qj K)=qc0
 exact mpF
attribute [irreducible] qj th AZ
theorem Oo (h:box Q 35 V0 (fun e1=>ld Q 35 e1 fun j=>call Q 106 #[j] fun t4=>un Q .not t4 K) w):Gives Q 112 #[V0] w K:=by
 refine aq func112 kr ?_;exact mpK h
theorem tw (h:call Q 165 #[V0,W0] (fun t7=>bT .geq 3 t7 (ci 0) K) w):Gives Q 111 #[V0,W0] w K:=by
 refine aq func111 kr ?_;exact mpK h
def nP (s0 f1 t7 t8:Value)(zf:Nat→Value):List Value:=s0::f1::zT zf 2 5 (t7::t8::zT zf 9 10 ([]))
def nQ (zf:Nat→Value):List Value:=zT zf 0 19 ([])
def bZ (K:KV):KE:=kZ f165 [1,1] K
def gK (K:KV):KE:=ah Q (cd f165 [1,0,1,0]) (bZ K) (xx xf (bZ K) 0) (rk f165 K)
theorem ux (h:lN 44 V0 (fun X0=>gK K (nP V0 W0 X0 (ci 0) (zV (zV zu 4 [ci 0]) 6 [V0]))) w):Gives Q 165 #[V0,W0] w K:=by
 refine aq func165 kr ?_;revert h;delta gK bZ;exact mpF
theorem tE (Inv:Value→World→Prop)(μ:Value→World→Nat)(O:Inv Y0 w)(U:∀(j:Value) (M:Nat→Value) (w:World) (m:Nat),Inv j w→m=μ j w →
  lS j X0 (fun J w=>cond J (aL Q 44 V0 j (fun t14=>ld Q 35 t14 fun t15=>aZ Q W0 #[t15] fun I w=>cond I (K j w) (nC j (fun u w=>(Inv u w)∧((μ u w)<m)) w)) w) (bZ K (nQ (zV (zV M 0 [V0,W0]) 7 [X0,j,J])) w)) w):gK K (nP V0 W0 X0 Y0 zf) w:=by
 refine aI (cd f165 (b1 52)) (zr [(4,2),(8,11)]) kr (vP [8] Inv) (vQ [8] μ) O ?_;intro e' w' hI;have h:=U _ (zM zf (gd e') (zr [(4,2),(8,11)])) w' _ hI rfl;revert h;generalize (bZ K)=qc0;exact mpF
theorem tF (h:K (ci (-1)) w):bZ K (nQ zf) w:=by
 delta bZ;exact mpK h
attribute [irreducible] bZ gK
theorem SF (h:box Q 33 V0 (fun C w=>aE (fun S w=>hL S 33 C fun j=>call Q 155 #[.func (.func 164) #[] #[]] (fun t4=>aU S fun _=>call Q 163 #[j,t4] fun u=>aE fun _=>K u) w) w.drew) w):Gives Q 110 #[V0] w K:=by
 refine aq func110 kr ?_;exact mpK h
theorem Qu (h:K (cu 1099511627776) w):Gives Q 164 #[V0] w K:=by
 refine aq func164 kr ?_;exact mpK h
theorem Su (h:bld Q 199 #[] (fun j=>box Q 199 j K) w):Gives Q 53 #[] w K:=by
 refine aq func53 kr ?_;exact mpK h
theorem O8 (h:bT .geq 3 V0 (ci 1) (fun t4 w=>aG t4 true (fun u=>bT .leq 3 V0 (ci 6) (fun t7=>u [V0,t7]) w) (fun k=>k [uu,uu] w) fun j=>pick t4 (gd j 1) cF K) w):Gives Q 113 #[V0] w K:=by
 refine aq func113 kr ?_;exact mpK h
theorem IY {v2:Value}(h:box Q 33 v2 (fun v5=>bT .eql 139 V0 (.pointer none) fun t9 w=>cond t9 (K (ci 2) w) (call Q 113 #[W0] (fun j=>un Q .not j fun t13 w=>cond t13 (K (ci 10) w) (aE (fun S w=>hld (fun _=>True) (bT .sub 3 W0 (ci 1)) fun u=>hld (fun _=>True) (bT .sub 3 W0 (ci 1)) fun C=>hN S V0 fun I=>hF S 199 I 0 fun J=>hI S 197 J C fun M=>hL S 33 M fun O=>hL S 33 v5 fun t24=>hN S V0 fun aa=>hF S 199 aa 0 fun ad=>bg Q 277 2 #[(0,O),(1,t24)] (fun U=>aU S fun S=>call Q 114 #[U] fun Z=>aU S fun S w=>hI S 197 ad u fun af=>sto Q 33 af Z (fun _=>K (ci 0)) w) w) w.drew)) w)) w):Gives Q 68 #[V0,W0,v2] w K:=by
 refine aq func68 kr ?_;exact mpK h
end
section
attribute [local irreducible] bin un conv call aZ blt slc ai fld aL idx lkp cP eP eSt rng nxt ent ext alc box bld bg ld sto aJ cr mkS ifc pick rdy wts aG sti cond aV Gives ah dy dP cOp
section
open Go.RowKit
structure VR (w:World) (a:Option Addr) (n c:Nat) (L:List EV):Prop where
 len:L.length=n
 some_:0<n→∃b o,a=some ⟨b,o,none⟩
 cell:∀(i:Nat) (x:EV),L[i]? = some x→∀b o,a=some ⟨b,o,none⟩→∀(j:Nat) (u:Value),(evC x)[j]? = some u→w.cell? ⟨b,o+i*14+j,none⟩=some u
theorem VR.bel {L:List EV}(h:VR w a n c L)(M:Below B w w')(I:w.heap.size≤B):VR w' a n c L :=
 ⟨h.len,h.some_,fun i x U b o J j u O=>by
  have:=h.cell i x U b o J j u O
  have C:=World.block_lt_of_cell? w _ this;rw[M.cell (p:=⟨b,o+i*14+j,none⟩) (Nat.lt_of_lt_of_le C I)];exact this⟩
theorem VR.one {e:EV}(h:blk w b 35 (evC e)):VR w (some ⟨b,0,none⟩) 1 c [e]:=by
 refine⟨rfl,fun _=>⟨_,_,rfl⟩,fun i x C M o I j u J=>?_⟩;cases I;cases i with
 | zero =>
  simp only[List.getElem?_cons_zero,Option.some.injEq]at C;subst C;rw[h.cell,show 0+0*14+j=j by omega];exact J
 | succ i=>simp at C
def mgC (k f t:Int)(V:List Int)(s:Value)(n x:Int):List Value:=[.int .u8 k,iv f,iv t]++(vCs V++[s,u6 n,iv x])
def gpC (L:List (List Int)):List Value:=L.flatMap vCs
structure GoM (w:World) (p:Nat) (L:List (List Int)):Prop where
 b:blk w p 199 (gpC L)
 l6:L.length=6
 v6:∀v∈L,v.length=6
theorem XG :∀{L:List (List Int)} {k:Nat} {V:List Int},(∀v∈L,v.length=6)→L[k]? = some V→((gpC L).drop (k*6)).take 6=vCs V
 | [],k,V,_,h=>by simp at h
 | v::L,0,V,hv,h=>by
  simp only[List.getElem?_cons_zero,Option.some.injEq]at h;subst h
  have:=hv v sm
  show ((vCs v++gpC L).drop (0*6)).take 6=_;rw[Nat.zero_mul,List.drop_zero,List.take_append_of_le_length (by rw[bo];omega),tL (by rw[bo];omega)]
 | v::L,k+1,V,hv,h=>by
  rw[List.getElem?_cons_succ]at h;have C:=hv v sm;show ((vCs v++gpC L).drop ((k+1)*6)).take 6=_;rw[show (k+1)*6=(vCs v).length+k*6 by rw[bo];omega,List.drop_append,List.drop_of_length_le oo,List.nil_append,show (vCs v).length+k*6-(vCs v).length=k*6 by omega];exact XG (fun u j=>hv u (List.mem_cons_of_mem _ j)) h
theorem Vp :∀{L:List (List Int)},(∀v∈L,v.length=6)→(gpC L).length=L.length*6
 | [],_=>rfl
 | v::L,hv=>by
  show (vCs v++gpC L).length=_;rw[List.length_append,bo,hv v sm,Vp fun u h=>hv u (List.mem_cons_of_mem _ h),List.length_cons];omega
theorem Vq :∀{L:List (List Int)} {k:Nat} {V:List Int},(∀v∈L,v.length=6)→k<L.length→V.length=6→(gpC L).take (k*6)++vCs V++(gpC L).drop (k*6+6)=gpC (L.set k V)
 | [],k,V,_,h,_=>by simp at h
 | v::L,0,V,hv,h,_=>by
  have:=hv v sm
  show (vCs v++gpC L).take (0*6)++vCs V++(vCs v++gpC L).drop (0*6+6)=vCs V++gpC L;rw[Nat.zero_mul,List.take_zero,List.nil_append,show 0+6=(vCs v).length+0 by rw[bo];omega,List.drop_append,List.drop_of_length_le oo];simp
 | v::L,k+1,V,hv,h,h6=>by
  have j:=hv v sm;have C:(vCs v).length=6:=by rw[bo];exact j
  show (vCs v++gpC L).take ((k+1)*6)++vCs V++(vCs v++gpC L).drop ((k+1)*6+6)=vCs v++gpC (L.set k V);rw[←Vq (fun u I=>hv u (List.mem_cons_of_mem _ I)) (by simpa using h) h6,List.take_append,List.drop_append,tL oo,List.drop_of_length_le oo,C,show (k+1)*6-6=k*6 by omega,show (k+1)*6+6-6=k*6+6 by omega];simp
section
variable {w w':World}{p:Nat}{L:List (List Int)}
theorem GoM.below (h:GoM w p L)(j:Below w.heap.size w w'):GoM w' p L:=⟨ae j h.b h.b.lt,h.l6,h.v6⟩
theorem GoM.ch (h:GoM w p L)(u:Ch F w w')(j:p∉F):GoM w' p L:=⟨h.b.ch u j,h.l6,h.v6⟩
end
theorem Tl (h:K (pA b (o+0)) w):ai Q 49 (pA b o) 0 K w:=aH kr h
theorem NU (h:K (pA b (o+1)) w):ai Q 49 (pA b o) 1 K w:=aH kr h
theorem NV (h:K (pA b (o+2)) w):ai Q 49 (pA b o) 2 K w:=aH kr h
theorem Tm (h:K (pA b (o+3)) w):ai Q 49 (pA b o) 3 K w:=aH kr h
theorem NW (h:K (pA b (o+9)) w):ai Q 49 (pA b o) 4 K w:=aH kr h
theorem Zl (h:K (pA b (o+10)) w):ai Q 49 (pA b o) 5 K w:=aH kr h
theorem Zm (h:K (pA b (o+11)) w):ai Q 49 (pA b o) 6 K w:=aH kr h
theorem Th (h:K (pA b (o+0)) w):ai Q 199 (pA b o) 0 K w:=aH kr h
section
variable {w:World}{K:KV}{p:Nat}{L:List (List Int)}{V:List Int}
theorem zbC (h:K (.bool false) w):bin Q .eql 139 cx cy (pB b) (.pointer none) K w :=
 gy (by unfold eqG eqGuard;rfl) kr h
theorem XZ {i:Int}(h:K (.bool (bG i)) w):call Q 109 #[ci i] K w:=by
 refine ak (goK func109) (Nc (bI ?_));unfold bG at h;by_cases j:i≥1
 ·rw[show decide (1≤i)=true from decide_eq_true j,Bool.true_and]at h;exact cU j (gJ (bA j h))
 ·rw[show decide (1≤i)=false from decide_eq_false j,Bool.false_and]at h;exact eB j (bj j h)
theorem zdi {i:Int}(h:K (.bool (bG i)) w):call Q 113 #[ci i] K w:=by
 refine ak (goK func113) (O8 (bI ?_));unfold bG at h;by_cases j:i≥1
 ·rw[show decide (1≤i)=true from decide_eq_true j,Bool.true_and]at h;exact cU j (gJ (bA j h))
 ·rw[show decide (1≤i)=false from decide_eq_false j,Bool.false_and]at h;exact eB j (bj j h)
theorem YO (I:V.length=6)(h:∀w',Below w.heap.size w w'→K (.bool (leV V (List.replicate 6 1099511627776))) w'):call Q 110 #[.agg (vCs V).toArray] K w:=by
 refine ak (goK func110) (SF (yf I fun Z J b1 s1=>?_));refine au (fun x=>blk x w.heap.size 33 (vCs V)) J.drew <|ab (fun x d _ O=>sa I d O) ?_;refine RC (G:=List.replicate 6 1099511627776) rfl (fun k U w2 u K' C => dn rfl (ak (goK func164) (Qu (by
  have:=C w2 (Below.refl _ _)
  rwa[show (List.replicate 6 (1099511627776:Int)).getD k 0=1099511627776 by rw[List.getD_eq_getElem?_getD,List.getElem?_replicate,if_pos U];rfl]at this)))) fun w2 u=>?_
 have v2:=ae u J.drew J.drew.lt;refine aC v2 (Wb I rfl fun w3 M=>au (fun _=>True) trivial (h w3 ?_));have j:Below w.heap.size w w2:=b1.drew.trans (u.mono (by show _≤Z.heap.size;omega));exact j.trans (M.mono j.size)
theorem WA {E:List EV}{x:EV}(h:VR w a n c E)(I:a=some ⟨b,o,none⟩)(M:E[i]? = some x)(C:K (evV x) w):ld Q 35 (pA b (o+i*14)) K w :=
 PS (run_loadVar_mid w b (o+i*14) 35 (evC x) _ (fun j u J=>h.cell i x M b o I j u J) underlying35 rfl kr) C
theorem Y4 {E:List EV}(C:VR w a n c E)(hn:n≤1000000)(hm:∀e∈E,bJ e=true)(h:∀w',Below w.heap.size w w'→K (.bool false) w'):call Q 111 #[.slice a n c,.func (.func 112) #[] #[]] K w:=by
 refine ak (goK func111) (tw ?_);refine ak (goK func165) (ux (bh underlying44 ?_));refine tE (Inv:=fun i wr=>∃k:Nat,i=iv (k:Nat)∧k≤n∧Below w.heap.size w wr) (μ:=fun i _=>n-(intOf i).toNat) ⟨0,rfl,Nat.zero_le _,Below.refl _ _⟩ ?_;rintro _ dd w1 mu ⟨k,rfl,hk,b1⟩ M;refine aK ?_;by_cases u:k<n
 ·have I:=C.bel b1 oA;have J:k<E.length:=by rw[C.len];exact u
  have O:E[k]? = some E[k]:=gE J;generalize E[k]=x at O;obtain⟨b,o,ha⟩:=C.some_ oo;subst ha;refine ax oo (dQ underlying44 (s:=14) kf oo oo ?_);rw[Int.toNat_natCast];refine WA I rfl O (dn rfl ?_);refine ak (goK func112) (Oo (yk fun w2 e2 U s2=>dT e2 (Cs fun w3 Z=>bK ?_)));rw[hm x (mO O)]
  have j:=b1.trans (U.mono b1.size);refine aF (aM oo oo ⟨⟨k+1,congrArg iv (by push_cast;rfl),u,j.trans (Z.mono j.size)⟩,?_⟩);rw[M];show n-((k:Int)+1).toNat<n-(k:Int).toNat;omega
 ·refine ao oo <|tF ?_;exact bI (by have:=h w1 b1;simpa using this)
theorem zc8 {E:List EV}{f t:Int}(hE:VR w a n c E)(hn:n≤16)(hm:∀e∈E,bJ e=true)(C:V.length=6)(hv:leV V (List.replicate 6 1099511627776)=true)(hf:bG f=true)(ht:bG t=true)(I:f≠t)(h:∀w',Below w.heap.size w w'→K (.bool true) w'):call Q 67 #[.agg (mgC 1 f t V (.slice a n c) 0 0).toArray] K w:=by
 have hl:(mgC 1 f t V (.slice a n c) 0 0).length=12:=by simp[mgC,bo,C]
 have U:(Value.agg (mgC 1 f t V (.slice a n c) 0 0).toArray).cells.toList=mgC 1 f t V (.slice a n c) 0 0:=by simp[Value.cells]
 refine ak (goK func67) (QY (br fun w1 j b1 s1=>?_));rw[U]at j;have c9:(mgC 1 f t V (.slice a n c) 0 0)[9]? = some (.slice a n c):=by
  unfold mgC;rw[show 9=3+6 by rfl,iT (n:=3) rfl,show 6=6+0 by rfl,iT (n:=6) (by rw[bo,C])];rfl
 have M:(mgC 1 f t V (.slice a n c) 0 0)[10]? = some (u6 0):=by
  unfold mgC;rw[show 10=3+(6+1)by rfl,iT (n:=3) rfl,iT (n:=6) (by rw[bo,C])];rfl
 have O:(mgC 1 f t V (.slice a n c) 0 0)[11]? = some (iv 0):=by
  unfold mgC;rw[show 11=3+(6+2)by rfl,iT (n:=3) rfl,iT (n:=6) (by rw[bo,C])];rfl
 have c3:((mgC 1 f t V (.slice a n c) 0 0).drop 3).take 6=vCs V:=by
  unfold mgC;rw[show 3=[Value.int .u8 1,iv f,iv t].length+0 by rfl,List.drop_append,List.drop_of_length_le sm];simp only[List.nil_append,List.length_cons,List.length_nil,Nat.sub_self];rw[List.drop_zero,List.take_append_of_le_length (by rw[bo];omega),tL (by rw[bo];omega)]
 refine NU (lK (v:=iv f) j rfl (XZ (bK ?_)));rw[hf];refine iZ (NV (lK (v:=iv t) j rfl (XZ (bK ?_))));rw[ht];refine dh (iZ (NU (lK (v:=iv f) j rfl (NV (lK (v:=iv t) j rfl (aO (dh (dt I ?_))))))));refine Tm (ldA (n:=6) (vs:=vCs V) underlying33 rfl kr j c3 (by rw[bo];exact C) (YO C fun w2 b2=>bK ?_));rw[hv];have J:=ae b2 j j.lt;have u:=b1.trans (b2.mono b1.size)
 refine bj I (aF (Tl (lK (v:=.int .u8 1) J rfl (Oq (aO (ax rfl ?_))))));refine NW (lK (v:=.slice a n c) J c9 (Y4 (hE.bel u oA) oo hm fun w3 b3=>bK (qq ?_)));have Z:=ae b3 J J.lt;refine NW (lK (v:=.slice a n c) Z c9 (bh underlying44 (gJ (cz (cU oo ?_)))));refine Zl (lK (v:=u6 0) Z M (aO (bA oo (cU rfl ?_))))
 exact Zm (lK (v:=iv 0) Z O (aO (bA rfl (by have:=h w3 (u.trans (b3.mono u.size));simpa[gd]using this))))
theorem ze7 (h:GoM w p L)(hk:k<6)(hA:L[k]? = some A)(I:V.length=6)(j:∀w',GoM w' p (L.set k (jV A V))→Ch [p] w w'→K (ci 0) w'):call Q 68 #[pB p,iv ((k:Int)+1),.agg (vCs V).toArray] K w:=by
 have u:=h.v6 A (mO hA);have hl:=h.b.lt;refine ak (goK func68) (IY (yf I fun w1 U b1 s1=>zbC (aF (zdi (bK ?_)))));rw[show bG ((k:Int)+1)=true by unfold bG;simp;omega];have h1:=h.below b1;refine aF (au (fun x=>GoM x p L∧blk x w.heap.size 33 (vCs V)) ⟨h1.below (Below.refl _ w1).drew,U.drew⟩ ?_)
 refine ab (v:=iv (k:Nat)) (fun x _ _ j=>ba oo oo (by rw[show (k:Int)+1-1=(k:Nat)by omega];exact j)) (ab (v:=iv (k:Nat)) (fun x _ _ j=>ba oo oo (by rw[show (k:Int)+1-1=(k:Nat)by omega];exact j)) ?_)
 have ix:∀{x:World} {K:KV},K (pA p (k*6)) x→aL Q 197 (pB p) (iv (k:Nat)) K x:=fun j=>ew underlying197 (s:=6) kf oo oo (by rw[Nat.zero_add,Int.toNat_natCast];exact j);refine ab (fun x d _ j=>aj j) (ab (fun x d _ j=>Th j) (ab (fun x d _ j=>ix j) ?_))
 refine ab (fun x d _ j=>ldA (n:=6) (vs:=vCs A) underlying33 rfl kr d.1.b (XG h.v6 hA) (by rw[bo];exact u) j) ?_;refine ab (fun x d _ j=>sa I d.2 j) (ab (fun x d _ j=>aj j) (ab (fun x d _ j=>Th j) ?_));refine oG [.agg (vCs A).toArray,.agg (vCs V).toArray] underlying277 (s:=6) kr kr oo rfl sm dc rfl (by
  intro v J;simp only[List.mem_cons,List.not_mem_nil,or_false]at J;rcases J with rfl|rfl
  ·have:=congrArg List.length (pM u);rw[bo,u]at this;simpa using this
  ·have:=congrArg List.length (pM I);rw[bo,I]at this;simpa using this) fun w3 O b3 s3=>?_
 have O:blk w3 w1.drew.heap.size 33 (vCs A++vCs V):=by
  have e:([Value.agg (vCs A).toArray,.agg (vCs V).toArray].flatMap fun v=>v.cells.toList)=vCs A++vCs V:=by
   simp only[List.flatMap_cons,List.flatMap_nil,List.append_nil,pM u,pM I]
  rwa[e]at O
 have C:Below w.heap.size w w3:=b1.drew.trans (b3.mono (by show _≤w1.heap.size;omega));have g3:=h.below C;have Z:=ae b3 U.drew U.drew.lt;refine aC ⟨g3,Z⟩ (Wa u I O fun w4 b4=>?_);have M:=C.trans (b4.mono C.size);have g4:=h.below M;refine aC ⟨g4,ae b4 Z Z.lt⟩ <|ab (fun x d _ j=>ix j) ?_
 refine ip (n:=6) (vs:=vCs (jV A V)) kr (by rw[bo];exact qu) g4.b (by rw[Vp h.v6,h.l6];omega) MH fun w5 h5 o5=>?_;rw[Vq h.v6 (by rw[h.l6];exact hk) qu]at h5;refine j w5 ⟨h5,by rw[List.length_set];exact h.l6,fun v J=>?_⟩ ((Ch.of_below M:Ch [p] w w4).trans (Ch.of_oth o5 sm:Ch [p] w4 w5) sm);rcases List.mem_or_eq_of_mem_set J with J|rfl
 ·exact h.v6 v J
 ·exact qu
theorem zdh (j:∀w',GoM w' w.heap.size (List.replicate 6 (List.replicate 6 0))→Below w.heap.size w w'→w'.heap.size=w.heap.size+1→K (pB w.heap.size) w'):call Q 53 #[] K w:=by
 refine ak (goK func53) (Su (dl (vs:=gpC (List.replicate 6 (List.replicate 6 0))) kr (br fun I h b1 C=>?_)));exact j I ⟨by simpa[Value.cells]using h,rfl,fun v u=>by rw[List.eq_of_mem_replicate u];rfl⟩ b1 C
end
end
end
section
open Go.RowKit
theorem Sy (h:bld Q 193 #[] (fun j=>box Q 193 j K) w):Gives Q 51 #[] w K:=by
 refine aq func51 kr ?_;exact mpK h
def Dx (l0 e3 k_5:Value)(zf:Nat→Value):List Value:=l0::zf 1::zf 2::e3::zf 4::k_5::zT zf 6 58 ([])
def Dy (l0:Value)(zf:Nat→Value):List Value:=l0::zT zf 1 63 ([])
def pI (K:KV):KE:=ah Q (cd f108 [1,1,1]) (rk f108 K) xf (rk f108 K)
def pJ (K:KV):KE:=ah Q (cd f108 (b1 63)) (rk f108 K) xf (rk f108 K)
theorem Nd {K:KV}{V0 e1:Value}{w:World}(h:box Q 35 e1 (fun W0=>bT .eql 135 V0 (.pointer none) fun t8 w=>cond t8 (K (ci 2) w) (ld Q 35 W0 (fun t10=>call Q 106 #[t10] fun t11=>un Q .not t11 fun t12 w=>cond t12 (K (ci 1) w) (aE (fun S w=>hN S V0 fun t15=>hF S 193 t15 1 fun t16=>hL S 33 t16 fun t17=>hL S 35 W0 fun t18=>call Q 161 #[t17,t18] (fun t19=>aE fun _ w=>cond t19 (K (ci 14) w) (aE (fun S w=>hN S V0 fun t22=>hF S 193 t22 1 fun t23=>hL S 33 t23 fun t24=>hL S 35 W0 fun t25=>call Q 162 #[t24,t25] (fun t26=>aE fun S w=>hld S (un Q .not t26) fun t27=>cond t27 (K (ci 13) w) (ai Q 35 W0 0 (fun t28=>ld Q 3 t28 fun t29=>bT .sub 3 t29 (ci 1) fun t30=>pI K (Dx V0 W0 t30 (zV (zV (zV zu 1 [e1]) 4 [ci 0]) 6 [t8,V0,t8,t12,t10,t11,t12,t19,V0,t15,t16,t17,t18,t19,t27,V0,t22,t23,t24,t25,t26,t27,t28,t29,t30]))) w)) w) w.drew)) w) w.drew)) w)) w):Gives Q 108 #[V0,e1] w K:=by
 refine aq func108 (by kernel_rfl) ?_
 refine Eq.mp (congrArg (fun c=>ah Q c _ _ _ _ w) (by kernel_rfl:(rep [1,1,1] (cd f108 [1,1,1]) (cd f108 []))=(cd f108 []))) ?_
 revert h
 delta pI
 generalize (cd f108 [1,1,1])=xc0
 exact mpF
theorem Kr (h:aE (fun S w=>hN S V0 fun t35=>hF S 193 t35 0 fun t36=>hI S 191 t36 X0 fun t37=>hL S 190 t37 fun t38=>hL S 35 W0 fun t39=>hN S V0 fun t41=>hF S 193 t41 2 fun t42=>hL S 31 t42 fun t43=>hld S (bld Q 274 #[(0,t39),(1,t43)]) fun t44=>hN S V0 fun t47=>hF S 193 t47 0 fun t48=>bg Q 190 1 #[(0,t44)] (fun t45=>aU S fun S=>blt Q .append #[190,190] 190 #[false,false] #[t38,t45] fun t46=>aU S fun S w=>hI S 191 t48 X0 fun t49=>sto Q 190 t49 t46 (fun _ w=>sF 35 W0 1 (fun t52=>sL 31 t52 fun t53=>sN V0 fun t54=>sF 193 t54 1 fun t55=>sI 33 t55 X0 fun t56=>sto Q 31 t56 t53 fun _=>pJ K (Dy V0 (zV (zV (zV zf 3 [W0]) 5 [X0]) 31 [V0,X0,V0,X0,t35,t36,t37,t38,t39,V0,t41,t42,t43,t44,t45,t46,t47,t48,t49,V0,X0,t52,t53,t54,t55,t56]))) w.drew) w) w) w.drew):pI K (Dx V0 W0 X0 zf) w:=by
 delta pI
 refine Eq.mp (congrArg (fun c=>ah Q c _ _ _ _ w) (by kernel_rfl:(rep [1,1] (cd f108 (b1 63)) (cd f108 [1,1,1]))=(cd f108 [1,1,1]))) ?_
 revert h
 delta pJ
 generalize (cd f108 (b1 63))=xc0
 exact mpF
theorem Ks (h:aJ V0 (fun j=>ai Q 193 j 2 fun u=>ld Q 31 u fun C=>bT .add 31 C (cu 1) fun I=>aJ V0 fun J=>ai Q 193 J 2 fun M=>sto Q 31 M I fun _=>K (ci 0)) w):pJ K (Dy V0 zf) w:=by
 delta pJ;exact mpK h
attribute [irreducible] pI pJ
end
end Go.Proofs.YtkfgimlaijifaaaGreatDoor
