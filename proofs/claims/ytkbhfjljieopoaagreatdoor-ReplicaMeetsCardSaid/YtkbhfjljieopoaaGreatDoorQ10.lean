import Derived.Test.YtkbhfjljieopoaaGreatDoorQ9
import Derived.Test.YtkbhfjljieopoaaGreatDoorQ5
import Derived.Test.YtkbhfjljieopoaaGreatDoorQ2
import Derived.Test.YtkbhfjljieopoaaGreatDoorQ8
import Derived.Test.YtkbhfjljieopoaaGreatDoorQ4
namespace Go.Proofs.YtkbhfjljieopoaaGreatDoor
set_option maxRecDepth 100000
set_option maxHeartbeats 4000000
open Go.Proofs.Tryz
variable {w w' w0:World}{K:KV}{dd:Nat→Value}{b n c o k B i g p j m s z f d D gc c2 hi:Nat}{x r:Int}{a av:Option Addr}{cs:List Value}{E t e:TypeId}{v:List Int}{α W5:Type}{T:List (Int×Int)}{F:List Nat}{cx cy:Bool}{Y5:Value}
section
attribute [local irreducible] bin un conv call bY blt slc aT fld aV idx lkp dO gY eSt rng nxt ent ext alc box bld bT ld sto aU dE mkS ifc pick rdy wts aI sti cond bp Gives ae fh fT cOp
open Go.RowKit Go.ChangeMaps
theorem FJ {s:PL}(hi:PI s)(id:Int):(aN s.N id).length=54:=by
 cases h:bU s.N id with
 | true=>exact Lh hi h
 | false=>rw[Jn h];simp[z54]
theorem OG {A:List Int}{i j:Int}(h:A.length=54):(kQ A i j x).1.length=54:=by rw[NP];exact Cz _ _ _ _ _ h
theorem IW {A:List Int}{i:Int}(h:A.length=54):(iO A i x).1.length=54:=by rw[Oe];exact Cz _ _ _ _ _ h
theorem IV {A:List Int}{i:Int}(h:A.length=54):(iH A i x).1.length=54:=by rw[Nx];exact Cz _ _ _ _ _ h
section
variable {w:World}{K:KV}{q:LB}{s:PL}{e:EV}
theorem Qh {r:Nat}{A:List Int}(g:LV w z q e)(U:blk w r 50 (A.map iv))(O:A.length=54)(h:PM w q s)(hi:PI s)(M:bU s.N e.n=true)(J:A=(aN s.N e.n).set c (nA (aN s.N e.n) c+x))(j:∀w',PM w' q {s with N:=s.N.map (dR [e.n] c x)}→Ch q.wv w w'→K (.tuple #[]) w'):call Tryz.prog 240 #[pB r,pB z,pB (z+1)] K w:=by
 refine aj (goK func240) (yU ?_);refine aw (fun y=>LV y z q e∧PM y q s∧blk y r 50 (A.map iv)) ⟨g.drew,h.drew,U.drew⟩ ?_;refine ab (fun y u _=>lK (v:=pB q.p) u.1.l rfl) (ab (fun y u _=>ai) (ab (fun y u _=>kz) ?_));refine ab (fun y u _=>lK (v:=.map (some q.rm)) u.2.1.b (by rw[Nat.zero_add];exact u.2.1.c20)) ?_;refine ab (fun y u _=>eW) (ab (fun y u _=>lK (v:=u6 e.n) u.1.e rfl) ?_)
 refine ab (fun y u _=>pT O u.2.2) ?_;exact h.drew.put1_c hi M J fun w1 I C=>j w1 I (Ch.of_oth ⟨C.os,C.tape,C.output,C.size,C.other⟩ (by simp[LB.wv]))
theorem RN {r:Nat}{A:List Int}(g:LV w z q e)(U:blk w r 50 (A.map iv))(O:A.length=54)(h:PM w q s)(hi:PI s)(M:bU s.N e.n=true)(J:A=(aN s.N e.n).set c (nA (aN s.N e.n) c+x))(j:∀w',PM w' q {s with N:=s.N.map (dR [e.n] c x)}→Ch q.wv w w'→K (.tuple #[]) w'):call Tryz.prog 249 #[pB r,pB z,pB (z+1)] K w:=by
 refine aj (goK func249) (Av ?_);refine aw (fun y=>LV y z q e∧PM y q s∧blk y r 50 (A.map iv)) ⟨g.drew,h.drew,U.drew⟩ ?_;refine ab (fun y u _=>lK (v:=pB q.p) u.1.l rfl) (ab (fun y u _=>ai) (ab (fun y u _=>kz) ?_));refine ab (fun y u _=>lK (v:=.map (some q.rm)) u.2.1.b (by rw[Nat.zero_add];exact u.2.1.c20)) ?_;refine ab (fun y u _=>eW) (ab (fun y u _=>lK (v:=u6 e.n) u.1.e rfl) ?_)
 refine ab (fun y u _=>pT O u.2.2) ?_;exact h.drew.put1_c hi M J fun w1 I C=>j w1 I (Ch.of_oth ⟨C.os,C.tape,C.output,C.size,C.other⟩ (by simp[LB.wv]))
theorem Sg (h:PM w q s)(hi:PI s)(hm:dK e=true)(hk:e.k=2)(kd:Kind w q s e K):call Tryz.prog 230 #[pB q.p,.agg (evC e).toArray] K w:=by
 have ag:=kd.y;obtain⟨no,_⟩:=kd;obtain⟨C,ho⟩:=qe hm;have al:=gC hm;have ad:=h.lt;have ea:1≤e.a∧e.a≤MXA:=by rcases qC hm with⟨k,_⟩|⟨_,a,b⟩|⟨k,_⟩|⟨k,_⟩|⟨k,_⟩|⟨k,_⟩|k<;>first|omega|exact⟨a,b⟩
 have I:eU e s=if bU s.N e.n=false then 9 else if M47<nA (aN s.N e.n) e.q+e.a then 6 else 0:=by unfold eU;rw[if_neg (by omega),if_pos hk]
 have hl:=FJ hi e.n;refine aj (goK func230) (Bd (LE.make fun w1 M s1=>?_));have M:=M.drew;have p1:=h.below M.bel;refine aw (fun y=>LE w y q e∧PM y q s) ⟨M,p1⟩ ?_;refine ab (fun y u _=>lK (v:=pB q.p) u.1.l rfl) (ab (fun y u _=>ai) (ab (fun y u _=>kz) ?_));refine ab (fun y u _=>lK (v:=.map (some q.rm)) u.2.b (by rw[Nat.zero_add];exact u.2.c20)) ?_
 refine ab (fun y u _=>eW) (ab (fun y u _=>lK (v:=u6 e.n) u.1.e rfl) ?_);refine ab (fun y u _=>u.2.rg_l2 hi) (ab (fun y u _=>cZ) (ab (fun y u _=>db) ?_));refine vB fun w2 r2 b2 s2=>bR ⟨M.fresh b2,p1.below b2⟩ (ud rfl hl r2 fun w3 r3 o3=>?_);have zz:w.heap.size+2≤w1.drew.heap.size:=M.sz;have O:=(M.fresh b2).oth o3 zz;have p3:=(p1.below b2).oth o3 fun J=>by have:=ad _ J;omega
 refine bR ⟨O,p3⟩ (dB ?_);cases J:bU s.N e.n with
 | false =>
  rw[J,if_pos rfl]at I
  have:=no _ (by rw[I];decide) O.bel
  rw[I]at this;exact bu this
 | true =>
 rw[J,if_neg (by simp)]at I;have hb:nA (aN s.N e.n) e.q≤M47∧0≤nA (aN s.N e.n) e.q:=by
  obtain⟨y,u,e1⟩:=pR J;rw[←e1,te hi.srt u];exact⟨(hi.may y u).2 _ C,((uP.1 (hi.may y u).1).g _ C).1⟩
 simp only[M47,MXA]at hb ea;have O:=O.drew;have p3:=p3.drew;have r3:=r3.drew;refine aO (aH (fun _=>bD) (aH (fun _=>lK (v:=iv e.o) O.e rfl) ?_));refine aH (v:=iv (e.q:Nat)) (fun K j=>bh (by omega) (by omega) (by rw[show e.o-1=(e.q:Nat)by omega];exact j)) ?_;refine aH (fun _=>sx) (aH (fun _=>ixR rfl C) ?_)
 refine aH (v:=iv (nA (aN s.N e.n) e.q)) (fun _=>lK r3 (by rw[Nat.zero_add];exact qF (by omega))) ?_;refine aH (fun _=>dT) (aH (fun _=>lK (v:=iv e.a) O.e rfl) ?_);refine aH (fun _=>aW (by omega) (by omega)) ?_;refine aH (fun _=>sx) (aH (fun _=>ixR rfl C) ?_);refine eB (fun _=>by kernel_rfl) r3 (by simp[hl];omega) rfl fun w4 U o4=>?_
 obtain⟨A,hA⟩:∃A,A=(aN s.N e.n).set e.q (nA (aN s.N e.n) e.q+e.a):=⟨_,rfl⟩
 have af:A.length=54:=by rw[hA,List.length_set];exact hl
 have U:blk w4 w1.drew.heap.size 50 (A.map iv):=by
  rw[Nat.zero_add]at U;rw[hA, ←zG];exact U
 have g4:=O.oth o4 zz;have p4:=p3.oth o4 fun J=>by have:=ad _ J;omega
 refine yV (bD (lK (v:=iv e.o) g4.e rfl (bh (by omega) (by omega) ?_)));rw[show e.o-1=(e.q:Nat)by omega];refine sx (ixR rfl C (lK (v:=iv (nA (aN s.N e.n) e.q+e.a)) U (by
  rw[Nat.zero_add,qF (by omega),hA,nT (by omega),kD]) (de ?_)))
 by_cases h6:(140737488355328:Int)<nA (aN s.N e.n) e.q+e.a
 ·refine ax h6 ?_;rw[if_pos h6]at I
  have:=no _ (by rw[I];decide) g4.bel
  rwa[I]at this
 rw[if_neg h6]at I;refine aq h6 (yW (ag I w4 _ g4.bel fun w6 K2 b6 aa=>fM rfl ?_));rw[Gv hk]at aa;exact Qh (g4.fresh b6).lv (ac b6 U U.lt) af (p4.below b6) hi J hA aa
theorem Se (h:PM w q s)(hi:PI s)(hm:dK e=true)(hk:e.k=5)(kd:Kind w q s e K):call Tryz.prog 233 #[pB q.p,.agg (evC e).toArray] K w:=by
 have al:=kd.y;obtain⟨no,_⟩:=kd;have am:=gC hm;have af:=h.lt;have ea:1≤e.t∧e.t≤6:=by rcases qC hm with⟨k,_⟩|⟨k,_⟩|⟨k,_⟩|⟨k,_⟩|⟨_,_,_,a,b,_⟩|⟨k,_⟩|k<;>first|omega|exact⟨a,b⟩
 obtain⟨t,ht⟩:∃t:Nat,t=(e.t-1).toNat:=⟨_,rfl⟩
 have ag:t<6:=by omega
 have J:eU e s=if bU s.N e.n=false then 9 else if s.I.getD (e.t-1).toNat false=false then 10 else (kQ (aN s.N e.n) e.o e.t e.a).2:=by unfold eU;rw[if_neg (by omega),if_neg (by omega),if_neg (by omega),if_neg (by omega),if_pos hk]
 have hl:=FJ hi e.n;refine aj (goK func233) (BX (LE.make fun w1 O s1=>?_));have O:=O.drew;have p1:=h.below O.bel;refine aw (fun y=>LE w y q e∧PM y q s) ⟨O,p1⟩ ?_;refine ab (fun y C _=>lK (v:=pB q.p) C.1.l rfl) (ab (fun y C _=>ai) (ab (fun y C _=>kz) ?_));refine ab (fun y C _=>lK (v:=.map (some q.rm)) C.2.b (by rw[Nat.zero_add];exact C.2.c20)) ?_
 refine ab (fun y C _=>eW) (ab (fun y C _=>lK (v:=u6 e.n) C.1.e rfl) ?_);refine ab (fun y C _=>C.2.rg_l2 hi) (ab (fun y C _=>cZ) (ab (fun y C _=>db) ?_));refine vB fun w2 r2 b2 s2=>bR ⟨O.fresh b2,p1.below b2⟩ (ud rfl hl r2 fun w3 r3 o3=>?_);have zz:w.heap.size+2≤w1.drew.heap.size:=O.sz;have M:=(O.fresh b2).oth o3 zz;have p3:=(p1.below b2).oth o3 fun hh=>by have:=af _ hh;omega
 refine bR ⟨M,p3⟩ (dB ?_);cases hh:bU s.N e.n with
 | false =>
  rw[hh,if_pos rfl]at J
  have:=no _ (by rw[J];decide) M.bel
  rw[J]at this;exact bu this
 | true =>
 rw[hh,if_neg (by simp), ←ht]at J;have M:=M.drew;have p3:=p3.drew;have r3:=r3.drew;refine aO (aH (fun _=>lK (v:=pB q.p) M.l rfl) (aH (fun _=>iD) (aH (fun _=>lK (v:=iv e.t) M.e rfl) ?_)));refine aH (v:=iv (t:Nat)) (fun K u=>bh (by omega) (by omega) (by rw[show e.t-1=(t:Nat)by omega];exact u)) ?_;refine aH (fun _=>ai) (aH (fun _=>zO) (aH (fun _=>JK rfl ag) ?_))
 refine aH (fun _=>lK (v:=.bool (s.I.getD t false)) p3.b (by rw[Nat.zero_add];exact p3.cI ag)) (aH (fun _=>dB) ?_);cases hI:s.I.getD t false with
 | false =>
  rw[hI,if_pos rfl]at J
  have:=no _ (by rw[J];decide) M.bel
  rw[J]at this;exact bu this
 | true =>
 rw[hI,if_neg (by simp)]at J;refine aO (pT hl r3 (bD (lK (v:=iv e.o) M.e rfl (iD (lK (v:=iv e.t) M.e rfl (dT (lK (v:=iv e.a) M.e rfl ?_)))))));refine TP hl fun w4 b4=>cZ (db ?_);have ad:=OG (i:=e.o) (j:=e.t) (x:=e.a) hl;refine ud hl ad (ac b4 r3 r3.lt) fun w5 r5 o5=>Aw (bN ?_);have g5:=(M.fresh b4).oth o5 zz;have p5:=(p3.below b4).oth o5 fun hh=>by have:=af _ hh;omega
 by_cases U:(kQ (aN s.N e.n) e.o e.t e.a).2≠0
 ·refine ax U ?_
  have:=no _ (by rw[J];exact U) g5.bel
  rwa[J]at this
 have U:(kQ (aN s.N e.n) e.o e.t e.a).2=0:=by simpa using U
 refine aq (by simp[U]) (al (by rw[J];exact U) w5 _ g5.bel fun w6 K2 b6 aa=>fM rfl ?_);rw[Td hk]at aa;exact RN (g5.fresh b6).lv (ac b6 r5 r5.lt) ad (p5.below b6) hi hh (Mf U) aa
theorem Tv (h:PM w q s)(hm:dK e=true)(hk:e.k=6)(kd:Kind w q s e K):call Tryz.prog 234 #[pB q.p,.agg (evC e).toArray] K w:=by
 have ea:1≤e.t∧e.t≤6:=by rcases qC hm with⟨k,_⟩|⟨k,_⟩|⟨k,_⟩|⟨k,_⟩|⟨k,_⟩|⟨_,a,b,_⟩|k<;>first|omega|exact⟨a,b⟩
 obtain⟨t,ht⟩:∃t:Nat,t=(e.t-1).toNat:=⟨_,rfl⟩
 have I:t<6:=by omega
 have ee:eU e s=0:=by unfold eU;rw[if_neg (by omega),if_neg (by omega),if_neg (by omega),if_neg (by omega),if_neg (by omega)]
 refine aj (goK func234) (BV (LE.make fun w1 M s1=>kd.y ee w1 _ M.bel fun w2 K2 b2 O=>fM rfl ?_));have g2:=(M.fresh b2).drew;have J:=(h.below (M.fresh b2).bel).drew;have C:=J.nd;refine aj (goK func250) (At ?_);refine aH (fun _=>lK (v:=pB q.p) g2.l rfl) (aH (fun _=>iD) (aH (fun _=>lK (v:=iv e.t) g2.e rfl) ?_))
 refine aH (v:=iv (t:Nat)) (fun K j=>bh (by omega) (by omega) (by rw[show e.t-1=(t:Nat)by omega];exact j)) ?_;refine aH (fun _=>ai) (aH (fun _=>zO) (aH (fun _=>JK rfl I) ?_));refine eB (fun _=>by kernel_rfl) J.b (by rw[J.len];omega) rfl fun w3 b3 u=>O w3 ?_ (Ch.of_oth ⟨u.os,u.tape,u.output,u.size,u.other⟩ (by simp[LB.wv]));rw[Te hk, ←ht];rw[Nat.zero_add,J.sI I]at b3
 obtain⟨i6,l6,v6,b,tm,⟨m1,x1,e1⟩,⟨m2,x2,e2⟩,⟨m3,x3,e3⟩,⟨m4,x4,e4⟩,_,U⟩:=J;exact⟨by simp[i6],l6,v6,b3,tm.oth u (LN.tp C) (LN.dp C),⟨m1,x1.oth u (LN.mp C),e1⟩,⟨m2,x2.oth u (LN.rp C),e2⟩,⟨m3,x3.oth u (LN.gp C),e3⟩,⟨m4,x4.oth u (LN.ap C),e4⟩,C,U.keep (u.other 0 (LN.zp C))⟩
theorem RA (h:PM w q s)(hm:dK e=true)(hk:e.k=7)(kd:Kind w q s e K):call Tryz.prog 235 #[pB q.p,.agg (evC e).toArray] K w:=by
 obtain⟨I,ho⟩:=qe hm;have aa:=gC hm;have ee:eU e s=0:=by unfold eU;rw[if_neg (by omega),if_neg (by omega),if_neg (by omega),if_neg (by omega),if_neg (by omega)]
 refine aj (goK func235) (Bc (LE.make fun w1 M s1=>kd.y ee w1 _ M.bel fun w2 K2 b2 O=>fM rfl ?_));have g2:=(M.fresh b2).drew;have J:=(h.below (M.fresh b2).bel).drew;have C:=J.nd;refine aj (goK func251) (yT ?_);refine aH (fun _=>lK (v:=pB q.p) g2.l rfl) (aH (fun _=>bD) (aH (fun _=>lK (v:=iv e.o) g2.e rfl) ?_))
 refine aH (v:=iv (e.q:Nat)) (fun K j=>bh (by omega) (by omega) (by rw[show e.o-1=(e.q:Nat)by omega];exact j)) ?_;refine aH (fun _=>ai) (aH (fun _=>GQ) (aH (fun _=>JK rfl I) ?_));refine eB (fun _=>by kernel_rfl) J.b (by rw[J.len];omega) rfl fun w3 b3 u=>O w3 ?_ (Ch.of_oth ⟨u.os,u.tape,u.output,u.size,u.other⟩ (by simp[LB.wv]));rw[Tf hk];rw[Nat.zero_add,J.sL I]at b3
 obtain⟨i6,l6,v6,b,tm,⟨m1,x1,e1⟩,⟨m2,x2,e2⟩,⟨m3,x3,e3⟩,⟨m4,x4,e4⟩,_,U⟩:=J;exact⟨i6,by simp[l6],v6,b3,tm.oth u (LN.tp C) (LN.dp C),⟨m1,x1.oth u (LN.mp C),e1⟩,⟨m2,x2.oth u (LN.rp C),e2⟩,⟨m3,x3.oth u (LN.gp C),e3⟩,⟨m4,x4.oth u (LN.ap C),e4⟩,C,U.keep (u.other 0 (LN.zp C))⟩
end
theorem Nv {g:List Int→Int}{N:List ND}:∀{P:List Int} {k:Nat} {id:Int},P[k]? = some id→(∀j y,j<k→P[j]? = some y→g (aN N y)=0)→g (aN N id)≠0→lf g N P=g (aN N id)
 | [],_,_,h,_,_=>by simp at h
 | y::P,0,id,h,_,hn=>by
  simp at h;subst h;unfold lf;rw[if_pos hn]
 | y::P,k+1,id,h,h0,hn=>by
  unfold lf;rw[if_neg (by rw[h0 0 y (by omega) rfl];simp)];exact Nv (by simpa using h) (fun j z C u=>h0 (j+1) z (by omega) (by simpa using u)) hn
theorem Oo {a b:List Int}(h:∀y,y∈a↔y∈b):dR a c x=dR b c x:=by
 funext y;by_cases j:y.id∈a
 ·rw[sr j,sr ((h _).1 j)]
 ·rw[qw j,qw (fun u=>j ((h _).2 u))]
theorem Nf {s:PL}(hi:PI s)(id:Int):(di s.N id).Nodup:=by
 obtain⟨rk,h⟩:=hi.tk;exact(yY h _ _).imp fun {a b} j e=>by subst e;omega
section
variable {w:World}{K:KV}{q:LB}{s:PL}
theorem QJ {y:Nat}{P:List Int}{f:List Int→List Int×Int}(hz:blk w z 79 [pB q.p])(hy:blk w y 130 [.map (some b)])(hf:MB u6 rgV w b (P.map fun id=>(id,(f (aN s.N id)).1)))(a2:z∉q.l)(aE:b∉q.l)(h:PM w q s)(hi:PI s)(hP:∀id∈P,bU s.N id=true∧(f (aN s.N id)).1=(aN s.N id).set c (nA (aN s.N id) c+x))(hl:∀A,A.length=54→(f A).1.length=54)(j:∀w',PM w' q {s with N:=s.N.map (dR P c x)}→Ch q.wv w w'→K (.tuple #[]) w'):call Tryz.prog 254 #[pB y,pB z] K w:=by
 have ad:=h.lt;have af:q.rm∈q.l:=by simp[LB.l]
 refine aj (goK func254) (Aj (lK (v:=.map (some b)) hy rfl (Fx underlying130 hf fun w1 a3 b1 s1=>?_)));have a8:=hf.lt;have ag:b≠q.rm:=fun e=>aE (e ▸ af);have am:w.heap.size≠q.rm:=fun e=>by have:=ad _ af;omega
 refine yy (Inv:=fun wr=>∃done,IT u6 rgV wr w.heap.size b (P.map fun id=>(id,(f (aN s.N id)).1)) done∧PM wr q {s with N:=s.N.map (dR done c x)}∧blk wr z 79 [pB q.p]∧Ch q.wv w wr∧w.heap.size+1≤wr.heap.size) (μ:=fun wr=>lC wr b w.heap.size)
  ⟨[],a3,by rw[Lk];exact h.below b1,ac b1 hz hz.lt,Ch.of_below b1,by omega⟩ ?_
 rintro dd w2 m ⟨done,av,p2,z2,c2,s2⟩ hm;refine Fl av (by omega) (fun M=>?_) fun id v w3 an a0 I az o3 a7=>?_
 ·refine sv rfl (aO (j w2 ?_ c2));have O:=av.nodup.2.2;rw[List.map_map]at M O;have e:∀y,y∈done↔y∈P:=fun y=>⟨fun J=>by simpa using O y J,fun J=>M y (by simpa using J)⟩
  rw[←Oo e];exact p2
 ·obtain⟨C,al,e1⟩:=List.mem_map.1 an;simp only[Prod.mk.injEq]at e1;obtain⟨rfl,rfl⟩:=e1;obtain⟨J,ap⟩:=hP C al;have ar:=hl _ (FJ hi C);refine sv rfl (bu (Iu az (cZ (db (vB fun w4 r4 b4 s4=>ud rfl ar r4 fun w5 r5 o5=>?_)))));have s3:=o3.size;have aS:w.heap.size∉q.l:=fun J=>by have:=ad _ J;omega
  have p3:=p2.oth o3 aS;have z3:=o3.blk z2 (by have:=hz.lt;omega);have p5:=((p3.below b4).oth o5 fun J=>by have:=ad _ J;omega).drew;have z5:=(o5.blk (ac b4 z3 z3.lt) (by have:=z3.lt;omega)).drew;have aa:Ch [w3.heap.size] w3 w5:=(Ch.of_below b4:Ch [w3.heap.size] w3 w4).trans (Ch.of_oth o5 (by simp):Ch [w3.heap.size] w4 w5) (fun x hx=>.inl hx)
  have c3:Ch q.wv w w3:=c2.trans (Ch.of_oth o3 (by simp):Ch [w.heap.size] w2 w3) (by simp);have c5:Ch q.wv w w5.drew:=(c3.trans aa (by
   intro k hk;have hk:k=w3.heap.size:=by simpa using hk
   exact .inr (by omega))).trans (Ch.of_below (Below.refl _ w5).drew:Ch [] w5 w5.drew) (by simp)
  have s5:=aa.size;have k5:∀k,k<w3.heap.size→w5.drew.heap[k]? = w3.heap[k]? := fun k hk=>(aa.block k hk (by simp;omega))
  have a4:IT u6 rgV w5.drew w.heap.size b _ (done++[C]):=I.kept (k5 _ I.lt.2) (k5 _ I.lt.1);refine aw (fun u=>PM u q {s with N:=s.N.map (dR done c x)}∧blk u z 79 [pB q.p]∧blk u w3.heap.size 50 ((f (aN s.N C)).1.map iv)) ⟨p5,z5,r5.drew⟩ ?_;refine ab (fun u U _=>lK (v:=pB q.p) U.2.1 rfl) (ab (fun u U _=>ai) (ab (fun u U _=>kz) ?_))
  refine ab (fun u U _=>lK (v:=.map (some q.rm)) U.1.b (by rw[Nat.zero_add];exact U.1.c20)) <|ab (fun u U _=>pT ar U.2.2) ?_;refine p5.put_c hi a0 J ap fun w6 p6 o6=>⟨⟨done++[C],?_,p6,?_,?_,by rw[o6.size];show _≤w5.heap.size;omega⟩,?_⟩
  ·exact a4.kept (o6.other _ ag) (o6.other _ am)
  ·exact o6.blk z5 fun e=>a2 (e ▸ af)
  ·exact c5.trans (Ch.of_oth o6 (by simp):Ch [q.rm] w5.drew w6) (by simp[LB.wv])
  ·rw[hm];have e1:lC w6 b w.heap.size=lC w3 b w.heap.size:=tw ((o6.other _ ag).trans (k5 _ I.lt.2)) ((o6.other _ am).trans (k5 _ I.lt.1));omega
theorem Mm {node:Int}{f:List Int→List Int×Int}(h:PM w q s)(hi:PI s)(hl:∀A,A.length=54→(f A).1.length=54)(ar:∀A,(f A).2=0→(f A).1=A.set c (nA A c+x))(am:∀A,A.length=54→∀w1,Below w.heap.size w w1→∀K':KV,(∀w2,Below w1.heap.size w1 w2→K' (.tuple #[rgV (f A).1,.int .i64 (f A).2]) w2)→bY Tryz.prog Y5 #[rgV A] K' w1)(no:∀w',lf (fun A=>(f A).2) s.N (di s.N node)≠0→Below w.heap.size w w'→K (.tuple #[.nilFunc,.int .i64 (lf (fun A=>(f A).2) s.N (di s.N node))]) w')(aE:lf (fun A=>(f A).2) s.N (di s.N node)=0→∀w' fv,fv.oneCell'=true→Below w.heap.size w w'→Uv w' q {s with N:=s.N.map (dR (di s.N node) c x)} fv→K (.tuple #[fv,.int .i64 0]) w'):call Tryz.prog 241 #[pB q.p,u6 node,Y5] K w:=by
 have a7:=h.lt;obtain⟨rk,ba⟩:=hi.tk;have be:=hi.len30;have al:=hi.plen node;have af:=Nf hi node;have U:∀id∈di s.N node,bU s.N id=true:=fun id=>mR;refine aj (goK func241) (BS (cv fun w1 h1 b1 s1=>qZ underlying130 rfl u6 rgV fun w2 m2 b2 s2=>dZ (z:=.map none) (by kernel_rfl) fun w3 h3 b3 s3=>?_));have h1:blk w1 w.heap.size 79 [pB q.p]:=by simpa[Value.cells]using h1
 have h3:blk w3 w2.heap.size 130 [.map none]:=by simpa[Value.cells]using h3
 refine eB (fun _=>by kernel_rfl) h3 (by show 0<1;decide) rfl fun w4 h4 o4=>?_;have h4:blk w4 w2.heap.size 130 [.map (some w1.heap.size)]:=h4;have O:Below w.heap.size w w4:=bG (b1.trans ((b2.mono (by omega)).trans (b3.mono (by omega)))) o4 (by omega);have z4:blk w4 w.heap.size 79 [pB q.p]:=o4.blk (ac b3 (ac b2 h1 h1.lt) (by omega)) (by omega);have m4:=(m2.below b3).oth o4 (by omega)
 have p4:=h.below O;have s4:w4.heap.size=w.heap.size+3:=by rw[o4.size];omega
 rw[show w2.heap.size=w.heap.size+2 by omega]at h4 ⊢;rw[s1]at h4 m4;refine lK (v:=pB q.p) z4 rfl (ai (wF (lK (v:=pB q.t) p4.b (by rw[Nat.zero_add];exact p4.c18) ?_)));refine Kb ba p4.tm (by rw[Ac];omega) fun w5 a ca ho b5=>bj underlying120 ?_;change World.ownsRow w5 w4.heap.size _ 1 (.slice a (di s.N node).length ca) (di s.N node).length ((di s.N node).map u6)at ho;show lF K _ w5
 obtain⟨P,an⟩:∃P,P=di s.N node:=⟨_,rfl⟩
 have ap:dh (tr s.N) node=P:=by rw[an];rfl
 rw[ap];rw[←an]at al af U no aE ho;have J:IdR w5 w4.heap.size a ca P:=IdR.own ho rfl;have nz:∀b,w.heap.size≤b→b∉q.l:=fun b hb hh=>by have:=a7 _ hh;omega
 refine Ak (Inv:=fun i wr=>∃k:Nat,i=iv (k:Nat)∧k≤P.length∧PM wr q s∧blk wr w.heap.size 79 [pB q.p]∧blk wr (w.heap.size+2) 130 [.map (some (w.heap.size+1))] ∧
   MB u6 rgV wr (w.heap.size+1) ((P.take k).map fun id=>(id,(f (aN s.N id)).1))∧IdR wr w4.heap.size a ca P∧Below w.heap.size w wr∧(∀j y,j<k→P[j]? = some y→(f (aN s.N y)).2=0)∧w.heap.size+3≤wr.heap.size)
  (μ:=fun i _=>P.length-(intOf i).toNat) ⟨0,rfl,Nat.zero_le _,p4.below b5,ac b5 z4 z4.lt,ac b5 h4 h4.lt,m4.below b5,J,O.trans (b5.mono O.size),fun j y hj=>by omega,by have:=b5.size;omega⟩ ?_
 rintro _ dd w6 m ⟨k,rfl,bg,p6,z6,y6,m6,av,C,hz,bi⟩ hm;refine aM ?_;by_cases u:k<P.length
 ·refine ax (by omega) (av.at2 u fun pt=>?_);have hx:P[k]? = some P[k]:=List.getElem?_eq_getElem u;generalize P[k]=id at hx;have bd:id∈P:=List.mem_of_getElem? hx;refine lK (v:=pB q.p) z6 rfl (ai (kz (lK (v:=.map (some q.rm)) p6.b (by rw[Nat.zero_add];exact p6.c20) ?_)))
  refine p6.rg_l hi (am _ (FJ hi id) w6 C _ fun w7 b7=>cZ (db (vB fun w8 r8 b8 s8=>ud rfl (hl _ (FJ hi id)) r8 fun w9 r9 o9=>bN ?_)));have I:=b7.trans (b8.mono b7.size);have aa:Below w.heap.size w w9:=bG (C.trans (I.mono C.size)) o9 (by have:=b7.size;omega);have s7:=b7.size;by_cases h7:(f (aN s.N id)).2≠0
  ·refine ax h7 ?_;have ee:=Nv (g:=fun A=>(f A).2) hx hz h7
   have:=no w9 (by rw[ee];exact h7) aa
   rwa[ee]at this
  have h7:(f (aN s.N id)).2=0:=by simpa using h7
  have z9:=o9.blk (ac I z6 z6.lt) (by have:=z6.lt;omega);have y9:=o9.blk (ac I y6 y6.lt) (by have:=y6.lt;omega);have m9:=(m6.below I).oth o9 (by have:=m6.lt;omega);have p9:=(p6.below I).oth o9 (nz _ (by omega))
  refine aq (by simp[h7]) (lK (v:=.map (some (w.heap.size+1))) y9 rfl (pT (hl _ (FJ hi id)) r9 (rL (v:=(f (aN s.N id)).1) u6K underlying130 m9 fun bb az M=>aW (by omega) (by omega) ?_)));have ag:dP ((P.take k).map fun id=>(id,(f (aN s.N id)).1)) id=none:=by
   rw[sQ,List.map_map];intro hh;obtain⟨y,hy,e⟩:=List.mem_map.1 hh;have e:y=id:=e;subst e;obtain⟨i,a2,e2⟩:=List.getElem_of_mem hy;rw[List.getElem_take]at e2;have a3:i<k:=by simp at a2;omega
   have:=(List.pairwise_iff_getElem.1 af) i k (by omega) u a3
   rw[List.getElem?_eq_getElem u]at hx;exact this (e2.trans (Option.some.inj hx).symm)
  rw[uS ag]at az;have aS:P.take (k+1)=P.take k++[id]:=by rw[List.take_add_one,hx];rfl
  refine⟨⟨k+1,ivS,u,p9.oth M (nz _ (by omega)),M.blk z9 (by omega),M.blk y9 (by omega),by rw[aS,List.map_append];exact az,?_,bG aa M (by omega),fun j y hj hy=>?_,by rw[M.size,o9.size];omega⟩,by rw[hm];show P.length-((k:Int)+1).toNat<P.length-(k:Int).toNat;omega⟩
  ·have a9:∀g cs,blk w9 g 31 cs→blk bb g 31 cs:=fun g cs hb=>M.blk hb fun e=>by
    subst e;obtain⟨es,cc,a8⟩:=m9;exact su a8.heap (by simp) _ hb
   refine((av.below I).imp fun g cs _ hb=>o9.blk hb fun e=>?_).imp fun g cs _=>a9 g cs;subst e;exact absurd (uc hb r8) (by decide)
  ·by_cases e:j=k
   ·subst e;rw[hx]at hy;cases hy;exact h7
   ·exact hz j y (by omega) hy
 ·have a4:k=P.length:=by omega
  refine aq (by omega) (Al ?_);have ad:∀id∈P,(f (aN s.N id)).2=0:=fun id J=>by
   obtain⟨j,hj,e⟩:=List.getElem_of_mem J;exact hz j id (by omega) (by rw[List.getElem?_eq_getElem hj,e])
  rw[a4,List.take_length]at m6;refine aE (zB.2 ad) w6 _ rfl C fun w7 K2 b7 a0=>fM rfl ?_;exact QJ (ac b7 z6 z6.lt) (ac b7 y6 y6.lt) (m6.below b7) (nz _ (by omega)) (nz _ (by omega)) (p6.below b7) hi (fun id J=>⟨U id J,ar _ (ad id J)⟩) hl a0
end
theorem QK {R:List (List Int)}(u:k<R.length):jB (R.set k (R.getD k []++[r])) j x=(jB R j x || (decide (j=k)&&decide (x=r))):=by
 unfold jB;rw[sA u];by_cases h:j=k
 ·subst h;rw[if_pos rfl,Bool.eq_iff_iff];simp
 ·rw[if_neg h];simp[h]
theorem Rl {G:List GR}{o f:Int}:iQ (G.map (nD o f r)) o f=(iQ G o f).map fun g=>{g with b:=r}:=by
 unfold iQ;rw[List.find?_map];have e:((fun g:GR=>g.o==o&&g.q==f) ∘ nD o f r)=fun g:GR=>g.o==o&&g.q==f:=by
  funext g;show ((nD o f r g).o==o&&(nD o f r g).q==f)=_;rw[(je g).1,(je g).2]
 rw[e];cases j:G.find? fun g=>g.o==o&&g.q==f with
 | none=>rfl
 | some g =>
  have h:=List.find?_some j;rw[Bool.and_eq_true,beq_iff_eq,beq_iff_eq]at h;simp only[Option.map_some]
  congr 1
  unfold nD;rw[if_pos h]
theorem Ov {s:PL}(hi:PI s){o:Int}(h:jB s.R (o-1).toNat r=false):iQ s.G o r=none:=by
 cases I:iQ s.G o r with
 | none=>rfl
 | some g =>
  obtain⟨C,j,u⟩:=sC I
  have:=(hi.gk g C).2.2.2.2.2.2
  rw[j,u,h]at this;cases this
section
variable {w:World}{K:KV}{q:LB}{s:PL}{e:EV}
theorem PM.ask_c {o:Int}(h:PM w q s)(h1:1≤o)(h6:o≤6)(hR:s.R.length=6)(hK:∀w',PM w' q {s with R:=s.R.set (o-1).toNat (s.R.getD (o-1).toNat []++[r])}→Oth q.am w w'→K undef w'):dO Tryz.prog 132 (.map (some q.am)) (rqV (o,r)) (.bool true) K w:=by
 have j:=h.nd;obtain⟨m,hm,hp⟩:=h.am;refine rL (v:=true) rqK underlying132 hm fun w1 M u=>hK w1 ?_ u;obtain⟨i6,l6,v6,b,tm,⟨m1,p1,e1⟩,⟨m2,p2,e2⟩,⟨m3,p3,e3⟩,_,_,kd⟩:=h;refine⟨i6,l6,v6,u.blk b (LN.pa j),tm.oth u (LN.ta j) (LN.da j),⟨m1,p1.oth u (LN.ma j),e1⟩,⟨m2,p2.oth u (LN.ra j),e2⟩,⟨m3,p3.oth u (LN.ga j),e3⟩,⟨_,M,fun O U C I=>?_⟩,j,kd.keep (u.other 0 (LN.za j))⟩
 rw[DH,hp O U C I,QK (by rw[hR];omega)];by_cases J:O=o∧U=r
 ·obtain⟨rfl,rfl⟩:=J;simp
 ·rw[if_neg (by simpa using J)]
  have:(decide ((O-1).toNat=(o-1).toNat)&&decide (U=r))=false:=by
   rw[Bool.eq_false_iff];intro h2;rw[Bool.and_eq_true,decide_eq_true_eq,decide_eq_true_eq]at h2;exact J ⟨by omega,h2.2⟩
  rw[this,Bool.or_false]
theorem PM.gm_c {g:GR}{G':List GR}(h:PM w q s)(hs:s.G.Pairwise ltG)(I:G'.Pairwise ltG)(hG:∀o r,iQ G' o r=if (o,r)=(g.o,g.q)then some g else iQ s.G o r)(hK:∀w',PM w' q {s with G:=G'}→Oth q.gm w w'→K undef w'):dO Tryz.prog 131 (.map (some q.gm)) (rqV (g.o,g.q)) (grV g) K w:=by
 have j:=h.nd;obtain⟨m,J,hp⟩:=h.gm;refine rL (v:=g) rqK underlying131 J fun w1 C u=>hK w1 ?_ u;obtain⟨i6,l6,v6,b,tm,⟨m1,p1,M⟩,⟨m2,p2,O⟩,_,⟨m4,p4,U⟩,_,kd⟩:=h;refine⟨i6,l6,v6,u.blk b (LN.pg j),tm.oth u (LN.tg j) (LN.dg j),⟨m1,p1.oth u (LN.mg j),M⟩,⟨m2,p2.oth u (LN.rg j),O⟩,⟨_,C,?_⟩,⟨m4,p4.oth u (LN.ag j),U⟩,j,kd.keep (u.other 0 (LN.zg j))⟩
 refine Ky (vz J.nodup) (Dg I) fun y=>?_;obtain⟨o,r⟩:=y;rw[DH,mQ hp (Dg hs),zC,zC,hG]
theorem AJ {o:Int}(j:blk w b 151 [iv o,u6 r])(h:K (rqV (o,r)) w):ld Tryz.prog 151 (pB b) K w :=
 ldA (n:=2) (vs:=[iv o,u6 r]) underlying151 rfl (by kernel_rfl) j rfl rfl h
theorem TY {o:Int}{K2:Value→KV}(h:∀w',blk w' w.heap.size 151 [iv o,u6 r]→Below w.heap.size w w'→K2 (pB w.heap.size) undef w'):alc Tryz.prog 151 (fun b=>sto Tryz.prog 151 b (.agg [iv o,u6 r].toArray) (K2 b)) w:=by
 refine dZ (z:=.agg #[iv 0,u6 0]) (by kernel_rfl) fun I j b1 M=>?_;have j:blk I w.heap.size 151 [iv 0,u6 0]:=by simpa[Value.cells,iv,u6]using j
 exact jP (n:=2) (by kernel_rfl) rfl j (by simp) (by simp[iv,u6,Value.oneCell']) fun J u C=>h J (by simpa using u) (bG b1 C (Nat.le_refl _))
theorem Sm {A:List Int}(u:A.length=54)(I:blk w (z+1) 54 (evC e))(U:∀w',Below w.heap.size w w'→K (.tuple #[rgV (iO A e.o e.a).1,.int .i64 (iO A e.o e.a).2]) w'):call Tryz.prog 242 #[rgV A,pB (z+1)] K w:=by
 have J:=IW (i:=e.o) (x:=e.a) u;refine aj (goK func242) (Ax (IY fun w1 M b1 s1=>vB fun w2 O b2 s2=>?_));have h:=b1.trans (b2.mono (by omega));have j:=ac h I I.lt;refine pT u (ac b2 M M.lt) (bD (lK (v:=iv e.o) j rfl (dT (lK (v:=iv e.a) j rfl ?_))));refine TU u fun w3 C=>cZ (db (ud rfl J (ac C O O.lt) fun w4 t4 o4=>?_))
 exact CJ (fun _=>pT J t4) (U _ (bG (h.trans (C.mono h.size)) o4 (by omega)))
theorem Sn {x y:Nat}(g:LV w z q e)(hx:blk w x 238 [Y5])(hy:blk w y 151 [iv e.o,u6 e.r])(hq:∀k∈q.l,k<z)(ap:z≤x)(al:z≤y)(hi:PI s)(hm:dK e=true)(U:e.k=3)(M:jB s.R e.q e.r=false)(O:bU s.N e.n=true)(hf:∀K2:KV,(∀J,PM J q {s with N:=s.N.map (dR (di s.N e.n) (6+e.q) e.a)}→Ch q.wv w J→K2 (.tuple #[]) J)→bY Tryz.prog Y5 #[] K2 w)(h:∀w',PM w' q (qx e s)→Ch q.wv w w'→K (.tuple #[]) w'):call Tryz.prog 244 #[pB x,pB z,pB y,pB (z+1)] K w:=by
 have aa:=gC hm;have hw:∀k∈q.wv,k<z:=fun k U=>hq k (LB.wl k U);have zn:∀b,z≤b→b∉q.wv:=fun b hb O=>by have:=hw b O;omega
 refine aj (goK func244) (Ay (lK (v:=Y5) hx rfl (hf _ fun w1 p1 c1=>?_)));have g1:=(g.ch c1 fun k U=>.inl (hw k U)).drew;have y1:=(hy.ch c1 (zn _ al)).drew;have p1:=p1.drew;refine aw (fun u=>LV u z q e∧blk u y 151 [iv e.o,u6 e.r]∧PM u q {s with N:=s.N.map (dR (di s.N e.n) (6+e.q) e.a)}) ⟨g1,y1,p1⟩ ?_
 refine ab (fun u j _=>lK (v:=pB q.p) j.1.l rfl) (ab (fun u j _=>ai) (ab (fun u j _=>CZ) ?_));refine ab (fun u j _=>lK (v:=.map (some q.am)) j.2.2.b (by rw[Nat.zero_add];exact j.2.2.c28)) <|ab (fun u j _=>AJ j.2.1) ?_;refine p1.ask_c aa.1 aa.2.1 hi.r6 fun w2 p2 o2=>?_;have af:q.am<z:=hq _ (by simp[LB.l]);have an:q.gm<z:=hq _ (by simp[LB.l]);have g2:=(g1.oth o2 (.inl af)).drew
 have y2:=(o2.blk y1 (by omega)).drew;have p2:=p2.drew;refine aw (fun u=>LV u z q e∧blk u y 151 [iv e.o,u6 e.r]∧PM u q {s with N:=s.N.map (dR (di s.N e.n) (6+e.q) e.a),R:=s.R.set (e.o-1).toNat (s.R.getD (e.o-1).toNat []++[e.r])}) ⟨g2,y2,p2⟩ ?_;refine ab (fun u j _=>lK (v:=pB q.p) j.1.l rfl) (ab (fun u j _=>ai) (ab (fun u j _=>CY) ?_))
 refine ab (fun u j _=>lK (v:=.map (some q.gm)) j.2.2.b (by rw[Nat.zero_add];exact j.2.2.c27)) <|ab (fun u j _=>AJ j.2.1) ?_;refine ab (fun u j _=>bD) (ab (fun u j _=>lK (v:=iv e.o) j.1.e rfl) ?_);refine ab (fun u j _=>ic) (ab (fun u j _=>lK (v:=u6 e.r) j.1.e rfl) ?_);refine ab (fun u j _=>eW) (ab (fun u j _=>lK (v:=u6 e.n) j.1.e rfl) ?_)
 refine ab (fun u j _=>dT) (ab (fun u j _=>lK (v:=iv e.a) j.1.e rfl) ?_);refine ab (fun u j _=>eT (vs:=grC ⟨e.o,e.r,e.n,e.a,0⟩) (by kernel_rfl)) ?_;have C:iQ s.G e.o e.r=none:=Ov hi M;have ad:(iS ⟨e.o,e.r,e.n,e.a,0⟩ s.G).Pairwise ltG:=BI hi.gs fun y hy O=>by
  have hg:iQ s.G y.o y.q≠none:=by
   unfold iQ;intro hn
   have:=List.find?_eq_none.1 hn y hy
   simp at this
  rw[O.1,O.2]at hg;exact hg C
 have I:(grL (iS ⟨e.o,e.r,e.n,e.a,0⟩ s.G)).Perm (grL s.G++[((e.o,e.r),⟨e.o,e.r,e.n,e.a,0⟩)]):=(insG_perm.map _).trans (List.perm_append_singleton _ _).symm;refine p2.gm_c (g:=⟨e.o,e.r,e.n,e.a,0⟩) (G':=iS ⟨e.o,e.r,e.n,e.a,0⟩ s.G) hi.gs ad (fun o r=>?_) fun J p3 o3=>h J ?_ ?_
 ·have ag:((grL s.G++[((e.o,e.r),(⟨e.o,e.r,e.n,e.a,0⟩:GR))]).map (·.1)).Nodup:=(I.map (·.1)).nodup_iff.1 (Dg ad);show _=if (o,r)=(e.o,e.r)then _ else _
  rw[←zC,mQ I ag, ←uS (m:=grL s.G) (x:=(e.o,e.r)) (by rw[zC];exact C),DH, ←zC]
 ·rw[Tb U];exact p3
 ·have c2:Ch q.wv w w2:=(c1.trans (Ch.of_below (Below.refl _ w1).drew:Ch [] w1 w1.drew) (by simp)).trans (Ch.of_oth o2 (by simp):Ch [q.am] w1.drew w2) (by simp[LB.wv]);exact(c2.trans (Ch.of_below (Below.refl _ w2).drew:Ch [] w2 w2.drew) (by simp)).trans (Ch.of_oth o3 (by simp):Ch [q.gm] w2.drew J) (by simp[LB.wv])
theorem Uj (h:PM w q s)(hi:PI s)(hm:dK e=true)(hk:e.k=3)(kd:Kind w q s e K):call Tryz.prog 231 #[pB q.p,.agg (evC e).toArray] K w:=by
 have az:=kd.y;obtain⟨no,_⟩:=kd;obtain⟨aE,ho⟩:=qe hm;have ad:=gC hm;have av:=h.lt;have C:eU e s=if jB s.R e.q e.r=true then 14 else if bU s.N e.n=false then 9 else lf (fun A=>(iO A e.o e.a).2) s.N (di s.N e.n):=by unfold eU;rw[if_neg (by omega),if_neg (by omega),if_pos hk]
 refine aj (goK func231) (BY (LE.make fun w1 g1 s1=>?_));have p1:=h.below g1.bel;refine bD (lK (v:=iv e.o) g1.e rfl (ic (lK (v:=u6 e.r) g1.e rfl (eT (vs:=[iv e.o,u6 e.r]) (by kernel_rfl) (TY fun w2 y2 b2=>?_)))));have g2:=(g1.fresh b2).drew;have p2:=(p1.below b2).drew;have y2:=y2.drew;have zy:w.heap.size+2≤w1.heap.size:=g1.sz
 refine aH (fun _=>lK (v:=pB q.p) g2.l rfl) (aH (fun _=>ai) (aH (fun _=>CZ) ?_));refine aH (fun _=>lK (v:=.map (some q.am)) p2.b (by rw[Nat.zero_add];exact p2.c28)) (aH (fun _=>AJ y2) (aH (fun _=>p2.ask_l ad.1 ad.2.1) ?_));rw[show (e.o-1).toNat=e.q from rfl];cases I:jB s.R e.q e.r with
 | true =>
  rw[I,if_pos rfl]at C
  have:=no _ (by rw[C];decide) g2.bel
  rw[C]at this;exact bu this
 | false =>
 rw[I,if_neg (by simp)]at C;have U:=g2.drew;have p3:=p2.drew;refine aO (aw (fun u=>LE w u q e∧PM u q s) ⟨U,p3⟩ ?_);refine ab (fun u J _=>lK (v:=pB q.p) J.1.l rfl) (ab (fun u J _=>ai) (ab (fun u J _=>wF) ?_));refine ab (fun u J _=>lK (v:=pB q.t) J.2.b (by rw[Nat.zero_add];exact J.2.c18)) ?_;refine ab (fun u J _=>eW) (ab (fun u J _=>lK (v:=u6 e.n) J.1.e rfl) ?_)
 refine Ji p3.tm (aw (fun _=>True) trivial (ab (fun u J _=>dB) ?_));rw[kh];cases hh:bU s.N e.n with
 | false =>
  rw[hh,if_pos rfl]at C
  have:=no _ (by rw[C];decide) U.bel
  rw[C]at this;exact bu this
 | true =>
 rw[hh,if_neg (by simp)]at C;refine aO (lK (v:=pB q.p) U.l rfl (eW (lK (v:=u6 e.n) U.e rfl ?_)));refine Mm (f:=fun A=>iO A e.o e.a) (c:=6+e.q) (x:=e.a) p3 hi (fun A hA=>IW hA) (fun A hA=>MN hA) (fun A hA M b4 K' ag => fM rfl (Sm hA (U.fresh b4).e ag)) (fun M af b4=>?_) fun h0 M fv ar b4 ap=>?_
 ·have g4:=U.fresh b4;refine cZ (db (dZ (z:=.nilFunc) (by kernel_rfl) fun w5 x5 b5 s5=>?_));have x5:blk w5 M.heap.size 238 [.nilFunc]:=by simpa[Value.cells]using x5
  refine eB (fun _=>by kernel_rfl) x5 (by simp) rfl fun w6 x6 o6=>sK (bN (ax af ?_))
  have:=no w6 (by rw[C];exact af) (bG (g4.fresh b5).bel o6 (by have:=g4.sz;omega))
  rwa[C]at this
 ·have g4:=U.fresh b4;refine cZ (db (dZ (z:=.nilFunc) (by kernel_rfl) fun w5 x5 b5 s5=>?_));have x5:blk w5 M.heap.size 238 [.nilFunc]:=by simpa[Value.cells]using x5
  refine eB (fun _=>by kernel_rfl) x5 (by simp) ar fun w6 x6 o6=>sK (bN (aq (by simp) ?_));have x6:blk w6 M.heap.size 238 [fv]:=x6;have O:Below M.heap.size M w6:=bG b5 o6 (Nat.le_refl _);have g6:=g4.fresh O;have aS:=g4.sz;refine az (by rw[C];exact h0) w6 _ g6.bel fun w7 K2 b7 al=>fM rfl ?_;have aa:Below M.heap.size M w7:=O.trans (b7.mono O.size);have y4:=ac b4 y2.drew y2.lt
  exact Sn (g6.fresh b7).lv (ac b7 x6 x6.lt) (ac aa y4 y4.lt) av (by omega) (by omega) hi hm hk I hh (fun K3 an=>ap w7 K3 aa an) al
end
section
variable {w:World}{K:KV}{q:LB}{s:PL}{e:EV}
theorem Gg (h:∀w',blk w' w.heap.size 151 [iv 0,u6 0]→Below w.heap.size w w'→w'.heap.size=w.heap.size+1→K (pB w.heap.size) w'):alc Tryz.prog 151 K w :=
 dZ (z:=.agg #[iv 0,u6 0]) (by kernel_rfl) fun C j b1 u=>h C (by simpa[Value.cells,iv,u6]using j) b1 u
theorem CN {o:Int}(u:blk w b 151 [iv 0,u6 0])(h:∀w',blk w' b 151 [iv o,u6 r]→Oth b w w'→K undef w'):sto Tryz.prog 151 (pB b) (.agg [iv o,u6 r].toArray) K w :=
 jP (n:=2) (by kernel_rfl) rfl u (by simp) (by simp[iv,u6,Value.oneCell']) fun I j C=>h I (by simpa using j) C
theorem Wc {S0:World→Prop}{T:Value→Value→(World→Prop)→World→Prop}(I:∀w',Below w.heap.size w w'→S0 w')(h:∀w' C bk,blk w' C 151 [iv 0,u6 0]→blk w' bk 151 [iv 0,u6 0]→C≠bk→w.heap.size≤C→w.heap.size≤bk→Below w.heap.size w w'→T (pB C) (pB bk) S0 w'):(alc Tryz.prog 151 (fun i=>aY S0 fun S=>alc Tryz.prog 151 fun k=>aY S fun S=>T i k S) w)∧(alc Tryz.prog 151 (fun k=>aY S0 fun S=>alc Tryz.prog 151 fun i=>aY S fun S=>T i k S) w):=by
 refine⟨Gg fun w1 u b1 O=>bR (I _ b1) (Gg fun M J b2 U=>?_),Gg fun w1 u b1 O=>bR (I _ b1) (Gg fun M J b2 U=>?_)⟩
 ·have j:=b1.trans (b2.mono (by omega));exact bR (I _ j) (h M _ _ (ac b2 u u.lt) J (by omega) (by omega) (by omega) j)
 ·have j:=b1.trans (b2.mono (by omega));exact bR (I _ j) (h M _ _ J (ac b2 u u.lt) (by omega) (by omega) (by omega) j)
theorem Ri {y:Nat}{A:List Int}{g:GR}(j:A.length=54)(J:blk w (z+1) 54 (evC e))(O:blk w y 126 (grC g))(hK:∀w',Below w.heap.size w w'→K (.tuple #[rgV (iH A e.o g.a).1,.int .i64 (iH A e.o g.a).2]) w'):call Tryz.prog 245 #[rgV A,pB (z+1),pB y] K w:=by
 have M:=IV (i:=e.o) (x:=g.a) j;refine aj (goK func245) (sX (IY fun w1 U b1 s1=>vB fun w2 t2 b2 s2=>?_));have h:=b1.trans (b2.mono (by omega));have u:=ac h J J.lt;have C:=ac h O O.lt;refine pT j (ac b2 U U.lt) (bD (lK (v:=iv e.o) u rfl (Ly (lK (v:=iv g.a) C rfl ?_))));refine TN j fun w3 I=>cZ (db (ud rfl M (ac I t2 t2.lt) fun w4 t4 o4=>?_))
 exact CJ (fun _=>pT M t4) (hK _ (bG (h.trans (I.mono h.size)) o4 (by omega)))
theorem Rj {x y v u:Nat}{gr:GR}(g:LV w z q e)(hx:blk w x 238 [Y5])(hy:blk w y 151 [iv e.o,u6 e.r])(hv:blk w v 126 (grC gr))(j:blk w u 151 [iv e.o,u6 e.f])(hq:∀k∈q.l,k<z)(ar:z≤x)(an:z≤y)(ag:z+2≤v)(af:z≤u)(hi:PI s)(hm:dK e=true)(M:e.k=4)(hg:iQ s.G e.o e.f=some gr)(hf:∀K2:KV,(∀C,PM C q {s with N:=s.N.map (dR (di s.N gr.n) (12+e.q) gr.a)}→Ch q.wv w C→K2 (.tuple #[]) C)→bY Tryz.prog Y5 #[] K2 w)(h:∀w',PM w' q (qx e s)→Ch (v::q.wv) w w'→K (.tuple #[]) w'):call Tryz.prog 247 #[pB x,pB z,pB y,pB (z+1),pB v,pB u] K w:=by
 have O:=gC hm;have hw:∀k∈q.wv,k<z:=fun k M=>hq k (LB.wl k M);have zn:∀b,z≤b→b∉q.wv:=fun b hb I=>by have:=hw b I;omega
 obtain⟨_,go,gq⟩:=sC hg;refine aj (goK func247) (Ar (lK (v:=Y5) hx rfl (hf _ fun w1 p1 J=>?_)));have g1:=(g.ch J fun k M=>.inl (hw k M)).drew;have y1:=(hy.ch J (zn _ an)).drew;have v1:=(hv.ch J (zn _ (by omega))).drew;have u1:=(j.ch J (zn _ af)).drew;have p1:=p1.drew
 refine aw (fun k=>LV k z q e∧blk k y 151 [iv e.o,u6 e.r]∧PM k q {s with N:=s.N.map (dR (di s.N gr.n) (12+e.q) gr.a)}) ⟨g1,y1,p1⟩ ?_;refine ab (fun u j _=>lK (v:=pB q.p) j.1.l rfl) (ab (fun u j _=>ai) (ab (fun u j _=>CZ) ?_));refine ab (fun u j _=>lK (v:=.map (some q.am)) j.2.2.b (by rw[Nat.zero_add];exact j.2.2.c28)) <|ab (fun u j _=>AJ j.2.1) ?_
 refine p1.ask_c O.1 O.2.1 hi.r6 fun w2 p2 o2=>?_;have aa:q.am<z:=hq _ (by simp[LB.l]);have ap:q.gm<z:=hq _ (by simp[LB.l]);have g2:=g1.oth o2 (.inl aa);have v2:=o2.blk v1 (by omega);have u2:=o2.blk u1 (by omega);refine ic (lK (v:=u6 e.r) g2.e rfl (GP (eB (fun _=>by kernel_rfl) v2 (by simp[grC]) rfl fun C U o3=>?_)));have U:blk C v 126 (grC {gr with b:=e.r}):=U
 have g3:=(g2.oth o3 (.inr ag)).drew;have uv:u≠v:=fun e=>absurd (uc u2 (e ▸ v2)) (by decide);have u3:=(o3.blk u2 uv).drew;have p3:=(p2.oth o3 fun I=>by have:=hq _ I;omega).drew;have U:=U.drew
 refine aw (fun k=>LV k z q e∧blk k u 151 [iv e.o,u6 e.f]∧blk k v 126 (grC {gr with b:=e.r})∧PM k q {s with N:=s.N.map (dR (di s.N gr.n) (12+e.q) gr.a),R:=s.R.set (e.o-1).toNat (s.R.getD (e.o-1).toNat []++[e.r])}) ⟨g3,u3,U,p3⟩ ?_;refine ab (fun u j _=>lK (v:=pB q.p) j.1.l rfl) (ab (fun u j _=>ai) (ab (fun u j _=>CY) ?_))
 refine ab (fun u j _=>lK (v:=.map (some q.gm)) j.2.2.2.b (by rw[Nat.zero_add];exact j.2.2.2.c27)) <|ab (fun u j _=>AJ j.2.1) <|ab (v:=grV {gr with b:=e.r}) (fun u j _=>ldA (n:=5) (vs:=grC {gr with b:=e.r}) underlying126 rfl (by kernel_rfl) j.2.2.1 rfl rfl) ?_;have ek:rqV (e.o,e.f)=rqV (({gr with b:=e.r}:GR).o,({gr with b:=e.r}:GR).q):=by show _=rqV (gr.o,gr.q);rw[go,gq]
 rw[ek];have ad:(s.G.map (nD e.o e.f e.r)).Pairwise ltG:=by
  rw[List.pairwise_map];refine hi.gs.imp fun {x y} al=>?_;unfold ltG at *;rw[(je x).1,(je x).2,(je y).1,(je y).2];exact al
 refine p3.gm_c (g:={gr with b:=e.r}) (G':=s.G.map (nD e.o e.f e.r)) hi.gs ad (fun o r=>?_) fun w4 p4 o4=>h w4 ?_ ?_
 ·show _=if (o,r)=(gr.o,gr.q)then _ else _
  rw[show (gr.o,gr.q)=(e.o,e.f)by rw[go,gq]];by_cases I:(o,r)=(e.o,e.f)
  ·rw[if_pos I];obtain⟨rfl,rfl⟩:=Prod.mk.inj I;rw[Rl,hg];rfl
  ·rw[if_neg I];refine Hd je fun y e1 e2=>?_;unfold nD;rw[if_neg fun h2=>I (by rw[←e1, ←e2,h2.1,h2.2])]
 ·rw[Tc M]
  have:gOf s e=gr:=by unfold gOf;rw[hg];rfl
  rw[this];exact p4
 ·have c2:Ch (v::q.wv) w w2:=((J.mono fun x hx=>List.mem_cons_of_mem _ hx).trans (Ch.of_below (Below.refl _ w1).drew:Ch [] w1 w1.drew) (by simp)).trans (Ch.of_oth o2 (by simp):Ch [q.am] w1.drew w2) (by simp[LB.wv])
  exact((c2.trans (Ch.of_oth o3 (by simp):Ch [v] w2 C) (by simp)).trans (Ch.of_below (Below.refl _ C).drew:Ch [] C C.drew) (by simp)).trans (Ch.of_oth o4 (by simp):Ch [q.gm] C.drew w4) (by simp[LB.wv])
theorem Tn (h:PM w q s)(hi:PI s)(hm:dK e=true)(hk:e.k=4)(kd:Kind w q s e K):call Tryz.prog 232 #[pB q.p,.agg (evC e).toArray] K w:=by
 obtain⟨no,a7⟩:=kd;obtain⟨a8,ho⟩:=qe hm;have ar:=gC hm;have aa:=h.lt;have I:eU e s=if jB s.R e.q e.r=true then 14 else match iQ s.G e.o e.f with|none=>12|some g=>if g.b≠0 then 12 else lf (fun A=>(iH A e.o g.a).2) s.N (di s.N g.n):=by unfold eU;rw[if_neg (by omega),if_neg (by omega),if_neg (by omega),if_pos hk];rfl
 refine aj (goK func232) (BU (LE.make fun w1 g1 s1=>?_));have g1:=g1.drew;have p1:=h.below g1.bel;refine aw (fun u=>LE w u q e∧PM u q s) ⟨g1,p1⟩ ?_;refine ab (fun u C _=>bD) (ab (fun u C _=>lK (v:=iv e.o) C.1.e rfl) ?_);refine ab (fun u C _=>ic) (ab (fun u C _=>lK (v:=u6 e.r) C.1.e rfl) ?_);refine ab (fun u C _=>eT (vs:=[iv e.o,u6 e.r]) (by kernel_rfl)) ?_
 refine ab (fun u C _=>bD) (ab (fun u C _=>lK (v:=iv e.o) C.1.e rfl) ?_);refine ab (fun u C _=>pZ) (ab (fun u C _=>lK (v:=u6 e.f) C.1.e rfl) ?_);refine ab (fun u C _=>eT (vs:=[iv e.o,u6 e.f]) (by kernel_rfl)) ?_;refine Wc (fun w' b=>⟨g1.fresh b,p1.below b⟩) fun w2 bi bk i2 k2 ap zi zk b2=>?_;have z2:w.heap.size+2≤w1.drew.heap.size:=g1.sz;have zi:w.heap.size+2≤bi:=Nat.le_trans z2 zi
 have zk:w.heap.size+2≤bk:=Nat.le_trans z2 zk;have g2:=g1.fresh b2;have p2:=p1.below b2;refine CN i2 fun w3 i3 o3=>?_;have g3:=g2.oth o3 zi;have p3:=p2.oth o3 fun hh=>by have:=aa _ hh;omega
 have k3:=o3.blk k2 (fun e=>ap e.symm);refine bR ⟨g3,p3⟩ (CN k3 fun w4 k4 o4=>?_);have i4:=(o4.blk i3 ap).drew;have k4:=k4.drew;have g4:=(g3.oth o4 zk).drew;have p4:=(p3.oth o4 fun hh=>by have:=aa _ hh;omega).drew;refine aH (fun _=>lK (v:=pB q.p) g4.l rfl) (aH (fun _=>ai) (aH (fun _=>CZ) ?_))
 refine aH (fun _=>lK (v:=.map (some q.am)) p4.b (by rw[Nat.zero_add];exact p4.c28)) (aH (fun _=>AJ i4) (aH (fun _=>p4.ask_l ar.1 ar.2.1) ?_));rw[show (e.o-1).toNat=e.q from rfl];cases ad:jB s.R e.q e.r with
 | true =>
  rw[ad,if_pos rfl]at I
  have:=no _ (by rw[I];decide) g4.bel
  rw[I]at this;exact bu this
 | false =>
 rw[ad,if_neg (by simp)]at I;have g5:=g4.drew;have p5:=p4.drew;have i5:=i4.drew;have k5:=k4.drew;refine aO (aw (fun u=>LE w u q e∧PM u q s∧blk u bk 151 [iv e.o,u6 e.f]) ⟨g5,p5,k5⟩ ?_);refine ab (fun u C _=>lK (v:=pB q.p) C.1.l rfl) (ab (fun u C _=>ai) (ab (fun u C _=>CY) ?_));refine ab (fun u C _=>lK (v:=.map (some q.gm)) C.2.1.b (by rw[Nat.zero_add];exact C.2.1.c27)) ?_
 refine ab (fun u C _=>AJ C.2.2) (ab (fun u C _=>C.2.1.gr_l hi) (ab (fun u C _=>cZ) (ab (fun u C _=>db) ?_)));generalize U:(iQ s.G e.o e.f).getD ⟨0,0,0,0,0⟩=gr;refine dZ (z:=grV ⟨0,0,0,0,0⟩) (by kernel_rfl) fun w6 v6 b6 s6=>?_;have v6:blk w6 w4.drew.drew.heap.size 126 (grC ⟨0,0,0,0,0⟩):=by simpa[Value.cells,grV]using v6
 have g6:=g5.fresh b6;have p6:=p5.below b6;have i6:=ac b6 i5 i5.lt;have k6:=ac b6 k5 k5.lt;have z6:w.heap.size+2≤w4.drew.drew.heap.size:=g5.sz;refine bR ⟨g6,p6,k6⟩ (jP (n:=5) (vs:=grC gr) (by kernel_rfl) rfl v6 (by simp[grC]) (rJ _) fun w7 v7 o7=>?_);generalize hv:w4.drew.drew.heap.size=v at *;have v7:blk w7 v 126 (grC gr):=v7;have g7:=g6.oth o7 z6
 have p7:=p6.oth o7 fun hh=>by have:=aa _ hh;omega
 have a3:bi≠v:=fun e=>absurd (uc i6 (e ▸ v6)) (by decide);have a4:bk≠v:=fun e=>absurd (uc k6 (e ▸ v6)) (by decide);have i7:=o7.blk i6 a3;have k7:=o7.blk k6 a4;refine bR ⟨g7,p7,k7⟩ (As (dB ?_));cases hq:iQ s.G e.o e.f with
 | none =>
  rw[hq]at I;have I:eU e s=12:=I;refine fV (bX (bu ?_))
  have:=no _ (by rw[I];decide) g7.bel
  rwa[I]at this
 | some g0 =>
 rw[hq]at I U;have U:g0=gr:=U;subst U;simp only at I;refine lR (GP (lK (v:=u6 g0.b) v7 rfl (bN (dA ?_))));by_cases hb:g0.b≠0
 ·refine ax hb ?_;rw[if_pos hb]at I
  have:=no _ (by rw[I];decide) g7.bel
  rwa[I]at this
 rw[if_neg hb]at I;refine aq hb (lK (v:=pB q.p) g7.l rfl (Lx (lK (v:=u6 g0.n) v7 rfl ?_)));refine Mm (f:=fun A=>iH A e.o g0.a) (c:=12+e.q) (x:=g0.a) p7 hi (fun A hA=>IV hA) (fun A hA=>LH hA) (fun A hA w8 M K' az => fM rfl (Ri hA (g7.fresh M).e (ac M v7 v7.lt) az)) (fun w8 av M=>?_) fun h0 w8 fv a2 M a0=>?_
 ·have g8:=g7.fresh M;refine cZ (db (dZ (z:=.nilFunc) (by kernel_rfl) fun w9 x9 b9 s9=>?_));have x9:blk w9 w8.heap.size 238 [.nilFunc]:=by simpa[Value.cells]using x9
  refine eB (fun _=>by kernel_rfl) x9 (by simp) rfl fun w10 J al=>bN (ax av ?_)
  have:=no w10 (by rw[I];exact av) (bG (g8.fresh b9).bel al (by have:=g8.sz;omega))
  rwa[I]at this
 ·have g8:=g7.fresh M;refine cZ (db (dZ (z:=.nilFunc) (by kernel_rfl) fun w9 x9 b9 s9=>?_));have x9:blk w9 w8.heap.size 238 [.nilFunc]:=by simpa[Value.cells]using x9
  refine eB (fun _=>by kernel_rfl) x9 (by simp) a2 fun w10 J al=>bN (aq (by simp) ?_);have J:blk w10 w8.heap.size 238 [fv]:=J;have ag:Below w8.heap.size w8 w10:=bG b9 al (Nat.le_refl _);have an:=g8.fresh ag;have a9:=g8.sz;refine a7 (by rw[I];exact h0) w10 _ an.bel ⟨[v],by simp;omega,fun w11 K2 af aE=>fM rfl ?_⟩;have O:Below w8.heap.size w8 w11:=ag.trans (af.mono ag.size)
  have i8:=ac M i7 i7.lt;have k8:=ac M k7 k7.lt;have v8:=ac M v7 v7.lt;exact Rj (an.fresh af).lv (ac af J J.lt) (ac O i8 i8.lt) (ac O v8 v8.lt) (ac O k8 k8.lt) aa (by omega) (by omega) z6 (by omega) hi hm hk hq (fun K3 aS=>a0 w11 K3 O aS) aE
end
theorem DoesB.mono {q:LB}{j:PL}(h:DoesB B w' q j Y5)(I:b≤B):DoesB b w' q j Y5:=by
 obtain⟨X,u,C⟩:=h;exact⟨X,fun k J=>Nat.le_trans I (u k J),C⟩
section
variable {w:World}{K:KV}{q:LB}{s:PL}{e:EV}
theorem Ck (h:K (.bool false) w):bin Tryz.prog .eql 79 cx cy (pB b) (.pointer none) K w :=
 jm (by unfold eqG eqGuard;rfl) (by kernel_rfl) h
theorem PM.cutV (h:PM w q s):((plC q s).drop 12).take 6=vCs s.V:=by
 unfold plC;rw[show (12:Nat)=(s.I.map Value.bool++s.L.map Value.bool).length by simp[h.i6,h.l6], ←List.append_assoc,List.drop_left',List.take_append_of_le_length (by rw[bQ,h.v6];omega),List.take_of_length_le (by rw[bQ,h.v6];omega)];rfl
theorem PM.ldV (h:PM w q s)(j:K (.agg (vCs s.V).toArray) w):ld Tryz.prog 35 (.pointer (some ⟨q.p,0+12,none⟩)) K w :=
 ldA (n:=6) (vs:=vCs s.V) underlying35 rfl (by kernel_rfl) h.b h.cutV (by rw[bQ,h.v6]) j
theorem Mt (h:PM w q s)(hi:PI s)(no:∀w',np e s≠0→Below w.heap.size w w'→K (.tuple #[.nilFunc,.int .i64 (np e s)]) w')(aS:np e s=0→∀w' fv,Below w.heap.size w w'→DoesB w.heap.size w' q (qx e s) fv→K (.tuple #[fv,.int .i64 0]) w'):call Tryz.prog 140 #[pB q.p,.agg (evC e).toArray] K w:=by
 have M:np e s=if dK e=false then 1 else if nH s.V e=true then 14 else if ey s.V e=false then 13 else if s.I.getD e.q false=false∨s.L.getD e.q false=true then 10 else eU e s:=rfl
 refine aj (goK func140) (BT (xj fun w1 e1 b1 s1=>Ck (aO (gB e1 (CH fun w2 b2=>dB ?_)))));have O:=b1.trans (b2.mono b1.size);have e2:=ac b2 e1 e1.lt;have p2:=h.below O;cases hm:dK e with
 | false =>
  rw[hm,if_pos rfl]at M
  have:=no _ (by rw[M];decide) O
  rw[M]at this;exact bu this
 | true =>
 rw[hm,if_neg (by simp)]at M;obtain⟨am,ho⟩:=qe hm;have a2:=gC hm;have p2:=p2.drew;have e2:=e2.drew;have O:=O.drew;refine aO (aw (fun u=>PM u q s∧blk u w.heap.size 54 (evC e)) ⟨p2,e2⟩ ?_);refine ab (fun u J _=>ai) (ab (fun u J _=>wD) (ab (fun u J _=>J.1.ldV) (ab (fun u J _=>gB J.2) ?_)));refine Gb h.v6 fun w3 b3=>aw (fun _=>True) trivial ?_;have aa:=O.trans (b3.mono O.size)
 have e3:=ac b3 e2 e2.lt;have p3:=p2.below b3;cases hL:nH s.V e with
 | true =>
  rw[hL,if_pos rfl]at M
  have:=no _ (by rw[M];decide) aa
  rw[M]at this;exact bu this
 | false =>
 rw[hL,if_neg (by simp)]at M;have p3:=p3.drew;have e3:=e3.drew;have aa:=aa.drew;refine aO (aw (fun u=>PM u q s∧blk u w.heap.size 54 (evC e)) ⟨p3,e3⟩ ?_);refine ab (fun u J _=>ai) (ab (fun u J _=>wD) (ab (fun u J _=>J.1.ldV) (ab (fun u J _=>gB J.2) ?_)));refine HF h.v6 (fun k hk=>(hi.vb k hk).1) fun w4 b4=>aw (fun _=>True) trivial (ab (fun u J _=>dB) ?_)
 have C:=aa.trans (b4.mono aa.size);have e4:=ac b4 e3 e3.lt;have U:=p3.below b4;refine Am ?_;cases hr:ey s.V e with
 | false =>
  rw[hr,if_pos rfl]at M
  have:=no _ (by rw[M];decide) C
  rw[M]at this;exact bu this
 | true =>
 rw[hr,if_neg (by simp)]at M;have U:=U.drew;have e4:=e4.drew;have C:=C.drew;refine aO (aH (fun _=>bD) (aH (fun _=>lK (v:=iv e.o) e4 rfl) ?_));refine aH (v:=iv (e.q:Nat)) (fun K j=>bh (by omega) (by omega) (by rw[show e.o-1=(e.q:Nat)by omega];exact j)) ?_;refine aH (fun _=>ai) (aH (fun _=>zO) (aH (fun _=>JK rfl am) ?_))
 refine aH (fun _=>lK (v:=.bool (s.I.getD e.q false)) U.b (by rw[Nat.zero_add];exact U.cI am)) (aH (fun _=>dB) (Ao ?_));cases hI:s.I.getD e.q false with
 | false =>
  rw[hI,if_pos (.inl rfl)]at M
  have:=no _ (by rw[M];decide) C
  rw[M]at this;exact bu (sJ (bu this))
 | true =>
 have U:=U.drew;have e4:=e4.drew;have C:=C.drew;refine aO (aH (fun _=>bD) (aH (fun _=>lK (v:=iv e.o) e4 rfl) ?_));refine aH (v:=iv (e.q:Nat)) (fun K j=>bh (by omega) (by omega) (by rw[show e.o-1=(e.q:Nat)by omega];exact j)) ?_;refine aH (fun _=>ai) (aH (fun _=>GQ) (aH (fun _=>JK rfl am) ?_))
 refine aH (fun _=>lK (v:=.bool (s.L.getD e.q false)) U.b (by rw[Nat.zero_add];exact U.cL am)) (sJ ?_);cases an:s.L.getD e.q false with
 | true =>
  rw[hI,an,if_pos (.inr rfl)]at M
  have:=no _ (by rw[M];decide) C
  rw[M]at this;exact bu this
 | false =>
 rw[hI,an,if_neg (by simp)]at M;have U:=U.drew;have e4:=e4.drew;have C:=C.drew;refine aO (Ap (aw (fun u=>PM u q s∧blk u w.heap.size 54 (evC e)) ⟨U,e4⟩ ?_));refine ab (fun u J _=>ns) (ab (fun u J _=>lK (v:=kv8 e.k) J.2 rfl) ?_)
 have af:∀(fv:Value) (f:FuncId),fv=.func (.func f) #[] #[]→kindsV[e.k.toNat]? = some fv→0≤e.k→call Tryz.prog f #[pB q.p,.agg (evC e).toArray] (fun ad w=>aG (fun S w=>hld S (ext Tryz.prog ad 0) fun ag=>hld S (ext Tryz.prog ad 1) fun al=>K (.tuple #[ag,al]) w) w) _ →
   hld (fun u=>PM u q s∧blk u w.heap.size 54 (evC e)) (aV Tryz.prog 265 (.pointer (some ⟨0,0,none⟩)) (.int .u8 e.k)) fun av=>hld (fun u=>PM u q s∧blk u w.heap.size 54 (evC e)) (ld Tryz.prog 264 av) fun az=>hld (fun u=>PM u q s∧blk u w.heap.size 54 (evC e)) (ld Tryz.prog 54 (pB w.heap.size)) fun aE=>bY Tryz.prog az #[pB q.p,aE] (fun ad w=>aG (fun S w=>hld S (ext Tryz.prog ad 0) fun ag=>hld S (ext Tryz.prog ad 1) fun al=>K (.tuple #[ag,al]) w) w) w4.drew.drew.drew:=fun fv f ap hk h0 hc=>by
  have a0:e.k.toNat<8:=(List.getElem?_eq_some_iff.1 hk).1;refine ab (v:=.pointer (some ⟨0,e.k.toNat,none⟩)) (fun u J K j=>eO underlying265 (s:=1) (fun _=>by kernel_rfl) h0 (by omega) (by rw[Nat.mul_one,Nat.zero_add];exact j)) ?_;refine ab (v:=fv) (fun u J K j=>by
   obtain⟨E,fr,h0⟩:=J.1.kd;refine FV (fun _=>by kernel_rfl) ?_ j;unfold World.cell?;rw[h0];simpa using hk) (ab (fun u J _=>gB J.2) ?_)
  subst ap;exact fM rfl hc
 have kd:Kind w4.drew.drew.drew q s e (fun ad w=>aG (fun S w=>hld S (ext Tryz.prog ad 0) fun ag=>hld S (ext Tryz.prog ad 1) fun al=>K (.tuple #[ag,al]) w) w):=by
  refine⟨fun w5 ar b5=>aw (fun _=>True) trivial (ab (fun u J _=>cZ) (ab (fun u J _=>db) ?_)),fun h0 w5 fv b5 hd=>aw (fun _=>True) trivial (ab (fun u J _=>cZ) (ab (fun u J _=>db) ?_))⟩
  ·have:=no w5 (by rw[M];exact ar) (C.trans (b5.mono C.size))
   rwa[M]at this
  ·exact aS (by rw[M];exact h0) w5 fv (C.trans (b5.mono C.size)) (hd.mono C.size)
 have hn:=hi.new hm hr;rcases qC hm with⟨k,_⟩|⟨k,_⟩|⟨k,_⟩|⟨k,_⟩|⟨k,_⟩|⟨k,_⟩|k
 ·exact af _ _ rfl (by rw[k];rfl) (by omega) (TA U hi hm k hn kd)
 ·exact af _ _ rfl (by rw[k];rfl) (by omega) (Sg U hi hm k kd)
 ·exact af _ _ rfl (by rw[k];rfl) (by omega) (Uj U hi hm k kd)
 ·exact af _ _ rfl (by rw[k];rfl) (by omega) (Tn U hi hm k kd)
 ·exact af _ _ rfl (by rw[k];rfl) (by omega) (Se U hi hm k kd)
 ·exact af _ _ rfl (by rw[k];rfl) (by omega) (Tv U hm k kd)
 ·exact af _ _ rfl (by rw[k];rfl) (by omega) (RA U hm k kd)
theorem Mn (h:PM w q s)(hi:PI s)(j:∀w',PM w' q (jL e s)→Ch q.wv w w'→K (.int .i64 (np e s)) w'):call Tryz.prog 96 #[pB q.p,.agg (evC e).toArray] K w:=by
 have al:=h.lt;refine aj (goK func96) (BO (xj fun w1 O b1 s1=>gB O ?_));have p1:=h.below b1;refine Mt p1 hi (fun w2 aa b2=>cZ (db (bN (ax aa ?_)))) fun h0 w2 fv b2 hd=>cZ (db (bN (aq (by simp) ?_)))
 ·have C:=b1.trans (b2.mono (by omega));refine j w2 ?_ (Ch.of_below C);unfold jL;rw[if_neg aa];exact h.below C
 ·obtain⟨X,hX,af⟩:=hd;have am:=(vc hi).1 h0;have hm:=am.may;obtain⟨u,ho⟩:=qe hm;have ar:=gC hm;refine af w2 _ (Below.refl _ w2) fun w3 I c3=>?_;have e2:=ac b2 O O.lt;have e3:=(e2.ch c3 fun U=>by
   rcases List.mem_append.1 U with U|U
   ·have:=hX _ U;omega
   ·have:=al _ (LB.wl _ U);omega).drew
  have I:=I.drew;have C:=b1.trans (b2.mono (by omega));have ad:Ch q.wv w w3.drew:=((Ch.of_below C:Ch q.wv w w2).trans c3 (fun k hk=>by
   rcases List.mem_append.1 hk with hk|hk
   ·right;have:=hX _ hk;omega
   ·exact .inl hk)).trans (Ch.of_below (Below.refl _ w3).drew:Ch [] w3 w3.drew) (by simp)
  refine aH (fun _=>bD) (aH (fun _=>lK (v:=iv e.o) e3 rfl) ?_);refine aH (v:=iv (e.q:Nat)) (fun K j=>bh (by omega) (by omega) (by rw[show e.o-1=(e.q:Nat)by omega];exact j)) ?_;refine aH (fun _=>ai) (aH (fun _=>wD) (aH (fun _=>ixV rfl u) ?_));have an:=hi.vb _ u
  refine aH (fun _=>lK (v:=u6 (s.V.getD e.q 0)) I.b (by rw[show 0+12+e.q=12+e.q by omega];exact I.cV u)) <|aH (v:=u6 (s.V.getD e.q 0+1)) (fun K j=>jS (by rw[gF,show (s.V.getD e.q 0+1)%18446744073709551616=s.V.getD e.q 0+1 by simp only[M40]at an;omega];exact j)) ?_;refine aH (fun _=>ai) (aH (fun _=>wD) (aH (fun _=>ixV rfl u) ?_))
  refine eB (fun _=>by kernel_rfl) I.b (by rw[I.len];omega) rfl fun w4 b4 M=>?_;rw[show 0+12+e.q=12+e.q by omega,I.sV u]at b4;rw[h0]at j;refine j w4 ?_ (ad.trans (Ch.of_oth M (by simp):Ch [q.p] w3.drew w4) (by simp[LB.wv]));have ea:jL e s={qx e s with V:=s.V.set e.q (s.V.getD e.q 0+1)}:=by unfold jL;rw[if_pos h0];rfl
  rw[ea];have J:=I.nd;obtain⟨i6,l6,v6,b,tm,⟨m1,x1,O⟩,⟨m2,x2,e2⟩,⟨m3,x3,e3⟩,⟨m4,x4,e4⟩,_,ag⟩:=I;exact⟨i6,l6,by show (s.V.set _ _).length=6;rw[List.length_set];exact h.v6,b4,tm.oth M (LN.tp J) (LN.dp J),⟨m1,x1.oth M (LN.mp J),O⟩,⟨m2,x2.oth M (LN.rp J),e2⟩,⟨m3,x3.oth M (LN.gp J),e3⟩,⟨m4,x4.oth M (LN.ap J),e4⟩,J,ag.keep (M.other 0 (LN.zp J))⟩
theorem AB (h:PM w q s)(j:∀w',Below w.heap.size w w'→K (.agg (vCs s.V).toArray) w'):call Tryz.prog 79 #[pB q.p] K w:=by
 refine aj (goK func79) (BQ (AN fun M C b1 J=>Ck (aO (ai (wD ?_)))));refine(h.below b1).ldV (yb rfl h.v6 C fun O I u=>?_);exact vD (v:=.agg (vCs s.V).toArray) (fun _=>pe h.v6 I) (j _ (bv b1 u (Nat.le_refl _)))
theorem xA {i node:Int}(h:PM w q s)(hi:PI s)(j:∀w',Below w.heap.size w w'→K (.int .i64 (if bK i=true then JA (aN s.N node) (i-1).toNat else 0)) w'):call Tryz.prog 32 #[pB q.p,iv i,u6 node] K w:=by
 refine aj (goK func32) (wM (Ck (aO (ai (kz (lK (v:=.map (some q.rm)) h.b (by rw[Nat.zero_add];exact h.c20) ?_))))));exact h.rg_l hi (MF (FJ hi node) j)
end
def evV (e:EV):Value:=.agg (evC e).toArray
abbrev evZ :EV:=⟨0,0,0,0,0,0,0,0,0,0,0,0,0,0⟩
theorem hkK :zH Tryz.prog 215 rqV:=by
 refine Lj _ underlying215 (fun x=>⟨_,rfl⟩) (fun x y h=>?_) (fun w M x=>by kernel_rfl) (fun w x y=>⟨decide (x=y),?_,?_⟩) (fun x=>?_)
 ·simp only[rqV,Value.agg.injEq]at h;simp at h;exact Prod.ext h.1 h.2
 ·have C:Tryz.prog.underlying 215=some (.struct (Tryz.prog.fieldsOf 215)):=by kernel_rfl
  have I:Tryz.prog.stoodInHeld 215=false:=by kernel_rfl
  have O:=underlying3;have U:=underlying31;have a1:=Tryz.isAgg3;have J:=Tryz.isAgg31;have z1:=Tryz.sizeOf3;have z2:=Tryz.sizeOf31;simp only[rqV];show (Op.equalIn (9999+1) _ _ _).run _ w=_;rw[run_equalIn_agg w 9999 215 _ _ C I];simp only[Program.fieldsOf,underlying215]
  go_simp
  by_cases j:x.1=y.1<;>by_cases u:x.2=y.2<;>simp[j,u,Prod.ext_iff]
 ·simp[rqV];constructor
  ·rintro rfl;exact⟨rfl,rfl⟩
  ·rintro⟨j,u⟩;exact Prod.ext j u
 ·unfold Instr.sameBits;simp[rqV];constructor<;>(unfold Instr.sameBits;simp)
structure HoM (w:World) (p m:Nat) (W:HM):Prop where
 b:blk w p 142 [.map (some m)]
 mb:MB rqV evV w m W
section
variable {w w':World}{p m:Nat}{W:HM}
theorem HoM.ne (h:HoM w p m W):p≠m:=fun e=>by
 obtain⟨es,c,j⟩:=h.mb
 have:=h.b
 unfold blk at this;rw[e,j.heap]at this;cases this
theorem HoM.lt (h:HoM w p m W):p<w.heap.size∧m<w.heap.size:=⟨h.b.lt,h.mb.lt⟩
theorem HoM.below (h:HoM w p m W)(j:Below w.heap.size w w'):HoM w' p m W:=⟨ac j h.b h.b.lt,h.mb.below j⟩
theorem HoM.ch (h:HoM w p m W)(j:Ch F w w')(u:p∉F)(C:m∉F):HoM w' p m W:=⟨h.b.ch j u,h.mb.ch j C⟩
end
theorem uM (h:K (.pointer (some ⟨b,o+0,none⟩)) w):aT Tryz.prog 142 (.pointer (some ⟨b,o,none⟩)) 0 K w:=aK (by kernel_rfl) h
section
variable {w:World}{K:KV}{p m:Nat}{W:HM}{V:List Int}{e:EV}
theorem Sy {q:Nat}{b:Bool}(u:blk w q 54 (evC e))(h:K (.tuple #[evV e,.bool b]) w):bp Tryz.prog [(some 54,.pointer (some ⟨q,0,none⟩)),(none,.bool b)] K w :=
 CJ (v:=evV e) (fun _ j=>gB u j) h
theorem Jv (h:K (.bool false) w):bin Tryz.prog .eql 84 cx cy (pB b) (.pointer none) K w :=
 jm (by unfold eqG eqGuard;rfl) (by kernel_rfl) h
theorem UZ {t k e:TypeId}{b:Nat}{κ ν:Type}{kv:κ→Value}{vv:ν→Value}{m:List (κ×ν)}(ht:Tryz.prog.underlying t=some (.map k e))(hm:MB kv vv w b m)(h:K (.int .i64 (m.length:Int)) w):lN t (.map (some b)) K w:=RC ht hm h
theorem lj {e e':EV}(u:blk w b 54 (evC e))(h:∀w',blk w' b 54 (evC e')→Oth b w w'→K undef w'):sto Tryz.prog 54 (.pointer (some ⟨b,0,none⟩)) (evV e') K w :=
 jP (n:=14) (vs:=evC e') (by kernel_rfl) rfl u (by show 0+14≤14;omega) (qy _) fun w' j o=>h w' j o
theorem nG (h:∀w',blk w' w.heap.size 54 (evC evZ)→Below w.heap.size w w'→w'.heap.size=w.heap.size+1→K (.pointer (some ⟨w.heap.size,0,none⟩)) w'):alc Tryz.prog 54 K w :=
 dZ (z:=evV evZ) (by kernel_rfl) fun w' j b s=>h w' (by simpa[Value.cells,evV]using j) b s
theorem SG {x:Int×Int}{F:Value→KV}(h:∀w',blk w' w.heap.size 215 [iv x.1,u6 x.2]→Below w.heap.size w w'→w'.heap.size=w.heap.size+1→F (rqV x) (pB w.heap.size) w'):bld Tryz.prog 215 #[(0,iv x.1),(1,u6 x.2)] (fun v=>alc Tryz.prog 215 fun k=>sto Tryz.prog 215 k v fun _=>F v k) w:=by
 refine eT (vs:=[iv x.1,u6 x.2]) (by kernel_rfl) (dZ (z:=.agg #[iv 0,u6 0]) (by kernel_rfl) fun M u b1 I=>?_);refine jP (n:=2) (vs:=[iv x.1,u6 x.2]) (by kernel_rfl) rfl (by simpa[Value.cells]using u) (by show 0+2≤2;omega) (by simp[u6,iv,Value.oneCell']) fun J C j=>?_;exact h J C (bv b1 j (Nat.le_refl _)) (by rw[j.size,I])
theorem OD {x:Int×Int}(j:blk w b 215 [iv x.1,u6 x.2])(h:K (rqV x) w):ld Tryz.prog 215 (.pointer (some ⟨b,0,none⟩)) K w :=
 ldA (n:=2) (vs:=[iv x.1,u6 x.2]) underlying215 rfl (by kernel_rfl) j rfl rfl h
theorem Pq (w:World):(zeroValue 54).run Tryz.prog w=.ok (evV evZ) w:=by kernel_rfl
theorem UU (h:HoM w p m W)(hV:V.length=6)(hW:W.length≤1000)(j:∀w' (f:Int),HoM w' p m (AD V W e)→Ch [m] w w'→K (.int .i64 f) w'):call Tryz.prog 78 #[pB p,.agg (vCs V).toArray,evV e] K w:=by
 have no:∀{w':World} (f:Int),¬(dK e=true∧nH V e=false∧dP W (mW e)=none∧W.length<64)→Below w.heap.size w w'→K (.int .i64 f) w':=fun f hn hb=>j _ f (by unfold AD;rw[if_neg hn];exact h.below hb) (Ch.of_below hb);refine aj (goK func78) (Hh ?_);refine uA hV fun w1 v1 b1 s1=>xj fun w2 e2 b2 s2=>Jv (aO ?_);have v2:=ac b2 v1 v1.lt;refine bD (lK (v:=iv e.o) e2 rfl (iZ (lK (v:=u6 e.s) e2 rfl ?_)))
 refine SG (x:=mW e) fun w3 k3 b3 s3=>?_;have I:=(b1.trans (b2.mono (by omega))).trans (b3.mono (by omega));have v3:=ac b3 v2 v2.lt;have e3:=ac b3 e2 e2.lt;have h3:=h.below I;have hl:=h.lt;refine aw (fun x=>HoM x p m W∧blk x w2.heap.size 215 [iv (mW e).1,u6 (mW e).2]) ⟨h3.below (Below.refl _ w3).drew,k3.drew⟩ ?_
 refine ab (fun x d _ j=>ai j) (ab (fun x d _ j=>uM j) (ab (fun x d _ j=>lK (v:=.map (some m)) d.1.b rfl j) ?_));refine ab (fun x d _ j=>OD d.2 j) (ab (v:=.tuple #[evV ((dP W (mW e)).getD evZ),.bool (dP W (mW e)).isSome]) (fun x d _ j=>BB hkK underlying140 Pq d.1.mb j) ?_);refine ab (fun x d _ j=>cZ j) (ab (fun x d _ j=>db j) ?_);refine nG fun w4 t4 b4 s4=>?_
 have hd:w3.drew.heap.size=w3.heap.size:=rfl;have J:Below w.heap.size w w4:=I.drew.trans (b4.mono (by rw[hd];omega));have h4:=h.below J;have k4:=ac b4 k3.drew k3.drew.lt;have e4:=ac b4 e3.drew e3.drew.lt;have v4:=ac b4 v3.drew v3.drew.lt;refine bR ⟨h4,k4⟩ (lj t4 fun w5 t5 U=>?_);have M:Below w.heap.size w w5:=bv J U (by omega);have h5:=h.below M;have k5:=U.blk k4 (by omega)
 have e5:=U.blk e4 (by omega);have v5:=U.blk v4 (by omega);have s5:=U.size;refine bR ⟨h5,k5⟩ ?_;refine EJ (gB e5 (CH fun w6 O=>dB ?_));have C:=M.trans (O.mono (by omega));have v6:=ac O v5 v5.lt;have e6:=ac O e5 e5.lt;have k6:=ac O k5 k5.lt;have h6:=h.below C;cases hm:dK e with
 | false=>exact bu (no 1 (by rw[hm];simp) C)
 | true =>
 refine aO (pe hV v6 (gB e6 (Gb hV fun w7 b7=>?_)));have s6:=O.size;have u:=C.trans (b7.mono C.size);have e7:=ac b7 e6 e6.lt;have k7:=ac b7 k6 k6.lt;have h7:=h.below u;refine EK ?_;cases hl:nH V e with
 | true=>exact bu (xp (bu (no 14 (by rw[hl];simp) u)))
 | false =>
 refine aO (xp ?_);cases hg:dP W (mW e)with
 | some f=>exact bu (no 14 (by rw[hg];simp) u)
 | none =>
 refine aO (ai (uM (lK (v:=.map (some m)) h7.b rfl (UZ underlying140 h7.mb (bM ?_)))));by_cases hf:(64:Int)≤(W.length:Nat)
 ·exact ax hf (no 7 (by omega) u)
 refine aq hf (EL ?_);refine aw (fun x=>HoM x p m W∧blk x w2.heap.size 215 [iv (mW e).1,u6 (mW e).2]∧blk x w1.heap.size 54 (evC e)) ⟨h7.below (Below.refl _ w7).drew,k7.drew,e7.drew⟩ ?_;refine ab (fun x d _ j=>ai j) (ab (fun x d _ j=>uM j) (ab (fun x d _ j=>lK (v:=.map (some m)) d.1.b rfl j) ?_));refine ab (fun x d _ j=>OD d.2.1 j) (ab (v:=evV e) (fun x d _ j=>gB d.2.2 j) ?_)
 have h8:=h7.below (Below.refl _ w7).drew;refine rL (v:=e) hkK underlying140 h8.mb fun w8 m8 o8=>?_;refine j w8 0 ?_ ((Ch.of_below u.drew:Ch [m] w w7.drew).trans (Ch.of_oth o8 (by simp):Ch [m] w7.drew w8) (by simp));unfold AD;rw[if_pos ⟨hm,hl,hg,by omega⟩, ←uS hg];exact⟨o8.blk h8.b h.ne,m8⟩
theorem UT (j:∀w',HoM w' (w.heap.size+1) w.heap.size []→Below w.heap.size w w'→w'.heap.size=w.heap.size+2→K (pB (w.heap.size+1)) w'):call Tryz.prog 22 #[] K w:=by
 refine aj (goK func22) (Nc (qZ underlying140 rfl rqV evV fun M u b1 C=>eT (vs:=[.map (some w.heap.size)]) (by kernel_rfl) (cv fun I h b2 J=>?_)));rw[C]at h ⊢;exact j I ⟨by simpa[Value.cells]using h,u.below b2⟩ (b1.trans (b2.mono (by omega))) (by omega)
end
theorem Mi {V:List Int}{W:HM}(I:k<6)(h:∀f,dP W ((k:Int)+1,V.getD k 0+1)=some f→ey V f=false):eH V W (6-k)=eH V W (6-(k+1)):=by
 obtain⟨j,C⟩:∃j,6-k=j+1:=⟨5-k,by omega⟩
 rw[C,show 6-(k+1)=j by omega];show (match dP W (((5-j:Nat):Int)+1,V.getD (5-j) 0+1)with|some e=>if ey V e=true then some e else eH V W j|none=>eH V W j)=_;rw[show 5-j=k by omega];cases u:dP W ((k:Int)+1,V.getD k 0+1)with
 | none=>rfl
 | some f=>show (if _ then _ else _)=_;rw[if_neg (by rw[h f u];simp)]
theorem RQ {V:List Int}{W:HM}{f:EV}(I:k<6)(u:dP W ((k:Int)+1,V.getD k 0+1)=some f)(h:ey V f=true):eH V W (6-k)=some f:=by
 obtain⟨j,C⟩:∃j,6-k=j+1:=⟨5-k,by omega⟩
 rw[C];show (match dP W (((5-j:Nat):Int)+1,V.getD (5-j) 0+1)with|some e=>if ey V e=true then some e else eH V W j|none=>eH V W j)=_;rw[show 5-j=k by omega,u];show (if _ then _ else _)=_;rw[if_pos h]
section
variable {w:World}{K:KV}{p m:Nat}{W:HM}{V:List Int}{e:EV}
theorem Tp (h:HoM w p m W)(hV:V.length=6)(hv:∀k,k<6→0≤V.getD k 0∧V.getD k 0<M40)(az:∀x∈W,x.1=mW x.2)(a2:∀x∈W,nH V x.2=false)(no:eH V W 6=none→∀w',Below w.heap.size w w'→K (.tuple #[evV evZ,.bool false]) w')(b0:∀e,eH V W 6=some e→∀w',HoM w' p m (sM W (mW e))→Ch [m] w w'→K (.tuple #[evV e,.bool true]) w'):call Tryz.prog 80 #[pB p,.agg (vCs V).toArray] K w:=by
 have hl:=h.lt;have bg:=h.ne;refine aj (goK func80) (Gk ?_);refine uA hV fun w1 v1 b1 s1=>nG fun w2 t2 b2 s2=>Jv (aO (ai (uM ?_)));have v2:=ac b2 v1 v1.lt;have am:=b1.trans (b2.mono (by omega));have h2:=h.below am;refine lK (v:=.map (some m)) h2.b rfl (Fx underlying140 h2.mb fun w3 a4 b3 s3=>?_);generalize hr:w2.heap.size=r at a4 s3
 refine Eb (Inv:=fun wr=>∃D,IT rqV evV wr r m W D∧blk wr w.heap.size 35 (vCs V)∧blk wr w1.heap.size 54 (evC evZ)∧Below w.heap.size w wr∧r+1≤wr.heap.size) (μ:=fun wr=>lC wr m r)
  ⟨[],a4,ac b3 v2 v2.lt,ac b3 t2 t2.lt,am.trans (b3.mono (by omega)),by omega⟩ ?_
 rintro dd w4 mu ⟨D,bk,v4,t4,av,z4⟩ bd;refine Fl bk (by omega) (fun _=>?_) fun x f w5 aS b8 a7 a9 o5 b4=>?_
 ·refine sv rfl (aO (Ed (pe hV v4 ?_)));refine Ec (Inv:=fun i _ _ _ wr=>∃k:Nat,i=iv (k:Nat)∧k≤6∧eH V W 6=eH V W (6-k)∧blk wr w.heap.size 35 (vCs V)∧blk wr w1.heap.size 54 (evC evZ)∧Below w.heap.size w wr∧r+1≤wr.heap.size) (μ:=fun i _ _ _ _=>6-(intOf i).toNat)
   ⟨0,rfl,by omega,rfl,v4,t4,av,z4⟩ ?_
  rintro _ _ _ _ dd w5 mu2 ⟨k,rfl,hk,hn,v5,t5,u,z5⟩ a0;refine aM ?_;by_cases M:k<6
  ·refine ax (by omega) (Lc underlying35 (fun _=>by kernel_rfl) (fun _=>by kernel_rfl) M (xc hV M) (aW (by omega) (by omega) ?_));have bi:=hv k M;simp only[M40]at bi;refine jS ?_;rw[gF,show (V.getD k 0+1)%18446744073709551616=V.getD k 0+1 by omega];refine SG (x:=((k:Int)+1,V.getD k 0+1)) fun w6 k6 U s6=>?_;have aa:=u.trans (U.mono u.size);have h6:=h.below aa;have v6:=ac U v5 v5.lt
   have t6:=ac U t5 t5.lt;refine aw (fun x=>HoM x p m W∧blk x w5.heap.size 215 [iv ((k:Int)+1),u6 (V.getD k 0+1)]) ⟨h6.below (Below.refl _ w6).drew,k6.drew⟩ ?_;refine ab (fun x d _ j=>ai j) (ab (fun x d _ j=>uM j) (ab (fun x d _ j=>lK (v:=.map (some m)) d.1.b rfl j) ?_))
   refine ab (fun x d _ j=>OD (x:=((k:Int)+1,V.getD k 0+1)) d.2 j) (ab (v:=.tuple #[evV ((dP W ((k:Int)+1,V.getD k 0+1)).getD evZ),.bool (dP W ((k:Int)+1,V.getD k 0+1)).isSome]) (fun x d _ j=>BB hkK underlying140 Pq d.1.mb j) ?_);refine ab (fun x d _ j=>cZ j) (ab (fun x d _ j=>db j) ?_);refine nG fun w7 t7 O s7=>?_;have hd:w6.drew.heap.size=w6.heap.size:=rfl
   have ad:Below w.heap.size w w7:=aa.drew.trans (O.mono (by rw[hd];exact aa.size));have h7:=h.below ad;have k7:=ac O k6.drew k6.drew.lt;have v7:=ac O v6.drew v6.drew.lt;have bW:=ac O t6.drew t6.drew.lt;have z6:=U.size;have lv:=v5.lt;have lt:=t5.lt;refine bR ⟨h7,k7⟩ (lj t7 fun w8 t8 I=>?_);have s8:=I.size;have af:Below w.heap.size w w8:=bv ad I (by rw[hd];exact aa.size)
   have h8:=h.below af;have k8:=I.blk k7 (by rw[hd];omega);have v8:=I.blk v7 (by rw[hd];omega);have ar:=I.blk bW (by rw[hd];omega);have z8:r+1≤w8.heap.size:=by rw[s8,s7,hd];omega
   refine bR ⟨h8,k8⟩ ?_;have al:∀wr,eH V W (6-k)=eH V W (6-(k+1))→blk wr w.heap.size 35 (vCs V)→blk wr w1.heap.size 54 (evC evZ)→Below w.heap.size w wr→r+1≤wr.heap.size →
     (∃k':Nat,iv ((k:Int)+1)=iv (k':Nat)∧k'≤6∧eH V W 6=eH V W (6-k')∧blk wr w.heap.size 35 (vCs V)∧blk wr w1.heap.size 54 (evC evZ)∧Below w.heap.size w wr∧r+1≤wr.heap.size)∧6-(intOf (iv ((k:Int)+1))).toNat<mu2:=fun wr e1 e2 e3 e4 e5 =>
    ⟨⟨k+1,congrArg iv (by push_cast;rfl),by omega,hn.trans e1,e2,e3,e4,e5⟩,by rw[a0];show 6-((k:Int)+1).toNat<6-((k:Nat):Int).toNat;omega⟩
   cases hg:dP W ((k:Int)+1,V.getD k 0+1)with
   | none =>
    refine mE (dA (wo (aO (mj (aW (by omega) (by omega) ?_)))));exact al w8 (Mi M fun f hf=>by rw[hg]at hf;cases hf) v8 ar af z8
   | some f =>
    rw[hg]at t8;refine kS (pe hV v8 (gB (e:=f) t8 (HF hV (fun k hk=>(hv k hk).1) fun w9 b9=>bX ?_)));have J:=af.trans (b9.mono af.size);refine wo ?_;have v9:=ac b9 v8 v8.lt;have t9:=ac b9 ar ar.lt;cases a3:ey V f with
    | false =>
     refine aO (mj (aW (by omega) (by omega) ?_));exact al w9 (Mi M fun f' hf=>by rw[hg]at hf;cases hf;exact a3) v9 t9 J (Nat.le_trans z8 b9.size)
    | true =>
     have be:eH V W 6=some f:=hn.trans (RQ M hg a3);have bb:mW f=((k:Int)+1,V.getD k 0+1):=(az _ (uR hg)).symm;have h9:=(h.below J).below (Below.refl _ w9).drew;have k9:=(ac b9 k8 k8.lt).drew;have f9:=(ac b9 t8 t8.lt).drew;refine bu (aw (fun x=>HoM x p m W∧blk x w5.heap.size 215 [iv ((k:Int)+1),u6 (V.getD k 0+1)]) ⟨h9,k9⟩ ?_)
     refine ab (fun x d _ j=>ai j) (ab (fun x d _ j=>uM j) (ab (fun x d _ j=>lK (v:=.map (some m)) d.1.b rfl j) ?_));refine ab (fun x d _ j=>OD (x:=((k:Int)+1,V.getD k 0+1)) d.2 j) ?_;refine UK hkK underlying140 h9.mb fun w10 bs ag=>?_;have aE:∀{q:Nat} {E:TypeId} {cs:List Value},blk w9.drew q E cs→q≠m:=fun hb e=>by
      obtain⟨es,c,hm⟩:=h9.mb;unfold blk at hb;rw[e,hm.heap]at hb;cases hb
     refine gB (ag.blk f9 (aE f9)) (lj (ag.blk t9.drew (aE t9.drew)) fun a8 bt ap=>?_);refine Sy bt (b0 f be a8 ?_ ?_)
     ·rw[bb];exact⟨ap.blk (ag.blk h9.b bg) (by omega),bs.oth ap (by omega)⟩
     ·have hc:Ch [m] w w10:=(Ch.of_below J.drew:Ch [m] w w9.drew).trans (Ch.of_oth ag (by simp):Ch [m] w9.drew w10) (by simp);exact hc.trans (Ch.of_oth ap (by simp):Ch [w1.heap.size] w10 a8) (by simp;omega)
  ·have ba:k=6:=by omega
   subst ba;refine aq (by omega) (Ee ?_);refine eT (vs:=evC evZ) (by kernel_rfl) (lj (e':=evZ) t5 fun w6 t6 o6=>?_);exact Sy t6 (no hn w6 (bv u o6 (by omega)))
 ·refine sv rfl (bu (Iu a9 (cZ (db ?_))));have b5:=a7.lt;refine dZ (z:=.agg #[iv 0,u6 0]) (by kernel_rfl) fun w6 k6 U s6=>nG fun w7 f7 O s7=>?_;have k6:blk w6 w5.heap.size 215 [iv 0,u6 0]:=by simpa[Value.cells]using k6
  have k7:=ac O k6 k6.lt;have ca:=o5.size;have v5:=o5.blk v4 (by have:=v2.lt;omega);have t5:=o5.blk t4 (by have:=t2.lt;omega);have u:Below w.heap.size w w5:=bv av o5 (by have:=am.size;omega);have ad:Below w.heap.size w w7:=(u.trans (U.mono u.size)).trans (O.mono (by have:=u.size;omega));have bn:=(a7.below U).below O;have v7:=ac O (ac U v5 v5.lt) (by have:=v5.lt;omega)
  have t7:=ac O (ac U t5 t5.lt) (by have:=t5.lt;omega);refine jP (n:=2) (vs:=[iv x.1,u6 x.2]) (by kernel_rfl) rfl k7 (by show 0+2≤2;omega) (by simp[u6,iv,Value.oneCell']) fun w8 k8 I=>?_;have f8:=I.blk f7 (by omega);refine lj (e':=f) f8 fun w9 f9 o9=>?_;have cc:=I.size;have ce:=o9.size;have lv:=v5.lt;have lt:=t5.lt;have v9:=o9.blk (I.blk v7 (by omega)) (by omega)
  have t9:=o9.blk (I.blk t7 (by omega)) (by omega);have J:Below w.heap.size w w9:=bv (bv ad I (by have:=u.size;omega)) o9 (by have:=u.size;omega);have an:=bn.kept ((o9.other m (by omega)).trans (I.other m (by omega))) ((o9.other r (by omega)).trans (I.other r (by omega)));refine pe hV v9 (gB f9 (Gb hV fun w10 C=>?_));rw[a2 _ aS]
  refine aO ⟨⟨D++[x],an.below C,ac C v9 v9.lt,ac C t9 t9.lt,J.trans (C.mono J.size),by have:=C.size;omega⟩,?_⟩;rw[bd]
  have e1:lC w10 m r=lC w5 m r:=tw ((C.block m an.lt.2).trans ((o9.other m (by omega)).trans ((I.other m (by omega)).trans ((O.block m (by omega)).trans (U.block m (by omega)))))) ((C.block r an.lt.1).trans ((o9.other r (by omega)).trans ((I.other r (by omega)).trans ((O.block r (by omega)).trans (U.block r (by omega))))));omega
end
end
section
attribute [local irreducible] bin un conv call bY blt slc aT fld aV idx lkp dO gY eSt rng nxt ent ext alc box bld bT ld sto aU dE mkS ifc pick rdy wts aI sti cond bp Gives ae fh fT cOp
open Go.RowKit
structure VR (w:World) (a:Option Addr) (n c:Nat) (L:List EV):Prop where
 len:L.length=n
 some_:0<n→∃b o,a=some ⟨b,o,none⟩
 cell:∀(i:Nat) (x:EV),L[i]? = some x→∀b o,a=some ⟨b,o,none⟩→∀(j:Nat) (u:Value),(evC x)[j]? = some u→w.cell? ⟨b,o+i*14+j,none⟩=some u
theorem VR.bel {L:List EV}(h:VR w a n c L)(M:Below B w w')(I:w.heap.size≤B):VR w' a n c L :=
 ⟨h.len,h.some_,fun i x U b o J j u O=>by
  have:=h.cell i x U b o J j u O
  have C:=World.block_lt_of_cell? w _ this;rw[M.cell (p:=⟨b,o+i*14+j,none⟩) (Nat.lt_of_lt_of_le C I)];exact this⟩
def mgC (k f t:Int)(V:List Int)(s:Value)(n x:Int):List Value:=[.int .u8 k,iv f,iv t]++(vCs V++[s,u6 n,iv x])
def gpC (L:List (List Int)):List Value:=L.flatMap vCs
structure GoM (w:World) (p:Nat) (L:List (List Int)):Prop where
 b:blk w p 145 (gpC L)
 l6:L.length=6
 v6:∀v∈L,v.length=6
theorem Pw :∀{L:List (List Int)} {k:Nat} {V:List Int},(∀v∈L,v.length=6)→L[k]? = some V→((gpC L).drop (k*6)).take 6=vCs V
 | [],k,V,_,h=>by simp at h
 | v::L,0,V,hv,h=>by
  simp only[List.getElem?_cons_zero,Option.some.injEq]at h;subst h
  have:=hv v (by simp)
  show ((vCs v++gpC L).drop (0*6)).take 6=_;rw[Nat.zero_mul,List.drop_zero,List.take_append_of_le_length (by rw[bQ];omega),List.take_of_length_le (by rw[bQ];omega)]
 | v::L,k+1,V,hv,h=>by
  rw[List.getElem?_cons_succ]at h;have C:=hv v (by simp);show ((vCs v++gpC L).drop ((k+1)*6)).take 6=_;rw[show (k+1)*6=(vCs v).length+k*6 by rw[bQ];omega,List.drop_append,List.drop_of_length_le (by omega),List.nil_append,show (vCs v).length+k*6-(vCs v).length=k*6 by omega];exact Pw (fun u j=>hv u (List.mem_cons_of_mem _ j)) h
theorem Ny :∀{L:List (List Int)},(∀v∈L,v.length=6)→(gpC L).length=L.length*6
 | [],_=>rfl
 | v::L,hv=>by
  show (vCs v++gpC L).length=_;rw[List.length_append,bQ,hv v (by simp),Ny fun u h=>hv u (List.mem_cons_of_mem _ h),List.length_cons];omega
theorem Nz :∀{L:List (List Int)} {k:Nat} {V:List Int},(∀v∈L,v.length=6)→k<L.length→V.length=6→(gpC L).take (k*6)++vCs V++(gpC L).drop (k*6+6)=gpC (L.set k V)
 | [],k,V,_,h,_=>by simp at h
 | v::L,0,V,hv,h,_=>by
  have:=hv v (by simp)
  show (vCs v++gpC L).take (0*6)++vCs V++(vCs v++gpC L).drop (0*6+6)=vCs V++gpC L;rw[Nat.zero_mul,List.take_zero,List.nil_append,show 0+6=(vCs v).length+0 by rw[bQ];omega,List.drop_append,List.drop_of_length_le (by omega)];simp
 | v::L,k+1,V,hv,h,h6=>by
  have j:=hv v (by simp);have C:(vCs v).length=6:=by rw[bQ];exact j
  show (vCs v++gpC L).take ((k+1)*6)++vCs V++(vCs v++gpC L).drop ((k+1)*6+6)=vCs v++gpC (L.set k V);rw[←Nz (fun u I=>hv u (List.mem_cons_of_mem _ I)) (by simpa using h) h6,List.take_append,List.drop_append,List.take_of_length_le (by omega),List.drop_of_length_le (by omega),C,show (k+1)*6-6=k*6 by omega,show (k+1)*6+6-6=k*6+6 by omega];simp
section
variable {w w':World}{p:Nat}{L:List (List Int)}
theorem GoM.below (h:GoM w p L)(j:Below w.heap.size w w'):GoM w' p L:=⟨ac j h.b h.b.lt,h.l6,h.v6⟩
theorem GoM.ch (h:GoM w p L)(u:Ch F w w')(j:p∉F):GoM w' p L:=⟨h.b.ch u j,h.l6,h.v6⟩
end
theorem GX (h:K (.pointer (some ⟨b,o+0,none⟩)) w):aT Tryz.prog 38 (.pointer (some ⟨b,o,none⟩)) 0 K w:=aK (by kernel_rfl) h
theorem GY (h:K (.pointer (some ⟨b,o+1,none⟩)) w):aT Tryz.prog 38 (.pointer (some ⟨b,o,none⟩)) 1 K w:=aK (by kernel_rfl) h
theorem jp (h:K (.pointer (some ⟨b,o+2,none⟩)) w):aT Tryz.prog 38 (.pointer (some ⟨b,o,none⟩)) 2 K w:=aK (by kernel_rfl) h
theorem Lz (h:K (.pointer (some ⟨b,o+3,none⟩)) w):aT Tryz.prog 38 (.pointer (some ⟨b,o,none⟩)) 3 K w:=aK (by kernel_rfl) h
theorem zP (h:K (.pointer (some ⟨b,o+9,none⟩)) w):aT Tryz.prog 38 (.pointer (some ⟨b,o,none⟩)) 4 K w:=aK (by kernel_rfl) h
theorem Rc (h:K (.pointer (some ⟨b,o+10,none⟩)) w):aT Tryz.prog 38 (.pointer (some ⟨b,o,none⟩)) 5 K w:=aK (by kernel_rfl) h
theorem Rd (h:K (.pointer (some ⟨b,o+11,none⟩)) w):aT Tryz.prog 38 (.pointer (some ⟨b,o,none⟩)) 6 K w:=aK (by kernel_rfl) h
theorem GO (h:K (.pointer (some ⟨b,o+0,none⟩)) w):aT Tryz.prog 145 (.pointer (some ⟨b,o,none⟩)) 0 K w:=aK (by kernel_rfl) h
section
variable {w:World}{K:KV}{p:Nat}{L:List (List Int)}{V:List Int}
theorem Ju (h:K (.bool false) w):bin Tryz.prog .eql 86 cx cy (pB b) (.pointer none) K w :=
 jm (by unfold eqG eqGuard;rfl) (by kernel_rfl) h
theorem PW {i:Int}(h:K (.bool (bK i)) w):call Tryz.prog 37 #[.int .i64 i] K w:=by
 refine aj (goK func37) (Gs (bM ?_));unfold bK at h;by_cases j:i≥1
 ·rw[show decide (1≤i)=true from decide_eq_true j,Bool.true_and]at h;exact dD j (fU (bO j h))
 ·rw[show decide (1≤i)=false from decide_eq_false j,Bool.false_and]at h;exact dY j (bw j h)
theorem Px {i:Int}(h:K (.bool (bK i)) w):call Tryz.prog 76 #[.int .i64 i] K w:=by
 refine aj (goK func76) (He (bM ?_));unfold bK at h;by_cases j:i≥1
 ·rw[show decide (1≤i)=true from decide_eq_true j,Bool.true_and]at h;exact dD j (fU (bO j h))
 ·rw[show decide (1≤i)=false from decide_eq_false j,Bool.false_and]at h;exact dY j (bw j h)
theorem VI (C:V.length=6)(h:∀w',Below w.heap.size w w'→K (.bool (leV V (List.replicate 6 1099511627776))) w'):call Tryz.prog 38 #[.agg (vCs V).toArray] K w:=by
 refine aj (goK func38) (KY (uA C fun w1 I b1 s1=>?_));refine aw (fun x=>blk x w.heap.size 35 (vCs V)) I.drew <|ab (fun x d _ M=>pe C d M) ?_;refine Og (G:=List.replicate 6 1099511627776) rfl (fun k O w2 b2 K' u => fM rfl (aj (goK func71) (Jm (by
  have:=u w2 (Below.refl _ _)
  rwa[show (List.replicate 6 (1099511627776:Int)).getD k 0=1099511627776 by rw[List.getD_eq_getElem?_getD,List.getElem?_replicate,if_pos O];rfl]at this)))) fun w2 b2=>?_
 have U:=ac b2 I.drew I.drew.lt;refine bR U (Oi C rfl fun w3 J=>aw (fun _=>True) trivial (h w3 ?_));have j:Below w.heap.size w w2:=b1.drew.trans (b2.mono (by show _≤w1.heap.size;omega));exact j.trans (J.mono j.size)
theorem Fc {E:List EV}{x:EV}(h:VR w a n c E)(I:a=some ⟨b,o,none⟩)(M:E[i]? = some x)(C:K (evV x) w):ld Tryz.prog 54 (.pointer (some ⟨b,o+i*14,none⟩)) K w :=
 IG (run_loadVar_mid w b (o+i*14) 54 (evC x) _ (fun j u J=>h.cell i x M b o I j u J) underlying54 rfl (by kernel_rfl)) C
theorem PX {E:List EV}(C:VR w a n c E)(hn:n≤1000000)(hm:∀e∈E,dK e=true)(h:∀w',Below w.heap.size w w'→K (.bool false) w'):call Tryz.prog 39 #[.slice a n c,.func (.func 40) #[] #[]] K w:=by
 refine aj (goK func39) (qG ?_);refine aj (goK func72) (rC (bj underlying36 ?_));refine qN (Inv:=fun i wr=>∃k:Nat,i=iv (k:Nat)∧k≤n∧Below w.heap.size w wr) (μ:=fun i _=>n-(intOf i).toNat) ⟨0,rfl,Nat.zero_le _,Below.refl _ _⟩ ?_;rintro _ dd w1 mu ⟨k,rfl,hk,b1⟩ M;refine aM ?_;by_cases u:k<n
 ·have I:=C.bel b1 (Nat.le_refl _);have J:k<E.length:=by rw[C.len];exact u
  have O:E[k]? = some E[k]:=List.getElem?_eq_getElem J;generalize E[k]=x at O;obtain⟨b,o,ha⟩:=C.some_ (by omega);subst ha;refine ax (by omega) (dJ underlying36 (s:=14) (fun _=>by kernel_rfl) (by omega) (by omega) ?_);rw[Int.toNat_natCast];refine Fc I rfl O (fM rfl ?_);refine aj (goK func40) (Hz (xj fun w2 e2 b2 s2=>gB e2 (CH fun w3 U=>dB ?_)));rw[hm x (List.mem_of_getElem? O)]
  have j:=b1.trans (b2.mono b1.size);refine aO (aW (by omega) (by omega) ⟨⟨k+1,congrArg iv (by push_cast;rfl),u,j.trans (U.mono j.size)⟩,?_⟩);rw[M];show n-((k:Int)+1).toNat<n-(k:Int).toNat;omega
 ·refine aq (by omega) <|qO ?_;exact bM (by have:=h w1 b1;simpa using this)
theorem TF {E:List EV}{f t:Int}(hE:VR w a n c E)(hn:n≤16)(hm:∀e∈E,dK e=true)(C:V.length=6)(hv:leV V (List.replicate 6 1099511627776)=true)(hf:bK f=true)(ht:bK t=true)(I:f≠t)(h:∀w',Below w.heap.size w w'→K (.bool true) w'):call Tryz.prog 11 #[.agg (mgC 1 f t V (.slice a n c) 0 0).toArray] K w:=by
 have hl:(mgC 1 f t V (.slice a n c) 0 0).length=12:=by simp[mgC,bQ,C]
 have U:(Value.agg (mgC 1 f t V (.slice a n c) 0 0).toArray).cells.toList=mgC 1 f t V (.slice a n c) 0 0:=by simp[Value.cells]
 refine aj (goK func11) (JH (cv fun w1 j b1 s1=>?_));rw[U]at j;have c9:(mgC 1 f t V (.slice a n c) 0 0)[9]? = some (.slice a n c):=by
  unfold mgC;rw[show 9=3+6 by rfl,iP (n:=3) rfl,show 6=6+0 by rfl,iP (n:=6) (by rw[bQ,C])];rfl
 have M:(mgC 1 f t V (.slice a n c) 0 0)[10]? = some (u6 0):=by
  unfold mgC;rw[show 10=3+(6+1)by rfl,iP (n:=3) rfl,iP (n:=6) (by rw[bQ,C])];rfl
 have O:(mgC 1 f t V (.slice a n c) 0 0)[11]? = some (iv 0):=by
  unfold mgC;rw[show 11=3+(6+2)by rfl,iP (n:=3) rfl,iP (n:=6) (by rw[bQ,C])];rfl
 have c3:((mgC 1 f t V (.slice a n c) 0 0).drop 3).take 6=vCs V:=by
  unfold mgC;rw[show 3=[Value.int .u8 1,iv f,iv t].length+0 by rfl,List.drop_append,List.drop_of_length_le (by simp)];simp only[List.nil_append,List.length_cons,List.length_nil,Nat.sub_self];rw[List.drop_zero,List.take_append_of_le_length (by rw[bQ];omega),List.take_of_length_le (by rw[bQ];omega)]
 refine GY (lK (v:=iv f) j rfl (PW (dB ?_)));rw[hf];refine lR (jp (lK (v:=iv t) j rfl (PW (dB ?_))));rw[ht];refine dA (lR (GY (lK (v:=iv f) j rfl (jp (lK (v:=iv t) j rfl (cA (dA (dX I ?_))))))));refine Lz (ldA (n:=6) (vs:=vCs V) underlying35 rfl (by kernel_rfl) j c3 (by rw[bQ];exact C) (VI C fun w2 b2=>dB ?_));rw[hv];have J:=ac b2 j j.lt;have u:=b1.trans (b2.mono b1.size)
 refine bw I (aO (GX (lK (v:=.int .u8 1) J rfl (HA (cA (ax rfl ?_))))));refine zP (lK (v:=.slice a n c) J c9 (PX (hE.bel u (Nat.le_refl _)) (by omega) hm fun w3 b3=>dB (kS ?_)));have m3:=ac b3 J J.lt;refine zP (lK (v:=.slice a n c) m3 c9 (bj underlying36 (fU (bX (dD (by omega) ?_)))));refine Rc (lK (v:=u6 0) m3 M (cA (bO (by omega) (dD rfl ?_))))
 exact Rd (lK (v:=iv 0) m3 O (cA (bO rfl (by have:=h w3 (u.trans (b3.mono u.size));simpa[gd]using this))))
theorem VF {A:List Int}(h:GoM w p L)(hk:k<6)(hA:L[k]? = some A)(I:V.length=6)(j:∀w',GoM w' p (L.set k (jV A V))→Ch [p] w w'→K (ci 0) w'):call Tryz.prog 42 #[pB p,iv ((k:Int)+1),.agg (vCs V).toArray] K w:=by
 have u:=h.v6 A (List.mem_of_getElem? hA);have hl:=h.b.lt;refine aj (goK func42) (Df (uA I fun w1 U b1 s1=>Ju (aO (Px (dB ?_)))));rw[show bK ((k:Int)+1)=true by unfold bK;simp;omega];have h1:=h.below b1;refine aO (aw (fun x=>GoM x p L∧blk x w.heap.size 35 (vCs V)) ⟨h1.below (Below.refl _ w1).drew,U.drew⟩ ?_)
 refine ab (v:=iv (k:Nat)) (fun x _ _ j=>bh (by omega) (by omega) (by rw[show (k:Int)+1-1=(k:Nat)by omega];exact j)) (ab (v:=iv (k:Nat)) (fun x _ _ j=>bh (by omega) (by omega) (by rw[show (k:Int)+1-1=(k:Nat)by omega];exact j)) ?_)
 have ix:∀{x:World} {K:KV},K (.pointer (some ⟨p,k*6,none⟩)) x→aV Tryz.prog 143 (pB p) (iv (k:Nat)) K x:=fun j=>eO underlying143 (s:=6) (fun _=>by kernel_rfl) (by omega) (by omega) (by rw[Nat.zero_add,Int.toNat_natCast];exact j);refine ab (fun x d _ j=>ai j) (ab (fun x d _ j=>GO j) (ab (fun x d _ j=>ix j) ?_))
 refine ab (fun x d _ j=>ldA (n:=6) (vs:=vCs A) underlying35 rfl (by kernel_rfl) d.1.b (Pw h.v6 hA) (by rw[bQ];exact u) j) ?_;refine ab (fun x d _ j=>pe I d.2 j) (ab (fun x d _ j=>ai j) (ab (fun x d _ j=>GO j) ?_));refine mY [.agg (vCs A).toArray,.agg (vCs V).toArray] underlying211 (s:=6) (by kernel_rfl) (by kernel_rfl) (by omega) rfl (by simp) (by decide) rfl (by
  intro v J;simp only[List.mem_cons,List.not_mem_nil,or_false]at J;rcases J with rfl|rfl
  ·have:=congrArg List.length (oD u);rw[bQ,u]at this;simpa using this
  ·have:=congrArg List.length (oD I);rw[bQ,I]at this;simpa using this) fun w3 O b3 s3=>?_
 have O:blk w3 w1.drew.heap.size 35 (vCs A++vCs V):=by
  have e:([Value.agg (vCs A).toArray,.agg (vCs V).toArray].flatMap fun v=>v.cells.toList)=vCs A++vCs V:=by
   simp only[List.flatMap_cons,List.flatMap_nil,List.append_nil,oD u,oD I]
  rwa[e]at O
 have C:Below w.heap.size w w3:=b1.drew.trans (b3.mono (by show _≤w1.heap.size;omega));have g3:=h.below C;have v3:=ac b3 U.drew U.drew.lt;refine bR ⟨g3,v3⟩ (Oh u I O fun w4 b4=>?_);have M:=C.trans (b4.mono C.size);have g4:=h.below M;refine bR ⟨g4,ac b4 v3 v3.lt⟩ <|ab (fun x d _ j=>ix j) ?_
 refine jP (n:=6) (vs:=vCs (jV A V)) (by kernel_rfl) (by rw[bQ];exact oQ) g4.b (by rw[Ny h.v6,h.l6];omega) CM fun w5 h5 o5=>?_;rw[Nz h.v6 (by rw[h.l6];exact hk) oQ]at h5;refine j w5 ⟨h5,by rw[List.length_set];exact h.l6,fun v J=>?_⟩ ((Ch.of_below M:Ch [p] w w4).trans (Ch.of_oth o5 (by simp):Ch [p] w4 w5) (by simp));rcases List.mem_or_eq_of_mem_set J with J|rfl
 ·exact h.v6 v J
 ·exact oQ
theorem UP (j:∀w',GoM w' w.heap.size (List.replicate 6 (List.replicate 6 0))→Below w.heap.size w w'→w'.heap.size=w.heap.size+1→K (pB w.heap.size) w'):call Tryz.prog 23 #[] K w:=by
 refine aj (goK func23) (KP (eT (vs:=gpC (List.replicate 6 (List.replicate 6 0))) (by kernel_rfl) (cv fun I h b1 C=>?_)));exact j I ⟨by simpa[Value.cells]using h,rfl,fun v u=>by rw[List.eq_of_mem_replicate u];rfl⟩ b1 C
end
structure kN where
 a:Option Nat
 cap:Nat
 it:List (EV×Int)
def lrV (r:kN):Value:=.slice (r.a.map fun b=>⟨b,0,none⟩) r.it.length r.cap
def itC (x:EV×Int):List Value:=evC x.1++[u6 x.2]
def loC (R:List kN)(V:List Int)(c:Int):List Value:=R.map lrV++(vCs V++[u6 c])
theorem FU (x:EV×Int):(itC x).length=15:=rfl
theorem JD (x:EV×Int):∀v∈itC x,v.oneCell'=true:=by
 intro v h;rcases List.mem_append.1 h with h|h
 ·exact qy _ v h
 ·rw[List.mem_singleton.1 h];rfl
theorem wV (r:kN):(lrV r).ownBlock=r.a:=by
 unfold lrV;cases r.a<;>rfl
def lrB (R:List kN):List Nat:=R.filterMap (·.a)
structure LoM (w:World) (g:Nat) (R:List kN) (V:List Int) (c:Int):Prop where
 b:blk w g 139 (loC R V c)
 l6:R.length=6
 v6:V.length=6
 row:∀(i:Nat) r,R[i]? = some r→w.ownsRow 0 200 15 (lrV r) r.it.length (r.it.flatMap itC)
 nd:∀(i j:Nat) ri rj,i≠j→R[i]? = some ri→R[j]? = some rj→∀b,ri.a=some b→rj.a≠some b
 few:∀r∈R,r.it.length≤1000000
section
variable {w w':World}{g:Nat}{R:List kN}{V:List Int}{c:Int}
theorem LoM.in (h:LoM w g R V c)(j:b∈lrB R):∃(i:Nat) (r:kN),R[i]? = some r∧r.a=some b:=by
 obtain⟨r,u,e⟩:=List.mem_filterMap.1 j;obtain⟨i,hi⟩:=List.getElem?_of_mem u;exact⟨i,r,hi,e⟩
theorem LoM.cur (h:LoM w g R V c){r:kN}(J:R[i]? = some r)(C:r.a=some b):∃cs,w.heap[b]? = some (.cells cs 200 (0,0)):=by
 rcases(h.row i r J).2 with⟨u,_⟩|⟨g,cap,j,u,_,I,_⟩
 ·have:=wV r;rw[u,C]at this;cases this
 ·have:=wV r
  rw[u,C]at this;simp only[Value.ownBlock,Option.some.injEq]at this;subst this;exact⟨j,I⟩
theorem LoM.ng (h:LoM w g R V c):g∉lrB R:=fun u=>by
 obtain⟨i,r,C,e⟩:=h.in u;obtain⟨cs,j⟩:=h.cur C e
 have:=h.b
 unfold blk at this;rw[j]at this;simp only[Option.some.injEq,Obj.cells.injEq]at this;exact absurd this.2.1 (by decide)
theorem LoM.lt (h:LoM w g R V c):∀k∈g::lrB R,k<w.heap.size:=by
 intro k j;rcases List.mem_cons.1 j with rfl|j
 ·exact h.b.lt
 ·obtain⟨i,r,C,e⟩:=h.in j;obtain⟨cs,u⟩:=h.cur C e;exact(Array.getElem?_eq_some_iff.1 u).1
theorem LoM.keep (h:LoM w g R V c)(u:∀k∈g::lrB R,w'.heap[k]? = w.heap[k]?):LoM w' g R V c :=
 {h with
  b:=by have:=h.b;unfold blk at *; rw[u g (by simp)];exact this
  row:=fun i r C=>cJ (h.row i r C) fun k j => u k (by rw[wV]at j;exact List.mem_cons_of_mem _ (List.mem_filterMap.2 ⟨r,List.mem_of_getElem? C,j⟩))}
theorem LoM.below (h:LoM w g R V c)(j:Below w.heap.size w w'):LoM w' g R V c:=h.keep fun k u=>j.block k (h.lt k u)
theorem LoM.ch (h:LoM w g R V c)(u:Ch F w w')(hF:∀k∈g::lrB R,k∉F):LoM w' g R V c:=h.keep fun k j=>u.block k (h.lt k j) (hF k j)
theorem LoM.len (h:LoM w g R V c):(loC R V c).length=13:=by simp[loC,h.l6,bQ,h.v6]
theorem LoM.cR (h:LoM w g R V c){r:kN}(j:R[k]? = some r):(loC R V c)[k]? = some (lrV r):=by
 have:=(List.getElem?_eq_some_iff.1 j).1
 unfold loC;rw[List.getElem?_append_left (by simpa using this),List.getElem?_map,j];rfl
theorem LoM.c12 (h:LoM w g R V c):(loC R V c)[12]? = some (u6 c):=by
 unfold loC;rw[show 12=6+(6+0)by rfl,iP (n:=6) (by rw[List.length_map,h.l6]),iP (n:=6) (by rw[bQ,h.v6])];rfl
theorem LoM.cV (h:LoM w g R V c):((loC R V c).drop 6).take 6=vCs V:=by
 unfold loC;rw[List.drop_append,List.drop_of_length_le (by rw[List.length_map,h.l6];omega),List.nil_append,List.length_map,h.l6,Nat.sub_self,List.drop_zero,List.take_append_of_le_length (by rw[bQ,h.v6];omega),List.take_of_length_le (by rw[bQ,h.v6];omega)]
theorem NG {r:kN}(h:R.length=6)(j:k<6):(loC R V c).set k (lrV r)=loC (R.set k r) V c:=by
 unfold loC;rw[List.set_append_left _ _ (by rw[List.length_map,h];exact j),List.map_set]
theorem NH (h:R.length=6)(u:V.length=6)(j:k<6):(loC R V c).set (6+k) (u6 x)=loC R (V.set k x) c:=by
 unfold loC;rw[rB (n:=6) (by rw[List.length_map,h]),Fz (n:=6) (by rw[bQ,u]) j];unfold vCs;rw[List.map_set]
theorem Wb (h:R.length=6)(j:V.length=6):(loC R V c).set 12 (u6 x)=loC R V x:=by
 unfold loC;rw[show 12=6+(6+0)by rfl,rB (n:=6) (by rw[List.length_map,h]),rB (n:=6) (by rw[bQ,j])];rfl
end
theorem Km :(Tryz.prog.info? 200).map (fun i=>(i.zero,i.size,i.bytes))=some (some (.agg (itC (evZ,0)).toArray),15,120):=by kernel_rfl
theorem GU (h:K (.pointer (some ⟨b,o+0,none⟩)) w):aT Tryz.prog 139 (.pointer (some ⟨b,o,none⟩)) 0 K w:=aK (by kernel_rfl) h
theorem GV (h:K (.pointer (some ⟨b,o+6,none⟩)) w):aT Tryz.prog 139 (.pointer (some ⟨b,o,none⟩)) 1 K w:=aK (by kernel_rfl) h
theorem GW (h:K (.pointer (some ⟨b,o+12,none⟩)) w):aT Tryz.prog 139 (.pointer (some ⟨b,o,none⟩)) 2 K w:=aK (by kernel_rfl) h
section
variable {w:World}{K:KV}{g:Nat}{R:List kN}{V:List Int}{c:Int}{e:EV}
theorem Nu (h:K (.bool false) w):bin Tryz.prog .eql 82 cx cy (pB b) (.pointer none) K w :=
 jm (by unfold eqG eqGuard;rfl) (by kernel_rfl) h
theorem Vo (J:∀w',LoM w' w.heap.size (List.replicate 6 ⟨none,0,[]⟩) (List.replicate 6 0) 0→Below w.heap.size w w'→w'.heap.size=w.heap.size+1→K (pB w.heap.size) w'):call Tryz.prog 21 #[] K w:=by
 refine aj (goK func21) (KS (eT (vs:=loC (List.replicate 6 ⟨none,0,[]⟩) (List.replicate 6 0) 0) (by kernel_rfl) (cv fun U I b1 O=>?_)));have u:∀(i:Nat) (r:kN),(List.replicate 6 (⟨none,0,[]⟩:kN))[i]? = some r→r=⟨none,0,[]⟩:=fun i r u=>List.eq_of_mem_replicate (List.mem_of_getElem? u)
 refine J U ⟨by simpa[Value.cells]using I,rfl,rfl,fun i r h=>?_,fun i j M rj _ hi _ b C=>?_,fun r h=>?_⟩ b1 O
 ·rw[u i r h];exact World.ownsRow_nil _ _ _ _
 ·rw[u i M hi]at C;cases C
 ·rw[List.eq_of_mem_replicate h];exact Nat.zero_le _
theorem PY {r:kN}(h:LoM w g R V c)(hr:R[e.q]? = some r)(hm:ey V e=true)(hv:∀k,k<6→0≤V.getD k 0)(hc:0≤c∧c≤1000000)(hl:r.it.length<1000000)(u:∀w' a' cap',LoM w' g (R.set e.q ⟨a',cap',r.it++[(e,c)]⟩) (V.set e.q e.s) (c+1)→(∀b,a'=some b→r.a=some b∨w.heap.size≤b)→Ch (g::lrB R) w w'→K (ci 0) w'):call Tryz.prog 58 #[pB g,evV e] K w:=by
 have M:dK e=true:=by unfold ey at hm;simp only[Bool.and_eq_true]at hm;exact hm.1
 obtain⟨aa,ho⟩:=qe M;obtain⟨o1,o6,ca,cc⟩:=gC M;have b9:=nB hm;have az:nH V e=false:=by
  refine Bool.eq_false_iff.2 fun J=>?_
  have:=(xq M).1 J
  omega
 have b0:=h.b.lt;refine aj (goK func58) (Gt (xj fun w1 e1 b1 s1=>Nu (aO (gB e1 (CH fun w2 b2=>dB ?_)))));rw[M];have al:=b1.trans (b2.mono (by omega));have h2:=h.below al;have e2:=ac b2 e1 e1.lt;refine aO (aw (fun x=>LoM x g R V c∧blk x w.heap.size 54 (evC e)) ⟨h2.below (Below.refl _ w2).drew,e2.drew⟩ ?_)
 refine ab (fun x d _ u=>ai u) (ab (fun x d _ u=>GV u) (ab (fun x d _ u=>ldA (n:=6) (vs:=vCs V) underlying35 rfl (by kernel_rfl) d.1.b d.1.cV (by rw[bQ];exact d.1.v6) u) ?_));refine ab (fun x d _ u=>gB d.2 u) (Gb h.v6 fun w3 b3=>?_);rw[az];have am:=al.drew.trans (b3.mono al.size);have h3:=h.below am;have e3:=ac b3 e2.drew e2.drew.lt;refine aw (fun _=>True) trivial (aO ?_)
 refine aw (fun x=>LoM x g R V c∧blk x w.heap.size 54 (evC e)) ⟨h3.below (Below.refl _ w3).drew,e3.drew⟩ ?_;refine ab (fun x d _ u=>ai u) (ab (fun x d _ u=>GV u) (ab (fun x d _ u=>ldA (n:=6) (vs:=vCs V) underlying35 rfl (by kernel_rfl) d.1.b d.1.cV (by rw[bQ];exact d.1.v6) u) ?_));refine ab (fun x d _ u=>gB d.2 u) (HF h.v6 hv fun w4 b4=>?_);rw[hm]
 have an:=am.drew.trans (b4.mono am.size);have h4:=h.below an;have e4:=ac b4 e3.drew e3.drew.lt;refine aw (fun _=>True) trivial (ab (v:=.bool false) (fun x _ _ u=>dB u) (aO ?_));refine bD (lK (v:=iv e.o) e4 rfl (bh (by omega) (by omega) ?_));rw[show e.o-1=(e.q:Nat)by omega];refine En <|aw (fun x=>blk x g 139 (loC R V c)∧blk x w.heap.size 54 (evC e)) ⟨h4.b.drew,e4.drew⟩ ?_
 have ix:∀{x:World} {K:KV},K (.pointer (some ⟨g,e.q,none⟩)) x→aV Tryz.prog 137 (pB g) (iv (e.q:Nat)) K x:=fun u=>eO underlying137 (s:=1) (fun _=>by kernel_rfl) (by omega) (by omega) (by rw[Nat.zero_add,Int.toNat_natCast,Nat.mul_one];exact u);refine ab (fun x d _ u=>ai u) (ab (fun x d _ u=>GU u) (ab (fun x d _ u=>ix u) ?_))
 refine ab (v:=lrV r) (fun x d _ u=>lK d.1 (h.cR hr) u) (ab (fun x d _ u=>gB d.2 u) ?_);refine ab (fun x d _ u=>ai u) (ab (fun x d _ u=>GW u) (ab (v:=u6 c) (fun x d _ u=>lK d.1 h.c12 u) ?_));refine ab (v:=.agg (itC (e,c)).toArray) (fun x d _ u=>eT (vs:=itC (e,c)) (by kernel_rfl) u) ?_;refine ab (fun x d _ u=>ai u) (ab (fun x d _ u=>GU u) ?_)
 refine mY [.agg (itC (e,c)).toArray] underlying136 (s:=15) (by kernel_rfl) (by kernel_rfl) (by omega) rfl (by simp) (by decide) rfl (by
  intro v hv;rw[List.mem_singleton.1 hv];rfl) fun w5 i5 b5 s5=>?_
 have i5:blk w5 w4.drew.heap.size 200 (itC (e,c)):=by simpa[Value.cells]using i5
 have O:=an.drew.trans (b5.mono an.size);have h5:=h.below O;have e5:=ac b5 e4.drew e4.drew.lt;refine bR ⟨h5.b,e5⟩ ?_;obtain⟨ii,bg,bs,bn,ba⟩:=info_parts Km;refine tf (enc:=itC) (x:=(e,c)) underlying136 bg bs bn ba rfl (by omega) FU (h5.row e.q r hr) i5 (JD _) (by omega) (by omega) (Nat.zero_le _) fun a' c' w6 r6 g6 _ k6=>?_;obtain⟨U,bW,a4,a3⟩:=cq r6 (by omega);subst a4
 have ar:r.a=some U∨U=w5.heap.size:=by
  have:=wV r
  unfold lrV at this;rcases k6 with k6|k6
  ·rw[this]at k6;exact .inl k6.symm
  ·simp only[Value.ownBlock,Option.some.injEq]at k6;exact .inr k6
 have bt:(Value.slice (r.a.map fun b=>(⟨b,0,none⟩:Addr)) r.it.length r.cap).ownBlock=r.a:=wV r;rw[bt]at g6
 -- what the append has turned
 have o6:∀k,k<w5.heap.size→r.a≠some k→w6.heap[k]? = w5.heap[k]? := fun k C bk=>g6.block k C fun e=>bk e.symm;have be:r.a≠some g:=fun e=>h.ng (List.mem_filterMap.2 ⟨r,List.mem_of_getElem? hr,e⟩);have bb:r.a≠some w.heap.size:=fun e=>by
  have:=h.lt w.heap.size (List.mem_cons_of_mem _ (List.mem_filterMap.2 ⟨r,List.mem_of_getElem? hr,e⟩))
  omega
 have ap:blk w6 g 139 (loC R V c):=by
  have:=h5.b;unfold blk at *; rw[o6 g h5.b.lt be];exact this
 have e6:blk w6 w.heap.size 54 (evC e):=by
  have af:=e5.lt;unfold blk at *; rw[o6 _ af bb];exact e5
 have aS:∀(j:Nat) rj,j≠e.q→R[j]? = some rj→w6.ownsRow 0 200 15 (lrV rj) rj.it.length (rj.it.flatMap itC):=fun j rj hj aE=>by
  refine cJ (h5.row j rj aE) fun k C=>o6 k (World.ownsRow.lt (h5.row j rj aE) k C).2 fun e'=>?_;rw[wV]at C;exact h.nd j e.q rj r hj aE hr k C e'
 refine bR ⟨ap,e6⟩ (ab (fun x d _ u=>ix u) ?_);have b6:=O.size;have b7:=g6.size;have b8:U<w6.heap.size:=a3.blk.lt;have bd:U≠g:=fun e' => by
  have:=a3.blk
  rw[e']at this;exact absurd this (fun J=>absurd rfl (ap.ne J (by decide)))
 -- the row's new slice
 refine eB (fun _=>by kernel_rfl) ap (by rw[h.len];omega) rfl fun w7 z7 o7=>?_;rw[show (Value.slice (some ⟨U,0,none⟩) (r.it.length+1) c')=lrV ⟨some U,c',r.it++[(e,c)]⟩by unfold lrV;rw[List.length_append];rfl,NG h.l6 aa]at z7;have e7:=(o7.blk e6 (by omega)).drew;have z7:=z7.drew;have ad:(R.set e.q ⟨some U,c',r.it++[(e,c)]⟩).length=6:=by rw[List.length_set];exact h.l6
 refine aH (fun _=>iZ) (aH (v:=u6 e.s) (fun _=>lK e7 rfl) ?_);refine aH (fun _=>ai) (aH (fun _=>GV) (aH (fun _=>ixV rfl aa) ?_));refine eB (fun _=>by kernel_rfl) z7 (by simp only[loC,List.length_append,List.length_map,ad,bQ,h.v6,List.length_singleton];omega) rfl fun w8 z8 o8=>?_;rw[Nat.zero_add,NH ad h.v6 aa]at z8;have ag:(V.set e.q e.s).length=6:=by rw[List.length_set];exact h.v6
 refine Eo (ai (GW (lK (v:=u6 c) z8 ?_ (jS ?_))))
 ·unfold loC;rw[show 0+12=6+(6+0)by rfl,iP (n:=6) (by rw[List.length_map,ad]),iP (n:=6) (by rw[bQ,ag])];rfl
 rw[gF,show (c+1)%18446744073709551616=c+1 by omega];refine ai (GW (eB (fun _=>by kernel_rfl) z8 (by simp only[loC,List.length_append,List.length_map,ad,bQ,ag,List.length_singleton];omega) rfl fun w9 z9 o9=>?_));have z9:blk w9 g 139 (loC (R.set e.q ⟨some U,c',r.it++[(e,c)]⟩) (V.set e.q e.s) (c+1)):=by rw[←Wb (c:=c) ad ag];exact z9
 have t9:∀k,k≠g→w9.heap[k]? = w6.heap[k]? := fun k C=>(o9.other k C).trans ((o8.other k C).trans (o7.other k C));refine u w9 (some U) c' ⟨z9,ad,ag,fun i ri hi=>?_,fun i j ri rj av hi hj b hb=>?_,fun ri hi=>?_⟩ (fun b hb=>?_) ?_
 ·by_cases I:i=e.q
  ·subst I;rw[List.getElem?_set_self (by rw[h.l6];exact aa)]at hi;cases hi;rw[show (r.it++[(e,c)]).length=r.it.length+1 by simp]
   have:=cJ r6 (w':=w9) fun k C=>t9 k (by
    simp only[Value.ownBlock,Option.some.injEq]at C;rw[←C];exact bd)
   unfold lrV;simpa using this
  ·rw[List.getElem?_set_ne (fun e' => I e'.symm)]at hi;refine cJ (aS i ri I hi) fun k C=>t9 k fun e'=>?_;rw[wV,e']at C;exact h.ng (List.mem_filterMap.2 ⟨ri,List.mem_of_getElem? hi,C⟩)
 ·have af:∀(x:Nat) (rx:kN) (b:Nat),R[x]? = some rx→rx.a=some b→b<w.heap.size:=fun x rx b hx hb=>h.lt b (List.mem_cons_of_mem _ (List.mem_filterMap.2 ⟨rx,List.mem_of_getElem? hx,hb⟩));have a2:∀b,b<w.heap.size→b≠w5.heap.size:=fun b hb=>by omega
  by_cases I:i=e.q
  ·subst I;rw[List.getElem?_set_self (by rw[h.l6];exact aa)]at hi;rw[List.getElem?_set_ne av]at hj;cases hi;cases hb;rcases ar with J|J
   ·exact h.nd e.q j r rj av hr hj U J
   ·exact fun e' => a2 _ (af j rj U hj e') J
  ·rw[List.getElem?_set_ne (fun e' => I e'.symm)]at hi;by_cases a0:j=e.q
   ·subst a0;rw[List.getElem?_set_self (by rw[h.l6];exact aa)]at hj;cases hj;intro e';cases e';rcases ar with J|J
    ·exact h.nd i e.q ri r I hi hr U hb J
    ·exact a2 _ (af i ri U hi hb) J
   ·rw[List.getElem?_set_ne (fun e' => a0 e'.symm)]at hj;exact h.nd i j ri rj av hi hj b hb
 ·rcases List.mem_or_eq_of_mem_set hi with hi|rfl
  ·exact h.few ri hi
  ·simp;omega
 ·cases hb;rcases ar with J|J
  ·exact .inl J
  ·exact .inr (by omega)
 ·refine⟨?_,?_,?_,?_,fun k C hn=>?_⟩
  ·exact o9.os.trans (o8.os.trans (o7.os.trans (g6.os.trans O.os)))
  ·exact o9.tape.trans (o8.tape.trans (o7.tape.trans (g6.tape.trans O.tape)))
  ·exact o9.output.trans (o8.output.trans (o7.output.trans (g6.output.trans O.output)))
  ·have a9:=o9.size;have a8:=o8.size;have a7:=o7.size;have d7:w7.drew.heap.size=w7.heap.size:=rfl;omega
  ·have bi:k≠g:=fun e' => hn (by simp[e']);rw[t9 k bi,o6 k (by omega) (fun e' => hn (List.mem_cons_of_mem _ (List.mem_filterMap.2 ⟨r,List.mem_of_getElem? hr,e'⟩))),O.block k C]
end
end
section
attribute [local irreducible] bin un conv call bY blt slc aT fld aV idx lkp dO gY eSt rng nxt ent ext alc box bld bT ld sto aU dE mkS ifc pick rdy wts aI sti cond bp Gives ae fh fT cOp
open Go.RowKit Go.ChangeMaps
theorem Sb (k:Nat)(h:k<6):({pl0 k with I:=(pl0 k).I.set k true}:PL)=pl0 (k+1):=by
 unfold pl0
 congr 1
 match k,h with
 | 0,_=>rfl
 | 1,_=>rfl
 | 2,_=>rfl
 | 3,_=>rfl
 | 4,_=>rfl
 | 5,_=>rfl
theorem QN {q:LB}:Tryz.prog.built 135 [(3,pB q.t),(4,.map (some q.pm)),(5,.map (some q.rm)),(7,.map (some q.gm)),(8,.map (some q.am))]=some (plC q (pl0 0)).toArray:=by kernel_rfl
theorem Vw (h1:1≤n)(h6:n≤6)(j:KD w)(hK:∀w' q,PM w' q (pl0 n)→(∀k∈q.l,k=0∨w.heap.size≤k)→Below w.heap.size w w'→K (.tuple #[pB q.p,.int .i64 0]) w'):call Tryz.prog 20 #[iv (n:Nat)] K w:=by
 refine aj (goK func20) (KQ (aM (dX (by omega) (de (bw (by omega) (aq (by omega) ?_))))));refine Qv fun w1 t tp t1 b1 ht aS=>?_;refine qZ underlying129 rfl u6 u6 fun w2 m2 b2 s2=>qZ underlying130 rfl u6 rgV fun w3 m3 b3 s3=>qZ underlying131 rfl rqV grV fun w4 m4 b4 s4=>qZ underlying132 rfl rqV Value.bool fun w5 m5 b5 s5=>?_;have aE:=t1.lt;have ar:=b1.size;have h0:=j.lt
 obtain⟨q,I⟩:∃q:LB,q=⟨w5.heap.size,t,tp,w1.heap.size,w2.heap.size,w3.heap.size,w4.heap.size⟩:=⟨_,rfl⟩
 have ep:q.p=w5.heap.size:=by rw[I]
 have et:q.t=t:=by rw[I]
 have ed:q.tp=tp:=by rw[I]
 have em:q.pm=w1.heap.size:=by rw[I]
 have er:q.rm=w2.heap.size:=by rw[I]
 have eg:q.gm=w3.heap.size:=by rw[I]
 have ea:q.am=w4.heap.size:=by rw[I]
 have az:=t1.ne;have al:q.l.Nodup:=by
  unfold LB.l;rw[ep,et,ed,em,er,eg,ea];simp only[List.nodup_cons,List.mem_cons,List.not_mem_nil,or_false,not_or,List.nodup_nil,and_true];refine⟨⟨?_,?_,?_,?_,?_,?_,?_⟩,⟨?_,?_,?_,?_,?_,?_⟩,⟨?_,?_,?_,?_,?_⟩,⟨?_,?_,?_,?_⟩,⟨?_,?_,?_⟩,⟨?_,?_⟩,?_,not_false⟩<;>omega
 rw[←et, ←em, ←er, ←eg, ←ea];refine eT QN (cv fun w6 C b6 s6=>?_);rw[←ep]at C ⊢;have h:(Value.agg (plC q (pl0 0)).toArray).cells.toList=plC q (pl0 0):=by simp[Value.cells]
 rw[h]at C;have aa:Below w2.heap.size w2 w6:=b3.trans ((b4.mono (by omega)).trans ((b5.mono (by omega)).trans (b6.mono (by omega))));have ad:Below w3.heap.size w3 w6:=b4.trans ((b5.mono (by omega)).trans (b6.mono (by omega)));have af:Below w4.heap.size w4 w6:=b5.trans (b6.mono (by omega));have U:Below w1.heap.size w1 w6:=b2.trans (aa.mono (by omega))
 have O:Below w.heap.size w w6:=b1.trans (U.mono ar);have p6:PM w6 q (pl0 0):=⟨rfl,rfl,rfl,C,by rw[et,ed];exact t1.below U,⟨[],by rw[em];exact m2.below aa,.refl _⟩,⟨[],by rw[er];exact m3.below ad,.refl _⟩,⟨[],by rw[eg];exact m4.below af,.refl _⟩,⟨[],by rw[ea];exact m5.below b6,fun o r h1 h6=>by
  have:jB (pl0 0).R (o-1).toNat r=false:=by
   unfold jB
   have:(pl0 0).R.getD (o-1).toNat []=[]:=by
    show (List.replicate 6 ([]:List Int)).getD _ []=[]
    rw[List.getD_eq_getElem?_getD,List.getElem?_replicate];split<;>rfl
   rw[this];rfl
  rw[this];rfl⟩,al,j.below O⟩
 have an:∀k∈q.l,k=0∨w.heap.size≤k:=by
  intro k hk;unfold LB.l at hk;rw[ep,et,ed,em,er,eg,ea]at hk;simp only[List.mem_cons,List.not_mem_nil,or_false]at hk;omega
 refine IJ (Inv:=fun i wr=>∃k:Nat,i=iv (k:Nat)∧k≤n∧PM wr q (pl0 k)∧Below w.heap.size w wr) (μ:=fun i _=>n-(intOf i).toNat) ⟨0,rfl,Nat.zero_le _,p6,O⟩ ?_;rintro _ dd w7 m ⟨k,rfl,av,M,b7⟩ hm;refine aM ?_;by_cases ag:k<n
 ·refine ax (by omega) (ai (zO (JK rfl (by omega) (eB (fun _=>by kernel_rfl) M.b (by rw[M.len];omega) rfl fun w8 h8 J=>aW (by omega) (by omega) ?_))));have u:=M.nd;rw[Nat.zero_add,M.sI (by omega),Sb k (by omega)]at h8;refine⟨⟨k+1,ivS,ag,?_,bG b7 J (by rw[ep];have:=b5.size;omega)⟩,by rw[hm];show n-((k:Int)+1).toNat<n-(k:Int).toNat;omega⟩
  obtain⟨i6,l6,v6,b,tm,⟨m1,x1,e1⟩,⟨m2,x2,e2⟩,⟨m3,x3,e3⟩,⟨m4,x4,e4⟩,_,j⟩:=M;exact⟨by simp[pl0],l6,v6,h8,tm.oth J (LN.tp u) (LN.dp u),⟨m1,x1.oth J (LN.mp u),e1⟩,⟨m2,x2.oth J (LN.rp u),e2⟩,⟨m3,x3.oth J (LN.gp u),e3⟩,⟨m4,x4.oth J (LN.ap u),e4⟩,u,j.keep (J.other 0 (LN.zp u))⟩
 ·have e:k=n:=by omega
  subst e;exact aq (by omega) (IK (hK w7 q M an b7))
end
section
attribute [local irreducible] bin un conv call bY blt slc aT fld aV idx lkp dO gY eSt rng nxt ent ext alc box bld bT ld sto aU dE mkS ifc pick rdy wts aI sti cond bp Gives ae fh fT cOp
open Go.RowKit
theorem cutV {V:List Int}(h:V.length=6):((V.map u6).drop 0).take 6=V.map u6:=by rw[List.drop_zero,List.take_of_length_le (by simp[h])]
def ndE (x:ND):List Value:=u6 x.id::u6 x.par::(List.range 54).map fun j=>iv (x.A.getD j 0)
theorem fC (x:ND):(ndE x).length=56:=by simp[ndE]
theorem zD (x:ND):∀v∈ndE x,v.oneCell'=true:=by simp[ndE,u6,iv,Value.oneCell']
theorem Cy {x:ND}(h:x.A.length=54):(List.range 54).map (fun j=>iv (x.A.getD j 0))=x.A.map iv:=by
 apply List.ext_getElem
 ·simp[h]
 ·intro i C u;simp at C u;simp[List.getD,u]
theorem Cx {x:ND}(h:x.A.length=54):ndE x=ndC x:=by unfold ndE ndC;rw[Cy h];rfl
structure LG where
 s:STA
 G:List GR
 T:List (Int×Int)
 R:List (List Int)
 t:Nat
 q:List Value
 ga:Option Addr
 gc:Nat
def lgC (l:LG):List Value:=saC l.s++(.pointer (some ⟨l.t,0,none⟩)::l.q)
structure LM (w:World) (B p:Nat) (l:LG):Prop where
 i6:l.s.I.length=6
 l6:l.s.L.length=6
 v6:l.s.V.length=6
 q6:l.q.length=6
 r6:l.R.length=6
 A54:∀x∈l.s.nodes,x.A.length=54
 cl:blk w p 123 (lgC l)
 lo:B≤p
 gv:l.s.gv=.slice l.ga l.G.length l.gc
 nd:w.ownsRow B 52 56 (.slice l.s.na l.s.nodes.length l.s.nc) l.s.nodes.length (l.s.nodes.flatMap ndE)
 gr:w.ownsRow B 126 5 (.slice l.ga l.G.length l.gc) l.G.length (l.G.flatMap grC)
 tm:TM w B l.t l.T
 rq:∀k,k<6→∃a c,l.q[k]? = some (.slice a (l.R.getD k []).length c)∧w.ownsRow B 31 1 (.slice a (l.R.getD k []).length c) (l.R.getD k []).length ((l.R.getD k []).flatMap uC)
 ne:∀(j k:Nat) (v v':Value) (b:Nat),j≠k→l.q[j]? = some v→l.q[k]? = some v'→v.ownBlock=some b→v'.ownBlock≠some b
end
section
open Go.RowKit
theorem rU {L:List α}(h:L.length=6):∃a b c d e f,L=[a,b,c,d,e,f]:=by
 match L,h with
 | [a,b,c,d,e,f],_=>exact⟨a,b,c,d,e,f,rfl⟩
end
section
attribute [local irreducible] bin un conv call bY blt slc aT fld aV idx lkp dO gY eSt rng nxt ent ext alc box bld bT ld sto aU dE mkS ifc pick rdy wts aI sti cond bp Gives ae fh fT cOp
open Go.RowKit
structure GI (l:LG) (m:Nat):Prop where
 tk:∃rk,TK l.T rk
 nt:∀x∈l.T,∃y∈l.s.nodes,y.id=x.1
 nn:l.s.nodes.length≤m
 gn:l.G.length≤m
 tn:l.T.length≤m
 rn:∀k,k<6→(l.R.getD k []).length≤m
 vb:∀k,k<6→0≤l.s.V.getD k 0∧l.s.V.getD k 0<1099511627776
 gr:∀x∈l.G, -9223372036854775808≤x.a∧x.a≤9223372036854775807
def my :Value:=.slice none 0 0
section
variable {w:World}{K:KV}{B p:Nat}{l:LG}
structure CP (w0 w:World) (l m:LG) (p k:Nat):Prop where
 i6:m.s.I.length=6
 l6:m.s.L.length=6
 v6:m.s.V.length=6
 q6:m.q.length=6
 R:m.R=l.R
 cl:blk w p 123 (lgC m)
 lo:w0.heap.size≤p
 gv:m.s.gv=.slice m.ga m.G.length m.gc
 nd:w.ownsRow w0.heap.size 52 56 (.slice m.s.na m.s.nodes.length m.s.nc) m.s.nodes.length (m.s.nodes.flatMap ndE)
 gr:w.ownsRow w0.heap.size 126 5 (.slice m.ga m.G.length m.gc) m.G.length (m.G.flatMap grC)
 tm:TM w w0.heap.size m.t m.T
 rq:∀j,j<k→∃a c,m.q[j]? = some (.slice a (l.R.getD j []).length c)∧w.ownsRow w0.heap.size 31 1 (.slice a (l.R.getD j []).length c) (l.R.getD j []).length ((l.R.getD j []).flatMap uC)
 nq:∀j,j<6→k≤j→m.q[j]? = some my
 ne:∀(j k:Nat) (v v':Value) (b:Nat),j≠k→m.q[j]? = some v→m.q[k]? = some v'→v.ownBlock=some b→v'.ownBlock≠some b
 bel:Below w0.heap.size w0 w
end
end
end Go.Proofs.YtkbhfjljieopoaaGreatDoor
