import Derived.Test.YtgpfkmdknlcemaaGreatDoorQ11
import Derived.Test.YtgpfkmdknlcemaaGreatDoorQ7
import Derived.Test.YtgpfkmdknlcemaaGreatDoorQ10
import Derived.Test.YtgpfkmdknlcemaaGreatDoorQ5
import Derived.Test.YtgpfkmdknlcemaaGreatDoorQ8
namespace Go.Proofs.YtgpfkmdknlcemaaGreatDoor
set_option maxRecDepth 100000
set_option maxHeartbeats 4000000
open Tryz
section
attribute [local irreducible] bin un conv call dC blt slc ai fld aU idx lkp eX jl eSt rng nxt ent ext alc box bld dl ld sto bo eS mkS ifc pick rdy wts aJ sti cond bM Gives ae fU gX cOp
section
open Go.RowKit Go.ChangeMaps
theorem PM.oth {w w':World}{q:LB}{s:PL}{b:Nat}(h:PM w q s)(o:Oth b w w')(j:b∉q.l):PM w' q s:=h.keep fun k d _=>o.other k fun e=>j (e ▸ d)
def DoesB (B:Nat)(w':World)(q:LB)(s1:PL)(fv:Value):Prop:=∃X:List Nat,(∀k∈X,B≤k)∧∀(w2:World) (K2:KV),Below w'.heap.size w' w2→(∀w3,PM w3 q s1→Ch (X++q.w) w2 w3→K2 (.tuple #[]) w3)→dC Tryz.prog fv #[] K2 w2
def Kind (w:World)(q:LB)(s:PL)(e:EV)(K:KV):Prop :=
 (∀w',eM e s≠0→Below w.heap.size w w'→K (.tuple #[.nilFunc,.int .i64 (eM e s)]) w') ∧
 (eM e s=0→∀w' fv,Below w.heap.size w w'→DoesB w.heap.size w' q (pC e s) fv→K (.tuple #[fv,.int .i64 0]) w')
theorem Kind.y {w:World}{q:LB}{s:PL}{e:EV}{K:KV}(j:Kind w q s e K)(h0:eM e s=0)(w':World)(h:Value)(b:Below w.heap.size w w')(d:Ua w' q (pC e s) h):K (.tuple #[h,.int .i64 0]) w':=j.2 h0 w' h b ⟨[],by simp,d⟩
section
variable {w:World}{K:KV}{q:LB}{s:PL}{e:EV}
theorem Sh (h:PM w q s)(hi:PI s)(hm:eE e=true)(hk:e.k=1)(hn:bL s.N (idE e)=false)(kd:Kind w q s e K):call Tryz.prog 154 #[pB q.p,.agg (evC e).toArray] K w:=by
 have ad:=kd.y;obtain⟨no,_⟩:=kd;obtain⟨Z,ho⟩:=pY hm;have u:=gJ hm;have I:=h.lt;have d:eM e s=if 5≤gj s.N e.o∨M47<e.a then 6 else (iE (tr s.N) (idE e) e.n).2:=by unfold eM;rw[if_pos hk]
 refine aB (goK func154) (Am (LE.make fun w1 J s1=>?_));have J:=J.drew;have p1:=h.below J.bel;refine aE (fun y=>LE w y q e∧PM y q s) ⟨J,p1⟩ ?_;refine ab (fun y j _=>bS) (ab (fun y j _=>lK (v:=iv e.o) j.1.e rfl) ?_);refine ab (fun y j _=>lh) (ab (fun y j _=>lK (v:=u6 e.s) j.1.e rfl) ?_);refine ab (fun y j _=>bS) (ab (fun y j _=>lK (v:=iv e.o) j.1.e rfl) ?_)
 refine ab (v:=iv (e.q:Nat)) (fun y j K hK=>bg (by omega) (by omega) (by rw[show e.o-1=(e.q:Nat)by omega];exact hK)) ?_;refine mk6 u.1 u.2.1 u.2.2.1 u.2.2.2 (fun w' b=>⟨J.fresh b,p1.below b⟩) fun w2 bi bk i2 k2 V zi zk b2=>?_;have z2:w.heap.size+2≤w1.heap.size:=J.sz;have zi:w.heap.size+2≤bi:=Nat.le_trans z2 zi;have zk:w.heap.size+2≤bk:=Nat.le_trans z2 zk;have g2:=J.fresh b2
 have p2:=p1.below b2;refine dY (fun _=>by kernel_rfl) i2 (by simp) rfl fun w3 i3 o3=>?_;have i3:blk w3 bi 24 [u6 (idE e)]:=i3;have g3:=g2.oth o3 zi;have p3:=p2.oth o3 fun hh=>by have:=I _ hh;omega
 have k3:=o3.blk k2 (fun e=>V e.symm);refine aO ⟨g3,p3⟩ (dY (fun _=>by kernel_rfl) k3 (by simp) rfl fun w4 M o4=>?_);have M:blk w4 bk 3 [iv (e.q:Nat)]:=M;have i4:=(o4.blk i3 V).drew;have M:=M.drew;have R:=(g3.oth o4 zk).drew;have p4:=(p3.oth o4 fun hh=>by have:=I _ hh;omega).drew;refine aa (fun _=>lK (v:=pB q.p) R.l rfl) (aa (fun _=>lK (v:=iv (e.q:Nat)) M rfl) ?_)
 refine aa (fun _=>aw) (aa (fun _=>Fd) (aa (fun _=>ixO rfl Z) ?_));refine aa (fun K hK=>lK (v:=iv ((gj s.N ((e.q:Nat)+1):Nat):Int)) p4.b (by rw[Nat.zero_add];exact p4.cO Z) hK) ?_;rw[←ho];refine aa (fun _=>cH) ?_;by_cases h5:(5:Int)≤((gj s.N e.o:Nat):Int)
 ·refine iZ h5 (aa (fun _=>bR h5) (bu ?_));rw[if_pos (.inl (by omega))]at d
  have:=no _ (by rw[d];decide) R.bel
  rwa[d]at this
 refine dZ h5 (aa (fun _=>dQ) (aa (fun _=>lK (v:=iv e.a) R.e rfl) (aa (fun _=>cB) (aa (fun _=>bE h5) ?_))));by_cases h6:(140737488355328:Int)<e.a
 ·refine ay h6 ?_;rw[if_pos (.inr h6)]at d
  have:=no _ (by rw[d];decide) R.bel
  rwa[d]at this
 rw[if_neg (by simp only[M47];omega)]at d;refine au h6 (lK (v:=pB q.p) R.l rfl (lK (v:=u6 (idE e)) i4 rfl (eO (lK (v:=u6 e.n) R.e rfl ?_))));refine SI p4 hi fun w5 U=>cW ?_;have g5:=R.fresh U;by_cases C:(iE (tr s.N) (idE e) e.n).2≠0
 ·refine ay C ?_
  have:=no _ (by rw[d];exact C) g5.bel
  rwa[d]at this
 have C:(iE (tr s.N) (idE e) e.n).2=0:=by simpa using C
 refine au (by simp[C]) (ad (by rw[d];exact C) w5 _ g5.bel fun w6 K2 b6 X=>ia rfl ?_);have p6:=(p4.below U).below b6;have g6:=g5.fresh b6;rw[SJ hk]at X;exact Qz g6.lv (af (U.trans (b6.mono U.size)) i4 i4.lt) (af (U.trans (b6.mono U.size)) M M.lt) zi zk I p6 hi hm hn C X
/-! ## A node's rights, put -/
theorem IR {N:List ND}{ids:List Int}{c:Nat}{x y:Int}:gA (rgL (N.map (dN ids c x))) y=match bL N y with|true=>some (if y∈ids then (aN N y).set c (nA (aN N y) c+x)else aN N y)|false=>none:=by
 rw[DZ,Fp fun z=>(gu z).1];cases u:bL N y with
 | false=>rfl
 | true =>
  simp only
  congr 1
  unfold aN;rw[List.find?_map];have e:((fun z:ND=>z.id==y) ∘ dN ids c x)=fun z:ND=>z.id==y:=by
   funext z;show ((dN ids c x z).id==y)=_;rw[(gu z).1]
  rw[e];cases j:N.find? fun z=>z.id==y with
  | none =>
   exfalso;obtain⟨z,d,e2⟩:=ky.1 u
   have:=List.find?_eq_none.1 j z d
   exact this (by simpa using e2)
  | some z =>
   have d:z.id=y:=by simpa using List.find?_some j
   simp only[Option.map_some];by_cases h:y∈ids
   ·rw[if_pos h,pV (by rw[d];exact h)]
   ·rw[if_neg h,oH (by rw[d];exact h)]
theorem vf {N:List ND}{c:Nat}{x:Int}:N.map (dN [] c x)=N:=by
 conv=>rhs;rw[←List.map_id N]
 exact List.map_congr_left fun y _=>oH (by simp)
theorem V6 {N N':List ND}(h:∀o,gj N' o=gj N o):plC q {s with N:=N'} = plC q {s with N:=N}:=by
 unfold plC Bm;simp only[h]
theorem PM.put_c {done:List Int}{c:Nat}{x id:Int}(h:PM w q {s with N:=s.N.map (dN done c x)})(hi:PI s)(ad:id∉done)(hh:bL s.N id=true){A:List Int}(hA:A=(aN s.N id).set c (nA (aN s.N id) c+x))(hK:∀w',PM w' q {s with N:=s.N.map (dN (done++[id]) c x)}→Oth q.rm w w'→K undef w'):eX Tryz.prog 87 (.map (some q.rm)) (u6 id) (rgV A) K w:=by
 have nd:=h.nd;obtain⟨m,R,X⟩:=h.rm;refine vm u6K underlying87 R fun I J d=>hK I ?_ d;have j:∀l,(s.N.map (dN l c x)).Pairwise (·.id < ·.id):=fun l=>BM (fun y=>(gu y).1) hi.srt;have u:(s.N.map (dN (done++[id]) c x)).map (fun y=>(y.id,y.par))=(s.N.map (dN done c x)).map fun y=>(y.id,y.par):=by
  rw[List.map_map,List.map_map];exact List.map_congr_left fun y _=>by
   show ((dN _ _ _ y).id,(dN _ _ _ y).par)=((dN _ _ _ y).id,(dN _ _ _ y).par)
   rw[(gu y).1,(gu y).2,(gu y).1,(gu y).2]
 have u:tr (s.N.map (dN (done++[id]) c x))=tr (s.N.map (dN done c x)):=u;have k:∀k∈q.l,k≠q.rm→I.heap[k]? = w.heap[k]? := fun k _ M=>d.other k M;obtain⟨i6,l6,v6,b,tm,⟨U,Z,e1⟩,_,⟨m3,V,e3⟩,⟨m4,p4,e4⟩,_,kd⟩:=h
 refine⟨i6,l6,v6,?_,?_,⟨U,Z.oth d (LN.mr nd),by show U.Perm (tr _);rw[u];exact e1⟩,⟨_,J,?_⟩,⟨m3,V.oth d (LN.gr nd),e3⟩,⟨m4,p4.oth d (LN.ar nd),e4⟩,nd,kd.keep (d.other 0 (LN.zr nd))⟩
 ·have:=d.blk b (LN.pr nd)
  rw[V6 (s:=s) (N:=s.N.map (dN done c x)) (N':=s.N.map (dN (done++[id]) c x)) (fun o=>by rw[BI fun y=>(gu y).1,BI fun y=>(gu y).1])];exact this
 ·have:=tm.oth d (LN.tr nd) (LN.dr nd)
  show TreeM I q.t q.tp (tr _);rw[u];exact this
 ·refine IS (uk R.nodup) (ya (j _)) fun y=>?_;rw[Bs,mn X (ya (j _)),IR,IR];by_cases C:y=id
  ·subst C;rw[if_pos rfl,hh,hA];simp
  ·rw[if_neg C];cases bL s.N y with
   | false=>rfl
   | true=>simp[C]
theorem PM.put1_c {c:Nat}{x id:Int}(h:PM w q s)(hi:PI s)(hh:bL s.N id=true){A:List Int}(d:A=(aN s.N id).set c (nA (aN s.N id) c+x))(hK:∀w',PM w' q {s with N:=s.N.map (dN [id] c x)}→Oth q.rm w w'→K undef w'):eX Tryz.prog 87 (.map (some q.rm)) (u6 id) (rgV A) K w:=by
 refine PM.put_c (s:=s) (done:=[]) (c:=c) (x:=x) ?_ hi (by simp) hh d hK;rw[vf];exact h
end
end
section
open Go.RowKit Go.ChangeMaps
theorem Bh {s:PL}(hi:PI s)(id:Int):(aN s.N id).length=54:=by
 cases d:bL s.N id with
 | true=>exact Dh hi d
 | false=>rw[Hz d];simp[z54]
theorem Ng {A:List Int}{i j x:Int}(d:A.length=54):(kh A i j x).1.length=54:=by rw[MC];exact AL _ _ _ _ _ d
theorem Gk {A:List Int}{i x:Int}(d:A.length=54):(iu A i x).1.length=54:=by rw[Mz];exact AL _ _ _ _ _ d
theorem Gl {A:List Int}{i x:Int}(d:A.length=54):(iw A i x).1.length=54:=by rw[MA];exact AL _ _ _ _ _ d
section
variable {w:World}{K:KV}{q:LB}{s:PL}{e:EV}
theorem Oj {z r c:Nat}{x:Int}{A:List Int}(g:LV w z q e)(C:blk w r 36 (A.map iv))(J:A.length=54)(h:PM w q s)(hi:PI s)(hh:bL s.N e.n=true)(M:A=(aN s.N e.n).set c (nA (aN s.N e.n) c+x))(hK:∀w',PM w' q {s with N:=s.N.map (dN [e.n] c x)}→Ch q.w w w'→K (.tuple #[]) w'):call Tryz.prog 165 #[pB r,pB z,pB (z+1)] K w:=by
 refine aB (goK func165) (xB ?_);refine aE (fun y=>LV y z q e∧PM y q s∧blk y r 36 (A.map iv)) ⟨g.drew,h.drew,C.drew⟩ ?_;refine ab (fun y d _=>lK (v:=pB q.p) d.1.l rfl) (ab (fun y d _=>aw) (ab (fun y d _=>pR) ?_));refine ab (fun y d _=>lK (v:=.map (some q.rm)) d.2.1.b (by rw[Nat.zero_add];exact d.2.1.c20)) ?_;refine ab (fun y d _=>eO) (ab (fun y d _=>lK (v:=u6 e.n) d.1.e rfl) ?_)
 refine ab (fun y d _=>oP J d.2.2) ?_;exact h.drew.put1_c hi hh M fun u I j=>hK u I (Ch.of_oth ⟨j.os,j.tape,j.output,j.size,j.other⟩ (by simp[LB.w]))
theorem Qc {z r c:Nat}{x:Int}{A:List Int}(g:LV w z q e)(C:blk w r 36 (A.map iv))(J:A.length=54)(h:PM w q s)(hi:PI s)(hh:bL s.N e.n=true)(M:A=(aN s.N e.n).set c (nA (aN s.N e.n) c+x))(hK:∀w',PM w' q {s with N:=s.N.map (dN [e.n] c x)}→Ch q.w w w'→K (.tuple #[]) w'):call Tryz.prog 174 #[pB r,pB z,pB (z+1)] K w:=by
 refine aB (goK func174) (yE ?_);refine aE (fun y=>LV y z q e∧PM y q s∧blk y r 36 (A.map iv)) ⟨g.drew,h.drew,C.drew⟩ ?_;refine ab (fun y d _=>lK (v:=pB q.p) d.1.l rfl) (ab (fun y d _=>aw) (ab (fun y d _=>pR) ?_));refine ab (fun y d _=>lK (v:=.map (some q.rm)) d.2.1.b (by rw[Nat.zero_add];exact d.2.1.c20)) ?_;refine ab (fun y d _=>eO) (ab (fun y d _=>lK (v:=u6 e.n) d.1.e rfl) ?_)
 refine ab (fun y d _=>oP J d.2.2) ?_;exact h.drew.put1_c hi hh M fun u I j=>hK u I (Ch.of_oth ⟨j.os,j.tape,j.output,j.size,j.other⟩ (by simp[LB.w]))
theorem Qd (h:PM w q s)(hi:PI s)(hm:eE e=true)(hk:e.k=2)(kd:Kind w q s e K):call Tryz.prog 155 #[pB q.p,.agg (evC e).toArray] K w:=by
 have ad:=kd.y;obtain⟨no,_⟩:=kd;obtain⟨j,ho⟩:=pY hm;have al:=gJ hm;have J:=h.lt;have ea:1≤e.a∧e.a≤MXA:=by rcases pE hm with⟨k,_⟩|⟨_,a,b⟩|⟨k,_⟩|⟨k,_⟩|⟨k,_⟩|⟨k,_⟩|k<;>first|omega|exact⟨a,b⟩
 have u:eM e s=if bL s.N e.n=false then 9 else if M47<nA (aN s.N e.n) e.q+e.a then 6 else 0:=by unfold eM;rw[if_neg (by omega),if_pos hk]
 have hl:=Bh hi e.n;refine aB (goK func155) (zI (LE.make fun w1 C s1=>?_));have C:=C.drew;have p1:=h.below C.bel;refine aE (fun y=>LE w y q e∧PM y q s) ⟨C,p1⟩ ?_;refine ab (fun y d _=>lK (v:=pB q.p) d.1.l rfl) (ab (fun y d _=>aw) (ab (fun y d _=>pR) ?_));refine ab (fun y d _=>lK (v:=.map (some q.rm)) d.2.b (by rw[Nat.zero_add];exact d.2.c20)) ?_
 refine ab (fun y d _=>eO) (ab (fun y d _=>lK (v:=u6 e.n) d.1.e rfl) ?_);refine ab (fun y d _=>d.2.rg_l2 hi) (ab (fun y d _=>eB) (ab (fun y d _=>eC) ?_));refine uA fun w2 r2 b2 s2=>aO ⟨C.fresh b2,p1.below b2⟩ (sK rfl hl r2 fun w3 X o3=>?_);have zz:w.heap.size+2≤w1.drew.heap.size:=C.sz;have I:=(C.fresh b2).oth o3 zz;have R:=(p1.below b2).oth o3 fun hh=>by have:=J _ hh;omega
 refine aO ⟨I,R⟩ (eh ?_);cases hh:bL s.N e.n with
 | false =>
  rw[hh,if_pos rfl]at u
  have:=no _ (by rw[u];decide) I.bel
  rw[u]at this;exact bu this
 | true =>
 rw[hh,if_neg (by simp)]at u;have hb:nA (aN s.N e.n) e.q≤M47∧0≤nA (aN s.N e.n) e.q:=by
  obtain⟨y,d,e1⟩:=lY hh;rw[←e1,oN hi.srt d];exact⟨(hi.may y d).2 _ j,((kx.1 (hi.may y d).1).g _ j).1⟩
 simp only[M47,MXA]at hb ea;have I:=I.drew;have R:=R.drew;have X:=X.drew;refine bw (aa (fun _=>bS) (aa (fun _=>lK (v:=iv e.o) I.e rfl) ?_));refine aa (v:=iv (e.q:Nat)) (fun K hK=>bg (by omega) (by omega) (by rw[show e.o-1=(e.q:Nat)by omega];exact hK)) ?_;refine aa (fun _=>rt) (aa (fun _=>ixR rfl j) ?_)
 refine aa (v:=iv (nA (aN s.N e.n) e.q)) (fun _=>lK X (by rw[Nat.zero_add];exact pF (by omega))) ?_;refine aa (fun _=>dQ) (aa (fun _=>lK (v:=iv e.a) I.e rfl) ?_);refine aa (fun _=>aR (by omega) (by omega)) ?_;refine aa (fun _=>rt) (aa (fun _=>ixR rfl j) ?_);refine dY (fun _=>by kernel_rfl) X (by simp[hl];omega) rfl fun w4 r4 o4=>?_
 obtain⟨A,V⟩:∃A,A=(aN s.N e.n).set e.q (nA (aN s.N e.n) e.q+e.a):=⟨_,rfl⟩
 have ag:A.length=54:=by rw[V,List.length_set];exact hl
 have r4:blk w4 w1.drew.heap.size 36 (A.map iv):=by
  rw[Nat.zero_add]at r4;rw[V, ←xQ];exact r4
 have U:=I.oth o4 zz;have p4:=R.oth o4 fun hh=>by have:=J _ hh;omega
 refine xz (bS (lK (v:=iv e.o) U.e rfl (bg (by omega) (by omega) ?_)));rw[show e.o-1=(e.q:Nat)by omega];refine rt (ixR rfl j (lK (v:=iv (nA (aN s.N e.n) e.q+e.a)) r4 (by
  rw[Nat.zero_add,pF (by omega),V,lj (by omega),ju]) (cB ?_)))
 by_cases Z:(140737488355328:Int)<nA (aN s.N e.n) e.q+e.a
 ·refine ay Z ?_;rw[if_pos Z]at u
  have:=no _ (by rw[u];decide) U.bel
  rwa[u]at this
 rw[if_neg Z]at u;refine au Z (xA (ad u w4 _ U.bel fun w6 K2 b6 M=>ia rfl ?_));rw[SM hk]at M;exact Oj (U.fresh b6).lv (af b6 r4 r4.lt) ag (p4.below b6) hi hh V M
theorem Qe (h:PM w q s)(hi:PI s)(hm:eE e=true)(hk:e.k=5)(kd:Kind w q s e K):call Tryz.prog 158 #[pB q.p,.agg (evC e).toArray] K w:=by
 have ag:=kd.y;obtain⟨no,_⟩:=kd;have al:=gJ hm;have V:=h.lt;have ea:1≤e.t∧e.t≤6:=by rcases pE hm with⟨k,_⟩|⟨k,_⟩|⟨k,_⟩|⟨k,_⟩|⟨_,_,_,a,b,_⟩|⟨k,_⟩|k<;>first|omega|exact⟨a,b⟩
 obtain⟨t,ht⟩:∃t:Nat,t=(e.t-1).toNat:=⟨_,rfl⟩
 have U:t<6:=by omega
 have C:eM e s=if bL s.N e.n=false then 9 else if s.I.getD (e.t-1).toNat false=false then 10 else (kh (aN s.N e.n) e.o e.t e.a).2:=by unfold eM;rw[if_neg (by omega),if_neg (by omega),if_neg (by omega),if_neg (by omega),if_pos hk]
 have Z:=Bh hi e.n;refine aB (goK func158) (Aq (LE.make fun w1 M s1=>?_));have M:=M.drew;have p1:=h.below M.bel;refine aE (fun y=>LE w y q e∧PM y q s) ⟨M,p1⟩ ?_;refine ab (fun y d _=>lK (v:=pB q.p) d.1.l rfl) (ab (fun y d _=>aw) (ab (fun y d _=>pR) ?_));refine ab (fun y d _=>lK (v:=.map (some q.rm)) d.2.b (by rw[Nat.zero_add];exact d.2.c20)) ?_
 refine ab (fun y d _=>eO) (ab (fun y d _=>lK (v:=u6 e.n) d.1.e rfl) ?_);refine ab (fun y d _=>d.2.rg_l2 hi) (ab (fun y d _=>eB) (ab (fun y d _=>eC) ?_));refine uA fun w2 r2 b2 s2=>aO ⟨M.fresh b2,p1.below b2⟩ (sK rfl Z r2 fun w3 r3 o3=>?_);have zz:w.heap.size+2≤w1.drew.heap.size:=M.sz;have u:=(M.fresh b2).oth o3 zz;have R:=(p1.below b2).oth o3 fun hh=>by have:=V _ hh;omega
 refine aO ⟨u,R⟩ (eh ?_);cases hh:bL s.N e.n with
 | false =>
  rw[hh,if_pos rfl]at C
  have:=no _ (by rw[C];decide) u.bel
  rw[C]at this;exact bu this
 | true =>
 rw[hh,if_neg (by simp), ←ht]at C;have u:=u.drew;have R:=R.drew;have r3:=r3.drew;refine bw (aa (fun _=>lK (v:=pB q.p) u.l rfl) (aa (fun _=>ic) (aa (fun _=>lK (v:=iv e.t) u.e rfl) ?_)));refine aa (v:=iv (t:Nat)) (fun K hK=>bg (by omega) (by omega) (by rw[show e.t-1=(t:Nat)by omega];exact hK)) ?_;refine aa (fun _=>aw) (aa (fun _=>y8) (aa (fun _=>HB rfl U) ?_))
 refine aa (fun _=>lK (v:=.bool (s.I.getD t false)) R.b (by rw[Nat.zero_add];exact R.cI U)) (aa (fun _=>eh) ?_);cases hI:s.I.getD t false with
 | false =>
  rw[hI,if_pos rfl]at C
  have:=no _ (by rw[C];decide) u.bel
  rw[C]at this;exact bu this
 | true =>
 rw[hI,if_neg (by simp)]at C;refine bw (oP Z r3 (bS (lK (v:=iv e.o) u.e rfl (ic (lK (v:=iv e.t) u.e rfl (dQ (lK (v:=iv e.a) u.e rfl ?_)))))));refine Tr Z fun w4 b4=>eB (eC ?_);have X:=Ng (i:=e.o) (j:=e.t) (x:=e.a) Z;refine sK Z X (af b4 r3 r3.lt) fun w5 r5 o5=>yD (cW ?_);have g5:=(u.fresh b4).oth o5 zz;have p5:=(R.below b4).oth o5 fun hh=>by have:=V _ hh;omega
 by_cases J:(kh (aN s.N e.n) e.o e.t e.a).2≠0
 ·refine ay J ?_
  have:=no _ (by rw[C];exact J) g5.bel
  rwa[C]at this
 have J:(kh (aN s.N e.n) e.o e.t e.a).2=0:=by simpa using J
 refine au (by simp[J]) (ag (by rw[C];exact J) w5 _ g5.bel fun w6 K2 b6 ad=>ia rfl ?_);rw[SQ hk]at ad;exact Qc (g5.fresh b6).lv (af b6 r5 r5.lt) X (p5.below b6) hi hh (KI J) ad
theorem Si (h:PM w q s)(hm:eE e=true)(Z:e.k=6)(kd:Kind w q s e K):call Tryz.prog 159 #[pB q.p,.agg (evC e).toArray] K w:=by
 have ea:1≤e.t∧e.t≤6:=by rcases pE hm with⟨k,_⟩|⟨k,_⟩|⟨k,_⟩|⟨k,_⟩|⟨k,_⟩|⟨_,a,b,_⟩|k<;>first|omega|exact⟨a,b⟩
 obtain⟨t,ht⟩:∃t:Nat,t=(e.t-1).toNat:=⟨_,rfl⟩
 have j:t<6:=by omega
 have ee:eM e s=0:=by unfold eM;rw[if_neg (by omega),if_neg (by omega),if_neg (by omega),if_neg (by omega),if_neg (by omega)]
 refine aB (goK func159) (Ar (LE.make fun V I s1=>kd.y ee V _ I.bel fun w2 K2 b2 J=>ia rfl ?_));have M:=(I.fresh b2).drew;have u:=(h.below (I.fresh b2).bel).drew;have nd:=u.nd;refine aB (goK func175) (yF ?_);refine aa (fun _=>lK (v:=pB q.p) M.l rfl) (aa (fun _=>ic) (aa (fun _=>lK (v:=iv e.t) M.e rfl) ?_))
 refine aa (v:=iv (t:Nat)) (fun K hK=>bg (by omega) (by omega) (by rw[show e.t-1=(t:Nat)by omega];exact hK)) ?_;refine aa (fun _=>aw) (aa (fun _=>y8) (aa (fun _=>HB rfl j) ?_));refine dY (fun _=>by kernel_rfl) u.b (by rw[u.len];omega) rfl fun w3 R d=>J w3 ?_ (Ch.of_oth ⟨d.os,d.tape,d.output,d.size,d.other⟩ (by simp[LB.w]));rw[SR Z, ←ht];rw[Nat.zero_add,u.sI j]at R
 obtain⟨i6,l6,v6,b,tm,⟨m1,x1,e1⟩,⟨m2,U,e2⟩,⟨m3,x3,e3⟩,⟨m4,X,e4⟩,_,C⟩:=u;exact⟨by simp[i6],l6,v6,R,tm.oth d (LN.tp nd) (LN.dp nd),⟨m1,x1.oth d (LN.mp nd),e1⟩,⟨m2,U.oth d (LN.rp nd),e2⟩,⟨m3,x3.oth d (LN.gp nd),e3⟩,⟨m4,X.oth d (LN.ap nd),e4⟩,nd,C.keep (d.other 0 (LN.zp nd))⟩
theorem Qf (h:PM w q s)(U:eE e=true)(hk:e.k=7)(kd:Kind w q s e K):call Tryz.prog 160 #[pB q.p,.agg (evC e).toArray] K w:=by
 obtain⟨j,ho⟩:=pY U;have ad:=gJ U;have ee:eM e s=0:=by unfold eM;rw[if_neg (by omega),if_neg (by omega),if_neg (by omega),if_neg (by omega),if_neg (by omega)]
 refine aB (goK func160) (zJ (LE.make fun X I s1=>kd.y ee X _ I.bel fun w2 K2 b2 J=>ia rfl ?_));have M:=(I.fresh b2).drew;have u:=(h.below (I.fresh b2).bel).drew;have nd:=u.nd;refine aB (goK func176) (xC ?_);refine aa (fun _=>lK (v:=pB q.p) M.l rfl) (aa (fun _=>bS) (aa (fun _=>lK (v:=iv e.o) M.e rfl) ?_))
 refine aa (v:=iv (e.q:Nat)) (fun K hK=>bg (by omega) (by omega) (by rw[show e.o-1=(e.q:Nat)by omega];exact hK)) ?_;refine aa (fun _=>aw) (aa (fun _=>Fb) (aa (fun _=>HB rfl j) ?_));refine dY (fun _=>by kernel_rfl) u.b (by rw[u.len];omega) rfl fun w3 R d=>J w3 ?_ (Ch.of_oth ⟨d.os,d.tape,d.output,d.size,d.other⟩ (by simp[LB.w]));rw[SS hk];rw[Nat.zero_add,u.sL j]at R
 obtain⟨i6,l6,v6,b,tm,⟨m1,x1,e1⟩,⟨m2,V,e2⟩,⟨m3,x3,e3⟩,⟨m4,Z,e4⟩,_,C⟩:=u;exact⟨i6,by simp[l6],v6,R,tm.oth d (LN.tp nd) (LN.dp nd),⟨m1,x1.oth d (LN.mp nd),e1⟩,⟨m2,V.oth d (LN.rp nd),e2⟩,⟨m3,x3.oth d (LN.gp nd),e3⟩,⟨m4,Z.oth d (LN.ap nd),e4⟩,nd,C.keep (d.other 0 (LN.zp nd))⟩
end
end
section
open Go.RowKit Go.ChangeMaps
theorem LU {g:List Int→Int}{N:List ND}:∀{P:List Int} {k:Nat} {id:Int},P[k]? = some id→(∀j y,j<k→P[j]? = some y→g (aN N y)=0)→g (aN N id)≠0→kz g N P=g (aN N id)
 | [],_,_,h,_,_=>by simp at h
 | y::P,0,id,h,_,hn=>by
  simp at h;subst h;unfold kz;rw[if_pos hn]
 | y::P,k+1,id,h,h0,hn=>by
  unfold kz;rw[if_neg (by rw[h0 0 y (by omega) rfl];simp)];exact LU (by simpa using h) (fun j z u d=>h0 (j+1) z (by omega) (by simpa using d)) hn
theorem Nh {a b:List Int}{c:Nat}{x:Int}(h:∀y,y∈a↔y∈b):dN a c x=dN b c x:=by
 funext y;by_cases d:y.id∈a
 ·rw[pV d,pV ((h _).1 d)]
 ·rw[oH d,oH (fun hh=>d ((h _).2 hh))]
theorem Lx {s:PL}(hi:PI s)(id:Int):(dh s.N id).Nodup:=by
 obtain⟨rk,d⟩:=hi.tk;exact(xy d _ _).imp fun {a b} h e=>by subst e;omega
section
variable {w:World}{K:KV}{q:LB}{s:PL}
theorem Qg {z y C c:Nat}{x:Int}{P:List Int}{f:List Int→List Int×Int}(hz:blk w z 48 [pB q.p])(hy:blk w y 87 [.map (some C)])(hf:MB u6 rgV w C (P.map fun id=>(id,(f (aN s.N id)).1)))(az:z∉q.l)(av:C∉q.l)(h:PM w q s)(hi:PI s)(hP:∀id∈P,bL s.N id=true∧(f (aN s.N id)).1=(aN s.N id).set c (nA (aN s.N id) c+x))(hl:∀A,A.length=54→(f A).1.length=54)(hK:∀w',PM w' q {s with N:=s.N.map (dN P c x)}→Ch q.w w w'→K (.tuple #[]) w'):call Tryz.prog 180 #[pB y,pB z] K w:=by
 have R:=h.lt;have U:q.rm∈q.l:=by simp[LB.l]
 refine aB (goK func180) (yx (lK (v:=.map (some C)) hy rfl (Kh underlying87 hf fun w1 aS b1 s1=>?_)));have a4:=hf.lt;have X:C≠q.rm:=fun e=>av (e ▸ U);have al:w.heap.size≠q.rm:=fun e=>by have:=R _ U;omega
 refine wR (Inv:=fun wr=>∃done,IT u6 rgV wr w.heap.size C (P.map fun id=>(id,(f (aN s.N id)).1)) done∧PM wr q {s with N:=s.N.map (dN done c x)}∧blk wr z 48 [pB q.p]∧Ch q.w w wr∧w.heap.size+1≤wr.heap.size) (μ:=fun wr=>lX wr C w.heap.size)
  ⟨[],aS,by rw[vf];exact h.below b1,af b1 hz hz.lt,Ch.of_below b1,by omega⟩ ?_
 rintro dd w2 m ⟨done,an,p2,z2,c2,s2⟩ hm;refine Ki an (by omega) (fun I=>?_) fun id v w3 ad a2 j ap o3 a3=>?_
 ·refine vP rfl (bw (hK w2 ?_ c2));have M:=an.nodup.2.2;rw[List.map_map]at I M;have e:∀y,y∈done↔y∈P:=fun y=>⟨fun hh=>by simpa using M y hh,fun hh=>I y (by simpa using hh)⟩
  rw[←Nh e];exact p2
 ·obtain⟨d,Z,e1⟩:=List.mem_map.1 ad;simp only[Prod.mk.injEq]at e1;obtain⟨rfl,rfl⟩:=e1;obtain⟨hh,ag⟩:=hP d Z;have am:=hl _ (Bh hi d);refine vP rfl (bu (Kg ap (eB (eC (uA fun w4 r4 b4 s4=>sK rfl am r4 fun w5 r5 o5=>?_)))));have s3:=o3.size;have a0:w.heap.size∉q.l:=fun hh=>by have:=R _ hh;omega
  have p3:=p2.oth o3 a0;have z3:=o3.blk z2 (by have:=hz.lt;omega);have p5:=((p3.below b4).oth o5 fun hh=>by have:=R _ hh;omega).drew;have z5:=(o5.blk (af b4 z3 z3.lt) (by have:=z3.lt;omega)).drew;have V:Ch [w3.heap.size] w3 w5:=(Ch.of_below b4:Ch [w3.heap.size] w3 w4).trans (Ch.of_oth o5 (by simp):Ch [w3.heap.size] w4 w5) (fun x hx=>.inl hx)
  have c3:Ch q.w w w3:=c2.trans (Ch.of_oth o3 (by simp):Ch [w.heap.size] w2 w3) (by simp);have c5:Ch q.w w w5.drew:=(c3.trans V (by
   intro k hk;have hk:k=w3.heap.size:=by simpa using hk
   exact .inr (by omega))).trans (Ch.of_below (Below.refl _ w5).drew:Ch [] w5 w5.drew) (by simp)
  have s5:=V.size;have k5:∀k,k<w3.heap.size→w5.drew.heap[k]? = w3.heap[k]? := fun k hk=>(V.block k hk (by simp;omega))
  have ar:IT u6 rgV w5.drew w.heap.size C _ (done++[d]):=j.kept (k5 _ j.lt.2) (k5 _ j.lt.1);refine aE (fun u=>PM u q {s with N:=s.N.map (dN done c x)}∧blk u z 48 [pB q.p]∧blk u w3.heap.size 36 ((f (aN s.N d)).1.map iv)) ⟨p5,z5,r5.drew⟩ ?_;refine ab (fun u J _=>lK (v:=pB q.p) J.2.1 rfl) (ab (fun u J _=>aw) (ab (fun u J _=>pR) ?_))
  refine ab (fun u J _=>lK (v:=.map (some q.rm)) J.1.b (by rw[Nat.zero_add];exact J.1.c20)) <|ab (fun u J _=>oP am J.2.2) ?_;refine p5.put_c hi a2 hh ag fun w6 p6 o6=>⟨⟨done++[d],?_,p6,?_,?_,by rw[o6.size];show _≤w5.heap.size;omega⟩,?_⟩
  ·exact ar.kept (o6.other _ X) (o6.other _ al)
  ·exact o6.blk z5 fun e=>az (e ▸ U)
  ·exact c5.trans (Ch.of_oth o6 (by simp):Ch [q.rm] w5.drew w6) (by simp[LB.w])
  ·rw[hm];have e1:lX w6 C w.heap.size=lX w3 C w.heap.size:=ul ((o6.other _ X).trans (k5 _ j.lt.2)) ((o6.other _ al).trans (k5 _ j.lt.1));omega
theorem JY {node x:Int}{c:Nat}{f:List Int→List Int×Int}{tv:Value}(h:PM w q s)(hi:PI s)(hl:∀A,A.length=54→(f A).1.length=54)(av:∀A,(f A).2=0→(f A).1=A.set c (nA A c+x))(ag:∀A,A.length=54→∀w1,Below w.heap.size w w1→∀K':KV,(∀w2,Below w1.heap.size w1 w2→K' (.tuple #[rgV (f A).1,.int .i64 (f A).2]) w2)→dC Tryz.prog tv #[rgV A] K' w1)(no:∀w',kz (fun A=>(f A).2) s.N (dh s.N node)≠0→Below w.heap.size w w'→K (.tuple #[.nilFunc,.int .i64 (kz (fun A=>(f A).2) s.N (dh s.N node))]) w')(az:kz (fun A=>(f A).2) s.N (dh s.N node)=0→∀w' fv,fv.oneCell'=true→Below w.heap.size w w'→Ua w' q {s with N:=s.N.map (dN (dh s.N node) c x)} fv→K (.tuple #[fv,.int .i64 0]) w'):call Tryz.prog 166 #[pB q.p,u6 node,tv] K w:=by
 have a0:=h.lt;obtain⟨rk,a4⟩:=hi.tk;have be:=hi.len30;have al:=hi.plen node;have Z:=Lx hi node;have R:∀id∈dh s.N node,bL s.N id=true:=fun id=>mq;refine aB (goK func166) (An (dc fun w1 h1 b1 s1=>vl underlying87 rfl u6 rgV fun w2 m2 b2 s2=>dH (z:=.map none) (by kernel_rfl) fun w3 h3 b3 s3=>?_));have h1:blk w1 w.heap.size 48 [pB q.p]:=by simpa[Value.cells]using h1
 have h3:blk w3 w2.heap.size 87 [.map none]:=by simpa[Value.cells]using h3
 refine dY (fun _=>by kernel_rfl) h3 (by show 0<1;decide) rfl fun w4 h4 o4=>?_;have h4:blk w4 w2.heap.size 87 [.map (some w1.heap.size)]:=h4;have M:Below w.heap.size w w4:=bA (b1.trans ((b2.mono (by omega)).trans (b3.mono (by omega)))) o4 (by omega);have z4:blk w4 w.heap.size 48 [pB q.p]:=o4.blk (af b3 (af b2 h1 h1.lt) (by omega)) (by omega);have m4:=(m2.below b3).oth o4 (by omega)
 have p4:=h.below M;have s4:w4.heap.size=w.heap.size+3:=by rw[o4.size];omega
 rw[show w2.heap.size=w.heap.size+2 by omega]at h4 ⊢;rw[s1]at h4 m4;refine lK (v:=pB q.p) z4 rfl (aw (vi (lK (v:=pB q.t) p4.b (by rw[Nat.zero_add];exact p4.c18) ?_)));refine HD a4 p4.tm (by rw[HA];omega) fun w5 a ca ho b5=>bx underlying76 ?_;change World.ownsRow w5 w4.heap.size _ 1 (.slice a (dh s.N node).length ca) (dh s.N node).length ((dh s.N node).map u6)at ho;show kN K _ w5
 obtain⟨P,an⟩:∃P,P=dh s.N node:=⟨_,rfl⟩
 have ar:df (tr s.N) node=P:=by rw[an];rfl
 rw[ar];rw[←an]at al Z R no az ho;have I:IdR w5 w4.heap.size a ca P:=IdR.own ho rfl;have nz:∀b,w.heap.size≤b→b∉q.l:=fun b hb hh=>by have:=a0 _ hh;omega
 refine yv (Inv:=fun i wr=>∃k:Nat,i=iv (k:Nat)∧k≤P.length∧PM wr q s∧blk wr w.heap.size 48 [pB q.p]∧blk wr (w.heap.size+2) 87 [.map (some (w.heap.size+1))] ∧
   MB u6 rgV wr (w.heap.size+1) ((P.take k).map fun id=>(id,(f (aN s.N id)).1))∧IdR wr w4.heap.size a ca P∧Below w.heap.size w wr∧(∀j y,j<k→P[j]? = some y→(f (aN s.N y)).2=0)∧w.heap.size+3≤wr.heap.size)
  (μ:=fun i _=>P.length-(intOf i).toNat) ⟨0,rfl,Nat.zero_le _,p4.below b5,af b5 z4 z4.lt,af b5 h4 h4.lt,m4.below b5,I,M.trans (b5.mono M.size),fun j y hj=>by omega,by have:=b5.size;omega⟩ ?_
 rintro _ dd w6 m ⟨k,rfl,bi,p6,z6,y6,m6,am,u,hz,bd⟩ hm;refine aV ?_;by_cases d:k<P.length
 ·refine ay (by omega) (am.at2 d fun pt=>?_);have hx:P[k]? = some P[k]:=List.getElem?_eq_getElem d;generalize P[k]=id at hx;have bb:id∈P:=List.mem_of_getElem? hx;refine lK (v:=pB q.p) z6 rfl (aw (pR (lK (v:=.map (some q.rm)) p6.b (by rw[Nat.zero_add];exact p6.c20) ?_)))
  refine p6.rg_l hi (ag _ (Bh hi id) w6 u _ fun w7 U=>eB (eC (uA fun w8 r8 b8 s8=>sK rfl (hl _ (Bh hi id)) r8 fun w9 r9 o9=>cW ?_)));have C:=U.trans (b8.mono U.size);have V:Below w.heap.size w w9:=bA (u.trans (C.mono u.size)) o9 (by have:=U.size;omega);have s7:=U.size;by_cases h7:(f (aN s.N id)).2≠0
  ·refine ay h7 ?_;have ee:=LU (g:=fun A=>(f A).2) hx hz h7
   have:=no w9 (by rw[ee];exact h7) V
   rwa[ee]at this
  have h7:(f (aN s.N id)).2=0:=by simpa using h7
  have z9:=o9.blk (af C z6 z6.lt) (by have:=z6.lt;omega);have y9:=o9.blk (af C y6 y6.lt) (by have:=y6.lt;omega);have m9:=(m6.below C).oth o9 (by have:=m6.lt;omega);have p9:=(p6.below C).oth o9 (nz _ (by omega))
  refine au (by simp[h7]) (lK (v:=.map (some (w.heap.size+1))) y9 rfl (oP (hl _ (Bh hi id)) r9 (vm (v:=(f (aN s.N id)).1) u6K underlying87 m9 fun aS ap J=>aR (by omega) (by omega) ?_)));have ad:gA ((P.take k).map fun id=>(id,(f (aN s.N id)).1)) id=none:=by
   rw[vQ,List.map_map];intro hh;obtain⟨y,hy,e⟩:=List.mem_map.1 hh;have e:y=id:=e;subst e;obtain⟨i,hi2,e2⟩:=List.getElem_of_mem hy;rw[List.getElem_take]at e2;have a7:i<k:=by simp at hi2;omega
   have:=(List.pairwise_iff_getElem.1 Z) i k (by omega) d a7
   rw[List.getElem?_eq_getElem d]at hx;exact this (e2.trans (Option.some.inj hx).symm)
  rw[vn ad]at ap;have a3:P.take (k+1)=P.take k++[id]:=by rw[List.take_add_one,hx];rfl
  refine⟨⟨k+1,ivS,d,p9.oth J (nz _ (by omega)),J.blk z9 (by omega),J.blk y9 (by omega),by rw[a3,List.map_append];exact ap,?_,bA V J (by omega),fun j y hj hy=>?_,by rw[J.size,o9.size];omega⟩,by rw[hm];show P.length-((k:Int)+1).toNat<P.length-(k:Int).toNat;omega⟩
  ·have a6:∀g cs,blk w9 g 24 cs→blk aS g 24 cs:=fun g cs hb=>J.blk hb fun e=>by
    subst e;obtain⟨es,cc,a9⟩:=m9;exact xS a9.heap (by simp) _ hb
   refine((am.below C).imp fun g cs _ hb=>o9.blk hb fun e=>?_).imp fun g cs _=>a6 g cs;subst e;exact absurd (sJ hb r8) (by decide)
  ·by_cases e:j=k
   ·subst e;rw[hx]at hy;cases hy;exact h7
   ·exact hz j y (by omega) hy
 ·have a2:k=P.length:=by omega
  refine au (by omega) (yw ?_);have X:∀id∈P,(f (aN s.N id)).2=0:=fun id I=>by
   obtain⟨j,hj,e⟩:=List.getElem_of_mem I;exact hz j id (by omega) (by rw[List.getElem?_eq_getElem hj,e])
  rw[a2,List.take_length]at m6;refine az (xU.2 X) w6 _ rfl u fun w7 K2 U a8=>ia rfl ?_;exact Qg (af U z6 z6.lt) (af U y6 y6.lt) (m6.below U) (nz _ (by omega)) (nz _ (by omega)) (p6.below U) hi (fun id I=>⟨R id I,av _ (X id I)⟩) hl a8
end
end
section
open Go.RowKit Go.ChangeMaps
theorem Qh {R:List (List Int)}{k j:Nat}{r d:Int}(u:k<R.length):jf (R.set k (R.getD k []++[r])) j d=(jf R j d || (decide (j=k)&&decide (d=r))):=by
 unfold jf;rw[rl u];by_cases h:j=k
 ·subst h;rw[if_pos rfl,Bool.eq_iff_iff];simp
 ·rw[if_neg h];simp[h]
theorem Qi {G:List GR}{o f r:Int}:iA (G.map (mF o f r)) o f=(iA G o f).map fun g=>{g with b:=r}:=by
 unfold iA;rw[List.find?_map];have e:((fun g:GR=>g.o==o&&g.q==f) ∘ mF o f r)=fun g:GR=>g.o==o&&g.q==f:=by
  funext g;show ((mF o f r g).o==o&&(mF o f r g).q==f)=_;rw[(lZ g).1,(lZ g).2]
 rw[e];cases h:G.find? fun g=>g.o==o&&g.q==f with
 | none=>rfl
 | some g =>
  have d:=List.find?_some h;rw[Bool.and_eq_true,beq_iff_eq,beq_iff_eq]at d;simp only[Option.map_some]
  congr 1
  unfold mF;rw[if_pos d]
theorem Ni {s:PL}(hi:PI s){o r:Int}(h:jf s.R (o-1).toNat r=false):iA s.G o r=none:=by
 cases j:iA s.G o r with
 | none=>rfl
 | some g =>
  obtain⟨d,e1,e2⟩:=pW j
  have:=(hi.gk g d).2.2.2.2.2.2
  rw[e1,e2,h]at this;cases this
section
variable {w:World}{K:KV}{q:LB}{s:PL}{e:EV}
theorem PM.ask_c {o r:Int}(h:PM w q s)(h1:1≤o)(h6:o≤6)(V:s.R.length=6)(hK:∀w',PM w' q {s with R:=s.R.set (o-1).toNat (s.R.getD (o-1).toNat []++[r])}→Oth q.am w w'→K undef w'):eX Tryz.prog 89 (.map (some q.am)) (rqV (o,r)) (.bool true) K w:=by
 have nd:=h.nd;obtain⟨m,hm,Z⟩:=h.am;refine vm (v:=true) rqK underlying89 hm fun X C d=>hK X ?_ d;obtain⟨i6,l6,v6,b,tm,⟨m1,p1,e1⟩,⟨m2,p2,e2⟩,⟨m3,U,e3⟩,_,_,kd⟩:=h;refine⟨i6,l6,v6,d.blk b (LN.pa nd),tm.oth d (LN.ta nd) (LN.da nd),⟨m1,p1.oth d (LN.ma nd),e1⟩,⟨m2,p2.oth d (LN.ra nd),e2⟩,⟨m3,U.oth d (LN.ga nd),e3⟩,⟨_,C,fun j u I J=>?_⟩,nd,kd.keep (d.other 0 (LN.za nd))⟩
 rw[Bs,Z j u I J,Qh (by rw[V];omega)];by_cases hh:j=o∧u=r
 ·obtain⟨rfl,rfl⟩:=hh;simp
 ·rw[if_neg (by simpa using hh)]
  have:(decide ((j-1).toNat=(o-1).toNat)&&decide (u=r))=false:=by
   rw[Bool.eq_false_iff];intro M;rw[Bool.and_eq_true,decide_eq_true_eq,decide_eq_true_eq]at M;exact hh ⟨by omega,M.2⟩
  rw[this,Bool.or_false]
theorem PM.gm_c {g:GR}{G':List GR}(h:PM w q s)(I:s.G.Pairwise ltG)(u:G'.Pairwise ltG)(hG:∀o r,iA G' o r=if (o,r)=(g.o,g.q)then some g else iA s.G o r)(hK:∀w',PM w' q {s with G:=G'}→Oth q.gm w w'→K undef w'):eX Tryz.prog 88 (.map (some q.gm)) (rqV (g.o,g.q)) (grV g) K w:=by
 have nd:=h.nd;obtain⟨m,C,M⟩:=h.gm;refine vm (v:=g) rqK underlying88 C fun J j d=>hK J ?_ d;obtain⟨i6,l6,U,b,Z,⟨m1,R,e1⟩,⟨m2,p2,e2⟩,_,⟨m4,p4,X⟩,_,V⟩:=h;refine⟨i6,l6,U,d.blk b (LN.pg nd),Z.oth d (LN.tg nd) (LN.dg nd),⟨m1,R.oth d (LN.mg nd),e1⟩,⟨m2,p2.oth d (LN.rg nd),e2⟩,⟨_,j,?_⟩,⟨m4,p4.oth d (LN.ag nd),X⟩,nd,V.keep (d.other 0 (LN.zg nd))⟩
 refine IS (uk C.nodup) (Br u) fun y=>?_;obtain⟨o,r⟩:=y;rw[Bs,mn M (Br I),xR,xR,hG]
theorem xZ {b:Nat}{o r:Int}(d:blk w b 98 [iv o,u6 r])(h:K (rqV (o,r)) w):ld Tryz.prog 98 (pB b) K w :=
 ldA (n:=2) (vs:=[iv o,u6 r]) underlying98 rfl (by kernel_rfl) d rfl rfl h
theorem Sj {o r:Int}{K2:Value→KV}(h:∀w',blk w' w.heap.size 98 [iv o,u6 r]→Below w.heap.size w w'→K2 (pB w.heap.size) undef w'):alc Tryz.prog 98 (fun b=>sto Tryz.prog 98 b (.agg [iv o,u6 r].toArray) (K2 b)) w:=by
 refine dH (z:=.agg #[iv 0,u6 0]) (by kernel_rfl) fun I d b1 s1=>?_;have d:blk I w.heap.size 98 [iv 0,u6 0]:=by simpa[Value.cells,iv,u6]using d
 exact iz (n:=2) (by kernel_rfl) rfl d (by simp) (by simp[iv,u6,Value.oneCell']) fun C j u=>h C (by simpa using j) (bA b1 u (Nat.le_refl _))
theorem Qj {z:Nat}{A:List Int}(j:A.length=54)(u:blk w (z+1) 54 (evC e))(hK:∀w',Below w.heap.size w w'→K (.tuple #[rgV (iu A e.o e.a).1,.int .i64 (iu A e.o e.a).2]) w'):call Tryz.prog 167 #[rgV A,pB (z+1)] K w:=by
 have I:=Gk (i:=e.o) (x:=e.a) j;refine aB (goK func167) (yy (GQ fun U r1 b1 s1=>uA fun X t2 b2 s2=>?_));have d:=b1.trans (b2.mono (by omega));have h:=af d u u.lt;refine oP j (af b2 r1 r1.lt) (bS (lK (v:=iv e.o) h rfl (dQ (lK (v:=iv e.a) h rfl ?_))));refine Tn j fun R C=>eB (eC (sK rfl I (af C t2 t2.lt) fun V J M=>?_))
 exact GS (fun _=>oP I J) (hK _ (bA (d.trans (C.mono d.size)) M (by omega)))
theorem Qk {z x y:Nat}{fv:Value}(g:LV w z q e)(hx:blk w x 93 [fv])(hy:blk w y 98 [iv e.o,u6 e.r])(hq:∀k∈q.l,k<z)(ap:z≤x)(al:z≤y)(hi:PI s)(hm:eE e=true)(I:e.k=3)(J:jf s.R e.q e.r=false)(hh:bL s.N e.n=true)(hf:∀K2:KV,(∀C,PM C q {s with N:=s.N.map (dN (dh s.N e.n) (6+e.q) e.a)}→Ch q.w w C→K2 (.tuple #[]) C)→dC Tryz.prog fv #[] K2 w)(hK:∀w',PM w' q (pC e s)→Ch q.w w w'→K (.tuple #[]) w'):call Tryz.prog 169 #[pB x,pB z,pB y,pB (z+1)] K w:=by
 have U:=gJ hm;have hw:∀k∈q.w,k<z:=fun k I=>hq k (LB.wl k I);have zn:∀b,z≤b→b∉q.w:=fun b hb hh=>by have:=hw b hh;omega
 refine aB (goK func169) (yz (lK (v:=fv) hx rfl (hf _ fun V X c1=>?_)));have g1:=(g.ch c1 fun k I=>.inl (hw k I)).drew;have y1:=(hy.ch c1 (zn _ al)).drew;have X:=X.drew;refine aE (fun u=>LV u z q e∧blk u y 98 [iv e.o,u6 e.r]∧PM u q {s with N:=s.N.map (dN (dh s.N e.n) (6+e.q) e.a)}) ⟨g1,y1,X⟩ ?_;refine ab (fun u d _=>lK (v:=pB q.p) d.1.l rfl) (ab (fun u d _=>aw) (ab (fun u d _=>Bo) ?_))
 refine ab (fun u d _=>lK (v:=.map (some q.am)) d.2.2.b (by rw[Nat.zero_add];exact d.2.2.c28)) <|ab (fun u d _=>xZ d.2.1) ?_;refine X.ask_c U.1 U.2.1 hi.r6 fun w2 Z o2=>?_;have ag:q.am<z:=hq _ (by simp[LB.l]);have an:q.gm<z:=hq _ (by simp[LB.l]);have g2:=(g1.oth o2 (.inl ag)).drew;have y2:=(o2.blk y1 (by omega)).drew;have Z:=Z.drew
 refine aE (fun u=>LV u z q e∧blk u y 98 [iv e.o,u6 e.r]∧PM u q {s with N:=s.N.map (dN (dh s.N e.n) (6+e.q) e.a),R:=s.R.set (e.o-1).toNat (s.R.getD (e.o-1).toNat []++[e.r])}) ⟨g2,y2,Z⟩ ?_;refine ab (fun u d _=>lK (v:=pB q.p) d.1.l rfl) (ab (fun u d _=>aw) (ab (fun u d _=>Bn) ?_))
 refine ab (fun u d _=>lK (v:=.map (some q.gm)) d.2.2.b (by rw[Nat.zero_add];exact d.2.2.c27)) <|ab (fun u d _=>xZ d.2.1) ?_;refine ab (fun u d _=>bS) (ab (fun u d _=>lK (v:=iv e.o) d.1.e rfl) ?_);refine ab (fun u d _=>gS) (ab (fun u d _=>lK (v:=u6 e.r) d.1.e rfl) ?_);refine ab (fun u d _=>eO) (ab (fun u d _=>lK (v:=u6 e.n) d.1.e rfl) ?_)
 refine ab (fun u d _=>dQ) (ab (fun u d _=>lK (v:=iv e.a) d.1.e rfl) ?_);refine ab (fun u d _=>fS (vs:=grC ⟨e.o,e.r,e.n,e.a,0⟩) (by kernel_rfl)) ?_;have h:iA s.G e.o e.r=none:=Ni hi J;have M:(ib ⟨e.o,e.r,e.n,e.a,0⟩ s.G).Pairwise ltG:=Ae hi.gs fun y hy hh=>by
  have hg:iA s.G y.o y.q≠none:=by
   unfold iA;intro hn
   have:=List.find?_eq_none.1 hn y hy
   simp at this
  rw[hh.1,hh.2]at hg;exact hg h
 have j:(grL (ib ⟨e.o,e.r,e.n,e.a,0⟩ s.G)).Perm (grL s.G++[((e.o,e.r),⟨e.o,e.r,e.n,e.a,0⟩)]):=(insG_perm.map _).trans (List.perm_append_singleton _ _).symm;refine Z.gm_c (g:=⟨e.o,e.r,e.n,e.a,0⟩) (G':=ib ⟨e.o,e.r,e.n,e.a,0⟩ s.G) hi.gs M (fun o r=>?_) fun C p3 o3=>hK C ?_ ?_
 ·have ad:((grL s.G++[((e.o,e.r),(⟨e.o,e.r,e.n,e.a,0⟩:GR))]).map (·.1)).Nodup:=(j.map (·.1)).nodup_iff.1 (Br M);show _=if (o,r)=(e.o,e.r)then _ else _
  rw[←xR,mn j ad, ←vn (m:=grL s.G) (x:=(e.o,e.r)) (by rw[xR];exact h),Bs, ←xR]
 ·rw[SN I];exact p3
 ·have c2:Ch q.w w w2:=(c1.trans (Ch.of_below (Below.refl _ V).drew:Ch [] V V.drew) (by simp)).trans (Ch.of_oth o2 (by simp):Ch [q.am] V.drew w2) (by simp[LB.w]);exact(c2.trans (Ch.of_below (Below.refl _ w2).drew:Ch [] w2 w2.drew) (by simp)).trans (Ch.of_oth o3 (by simp):Ch [q.gm] w2.drew C) (by simp[LB.w])
theorem Sk (h:PM w q s)(hi:PI s)(hm:eE e=true)(hk:e.k=3)(kd:Kind w q s e K):call Tryz.prog 156 #[pB q.p,.agg (evC e).toArray] K w:=by
 have ap:=kd.y;obtain⟨no,_⟩:=kd;obtain⟨a2,ho⟩:=pY hm;have ag:=gJ hm;have al:=h.lt;have d:eM e s=if jf s.R e.q e.r=true then 14 else if bL s.N e.n=false then 9 else kz (fun A=>(iu A e.o e.a).2) s.N (dh s.N e.n):=by unfold eM;rw[if_neg (by omega),if_neg (by omega),if_pos hk]
 refine aB (goK func156) (Ao (LE.make fun w1 g1 s1=>?_));have p1:=h.below g1.bel;refine bS (lK (v:=iv e.o) g1.e rfl (gS (lK (v:=u6 e.r) g1.e rfl (fS (vs:=[iv e.o,u6 e.r]) (by kernel_rfl) (Sj fun w2 y2 b2=>?_)))));have g2:=(g1.fresh b2).drew;have p2:=(p1.below b2).drew;have y2:=y2.drew;have zy:w.heap.size+2≤w1.heap.size:=g1.sz
 refine aa (fun _=>lK (v:=pB q.p) g2.l rfl) (aa (fun _=>aw) (aa (fun _=>Bo) ?_));refine aa (fun _=>lK (v:=.map (some q.am)) p2.b (by rw[Nat.zero_add];exact p2.c28)) (aa (fun _=>xZ y2) (aa (fun _=>p2.ask_l ag.1 ag.2.1) ?_));rw[show (e.o-1).toNat=e.q from rfl];cases j:jf s.R e.q e.r with
 | true =>
  rw[j,if_pos rfl]at d
  have:=no _ (by rw[d];decide) g2.bel
  rw[d]at this;exact bu this
 | false =>
 rw[j,if_neg (by simp)]at d;have M:=g2.drew;have p3:=p2.drew;refine bw (aE (fun u=>LE w u q e∧PM u q s) ⟨M,p3⟩ ?_);refine ab (fun u C _=>lK (v:=pB q.p) C.1.l rfl) (ab (fun u C _=>aw) (ab (fun u C _=>vi) ?_));refine ab (fun u C _=>lK (v:=pB q.t) C.2.b (by rw[Nat.zero_add];exact C.2.c18)) ?_;refine ab (fun u C _=>eO) (ab (fun u C _=>lK (v:=u6 e.n) C.1.e rfl) ?_)
 refine Gr p3.tm (aE (fun _=>True) trivial (ab (fun u C _=>eh) ?_));rw[jF];cases hh:bL s.N e.n with
 | false =>
  rw[hh,if_pos rfl]at d
  have:=no _ (by rw[d];decide) M.bel
  rw[d]at this;exact bu this
 | true =>
 rw[hh,if_neg (by simp)]at d;refine bw (lK (v:=pB q.p) M.l rfl (eO (lK (v:=u6 e.n) M.e rfl ?_)));refine JY (f:=fun A=>iu A e.o e.a) (c:=6+e.q) (x:=e.a) p3 hi (fun A hA=>Gk hA) (fun A hA=>KC hA) (fun A hA I V K' an => ia rfl (Qj hA (M.fresh V).e an)) (fun I X V=>?_) fun h0 I fv aS V av=>?_
 ·have g4:=M.fresh V;refine eB (eC (dH (z:=.nilFunc) (by kernel_rfl) fun w5 U b5 s5=>?_));have U:blk w5 I.heap.size 93 [.nilFunc]:=by simpa[Value.cells]using U
  refine dY (fun _=>by kernel_rfl) U (by simp) rfl fun w6 Z o6=>rB (cW (ay X ?_))
  have:=no w6 (by rw[d];exact X) (bA (g4.fresh b5).bel o6 (by have:=g4.sz;omega))
  rwa[d]at this
 ·have g4:=M.fresh V;refine eB (eC (dH (z:=.nilFunc) (by kernel_rfl) fun w5 U b5 s5=>?_));have U:blk w5 I.heap.size 93 [.nilFunc]:=by simpa[Value.cells]using U
  refine dY (fun _=>by kernel_rfl) U (by simp) aS fun w6 Z o6=>rB (cW (au (by simp) ?_));have Z:blk w6 I.heap.size 93 [fv]:=Z;have J:Below I.heap.size I w6:=bA b5 o6 (Nat.le_refl _);have g6:=g4.fresh J;have a0:=g4.sz;refine ap (by rw[d];exact h0) w6 _ g6.bel fun w7 K2 b7 ar=>ia rfl ?_;have ad:Below I.heap.size I w7:=J.trans (b7.mono J.size);have y4:=af V y2.drew y2.lt
  exact Qk (g6.fresh b7).lv (af b7 Z Z.lt) (af ad y4 y4.lt) al (by omega) (by omega) hi hm hk j hh (fun K3 az=>av w7 K3 ad az) ar
end
end
section
open Go.RowKit Go.ChangeMaps
section
variable {w:World}{K:KV}{q:LB}{s:PL}{e:EV}
theorem DV (h:∀w',blk w' w.heap.size 98 [iv 0,u6 0]→Below w.heap.size w w'→w'.heap.size=w.heap.size+1→K (pB w.heap.size) w'):alc Tryz.prog 98 K w :=
 dH (z:=.agg #[iv 0,u6 0]) (by kernel_rfl) fun j d b1 s1=>h j (by simpa[Value.cells,iv,u6]using d) b1 s1
theorem LW {b:Nat}{o r:Int}(C:blk w b 98 [iv 0,u6 0])(h:∀w',blk w' b 98 [iv o,u6 r]→Oth b w w'→K undef w'):sto Tryz.prog 98 (pB b) (.agg [iv o,u6 r].toArray) K w :=
 iz (n:=2) (by kernel_rfl) rfl C (by simp) (by simp[iv,u6,Value.oneCell']) fun u d j=>h u (by simpa using d) j
theorem V7 {S0:World→Prop}{T:Value→Value→(World→Prop)→World→Prop}(u:∀w',Below w.heap.size w w'→S0 w')(h:∀w' C bk,blk w' C 98 [iv 0,u6 0]→blk w' bk 98 [iv 0,u6 0]→C≠bk→w.heap.size≤C→w.heap.size≤bk→Below w.heap.size w w'→T (pB C) (pB bk) S0 w'):(alc Tryz.prog 98 (fun i=>bF S0 fun S=>alc Tryz.prog 98 fun k=>bF S fun S=>T i k S) w)∧(alc Tryz.prog 98 (fun k=>bF S0 fun S=>alc Tryz.prog 98 fun i=>bF S fun S=>T i k S) w):=by
 refine⟨DV fun M d b1 s1=>aO (u _ b1) (DV fun J I b2 s2=>?_),DV fun M d b1 s1=>aO (u _ b1) (DV fun J I b2 s2=>?_)⟩
 ·have j:=b1.trans (b2.mono (by omega));exact aO (u _ j) (h J _ _ (af b2 d d.lt) I (by omega) (by omega) (by omega) j)
 ·have j:=b1.trans (b2.mono (by omega));exact aO (u _ j) (h J _ _ I (af b2 d d.lt) (by omega) (by omega) (by omega) j)
theorem Ql {z y:Nat}{A:List Int}{g:GR}(u:A.length=54)(C:blk w (z+1) 54 (evC e))(I:blk w y 100 (grC g))(hK:∀w',Below w.heap.size w w'→K (.tuple #[rgV (iw A e.o g.a).1,.int .i64 (iw A e.o g.a).2]) w'):call Tryz.prog 170 #[rgV A,pB (z+1),pB y] K w:=by
 have M:=Gl (i:=e.o) (x:=g.a) u;refine aB (goK func170) (yB (GQ fun X r1 b1 s1=>uA fun w2 t2 b2 s2=>?_));have d:=b1.trans (b2.mono (by omega));have j:=af d C C.lt;have h:=af d I I.lt;refine oP u (af b2 r1 r1.lt) (bS (lK (v:=iv e.o) j rfl (Lm (lK (v:=iv g.a) h rfl ?_))));refine To u fun V J=>eB (eC (sK rfl M (af J t2 t2.lt) fun Z R U=>?_))
 exact GS (fun _=>oP M R) (hK _ (bA (d.trans (J.mono d.size)) U (by omega)))
theorem Qm {z x y v u:Nat}{fv:Value}{gr:GR}(g:LV w z q e)(hx:blk w x 93 [fv])(hy:blk w y 98 [iv e.o,u6 e.r])(hv:blk w v 100 (grC gr))(d:blk w u 98 [iv e.o,u6 e.f])(V:∀k∈q.l,k<z)(az:z≤x)(ar:z≤y)(ag:z+2≤v)(ap:z≤u)(hi:PI s)(hm:eE e=true)(I:e.k=4)(hg:iA s.G e.o e.f=some gr)(hf:∀K2:KV,(∀h,PM h q {s with N:=s.N.map (dN (dh s.N gr.n) (12+e.q) gr.a)}→Ch q.w w h→K2 (.tuple #[]) h)→dC Tryz.prog fv #[] K2 w)(hK:∀w',PM w' q (pC e s)→Ch (v::q.w) w w'→K (.tuple #[]) w'):call Tryz.prog 172 #[pB x,pB z,pB y,pB (z+1),pB v,pB u] K w:=by
 have J:=gJ hm;have hw:∀k∈q.w,k<z:=fun k I=>V k (LB.wl k I);have zn:∀b,z≤b→b∉q.w:=fun b hb hh=>by have:=hw b hh;omega
 obtain⟨_,go,gq⟩:=pW hg;refine aB (goK func172) (yC (lK (v:=fv) hx rfl (hf _ fun M U C=>?_)));have g1:=(g.ch C fun k I=>.inl (hw k I)).drew;have y1:=(hy.ch C (zn _ ar)).drew;have v1:=(hv.ch C (zn _ (by omega))).drew;have u1:=(d.ch C (zn _ ap)).drew;have U:=U.drew
 refine aE (fun k=>LV k z q e∧blk k y 98 [iv e.o,u6 e.r]∧PM k q {s with N:=s.N.map (dN (dh s.N gr.n) (12+e.q) gr.a)}) ⟨g1,y1,U⟩ ?_;refine ab (fun u d _=>lK (v:=pB q.p) d.1.l rfl) (ab (fun u d _=>aw) (ab (fun u d _=>Bo) ?_));refine ab (fun u d _=>lK (v:=.map (some q.am)) d.2.2.b (by rw[Nat.zero_add];exact d.2.2.c28)) <|ab (fun u d _=>xZ d.2.1) ?_
 refine U.ask_c J.1 J.2.1 hi.r6 fun w2 p2 Z=>?_;have ad:q.am<z:=V _ (by simp[LB.l]);have av:q.gm<z:=V _ (by simp[LB.l]);have g2:=g1.oth Z (.inl ad);have v2:=Z.blk v1 (by omega);have u2:=Z.blk u1 (by omega);refine gS (lK (v:=u6 e.r) g2.e rfl (Gc (dY (fun _=>by kernel_rfl) v2 (by simp[grC]) rfl fun h j X=>?_)));have j:blk h v 100 (grC {gr with b:=e.r}):=j
 have g3:=(g2.oth X (.inr ag)).drew;have uv:u≠v:=fun e=>absurd (sJ u2 (e ▸ v2)) (by decide);have u3:=(X.blk u2 uv).drew;have p3:=(p2.oth X fun hh=>by have:=V _ hh;omega).drew;have j:=j.drew
 refine aE (fun k=>LV k z q e∧blk k u 98 [iv e.o,u6 e.f]∧blk k v 100 (grC {gr with b:=e.r})∧PM k q {s with N:=s.N.map (dN (dh s.N gr.n) (12+e.q) gr.a),R:=s.R.set (e.o-1).toNat (s.R.getD (e.o-1).toNat []++[e.r])}) ⟨g3,u3,j,p3⟩ ?_;refine ab (fun u d _=>lK (v:=pB q.p) d.1.l rfl) (ab (fun u d _=>aw) (ab (fun u d _=>Bn) ?_))
 refine ab (fun u d _=>lK (v:=.map (some q.gm)) d.2.2.2.b (by rw[Nat.zero_add];exact d.2.2.2.c27)) <|ab (fun u d _=>xZ d.2.1) <|ab (v:=grV {gr with b:=e.r}) (fun u d _=>ldA (n:=5) (vs:=grC {gr with b:=e.r}) underlying100 rfl (by kernel_rfl) d.2.2.1 rfl rfl) ?_;have ek:rqV (e.o,e.f)=rqV (({gr with b:=e.r}:GR).o,({gr with b:=e.r}:GR).q):=by show _=rqV (gr.o,gr.q);rw[go,gq]
 rw[ek];have an:(s.G.map (mF e.o e.f e.r)).Pairwise ltG:=by
  rw[List.pairwise_map];refine hi.gs.imp fun {x y} al=>?_;unfold ltG at *;rw[(lZ x).1,(lZ x).2,(lZ y).1,(lZ y).2];exact al
 refine p3.gm_c (g:={gr with b:=e.r}) (G':=s.G.map (mF e.o e.f e.r)) hi.gs an (fun o r=>?_) fun w4 p4 o4=>hK w4 ?_ ?_
 ·show _=if (o,r)=(gr.o,gr.q)then _ else _
  rw[show (gr.o,gr.q)=(e.o,e.f)by rw[go,gq]];by_cases hh:(o,r)=(e.o,e.f)
  ·rw[if_pos hh];obtain⟨rfl,rfl⟩:=Prod.mk.inj hh;rw[Qi,hg];rfl
  ·rw[if_neg hh];refine Fr lZ fun y e1 e2=>?_;unfold mF;rw[if_neg fun h2=>hh (by rw[←e1, ←e2,h2.1,h2.2])]
 ·rw[SP I]
  have:gOf s e=gr:=by unfold gOf;rw[hg];rfl
  rw[this];exact p4
 ·have c2:Ch (v::q.w) w w2:=((C.mono fun x hx=>List.mem_cons_of_mem _ hx).trans (Ch.of_below (Below.refl _ M).drew:Ch [] M M.drew) (by simp)).trans (Ch.of_oth Z (by simp):Ch [q.am] M.drew w2) (by simp[LB.w])
  exact((c2.trans (Ch.of_oth X (by simp):Ch [v] w2 h) (by simp)).trans (Ch.of_below (Below.refl _ h).drew:Ch [] h h.drew) (by simp)).trans (Ch.of_oth o4 (by simp):Ch [q.gm] h.drew w4) (by simp[LB.w])
theorem Sl (h:PM w q s)(hi:PI s)(hm:eE e=true)(hk:e.k=4)(kd:Kind w q s e K):call Tryz.prog 157 #[pB q.p,.agg (evC e).toArray] K w:=by
 obtain⟨no,a0⟩:=kd;obtain⟨a7,ho⟩:=pY hm;have ap:=gJ hm;have I:=h.lt;have j:eM e s=if jf s.R e.q e.r=true then 14 else match iA s.G e.o e.f with|none=>12|some g=>if g.b≠0 then 12 else kz (fun A=>(iw A e.o g.a).2) s.N (dh s.N g.n):=by unfold eM;rw[if_neg (by omega),if_neg (by omega),if_neg (by omega),if_pos hk];rfl
 refine aB (goK func157) (Ap (LE.make fun w1 g1 s1=>?_));have g1:=g1.drew;have p1:=h.below g1.bel;refine aE (fun u=>LE w u q e∧PM u q s) ⟨g1,p1⟩ ?_;refine ab (fun u d _=>bS) (ab (fun u d _=>lK (v:=iv e.o) d.1.e rfl) ?_);refine ab (fun u d _=>gS) (ab (fun u d _=>lK (v:=u6 e.r) d.1.e rfl) ?_);refine ab (fun u d _=>fS (vs:=[iv e.o,u6 e.r]) (by kernel_rfl)) ?_
 refine ab (fun u d _=>bS) (ab (fun u d _=>lK (v:=iv e.o) d.1.e rfl) ?_);refine ab (fun u d _=>po) (ab (fun u d _=>lK (v:=u6 e.f) d.1.e rfl) ?_);refine ab (fun u d _=>fS (vs:=[iv e.o,u6 e.f]) (by kernel_rfl)) ?_;refine V7 (fun w' b=>⟨g1.fresh b,p1.below b⟩) fun w2 bi bk i2 k2 al zi zk b2=>?_;have z2:w.heap.size+2≤w1.drew.heap.size:=g1.sz;have zi:w.heap.size+2≤bi:=Nat.le_trans z2 zi
 have zk:w.heap.size+2≤bk:=Nat.le_trans z2 zk;have g2:=g1.fresh b2;have p2:=p1.below b2;refine LW i2 fun w3 i3 o3=>?_;have g3:=g2.oth o3 zi;have p3:=p2.oth o3 fun hh=>by have:=I _ hh;omega
 have k3:=o3.blk k2 (fun e=>al e.symm);refine aO ⟨g3,p3⟩ (LW k3 fun w4 k4 o4=>?_);have i4:=(o4.blk i3 al).drew;have k4:=k4.drew;have g4:=(g3.oth o4 zk).drew;have p4:=(p3.oth o4 fun hh=>by have:=I _ hh;omega).drew;refine aa (fun _=>lK (v:=pB q.p) g4.l rfl) (aa (fun _=>aw) (aa (fun _=>Bo) ?_))
 refine aa (fun _=>lK (v:=.map (some q.am)) p4.b (by rw[Nat.zero_add];exact p4.c28)) (aa (fun _=>xZ i4) (aa (fun _=>p4.ask_l ap.1 ap.2.1) ?_));rw[show (e.o-1).toNat=e.q from rfl];cases X:jf s.R e.q e.r with
 | true =>
  rw[X,if_pos rfl]at j
  have:=no _ (by rw[j];decide) g4.bel
  rw[j]at this;exact bu this
 | false =>
 rw[X,if_neg (by simp)]at j;have g5:=g4.drew;have p5:=p4.drew;have i5:=i4.drew;have k5:=k4.drew;refine bw (aE (fun u=>LE w u q e∧PM u q s∧blk u bk 98 [iv e.o,u6 e.f]) ⟨g5,p5,k5⟩ ?_);refine ab (fun u d _=>lK (v:=pB q.p) d.1.l rfl) (ab (fun u d _=>aw) (ab (fun u d _=>Bn) ?_));refine ab (fun u d _=>lK (v:=.map (some q.gm)) d.2.1.b (by rw[Nat.zero_add];exact d.2.1.c27)) ?_
 refine ab (fun u d _=>xZ d.2.2) (ab (fun u d _=>d.2.1.gr_l hi) (ab (fun u d _=>eB) (ab (fun u d _=>eC) ?_)));generalize J:(iA s.G e.o e.f).getD ⟨0,0,0,0,0⟩=gr;refine dH (z:=grV ⟨0,0,0,0,0⟩) (by kernel_rfl) fun w6 v6 b6 s6=>?_;have v6:blk w6 w4.drew.drew.heap.size 100 (grC ⟨0,0,0,0,0⟩):=by simpa[Value.cells,grV]using v6
 have g6:=g5.fresh b6;have p6:=p5.below b6;have i6:=af b6 i5 i5.lt;have k6:=af b6 k5 k5.lt;have z6:w.heap.size+2≤w4.drew.drew.heap.size:=g5.sz;refine aO ⟨g6,p6,k6⟩ (iz (n:=5) (vs:=grC gr) (by kernel_rfl) rfl v6 (by simp[grC]) (qF _) fun w7 V o7=>?_);generalize hv:w4.drew.drew.heap.size=v at *;have V:blk w7 v 100 (grC gr):=V;have g7:=g6.oth o7 z6
 have p7:=p6.oth o7 fun hh=>by have:=I _ hh;omega
 have av:bi≠v:=fun e=>absurd (sJ i6 (e ▸ v6)) (by decide);have az:bk≠v:=fun e=>absurd (sJ k6 (e ▸ v6)) (by decide);have i7:=o7.blk i6 av;have k7:=o7.blk k6 az;refine aO ⟨g7,p7,k7⟩ (yA (eh ?_));cases hq:iA s.G e.o e.f with
 | none =>
  rw[hq]at j;have j:eM e s=12:=j;refine fK (db (bu ?_))
  have:=no _ (by rw[j];decide) g7.bel
  rwa[j]at this
 | some g0 =>
 rw[hq]at j J;have J:g0=gr:=J;subst J;simp only at j;refine nR (Gc (lK (v:=u6 g0.b) V rfl (cW (fm ?_))));by_cases hb:g0.b≠0
 ·refine ay hb ?_;rw[if_pos hb]at j
  have:=no _ (by rw[j];decide) g7.bel
  rwa[j]at this
 rw[if_neg hb]at j;refine au hb (lK (v:=pB q.p) g7.l rfl (Ll (lK (v:=u6 g0.n) V rfl ?_)));refine JY (f:=fun A=>iw A e.o g0.a) (c:=12+e.q) (x:=g0.a) p7 hi (fun A hA=>Gl hA) (fun A hA=>KG hA) (fun A hA U M K' aS => ia rfl (Ql hA (g7.fresh M).e (af M V V.lt) aS)) (fun U an M=>?_) fun h0 U fv ar M a3=>?_
 ·have g8:=g7.fresh M;refine eB (eC (dH (z:=.nilFunc) (by kernel_rfl) fun w9 x9 b9 s9=>?_));have x9:blk w9 U.heap.size 93 [.nilFunc]:=by simpa[Value.cells]using x9
  refine dY (fun _=>by kernel_rfl) x9 (by simp) rfl fun w10 x10 ag=>cW (ay an ?_)
  have:=no w10 (by rw[j];exact an) (bA (g8.fresh b9).bel ag (by have:=g8.sz;omega))
  rwa[j]at this
 ·have g8:=g7.fresh M;refine eB (eC (dH (z:=.nilFunc) (by kernel_rfl) fun w9 x9 b9 s9=>?_));have x9:blk w9 U.heap.size 93 [.nilFunc]:=by simpa[Value.cells]using x9
  refine dY (fun _=>by kernel_rfl) x9 (by simp) ar fun w10 x10 ag=>cW (au (by simp) ?_);have x10:blk w10 U.heap.size 93 [fv]:=x10;have ad:Below U.heap.size U w10:=bA b9 ag (Nat.le_refl _);have g10:=g8.fresh ad;have a6:=g8.sz;refine a0 (by rw[j];exact h0) w10 _ g10.bel ⟨[v],by simp;omega,fun w11 K2 Z a2=>ia rfl ?_⟩;have C:Below U.heap.size U w11:=ad.trans (Z.mono ad.size)
  have i8:=af M i7 i7.lt;have k8:=af M k7 k7.lt;have v8:=af M V V.lt;exact Qm (g10.fresh Z).lv (af Z x10 x10.lt) (af C i8 i8.lt) (af C v8 v8.lt) (af C k8 k8.lt) I (by omega) (by omega) z6 (by omega) hi hm hk hq (fun K3 a4=>a3 w11 K3 C a4) a2
end
end
section
open Go.RowKit Go.ChangeMaps
theorem DoesB.mono {B B':Nat}{w':World}{q:LB}{s1:PL}{fv:Value}(h:DoesB B w' q s1 fv)(C:B'≤B):DoesB B' w' q s1 fv:=by
 obtain⟨X,u,j⟩:=h;exact⟨X,fun k d=>Nat.le_trans C (u k d),j⟩
section
variable {w:World}{K:KV}{q:LB}{s:PL}{e:EV}
theorem xO {cx cy:Bool}{b:Nat}(h:K (.bool false) w):bin Tryz.prog .eql 48 cx cy (pB b) (.pointer none) K w :=
 lW (by unfold eqG eqGuard;rfl) (by kernel_rfl) h
theorem PM.cutV (h:PM w q s):((plC q s).drop 12).take 6=vCs s.V:=by
 unfold plC;rw[show (12:Nat)=(s.I.map Value.bool++s.L.map Value.bool).length by simp[h.i6,h.l6], ←List.append_assoc,List.drop_left',List.take_append_of_le_length (by rw[kI,h.v6];omega),List.take_of_length_le (by rw[kI,h.v6];omega)];rfl
theorem PM.ldV (h:PM w q s)(hK:K (.agg (vCs s.V).toArray) w):ld Tryz.prog 26 (.pointer (some ⟨q.p,0+12,none⟩)) K w :=
 ldA (n:=6) (vs:=vCs s.V) underlying26 rfl (by kernel_rfl) h.b h.cutV (by rw[kI,h.v6]) hK
theorem Qn (h:PM w q s)(hi:PI s)(no:∀w',nM e s≠0→Below w.heap.size w w'→K (.tuple #[.nilFunc,.int .i64 (nM e s)]) w')(an:nM e s=0→∀w' fv,Below w.heap.size w w'→DoesB w.heap.size w' q (pC e s) fv→K (.tuple #[fv,.int .i64 0]) w'):call Tryz.prog 24 #[pB q.p,.agg (evC e).toArray] K w:=by
 have C:nM e s=if eE e=false then 1 else if tt s.V e=true then 14 else if gY s.V e=false then 13 else if s.I.getD e.q false=false∨s.L.getD e.q false=true then 10 else eM e s:=rfl
 refine aB (goK func24) (As (Gn fun w1 e1 b1 s1=>xO (bw (Bl e1 (KO fun w2 b2=>eh ?_)))));have J:=b1.trans (b2.mono b1.size);have e2:=af b2 e1 e1.lt;have p2:=h.below J;cases Z:eE e with
 | false =>
  rw[Z,if_pos rfl]at C
  have:=no _ (by rw[C];decide) J
  rw[C]at this;exact bu this
 | true =>
 rw[Z,if_neg (by simp)]at C;obtain⟨al,ho⟩:=pY Z;have a2:=gJ Z;have p2:=p2.drew;have e2:=e2.drew;have J:=J.drew;refine bw (aE (fun u=>PM u q s∧blk u w.heap.size 54 (evC e)) ⟨p2,e2⟩ ?_);refine ab (fun u j _=>aw) (ab (fun u j _=>vh) (ab (fun u j _=>j.1.ldV) (ab (fun u j _=>Bl j.2) ?_)));refine SH h.v6 fun w3 b3=>aE (fun _=>True) trivial ?_;have U:=J.trans (b3.mono J.size)
 have e3:=af b3 e2 e2.lt;have p3:=p2.below b3;cases hL:tt s.V e with
 | true =>
  rw[hL,if_pos rfl]at C
  have:=no _ (by rw[C];decide) U
  rw[C]at this;exact bu this
 | false =>
 rw[hL,if_neg (by simp)]at C;have p3:=p3.drew;have e3:=e3.drew;have U:=U.drew;refine bw (aE (fun u=>PM u q s∧blk u w.heap.size 54 (evC e)) ⟨p3,e3⟩ ?_);refine ab (fun u j _=>aw) (ab (fun u j _=>vh) (ab (fun u j _=>j.1.ldV) (ab (fun u j _=>Bl j.2) ?_)));refine Qy h.v6 (fun k hk=>(hi.vb k hk).1) fun w4 b4=>aE (fun _=>True) trivial (ab (fun u j _=>eh) ?_)
 have d:=U.trans (b4.mono U.size);have e4:=af b4 e3 e3.lt;have M:=p3.below b4;refine yG ?_;cases hr:gY s.V e with
 | false =>
  rw[hr,if_pos rfl]at C
  have:=no _ (by rw[C];decide) d
  rw[C]at this;exact bu this
 | true =>
 rw[hr,if_neg (by simp)]at C;have M:=M.drew;have e4:=e4.drew;have d:=d.drew;refine bw (aa (fun _=>bS) (aa (fun _=>lK (v:=iv e.o) e4 rfl) ?_));refine aa (v:=iv (e.q:Nat)) (fun K hK=>bg (by omega) (by omega) (by rw[show e.o-1=(e.q:Nat)by omega];exact hK)) ?_;refine aa (fun _=>aw) (aa (fun _=>y8) (aa (fun _=>HB rfl al) ?_))
 refine aa (fun _=>lK (v:=.bool (s.I.getD e.q false)) M.b (by rw[Nat.zero_add];exact M.cI al)) (aa (fun _=>eh) (yH ?_));cases hI:s.I.getD e.q false with
 | false =>
  rw[hI,if_pos (.inl rfl)]at C
  have:=no _ (by rw[C];decide) d
  rw[C]at this;exact bu (rC (bu this))
 | true =>
 have M:=M.drew;have e4:=e4.drew;have d:=d.drew;refine bw (aa (fun _=>bS) (aa (fun _=>lK (v:=iv e.o) e4 rfl) ?_));refine aa (v:=iv (e.q:Nat)) (fun K hK=>bg (by omega) (by omega) (by rw[show e.o-1=(e.q:Nat)by omega];exact hK)) ?_;refine aa (fun _=>aw) (aa (fun _=>Fb) (aa (fun _=>HB rfl al) ?_))
 refine aa (fun _=>lK (v:=.bool (s.L.getD e.q false)) M.b (by rw[Nat.zero_add];exact M.cL al)) (rC ?_);cases am:s.L.getD e.q false with
 | true =>
  rw[hI,am,if_pos (.inr rfl)]at C
  have:=no _ (by rw[C];decide) d
  rw[C]at this;exact bu this
 | false =>
 rw[hI,am,if_neg (by simp)]at C;have M:=M.drew;have e4:=e4.drew;have d:=d.drew;refine bw (yI (aE (fun u=>PM u q s∧blk u w.heap.size 54 (evC e)) ⟨M,e4⟩ ?_));refine ab (fun u j _=>mP) (ab (fun u j _=>lK (v:=kv8 e.k) j.2 rfl) ?_)
 have X:∀(fv:Value) (f:FuncId),fv=.func (.func f) #[] #[]→kindsV[e.k.toNat]? = some fv→0≤e.k→call Tryz.prog f #[pB q.p,.agg (evC e).toArray] (fun R w=>aK (fun S w=>hld S (ext Tryz.prog R 0) fun ag=>hld S (ext Tryz.prog R 1) fun ad=>K (.tuple #[ag,ad]) w) w) _ →
   hld (fun u=>PM u q s∧blk u w.heap.size 54 (evC e)) (aU Tryz.prog 123 (.pointer (some ⟨0,0,none⟩)) (.int .u8 e.k)) fun ap=>hld (fun u=>PM u q s∧blk u w.heap.size 54 (evC e)) (ld Tryz.prog 122 ap) fun av=>hld (fun u=>PM u q s∧blk u w.heap.size 54 (evC e)) (ld Tryz.prog 54 (pB w.heap.size)) fun ar=>dC Tryz.prog av #[pB q.p,ar] (fun R w=>aK (fun S w=>hld S (ext Tryz.prog R 0) fun ag=>hld S (ext Tryz.prog R 1) fun ad=>K (.tuple #[ag,ad]) w) w) w4.drew.drew.drew:=fun fv f az hk h0 hc=>by
  have a0:e.k.toNat<8:=(List.getElem?_eq_some_iff.1 hk).1;refine ab (v:=.pointer (some ⟨0,e.k.toNat,none⟩)) (fun u j K hK=>dB underlying123 (s:=1) (fun _=>by kernel_rfl) h0 (by omega) (by rw[Nat.mul_one,Nat.zero_add];exact hK)) ?_;refine ab (v:=fv) (fun u j K hK=>by
   obtain⟨E,fr,h0⟩:=j.1.kd;refine vk (fun _=>by kernel_rfl) ?_ hK;unfold World.cell?;rw[h0];simpa using hk) (ab (fun u j _=>Bl j.2) ?_)
  subst az;exact ia rfl hc
 have kd:Kind w4.drew.drew.drew q s e (fun R w=>aK (fun S w=>hld S (ext Tryz.prog R 0) fun ag=>hld S (ext Tryz.prog R 1) fun ad=>K (.tuple #[ag,ad]) w) w):=by
  refine⟨fun w5 aS b5=>aE (fun _=>True) trivial (ab (fun u j _=>eB) (ab (fun u j _=>eC) ?_)),fun h0 w5 fv b5 hd=>aE (fun _=>True) trivial (ab (fun u j _=>eB) (ab (fun u j _=>eC) ?_))⟩
  ·have:=no w5 (by rw[C];exact aS) (d.trans (b5.mono d.size))
   rwa[C]at this
  ·exact an (by rw[C];exact h0) w5 fv (d.trans (b5.mono d.size)) (hd.mono d.size)
 have hn:=hi.new Z hr;rcases pE Z with⟨k,_⟩|⟨k,_⟩|⟨k,_⟩|⟨k,_⟩|⟨k,_⟩|⟨k,_⟩|k
 ·exact X _ _ rfl (by rw[k];rfl) (by omega) (Sh M hi Z k hn kd)
 ·exact X _ _ rfl (by rw[k];rfl) (by omega) (Qd M hi Z k kd)
 ·exact X _ _ rfl (by rw[k];rfl) (by omega) (Sk M hi Z k kd)
 ·exact X _ _ rfl (by rw[k];rfl) (by omega) (Sl M hi Z k kd)
 ·exact X _ _ rfl (by rw[k];rfl) (by omega) (Qe M hi Z k kd)
 ·exact X _ _ rfl (by rw[k];rfl) (by omega) (Si M Z k kd)
 ·exact X _ _ rfl (by rw[k];rfl) (by omega) (Qf M Z k kd)
theorem EW (h:PM w q s)(hi:PI s)(hK:∀w',PM w' q (ln e s)→Ch q.w w w'→K (.int .i64 (nM e s)) w'):call Tryz.prog 10 #[pB q.p,.agg (evC e).toArray] K w:=by
 have ad:=h.lt;refine aB (goK func10) (At (Gn fun w1 e1 b1 s1=>Bl e1 ?_));have p1:=h.below b1;refine Qn p1 hi (fun I R b2=>eB (eC (cW (ay R ?_)))) fun h0 I fv b2 hd=>eB (eC (cW (au (by simp) ?_)))
 ·have u:=b1.trans (b2.mono (by omega));refine hK I ?_ (Ch.of_below u);unfold ln;rw[if_neg R];exact h.below u
 ·obtain⟨X,hX,al⟩:=hd;have Z:=(tV hi).1 h0;have hm:=Z.may;obtain⟨d,ho⟩:=pY hm;have an:=gJ hm;refine al I _ (Below.refl _ I) fun M j c3=>?_;have e2:=af b2 e1 e1.lt;have e3:=(e2.ch c3 fun hh=>by
   rcases List.mem_append.1 hh with hh|hh
   ·have:=hX _ hh;omega
   ·have:=ad _ (LB.wl _ hh);omega).drew
  have j:=j.drew;have u:=b1.trans (b2.mono (by omega));have ag:Ch q.w w M.drew:=((Ch.of_below u:Ch q.w w I).trans c3 (fun k J=>by
   rcases List.mem_append.1 J with J|J
   ·right;have:=hX _ J;omega
   ·exact .inl J)).trans (Ch.of_below (Below.refl _ M).drew:Ch [] M M.drew) (by simp)
  refine aa (fun _=>bS) (aa (fun _=>lK (v:=iv e.o) e3 rfl) ?_);refine aa (v:=iv (e.q:Nat)) (fun K hK=>bg (by omega) (by omega) (by rw[show e.o-1=(e.q:Nat)by omega];exact hK)) ?_;refine aa (fun _=>aw) (aa (fun _=>vh) (aa (fun _=>ixV rfl d) ?_));have am:=hi.vb _ d
  refine aa (fun _=>lK (v:=u6 (s.V.getD e.q 0)) j.b (by rw[show 0+12+e.q=12+e.q by omega];exact j.cV d)) <|aa (v:=u6 (s.V.getD e.q 0+1)) (fun K hK=>kf (by rw[hZ,show (s.V.getD e.q 0+1)%18446744073709551616=s.V.getD e.q 0+1 by simp only[M40]at am;omega];exact hK)) ?_;refine aa (fun _=>aw) (aa (fun _=>vh) (aa (fun _=>ixV rfl d) ?_))
  refine dY (fun _=>by kernel_rfl) j.b (by rw[j.len];omega) rfl fun w4 b4 C=>?_;rw[show 0+12+e.q=12+e.q by omega,j.sV d]at b4;rw[h0]at hK;refine hK w4 ?_ (ag.trans (Ch.of_oth C (by simp):Ch [q.p] M.drew w4) (by simp[LB.w]));have ea:ln e s={pC e s with V:=s.V.set e.q (s.V.getD e.q 0+1)}:=by unfold ln;rw[if_pos h0];rfl
  rw[ea];have nd:=j.nd;obtain⟨i6,l6,v6,b,tm,⟨m1,x1,e1⟩,⟨m2,x2,e2⟩,⟨m3,x3,e3⟩,⟨m4,x4,e4⟩,_,U⟩:=j;exact⟨i6,l6,by show (s.V.set _ _).length=6;rw[List.length_set];exact h.v6,b4,tm.oth C (LN.tp nd) (LN.dp nd),⟨m1,x1.oth C (LN.mp nd),e1⟩,⟨m2,x2.oth C (LN.rp nd),e2⟩,⟨m3,x3.oth C (LN.gp nd),e3⟩,⟨m4,x4.oth C (LN.ap nd),e4⟩,nd,U.keep (C.other 0 (LN.zp nd))⟩
theorem JZ (h:PM w q s)(hK:∀w',Below w.heap.size w w'→K (.agg (vCs s.V).toArray) w'):call Tryz.prog 14 #[pB q.p] K w:=by
 refine aB (goK func14) (Av (Dm fun u j b1 s1=>xO (bw (aw (vh ?_)))));refine(h.below b1).ldV (AK rfl h.v6 j fun C t2 d=>?_);exact CO (v:=.agg (vCs s.V).toArray) (fun _=>xu h.v6 t2) (hK _ (oO b1 d (Nat.le_refl _)))
theorem EX {i d:Int}(h:PM w q s)(hi:PI s)(hK:∀w',Below w.heap.size w w'→K (.int .i64 (if bV i=true then sv (aN s.N d) (i-1).toNat else 0)) w'):call Tryz.prog 15 #[pB q.p,iv i,u6 d] K w:=by
 refine aB (goK func15) (Aw (xO (bw (aw (pR (lK (v:=.map (some q.rm)) h.b (by rw[Nat.zero_add];exact h.c20) ?_))))));exact h.rg_l hi (Cf (Bh hi d) hK)
end
end
section
open Go.RowKit Go.ChangeMaps
theorem Qo (k:Nat)(d:k<6):({pl0 k with I:=(pl0 k).I.set k true}:PL)=pl0 (k+1):=by
 unfold pl0
 congr 1
 match k,d with
 | 0,_=>rfl
 | 1,_=>rfl
 | 2,_=>rfl
 | 3,_=>rfl
 | 4,_=>rfl
 | 5,_=>rfl
theorem Qp {q:LB}:Tryz.prog.built 92 [(3,pB q.t),(4,.map (some q.pm)),(5,.map (some q.rm)),(7,.map (some q.gm)),(8,.map (some q.am))]=some (plC q (pl0 0)).toArray:=by kernel_rfl
section
variable {w:World}{K:KV}
theorem Ok {n:Nat}(h1:1≤n)(h6:n≤6)(d:KD w)(hK:∀w' q,PM w' q (pl0 n)→(∀k∈q.l,k=0∨w.heap.size≤k)→Below w.heap.size w w'→K (.tuple #[pB q.p,.int .i64 0]) w'):call Tryz.prog 9 #[iv (n:Nat)] K w:=by
 refine aB (goK func9) (Jy (aV (dZ (by omega) (cB (bE (by omega) (au (by omega) ?_))))));refine Ou fun Z t tp t1 b1 ht a0=>?_;refine vl underlying86 rfl u6 u6 fun w2 m2 b2 s2=>vl underlying87 rfl u6 rgV fun w3 m3 b3 s3=>vl underlying88 rfl rqV grV fun w4 m4 b4 s4=>vl underlying89 rfl rqV Value.bool fun w5 m5 b5 s5=>?_;have aS:=t1.lt;have al:=b1.size;have h0:=d.lt
 obtain⟨q,j⟩:∃q:LB,q=⟨w5.heap.size,t,tp,Z.heap.size,w2.heap.size,w3.heap.size,w4.heap.size⟩:=⟨_,rfl⟩
 have ep:q.p=w5.heap.size:=by rw[j]
 have et:q.t=t:=by rw[j]
 have ed:q.tp=tp:=by rw[j]
 have em:q.pm=Z.heap.size:=by rw[j]
 have er:q.rm=w2.heap.size:=by rw[j]
 have eg:q.gm=w3.heap.size:=by rw[j]
 have X:q.am=w4.heap.size:=by rw[j]
 have az:=t1.ne;have av:q.l.Nodup:=by
  unfold LB.l;rw[ep,et,ed,em,er,eg,X];simp only[List.nodup_cons,List.mem_cons,List.not_mem_nil,or_false,not_or,List.nodup_nil,and_true];refine⟨⟨?_,?_,?_,?_,?_,?_,?_⟩,⟨?_,?_,?_,?_,?_,?_⟩,⟨?_,?_,?_,?_,?_⟩,⟨?_,?_,?_,?_⟩,⟨?_,?_,?_⟩,⟨?_,?_⟩,?_,not_false⟩<;>omega
 rw[←et, ←em, ←er, ←eg, ←X];refine fS Qp (dc fun w6 C V s6=>?_);rw[←ep]at C ⊢;have h:(Value.agg (plC q (pl0 0)).toArray).cells.toList=plC q (pl0 0):=by simp[Value.cells]
 rw[h]at C;have M:Below w2.heap.size w2 w6:=b3.trans ((b4.mono (by omega)).trans ((b5.mono (by omega)).trans (V.mono (by omega))));have an:Below w3.heap.size w3 w6:=b4.trans ((b5.mono (by omega)).trans (V.mono (by omega)));have ad:Below w4.heap.size w4 w6:=b5.trans (V.mono (by omega));have U:Below Z.heap.size Z w6:=b2.trans (M.mono (by omega))
 have J:Below w.heap.size w w6:=b1.trans (U.mono al);have p6:PM w6 q (pl0 0):=⟨rfl,rfl,rfl,C,by rw[et,ed];exact t1.below U,⟨[],by rw[em];exact m2.below M,.refl _⟩,⟨[],by rw[er];exact m3.below an,.refl _⟩,⟨[],by rw[eg];exact m4.below ad,.refl _⟩,⟨[],by rw[X];exact m5.below V,fun o r h1 h6=>by
  have:jf (pl0 0).R (o-1).toNat r=false:=by
   unfold jf
   have:(pl0 0).R.getD (o-1).toNat []=[]:=by
    show (List.replicate 6 ([]:List Int)).getD _ []=[]
    rw[List.getD_eq_getElem?_getD,List.getElem?_replicate];split<;>rfl
   rw[this];rfl
  rw[this];rfl⟩,av,d.below J⟩
 have ar:∀k∈q.l,k=0∨w.heap.size≤k:=by
  intro k hk;unfold LB.l at hk;rw[ep,et,ed,em,er,eg,X]at hk;simp only[List.mem_cons,List.not_mem_nil,or_false]at hk;omega
 refine Hi (Inv:=fun i wr=>∃k:Nat,i=iv (k:Nat)∧k≤n∧PM wr q (pl0 k)∧Below w.heap.size w wr) (μ:=fun i _=>n-(intOf i).toNat) ⟨0,rfl,Nat.zero_le _,p6,J⟩ ?_;rintro _ dd w7 m ⟨k,rfl,a2,I,b7⟩ hm;refine aV ?_;by_cases ag:k<n
 ·refine ay (by omega) (aw (y8 (HB rfl (by omega) (dY (fun _=>by kernel_rfl) I.b (by rw[I.len];omega) rfl fun w8 h8 u=>aR (by omega) (by omega) ?_))));have nd:=I.nd;rw[Nat.zero_add,I.sI (by omega),Qo k (by omega)]at h8;refine⟨⟨k+1,ivS,ag,?_,bA b7 u (by rw[ep];have:=b5.size;omega)⟩,by rw[hm];show n-((k:Int)+1).toNat<n-(k:Int).toNat;omega⟩
  obtain⟨i6,l6,v6,b,tm,⟨m1,x1,e1⟩,⟨m2,x2,e2⟩,⟨m3,x3,e3⟩,⟨m4,x4,e4⟩,_,d⟩:=I;exact⟨by simp[pl0],l6,v6,h8,tm.oth u (LN.tp nd) (LN.dp nd),⟨m1,x1.oth u (LN.mp nd),e1⟩,⟨m2,x2.oth u (LN.rp nd),e2⟩,⟨m3,x3.oth u (LN.gp nd),e3⟩,⟨m4,x4.oth u (LN.ap nd),e4⟩,nd,d.keep (u.other 0 (LN.zp nd))⟩
 ·have e:k=n:=by omega
  subst e;exact au (by omega) (Hj (hK w7 q I ar b7))
end
end
section
open Go.RowKit
theorem cutV {V:List Int}(d:V.length=6):((V.map u6).drop 0).take 6=V.map u6:=by rw[List.drop_zero,List.take_of_length_le (by simp[d])]
theorem K0 {V:List Int}{k:Nat}(d:k<V.length):(V.map u6)[k]? = some (u6 (V.getD k 0)):=by simp[List.getD,d]
section
variable {w:World}{K:KV}
theorem TU {V:List Int}{e:EV}(Z:V.length=6)(h:∀w',Below w.heap.size w w'→K (.bool (tt V e)) w'):call Tryz.prog 52 #[.agg (V.map u6).toArray,.agg (evC e).toArray] K w:=by
 refine aB (goK func52) (EA ?_);refine dc fun U u b1 s1=>?_;have u:blk U w.heap.size 26 (V.map u6):=by simpa[Value.cells]using u
 refine dc fun w2 C b2 s2=>?_;have C:blk w2 U.heap.size 54 (evC e):=by simpa[Value.cells]using C
 have u:=af b2 u u.lt;have l2:Below w.heap.size w w2:=b1.trans (b2.mono (by omega));rw[s1]at C ⊢;refine aE (fun x=>blk x (w.heap.size+1) 54 (evC e)) C.drew <|ab (fun x d _=>ldA (n:=14) (vs:=evC e) underlying54 rfl (by kernel_rfl) d rfl rfl) ?_;refine NF fun w3 R=>?_;have I:=af R C.drew C.drew.lt;have M:=af R u.drew u.drew.lt
 have l3:Below w.heap.size w w3:=l2.drew.trans (R.mono l2.drew.size);have h:=h w3 l3;unfold tt at h;refine aE (fun x=>blk x (w.heap.size+1) 54 (evC e)∧blk x w.heap.size 26 (V.map u6)) ⟨I,M⟩ ?_;cases J:eE e with
 | false =>
  rw[J,Bool.false_and]at h;have j:asB (.bool false)≠some true:=by simp[asB]
  refine nY j (nY j (nY j (nY j (nY j (nY j (nY j (nY j ?_)))))));refine ab (fun x d _=>fm) ?_;exact h
 | true =>
  rw[J,Bool.true_and]at h;have hi:=gJ J;obtain⟨k,X⟩:∃k:Nat,k=(e.o-1).toNat:=⟨_,rfl⟩
  rw[←X]at h
  refine fD rfl (fun x d _=>lh) <|fD (x:=u6 e.s) rfl (fun x d _=>lK d.1 rfl) <|fD rfl (fun x d _=>bS) <|fD (x:=iv e.o) rfl (fun x d _=>lK d.1 rfl) <|fD (x:=.int .i64 ((k:Nat):Int)) rfl (fun x d K hK=>kg (by rw[dP (by omega) (by omega),show (e.o-1)=(k:Nat)by omega];exact hK)) <|fD rfl (fun x d _=>ixV rfl (by omega)) <|fD (x:=u6 (V.getD k 0)) rfl (fun x d _=>lK d.2 (by rw[Nat.zero_add];exact K0 (by omega))) <|fD rfl (fun x d _=>ir) <|ab (fun x d _=>db) ?_
  exact h
theorem Sm {V:List Int}{e:EV}(hV:V.length=6)(hr:∀k,k<6→0≤V.getD k 0∧V.getD k 0<9223372036854775808)(h:∀w',Below w.heap.size w w'→K (.bool (gY V e)) w'):call Tryz.prog 53 #[.agg (V.map u6).toArray,.agg (evC e).toArray] K w:=by
 refine aB (goK func53) (DB ?_);refine dc fun w1 M b1 s1=>?_;have M:blk w1 w.heap.size 26 (V.map u6):=by simpa[Value.cells]using M
 refine dc fun w2 U b2 s2=>?_;have U:blk w2 w1.heap.size 54 (evC e):=by simpa[Value.cells]using U
 have M:=af b2 M M.lt;have l2:Below w.heap.size w w2:=b1.trans (b2.mono (by omega));rw[s1]at U ⊢;refine aE (fun x=>blk x (w.heap.size+1) 54 (evC e)) U.drew <|ab (fun x d _=>ldA (n:=14) (vs:=evC e) underlying54 rfl (by kernel_rfl) d rfl rfl) ?_;refine NF fun w3 b3=>?_;have Z:=af b3 U.drew U.drew.lt;have X:=af b3 M.drew M.drew.lt
 have l3:Below w.heap.size w w3:=l2.drew.trans (b3.mono l2.drew.size);refine aE (fun x=>blk x (w.heap.size+1) 54 (evC e)∧blk x w.heap.size 26 (V.map u6)) ⟨Z,X⟩ <|ab (fun x d _=>eh) ?_;cases hm:eE e with
 | false =>
  have h:=h w3 l3;unfold gY at h;rw[hm,Bool.false_and]at h;have C:asB (.bool (!false))≠some false:=by simp[asB]
  refine nY C (nY C (nY C (nY C (nY C (nY C (nY C (nY C (nY C ?_))))))));refine ab (fun x d _=>db) ?_;exact bu h
 | true =>
  have hi:=gJ hm;obtain⟨k,hk⟩:∃k:Nat,k=(e.o-1).toNat:=⟨_,rfl⟩
  have am:=hr k (by omega)
  refine fD rfl (fun x d _=>lh) <|fD (x:=u6 e.s) rfl (fun x d _=>lK d.1 rfl) <|fD rfl (fun x d _=>bS) <|fD (x:=iv e.o) rfl (fun x d _=>lK d.1 rfl) <|fD (x:=.int .i64 ((k:Nat):Int)) rfl (fun x d K hK=>kg (by rw[dP (by omega) (by omega),show (e.o-1)=(k:Nat)by omega];exact hK)) <|fD rfl (fun x d _=>ixV rfl (by omega)) <|fD (x:=u6 (V.getD k 0)) rfl (fun x d _=>lK d.2 (by rw[Nat.zero_add];exact K0 (by omega))) <|fD (x:=u6 (V.getD k 0+1)) rfl (fun x d K hK=>kf (by rw[hZ,show (V.getD k 0+1)%18446744073709551616=V.getD k 0+1 by omega];exact hK)) <|fD rfl (fun x d _=>cW) <|ab (fun x d _=>fm) ?_
  by_cases R:e.s≠V.getD k 0+1
  ·refine ay R ?_;have h:=h w3 l3;unfold gY at h;rw[←hk,show decide (e.s=V.getD k 0+1)=false from decide_eq_false R,Bool.false_and,Bool.and_false]at h;exact h
  refine au R ?_;have R:e.s=V.getD k 0+1:=by simpa using R
  refine BX (Inv:=fun i wr=>∃j:Nat,i=.int .i64 (j:Nat)∧j≤6∧(∀q,q<j→e.V.getD q 0≤V.getD q 0)∧blk wr (w.heap.size+1) 54 (evC e)∧blk wr w.heap.size 26 (V.map u6)∧Below w.heap.size w wr) (μ:=fun i _=>6-(intOf i).toNat) ⟨0,rfl,by omega,fun q hq=>by omega,Z,X,l3⟩ ?_;rintro _ dd w4 m ⟨j,rfl,ad,J,I,u,l4⟩ al;refine aV ?_;by_cases hj:j<6
  ·refine ay (by omega) ?_;have I:blk w4.drew (w.heap.size+1) 54 (evC e):=I.drew;have u:blk w4.drew w.heap.size 26 (V.map u6):=u.drew;have l4:Below w.heap.size w w4.drew:=l4.drew;have h:=h _ l4
   refine aa (fun _=>rr) <|aa (fun _=>ixV rfl hj) <|aa (v:=u6 (e.V.getD j 0)) (fun _=>lK I (GT hj)) <|aa (fun _=>ixV rfl hj) <|aa (v:=u6 (V.getD j 0)) (fun _=>lK u (by rw[Nat.zero_add];exact K0 (by omega))) <|aa (fun _=>cB) ?_;by_cases h4:V.getD j 0<e.V.getD j 0
   ·refine ay h4 ?_
    have:(List.range 6).all (fun k=>decide (e.V.getD k 0≤V.getD k 0))=false:=by
     rw[List.all_eq_false];exact⟨j,by simpa using hj,by simpa using h4⟩
    unfold gY at h;rw[this,Bool.and_false,Bool.and_false]at h;exact h
   refine au h4 <|aR (by omega) (by omega) ?_;refine⟨⟨j+1,by simp,by omega,fun q hq=>?_,I,u,l4⟩,?_⟩
   ·by_cases ag:q<j
    ·exact J q ag
    ·have:q=j:=by omega
     subst this;omega
   ·rw[al];simp only[intOf];omega
  refine au (by omega) ?_;have ad:j=6:=by omega
  subst ad;refine BY ?_;have h:=h _ l4;have e1:(List.range 6).all (fun k=>decide (e.V.getD k 0≤V.getD k 0))=true:=by
   rw[List.all_eq_true];exact fun q hq=>by simpa using J q (by simpa using hq)
  unfold gY at h;rw[hm,e1, ←hk,show decide (e.s=V.getD k 0+1)=true from decide_eq_true R]at h;exact h
end
end
section
open Go.RowKit
def ndE (x:ND):List Value:=u6 x.id::u6 x.par::(List.range 54).map fun j=>iv (x.A.getD j 0)
theorem eZ (x:ND):(ndE x).length=56:=by simp[ndE]
theorem xP (x:ND):∀v∈ndE x,v.oneCell'=true:=by simp[ndE,u6,iv,Value.oneCell']
theorem Ay {x:ND}(h:x.A.length=54):(List.range 54).map (fun j=>iv (x.A.getD j 0))=x.A.map iv:=by
 apply List.ext_getElem
 ·simp[h]
 ·intro i u d;simp at u d;simp[List.getD,d]
theorem CL {x:ND}(h:x.A.length=54):ndE x=ndC x:=by unfold ndE ndC;rw[Ay h];rfl
structure LG where
 s:STA
 G:List GR
 T:List (Int×Int)
 R:List (List Int)
 t:Nat
 q:List Value
 ga:Option Addr
 gc:Nat
def lgC (l:LG):List Value:=saC l.s++(.pointer (some ⟨l.t,0,none⟩)::l.q)
structure LM (w:World) (B p:Nat) (l:LG):Prop where
 i6:l.s.I.length=6
 l6:l.s.L.length=6
 v6:l.s.V.length=6
 q6:l.q.length=6
 r6:l.R.length=6
 A54:∀x∈l.s.nodes,x.A.length=54
 cl:blk w p 79 (lgC l)
 lo:B≤p
 gv:l.s.gv=.slice l.ga l.G.length l.gc
 nd:w.ownsRow B 38 56 (.slice l.s.na l.s.nodes.length l.s.nc) l.s.nodes.length (l.s.nodes.flatMap ndE)
 gr:w.ownsRow B 100 5 (.slice l.ga l.G.length l.gc) l.G.length (l.G.flatMap grC)
 tm:TM w B l.t l.T
 rq:∀k,k<6→∃a c,l.q[k]? = some (.slice a (l.R.getD k []).length c)∧w.ownsRow B 24 1 (.slice a (l.R.getD k []).length c) (l.R.getD k []).length ((l.R.getD k []).flatMap uC)
 ne:∀(j k:Nat) (v v':Value) (b:Nat),j≠k→l.q[j]? = some v→l.q[k]? = some v'→v.ownBlock=some b→v'.ownBlock≠some b
section
variable {w w':World}{B p:Nat}{l:LG}
theorem LM.sl (h:LM w B p l):(saC l.s).length=20:=by simp[saC,h.i6,h.l6,h.v6]
theorem LM.ll (h:LM w B p l):(lgC l).length=27:=by simp[lgC,h.sl,h.q6]
theorem LM.fresh (h:LM w B p l)(j:Below w.heap.size w w'):LM w' B p l :=
 {h with
  cl:=af j h.cl h.cl.lt
  nd:=di h.nd fun k d=>j.block k (World.ownsRow.lt h.nd k d).2
  gr:=di h.gr fun k d=>j.block k (World.ownsRow.lt h.gr k d).2
  tm:=h.tm.fresh j
  rq:=fun k d=>by
   obtain⟨a,c,C,u⟩:=h.rq k d;exact⟨a,c,C,di u fun k d=>j.block k (World.ownsRow.lt u k d).2⟩}
theorem Gm (h:LM w B p l){k:Nat}(d:k<20):(lgC l)[k]? = (saC l.s)[k]? := by
 unfold lgC;rw[List.getElem?_append_left (by rw[h.sl];exact d)]
theorem TV {s:STA}(h:s.I.length=6){k:Nat}(d:k<6):(saC s)[k]? = some (.bool (s.I.getD k false)):=by
 unfold saC;rw[List.append_assoc,List.append_assoc,List.getElem?_append_left (by simp;omega),List.getElem?_map,List.getElem?_eq_getElem (by omega)];simp[List.getD,show k<s.I.length by omega]
theorem TW {s:STA}(h:s.I.length=6)(j:s.L.length=6){k:Nat}(d:k<6):(saC s)[6+k]? = some (.bool (s.L.getD k false)):=by
 unfold saC;rw[List.append_assoc,List.append_assoc,List.getElem?_append_right (by simp;omega),List.getElem?_append_left (by simp;omega),List.getElem?_map];rw[show 6+k-(s.I.map Value.bool).length=k by simp;omega,List.getElem?_eq_getElem (by omega)];simp[List.getD,show k<s.L.length by omega]
theorem TX {s:STA}(h:s.I.length=6)(u:s.L.length=6)(j:s.V.length=6){k:Nat}(d:k<6):(saC s)[12+k]? = some (u6 (s.V.getD k 0)):=by
 unfold saC;rw[List.append_assoc,List.getElem?_append_right (by simp;omega),List.getElem?_append_left (by simp;omega),List.getElem?_map];rw[show 12+k-(s.I.map Value.bool++s.L.map Value.bool).length=k by simp;omega,List.getElem?_eq_getElem (by omega)];simp[List.getD,show k<s.V.length by omega,u6]
theorem LM.cI (h:LM w B p l){k:Nat}(d:k<6):(lgC l)[k]? = some (.bool (l.s.I.getD k false)):=by rw[Gm h (by omega),TV h.i6 d]
theorem LM.cL (h:LM w B p l){k:Nat}(d:k<6):(lgC l)[6+k]? = some (.bool (l.s.L.getD k false)):=by rw[Gm h (by omega),TW h.i6 h.l6 d]
theorem LM.cV (h:LM w B p l){k:Nat}(d:k<6):(lgC l)[12+k]? = some (u6 (l.s.V.getD k 0)):=by rw[Gm h (by omega),TX h.i6 h.l6 h.v6 d]
theorem LM.cN (h:LM w B p l):(lgC l)[18]? = some (.slice l.s.na l.s.nodes.length l.s.nc):=by
 rw[Gm h (by omega)];unfold saC;rw[List.getElem?_append_right (by simp[h.i6,h.l6,h.v6])];simp[h.i6,h.l6,h.v6]
theorem LM.cG (h:LM w B p l):(lgC l)[19]? = some (.slice l.ga l.G.length l.gc):=by
 rw[Gm h (by omega), ←h.gv];unfold saC;rw[List.getElem?_append_right (by simp[h.i6,h.l6,h.v6])];simp[h.i6,h.l6,h.v6]
theorem LM.cT (h:LM w B p l):(lgC l)[20]? = some (.pointer (some ⟨l.t,0,none⟩)):=by
 unfold lgC;rw[List.getElem?_append_right (by rw[h.sl];omega),h.sl];rfl
theorem LM.cQ (h:LM w B p l){k:Nat}:(lgC l)[21+k]? = l.q[k]? := by
 unfold lgC;rw[List.getElem?_append_right (by rw[h.sl];omega),h.sl,show 21+k-20=k+1 by omega,List.getElem?_cons_succ]
theorem LM.cutS (h:LM w B p l):((lgC l).drop 0).take 20=saC l.s:=by
 unfold lgC;rw[List.drop_zero,List.take_append_of_le_length (Nat.le_of_eq h.sl.symm),List.take_of_length_le (Nat.le_of_eq h.sl)]
theorem LM.cutV (h:LM w B p l):((lgC l).drop 12).take 6=l.s.V.map u6:=by
 unfold lgC saC;rw[show (12:Nat)=(l.s.I.map Value.bool++l.s.L.map Value.bool).length by simp[h.i6,h.l6],List.append_assoc,List.append_assoc,List.drop_left',List.take_append_of_le_length (by simp[h.v6]),List.take_of_length_le (by simp[h.v6])]
 ·rfl
 ·rfl
theorem LM.nr (h:LM w B p l):NR w l.s.na l.s.nodes.length l.s.nc l.s.nodes:=by
 refine⟨rfl,?_,?_,h.A54,?_⟩
 ·rcases h.nd.2 with⟨h1,X⟩|⟨g,cap,d,V,_,_,Z,_⟩
  ·omega
  ·simp only[Value.slice.injEq]at V;omega
 ·intro h0;obtain⟨g,d,C,_⟩:=cY h.nd h0;exact⟨g,0,C⟩
 ·intro i x M b o C j u I;have hi:i<l.s.nodes.length:=(List.getElem?_eq_some_iff.1 M).1;obtain⟨g,d,J,R⟩:=cY h.nd (by omega);rw[J]at C;cases C;rw[←CL (h.A54 x (List.mem_of_getElem? M))]at I;have U:j<56:=by rw[←eZ x];exact(List.getElem?_eq_some_iff.1 I).1
  rw[R.blk.cell,Nat.zero_add,R.cell eZ rfl M U];exact I
theorem LM.sk (h:LM w B p l)(d:l.s.nodes.length≤1000000):SK w l.s :=
 ⟨h.i6,h.l6,h.v6,h.nr,d,by rw[h.gv];rfl⟩
end
theorem bq {w:World}{K:KV}{b o:Nat}(h:K (.pointer (some ⟨b,o+0,none⟩)) w):ai Tryz.prog 79 (.pointer (some ⟨b,o,none⟩)) 0 K w:=aM (by kernel_rfl) h
theorem vg {w:World}{K:KV}{b o:Nat}(h:K (.pointer (some ⟨b,o+20,none⟩)) w):ai Tryz.prog 79 (.pointer (some ⟨b,o,none⟩)) 1 K w:=aM (by kernel_rfl) h
theorem pP {w:World}{K:KV}{b o:Nat}(h:K (.pointer (some ⟨b,o+21,none⟩)) w):ai Tryz.prog 79 (.pointer (some ⟨b,o,none⟩)) 2 K w:=aM (by kernel_rfl) h
section
variable {w:World}{K:KV}{B p:Nat}{l:LG}
theorem DW {id:Int}(C:LM w B p l)(hn:l.s.nodes.length≤1000000)(h:K (.int .i64 (fdN l.s.nodes id)) w):call Tryz.prog 81 #[.pointer (some ⟨p,0,none⟩),.int .u64 id] K w:=by
 refine aB (goK func81) (yQ ?_);refine wV (Inv:=fun i wr=>∃k:Nat,i=.int .i64 (k:Nat)∧k≤l.s.nodes.length∧wr=w∧∀j y,j<k→l.s.nodes[j]? = some y→y.id≠id) (μ:=fun i _=>l.s.nodes.length-(intOf i).toNat) ⟨0,rfl,by omega,rfl,fun j y V=>by omega⟩ ?_;rintro _ dd wr m ⟨k,rfl,Z,rfl,d⟩ X;refine aw <|bq <|dV <|lK (v:=.slice l.s.na l.s.nodes.length l.s.nc) C.cl C.cN <|bx underlying27 <|aV ?_
 by_cases I:k<l.s.nodes.length
 ·refine ay (by omega) <|aw <|bq <|dV <|lK (v:=.slice l.s.na l.s.nodes.length l.s.nc) C.cl C.cN ?_;have J:l.s.nodes[k]? = some l.s.nodes[k]:=List.getElem?_eq_getElem I;generalize l.s.nodes[k]=x at J;refine rd3 (enc:=ndE) (s:=56) (f':=0) (v:=u6 x.id) underlying27 (fun _=>by kernel_rfl) eZ (fun _=>by kernel_rfl) (by kernel_rfl) (by omega) C.nd rfl J rfl fun _ _=>?_;refine bm ?_
  by_cases M:x.id=id
  ·refine ay M ?_;have R:=MO J M d;unfold fdN at h;rw[R,if_pos I]at h;exact h
  ·refine au M <|aR (by omega) (by omega) ?_;refine⟨⟨k+1,ivS,by omega,rfl,fun j y V u=>?_⟩,by rw[X];show l.s.nodes.length-((k:Int)+1).toNat<l.s.nodes.length-(k:Int).toNat;omega⟩;by_cases U:j=k
   ·subst U;rw[J]at u;cases u;exact M
   ·exact d j y (by omega) u
 ·refine au (by omega) <|wW ?_;have R:=DK (L:=l.s.nodes) (id:=id) fun j y u=>d j y (by have:=(List.getElem?_eq_some_iff.1 u).1;omega) u;unfold fdN at h;rw[if_neg R]at h;exact h
theorem ixQ {b o k:Nat}{i:Int}{K:KV}(hi:i=(k:Nat))(d:k<6)(hK:K (.pointer (some ⟨b,o+k,none⟩)) w):aU Tryz.prog 77 (.pointer (some ⟨b,o,none⟩)) (.int .i64 i) K w:=by
 subst hi;exact dB underlying77 (s:=1) (fun _=>by kernel_rfl) (by omega) (by omega) (by rw[Int.toNat_natCast,Nat.mul_one];exact hK)
end
end
end
section
open Go.RowKit
section
variable {P:Program}{w w':World}{K:KV}{t:TypeId}{g B n c s:Nat}{e:TypeId}{v:Value}{xs:List Value}
theorem Ol {i:TypeInfo}{base:Nat}(I:P.underlying t=some (.slice e))(hi:P.info? e=some i)(j:i.size=s)(d:base≤w.heap.size)(h:∀w',w'.ownsRow base e s (.slice (some ⟨w.heap.size,0,none⟩) 0 0) 0 []→Below w.heap.size w w'→K (.slice (some ⟨w.heap.size,0,none⟩) 0 0) w'):dl P t 0 #[] K w:=by
 unfold dl;have C:(w.alloc (.cells #[] e)).ownsRow base e s (.slice (some ⟨w.heap.size,0,none⟩) 0 0) 0 []:=by
  refine⟨by simp,.inr ⟨w.heap.size,0,#[],rfl,d,?_,Nat.le_refl _,Nat.zero_le _,by simp,by simp⟩⟩;exact heap_alloc_new w (.cells #[] e)
 refine gW (w':=w.alloc (.cells #[] e)) (v:=.slice (some ⟨w.heap.size,0,none⟩) 0 0) ?_ (h _ C (fJ (World.grownBy_alloc _ _ none) (Nat.le_refl _) (fun k u=>by cases u)));have J:∀f:Nat→Value,(Array.range 0).map f=#[]:=fun f=>by apply Array.ext<;>simp
 simp[Instr.buildSlice,Instr.fill,run_underlying I,sizeOf,typeInfo,hi,j,newRow,J]
theorem JC {ty : TypeId} {cs : Array Bool} {base B0 : Nat} {i : TypeInfo} {z : Value} {bytes : Nat} {av a : Option Addr} (ht : P.underlying t = some (.slice e)) (hi : P.info? e = some i) (hz : i.zero = some z)
    (hsize : i.size = s) (hby : i.bytes = bytes) (hzs : z.cells.size = s) (hs0 : 0 < s) (hown : w.ownsRow base e s (.slice av 0 0) 0 []) (src : w.ownsRow B0 e s (.slice a n c) n xs) (h1 : ∀ u ∈ xs, u.oneCell' = true)
    (hbytes : n * bytes ≤ 140737488355328) (h63 : n ≤ 9223372036854775807) (hbase : base ≤ w.heap.size)
    (h : ∀ a' c' w', w'.ownsRow base e s (.slice a' n c') n xs → w.grownBy w' (Value.slice av 0 0).ownBlock → Below base w w' → ((Value.slice a' n c').ownBlock = (Value.slice av 0 0).ownBlock ∨ (Value.slice a' n c').ownBlock = some w.heap.size) → K (.slice a' n c') w') :
    blt P .append #[t, t] ty cs #[.slice av 0 0, .slice a n c] K w := by
  by_cases hn0 : n = 0
  · subst hn0
    have hxs : xs = [] := List.eq_nil_of_length_eq_zero (by have := src.1; omega)
    subst hxs
    refine uj (v := .slice av 0 0) (w' := w) ?_ (h av 0 w hown ⟨rfl, rfl, rfl, Nat.le_refl _, fun _ _ _ => rfl⟩ (Below.refl _ _) (.inl rfl))
    rw [BigFrame.builtin_append]
    cases a with
    | none => cases av <;> simp [Builtin.append_, run_underlying ht, sizeOf, typeInfo, hi, Builtin.lenOf, Builtin.firstCells, storeCells]
    | some ad => cases av <;> simp [Builtin.append_, run_underlying ht, sizeOf, typeInfo, hi, Builtin.lenOf, Builtin.firstCells, storeCells, loadCells, loadCellsFrom]
  · obtain ⟨g, cur, rfl, op⟩ := cY src (by omega)
    have hn : ∀ j u, xs[j]? = some u → w.cell? ((⟨g, 0, none⟩ : Addr).add j) = some u := by
      intro j u hj
      rw [zX, op.blk.cell, Nat.zero_add]
      rw [← op.take, List.getElem?_take] at hj
      split at hj
      · exact hj
      · cases hj
    obtain ⟨v', w', hr, h2, h3, _, h5⟩ := run_append_own_at (P := P) w base t ty e i z s bytes ht hi hz hsize hby hzs hs0 _ 0 [] hown ⟨g, 0, none⟩ n c xs op.xl hn h1 (by simp only [maxLen]; omega) (by rw [Nat.zero_add]; exact hbytes) hbase
    rw [Nat.zero_add, List.nil_append] at h2
    obtain ⟨a', c', rfl⟩ : ∃ a' c', v' = .slice a' n c' := by
      rcases h2.2 with ⟨hv, hn⟩ | ⟨g, cap, cur, hv, _⟩
      · exact ⟨none, 0, by rw [hv, hn]⟩
      · exact ⟨_, cap, hv⟩
    exact uj (by rw [BigFrame.builtin_append]; simp only [Sem.run_bind, hr, Result.andThen_ok, Sem.run_pure]) (h a' c' w' h2 h3 (fJ h3 hbase (fun k hk => (World.ownsRow.lt hown k hk).1)) h5)
end
section
variable {l:LG}
theorem K1 (u:l.s.I.length=6)(j:l.s.L.length=6)(h:l.s.V.length=6){k:Nat}(d:k<6)(b:Bool):(lgC l).set k (.bool b)=lgC {l with s:={l.s with I:=l.s.I.set k b} }:=by
 unfold lgC saC;simp only[List.append_assoc];rw[List.set_append_left _ _ (by simp;omega),List.map_set]
theorem Qq (d:l.s.I.length=6)(u:l.s.L.length=6)(j:l.s.V.length=6){k:Nat}(h:k<6)(b:Bool):(lgC l).set (6+k) (.bool b)=lgC {l with s:={l.s with L:=l.s.L.set k b} }:=by
 unfold lgC saC;simp only[List.append_assoc];rw[List.set_append_right _ _ (by simp;omega),List.length_map,d,show 6+k-6=k by omega,List.set_append_left _ _ (by simp;omega),List.map_set]
theorem Qr (h:l.s.I.length=6)(d:l.s.L.length=6)(u:l.s.V.length=6){k:Nat}(j:k<6)(x:Int):(lgC l).set (12+k) (u6 x)=lgC {l with s:={l.s with V:=l.s.V.set k x} }:=by
 unfold lgC saC;simp only[List.append_assoc];rw[List.set_append_right _ _ (by simp;omega),List.length_map,h,show 12+k-6=6+k by omega,List.set_append_right _ _ (by simp;omega),List.length_map,d,show 6+k-6=k by omega,List.set_append_left _ _ (by simp;omega),List.map_set];rfl
theorem Bi (j:l.s.I.length=6)(h:l.s.L.length=6)(d:l.s.V.length=6)(N:List ND)(a:Option Addr)(c:Nat):(lgC l).set 18 (.slice a N.length c)=lgC {l with s:={l.s with nodes:=N,na:=a,nc:=c} }:=by
 unfold lgC saC;simp only[List.append_assoc];rw[List.set_append_right _ _ (by simp;omega),List.length_map,j,show 18-6=12 by omega,List.set_append_right _ _ (by simp;omega),List.length_map,h,show 12-6=6 by omega,List.set_append_right _ _ (by simp;omega),List.length_map,d];rfl
theorem EY (j:l.s.I.length=6)(h:l.s.L.length=6)(d:l.s.V.length=6)(G:List GR)(a:Option Addr)(c:Nat):(lgC l).set 19 (.slice a G.length c)=lgC {l with s:={l.s with gv:=.slice a G.length c},G:=G,ga:=a,gc:=c}:=by
 unfold lgC saC;simp only[List.append_assoc];rw[List.set_append_right _ _ (by simp;omega),List.length_map,j,show 19-6=13 by omega,List.set_append_right _ _ (by simp;omega),List.length_map,h,show 13-6=7 by omega,List.set_append_right _ _ (by simp;omega),List.length_map,d];rfl
theorem K6 (u:l.s.I.length=6)(j:l.s.L.length=6)(h:l.s.V.length=6){k:Nat}(v:Value):(lgC l).set (21+k) v=lgC {l with q:=l.q.set k v}:=by
 have d:(saC l.s).length=20:=by simp[saC,u,j,h]
 unfold lgC;rw[List.set_append_right _ _ (by omega),d,show 21+k-20=k+1 by omega,List.set_cons_succ]
theorem DX (d:l.s.I.length=6)(u:l.s.L.length=6)(h:l.s.V.length=6)(j:l.q.length=6):(lgC l).length=27:=by simp[lgC,saC,d,u,h,j]
end
theorem ud {α:Type}{L:List α}(h:L.length=6):∃a b c d e f,L=[a,b,c,d,e,f]:=by
 match L,h with
 | [a,b,c,d,e,f],_=>exact⟨a,b,c,d,e,f,rfl⟩
end
section
attribute [local irreducible] bin un conv call dC blt slc ai fld aU idx lkp eX jl eSt rng nxt ent ext alc box bld dl ld sto bo eS mkS ifc pick rdy wts aJ sti cond bM Gives ae fU gX cOp
section
open Go.RowKit
structure GI (l:LG) (m:Nat):Prop where
 tk:∃rk,TK l.T rk
 nt:∀x∈l.T,∃y∈l.s.nodes,y.id=x.1
 nn:l.s.nodes.length≤m
 gn:l.G.length≤m
 tn:l.T.length≤m
 rn:∀k,k<6→(l.R.getD k []).length≤m
 vb:∀k,k<6→0≤l.s.V.getD k 0∧l.s.V.getD k 0<1099511627776
 gr:∀x∈l.G, -9223372036854775808≤x.a∧x.a≤9223372036854775807
def lQ :Value:=.slice none 0 0
def EZ :List Value:=List.replicate 6 lQ
def lg0 (t:Nat)(I:List Bool):LG:=⟨⟨I,List.replicate 6 false,List.replicate 6 0,[],none,0,.slice none 0 0⟩,[],[],List.replicate 6 [],t,EZ,none,0⟩
theorem LX {k:Nat}{v:Value}(h:EZ[k]? = some v):v=lQ:=by
 have:=List.mem_of_getElem? h
 exact List.eq_of_mem_replicate this
theorem lm0 {w:World}{B p t:Nat}{I:List Bool}(hI:I.length=6)(J:blk w p 79 (lgC (lg0 t I)))(u:blk w t 140 [lQ])(M:B≤p)(d:B≤t):LM w B p (lg0 t I) where
 i6:=hI
 l6:=rfl
 v6:=rfl
 q6:=rfl
 r6:=rfl
 A54:=by simp[lg0]
 cl:=J
 lo:=M
 gv:=rfl
 nd:=World.ownsRow_nil _ _ _ _
 gr:=World.ownsRow_nil _ _ _ _
 tm:=⟨⟨none,0,u,World.ownsRow_nil _ _ _ _⟩,d⟩
 rq:=fun k h=>by
  have e:(lg0 t I).R.getD k []=[]:=by
   show (List.replicate 6 ([]:List Int)).getD k []=[]
   rw[List.getD_eq_getElem?_getD,List.getElem?_replicate];split<;>rfl
  rw[e];refine⟨none,0,?_,World.ownsRow_nil _ _ _ _⟩;show EZ[k]? = some lQ;unfold EZ;rw[List.getElem?_replicate,if_pos h]
 ne:=fun j k v v' b U C h d=>by
  rw[LX C]at d;cases d
theorem gi0 {t:Nat}{I:List Bool}:GI (lg0 t I) 0 :=
 ⟨⟨_,TK.nil⟩,by simp[lg0],Nat.le_refl _,Nat.le_refl _,Nat.le_refl _,fun k d=>by
  have e:(lg0 t I).R.getD k []=[]:=by
   show (List.replicate 6 ([]:List Int)).getD k []=[]
   rw[List.getD_eq_getElem?_getD,List.getElem?_replicate];split<;>rfl
  rw[e];exact Nat.le_refl _,fun k d=>by
  have e:(lg0 t I).s.V.getD k 0=0:=by
   show (List.replicate 6 (0:Int)).getD k 0=0;rw[List.getD_eq_getElem?_getD,List.getElem?_replicate];split<;>rfl
  rw[e];omega,by simp[lg0]⟩
def iN (n:Nat):List Bool:=(List.range 6).map fun k=>decide (k<n)
theorem TY :∀{k:Nat},k<6→(iN k).set k true=iN (k+1)
 | 0,_=>rfl
 | 1,_=>rfl
 | 2,_=>rfl
 | 3,_=>rfl
 | 4,_=>rfl
 | 5,_=>rfl
section
variable {w:World}{K:KV}{B p:Nat}{l:LG}
theorem ixB {b o k:Nat}{i:Int}{K:KV}(hi:i=(k:Nat))(d:k<6)(hK:K (.pointer (some ⟨b,o+k,none⟩)) w):aU Tryz.prog 23 (.pointer (some ⟨b,o,none⟩)) (.int .i64 i) K w:=by
 subst hi;exact dB underlying23 (s:=1) (fun _=>by kernel_rfl) (by omega) (by omega) (by rw[Int.toNat_natCast,Nat.mul_one];exact hK)
theorem TZ {n:Nat}(h1:1≤n)(h6:n≤6)(h:∀w' p l,LM w' w.heap.size p l→GI l 0→l.s.V=List.replicate 6 0→l=lg0 l.t (iN n)→Below w.heap.size w w'→K (.tuple #[.pointer (some ⟨p,0,none⟩),.int .i64 0]) w'):call Tryz.prog 33 #[.int .i64 (n:Nat)] K w:=by
 refine aB (goK func33) (Gd ?_);refine aV <|dZ (by omega) <|cB <|bE (by omega) <|au (by omega) <|fS (vs:=[lQ]) (by kernel_rfl) ?_;refine dc fun X d b1 s1=>?_;have d:blk X w.heap.size 140 [lQ]:=by simpa[Value.cells]using d
 refine fS (vs:=lgC (lg0 w.heap.size (List.replicate 6 false))) (by kernel_rfl) ?_;refine dc fun w2 M b2 s2=>?_;have M:blk w2 X.heap.size 79 (lgC (lg0 w.heap.size (List.replicate 6 false))):=by simpa[Value.cells]using M
 have d:=af b2 d d.lt;have bb:Below w.heap.size w w2:=b1.trans (b2.mono (by omega));rw[s1]at M ⊢;refine DO (Inv:=fun i wr=>∃(k:Nat) (I:List Bool),i=.int .i64 (k:Nat)∧k≤n∧I.length=6∧I=iN k∧blk wr (w.heap.size+1) 79 (lgC (lg0 w.heap.size I))∧blk wr w.heap.size 140 [lQ]∧Below w.heap.size w wr) (μ:=fun i _=>n-(intOf i).toNat) ⟨0,_,rfl,by omega,rfl,rfl,M,d,bb⟩ ?_
 rintro _ dd w3 m ⟨k,I,rfl,hk,hI,u,C,J,j⟩ hm;refine aV ?_;by_cases ad:k<n
 ·refine ay (by omega) <|aw <|bq <|yr <|ixB rfl (by omega) ?_;refine dY (fun _=>by kernel_rfl) C (by rw[DX hI rfl rfl rfl];omega) rfl fun w4 R Z=>?_;refine aR (by omega) (by omega) ?_;have e:(lgC (lg0 w.heap.size I)).set (0+0+0+k) (.bool true)=lgC (lg0 w.heap.size (I.set k true)):=by
   rw[show 0+0+0+k=k by omega,K1 (l:=lg0 w.heap.size I) hI rfl rfl (by omega)];rfl
  have U:blk w4 (w.heap.size+1) 79 (lgC (lg0 w.heap.size (I.set k true))):=by rw[←e];simpa using R
  exact⟨⟨k+1,I.set k true,ivS,by omega,by rw[List.length_set,hI],by rw[u,TY (by omega)],U,Z.blk J (by omega),bA j Z (by omega)⟩,by rw[hm];show n-((k:Int)+1).toNat<n-(k:Int).toNat;omega⟩
 ·refine au (by omega) <|DP ?_;exact h w3 _ _ (lm0 hI C J (by omega) (Nat.le_refl _)) gi0 rfl (by rw[u,show k=n by omega];rfl) j
end
end
section
open Go.RowKit
theorem Bk {α:Type}{enc:α→List Value}(h:∀x,∀v∈enc x,v.oneCell'=true)(L:List α):∀v∈L.flatMap enc,v.oneCell'=true:=by
 intro v j;obtain⟨x,_,d⟩:=List.mem_flatMap.1 j;exact h x v d
section
variable {w:World}{K:KV}{B p:Nat}{l:LG}
theorem LY :(Tryz.prog.info? 38).map (fun i=>(i.zero,i.size,i.bytes))=some (some (.agg (ndE ⟨0,0,z54⟩).toArray),56,448):=by kernel_rfl
theorem LZ :(Tryz.prog.info? 100).map (fun i=>(i.zero,i.size,i.bytes))=some (some (.agg (grC ⟨0,0,0,0,0⟩).toArray),5,40):=by kernel_rfl
theorem K7 (x:Int):∀v∈uC x,v.oneCell'=true:=by simp[uC,u6,Value.oneCell']
structure CP (w0 w:World) (l m:LG) (p k:Nat):Prop where
 i6:m.s.I.length=6
 l6:m.s.L.length=6
 v6:m.s.V.length=6
 q6:m.q.length=6
 R:m.R=l.R
 cl:blk w p 79 (lgC m)
 lo:w0.heap.size≤p
 gv:m.s.gv=.slice m.ga m.G.length m.gc
 nd:w.ownsRow w0.heap.size 38 56 (.slice m.s.na m.s.nodes.length m.s.nc) m.s.nodes.length (m.s.nodes.flatMap ndE)
 gr:w.ownsRow w0.heap.size 100 5 (.slice m.ga m.G.length m.gc) m.G.length (m.G.flatMap grC)
 tm:TM w w0.heap.size m.t m.T
 rq:∀j,j<k→∃a c,m.q[j]? = some (.slice a (l.R.getD j []).length c)∧w.ownsRow w0.heap.size 24 1 (.slice a (l.R.getD j []).length c) (l.R.getD j []).length ((l.R.getD j []).flatMap uC)
 nq:∀j,j<6→k≤j→m.q[j]? = some lQ
 ne:∀(j k:Nat) (v v':Value) (b:Nat),j≠k→m.q[j]? = some v→m.q[k]? = some v'→v.ownBlock=some b→v'.ownBlock≠some b
 bel:Below w0.heap.size w0 w
theorem CP.drew {w0:World}{m:LG}{k:Nat}(h:CP w0 w l m p k):CP w0 w.drew l m p k :=
 {h with
  bel:=h.bel.drew
  cl:=h.cl.drew
  tm:=h.tm.fresh (Below.refl _ w).drew
  nd:=di h.nd fun _ _=>rfl
  gr:=di h.gr fun _ _=>rfl
  rq:=fun j d=>(h.rq j d).imp fun a=>Exists.imp fun c hh=>⟨hh.1,di hh.2 fun _ _=>rfl⟩}
theorem Sn {w0:World}{m:LG}{l0 l1 m3 i4:Value}{zf:Nat→Value}(hl:LM w0 B p l)(hr:∀k,k<6→(l.R.getD k []).length≤1000000){pm:Nat}(hc:CP w0 w l m pm 0)(hA:∀x∈m.s.nodes,x.A.length=54)(q0:l0=.pointer (some ⟨p,0,none⟩))(q3:m3=.pointer (some ⟨pm,0,none⟩))(q4:i4=.int .i64 0)(h:∀w' u,LM w' w0.heap.size pm u→Below w0.heap.size w0 w'→u.s.I=m.s.I→u.s.L=m.s.L→u.s.V=m.s.V→u.s.nodes=m.s.nodes→u.G=m.G→u.T=m.T→u.R=l.R→K (.pointer (some ⟨pm,0,none⟩)) w'):jT K ((fR l0 l1 m3 i4 zf)) w:=by
 subst q0 q3 q4;refine wT (Inv:=fun i wr=>∃(k:Nat) (u:LG),i=.int .i64 (k:Nat)∧k≤6∧CP w0 wr l u pm k∧u.s.I=m.s.I∧u.s.L=m.s.L∧u.s.V=m.s.V∧u.s.nodes=m.s.nodes∧u.G=m.G∧u.T=m.T) (μ:=fun i _=>6-(intOf i).toNat) ⟨0,m,rfl,by omega,hc,rfl,rfl,rfl,rfl,rfl,rfl⟩ ?_;rintro _ dd w1 mm ⟨k,u,rfl,hk,d,e1,e2,e3,e4,e5,e6⟩ hm;refine aV ?_;by_cases J:k<6
 ·refine ay (by omega) ?_;have d:=d.drew;have ad:LM w1.drew B p l:=hl.fresh d.bel;obtain⟨a,c,hq,ap⟩:=ad.rq k J;have a4:(lgC l)[0+21+k]? = some (.slice a (l.R.getD k []).length c):=by rw[Nat.zero_add];exact ad.cQ.trans hq
  have a8:=d.nq k J (Nat.le_refl _);have be:(lgC u)[0+21+k]? = some lQ:=by
   rw[Nat.zero_add];unfold lgC;have hs:(saC u.s).length=20:=by simp[saC,d.i6,d.l6,d.v6]
   rw[List.getElem?_append_right (by omega),hs,show 21+k-20=k+1 by omega,List.getElem?_cons_succ];exact a8
  have a9:=hr k J;generalize bk:l.R.getD k []=rs at ap hq a4 a9
  refine aE (fun x=>blk x pm 79 (lgC u)∧blk x p 79 (lgC l)) ⟨d.cl,ad.cl⟩ <|ab (fun x X _=>aw) <|ab (fun x X _=>pP) <|ab (fun x X _=>ixQ rfl J) <|ab (v:=lQ) (fun x X _=>lK X.1 be) <|ab (fun x X _=>aw) <|ab (fun x X _=>pP) <|ab (fun x X _=>ixQ rfl J) <|ab (v:=.slice a rs.length c) (fun x X _=>lK X.2 a4) <|ab (fun x X _=>aw) <|ab (fun x X _=>pP) ?_
  obtain⟨ii,a6,hz,a7,bi⟩:=info_parts Ab;refine JC (base:=w0.heap.size) (av:=none) (s:=1) underlying76 a6 hz a7 bi rfl (by omega) (World.ownsRow_nil _ _ _ _) ap (Bk K7 _) (by omega) (by omega) d.bel.size fun a' c' w2 aS hg b2 bb=>?_;have B2:Below w1.drew.heap.size w1.drew w2:=fJ hg (Nat.le_refl _) (fun k hk=>by cases hk);have M:=af B2 d.cl d.cl.lt
  refine aO ⟨M,af B2 ad.cl ad.cl.lt⟩ <|ab (fun x X _=>ixQ rfl J) ?_;have bv:(lgC u).length=27:=DX d.i6 d.l6 d.v6 d.q6;refine dY (fun _=>by kernel_rfl) M (by omega) rfl fun w3 a0 o3=>?_;refine aR (by omega) (by omega) ?_;rw[show 0+21+k=21+k by omega,K6 d.i6 d.l6 d.v6]at a0
  have ar:∀j,(u.q.set k (.slice a' rs.length c'))[j]? = if k=j then some (.slice a' rs.length c')else u.q[j]? := by
   intro j;rw[List.getElem?_set];by_cases C:k=j
   ·subst C;simp[d.q6,J]
   ·simp[C]
  have am:∀(j:Nat) (v:Value) (b:Nat),u.q[j]? = some v→v.ownBlock=some b→b<w1.drew.heap.size:=by
   intro j v b U Z;have az:j<6:=by rw[←d.q6];exact(List.getElem?_eq_some_iff.1 U).1
   by_cases bd:j<k
   ·obtain⟨a2,c2,al,ag⟩:=d.rq j bd;rw[U]at al;cases al;exact(World.ownsRow.lt ag b Z).2
   ·rw[d.nq j az (by omega)]at U;cases U;cases Z
  have an:∀b,(Value.slice a' rs.length c').ownBlock=some b→b=w1.drew.heap.size:=by
   intro b Z;rcases bb with h1|h1
   ·rw[h1]at Z;cases Z
   ·rw[h1]at Z;cases Z;rfl
  refine⟨⟨k+1, {u with q:=u.q.set k (.slice a' rs.length c')},ivS,by omega,?_,e1,e2,e3,e4,e5,e6⟩,by rw[hm];show 6-((k:Int)+1).toNat<6-(k:Int).toNat;omega⟩;exact {
   i6:=d.i6
   l6:=d.l6
   v6:=d.v6
   q6:=by rw[List.length_set];exact d.q6
   R:=d.R
   cl:=a0
   lo:=d.lo
   gv:=d.gv
   nd:=dJ (di d.nd fun q hq=>B2.block q (World.ownsRow.lt d.nd q hq).2) M (by decide) o3
   gr:=dJ (di d.gr fun q hq=>B2.block q (World.ownsRow.lt d.gr q hq).2) M (by decide) o3
   tm:=(d.tm.fresh B2).keep (o3.keep (T:=[79]) (B:=w0.heap.size) M (by simp) d.lo) (by decide) (by decide)
   rq:=fun j U=>by
    show ∃a c,(u.q.set k (.slice a' rs.length c'))[j]? = _∧_;rw[ar];by_cases C:k=j
    ·subst C;rw[if_pos rfl,bk];exact⟨a',c',rfl,dJ aS M (by decide) o3⟩
    ·rw[if_neg C];obtain⟨a2,c2,al,ag⟩:=d.rq j (by omega);exact⟨a2,c2,al,dJ (di ag fun q hq=>B2.block q (World.ownsRow.lt ag q hq).2) M (by decide) o3⟩
   nq:=fun j az C=>by
    show (u.q.set k (.slice a' rs.length c'))[j]? = _;rw[ar,if_neg (by omega)];exact d.nq j az (by omega)
   ne:=fun i j v v' b bt hi U Z=>by
    replace hi:(u.q.set k (.slice a' rs.length c'))[i]? = some v:=hi
    replace U:(u.q.set k (.slice a' rs.length c'))[j]? = some v':=U
    rw[ar]at hi U;by_cases a3:k=i
    ·rw[if_pos a3]at hi;cases hi;have bW:=an b Z;by_cases C:k=j
     ·omega
     ·rw[if_neg C]at U;intro hh
      have:=am j v' b U hh
      omega
    ·rw[if_neg a3]at hi;by_cases C:k=j
     ·rw[if_pos C]at U;cases U;intro hh;have h1:=an b hh
      have:=am i v b hi Z
      omega
     ·rw[if_neg C]at U;exact d.ne i j v v' b bt hi U Z
   bel:=bA (d.bel.trans (B2.mono d.bel.size)) o3 d.lo}
 ·refine au (by omega) ?_;have J:k=6:=by omega
  subst J;refine wU ?_;refine h w1 u ?_ d.bel e1 e2 e3 e4 e5 e6 d.R;exact {
   i6:=d.i6
   l6:=d.l6
   v6:=d.v6
   q6:=d.q6
   r6:=by rw[d.R];exact hl.r6
   A54:=by rw[e4];exact hA
   cl:=d.cl
   lo:=d.lo
   gv:=d.gv
   nd:=d.nd
   gr:=d.gr
   tm:=d.tm
   rq:=by rw[d.R];exact d.rq
   ne:=d.ne}
end
end
section
open Go.RowKit
section
variable {w:World}{K:KV}{B p:Nat}{l:LG}
theorem So {w0:World}{m:LG}{l0 l1 m3 i4:Value}{zf:Nat→Value}(hl:LM w0 B p l)(hr:∀k,k<6→(l.R.getD k []).length≤1000000)(ht:l.T.length≤1000000){X:Nat}(d:CP w0 w l m X 0)(hA:∀x∈m.s.nodes,x.A.length=54)(az:m.T=[])(Z:blk w m.t 140 [lQ])(q0:l0=.pointer (some ⟨p,0,none⟩))(q3:m3=.pointer (some ⟨X,0,none⟩))(h:∀w' m',LM w' w0.heap.size X m'→Below w0.heap.size w0 w'→m'.s.I=m.s.I→m'.s.L=m.s.L→m'.s.V=m.s.V→m'.s.nodes=m.s.nodes→m'.G=m.G→m'.T=l.T→m'.R=l.R→K (.pointer (some ⟨X,0,none⟩)) w'):iH K ((fR l0 l1 m3 i4 zf)) w:=by
 subst q0 q3;refine wS ?_;have d:=d.drew;have Z:blk w.drew m.t 140 [lQ]:=Z.drew;have J:LM w.drew B p l:=hl.fresh d.bel;obtain⟨a,c,U,ag⟩:=J.tm.row;have al:(lgC m)[20]? = some (.pointer (some ⟨m.t,0,none⟩)):=by
  have hs:(saC m.s).length=20:=by simp[saC,d.i6,d.l6,d.v6]
  unfold lgC;rw[List.getElem?_append_right (by omega),hs];rfl
 refine aE (fun x=>blk x X 79 (lgC m)∧blk x p 79 (lgC l)∧blk x m.t 140 [lQ]∧blk x l.t 140 [.slice a l.T.length c]) ⟨d.cl,J.cl,Z,U⟩ <|ab (fun x u _=>aw) <|ab (fun x u _=>vg) <|ab (v:=.pointer (some ⟨m.t,0,none⟩)) (fun x u _=>lK u.1 al) <|ab (fun x u _=>aw) <|ab (fun x u _=>vg) <|ab (v:=.pointer (some ⟨m.t,0,none⟩)) (fun x u _=>lK u.1 al) <|ab (fun x u _=>aw) <|ab (fun x u _=>kB) <|ab (v:=lQ) (fun x u _=>lK u.2.2.1 rfl) <|ab (fun x u _=>aw) <|ab (fun x u _=>vg) <|ab (v:=.pointer (some ⟨l.t,0,none⟩)) (fun x u _=>lK u.2.1 J.cT) <|ab (fun x u _=>aw) <|ab (fun x u _=>kB) <|ab (v:=.slice a l.T.length c) (fun x u _=>lK u.2.2.2 rfl) ?_
 obtain⟨ii,an,hz,ap,am⟩:=info_parts Ld;refine JC (base:=w0.heap.size) (av:=none) (s:=2) underlying138 an hz ap am rfl (by omega) (World.ownsRow_nil _ _ _ _) ag (Bk El _) (by omega) (by omega) d.bel.size fun a' c' w2 ad hg b2 ar=>?_;have B2:Below w.drew.heap.size w.drew w2:=fJ hg (Nat.le_refl _) (fun k hk=>by cases hk);have C:=af B2 Z Z.lt
 refine aO ⟨af B2 d.cl d.cl.lt,af B2 J.cl J.cl.lt,C,af B2 U U.lt⟩ <|ab (fun x u _=>aw) <|ab (fun x u _=>kB) ?_;refine dY (fun _=>by kernel_rfl) C (by simp) rfl fun w3 M o3=>?_;have M:blk w3 m.t 140 [.slice a' l.T.length c']:=M;have c3:CP w0 w3 l {m with T:=l.T} X 0:={
   i6:=d.i6
   l6:=d.l6
   v6:=d.v6
   q6:=d.q6
   R:=d.R
   cl:=o3.blk (af B2 d.cl d.cl.lt) (fun hh=>d.cl.ne Z (by decide) hh)
   lo:=d.lo
   gv:=d.gv
   nd:=dJ (di d.nd fun q hq=>B2.block q (World.ownsRow.lt d.nd q hq).2) C (by decide) o3
   gr:=dJ (di d.gr fun q hq=>B2.block q (World.ownsRow.lt d.gr q hq).2) C (by decide) o3
   tm:=⟨⟨a',c',M,dJ ad C (by decide) o3⟩,d.tm.lo⟩
   rq:=fun j hj=>absurd hj (by omega)
   nq:=d.nq
   ne:=d.ne
   bel:=bA (d.bel.trans (B2.mono d.bel.size)) o3 d.tm.lo}
 exact Sn hl hr c3 hA rfl rfl rfl h
end
end
section
open Go.RowKit
theorem LM.drew {w:World}{B p:Nat}{l:LG}(h:LM w B p l):LM w.drew B p l:=h.fresh (Below.refl _ w).drew
theorem LM.nodes' {w w':World}{B p:Nat}{l:LG}{Ts:List TypeId}{N:List ND}{a:Option Addr}{c:Nat}(h:LM w B p l)(d:Keep Ts B w w')(R:100∉Ts)(J:140∉Ts)(I:199∉Ts)(M:24∉Ts)(u:blk w' p 79 (lgC {l with s:={l.s with nodes:=N,na:=a,nc:=c} }))(C:w'.ownsRow B 38 56 (.slice a N.length c) N.length (N.flatMap ndE))(U:∀x∈N,x.A.length=54):LM w' B p {l with s:={l.s with nodes:=N,na:=a,nc:=c} } :=
 {h with
  A54:=U
  cl:=u
  nd:=C
  gr:=dW h.gr d R
  tm:=h.tm.keep d J I
  rq:=fun k j => (h.rq k j).imp fun a=>Exists.imp fun c hh=>⟨hh.1,dW hh.2 d M⟩}
theorem LM.tree' {w w':World}{B p:Nat}{l:LG}{T:List (Int×Int)}(h:LM w B p l)(d:Keep BW B w w')(u:TM w' B l.t T):LM w' B p {l with T:=T} :=
 {h with
  cl:=d.blk h.cl (.inr (by decide))
  nd:=dW h.nd d (by decide)
  gr:=dW h.gr d (by decide)
  tm:=u
  rq:=fun k j => (h.rq k j).imp fun a=>Exists.imp fun c hh=>⟨hh.1,dW hh.2 d (by decide)⟩}
abbrev wK :List TypeId:=[79,38]
theorem Ma {x:ND}(h:x.A.length=54){k:Nat}(d:k<54)(v:Int):(ndE x).set (2+k) (iv v)=ndE {x with A:=x.A.set k v}:=by
 rw[CL h,CL (by simpa using h)];unfold ndC;rw[show 2+k=(k+1)+1 by omega,List.set_cons_succ,List.set_cons_succ,List.map_set]
end
section
open Go.RowKit
theorem LM.nn {w:World}{B p:Nat}{l:LG}(h:LM w B p l):∀k,(Value.slice l.s.na l.s.nodes.length l.s.nc).ownBlock=some k→k<w.heap.size:=fun k d=>(World.ownsRow.lt h.nd k d).2
theorem Sp {T:List (Int×Int)}{id par:Int}(h:(iE T id par).2=0):id≠0∧cf T id=false∧(par=0∨cf T par=true)∧T.length<32∧(iE T id par).1=fa T (nL (gtI id) T T.length) (id,par):=by
 unfold iE at h ⊢;by_cases u:id=0
 ·rw[if_pos u]at h;simp at h
 rw[if_neg u]at h ⊢;by_cases j:cf T id=true
 ·rw[if_pos j]at h;simp at h
 rw[if_neg j]at h ⊢;by_cases d:par≠0∧cf T par=false
 ·rw[if_pos d]at h;simp at h
 rw[if_neg d]at h ⊢;by_cases I:32≤T.length∨4≤(df T par).length
 ·rw[if_pos I]at h;simp at h
 rw[if_neg I];refine⟨u,by simpa using j,?_,by omega,rfl⟩;by_cases C:par=0
 ·exact .inl C
 ·refine .inr ?_;cases J:cf T par with
  | true=>rfl
  | false=>exact absurd ⟨C,J⟩ d
end
section
open Go.RowKit Go.ChangeMaps
theorem U0 {l k:List Int}(j:l.Perm k)(h:l.Pairwise (· < ·))(d:k.Pairwise (· < ·)):l=k :=
 List.Perm.eq_of_pairwise (le:=(· < ·)) (fun a b _ _ h d=>by omega) h d j
theorem CM (t:STA):saC t=(t.I.map .bool++t.L.map .bool++t.V.map (.int .u64))++[.slice t.na t.nodes.length t.nc,t.gv]:=rfl
theorem Sq {t:STA}(j:t.I.length=6)(h:t.L.length=6)(d:t.V.length=6){N:List ND}{a:Option Addr}{n c:Nat}(u:N.length=n):(saC t).set 18 (.slice a n c)=saC {t with nodes:=N,na:=a,nc:=c}:=by
 subst u;rw[CM,show (18:Nat)=18+0 by omega,uf (n:=18) (by simp[j,h,d])];rfl
theorem Sr {t:STA}(j:t.I.length=6)(h:t.L.length=6)(d:t.V.length=6){v:Value}:(saC t).set 19 v=saC {t with gv:=v}:=by
 rw[CM,show (19:Nat)=18+1 by omega,uf (n:=18) (by simp[j,h,d])];rfl
theorem Ss {t:STA}(d:t.I.length=6)(j:t.L.length=6)(h:t.V.length=6):(saC t)[18]? = some (.slice t.na t.nodes.length t.nc):=by
 rw[CM,show (18:Nat)=18+0 by omega,nU (n:=18) (by simp[d,j,h])];rfl
theorem ue {t:STA}(d:t.I.length=6)(j:t.L.length=6)(h:t.V.length=6):(saC t).length=20:=by simp[saC,d,j,h]
theorem NR.own {w:World}{B n c:Nat}{a:Option Addr}{L:List ND}(h:w.ownsRow B 38 56 (.slice a n c) n (L.flatMap ndE))(R:L.length=n)(V:∀x∈L,x.A.length=54):NR w a n c L:=by
 refine⟨R,?_,?_,V,?_⟩
 ·rcases h.2 with⟨h1,h2⟩|⟨g,cap,d,Z,_,_,hn,_⟩
  ·omega
  ·simp only[Value.slice.injEq]at Z;omega
 ·intro h0;obtain⟨g,d,C,_⟩:=cY h h0;exact⟨g,0,C⟩
 ·intro i x M b o C j u I;have hi:i<n:=by rw[←R];exact(List.getElem?_eq_some_iff.1 M).1
  obtain⟨g,d,J,U⟩:=cY h (by omega);rw[J]at C;cases C;rw[←CL (V x (List.mem_of_getElem? M))]at I;have X:j<56:=by rw[←eZ x];exact(List.getElem?_eq_some_iff.1 I).1
  rw[U.blk.cell,Nat.zero_add,U.cell eZ R M X];exact I
structure SO (w:World) (B:Nat) (s:PL) (t:STA) (ga:Option Addr) (gc:Nat):Prop where
 eI:t.I=s.I
 eL:t.L=s.L
 eV:t.V=s.V
 eN:t.nodes=s.N
 gv:t.gv=.slice ga s.G.length gc
 nd:w.ownsRow B 38 56 (.slice t.na s.N.length t.nc) s.N.length (s.N.flatMap ndE)
 gr:w.ownsRow B 100 5 (.slice ga s.G.length gc) s.G.length (s.G.flatMap grC)
theorem SO.sk {w:World}{B:Nat}{s:PL}{t:STA}{M:Option Addr}{R:Nat}(h:SO w B s t M R)(hi:PI s):SK w t:=by
 have J:=hi.len30;obtain⟨I,L,V,d,na,U,X⟩:=t;obtain⟨e1,e2,e3,j,u,C,Z⟩:=h;simp only at e1 e2 e3 j u C;subst e1 e2 e3 j u;exact⟨hi.i6,hi.l6,hi.v6,NR.own C rfl hi.A54,by show s.N.length≤_;omega,rfl⟩
theorem Om :(Tryz.prog.info? 38).map (fun i=>(i.zero,i.size,i.bytes))=some (some (.agg (ndE ⟨0,0,[]⟩).toArray),56,448):=by kernel_rfl
theorem Qs {x:ND}(h:x.A.length=54):Tryz.prog.built 38 [(0,u6 x.id),(1,u6 x.par),(2,rgV x.A)]=some (ndE x).toArray:=by
 unfold rgV;rw[←Ay h]
 kernel_rfl
theorem On {I L:List Bool}{V:List Int}(d:I.length=6)(j:L.length=6)(h:V.length=6):Tryz.prog.built 30 [(0,.agg (I.map .bool).toArray),(1,.agg (L.map .bool).toArray),(2,.agg (vCs V).toArray)]=some (saC ⟨I,L,V,[],none,0,.slice none 0 0⟩).toArray:=by
 obtain⟨_,_,_,_,_,_,rfl⟩:=ud d;obtain⟨_,_,_,_,_,_,rfl⟩:=ud j;obtain⟨_,_,_,_,_,_,rfl⟩:=ud h
 kernel_rfl
theorem DY {t:STA}(h:t.gv.oneCell'=true):∀v∈saC t,v.oneCell'=true:=by
 intro v d;unfold saC at d;simp only[List.mem_append,List.mem_map,List.mem_cons,List.not_mem_nil,or_false]at d;rcases d with((⟨_,_,rfl⟩|⟨_,_,rfl⟩)|⟨_,_,rfl⟩)|(rfl|rfl)
 ·rfl
 ·rfl
 ·rfl
 ·rfl
 ·exact h
section
variable {w:World}{K:KV}{q:LB}{s:PL}
theorem PM.ldI (h:PM w q s)(hK:K (.agg (s.I.map .bool).toArray) w):ld Tryz.prog 23 (.pointer (some ⟨q.p,0+0,none⟩)) K w:=by
 refine ldA (n:=6) (vs:=s.I.map .bool) underlying23 rfl (by kernel_rfl) h.b ?_ (by simp[h.i6]) hK;unfold plC;rw[Nat.zero_add,List.drop_zero,List.take_append_of_le_length (by simp[h.i6]),List.take_of_length_le (by simp[h.i6])]
theorem PM.ldL (h:PM w q s)(hK:K (.agg (s.L.map .bool).toArray) w):ld Tryz.prog 23 (.pointer (some ⟨q.p,0+6,none⟩)) K w:=by
 refine ldA (n:=6) (vs:=s.L.map .bool) underlying23 rfl (by kernel_rfl) h.b ?_ (by simp[h.l6]) hK;unfold plC;rw[Nat.zero_add,show (6:Nat)=(s.I.map Value.bool).length by simp[h.i6],List.drop_left',List.take_append_of_le_length (by simp[h.i6,h.l6]),List.take_of_length_le (by simp[h.i6,h.l6])];rfl
theorem Qt (h:PM w q s)(hi:PI s)(hP:∀{l0 l1 s2 bi a0 be bk:Value} {zf:Nat→Value} (w':World) J C,l0=pB q.p→s2=pB w.heap.size→blk w' w.heap.size 30 (saC ⟨s.I,s.L,s.V,s.N,J,C,.slice none 0 0⟩)→w'.ownsRow (w.heap.size+1) 38 56 (.slice J s.N.length C) s.N.length (s.N.flatMap ndE)→Below w.heap.size w w'→fy K ((fO l0 l1 s2 bi a0 be bk zf)) w'):call Tryz.prog 11 #[pB q.p] K w:=by
 have bW:=h.lt;have bt:=hi.len30;refine aB (goK func11) (Au ?_);refine dH (z:=.agg (saC ⟨List.replicate 6 false,List.replicate 6 false,List.replicate 6 0,[],none,0,.slice none 0 0⟩).toArray) (by kernel_rfl) fun w1 z1 b1 s1=>xO (bw ?_);have z1:blk w1 w.heap.size 30 (saC ⟨List.replicate 6 false,List.replicate 6 false,List.replicate 6 0,[],none,0,.slice none 0 0⟩):=by simpa[Value.cells]using z1
 have p1:=(h.below b1).drew;have z1:=z1.drew;have b1:=b1.drew;refine aa (fun _=>aw) (aa (fun _=>y8) (aa (fun _=>p1.ldI) ?_));refine aa (fun _=>aw) (aa (fun _=>Fb) (aa (fun _=>p1.ldL) ?_));refine aa (fun _=>aw) (aa (fun _=>vh) (aa (fun _=>p1.ldV) ?_));refine aa (fun _=>fS (vs:=saC ⟨s.I,s.L,s.V,[],none,0,.slice none 0 0⟩) (On hi.i6 hi.l6 hi.v6)) ?_
 refine iz (n:=20) (by kernel_rfl) (ue hi.i6 hi.l6 hi.v6) z1 (by simp[saC]) (DY rfl) fun w2 z2 o2=>?_;have z2:blk w2 w.heap.size 30 (saC ⟨s.I,s.L,s.V,[],none,0,.slice none 0 0⟩):=by
  rw[List.take_zero,List.nil_append,List.drop_of_length_le (by simp[saC]),List.append_nil]at z2;exact z2
 have b2:=bA b1 o2 (Nat.le_refl _);have p2:=h.below b2;refine aw (vi (lK (v:=pB q.t) p2.b (by rw[Nat.zero_add];exact p2.c18) ?_));refine Mc p2.tm (by rw[HA];omega) fun w3 a c ids X bd aS b3=>bx underlying76 ?_;have U:ids=s.N.map (·.id):=by
  refine U0 ?_ bd ?_
  ·have e:(tr s.N).map (·.1)=s.N.map (·.id):=by unfold tr;rw[List.map_map];rfl
   rw[←e];exact X
  ·exact List.pairwise_map.2 hi.srt
 have b4:ids.length=s.N.length:=by rw[U,List.length_map]
 have z3:=af b3 z2 z2.lt;have an:=b2.trans (b3.mono b2.size);have bv:=z3.lt;obtain⟨ii,az,hz,ap,a8⟩:=info_parts Om
 refine yJ (Inv:=fun i wr=>∃(k:Nat) (J:Option Addr) (C:Nat),i=iv (k:Nat)∧k≤ids.length∧blk wr w.heap.size 30 (saC ⟨s.I,s.L,s.V,s.N.take k,J,C,.slice none 0 0⟩)∧wr.ownsRow (w.heap.size+1) 38 56 (.slice J k C) k ((s.N.take k).flatMap ndE)∧IdR wr w2.heap.size a c ids∧Below w.heap.size w wr)
  (μ:=fun i _=>ids.length-(intOf i).toNat) ⟨0,none,0,rfl,Nat.zero_le _,z3,World.ownsRow_nil _ _ _ _,aS,an⟩ ?_
 rintro _ dd w4 m ⟨k,J,C,rfl,b0,Z,r4,id4,j⟩ hm;refine aV ?_;by_cases M:k<ids.length
 ·have a7:k<s.N.length:=by omega
  have hx:s.N[k]? = some s.N[k]:=List.getElem?_eq_getElem a7;generalize s.N[k]=x at hx;have R:x∈s.N:=List.mem_of_getElem? hx;have al:ids[k]=x.id:=by
   have:ids[k]? = some x.id:=by rw[U,List.getElem?_map,hx];rfl
   rw[List.getElem?_eq_getElem M]at this;exact Option.some.inj this
  have a3:(s.N.take k).length=k:=by rw[List.length_take];omega
  refine ay (by omega) (id4.at2 M fun pt=>?_);rw[al];have hT:cf (tr s.N) x.id=true:=by rw[jF];exact ky.2 ⟨x,R,rfl⟩
  have ag:ew (tr s.N) x.id=x.par:=AG (HM hi.srt) (List.mem_map.2 ⟨x,R,rfl⟩);have hA:aN s.N x.id=x.A:=oN hi.srt R;have p4:=(h.below j).drew;have Z:=Z.drew;have bb:(saC ⟨s.I,s.L,s.V,s.N.take k,J,C,.slice none 0 0⟩)[18]? = some (.slice J k C):=by rw[Ss hi.i6 hi.l6 hi.v6];show some (Value.slice J (s.N.take k).length C)=_;rw[a3]
  refine aE (fun u=>blk u w.heap.size 30 (saC ⟨s.I,s.L,s.V,s.N.take k,J,C,.slice none 0 0⟩)∧PM u q s) ⟨Z,p4⟩ ?_;refine ab (fun u d _=>dV) (ab (fun u d _=>lK (v:=.slice J k C) d.1 (by rw[Nat.zero_add];exact bb)) ?_);refine ab (fun u d _=>aw) (ab (fun u d _=>Fc) (ab (fun u d _=>lK (v:=.map (some q.pm)) d.2.b (by rw[Nat.zero_add];exact d.2.c19)) (ab (fun u d _=>d.2.par_l hi hT) ?_)))
  refine ab (fun u d _=>aw) (ab (fun u d _=>pR) (ab (fun u d _=>lK (v:=.map (some q.rm)) d.2.b (by rw[Nat.zero_add];exact d.2.c20)) (ab (fun u d _=>d.2.rg_l hi) ?_)));rw[ag,hA];refine ab (fun u d _=>fS (vs:=ndE x) (Qs (hi.A54 x R))) ?_
  refine oe (vs:=[.agg (ndE x).toArray]) underlying27 (s:=56) (by kernel_rfl) (by kernel_rfl) (by omega) rfl (by simp) (by simp) (by simp) (by simp[Value.cells,eZ]) fun w5 k5 b5 s5=>?_;have k5:blk w5 w4.drew.heap.size 38 (ndE x):=by simpa[Value.cells]using k5
  have z5:=af b5 Z Z.lt;have p5:=p4.below b5;have am:w4.drew.ownsRow (w.heap.size+1) 38 56 (.slice J k C) k ((s.N.take k).flatMap ndE):=r4;have r5:=di am fun g hg=>b5.block g (World.ownsRow.lt am g hg).2;have id5:=(id4.below (Below.refl _ w4).drew).below b5;have ad:=j.drew.trans (b5.mono j.drew.size);refine aO ⟨z5,p5⟩ ?_
  refine rU (base:=w.heap.size+1) (enc:=ndE) (x:=x) underlying27 az hz ap a8 rfl (by omega) eZ r5 k5 (xP x) (by omega) (by omega) (by have:=z5.lt;omega) fun a6 c6 w6 r6 ar b6 _=>?_;have z6:=eT z5 r5 (by decide) ar;have a4:IdR w6 w2.heap.size a c ids:=id5.imp fun g cs _ hb=>eT hb r5 (by decide) ar;have av:=ad.trans (b6.mono (by omega))
  refine aE (fun _=>True) trivial (ab (fun u d _=>dV) ?_);refine dY (fun _=>by kernel_rfl) z6 (by rw[ue hi.i6 hi.l6 hi.v6];omega) rfl fun w7 z7 o7=>aR (by omega) (by omega) ?_;have a2:s.N.take (k+1)=s.N.take k++[x]:=by rw[List.take_add_one,hx];rfl
  rw[Nat.zero_add,Sq hi.i6 hi.l6 hi.v6 (N:=s.N.take (k+1)) (by rw[List.length_take];omega)]at z7;refine⟨⟨k+1,a6,c6,ivS,M,z7,by rw[a2];exact dJ r6 z6 (by decide) o7,a4.imp fun g cs _ hb=>o7.blk hb fun e=>?_,bA av o7 (Nat.le_refl _)⟩,by rw[hm];show ids.length-((k:Int)+1).toNat<ids.length-(k:Int).toNat;omega⟩;subst e;exact absurd (sJ hb z6) (by decide)
 ·have a9:k=s.N.length:=by omega
  subst a9;rw[List.take_length]at Z r4;exact au (by omega) (hP w4 J C rfl rfl Z r4 j)
end
end
end
end Go.Proofs.YtgpfkmdknlcemaaGreatDoor
