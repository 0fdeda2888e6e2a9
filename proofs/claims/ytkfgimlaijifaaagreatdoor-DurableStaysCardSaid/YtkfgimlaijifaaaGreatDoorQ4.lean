import Derived.Test.YtkfgimlaijifaaaGreatDoorQ1
import Derived.Test.YtkfgimlaijifaaaGreatDoorQ2
import Derived.Test.YtkfgimlaijifaaaGreatDoorQ3
import Derived.Test.YtkfgimlaijifaaaGreatDoorChecked
import Derived.DeepKeys
namespace Go.Proofs.YtkfgimlaijifaaaGreatDoor
set_option maxRecDepth 100000
set_option maxHeartbeats 4000000
open Go.Proofs.Tryz
variable {w w' w0:World}{K:KV}{zf:Nat→Value}{b c n o k B i p g m j s z c2 f d D B2 hi:Nat}{a av a2:Option Addr}{x r v:Int}{A:List Int}{E t e:TypeId}{cs xs ys vs:List Value}{B1:KE}{P:Program}{L:List (Int×Int)}{C:Nat→Int}{cx cy:Bool}{V0 W0 X0 Y0 Z0 H1 I1:Value}
section
attribute [local irreducible] bin un conv call aZ blt slc ai fld aL idx lkp cP eP eSt rng nxt ent ext alc box bld bg ld sto aJ cr mkS ifc pick rdy wts aG sti cond aV Gives ah dy dP cOp
section
open Go.RowKit
theorem Uq {l:List Int}(hr:RV w a n c (l.map iv))(hn:n≤1000)(h:K (.tuple #[iv (nl l).1,.bool (nl l).2]) w):call Q 221 #[.slice a n c] K w:=by
 have hl:l.length=n:=by simpa using hr.len
 refine ak (goK func221) (SB ?_);refine bh underlying333 <|Ql (Inv:=fun s i wr=>∃j:Nat,s=iv (l.take j).sum∧i=ci (j:Nat)∧j≤n∧wr=w∧(l.take j).all okA=true) (μ:=fun _ i _=>n-(intOf i).toNat) ⟨0,by simp[iv],rfl,by omega,rfl,by simp⟩ ?_;rintro _ _ dd _ m ⟨j,rfl,rfl,hj,rfl,u⟩ hm;by_cases aa:j<n
 ·(repeat (first|refine aK ?_|refine ax oo ?_))
  have hv:(l.map iv)[j]? = some (iv (nA l j)):=by
   simp[nA,List.getD,gE (show j<l.length by omega)]
  refine HQ underlying333 kf oo oo hr.some_ ?_;rw[Int.toNat_natCast];refine yR kf (hr.cell _ _ hv) ?_;have hx:nA l j=l[j]:=by simp[nA,List.getD,show j<l.length by omega]
  have C:l.all okA=true→okA (nA l j)=true:=fun h=>by rw[hx];exact List.all_eq_true.1 h _ (List.getElem_mem _)
  have I:okA (nA l j)=false→nl l=(0,false):=fun hb=>by
   unfold nl;cases M:l.all okA with
   | false=>rfl
   | true=>rw[C M]at hb;cases hb
  have ht:l.take (j+1)=l.take j++[nA l j]:=by rw[hx,List.take_append_getElem oo]
  unfold iv;refine aK ?_;by_cases U:nA l j<0
  ·refine iq U <|bA U <|aT ?_
   have:okA (nA l j)=false:=by
    cases M:okA (nA l j)with
    | false=>rfl
    | true=>have:=om.1 M;omega
   rw[I this]at h;exact h
  ·refine dt U <|bO <|bj U ?_;by_cases h1:nA l j>1125899906842624
   ·refine ax h1 ?_
    have:okA (nA l j)=false:=by
     cases M:okA (nA l j)with
     | false=>rfl
     | true=>have:=om.1 M;simp only[MXA]at this;omega
    rw[I this]at h;exact h
   ·refine ao h1 ?_;have Z:okA (nA l j)=true:=om.2 ⟨by omega,by simp only[MXA];omega⟩;have O:=JG u;have J:(l.take j).length=j:=by rw[List.length_take];omega
    rw[J]at O;simp only[MXA]at O;refine aM oo oo <|aM oo oo ?_;refine⟨⟨j+1,?_,by simp,by omega,rfl,?_⟩,?_⟩
    ·rw[ht];simp[iv]
    ·rw[ht,List.all_append,u];simp[Z]
    ·rw[hm];simp[intOf];omega
 ·obtain rfl:j=n:=by omega
  (repeat (first|refine Qm ?_|refine aK ?_|refine ao oo ?_))
  rw[tL oo]at u ⊢;unfold nl at h;rw[u]at h;exact h
/-! ## Rows of numbers of the call's own. -/
abbrev OI (w:World)(B p n c:Nat)(l:List Int):Prop:=OV w B 2 (some ⟨p,0,none⟩) n c (l.map iv)
theorem OI.lt {l:List Int}(h:OI w B p n c l):B≤p∧p<w.heap.size:=OV.block h p rfl
theorem OI.keep {l:List Int}(h:OI w B p n c l)(j:w'.heap[p]? = w.heap[p]?):OI w' B p n c l:=cD h fun k e=>by cases e;exact j
theorem bl1 (h:∀w',blk w' w.heap.size 2 [iv x]→Below w.heap.size w w'→w'.heap.size=w.heap.size+1→K (.slice (some ⟨w.heap.size,0,none⟩) 1 1) w'):bg Q 333 1 #[(0,iv x)] K w :=
 oG (vs:=[iv x]) underlying333 (s:=1) kr kr oo rfl sm sm sm (by simp[Value.cells,iv]) fun w' j b s=>h w' (by simpa[iv,Value.cells]using j) b s
theorem bl2 {y:Int}(h:∀w',blk w' w.heap.size 2 [iv x,iv y]→Below w.heap.size w w'→w'.heap.size=w.heap.size+1→K (.slice (some ⟨w.heap.size,0,none⟩) 2 2) w'):bg Q 333 2 #[(0,iv x),(1,iv y)] K w :=
 oG (vs:=[iv x,iv y]) underlying333 (s:=1) kr kr oo rfl sm sm sm (by simp[Value.cells,iv]) fun w' j b s=>h w' (by simpa[iv,Value.cells]using j) b s
theorem ZK :(Tryz.prog.info? 2).map (fun i=>(i.zero,i.size,i.bytes))=some (some (ci 0),1,8):=by kernel_rfl
theorem ap1 {cs:Array Bool}{l:List Int}(ho:OI w B p n c l)(hg:blk w g 2 [iv x])(hB:B≤w.heap.size)(hn:n≤1000)(h:∀j u w',OI w' B j (n+1) u (l++[x])→(j=p∨j=w.heap.size)→(∀k,k<w.heap.size→k≠p→w'.heap[k]? = w.heap[k]?)→Below B w w'→K (.slice (some ⟨j,0,none⟩) (n+1) u) w'):blt Q .append #[333,333] E cs #[.slice (some ⟨p,0,none⟩) n c,.slice (some ⟨g,0,none⟩) 1 1] K w:=by
 obtain⟨i,hi,hz,aa,M⟩:=info_parts ZK;refine zf5 (base:=B) (s:=1) (m:=1) (ys:=[iv x]) underlying333 hi hz aa M rfl oo ho hg rfl (by simp[iv,Value.oneCell']) oo oo hB ?_;intro a' u w' I C J;have hb:Below B w w':=cM C hB (fun k O=>by cases O;exact ho.lt.1)
 have Z:∀k,k<w.heap.size→k≠p→w'.heap[k]? = w.heap[k]? := fun k O U=>C.block k O fun e=>U (by cases e;rfl);have hq:∀j,a'=some ⟨j,0,none⟩→K (.slice a' (n+1) u) w':=by
  rintro j rfl;refine h j u w' (by simpa[OV]using I) ?_ Z hb;rcases J with e|e
  ·cases e;exact .inl rfl
  ·cases e;exact .inr rfl
 rcases I.2 with⟨hv,af⟩|⟨g',cap,ad,hv,_⟩
 ·omega
 ·simp only[Value.slice.injEq]at hv;exact hq g' hv.1
structure RtA (w:World) (b o:Nat) (E:TypeId) (cs:List Value) (A:List Int):Prop where
 bk:blk w b E cs
 cut:(cs.drop o).take 54=A.map iv
 len:A.length=54
theorem RtA.get (h:RtA w b o E cs A)(hi:i<54):cs[o+i]? = some (iv (nA A i)):=by
 have j:((cs.drop o).take 54)[i]? = (A.map iv)[i]? := by rw[h.cut]
 rw[List.getElem?_take_of_lt hi,List.getElem?_drop]at j;rw[j]
 have:=h.len
 simp[nA,List.getD,show i<A.length by omega]
theorem RtA.below (h:RtA w b o E cs A)(u:Below B w w')(j:b<B):RtA w' b o E cs A:=⟨ae u h.bk j,h.cut,h.len⟩
theorem Y9 (A:List Int)(k j:Nat):ue A k (j+1)=ue A k j++[nA A (18+6*k+j)]:=by simp[ue,List.range_succ]
theorem ZG (A:List Int)(k j:Nat):inL A k (j+1)=inL A k j++[nA A (18+6*j+k)]:=by simp[inL,List.range_succ]
theorem zak (A:List Int)(k j:Nat):(ue A k j).length=1+j:=by simp[ue];omega
theorem zbQ (A:List Int)(k j:Nat):(inL A k j).length=2+j:=by simp[inL];omega
def Two (w:World)(B p n c q m d:Nat)(l r:List Int):Prop:=p≠q∧OI w B p n c l∧OI w B q m d r
theorem Two.bel {q:Nat}{l r:List Int}(h:Two w B p n c q m d l r)(j:Below w.heap.size w w'):Two w' B p n c q m d l r :=
 ⟨h.1,h.2.1.keep (j.block _ h.2.1.lt.2),h.2.2.keep (j.block _ h.2.2.lt.2)⟩
theorem apL {cs:Array Bool}{q:Nat}{l r:List Int}(M:Two w B p n c q m d l r)(Z:blk w g 2 [iv x])(O:B≤w.heap.size)(hn:n≤1000)(h:∀u j w',Two w' B u (n+1) j q m d (l++[x]) r→(∀k,k<w.heap.size→k≠p→w'.heap[k]? = w.heap[k]?)→Below B w w'→K (.slice (some ⟨u,0,none⟩) (n+1) j) w'):blt Q .append #[333,333] E cs #[.slice (some ⟨p,0,none⟩) n c,.slice (some ⟨g,0,none⟩) 1 1] K w:=by
 obtain⟨C,hl,I⟩:=M;refine ap1 hl Z O hn fun u j w' ho hp J U=>h u j w' ⟨?_,ho,I.keep (J q I.lt.2 (Ne.symm C))⟩ J U
 have:=I.lt
 rcases hp with rfl|rfl<;>omega
theorem apR {cs:Array Bool}{q:Nat}{l r:List Int}(M:Two w B p n c q m d l r)(Z:blk w g 2 [iv x])(O:B≤w.heap.size)(hn:m≤1000)(h:∀u j w',Two w' B p n c u (m+1) j l (r++[x])→(∀k,k<w.heap.size→k≠q→w'.heap[k]? = w.heap[k]?)→Below B w w'→K (.slice (some ⟨u,0,none⟩) (m+1) j) w'):blt Q .append #[333,333] E cs #[.slice (some ⟨q,0,none⟩) m d,.slice (some ⟨g,0,none⟩) 1 1] K w:=by
 obtain⟨I,C,hr⟩:=M;refine ap1 hr Z O hn fun u j w' ho hp J U=>h u j w' ⟨?_,C.keep (J p C.lt.2 I),ho⟩ J U
 have:=C.lt
 rcases hp with rfl|rfl<;>omega
theorem PX {q:Nat}(hA:RtA w b o E cs A)(Z:b<B)(hB:B≤w.heap.size)(hk:k<6)(h2:Two w B p 1 1 q 2 2 (ue A k 0) (inL A k 0))(h:∀w',Below B w w'→K (.tuple #[iv (qX A k).1,.bool (qX A k).2]) w')(e0:V0=pA b o)(e1:W0=ci (k:Nat))(e2:X0=.slice (some ⟨p,0,none⟩) 1 1)(e3:Y0=.slice (some ⟨q,0,none⟩) 2 2)(e4:Z0=ci 0):pk K ((vj V0 W0 X0 Y0 Z0 zf)) w:=by
 subst e0 e1 e2 e3 e4;refine Nf (Inv:=fun a c i wr=>∃(j p q c1 d1:Nat),j≤6∧a=.slice (some ⟨p,0,none⟩) (1+j) c1∧c=.slice (some ⟨q,0,none⟩) (2+j) d1∧i=ci (j:Nat)∧Two wr B p (1+j) c1 q (2+j) d1 (ue A k j) (inL A k j)∧Below B w wr)
  (μ:=fun _ _ i _=>6-(intOf i).toNat) ⟨0,p,q,1,2,by omega,rfl,rfl,rfl,h2,Below.refl _ _⟩ ?_
 rintro _ _ _ dd J m ⟨j,p1,q1,c1,d1,hj,rfl,rfl,rfl,ht,U⟩ hm;have C:RtA J b o E cs A:=hA.below U Z;have an:B≤J.heap.size:=Nat.le_trans hB U.size;refine aK ?_;by_cases av:j<6
 ·refine ax oo ?_;have ad:∀{p2 q2 c2 d2:Nat} {w2:World},Two w2 B p2 (1+j+1) c2 q2 (2+j+1) d2 (ue A k j++[nA A (18+6*k+j)]) (inL A k j++[nA A (18+6*j+k)])→Below B J w2 →
    (∃(j' p q c1 d1:Nat),j'≤6∧Value.slice (some ⟨p2,0,none⟩) (1+j+1) c2=.slice (some ⟨p,0,none⟩) (1+j') c1∧Value.slice (some ⟨q2,0,none⟩) (2+j+1) d2=.slice (some ⟨q,0,none⟩) (2+j') d1∧Value.int .i64 ((j:Int)+1)=ci (j':Nat)∧Two w2 B p (1+j') c1 q (2+j') d1 (ue A k j') (inL A k j')∧Below B w w2) ∧
     6-(intOf (ci ((j:Int)+1))).toNat<m:=by
   intro p2 q2 c2 d2 w2 ar ap;refine⟨⟨j+1,p2,q2,c2,d2,by omega,rfl,rfl,by simp,?_,U.trans ap⟩,by rw[hm];simp[intOf];omega⟩;rw[Y9,ZG];exact ar
  have sB:∀{wa wb:World},B≤wa.heap.size→Below wa.heap.size wa wb→Below B wa wb:=fun h hb=>hb.mono h
  refine au (fun x=>RtA x b o E cs A) ⟨C.bk.drew,C.cut,C.len⟩ <|ab (fun x I _=>aj) <|ab (fun x I _=>aH (off:=18) kr) <|ab (fun x I _=>ew underlying75 (s:=6) kf oo oo) <|ab (fun x I _=>ew underlying74 (s:=1) kf oo oo) <|ab (v:=iv (nA A (18+6*k+j))) (fun x I _=>lK I.bk (by rw[←I.get (i:=18+6*k+j) oo];congr 1;simp;omega)) <|ab (fun x I _=>aj) <|ab (fun x I _=>aH (off:=18) kr) <|ab (fun x I _=>ew underlying75 (s:=6) kf oo oo) <|ab (fun x I _=>ew underlying74 (s:=1) kf oo oo) <|ab (v:=iv (nA A (18+6*j+k))) (fun x I _=>lK I.bk (by rw[←I.get (i:=18+6*j+k) oo];congr 1;simp;omega)) ?_
  have al:Two J.drew B p1 (1+j) c1 q1 (2+j) d1 (ue A k j) (inL A k j):=ht;have O:B≤J.drew.heap.size:=an;have ag:RtA J.drew b o E cs A:=⟨C.bk.drew,C.cut,C.len⟩
  have b0:Below B J J.drew:=(Below.refl B J).drew;generalize J.drew=w2 at *;refine⟨?_,?_⟩
  ·refine bl1 fun w3 g3 b3 s3=>?_;have t3:=al.bel b3;have B3:B≤w3.heap.size:=by omega
   have aa:=b0.trans (sB O b3);refine aC (ag.below (sB O b3) Z) ?_;refine⟨?_,?_⟩
   ·refine apL t3 g3 B3 oo fun p4 c4 w4 t4 k4 M=>?_;refine aC ((ag.below (sB O b3) Z).below M Z) ?_;refine bl1 fun w5 g5 b5 s5=>?_;have B4:=Nat.le_trans B3 M.size;refine au (fun _=>True) trivial ?_;refine apR (t4.bel b5) g5 oo oo fun q6 d6 w6 t6 k6 b6=>?_;refine au (fun _=>True) trivial <|aM oo oo ?_
    exact ad t6 (((aa.trans M).trans (sB B4 b5)).trans b6)
   ·refine bl1 fun w4 g4 M s4=>?_;refine au (fun _=>True) trivial ?_;have af:blk w4 w2.heap.size 2 [iv (nA A (18+6*k+j))]:=ae M g3 oo;refine apL (t3.bel M) af oo oo fun p5 c5 w5 t5 k5 b5=>?_;refine au (fun _=>True) trivial ?_;have am:blk w5 w3.heap.size 2 [iv (nA A (18+6*j+k))]:=by
     unfold blk;rw[k5 _ oo (by have:=t3.2.1.lt;omega)];exact g4
    refine apR t5 am (by have:=b5.size;omega) oo fun q6 d6 w6 t6 k6 b6=>?_;refine au (fun _=>True) trivial <|aM oo oo ?_;exact ad t6 (((aa.trans (sB B3 M)).trans b5).trans b6)
  ·refine bl1 fun w3 g3 b3 s3=>?_;have t3:=al.bel b3;have B3:B≤w3.heap.size:=by omega
   have aa:=b0.trans (sB O b3);refine aC (ag.below (sB O b3) Z) ?_;refine bl1 fun w4 g4 M s4=>?_;refine au (fun _=>True) trivial ?_;refine apL (t3.bel M) g4 oo oo fun p5 c5 w5 t5 k5 b5=>?_;refine au (fun _=>True) trivial ?_;have af:blk w5 w2.heap.size 2 [iv (nA A (18+6*j+k))]:=by
    unfold blk;rw[k5 _ oo (by have:=al.2.1.lt;omega)];exact ae M g3 oo
   refine apR t5 af (by have:=b5.size;omega) oo fun q6 d6 w6 t6 k6 b6=>?_;refine au (fun _=>True) trivial <|aM oo oo ?_;exact ad t6 (((aa.trans (sB B3 M)).trans b5).trans b6)
 ·obtain rfl:j=6:=by omega
  refine ao oo <|Ng <|Uq ht.2.1.rv oo <|bu <|bv <|Uq ht.2.2.rv oo <|bu <|bv ?_;have bd:∀l:List Int,l.length≤8→0≤(nl l).1∧(nl l).1≤9007199254740992:=by
   intro l hl;unfold nl;cases hq:l.all okA with
   | false=>simp
   | true =>
    have:=JG hq
    simp only[MXA]at this;simp only;omega
  have h1:=bd (ue A k 6) (by rw[zak];omega);have h3:=bd (inL A k 6) (by rw[zbQ];omega);unfold iv at *;refine ba oo oo ?_;have hl:qX A k=((nl (inL A k 6)).1-(nl (ue A k 6)).1,(nl (ue A k 6)).2&&(nl (inL A k 6)).2):=rfl;cases hq:(nl (ue A k 6)).2 with
  | true =>
   refine qq <|cz ?_;rw[hl,hq]at h;exact h J U
  | false =>
   refine nY <|dh ?_;rw[hl,hq]at h;exact h J U
theorem VF (C:RtA w b o E cs A)(hk:k<6)(h:∀w',Below w.heap.size w w'→K (.tuple #[iv (qX A k).1,.bool (qX A k).2]) w'):call Q 185 #[pA b o,ci (k:Nat)] K w:=by
 have I:=C.bk.lt;refine ak (goK func185) (Qk ?_)
 refine au (fun x=>RtA x b o E cs A) ⟨C.bk.drew,C.cut,C.len⟩ <|ab (fun x u _=>aj) <|ab (fun x u _=>aH (off:=6) kr) <|ab (fun x u _=>ew underlying74 (s:=1) kf oo oo) <|ab (v:=iv (nA A (6+k))) (fun x u _=>lK u.bk (by rw[←u.get (i:=6+k) oo];congr 1;simp;omega)) <|ab (fun x u _=>aj) <|ab (fun x u _=>aH (off:=0) kr) <|ab (fun x u _=>ew underlying74 (s:=1) kf oo oo) <|ab (v:=iv (nA A k)) (fun x u _=>lK u.bk (by rw[←u.get (i:=k) oo];congr 1;simp)) <|ab (fun x u _=>aj) <|ab (fun x u _=>aH (off:=12) kr) <|ab (fun x u _=>ew underlying74 (s:=1) kf oo oo) <|ab (v:=iv (nA A (12+k))) (fun x u _=>lK u.bk (by rw[←u.get (i:=12+k) oo];congr 1;simp;omega)) ?_
 have O:RtA w.drew b o E cs A:=⟨C.bk.drew,C.cut,C.len⟩
 have Z:Below w.heap.size w w.drew:=(Below.refl _ w).drew;have s0:w.drew.heap.size=w.heap.size:=rfl;generalize w.drew=w2 at *;have U:∀{p q:Nat} {wz:World},p≠q→blk wz p 2 [iv (nA A (6+k))]→blk wz q 2 [iv (nA A k),iv (nA A (12+k))]→w.heap.size≤p→w.heap.size≤q→Two wz w.heap.size p 1 1 q 2 2 (ue A k 0) (inL A k 0) :=
  fun aa hp hq h1 h2=>⟨aa,Ya hp rfl h1 (by simp[maxLen]),Ya hq rfl h2 (by simp[maxLen])⟩
 refine⟨?_,?_⟩
 ·refine bl1 fun w3 g3 J s3=>?_;refine aC (O.below J oo) ?_;refine bl2 fun w4 g4 M s4=>?_;refine aC ((O.below J oo).below M oo) ?_;refine PX ((C.below Z I).below (J.trans (M.mono oo)) oo) I oo hk (U oo (ae M g3 oo) g4 oo oo) (fun w' hb=>h w' ?_) rfl rfl rfl rfl rfl
  exact((Z.trans (J.mono oo)).trans (M.mono oo)).trans hb
 ·refine bl2 fun w3 g3 J s3=>?_;refine aC (O.below J oo) ?_;refine bl1 fun w4 g4 M s4=>?_;refine au (fun _=>True) trivial ?_;refine PX ((C.below Z I).below (J.trans (M.mono oo)) oo) I oo hk (U oo g4 (ae M g3 oo) oo oo) (fun w' hb=>h w' ?_) rfl rfl rfl rfl rfl
  exact((Z.trans (J.mono oo)).trans (M.mono oo)).trans hb
end
end
section
open Go.RowKit
theorem OL (h:bT .geq 3 V0 (ci 1) (fun t4 w=>aG t4 true (fun u=>bT .leq 3 V0 (ci 6) (fun t7=>u [V0,t7]) w) (fun k=>k [uu,uu] w) fun j=>pick t4 (gd j 1) cF K) w):Gives Q 183 #[V0] w K:=by
 refine aq func183 kr ?_;exact mpK h
def JX (r1 t8:Value)(zf:Nat→Value):List Value:=zf 0::r1::zT zf 2 6 (t8::zT zf 9 45 ([]))
def JY (r1:Value)(zf:Nat→Value):List Value:=zf 0::r1::zT zf 2 52 ([])
def nN (K:KV):KE:=kZ f184 [1,1] K
def yq (K:KV):KE:=ah Q (cd f184 [1,0,1,0]) (nN K) (xx xf (nN K) 0) (rk f184 K)
theorem SA (h:box Q 77 W0 (fun V0=>yq K (JX V0 (ci 0) (zV (zV zu 0 [W0]) 2 [cF]))) w):Gives Q 184 #[W0] w K:=by
 refine aq func184 kr ?_;revert h;delta yq nN;exact mpF
theorem Qi (Inv:Value→World→Prop)(μ:Value→World→Nat)(h0:Inv W0 w)(hs:∀(j:Value) (dd:Nat→Value) (w:World) (m:Nat),Inv j w→m=μ j w →
  bT .lss 3 j (ci 6) (fun t9 w=>cond t9 (call Q 185 #[V0,j] (fun t13=>ext Q t13 0 fun t14=>ext Q t13 1 fun t15 w=>sti (un Q .not t15) (fun u w=>aG u false (fun ar=>sti (bT .lss 2 t14 (ci 0)) (fun aS=>ar [t14,aS]) w) (fun k=>k [uu,uu] w) fun am=>sti (pick u cT (gd am 1)) fun C w=>aG C false (fun av=>sF 77 V0 2 (fun t24=>sI 74 t24 j fun I=>sL 2 I fun J=>sF 77 V0 1 fun M=>sI 74 M j fun O=>sL 2 O fun U=>sti (bF .gtr 2 J U) fun a0=>av [j,t24,I,J,j,M,O,U,a0]) w) (fun k=>k [uu,uu,uu,uu,uu,uu,uu,uu,uu] w) fun an=>sti (pick C cT (gd an 8)) fun Z w=>aG Z false (fun az=>sF 77 V0 3 (fun aa=>sI 75 aa j fun ad=>sI 74 ad j fun af=>sL 2 af fun ag=>sti (bT .neq 2 ag (ci 0)) fun a1=>az [j,j,aa,ad,af,ag,a1]) w) (fun k=>k [uu,uu,uu,uu,uu,uu,uu] w) fun ap=>sti (pick Z cT (gd ap 6)) fun a2 w=>cond a2 (K cF w) (nC j (fun al w=>(Inv al w)∧((μ al w)<m)) w)) w.drew) w) (nN K (JY V0 (zV dd 8 [j,t9])) w)) w):yq K (JX V0 W0 zf) w:=by
 refine aI (cd f184 (b1 52)) (zr [(2,4),(8,35)]) kr (vP [8] Inv) (vQ [8] μ) h0 ?_;intro e' w' hI;have h:=hs _ (zM zf (gd e') (zr [(2,4),(8,35)])) w' _ hI rfl;revert h;generalize (nN K)=qc0;exact mpF
theorem Qj (h:ai Q 77 V0 0 (fun M=>slc Q 74 M none none none fun O=>call Q 221 #[O] fun j=>ext Q j 0 fun u=>ext Q j 1 fun C w=>aG C true (fun J=>bT .leq 2 u (ci 1125899906842624) (fun U=>J [u,U]) w) (fun k=>k [uu,uu] w) fun I=>pick C (gd I 1) cF K) w):nN K (JY V0 zf) w:=by
 delta nN;exact mpK h
attribute [irreducible] nN yq
theorem Qh (h:box Q 77 V0 (fun U=>call Q 183 #[W0] fun t8=>un Q .not t8 fun Z w=>aG Z false (fun J=>ld Q 77 U (fun j=>call Q 184 #[j] fun u=>un Q .not u fun t13=>J [j,u,t13]) w) (fun k=>k [uu,uu,uu] w) fun I=>pick Z cT (gd I 2) fun t14 w=>cond t14 (K (ci 0) w) (bT .sub 3 W0 (ci 1) (fun M=>call Q 185 #[U,M] fun C=>ext Q C 0 fun O=>ext Q C 1 fun _=>K O) w)) w):Gives Q 137 #[V0,W0] w K:=by
 refine aq func137 kr ?_;exact mpK h
end
section
attribute [local irreducible] bin un conv call aZ blt slc ai fld aL idx lkp cP eP eSt rng nxt ent ext alc box bld bg ld sto aJ cr mkS ifc pick rdy wts aG sti cond aV Gives ah dy dP cOp
section
open Go.RowKit
def okM (A:List Int)(k:Nat):Bool:=(qX A k).2&&decide (0≤(qX A k).1)&&decide (nA A (12+k)≤nA A (6+k))&&decide (nA A (18+6*k+k)=0)
theorem VH (A:List Int):Df A=((List.range 6).all (okM A)&&((nl (gL A)).2&&decide ((nl (gL A)).1≤MXA))):=rfl
theorem za6 (j:k<6)(h:okM A k=false):Df A=false:=by
 rw[VH]
 have:(List.range 6).all (okM A)=false:=by
  cases u:(List.range 6).all (okM A)with
  | false=>rfl
  | true=>have:=List.all_eq_true.1 u k (by simpa using j);rw[this]at h;cases h
 rw[this];rfl
theorem XR (h:∀j,j<6→okM A j=true):Df A=((nl (gL A)).2&&decide ((nl (gL A)).1≤MXA)):=by
 rw[VH]
 have:(List.range 6).all (okM A)=true:=List.all_eq_true.2 fun k u=>h k (by simpa using u)
 rw[this];rfl
theorem YC (C:P.underlying t=some (.array n e))(u:∀w,(sizeOf e).run P w=.ok s w)(h:K (.slice (some ⟨b,o,none⟩) n n) w):slc P t (pA b o) none none none K w:=by
 unfold slc;refine ey (w':=w) ?_ h;simp only[Instr.sliceAt,Instr.sureAddr,Instr.sliceBounds,Sem.run_bind,Sem.run_pure,Result.andThen_ok,run_underlying C,u];by_cases j:n=0<;>simp[j,Addr.add]
theorem RtA.rvG (h:RtA w b 0 E cs A):RV w (some ⟨b,0,none⟩) 6 6 ((gL A).map iv) :=
 ⟨by simp[gL],Nat.le_refl _,fun _=>⟨b,0,rfl⟩,(fun h=>by cases h),fun i v j=>by
  have hi:i<6:=by have:=(gS j).1;simpa[gL]using this
  rw[show pu (some ⟨b,0,none⟩) i=⟨b,0+i,none⟩from rfl,h.bk.cell,h.get oo];rw[←j];simp[gL,hi]⟩
theorem FQ {i:Int}(h:K (.bool (bG i)) w):call Q 183 #[ci i] K w:=by
 refine ak (goK func183) (OL ?_);unfold bG at h;refine bI ?_;by_cases j:i≥1
 ·refine cU j <|gJ <|bA j ?_;rw[show decide (1≤i)=true from decide_eq_true j,Bool.true_and]at h;exact h
 ·refine eB j <|bj j ?_;rw[show decide (1≤i)=false from decide_eq_false j,Bool.false_and]at h;exact h
theorem Ys (hA:A.length=54)(h:∀w',Below w.heap.size w w'→K (.bool (Df A)) w'):call Q 184 #[.agg (A.map iv).toArray] K w:=by
 refine ak (goK func184) (SA ?_);refine br fun U hb b1 s1=>?_;have hb:=cZ hb
 have hR:RtA U w.heap.size 0 77 (A.map iv) A:=⟨hb,by rw[List.drop_zero,tL (by simp[hA])],hA⟩
 have Z:=hb.lt;refine Qi (Inv:=fun i wr=>∃k:Nat,i=ci (k:Nat)∧k≤6∧Below U.heap.size U wr∧∀j,j<k→okM A j=true)
  (μ:=fun i _=>6-(intOf i).toNat) ⟨0,rfl,by omega,Below.refl _ _,fun j hj=>by omega⟩ ?_
 rintro _ dd w2 m ⟨k,rfl,af,b2,J⟩ hm;have M:=hR.below b2 Z;have aa:=b2.size;refine aK ?_;by_cases hk:k<6
 ·refine ax oo ?_;refine VF M hk fun w3 b3=>?_;refine bu <|bv ?_;have I:RtA w3.drew w.heap.size 0 77 (A.map iv) A:=by have:=M.below b3 oo;exact⟨this.bk.drew,this.cut,this.len⟩
  have hB:Below U.heap.size U w3.drew:=(b2.trans (b3.mono aa)).drew;have no:okM A k=false→K (.bool false) w3.drew:=fun O=>by
   have:=h w3.drew (b1.trans (hB.mono oo))
   rw[za6 hk O]at this;exact this
  generalize w3.drew=w4 at *;cases O:(qX A k).2 with
  | false =>
   refine ac (fun _=>bK) <|eA <|ac (fun _=>cz) <|eA <|ac (fun _=>cz) <|eA <|ac (fun _=>cz) <|aT ?_;exact no (by unfold okM;rw[O];rfl)
  | true =>
   refine ac (fun _=>bK) <|iZ ?_;unfold iv;refine ac (fun _=>aK) <|ac (fun _=>dh) ?_;by_cases h0:(qX A k).1<0
   ·refine iq h0 <|ac (fun _=>bA h0) <|eA <|ac (fun _=>cz) <|aT <|no ?_;unfold okM;rw[show decide (0≤(qX A k).1)=false from decide_eq_false oo];simp
   ·refine dt h0 <|ac (fun _=>aH (off:=12) kr) <|ac (fun _=>ew underlying74 (s:=1) kf oo oo) <|ac (v:=iv (nA A (12+k))) (fun _=>lK I.bk (by rw[←I.get (i:=12+k) oo];congr 1;simp)) <|ac (fun _=>aH (off:=6) kr) <|ac (fun _=>ew underlying74 (s:=1) kf oo oo) <|ac (v:=iv (nA A (6+k))) (fun _=>lK I.bk (by rw[←I.get (i:=6+k) oo];congr 1;simp)) ?_
    unfold iv;refine ac (fun _=>bO) <|ac (fun _=>bj h0) ?_;by_cases h1:nA A (6+k)<nA A (12+k)
    ·refine iq h1 <|ac (fun _=>bA h1) <|aT <|no ?_;unfold okM;rw[show decide (nA A (12+k)≤nA A (6+k))=false from decide_eq_false oo];simp
    ·refine dt h1 <|ac (fun _=>aH (off:=18) kr) <|ac (fun _=>ew underlying75 (s:=6) kf oo oo) <|ac (fun _=>ew underlying74 (s:=1) kf oo oo) <|ac (v:=iv (nA A (18+6*k+k))) (fun _=>lK I.bk (by rw[←I.get (i:=18+6*k+k) oo];congr 1;simp;omega)) ?_;unfold iv;refine ac (fun _=>aX) <|ac (fun _=>bj h1) ?_
     by_cases h2:nA A (18+6*k+k)≠0
     ·refine ax h2 <|no ?_;unfold okM;rw[show decide (nA A (18+6*k+k)=0)=false from decide_eq_false h2];simp
     ·refine ao h2 <|aM oo oo ?_;refine⟨⟨k+1,by simp,by omega,hB,fun j hj=>?_⟩,by rw[hm];simp[intOf];omega⟩;by_cases ad:j=k
      ·subst ad;unfold okM;rw[O,decide_eq_true (by omega:0≤(qX A j).1),decide_eq_true (by omega:nA A (12+j)≤nA A (6+j)),decide_eq_true (Classical.not_not.1 h2)];rfl
      ·exact J j oo
 ·refine ao oo ?_;obtain rfl:k=6:=by omega
  refine Qj <|aH (off:=0) kr <|YC underlying74 (s:=1) kf <|Uq (l:=gL A) M.rvG oo <|bu <|bv ?_;have C:=h w2 (b1.trans (b2.mono oo));rw[XR J]at C;cases O:(nl (gL A)).2 with
  | false =>
   refine nY <|dh ?_;rw[O]at C;exact C
  | true =>
   refine qq ?_;unfold iv;refine gJ <|cz ?_;rw[O]at C;exact C
theorem Up {i:Int}(j:A.length=54)(h:∀w',Below w.heap.size w w'→K (iv (if bG i then QS A (i-1).toNat else 0)) w'):call Q 137 #[.agg (A.map iv).toArray,ci i] K w:=by
 refine ak (goK func137) (Qh ?_);refine br fun J u b1 s1=>?_;have u:=cZ u
 have U:RtA J w.heap.size 0 77 (A.map iv) A:=⟨u,by rw[List.drop_zero,tL (by simp[j])],j⟩
 refine FQ <|bK ?_;cases I:bG i with
 | false =>
  refine eA <|cz <|aT ?_;rw[I]at h;exact h J b1
 | true =>
  have hi:1≤i∧i≤6:=by simpa[bG]using I
  refine iZ <|ldA (n:=54) (vs:=A.map iv) underlying77 rfl kr u (by rw[List.drop_zero,tL (by simp[j])]) (by simp[j]) ?_;refine Ys j fun w2 C=>?_;refine bK <|dh ?_;rw[I,if_pos rfl]at h;cases M:Df A with
  | false =>
   refine aT ?_
   have:=h w2 (b1.trans (C.mono oo))
   unfold QS at this;rw[M]at this;exact this
  | true =>
   refine aF <|ba oo oo ?_;have Z:i-1=(((i-1).toNat:Nat):Int):=by omega
   rw[Z];refine VF (U.below C u.lt) oo fun w3 O=>?_;refine bu <|bv ?_
   have:=h w3 (b1.trans ((C.mono oo).trans (O.mono (by have:=C.size;omega))))
   unfold QS at this;rw[M]at this;exact this
end
end
section
open Go.RowKit
theorem Kj (h:bT .geq 2 V0 (ci 0) (fun t4 w=>aG t4 true (fun u=>bT .leq 2 V0 (ci 1125899906842624) (fun t7=>u [V0,t7]) w) (fun k=>k [uu,uu] w) fun j=>pick t4 (gd j 1) cF K) w):Gives Q 225 #[V0] w K:=by
 refine aq func225 kr ?_;exact mpK h
theorem Kk (h:bT .geq 3 V0 (ci 1) (fun t4 w=>aG t4 true (fun u=>bT .leq 3 V0 (ci 6) (fun t7=>u [V0,t7]) w) (fun k=>k [uu,uu] w) fun j=>pick t4 (gd j 1) cF K) w):Gives Q 151 #[V0] w K:=by
 refine aq func151 kr ?_;exact mpK h
def BG (r2 k_5 ud j7:Value)(zf:Nat→Value):List Value:=zf 0::zf 1::r2::zf 3::zf 4::k_5::ud::j7::zT zf 8 36 ([])
def BH (ud:Value)(zf:Nat→Value):List Value:=zT zf 0 6 (ud::zT zf 7 37 ([]))
def jo (K:KV):KE:=kZ f152 [1,1,1,1] K
def rJ (K:KV):KE:=ah Q (cd f152 (b1 122)) (jo K) (xx xf (jo K) 0) (rk f152 K)
theorem Lq (h:box Q 77 W0 (fun V0=>bT .sub 3 X0 (ci 1) fun j w=>sF 77 V0 0 (fun u=>sI 74 u j fun C=>sL 2 C fun t13=>sF 77 V0 1 fun t15=>sI 74 t15 j fun I=>sL 2 I fun J=>sti (bF .sub 2 t13 J) fun M=>sF 77 V0 2 fun O=>sI 74 O j fun U=>sL 2 U fun Z=>sti (bF .add 2 M Z) fun aa=>rJ K (BG V0 j aa (ci 0) (zV (zV (zV zu 0 [W0,X0]) 4 [ci 0]) 8 [X0,j,j,u,C,t13,j,t15,I,J,M,j,O,U,Z,aa]))) w.drew) w):Gives Q 152 #[W0,X0] w K:=by
 refine aq func152 kr ?_;revert h;delta rJ jo;exact mpF
theorem J9 (Inv:Value→Value→World→Prop)(μ:Value→Value→World→Nat)(h0:Inv X0 Y0 w)(hs:∀(j u:Value) (dd:Nat→Value) (w:World) (m:Nat),Inv j u w→m=μ j u w →
  bT .lss 3 u (ci 6) (fun I w=>cond I (sF 77 V0 3 (fun O=>sI 75 O u fun U=>sI 74 U W0 fun Z=>sL 2 Z fun aa=>sti (bF .add 2 j aa) fun ad=>sF 77 V0 3 fun af=>sI 75 af W0 fun ag=>sI 74 ag u fun al=>sL 2 al fun am=>sti (bF .sub 2 ad am) fun M=>nC u fun J w=>(Inv M J w)∧((μ M J w)<m)) w.drew) (jo K (BH j (zV (zV (zV (zV dd 2 [V0]) 5 [W0]) 7 [u]) 24 [u,I])) w)) w):rJ K (BG V0 W0 X0 Y0 zf) w:=by
 refine aI (cd f152 (b1 244)) (zr [(6,2),(24,19)]) kr (vP [6,7] Inv) (vQ [6,7] μ) h0 ?_;intro e' w' hI;have h:=hs _ _ (zM zf (gd e') (zr [(6,2),(24,19)])) w' _ hI rfl;revert h;generalize (jo K)=qc0;exact mpF
theorem Ja (h:K X0 w):jo K (BH X0 zf) w:=by
 delta jo;exact mpK h
attribute [irreducible] jo rJ
def qv (r1 all3 i4:Value)(zf:Nat→Value):List Value:=zf 0::r1::zf 2::all3::i4::zT zf 5 76 ([])
def EX (r1 all3 i4 j5:Value)(zf:Nat→Value):List Value:=zf 0::r1::zf 2::all3::i4::j5::zT zf 6 75 ([])
def EY (r1 all3:Value)(zf:Nat→Value):List Value:=zf 0::r1::zf 2::all3::zT zf 4 77 ([])
def EZ (r1 all3 i6:Value)(zf:Nat→Value):List Value:=zf 0::r1::zf 2::all3::zf 4::zf 5::i6::zT zf 7 74 ([])
def Fa (all3:Value)(zf:Nat→Value):List Value:=zT zf 0 3 (all3::zT zf 4 77 ([]))
def fV (K:KV):KE:=kZ f191 [1,1,1] K
def tV (K:KV):KE:=ah Q (cd f191 (b1 58)) (fV K) (xx xf (fV K) 0) (rk f191 K)
def jx (K:KV)(B1:KE):KE:=kY f191 (b1 467) B1 (xx xf (fV K) 0) K
def tX (K:KV)(B1:KE):KE:=ah Q (cd f191 (b1 14926)) (jx K B1) (xx (xx (xx xf (fV K) 0) (jx K B1) 1) (jx K B1) 2) (rk f191 K)
def ky (K:KV):KE:=kZ f191 [1,1,1,1] K
def tY (K:KV):KE:=ah Q (cd f191 (b1 122)) (ky K) (xx xf (ky K) 4) (rk f191 K)
theorem Og (h:box Q 77 W0 (fun V0=>tV K (qv V0 (ci 0) (ci 0) (zV (zV zu 0 [W0]) 2 [cF]))) w):Gives Q 191 #[W0] w K:=by
 refine aq func191 kr ?_;revert h;delta tV fV;exact mpF
theorem Lk (Inv:Value→Value→World→Prop)(μ:Value→Value→World→Nat)(h0:Inv W0 X0 w)(hs:∀(I j:Value) (dd:Nat→Value) (w:World) (m:Nat),Inv I j w→m=μ I j w →
  bT .lss 3 j (ci 6) (fun t8 w=>cond t8 (sF 77 V0 0 (fun ad=>sI 74 ad j fun t13=>sL 2 t13 fun t14=>sti (call Q 225 #[t14]) fun t15=>sti (un Q .not t15) fun U w=>aG U false (fun bi=>sF 77 V0 1 (fun af=>sI 74 af j fun ag=>sL 2 ag fun al=>sti (call Q 225 #[al]) fun am=>sti (un Q .not am) fun bq=>bi [j,af,ag,al,am,bq]) w) (fun k=>k [uu,uu,uu,uu,uu,uu] w) fun J=>sti (pick U cT (gd J 5)) fun t24 w=>aG t24 false (fun bk=>sF 77 V0 2 (fun an=>sI 74 an j fun ap=>sL 2 ap fun ar=>sti (call Q 225 #[ar]) fun av=>sti (un Q .not av) fun bs=>bk [j,an,ap,ar,av,bs]) w) (fun k=>k [uu,uu,uu,uu,uu,uu] w) fun M=>sti (pick t24 cT (gd M 5)) fun Z w=>aG Z false (fun bn=>sF 77 V0 2 (fun az=>sI 74 az j fun aS=>sL 2 aS fun a0=>sF 77 V0 1 fun a1=>sI 74 a1 j fun a2=>sL 2 a2 fun a3=>sti (bF .gtr 2 a0 a3) fun bt=>bn [j,az,aS,a0,j,a1,a2,a3,bt]) w) (fun k=>k [uu,uu,uu,uu,uu,uu,uu,uu,uu] w) fun u=>sti (pick Z cT (gd u 8)) fun aa w=>aG aa false (fun bp=>sF 77 V0 3 (fun a4=>sI 75 a4 j fun a5=>sI 74 a5 j fun a6=>sL 2 a6 fun a7=>sti (bT .neq 2 a7 (ci 0)) fun b0=>bp [j,j,a4,a5,a6,a7,b0]) w) (fun k=>k [uu,uu,uu,uu,uu,uu,uu] w) fun C=>sti (pick aa cT (gd C 6)) fun a8 w=>cond a8 (K cF w) (ai Q 77 V0 0 (fun a9=>aL Q 74 a9 j fun bb=>ld Q 2 bb fun bd=>bF .add 2 I bd fun be=>tX K (fun O w2=>(Inv (gd O 3) (gd O 4) w2)∧((μ (gd O 3) (gd O 4) w2)<m)) (EX V0 be j (ci 0) (zV (zV dd 7 [j,t8]) 11 [j,ad,t13,t14,t15,U,U,gd J 0,gd J 1,gd J 2,gd J 3,gd J 4,gd J 5,t24,t24,gd M 0,gd M 1,gd M 2,gd M 3,gd M 4,gd M 5,Z,Z,gd u 0,gd u 1,gd u 2,gd u 3,gd u 4,gd u 5,gd u 6,gd u 7,gd u 8,aa,aa,gd C 0,gd C 1,gd C 2,gd C 3,gd C 4,gd C 5,gd C 6,a8,I,j,a9,bb,bd,be]))) w)) w.drew) (fV K (EY V0 I (zV (zV dd 4 [j]) 7 [j,t8])) w)) w):tV K (qv V0 W0 X0 zf) w:=by
 refine aI (cd f191 (b1 116)) (zr [(2,4),(7,64)]) kr (vP [3,4] Inv) (vQ [3,4] μ) h0 ?_;intro e' w' hI;have h:=hs _ _ (zM zf (gd e') (zr [(2,4),(7,64)])) w' _ hI rfl;revert h;delta tX jx;generalize (fV K)=qc0;exact mpF
theorem Ll (Inv:Value→World→Prop)(μ:Value→World→Nat)(h0:Inv Y0 w)(hs:∀(j:Value) (dd:Nat→Value) (w:World) (m:Nat),Inv j w→m=μ j w →
  bT .lss 3 j (ci 6) (fun u w=>cond u (ai Q 77 V0 3 (fun J=>aL Q 75 J X0 fun M=>aL Q 74 M j fun O=>ld Q 2 O fun U=>call Q 225 #[U] fun Z=>un Q .not Z fun aa w=>cond aa (K cF w) (nC j (fun C w=>(Inv C w)∧((μ C w)<m)) w)) w) (jx K B1 (qv V0 W0 X0 (zV (zV dd 5 [j]) 59 [j,u])) w)) w):tX K B1 (EX V0 W0 X0 Y0 zf) w:=by
 refine aI (cd f191 (b1 29852)) (zr [(2,1),(5,1),(59,12)]) kr (vP [5] Inv) (vQ [5] μ) h0 ?_;intro e' w' hI;have h:=hs _ (zM zf (gd e') (zr [(2,1),(5,1),(59,12)])) w' _ hI rfl;revert h;generalize (fV K)=qc0;generalize (jx K B1)=qc1;exact mpF
theorem Ln (h:tY K (EZ V0 W0 (ci 1) zf) w):fV K (EY V0 W0 zf) w:=by
 delta fV;revert h;delta tY ky;exact mpF
theorem Lo (h:nC X0 (fun j=>B1 (qv V0 W0 j (zV zf 9 [X0,j]))) w):jx K B1 (qv V0 W0 X0 zf) w:=by
 delta jx;revert h;generalize (fV K)=qc0;exact mpF
theorem Lm (Inv:Value→World→Prop)(μ:Value→World→Nat)(Z:Inv Z0 w)(hs:∀(j:Value) (U:Nat→Value) (w:World) (m:Nat),Inv j w→m=μ j w →
  bT .leq 3 j (ci 6) (fun u w=>cond u (ld Q 77 V0 (fun J=>call Q 152 #[J,j] fun M=>bT .lss 2 M (ci 0) fun O w=>cond O (K cF w) (nC j (fun C w=>(Inv C w)∧((μ C w)<m)) w)) w) (ky K (Fa W0 (zV (zV (zV U 1 [V0]) 6 [j]) 71 [j,u])) w)) w):tY K (EZ V0 W0 Z0 zf) w:=by
 refine aI (cd f191 (b1 244)) (zr [(2,1),(6,1),(71,8)]) kr (vP [6] Inv) (vQ [6] μ) Z ?_;intro e' w' hI;have h:=hs _ (zM zf (gd e') (zr [(2,1),(6,1),(71,8)])) w' _ hI rfl;revert h;generalize (ky K)=qc0;exact mpF
theorem Lp (h:bT .leq 2 W0 (ci 1125899906842624) K w):ky K (Fa W0 zf) w:=by
 delta ky;exact mpK h
attribute [irreducible] fV tV jx tX ky tY
end
section
attribute [local irreducible] bin un conv call aZ blt slc ai fld aL idx lkp cP eP eSt rng nxt ent ext alc box bld bg ld sto aJ cr mkS ifc pick rdy wts aG sti cond aV Gives ah dy dP cOp
section
open Go.RowKit
def lp (A:List Int)(k j:Nat):Int:=((List.range j).map fun j=>nA A (18+6*j+k)-nA A (18+6*k+j)).sum
theorem VG (A:List Int)(k j:Nat):lp A k (j+1)=lp A k j+(nA A (18+6*j+k)-nA A (18+6*k+j)):=by simp[lp,List.range_succ]
theorem zb4 {A:List Int}{k:Nat}(u:k<6)(h:∀q,q<54→0≤nA A q∧nA A q≤MXA):∀j,j≤6→-(j*MXA)≤lp A k j∧lp A k j≤j*MXA
 | 0,_=>by simp[lp]
 | j+1,hj=>by
  have C:=zb4 u h j oo;have I:=h (18+6*j+k) oo;have J:=h (18+6*k+j) oo;rw[VG];have e:(((j+1:Nat):Int))*MXA=(j:Int)*MXA+MXA:=by simp only[MXA];omega
  rw[e];omega
theorem Mw (h:K (.bool (okA x)) w):call Q 225 #[ci x] K w:=by
 refine ak (goK func225) (Kj ?_);unfold okA at h;refine bI ?_;by_cases j:x≥0
 ·refine cU j <|gJ <|bA j ?_;rw[show decide (0≤x)=true from decide_eq_true j,Bool.true_and]at h;exact h
 ·refine eB j <|bj j ?_;rw[show decide (0≤x)=false from decide_eq_false j,Bool.false_and]at h;exact h
theorem Rh (hA:A.length=54)(hk:k<6)(J:∀q,q<54→0≤nA A q∧nA A q≤MXA)(h:∀w',Below w.heap.size w w'→K (iv (gQ A k)) w'):call Q 152 #[.agg (A.map iv).toArray,ci ((k:Int)+1)] K w:=by
 refine ak (goK func152) (Lq ?_);refine br fun M Z b1 s1=>?_;have Z:=cZ Z
 have I:RtA M.drew w.heap.size 0 77 (A.map iv) A:=⟨Z.drew,by rw[List.drop_zero,tL (by simp[hA])],hA⟩
 have b1:Below w.heap.size w M.drew:=b1.drew;refine ba oo oo ?_;rw[show (k:Int)+1-1=(k:Nat)by omega];generalize M.drew=w2 at *;have n0:=J k oo;have n1:=J (6+k) oo;have n2:=J (12+k) oo;simp only[MXA]at n0 n1 n2
 refine ac (fun _=>aH (off:=0) kr) <|ac (fun _=>ew underlying74 (s:=1) kf oo oo) <|ac (v:=iv (nA A k)) (fun _=>lK I.bk (by rw[←I.get (i:=k) oo];congr 1;simp)) <|ac (fun _=>aH (off:=6) kr) <|ac (fun _=>ew underlying74 (s:=1) kf oo oo) <|ac (v:=iv (nA A (6+k))) (fun _=>lK I.bk (by rw[←I.get (i:=6+k) oo];congr 1;simp)) ?_
 unfold iv;refine ac (fun _=>ba oo oo) <|ac (fun _=>aH (off:=12) kr) <|ac (fun _=>ew underlying74 (s:=1) kf oo oo) <|ac (v:=iv (nA A (12+k))) (fun _=>lK I.bk (by rw[←I.get (i:=12+k) oo];congr 1;simp)) ?_;unfold iv;refine ac (fun _=>aM oo oo) ?_
 refine J9 (Inv:=fun ov jv wr=>∃j:Nat,ov=ci (nA A k-nA A (6+k)+nA A (12+k)+lp A k j)∧jv=ci (j:Nat)∧j≤6∧Below w2.heap.size w2 wr) (μ:=fun _ jv _=>6-(intOf jv).toNat)
  ⟨0,by simp[lp],rfl,by omega,Below.refl _ _⟩ ?_
 rintro _ _ dd O m ⟨j,rfl,rfl,ad,U⟩ af;refine aK ?_;by_cases hj:j<6
 ·refine ax oo ?_;have C:RtA O.drew w.heap.size 0 77 (A.map iv) A:=by have:=I.below U I.bk.lt;exact⟨this.bk.drew,this.cut,this.len⟩
  have b4:Below w2.heap.size w2 O.drew:=U.drew;generalize O.drew=w4 at *;have aa:=zb4 hk J j ad;have m1:=J (18+6*j+k) oo;have m2:=J (18+6*k+j) oo;simp only[MXA]at aa m1 m2
  refine ac (fun _=>aH (off:=18) kr) <|ac (fun _=>ew underlying75 (s:=6) kf oo oo) <|ac (fun _=>ew underlying74 (s:=1) kf oo oo) <|ac (v:=iv (nA A (18+6*j+k))) (fun _=>lK C.bk (by rw[←C.get (i:=18+6*j+k) oo];congr 1;simp;omega)) ?_;unfold iv
  refine ac (fun _=>aM oo oo) <|ac (fun _=>aH (off:=18) kr) <|ac (fun _=>ew underlying75 (s:=6) kf oo oo) <|ac (fun _=>ew underlying74 (s:=1) kf oo oo) <|ac (v:=iv (nA A (18+6*k+j))) (fun _=>lK C.bk (by rw[←C.get (i:=18+6*k+j) oo];congr 1;simp;omega)) ?_;unfold iv
  refine ac (fun _=>ba oo oo) <|aM oo oo ?_;refine⟨⟨j+1,?_,by simp,by omega,b4⟩,by rw[af];simp[intOf];omega⟩;rw[VG];exact congrArg (Value.int .i64) oo
 ·refine ao oo ?_;obtain rfl:j=6:=by omega
  refine Ja ?_
  have:=h O (b1.trans (U.mono b1.size))
  exact this
end
end
section
open Go.RowKit
end
section
attribute [local irreducible] bin un conv call aZ blt slc ai fld aL idx lkp cP eP eSt rng nxt ent ext alc box bld bg ld sto aJ cr mkS ifc pick rdy wts aG sti cond aV Gives ah dy dP cOp
section
open Go.RowKit
def ndC (x:ND):List Value:=.int .u64 x.id::.int .u64 x.par::x.A.map iv
theorem zc9 {x:ND}(h:x.A.length=54):(ndC x).length=56:=by simp[ndC,h]
structure NR (w:World) (a:Option Addr) (n c:Nat) (L:List ND):Prop where
 len:L.length=n
 cap:n≤c
 some_:0<n→∃b o,a=some ⟨b,o,none⟩
 A54:∀x∈L,x.A.length=54
 cell:∀(i:Nat) (x:ND),L[i]? = some x→∀b o,a=some ⟨b,o,none⟩→∀(j:Nat) (u:Value),(ndC x)[j]? = some u→w.cell? ⟨b,o+i*56+j,none⟩=some u
theorem NR.bel {L:List ND}(h:NR w a n c L)(M:Below B w w')(I:w.heap.size≤B):NR w' a n c L :=
 ⟨h.len,h.cap,h.some_,h.A54,fun i x U b o J j u O=>by
  have:=h.cell i x U b o J j u O
  have C:=World.block_lt_of_cell? w _ this;rw[M.cell (p:=⟨b,o+i*56+j,none⟩) (Nat.lt_of_lt_of_le C I)];exact this⟩
structure STA where
 I:List Bool
 L:List Bool
 V:List Int
 nodes:List ND
 na:Option Addr
 nc:Nat
 gv:Value
def saC (s:STA):List Value:=s.I.map .bool++s.L.map .bool++s.V.map (.int .u64)++[.slice s.na s.nodes.length s.nc,s.gv]
structure SK (w:World) (s:STA):Prop where
 i6:s.I.length=6
 l6:s.L.length=6
 v6:s.V.length=6
 nr:NR w s.na s.nodes.length s.nc s.nodes
 few:s.nodes.length≤1000000
 gv:s.gv.oneCell'=true
theorem SK.bel {s:STA}(h:SK w s)(u:Below B w w')(j:w.heap.size≤B):SK w' s:=⟨h.i6,h.l6,h.v6,h.nr.bel u j,h.few,h.gv⟩
theorem zcj {L:List ND}{id:Int}{x:ND}(J:L[k]? = some x)(h:x.id=id)(u:∀j y,j<k→L[j]? = some y→y.id≠id):posN L id=k:=by
 obtain⟨I,rfl⟩:=gS J;unfold posN;rw[List.findIdx_eq I];refine⟨by simp[h],fun j C=>?_⟩
 have:=u j _ C (gE oo)
 simpa using this
theorem Yg {L:List ND}{id:Int}(u:∀(j:Nat) y,L[j]? = some y→y.id≠id):¬posN L id<L.length:=by
 intro h;unfold posN at h
 have:=List.findIdx_getElem (w:=h)
 exact u _ _ (gE h) (by simpa using this)
theorem AU (h:K (pA b (o+0)) w):ai Q 58 (pA b o) 0 K w:=aH kr h
theorem IQ (h:K (pA b (o+6)) w):ai Q 58 (pA b o) 1 K w:=aH kr h
theorem qo (h:K (pA b (o+12)) w):ai Q 58 (pA b o) 2 K w:=aH kr h
theorem dS (h:K (pA b (o+18)) w):ai Q 58 (pA b o) 3 K w:=aH kr h
theorem eT (h:K (pA b (o+19)) w):ai Q 58 (pA b o) 4 K w:=aH kr h
theorem NY (h:K (pA b (o+0)) w):ai Q 79 (pA b o) 0 K w:=aH kr h
theorem se (h:K (pA b (o+2)) w):ai Q 79 (pA b o) 2 K w:=aH kr h
theorem zdt {L:List ND}{x:ND}(h:NR w a n c L)(I:a=some ⟨b,o,none⟩)(u:L[i]? = some x)(C:K (.agg (ndC x).toArray) w):ld Q 79 (pA b (o+i*56)) K w :=
 PS (run_loadVar_mid w b (o+i*56) 79 (ndC x) _ (fun j v J=>h.cell i x u b o I j v J) underlying79 rfl (by rw[zc9 (h.A54 x (mO u))];kernel_rfl)) C
def sG (A:List Int)(k:Nat):Int:=((List.range k).map fun k=>nA A k).sum
theorem VX (A:List Int)(k:Nat):sG A (k+1)=sG A k+nA A k:=by simp[sG,List.range_succ]
end
end
section
open Go.RowKit
theorem za7 (j:k<6)(h:yE A k=false):jn A=false:=by
 have:(List.range 6).all (yE A)=false:=by
  cases u:(List.range 6).all (yE A)with
  | false=>rfl
  | true=>have:=List.all_eq_true.1 u k (by simpa using j);rw[this]at h;cases h
 unfold jn;rw[this];rfl
theorem XS (j:k<6)(h:gQ A k<0):jn A=false:=by
 have:(List.range 6).all (fun k=>decide (0≤gQ A k))=false:=by
  cases u:(List.range 6).all (fun k=>decide (0≤gQ A k))with
  | false=>rfl
  | true=>have:=List.all_eq_true.1 u k (by simpa using j);simp at this;omega
 unfold jn;rw[this];simp
theorem TZ (h:∀k,k<6→yE A k=true):∀q,q<54→0≤nA A q∧nA A q≤MXA:=by
 have e:∀k,k<6→okA (nA A k)=true∧okA (nA A (6+k))=true∧okA (nA A (12+k))=true∧∀j,j<6→okA (nA A (18+6*k+j))=true:=by
  intro k I
  have:=h k I
  unfold yE at this;simp only[Bool.and_eq_true]at this;exact⟨this.1.1.1.1.1,this.1.1.1.1.2,this.1.1.1.2,fun j C=>List.all_eq_true.1 this.2 j (by simpa using C)⟩
 intro q O;refine om.1 ?_;by_cases u:q<6
 ·exact(e q u).1
 by_cases J:q<12
 ·have:=(e (q-6) oo).2.1;rwa[show 6+(q-6)=q by omega]at this
 by_cases M:q<18
 ·have:=(e (q-12) oo).2.2.1;rwa[show 12+(q-12)=q by omega]at this
 ·have:=(e ((q-18) / 6) oo).2.2.2 ((q-18)%6) oo
  rwa[show 18+6*((q-18) / 6)+(q-18)%6=q by omega]at this
theorem XT (h:∀k,k<6→yE A k=true)(u:∀k,k<6→0≤gQ A k):jn A=decide (sG A 6≤MXA):=by
 unfold jn;rw[List.all_eq_true.2 fun k j=>h k (by simpa using j),List.all_eq_true.2 fun k j=>by simpa using u k (by simpa using j)];rfl
end
section
attribute [local irreducible] bin un conv call aZ blt slc ai fld aL idx lkp cP eP eSt rng nxt ent ext alc box bld bg ld sto aJ cr mkS ifc pick rdy wts aG sti cond aV Gives ah dy dP cOp
section
open Go.RowKit
theorem zco (hA:A.length=54)(h:∀w',Below w.heap.size w w'→K (.bool (jn A)) w'):call Q 191 #[.agg (A.map iv).toArray] K w:=by
 refine ak (goK func191) (Og ?_);refine br fun O hb b1 s1=>?_;have hb:=cZ hb
 have hR:RtA O w.heap.size 0 77 (A.map iv) A:=⟨hb,by rw[List.drop_zero,tL (by simp[hA])],hA⟩
 have ar:((A.map iv).drop 0).take 54=A.map iv:=by rw[List.drop_zero,tL (by simp[hA])]
 have aa:=hb.lt;refine Lk (Inv:=fun al i wr=>∃k:Nat,al=ci (sG A k)∧i=ci (k:Nat)∧k≤6∧Below O.heap.size O wr∧∀j,j<k→yE A j=true)
  (μ:=fun _ i _=>6-(intOf i).toNat) ⟨0,rfl,rfl,by omega,Below.refl _ _,fun j hj=>by omega⟩ ?_
 rintro _ _ dd w2 m ⟨k,rfl,rfl,a6,b2,I⟩ hm;have af:=hR.below b2 aa;have a4:=b2.size;have a3:∀M,M≤k→0≤sG A M∧sG A M≤M*MXA:=by
  intro M
  induction M with
  | zero=>intro _;simp[sG]
  | succ M ih =>
   intro a5;have h1:=ih oo;have U:=I M oo;unfold yE at U;simp only[Bool.and_eq_true]at U;have h3:=om.1 U.1.1.1.1.1;rw[VX];have e:(((M+1:Nat):Int))*MXA=(M:Int)*MXA+MXA:=by simp only[MXA];omega
   rw[e];omega
 refine aK ?_;by_cases hk:k<6
 ·refine ax oo ?_;have C:RtA w2.drew w.heap.size 0 77 (A.map iv) A:=⟨af.bk.drew,af.cut,af.len⟩
  have hB:Below O.heap.size O w2.drew:=b2.drew;have no:yE A k=false→K (.bool false) w2.drew:=fun hq=>by
   have:=h w2.drew (b1.trans (hB.mono oo))
   rw[za7 hk hq]at this;exact this
  generalize w2.drew=w4 at *;have hf:yE A k=(okA (nA A k)&&okA (nA A (6+k))&&okA (nA A (12+k))&&decide (nA A (12+k)≤nA A (6+k))&&decide (nA A (18+6*k+k)=0)&&(List.range 6).all fun j=>okA (nA A (18+6*k+j))):=rfl
  refine ac (fun _=>aH (off:=0) kr) <|ac (fun _=>ew underlying74 (s:=1) kf oo oo) <|ac (v:=iv (nA A k)) (fun _=>lK C.bk (by rw[←C.get (i:=k) oo];congr 1;simp)) ?_;unfold iv;refine ac (fun _=>Mw) <|ac (fun _=>bK) ?_;cases c1:okA (nA A k)with
  | false =>
   refine eA <|ac (fun _=>cz) <|eA <|ac (fun _=>cz) <|eA <|ac (fun _=>cz) <|eA <|ac (fun _=>cz) <|aT ?_;exact no (by rw[hf,c1];rfl)
  | true =>
  refine iZ <|ac (fun _=>aH (off:=6) kr) <|ac (fun _=>ew underlying74 (s:=1) kf oo oo) <|ac (v:=iv (nA A (6+k))) (fun _=>lK C.bk (by rw[←C.get (i:=6+k) oo];congr 1;simp)) ?_;unfold iv;refine ac (fun _=>Mw) <|ac (fun _=>bK) <|ac (fun _=>dh) ?_;cases c2:okA (nA A (6+k))with
  | false =>
   refine eA <|ac (fun _=>cz) <|eA <|ac (fun _=>cz) <|eA <|ac (fun _=>cz) <|aT ?_;exact no (by rw[hf,c2];simp)
  | true =>
  refine iZ <|ac (fun _=>aH (off:=12) kr) <|ac (fun _=>ew underlying74 (s:=1) kf oo oo) <|ac (v:=iv (nA A (12+k))) (fun _=>lK C.bk (by rw[←C.get (i:=12+k) oo];congr 1;simp)) ?_;unfold iv;refine ac (fun _=>Mw) <|ac (fun _=>bK) <|ac (fun _=>dh) ?_;cases c3:okA (nA A (12+k))with
  | false =>
   refine eA <|ac (fun _=>cz) <|eA <|ac (fun _=>cz) <|aT ?_;exact no (by rw[hf,c3];simp)
  | true =>
  refine iZ <|ac (fun _=>aH (off:=12) kr) <|ac (fun _=>ew underlying74 (s:=1) kf oo oo) <|ac (v:=iv (nA A (12+k))) (fun _=>lK C.bk (by rw[←C.get (i:=12+k) oo];congr 1;simp)) <|ac (fun _=>aH (off:=6) kr) <|ac (fun _=>ew underlying74 (s:=1) kf oo oo) <|ac (v:=iv (nA A (6+k))) (fun _=>lK C.bk (by rw[←C.get (i:=6+k) oo];congr 1;simp)) ?_
  unfold iv;refine ac (fun _=>bO) <|ac (fun _=>dh) ?_;by_cases h1:nA A (6+k)<nA A (12+k)
  ·refine iq h1 <|ac (fun _=>bA h1) <|aT ?_;exact no (by rw[hf,decide_eq_false (by omega : ¬nA A (12+k)≤nA A (6+k))];simp)
  refine dt h1 <|ac (fun _=>aH (off:=18) kr) <|ac (fun _=>ew underlying75 (s:=6) kf oo oo) <|ac (fun _=>ew underlying74 (s:=1) kf oo oo) <|ac (v:=iv (nA A (18+6*k+k))) (fun _=>lK C.bk (by rw[←C.get (i:=18+6*k+k) oo];congr 1;simp;omega)) ?_;unfold iv;refine ac (fun _=>aX) <|ac (fun _=>bj h1) ?_
  by_cases U:nA A (18+6*k+k)≠0
  ·refine ax U ?_;exact no (by rw[hf,decide_eq_false U];simp)
  refine ao U ?_;have hg:=om.1 c1;have hs:=a3 k oA;simp only[MXA]at hg hs;refine aH (off:=0) kr <|ew underlying74 (s:=1) kf oo oo <|lK (v:=iv (nA A k)) C.bk (by rw[←C.get (i:=k) oo];congr 1;simp) ?_;unfold iv
  refine aM oo oo <|Ll (Inv:=fun jv wr=>∃j:Nat,jv=ci (j:Nat)∧j≤6∧wr=w4∧∀q,q<j→okA (nA A (18+6*k+q))=true) (μ:=fun jv _=>6-(intOf jv).toNat) ⟨0,rfl,by omega,rfl,fun q hq=>by omega⟩ ?_;rintro _ aS _ m2 ⟨j,rfl,a1,rfl,ad⟩ ag;refine aK ?_;by_cases hj:j<6
  ·refine ax oo <|aH (off:=18) kr <|ew underlying75 (s:=6) kf oo oo <|ew underlying74 (s:=1) kf oo oo <|lK (v:=iv (nA A (18+6*k+j))) C.bk (by rw[←C.get (i:=18+6*k+j) oo];congr 1;simp;omega) ?_;unfold iv;refine Mw <|bK ?_;cases c4:okA (nA A (18+6*k+j))with
   | false =>
    refine aT <|no ?_
    have:(List.range 6).all (fun j=>okA (nA A (18+6*k+j)))=false:=by
     cases hq:(List.range 6).all (fun j=>okA (nA A (18+6*k+j)))with
     | false=>rfl
     | true=>have:=List.all_eq_true.1 hq j (by simpa using hj);rw[this]at c4;cases c4
    rw[hf,this];simp
   | true =>
    refine aF <|aM oo oo ?_;refine⟨⟨j+1,by simp,by omega,rfl,fun q hq=>?_⟩,by rw[ag];simp[intOf];omega⟩;by_cases am:q=j
    ·subst am;exact c4
    ·exact ad q oo
  ·refine ao oo ?_;obtain rfl:j=6:=by omega
   refine Lo <|aM oo oo ?_;refine⟨⟨k+1,congrArg (Value.int .i64) (VX A k).symm,congrArg (Value.int .i64) oo,by omega,hB,fun q hq=>?_⟩,by rw[hm];show 6-((k:Int)+1).toNat<6-(k:Int).toNat;omega⟩;by_cases a2:q=k
   ·subst a2;rw[hf,c1,c2,c3,decide_eq_true (by omega:nA A (12+q)≤nA A (6+q)),decide_eq_true (Classical.not_not.1 U),List.all_eq_true.2 fun j hj=>ad j (by simpa using hj)];rfl
   ·exact I q oo
 ·refine ao oo ?_;obtain rfl:k=6:=by omega
  have av:=TZ I;refine Ln <|Lm (Inv:=fun an wr=>∃j:Nat,an=ci ((j:Int)+1)∧j≤6∧Below O.heap.size O wr∧∀q,q<j→0≤gQ A q) (μ:=fun an _=>8-(intOf an).toNat) ⟨0,rfl,by omega,b2,fun q hq=>by omega⟩ ?_;rintro _ aS w5 m2 ⟨j,rfl,a1,b5,Z⟩ ag;have a0:=hR.below b5 aa;have az:=b5.size;refine gJ ?_;by_cases hj:j<6
  ·refine ax oo <|ldA (n:=54) (vs:=A.map iv) underlying77 rfl kr a0.bk ar (by simp[hA]) ?_;refine Rh hA hj av fun w6 b6=>?_;have ap:Below O.heap.size O w6:=b5.trans (b6.mono az);unfold iv;refine aK ?_;by_cases J:gQ A j<0
   ·refine ax J ?_
    have:=h w6 (b1.trans (ap.mono oo))
    rw[XS hj J]at this;exact this
   ·refine ao J <|aM oo oo ?_;refine⟨⟨j+1,by simp,by omega,ap,fun q hq=>?_⟩,by rw[ag];simp[intOf];omega⟩;by_cases am:q=j
    ·subst am;omega
    ·exact Z q oo
  ·refine ao oo ?_;obtain rfl:j=6:=by omega
   refine Lp <|gJ ?_
   have:=h w5 (b1.trans (b5.mono oo))
   rw[XT I Z]at this;exact this
theorem VT {i:Int}(h:K (.bool (bG i)) w):call Q 151 #[ci i] K w:=by
 refine ak (goK func151) (Kk ?_);unfold bG at h;refine bI ?_;by_cases j:i≥1
 ·refine cU j <|gJ <|bA j ?_;rw[show decide (1≤i)=true from decide_eq_true j,Bool.true_and]at h;exact h
 ·refine eB j <|bj j ?_;rw[show decide (1≤i)=false from decide_eq_false j,Bool.false_and]at h;exact h
theorem AY (h:jn A=true):∀q,q<54→0≤nA A q∧nA A q≤MXA:=by
 unfold jn at h;simp only[Bool.and_eq_true]at h;exact TZ fun k j=>List.all_eq_true.1 h.1.1 k (by simpa using j)
end
end
section
open Go.RowKit
theorem Lr (h:box Q 77 V0 (fun r3=>ld Q 77 r3 fun t7=>call Q 191 #[t7] fun t8=>un Q .not t8 fun t9 w=>aG t9 false (fun C=>bT .lss 2 X0 (ci 1) (fun J=>C [X0,J]) w) (fun k=>k [uu,uu] w) fun j=>pick t9 cT (gd j 1) fun t13 w=>aG t13 false (fun I=>bT .gtr 2 X0 (ci 1125899906842624) (fun M=>I [X0,M]) w) (fun k=>k [uu,uu] w) fun u=>pick t13 cT (gd u 1) fun O w=>cond O (K (ci 1) w) (call Q 151 #[W0] (fun U=>un Q .not U fun Z w=>cond Z (K (ci 10) w) (K (ci 0) w)) w)) w):Gives Q 150 #[V0,W0,X0] w K:=by
 refine aq func150 kr ?_;exact mpK h
theorem N8 (h:box Q 77 V0 (fun u=>alc Q 77 fun j=>ld Q 77 u fun t9=>call Q 150 #[t9,W0,X0] fun C=>bT .neq 40 C (ci 0) fun t14 w=>cond t14 (bld Q 77 #[] (fun t15=>sto Q 77 j t15 fun _=>aV Q [(some 77,j),(none,C)] K) w) (ld Q 77 u (fun J=>call Q 152 #[J,W0] fun M=>bF .gtr 2 X0 M fun O w=>cond O (bld Q 77 #[] (fun U=>sto Q 77 j U fun _=>aV Q [(some 77,j),(none,ci 11)] K) w) (bT .sub 3 W0 (ci 1) (fun t24=>ai Q 77 u 1 fun Z=>aL Q 74 Z t24 fun aa=>ld Q 2 aa fun ad=>bF .add 2 ad X0 fun af=>bT .gtr 2 af (ci 1125899906842624) fun ag w=>cond ag (bld Q 77 #[] (fun al=>sto Q 77 j al fun _=>aV Q [(some 77,j),(none,ci 6)] K) w) (bT .sub 3 W0 (ci 1) (fun I=>ai Q 77 u 1 fun am=>aL Q 74 am I fun an=>ld Q 2 an fun ap=>bF .add 2 ap X0 fun ar=>ai Q 77 u 1 fun av=>aL Q 74 av I fun az=>sto Q 2 az ar fun _=>ld Q 77 u fun aS=>sto Q 77 j aS fun _=>aV Q [(some 77,j),(none,ci 0)] K) w)) w)) w)) w):Gives Q 147 #[V0,W0,X0] w K:=by
 refine aq func147 kr ?_;exact mpK h
theorem N6 (h:box Q 77 V0 (fun j=>alc Q 77 fun u=>ld Q 77 j fun t9=>call Q 150 #[t9,W0,X0] fun C=>bT .neq 40 C (ci 0) fun t14 w=>cond t14 (bld Q 77 #[] (fun t15=>sto Q 77 u t15 fun _=>aV Q [(some 77,u),(none,C)] K) w) (sti (bT .sub 3 W0 (ci 1)) (fun J=>sF 77 j 1 fun M=>sI 74 M J fun O=>sL 2 O fun U=>sti (bT .sub 3 W0 (ci 1)) fun t24=>sF 77 j 2 fun Z=>sI 74 Z t24 fun aa=>sL 2 aa fun ad=>sti (bF .sub 2 U ad) fun af=>sti (bF .gtr 2 X0 af) fun ag w=>cond ag (bld Q 77 #[] (fun al=>sto Q 77 u al fun _=>aV Q [(some 77,u),(none,ci 12)] K) w) (bT .sub 3 W0 (ci 1) (fun I=>ai Q 77 j 2 fun am=>aL Q 74 am I fun an=>ld Q 2 an fun ap=>bF .add 2 ap X0 fun ar=>ai Q 77 j 2 fun av=>aL Q 74 av I fun az=>sto Q 2 az ar fun _=>ld Q 77 j fun aS=>sto Q 77 u aS fun _=>aV Q [(some 77,u),(none,ci 0)] K) w)) w.drew)) w):Gives Q 149 #[V0,W0,X0] w K:=by
 refine aq func149 kr ?_;exact mpK h
theorem N7 (h:box Q 77 V0 (fun u=>alc Q 77 fun j=>ld Q 77 u fun J=>call Q 150 #[J,W0,Y0] fun t14=>bT .neq 40 t14 (ci 0) fun M w=>cond M (bld Q 77 #[] (fun O=>sto Q 77 j O fun _=>aV Q [(some 77,j),(none,t14)] K) w) (call Q 151 #[X0] (fun U=>un Q .not U fun Z w=>cond Z (bld Q 77 #[] (fun aa=>sto Q 77 j aa fun _=>aV Q [(some 77,j),(none,ci 10)] K) w) (bF .eql 3 W0 X0 (fun ad w=>cond ad (bld Q 77 #[] (fun af=>sto Q 77 j af fun _=>aV Q [(some 77,j),(none,ci 1)] K) w) (ld Q 77 u (fun ag=>call Q 152 #[ag,W0] fun al=>bF .gtr 2 Y0 al fun am w=>cond am (bld Q 77 #[] (fun an=>sto Q 77 j an fun _=>aV Q [(some 77,j),(none,ci 11)] K) w) (bT .sub 3 W0 (ci 1) (fun ap=>bT .sub 3 X0 (ci 1) fun ar=>ai Q 77 u 3 fun av=>aL Q 75 av ap fun az=>aL Q 74 az ar fun aS=>ld Q 2 aS fun a0=>bF .add 2 a0 Y0 fun a1=>bT .gtr 2 a1 (ci 1125899906842624) fun a2 w=>cond a2 (bld Q 77 #[] (fun a3=>sto Q 77 j a3 fun _=>aV Q [(some 77,j),(none,ci 6)] K) w) (sti (bT .sub 3 W0 (ci 1)) (fun C=>sti (bT .sub 3 X0 (ci 1)) fun I=>sF 77 u 3 fun a4=>sI 75 a4 C fun a5=>sI 74 a5 I fun a6=>sL 2 a6 fun a7=>sti (bF .add 2 a7 Y0) fun a8=>sF 77 u 3 fun a9=>sI 75 a9 C fun bb=>sI 74 bb I fun bd=>sto Q 2 bd a8 fun _=>ld Q 77 u fun be=>sto Q 77 j be fun _=>aV Q [(some 77,j),(none,ci 0)] K) w.drew)) w)) w)) w)) w)) w):Gives Q 92 #[V0,W0,X0,Y0] w K:=by
 refine aq func92 kr ?_;exact mpK h
end
section
attribute [local irreducible] bin un conv call aZ blt slc ai fld aL idx lkp cP eP eSt rng nxt ent ext alc box bld bg ld sto aJ cr mkS ifc pick rdy wts aG sti cond aV Gives ah dy dP cOp
section
open Go.RowKit
theorem Rk {i:Int}(h:sq A i x=0):jn A=true∧1≤x∧x≤MXA∧1≤i∧i≤6:=by
 unfold sq at h;split at h
 ·cases h
 ·rename_i j;split at h
  ·cases h
  ·rename_i u;have C:jn A=true:=by
    cases J:jn A with
    | true=>rfl
    | false=>exact absurd (.inl J) j
   have I:bG i=true:=by simpa using u
   have:1≤i∧i≤6:=by simpa[bG]using I
   exact⟨C,by omega,by omega,this.1,this.2⟩
theorem vG (h:K (pA b (o+0)) w):ai Q 77 (pA b o) 0 K w:=aH kr h
theorem AT (h:K (pA b (o+6)) w):ai Q 77 (pA b o) 1 K w:=aH kr h
theorem EJ (h:K (pA b (o+12)) w):ai Q 77 (pA b o) 2 K w:=aH kr h
theorem IP (h:K (pA b (o+18)) w):ai Q 77 (pA b o) 3 K w:=aH kr h
section
variable {w:World}{K:KV}
theorem zX (A:List Int):∀v∈A.map iv,v.oneCell'=true:=by simp[iv,Value.oneCell']
theorem ti {q:Nat}(h:q<A.length):(A.map iv)[q]? = some (iv (nA A q)):=by simp[nA,List.getD,h]
theorem LQ {i:Int}(I:A.length=54)(h:∀w',Below w.heap.size w w'→K (ci (sq A i x)) w'):call Q 150 #[.agg (A.map iv).toArray,ci i,ci x] K w:=by
 refine ak (goK func150) (Lr ?_);refine br fun w1 J b1 s1=>?_;have J:=cZ J
 have j:((A.map iv).drop 0).take 54=A.map iv:=by rw[List.drop_zero,tL (by simp[I])]
 refine ldA (n:=54) (vs:=A.map iv) underlying77 rfl kr J j (by simp[I]) ?_;refine zco I fun w2 U=>?_;have B2:Below w.heap.size w w2:=b1.trans (U.mono oo);have h:=h w2 B2;unfold sq at h;have Z:MXA=1125899906842624:=rfl;rw[Z]at h;refine bK ?_;cases M:jn A with
 | false =>
  rw[if_pos (.inl M)]at h;refine eA <|cz <|eA <|cz <|aT ?_;exact h
 | true =>
  refine iZ <|aK <|dh ?_;by_cases u:x<1
  ·rw[if_pos (.inr (.inl u))]at h;refine iq u <|bA u <|aT ?_;exact h
  refine dt u <|bO <|bj u ?_;by_cases C:1125899906842624<x
  ·rw[if_pos (.inr (.inr C))]at h;refine ax C ?_;exact h
  refine ao C ?_;rw[if_neg (by rw[M];simp;omega)]at h;refine VT <|bK ?_;cases O:bG i with
  | false =>
   rw[if_pos O]at h;exact aT h
  | true =>
   rw[if_neg (by rw[O];simp)]at h;exact aF h
structure RV3 (w0 w:World) (A:List Int):Prop where
 r:blk w w0.heap.size 77 (A.map iv)
 t:blk w (w0.heap.size+1) 77 (z54.map iv)
 bel:Below w0.heap.size w0 w
theorem RV3.fresh (g:RV3 w0 w A)(h:Below w.heap.size w w'):RV3 w0 w' A:=⟨ae h g.r g.r.lt,ae h g.t g.t.lt,g.bel.trans (h.mono g.bel.size)⟩
theorem RV3.no {e:Int}(g:RV3 w0 w A)(h:∀w',Below w0.heap.size w0 w'→K (.tuple #[.agg (z54.map iv).toArray,ci e]) w'):bld Q 77 #[] (fun t w=>sto Q 77 (pA (w0.heap.size+1) 0) t (fun _t w=>aV Q [(some 77,pA (w0.heap.size+1) 0),(none,ci e)] K w) w) w:=by
 refine dl (vs:=z54.map iv) kr ?_;exact Ul (N:=54) underlying77 rfl kr g.t rfl rfl (zX _) fun w' o=>h w' (bE g.bel o oo)
theorem RV3.yes {q:Nat}(u:A.length=54)(J:q<54)(g:RV3 w0 w A)(h:∀w',Below w0.heap.size w0 w'→K (.tuple #[.agg ((A.set q x).map iv).toArray,ci 0]) w'):sto Q 2 (pA w0.heap.size q) (ci x) (fun _t w=>ld Q 77 (pA w0.heap.size 0) (fun t w=>sto Q 77 (pA (w0.heap.size+1) 0) t (fun _t w=>aV Q [(some 77,pA (w0.heap.size+1) 0),(none,ci 0)] K w) w) w) w:=by
 refine cB kf g.r (by simp[u];exact J) rfl fun M C I=>?_;have e:(A.map iv).set q (ci x)=(A.set q x).map iv:=by rw[List.map_set];rfl
 rw[e]at C;have j:(((A.set q x).map iv).drop 0).take 54=(A.set q x).map iv:=by rw[List.drop_zero,tL (by simp[u])]
 refine ldA (n:=54) (vs:=(A.set q x).map iv) underlying77 rfl kr C j (by simp[u]) ?_;exact Ul (N:=54) underlying77 rfl kr (I.blk g.t oo) rfl (by simp[u]) (zX _) fun w' o=>h w' (bE (bE g.bel I oA) o oo)
theorem RV3.make {K2:Value→KV}(M:A.length=54)(h:∀w',RV3 w w' A→w'.heap.size=w.heap.size+2→K2 (pA w.heap.size 0) (pA (w.heap.size+1) 0) w'):box Q 77 (.agg (A.map iv).toArray) (fun r w=>alc Q 77 (K2 r) w) w:=by
 refine br fun I u b1 J=>?_;have u:=cZ u
 refine df (z:=.agg (z54.map iv).toArray) kr fun w2 j C O=>?_;have j:=cZ j
 rw[J]at j ⊢;exact h w2 ⟨ae C u u.lt,j,b1.trans (C.mono oo)⟩ oo
theorem ixR {i:Int}(hi:i=(k:Nat))(j:k<6)(h:K (pA b (o+k)) w):aL Q 74 (pA b o) (ci i) K w:=by
 subst hi;exact ew underlying74 (s:=1) kf oo oo (by rw[Int.toNat_natCast,Nat.mul_one];exact h)
theorem Ui {i:Int}(u:A.length=54)(hx : -9223372036854775808≤x∧x≤9223372036854775807)(h:∀w',Below w.heap.size w w'→K (.tuple #[.agg ((mf A i x).1.map iv).toArray,ci (mf A i x).2]) w'):call Q 147 #[.agg (A.map iv).toArray,ci i,ci x] K w:=by
 refine ak (goK func147) (N8 ?_);refine RV3.make u fun w1 Z s1=>?_;have j:((A.map iv).drop 0).take 54=A.map iv:=by rw[List.drop_zero,tL (by simp[u])]
 refine ldA (n:=54) (vs:=A.map iv) underlying77 rfl kr Z.r j (by simp[u]) ?_;refine LQ u fun w2 b2=>?_;have O:=Z.fresh b2;unfold mf at h;refine aX ?_;by_cases J:sq A i x≠0
 ·rw[if_pos J]at h;refine ax J ?_;exact O.no h
 refine ao J ?_;rw[if_neg J]at h;obtain⟨hm,x1,x2,i1,i2⟩:=Rk (show sq A i x=0 by omega);have hn:=AY hm;have hM:MXA=1125899906842624:=rfl;refine ldA (n:=54) (vs:=A.map iv) underlying77 rfl kr O.r j (by simp[u]) ?_;generalize hk:(i-1).toNat=k at h;have hi:i=((k:Nat):Int)+1:=by omega
 subst hi;refine Rh u oo hn fun w3 b3=>?_;have C:=O.fresh b3;unfold iv;refine bO ?_;by_cases M:gQ A k<x
 ·rw[if_pos M]at h;refine ax M ?_;exact C.no h
 refine ao M ?_;rw[if_neg M]at h;unfold vk at h;have hq:=hn (6+k) oo;rw[hM]at hq x2 h;have U:((k:Nat):Int)+1-1=(k:Nat):=by omega
 refine ba oo oo ?_;rw[U];refine AT <|ixR rfl oo <|lK (v:=iv (nA A (6+k))) C.r (by rw[show 0+6+k=6+k by omega];exact ti oo) ?_;unfold iv;refine aM oo oo <|bO ?_;by_cases I:1125899906842624<nA A (6+k)+x
 ·rw[if_pos I]at h;refine ax I ?_;exact C.no h
 refine ao I ?_;rw[if_neg I]at h;refine ba oo oo ?_;rw[U];refine AT <|ixR rfl oo <|lK (v:=iv (nA A (6+k))) C.r (by rw[show 0+6+k=6+k by omega];exact ti oo) ?_;unfold iv;refine aM oo oo <|AT <|ixR rfl oo ?_;rw[show 0+6+k=6+k by omega];exact C.yes u oo h
end
theorem RV3.drew (g:RV3 w0 w A):RV3 w0 w.drew A:=g.fresh (Below.refl _ w).drew
theorem Ug {i:Int}(I:A.length=54)(hx : -9223372036854775808≤x∧x≤9223372036854775807)(h:∀w',Below w.heap.size w w'→K (.tuple #[.agg ((mc A i x).1.map iv).toArray,ci (mc A i x).2]) w'):call Q 149 #[.agg (A.map iv).toArray,ci i,ci x] K w:=by
 refine ak (goK func149) (N6 ?_);refine RV3.make I fun w1 Z s1=>?_;have u:((A.map iv).drop 0).take 54=A.map iv:=by rw[List.drop_zero,tL (by simp[I])]
 refine ldA (n:=54) (vs:=A.map iv) underlying77 rfl kr Z.r u (by simp[I]) ?_;refine LQ I fun w2 b2=>?_;have g2:=Z.fresh b2;unfold mc at h;refine aX ?_;by_cases J:sq A i x≠0
 ·rw[if_pos J]at h;refine ax J ?_;exact g2.no h
 refine ao J ?_;rw[if_neg J]at h;obtain⟨hm,x1,x2,i1,i2⟩:=Rk (show sq A i x=0 by omega);have hn:=AY hm;have hM:MXA=1125899906842624:=rfl;generalize hk:(i-1).toNat=k at h;have hi:i=((k:Nat):Int)+1:=by omega
 subst hi;have q1:=hn (6+k) oo;have q2:=hn (12+k) oo;rw[hM]at q1 q2 x2;have O:((k:Nat):Int)+1-1=(k:Nat):=by omega
 have C:=g2.drew;have U:∀{w3:World} {K:KV} (q:Nat),RV3 w w3 A→q<54→K (iv (nA A q)) w3→ld Q 2 (pA w.heap.size q) K w3:=fun q g hq j=>lK g.r (ti oo) j
 refine ac (v:=ci (k:Nat)) (fun K j=>ba oo oo (by rw[O];exact j)) <|ac (fun _=>AT) <|ac (v:=pA w.heap.size (6+k)) (fun K j=>ixR rfl oo (by rw[show 0+6+k=6+k by omega];exact j)) <|ac (v:=iv (nA A (6+k))) (fun _=>U _ C oo) <|ac (v:=ci (k:Nat)) (fun K j=>ba oo oo (by rw[O];exact j)) <|ac (fun _=>EJ) <|ac (v:=pA w.heap.size (12+k)) (fun K j=>ixR rfl oo (by rw[show 0+12+k=12+k by omega];exact j)) <|ac (v:=iv (nA A (12+k))) (fun _=>U _ C oo) <|ac (v:=ci (nA A (6+k)-nA A (12+k))) (fun _=>ba oo oo) <|ac (fun _=>bO) ?_
 by_cases M:nA A (6+k)-nA A (12+k)<x
 ·rw[if_pos M]at h;refine ax M ?_;exact C.no h
 refine ao M ?_;rw[if_neg M]at h;refine ba oo oo ?_;rw[O];refine EJ <|ixR rfl oo ?_;rw[show 0+12+k=12+k by omega];refine U _ C oo ?_;unfold iv;refine aM oo oo <|EJ <|ixR rfl oo ?_;rw[show 0+12+k=12+k by omega];exact C.yes I oo h
theorem Wy {i:Int}(hi:i=(k:Nat))(j:k<6)(h:K (pA b (o+6*k)) w):aL Q 75 (pA b o) (ci i) K w:=by
 subst hi;exact ew underlying75 (s:=6) kf oo oo (by rw[Int.toNat_natCast,Nat.mul_comm];exact h)
theorem Uh {i j:Int}(J:A.length=54)(hx : -9223372036854775808≤x∧x≤9223372036854775807)(h:∀w',Below w.heap.size w w'→K (.tuple #[.agg ((mX A i j x).1.map iv).toArray,ci (mX A i j x).2]) w'):call Q 92 #[.agg (A.map iv).toArray,ci i,ci j,ci x] K w:=by
 refine ak (goK func92) (N7 ?_);refine RV3.make J fun w1 g1 s1=>?_;have I:((A.map iv).drop 0).take 54=A.map iv:=by rw[List.drop_zero,tL (by simp[J])]
 refine ldA (n:=54) (vs:=A.map iv) underlying77 rfl kr g1.r I (by simp[J]) ?_;refine LQ J fun w2 b2=>?_;have M:=g1.fresh b2;unfold mX at h;refine aX ?_;by_cases he:sq A i x≠0
 ·rw[if_pos he]at h;refine ax he ?_;exact M.no h
 refine ao he ?_;rw[if_neg he]at h;obtain⟨hm,x1,x2,i1,i2⟩:=Rk (show sq A i x=0 by omega);have hn:=AY hm;have hM:MXA=1125899906842624:=rfl;refine VT <|bK ?_;cases O:bG j with
 | false =>
  rw[if_pos O]at h;refine aT ?_;exact M.no h
 | true =>
 rw[if_neg (by rw[O];simp)]at h;refine aF ?_;have aa:1≤j∧j≤6:=by simpa[bG]using O
 refine aO ?_;by_cases C:i=j
 ·rw[if_pos C]at h;refine ax C ?_;exact M.no h
 refine ao C ?_;rw[if_neg C]at h;refine ldA (n:=54) (vs:=A.map iv) underlying77 rfl kr M.r I (by simp[J]) ?_;generalize hk:(i-1).toNat=k at h;generalize ad:(j-1).toNat=m at h;have hi:i=((k:Nat):Int)+1:=by omega
 have O:j=((m:Nat):Int)+1:=by omega
 subst hi O;refine Rh J oo hn fun w3 b3=>?_;have U:=M.fresh b3;unfold iv;refine bO ?_;by_cases hl:gQ A k<x
 ·rw[if_pos hl]at h;refine ax hl ?_;exact U.no h
 refine ao hl ?_;rw[if_neg hl]at h;unfold vk at h;have hq:=hn (18+6*k+m) oo;rw[hM]at hq x2 h;have ek:((k:Nat):Int)+1-1=(k:Nat):=by omega
 have em:((m:Nat):Int)+1-1=(m:Nat):=by omega
 have rd:∀{w3:World} {K:KV} (q:Nat),RV3 w w3 A→q<54→K (iv (nA A q)) w3→ld Q 2 (pA w.heap.size q) K w3:=fun q g hq u=>lK g.r (ti oo) u;refine ba oo oo ?_;rw[ek];refine ba oo oo ?_;rw[em];refine IP <|Wy rfl oo <|ixR rfl oo ?_;rw[show 0+18+6*k+m=18+6*k+m by omega];refine rd _ U oo ?_;unfold iv
 refine aM oo oo <|bO ?_;by_cases Z:1125899906842624<nA A (18+6*k+m)+x
 ·rw[if_pos Z]at h;refine ax Z ?_;exact U.no h
 refine ao Z ?_;rw[if_neg Z]at h;have g4:=U.drew
 refine ac (v:=ci (k:Nat)) (fun K u=>ba oo oo (by rw[ek];exact u)) <|ac (v:=ci (m:Nat)) (fun K u=>ba oo oo (by rw[em];exact u)) <|ac (fun _=>IP) <|ac (fun _=>Wy rfl oo) <|ac (v:=pA w.heap.size (18+6*k+m)) (fun K u=>ixR rfl oo (by rw[show 0+18+6*k+m=18+6*k+m by omega];exact u)) <|ac (v:=iv (nA A (18+6*k+m))) (fun _=>rd _ g4 oo) <|ac (v:=ci (nA A (18+6*k+m)+x)) (fun _=>aM oo oo) <|ac (fun _=>IP) <|ac (fun _=>Wy rfl oo) <|ac (v:=pA w.heap.size (18+6*k+m)) (fun K u=>ixR rfl oo (by rw[show 0+18+6*k+m=18+6*k+m by omega];exact u)) ?_
 exact g4.yes J oo h
end
end
section
open Go.RowKit
def ot (x1 is2 may3 number4 r5 t10 t14:Value)(zf:Nat→Value):List Value:=zf 0::x1::is2::may3::number4::r5::zT zf 6 4 (t10::zT zf 11 3 (t14::zT zf 15 32 ([])))
def FY (x1 may3 number4 r5 t10:Value)(zf:Nat→Value):List Value:=zf 0::x1::zf 2::may3::number4::r5::zT zf 6 4 (t10::zT zf 11 36 ([]))
def iE (K:KV):KE:=kZ f322 [1,1] K
def jz (K:KV):KE:=kY f322 [1,0,0,1] (iE K) (xx xf (iE K) 0) K
def qI (K:KV):KE:=ah Q (cd f322 (b1 49)) (jz K) (xx xf (iE K) 0) (rk f322 K)
theorem OM {K:KV}{r0 V0 W0 X0 Y0:Value}{w:World}(h:box Q 77 r0 (fun Z0=>alc Q 77 fun H1=>ld Q 77 Z0 fun t15=>call Q 184 #[t15] fun t16=>un Q .not t16 fun t17=>qI K (ot V0 W0 X0 Y0 Z0 H1 t17 (zV (zV (zV zu 0 [r0]) 11 [ci 0]) 15 [t15,t16,t17]))) w):Gives Q 322 #[r0,V0,W0,X0,Y0] w K:=by
 refine aq func322 (by kernel_rfl) ?_
 refine Eq.mp (congrArg (fun c=>ah Q c _ _ _ _ w) (by kernel_rfl:(rep (b1 49) (cd f322 (b1 49)) (cd f322 []))=(cd f322 []))) ?_
 revert h
 delta qI iE jz
 generalize (cd f322 (b1 49))=xc0
 exact mpF
theorem LT (h:cond I1 (jz K (ot V0 W0 X0 Y0 Z0 H1 I1 zf) w) (bT .lss 2 V0 (ci 1) (fun j w=>cond j (jz K (ot V0 W0 X0 Y0 Z0 H1 j (zV zf 18 [V0,j])) w) (bT .gtr 2 V0 (ci 1125899906842624) (fun u=>jz K (ot V0 W0 X0 Y0 Z0 H1 u (zV zf 18 [V0,j,V0,u]))) w)) w)):qI K (ot V0 W0 X0 Y0 Z0 H1 I1 zf) w:=by
 delta qI;revert h;generalize (jz K)=qc0;generalize (iE K)=qc1;exact mpF
theorem wo (h:cond I1 (bld Q 77 #[] (fun u=>sto Q 77 H1 u fun _=>aV Q [(some 77,H1),(none,ci 1)] K) w) (un Q .not W0 (fun j w=>cond j (bld Q 77 #[] (fun C=>sto Q 77 H1 C fun _=>aV Q [(some 77,H1),(none,ci 10)] K) w) (iE K (FY V0 X0 Y0 Z0 H1 (zV (zV (zV zf 2 [W0]) 14 [I1]) 23 [j,W0,j])) w)) w)):jz K (ot V0 W0 X0 Y0 Z0 H1 I1 zf) w:=by
 delta jz;revert h;generalize (iE K)=qc0;exact mpF
theorem LU (h:aZ Q X0 #[] (fun u=>bT .neq 40 u (ci 0) fun C w=>cond C (bld Q 77 #[] (fun I=>sto Q 77 H1 I fun _=>aV Q [(some 77,H1),(none,u)] K) w) (aZ Q Y0 #[Z0] (fun j=>aJ j fun J=>ld Q 2 J fun M=>bF .add 2 M V0 fun O=>aJ j fun U=>sto Q 2 U O fun _=>aJ j fun Z=>ld Q 2 Z fun aa=>bT .gtr 2 aa (ci 1125899906842624) fun ad w=>cond ad (bld Q 77 #[] (fun af=>sto Q 77 H1 af fun _=>aV Q [(some 77,H1),(none,ci 6)] K) w) (ld Q 77 Z0 (fun ag=>sto Q 77 H1 ag fun _=>aV Q [(some 77,H1),(none,ci 0)] K) w)) w)) w):iE K (FY V0 X0 Y0 Z0 H1 zf) w:=by
 delta iE;exact mpK h
attribute [irreducible] iE jz qI
theorem Ro (h:cond V0 (K W0 w) (K (ci 0) w)):Gives Q 324 #[V0,W0] w K:=by
 refine aq func324 kr ?_;exact mpK h
theorem Rn (h:box Q 77 V0 (fun J=>box Q 3 W0 fun j=>box Q 2 X0 fun O=>alc Q 77 fun M w=>aE (fun S w=>hL S 77 J fun U=>hL S 2 O fun Z=>hL S 3 j fun u=>call Q 183 #[u] (fun C=>aU S fun _=>call Q 322 #[U,Z,C,.func (.func 323) #[] #[O,J,j],.func (.func 325) #[] #[j]] fun t14=>aE fun S w=>hld S (ext Q t14 0) fun t15=>hld S (ext Q t14 1) fun I=>sto Q 77 M t15 (fun _=>aE fun _=>aV Q [(some 77,M),(none,I)] K) w) w) w.drew) w):Gives Q 310 #[V0,W0,X0] w K:=by
 refine aq func310 kr ?_;exact mpK h
theorem OH (h:aE (fun S w=>hL S 2 V0 fun t4=>hL S 77 W0 fun j=>hL S 3 X0 fun u=>call Q 137 #[j,u] (fun t7=>aU S fun S w=>hld S (bF .gtr 2 t4 t7) fun C=>call Q 324 #[C,ci 11] (fun I=>aE fun _=>K I) w) w) w.drew):Gives Q 323 #[V0,W0,X0] w K:=by
 refine aq func323 kr ?_;exact mpK h
theorem OJ (h:sL 3 W0 (fun j=>sti (bT .sub 3 j (ci 1)) fun u=>sN V0 fun t7=>sF 77 t7 1 fun C=>sI 74 C u K) w.drew):Gives Q 325 #[V0,W0] w K:=by
 refine aq func325 kr ?_;exact mpK h
theorem Rl (h:box Q 77 V0 (fun J=>box Q 3 W0 fun j=>box Q 2 X0 fun O=>alc Q 77 fun M w=>aE (fun S w=>hL S 77 J fun U=>hL S 2 O fun Z=>hL S 3 j fun u=>call Q 183 #[u] (fun C=>aU S fun _=>call Q 322 #[U,Z,C,.func (.func 326) #[] #[O,J,j],.func (.func 327) #[] #[j]] fun t14=>aE fun S w=>hld S (ext Q t14 0) fun t15=>hld S (ext Q t14 1) fun I=>sto Q 77 M t15 (fun _=>aE fun _=>aV Q [(some 77,M),(none,I)] K) w) w) w.drew) w):Gives Q 313 #[V0,W0,X0] w K:=by
 refine aq func313 kr ?_;exact mpK h
theorem OD (h:aE (fun S w=>hL S 2 V0 fun t4=>hL S 3 X0 fun M=>hld (fun _=>True) (bT .sub 3 M (ci 1)) fun O=>hF S 77 W0 1 fun t7=>hI S 74 t7 O fun U=>hL S 2 U fun Z=>hL S 3 X0 fun j=>hld (fun _=>True) (bT .sub 3 j (ci 1)) fun u=>hF S 77 W0 2 fun C=>hI S 74 C u fun t13=>hL S 2 t13 fun t14=>hld (fun _=>True) (bF .sub 2 Z t14) fun t15=>hld S (bF .gtr 2 t4 t15) fun I=>call Q 324 #[I,ci 12] (fun J=>aE fun _=>K J) w) w.drew):Gives Q 326 #[V0,W0,X0] w K:=by
 refine aq func326 kr ?_;exact mpK h
theorem OE (h:sL 3 W0 (fun j=>sti (bT .sub 3 j (ci 1)) fun u=>sN V0 fun t7=>sF 77 t7 2 fun C=>sI 74 C u K) w.drew):Gives Q 327 #[V0,W0] w K:=by
 refine aq func327 kr ?_;exact mpK h
theorem Rm (h:box Q 77 V0 (fun r4=>box Q 3 W0 fun u=>box Q 3 X0 fun C=>box Q 2 Y0 fun x7=>alc Q 77 fun t8 w=>aE (fun S w=>hL S 77 r4 fun I=>hL S 2 x7 fun J=>hL S 3 u fun M=>call Q 183 #[M] (fun t13=>aU S fun S w=>hG t13 true S (ld Q 3 C) fun t15=>xG t13 true (call Q 183 #[t15]) (fun O=>aU S fun S w=>hld S (pick t13 O cF) fun U=>call Q 322 #[I,J,U,.func (.func 328) #[] #[u,C,x7,r4],.func (.func 329) #[] #[u,C]] (fun j=>aE fun S w=>hld S (ext Q j 0) fun Z=>hld S (ext Q j 1) fun aa=>sto Q 77 t8 Z (fun _=>aE fun _=>aV Q [(some 77,t8),(none,aa)] K) w) w) w) w) w.drew) w):Gives Q 315 #[V0,W0,X0,Y0] w K:=by
 refine aq func315 kr ?_;exact mpK h
theorem OF (h:ld Q 3 V0 (fun I=>ld Q 3 W0 fun J=>bF .eql 3 I J fun t7 w=>cond t7 (K (ci 1) w) (aE (fun S w=>hL S 2 X0 fun M=>hL S 77 Y0 fun O=>hL S 3 V0 fun j=>call Q 137 #[O,j] (fun u=>aU S fun S w=>hld S (bF .gtr 2 M u) fun C=>call Q 324 #[C,ci 11] (fun t13=>aE fun _=>K t13) w) w) w.drew)) w):Gives Q 328 #[V0,W0,X0,Y0] w K:=by
 refine aq func328 kr ?_;exact mpK h
theorem OG (h:sL 3 W0 (fun I=>sti (bT .sub 3 I (ci 1)) fun t7=>sL 3 X0 fun J=>sti (bT .sub 3 J (ci 1)) fun M=>sN V0 fun j=>sF 77 j 3 fun u=>sI 75 u t7 fun C=>sI 74 C M K) w.drew):Gives Q 329 #[V0,W0,X0] w K:=by
 refine aq func329 kr ?_;exact mpK h
end
section
/-! ## Sums -/

/-! ## The live ones -/
end
section
open Go.RowKit
def kv8 (x:Int):Value:=.int .u8 x
def evC (e:EV):List Value:=[iv e.o,u6 e.s,u6 e.d0,u6 e.d1,u6 e.d2,u6 e.d3,u6 e.d4,u6 e.d5,kv8 e.k,u6 e.n,iv e.t,iv e.a,u6 e.r,u6 e.f]
theorem Ps {e:EV}:∀{k:Nat},k<6→(evC e)[2+k]? = some (u6 (e.V.getD k 0))
 | 0,_=>rfl
 | 1,_=>rfl
 | 2,_=>rfl
 | 3,_=>rfl
 | 4,_=>rfl
 | 5,_=>rfl
theorem Vm {e e':EV}:evC e=evC e'↔e=e':=by
 cases e;cases e';simp[evC,u6,iv,kv8]
theorem sY (e:EV):∀v∈evC e,v.oneCell'=true:=by simp[evC,u6,iv,kv8,Value.oneCell']
theorem bw (h:K (pA b (o+0)) w):ai Q 35 (pA b o) 0 K w:=aH kr h
theorem gN (h:K (pA b (o+1)) w):ai Q 35 (pA b o) 1 K w:=aH kr h
theorem qn (h:K (pA b (o+2)) w):ai Q 35 (pA b o) 2 K w:=aH kr h
theorem mh (h:K (pA b (o+8)) w):ai Q 35 (pA b o) 3 K w:=aH kr h
theorem dR (h:K (pA b (o+9)) w):ai Q 35 (pA b o) 4 K w:=aH kr h
theorem gO (h:K (pA b (o+10)) w):ai Q 35 (pA b o) 5 K w:=aH kr h
theorem du (h:K (pA b (o+11)) w):ai Q 35 (pA b o) 6 K w:=aH kr h
theorem gw (h:K (pA b (o+12)) w):ai Q 35 (pA b o) 7 K w:=aH kr h
theorem py (h:K (pA b (o+13)) w):ai Q 35 (pA b o) 8 K w:=aH kr h
def Ey (P:Program):List Field→Nat→Nat→Bool
 | [],o,n=>Nat.beq o n
 | f::fs,o,n=>Nat.beq f.offset o&&Ey P fs (o+P.cellsOf f.type) n
def jf (P:Program):Nat→TypeId→List Value→Bool
 | 0,_,_=>false
 | d+1,t,cs=>match P.underlying t with
  | some .bool=>(match cs with | [.bool _]=>true | _=>false)
  | some (.int q)=>(match cs with | [.int q' _]=>decide (q'=q) | _=>false)
  | some (.array n e)=>(P.info? e).isSome && (Nat.beq cs.length (n * P.cellsOf e) && (List.range n).all fun i=>jf P d e ((cs.drop (i * P.cellsOf e)).take (P.cellsOf e)))
  | some (.struct fs) => !P.stoodInHeld t && (Ey P fs.toList 0 cs.length && fs.toList.all fun f=>f.name != "_" && jf P d f.type ((cs.drop f.offset).take (P.cellsOf f.type)))
  | _=>false
def Bc (P:Program)(t:TypeId)(cs:List Value):Value:=match P.underlying t with
 | some (.array _ _)=>.agg cs.toArray
 | some (.struct _)=>.agg cs.toArray
 | _=>cs.headD undef
theorem Np {P:Program}:∀(fs:List Field) (o n m:Nat),Ey P fs o n=true→Ey P fs o m=true→n=m
 | [],o,n,m,h1,h2=>by
  have:=Nat.eq_of_beq_eq_true h1
  have:=Nat.eq_of_beq_eq_true h2
  omega
 | f::fs,o,n,m,h1,h2=>by
  unfold Ey at h1 h2;rw[Bool.and_eq_true]at h1 h2;exact Np fs _ n m h1.2 h2.2
theorem L6 (j:P.underlying t=some .bool)(h:jf P (d+1) t cs=true):∃b,cs=[.bool b]:=by
 unfold jf at h;simp only[j]at h;split at h
 ·exact⟨_,rfl⟩
 ·cases h
theorem O6 {q:IntKind}(j:P.underlying t=some (.int q))(h:jf P (d+1) t cs=true):∃n,cs=[.int q n]:=by
 unfold jf at h;simp only[j]at h;split at h
 ·have:=of_decide_eq_true h;subst this;exact⟨_,rfl⟩
 ·cases h
section
variable {P:Program}
theorem Pm {off:Nat}{v:Value}(h:(xs.drop off).take n=[v]):xs.toArray[off]? = some v:=by
 have j:((xs.drop off).take n)[0]? = some v:=by rw[h];rfl
 rw[List.getElem?_take]at j;split at j
 ·rw[List.getElem?_drop]at j;simpa using j
 ·cases j
theorem Jy {off:Nat}(w:World)(h:jf P d e ((xs.drop off).take (P.cellsOf e))=true):(part e xs.toArray off).run P w=.ok (Bc P e ((xs.drop off).take (P.cellsOf e))) w:=by
 cases d with
 | zero=>simp[jf]at h
 | succ d =>
  cases j:P.underlying e with
  | none=>simp[jf,j]at h
  | some kd =>
   have C:(xs.toArray.extract off (off+P.cellsOf e))=((xs.drop off).take (P.cellsOf e)).toArray:=by
    apply Array.toList_inj.1;rw[Array.toList_extract];simp[List.extract]
   cases kd
   case bool =>
    obtain⟨b,u⟩:=L6 j h;rw[run_part_plain w (by simp[Program.plainKey,j]) (Pm u),u];simp[Bc,j]
   case int q =>
    obtain⟨b,u⟩:=O6 j h;rw[run_part_plain w (by simp[Program.plainKey,j]) (Pm u),u];simp[Bc,j]
   case array n e' =>
    obtain⟨i,hi⟩:=info_of_underlying j;simp only[part,isAgg,Sem.run_bind,run_underlying j,run_sizeOf w hi,Result.andThen_ok,Sem.run_pure,if_true,Bc,j,C]
   case struct fs =>
    obtain⟨i,hi⟩:=info_of_underlying j;simp only[part,isAgg,Sem.run_bind,run_underlying j,run_sizeOf w hi,Result.andThen_ok,Sem.run_pure,if_true,Bc,j,C]
   all_goals (simp[jf,j]at h;done)
theorem Sf (I:xs.length=ys.length):(xs.drop o).take c=(ys.drop o).take c∧xs.drop (o+c)=ys.drop (o+c)↔xs.drop o=ys.drop o:=by
 have e:∀j:List Value,j.drop o=(j.drop o).take c++j.drop (o+c):=fun j=>by rw[←List.drop_drop];exact(List.take_append_drop c (j.drop o)).symm
 constructor
 ·rintro⟨u,C⟩;rw[e xs,e ys,u,C]
 ·intro h;refine⟨by rw[h],?_⟩;rw[←List.drop_drop, ←List.drop_drop,h]
def EqB (P:Program)(D d:Nat):Prop:=∀(t:TypeId) (w:World) (xs ys:List Value),jf P d t xs=true→jf P d t ys=true→∃r:Bool,(Op.equalIn D t (Bc P t xs) (Bc P t ys)).run P w=.ok r w∧(r=true↔xs=ys)
theorem Vi {D d:Nat} (IH:EqB P D d) {xs ys:List Value} (u:xs.length=ys.length) (w:World):∀ (fs:List Field) (o:Nat),Ey P fs o xs.length=true →
  (∀ f ∈ fs,f.name≠"_"∧jf P d f.type ((xs.drop f.offset).take (P.cellsOf f.type))=true∧jf P d f.type ((ys.drop f.offset).take (P.cellsOf f.type))=true) →
  ∃ r:Bool,(Op.eqFields D xs.toArray ys.toArray fs).run P w=.ok r w∧(r=true↔xs.drop o=ys.drop o)
 | [],o,hc,_=>by
  have:=Nat.eq_of_beq_eq_true hc
  subst this;exact ⟨true,by simp [Op.eqFields],by rw [List.drop_length,u,List.drop_length]; simp⟩
 | f::fs,o,hc,hall=>by
  unfold Ey at hc;rw [Bool.and_eq_true] at hc;have U:=Nat.eq_of_beq_eq_true hc.1;obtain ⟨O,I,J⟩:=hall f sm;obtain ⟨r,Z,j⟩:=IH f.type w _ _ I J;obtain ⟨r',C,h⟩:=Vi IH u w fs (o+P.cellsOf f.type) hc.2 (fun g M=>hall g (by simp [M]));simp only [Op.eqFields,O,ne_eq,not_false_eq_true,if_true,Sem.run_bind,Jy w I,Jy w J,Z,Result.andThen_ok]
  rw [← Sf u (c:=P.cellsOf f.type), ← h, ← U, ← j];cases r
  ·exact ⟨false,by simp,by simp⟩
  ·exact ⟨r',by simpa using C,by simp⟩
theorem Vk {D d:Nat}(IH:EqB P D d){xs ys:List Value}{e:TypeId}{n:Nat}(C:xs.length=ys.length)(J:xs.length=n*P.cellsOf e)(w:World)(j:∀i,i<n→jf P d e ((xs.drop (i*P.cellsOf e)).take (P.cellsOf e))=true∧jf P d e ((ys.drop (i*P.cellsOf e)).take (P.cellsOf e))=true):∀(m i:Nat),i+m=n →
  ∃r:Bool,(Op.eqItems D e (P.cellsOf e) xs.toArray ys.toArray (List.range' i m)).run P w=.ok r w∧(r=true↔xs.drop (i*P.cellsOf e)=ys.drop (i*P.cellsOf e))
 | 0,i,hi=>by
  obtain rfl:i=n:=by omega
  exact⟨true,by simp[Op.eqItems],by rw[←J,List.drop_length,C,List.drop_length];simp⟩
 | m+1,i,hi=>by
  obtain⟨M,O⟩:=j i oo;obtain⟨r,U,u⟩:=IH e w _ _ M O;obtain⟨Z,I,h⟩:=Vk IH C J w j m (i+1) oo;simp only[List.range'_succ,Op.eqItems,Sem.run_bind,Jy w M,Jy w O,U,Result.andThen_ok];rw[←Sf C (c:=P.cellsOf e), ←u];rw[show (i+1)*P.cellsOf e=i*P.cellsOf e+P.cellsOf e by rw[Nat.add_mul,Nat.one_mul]]at h;rw[←h];cases r
  ·exact⟨false,by simp,by simp⟩
  ·exact⟨Z,by simpa using I,by simp⟩
theorem Vh (D:Nat):∀d:Nat,EqB P (D+d) d
 | 0=>fun t w xs ys h _=>by simp[jf]at h
 | d+1=>fun t w xs ys h C=>by
  have IH:=Vh D d;cases j:P.underlying t with
  | none=>simp[jf,j]at h
  | some kd =>
   cases kd
   case bool =>
    obtain⟨a,rfl⟩:=L6 j h;obtain⟨b,rfl⟩:=L6 j C;refine⟨a==b,?_,by simp⟩;simp only[Bc,j,List.headD_cons];exact run_equalIn_bool' w (D+d) t a b j
   case int q =>
    obtain⟨a,rfl⟩:=O6 j h;obtain⟨b,rfl⟩:=O6 j C;refine⟨a==b,?_,by simp⟩;simp only[Bc,j,List.headD_cons];exact run_equalIn_int w (D+d) t q q a b j
   case array n e =>
    unfold jf at h C;simp only[j,Bool.and_eq_true,List.all_eq_true,List.mem_range]at h C;have O:=Nat.eq_of_beq_eq_true h.2.1;have Z:=Nat.eq_of_beq_eq_true C.2.1;obtain⟨i,hi⟩:=Option.isSome_iff_exists.1 h.1;obtain⟨r,M,u⟩:=Vk IH (O.trans Z.symm) O w (fun i hi=>⟨h.2.2 i hi,C.2.2 i hi⟩) n 0 oo;refine⟨r,?_,by simpa using u⟩;simp only[Bc,j]
    rw[show D+(d+1)=(D+d)+1 from rfl,run_equalIn_array w (D+d) _ _ j hi,List.range_eq_range'];exact M
   case struct fs =>
    unfold jf at h C;simp only[j,Bool.and_eq_true,List.all_eq_true,Bool.not_eq_true',bne_iff_ne,ne_eq]at h C;have U:=Np fs.toList 0 _ _ h.2.1 C.2.1;have I:P.fieldsOf t=fs:=by simp[Program.fieldsOf,j]
    obtain⟨r,M,u⟩:=Vi IH U w fs.toList 0 h.2.1 (fun f J=>⟨(h.2.2 f J).1,(h.2.2 f J).2,(C.2.2 f J).2⟩);refine⟨r,?_,by simpa using u⟩;simp only[Bc,j];rw[show D+(d+1)=(D+d)+1 from rfl,run_equalIn_struct w (D+d) t _ _ (by rw[I];exact j) h.1,I];exact M
   all_goals (simp[jf,j]at h;done)
variable {K:KV}{w:World}{t:TypeId}{cx cy:Bool}
theorem UB (j:(match P.underlying t with|some (.array _ _)|some (.struct _)=>true|_=>false)=true):Bc P t cs=.agg cs.toArray:=by
 unfold Bc;cases h:P.underlying t with
 | none=>simp[h]at j
 | some kd=>cases kd<;>simp_all
theorem Xw (d:Nat)(C:d≤10000)(h:(match P.underlying t with|some (.array _ _)|some (.struct _)=>true|_=>false)=true)(j:jf P d t xs=true)(u:jf P d t ys=true):∃r:Bool,(Op.equalIn 10000 t (.agg xs.toArray) (.agg ys.toArray)).run P w=.ok r w∧(r=true↔xs=ys):=by
 have:=Vh (P:=P) (10000-d) d t w xs ys j u
 rw[show 10000-d+d=10000 by omega,UB h,UB h]at this;exact this
theorem Hw (d:Nat)(u:d≤10000)(J:(match P.underlying t with|some (.array _ _)|some (.struct _)=>true|_=>false)=true)(C:P.eqGuardType P.depth t=false)(M:jf P d t xs=true)(O:jf P d t ys=true)(h:∀r:Bool,(r=true↔xs=ys)→K (.bool r) w):bin P .eql t cx cy (.agg xs.toArray) (.agg ys.toArray) K w:=by
 obtain⟨r,I,j⟩:=Xw (w:=w) d u J M O;exact gy (v:=.bool r) (by unfold eqG;exact run_eqGuard_agg w _ _ _ _ _ _ C) (by rw[run_eql_struct w,I];rfl) (h r j)
theorem AI (d:Nat)(u:d≤10000)(J:(match P.underlying t with|some (.array _ _)|some (.struct _)=>true|_=>false)=true)(C:P.eqGuardType P.depth t=false)(M:jf P d t xs=true)(O:jf P d t ys=true)(h:∀r:Bool,(r=true↔xs=ys)→K (.bool (!r)) w):bin P .neq t cx cy (.agg xs.toArray) (.agg ys.toArray) K w:=by
 obtain⟨r,I,j⟩:=Xw (w:=w) d u J M O;exact gy (v:=.bool (!r)) (by unfold eqG;exact run_eqGuard_agg w _ _ _ _ _ _ C) (by rw[run_neq_struct w,I];rfl) (h r j)
end
theorem PA (h:bT .geq 3 V0 (ci 1) (fun t4 w=>aG t4 true (fun u=>bT .leq 3 V0 (ci 6) (fun t7=>u [V0,t7]) w) (fun k=>k [uu,uu] w) fun j=>pick t4 (gd j 1) cF K) w):Gives Q 157 #[V0] w K:=by
 refine aq func157 kr ?_;exact mpK h
def tK (x0 t7:Value)(zf:Nat→Value):List Value:=x0::zT zf 1 6 (t7::zT zf 8 17 ([]))
def tM (x0:Value)(zf:Nat→Value):List Value:=x0::zT zf 1 24 ([])
def tN (x0 m3 i4:Value)(zf:Nat→Value):List Value:=x0::zf 1::zf 2::m3::i4::zT zf 5 20 ([])
def tO (m3:Value)(zf:Nat→Value):List Value:=zT zf 0 3 (m3::zT zf 4 21 ([]))
def fO (K:KV):KE:=kZ f158 [1,1] K
def js (K:KV):KE:=ah Q (cd f158 [1,0,1]) (fO K) xf (rk f158 K)
def eG (K:KV):KE:=kZ f158 [1,1,1,1] K
def lH (K:KV):KE:=ah Q (cd f158 (b1 122)) (eG K) (xx xf (eG K) 0) (rk f158 K)
theorem Cy {K:KV}{V0:Value}{w:World}(h:lN 87 V0 (fun t6=>bT .lss 3 t6 (ci 1) fun Y0=>js K (tK V0 Y0 (zV (zV zu 2 [cu 0]) 5 [V0,t6]))) w):Gives Q 158 #[V0] w K:=by
 refine aq func158 (by kernel_rfl) ?_
 refine Eq.mp (congrArg (fun c=>ah Q c _ _ _ _ w) (by kernel_rfl:(rep [1,0,1] (cd f158 [1,0,1]) (cd f158 []))=(cd f158 []))) ?_
 revert h
 delta js fO
 generalize (cd f158 [1,0,1])=xc0
 exact mpF
theorem Ax (h:cond Y0 (ifc Q 9 (Value.string (xk [115,108,105,99,101,115,46,77,97,120,58,32,101,109,112,116,121,32,108,105,115,116])) (fun _ _=>False) w) (fO K (tM V0 (zV zf 7 [Y0])) w)):js K (tK V0 Y0 zf) w:=by
 delta js;revert h;generalize (fO K)=qc0;exact mpF
theorem Az (h:aL Q 87 V0 (ci 0) (fun j=>ld Q 31 j fun u=>lH K (tN V0 u (ci 1) (zV zf 9 [V0,j,u]))) w):fO K (tM V0 zf) w:=by
 delta fO;revert h;delta lH eG;exact mpF
theorem Ay (Inv:Value→Value→World→Prop)(μ:Value→Value→World→Nat)(Z:Inv W0 X0 w)(hs:∀(u j:Value) (U:Nat→Value) (w:World) (m:Nat),Inv u j w→m=μ u j w →
  lN 87 V0 (fun t14=>lS j t14 fun t15 w=>cond t15 (aL Q 87 V0 j (fun M=>ld Q 31 M fun O=>blt Q .max #[31,31] 31 #[false,false] #[u,O] fun J=>nC j fun I w=>(Inv J I w)∧((μ J I w)<m)) w) (eG K (tO u (zV (zV (zV U 0 [V0]) 4 [j]) 12 [j,V0,t14,t15])) w)) w):lH K (tN V0 W0 X0 zf) w:=by
 refine aI (cd f158 (b1 244)) (zr [(3,2),(12,12)]) kr (vP [3,4] Inv) (vQ [3,4] μ) Z ?_;intro e' w' hI;have h:=hs _ _ (zM zf (gd e') (zr [(3,2),(12,12)])) w' _ hI rfl;revert h;generalize (eG K)=qc0;exact mpF
theorem AA (h:K W0 w):eG K (tO W0 zf) w:=by
 delta eG;exact mpK h
attribute [irreducible] fO js eG lH
theorem II {f0:Value}(h:aJ f0 (fun t7=>ai Q 269 t7 0 fun t8=>ai Q 35 t8 6 fun t9=>ld Q 2 t9 fun O=>bF .geq 2 O V0 fun j w=>aG j true (fun M=>aJ f0 (fun t15=>ai Q 269 t15 0 fun u=>ai Q 35 u 6 fun C=>ld Q 2 C fun I=>bT .leq 2 I (ci 1125899906842624) fun U=>M [f0,t15,u,C,I,U]) w) (fun k=>k [uu,uu,uu,uu,uu,uu] w) fun J=>pick j (gd J 5) cF fun Z=>aJ f0 fun aa=>ai Q 269 aa 0 fun t24=>ai Q 35 t24 4 fun ad=>sto Q 31 ad (cu 0) fun _=>aJ f0 fun af=>ai Q 269 af 0 fun ag=>ai Q 35 ag 6 fun al=>sto Q 2 al (ci 0) fun _=>K Z) w):Gives Q 196 #[f0,V0] w K:=by
 refine aq func196 kr ?_;exact mpK h
theorem Kd {f0:Value}(h:aJ f0 (fun C=>ai Q 269 C 0 fun I=>ai Q 35 I 7 fun t7=>ld Q 31 t7 fun J=>bT .gtr 31 J (cu 0) fun M=>aJ f0 fun j=>ai Q 269 j 0 fun u=>ai Q 35 u 7 fun t13=>sto Q 31 t13 (cu 0) fun _=>K M) w):Gives Q 197 #[f0] w K:=by
 refine aq func197 kr ?_;exact mpK h
theorem KS {f0:Value}(h:sN f0 (fun t5=>sF 269 t5 0 fun t6=>sF 35 t6 8 fun t7=>sL 31 t7 fun t8=>sti (bT .gtr 31 t8 (cu 0)) fun t9 w=>aG t9 true (fun Z=>sN f0 (fun j=>sF 269 j 0 fun t13=>sF 35 t13 8 fun t14=>sL 31 t14 fun t15=>sN f0 fun u=>sF 269 u 0 fun C=>sF 35 C 7 fun I=>sL 31 I fun J=>sti (bF .neq 31 t15 J) fun ad=>Z [f0,j,t13,t14,t15,f0,u,C,I,J,ad]) w) (fun k=>k [uu,uu,uu,uu,uu,uu,uu,uu,uu,uu,uu] w) fun O=>sti (pick t9 (gd O 10) cF) fun af=>aJ f0 fun t24=>ai Q 269 t24 0 fun ag=>ai Q 35 ag 8 fun al=>sto Q 31 al (cu 0) fun _=>call Q 197 #[f0] fun M w=>aG M true (fun aa=>aa [af] w) (fun k=>k [uu] w) fun U=>pick M (gd U 0) cF K) w.drew):Gives Q 198 #[f0] w K:=by
 refine aq func198 kr ?_;exact mpK h
theorem KT {f0:Value}(h:sN f0 (fun t5=>sF 269 t5 0 fun t6=>sF 35 t6 5 fun t7=>sL 3 t7 fun t8=>sti (call Q 157 #[t8]) fun t9 w=>aG t9 true (fun O=>sN f0 (fun j=>sF 269 j 0 fun t13=>sF 35 t13 5 fun t14=>sL 3 t14 fun t15=>sN f0 fun u=>sF 269 u 0 fun C=>sF 35 C 0 fun I=>sL 3 I fun J=>sti (bF .neq 3 t15 J) fun U=>O [f0,j,t13,t14,t15,f0,u,C,I,J,U]) w) (fun k=>k [uu,uu,uu,uu,uu,uu,uu,uu,uu,uu,uu] w) fun M=>sti (pick t9 (gd M 10) cF) fun Z=>aJ f0 fun t24=>ai Q 269 t24 0 fun aa=>ai Q 35 aa 5 fun ad=>sto Q 3 ad (ci 0) fun _=>K Z) w.drew):Gives Q 199 #[f0] w K:=by
 refine aq func199 kr ?_;exact mpK h
def zo (f0 t7 t24:Value)(zf:Nat→Value):List Value:=f0::zT zf 1 6 (t7::zT zf 8 16 (t24::zT zf 25 21 ([])))
def zq (f0:Value)(zf:Nat→Value):List Value:=f0::zT zf 1 45 ([])
def ir (K:KV):KE:=kZ f159 [1,1] K
def np (K:KV):KE:=ah Q (cd f159 (b1 3455)) (ir K) (xx xf (ir K) 0) (rk f159 K)
section
variable {K:KV}{f0 t7 t24:Value}{zf:Nat→Value}{w:World}
theorem IG {K:KV}{f0:Value}{w:World}(h:aJ f0 (fun t4=>ai Q 269 t4 0 fun t5=>ai Q 35 t5 3 fun t6=>ld Q 5 t6 fun t7=>bT .eql 5 t7 (cb 1) fun t9 w=>cond t9 (call Q 196 #[f0,ci 0] K w) (bT .eql 5 t7 (cb 2) (fun t13 w=>cond t13 (call Q 196 #[f0,ci 1] K w) (bT .eql 5 t7 (cb 3) (fun t17 w=>cond t17 (call Q 196 #[f0,ci 1] (fun t19 w=>aG t19 true (fun k21=>call Q 197 #[f0] (fun t22=>k21 [f0,t22]) w) (fun k=>k [uu,uu] w) fun us21=>pick t19 (gd us21 1) cF K) w) (bT .eql 5 t7 (cb 4) (fun t25=>np K (zo f0 t7 t25 (zV (zV (zV (zV (zV zu 2 [cF,f0,t4,t5,t6]) 8 [t9,t9]) 12 [t13,t13]) 16 [t17,t17]) 25 [t25]))) w)) w)) w)) w):Gives Q 159 #[f0] w K:=by
 refine aq func159 (by kernel_rfl) ?_
 refine Eq.mp (congrArg (fun c=>ah Q c _ _ _ _ w) (by kernel_rfl:(rep (b1 3455) (cd f159 (b1 3455)) (cd f159 []))=(cd f159 []))) ?_
 revert h
 delta np ir
 generalize (cd f159 (b1 3455))=xc0
 exact mpF
theorem H9 (h:cond t24 (call Q 198 #[f0] K w) (bT .eql 5 t7 (cb 5) (fun j w=>cond j (call Q 196 #[f0,ci 1] (fun C w=>aG C true (fun J=>call Q 199 #[f0] (fun M=>J [f0,M]) w) (fun k=>k [uu,uu] w) fun I=>pick C (gd I 1) cF K) w) (bT .eql 5 t7 (cb 6) (fun u w=>cond u (call Q 199 #[f0] K w) (ir K (zq f0 (zV (zV (zV (zV zf 7 [t7]) 24 [t24]) 28 [j,j]) 36 [u,u])) w)) w)) w)):np K (zo f0 t7 t24 zf) w:=by
 delta np;revert h;generalize (ir K)=qc0;exact mpF
theorem Ha (h:aJ f0 (fun j=>ai Q 269 j 0 fun u=>ai Q 35 u 3 fun C=>ld Q 5 C fun I=>bT .eql 5 I (cb 7) K) w):ir K (zq f0 zf) w:=by
 delta ir;exact mpK h
end
attribute [irreducible] ir np
def EG (e1 f3:Value)(zf:Nat→Value):List Value:=zf 0::e1::zf 2::f3::zT zf 4 51 ([])
def sZ (K:KV):KE:=ah Q (cd f106 [1,1,1,1]) (rk f106 K) xf (rk f106 K)
theorem Tb {K:KV}{e0:Value}{w:World}(h:box Q 35 e0 (fun V0 w=>sF 35 V0 0 (fun t4=>sL 3 t4 fun t5=>sti (call Q 157 #[t5]) fun t6=>sti (un Q .not t6) fun t7 w=>aG t7 false (fun k9=>sF 35 V0 1 (fun t9=>sL 31 t9 fun t10=>sti (bT .lss 31 t10 (cu 1)) fun t11=>k9 [t9,t10,t11]) w) (fun k=>k [uu,uu,uu] w) fun us9=>sti (pick t7 cT (gd us9 2)) fun t12 w=>aG t12 false (fun k14=>sF 35 V0 1 (fun t14=>sL 31 t14 fun t15=>sti (bT .geq 31 t15 (cu 1099511627776)) fun t16=>k14 [t14,t15,t16]) w) (fun k=>k [uu,uu,uu] w) fun us14=>sti (pick t12 cT (gd us14 2)) fun t17 w=>aG t17 false (fun k19=>sF 35 V0 0 (fun t19=>sL 3 t19 fun t20=>sti (bT .sub 3 t20 (ci 1)) fun t21=>sF 35 V0 2 fun t22=>sI 33 t22 t21 fun t23=>sL 31 t23 fun t24=>sF 35 V0 1 fun t25=>sL 31 t25 fun t26=>sti (bT .sub 31 t26 (cu 1)) fun t27=>sti (bF .neq 31 t24 t27) fun t28=>k19 [t19,t20,t21,t22,t23,t24,t25,t26,t27,t28]) w) (fun k=>k [uu,uu,uu,uu,uu,uu,uu,uu,uu,uu] w) fun us19=>sti (pick t17 cT (gd us19 9)) fun t29 w=>cond t29 (K cF w) (ai Q 35 V0 2 (fun t30=>slc Q 33 t30 none none none fun t31=>call Q 158 #[t31] fun t32=>bT .geq 31 t32 (cu 1099511627776) fun t33 w=>cond t33 (K cF w) (ld Q 35 V0 (fun t34=>bld Q 269 #[(0,t34)] fun t35=>box Q 269 t35 fun t36=>sZ K (EG V0 t36 (zV (zV (zV zu 0 [e0]) 2 [cF]) 4 [t4,t5,t6,t7,t7,gd us9 0,gd us9 1,gd us9 2,t12,t12,gd us14 0,gd us14 1,gd us14 2,t17,t17,gd us19 0,gd us19 1,gd us19 2,gd us19 3,gd us19 4,gd us19 5,gd us19 6,gd us19 7,gd us19 8,gd us19 9,t29,t30,t31,t32,t33,t34,t35,t36]))) w)) w)) w.drew) w):Gives Q 106 #[e0] w K:=by
 refine aq func106 (by kernel_rfl) ?_
 refine Eq.mp (congrArg (fun c=>ah Q c _ _ _ _ w) (by kernel_rfl:(rep [1,1,1,1] (cd f106 [1,1,1,1]) (cd f106 []))=(cd f106 []))) ?_
 revert h
 delta sZ
 generalize (cd f106 [1,1,1,1])=xc0
 exact mpF
theorem QH (h:aE (fun _=>call Q 159 #[W0] fun j=>aE fun S w=>hG j true S (fun k=>k W0) fun u=>hG j true S (aJ u) fun C=>hG j true S (ai Q 269 C 0) fun I=>hG j true S (ld Q 35 I) fun J=>hG j true S (ai Q 35 V0 0) fun M=>hG j true S (ld Q 3 M) fun O=>hG j true S (ai Q 35 V0 1) fun U=>hG j true S (ld Q 31 U) fun Z=>hG j true S (ai Q 35 V0 2) fun aa=>hG j true S (ld Q 33 aa) fun ad=>hG j true S (ai Q 35 V0 3) fun af=>hG j true S (ld Q 5 af) fun ag=>hG j true S (bld Q 35 #[(0,O),(1,Z),(2,ad),(3,ag)]) fun al=>hG j true S (bF .eql 35 J al) fun am=>hld S (pick j am cF) fun an=>K an w) w.drew):sZ K (EG V0 W0 zf) w:=by
 delta sZ;exact mpK h
attribute [irreducible] sZ
end
section
attribute [local irreducible] bin un conv call aZ blt slc ai fld aL idx lkp cP eP eSt rng nxt ent ext alc box bld bg ld sto aJ cr mkS ifc pick rdy wts aG sti cond aV Gives ah dy dP cOp
section
open Go.RowKit
theorem kw (h:K (pA b (o+0)) w):ai Q 269 (pA b o) 0 K w:=aH kr h
section
variable {w:World}{K:KV}{f:Nat}{e:EV}
theorem Xy {i:Int}(h:K (.bool (bG i)) w):call Q 157 #[ci i] K w:=by
 refine ak (goK func157) (PA (bI ?_));unfold bG at h;by_cases j:i≥1
 ·rw[show decide (1≤i)=true from decide_eq_true j,Bool.true_and]at h;exact cU j (gJ (bA j h))
 ·rw[show decide (1≤i)=false from decide_eq_false j,Bool.false_and]at h;exact eB j (bj j h)
theorem Mm {l:Int}(J:blk w f 269 (evC e))(h:∀w',blk w' f 269 (evC {e with n:=0,a:=0})→Oth f w w'→K (.bool (decide (l≤e.a)&&decide (e.a≤1125899906842624))) w'):call Q 196 #[pA f 0,ci l] K w:=by
 refine ak (goK func196) (II (aj (kw (du (lK (v:=iv e.a) J rfl (bI ?_))))));have u:∀b:Bool,b=(decide (l≤e.a)&&decide (e.a≤1125899906842624))→aJ (pA f 0) (fun M=>ai Q 269 M 0 fun t24=>ai Q 35 t24 4 fun O=>sto Q 31 O (cu 0) fun _=>aJ (pA f 0) fun U=>ai Q 269 U 0 fun Z=>ai Q 35 Z 6 fun aa=>sto Q 2 aa (ci 0) fun _=>K (.bool b)) w:=by
  rintro b rfl;refine aj (kw (dR (cB kf J (by show 9<14;decide) rfl fun w1 j C=>aj (kw (du (cB kf j (by show 11<14;decide) rfl fun w2 h2 I=>?_))))));exact h w2 h2 ⟨I.os.trans C.os,I.tape.trans C.tape,I.output.trans C.output,I.size.trans C.size,fun k hk=>(I.other k hk).trans (C.other k hk)⟩
 by_cases j:e.a≥l
 ·refine cU j (aj (kw (du (lK (v:=iv e.a) J rfl (gJ (bA j ?_))))));exact u _ (by rw[show decide (l≤e.a)=true from decide_eq_true j,Bool.true_and])
 ·refine eB j (bj j ?_);exact u _ (by rw[show decide (l≤e.a)=false from decide_eq_false j,Bool.false_and])
theorem XD (j:blk w f 269 (evC e))(h:∀w',blk w' f 269 (evC {e with r:=0})→Oth f w w'→K (.bool (decide (0<e.r))) w'):call Q 197 #[pA f 0] K w:=by
 refine ak (goK func197) (Kd (aj (kw (gw (lK (v:=u6 e.r) j rfl (bO ?_))))));exact aj (kw (gw (cB kf j (by show 12<14;decide) rfl fun I u C=>h I u C)))
theorem zev (hb:blk w f 269 (evC e))(h:∀w',blk w' f 269 (evC {e with f:=0,r:=0})→Oth f w w'→K (.bool (decide (0<e.r)&&(decide (0<e.f)&&decide (e.f≠e.r)))) w'):call Q 198 #[pA f 0] K w:=by
 have U:=hb.drew;refine ak (goK func198) (KS (ac (fun _=>aj) (ac (fun _=>kw) (ac (fun _=>py) (ac (v:=u6 e.f) (fun _=>lK U rfl) (ac (fun _=>bO) ?_))))))
 have C:∀b:Bool,b=(decide (0<e.f)&&decide (e.f≠e.r))→aJ (pA f 0) (fun t24=>ai Q 269 t24 0 fun ad=>ai Q 35 ad 8 fun af=>sto Q 31 af (cu 0) fun _=>call Q 197 #[pA f 0] fun M w=>aG M true (fun aa=>aa [.bool b] w) (fun k=>k [undef] w) fun O=>pick M (gd O 0) cF K) w.drew:=by
  rintro b rfl;refine aj (kw (py (cB kf U (by show 13<14;decide) rfl fun w1 j I=>XD (e:={e with f:=0}) j fun w2 h2 J=>?_)));have Z:=h w2 h2 ⟨J.os.trans I.os,J.tape.trans I.tape,J.output.trans I.output,J.size.trans I.size,fun k hk=>(J.other k hk).trans (I.other k hk)⟩;show aG (.bool (decide (0<e.r))) true _ _ _;by_cases u:0<e.r
  ·rw[show decide (0<e.r)=true from decide_eq_true u,Bool.true_and]at Z;exact cU u (bA u Z)
  ·rw[show decide (0<e.r)=false from decide_eq_false u,Bool.false_and]at Z;exact eB u (bj u Z)
 by_cases j:0<e.f
 ·refine cU j (ac (fun _=>aj) (ac (fun _=>kw) (ac (fun _=>py) (ac (v:=u6 e.f) (fun _=>lK U rfl) (ac (fun _=>aj) (ac (fun _=>kw) (ac (fun _=>gw) (ac (v:=u6 e.r) (fun _=>lK U rfl) (ac (fun _=>aX) (ac (fun _=>bA j) ?_))))))))));exact C _ (by rw[show decide (0<e.f)=true from decide_eq_true j,Bool.true_and])
 ·refine eB j (ac (fun _=>bj j) ?_);exact C _ (by rw[show decide (0<e.f)=false from decide_eq_false j,Bool.false_and])
theorem zaY (U:blk w f 269 (evC e))(h:∀w',blk w' f 269 (evC {e with t:=0})→Oth f w w'→K (.bool (bG e.t&&decide (e.t≠e.o))) w'):call Q 199 #[pA f 0] K w:=by
 have C:=U.drew;refine ak (goK func199) (KT (ac (fun _=>aj) (ac (fun _=>kw) (ac (fun _=>gO) (ac (v:=iv e.t) (fun _=>lK C rfl) (ac (fun _=>Xy) ?_))))));have j:∀b:Bool,b=(bG e.t&&decide (e.t≠e.o))→aJ (pA f 0) (fun t24=>ai Q 269 t24 0 fun I=>ai Q 35 I 5 fun J=>sto Q 3 J (ci 0) fun _=>K (.bool b)) w.drew:=by
  rintro b rfl;exact aj (kw (gO (cB kf C (by show 10<14;decide) rfl fun Z O u=>h Z O ⟨u.os,u.tape,u.output,u.size,u.other⟩)))
 cases M:bG e.t with
 | true =>
  refine qq (ac (fun _=>aj) (ac (fun _=>kw) (ac (fun _=>gO) (ac (v:=iv e.t) (fun _=>lK C rfl) (ac (fun _=>aj) (ac (fun _=>kw) (ac (fun _=>bw) (ac (v:=iv e.o) (fun _=>lK C rfl) (ac (fun _=>aX) (ac (fun _=>cz) ?_))))))))));exact j _ (by rw[M,Bool.true_and])
 | false =>
  refine nY (ac (fun _=>dh) ?_);exact j _ (by rw[M,Bool.false_and])
end
def Ah (e:EV):EV:={e with
 n:=if e.k=1∨e.k=2∨e.k=3∨e.k=5 then 0 else e.n
 a:=if e.k=1∨e.k=2∨e.k=3∨e.k=5 then 0 else e.a
 t:=if e.k=5∨e.k=6 then 0 else e.t
 r:=if e.k=3∨e.k=4 then 0 else e.r
 f:=if e.k=4 then 0 else e.f}
def Wj (e:EV):EV:={e with n:=0,a:=0,t:=0,r:=0,f:=0}
theorem zaM {e:EV}:Ah e=Wj e↔e=ni e:=by
 obtain⟨o,s,J,M,O,U,Z,d5,k,n,t,a,r,f⟩:=e;simp only[Ah,Wj,ni,EV.mk.injEq,true_and];constructor
 ·rintro⟨h,j,u,C,I⟩;refine⟨?_,?_,?_,?_,?_⟩<;>split<;>simp_all
 ·rintro⟨h,j,u,C,I⟩;refine⟨?_,?_,?_,?_,?_⟩<;>split<;>simp_all
section
variable {w:World}{K:KV}{f:Nat}{e:EV}
theorem zbH (U:blk w f 269 (evC e))(h:∀w' e',blk w' f 269 (evC e')→Oth f w w'→(fdE e=true→e'=Ah e)→K (.bool (fdE e)) w'):call Q 159 #[pA f 0] K w:=by
 refine ak (goK func159) (IG (aj (kw (mh (lK (v:=kv8 e.k) U rfl (aO ?_))))));have tr:∀{I w2:World},Oth f w I→Oth f I w2→Oth f w w2:=fun j o2=>⟨o2.os.trans j.os,o2.tape.trans j.tape,o2.output.trans j.output,o2.size.trans j.size,fun k hk=>(o2.other k hk).trans (j.other k hk)⟩
 by_cases M:e.k=1
 ·refine ax M (Mm U fun I J j=>?_);have u:=h I _ J j (fun _=>by unfold Ah;rw[M];simp);rwa[show fdE e=(decide (0≤e.a)&&decide (e.a≤1125899906842624))by unfold fdE;rw[if_pos M]]at u
 refine ao M (aO ?_);by_cases O:e.k=2
 ·refine ax O (Mm U fun I J j=>?_);have u:=h I _ J j (fun _=>by unfold Ah;rw[O];simp);rwa[show fdE e=(decide (1≤e.a)&&decide (e.a≤1125899906842624))by unfold fdE smE;rw[if_neg M,if_pos O]]at u
 refine ao O (aO ?_);by_cases Z:e.k=3
 ·have e3:fdE e=((decide (1≤e.a)&&decide (e.a≤1125899906842624))&&decide (0<e.r)):=by
   unfold fdE smE;rw[if_neg M,if_neg O,if_pos Z];rfl
  refine ax Z (Mm U fun I J j=>?_);cases C:(decide (1≤e.a)&&decide (e.a≤1125899906842624))with
  | true =>
   refine qq (XD (e:={e with n:=0,a:=0}) J fun w2 h2 o2=>cz ?_);have u:=h w2 _ h2 (tr j o2) (fun _=>by unfold Ah;rw[Z];simp);rwa[e3,C,Bool.true_and]at u
  | false =>
   refine nY (dh ?_);have u:=h I _ J j (fun hf=>by rw[e3,C]at hf;cases hf);rwa[e3,C,Bool.false_and]at u
 refine ao Z (aO (H9 ?_));by_cases k4:e.k=4
 ·refine ax k4 (zev U fun I J j=>?_);have u:=h I _ J j (fun _=>by unfold Ah;rw[k4];simp);rwa[show fdE e=(decide (0<e.r)&&(decide (0<e.f)&&decide (e.f≠e.r)))by
   unfold fdE;rw[if_neg M,if_neg O,if_neg Z,if_pos k4,Bool.eq_iff_iff];simp only[Bool.and_eq_true,decide_eq_true_eq];constructor<;>(rintro⟨a,b,c⟩;exact⟨by omega,by omega,fun h=>c h.symm⟩)]at u
 refine ao k4 (aO ?_);by_cases k5:e.k=5
 ·have e5:fdE e=((decide (1≤e.a)&&decide (e.a≤1125899906842624))&&(bG e.t&&decide (e.t≠e.o))):=by
   unfold fdE smE otE;rw[if_neg M,if_neg O,if_neg Z,if_neg k4,if_pos k5]
  refine ax k5 (Mm U fun I J j=>?_);cases C:(decide (1≤e.a)&&decide (e.a≤1125899906842624))with
  | true =>
   refine qq (zaY (e:={e with n:=0,a:=0}) J fun w2 h2 o2=>cz ?_);have u:=h w2 _ h2 (tr j o2) (fun _=>by unfold Ah;rw[k5];simp);rwa[e5,C,Bool.true_and]at u
  | false =>
   refine nY (dh ?_);have u:=h I _ J j (fun hf=>by rw[e5,C]at hf;cases hf);rwa[e5,C,Bool.false_and]at u
 refine ao k5 (aO ?_);by_cases k6:e.k=6
 ·refine ax k6 (zaY U fun I J j=>?_);have u:=h I _ J j (fun _=>by unfold Ah;rw[k6];simp);rwa[show fdE e=(bG e.t&&decide (e.t≠e.o))by unfold fdE otE;rw[if_neg M,if_neg O,if_neg Z,if_neg k4,if_neg k5,if_pos k6]]at u
 refine ao k6 (Ha (aj (kw (mh (lK (v:=kv8 e.k) U rfl (aO ?_))))));have u:=h w e U ⟨rfl,rfl,rfl,rfl,fun _ _=>rfl⟩ (fun _=>by unfold Ah;simp[M,O,Z,k4,k5,k6]);rwa[show fdE e=decide (e.k=7)by unfold fdE;rw[if_neg M,if_neg O,if_neg Z,if_neg k4,if_neg k5,if_neg k6]]at u
theorem ze3 {V:List Int}(C:blk w b E cs)(M:∀k,k<6→cs[2+k]? = some (u6 (V.getD k 0)))(h:∀m:Int,(∀k,k<6→V.getD k 0≤m)→(∃k,k<6∧m=V.getD k 0)→K (u6 m) w):call Q 158 #[.slice (some ⟨b,2,none⟩) 6 6] K w:=by
 refine ak (goK func158) (Cy (bh underlying87 (aK (Ax (ao dc (Az ?_))))));refine dQ underlying87 (s:=1) kf dc dc <|lK (v:=u6 (V.getD 0 0)) C (M 0 oo) ?_;refine Ay (Inv:=fun m i w' => ∃(x:Int) (k:Nat),m=u6 x∧i=ci (k:Nat)∧1≤k∧k≤6∧w'=w∧(∀j,j<k→V.getD j 0≤x)∧∃j,j<6∧x=V.getD j 0) (μ:=fun _ i _=>6-(intOf i).toNat)
  ⟨_,1,rfl,rfl,by omega,by omega,rfl,fun j I=>by rw[show j=0 by omega];exact Int.le_refl _,0,by omega,rfl⟩ ?_
 rintro _ _ dd _ m ⟨x,k,rfl,rfl,U,Z,rfl,u,O⟩ hm;refine bh underlying87 (aK ?_);by_cases J:k<6
 ·refine ax oo (dQ underlying87 (s:=1) kf oo oo ?_);rw[Int.toNat_natCast,Nat.mul_one];refine lK (v:=u6 (V.getD k 0)) C (M k J) (zb5 (aM oo oo ?_));refine⟨⟨_,k+1,rfl,ivS,by omega,by omega,rfl,fun j I=>?_,?_⟩,by rw[hm];show 6-((k:Int)+1).toNat<6-(k:Int).toNat;omega⟩
  ·by_cases e:j=k
   ·subst e;split<;>omega
   ·have:=u j oo;split<;>omega
  ·split
   ·exact⟨k,J,rfl⟩
   ·exact O
 ·refine ao oo (AA (h x (fun j I=>u j oo) O))
end
end
end
end Go.Proofs.YtkfgimlaijifaaaGreatDoor
