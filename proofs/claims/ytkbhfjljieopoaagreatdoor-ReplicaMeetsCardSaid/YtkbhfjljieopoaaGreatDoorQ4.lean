import Derived.Test.YtkbhfjljieopoaaGreatDoorQ1
import Derived.Test.YtkbhfjljieopoaaGreatDoorQ2
import Derived.Test.YtkbhfjljieopoaaGreatDoorQ3
import Derived.DeepKeys
namespace Go.Proofs.YtkbhfjljieopoaaGreatDoor
set_option maxRecDepth 100000
set_option maxHeartbeats 4000000
open Go.Proofs.Tryz
variable {w w' w0:World}{K:KV}{zf dd:Nat→Value}{b n c o k B i g p j m s z f d D c2 hi:Nat}{x r:Int}{B1:KE}{a av:Option Addr}{cs ys:List Value}{E t e:TypeId}{xs v:List Int}{T:List (Int×Int)}{cx cy:Bool}{Y5 Z5 K6 W6 X6 Y6 Z6 u7 B7 K7 W7 X7 Y7 Z7 B8 K8 W8 X8 Y8 Z8 l9 n9 u9:Value}
section
attribute [local irreducible] bin un conv call bY blt slc aT fld aV idx lkp dO gY eSt rng nxt ent ext alc box bld bT ld sto aU dE mkS ifc pick rdy wts aI sti cond bp Gives ae fh fT cOp
open Go.RowKit
theorem BK {l:List Int}(hr:RV w a n c (l.map iv))(hn:n≤1000)(h:K (.tuple #[iv (mB l).1,.bool (mB l).2]) w):call Tryz.prog 144 #[.slice a n c] K w:=by
 have hl:l.length=n:=by simpa using hr.len
 refine aj (goK func144) (KW ?_);refine bj underlying247 <|Jf (Inv:=fun s i _ _ wr=>∃j:Nat,s=iv (l.take j).sum∧i=.int .i64 (j:Nat)∧j≤n∧wr=w∧(l.take j).all okA=true) (μ:=fun _ i _ _ _=>n-(intOf i).toNat) ⟨0,by simp[iv],rfl,by omega,rfl,by simp⟩ ?_;rintro _ _ _ _ dd _ m ⟨j,rfl,rfl,hj,rfl,u⟩ hm;by_cases ad:j<n
 ·(repeat (first|refine aM ?_|refine ax (by omega) ?_))
  have hv:(l.map iv)[j]? = some (iv (nA l j)):=by
   simp[nA,List.getD,List.getElem?_eq_getElem (show j<l.length by omega)]
  refine NE underlying247 (fun _=>by kernel_rfl) (by omega) (by omega) hr.some_ ?_;rw[Int.toNat_natCast];refine FV (fun _=>by kernel_rfl) (hr.cell _ _ hv) ?_;have hx:nA l j=l[j]:=by simp[nA,List.getD,show j<l.length by omega]
  have C:l.all okA=true→okA (nA l j)=true:=fun h=>by rw[hx];exact List.all_eq_true.1 h _ (List.getElem_mem _)
  have I:okA (nA l j)=false→mB l=(0,false):=fun hb=>by
   unfold mB;cases M:l.all okA with
   | false=>rfl
   | true=>rw[C M]at hb;cases hb
  have ht:l.take (j+1)=l.take j++[nA l j]:=by rw[hx,List.take_append_getElem (by omega)]
  unfold iv;refine aM ?_;by_cases U:nA l j<0
  ·refine jy U <|bO U <|bu ?_
   have:okA (nA l j)=false:=by
    cases M:okA (nA l j)with
    | false=>rfl
    | true=>have:=nu.1 M;omega
   rw[I this]at h;exact h
  ·refine dX U <|de <|bw U ?_;by_cases h1:nA l j>1125899906842624
   ·refine ax h1 ?_
    have:okA (nA l j)=false:=by
     cases M:okA (nA l j)with
     | false=>rfl
     | true=>have:=nu.1 M;simp only[MXA]at this;omega
    rw[I this]at h;exact h
   ·refine aq h1 ?_;have aa:okA (nA l j)=true:=nu.2 ⟨by omega,by simp only[MXA];omega⟩;have O:=DV u;have J:(l.take j).length=j:=by rw[List.length_take];omega
    rw[J]at O;simp only[MXA]at O;refine aW (by omega) (by omega) <|aW (by omega) (by omega) ?_;refine⟨⟨j+1,?_,by simp,by omega,rfl,?_⟩,?_⟩
    ·rw[ht];simp[iv]
    ·rw[ht,List.all_append,u];simp[aa]
    ·rw[hm];simp[intOf];omega
 ·obtain rfl:j=n:=by omega
  (repeat (first|refine Jg ?_|refine aM ?_|refine aq (by omega) ?_))
  rw[List.take_of_length_le (by omega)]at u ⊢;unfold mB at h;rw[u]at h;exact h
/-! ## Rows of numbers of the call's own. -/
abbrev OI (w:World)(B p n c:Nat)(l:List Int):Prop:=OV w B 2 (some ⟨p,0,none⟩) n c (l.map iv)
theorem OI.lt {l:List Int}(h:OI w B p n c l):B≤p∧p<w.heap.size:=OV.block h p rfl
theorem OI.keep {l:List Int}(h:OI w B p n c l)(j:w'.heap[p]? = w.heap[p]?):OI w' B p n c l:=cJ h fun k e=>by cases e;exact j
theorem bl1 (h:∀w',blk w' w.heap.size 2 [iv x]→Below w.heap.size w w'→w'.heap.size=w.heap.size+1→K (.slice (some ⟨w.heap.size,0,none⟩) 1 1) w'):bT Tryz.prog 247 1 #[(0,iv x)] K w :=
 mY (vs:=[iv x]) underlying247 (s:=1) (by kernel_rfl) (by kernel_rfl) (by omega) rfl (by simp) (by simp) (by simp) (by simp[Value.cells,iv]) fun w' j b s=>h w' (by simpa[iv,Value.cells]using j) b s
theorem bl2 {y:Int}(h:∀w',blk w' w.heap.size 2 [iv x,iv y]→Below w.heap.size w w'→w'.heap.size=w.heap.size+1→K (.slice (some ⟨w.heap.size,0,none⟩) 2 2) w'):bT Tryz.prog 247 2 #[(0,iv x),(1,iv y)] K w :=
 mY (vs:=[iv x,iv y]) underlying247 (s:=1) (by kernel_rfl) (by kernel_rfl) (by omega) rfl (by simp) (by simp) (by simp) (by simp[Value.cells,iv]) fun w' j b s=>h w' (by simpa[iv,Value.cells]using j) b s
theorem Rr :(Tryz.prog.info? 2).map (fun i=>(i.zero,i.size,i.bytes))=some (some (.int .i64 0),1,8):=by kernel_rfl
theorem ap1 {cs:Array Bool}{l:List Int}(ho:OI w B p n c l)(hg:blk w g 2 [iv x])(hB:B≤w.heap.size)(hn:n≤1000)(h:∀j u w',OI w' B j (n+1) u (l++[x])→(j=p∨j=w.heap.size)→(∀k,k<w.heap.size→k≠p→w'.heap[k]? = w.heap[k]?)→Below B w w'→K (.slice (some ⟨j,0,none⟩) (n+1) u) w'):blt Tryz.prog .append #[247,247] E cs #[.slice (some ⟨p,0,none⟩) n c,.slice (some ⟨g,0,none⟩) 1 1] K w:=by
 obtain⟨i,hi,hz,ad,M⟩:=info_parts Rr;refine Uy (base:=B) (s:=1) (m:=1) (ys:=[iv x]) underlying247 hi hz ad M rfl (by omega) ho hg rfl (by simp[iv,Value.oneCell']) (by omega) (by omega) hB ?_;intro a' u w' I C J;have hb:Below B w w':=dW C hB (fun k O=>by cases O;exact ho.lt.1)
 have aa:∀k,k<w.heap.size→k≠p→w'.heap[k]? = w.heap[k]? := fun k O U=>C.block k O fun e=>U (by cases e;rfl);have hq:∀j,a'=some ⟨j,0,none⟩→K (.slice a' (n+1) u) w':=by
  rintro j rfl;refine h j u w' (by simpa[OV]using I) ?_ aa hb;rcases J with e|e
  ·cases e;exact .inl rfl
  ·cases e;exact .inr rfl
 rcases I.2 with⟨hv,ag⟩|⟨g',cap,af,hv,_⟩
 ·omega
 ·simp only[Value.slice.injEq]at hv;exact hq g' hv.1
structure RtA (w:World) (b o:Nat) (E:TypeId) (cs:List Value) (A:List Int):Prop where
 bk:blk w b E cs
 cut:(cs.drop o).take 54=A.map iv
 len:A.length=54
theorem RtA.get {A:List Int}(h:RtA w b o E cs A)(hi:i<54):cs[o+i]? = some (iv (nA A i)):=by
 have j:((cs.drop o).take 54)[i]? = (A.map iv)[i]? := by rw[h.cut]
 rw[List.getElem?_take_of_lt hi,List.getElem?_drop]at j;rw[j]
 have:=h.len
 simp[nA,List.getD,show i<A.length by omega]
theorem RtA.below {A:List Int}(h:RtA w b o E cs A)(u:Below B w w')(j:b<B):RtA w' b o E cs A:=⟨ac u h.bk j,h.cut,h.len⟩
theorem PZ (A:List Int)(k j:Nat):re A k (j+1)=re A k j++[nA A (18+6*k+j)]:=by simp[re,List.range_succ]
theorem Rp (A:List Int)(k j:Nat):inL A k (j+1)=inL A k j++[nA A (18+6*j+k)]:=by simp[inL,List.range_succ]
theorem RY (A:List Int)(k j:Nat):(re A k j).length=1+j:=by simp[re];omega
theorem Tt (A:List Int)(k j:Nat):(inL A k j).length=2+j:=by simp[inL];omega
def Two (w:World)(B p n c q m d:Nat)(l r:List Int):Prop:=p≠q∧OI w B p n c l∧OI w B q m d r
theorem Two.bel {q:Nat}{l r:List Int}(h:Two w B p n c q m d l r)(j:Below w.heap.size w w'):Two w' B p n c q m d l r :=
 ⟨h.1,h.2.1.keep (j.block _ h.2.1.lt.2),h.2.2.keep (j.block _ h.2.2.lt.2)⟩
theorem apL {cs:Array Bool}{q:Nat}{l r:List Int}(M:Two w B p n c q m d l r)(hg:blk w g 2 [iv x])(O:B≤w.heap.size)(hn:n≤1000)(h:∀u j w',Two w' B u (n+1) j q m d (l++[x]) r→(∀k,k<w.heap.size→k≠p→w'.heap[k]? = w.heap[k]?)→Below B w w'→K (.slice (some ⟨u,0,none⟩) (n+1) j) w'):blt Tryz.prog .append #[247,247] E cs #[.slice (some ⟨p,0,none⟩) n c,.slice (some ⟨g,0,none⟩) 1 1] K w:=by
 obtain⟨C,hl,I⟩:=M;refine ap1 hl hg O hn fun u j w' ho hp J U=>h u j w' ⟨?_,ho,I.keep (J q I.lt.2 (Ne.symm C))⟩ J U
 have:=I.lt
 rcases hp with rfl|rfl<;>omega
theorem apR {cs:Array Bool}{q:Nat}{l r:List Int}(M:Two w B p n c q m d l r)(hg:blk w g 2 [iv x])(O:B≤w.heap.size)(hn:m≤1000)(h:∀u j w',Two w' B p n c u (m+1) j l (r++[x])→(∀k,k<w.heap.size→k≠q→w'.heap[k]? = w.heap[k]?)→Below B w w'→K (.slice (some ⟨u,0,none⟩) (m+1) j) w'):blt Tryz.prog .append #[247,247] E cs #[.slice (some ⟨q,0,none⟩) m d,.slice (some ⟨g,0,none⟩) 1 1] K w:=by
 obtain⟨I,C,hr⟩:=M;refine ap1 hr hg O hn fun u j w' ho hp J U=>h u j w' ⟨?_,C.keep (J p C.lt.2 I),ho⟩ J U
 have:=C.lt
 rcases hp with rfl|rfl<;>omega
theorem IN {q:Nat}{A:List Int}(hA:RtA w b o E cs A)(aa:b<B)(hB:B≤w.heap.size)(hk:k<6)(h2:Two w B p 1 1 q 2 2 (re A k 0) (inL A k 0))(h:∀w',Below B w w'→K (.tuple #[iv (pk A k).1,.bool (pk A k).2]) w')(e0:Y5=.pointer (some ⟨b,o,none⟩))(e1:Z5=.int .i64 (k:Nat))(e2:K6=.slice (some ⟨p,0,none⟩) 1 1)(e3:W6=.slice (some ⟨q,0,none⟩) 2 2)(e4:Y6=.int .i64 0):oo K ((oL Y5 Z5 K6 W6 X6 Y6 Z6 zf)) w:=by
 subst e0 e1 e2 e3 e4;refine Gx (Inv:=fun a c i wr=>∃(j p q c1 d1:Nat),j≤6∧a=.slice (some ⟨p,0,none⟩) (1+j) c1∧c=.slice (some ⟨q,0,none⟩) (2+j) d1∧i=.int .i64 (j:Nat)∧Two wr B p (1+j) c1 q (2+j) d1 (re A k j) (inL A k j)∧Below B w wr)
  (μ:=fun _ _ i _=>6-(intOf i).toNat) ⟨0,p,q,1,2,by omega,rfl,rfl,rfl,h2,Below.refl _ _⟩ ?_
 rintro _ _ _ dd J m ⟨j,p1,q1,c1,d1,hj,rfl,rfl,rfl,ht,U⟩ hm;have C:RtA J b o E cs A:=hA.below U aa;have ap:B≤J.heap.size:=Nat.le_trans hB U.size;refine aM ?_;by_cases az:j<6
 ·refine ax (by omega) ?_;have af:∀{p2 q2 c2 d2:Nat} {w2:World},Two w2 B p2 (1+j+1) c2 q2 (2+j+1) d2 (re A k j++[nA A (18+6*k+j)]) (inL A k j++[nA A (18+6*j+k)])→Below B J w2 →
    (∃(j' p q c1 d1:Nat),j'≤6∧Value.slice (some ⟨p2,0,none⟩) (1+j+1) c2=.slice (some ⟨p,0,none⟩) (1+j') c1∧Value.slice (some ⟨q2,0,none⟩) (2+j+1) d2=.slice (some ⟨q,0,none⟩) (2+j') d1∧Value.int .i64 ((j:Int)+1)=.int .i64 (j':Nat)∧Two w2 B p (1+j') c1 q (2+j') d1 (re A k j') (inL A k j')∧Below B w w2) ∧
     6-(intOf (.int .i64 ((j:Int)+1))).toNat<m:=by
   intro p2 q2 c2 d2 w2 av ar;refine⟨⟨j+1,p2,q2,c2,d2,by omega,rfl,rfl,by simp,?_,U.trans ar⟩,by rw[hm];simp[intOf];omega⟩;rw[PZ,Rp];exact av
  have sB:∀{wa wb:World},B≤wa.heap.size→Below wa.heap.size wa wb→Below B wa wb:=fun h hb=>hb.mono h
  refine aw (fun x=>RtA x b o E cs A) ⟨C.bk.drew,C.cut,C.len⟩ <|ab (fun x I _=>ai) <|ab (fun x I _=>aK (off:=18) (by kernel_rfl)) <|ab (fun x I _=>eO underlying48 (s:=6) (fun _=>by kernel_rfl) (by omega) (by omega)) <|ab (fun x I _=>eO underlying47 (s:=1) (fun _=>by kernel_rfl) (by omega) (by omega)) <|ab (v:=iv (nA A (18+6*k+j))) (fun x I _=>lK I.bk (by rw[←I.get (i:=18+6*k+j) (by omega)];congr 1;simp;omega)) <|ab (fun x I _=>ai) <|ab (fun x I _=>aK (off:=18) (by kernel_rfl)) <|ab (fun x I _=>eO underlying48 (s:=6) (fun _=>by kernel_rfl) (by omega) (by omega)) <|ab (fun x I _=>eO underlying47 (s:=1) (fun _=>by kernel_rfl) (by omega) (by omega)) <|ab (v:=iv (nA A (18+6*j+k))) (fun x I _=>lK I.bk (by rw[←I.get (i:=18+6*j+k) (by omega)];congr 1;simp;omega)) ?_
  have am:Two J.drew B p1 (1+j) c1 q1 (2+j) d1 (re A k j) (inL A k j):=ht;have O:B≤J.drew.heap.size:=ap;have al:RtA J.drew b o E cs A:=⟨C.bk.drew,C.cut,C.len⟩
  have b0:Below B J J.drew:=(Below.refl B J).drew;generalize J.drew=w2 at *;refine⟨?_,?_⟩
  ·refine bl1 fun w3 g3 b3 s3=>?_;have t3:=am.bel b3;have B3:B≤w3.heap.size:=by omega
   have ad:=b0.trans (sB O b3);refine bR (al.below (sB O b3) aa) ?_;refine⟨?_,?_⟩
   ·refine apL t3 g3 B3 (by omega) fun p4 c4 w4 t4 k4 M=>?_;refine bR ((al.below (sB O b3) aa).below M aa) ?_;refine bl1 fun w5 g5 b5 s5=>?_;have B4:=Nat.le_trans B3 M.size;refine aw (fun _=>True) trivial ?_;refine apR (t4.bel b5) g5 (by omega) (by omega) fun q6 d6 w6 t6 k6 b6=>?_;refine aw (fun _=>True) trivial <|aW (by omega) (by omega) ?_
    exact af t6 (((ad.trans M).trans (sB B4 b5)).trans b6)
   ·refine bl1 fun w4 g4 M s4=>?_;refine aw (fun _=>True) trivial ?_;have ag:blk w4 w2.heap.size 2 [iv (nA A (18+6*k+j))]:=ac M g3 (by omega);refine apL (t3.bel M) ag (by omega) (by omega) fun p5 c5 w5 t5 k5 b5=>?_;refine aw (fun _=>True) trivial ?_;have an:blk w5 w3.heap.size 2 [iv (nA A (18+6*j+k))]:=by
     unfold blk;rw[k5 _ (by omega) (by have:=t3.2.1.lt;omega)];exact g4
    refine apR t5 an (by have:=b5.size;omega) (by omega) fun q6 d6 w6 t6 k6 b6=>?_;refine aw (fun _=>True) trivial <|aW (by omega) (by omega) ?_;exact af t6 (((ad.trans (sB B3 M)).trans b5).trans b6)
  ·refine bl1 fun w3 g3 b3 s3=>?_;have t3:=am.bel b3;have B3:B≤w3.heap.size:=by omega
   have ad:=b0.trans (sB O b3);refine bR (al.below (sB O b3) aa) ?_;refine bl1 fun w4 g4 M s4=>?_;refine aw (fun _=>True) trivial ?_;refine apL (t3.bel M) g4 (by omega) (by omega) fun p5 c5 w5 t5 k5 b5=>?_;refine aw (fun _=>True) trivial ?_;have ag:blk w5 w2.heap.size 2 [iv (nA A (18+6*j+k))]:=by
    unfold blk;rw[k5 _ (by omega) (by have:=am.2.1.lt;omega)];exact ac M g3 (by omega)
   refine apR t5 ag (by have:=b5.size;omega) (by omega) fun q6 d6 w6 t6 k6 b6=>?_;refine aw (fun _=>True) trivial <|aW (by omega) (by omega) ?_;exact af t6 (((ad.trans (sB B3 M)).trans b5).trans b6)
 ·obtain rfl:j=6:=by omega
  refine aq (by omega) <|Gy <|BK ht.2.1.rv (by omega) <|cZ <|db <|BK ht.2.2.rv (by omega) <|cZ <|db ?_;have bd:∀l:List Int,l.length≤8→0≤(mB l).1∧(mB l).1≤9007199254740992:=by
   intro l hl;unfold mB;cases hq:l.all okA with
   | false=>simp
   | true =>
    have:=DV hq
    simp only[MXA]at this;simp only;omega
  have h1:=bd (re A k 6) (by rw[RY];omega);have h3:=bd (inL A k 6) (by rw[Tt];omega);unfold iv at *;refine bh (by omega) (by omega) ?_;have hl:pk A k=((mB (inL A k 6)).1-(mB (re A k 6)).1,(mB (re A k 6)).2&&(mB (inL A k 6)).2):=rfl;cases hq:(mB (re A k 6)).2 with
  | true =>
   refine kS <|bX ?_;rw[hl,hq]at h;exact h J U
  | false =>
   refine mE <|dA ?_;rw[hl,hq]at h;exact h J U
theorem NL {A:List Int}(C:RtA w b o E cs A)(hk:k<6)(h:∀w',Below w.heap.size w w'→K (.tuple #[iv (pk A k).1,.bool (pk A k).2]) w'):call Tryz.prog 104 #[.pointer (some ⟨b,o,none⟩),.int .i64 (k:Nat)] K w:=by
 have I:=C.bk.lt;refine aj (goK func104) (Je ?_)
 refine aw (fun x=>RtA x b o E cs A) ⟨C.bk.drew,C.cut,C.len⟩ <|ab (fun x u _=>ai) <|ab (fun x u _=>aK (off:=6) (by kernel_rfl)) <|ab (fun x u _=>eO underlying47 (s:=1) (fun _=>by kernel_rfl) (by omega) (by omega)) <|ab (v:=iv (nA A (6+k))) (fun x u _=>lK u.bk (by rw[←u.get (i:=6+k) (by omega)];congr 1;simp;omega)) <|ab (fun x u _=>ai) <|ab (fun x u _=>aK (off:=0) (by kernel_rfl)) <|ab (fun x u _=>eO underlying47 (s:=1) (fun _=>by kernel_rfl) (by omega) (by omega)) <|ab (v:=iv (nA A k)) (fun x u _=>lK u.bk (by rw[←u.get (i:=k) (by omega)];congr 1;simp)) <|ab (fun x u _=>ai) <|ab (fun x u _=>aK (off:=12) (by kernel_rfl)) <|ab (fun x u _=>eO underlying47 (s:=1) (fun _=>by kernel_rfl) (by omega) (by omega)) <|ab (v:=iv (nA A (12+k))) (fun x u _=>lK u.bk (by rw[←u.get (i:=12+k) (by omega)];congr 1;simp;omega)) ?_
 have O:RtA w.drew b o E cs A:=⟨C.bk.drew,C.cut,C.len⟩
 have b0:Below w.heap.size w w.drew:=(Below.refl _ w).drew;have s0:w.drew.heap.size=w.heap.size:=rfl;generalize w.drew=w2 at *;have U:∀{p q:Nat} {wz:World},p≠q→blk wz p 2 [iv (nA A (6+k))]→blk wz q 2 [iv (nA A k),iv (nA A (12+k))]→w.heap.size≤p→w.heap.size≤q→Two wz w.heap.size p 1 1 q 2 2 (re A k 0) (inL A k 0) :=
  fun aa hp hq h1 h2=>⟨aa,DQ hp rfl h1 (by simp[maxLen]),DQ hq rfl h2 (by simp[maxLen])⟩
 refine⟨?_,?_⟩
 ·refine bl1 fun w3 g3 J s3=>?_;refine bR (O.below J (by omega)) ?_;refine bl2 fun w4 g4 M s4=>?_;refine bR ((O.below J (by omega)).below M (by omega)) ?_;refine IN ((C.below b0 I).below (J.trans (M.mono (by omega))) (by omega)) I (by omega) hk (U (by omega) (ac M g3 (by omega)) g4 (by omega) (by omega)) (fun w' hb=>h w' ?_) rfl rfl rfl rfl rfl
  exact((b0.trans (J.mono (by omega))).trans (M.mono (by omega))).trans hb
 ·refine bl2 fun w3 g3 J s3=>?_;refine bR (O.below J (by omega)) ?_;refine bl1 fun w4 g4 M s4=>?_;refine aw (fun _=>True) trivial ?_;refine IN ((C.below b0 I).below (J.trans (M.mono (by omega))) (by omega)) I (by omega) hk (U (by omega) g4 (ac M g3 (by omega)) (by omega) (by omega)) (fun w' hb=>h w' ?_) rfl rfl rfl rfl rfl
  exact((b0.trans (J.mono (by omega))).trans (M.mono (by omega))).trans hb
end
section
open Go.RowKit
theorem HQ (h:bin Q .geq 3 false true Y5 (ci 1) (fun A0 w=>aI A0 true (fun u=>bin Q .leq 3 false true Y5 (ci 6) (fun A1=>u [Y5,A1]) w) (fun k=>k [uu,uu] w) fun j=>pick A0 (gd j 1) cF K) w):Gives Q 102 #[Y5] w K:=by
 refine aB func102 (by kernel_rfl) ?_;exact mpK h
def vE (r0 r1 A2 C1 C2 C4 C5 C6 C7 C8 C9 D0 D1 D2 D4 D5 D6 D7 D8 D9 E0 E8 E9:Value)(zf:Nat→Value):List Value:=r0::r1::zT zf 2 6 (A2::zT zf 9 10 (C1::C2::zf 21::zf 22::C4::C5::C6::C7::C8::C9::D0::D1::D2::zf 32::zf 33::D4::D5::D6::D7::D8::D9::E0::zT zf 41 10 (E8::E9::zf 53::[])))
def mS (K:KV):KE:=ae Q (cd f103 [1,1]) (rk f103 K) xf (rk f103 K)
def uI (K:KV):KE:=ae Q (cd f103 [1,0,1,0]) (mS K) (xx xf (mS K) 0) (rk f103 K)
theorem KU (h:box Q 50 Y5 (fun Z5=>uI K (vE Y5 Z5 (ci 0) uu uu uu uu uu uu uu uu uu uu uu uu uu uu uu uu uu uu uu uu (zV zu 2 [cF]))) w):Gives Q 103 #[Y5] w K:=by
 refine aB func103 (by kernel_rfl) ?_;revert h;delta uI mS;exact mpF
theorem Jc (Inv:vI 19)(μ:vM 19)(h0:Inv K6 W6 X6 Y6 Z6 u7 B7 K7 W7 X7 Y7 Z7 B8 K8 W8 X8 Y8 Z8 l9 w)(hs:∀(I M O U aa ad af ag al am an ap ar av az aE aS a0 a2:Value) (dd:Nat→Value) (w:World) (m:Nat),Inv I M O U aa ad af ag al am an ap ar av az aE aS a0 a2 w→m=μ I M O U aa ad af ag al am an ap ar av az aE aS a0 a2 w →
  bin Q .lss 3 false true I (ci 6) (fun A3 w=>cond A3 (call Q 104 #[Z5,I] (fun A6=>ext Q A6 0 fun A7=>ext Q A6 1 fun A8 w=>sti (un Q .not A8) (fun A9 w=>aI A9 false (fun a3=>sti (bin Q .lss 2 false true A7 (ci 0)) (fun X6=>a3 [A7,X6]) w) (fun k=>k [uu,uu] w) fun J=>sti (pick A9 cT (gd J 1)) fun C3 w=>aI C3 false (fun a4=>sF 50 Z5 2 (fun Z6=>sI 47 Z6 I fun u7=>sL 2 u7 fun B7=>sF 50 Z5 1 fun W7=>sI 47 W7 I fun X7=>sL 2 X7 fun Y7=>sti (bin Q .gtr 2 false false B7 Y7) fun Z7=>a4 [I,Z6,u7,B7,I,W7,X7,Y7,Z7]) w) (fun k=>k [uu,uu,uu,uu,uu,uu,uu,uu,uu] w) fun j=>sti (pick C3 cT (gd j 8)) fun D3 w=>aI D3 false (fun a7=>sF 50 Z5 3 (fun W8=>sI 48 W8 I fun X8=>sI 47 X8 I fun Y8=>sL 2 Y8 fun Z8=>sti (bin Q .neq 2 false true Z8 (ci 0)) fun l9=>a7 [I,I,W8,X8,Y8,Z8,l9]) w) (fun k=>k [uu,uu,uu,uu,uu,uu,uu] w) fun u=>sti (pick D3 cT (gd u 6)) fun E1 w=>cond E1 (K cF w) (nC I (fun E2 w=>(Inv E2 (gd J 0) (gd J 1) (gd j 0) (gd j 1) (gd j 2) (gd j 3) (gd j 4) (gd j 5) (gd j 6) (gd j 7) (gd j 8) (gd u 0) (gd u 1) (gd u 2) (gd u 3) (gd u 4) (gd u 5) (gd u 6) w)∧((μ E2 (gd J 0) (gd J 1) (gd j 0) (gd j 1) (gd j 2) (gd j 3) (gd j 4) (gd j 5) (gd j 6) (gd j 7) (gd j 8) (gd u 0) (gd u 1) (gd u 2) (gd u 3) (gd u 4) (gd u 5) (gd u 6) w)<m)) w)) w.drew) w) (mS K (vE Y5 Z5 I M O U aa ad af ag al am an ap ar av az aE aS a0 a2 n9 u9 (zV dd 9 [A3])) w)) w):uI K (vE Y5 Z5 K6 W6 X6 Y6 Z6 u7 B7 K7 W7 X7 Y7 Z7 B8 K8 W8 X8 Y8 Z8 l9 n9 u9 zf) w:=by
 refine aL (cd f103 (b1 52)) (zr [(2,4),(8,35)]) (by kernel_rfl) (vP [8,19,20,23,24,25,26,27,28,29,30,31,34,35,36,37,38,39,40] Inv) (vQ [8,19,20,23,24,25,26,27,28,29,30,31,34,35,36,37,38,39,40] μ) h0 ?_;intro e' w' hI;have h:=hs _ _ _ _ _ _ _ _ _ _ _ _ _ _ _ _ _ _ _ (zM zf (fun i=>gd e' i) (zr [(2,4),(8,35)])) w' _ hI rfl;revert h;generalize (mS K)=qc0;exact mpF
theorem Jd (h:aT Q 50 Z5 0 (fun E3=>slc Q 47 E3 none none none fun E4=>call Q 144 #[E4] fun E5=>ext Q E5 0 fun E6=>ext Q E5 1 fun E7 w=>aI E7 true (fun u=>bin Q .leq 2 false true E6 (ci 1125899906842624) (fun u9=>u [E6,u9]) w) (fun k=>k [uu,uu] w) fun j=>pick E7 (gd j 1) cF K) w):mS K (vE Y5 Z5 K6 W6 X6 Y6 Z6 u7 B7 K7 W7 X7 Y7 Z7 B8 K8 W8 X8 Y8 Z8 l9 n9 u9 zf) w:=by
 delta mS;exact mpK h
attribute [irreducible] mS uI
theorem Jb (h:box Q 50 Y5 (fun C=>call Q 102 #[Z5] fun A2=>un Q .not A2 fun A3 w=>aI A3 false (fun u=>ld Q 50 C (fun A4=>call Q 103 #[A4] fun A5=>un Q .not A5 fun A6=>u [A4,A5,A6]) w) (fun k=>k [uu,uu,uu] w) fun j=>pick A3 cT (gd j 2) fun A7 w=>cond A7 (K (ci 0) w) (bin Q .sub 3 false true Z5 (ci 1) (fun A9=>call Q 104 #[C,A9] fun C0=>ext Q C0 0 fun C1=>ext Q C0 1 fun _=>K C1) w)) w):Gives Q 63 #[Y5,Z5] w K:=by
 refine aB func63 (by kernel_rfl) ?_;exact mpK h
end
section
attribute [local irreducible] bin un conv call bY blt slc aT fld aV idx lkp dO gY eSt rng nxt ent ext alc box bld bT ld sto aU dE mkS ifc pick rdy wts aI sti cond bp Gives ae fh fT cOp
open Go.RowKit
def okM (A:List Int)(k:Nat):Bool:=(pk A k).2&&decide (0≤(pk A k).1)&&decide (nA A (12+k)≤nA A (6+k))&&decide (nA A (18+6*k+k)=0)
theorem NN (A:List Int):yD A=((List.range 6).all (okM A)&&((mB (gL A)).2&&decide ((mB (gL A)).1≤MXA))):=rfl
theorem RJ {A:List Int}(j:k<6)(h:okM A k=false):yD A=false:=by
 rw[NN]
 have:(List.range 6).all (okM A)=false:=by
  cases u:(List.range 6).all (okM A)with
  | false=>rfl
  | true=>have:=List.all_eq_true.1 u k (by simpa using j);rw[this]at h;cases h
 rw[this];rfl
theorem PO {A:List Int}(h:∀j,j<6→okM A j=true):yD A=((mB (gL A)).2&&decide ((mB (gL A)).1≤MXA)):=by
 rw[NN]
 have:(List.range 6).all (okM A)=true:=List.all_eq_true.2 fun k u=>h k (by simpa using u)
 rw[this];rfl
theorem Qs {P:Program}(C:P.underlying t=some (.array n e))(u:∀w,(sizeOf e).run P w=.ok s w)(h:K (.slice (some ⟨b,o,none⟩) n n) w):slc P t (.pointer (some ⟨b,o,none⟩)) none none none K w:=by
 unfold slc;refine gZ (w':=w) ?_ h;simp only[Instr.sliceAt,Instr.sureAddr,Instr.sliceBounds,Sem.run_bind,Sem.run_pure,Result.andThen_ok,run_underlying C,u];by_cases j:n=0<;>simp[j,Addr.add]
theorem RtA.rvG {A:List Int}(h:RtA w b 0 E cs A):RV w (some ⟨b,0,none⟩) 6 6 ((gL A).map iv) :=
 ⟨by simp[gL],Nat.le_refl _,fun _=>⟨b,0,rfl⟩,(fun h=>by cases h),fun i v j=>by
  have hi:i<6:=by have:=(List.getElem?_eq_some_iff.1 j).1;simpa[gL]using this
  rw[show vL (some ⟨b,0,none⟩) i=⟨b,0+i,none⟩from rfl,h.bk.cell,h.get (by omega)];rw[←j];simp[gL,hi]⟩
theorem AE {i:Int}(h:K (.bool (bK i)) w):call Tryz.prog 102 #[.int .i64 i] K w:=by
 refine aj (goK func102) (HQ ?_);unfold bK at h;refine bM ?_;by_cases j:i≥1
 ·refine dD j <|fU <|bO j ?_;rw[show decide (1≤i)=true from decide_eq_true j,Bool.true_and]at h;exact h
 ·refine dY j <|bw j ?_;rw[show decide (1≤i)=false from decide_eq_false j,Bool.false_and]at h;exact h
theorem Ql {A:List Int}(hA:A.length=54)(h:∀w',Below w.heap.size w w'→K (.bool (yD A)) w'):call Tryz.prog 103 #[.agg (A.map iv).toArray] K w:=by
 refine aj (goK func103) (KU ?_);refine cv fun U hb b1 s1=>?_;have hb:blk U w.heap.size 50 (A.map iv):=by simpa[Value.cells]using hb
 have hR:RtA U w.heap.size 0 50 (A.map iv) A:=⟨hb,by rw[List.drop_zero,List.take_of_length_le (by simp[hA])],hA⟩
 have aa:=hb.lt;refine Jc (Inv:=fun i _ _ _ _ _ _ _ _ _ _ _ _ _ _ _ _ _ _ wr=>∃k:Nat,i=.int .i64 (k:Nat)∧k≤6∧Below U.heap.size U wr∧∀j,j<k→okM A j=true)
  (μ:=fun i _ _ _ _ _ _ _ _ _ _ _ _ _ _ _ _ _ _ _=>6-(intOf i).toNat) ⟨0,rfl,by omega,Below.refl _ _,fun j hj=>by omega⟩ ?_
 rintro _ _ _ _ _ _ _ _ _ _ _ _ _ _ _ _ _ _ _ dd w2 m ⟨k,rfl,ag,b2,J⟩ hm;have M:=hR.below b2 aa;have ad:=b2.size;refine aM ?_;by_cases hk:k<6
 ·refine ax (by omega) ?_;refine NL M hk fun w3 b3=>?_;refine cZ <|db ?_;have I:RtA w3.drew w.heap.size 0 50 (A.map iv) A:=by have:=M.below b3 (by omega);exact⟨this.bk.drew,this.cut,this.len⟩
  have hB:Below U.heap.size U w3.drew:=(b2.trans (b3.mono ad)).drew;have no:okM A k=false→K (.bool false) w3.drew:=fun O=>by
   have:=h w3.drew (b1.trans (hB.mono (by omega)))
   rw[RJ hk O]at this;exact this
  generalize w3.drew=w4 at *;cases O:(pk A k).2 with
  | false =>
   refine aH (fun _=>dB) <|fV <|aH (fun _=>bX) <|fV <|aH (fun _=>bX) <|fV <|aH (fun _=>bX) <|bu ?_;exact no (by unfold okM;rw[O];rfl)
  | true =>
   refine aH (fun _=>dB) <|lR ?_;unfold iv;refine aH (fun _=>aM) <|aH (fun _=>dA) ?_;by_cases h0:(pk A k).1<0
   ·refine jy h0 <|aH (fun _=>bO h0) <|fV <|aH (fun _=>bX) <|bu <|no ?_;unfold okM;rw[show decide (0≤(pk A k).1)=false from decide_eq_false (by omega)];simp
   ·refine dX h0 <|aH (fun _=>aK (off:=12) (by kernel_rfl)) <|aH (fun _=>eO underlying47 (s:=1) (fun _=>by kernel_rfl) (by omega) (by omega)) <|aH (v:=iv (nA A (12+k))) (fun _=>lK I.bk (by rw[←I.get (i:=12+k) (by omega)];congr 1;simp)) <|aH (fun _=>aK (off:=6) (by kernel_rfl)) <|aH (fun _=>eO underlying47 (s:=1) (fun _=>by kernel_rfl) (by omega) (by omega)) <|aH (v:=iv (nA A (6+k))) (fun _=>lK I.bk (by rw[←I.get (i:=6+k) (by omega)];congr 1;simp)) ?_
    unfold iv;refine aH (fun _=>de) <|aH (fun _=>bw h0) ?_;by_cases h1:nA A (6+k)<nA A (12+k)
    ·refine jy h1 <|aH (fun _=>bO h1) <|bu <|no ?_;unfold okM;rw[show decide (nA A (12+k)≤nA A (6+k))=false from decide_eq_false (by omega)];simp
    ·refine dX h1 <|aH (fun _=>aK (off:=18) (by kernel_rfl)) <|aH (fun _=>eO underlying48 (s:=6) (fun _=>by kernel_rfl) (by omega) (by omega)) <|aH (fun _=>eO underlying47 (s:=1) (fun _=>by kernel_rfl) (by omega) (by omega)) <|aH (v:=iv (nA A (18+6*k+k))) (fun _=>lK I.bk (by rw[←I.get (i:=18+6*k+k) (by omega)];congr 1;simp;omega)) ?_;unfold iv;refine aH (fun _=>bN) <|aH (fun _=>bw h1) ?_
     by_cases h2:nA A (18+6*k+k)≠0
     ·refine ax h2 <|no ?_;unfold okM;rw[show decide (nA A (18+6*k+k)=0)=false from decide_eq_false h2];simp
     ·refine aq h2 <|aW (by omega) (by omega) ?_;refine⟨⟨k+1,by simp,by omega,hB,fun j hj=>?_⟩,by rw[hm];simp[intOf];omega⟩;by_cases af:j=k
      ·subst af;unfold okM;rw[O,decide_eq_true (by omega:0≤(pk A j).1),decide_eq_true (by omega:nA A (12+j)≤nA A (6+j)),decide_eq_true (Classical.not_not.1 h2)];rfl
      ·exact J j (by omega)
 ·refine aq (by omega) ?_;obtain rfl:k=6:=by omega
  refine Jd <|aK (off:=0) (by kernel_rfl) <|Qs underlying47 (s:=1) (fun _=>by kernel_rfl) <|BK (l:=gL A) M.rvG (by omega) <|cZ <|db ?_;have C:=h w2 (b1.trans (b2.mono (by omega)));rw[PO J]at C;cases O:(mB (gL A)).2 with
  | false =>
   refine mE <|dA ?_;rw[O]at C;exact C
  | true =>
   refine kS ?_;unfold iv;refine fU <|bX ?_;rw[O]at C;exact C
theorem MF {A:List Int}{i:Int}(j:A.length=54)(h:∀w',Below w.heap.size w w'→K (iv (if bK i then JA A (i-1).toNat else 0)) w'):call Tryz.prog 63 #[.agg (A.map iv).toArray,.int .i64 i] K w:=by
 refine aj (goK func63) (Jb ?_);refine cv fun I u b1 s1=>?_;have u:blk I w.heap.size 50 (A.map iv):=by simpa[Value.cells]using u
 have O:RtA I w.heap.size 0 50 (A.map iv) A:=⟨u,by rw[List.drop_zero,List.take_of_length_le (by simp[j])],j⟩
 refine AE <|dB ?_;cases C:bK i with
 | false =>
  refine fV <|bX <|bu ?_;rw[C]at h;exact h I b1
 | true =>
  have hi:1≤i∧i≤6:=by simpa[bK]using C
  refine lR <|ldA (n:=54) (vs:=A.map iv) underlying50 rfl (by kernel_rfl) u (by rw[List.drop_zero,List.take_of_length_le (by simp[j])]) (by simp[j]) ?_;refine Ql j fun w2 b2=>?_;refine dB <|dA ?_;rw[C,if_pos rfl]at h;cases J:yD A with
  | false =>
   refine bu ?_
   have:=h w2 (b1.trans (b2.mono (by omega)))
   unfold JA at this;rw[J]at this;exact this
  | true =>
   refine aO <|bh (by omega) (by omega) ?_;have U:i-1=(((i-1).toNat:Nat):Int):=by omega
   rw[U];refine NL (O.below b2 u.lt) (by omega) fun w3 M=>?_;refine cZ <|db ?_
   have:=h w3 (b1.trans ((b2.mono (by omega)).trans (M.mono (by have:=b2.size;omega))))
   unfold JA at this;rw[J]at this;exact this
end
section
open Go.RowKit
end
section
attribute [local irreducible] bin un conv call bY blt slc aT fld aV idx lkp dO gY eSt rng nxt ent ext alc box bld bT ld sto aU dE mkS ifc pick rdy wts aI sti cond bp Gives ae fh fT cOp
open Go.RowKit
end
section
open Go.RowKit
def kM (s0 s1 l2 A1 A2 A5 A6 A7 A8 A9:Value)(zf:Nat→Value):List Value:=s0::s1::l2::zT zf 3 3 (A1::A2::zT zf 8 5 (A5::A6::A7::A8::A9::zT zf 18 8 ([])))
def iq (K:KV):KE:=ae Q (cd f29 [1,1]) (rk f29 K) xf (rk f29 K)
def tj (K:KV):KE:=ae Q (cd f29 [1,0,1,0]) (iq K) (xx xf (iq K) 0) (rk f29 K)
def lU (K:KV)(B1:KE):KE:=ae Q (cd f29 (b1 423)) B1 (xx xf (iq K) 0) (rk f29 K)
def qD (K:KV)(B1:KE):KE:=ae Q (cd f29 (b1 422)) (lU K B1) (xx xf (iq K) 0) (rk f29 K)
theorem JG (h:box Q 45 Y5 (fun Z5=>aT Q 45 Z5 0 fun A0=>ld Q 41 A0 fun W6=>tj K (kM Y5 Z5 cN W6 (ci 0) uu uu uu uu uu (zV zu 5 [A0]))) w):Gives Q 29 #[Y5] w K:=by
 refine aB func29 (by kernel_rfl) ?_;revert h;delta tj iq;exact mpF
theorem Hx (Inv:vI 7)(μ:vM 7)(h0:Inv K6 X6 Y6 Z6 u7 B7 K7 w)(hs:∀(l2' A2' A5' A6' A7' A8' A9':Value) (dd:Nat→Value) (w:World) (m:Nat),Inv l2' A2' A5' A6' A7' A8' A9' w→m=μ l2' A2' A5' A6' A7' A8' A9' w →
  bin Q .lss 3 false true A2' (ci 6) (fun A3 w=>cond A3 (qD K (fun e2 w2=>(Inv (gd e2 2) (gd e2 7) (gd e2 13) (gd e2 14) (gd e2 15) (gd e2 16) (gd e2 17) w2)∧((μ (gd e2 2) (gd e2 7) (gd e2 13) (gd e2 14) (gd e2 15) (gd e2 16) (gd e2 17) w2)<m)) (kM Y5 Z5 l2' W6 A2' A5' A6' A7' A8' A9' (zV dd 8 [A3])) w) (iq K (kM Y5 Z5 l2' W6 A2' A5' A6' A7' A8' A9' (zV dd 8 [A3])) w)) w):tj K (kM Y5 Z5 K6 W6 X6 Y6 Z6 u7 B7 K7 zf) w:=by
 refine aL (cd f29 (b1 52)) (zr [(2,3),(7,18)]) (by kernel_rfl) (vP [2,7,13,14,15,16,17] Inv) (vQ [2,7,13,14,15,16,17] μ) h0 ?_
 intro e' w' hI
 have h:=hs _ _ _ _ _ _ _ (zM zf (fun i=>gd e' i) (zr [(2,3),(7,18)])) w' _ hI rfl
 refine Eq.mp (congrArg (fun c=>ae Q c _ _ _ _ w') (by kernel_rfl:(rep [1,1,0] (cd f29 (b1 422)) (cd f29 (b1 52)))=(cd f29 (b1 52)))) ?_
 revert h
 delta qD lU
 generalize (cd f29 (b1 422))=xc0
 generalize (iq K)=qc0
 exact mpF
theorem Hw (h:idx Q 41 W6 X6 (fun A4 w=>aI A4 true (fun u=>aT Q 45 Z5 1 (fun Z6=>aV Q 41 Z6 X6 fun u7=>ld Q 4 u7 fun B7=>un Q .not B7 fun K7=>u [X6,Z6,u7,B7,K7]) w) (fun k=>k [uu,uu,uu,uu,uu] w) fun j=>pick A4 (gd j 4) cF fun C0 w=>cond C0 (nC X6 (fun C1=>bT Q 96 1 #[(0,C1)] fun C2=>blt Q .append #[96,96] 96 #[false,false] #[K6,C2] fun C3=>lU K B1 (kM Y5 Z5 C3 W6 X6 (gd j 0) (gd j 1) (gd j 2) (gd j 3) (gd j 4) (zV (zV (zV zf 3 [X6,A4]) 9 [X6,A4,A4,A4]) 18 [C0,K6,X6,C1,C2,C3]))) w) (lU K B1 (kM Y5 Z5 K6 W6 X6 (gd j 0) (gd j 1) (gd j 2) (gd j 3) (gd j 4) (zV (zV (zV zf 3 [X6,A4]) 9 [X6,A4,A4,A4]) 18 [C0])) w)) w):qD K B1 (kM Y5 Z5 K6 W6 X6 Y6 Z6 u7 B7 K7 zf) w:=by
 delta qD;revert h;generalize (lU K B1)=qc0;generalize (iq K)=qc1;exact mpF
theorem Hy (h:K K6 w):iq K (kM Y5 Z5 K6 W6 X6 Y6 Z6 u7 B7 K7 zf) w:=by
 delta iq;exact mpK h
theorem uQ (h:nC X6 (fun C4=>B1 (kM Y5 Z5 K6 W6 C4 Y6 Z6 u7 B7 K7 (zV zf 24 [C4]))) w):lU K B1 (kM Y5 Z5 K6 W6 X6 Y6 Z6 u7 B7 K7 zf) w:=by
 delta lU;revert h;generalize (iq K)=qc0;exact mpF
attribute [irreducible] iq tj lU qD
end
section
attribute [local irreducible] bin un conv call bY blt slc aT fld aV idx lkp dO gY eSt rng nxt ent ext alc box bld bT ld sto aU dE mkS ifc pick rdy wts aI sti cond bp Gives ae fh fT cOp
open Go.RowKit
def ndC (x:ND):List Value:=.int .u64 x.id::.int .u64 x.par::x.A.map iv
theorem TG {x:ND}(h:x.A.length=54):(ndC x).length=56:=by simp[ndC,h]
structure NR (w:World) (a:Option Addr) (n c:Nat) (L:List ND):Prop where
 len:L.length=n
 cap:n≤c
 some_:0<n→∃b o,a=some ⟨b,o,none⟩
 A54:∀x∈L,x.A.length=54
 cell:∀(i:Nat) (x:ND),L[i]? = some x→∀b o,a=some ⟨b,o,none⟩→∀(j:Nat) (u:Value),(ndC x)[j]? = some u→w.cell? ⟨b,o+i*56+j,none⟩=some u
theorem NR.bel {L:List ND}(h:NR w a n c L)(M:Below B w w')(I:w.heap.size≤B):NR w' a n c L :=
 ⟨h.len,h.cap,h.some_,h.A54,fun i x U b o J j u O=>by
  have:=h.cell i x U b o J j u O
  have C:=World.block_lt_of_cell? w _ this;rw[M.cell (p:=⟨b,o+i*56+j,none⟩) (Nat.lt_of_lt_of_le C I)];exact this⟩
structure STA where
 I:List Bool
 L:List Bool
 V:List Int
 nodes:List ND
 na:Option Addr
 nc:Nat
 gv:Value
def saC (s:STA):List Value:=s.I.map .bool++s.L.map .bool++s.V.map (.int .u64)++[.slice s.na s.nodes.length s.nc,s.gv]
structure SK (w:World) (s:STA):Prop where
 i6:s.I.length=6
 l6:s.L.length=6
 v6:s.V.length=6
 nr:NR w s.na s.nodes.length s.nc s.nodes
 few:s.nodes.length≤1000000
 gv:s.gv.oneCell'=true
theorem SK.bel {s:STA}(h:SK w s)(u:Below B w w')(j:w.heap.size≤B):SK w' s:=⟨h.i6,h.l6,h.v6,h.nr.bel u j,h.few,h.gv⟩
theorem OL {s:STA}(h:SK w s)(j:k<6):(saC s)[k]? = some (.bool (s.I.getD k false)):=by
 have:=h.i6
 unfold saC;rw[List.append_assoc,List.append_assoc,List.getElem?_append_left (by simp;omega),List.getElem?_map,List.getElem?_eq_getElem (by omega)];simp[List.getD,show k<s.I.length by omega]
theorem Wk {s:STA}(h:SK w s)(j:k<6):(saC s)[6+k]? = some (.bool (s.L.getD k false)):=by
 have:=h.i6
 have:=h.l6
 unfold saC;rw[List.append_assoc,List.append_assoc,List.getElem?_append_right (by simp;omega),List.getElem?_append_left (by simp;omega),List.getElem?_map];rw[show 6+k-(s.I.map Value.bool).length=k by simp;omega,List.getElem?_eq_getElem (by omega)];simp[List.getD,show k<s.L.length by omega]
theorem uO (h:K (.pointer (some ⟨b,o+0,none⟩)) w):aT Tryz.prog 45 (.pointer (some ⟨b,o,none⟩)) 0 K w:=aK (by kernel_rfl) h
theorem zR (h:K (.pointer (some ⟨b,o+6,none⟩)) w):aT Tryz.prog 45 (.pointer (some ⟨b,o,none⟩)) 1 K w:=aK (by kernel_rfl) h
theorem ot (h:K (.pointer (some ⟨b,o+12,none⟩)) w):aT Tryz.prog 45 (.pointer (some ⟨b,o,none⟩)) 2 K w:=aK (by kernel_rfl) h
theorem jO (h:K (.pointer (some ⟨b,o+18,none⟩)) w):aT Tryz.prog 45 (.pointer (some ⟨b,o,none⟩)) 3 K w:=aK (by kernel_rfl) h
theorem fj (h:K (.pointer (some ⟨b,o+19,none⟩)) w):aT Tryz.prog 45 (.pointer (some ⟨b,o,none⟩)) 4 K w:=aK (by kernel_rfl) h
theorem Vb {L:List ND}{x:ND}(h:NR w a n c L)(I:a=some ⟨b,o,none⟩)(u:L[i]? = some x)(C:K (.agg (ndC x).toArray) w):ld Tryz.prog 52 (.pointer (some ⟨b,o+i*56,none⟩)) K w :=
 IG (run_loadVar_mid w b (o+i*56) 52 (ndC x) _ (fun j v J=>h.cell i x u b o I j v J) underlying52 rfl (by rw[TG (h.A54 x (List.mem_of_getElem? u))];kernel_rfl)) C
end
section
open Go.RowKit
theorem Mk {A:List Int}(h:∀k,k<6→uU A k=true):∀q,q<54→0≤nA A q∧nA A q≤MXA:=by
 have e:∀k,k<6→okA (nA A k)=true∧okA (nA A (6+k))=true∧okA (nA A (12+k))=true∧∀j,j<6→okA (nA A (18+6*k+j))=true:=by
  intro k I
  have:=h k I
  unfold uU at this;simp only[Bool.and_eq_true]at this;exact⟨this.1.1.1.1.1,this.1.1.1.1.2,this.1.1.1.2,fun j C=>List.all_eq_true.1 this.2 j (by simpa using C)⟩
 intro q O;refine nu.1 ?_;by_cases u:q<6
 ·exact(e q u).1
 by_cases J:q<12
 ·have:=(e (q-6) (by omega)).2.1;rwa[show 6+(q-6)=q by omega]at this
 by_cases M:q<18
 ·have:=(e (q-12) (by omega)).2.2.1;rwa[show 12+(q-12)=q by omega]at this
 ·have:=(e ((q-18) / 6) (by omega)).2.2.2 ((q-18)%6) (by omega)
  rwa[show 18+6*((q-18) / 6)+(q-18)%6=q by omega]at this
end
section
attribute [local irreducible] bin un conv call bY blt slc aT fld aV idx lkp dO gY eSt rng nxt ent ext alc box bld bT ld sto aU dE mkS ifc pick rdy wts aI sti cond bp Gives ae fh fT cOp
open Go.RowKit
theorem wW {A:List Int}(h:jj A=true):∀q,q<54→0≤nA A q∧nA A q≤MXA:=by
 unfold jj at h;simp only[Bool.and_eq_true]at h;exact Mk fun k j=>List.all_eq_true.1 h.1.1 k (by simpa using j)
end
section
open Go.RowKit
end
section
attribute [local irreducible] bin un conv call bY blt slc aT fld aV idx lkp dO gY eSt rng nxt ent ext alc box bld bT ld sto aU dE mkS ifc pick rdy wts aI sti cond bp Gives ae fh fT cOp
open Go.RowKit
theorem sx (h:K (.pointer (some ⟨b,o+0,none⟩)) w):aT Tryz.prog 50 (.pointer (some ⟨b,o,none⟩)) 0 K w:=aK (by kernel_rfl) h
theorem wH (h:K (.pointer (some ⟨b,o+6,none⟩)) w):aT Tryz.prog 50 (.pointer (some ⟨b,o,none⟩)) 1 K w:=aK (by kernel_rfl) h
theorem zQ (h:K (.pointer (some ⟨b,o+12,none⟩)) w):aT Tryz.prog 50 (.pointer (some ⟨b,o,none⟩)) 2 K w:=aK (by kernel_rfl) h
theorem Dc (h:K (.pointer (some ⟨b,o+18,none⟩)) w):aT Tryz.prog 50 (.pointer (some ⟨b,o,none⟩)) 3 K w:=aK (by kernel_rfl) h
section
variable {w:World}{K:KV}
theorem vA (A:List Int):∀v∈A.map iv,v.oneCell'=true:=by simp[iv,Value.oneCell']
theorem qF {A:List Int}{q:Nat}(h:q<A.length):(A.map iv)[q]? = some (iv (nA A q)):=by simp[nA,List.getD,h]
structure RV3 (w0 w:World) (A:List Int):Prop where
 r:blk w w0.heap.size 50 (A.map iv)
 t:blk w (w0.heap.size+1) 50 (z54.map iv)
 bel:Below w0.heap.size w0 w
theorem RV3.fresh {A:List Int}(g:RV3 w0 w A)(h:Below w.heap.size w w'):RV3 w0 w' A:=⟨ac h g.r g.r.lt,ac h g.t g.t.lt,g.bel.trans (h.mono g.bel.size)⟩
theorem RV3.no {A:List Int}{e:Int}(g:RV3 w0 w A)(h:∀w',Below w0.heap.size w0 w'→K (.tuple #[.agg (z54.map iv).toArray,.int .i64 e]) w'):bld Tryz.prog 50 #[] (fun t w=>sto Tryz.prog 50 (.pointer (some ⟨w0.heap.size+1,0,none⟩)) t (fun _t w=>bp Tryz.prog [(some 50,.pointer (some ⟨w0.heap.size+1,0,none⟩)),(none,.int .i64 e)] K w) w) w:=by
 refine eT (vs:=z54.map iv) (by kernel_rfl) ?_;exact MA (N:=54) underlying50 rfl (by kernel_rfl) g.t rfl rfl (vA _) fun w' o=>h w' (bG g.bel o (by omega))
theorem RV3.make {A:List Int}{K2:Value→KV}(M:A.length=54)(h:∀w',RV3 w w' A→w'.heap.size=w.heap.size+2→K2 (.pointer (some ⟨w.heap.size,0,none⟩)) (.pointer (some ⟨w.heap.size+1,0,none⟩)) w'):box Tryz.prog 50 (.agg (A.map iv).toArray) (fun r w=>alc Tryz.prog 50 (K2 r) w) w:=by
 refine cv fun C u b1 J=>?_;have u:blk C w.heap.size 50 (A.map iv):=by simpa[Value.cells]using u
 refine dZ (z:=.agg (z54.map iv).toArray) (by kernel_rfl) fun I j b2 O=>?_;have j:blk I C.heap.size 50 (z54.map iv):=by simpa[Value.cells]using j
 rw[J]at j ⊢;exact h I ⟨ac b2 u u.lt,j,b1.trans (b2.mono (by omega))⟩ (by omega)
theorem ixR {i:Int}(hi:i=(k:Nat))(j:k<6)(h:K (.pointer (some ⟨b,o+k,none⟩)) w):aV Tryz.prog 47 (.pointer (some ⟨b,o,none⟩)) (.int .i64 i) K w:=by
 subst hi;exact eO underlying47 (s:=1) (fun _=>by kernel_rfl) (by omega) (by omega) (by rw[Int.toNat_natCast,Nat.mul_one];exact h)
end
theorem RV3.drew {A:List Int}(g:RV3 w0 w A):RV3 w0 w.drew A:=g.fresh (Below.refl _ w).drew
theorem Oy {i:Int}(hi:i=(k:Nat))(j:k<6)(h:K (.pointer (some ⟨b,o+6*k,none⟩)) w):aV Tryz.prog 48 (.pointer (some ⟨b,o,none⟩)) (.int .i64 i) K w:=by
 subst hi;exact eO underlying48 (s:=6) (fun _=>by kernel_rfl) (by omega) (by omega) (by rw[Int.toNat_natCast,Nat.mul_comm];exact h)
end
section
open Go.RowKit
def gH (r0 x1 is2 may3 number4 r5 C0 C4:Value)(zf:Nat→Value):List Value:=r0::x1::is2::may3::number4::r5::zT zf 6 4 (C0::zT zf 11 3 (C4::zT zf 15 32 ([])))
def iG (K:KV):KE:=ae Q (cd f255 [1,1]) (rk f255 K) xf (rk f255 K)
def jH (K:KV):KE:=ae Q (cd f255 [1,0,0,1]) (iG K) (xx xf (iG K) 0) (rk f255 K)
def oT (K:KV):KE:=ae Q (cd f255 (b1 49)) (jH K) (xx xf (iG K) 0) (rk f255 K)
theorem HR {K:KV}{Y5 Z5 K6 W6 X6:Value}{w:World}(h:box Q 50 Y5 (fun Y6=>alc Q 50 fun Z6=>ld Q 50 Y6 fun C5=>call Q 103 #[C5] fun C6=>un Q .not C6 fun C7=>oT K (gH Y5 Z5 K6 W6 X6 Y6 Z6 C7 (zV (zV zu 11 [ci 0]) 15 [C5,C6,C7]))) w):Gives Q 255 #[Y5,Z5,K6,W6,X6] w K:=by
 refine aB func255 (by kernel_rfl) ?_
 refine Eq.mp (congrArg (fun c=>ae Q c _ _ _ _ w) (by kernel_rfl:(rep (b1 49) (cd f255 (b1 49)) (cd f255 []))=(cd f255 []))) ?_
 revert h
 delta oT iG jH
 generalize (cd f255 (b1 49))=xc0
 exact mpF
theorem Fv (h:cond u7 (jH K (gH Y5 Z5 K6 W6 X6 Y6 Z6 u7 zf) w) (bin Q .lss 2 false true Z5 (ci 1) (fun C8 w=>cond C8 (jH K (gH Y5 Z5 K6 W6 X6 Y6 Z6 C8 (zV zf 18 [Z5,C8])) w) (bin Q .gtr 2 false true Z5 (ci 1125899906842624) (fun D0=>jH K (gH Y5 Z5 K6 W6 X6 Y6 Z6 D0 (zV zf 18 [Z5,C8,Z5,D0]))) w)) w)):oT K (gH Y5 Z5 K6 W6 X6 Y6 Z6 u7 zf) w:=by
 delta oT;revert h;generalize (jH K)=qc0;generalize (iG K)=qc1;exact mpF
theorem sT (h:cond u7 (bld Q 50 #[] (fun D1=>sto Q 50 Z6 D1 fun _=>bp Q [(some 50,Z6),(none,ci 1)] K) w) (un Q .not K6 (fun D2 w=>cond D2 (bld Q 50 #[] (fun D3=>sto Q 50 Z6 D3 fun _=>bp Q [(some 50,Z6),(none,ci 10)] K) w) (iG K (gH Y5 Z5 K6 W6 X6 Y6 Z6 u7 (zV zf 23 [D2,K6,D2])) w)) w)):jH K (gH Y5 Z5 K6 W6 X6 Y6 Z6 u7 zf) w:=by
 delta jH;revert h;generalize (iG K)=qc0;exact mpF
theorem Fw (h:bY Q W6 #[] (fun D4=>bin Q .neq 27 false true D4 (ci 0) fun D5 w=>cond D5 (bld Q 50 #[] (fun D6=>sto Q 50 Z6 D6 fun _=>bp Q [(some 50,Z6),(none,D4)] K) w) (bY Q X6 #[Y6] (fun D7=>aU D7 fun D8=>ld Q 2 D8 fun D9=>bin Q .add 2 false false D9 Z5 fun E0=>aU D7 fun E1=>sto Q 2 E1 E0 fun _=>aU D7 fun E2=>ld Q 2 E2 fun E3=>bin Q .gtr 2 false true E3 (ci 1125899906842624) fun E4 w=>cond E4 (bld Q 50 #[] (fun E5=>sto Q 50 Z6 E5 fun _=>bp Q [(some 50,Z6),(none,ci 6)] K) w) (ld Q 50 Y6 (fun E6=>sto Q 50 Z6 E6 fun _=>bp Q [(some 50,Z6),(none,ci 0)] K) w)) w)) w):iG K (gH Y5 Z5 K6 W6 X6 Y6 Z6 u7 zf) w:=by
 delta iG;exact mpK h
attribute [irreducible] iG jH oT
theorem JU (h:cond Y5 (K Z5 w) (K (ci 0) w)):Gives Q 257 #[Y5,Z5] w K:=by
 refine aB func257 (by kernel_rfl) ?_;exact mpK h
theorem JT (h:box Q 50 Y5 (fun u=>box Q 3 Z5 fun j=>box Q 2 K6 fun C=>alc Q 50 fun A6 w=>aG (fun S w=>hL S 50 u fun A8=>hL S 2 C fun A9=>hL S 3 j fun C0=>call Q 102 #[C0] (fun C1=>aY S fun _=>call Q 255 #[A8,A9,C1,Value.func (Fn.func 256) #[] #[C,u,j],Value.func (Fn.func 258) #[] #[j]] fun C4=>aG fun S w=>hld S (ext Q C4 0) fun C5=>hld S (ext Q C4 1) fun C6=>sto Q 50 A6 C5 (fun _=>aG fun _=>bp Q [(some 50,A6),(none,C6)] K) w) w) w.drew) w):Gives Q 243 #[Y5,Z5,K6] w K:=by
 refine aB func243 (by kernel_rfl) ?_;exact mpK h
theorem HO (h:aG (fun S w=>hL S 2 Y5 fun A4=>hL S 50 Z5 fun A5=>hL S 3 K6 fun A6=>call Q 63 #[A5,A6] (fun A7=>aY S fun S w=>hld S (bin Q .gtr 2 false false A4 A7) fun A8=>call Q 257 #[A8,ci 11] (fun A9=>aG fun _=>K A9) w) w) w.drew):Gives Q 256 #[Y5,Z5,K6] w K:=by
 refine aB func256 (by kernel_rfl) ?_;exact mpK h
theorem HP (h:sL 3 Z5 (fun A5=>sti (bin Q .sub 3 false true A5 (ci 1)) fun A6=>sN Y5 fun A7=>sF 50 A7 1 fun A8=>sI 47 A8 A6 K) w.drew):Gives Q 258 #[Y5,Z5] w K:=by
 refine aB func258 (by kernel_rfl) ?_;exact mpK h
theorem JR (h:box Q 50 Y5 (fun u=>box Q 3 Z5 fun j=>box Q 2 K6 fun C=>alc Q 50 fun A6 w=>aG (fun S w=>hL S 50 u fun A8=>hL S 2 C fun A9=>hL S 3 j fun C0=>call Q 102 #[C0] (fun C1=>aY S fun _=>call Q 255 #[A8,A9,C1,Value.func (Fn.func 259) #[] #[C,u,j],Value.func (Fn.func 260) #[] #[j]] fun C4=>aG fun S w=>hld S (ext Q C4 0) fun C5=>hld S (ext Q C4 1) fun C6=>sto Q 50 A6 C5 (fun _=>aG fun _=>bp Q [(some 50,A6),(none,C6)] K) w) w) w.drew) w):Gives Q 246 #[Y5,Z5,K6] w K:=by
 refine aB func246 (by kernel_rfl) ?_;exact mpK h
theorem HJ (h:aG (fun S w=>hL S 2 Y5 fun A4=>hL S 3 K6 fun A5=>hld (fun _=>True) (bin Q .sub 3 false true A5 (ci 1)) fun A6=>hF S 50 Z5 1 fun A7=>hI S 47 A7 A6 fun A8=>hL S 2 A8 fun A9=>hL S 3 K6 fun C0=>hld (fun _=>True) (bin Q .sub 3 false true C0 (ci 1)) fun C1=>hF S 50 Z5 2 fun C2=>hI S 47 C2 C1 fun C3=>hL S 2 C3 fun C4=>hld (fun _=>True) (bin Q .sub 2 false false A9 C4) fun C5=>hld S (bin Q .gtr 2 false false A4 C5) fun C6=>call Q 257 #[C6,ci 12] (fun C7=>aG fun _=>K C7) w) w.drew):Gives Q 259 #[Y5,Z5,K6] w K:=by
 refine aB func259 (by kernel_rfl) ?_;exact mpK h
theorem HK (h:sL 3 Z5 (fun A5=>sti (bin Q .sub 3 false true A5 (ci 1)) fun A6=>sN Y5 fun A7=>sF 50 A7 2 fun A8=>sI 47 A8 A6 K) w.drew):Gives Q 260 #[Y5,Z5] w K:=by
 refine aB func260 (by kernel_rfl) ?_;exact mpK h
theorem JS (h:box Q 50 Y5 (fun C=>box Q 3 Z5 fun j=>box Q 3 K6 fun u=>box Q 2 W6 fun I=>alc Q 50 fun A8 w=>aG (fun S w=>hL S 50 C fun C0=>hL S 2 I fun C1=>hL S 3 j fun C2=>call Q 102 #[C2] (fun C3=>aY S fun S w=>hG C3 true S (ld Q 3 u) fun C5=>xG C3 true (call Q 102 #[C5]) (fun C6=>aY S fun S w=>hld S (pick C3 C6 cF) fun C7=>call Q 255 #[C0,C1,C7,Value.func (Fn.func 261) #[] #[j,u,I,C],Value.func (Fn.func 262) #[] #[j,u]] (fun C9=>aG fun S w=>hld S (ext Q C9 0) fun D0=>hld S (ext Q C9 1) fun D1=>sto Q 50 A8 D0 (fun _=>aG fun _=>bp Q [(some 50,A8),(none,D1)] K) w) w) w) w) w.drew) w):Gives Q 248 #[Y5,Z5,K6,W6] w K:=by
 refine aB func248 (by kernel_rfl) ?_;exact mpK h
theorem HL (h:ld Q 3 Y5 (fun A5=>ld Q 3 Z5 fun A6=>bin Q .eql 3 false false A5 A6 fun A7 w=>cond A7 (K (ci 1) w) (aG (fun S w=>hL S 2 K6 fun A8=>hL S 50 W6 fun A9=>hL S 3 Y5 fun C0=>call Q 63 #[A9,C0] (fun C1=>aY S fun S w=>hld S (bin Q .gtr 2 false false A8 C1) fun C2=>call Q 257 #[C2,ci 11] (fun C3=>aG fun _=>K C3) w) w) w.drew)) w):Gives Q 261 #[Y5,Z5,K6,W6] w K:=by
 refine aB func261 (by kernel_rfl) ?_;exact mpK h
theorem HN (h:sL 3 Z5 (fun A6=>sti (bin Q .sub 3 false true A6 (ci 1)) fun A7=>sL 3 K6 fun A8=>sti (bin Q .sub 3 false true A8 (ci 1)) fun A9=>sN Y5 fun C0=>sF 50 C0 3 fun C1=>sI 48 C1 A7 fun C2=>sI 47 C2 A9 K) w.drew):Gives Q 262 #[Y5,Z5,K6] w K:=by
 refine aB func262 (by kernel_rfl) ?_;exact mpK h
end
section
/-! ## Sums -/

/-! ## The live ones -/
end
section
open Go.RowKit
def zJ (P:Program):List Field→Nat→Nat→Bool
 | [],o,n=>Nat.beq o n
 | f::fs,o,n=>Nat.beq f.offset o&&zJ P fs (o+P.cellsOf f.type) n
def jD (P:Program):Nat→TypeId→List Value→Bool
 | 0,_,_=>false
 | d+1,t,cs=>match P.underlying t with
  | some .bool=>(match cs with | [.bool _]=>true | _=>false)
  | some (.int q)=>(match cs with | [.int q' _]=>decide (q'=q) | _=>false)
  | some (.array n e)=>(P.info? e).isSome && (Nat.beq cs.length (n * P.cellsOf e) && (List.range n).all fun i=>jD P d e ((cs.drop (i * P.cellsOf e)).take (P.cellsOf e)))
  | some (.struct fs) => !P.stoodInHeld t && (zJ P fs.toList 0 cs.length && fs.toList.all fun f=>f.name != "_" && jD P d f.type ((cs.drop f.offset).take (P.cellsOf f.type)))
  | _=>false
def xd (P:Program)(t:TypeId)(cs:List Value):Value:=match P.underlying t with
 | some (.array _ _)=>.agg cs.toArray
 | some (.struct _)=>.agg cs.toArray
 | _=>cs.headD undef
theorem GD {P:Program}:∀(fs:List Field) (o n m:Nat),zJ P fs o n=true→zJ P fs o m=true→n=m
 | [],o,n,m,h1,h2=>by
  have:=Nat.eq_of_beq_eq_true h1
  have:=Nat.eq_of_beq_eq_true h2
  omega
 | f::fs,o,n,m,h1,h2=>by
  unfold zJ at h1 h2;rw[Bool.and_eq_true]at h1 h2;exact GD fs _ n m h1.2 h2.2
theorem EG {P:Program}(j:P.underlying t=some .bool)(h:jD P (d+1) t cs=true):∃b,cs=[.bool b]:=by
 unfold jD at h;simp only[j]at h;split at h
 ·exact⟨_,rfl⟩
 ·cases h
theorem Hc {P:Program}{q:IntKind}(j:P.underlying t=some (.int q))(h:jD P (d+1) t cs=true):∃n,cs=[.int q n]:=by
 unfold jD at h;simp only[j]at h;split at h
 ·have:=of_decide_eq_true h;subst this;exact⟨_,rfl⟩
 ·cases h
section
variable {P:Program}
theorem Ip {xs:List Value}{off:Nat}{v:Value}(h:(xs.drop off).take n=[v]):xs.toArray[off]? = some v:=by
 have j:((xs.drop off).take n)[0]? = some v:=by rw[h];rfl
 rw[List.getElem?_take]at j;split at j
 ·rw[List.getElem?_drop]at j;simpa using j
 ·cases j
theorem DO {off:Nat}{xs:List Value}(w:World)(h:jD P d e ((xs.drop off).take (P.cellsOf e))=true):(part e xs.toArray off).run P w=.ok (xd P e ((xs.drop off).take (P.cellsOf e))) w:=by
 cases d with
 | zero=>simp[jD]at h
 | succ d =>
  cases j:P.underlying e with
  | none=>simp[jD,j]at h
  | some kd =>
   have C:(xs.toArray.extract off (off+P.cellsOf e))=((xs.drop off).take (P.cellsOf e)).toArray:=by
    apply Array.toList_inj.1;rw[Array.toList_extract];simp[List.extract]
   cases kd
   case bool =>
    obtain⟨b,u⟩:=EG j h;rw[run_part_plain w (by simp[Program.plainKey,j]) (Ip u),u];simp[xd,j]
   case int q =>
    obtain⟨b,u⟩:=Hc j h;rw[run_part_plain w (by simp[Program.plainKey,j]) (Ip u),u];simp[xd,j]
   case array n e' =>
    obtain⟨i,hi⟩:=info_of_underlying j;simp only[part,isAgg,Sem.run_bind,run_underlying j,run_sizeOf w hi,Result.andThen_ok,Sem.run_pure,if_true,xd,j,C]
   case struct fs =>
    obtain⟨i,hi⟩:=info_of_underlying j;simp only[part,isAgg,Sem.run_bind,run_underlying j,run_sizeOf w hi,Result.andThen_ok,Sem.run_pure,if_true,xd,j,C]
   all_goals (simp[jD,j]at h;done)
theorem KF {xs:List Value}(C:xs.length=ys.length):(xs.drop o).take c=(ys.drop o).take c∧xs.drop (o+c)=ys.drop (o+c)↔xs.drop o=ys.drop o:=by
 have e:∀zs:List Value,zs.drop o=(zs.drop o).take c++zs.drop (o+c):=fun zs=>by rw[←List.drop_drop];exact(List.take_append_drop c (zs.drop o)).symm
 constructor
 ·rintro⟨j,u⟩;rw[e xs,e ys,j,u]
 ·intro h;refine⟨by rw[h],?_⟩;rw[←List.drop_drop, ←List.drop_drop,h]
def EqB (P:Program)(D d:Nat):Prop:=∀(t:TypeId) (w:World) (xs ys:List Value),jD P d t xs=true→jD P d t ys=true→∃r:Bool,(Op.equalIn D t (xd P t xs) (xd P t ys)).run P w=.ok r w∧(r=true↔xs=ys)
theorem Ns {D d:Nat} (IH:EqB P D d) {xs ys:List Value} (u:xs.length=ys.length) (w:World):∀ (fs:List Field) (o:Nat),zJ P fs o xs.length=true →
  (∀ f ∈ fs,f.name≠"_"∧jD P d f.type ((xs.drop f.offset).take (P.cellsOf f.type))=true∧jD P d f.type ((ys.drop f.offset).take (P.cellsOf f.type))=true) →
  ∃ r:Bool,(Op.eqFields D xs.toArray ys.toArray fs).run P w=.ok r w∧(r=true↔xs.drop o=ys.drop o)
 | [],o,hc,_=>by
  have:=Nat.eq_of_beq_eq_true hc
  subst this;exact ⟨true,by simp [Op.eqFields],by rw [List.drop_length,u,List.drop_length]; simp⟩
 | f::fs,o,hc,hall=>by
  unfold zJ at hc;rw [Bool.and_eq_true] at hc;have U:=Nat.eq_of_beq_eq_true hc.1;obtain ⟨O,I,J⟩:=hall f (by simp);obtain ⟨r,hr,j⟩:=IH f.type w _ _ I J;obtain ⟨r',C,h⟩:=Ns IH u w fs (o+P.cellsOf f.type) hc.2 (fun g M=>hall g (by simp [M]));simp only [Op.eqFields,O,ne_eq,not_false_eq_true,if_true,Sem.run_bind,DO w I,DO w J,hr,Result.andThen_ok]
  rw [← KF u (c:=P.cellsOf f.type), ← h, ← U, ← j];cases r
  ·exact ⟨false,by simp,by simp⟩
  ·exact ⟨r',by simpa using C,by simp⟩
theorem Nt {D d:Nat}(IH:EqB P D d){xs ys:List Value}{e:TypeId}{n:Nat}(C:xs.length=ys.length)(J:xs.length=n*P.cellsOf e)(w:World)(j:∀i,i<n→jD P d e ((xs.drop (i*P.cellsOf e)).take (P.cellsOf e))=true∧jD P d e ((ys.drop (i*P.cellsOf e)).take (P.cellsOf e))=true):∀(m i:Nat),i+m=n →
  ∃r:Bool,(Op.eqItems D e (P.cellsOf e) xs.toArray ys.toArray (List.range' i m)).run P w=.ok r w∧(r=true↔xs.drop (i*P.cellsOf e)=ys.drop (i*P.cellsOf e))
 | 0,i,hi=>by
  obtain rfl:i=n:=by omega
  exact⟨true,by simp[Op.eqItems],by rw[←J,List.drop_length,C,List.drop_length];simp⟩
 | m+1,i,hi=>by
  obtain⟨M,O⟩:=j i (by omega);obtain⟨r,U,u⟩:=IH e w _ _ M O;obtain⟨r',I,h⟩:=Nt IH C J w j m (i+1) (by omega);simp only[List.range'_succ,Op.eqItems,Sem.run_bind,DO w M,DO w O,U,Result.andThen_ok];rw[←KF C (c:=P.cellsOf e), ←u];rw[show (i+1)*P.cellsOf e=i*P.cellsOf e+P.cellsOf e by rw[Nat.add_mul,Nat.one_mul]]at h;rw[←h];cases r
  ·exact⟨false,by simp,by simp⟩
  ·exact⟨r',by simpa using I,by simp⟩
theorem Nr (D:Nat):∀d:Nat,EqB P (D+d) d
 | 0=>fun t w xs ys h _=>by simp[jD]at h
 | d+1=>fun t w xs ys h C=>by
  have IH:=Nr D d;cases j:P.underlying t with
  | none=>simp[jD,j]at h
  | some kd =>
   cases kd
   case bool =>
    obtain⟨a,rfl⟩:=EG j h;obtain⟨b,rfl⟩:=EG j C;refine⟨a==b,?_,by simp⟩;simp only[xd,j,List.headD_cons];exact run_equalIn_bool' w (D+d) t a b j
   case int q =>
    obtain⟨a,rfl⟩:=Hc j h;obtain⟨b,rfl⟩:=Hc j C;refine⟨a==b,?_,by simp⟩;simp only[xd,j,List.headD_cons];exact run_equalIn_int w (D+d) t q q a b j
   case array n e =>
    unfold jD at h C;simp only[j,Bool.and_eq_true,List.all_eq_true,List.mem_range]at h C;have O:=Nat.eq_of_beq_eq_true h.2.1;have ly:=Nat.eq_of_beq_eq_true C.2.1;obtain⟨i,hi⟩:=Option.isSome_iff_exists.1 h.1;obtain⟨r,M,u⟩:=Nt IH (O.trans ly.symm) O w (fun i hi=>⟨h.2.2 i hi,C.2.2 i hi⟩) n 0 (by omega);refine⟨r,?_,by simpa using u⟩;simp only[xd,j]
    rw[show D+(d+1)=(D+d)+1 from rfl,run_equalIn_array w (D+d) _ _ j hi,List.range_eq_range'];exact M
   case struct fs =>
    unfold jD at h C;simp only[j,Bool.and_eq_true,List.all_eq_true,Bool.not_eq_true',bne_iff_ne,ne_eq]at h C;have U:=GD fs.toList 0 _ _ h.2.1 C.2.1;have I:P.fieldsOf t=fs:=by simp[Program.fieldsOf,j]
    obtain⟨r,M,u⟩:=Ns IH U w fs.toList 0 h.2.1 (fun f J=>⟨(h.2.2 f J).1,(h.2.2 f J).2,(C.2.2 f J).2⟩);refine⟨r,?_,by simpa using u⟩;simp only[xd,j];rw[show D+(d+1)=(D+d)+1 from rfl,run_equalIn_struct w (D+d) t _ _ (by rw[I];exact j) h.1,I];exact M
   all_goals (simp[jD,j]at h;done)
variable {K:KV}{w:World}{t:TypeId}{cx cy:Bool}
theorem MS (j:(match P.underlying t with|some (.array _ _)|some (.struct _)=>true|_=>false)=true):xd P t cs=.agg cs.toArray:=by
 unfold xd;cases h:P.underlying t with
 | none=>simp[h]at j
 | some kd=>cases kd<;>simp_all
theorem Pn {xs:List Value}(d:Nat)(C:d≤10000)(h:(match P.underlying t with|some (.array _ _)|some (.struct _)=>true|_=>false)=true)(j:jD P d t xs=true)(u:jD P d t ys=true):∃r:Bool,(Op.equalIn 10000 t (.agg xs.toArray) (.agg ys.toArray)).run P w=.ok r w∧(r=true↔xs=ys):=by
 have:=Nr (P:=P) (10000-d) d t w xs ys j u
 rw[show 10000-d+d=10000 by omega,MS h,MS h]at this;exact this
theorem Cf {xs:List Value}(d:Nat)(u:d≤10000)(J:(match P.underlying t with|some (.array _ _)|some (.struct _)=>true|_=>false)=true)(C:P.eqGuardType P.depth t=false)(M:jD P d t xs=true)(O:jD P d t ys=true)(h:∀r:Bool,(r=true↔xs=ys)→K (.bool r) w):bin P .eql t cx cy (.agg xs.toArray) (.agg ys.toArray) K w:=by
 obtain⟨r,I,j⟩:=Pn (w:=w) d u J M O;exact jm (v:=.bool r) (by unfold eqG;exact run_eqGuard_agg w _ _ _ _ _ _ C) (by rw[run_eql_struct w,I];rfl) (h r j)
theorem wu {xs:List Value}(d:Nat)(u:d≤10000)(J:(match P.underlying t with|some (.array _ _)|some (.struct _)=>true|_=>false)=true)(C:P.eqGuardType P.depth t=false)(M:jD P d t xs=true)(O:jD P d t ys=true)(h:∀r:Bool,(r=true↔xs=ys)→K (.bool (!r)) w):bin P .neq t cx cy (.agg xs.toArray) (.agg ys.toArray) K w:=by
 obtain⟨r,I,j⟩:=Pn (w:=w) d u J M O;exact jm (v:=.bool (!r)) (by unfold eqG;exact run_eqGuard_agg w _ _ _ _ _ _ C) (by rw[run_neq_struct w,I];rfl) (h r j)
end
theorem Iw (h:bin Q .geq 3 false true Y5 (ci 1) (fun A0 w=>aI A0 true (fun u=>bin Q .leq 3 false true Y5 (ci 6) (fun A3=>u [Y5,A3]) w) (fun k=>k [uu,uu] w) fun j=>pick A0 (gd j 1) cF K) w):Gives Q 73 #[Y5] w K:=by
 refine aB func73 (by kernel_rfl) ?_;exact mpK h
def fg (x0 m3 i4 A3:Value)(zf:Nat→Value):List Value:=x0::zf 1::zf 2::m3::i4::zf 5::zf 6::A3::zT zf 8 17 ([])
def fS (K:KV):KE:=ae Q (cd f74 [1,1]) (rk f74 K) xf (rk f74 K)
def ju (K:KV):KE:=ae Q (cd f74 [1,0,1]) (fS K) xf (rk f74 K)
def eS (K:KV):KE:=ae Q (cd f74 [1,1,1,1]) (rk f74 K) xf (rk f74 K)
def lD (K:KV):KE:=ae Q (cd f74 (b1 122)) (eS K) (xx xf (eS K) 0) (rk f74 K)
theorem xZ {K:KV}{Y5:Value}{w:World}(h:lN 120 Y5 (fun A2=>bin Q .lss 3 false true A2 (ci 1) fun W6=>ju K (fg Y5 uu uu W6 (zV (zV zu 2 [cu 0]) 5 [Y5,A2]))) w):Gives Q 74 #[Y5] w K:=by
 refine aB func74 (by kernel_rfl) ?_
 refine Eq.mp (congrArg (fun c=>ae Q c _ _ _ _ w) (by kernel_rfl:(rep [1,0,1] (cd f74 [1,0,1]) (cd f74 []))=(cd f74 []))) ?_
 revert h
 delta ju fS
 generalize (cd f74 [1,0,1])=xc0
 exact mpF
theorem wh (h:cond W6 (ifc Q 9 (Value.string (sq [115,108,105,99,101,115,46,77,97,120,58,32,101,109,112,116,121,32,108,105,115,116])) (fun _ _=>False) w) (fS K (fg Y5 Z5 K6 W6 zf) w)):ju K (fg Y5 Z5 K6 W6 zf) w:=by
 delta ju;revert h;generalize (fS K)=qc0;exact mpF
theorem wj (h:aV Q 120 Y5 (ci 0) (fun A6=>ld Q 31 A6 fun A7=>lD K (fg Y5 A7 (ci 1) W6 (zV zf 9 [Y5,A6,A7]))) w):fS K (fg Y5 Z5 K6 W6 zf) w:=by
 delta fS;revert h;delta lD eS;exact mpF
theorem wi (Inv:Value→Value→World→Prop)(μ:Value→Value→World→Nat)(J:Inv Z5 K6 w)(M:∀(u j:Value) (dd:Nat→Value) (w:World) (m:Nat),Inv u j w→m=μ u j w →
  lN 120 Y5 (fun C0=>lS j C0 fun C1 w=>cond C1 (aV Q 120 Y5 j (fun C7=>ld Q 31 C7 fun C8=>blt Q .max #[31,31] 31 #[false,false] #[u,C8] fun C9=>nC j fun C3 w=>(Inv C9 C3 w)∧((μ C9 C3 w)<m)) w) (eS K (fg Y5 u j W6 (zV dd 12 [j,Y5,C0,C1])) w)) w):lD K (fg Y5 Z5 K6 W6 zf) w:=by
 refine aL (cd f74 (b1 244)) (zr [(3,2),(12,12)]) (by kernel_rfl) (vP [3,4] Inv) (vQ [3,4] μ) J ?_;intro e' w' hI;have h:=M _ _ (zM zf (fun i=>gd e' i) (zr [(3,2),(12,12)])) w' _ hI rfl;revert h;generalize (eS K)=qc0;exact mpF
theorem wm (h:K Z5 w):eS K (fg Y5 Z5 K6 W6 zf) w:=by
 delta eS;exact mpK h
attribute [irreducible] fS ju eS lD
theorem CV {f0:Value}(h:aU f0 (fun A3=>aT Q 179 A3 0 fun A4=>aT Q 54 A4 6 fun A5=>ld Q 2 A5 fun A6=>bin Q .geq 2 false false A6 Y5 fun A8 w=>aI A8 true (fun u=>aU f0 (fun C1=>aT Q 179 C1 0 fun C2=>aT Q 54 C2 6 fun C3=>ld Q 2 C3 fun C4=>bin Q .leq 2 false true C4 (ci 1125899906842624) fun C5=>u [f0,C1,C2,C3,C4,C5]) w) (fun k=>k [uu,uu,uu,uu,uu,uu] w) fun j=>pick A8 (gd j 5) cF fun C6=>aU f0 fun C9=>aT Q 179 C9 0 fun D0=>aT Q 54 D0 4 fun D1=>sto Q 31 D1 (cu 0) fun _=>aU f0 fun D2=>aT Q 179 D2 0 fun D3=>aT Q 54 D3 6 fun D4=>sto Q 2 D4 (ci 0) fun _=>K C6) w):Gives Q 108 #[f0,Y5] w K:=by
 refine aB func108 (by kernel_rfl) ?_;exact mpK h
theorem xF {f0:Value}(h:aU f0 (fun A1=>aT Q 179 A1 0 fun A2=>aT Q 54 A2 7 fun A3=>ld Q 31 A3 fun A4=>bin Q .gtr 31 false true A4 (cu 0) fun A5=>aU f0 fun A7=>aT Q 179 A7 0 fun A8=>aT Q 54 A8 7 fun A9=>sto Q 31 A9 (cu 0) fun _=>K A5) w):Gives Q 109 #[f0] w K:=by
 refine aB func109 (by kernel_rfl) ?_;exact mpK h
theorem EE {f0:Value}(h:sN f0 (fun A1=>sF 179 A1 0 fun A2=>sF 54 A2 8 fun A3=>sL 31 A3 fun A4=>sti (bin Q .gtr 31 false true A4 (cu 0)) fun A5 w=>aI A5 true (fun C=>sN f0 (fun A8=>sF 179 A8 0 fun A9=>sF 54 A9 8 fun C0=>sL 31 C0 fun C1=>sN f0 fun C3=>sF 179 C3 0 fun C4=>sF 54 C4 7 fun C5=>sL 31 C5 fun C6=>sti (bin Q .neq 31 false false C1 C6) fun C7=>C [f0,A8,A9,C0,C1,f0,C3,C4,C5,C6,C7]) w) (fun k=>k [uu,uu,uu,uu,uu,uu,uu,uu,uu,uu,uu] w) fun j=>sti (pick A5 (gd j 10) cF) fun C8=>aU f0 fun D0=>aT Q 179 D0 0 fun D1=>aT Q 54 D1 8 fun D2=>sto Q 31 D2 (cu 0) fun _=>call Q 109 #[f0] fun D4 w=>aI D4 true (fun I=>I [C8] w) (fun k=>k [uu] w) fun u=>pick D4 (gd u 0) cF K) w.drew):Gives Q 110 #[f0] w K:=by
 refine aB func110 (by kernel_rfl) ?_;exact mpK h
theorem EF {f0:Value}(h:sN f0 (fun A1=>sF 179 A1 0 fun A2=>sF 54 A2 5 fun A3=>sL 3 A3 fun A4=>sti (call Q 73 #[A4]) fun A5 w=>aI A5 true (fun u=>sN f0 (fun A8=>sF 179 A8 0 fun A9=>sF 54 A9 5 fun C0=>sL 3 C0 fun C1=>sN f0 fun C3=>sF 179 C3 0 fun C4=>sF 54 C4 0 fun C5=>sL 3 C5 fun C6=>sti (bin Q .neq 3 false false C1 C6) fun C7=>u [f0,A8,A9,C0,C1,f0,C3,C4,C5,C6,C7]) w) (fun k=>k [uu,uu,uu,uu,uu,uu,uu,uu,uu,uu,uu] w) fun j=>sti (pick A5 (gd j 10) cF) fun C8=>aU f0 fun D0=>aT Q 179 D0 0 fun D1=>aT Q 54 D1 5 fun D2=>sto Q 3 D2 (ci 0) fun _=>K C8) w.drew):Gives Q 111 #[f0] w K:=by
 refine aB func111 (by kernel_rfl) ?_;exact mpK h
def oX (f0 f1 A3 D0 D9 E0:Value)(zf:Nat→Value):List Value:=f0::f1::zT zf 2 5 (A3::zT zf 8 16 (D0::zT zf 25 8 (D9::E0::zT zf 35 11 ([]))))
def iu (K:KV):KE:=ae Q (cd f75 [1,1]) (rk f75 K) xf (rk f75 K)
def mC (K:KV):KE:=ae Q (cd f75 (b1 3455)) (iu K) (xx xf (iu K) 0) (rk f75 K)
section
variable {K:KV}{f0 f1 A3 D0 D9 E0:Value}{zf:Nat→Value}{w:World}
theorem CU {K:KV}{f0:Value}{w:World}(h:aU f0 (fun A0=>aT Q 179 A0 0 fun A1=>aT Q 54 A1 3 fun A2=>ld Q 5 A2 fun A3=>bin Q .eql 5 false true A3 (cb 1) fun A5 w=>cond A5 (call Q 108 #[f0,ci 0] K w) (bin Q .eql 5 false true A3 (cb 2) (fun A9 w=>cond A9 (call Q 108 #[f0,ci 1] K w) (bin Q .eql 5 false true A3 (cb 3) (fun C3 w=>cond C3 (call Q 108 #[f0,ci 1] (fun C5 w=>aI C5 true (fun k21=>call Q 109 #[f0] (fun C8=>k21 [f0,C8]) w) (fun k=>k [uu,uu] w) fun us21=>pick C5 (gd us21 1) cF K) w) (bin Q .eql 5 false true A3 (cb 4) (fun D1=>mC K (oX f0 uu A3 D1 uu uu (zV (zV (zV (zV (zV zu 2 [cF,f0,A0,A1,A2]) 8 [A5,A5]) 12 [A9,A9]) 16 [C3,C3]) 25 [D1]))) w)) w)) w)) w):Gives Q 75 #[f0] w K:=by
 refine aB func75 (by kernel_rfl) ?_
 refine Eq.mp (congrArg (fun c=>ae Q c _ _ _ _ w) (by kernel_rfl:(rep (b1 3455) (cd f75 (b1 3455)) (cd f75 []))=(cd f75 []))) ?_
 revert h
 delta mC iu
 generalize (cd f75 (b1 3455))=xc0
 exact mpF
theorem BG (h:cond D0 (call Q 110 #[f0] K w) (bin Q .eql 5 false true A3 (cb 5) (fun D5 w=>cond D5 (call Q 108 #[f0,ci 1] (fun D7 w=>aI D7 true (fun u=>call Q 111 #[f0] (fun E0=>u [f0,E0]) w) (fun k=>k [uu,uu] w) fun j=>pick D7 (gd j 1) cF K) w) (bin Q .eql 5 false true A3 (cb 6) (fun E3 w=>cond E3 (call Q 111 #[f0] K w) (iu K (oX f0 f1 A3 D0 D9 E0 (zV (zV zf 28 [D5,D5]) 36 [E3,E3])) w)) w)) w)):mC K (oX f0 f1 A3 D0 D9 E0 zf) w:=by
 delta mC;revert h;generalize (iu K)=qc0;exact mpF
theorem BH (h:aU f0 (fun E6=>aT Q 179 E6 0 fun E7=>aT Q 54 E7 3 fun E8=>ld Q 5 E8 fun E9=>bin Q .eql 5 false true E9 (cb 7) K) w):iu K (oX f0 f1 A3 D0 D9 E0 zf) w:=by
 delta iu;exact mpK h
end
attribute [irreducible] iu mC
def BF (e1 f3 E5 E6 E7 E8 E9 F0 F1 F2 F3 F4 F5 F6 F7 F8:Value)(zf:Nat→Value):List Value:=zf 0::e1::zf 2::f3::zT zf 4 36 (E5::E6::E7::E8::E9::F0::F1::F2::F3::F4::F5::F6::F7::F8::zf 54::[])
def qz (K:KV):KE:=ae Q (cd f41 [1,1,1,1]) (rk f41 K) xf (rk f41 K)
theorem Lr {K:KV}{e0:Value}{w:World}(h:box Q 54 e0 (fun Y5 w=>sF 54 Y5 0 (fun A0=>sL 3 A0 fun A1=>sti (call Q 73 #[A1]) fun A2=>sti (un Q .not A2) fun A3 w=>aI A3 false (fun k9=>sF 54 Y5 1 (fun A5=>sL 31 A5 fun A6=>sti (bin Q .lss 31 false true A6 (cu 1)) fun A7=>k9 [A5,A6,A7]) w) (fun k=>k [uu,uu,uu] w) fun us9=>sti (pick A3 cT (gd us9 2)) fun A8 w=>aI A8 false (fun k14=>sF 54 Y5 1 (fun C0=>sL 31 C0 fun C1=>sti (bin Q .geq 31 false true C1 (cu 1099511627776)) fun C2=>k14 [C0,C1,C2]) w) (fun k=>k [uu,uu,uu] w) fun us14=>sti (pick A8 cT (gd us14 2)) fun C3 w=>aI C3 false (fun k19=>sF 54 Y5 0 (fun C5=>sL 3 C5 fun C6=>sti (bin Q .sub 3 false true C6 (ci 1)) fun C7=>sF 54 Y5 2 fun C8=>sI 35 C8 C7 fun C9=>sL 31 C9 fun D0=>sF 54 Y5 1 fun D1=>sL 31 D1 fun D2=>sti (bin Q .sub 31 false true D2 (cu 1)) fun D3=>sti (bin Q .neq 31 false false D0 D3) fun D4=>k19 [C5,C6,C7,C8,C9,D0,D1,D2,D3,D4]) w) (fun k=>k [uu,uu,uu,uu,uu,uu,uu,uu,uu,uu] w) fun us19=>sti (pick C3 cT (gd us19 9)) fun D5 w=>cond D5 (K cF w) (aT Q 54 Y5 2 (fun D6=>slc Q 35 D6 none none none fun D7=>call Q 74 #[D7] fun D8=>bin Q .geq 31 false true D8 (cu 1099511627776) fun D9 w=>cond D9 (K cF w) (ld Q 54 Y5 (fun E0=>bld Q 179 #[(0,E0)] fun E1=>box Q 179 E1 fun E2=>qz K (BF Y5 E2 uu uu uu uu uu uu uu uu uu uu uu uu uu uu (zV (zV (zV zu 0 [e0]) 2 [cF]) 4 [A0,A1,A2,A3,A3,gd us9 0,gd us9 1,gd us9 2,A8,A8,gd us14 0,gd us14 1,gd us14 2,C3,C3,gd us19 0,gd us19 1,gd us19 2,gd us19 3,gd us19 4,gd us19 5,gd us19 6,gd us19 7,gd us19 8,gd us19 9,D5,D6,D7,D8,D9,E0,E1,E2]))) w)) w)) w.drew) w):Gives Q 41 #[e0] w K:=by
 refine aB func41 (by kernel_rfl) ?_
 refine Eq.mp (congrArg (fun c=>ae Q c _ _ _ _ w) (by kernel_rfl:(rep [1,1,1,1] (cd f41 [1,1,1,1]) (cd f41 []))=(cd f41 []))) ?_
 revert h
 delta qz
 generalize (cd f41 [1,1,1,1])=xc0
 exact mpF
theorem Jx (h:aG (fun _=>call Q 75 #[Z5] fun E4=>aG fun S w=>hG E4 true S (fun k=>k Z5) fun K6=>hG E4 true S (aU K6) fun W6=>hG E4 true S (aT Q 179 W6 0) fun X6=>hG E4 true S (ld Q 54 X6) fun Y6=>hG E4 true S (aT Q 54 Y5 0) fun Z6=>hG E4 true S (ld Q 3 Z6) fun u7=>hG E4 true S (aT Q 54 Y5 1) fun B7=>hG E4 true S (ld Q 31 B7) fun K7=>hG E4 true S (aT Q 54 Y5 2) fun W7=>hG E4 true S (ld Q 35 W7) fun X7=>hG E4 true S (aT Q 54 Y5 3) fun Y7=>hG E4 true S (ld Q 5 Y7) fun Z7=>hG E4 true S (bld Q 54 #[(0,u7),(1,K7),(2,X7),(3,Z7)]) fun B8=>hG E4 true S (bin Q .eql 54 false false Y6 B8) fun K8=>hld S (pick E4 K8 cF) fun F9=>K F9 w) w.drew):qz K (BF Y5 Z5 K6 W6 X6 Y6 Z6 u7 B7 K7 W7 X7 Y7 Z7 B8 K8 zf) w:=by
 delta qz;exact mpK h
attribute [irreducible] qz
end
end Go.Proofs.YtkbhfjljieopoaaGreatDoor
namespace Go.Proofs.YtkbhfjljieopoaaGreatDoor
variable {w w' w0:World}{K:KV}{zf dd:Nat→Value}{b n c o k B i g p j m s z f d D c2 hi:Nat}{x r:Int}{B1:KE}{a av:Option Addr}{cs ys:List Value}{E t e:TypeId}{xs v:List Int}{T:List (Int×Int)}{cx cy:Bool}{Y5 Z5 K6 W6 X6 Y6 Z6 u7 B7 K7 W7 X7 Y7 Z7 B8 K8 W8 X8 Y8 Z8 l9 n9 u9:Value}
set_option maxRecDepth 100000
open Go.Proofs.Tryz
section
open Go.RowKit
end
section
attribute [local irreducible] bin un conv call bY blt slc aT fld aV idx lkp dO gY eSt rng nxt ent ext alc box bld bT ld sto aU dE mkS ifc pick rdy wts aI sti cond bp Gives ae fh fT cOp
open Go.RowKit
def tnC (x:Int×Int):List Value:=[u6 x.1,u6 x.2]
structure TM (w:World) (B t:Nat) (T:List (Int×Int)):Prop where
 row:∃a c,blk w t 188 [.slice a T.length c]∧w.ownsRow B 277 2 (.slice a T.length c) T.length (T.flatMap tnC)
 lo:B≤t
end
section
open Go.RowKit
theorem Id (h:bin Q .geq 3 false true Y5 (ci 1) (fun A3 w=>aI A3 true (fun u=>bin Q .leq 3 false true Y5 (ci 6) (fun A6=>u [Y5,A6]) w) (fun k=>k [uu,uu] w) fun j=>pick A3 (gd j 1) cF K) w):Gives Q 165 #[Y5] w K:=by
 refine aB func165 (by kernel_rfl) ?_;exact mpK h
def uK (of0 v2 A3:Value)(zf:Nat→Value):List Value:=of0::zf 1::v2::zf 3::A3::zT zf 5 9 ([])
def lW (K:KV):KE:=ae Q (cd f70 [1,1]) (rk f70 K) xf (rk f70 K)
def tP (K:KV):KE:=ae Q (cd f70 [1,0,1,0]) (lW K) (xx xf (lW K) 0) (rk f70 K)
theorem Kg (h:alc Q 35 (fun Z5=>tP K (uK Y5 Z5 (ci 0) zu)) w):Gives Q 70 #[Y5] w K:=by
 refine aB func70 (by kernel_rfl) ?_;revert h;delta tP lW;exact mpF
theorem HY (Inv:Value→World→Prop)(μ:Value→World→Nat)(I:Inv K6 w)(J:∀(j:Value) (dd:Nat→Value) (w:World) (m:Nat),Inv j w→m=μ j w →
  bin Q .lss 3 false true j (ci 6) (fun A4 w=>cond A4 (bY Q Y5 #[j] (fun A9=>aV Q 35 Z5 j fun C0=>sto Q 31 C0 A9 fun _=>nC j fun C1 w=>(Inv C1 w)∧((μ C1 w)<m)) w) (lW K (uK Y5 Z5 j (zV dd 5 [A4])) w)) w):tP K (uK Y5 Z5 K6 zf) w:=by
 refine aL (cd f70 (b1 52)) (zr [(3,10)]) (by kernel_rfl) (vP [4] Inv) (vQ [4] μ) I ?_;intro e' w' hI;have h:=J _ (zM zf (fun i=>gd e' i) (zr [(3,10)])) w' _ hI rfl;revert h;generalize (lW K)=qc0;exact mpF
theorem HZ (h:ld Q 35 Z5 (fun C2=>sto Q 35 Z5 C2 fun _=>bp Q [(some 35,Z5)] K) w):lW K (uK Y5 Z5 K6 zf) w:=by
 delta lW;exact mpK h
attribute [irreducible] lW tP
def uL (l0 l2 choose3 A3 out5 C5 C6 C7:Value)(zf:Nat→Value):List Value:=l0::zf 1::l2::choose3::A3::out5::zT zf 6 10 (C5::C6::C7::zT zf 19 7 ([]))
def lX (K:KV):KE:=ae Q (cd f112 [1,1,1,1]) (rk f112 K) xf (rk f112 K)
def tQ (K:KV):KE:=ae Q (cd f112 (b1 122)) (lX K) (xx xf (lX K) 0) (rk f112 K)
theorem Kh (h:box Q 213 Z5 (fun K6=>alc Q 35 fun W6=>lN 211 Y5 fun A8=>bin Q .eql 3 false true A8 (ci 0) fun A9 w=>cond A9 (bld Q 35 #[] (fun C0=>sto Q 35 W6 C0 fun _=>bp Q [(some 35,W6)] K) w) (aV Q 211 Y5 (ci 0) (fun C2=>ld Q 35 C2 fun C3=>alc Q 35 fun X6=>sto Q 35 X6 C3 fun _=>slc Q 211 Y5 (some (ci 1)) none none fun Y6=>lN 211 Y6 fun Z6=>tQ K (uL Y5 uu K6 W6 X6 Y6 Z6 (ci 0) (zV (zV (zV zu 1 [Z5]) 8 [Y5,A8,A9]) 12 [Y5,C2,C3,Y5]))) w)) w):Gives Q 112 #[Y5,Z5] w K:=by
 refine aB func112 (by kernel_rfl) ?_;revert h;delta tQ lX;exact mpF
theorem Ib (Inv:Value→World→Prop)(μ:Value→World→Nat)(J:Inv u7 w)(M:∀(j:Value) (dd:Nat→Value) (w:World) (m:Nat),Inv j w→m=μ j w →
  lS j Z6 (fun C8 w=>cond C8 (aV Q 211 Y6 j (fun C9=>ld Q 35 C9 fun D0=>alc Q 35 fun I=>sto Q 35 I D0 fun _=>call Q 70 #[Value.func (Fn.func 148) #[] #[K6,X6,I]] fun D1=>sto Q 35 X6 D1 fun _=>nC j fun D2 w=>(Inv D2 w)∧((μ D2 w)<m)) w) (lX K (uL Y5 Z5 K6 W6 X6 Y6 Z6 j (zV dd 19 [C8])) w)) w):tQ K (uL Y5 Z5 K6 W6 X6 Y6 Z6 u7 zf) w:=by
 refine aL (cd f112 (b1 244)) (zr [(7,1),(18,7)]) (by kernel_rfl) (vP [18] Inv) (vQ [18] μ) J ?_;intro e' w' hI;have h:=M _ (zM zf (fun i=>gd e' i) (zr [(7,1),(18,7)])) w' _ hI rfl;revert h;generalize (lX K)=qc0;exact mpF
theorem Ic (h:ld Q 35 X6 (fun D3=>sto Q 35 W6 D3 fun _=>bp Q [(some 35,W6)] K) w):lX K (uL Y5 Z5 K6 W6 X6 Y6 Z6 u7 zf) w:=by
 delta lX;exact mpK h
attribute [irreducible] lX tQ
theorem yN (h:aG (fun S w=>hL S 213 Z5 fun A5=>hI S 35 K6 Y5 fun A7=>hL S 31 A7 fun A8=>hI S 35 W6 Y5 fun C0=>hL S 31 C0 fun C1=>bY Q A5 #[A8,C1] (fun C2=>aG fun _=>K C2) w) w.drew):Gives Q 148 #[Y5,Z5,K6,W6] w K:=by
 refine aB func148 (by kernel_rfl) ?_;exact mpK h
theorem Kd (h:alc Q 35 (fun A1=>call Q 112 #[Y5,Value.func (Fn.func 113) #[] #[]] fun A3=>sto Q 35 A1 A3 fun _=>bp Q [(some 35,A1)] K) w):Gives Q 77 #[Y5] w K:=by
 refine aB func77 (by kernel_rfl) ?_;exact mpK h
theorem HX (h:blt Q .max #[31,31] 31 #[false,false] #[Y5,Z5] K w):Gives Q 113 #[Y5,Z5] w K:=by
 refine aB func113 (by kernel_rfl) ?_;exact mpK h
theorem Ke (h:box Q 35 Y5 (fun u=>box Q 35 Z5 fun j w=>aG (fun S w=>hL S 35 u fun A4=>hL S 35 j fun A5=>hL S 35 j fun A8=>bT Q 211 2 #[(0,A4),(1,A5)] (fun A6=>aY S fun S=>call Q 77 #[A6] fun A7=>aY S fun S w=>hld S (bin Q .eql 35 false false A7 A8) fun A9=>K A9 w) w) w.drew) w):Gives Q 69 #[Y5,Z5] w K:=by
 refine aB func69 (by kernel_rfl) ?_;exact mpK h
theorem KX (h:box Q 35 Y5 (fun J=>call Q 165 #[Z5] fun A7 w=>aI A7 true (fun C=>bin Q .gtr 31 false true K6 (cu 0) (fun C0=>C [K6,C0]) w) (fun k=>k [uu,uu] w) fun j=>pick A7 (gd j 1) cF fun C1 w=>aI C1 true (fun I=>bin Q .sub 3 false true Z5 (ci 1) (fun C4=>aV Q 35 J C4 fun C5=>ld Q 31 C5 fun C6=>bin Q .geq 31 false false C6 K6 fun C8=>I [Z5,C4,C5,C6,K6,C8]) w) (fun k=>k [uu,uu,uu,uu,uu,uu] w) fun u=>pick C1 (gd u 5) cF K) w):Gives Q 141 #[Y5,Z5,K6] w K:=by
 refine aB func141 (by kernel_rfl) ?_;exact mpK h
theorem KR (h:box Q 35 Y5 (fun j=>box Q 54 Z5 fun u=>ld Q 54 u fun A0=>call Q 41 #[A0] fun A1 w=>aI A1 true (fun I=>ld Q 35 j (fun A2=>aT Q 54 u 0 fun A3=>ld Q 3 A3 fun A4=>aT Q 54 u 1 fun A5=>ld Q 31 A5 fun A6=>call Q 141 #[A2,A4,A6] fun A7=>I [A2,A3,A4,A5,A6,A7]) w) (fun k=>k [uu,uu,uu,uu,uu,uu] w) fun C=>pick A1 (gd C 5) cF K) w):Gives Q 97 #[Y5,Z5] w K:=by
 refine aB func97 (by kernel_rfl) ?_;exact mpK h
theorem JI (h:box Q 35 Y5 (fun j=>box Q 54 Z5 fun u w=>aG (fun S w=>hL S 54 u fun A0=>call Q 41 #[A0] (fun A1=>aG fun S w=>hG A1 true S (aT Q 54 u 0) fun A2=>hG A1 true S (ld Q 3 A2) fun A3=>hG A1 true S (bin Q .sub 3 false true A3 (ci 1)) fun A4=>hG A1 true S (aV Q 35 j A4) fun A5=>hG A1 true S (ld Q 31 A5) fun A6=>hG A1 true S (aT Q 54 u 1) fun A7=>hG A1 true S (ld Q 31 A7) fun A8=>hG A1 true S (bin Q .sub 31 false true A8 (cu 1)) fun A9=>hG A1 true S (bin Q .eql 31 false false A6 A9) fun C0=>hld S (pick A1 C0 cF) fun C1=>hG C1 true S (aT Q 54 u 2) fun C2=>hG C1 true S (ld Q 35 C2) fun C3=>hG C1 true S (ld Q 35 j) fun C4=>xG C1 true (call Q 69 #[C3,C4]) (fun C5=>aG fun S w=>hld S (pick C1 C5 cF) fun C6=>K C6 w) w) w) w.drew) w):Gives Q 98 #[Y5,Z5] w K:=by
 refine aB func98 (by kernel_rfl) ?_;exact mpK h
theorem uV (h:box Q 120 Y5 (fun j=>K (Value.func (Fn.func 263) #[] #[j])) w):Gives Q 252 #[Y5] w K:=by
 refine aB func252 (by kernel_rfl) ?_;exact mpK h
def iW (Y:YB)(l_:Nat)(K:KV):KE:=rl Q Y l_ (cd f263 [1,0]) (rk f263 K) (xx xf (rk f263 K) 0) (rk f263 K)
theorem tU {Y:YB}(h:ld Q 120 Z5 (fun A1=>lN 120 A1 fun A2=>bin Q .sub 3 false true A2 (ci 1) fun A3=>iW Y b K [Y5,Z5,uu,A3,A1,A2,A3,uu,uu,uu,uu,uu,uu,uu,uu,uu,uu,uu,uu]) w):yc Q Y b 263 [Y5,Z5] w K:=by
 refine QH (goK func263) func263 (by kernel_rfl) ?_;revert h;delta iW;exact mpF
theorem sU {Y:YB}(J:xe Y)(Inv:Value→World→Prop)(μ:Value→World→Nat)(I:Inv W6 w)(M:∀(j:Value) (dd:Nat→Value) (w:World) (m:Nat),Inv j w→m=μ j w →
  bin Q .geq 3 false true j (ci 0) (fun B7 w=>cond B7 (ld Q 120 Z5 (fun Z7=>aV Q 120 Z7 j fun K8=>ld Q 31 K8 fun W8=>Im Q Y b Y5 #[j,W8] fun X8=>un Q .not X8 fun Y8 w=>cond Y8 (K (Value.tuple #[]) w) (bin Q .sub 3 false true j (ci 1) (fun W7 w=>(Inv W7 w)∧((μ W7 w)<m)) w)) w) (K (Value.tuple #[]) w)) w):iW Y b K [Y5,Z5,K6,W6,X6,Y6,Z6,u7,B7,K7,W7,X7,Y7,Z7,B8,K8,W8,X8,Y8] w:=by
 refine IP J (cd f263 [1,0,0]) (zr [(3,1),(7,12)]) (by kernel_rfl) (vP [3] Inv) (vQ [3] μ) I ?_;intro e' w' hI;have h:=M _ (fun i=>gd e' i) w' _ hI rfl;exact mpK h
attribute [irreducible] iW
theorem uW (h:call Q 264 #[Y5,Z5] (fun A4=>bin Q .geq 3 false true A4 (ci 0) K) w):Gives Q 253 #[Y5,Z5] w K:=by
 refine aB func253 (by kernel_rfl) ?_;exact mpK h
def kR (s0 v1 s2 i5 A4 A5:Value)(zf:Nat→Value):List Value:=s0::v1::s2::zf 3::zf 4::i5::zf 6::A4::A5::zT zf 9 10 ([])
def dc (K:KV):KE:=ae Q (cd f264 [1,1]) (rk f264 K) xf (rk f264 K)
def km (K:KV):KE:=ae Q (cd f264 [1,0,1,0]) (dc K) (xx xf (dc K) 0) (rk f264 K)
theorem wg (h:lN 120 Y5 (fun X6=>km K (kR Y5 Z5 uu uu X6 (ci 0) (zV (zV zu 4 [ci 0]) 6 [Y5]))) w):Gives Q 264 #[Y5,Z5] w K:=by
 refine aB func264 (by kernel_rfl) ?_;revert h;delta km dc;exact mpF
theorem vi (Inv:Value→World→Prop)(μ:Value→World→Nat)(I:Inv Y6 w)(J:∀(j:Value) (dd:Nat→Value) (w:World) (m:Nat),Inv j w→m=μ j w →
  lS j X6 (fun A6 w=>cond A6 (aV Q 120 Y5 j (fun C1=>ld Q 31 C1 fun C2=>bin Q .eql 31 false false Z5 C2 fun C3 w=>cond C3 (K j w) (nC j (fun C5 w=>(Inv C5 w)∧((μ C5 w)<m)) w)) w) (dc K (kR Y5 Z5 K6 (dd 5) X6 j (zV dd 9 [A6])) w)) w):km K (kR Y5 Z5 K6 W6 X6 Y6 zf) w:=by
 refine aL (cd f264 (b1 52)) (zr [(4,2),(8,11)]) (by kernel_rfl) (vP [8] Inv) (vQ [8] μ) I ?_;intro e' w' hI;have h:=J _ (zM zf (fun i=>gd e' i) (zr [(4,2),(8,11)])) w' _ hI rfl;revert h;generalize (dc K)=qc0;exact mpF
theorem vj (h:K (ci (-1)) w):dc K (kR Y5 Z5 K6 W6 X6 Y6 zf) w:=by
 delta dc;exact mpK h
attribute [irreducible] dc km
end
section
section
variable {S T:List (Int×Int)}{rk:Int→Nat}
theorem NT (u:TK T rk):∀(f:Nat) (id:Int),(cB T f id).length≤upT T rk id
 | 0,_=>Nat.zero_le _
 | f+1,id=>by
  cases h:cr T id with
  | false=>simp[cB,h]
  | true =>
   have C:=NT u f (eE T id);have j:=uZ u (ny h);have j:upT T rk (eE T id)<upT T rk id:=j;simp only[cB,h,if_true,List.length_cons];omega
theorem Ul (J:(T.map (·.1)).Nodup):∀x∈T,∀y∈T,x.1=y.1→x=y:=by
 intro x M y O h;obtain⟨i,hi,rfl⟩:=List.getElem_of_mem M;obtain⟨j,C,rfl⟩:=List.getElem_of_mem O;have I:=List.pairwise_iff_getElem.1 J;rcases Nat.lt_trichotomy i j with u|u|u
 ·exact absurd (by rw[List.getElem_map,List.getElem_map];exact h) (I i j (by simpa using hi) (by simpa using C) u)
 ·subst u;rfl
 ·exact absurd (by rw[List.getElem_map,List.getElem_map];exact h.symm) (I j i (by simpa using C) (by simpa using hi) u)
theorem insA_fst {L:List (Int×Int)}{z:Int×Int}:((fl L i z).map (·.1)).Perm (z.1::L.map (·.1)):=by
 unfold fl;rw[List.map_append,List.map_cons];refine List.perm_middle.trans ?_;rw[←List.map_append,List.take_append_drop]
structure RI (T S:List (Int×Int)) (l q:List Int):Prop where
 tk:∃rk,TK S rk
 ids:(S.map (·.1)).Perm l
 nd:l.Nodup
 par:∀n∈q,n∈l∧eE S n=eE T n
theorem RI.nil :RI T [] [] []:=⟨⟨_,TK.nil⟩,.refl _,List.nodup_nil,by simp⟩
theorem RI.has {l q:List Int}(h:RI T S l q){n:Int}:cr S n=true↔n∈l:=by
 rw[jE, ←h.ids.mem_iff,List.mem_map]
theorem RI.len {l q:List Int}(h:RI T S l q):S.length=l.length:=by
 have:=h.ids.length_eq;simpa using this
theorem RI.add {l q:List Int}(h:RI T S l q){n:Int}(h0:n≠0)(hn:n∉l)(hx:x=0∨x∈l)(hl:l.length<32)(h4:x=0∨l.length<4):(iX S n x).2=0∧RI T (iX S n x).1 (n::l) q∧(x=eE T n→RI T (iX S n x).1 (n::l) (n::q)):=by
 obtain⟨rk,U⟩:=h.tk;have ag:=h.len;have C:cr S n=false:=by
  cases hq:cr S n with
  | false=>rfl
  | true=>exact absurd (h.has.1 hq) hn
 have hz:cr S 0=false:=by
  cases hq:cr S 0 with
  | false=>rfl
  | true=>obtain⟨y,hy,e⟩:=jE.1 hq;exact absurd e (U.nz y hy)
 have M:x=0∨cr S x=true:=hx.imp id fun O=>h.has.2 O;have ad : ¬(32≤S.length∨4≤(dh S x).length):=by
  have hu:=AM U x;have al:=NT U (S.length+1) x;rintro(O|O)
  ·omega
  ·unfold dh at O;rcases h4 with rfl|h4
   ·rw[cB,hz]at O;simp at O
   ·omega
 have e:iX S n x=(fl S (oG (fun y=>decide (n<y.1)) S S.length) (n,x),0):=by
  unfold iX;rw[if_neg h0,C,if_neg (by simp),if_neg (by rintro⟨a,b⟩;rcases M with c|c;exact a c;rw[c]at b;cases b),if_neg ad]
 generalize oG (fun y=>decide (n<y.1)) S S.length=i at e;have j:((fl S i (n,x)).map (·.1)).Perm (n::l):=insA_fst.trans (h.ids.cons n);have I:(n::l).Nodup:=List.nodup_cons.2 ⟨hn,h.nd⟩;have aa:=Ul (j.nodup_iff.2 I);have u:∀m∈q,m∈n::l∧eE (fl S i (n,x)) m=eE T m:=fun m hm=>by
  obtain⟨a,b⟩:=h.par m hm;refine⟨List.mem_cons_of_mem _ a,?_⟩;rw[←b];exact CG aa (sH.2 (.inr (ny (h.has.2 a))))
 have J:eE (fl S i (n,x)) n=x:=CG aa (sH.2 (.inl rfl));rw[e];refine⟨rfl,⟨⟨_,U.add h0 C M i⟩,j,I,u⟩,fun af=>⟨⟨_,U.add h0 C M i⟩,j,I,fun m hm=>?_⟩⟩;rcases List.mem_cons.1 hm with rfl|hm
 ·exact⟨List.mem_cons_self ..,J.trans af⟩
 ·exact u m hm
theorem Kx (j:∀n,cr S n=cr T n):∀(f:Nat) (id:Int),(∀n∈cB T f id,eE S n=eE T n)→cB S f id=cB T f id
 | 0,_,_=>rfl
 | f+1,id,h=>by
  cases u:cr T id with
  | false=>simp[cB,j,u]
  | true =>
   have e:cB T (f+1) id=id::cB T f (eE T id):=by simp[cB,u]
   rw[e]at h ⊢;have C:=h id (by simp);simp only[cB,j,u,if_true,C];rw[Kx j f (eE T id) fun n I=>h n (by simp[I])]
theorem RI.err {l:List Int}{id:Int}(h:RI T S l (dh T x))(C:l.Perm (T.map (·.1))):(iX S id x).2=(iX T id x).2:=by
 have u:∀n,cr S n=cr T n:=fun n=>by
  rw[Bool.eq_iff_iff,h.has,C.mem_iff,jE,List.mem_map]
 have j:S.length=T.length:=by rw[h.len,C.length_eq,List.length_map]
 have J:dh S x=dh T x:=by
  unfold dh;rw[j];exact Kx u _ _ fun n I=>(h.par n I).2
 unfold iX;rw[u,u,j,J];split
 ·rfl
 split
 ·rfl
 split
 ·rfl
 split<;>rfl
theorem Kw (I:TK T rk):∀(f:Nat) (id:Int),upT T rk id≤f→∀i n,(cB T f id)[i]? = some n→n≠0∧cr T n=true∧((i+1=(cB T f id).length∧eE T n=0)∨(cB T f id)[i+1]? = some (eE T n))
 | 0,_,_,i,n,h=>by simp[cB]at h
 | f+1,id,hu,i,n,h=>by
  cases u:cr T id with
  | false=>simp[cB,u]at h
  | true =>
   have e:cB T (f+1) id=id::cB T f (eE T id):=by simp[cB,u]
   rw[e]at h ⊢;have aa:upT T rk (eE T id)<upT T rk id:=uZ I (ny u);cases i with
   | zero =>
    simp at h;subst h;refine⟨I.nz _ (ny u),u,?_⟩;cases j:cr T (eE T id)with
    | false =>
     left;refine⟨?_,?_⟩
     ·cases f<;>simp[cB,j]
     ·rcases I.up _ (ny u)with O|⟨y,hy,M,_⟩
      ·exact O
      ·rw[jE.2 ⟨y,hy,M⟩]at j;cases j
    | true =>
     right;obtain⟨J,rfl⟩:∃J,f=J+1:=⟨f-1,by
      have:0<upT T rk (eE T id):=by unfold upT;rw[j];exact Nat.succ_pos _
      omega⟩
     simp[cB,j]
   | succ i =>
    simp only[List.getElem?_cons_succ]at h ⊢;obtain⟨U,h2,C⟩:=Kw I f (eE T id) (by omega) i n h;refine⟨U,h2,?_⟩;rcases C with⟨C,h4⟩|C
    ·exact .inl ⟨by simp;omega,h4⟩
    ·exact .inr C
theorem yY (C:TK T rk):∀(f:Nat) (id:Int),(cB T f id).Pairwise fun a b=>upT T rk b<upT T rk a
 | 0,_=>List.Pairwise.nil
 | f+1,id=>by
  cases I:cr T id with
  | false=>simp[cB,I]
  | true =>
   have e:cB T (f+1) id=id::cB T f (eE T id):=by simp[cB,I]
   rw[e,List.pairwise_cons];refine⟨?_,yY C f _⟩;have M:upT T rk (eE T id)<upT T rk id:=uZ C (ny I);have J:∀(f:Nat) (j:Int),∀b∈cB T f j,upT T rk b≤upT T rk j:=by
    intro f
    induction f with
    | zero=>intro j b h;simp[cB]at h
    | succ f ih =>
     intro j b h;cases u:cr T j with
     | false=>simp[cB,u]at h
     | true =>
      simp only[cB,u,if_true,List.mem_cons]at h;rcases h with rfl|h
      ·exact Nat.le_refl _
      ·have:=ih _ _ h
       have O:upT T rk (eE T j)<upT T rk j:=uZ C (ny u);omega
   intro b h
   have:=J f _ b h
   omega
end
end
end Go.Proofs.YtkbhfjljieopoaaGreatDoor
