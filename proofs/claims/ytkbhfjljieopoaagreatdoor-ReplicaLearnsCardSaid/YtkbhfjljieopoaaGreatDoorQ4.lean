import Derived.Test.YtkbhfjljieopoaaGreatDoorQ2
import Derived.Test.YtkbhfjljieopoaaGreatDoorQ1
import Derived.Test.YtkbhfjljieopoaaGreatDoorQ3
import Derived.DeepKeys
namespace Go.Proofs.YtkbhfjljieopoaaGreatDoor
set_option maxRecDepth 100000
set_option maxHeartbeats 4000000
open Go.Proofs.Tryz
variable {w w' w0:World}{K:KV}{zf dd:Nat→Value}{b c n k o B i g p m s j z d f D hi:Nat}{x r v:Int}{A xs ys:List Int}{B1:KE}{a av:Option Addr}{E t e:TypeId}{cs:List Value}{P:Program}{L:List (Int×Int)}{cx cy:Bool}{Y1 Z1 U2 V2 W2 X2 Y2 Z2 U3 V3 W3 X3 Y3 Z3 j4 U4 V4 W4 X4 Y4 Z4 U5 V5 W5 X5 Y5 Z5 K6 T6 U6 V6 W6 X6 Y6:Value}
section
open Go.RowKit
def vF (l0 l1 all2 A0 A1 A2 A7 A8:Value)(zf:Nat→Value):List Value:=l0::l1::all2::zT zf 3 3 (A0::A1::A2::zT zf 9 6 (A7::A8::zT zf 17 6 ([])))
def mT (K:KV):KE:=ae Q (cd f144 [1,1]) (rk f144 K) xf (rk f144 K)
def uJ (K:KV):KE:=ae Q (cd f144 [1,0,1,0]) (mT K) (xx xf (mT K) 0) (rk f144 K)
theorem KW (h:lN 247 Y1 (fun W2=>uJ K (vF Y1 uu (ci 0) Y1 W2 (ci 0) uu uu (zV zu 3 [cF]))) w):Gives Q 144 #[Y1] w K:=by
 refine aB func144 (by kernel_rfl) ?_;revert h;delta uJ mT;exact mpF
theorem Jf (Inv:vI 4)(μ:vM 4)(X:Inv U2 X2 Y2 Z2 w)(Z:∀(d u J M:Value) (dd:Nat→Value) (w:World) (m:Nat),Inv d u J M w→m=μ d u J M w →
  lS u W2 (fun A3 w=>cond A3 (aV Q 247 V2 u (fun A4=>ld Q 2 A4 fun A5=>bin Q .lss 2 false true A5 (ci 0) fun A6 w=>aI A6 false (fun O=>bin Q .gtr 2 false true A5 (ci 1125899906842624) (fun Z2=>O [A5,Z2]) w) (fun k=>k [uu,uu] w) fun j=>pick A6 cT (gd j 1) fun A9 w=>cond A9 (K (Value.tuple #[ci 0,cF]) w) (bin Q .add 2 false false d A5 (fun C2=>nC u fun C3 w=>(Inv C2 C3 (gd j 0) (gd j 1) w)∧((μ C2 C3 (gd j 0) (gd j 1) w)<m)) w)) w) (mT K (vF Y1 Z1 d V2 W2 u J M (zV dd 9 [A3])) w)) w):uJ K (vF Y1 Z1 U2 V2 W2 X2 Y2 Z2 zf) w:=by
 refine aL (cd f144 (b1 52)) (zr [(2,2),(5,1),(8,14)]) (by kernel_rfl) (vP [2,8,15,16] Inv) (vQ [2,8,15,16] μ) X ?_;intro e' w' hI;have h:=Z _ _ _ _ (zM zf (fun i=>gd e' i) (zr [(2,2),(5,1),(8,14)])) w' _ hI rfl;revert h;generalize (mT K)=qc0;exact mpF
theorem Jg (h:K (Value.tuple #[U2,cT]) w):mT K (vF Y1 Z1 U2 V2 W2 X2 Y2 Z2 zf) w:=by
 delta mT;exact mpK h
attribute [irreducible] mT uJ
def oL (r0 k_1 out6 in7 j8 D3 F7:Value)(zf:Nat→Value):List Value:=r0::k_1::zT zf 2 4 (out6::in7::j8::zT zf 9 24 (D3::zT zf 34 40 (F7::zf 75::[])))
def lu (K:KV):KE:=ae Q (cd f104 [1,1,1]) (rk f104 K) xf (rk f104 K)
def oo (K:KV):KE:=ae Q (cd f104 (b1 58)) (lu K) (xx xf (lu K) 0) (rk f104 K)
theorem Je (h:aG (fun S w=>hN S Y1 fun A7=>hF S 50 A7 1 fun A8=>hI S 47 A8 Z1 fun A9=>hL S 2 A9 fun C0=>hN S Y1 fun C4=>hF S 50 C4 0 fun C5=>hI S 47 C5 Z1 fun C6=>hL S 2 C6 fun C7=>hN S Y1 fun C8=>hF S 50 C8 2 fun C9=>hI S 47 C9 Z1 fun D0=>hL S 2 D0 fun D1=>(bT Q 247 1 #[(0,C0)] (fun C1=>aY S fun S=>bT Q 247 2 #[(0,C7),(1,D1)] fun D2=>aY S fun _=>oo K (oL Y1 Z1 C1 D2 uu (ci 0) uu (zV (zV zu 4 [ci 0,cF]) 13 [Y1,Z1,A7,A8,A9,C0,C1,Y1,Z1,C4,C5,C6,C7,Y1,Z1,C8,C9,D0,D1,D2]))) w)∧(bT Q 247 2 #[(0,C7),(1,D1)] (fun D2=>aY S fun _=>bT Q 247 1 #[(0,C0)] fun C1=>aG fun _=>oo K (oL Y1 Z1 C1 D2 uu (ci 0) uu (zV (zV zu 4 [ci 0,cF]) 13 [Y1,Z1,A7,A8,A9,C0,C1,Y1,Z1,C4,C5,C6,C7,Y1,Z1,C8,C9,D0,D1,D2]))) w)) w.drew):Gives Q 104 #[Y1,Z1] w K:=by
 refine aB func104 (by kernel_rfl) ?_;revert h;delta oo lu;exact mpF
theorem Gx (Inv:vI 3)(μ:vM 3)(M:Inv U2 V2 X2 w)(O:∀(d j u:Value) (dd:Nat→Value) (w:World) (m:Nat),Inv d j u w→m=μ d j u w →
  bin Q .lss 3 false true u (ci 6) (fun D4 w=>cond D4 (aG (fun S w=>hN S Y1 fun D5=>hF S 50 D5 3 fun D6=>hI S 48 D6 Z1 fun D7=>hI S 47 D7 u fun D8=>hL S 2 D8 fun D9=>hN S Y1 fun E2=>hF S 50 E2 3 fun E3=>hI S 48 E3 u fun E4=>hI S 47 E4 Z1 fun E5=>hL S 2 E5 fun E6=>(bT Q 247 1 #[(0,D9)] (fun E0=>aY S fun S w=>(blt Q .append #[247,247] 247 #[false,false] #[d,E0] (fun E1=>aY S fun _=>bT Q 247 1 #[(0,E6)] fun E7=>aG fun _=>blt Q .append #[247,247] 247 #[false,false] #[j,E7] fun E8=>aG fun _=>nC u fun E9 w=>(Inv E1 E8 E9 w)∧((μ E1 E8 E9 w)<m)) w)∧(bT Q 247 1 #[(0,E6)] (fun E7=>aG fun _=>blt Q .append #[247,247] 247 #[false,false] #[d,E0] fun E1=>aG fun _=>blt Q .append #[247,247] 247 #[false,false] #[j,E7] fun E8=>aG fun _=>nC u fun E9 w=>(Inv E1 E8 E9 w)∧((μ E1 E8 E9 w)<m)) w)) w)∧(bT Q 247 1 #[(0,E6)] (fun E7=>aY S fun _=>bT Q 247 1 #[(0,D9)] fun E0=>aG fun _=>blt Q .append #[247,247] 247 #[false,false] #[d,E0] fun E1=>aG fun _=>blt Q .append #[247,247] 247 #[false,false] #[j,E7] fun E8=>aG fun _=>nC u fun E9 w=>(Inv E1 E8 E9 w)∧((μ E1 E8 E9 w)<m)) w)) w.drew) (lu K (oL Y1 Z1 d j (dd 8) u Y2 (zV dd 34 [D4])) w)) w):oo K (oL Y1 Z1 U2 V2 W2 X2 Y2 zf) w:=by
 refine aL (cd f104 (b1 116)) (zr [(6,3),(33,26)]) (by kernel_rfl) (vP [6,7,33] Inv) (vQ [6,7,33] μ) M ?_;intro e' w' hI;have h:=O _ _ _ (zM zf (fun i=>gd e' i) (zr [(6,3),(33,26)])) w' _ hI rfl;revert h;generalize (lu K)=qc0;exact mpF
theorem Gy (h:call Q 144 #[U2] (fun F0=>ext Q F0 0 fun F1=>ext Q F0 1 fun F2=>call Q 144 #[V2] fun F3=>ext Q F3 0 fun F4=>ext Q F3 1 fun F5=>bin Q .sub 2 false false F4 F1 fun F6 w=>aI F2 true (fun j=>j [F5] w) (fun k=>k [uu] w) fun d=>pick F2 (gd d 0) cF fun F8=>K (Value.tuple #[F6,F8])) w):lu K (oL Y1 Z1 U2 V2 W2 X2 Y2 zf) w:=by
 delta lu;exact mpK h
attribute [irreducible] lu oo
end
section
attribute [local irreducible] bin un conv call bY blt slc af fld aV idx lkp dO gY eSt rng nxt ent ext alc box bld bT ld sto aU dE mkS ifc pick rdy wts aI sti cond bp Gives ae fh fT cOp
open Go.RowKit
theorem MG {l:List Int}(Z:RV w a n c (l.map iv))(hn:n≤1000)(h:K (.tuple #[iv (mB l).1,.bool (mB l).2]) w):call Tryz.prog 144 #[.slice a n c] K w:=by
 have hl:l.length=n:=by simpa using Z.len
 refine aj (goK func144) (KW ?_);refine bj underlying247 <|Jf (Inv:=fun s i _ _ wr=>∃j:Nat,s=iv (l.take j).sum∧i=.int .i64 (j:Nat)∧j≤n∧wr=w∧(l.take j).all okA=true) (μ:=fun _ i _ _ _=>n-(intOf i).toNat) ⟨0,by simp[iv],rfl,by omega,rfl,by simp⟩ ?_;rintro _ _ _ _ dd _ m ⟨j,rfl,rfl,hj,rfl,d⟩ hm;by_cases ad:j<n
 ·(repeat (first|refine aM ?_|refine ax (by omega) ?_))
  have hv:(l.map iv)[j]? = some (iv (nA l j)):=by
   simp[nA,List.getD,List.getElem?_eq_getElem (show j<l.length by omega)]
  refine NE underlying247 (fun _=>by kernel_rfl) (by omega) (by omega) Z.some_ ?_;rw[Int.toNat_natCast];refine FV (fun _=>by kernel_rfl) (Z.cell _ _ hv) ?_;have hx:nA l j=l[j]:=by simp[nA,List.getD,show j<l.length by omega]
  have u:l.all okA=true→okA (nA l j)=true:=fun h=>by rw[hx];exact List.all_eq_true.1 h _ (List.getElem_mem _)
  have I:okA (nA l j)=false→mB l=(0,false):=fun hb=>by
   unfold mB;cases M:l.all okA with
   | false=>rfl
   | true=>rw[u M]at hb;cases hb
  have ht:l.take (j+1)=l.take j++[nA l j]:=by rw[hx,List.take_append_getElem (by omega)]
  unfold iv;refine aM ?_;by_cases U:nA l j<0
  ·refine jy U <|bO U <|bu ?_
   have:okA (nA l j)=false:=by
    cases M:okA (nA l j)with
    | false=>rfl
    | true=>have:=nu.1 M;omega
   rw[I this]at h;exact h
  ·refine dX U <|de <|bw U ?_;by_cases h1:nA l j>1125899906842624
   ·refine ax h1 ?_
    have:okA (nA l j)=false:=by
     cases M:okA (nA l j)with
     | false=>rfl
     | true=>have:=nu.1 M;simp only[MXA]at this;omega
    rw[I this]at h;exact h
   ·refine aq h1 ?_;have X:okA (nA l j)=true:=nu.2 ⟨by omega,by simp only[MXA];omega⟩;have O:=DV d;have J:(l.take j).length=j:=by rw[List.length_take];omega
    rw[J]at O;simp only[MXA]at O;refine aW (by omega) (by omega) <|aW (by omega) (by omega) ?_;refine⟨⟨j+1,?_,by simp,by omega,rfl,?_⟩,?_⟩
    ·rw[ht];simp[iv]
    ·rw[ht,List.all_append,d];simp[X]
    ·rw[hm];simp[intOf];omega
 ·obtain rfl:j=n:=by omega
  (repeat (first|refine Jg ?_|refine aM ?_|refine aq (by omega) ?_))
  rw[List.take_of_length_le (by omega)]at d ⊢;unfold mB at h;rw[d]at h;exact h
/-! ## Rows of numbers of the call's own. -/
abbrev OI (w:World)(B p n c:Nat)(l:List Int):Prop:=OV w B 2 (some ⟨p,0,none⟩) n c (l.map iv)
theorem OI.lt {l:List Int}(h:OI w B p n c l):B≤p∧p<w.heap.size:=OV.block h p rfl
theorem OI.keep {l:List Int}(h:OI w B p n c l)(d:w'.heap[p]? = w.heap[p]?):OI w' B p n c l:=cJ h fun k e=>by cases e;exact d
theorem bl1 (h:∀w',blk w' w.heap.size 2 [iv x]→Below w.heap.size w w'→w'.heap.size=w.heap.size+1→K (.slice (some ⟨w.heap.size,0,none⟩) 1 1) w'):bT Tryz.prog 247 1 #[(0,iv x)] K w :=
 mY (vs:=[iv x]) underlying247 (s:=1) (by kernel_rfl) (by kernel_rfl) (by omega) rfl (by simp) (by simp) (by simp) (by simp[Value.cells,iv]) fun w' d b s=>h w' (by simpa[iv,Value.cells]using d) b s
theorem bl2 {y:Int}(h:∀w',blk w' w.heap.size 2 [iv x,iv y]→Below w.heap.size w w'→w'.heap.size=w.heap.size+1→K (.slice (some ⟨w.heap.size,0,none⟩) 2 2) w'):bT Tryz.prog 247 2 #[(0,iv x),(1,iv y)] K w :=
 mY (vs:=[iv x,iv y]) underlying247 (s:=1) (by kernel_rfl) (by kernel_rfl) (by omega) rfl (by simp) (by simp) (by simp) (by simp[Value.cells,iv]) fun w' d b s=>h w' (by simpa[iv,Value.cells]using d) b s
theorem Rr :(Tryz.prog.info? 2).map (fun i=>(i.zero,i.size,i.bytes))=some (some (.int .i64 0),1,8):=by kernel_rfl
theorem ap1 {cs:Array Bool}{l:List Int}(ho:OI w B p n c l)(hg:blk w g 2 [iv x])(hB:B≤w.heap.size)(hn:n≤1000)(h:∀d j w',OI w' B d (n+1) j (l++[x])→(d=p∨d=w.heap.size)→(∀k,k<w.heap.size→k≠p→w'.heap[k]? = w.heap[k]?)→Below B w w'→K (.slice (some ⟨d,0,none⟩) (n+1) j) w'):blt Tryz.prog .append #[247,247] E cs #[.slice (some ⟨p,0,none⟩) n c,.slice (some ⟨g,0,none⟩) 1 1] K w:=by
 obtain⟨i,hi,hz,Z,M⟩:=info_parts Rr;refine Uy (base:=B) (s:=1) (m:=1) (ys:=[iv x]) underlying247 hi hz Z M rfl (by omega) ho hg rfl (by simp[iv,Value.oneCell']) (by omega) (by omega) hB ?_;intro a' j w' I u J;have hb:Below B w w':=dW u hB (fun k O=>by cases O;exact ho.lt.1)
 have X:∀k,k<w.heap.size→k≠p→w'.heap[k]? = w.heap[k]? := fun k O U=>u.block k O fun e=>U (by cases e;rfl);have hq:∀d,a'=some ⟨d,0,none⟩→K (.slice a' (n+1) j) w':=by
  rintro d rfl;refine h d j w' (by simpa[OV]using I) ?_ X hb;rcases J with e|e
  ·cases e;exact .inl rfl
  ·cases e;exact .inr rfl
 rcases I.2 with⟨hv,ag⟩|⟨g',cap,ad,hv,_⟩
 ·omega
 ·simp only[Value.slice.injEq]at hv;exact hq g' hv.1
structure RtA (w:World) (b o:Nat) (E:TypeId) (cs:List Value) (A:List Int):Prop where
 bk:blk w b E cs
 cut:(cs.drop o).take 54=A.map iv
 len:A.length=54
theorem RtA.get (h:RtA w b o E cs A)(hi:i<54):cs[o+i]? = some (iv (nA A i)):=by
 have d:((cs.drop o).take 54)[i]? = (A.map iv)[i]? := by rw[h.cut]
 rw[List.getElem?_take_of_lt hi,List.getElem?_drop]at d;rw[d]
 have:=h.len
 simp[nA,List.getD,show i<A.length by omega]
theorem RtA.below (h:RtA w b o E cs A)(j:Below B w w')(d:b<B):RtA w' b o E cs A:=⟨ac j h.bk d,h.cut,h.len⟩
theorem PZ (A:List Int)(k j:Nat):re A k (j+1)=re A k j++[nA A (18+6*k+j)]:=by simp[re,List.range_succ]
theorem Rp (A:List Int)(k j:Nat):inL A k (j+1)=inL A k j++[nA A (18+6*j+k)]:=by simp[inL,List.range_succ]
theorem RY (A:List Int)(k j:Nat):(re A k j).length=1+j:=by simp[re];omega
theorem Tt (A:List Int)(k j:Nat):(inL A k j).length=2+j:=by simp[inL];omega
def Two (w:World)(B p n c q m d:Nat)(l r:List Int):Prop:=p≠q∧OI w B p n c l∧OI w B q m d r
theorem Two.bel {q:Nat}{l r:List Int}(h:Two w B p n c q m d l r)(j:Below w.heap.size w w'):Two w' B p n c q m d l r :=
 ⟨h.1,h.2.1.keep (j.block _ h.2.1.lt.2),h.2.2.keep (j.block _ h.2.2.lt.2)⟩
theorem apL {cs:Array Bool}{q:Nat}{l r:List Int}(O:Two w B p n c q m d l r)(Z:blk w g 2 [iv x])(U:B≤w.heap.size)(hn:n≤1000)(h:∀u j w',Two w' B u (n+1) j q m d (l++[x]) r→(∀k,k<w.heap.size→k≠p→w'.heap[k]? = w.heap[k]?)→Below B w w'→K (.slice (some ⟨u,0,none⟩) (n+1) j) w'):blt Tryz.prog .append #[247,247] E cs #[.slice (some ⟨p,0,none⟩) n c,.slice (some ⟨g,0,none⟩) 1 1] K w:=by
 obtain⟨I,hl,J⟩:=O;refine ap1 hl Z U hn fun u j w' ho hp M X=>h u j w' ⟨?_,ho,J.keep (M q J.lt.2 (Ne.symm I))⟩ M X
 have:=J.lt
 rcases hp with rfl|rfl<;>omega
theorem apR {cs:Array Bool}{q:Nat}{l r:List Int}(O:Two w B p n c q m d l r)(Z:blk w g 2 [iv x])(U:B≤w.heap.size)(hn:m≤1000)(h:∀u j w',Two w' B p n c u (m+1) j l (r++[x])→(∀k,k<w.heap.size→k≠q→w'.heap[k]? = w.heap[k]?)→Below B w w'→K (.slice (some ⟨u,0,none⟩) (m+1) j) w'):blt Tryz.prog .append #[247,247] E cs #[.slice (some ⟨q,0,none⟩) m d,.slice (some ⟨g,0,none⟩) 1 1] K w:=by
 obtain⟨J,I,hr⟩:=O;refine ap1 hr Z U hn fun u j w' ho hp M X=>h u j w' ⟨?_,I.keep (M p I.lt.2 J),ho⟩ M X
 have:=I.lt
 rcases hp with rfl|rfl<;>omega
theorem IN {q:Nat}(hA:RtA w b o E cs A)(X:b<B)(hB:B≤w.heap.size)(hk:k<6)(h2:Two w B p 1 1 q 2 2 (re A k 0) (inL A k 0))(h:∀w',Below B w w'→K (.tuple #[iv (pk A k).1,.bool (pk A k).2]) w')(e0:Y1=.pointer (some ⟨b,o,none⟩))(e1:Z1=.int .i64 (k:Nat))(e2:U2=.slice (some ⟨p,0,none⟩) 1 1)(e3:V2=.slice (some ⟨q,0,none⟩) 2 2)(e4:X2=.int .i64 0):oo K ((oL Y1 Z1 U2 V2 W2 X2 Y2 zf)) w:=by
 subst e0 e1 e2 e3 e4;refine Gx (Inv:=fun a c i wr=>∃(j p q c1 d1:Nat),j≤6∧a=.slice (some ⟨p,0,none⟩) (1+j) c1∧c=.slice (some ⟨q,0,none⟩) (2+j) d1∧i=.int .i64 (j:Nat)∧Two wr B p (1+j) c1 q (2+j) d1 (re A k j) (inL A k j)∧Below B w wr)
  (μ:=fun _ _ i _=>6-(intOf i).toNat) ⟨0,p,q,1,2,by omega,rfl,rfl,rfl,h2,Below.refl _ _⟩ ?_
 rintro _ _ _ dd J m ⟨j,p1,q1,c1,d1,hj,rfl,rfl,rfl,ht,U⟩ hm;have u:RtA J b o E cs A:=hA.below U X;have ap:B≤J.heap.size:=Nat.le_trans hB U.size;refine aM ?_;by_cases az:j<6
 ·refine ax (by omega) ?_;have ad:∀{p2 q2 c2 d2:Nat} {w2:World},Two w2 B p2 (1+j+1) c2 q2 (2+j+1) d2 (re A k j++[nA A (18+6*k+j)]) (inL A k j++[nA A (18+6*j+k)])→Below B J w2 →
    (∃(j' p q c1 d1:Nat),j'≤6∧Value.slice (some ⟨p2,0,none⟩) (1+j+1) c2=.slice (some ⟨p,0,none⟩) (1+j') c1∧Value.slice (some ⟨q2,0,none⟩) (2+j+1) d2=.slice (some ⟨q,0,none⟩) (2+j') d1∧Value.int .i64 ((j:Int)+1)=.int .i64 (j':Nat)∧Two w2 B p (1+j') c1 q (2+j') d1 (re A k j') (inL A k j')∧Below B w w2) ∧
     6-(intOf (.int .i64 ((j:Int)+1))).toNat<m:=by
   intro p2 q2 c2 d2 w2 av ar;refine⟨⟨j+1,p2,q2,c2,d2,by omega,rfl,rfl,by simp,?_,U.trans ar⟩,by rw[hm];simp[intOf];omega⟩;rw[PZ,Rp];exact av
  have sB:∀{wa wb:World},B≤wa.heap.size→Below wa.heap.size wa wb→Below B wa wb:=fun h hb=>hb.mono h
  refine aw (fun x=>RtA x b o E cs A) ⟨u.bk.drew,u.cut,u.len⟩ <|ab (fun x I _=>ai) <|ab (fun x I _=>aK (off:=18) (by kernel_rfl)) <|ab (fun x I _=>eO underlying48 (s:=6) (fun _=>by kernel_rfl) (by omega) (by omega)) <|ab (fun x I _=>eO underlying47 (s:=1) (fun _=>by kernel_rfl) (by omega) (by omega)) <|ab (v:=iv (nA A (18+6*k+j))) (fun x I _=>lK I.bk (by rw[←I.get (i:=18+6*k+j) (by omega)];congr 1;simp;omega)) <|ab (fun x I _=>ai) <|ab (fun x I _=>aK (off:=18) (by kernel_rfl)) <|ab (fun x I _=>eO underlying48 (s:=6) (fun _=>by kernel_rfl) (by omega) (by omega)) <|ab (fun x I _=>eO underlying47 (s:=1) (fun _=>by kernel_rfl) (by omega) (by omega)) <|ab (v:=iv (nA A (18+6*j+k))) (fun x I _=>lK I.bk (by rw[←I.get (i:=18+6*j+k) (by omega)];congr 1;simp;omega)) ?_
  have am:Two J.drew B p1 (1+j) c1 q1 (2+j) d1 (re A k j) (inL A k j):=ht;have O:B≤J.drew.heap.size:=ap;have al:RtA J.drew b o E cs A:=⟨u.bk.drew,u.cut,u.len⟩
  have b0:Below B J J.drew:=(Below.refl B J).drew;generalize J.drew=w2 at *;refine⟨?_,?_⟩
  ·refine bl1 fun w3 g3 b3 s3=>?_;have t3:=am.bel b3;have B3:B≤w3.heap.size:=by omega
   have Z:=b0.trans (sB O b3);refine aE (al.below (sB O b3) X) ?_;refine⟨?_,?_⟩
   ·refine apL t3 g3 B3 (by omega) fun p4 c4 w4 t4 k4 M=>?_;refine aE ((al.below (sB O b3) X).below M X) ?_;refine bl1 fun w5 g5 b5 s5=>?_;have B4:=Nat.le_trans B3 M.size;refine aw (fun _=>True) trivial ?_;refine apR (t4.bel b5) g5 (by omega) (by omega) fun q6 d6 w6 t6 k6 b6=>?_;refine aw (fun _=>True) trivial <|aW (by omega) (by omega) ?_
    exact ad t6 (((Z.trans M).trans (sB B4 b5)).trans b6)
   ·refine bl1 fun w4 g4 M s4=>?_;refine aw (fun _=>True) trivial ?_;have ag:blk w4 w2.heap.size 2 [iv (nA A (18+6*k+j))]:=ac M g3 (by omega);refine apL (t3.bel M) ag (by omega) (by omega) fun p5 c5 w5 t5 k5 b5=>?_;refine aw (fun _=>True) trivial ?_;have an:blk w5 w3.heap.size 2 [iv (nA A (18+6*j+k))]:=by
     unfold blk;rw[k5 _ (by omega) (by have:=t3.2.1.lt;omega)];exact g4
    refine apR t5 an (by have:=b5.size;omega) (by omega) fun q6 d6 w6 t6 k6 b6=>?_;refine aw (fun _=>True) trivial <|aW (by omega) (by omega) ?_;exact ad t6 (((Z.trans (sB B3 M)).trans b5).trans b6)
  ·refine bl1 fun w3 g3 b3 s3=>?_;have t3:=am.bel b3;have B3:B≤w3.heap.size:=by omega
   have Z:=b0.trans (sB O b3);refine aE (al.below (sB O b3) X) ?_;refine bl1 fun w4 g4 M s4=>?_;refine aw (fun _=>True) trivial ?_;refine apL (t3.bel M) g4 (by omega) (by omega) fun p5 c5 w5 t5 k5 b5=>?_;refine aw (fun _=>True) trivial ?_;have ag:blk w5 w2.heap.size 2 [iv (nA A (18+6*j+k))]:=by
    unfold blk;rw[k5 _ (by omega) (by have:=am.2.1.lt;omega)];exact ac M g3 (by omega)
   refine apR t5 ag (by have:=b5.size;omega) (by omega) fun q6 d6 w6 t6 k6 b6=>?_;refine aw (fun _=>True) trivial <|aW (by omega) (by omega) ?_;exact ad t6 (((Z.trans (sB B3 M)).trans b5).trans b6)
 ·obtain rfl:j=6:=by omega
  refine aq (by omega) <|Gy <|MG ht.2.1.rv (by omega) <|cZ <|db <|MG ht.2.2.rv (by omega) <|cZ <|db ?_;have bd:∀l:List Int,l.length≤8→0≤(mB l).1∧(mB l).1≤9007199254740992:=by
   intro l hl;unfold mB;cases hq:l.all okA with
   | false=>simp
   | true =>
    have:=DV hq
    simp only[MXA]at this;simp only;omega
  have h1:=bd (re A k 6) (by rw[RY];omega);have h3:=bd (inL A k 6) (by rw[Tt];omega);unfold iv at *;refine bh (by omega) (by omega) ?_;have hl:pk A k=((mB (inL A k 6)).1-(mB (re A k 6)).1,(mB (re A k 6)).2&&(mB (inL A k 6)).2):=rfl;cases hq:(mB (re A k 6)).2 with
  | true =>
   refine kS <|bX ?_;rw[hl,hq]at h;exact h J U
  | false =>
   refine mE <|ex ?_;rw[hl,hq]at h;exact h J U
theorem NL (u:RtA w b o E cs A)(hk:k<6)(h:∀w',Below w.heap.size w w'→K (.tuple #[iv (pk A k).1,.bool (pk A k).2]) w'):call Tryz.prog 104 #[.pointer (some ⟨b,o,none⟩),.int .i64 (k:Nat)] K w:=by
 have I:=u.bk.lt;refine aj (goK func104) (Je ?_)
 refine aw (fun x=>RtA x b o E cs A) ⟨u.bk.drew,u.cut,u.len⟩ <|ab (fun x j _=>ai) <|ab (fun x j _=>aK (off:=6) (by kernel_rfl)) <|ab (fun x j _=>eO underlying47 (s:=1) (fun _=>by kernel_rfl) (by omega) (by omega)) <|ab (v:=iv (nA A (6+k))) (fun x j _=>lK j.bk (by rw[←j.get (i:=6+k) (by omega)];congr 1;simp;omega)) <|ab (fun x j _=>ai) <|ab (fun x j _=>aK (off:=0) (by kernel_rfl)) <|ab (fun x j _=>eO underlying47 (s:=1) (fun _=>by kernel_rfl) (by omega) (by omega)) <|ab (v:=iv (nA A k)) (fun x j _=>lK j.bk (by rw[←j.get (i:=k) (by omega)];congr 1;simp)) <|ab (fun x j _=>ai) <|ab (fun x j _=>aK (off:=12) (by kernel_rfl)) <|ab (fun x j _=>eO underlying47 (s:=1) (fun _=>by kernel_rfl) (by omega) (by omega)) <|ab (v:=iv (nA A (12+k))) (fun x j _=>lK j.bk (by rw[←j.get (i:=12+k) (by omega)];congr 1;simp;omega)) ?_
 have O:RtA w.drew b o E cs A:=⟨u.bk.drew,u.cut,u.len⟩
 have X:Below w.heap.size w w.drew:=(Below.refl _ w).drew;have s0:w.drew.heap.size=w.heap.size:=rfl;generalize w.drew=w2 at *;have U:∀{p q:Nat} {wz:World},p≠q→blk wz p 2 [iv (nA A (6+k))]→blk wz q 2 [iv (nA A k),iv (nA A (12+k))]→w.heap.size≤p→w.heap.size≤q→Two wz w.heap.size p 1 1 q 2 2 (re A k 0) (inL A k 0) :=
  fun ad hp hq h1 h2=>⟨ad,Qa hp rfl h1 (by simp[maxLen]),Qa hq rfl h2 (by simp[maxLen])⟩
 refine⟨?_,?_⟩
 ·refine bl1 fun w3 Z J s3=>?_;refine aE (O.below J (by omega)) ?_;refine bl2 fun w4 g4 M s4=>?_;refine aE ((O.below J (by omega)).below M (by omega)) ?_;refine IN ((u.below X I).below (J.trans (M.mono (by omega))) (by omega)) I (by omega) hk (U (by omega) (ac M Z (by omega)) g4 (by omega) (by omega)) (fun w' hb=>h w' ?_) rfl rfl rfl rfl rfl
  exact((X.trans (J.mono (by omega))).trans (M.mono (by omega))).trans hb
 ·refine bl2 fun w3 Z J s3=>?_;refine aE (O.below J (by omega)) ?_;refine bl1 fun w4 g4 M s4=>?_;refine aw (fun _=>True) trivial ?_;refine IN ((u.below X I).below (J.trans (M.mono (by omega))) (by omega)) I (by omega) hk (U (by omega) g4 (ac M Z (by omega)) (by omega) (by omega)) (fun w' hb=>h w' ?_) rfl rfl rfl rfl rfl
  exact((X.trans (J.mono (by omega))).trans (M.mono (by omega))).trans hb
end
section
open Go.RowKit
theorem HQ (h:bin Q .geq 3 false true Y1 (ci 1) (fun A0 w=>aI A0 true (fun j=>bin Q .leq 3 false true Y1 (ci 6) (fun A1=>j [Y1,A1]) w) (fun k=>k [uu,uu] w) fun d=>pick A0 (gd d 1) cF K) w):Gives Q 102 #[Y1] w K:=by
 refine aB func102 (by kernel_rfl) ?_;exact mpK h
def vE (r0 r1 A2 C1 C2 C4 C5 C6 C7 C8 C9 D0 D1 D2 D4 D5 D6 D7 D8 D9 E0 E8 E9:Value)(zf:Nat→Value):List Value:=r0::r1::zT zf 2 6 (A2::zT zf 9 10 (C1::C2::zf 21::zf 22::C4::C5::C6::C7::C8::C9::D0::D1::D2::zf 32::zf 33::D4::D5::D6::D7::D8::D9::E0::zT zf 41 10 (E8::E9::zf 53::[])))
def mS (K:KV):KE:=ae Q (cd f103 [1,1]) (rk f103 K) xf (rk f103 K)
def uI (K:KV):KE:=ae Q (cd f103 [1,0,1,0]) (mS K) (xx xf (mS K) 0) (rk f103 K)
theorem KU (h:box Q 50 Y1 (fun Z1=>uI K (vE Y1 Z1 (ci 0) uu uu uu uu uu uu uu uu uu uu uu uu uu uu uu uu uu uu uu uu (zV zu 2 [cF]))) w):Gives Q 103 #[Y1] w K:=by
 refine aB func103 (by kernel_rfl) ?_;revert h;delta uI mS;exact mpF
theorem Jc (Inv:vI 19)(μ:vM 19)(h0:Inv U2 V2 W2 X2 Y2 Z2 U3 V3 W3 X3 Y3 Z3 j4 U4 V4 W4 X4 Y4 Z4 w)(hs:∀(I M O U X Z ad ag al am an ap ar av az aS a0 a2 a3:Value) (dd:Nat→Value) (w:World) (m:Nat),Inv I M O U X Z ad ag al am an ap ar av az aS a0 a2 a3 w→m=μ I M O U X Z ad ag al am an ap ar av az aS a0 a2 a3 w →
  bin Q .lss 3 false true I (ci 6) (fun A3 w=>cond A3 (call Q 104 #[Z1,I] (fun A6=>ext Q A6 0 fun A7=>ext Q A6 1 fun A8 w=>sti (un Q .not A8) (fun A9 w=>aI A9 false (fun a4=>sti (bin Q .lss 2 false true A7 (ci 0)) (fun W2=>a4 [A7,W2]) w) (fun k=>k [uu,uu] w) fun J=>sti (pick A9 cT (gd J 1)) fun C3 w=>aI C3 false (fun a6=>sF 50 Z1 2 (fun Y2=>sI 47 Y2 I fun Z2=>sL 2 Z2 fun U3=>sF 50 Z1 1 fun W3=>sI 47 W3 I fun X3=>sL 2 X3 fun Y3=>sti (bin Q .gtr 2 false false U3 Y3) fun Z3=>a6 [I,Y2,Z2,U3,I,W3,X3,Y3,Z3]) w) (fun k=>k [uu,uu,uu,uu,uu,uu,uu,uu,uu] w) fun d=>sti (pick C3 cT (gd d 8)) fun D3 w=>aI D3 false (fun a7=>sF 50 Z1 3 (fun V4=>sI 48 V4 I fun W4=>sI 47 W4 I fun X4=>sL 2 X4 fun Y4=>sti (bin Q .neq 2 false true Y4 (ci 0)) fun Z4=>a7 [I,I,V4,W4,X4,Y4,Z4]) w) (fun k=>k [uu,uu,uu,uu,uu,uu,uu] w) fun j=>sti (pick D3 cT (gd j 6)) fun E1 w=>cond E1 (K cF w) (nC I (fun E2 w=>(Inv E2 (gd J 0) (gd J 1) (gd d 0) (gd d 1) (gd d 2) (gd d 3) (gd d 4) (gd d 5) (gd d 6) (gd d 7) (gd d 8) (gd j 0) (gd j 1) (gd j 2) (gd j 3) (gd j 4) (gd j 5) (gd j 6) w)∧((μ E2 (gd J 0) (gd J 1) (gd d 0) (gd d 1) (gd d 2) (gd d 3) (gd d 4) (gd d 5) (gd d 6) (gd d 7) (gd d 8) (gd j 0) (gd j 1) (gd j 2) (gd j 3) (gd j 4) (gd j 5) (gd j 6) w)<m)) w)) w.drew) w) (mS K (vE Y1 Z1 I M O U X Z ad ag al am an ap ar av az aS a0 a2 a3 U5 V5 (zV dd 9 [A3])) w)) w):uI K (vE Y1 Z1 U2 V2 W2 X2 Y2 Z2 U3 V3 W3 X3 Y3 Z3 j4 U4 V4 W4 X4 Y4 Z4 U5 V5 zf) w:=by
 refine aL (cd f103 (b1 52)) (zr [(2,4),(8,35)]) (by kernel_rfl) (vP [8,19,20,23,24,25,26,27,28,29,30,31,34,35,36,37,38,39,40] Inv) (vQ [8,19,20,23,24,25,26,27,28,29,30,31,34,35,36,37,38,39,40] μ) h0 ?_;intro e' w' hI;have h:=hs _ _ _ _ _ _ _ _ _ _ _ _ _ _ _ _ _ _ _ (zM zf (fun i=>gd e' i) (zr [(2,4),(8,35)])) w' _ hI rfl;revert h;generalize (mS K)=qc0;exact mpF
theorem Jd (h:af Q 50 Z1 0 (fun E3=>slc Q 47 E3 none none none fun E4=>call Q 144 #[E4] fun E5=>ext Q E5 0 fun E6=>ext Q E5 1 fun E7 w=>aI E7 true (fun j=>bin Q .leq 2 false true E6 (ci 1125899906842624) (fun V5=>j [E6,V5]) w) (fun k=>k [uu,uu] w) fun d=>pick E7 (gd d 1) cF K) w):mS K (vE Y1 Z1 U2 V2 W2 X2 Y2 Z2 U3 V3 W3 X3 Y3 Z3 j4 U4 V4 W4 X4 Y4 Z4 U5 V5 zf) w:=by
 delta mS;exact mpK h
attribute [irreducible] mS uI
theorem Jb (h:box Q 50 Y1 (fun u=>call Q 102 #[Z1] fun A2=>un Q .not A2 fun A3 w=>aI A3 false (fun j=>ld Q 50 u (fun A4=>call Q 103 #[A4] fun A5=>un Q .not A5 fun A6=>j [A4,A5,A6]) w) (fun k=>k [uu,uu,uu] w) fun d=>pick A3 cT (gd d 2) fun A7 w=>cond A7 (K (ci 0) w) (bin Q .sub 3 false true Z1 (ci 1) (fun A9=>call Q 104 #[u,A9] fun C0=>ext Q C0 0 fun C1=>ext Q C0 1 fun _=>K C1) w)) w):Gives Q 63 #[Y1,Z1] w K:=by
 refine aB func63 (by kernel_rfl) ?_;exact mpK h
end
section
attribute [local irreducible] bin un conv call bY blt slc af fld aV idx lkp dO gY eSt rng nxt ent ext alc box bld bT ld sto aU dE mkS ifc pick rdy wts aI sti cond bp Gives ae fh fT cOp
open Go.RowKit
def okM (A:List Int)(k:Nat):Bool:=(pk A k).2&&decide (0≤(pk A k).1)&&decide (nA A (12+k)≤nA A (6+k))&&decide (nA A (18+6*k+k)=0)
theorem NN (A:List Int):yD A=((List.range 6).all (okM A)&&((mB (gL A)).2&&decide ((mB (gL A)).1≤MXA))):=rfl
theorem RJ (d:k<6)(h:okM A k=false):yD A=false:=by
 rw[NN]
 have:(List.range 6).all (okM A)=false:=by
  cases j:(List.range 6).all (okM A)with
  | false=>rfl
  | true=>have:=List.all_eq_true.1 j k (by simpa using d);rw[this]at h;cases h
 rw[this];rfl
theorem PO (h:∀j,j<6→okM A j=true):yD A=((mB (gL A)).2&&decide ((mB (gL A)).1≤MXA)):=by
 rw[NN]
 have:(List.range 6).all (okM A)=true:=List.all_eq_true.2 fun k d=>h k (by simpa using d)
 rw[this];rfl
theorem Qs (u:P.underlying t=some (.array n e))(j:∀w,(sizeOf e).run P w=.ok s w)(h:K (.slice (some ⟨b,o,none⟩) n n) w):slc P t (.pointer (some ⟨b,o,none⟩)) none none none K w:=by
 unfold slc;refine gZ (w':=w) ?_ h;simp only[Instr.sliceAt,Instr.sureAddr,Instr.sliceBounds,Sem.run_bind,Sem.run_pure,Result.andThen_ok,run_underlying u,j];by_cases d:n=0<;>simp[d,Addr.add]
theorem RtA.rvG (h:RtA w b 0 E cs A):RV w (some ⟨b,0,none⟩) 6 6 ((gL A).map iv) :=
 ⟨by simp[gL],Nat.le_refl _,fun _=>⟨b,0,rfl⟩,(fun h=>by cases h),fun i v d=>by
  have hi:i<6:=by have:=(List.getElem?_eq_some_iff.1 d).1;simpa[gL]using this
  rw[show vL (some ⟨b,0,none⟩) i=⟨b,0+i,none⟩from rfl,h.bk.cell,h.get (by omega)];rw[←d];simp[gL,hi]⟩
theorem AE {i:Int}(h:K (.bool (bK i)) w):call Tryz.prog 102 #[.int .i64 i] K w:=by
 refine aj (goK func102) (HQ ?_);unfold bK at h;refine bM ?_;by_cases d:i≥1
 ·refine dD d <|fU <|bO d ?_;rw[show decide (1≤i)=true from decide_eq_true d,Bool.true_and]at h;exact h
 ·refine dY d <|bw d ?_;rw[show decide (1≤i)=false from decide_eq_false d,Bool.false_and]at h;exact h
theorem Ql (hA:A.length=54)(h:∀w',Below w.heap.size w w'→K (.bool (yD A)) w'):call Tryz.prog 103 #[.agg (A.map iv).toArray] K w:=by
 refine aj (goK func103) (KU ?_);refine cv fun U hb b1 s1=>?_;have hb:blk U w.heap.size 50 (A.map iv):=by simpa[Value.cells]using hb
 have hR:RtA U w.heap.size 0 50 (A.map iv) A:=⟨hb,by rw[List.drop_zero,List.take_of_length_le (by simp[hA])],hA⟩
 have X:=hb.lt;refine Jc (Inv:=fun i _ _ _ _ _ _ _ _ _ _ _ _ _ _ _ _ _ _ wr=>∃k:Nat,i=.int .i64 (k:Nat)∧k≤6∧Below U.heap.size U wr∧∀j,j<k→okM A j=true)
  (μ:=fun i _ _ _ _ _ _ _ _ _ _ _ _ _ _ _ _ _ _ _=>6-(intOf i).toNat) ⟨0,rfl,by omega,Below.refl _ _,fun j hj=>by omega⟩ ?_
 rintro _ _ _ _ _ _ _ _ _ _ _ _ _ _ _ _ _ _ _ dd w2 m ⟨k,rfl,ag,b2,J⟩ hm;have M:=hR.below b2 X;have Z:=b2.size;refine aM ?_;by_cases hk:k<6
 ·refine ax (by omega) ?_;refine NL M hk fun w3 b3=>?_;refine cZ <|db ?_;have I:RtA w3.drew w.heap.size 0 50 (A.map iv) A:=by have:=M.below b3 (by omega);exact⟨this.bk.drew,this.cut,this.len⟩
  have hB:Below U.heap.size U w3.drew:=(b2.trans (b3.mono Z)).drew;have no:okM A k=false→K (.bool false) w3.drew:=fun O=>by
   have:=h w3.drew (b1.trans (hB.mono (by omega)))
   rw[RJ hk O]at this;exact this
  generalize w3.drew=w4 at *;cases O:(pk A k).2 with
  | false =>
   refine aa (fun _=>dB) <|fV <|aa (fun _=>bX) <|fV <|aa (fun _=>bX) <|fV <|aa (fun _=>bX) <|bu ?_;exact no (by unfold okM;rw[O];rfl)
  | true =>
   refine aa (fun _=>dB) <|lR ?_;unfold iv;refine aa (fun _=>aM) <|aa (fun _=>ex) ?_;by_cases h0:(pk A k).1<0
   ·refine jy h0 <|aa (fun _=>bO h0) <|fV <|aa (fun _=>bX) <|bu <|no ?_;unfold okM;rw[show decide (0≤(pk A k).1)=false from decide_eq_false (by omega)];simp
   ·refine dX h0 <|aa (fun _=>aK (off:=12) (by kernel_rfl)) <|aa (fun _=>eO underlying47 (s:=1) (fun _=>by kernel_rfl) (by omega) (by omega)) <|aa (v:=iv (nA A (12+k))) (fun _=>lK I.bk (by rw[←I.get (i:=12+k) (by omega)];congr 1;simp)) <|aa (fun _=>aK (off:=6) (by kernel_rfl)) <|aa (fun _=>eO underlying47 (s:=1) (fun _=>by kernel_rfl) (by omega) (by omega)) <|aa (v:=iv (nA A (6+k))) (fun _=>lK I.bk (by rw[←I.get (i:=6+k) (by omega)];congr 1;simp)) ?_
    unfold iv;refine aa (fun _=>de) <|aa (fun _=>bw h0) ?_;by_cases h1:nA A (6+k)<nA A (12+k)
    ·refine jy h1 <|aa (fun _=>bO h1) <|bu <|no ?_;unfold okM;rw[show decide (nA A (12+k)≤nA A (6+k))=false from decide_eq_false (by omega)];simp
    ·refine dX h1 <|aa (fun _=>aK (off:=18) (by kernel_rfl)) <|aa (fun _=>eO underlying48 (s:=6) (fun _=>by kernel_rfl) (by omega) (by omega)) <|aa (fun _=>eO underlying47 (s:=1) (fun _=>by kernel_rfl) (by omega) (by omega)) <|aa (v:=iv (nA A (18+6*k+k))) (fun _=>lK I.bk (by rw[←I.get (i:=18+6*k+k) (by omega)];congr 1;simp;omega)) ?_;unfold iv;refine aa (fun _=>bN) <|aa (fun _=>bw h1) ?_
     by_cases h2:nA A (18+6*k+k)≠0
     ·refine ax h2 <|no ?_;unfold okM;rw[show decide (nA A (18+6*k+k)=0)=false from decide_eq_false h2];simp
     ·refine aq h2 <|aW (by omega) (by omega) ?_;refine⟨⟨k+1,by simp,by omega,hB,fun j hj=>?_⟩,by rw[hm];simp[intOf];omega⟩;by_cases ad:j=k
      ·subst ad;unfold okM;rw[O,decide_eq_true (by omega:0≤(pk A j).1),decide_eq_true (by omega:nA A (12+j)≤nA A (6+j)),decide_eq_true (Classical.not_not.1 h2)];rfl
      ·exact J j (by omega)
 ·refine aq (by omega) ?_;obtain rfl:k=6:=by omega
  refine Jd <|aK (off:=0) (by kernel_rfl) <|Qs underlying47 (s:=1) (fun _=>by kernel_rfl) <|MG (l:=gL A) M.rvG (by omega) <|cZ <|db ?_;have u:=h w2 (b1.trans (b2.mono (by omega)));rw[PO J]at u;cases O:(mB (gL A)).2 with
  | false =>
   refine mE <|ex ?_;rw[O]at u;exact u
  | true =>
   refine kS ?_;unfold iv;refine fU <|bX ?_;rw[O]at u;exact u
theorem MF {i:Int}(d:A.length=54)(h:∀w',Below w.heap.size w w'→K (iv (if bK i then JA A (i-1).toNat else 0)) w'):call Tryz.prog 63 #[.agg (A.map iv).toArray,.int .i64 i] K w:=by
 refine aj (goK func63) (Jb ?_);refine cv fun I j b1 s1=>?_;have j:blk I w.heap.size 50 (A.map iv):=by simpa[Value.cells]using j
 have O:RtA I w.heap.size 0 50 (A.map iv) A:=⟨j,by rw[List.drop_zero,List.take_of_length_le (by simp[d])],d⟩
 refine AE <|dB ?_;cases u:bK i with
 | false =>
  refine fV <|bX <|bu ?_;rw[u]at h;exact h I b1
 | true =>
  have hi:1≤i∧i≤6:=by simpa[bK]using u
  refine lR <|ldA (n:=54) (vs:=A.map iv) underlying50 rfl (by kernel_rfl) j (by rw[List.drop_zero,List.take_of_length_le (by simp[d])]) (by simp[d]) ?_;refine Ql d fun X b2=>?_;refine dB <|ex ?_;rw[u,if_pos rfl]at h;cases J:yD A with
  | false =>
   refine bu ?_
   have:=h X (b1.trans (b2.mono (by omega)))
   unfold JA at this;rw[J]at this;exact this
  | true =>
   refine aO <|bh (by omega) (by omega) ?_;have U:i-1=(((i-1).toNat:Nat):Int):=by omega
   rw[U];refine NL (O.below b2 j.lt) (by omega) fun Z M=>?_;refine cZ <|db ?_
   have:=h Z (b1.trans ((b2.mono (by omega)).trans (M.mono (by have:=b2.size;omega))))
   unfold JA at this;rw[J]at this;exact this
end
section
open Go.RowKit
theorem Eg (h:bin Q .geq 2 false true Y1 (ci 0) (fun A0 w=>aI A0 true (fun j=>bin Q .leq 2 false true Y1 (ci 1125899906842624) (fun A1=>j [Y1,A1]) w) (fun k=>k [uu,uu] w) fun d=>pick A0 (gd d 1) cF K) w):Gives Q 203 #[Y1] w K:=by
 refine aB func203 (by kernel_rfl) ?_;exact mpK h
theorem Eh (h:bin Q .geq 3 false true Y1 (ci 1) (fun A0 w=>aI A0 true (fun j=>bin Q .leq 3 false true Y1 (ci 6) (fun A1=>j [Y1,A1]) w) (fun k=>k [uu,uu] w) fun d=>pick A0 (gd d 1) cF K) w):Gives Q 157 #[Y1] w K:=by
 refine aB func157 (by kernel_rfl) ?_;exact mpK h
def qo (r0 r2 k_5 out6 j7:Value)(zf:Nat→Value):List Value:=r0::zf 1::r2::zf 3::zf 4::k_5::out6::j7::zT zf 8 36 ([])
def jn (K:KV):KE:=ae Q (cd f158 [1,1,1,1]) (rk f158 K) xf (rk f158 K)
def pK (K:KV):KE:=ae Q (cd f158 (b1 122)) (jn K) (xx xf (jn K) 0) (rk f158 K)
theorem EZ (h:box Q 50 Y1 (fun Z1=>bin Q .sub 3 false true U2 (ci 1) fun A3 w=>sF 50 Z1 0 (fun A5=>sI 47 A5 A3 fun A6=>sL 2 A6 fun A7=>sF 50 Z1 1 fun A9=>sI 47 A9 A3 fun C0=>sL 2 C0 fun C1=>sti (bin Q .sub 2 false false A7 C1) fun C2=>sF 50 Z1 2 fun C4=>sI 47 C4 A3 fun C5=>sL 2 C5 fun C6=>sti (bin Q .add 2 false false C2 C6) fun C7=>pK K (qo Y1 Z1 A3 C7 (ci 0) (zV (zV (zV zu 1 [U2]) 4 [ci 0]) 8 [U2,A3,A3,A5,A6,A7,A3,A9,C0,C1,C2,A3,C4,C5,C6,C7]))) w.drew) w):Gives Q 158 #[Y1,U2] w K:=by
 refine aB func158 (by kernel_rfl) ?_;revert h;delta pK jn;exact mpF
theorem Dn (Inv:Value→Value→World→Prop)(μ:Value→Value→World→Nat)(J:Inv V2 W2 w)(M:∀(d j:Value) (dd:Nat→Value) (w:World) (m:Nat),Inv d j w→m=μ d j w →
  bin Q .lss 3 false true j (ci 6) (fun C9 w=>cond C9 (sF 50 Z1 3 (fun D5=>sI 48 D5 j fun D6=>sI 47 D6 U2 fun D7=>sL 2 D7 fun D8=>sti (bin Q .add 2 false false d D8) fun D9=>sF 50 Z1 3 fun E2=>sI 48 E2 U2 fun E3=>sI 47 E3 j fun E4=>sL 2 E4 fun E5=>sti (bin Q .sub 2 false false D9 E5) fun E6=>nC j fun D1 w=>(Inv E6 D1 w)∧((μ E6 D1 w)<m)) w.drew) (jn K (qo Y1 Z1 U2 d j (zV dd 24 [j,C9])) w)) w):pK K (qo Y1 Z1 U2 V2 W2 zf) w:=by
 refine aL (cd f158 (b1 244)) (zr [(6,2),(24,19)]) (by kernel_rfl) (vP [6,7] Inv) (vQ [6,7] μ) J ?_;intro e' w' hI;have h:=M _ _ (zM zf (fun i=>gd e' i) (zr [(6,2),(24,19)])) w' _ hI rfl;revert h;generalize (jn K)=qc0;exact mpF
theorem Do (h:K V2 w):jn K (qo Y1 Z1 U2 V2 W2 zf) w:=by
 delta jn;exact mpK h
attribute [irreducible] jn pK
def fW (r0 r1 all3 i4 j5 i6 C2 C3 C4 C5 C6 C7 D0 D1 D2 D3 D4 D5 D8 D9 E0 E1 E2 E3 E4 E5 E6 E8 E9 F0 F1 F2 F3 F4:Value)(zf:Nat→Value):List Value:=r0::r1::zf 2::all3::i4::j5::i6::zT zf 7 11 (C2::C3::C4::C5::C6::C7::zf 24::zf 25::D0::D1::D2::D3::D4::D5::zf 32::zf 33::D8::D9::E0::E1::E2::E3::E4::E5::E6::zf 43::zf 44::E8::E9::F0::F1::F2::F3::F4::zT zf 52 29 ([]))
def gj (K:KV):KE:=ae Q (cd f186 [1,1,1]) (rk f186 K) xf (rk f186 K)
def qU (K:KV):KE:=ae Q (cd f186 (b1 58)) (gj K) (xx xf (gj K) 0) (rk f186 K)
def jF (K:KV)(B1:KE):KE:=ae Q (cd f186 (b1 467)) B1 (xx xf (gj K) 0) (rk f186 K)
def qV (K:KV)(B1:KE):KE:=ae Q (cd f186 (b1 14926)) (jF K B1) (xx (xx (xx xf (gj K) 0) (jF K B1) 1) (jF K B1) 2) (rk f186 K)
def ks (K:KV):KE:=ae Q (cd f186 [1,1,1,1]) (rk f186 K) xf (rk f186 K)
def qW (K:KV):KE:=ae Q (cd f186 (b1 122)) (ks K) (xx xf (ks K) 4) (rk f186 K)
theorem Hn (h:box Q 50 Y1 (fun Z1=>qU K (fW Y1 Z1 (ci 0) (ci 0) uu uu uu uu uu uu uu uu uu uu uu uu uu uu uu uu uu uu uu uu uu uu uu uu uu uu uu uu uu uu (zV zu 2 [cF]))) w):Gives Q 186 #[Y1] w K:=by
 refine aB func186 (by kernel_rfl) ?_;revert h;delta qU gj;exact mpF
theorem ES (Inv:vI 30)(μ:vM 30)(h0:Inv U2 V2 Y2 Z2 U3 V3 W3 X3 Y3 Z3 j4 U4 V4 W4 X4 Y4 Z4 U5 V5 W5 X5 Y5 Z5 K6 T6 U6 V6 W6 X6 Y6 w)(hs:∀(J j U X Z ad ag al am an ap ar av az aS a0 a2 a3 a4 a6 a7 a8 a9 bb bd be bi bk bs bt:Value) (dd:Nat→Value) (w:World) (m:Nat),Inv J j U X Z ad ag al am an ap ar av az aS a0 a2 a3 a4 a6 a7 a8 a9 bb bd be bi bk bs bt w→m=μ J j U X Z ad ag al am an ap ar av az aS a0 a2 a3 a4 a6 a7 a8 a9 bb bd be bi bk bs bt w →
  bin Q .lss 3 false true j (ci 6) (fun A2 w=>cond A2 (sF 50 Z1 0 (fun A6=>sI 47 A6 j fun A7=>sL 2 A7 fun A8=>sti (call Q 203 #[A8]) fun A9=>sti (un Q .not A9) fun C0 w=>aI C0 false (fun bW=>sF 50 Z1 1 (fun Z2=>sI 47 Z2 j fun U3=>sL 2 U3 fun V3=>sti (call Q 203 #[V3]) fun W3=>sti (un Q .not W3) fun X3=>bW [j,Z2,U3,V3,W3,X3]) w) (fun k=>k [uu,uu,uu,uu,uu,uu] w) fun M=>sti (pick C0 cT (gd M 5)) fun C8 w=>aI C8 false (fun b0=>sF 50 Z1 2 (fun Z3=>sI 47 Z3 j fun j4=>sL 2 j4 fun U4=>sti (call Q 203 #[U4]) fun V4=>sti (un Q .not V4) fun W4=>b0 [j,Z3,j4,U4,V4,W4]) w) (fun k=>k [uu,uu,uu,uu,uu,uu] w) fun O=>sti (pick C8 cT (gd O 5)) fun D6 w=>aI D6 false (fun b3=>sF 50 Z1 2 (fun Y4=>sI 47 Y4 j fun Z4=>sL 2 Z4 fun U5=>sF 50 Z1 1 fun W5=>sI 47 W5 j fun X5=>sL 2 X5 fun Y5=>sti (bin Q .gtr 2 false false U5 Y5) fun Z5=>b3 [j,Y4,Z4,U5,j,W5,X5,Y5,Z5]) w) (fun k=>k [uu,uu,uu,uu,uu,uu,uu,uu,uu] w) fun u=>sti (pick D6 cT (gd u 8)) fun E7 w=>aI E7 false (fun b4=>sF 50 Z1 3 (fun U6=>sI 48 U6 j fun V6=>sI 47 V6 j fun W6=>sL 2 W6 fun X6=>sti (bin Q .neq 2 false true X6 (ci 0)) fun Y6=>b4 [j,j,U6,V6,W6,X6,Y6]) w) (fun k=>k [uu,uu,uu,uu,uu,uu,uu] w) fun I=>sti (pick E7 cT (gd I 6)) fun F5 w=>cond F5 (K cF w) (af Q 50 Z1 0 (fun F6=>aV Q 47 F6 j fun F7=>ld Q 2 F7 fun F8=>bin Q .add 2 false false J F8 fun F9=>qV K (fun d w2=>(Inv (gd d 3) (gd d 4) (gd d 18) (gd d 19) (gd d 20) (gd d 21) (gd d 22) (gd d 23) (gd d 26) (gd d 27) (gd d 28) (gd d 29) (gd d 30) (gd d 31) (gd d 34) (gd d 35) (gd d 36) (gd d 37) (gd d 38) (gd d 39) (gd d 40) (gd d 41) (gd d 42) (gd d 45) (gd d 46) (gd d 47) (gd d 48) (gd d 49) (gd d 50) (gd d 51) w2)∧((μ (gd d 3) (gd d 4) (gd d 18) (gd d 19) (gd d 20) (gd d 21) (gd d 22) (gd d 23) (gd d 26) (gd d 27) (gd d 28) (gd d 29) (gd d 30) (gd d 31) (gd d 34) (gd d 35) (gd d 36) (gd d 37) (gd d 38) (gd d 39) (gd d 40) (gd d 41) (gd d 42) (gd d 45) (gd d 46) (gd d 47) (gd d 48) (gd d 49) (gd d 50) (gd d 51) w2)<m)) (fW Y1 Z1 F9 j (ci 0) X2 (gd M 0) (gd M 1) (gd M 2) (gd M 3) (gd M 4) (gd M 5) (gd O 0) (gd O 1) (gd O 2) (gd O 3) (gd O 4) (gd O 5) (gd u 0) (gd u 1) (gd u 2) (gd u 3) (gd u 4) (gd u 5) (gd u 6) (gd u 7) (gd u 8) (gd I 0) (gd I 1) (gd I 2) (gd I 3) (gd I 4) (gd I 5) (gd I 6) (zV (zV (zV (zV (zV (zV dd 7 [j,A2]) 11 [j,A6,A7,A8,A9,C0,C0]) 24 [C8,C8]) 32 [D6,D6]) 43 [E7,E7]) 52 [F5,J,j,F6,F7,F8,F9]))) w)) w.drew) (gj K (fW Y1 Z1 J j (dd 5) X2 U X Z ad ag al am an ap ar av az aS a0 a2 a3 a4 a6 a7 a8 a9 bb bd be bi bk bs bt (zV dd 7 [j,A2])) w)) w):qU K (fW Y1 Z1 U2 V2 W2 X2 Y2 Z2 U3 V3 W3 X3 Y3 Z3 j4 U4 V4 W4 X4 Y4 Z4 U5 V5 W5 X5 Y5 Z5 K6 T6 U6 V6 W6 X6 Y6 zf) w:=by
 refine aL (cd f186 (b1 116)) (zr [(2,4),(7,64)]) (by kernel_rfl) (vP [3,4,18,19,20,21,22,23,26,27,28,29,30,31,34,35,36,37,38,39,40,41,42,45,46,47,48,49,50,51] Inv) (vQ [3,4,18,19,20,21,22,23,26,27,28,29,30,31,34,35,36,37,38,39,40,41,42,45,46,47,48,49,50,51] μ) h0 ?_;intro e' w' hI
 have h:=hs _ _ _ _ _ _ _ _ _ _ _ _ _ _ _ _ _ _ _ _ _ _ _ _ _ _ _ _ _ _ (zM zf (fun i=>gd e' i) (zr [(2,4),(7,64)])) w' _ hI rfl;revert h;delta qV jF;generalize (gj K)=qc0;exact mpF
theorem ET (Inv:Value→World→Prop)(μ:Value→World→Nat)(I:Inv W2 w)(J:∀(d:Value) (dd:Nat→Value) (w:World) (m:Nat),Inv d w→m=μ d w →
  bin Q .lss 3 false true d (ci 6) (fun G0 w=>cond G0 (af Q 50 Z1 3 (fun G2=>aV Q 48 G2 V2 fun G3=>aV Q 47 G3 d fun G4=>ld Q 2 G4 fun G5=>call Q 203 #[G5] fun G6=>un Q .not G6 fun G7 w=>cond G7 (K cF w) (nC d (fun G1 w=>(Inv G1 w)∧((μ G1 w)<m)) w)) w) (jF K B1 (fW Y1 Z1 U2 V2 d X2 Y2 Z2 U3 V3 W3 X3 Y3 Z3 j4 U4 V4 W4 X4 Y4 Z4 U5 V5 W5 X5 Y5 Z5 K6 T6 U6 V6 W6 X6 Y6 (zV dd 59 [d,G0])) w)) w):qV K B1 (fW Y1 Z1 U2 V2 W2 X2 Y2 Z2 U3 V3 W3 X3 Y3 Z3 j4 U4 V4 W4 X4 Y4 Z4 U5 V5 W5 X5 Y5 Z5 K6 T6 U6 V6 W6 X6 Y6 zf) w:=by
 refine aL (cd f186 (b1 29852)) (zr [(2,1),(5,1),(59,12)]) (by kernel_rfl) (vP [5] Inv) (vQ [5] μ) I ?_;intro e' w' hI;have h:=J _ (zM zf (fun i=>gd e' i) (zr [(2,1),(5,1),(59,12)])) w' _ hI rfl;revert h;generalize (gj K)=qc0;generalize (jF K B1)=qc1;exact mpF
theorem EW (h:qW K (fW Y1 Z1 U2 V2 W2 (ci 1) Y2 Z2 U3 V3 W3 X3 Y3 Z3 j4 U4 V4 W4 X4 Y4 Z4 U5 V5 W5 X5 Y5 Z5 K6 T6 U6 V6 W6 X6 Y6 zf) w):gj K (fW Y1 Z1 U2 V2 W2 X2 Y2 Z2 U3 V3 W3 X3 Y3 Z3 j4 U4 V4 W4 X4 Y4 Z4 U5 V5 W5 X5 Y5 Z5 K6 T6 U6 V6 W6 X6 Y6 zf) w:=by
 delta gj;revert h;delta qW ks;exact mpF
theorem EX (h:nC V2 (fun A4=>B1 (fW Y1 Z1 U2 A4 W2 X2 Y2 Z2 U3 V3 W3 X3 Y3 Z3 j4 U4 V4 W4 X4 Y4 Z4 U5 V5 W5 X5 Y5 Z5 K6 T6 U6 V6 W6 X6 Y6 (zV zf 9 [V2,A4]))) w):jF K B1 (fW Y1 Z1 U2 V2 W2 X2 Y2 Z2 U3 V3 W3 X3 Y3 Z3 j4 U4 V4 W4 X4 Y4 Z4 U5 V5 W5 X5 Y5 Z5 K6 T6 U6 V6 W6 X6 Y6 zf) w:=by
 delta jF;revert h;generalize (gj K)=qc0;exact mpF
theorem EU (Inv:Value→World→Prop)(μ:Value→World→Nat)(I:Inv X2 w)(J:∀(d:Value) (dd:Nat→Value) (w:World) (m:Nat),Inv d w→m=μ d w →
  bin Q .leq 3 false true d (ci 6) (fun G8 w=>cond G8 (ld Q 50 Z1 (fun H0=>call Q 158 #[H0,d] fun H1=>bin Q .lss 2 false true H1 (ci 0) fun H2 w=>cond H2 (K cF w) (nC d (fun G9 w=>(Inv G9 w)∧((μ G9 w)<m)) w)) w) (ks K (fW Y1 Z1 U2 V2 W2 d Y2 Z2 U3 V3 W3 X3 Y3 Z3 j4 U4 V4 W4 X4 Y4 Z4 U5 V5 W5 X5 Y5 Z5 K6 T6 U6 V6 W6 X6 Y6 (zV dd 71 [d,G8])) w)) w):qW K (fW Y1 Z1 U2 V2 W2 X2 Y2 Z2 U3 V3 W3 X3 Y3 Z3 j4 U4 V4 W4 X4 Y4 Z4 U5 V5 W5 X5 Y5 Z5 K6 T6 U6 V6 W6 X6 Y6 zf) w:=by
 refine aL (cd f186 (b1 244)) (zr [(2,1),(6,1),(71,8)]) (by kernel_rfl) (vP [6] Inv) (vQ [6] μ) I ?_;intro e' w' hI;have h:=J _ (zM zf (fun i=>gd e' i) (zr [(2,1),(6,1),(71,8)])) w' _ hI rfl;revert h;generalize (ks K)=qc0;exact mpF
theorem EY (h:bin Q .leq 2 false true U2 (ci 1125899906842624) K w):ks K (fW Y1 Z1 U2 V2 W2 X2 Y2 Z2 U3 V3 W3 X3 Y3 Z3 j4 U4 V4 W4 X4 Y4 Z4 U5 V5 W5 X5 Y5 Z5 K6 T6 U6 V6 W6 X6 Y6 zf) w:=by
 delta ks;exact mpK h
attribute [irreducible] gj qU jF qV ks qW
end
section
attribute [local irreducible] bin un conv call bY blt slc af fld aV idx lkp dO gY eSt rng nxt ent ext alc box bld bT ld sto aU dE mkS ifc pick rdy wts aI sti cond bp Gives ae fh fT cOp
open Go.RowKit
def lp (A:List Int)(k j:Nat):Int:=((List.range j).map fun j=>nA A (18+6*j+k)-nA A (18+6*k+j)).sum
theorem NM (A:List Int)(k j:Nat):lp A k (j+1)=lp A k j+(nA A (18+6*j+k)-nA A (18+6*k+j)):=by simp[lp,List.range_succ]
theorem SB {A:List Int}{k:Nat}(h:k<6)(d:∀q,q<54→0≤nA A q∧nA A q≤MXA):∀j,j≤6→-(j*MXA)≤lp A k j∧lp A k j≤j*MXA
 | 0,_=>by simp[lp]
 | j+1,hj=>by
  have u:=SB h d j (by omega);have I:=d (18+6*j+k) (by omega);have J:=d (18+6*k+j) (by omega);rw[NM];have e:(((j+1:Nat):Int))*MXA=(j:Int)*MXA+MXA:=by simp only[MXA];omega
  rw[e];omega
theorem Gd (h:K (.bool (okA x)) w):call Tryz.prog 203 #[.int .i64 x] K w:=by
 refine aj (goK func203) (Eg ?_);unfold okA at h;refine bM ?_;by_cases d:x≥0
 ·refine dD d <|fU <|bO d ?_;rw[show decide (0≤x)=true from decide_eq_true d,Bool.true_and]at h;exact h
 ·refine dY d <|bw d ?_;rw[show decide (0≤x)=false from decide_eq_false d,Bool.false_and]at h;exact h
theorem JN (hA:A.length=54)(hk:k<6)(J:∀q,q<54→0≤nA A q∧nA A q≤MXA)(h:∀w',Below w.heap.size w w'→K (iv (gS A k)) w'):call Tryz.prog 158 #[.agg (A.map iv).toArray,.int .i64 ((k:Int)+1)] K w:=by
 refine aj (goK func158) (EZ ?_);refine cv fun M X b1 s1=>?_;have X:blk M w.heap.size 50 (A.map iv):=by simpa[Value.cells]using X
 have I:RtA M.drew w.heap.size 0 50 (A.map iv) A:=⟨X.drew,by rw[List.drop_zero,List.take_of_length_le (by simp[hA])],hA⟩
 have b1:Below w.heap.size w M.drew:=b1.drew;refine bh (by omega) (by omega) ?_;rw[show (k:Int)+1-1=(k:Nat)by omega];generalize M.drew=w2 at *;have n0:=J k (by omega);have n1:=J (6+k) (by omega);have n2:=J (12+k) (by omega);simp only[MXA]at n0 n1 n2
 refine aa (fun _=>aK (off:=0) (by kernel_rfl)) <|aa (fun _=>eO underlying47 (s:=1) (fun _=>by kernel_rfl) (by omega) (by omega)) <|aa (v:=iv (nA A k)) (fun _=>lK I.bk (by rw[←I.get (i:=k) (by omega)];congr 1;simp)) <|aa (fun _=>aK (off:=6) (by kernel_rfl)) <|aa (fun _=>eO underlying47 (s:=1) (fun _=>by kernel_rfl) (by omega) (by omega)) <|aa (v:=iv (nA A (6+k))) (fun _=>lK I.bk (by rw[←I.get (i:=6+k) (by omega)];congr 1;simp)) ?_
 unfold iv;refine aa (fun _=>bh (by omega) (by omega)) <|aa (fun _=>aK (off:=12) (by kernel_rfl)) <|aa (fun _=>eO underlying47 (s:=1) (fun _=>by kernel_rfl) (by omega) (by omega)) <|aa (v:=iv (nA A (12+k))) (fun _=>lK I.bk (by rw[←I.get (i:=12+k) (by omega)];congr 1;simp)) ?_;unfold iv;refine aa (fun _=>aW (by omega) (by omega)) ?_
 refine Dn (Inv:=fun ov jv wr=>∃j:Nat,ov=.int .i64 (nA A k-nA A (6+k)+nA A (12+k)+lp A k j)∧jv=.int .i64 (j:Nat)∧j≤6∧Below w2.heap.size w2 wr) (μ:=fun _ jv _=>6-(intOf jv).toNat)
  ⟨0,by simp[lp],rfl,by omega,Below.refl _ _⟩ ?_
 rintro _ _ dd O m ⟨j,rfl,rfl,ad,U⟩ ag;refine aM ?_;by_cases hj:j<6
 ·refine ax (by omega) ?_;have u:RtA O.drew w.heap.size 0 50 (A.map iv) A:=by have:=I.below U I.bk.lt;exact⟨this.bk.drew,this.cut,this.len⟩
  have b4:Below w2.heap.size w2 O.drew:=U.drew;generalize O.drew=w4 at *;have Z:=SB hk J j ad;have m1:=J (18+6*j+k) (by omega);have m2:=J (18+6*k+j) (by omega);simp only[MXA]at Z m1 m2
  refine aa (fun _=>aK (off:=18) (by kernel_rfl)) <|aa (fun _=>eO underlying48 (s:=6) (fun _=>by kernel_rfl) (by omega) (by omega)) <|aa (fun _=>eO underlying47 (s:=1) (fun _=>by kernel_rfl) (by omega) (by omega)) <|aa (v:=iv (nA A (18+6*j+k))) (fun _=>lK u.bk (by rw[←u.get (i:=18+6*j+k) (by omega)];congr 1;simp;omega)) ?_;unfold iv
  refine aa (fun _=>aW (by omega) (by omega)) <|aa (fun _=>aK (off:=18) (by kernel_rfl)) <|aa (fun _=>eO underlying48 (s:=6) (fun _=>by kernel_rfl) (by omega) (by omega)) <|aa (fun _=>eO underlying47 (s:=1) (fun _=>by kernel_rfl) (by omega) (by omega)) <|aa (v:=iv (nA A (18+6*k+j))) (fun _=>lK u.bk (by rw[←u.get (i:=18+6*k+j) (by omega)];congr 1;simp;omega)) ?_;unfold iv
  refine aa (fun _=>bh (by omega) (by omega)) <|aW (by omega) (by omega) ?_;refine⟨⟨j+1,?_,by simp,by omega,b4⟩,by rw[ag];simp[intOf];omega⟩;rw[NM];exact congrArg (Value.int .i64) (by omega)
 ·refine aq (by omega) ?_;obtain rfl:j=6:=by omega
  refine Do ?_
  have:=h O (b1.trans (U.mono b1.size))
  exact this
end
section
open Go.RowKit
def kM (s0 s1 l2 A1 A2 A5 A6 A7 A8 A9:Value)(zf:Nat→Value):List Value:=s0::s1::l2::zT zf 3 3 (A1::A2::zT zf 8 5 (A5::A6::A7::A8::A9::zT zf 18 8 ([])))
def iq (K:KV):KE:=ae Q (cd f29 [1,1]) (rk f29 K) xf (rk f29 K)
def tj (K:KV):KE:=ae Q (cd f29 [1,0,1,0]) (iq K) (xx xf (iq K) 0) (rk f29 K)
def lU (K:KV)(B1:KE):KE:=ae Q (cd f29 (b1 423)) B1 (xx xf (iq K) 0) (rk f29 K)
def qD (K:KV)(B1:KE):KE:=ae Q (cd f29 (b1 422)) (lU K B1) (xx xf (iq K) 0) (rk f29 K)
theorem JG (h:box Q 45 Y1 (fun Z1=>af Q 45 Z1 0 fun A0=>ld Q 41 A0 fun V2=>tj K (kM Y1 Z1 cN V2 (ci 0) uu uu uu uu uu (zV zu 5 [A0]))) w):Gives Q 29 #[Y1] w K:=by
 refine aB func29 (by kernel_rfl) ?_;revert h;delta tj iq;exact mpF
theorem Hx (Inv:vI 7)(μ:vM 7)(h0:Inv U2 W2 X2 Y2 Z2 U3 V3 w)(hs:∀(l2' A2' A5' A6' A7' A8' A9':Value) (dd:Nat→Value) (w:World) (m:Nat),Inv l2' A2' A5' A6' A7' A8' A9' w→m=μ l2' A2' A5' A6' A7' A8' A9' w →
  bin Q .lss 3 false true A2' (ci 6) (fun A3 w=>cond A3 (qD K (fun e2 w2=>(Inv (gd e2 2) (gd e2 7) (gd e2 13) (gd e2 14) (gd e2 15) (gd e2 16) (gd e2 17) w2)∧((μ (gd e2 2) (gd e2 7) (gd e2 13) (gd e2 14) (gd e2 15) (gd e2 16) (gd e2 17) w2)<m)) (kM Y1 Z1 l2' V2 A2' A5' A6' A7' A8' A9' (zV dd 8 [A3])) w) (iq K (kM Y1 Z1 l2' V2 A2' A5' A6' A7' A8' A9' (zV dd 8 [A3])) w)) w):tj K (kM Y1 Z1 U2 V2 W2 X2 Y2 Z2 U3 V3 zf) w:=by
 refine aL (cd f29 (b1 52)) (zr [(2,3),(7,18)]) (by kernel_rfl) (vP [2,7,13,14,15,16,17] Inv) (vQ [2,7,13,14,15,16,17] μ) h0 ?_
 intro e' w' hI
 have h:=hs _ _ _ _ _ _ _ (zM zf (fun i=>gd e' i) (zr [(2,3),(7,18)])) w' _ hI rfl
 refine Eq.mp (congrArg (fun c=>ae Q c _ _ _ _ w') (by kernel_rfl:(rep [1,1,0] (cd f29 (b1 422)) (cd f29 (b1 52)))=(cd f29 (b1 52)))) ?_
 revert h
 delta qD lU
 generalize (cd f29 (b1 422))=xc0
 generalize (iq K)=qc0
 exact mpF
theorem Hw (h:idx Q 41 V2 W2 (fun A4 w=>aI A4 true (fun j=>af Q 45 Z1 1 (fun Y2=>aV Q 41 Y2 W2 fun Z2=>ld Q 4 Z2 fun U3=>un Q .not U3 fun V3=>j [W2,Y2,Z2,U3,V3]) w) (fun k=>k [uu,uu,uu,uu,uu] w) fun d=>pick A4 (gd d 4) cF fun C0 w=>cond C0 (nC W2 (fun C1=>bT Q 96 1 #[(0,C1)] fun C2=>blt Q .append #[96,96] 96 #[false,false] #[U2,C2] fun C3=>lU K B1 (kM Y1 Z1 C3 V2 W2 (gd d 0) (gd d 1) (gd d 2) (gd d 3) (gd d 4) (zV (zV (zV zf 3 [W2,A4]) 9 [W2,A4,A4,A4]) 18 [C0,U2,W2,C1,C2,C3]))) w) (lU K B1 (kM Y1 Z1 U2 V2 W2 (gd d 0) (gd d 1) (gd d 2) (gd d 3) (gd d 4) (zV (zV (zV zf 3 [W2,A4]) 9 [W2,A4,A4,A4]) 18 [C0])) w)) w):qD K B1 (kM Y1 Z1 U2 V2 W2 X2 Y2 Z2 U3 V3 zf) w:=by
 delta qD;revert h;generalize (lU K B1)=qc0;generalize (iq K)=qc1;exact mpF
theorem Hy (h:K U2 w):iq K (kM Y1 Z1 U2 V2 W2 X2 Y2 Z2 U3 V3 zf) w:=by
 delta iq;exact mpK h
theorem uQ (h:nC W2 (fun C4=>B1 (kM Y1 Z1 U2 V2 C4 X2 Y2 Z2 U3 V3 (zV zf 24 [C4]))) w):lU K B1 (kM Y1 Z1 U2 V2 W2 X2 Y2 Z2 U3 V3 zf) w:=by
 delta lU;revert h;generalize (iq K)=qc0;exact mpF
attribute [irreducible] iq tj lU qD
end
section
attribute [local irreducible] bin un conv call bY blt slc af fld aV idx lkp dO gY eSt rng nxt ent ext alc box bld bT ld sto aU dE mkS ifc pick rdy wts aI sti cond bp Gives ae fh fT cOp
open Go.RowKit
def ndC (x:ND):List Value:=.int .u64 x.id::.int .u64 x.par::x.A.map iv
theorem TG {x:ND}(h:x.A.length=54):(ndC x).length=56:=by simp[ndC,h]
structure NR (w:World) (a:Option Addr) (n c:Nat) (L:List ND):Prop where
 len:L.length=n
 cap:n≤c
 some_:0<n→∃b o,a=some ⟨b,o,none⟩
 A54:∀x∈L,x.A.length=54
 cell:∀(i:Nat) (x:ND),L[i]? = some x→∀b o,a=some ⟨b,o,none⟩→∀(j:Nat) (u:Value),(ndC x)[j]? = some u→w.cell? ⟨b,o+i*56+j,none⟩=some u
theorem NR.bel {L:List ND}(h:NR w a n c L)(M:Below B w w')(I:w.heap.size≤B):NR w' a n c L :=
 ⟨h.len,h.cap,h.some_,h.A54,fun i x U b o J j u O=>by
  have:=h.cell i x U b o J j u O
  have d:=World.block_lt_of_cell? w _ this;rw[M.cell (p:=⟨b,o+i*56+j,none⟩) (Nat.lt_of_lt_of_le d I)];exact this⟩
structure STA where
 I:List Bool
 L:List Bool
 V:List Int
 nodes:List ND
 na:Option Addr
 nc:Nat
 gv:Value
def saC (s:STA):List Value:=s.I.map .bool++s.L.map .bool++s.V.map (.int .u64)++[.slice s.na s.nodes.length s.nc,s.gv]
structure SK (w:World) (s:STA):Prop where
 i6:s.I.length=6
 l6:s.L.length=6
 v6:s.V.length=6
 nr:NR w s.na s.nodes.length s.nc s.nodes
 few:s.nodes.length≤1000000
 gv:s.gv.oneCell'=true
theorem SK.bel {s:STA}(h:SK w s)(j:Below B w w')(d:w.heap.size≤B):SK w' s:=⟨h.i6,h.l6,h.v6,h.nr.bel j d,h.few,h.gv⟩
theorem Wk {s:STA}(h:SK w s)(d:k<6):(saC s)[6+k]? = some (.bool (s.L.getD k false)):=by
 have:=h.i6
 have:=h.l6
 unfold saC;rw[List.append_assoc,List.append_assoc,List.getElem?_append_right (by simp;omega),List.getElem?_append_left (by simp;omega),List.getElem?_map];rw[show 6+k-(s.I.map Value.bool).length=k by simp;omega,List.getElem?_eq_getElem (by omega)];simp[List.getD,show k<s.L.length by omega]
theorem TQ {L:List ND}{id:Int}{x:ND}(J:L[k]? = some x)(d:x.id=id)(h:∀j y,j<k→L[j]? = some y→y.id≠id):posN L id=k:=by
 obtain⟨I,rfl⟩:=List.getElem?_eq_some_iff.1 J;unfold posN;rw[List.findIdx_eq I];refine⟨by simp[d],fun j u=>?_⟩
 have:=h j _ u (List.getElem?_eq_getElem (by omega))
 simpa using this
theorem Kz {L:List ND}{id:Int}(d:∀(j:Nat) y,L[j]? = some y→y.id≠id):¬posN L id<L.length:=by
 intro h;unfold posN at h
 have:=List.findIdx_getElem (w:=h)
 exact d _ _ (List.getElem?_eq_getElem h) (by simpa using this)
theorem uO (h:K (.pointer (some ⟨b,o+0,none⟩)) w):af Tryz.prog 45 (.pointer (some ⟨b,o,none⟩)) 0 K w:=aK (by kernel_rfl) h
theorem zR (h:K (.pointer (some ⟨b,o+6,none⟩)) w):af Tryz.prog 45 (.pointer (some ⟨b,o,none⟩)) 1 K w:=aK (by kernel_rfl) h
theorem ot (h:K (.pointer (some ⟨b,o+12,none⟩)) w):af Tryz.prog 45 (.pointer (some ⟨b,o,none⟩)) 2 K w:=aK (by kernel_rfl) h
theorem eA (h:K (.pointer (some ⟨b,o+18,none⟩)) w):af Tryz.prog 45 (.pointer (some ⟨b,o,none⟩)) 3 K w:=aK (by kernel_rfl) h
theorem fj (h:K (.pointer (some ⟨b,o+19,none⟩)) w):af Tryz.prog 45 (.pointer (some ⟨b,o,none⟩)) 4 K w:=aK (by kernel_rfl) h
theorem GZ (h:K (.pointer (some ⟨b,o+0,none⟩)) w):af Tryz.prog 52 (.pointer (some ⟨b,o,none⟩)) 0 K w:=aK (by kernel_rfl) h
theorem qb (h:K (.pointer (some ⟨b,o+2,none⟩)) w):af Tryz.prog 52 (.pointer (some ⟨b,o,none⟩)) 2 K w:=aK (by kernel_rfl) h
theorem Vb {L:List ND}{x:ND}(h:NR w a n c L)(I:a=some ⟨b,o,none⟩)(d:L[i]? = some x)(u:K (.agg (ndC x).toArray) w):ld Tryz.prog 52 (.pointer (some ⟨b,o+i*56,none⟩)) K w :=
 IG (run_loadVar_mid w b (o+i*56) 52 (ndC x) _ (fun j v J=>h.cell i x d b o I j v J) underlying52 rfl (by rw[TG (h.A54 x (List.mem_of_getElem? d))];kernel_rfl)) u
def sG (A:List Int)(k:Nat):Int:=((List.range k).map fun k=>nA A k).sum
theorem Ob (A:List Int)(k:Nat):sG A (k+1)=sG A k+nA A k:=by simp[sG,List.range_succ]
end
section
open Go.RowKit
theorem RK (d:k<6)(h:uU A k=false):jj A=false:=by
 have:(List.range 6).all (uU A)=false:=by
  cases j:(List.range 6).all (uU A)with
  | false=>rfl
  | true=>have:=List.all_eq_true.1 j k (by simpa using d);rw[this]at h;cases h
 unfold jj;rw[this];rfl
theorem PP (d:k<6)(h:gS A k<0):jj A=false:=by
 have:(List.range 6).all (fun k=>decide (0≤gS A k))=false:=by
  cases j:(List.range 6).all (fun k=>decide (0≤gS A k))with
  | false=>rfl
  | true=>have:=List.all_eq_true.1 j k (by simpa using d);simp at this;omega
 unfold jj;rw[this];simp
theorem Mk (h:∀k,k<6→uU A k=true):∀q,q<54→0≤nA A q∧nA A q≤MXA:=by
 have e:∀k,k<6→okA (nA A k)=true∧okA (nA A (6+k))=true∧okA (nA A (12+k))=true∧∀j,j<6→okA (nA A (18+6*k+j))=true:=by
  intro k I
  have:=h k I
  unfold uU at this;simp only[Bool.and_eq_true]at this;exact⟨this.1.1.1.1.1,this.1.1.1.1.2,this.1.1.1.2,fun j u=>List.all_eq_true.1 this.2 j (by simpa using u)⟩
 intro q O;refine nu.1 ?_;by_cases d:q<6
 ·exact(e q d).1
 by_cases J:q<12
 ·have:=(e (q-6) (by omega)).2.1;rwa[show 6+(q-6)=q by omega]at this
 by_cases M:q<18
 ·have:=(e (q-12) (by omega)).2.2.1;rwa[show 12+(q-12)=q by omega]at this
 ·have:=(e ((q-18) / 6) (by omega)).2.2.2 ((q-18)%6) (by omega)
  rwa[show 18+6*((q-18) / 6)+(q-18)%6=q by omega]at this
theorem PQ (h:∀k,k<6→uU A k=true)(j:∀k,k<6→0≤gS A k):jj A=decide (sG A 6≤MXA):=by
 unfold jj;rw[List.all_eq_true.2 fun k d=>h k (by simpa using d),List.all_eq_true.2 fun k d=>by simpa using j k (by simpa using d)];rfl
end
section
attribute [local irreducible] bin un conv call bY blt slc af fld aV idx lkp dO gY eSt rng nxt ent ext alc box bld bT ld sto aU dE mkS ifc pick rdy wts aI sti cond bp Gives ae fh fT cOp
open Go.RowKit
theorem TV (hA:A.length=54)(h:∀w',Below w.heap.size w w'→K (.bool (jj A)) w'):call Tryz.prog 186 #[.agg (A.map iv).toArray] K w:=by
 refine aj (goK func186) (Hn ?_);refine cv fun O hb b1 s1=>?_;have hb:blk O w.heap.size 50 (A.map iv):=by simpa[Value.cells]using hb
 have hR:RtA O w.heap.size 0 50 (A.map iv) A:=⟨hb,by rw[List.drop_zero,List.take_of_length_le (by simp[hA])],hA⟩
 have av:((A.map iv).drop 0).take 54=A.map iv:=by rw[List.drop_zero,List.take_of_length_le (by simp[hA])]
 have Z:=hb.lt;refine ES (Inv:=fun al i _ _ _ _ _ _ _ _ _ _ _ _ _ _ _ _ _ _ _ _ _ _ _ _ _ _ _ _ wr=>∃k:Nat,al=.int .i64 (sG A k)∧i=.int .i64 (k:Nat)∧k≤6∧Below O.heap.size O wr∧∀j,j<k→uU A j=true)
  (μ:=fun _ i _ _ _ _ _ _ _ _ _ _ _ _ _ _ _ _ _ _ _ _ _ _ _ _ _ _ _ _ _=>6-(intOf i).toNat) ⟨0,rfl,rfl,by omega,Below.refl _ _,fun j hj=>by omega⟩ ?_
 rintro _ _ _ _ _ _ _ _ _ _ _ _ _ _ _ _ _ _ _ _ _ _ _ _ _ _ _ _ _ _ dd w2 m ⟨k,rfl,rfl,a9,b2,I⟩ hm;have ag:=hR.below b2 Z;have a7:=b2.size;have a6:∀M,M≤k→0≤sG A M∧sG A M≤M*MXA:=by
  intro M
  induction M with
  | zero=>intro _;simp[sG]
  | succ M ih =>
   intro a8;have h1:=ih (by omega);have U:=I M (by omega);unfold uU at U;simp only[Bool.and_eq_true]at U;have h3:=nu.1 U.1.1.1.1.1;rw[Ob];have e:(((M+1:Nat):Int))*MXA=(M:Int)*MXA+MXA:=by simp only[MXA];omega
   rw[e];omega
 refine aM ?_;by_cases hk:k<6
 ·refine ax (by omega) ?_;have u:RtA w2.drew w.heap.size 0 50 (A.map iv) A:=⟨ag.bk.drew,ag.cut,ag.len⟩
  have hB:Below O.heap.size O w2.drew:=b2.drew;have no:uU A k=false→K (.bool false) w2.drew:=fun hq=>by
   have:=h w2.drew (b1.trans (hB.mono (by omega)))
   rw[RK hk hq]at this;exact this
  generalize w2.drew=w4 at *;have hf:uU A k=(okA (nA A k)&&okA (nA A (6+k))&&okA (nA A (12+k))&&decide (nA A (12+k)≤nA A (6+k))&&decide (nA A (18+6*k+k)=0)&&(List.range 6).all fun j=>okA (nA A (18+6*k+j))):=rfl
  refine aa (fun _=>aK (off:=0) (by kernel_rfl)) <|aa (fun _=>eO underlying47 (s:=1) (fun _=>by kernel_rfl) (by omega) (by omega)) <|aa (v:=iv (nA A k)) (fun _=>lK u.bk (by rw[←u.get (i:=k) (by omega)];congr 1;simp)) ?_;unfold iv;refine aa (fun _=>Gd) <|aa (fun _=>dB) ?_;cases c1:okA (nA A k)with
  | false =>
   refine fV <|aa (fun _=>bX) <|fV <|aa (fun _=>bX) <|fV <|aa (fun _=>bX) <|fV <|aa (fun _=>bX) <|bu ?_;exact no (by rw[hf,c1];rfl)
  | true =>
  refine lR <|aa (fun _=>aK (off:=6) (by kernel_rfl)) <|aa (fun _=>eO underlying47 (s:=1) (fun _=>by kernel_rfl) (by omega) (by omega)) <|aa (v:=iv (nA A (6+k))) (fun _=>lK u.bk (by rw[←u.get (i:=6+k) (by omega)];congr 1;simp)) ?_;unfold iv;refine aa (fun _=>Gd) <|aa (fun _=>dB) <|aa (fun _=>ex) ?_;cases c2:okA (nA A (6+k))with
  | false =>
   refine fV <|aa (fun _=>bX) <|fV <|aa (fun _=>bX) <|fV <|aa (fun _=>bX) <|bu ?_;exact no (by rw[hf,c2];simp)
  | true =>
  refine lR <|aa (fun _=>aK (off:=12) (by kernel_rfl)) <|aa (fun _=>eO underlying47 (s:=1) (fun _=>by kernel_rfl) (by omega) (by omega)) <|aa (v:=iv (nA A (12+k))) (fun _=>lK u.bk (by rw[←u.get (i:=12+k) (by omega)];congr 1;simp)) ?_;unfold iv;refine aa (fun _=>Gd) <|aa (fun _=>dB) <|aa (fun _=>ex) ?_;cases c3:okA (nA A (12+k))with
  | false =>
   refine fV <|aa (fun _=>bX) <|fV <|aa (fun _=>bX) <|bu ?_;exact no (by rw[hf,c3];simp)
  | true =>
  refine lR <|aa (fun _=>aK (off:=12) (by kernel_rfl)) <|aa (fun _=>eO underlying47 (s:=1) (fun _=>by kernel_rfl) (by omega) (by omega)) <|aa (v:=iv (nA A (12+k))) (fun _=>lK u.bk (by rw[←u.get (i:=12+k) (by omega)];congr 1;simp)) <|aa (fun _=>aK (off:=6) (by kernel_rfl)) <|aa (fun _=>eO underlying47 (s:=1) (fun _=>by kernel_rfl) (by omega) (by omega)) <|aa (v:=iv (nA A (6+k))) (fun _=>lK u.bk (by rw[←u.get (i:=6+k) (by omega)];congr 1;simp)) ?_
  unfold iv;refine aa (fun _=>de) <|aa (fun _=>ex) ?_;by_cases h1:nA A (6+k)<nA A (12+k)
  ·refine jy h1 <|aa (fun _=>bO h1) <|bu ?_;exact no (by rw[hf,decide_eq_false (by omega : ¬nA A (12+k)≤nA A (6+k))];simp)
  refine dX h1 <|aa (fun _=>aK (off:=18) (by kernel_rfl)) <|aa (fun _=>eO underlying48 (s:=6) (fun _=>by kernel_rfl) (by omega) (by omega)) <|aa (fun _=>eO underlying47 (s:=1) (fun _=>by kernel_rfl) (by omega) (by omega)) <|aa (v:=iv (nA A (18+6*k+k))) (fun _=>lK u.bk (by rw[←u.get (i:=18+6*k+k) (by omega)];congr 1;simp;omega)) ?_;unfold iv;refine aa (fun _=>bN) <|aa (fun _=>bw h1) ?_
  by_cases U:nA A (18+6*k+k)≠0
  ·refine ax U ?_;exact no (by rw[hf,decide_eq_false U];simp)
  refine aq U ?_;have hg:=nu.1 c1;have hs:=a6 k (Nat.le_refl _);simp only[MXA]at hg hs;refine aK (off:=0) (by kernel_rfl) <|eO underlying47 (s:=1) (fun _=>by kernel_rfl) (by omega) (by omega) <|lK (v:=iv (nA A k)) u.bk (by rw[←u.get (i:=k) (by omega)];congr 1;simp) ?_;unfold iv
  refine aW (by omega) (by omega) <|ET (Inv:=fun jv wr=>∃j:Nat,jv=.int .i64 (j:Nat)∧j≤6∧wr=w4∧∀q,q<j→okA (nA A (18+6*k+q))=true) (μ:=fun jv _=>6-(intOf jv).toNat) ⟨0,rfl,by omega,rfl,fun q hq=>by omega⟩ ?_;rintro _ a0 _ m2 ⟨j,rfl,a3,rfl,ad⟩ am;refine aM ?_;by_cases hj:j<6
  ·refine ax (by omega) <|aK (off:=18) (by kernel_rfl) <|eO underlying48 (s:=6) (fun _=>by kernel_rfl) (by omega) (by omega) <|eO underlying47 (s:=1) (fun _=>by kernel_rfl) (by omega) (by omega) <|lK (v:=iv (nA A (18+6*k+j))) u.bk (by rw[←u.get (i:=18+6*k+j) (by omega)];congr 1;simp;omega) ?_;unfold iv;refine Gd <|dB ?_;cases c4:okA (nA A (18+6*k+j))with
   | false =>
    refine bu <|no ?_
    have:(List.range 6).all (fun j=>okA (nA A (18+6*k+j)))=false:=by
     cases hq:(List.range 6).all (fun j=>okA (nA A (18+6*k+j)))with
     | false=>rfl
     | true=>have:=List.all_eq_true.1 hq j (by simpa using hj);rw[this]at c4;cases c4
    rw[hf,this];simp
   | true =>
    refine aO <|aW (by omega) (by omega) ?_;refine⟨⟨j+1,by simp,by omega,rfl,fun q hq=>?_⟩,by rw[am];simp[intOf];omega⟩;by_cases an:q=j
    ·subst an;exact c4
    ·exact ad q (by omega)
  ·refine aq (by omega) ?_;obtain rfl:j=6:=by omega
   refine EX <|aW (by omega) (by omega) ?_;refine⟨⟨k+1,congrArg (Value.int .i64) (Ob A k).symm,congrArg (Value.int .i64) (by omega),by omega,hB,fun q hq=>?_⟩,by rw[hm];show 6-((k:Int)+1).toNat<6-(k:Int).toNat;omega⟩;by_cases a4:q=k
   ·subst a4;rw[hf,c1,c2,c3,decide_eq_true (by omega:nA A (12+q)≤nA A (6+q)),decide_eq_true (Classical.not_not.1 U),List.all_eq_true.2 fun j hj=>ad j (by simpa using hj)];rfl
   ·exact I q (by omega)
 ·refine aq (by omega) ?_;obtain rfl:k=6:=by omega
  have az:=Mk I;refine EW <|EU (Inv:=fun ap wr=>∃j:Nat,ap=.int .i64 ((j:Int)+1)∧j≤6∧Below O.heap.size O wr∧∀q,q<j→0≤gS A q) (μ:=fun ap _=>8-(intOf ap).toNat) ⟨0,rfl,by omega,b2,fun q hq=>by omega⟩ ?_;rintro _ a0 w5 m2 ⟨j,rfl,a3,b5,X⟩ am;have a2:=hR.below b5 Z;have aS:=b5.size;refine fU ?_;by_cases hj:j<6
  ·refine ax (by omega) <|ldA (n:=54) (vs:=A.map iv) underlying50 rfl (by kernel_rfl) a2.bk av (by simp[hA]) ?_;refine JN hA hj az fun w6 b6=>?_;have ar:Below O.heap.size O w6:=b5.trans (b6.mono aS);unfold iv;refine aM ?_;by_cases J:gS A j<0
   ·refine ax J ?_
    have:=h w6 (b1.trans (ar.mono (by omega)))
    rw[PP hj J]at this;exact this
   ·refine aq J <|aW (by omega) (by omega) ?_;refine⟨⟨j+1,by simp,by omega,ar,fun q hq=>?_⟩,by rw[am];simp[intOf];omega⟩;by_cases an:q=j
    ·subst an;omega
    ·exact X q (by omega)
  ·refine aq (by omega) ?_;obtain rfl:j=6:=by omega
   refine EY <|fU ?_
   have:=h w5 (b1.trans (b5.mono (by omega)))
   rw[PQ I X]at this;exact this
theorem NY {i:Int}(h:K (.bool (bK i)) w):call Tryz.prog 157 #[.int .i64 i] K w:=by
 refine aj (goK func157) (Eh ?_);unfold bK at h;refine bM ?_;by_cases d:i≥1
 ·refine dD d <|fU <|bO d ?_;rw[show decide (1≤i)=true from decide_eq_true d,Bool.true_and]at h;exact h
 ·refine dY d <|bw d ?_;rw[show decide (1≤i)=false from decide_eq_false d,Bool.false_and]at h;exact h
theorem wW (h:jj A=true):∀q,q<54→0≤nA A q∧nA A q≤MXA:=by
 unfold jj at h;simp only[Bool.and_eq_true]at h;exact Mk fun k d=>List.all_eq_true.1 h.1.1 k (by simpa using d)
end
section
open Go.RowKit
theorem Fa (h:box Q 50 Y1 (fun J=>ld Q 50 J fun A1=>call Q 186 #[A1] fun A2=>un Q .not A2 fun A3 w=>aI A3 false (fun u=>bin Q .lss 2 false true U2 (ci 1) (fun A5=>u [U2,A5]) w) (fun k=>k [uu,uu] w) fun d=>pick A3 cT (gd d 1) fun A6 w=>aI A6 false (fun I=>bin Q .gtr 2 false true U2 (ci 1125899906842624) (fun A9=>I [U2,A9]) w) (fun k=>k [uu,uu] w) fun j=>pick A6 cT (gd j 1) fun C0 w=>cond C0 (K (ci 1) w) (call Q 157 #[Z1] (fun C2=>un Q .not C2 fun C3 w=>cond C3 (K (ci 10) w) (K (ci 0) w)) w)) w):Gives Q 156 #[Y1,Z1,U2] w K:=by
 refine aB func156 (by kernel_rfl) ?_;exact mpK h
theorem Gn (h:box Q 50 Y1 (fun d=>alc Q 50 fun A0=>ld Q 50 d fun A3=>call Q 156 #[A3,Z1,U2] fun A5=>bin Q .neq 27 false true A5 (ci 0) fun A7 w=>cond A7 (bld Q 50 #[] (fun A8=>sto Q 50 A0 A8 fun _=>bp Q [(some 50,A0),(none,A5)] K) w) (ld Q 50 d (fun C1=>call Q 158 #[C1,Z1] fun C3=>bin Q .gtr 2 false false U2 C3 fun C4 w=>cond C4 (bld Q 50 #[] (fun C5=>sto Q 50 A0 C5 fun _=>bp Q [(some 50,A0),(none,ci 11)] K) w) (bin Q .sub 3 false true Z1 (ci 1) (fun C6=>af Q 50 d 1 fun C7=>aV Q 47 C7 C6 fun C8=>ld Q 2 C8 fun C9=>bin Q .add 2 false false C9 U2 fun D1=>bin Q .gtr 2 false true D1 (ci 1125899906842624) fun D2 w=>cond D2 (bld Q 50 #[] (fun D3=>sto Q 50 A0 D3 fun _=>bp Q [(some 50,A0),(none,ci 6)] K) w) (bin Q .sub 3 false true Z1 (ci 1) (fun D5=>af Q 50 d 1 fun D6=>aV Q 47 D6 D5 fun D7=>ld Q 2 D7 fun D8=>bin Q .add 2 false false D8 U2 fun E0=>af Q 50 d 1 fun E1=>aV Q 47 E1 D5 fun E2=>sto Q 2 E2 E0 fun _=>ld Q 50 d fun E3=>sto Q 50 A0 E3 fun _=>bp Q [(some 50,A0),(none,ci 0)] K) w)) w)) w)) w):Gives Q 153 #[Y1,Z1,U2] w K:=by
 refine aB func153 (by kernel_rfl) ?_;exact mpK h
theorem Gl (h:box Q 50 Y1 (fun d=>alc Q 50 fun A0=>ld Q 50 d fun A3=>call Q 156 #[A3,Z1,U2] fun A5=>bin Q .neq 27 false true A5 (ci 0) fun A7 w=>cond A7 (bld Q 50 #[] (fun A8=>sto Q 50 A0 A8 fun _=>bp Q [(some 50,A0),(none,A5)] K) w) (sti (bin Q .sub 3 false true Z1 (ci 1)) (fun C2=>sF 50 d 1 fun C3=>sI 47 C3 C2 fun C4=>sL 2 C4 fun C5=>sti (bin Q .sub 3 false true Z1 (ci 1)) fun C6=>sF 50 d 2 fun C7=>sI 47 C7 C6 fun C8=>sL 2 C8 fun C9=>sti (bin Q .sub 2 false false C5 C9) fun D0=>sti (bin Q .gtr 2 false false U2 D0) fun D1 w=>cond D1 (bld Q 50 #[] (fun D2=>sto Q 50 A0 D2 fun _=>bp Q [(some 50,A0),(none,ci 12)] K) w) (bin Q .sub 3 false true Z1 (ci 1) (fun D4=>af Q 50 d 2 fun D5=>aV Q 47 D5 D4 fun D6=>ld Q 2 D6 fun D7=>bin Q .add 2 false false D7 U2 fun D9=>af Q 50 d 2 fun E0=>aV Q 47 E0 D4 fun E1=>sto Q 2 E1 D9 fun _=>ld Q 50 d fun E2=>sto Q 50 A0 E2 fun _=>bp Q [(some 50,A0),(none,ci 0)] K) w)) w.drew)) w):Gives Q 155 #[Y1,Z1,U2] w K:=by
 refine aB func155 (by kernel_rfl) ?_;exact mpK h
theorem Gm (h:box Q 50 Y1 (fun d=>alc Q 50 fun A2=>ld Q 50 d fun A4=>call Q 156 #[A4,Z1,V2] fun A7=>bin Q .neq 27 false true A7 (ci 0) fun A9 w=>cond A9 (bld Q 50 #[] (fun C0=>sto Q 50 A2 C0 fun _=>bp Q [(some 50,A2),(none,A7)] K) w) (call Q 157 #[U2] (fun C3=>un Q .not C3 fun C4 w=>cond C4 (bld Q 50 #[] (fun C5=>sto Q 50 A2 C5 fun _=>bp Q [(some 50,A2),(none,ci 10)] K) w) (bin Q .eql 3 false false Z1 U2 (fun C7 w=>cond C7 (bld Q 50 #[] (fun C8=>sto Q 50 A2 C8 fun _=>bp Q [(some 50,A2),(none,ci 1)] K) w) (ld Q 50 d (fun D0=>call Q 158 #[D0,Z1] fun D2=>bin Q .gtr 2 false false V2 D2 fun D3 w=>cond D3 (bld Q 50 #[] (fun D4=>sto Q 50 A2 D4 fun _=>bp Q [(some 50,A2),(none,ci 11)] K) w) (bin Q .sub 3 false true Z1 (ci 1) (fun D6=>bin Q .sub 3 false true U2 (ci 1) fun D8=>af Q 50 d 3 fun D9=>aV Q 48 D9 D6 fun E0=>aV Q 47 E0 D8 fun E1=>ld Q 2 E1 fun E2=>bin Q .add 2 false false E2 V2 fun E4=>bin Q .gtr 2 false true E4 (ci 1125899906842624) fun E5 w=>cond E5 (bld Q 50 #[] (fun E6=>sto Q 50 A2 E6 fun _=>bp Q [(some 50,A2),(none,ci 6)] K) w) (sti (bin Q .sub 3 false true Z1 (ci 1)) (fun E7=>sti (bin Q .sub 3 false true U2 (ci 1)) fun E8=>sF 50 d 3 fun E9=>sI 48 E9 E7 fun F0=>sI 47 F0 E8 fun F1=>sL 2 F1 fun F2=>sti (bin Q .add 2 false false F2 V2) fun F3=>sF 50 d 3 fun F4=>sI 48 F4 E7 fun F5=>sI 47 F5 E8 fun F6=>sto Q 2 F6 F3 fun _=>ld Q 50 d fun F7=>sto Q 50 A2 F7 fun _=>bp Q [(some 50,A2),(none,ci 0)] K) w.drew)) w)) w)) w)) w)) w):Gives Q 122 #[Y1,Z1,U2,V2] w K:=by
 refine aB func122 (by kernel_rfl) ?_;exact mpK h
end
section
attribute [local irreducible] bin un conv call bY blt slc af fld aV idx lkp dO gY eSt rng nxt ent ext alc box bld bT ld sto aU dE mkS ifc pick rdy wts aI sti cond bp Gives ae fh fT cOp
open Go.RowKit
theorem JQ {i:Int}(h:qf A i x=0):jj A=true∧1≤x∧x≤MXA∧1≤i∧i≤6:=by
 unfold qf at h;split at h
 ·cases h
 ·rename_i d;split at h
  ·cases h
  ·rename_i j;have u:jj A=true:=by
    cases J:jj A with
    | true=>rfl
    | false=>exact absurd (.inl J) d
   have I:bK i=true:=by simpa using j
   have:1≤i∧i≤6:=by simpa[bK]using I
   exact⟨u,by omega,by omega,this.1,this.2⟩
theorem sx (h:K (.pointer (some ⟨b,o+0,none⟩)) w):af Tryz.prog 50 (.pointer (some ⟨b,o,none⟩)) 0 K w:=aK (by kernel_rfl) h
theorem wH (h:K (.pointer (some ⟨b,o+6,none⟩)) w):af Tryz.prog 50 (.pointer (some ⟨b,o,none⟩)) 1 K w:=aK (by kernel_rfl) h
theorem zQ (h:K (.pointer (some ⟨b,o+12,none⟩)) w):af Tryz.prog 50 (.pointer (some ⟨b,o,none⟩)) 2 K w:=aK (by kernel_rfl) h
theorem Dc (h:K (.pointer (some ⟨b,o+18,none⟩)) w):af Tryz.prog 50 (.pointer (some ⟨b,o,none⟩)) 3 K w:=aK (by kernel_rfl) h
section
variable {w:World}{K:KV}
theorem vA (A:List Int):∀v∈A.map iv,v.oneCell'=true:=by simp[iv,Value.oneCell']
theorem qF {q:Nat}(d:q<A.length):(A.map iv)[q]? = some (iv (nA A q)):=by simp[nA,List.getD,d]
theorem Fq {i:Int}(I:A.length=54)(h:∀w',Below w.heap.size w w'→K (.int .i64 (qf A i x)) w'):call Tryz.prog 156 #[.agg (A.map iv).toArray,.int .i64 i,.int .i64 x] K w:=by
 refine aj (goK func156) (Fa ?_);refine cv fun X J b1 Z=>?_;have J:blk X w.heap.size 50 (A.map iv):=by simpa[Value.cells]using J
 have d:((A.map iv).drop 0).take 54=A.map iv:=by rw[List.drop_zero,List.take_of_length_le (by simp[I])]
 refine ldA (n:=54) (vs:=A.map iv) underlying50 rfl (by kernel_rfl) J d (by simp[I]) ?_;refine TV I fun w2 b2=>?_;have B2:Below w.heap.size w w2:=b1.trans (b2.mono (by omega));have h:=h w2 B2;unfold qf at h;have U:MXA=1125899906842624:=rfl;rw[U]at h;refine dB ?_;cases M:jj A with
 | false =>
  rw[if_pos (.inl M)]at h;refine fV <|bX <|fV <|bX <|bu ?_;exact h
 | true =>
  refine lR <|aM <|ex ?_;by_cases j:x<1
  ·rw[if_pos (.inr (.inl j))]at h;refine jy j <|bO j <|bu ?_;exact h
  refine dX j <|de <|bw j ?_;by_cases u:1125899906842624<x
  ·rw[if_pos (.inr (.inr u))]at h;refine ax u ?_;exact h
  refine aq u ?_;rw[if_neg (by rw[M];simp;omega)]at h;refine NY <|dB ?_;cases O:bK i with
  | false =>
   rw[if_pos O]at h;exact bu h
  | true =>
   rw[if_neg (by rw[O];simp)]at h;exact aO h
structure RV3 (w0 w:World) (A:List Int):Prop where
 r:blk w w0.heap.size 50 (A.map iv)
 t:blk w (w0.heap.size+1) 50 (z54.map iv)
 bel:Below w0.heap.size w0 w
theorem RV3.fresh (g:RV3 w0 w A)(d:Below w.heap.size w w'):RV3 w0 w' A:=⟨ac d g.r g.r.lt,ac d g.t g.t.lt,g.bel.trans (d.mono g.bel.size)⟩
theorem RV3.no {e:Int}(g:RV3 w0 w A)(h:∀w',Below w0.heap.size w0 w'→K (.tuple #[.agg (z54.map iv).toArray,.int .i64 e]) w'):bld Tryz.prog 50 #[] (fun t w=>sto Tryz.prog 50 (.pointer (some ⟨w0.heap.size+1,0,none⟩)) t (fun _t w=>bp Tryz.prog [(some 50,.pointer (some ⟨w0.heap.size+1,0,none⟩)),(none,.int .i64 e)] K w) w) w:=by
 refine eT (vs:=z54.map iv) (by kernel_rfl) ?_;exact MA (N:=54) underlying50 rfl (by kernel_rfl) g.t rfl rfl (vA _) fun w' o=>h w' (bG g.bel o (by omega))
theorem RV3.yes {q:Nat}(j:A.length=54)(J:q<54)(g:RV3 w0 w A)(h:∀w',Below w0.heap.size w0 w'→K (.tuple #[.agg ((A.set q x).map iv).toArray,.int .i64 0]) w'):sto Tryz.prog 2 (.pointer (some ⟨w0.heap.size,q,none⟩)) (.int .i64 x) (fun _t w=>ld Tryz.prog 50 (.pointer (some ⟨w0.heap.size,0,none⟩)) (fun t w=>sto Tryz.prog 50 (.pointer (some ⟨w0.heap.size+1,0,none⟩)) t (fun _t w=>bp Tryz.prog [(some 50,.pointer (some ⟨w0.heap.size+1,0,none⟩)),(none,.int .i64 0)] K w) w) w) w:=by
 refine eB (fun _=>by kernel_rfl) g.r (by simp[j];exact J) rfl fun M u I=>?_;have e:(A.map iv).set q (.int .i64 x)=(A.set q x).map iv:=by rw[List.map_set];rfl
 rw[e]at u;have d:(((A.set q x).map iv).drop 0).take 54=(A.set q x).map iv:=by rw[List.drop_zero,List.take_of_length_le (by simp[j])]
 refine ldA (n:=54) (vs:=(A.set q x).map iv) underlying50 rfl (by kernel_rfl) u d (by simp[j]) ?_;exact MA (N:=54) underlying50 rfl (by kernel_rfl) (I.blk g.t (by omega)) rfl (by simp[j]) (vA _) fun w' o=>h w' (bG (bG g.bel I (Nat.le_refl _)) o (by omega))
theorem RV3.make {K2:Value→KV}(M:A.length=54)(h:∀w',RV3 w w' A→w'.heap.size=w.heap.size+2→K2 (.pointer (some ⟨w.heap.size,0,none⟩)) (.pointer (some ⟨w.heap.size+1,0,none⟩)) w'):box Tryz.prog 50 (.agg (A.map iv).toArray) (fun r w=>alc Tryz.prog 50 (K2 r) w) w:=by
 refine cv fun u j b1 J=>?_;have j:blk u w.heap.size 50 (A.map iv):=by simpa[Value.cells]using j
 refine dZ (z:=.agg (z54.map iv).toArray) (by kernel_rfl) fun I d b2 O=>?_;have d:blk I u.heap.size 50 (z54.map iv):=by simpa[Value.cells]using d
 rw[J]at d ⊢;exact h I ⟨ac b2 j j.lt,d,b1.trans (b2.mono (by omega))⟩ (by omega)
theorem ixR {i:Int}(hi:i=(k:Nat))(h:k<6)(d:K (.pointer (some ⟨b,o+k,none⟩)) w):aV Tryz.prog 47 (.pointer (some ⟨b,o,none⟩)) (.int .i64 i) K w:=by
 subst hi;exact eO underlying47 (s:=1) (fun _=>by kernel_rfl) (by omega) (by omega) (by rw[Int.toNat_natCast,Nat.mul_one];exact d)
theorem My {i:Int}(j:A.length=54)(hx : -9223372036854775808≤x∧x≤9223372036854775807)(h:∀w',Below w.heap.size w w'→K (.tuple #[.agg ((iO A i x).1.map iv).toArray,.int .i64 (iO A i x).2]) w'):call Tryz.prog 153 #[.agg (A.map iv).toArray,.int .i64 i,.int .i64 x] K w:=by
 refine aj (goK func153) (Gn ?_);refine RV3.make j fun w1 X s1=>?_;have d:((A.map iv).drop 0).take 54=A.map iv:=by rw[List.drop_zero,List.take_of_length_le (by simp[j])]
 refine ldA (n:=54) (vs:=A.map iv) underlying50 rfl (by kernel_rfl) X.r d (by simp[j]) ?_;refine Fq j fun w2 b2=>?_;have O:=X.fresh b2;unfold iO at h;refine bN ?_;by_cases J:qf A i x≠0
 ·rw[if_pos J]at h;refine ax J ?_;exact O.no h
 refine aq J ?_;rw[if_neg J]at h;obtain⟨hm,x1,x2,i1,i2⟩:=JQ (show qf A i x=0 by omega);have Z:=wW hm;have hM:MXA=1125899906842624:=rfl;refine ldA (n:=54) (vs:=A.map iv) underlying50 rfl (by kernel_rfl) O.r d (by simp[j]) ?_;generalize hk:(i-1).toNat=k at h;have hi:i=((k:Nat):Int)+1:=by omega
 subst hi;refine JN j (by omega) Z fun w3 b3=>?_;have u:=O.fresh b3;unfold iv;refine de ?_;by_cases M:gS A k<x
 ·rw[if_pos M]at h;refine ax M ?_;exact u.no h
 refine aq M ?_;rw[if_neg M]at h;unfold rY at h;have hq:=Z (6+k) (by omega);rw[hM]at hq x2 h;have U:((k:Nat):Int)+1-1=(k:Nat):=by omega
 refine bh (by omega) (by omega) ?_;rw[U];refine wH <|ixR rfl (by omega) <|lK (v:=iv (nA A (6+k))) u.r (by rw[show 0+6+k=6+k by omega];exact qF (by omega)) ?_;unfold iv;refine aW (by omega) (by omega) <|de ?_;by_cases I:1125899906842624<nA A (6+k)+x
 ·rw[if_pos I]at h;refine ax I ?_;exact u.no h
 refine aq I ?_;rw[if_neg I]at h;refine bh (by omega) (by omega) ?_;rw[U];refine wH <|ixR rfl (by omega) <|lK (v:=iv (nA A (6+k))) u.r (by rw[show 0+6+k=6+k by omega];exact qF (by omega)) ?_;unfold iv;refine aW (by omega) (by omega) <|wH <|ixR rfl (by omega) ?_;rw[show 0+6+k=6+k by omega];exact u.yes j (by omega) h
end
theorem RV3.drew (g:RV3 w0 w A):RV3 w0 w.drew A:=g.fresh (Below.refl _ w).drew
theorem Mw {i:Int}(I:A.length=54)(hx : -9223372036854775808≤x∧x≤9223372036854775807)(h:∀w',Below w.heap.size w w'→K (.tuple #[.agg ((iH A i x).1.map iv).toArray,.int .i64 (iH A i x).2]) w'):call Tryz.prog 155 #[.agg (A.map iv).toArray,.int .i64 i,.int .i64 x] K w:=by
 refine aj (goK func155) (Gl ?_);refine RV3.make I fun w1 X s1=>?_;have j:((A.map iv).drop 0).take 54=A.map iv:=by rw[List.drop_zero,List.take_of_length_le (by simp[I])]
 refine ldA (n:=54) (vs:=A.map iv) underlying50 rfl (by kernel_rfl) X.r j (by simp[I]) ?_;refine Fq I fun w2 b2=>?_;have Z:=X.fresh b2;unfold iH at h;refine bN ?_;by_cases J:qf A i x≠0
 ·rw[if_pos J]at h;refine ax J ?_;exact Z.no h
 refine aq J ?_;rw[if_neg J]at h;obtain⟨hm,x1,x2,i1,i2⟩:=JQ (show qf A i x=0 by omega);have hn:=wW hm;have hM:MXA=1125899906842624:=rfl;generalize hk:(i-1).toNat=k at h;have hi:i=((k:Nat):Int)+1:=by omega
 subst hi;have q1:=hn (6+k) (by omega);have q2:=hn (12+k) (by omega);rw[hM]at q1 q2 x2;have O:((k:Nat):Int)+1-1=(k:Nat):=by omega
 have u:=Z.drew;have U:∀{w3:World} {K:KV} (q:Nat),RV3 w w3 A→q<54→K (iv (nA A q)) w3→ld Tryz.prog 2 (.pointer (some ⟨w.heap.size,q,none⟩)) K w3:=fun q g hq d=>lK g.r (qF (by omega)) d
 refine aa (v:=.int .i64 (k:Nat)) (fun K d=>bh (by omega) (by omega) (by rw[O];exact d)) <|aa (fun _=>wH) <|aa (v:=.pointer (some ⟨w.heap.size,6+k,none⟩)) (fun K d=>ixR rfl (by omega) (by rw[show 0+6+k=6+k by omega];exact d)) <|aa (v:=iv (nA A (6+k))) (fun _=>U _ u (by omega)) <|aa (v:=.int .i64 (k:Nat)) (fun K d=>bh (by omega) (by omega) (by rw[O];exact d)) <|aa (fun _=>zQ) <|aa (v:=.pointer (some ⟨w.heap.size,12+k,none⟩)) (fun K d=>ixR rfl (by omega) (by rw[show 0+12+k=12+k by omega];exact d)) <|aa (v:=iv (nA A (12+k))) (fun _=>U _ u (by omega)) <|aa (v:=.int .i64 (nA A (6+k)-nA A (12+k))) (fun _=>bh (by omega) (by omega)) <|aa (fun _=>de) ?_
 by_cases M:nA A (6+k)-nA A (12+k)<x
 ·rw[if_pos M]at h;refine ax M ?_;exact u.no h
 refine aq M ?_;rw[if_neg M]at h;refine bh (by omega) (by omega) ?_;rw[O];refine zQ <|ixR rfl (by omega) ?_;rw[show 0+12+k=12+k by omega];refine U _ u (by omega) ?_;unfold iv;refine aW (by omega) (by omega) <|zQ <|ixR rfl (by omega) ?_;rw[show 0+12+k=12+k by omega];exact u.yes I (by omega) h
theorem Oy {i:Int}(hi:i=(k:Nat))(h:k<6)(d:K (.pointer (some ⟨b,o+6*k,none⟩)) w):aV Tryz.prog 48 (.pointer (some ⟨b,o,none⟩)) (.int .i64 i) K w:=by
 subst hi;exact eO underlying48 (s:=6) (fun _=>by kernel_rfl) (by omega) (by omega) (by rw[Int.toNat_natCast,Nat.mul_comm];exact d)
theorem Mx {i j:Int}(J:A.length=54)(hx : -9223372036854775808≤x∧x≤9223372036854775807)(h:∀w',Below w.heap.size w w'→K (.tuple #[.agg ((kQ A i j x).1.map iv).toArray,.int .i64 (kQ A i j x).2]) w'):call Tryz.prog 122 #[.agg (A.map iv).toArray,.int .i64 i,.int .i64 j,.int .i64 x] K w:=by
 refine aj (goK func122) (Gm ?_);refine RV3.make J fun w1 g1 s1=>?_;have I:((A.map iv).drop 0).take 54=A.map iv:=by rw[List.drop_zero,List.take_of_length_le (by simp[J])]
 refine ldA (n:=54) (vs:=A.map iv) underlying50 rfl (by kernel_rfl) g1.r I (by simp[J]) ?_;refine Fq J fun w2 b2=>?_;have M:=g1.fresh b2;unfold kQ at h;refine bN ?_;by_cases Z:qf A i x≠0
 ·rw[if_pos Z]at h;refine ax Z ?_;exact M.no h
 refine aq Z ?_;rw[if_neg Z]at h;obtain⟨hm,x1,x2,i1,i2⟩:=JQ (show qf A i x=0 by omega);have hn:=wW hm;have hM:MXA=1125899906842624:=rfl;refine NY <|dB ?_;cases O:bK j with
 | false =>
  rw[if_pos O]at h;refine bu ?_;exact M.no h
 | true =>
 rw[if_neg (by rw[O];simp)]at h;refine aO ?_;have ad:1≤j∧j≤6:=by simpa[bK]using O
 refine bg ?_;by_cases u:i=j
 ·rw[if_pos u]at h;refine ax u ?_;exact M.no h
 refine aq u ?_;rw[if_neg u]at h;refine ldA (n:=54) (vs:=A.map iv) underlying50 rfl (by kernel_rfl) M.r I (by simp[J]) ?_;generalize hk:(i-1).toNat=k at h;generalize ag:(j-1).toNat=m at h;have hi:i=((k:Nat):Int)+1:=by omega
 have O:j=((m:Nat):Int)+1:=by omega
 subst hi O;refine JN J (by omega) hn fun w3 b3=>?_;have U:=M.fresh b3;unfold iv;refine de ?_;by_cases hl:gS A k<x
 ·rw[if_pos hl]at h;refine ax hl ?_;exact U.no h
 refine aq hl ?_;rw[if_neg hl]at h;unfold rY at h;have hq:=hn (18+6*k+m) (by omega);rw[hM]at hq x2 h;have ek:((k:Nat):Int)+1-1=(k:Nat):=by omega
 have em:((m:Nat):Int)+1-1=(m:Nat):=by omega
 have rd:∀{w3:World} {K:KV} (q:Nat),RV3 w w3 A→q<54→K (iv (nA A q)) w3→ld Tryz.prog 2 (.pointer (some ⟨w.heap.size,q,none⟩)) K w3:=fun q g hq d=>lK g.r (qF (by omega)) d;refine bh (by omega) (by omega) ?_;rw[ek];refine bh (by omega) (by omega) ?_;rw[em];refine Dc <|Oy rfl (by omega) <|ixR rfl (by omega) ?_;rw[show 0+18+6*k+m=18+6*k+m by omega];refine rd _ U (by omega) ?_;unfold iv
 refine aW (by omega) (by omega) <|de ?_;by_cases X:1125899906842624<nA A (18+6*k+m)+x
 ·rw[if_pos X]at h;refine ax X ?_;exact U.no h
 refine aq X ?_;rw[if_neg X]at h;have g4:=U.drew
 refine aa (v:=.int .i64 (k:Nat)) (fun K d=>bh (by omega) (by omega) (by rw[ek];exact d)) <|aa (v:=.int .i64 (m:Nat)) (fun K d=>bh (by omega) (by omega) (by rw[em];exact d)) <|aa (fun _=>Dc) <|aa (fun _=>Oy rfl (by omega)) <|aa (v:=.pointer (some ⟨w.heap.size,18+6*k+m,none⟩)) (fun K d=>ixR rfl (by omega) (by rw[show 0+18+6*k+m=18+6*k+m by omega];exact d)) <|aa (v:=iv (nA A (18+6*k+m))) (fun _=>rd _ g4 (by omega)) <|aa (v:=.int .i64 (nA A (18+6*k+m)+x)) (fun _=>aW (by omega) (by omega)) <|aa (fun _=>Dc) <|aa (fun _=>Oy rfl (by omega)) <|aa (v:=.pointer (some ⟨w.heap.size,18+6*k+m,none⟩)) (fun K d=>ixR rfl (by omega) (by rw[show 0+18+6*k+m=18+6*k+m by omega];exact d)) ?_
 exact g4.yes J (by omega) h
end
section
open Go.RowKit
def lw (r0 x1 is2 may3 number4 r5 C0 C4:Value)(zf:Nat→Value):List Value:=r0::x1::is2::may3::number4::r5::zT zf 6 4 (C0::zT zf 11 3 (C4::zT zf 15 32 ([])))
def iG (K:KV):KE:=ae Q (cd f255 [1,1]) (rk f255 K) xf (rk f255 K)
def jH (K:KV):KE:=ae Q (cd f255 [1,0,0,1]) (iG K) (xx xf (iG K) 0) (rk f255 K)
def oT (K:KV):KE:=ae Q (cd f255 (b1 49)) (jH K) (xx xf (iG K) 0) (rk f255 K)
theorem HR {K:KV}{Y1 Z1 U2 V2 W2:Value}{w:World}(h:box Q 50 Y1 (fun X2=>alc Q 50 fun Y2=>ld Q 50 X2 fun C5=>call Q 103 #[C5] fun C6=>un Q .not C6 fun C7=>oT K (lw Y1 Z1 U2 V2 W2 X2 Y2 C7 (zV (zV zu 11 [ci 0]) 15 [C5,C6,C7]))) w):Gives Q 255 #[Y1,Z1,U2,V2,W2] w K:=by
 refine aB func255 (by kernel_rfl) ?_
 refine Eq.mp (congrArg (fun c=>ae Q c _ _ _ _ w) (by kernel_rfl:(rep (b1 49) (cd f255 (b1 49)) (cd f255 []))=(cd f255 []))) ?_
 revert h
 delta oT iG jH
 generalize (cd f255 (b1 49))=xc0
 exact mpF
theorem Fv (h:cond Z2 (jH K (lw Y1 Z1 U2 V2 W2 X2 Y2 Z2 zf) w) (bin Q .lss 2 false true Z1 (ci 1) (fun C8 w=>cond C8 (jH K (lw Y1 Z1 U2 V2 W2 X2 Y2 C8 (zV zf 18 [Z1,C8])) w) (bin Q .gtr 2 false true Z1 (ci 1125899906842624) (fun D0=>jH K (lw Y1 Z1 U2 V2 W2 X2 Y2 D0 (zV zf 18 [Z1,C8,Z1,D0]))) w)) w)):oT K (lw Y1 Z1 U2 V2 W2 X2 Y2 Z2 zf) w:=by
 delta oT;revert h;generalize (jH K)=qc0;generalize (iG K)=qc1;exact mpF
theorem sT (h:cond Z2 (bld Q 50 #[] (fun D1=>sto Q 50 Y2 D1 fun _=>bp Q [(some 50,Y2),(none,ci 1)] K) w) (un Q .not U2 (fun D2 w=>cond D2 (bld Q 50 #[] (fun D3=>sto Q 50 Y2 D3 fun _=>bp Q [(some 50,Y2),(none,ci 10)] K) w) (iG K (lw Y1 Z1 U2 V2 W2 X2 Y2 Z2 (zV zf 23 [D2,U2,D2])) w)) w)):jH K (lw Y1 Z1 U2 V2 W2 X2 Y2 Z2 zf) w:=by
 delta jH;revert h;generalize (iG K)=qc0;exact mpF
theorem Fw (h:bY Q V2 #[] (fun D4=>bin Q .neq 27 false true D4 (ci 0) fun D5 w=>cond D5 (bld Q 50 #[] (fun D6=>sto Q 50 Y2 D6 fun _=>bp Q [(some 50,Y2),(none,D4)] K) w) (bY Q W2 #[X2] (fun D7=>aU D7 fun D8=>ld Q 2 D8 fun D9=>bin Q .add 2 false false D9 Z1 fun E0=>aU D7 fun E1=>sto Q 2 E1 E0 fun _=>aU D7 fun E2=>ld Q 2 E2 fun E3=>bin Q .gtr 2 false true E3 (ci 1125899906842624) fun E4 w=>cond E4 (bld Q 50 #[] (fun E5=>sto Q 50 Y2 E5 fun _=>bp Q [(some 50,Y2),(none,ci 6)] K) w) (ld Q 50 X2 (fun E6=>sto Q 50 Y2 E6 fun _=>bp Q [(some 50,Y2),(none,ci 0)] K) w)) w)) w):iG K (lw Y1 Z1 U2 V2 W2 X2 Y2 Z2 zf) w:=by
 delta iG;exact mpK h
attribute [irreducible] iG jH oT
theorem JU (h:cond Y1 (K Z1 w) (K (ci 0) w)):Gives Q 257 #[Y1,Z1] w K:=by
 refine aB func257 (by kernel_rfl) ?_;exact mpK h
theorem JT (h:box Q 50 Y1 (fun j=>box Q 3 Z1 fun d=>box Q 2 U2 fun u=>alc Q 50 fun A6 w=>aG (fun S w=>hL S 50 j fun A8=>hL S 2 u fun A9=>hL S 3 d fun C0=>call Q 102 #[C0] (fun C1=>aY S fun _=>call Q 255 #[A8,A9,C1,Value.func (Fn.func 256) #[] #[u,j,d],Value.func (Fn.func 258) #[] #[d]] fun C4=>aG fun S w=>hld S (ext Q C4 0) fun C5=>hld S (ext Q C4 1) fun C6=>sto Q 50 A6 C5 (fun _=>aG fun _=>bp Q [(some 50,A6),(none,C6)] K) w) w) w.drew) w):Gives Q 243 #[Y1,Z1,U2] w K:=by
 refine aB func243 (by kernel_rfl) ?_;exact mpK h
theorem HO (h:aG (fun S w=>hL S 2 Y1 fun A4=>hL S 50 Z1 fun A5=>hL S 3 U2 fun A6=>call Q 63 #[A5,A6] (fun A7=>aY S fun S w=>hld S (bin Q .gtr 2 false false A4 A7) fun A8=>call Q 257 #[A8,ci 11] (fun A9=>aG fun _=>K A9) w) w) w.drew):Gives Q 256 #[Y1,Z1,U2] w K:=by
 refine aB func256 (by kernel_rfl) ?_;exact mpK h
theorem HP (h:sL 3 Z1 (fun A5=>sti (bin Q .sub 3 false true A5 (ci 1)) fun A6=>sN Y1 fun A7=>sF 50 A7 1 fun A8=>sI 47 A8 A6 K) w.drew):Gives Q 258 #[Y1,Z1] w K:=by
 refine aB func258 (by kernel_rfl) ?_;exact mpK h
theorem JR (h:box Q 50 Y1 (fun j=>box Q 3 Z1 fun d=>box Q 2 U2 fun u=>alc Q 50 fun A6 w=>aG (fun S w=>hL S 50 j fun A8=>hL S 2 u fun A9=>hL S 3 d fun C0=>call Q 102 #[C0] (fun C1=>aY S fun _=>call Q 255 #[A8,A9,C1,Value.func (Fn.func 259) #[] #[u,j,d],Value.func (Fn.func 260) #[] #[d]] fun C4=>aG fun S w=>hld S (ext Q C4 0) fun C5=>hld S (ext Q C4 1) fun C6=>sto Q 50 A6 C5 (fun _=>aG fun _=>bp Q [(some 50,A6),(none,C6)] K) w) w) w.drew) w):Gives Q 246 #[Y1,Z1,U2] w K:=by
 refine aB func246 (by kernel_rfl) ?_;exact mpK h
theorem HJ (h:aG (fun S w=>hL S 2 Y1 fun A4=>hL S 3 U2 fun A5=>hld (fun _=>True) (bin Q .sub 3 false true A5 (ci 1)) fun A6=>hF S 50 Z1 1 fun A7=>hI S 47 A7 A6 fun A8=>hL S 2 A8 fun A9=>hL S 3 U2 fun C0=>hld (fun _=>True) (bin Q .sub 3 false true C0 (ci 1)) fun C1=>hF S 50 Z1 2 fun C2=>hI S 47 C2 C1 fun C3=>hL S 2 C3 fun C4=>hld (fun _=>True) (bin Q .sub 2 false false A9 C4) fun C5=>hld S (bin Q .gtr 2 false false A4 C5) fun C6=>call Q 257 #[C6,ci 12] (fun C7=>aG fun _=>K C7) w) w.drew):Gives Q 259 #[Y1,Z1,U2] w K:=by
 refine aB func259 (by kernel_rfl) ?_;exact mpK h
theorem HK (h:sL 3 Z1 (fun A5=>sti (bin Q .sub 3 false true A5 (ci 1)) fun A6=>sN Y1 fun A7=>sF 50 A7 2 fun A8=>sI 47 A8 A6 K) w.drew):Gives Q 260 #[Y1,Z1] w K:=by
 refine aB func260 (by kernel_rfl) ?_;exact mpK h
theorem JS (h:box Q 50 Y1 (fun u=>box Q 3 Z1 fun d=>box Q 3 U2 fun j=>box Q 2 V2 fun I=>alc Q 50 fun A8 w=>aG (fun S w=>hL S 50 u fun C0=>hL S 2 I fun C1=>hL S 3 d fun C2=>call Q 102 #[C2] (fun C3=>aY S fun S w=>hG C3 true S (ld Q 3 j) fun C5=>xG C3 true (call Q 102 #[C5]) (fun C6=>aY S fun S w=>hld S (pick C3 C6 cF) fun C7=>call Q 255 #[C0,C1,C7,Value.func (Fn.func 261) #[] #[d,j,I,u],Value.func (Fn.func 262) #[] #[d,j]] (fun C9=>aG fun S w=>hld S (ext Q C9 0) fun D0=>hld S (ext Q C9 1) fun D1=>sto Q 50 A8 D0 (fun _=>aG fun _=>bp Q [(some 50,A8),(none,D1)] K) w) w) w) w) w.drew) w):Gives Q 248 #[Y1,Z1,U2,V2] w K:=by
 refine aB func248 (by kernel_rfl) ?_;exact mpK h
theorem HL (h:ld Q 3 Y1 (fun A5=>ld Q 3 Z1 fun A6=>bin Q .eql 3 false false A5 A6 fun A7 w=>cond A7 (K (ci 1) w) (aG (fun S w=>hL S 2 U2 fun A8=>hL S 50 V2 fun A9=>hL S 3 Y1 fun C0=>call Q 63 #[A9,C0] (fun C1=>aY S fun S w=>hld S (bin Q .gtr 2 false false A8 C1) fun C2=>call Q 257 #[C2,ci 11] (fun C3=>aG fun _=>K C3) w) w) w.drew)) w):Gives Q 261 #[Y1,Z1,U2,V2] w K:=by
 refine aB func261 (by kernel_rfl) ?_;exact mpK h
theorem HN (h:sL 3 Z1 (fun A6=>sti (bin Q .sub 3 false true A6 (ci 1)) fun A7=>sL 3 U2 fun A8=>sti (bin Q .sub 3 false true A8 (ci 1)) fun A9=>sN Y1 fun C0=>sF 50 C0 3 fun C1=>sI 48 C1 A7 fun C2=>sI 47 C2 A9 K) w.drew):Gives Q 262 #[Y1,Z1,U2] w K:=by
 refine aB func262 (by kernel_rfl) ?_;exact mpK h
end
section
/-! ## Sums -/

/-! ## The live ones -/
end
section
open Go.RowKit
def zJ (P:Program):List Field→Nat→Nat→Bool
 | [],o,n=>Nat.beq o n
 | f::fs,o,n=>Nat.beq f.offset o&&zJ P fs (o+P.cellsOf f.type) n
def jD (P:Program):Nat→TypeId→List Value→Bool
 | 0,_,_=>false
 | d+1,t,cs=>match P.underlying t with
  | some .bool=>(match cs with | [.bool _]=>true | _=>false)
  | some (.int q)=>(match cs with | [.int q' _]=>decide (q'=q) | _=>false)
  | some (.array n e)=>(P.info? e).isSome && (Nat.beq cs.length (n * P.cellsOf e) && (List.range n).all fun i=>jD P d e ((cs.drop (i * P.cellsOf e)).take (P.cellsOf e)))
  | some (.struct fs) => !P.stoodInHeld t && (zJ P fs.toList 0 cs.length && fs.toList.all fun f=>f.name != "_" && jD P d f.type ((cs.drop f.offset).take (P.cellsOf f.type)))
  | _=>false
def xd (P:Program)(t:TypeId)(cs:List Value):Value:=match P.underlying t with
 | some (.array _ _)=>.agg cs.toArray
 | some (.struct _)=>.agg cs.toArray
 | _=>cs.headD undef
theorem GD {P:Program}:∀(fs:List Field) (o n m:Nat),zJ P fs o n=true→zJ P fs o m=true→n=m
 | [],o,n,m,h1,h2=>by
  have:=Nat.eq_of_beq_eq_true h1
  have:=Nat.eq_of_beq_eq_true h2
  omega
 | f::fs,o,n,m,h1,h2=>by
  unfold zJ at h1 h2;rw[Bool.and_eq_true]at h1 h2;exact GD fs _ n m h1.2 h2.2
theorem EG (j:P.underlying t=some .bool)(h:jD P (d+1) t cs=true):∃b,cs=[.bool b]:=by
 unfold jD at h;simp only[j]at h;split at h
 ·exact⟨_,rfl⟩
 ·cases h
theorem Hc {q:IntKind}(j:P.underlying t=some (.int q))(h:jD P (d+1) t cs=true):∃n,cs=[.int q n]:=by
 unfold jD at h;simp only[j]at h;split at h
 ·have:=of_decide_eq_true h;subst this;exact⟨_,rfl⟩
 ·cases h
section
variable {P:Program}
theorem Ip {xs:List Value}{off:Nat}{v:Value}(h:(xs.drop off).take n=[v]):xs.toArray[off]? = some v:=by
 have d:((xs.drop off).take n)[0]? = some v:=by rw[h];rfl
 rw[List.getElem?_take]at d;split at d
 ·rw[List.getElem?_drop]at d;simpa using d
 ·cases d
theorem DO {off:Nat}{xs:List Value}(w:World)(h:jD P d e ((xs.drop off).take (P.cellsOf e))=true):(part e xs.toArray off).run P w=.ok (xd P e ((xs.drop off).take (P.cellsOf e))) w:=by
 cases d with
 | zero=>simp[jD]at h
 | succ d =>
  cases j:P.underlying e with
  | none=>simp[jD,j]at h
  | some kd =>
   have I:(xs.toArray.extract off (off+P.cellsOf e))=((xs.drop off).take (P.cellsOf e)).toArray:=by
    apply Array.toList_inj.1;rw[Array.toList_extract];simp[List.extract]
   cases kd
   case bool =>
    obtain⟨b,u⟩:=EG j h;rw[run_part_plain w (by simp[Program.plainKey,j]) (Ip u),u];simp[xd,j]
   case int q =>
    obtain⟨b,u⟩:=Hc j h;rw[run_part_plain w (by simp[Program.plainKey,j]) (Ip u),u];simp[xd,j]
   case array n e' =>
    obtain⟨i,hi⟩:=info_of_underlying j;simp only[part,isAgg,Sem.run_bind,run_underlying j,run_sizeOf w hi,Result.andThen_ok,Sem.run_pure,if_true,xd,j,I]
   case struct fs =>
    obtain⟨i,hi⟩:=info_of_underlying j;simp only[part,isAgg,Sem.run_bind,run_underlying j,run_sizeOf w hi,Result.andThen_ok,Sem.run_pure,if_true,xd,j,I]
   all_goals (simp[jD,j]at h;done)
theorem KF {xs ys:List Value}(u:xs.length=ys.length):(xs.drop o).take c=(ys.drop o).take c∧xs.drop (o+c)=ys.drop (o+c)↔xs.drop o=ys.drop o:=by
 have e:∀zs:List Value,zs.drop o=(zs.drop o).take c++zs.drop (o+c):=fun zs=>by rw[←List.drop_drop];exact(List.take_append_drop c (zs.drop o)).symm
 constructor
 ·rintro⟨d,j⟩;rw[e xs,e ys,d,j]
 ·intro h;refine⟨by rw[h],?_⟩;rw[←List.drop_drop, ←List.drop_drop,h]
def EqB (P:Program)(D d:Nat):Prop:=∀(t:TypeId) (w:World) (xs ys:List Value),jD P d t xs=true→jD P d t ys=true→∃r:Bool,(Op.equalIn D t (xd P t xs) (xd P t ys)).run P w=.ok r w∧(r=true↔xs=ys)
theorem Ns {D d:Nat} (IH:EqB P D d) {xs ys:List Value} (u:xs.length=ys.length) (w:World):∀ (fs:List Field) (o:Nat),zJ P fs o xs.length=true →
  (∀ f ∈ fs,f.name≠"_"∧jD P d f.type ((xs.drop f.offset).take (P.cellsOf f.type))=true∧jD P d f.type ((ys.drop f.offset).take (P.cellsOf f.type))=true) →
  ∃ r:Bool,(Op.eqFields D xs.toArray ys.toArray fs).run P w=.ok r w∧(r=true↔xs.drop o=ys.drop o)
 | [],o,hc,_=>by
  have:=Nat.eq_of_beq_eq_true hc
  subst this;exact ⟨true,by simp [Op.eqFields],by rw [List.drop_length,u,List.drop_length]; simp⟩
 | f::fs,o,hc,hall=>by
  unfold zJ at hc;rw [Bool.and_eq_true] at hc;have X:=Nat.eq_of_beq_eq_true hc.1;obtain ⟨U,J,M⟩:=hall f (by simp);obtain ⟨r,Z,j⟩:=IH f.type w _ _ J M;obtain ⟨r',I,h⟩:=Ns IH u w fs (o+P.cellsOf f.type) hc.2 (fun g O=>hall g (by simp [O]));simp only [Op.eqFields,U,ne_eq,not_false_eq_true,if_true,Sem.run_bind,DO w J,DO w M,Z,Result.andThen_ok]
  rw [← KF u (c:=P.cellsOf f.type), ← h, ← X, ← j];cases r
  ·exact ⟨false,by simp,by simp⟩
  ·exact ⟨r',by simpa using I,by simp⟩
theorem Nt {D d:Nat}(IH:EqB P D d){xs ys:List Value}{e:TypeId}{n:Nat}(I:xs.length=ys.length)(M:xs.length=n*P.cellsOf e)(w:World)(j:∀i,i<n→jD P d e ((xs.drop (i*P.cellsOf e)).take (P.cellsOf e))=true∧jD P d e ((ys.drop (i*P.cellsOf e)).take (P.cellsOf e))=true):∀(m i:Nat),i+m=n →
  ∃r:Bool,(Op.eqItems D e (P.cellsOf e) xs.toArray ys.toArray (List.range' i m)).run P w=.ok r w∧(r=true↔xs.drop (i*P.cellsOf e)=ys.drop (i*P.cellsOf e))
 | 0,i,hi=>by
  obtain rfl:i=n:=by omega
  exact⟨true,by simp[Op.eqItems],by rw[←M,List.drop_length,I,List.drop_length];simp⟩
 | m+1,i,hi=>by
  obtain⟨O,U⟩:=j i (by omega);obtain⟨r,X,u⟩:=IH e w _ _ O U;obtain⟨Z,J,h⟩:=Nt IH I M w j m (i+1) (by omega);simp only[List.range'_succ,Op.eqItems,Sem.run_bind,DO w O,DO w U,X,Result.andThen_ok];rw[←KF I (c:=P.cellsOf e), ←u];rw[show (i+1)*P.cellsOf e=i*P.cellsOf e+P.cellsOf e by rw[Nat.add_mul,Nat.one_mul]]at h;rw[←h];cases r
  ·exact⟨false,by simp,by simp⟩
  ·exact⟨Z,by simpa using J,by simp⟩
theorem Nr (D:Nat):∀d:Nat,EqB P (D+d) d
 | 0=>fun t w xs ys h _=>by simp[jD]at h
 | d+1=>fun t w xs ys h I=>by
  have IH:=Nr D d;cases j:P.underlying t with
  | none=>simp[jD,j]at h
  | some kd =>
   cases kd
   case bool =>
    obtain⟨a,rfl⟩:=EG j h;obtain⟨b,rfl⟩:=EG j I;refine⟨a==b,?_,by simp⟩;simp only[xd,j,List.headD_cons];exact run_equalIn_bool' w (D+d) t a b j
   case int q =>
    obtain⟨a,rfl⟩:=Hc j h;obtain⟨b,rfl⟩:=Hc j I;refine⟨a==b,?_,by simp⟩;simp only[xd,j,List.headD_cons];exact run_equalIn_int w (D+d) t q q a b j
   case array n e =>
    unfold jD at h I;simp only[j,Bool.and_eq_true,List.all_eq_true,List.mem_range]at h I;have U:=Nat.eq_of_beq_eq_true h.2.1;have Z:=Nat.eq_of_beq_eq_true I.2.1;obtain⟨i,hi⟩:=Option.isSome_iff_exists.1 h.1;obtain⟨r,O,u⟩:=Nt IH (U.trans Z.symm) U w (fun i hi=>⟨h.2.2 i hi,I.2.2 i hi⟩) n 0 (by omega);refine⟨r,?_,by simpa using u⟩;simp only[xd,j]
    rw[show D+(d+1)=(D+d)+1 from rfl,run_equalIn_array w (D+d) _ _ j hi,List.range_eq_range'];exact O
   case struct fs =>
    unfold jD at h I;simp only[j,Bool.and_eq_true,List.all_eq_true,Bool.not_eq_true',bne_iff_ne,ne_eq]at h I;have X:=GD fs.toList 0 _ _ h.2.1 I.2.1;have J:P.fieldsOf t=fs:=by simp[Program.fieldsOf,j]
    obtain⟨r,O,u⟩:=Ns IH X w fs.toList 0 h.2.1 (fun f M=>⟨(h.2.2 f M).1,(h.2.2 f M).2,(I.2.2 f M).2⟩);refine⟨r,?_,by simpa using u⟩;simp only[xd,j];rw[show D+(d+1)=(D+d)+1 from rfl,run_equalIn_struct w (D+d) t _ _ (by rw[J];exact j) h.1,J];exact O
   all_goals (simp[jD,j]at h;done)
variable {K:KV}{w:World}{t:TypeId}{cx cy:Bool}
theorem MS (h:(match P.underlying t with|some (.array _ _)|some (.struct _)=>true|_=>false)=true):xd P t cs=.agg cs.toArray:=by
 unfold xd;cases d:P.underlying t with
 | none=>simp[d]at h
 | some kd=>cases kd<;>simp_all
theorem Pn {xs ys:List Value}(d:Nat)(I:d≤10000)(h:(match P.underlying t with|some (.array _ _)|some (.struct _)=>true|_=>false)=true)(j:jD P d t xs=true)(u:jD P d t ys=true):∃r:Bool,(Op.equalIn 10000 t (.agg xs.toArray) (.agg ys.toArray)).run P w=.ok r w∧(r=true↔xs=ys):=by
 have:=Nr (P:=P) (10000-d) d t w xs ys j u
 rw[show 10000-d+d=10000 by omega,MS h,MS h]at this;exact this
theorem Cf {xs ys:List Value}(d:Nat)(u:d≤10000)(M:(match P.underlying t with|some (.array _ _)|some (.struct _)=>true|_=>false)=true)(I:P.eqGuardType P.depth t=false)(O:jD P d t xs=true)(U:jD P d t ys=true)(h:∀r:Bool,(r=true↔xs=ys)→K (.bool r) w):bin P .eql t cx cy (.agg xs.toArray) (.agg ys.toArray) K w:=by
 obtain⟨r,J,j⟩:=Pn (w:=w) d u M O U;exact jm (v:=.bool r) (by unfold eqG;exact run_eqGuard_agg w _ _ _ _ _ _ I) (by rw[run_eql_struct w,J];rfl) (h r j)
theorem wu {xs ys:List Value}(d:Nat)(u:d≤10000)(M:(match P.underlying t with|some (.array _ _)|some (.struct _)=>true|_=>false)=true)(I:P.eqGuardType P.depth t=false)(O:jD P d t xs=true)(U:jD P d t ys=true)(h:∀r:Bool,(r=true↔xs=ys)→K (.bool (!r)) w):bin P .neq t cx cy (.agg xs.toArray) (.agg ys.toArray) K w:=by
 obtain⟨r,J,j⟩:=Pn (w:=w) d u M O U;exact jm (v:=.bool (!r)) (by unfold eqG;exact run_eqGuard_agg w _ _ _ _ _ _ I) (by rw[run_neq_struct w,J];rfl) (h r j)
end
theorem Iw (h:bin Q .geq 3 false true Y1 (ci 1) (fun A0 w=>aI A0 true (fun j=>bin Q .leq 3 false true Y1 (ci 6) (fun A3=>j [Y1,A3]) w) (fun k=>k [uu,uu] w) fun d=>pick A0 (gd d 1) cF K) w):Gives Q 73 #[Y1] w K:=by
 refine aB func73 (by kernel_rfl) ?_;exact mpK h
def fg (x0 m3 i4 A3:Value)(zf:Nat→Value):List Value:=x0::zf 1::zf 2::m3::i4::zf 5::zf 6::A3::zT zf 8 17 ([])
def fS (K:KV):KE:=ae Q (cd f74 [1,1]) (rk f74 K) xf (rk f74 K)
def ju (K:KV):KE:=ae Q (cd f74 [1,0,1]) (fS K) xf (rk f74 K)
def eS (K:KV):KE:=ae Q (cd f74 [1,1,1,1]) (rk f74 K) xf (rk f74 K)
def lD (K:KV):KE:=ae Q (cd f74 (b1 122)) (eS K) (xx xf (eS K) 0) (rk f74 K)
theorem xZ {K:KV}{Y1:Value}{w:World}(h:lN 120 Y1 (fun A2=>bin Q .lss 3 false true A2 (ci 1) fun V2=>ju K (fg Y1 uu uu V2 (zV (zV zu 2 [cu 0]) 5 [Y1,A2]))) w):Gives Q 74 #[Y1] w K:=by
 refine aB func74 (by kernel_rfl) ?_
 refine Eq.mp (congrArg (fun c=>ae Q c _ _ _ _ w) (by kernel_rfl:(rep [1,0,1] (cd f74 [1,0,1]) (cd f74 []))=(cd f74 []))) ?_
 revert h
 delta ju fS
 generalize (cd f74 [1,0,1])=xc0
 exact mpF
theorem wh (h:cond V2 (ifc Q 9 (Value.string (sq [115,108,105,99,101,115,46,77,97,120,58,32,101,109,112,116,121,32,108,105,115,116])) (fun _ _=>False) w) (fS K (fg Y1 Z1 U2 V2 zf) w)):ju K (fg Y1 Z1 U2 V2 zf) w:=by
 delta ju;revert h;generalize (fS K)=qc0;exact mpF
theorem wj (h:aV Q 120 Y1 (ci 0) (fun A6=>ld Q 31 A6 fun A7=>lD K (fg Y1 A7 (ci 1) V2 (zV zf 9 [Y1,A6,A7]))) w):fS K (fg Y1 Z1 U2 V2 zf) w:=by
 delta fS;revert h;delta lD eS;exact mpF
theorem wi (Inv:Value→Value→World→Prop)(μ:Value→Value→World→Nat)(J:Inv Z1 U2 w)(M:∀(j d:Value) (dd:Nat→Value) (w:World) (m:Nat),Inv j d w→m=μ j d w →
  lN 120 Y1 (fun C0=>lS d C0 fun C1 w=>cond C1 (aV Q 120 Y1 d (fun C7=>ld Q 31 C7 fun C8=>blt Q .max #[31,31] 31 #[false,false] #[j,C8] fun C9=>nC d fun C3 w=>(Inv C9 C3 w)∧((μ C9 C3 w)<m)) w) (eS K (fg Y1 j d V2 (zV dd 12 [d,Y1,C0,C1])) w)) w):lD K (fg Y1 Z1 U2 V2 zf) w:=by
 refine aL (cd f74 (b1 244)) (zr [(3,2),(12,12)]) (by kernel_rfl) (vP [3,4] Inv) (vQ [3,4] μ) J ?_;intro e' w' hI;have h:=M _ _ (zM zf (fun i=>gd e' i) (zr [(3,2),(12,12)])) w' _ hI rfl;revert h;generalize (eS K)=qc0;exact mpF
theorem wm (h:K Z1 w):eS K (fg Y1 Z1 U2 V2 zf) w:=by
 delta eS;exact mpK h
attribute [irreducible] fS ju eS lD
theorem CV {f0:Value}(h:aU f0 (fun A3=>af Q 179 A3 0 fun A4=>af Q 54 A4 6 fun A5=>ld Q 2 A5 fun A6=>bin Q .geq 2 false false A6 Y1 fun A8 w=>aI A8 true (fun j=>aU f0 (fun C1=>af Q 179 C1 0 fun C2=>af Q 54 C2 6 fun C3=>ld Q 2 C3 fun C4=>bin Q .leq 2 false true C4 (ci 1125899906842624) fun C5=>j [f0,C1,C2,C3,C4,C5]) w) (fun k=>k [uu,uu,uu,uu,uu,uu] w) fun d=>pick A8 (gd d 5) cF fun C6=>aU f0 fun C9=>af Q 179 C9 0 fun D0=>af Q 54 D0 4 fun D1=>sto Q 31 D1 (cu 0) fun _=>aU f0 fun D2=>af Q 179 D2 0 fun D3=>af Q 54 D3 6 fun D4=>sto Q 2 D4 (ci 0) fun _=>K C6) w):Gives Q 108 #[f0,Y1] w K:=by
 refine aB func108 (by kernel_rfl) ?_;exact mpK h
theorem Ea {f0:Value}(h:aU f0 (fun A1=>af Q 179 A1 0 fun A2=>af Q 54 A2 7 fun A3=>ld Q 31 A3 fun A4=>bin Q .gtr 31 false true A4 (cu 0) fun A5=>aU f0 fun A7=>af Q 179 A7 0 fun A8=>af Q 54 A8 7 fun A9=>sto Q 31 A9 (cu 0) fun _=>K A5) w):Gives Q 109 #[f0] w K:=by
 refine aB func109 (by kernel_rfl) ?_;exact mpK h
theorem EE {f0:Value}(h:sN f0 (fun A1=>sF 179 A1 0 fun A2=>sF 54 A2 8 fun A3=>sL 31 A3 fun A4=>sti (bin Q .gtr 31 false true A4 (cu 0)) fun A5 w=>aI A5 true (fun u=>sN f0 (fun A8=>sF 179 A8 0 fun A9=>sF 54 A9 8 fun C0=>sL 31 C0 fun C1=>sN f0 fun C3=>sF 179 C3 0 fun C4=>sF 54 C4 7 fun C5=>sL 31 C5 fun C6=>sti (bin Q .neq 31 false false C1 C6) fun C7=>u [f0,A8,A9,C0,C1,f0,C3,C4,C5,C6,C7]) w) (fun k=>k [uu,uu,uu,uu,uu,uu,uu,uu,uu,uu,uu] w) fun d=>sti (pick A5 (gd d 10) cF) fun C8=>aU f0 fun D0=>af Q 179 D0 0 fun D1=>af Q 54 D1 8 fun D2=>sto Q 31 D2 (cu 0) fun _=>call Q 109 #[f0] fun D4 w=>aI D4 true (fun I=>I [C8] w) (fun k=>k [uu] w) fun j=>pick D4 (gd j 0) cF K) w.drew):Gives Q 110 #[f0] w K:=by
 refine aB func110 (by kernel_rfl) ?_;exact mpK h
theorem EF {f0:Value}(h:sN f0 (fun A1=>sF 179 A1 0 fun A2=>sF 54 A2 5 fun A3=>sL 3 A3 fun A4=>sti (call Q 73 #[A4]) fun A5 w=>aI A5 true (fun j=>sN f0 (fun A8=>sF 179 A8 0 fun A9=>sF 54 A9 5 fun C0=>sL 3 C0 fun C1=>sN f0 fun C3=>sF 179 C3 0 fun C4=>sF 54 C4 0 fun C5=>sL 3 C5 fun C6=>sti (bin Q .neq 3 false false C1 C6) fun C7=>j [f0,A8,A9,C0,C1,f0,C3,C4,C5,C6,C7]) w) (fun k=>k [uu,uu,uu,uu,uu,uu,uu,uu,uu,uu,uu] w) fun d=>sti (pick A5 (gd d 10) cF) fun C8=>aU f0 fun D0=>af Q 179 D0 0 fun D1=>af Q 54 D1 5 fun D2=>sto Q 3 D2 (ci 0) fun _=>K C8) w.drew):Gives Q 111 #[f0] w K:=by
 refine aB func111 (by kernel_rfl) ?_;exact mpK h
def oX (f0 f1 A3 D0 D9 E0:Value)(zf:Nat→Value):List Value:=f0::f1::zT zf 2 5 (A3::zT zf 8 16 (D0::zT zf 25 8 (D9::E0::zT zf 35 11 ([]))))
def iu (K:KV):KE:=ae Q (cd f75 [1,1]) (rk f75 K) xf (rk f75 K)
def mC (K:KV):KE:=ae Q (cd f75 (b1 3455)) (iu K) (xx xf (iu K) 0) (rk f75 K)
section
variable {K:KV}{f0 f1 A3 D0 D9 E0:Value}{zf:Nat→Value}{w:World}
theorem CU {K:KV}{f0:Value}{w:World}(h:aU f0 (fun A0=>af Q 179 A0 0 fun A1=>af Q 54 A1 3 fun A2=>ld Q 5 A2 fun A3=>bin Q .eql 5 false true A3 (cb 1) fun A5 w=>cond A5 (call Q 108 #[f0,ci 0] K w) (bin Q .eql 5 false true A3 (cb 2) (fun A9 w=>cond A9 (call Q 108 #[f0,ci 1] K w) (bin Q .eql 5 false true A3 (cb 3) (fun C3 w=>cond C3 (call Q 108 #[f0,ci 1] (fun C5 w=>aI C5 true (fun k21=>call Q 109 #[f0] (fun C8=>k21 [f0,C8]) w) (fun k=>k [uu,uu] w) fun us21=>pick C5 (gd us21 1) cF K) w) (bin Q .eql 5 false true A3 (cb 4) (fun D1=>mC K (oX f0 uu A3 D1 uu uu (zV (zV (zV (zV (zV zu 2 [cF,f0,A0,A1,A2]) 8 [A5,A5]) 12 [A9,A9]) 16 [C3,C3]) 25 [D1]))) w)) w)) w)) w):Gives Q 75 #[f0] w K:=by
 refine aB func75 (by kernel_rfl) ?_
 refine Eq.mp (congrArg (fun c=>ae Q c _ _ _ _ w) (by kernel_rfl:(rep (b1 3455) (cd f75 (b1 3455)) (cd f75 []))=(cd f75 []))) ?_
 revert h
 delta mC iu
 generalize (cd f75 (b1 3455))=xc0
 exact mpF
theorem BG (h:cond D0 (call Q 110 #[f0] K w) (bin Q .eql 5 false true A3 (cb 5) (fun D5 w=>cond D5 (call Q 108 #[f0,ci 1] (fun D7 w=>aI D7 true (fun j=>call Q 111 #[f0] (fun E0=>j [f0,E0]) w) (fun k=>k [uu,uu] w) fun d=>pick D7 (gd d 1) cF K) w) (bin Q .eql 5 false true A3 (cb 6) (fun E3 w=>cond E3 (call Q 111 #[f0] K w) (iu K (oX f0 f1 A3 D0 D9 E0 (zV (zV zf 28 [D5,D5]) 36 [E3,E3])) w)) w)) w)):mC K (oX f0 f1 A3 D0 D9 E0 zf) w:=by
 delta mC;revert h;generalize (iu K)=qc0;exact mpF
theorem BH (h:aU f0 (fun E6=>af Q 179 E6 0 fun E7=>af Q 54 E7 3 fun E8=>ld Q 5 E8 fun E9=>bin Q .eql 5 false true E9 (cb 7) K) w):iu K (oX f0 f1 A3 D0 D9 E0 zf) w:=by
 delta iu;exact mpK h
end
attribute [irreducible] iu mC
def BF (e1 f3 E5 E6 E7 E8 E9 F0 F1 F2 F3 F4 F5 F6 F7 F8:Value)(zf:Nat→Value):List Value:=zf 0::e1::zf 2::f3::zT zf 4 36 (E5::E6::E7::E8::E9::F0::F1::F2::F3::F4::F5::F6::F7::F8::zf 54::[])
def qz (K:KV):KE:=ae Q (cd f41 [1,1,1,1]) (rk f41 K) xf (rk f41 K)
theorem Lr {K:KV}{e0:Value}{w:World}(h:box Q 54 e0 (fun Y1 w=>sF 54 Y1 0 (fun A0=>sL 3 A0 fun A1=>sti (call Q 73 #[A1]) fun A2=>sti (un Q .not A2) fun A3 w=>aI A3 false (fun k9=>sF 54 Y1 1 (fun A5=>sL 31 A5 fun A6=>sti (bin Q .lss 31 false true A6 (cu 1)) fun A7=>k9 [A5,A6,A7]) w) (fun k=>k [uu,uu,uu] w) fun us9=>sti (pick A3 cT (gd us9 2)) fun A8 w=>aI A8 false (fun k14=>sF 54 Y1 1 (fun C0=>sL 31 C0 fun C1=>sti (bin Q .geq 31 false true C1 (cu 1099511627776)) fun C2=>k14 [C0,C1,C2]) w) (fun k=>k [uu,uu,uu] w) fun us14=>sti (pick A8 cT (gd us14 2)) fun C3 w=>aI C3 false (fun k19=>sF 54 Y1 0 (fun C5=>sL 3 C5 fun C6=>sti (bin Q .sub 3 false true C6 (ci 1)) fun C7=>sF 54 Y1 2 fun C8=>sI 35 C8 C7 fun C9=>sL 31 C9 fun D0=>sF 54 Y1 1 fun D1=>sL 31 D1 fun D2=>sti (bin Q .sub 31 false true D2 (cu 1)) fun D3=>sti (bin Q .neq 31 false false D0 D3) fun D4=>k19 [C5,C6,C7,C8,C9,D0,D1,D2,D3,D4]) w) (fun k=>k [uu,uu,uu,uu,uu,uu,uu,uu,uu,uu] w) fun us19=>sti (pick C3 cT (gd us19 9)) fun D5 w=>cond D5 (K cF w) (af Q 54 Y1 2 (fun D6=>slc Q 35 D6 none none none fun D7=>call Q 74 #[D7] fun D8=>bin Q .geq 31 false true D8 (cu 1099511627776) fun D9 w=>cond D9 (K cF w) (ld Q 54 Y1 (fun E0=>bld Q 179 #[(0,E0)] fun E1=>box Q 179 E1 fun E2=>qz K (BF Y1 E2 uu uu uu uu uu uu uu uu uu uu uu uu uu uu (zV (zV (zV zu 0 [e0]) 2 [cF]) 4 [A0,A1,A2,A3,A3,gd us9 0,gd us9 1,gd us9 2,A8,A8,gd us14 0,gd us14 1,gd us14 2,C3,C3,gd us19 0,gd us19 1,gd us19 2,gd us19 3,gd us19 4,gd us19 5,gd us19 6,gd us19 7,gd us19 8,gd us19 9,D5,D6,D7,D8,D9,E0,E1,E2]))) w)) w)) w.drew) w):Gives Q 41 #[e0] w K:=by
 refine aB func41 (by kernel_rfl) ?_
 refine Eq.mp (congrArg (fun c=>ae Q c _ _ _ _ w) (by kernel_rfl:(rep [1,1,1,1] (cd f41 [1,1,1,1]) (cd f41 []))=(cd f41 []))) ?_
 revert h
 delta qz
 generalize (cd f41 [1,1,1,1])=xc0
 exact mpF
theorem Jx (h:aG (fun _=>call Q 75 #[Z1] fun E4=>aG fun S w=>hG E4 true S (fun k=>k Z1) fun U2=>hG E4 true S (aU U2) fun V2=>hG E4 true S (af Q 179 V2 0) fun W2=>hG E4 true S (ld Q 54 W2) fun X2=>hG E4 true S (af Q 54 Y1 0) fun Y2=>hG E4 true S (ld Q 3 Y2) fun Z2=>hG E4 true S (af Q 54 Y1 1) fun U3=>hG E4 true S (ld Q 31 U3) fun V3=>hG E4 true S (af Q 54 Y1 2) fun W3=>hG E4 true S (ld Q 35 W3) fun X3=>hG E4 true S (af Q 54 Y1 3) fun Y3=>hG E4 true S (ld Q 5 Y3) fun Z3=>hG E4 true S (bld Q 54 #[(0,Z2),(1,V3),(2,X3),(3,Z3)]) fun j4=>hG E4 true S (bin Q .eql 54 false false X2 j4) fun U4=>hld S (pick E4 U4 cF) fun F9=>K F9 w) w.drew):qz K (BF Y1 Z1 U2 V2 W2 X2 Y2 Z2 U3 V3 W3 X3 Y3 Z3 j4 U4 zf) w:=by
 delta qz;exact mpK h
attribute [irreducible] qz
end
end Go.Proofs.YtkbhfjljieopoaaGreatDoor
