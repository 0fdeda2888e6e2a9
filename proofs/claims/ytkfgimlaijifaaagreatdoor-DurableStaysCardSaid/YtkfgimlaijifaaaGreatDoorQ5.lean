import Derived.Test.YtkfgimlaijifaaaGreatDoorQ2
import Derived.Test.YtkfgimlaijifaaaGreatDoorQ4
import Derived.Test.YtkfgimlaijifaaaGreatDoorQ3
namespace Go.Proofs.YtkfgimlaijifaaaGreatDoor
set_option maxRecDepth 100000
set_option maxHeartbeats 4000000
open Go.Proofs.Tryz
variable {w w' w0:World}{K:KV}{zf:Nat→Value}{b c n o k B i p g m j s z c2 f d B2 tb hi:Nat}{a av a2:Option Addr}{x r v:Int}{A:List Int}{E t e:TypeId}{cs vs:List Value}{B1:KE}{P:Program}{T L:List (Int×Int)}{C:Nat→Int}{cx:Bool}{V0 W0 X0 Y0 Z0 H1 I1:Value}
section
open Go.RowKit
def xC (t0 id1 i5:Value)(zf:Nat→Value):List Value:=t0::id1::zT zf 2 3 (i5::zT zf 6 20 ([]))
def xD (zf:Nat→Value):List Value:=zT zf 0 26 ([])
def gC (K:KV):KE:=kZ f190 [1,1] K
def oJ (K:KV):KE:=ah Q (cd f190 [1,0,1,0]) (gC K) (xx xf (gC K) 0) (rk f190 K)
theorem Hf (h:oJ K (xC V0 W0 (ci 0) (zV zu 4 [ci 0])) w):Gives Q 190 #[V0,W0] w K:=by
 refine aq func190 kr ?_;revert h;delta oJ gC;exact mpF
theorem Ff (Inv:Value→World→Prop)(μ:Value→World→Nat)(h0:Inv X0 w)(hs:∀(j:Value) (dd:Nat→Value) (w:World) (m:Nat),Inv j w→m=μ j w →
  aJ V0 (fun t8=>ai Q 127 t8 0 fun t9=>ld Q 125 t9 fun u=>lN 125 u fun C=>lS j C fun I w=>cond I (aJ V0 (fun M=>ai Q 127 M 0 fun O=>ld Q 125 O fun U=>aL Q 125 U j fun Z=>ai Q 300 Z 0 fun aa=>ld Q 31 aa fun ad=>bF .eql 31 ad W0 fun t24 w=>cond t24 (K j w) (nC j (fun t14 w=>(Inv t14 w)∧((μ t14 w)<m)) w)) w) (gC K (xD (zV (zV dd 0 [V0,W0]) 5 [j,j,V0,t8,t9,u,C,I])) w)) w):oJ K (xC V0 W0 X0 zf) w:=by
 refine aI (cd f190 (b1 52)) (zr [(4,22)]) kr (vP [5] Inv) (vQ [5] μ) h0 ?_;intro e' w' hI;have h:=hs _ (zM zf (gd e') (zr [(4,22)])) w' _ hI rfl;revert h;generalize (gC K)=qc0;exact mpF
theorem Fg (h:K (ci (-1)) w):gC K (xD zf) w:=by
 delta gC;exact mpK h
attribute [irreducible] gC oJ
theorem I5 (h:call Q 190 #[V0,W0] (fun t7=>bT .geq 3 t7 (ci 0) K) w):Gives Q 189 #[V0,W0] w K:=by
 refine aq func189 kr ?_;exact mpK h
def xA (t0 id1 out5:Value)(zf:Nat→Value):List Value:=t0::id1::zT zf 2 3 (out5::zT zf 6 19 ([]))
def xB (out5:Value)(zf:Nat→Value):List Value:=zT zf 0 5 (out5::zT zf 6 19 ([]))
def gB (K:KV):KE:=kZ f146 [1,1,1] K
def oI (K:KV):KE:=ah Q (cd f146 [1,1,0,0]) (gB K) (xx xf (gB K) 0) (rk f146 K)
theorem He (h:oI K (xA V0 W0 cN (zV zu 4 [cN])) w):Gives Q 146 #[V0,W0] w K:=by
 refine aq func146 kr ?_;revert h;delta oI gB;exact mpF
theorem Fd (Inv:Value→Value→World→Prop)(μ:Value→Value→World→Nat)(h0:Inv W0 X0 w)(hs:∀(j u:Value) (dd:Nat→Value) (w:World) (m:Nat),Inv j u w→m=μ j u w →
  call Q 190 #[V0,j] (fun t8=>bT .geq 3 t8 (ci 0) fun t9 w=>cond t9 (bg Q 87 1 #[(0,j)] (fun J=>blt Q .append #[87,87] 87 #[false,false] #[u,J] fun t13 w=>aE (fun S w=>hN S V0 fun t15=>hF S 127 t15 0 fun M=>hL S 125 M fun O=>call Q 190 #[V0,j] (fun U=>aU S fun S w=>hI S 125 O U fun Z=>hF S 300 Z 1 fun aa=>hL S 31 aa fun I=>(Inv I t13 w)∧((μ I t13 w)<m)) w) w.drew) w) (gB K (xB u (zV (zV dd 0 [V0,j]) 6 [V0,j,t8,t9])) w)) w):oI K (xA V0 W0 X0 zf) w:=by
 refine aI (cd f146 (b1 56)) (zr [(1,1),(5,19)]) kr (vP [1,5] Inv) (vQ [1,5] μ) h0 ?_;intro e' w' hI;have h:=hs _ _ (zM zf (gd e') (zr [(1,1),(5,19)])) w' _ hI rfl;revert h;generalize (gB K)=qc0;exact mpF
theorem Fe (h:K X0 w):gB K (xB X0 zf) w:=by
 delta gB;exact mpK h
attribute [irreducible] gB oI
def bV (t0 id1 parent2 at7:Value)(zf:Nat→Value):List Value:=t0::id1::parent2::zT zf 3 4 (at7::zT zf 8 81 ([]))
def yS (t0 id1 parent2:Value)(zf:Nat→Value):List Value:=t0::id1::parent2::zT zf 3 86 ([])
def mw (K:KV):KE:=ah Q (cd f144 (b1 127)) (rk f144 K) xf (rk f144 K)
def fP (K:KV):KE:=kZ f144 (b1 511) K
def td (K:KV):KE:=ah Q (cd f144 (b1 1020)) (fP K) (xx xf (fP K) 0) (rk f144 K)
abbrev zA (K:KV)(hA0:KE)(t0 id1 parent2:Value)(w:World):Prop :=
  bT .eql 31 id1 (cu 0) (fun t9 w=>cond t9 (K (ci 1) w) (call Q 189 #[t0,id1] (fun t12 w=>cond t12 (K (ci 14) w) (bT .neq 31 parent2 (cu 0) (fun t14 w=>aG t14 true (fun k16=>call Q 189 #[t0,parent2] (fun t18=>un Q .not t18 fun t19=>k16 [t0,parent2,t18,t19]) w) (fun k=>k [uu,uu,uu,uu] w) fun us16=>pick t14 (gd us16 3) cF fun t20 w=>cond t20 (K (ci 9) w) (aJ t0 (fun t22=>ai Q 127 t22 0 fun t23=>ld Q 125 t23 fun t24=>lN 125 t24 fun t25=>bT .geq 3 t25 (ci 32) fun t26 w=>aG t26 false (fun k28=>call Q 146 #[t0,parent2] (fun t30=>lN 87 t30 fun t31=>bT .geq 3 t31 (ci 4) fun t32=>k28 [t0,parent2,t30,t31,t32]) w) (fun k=>k [uu,uu,uu,uu,uu] w) fun us28=>pick t26 cT (gd us28 4) fun t33 w=>cond t33 (K (ci 6) w) (aJ t0 (fun t35=>ai Q 127 t35 0 fun t36=>ld Q 125 t36 fun t37=>lN 125 t37 fun t38=>hA0 (bV t0 id1 parent2 t38 (zV (zV zu 6 [ci 0]) 8 [id1,t9,t0,id1,t12,parent2,t14,t14,gd us16 0,gd us16 1,gd us16 2,gd us16 3,t20,t0,t22,t23,t24,t25,t26,t26,gd us28 0,gd us28 1,gd us28 2,gd us28 3,gd us28 4,t33,t0,t35,t36,t37,t38]))) w)) w)) w)) w)) w
theorem Jb (j:Code)(h:zA K (ah Q j (rk f144 K) (fun _ _ _=>False) (rk f144 K)) V0 W0 X0 w):ah Q (rep (b1 127) j (cd f144 [])) (rk f144 K) xf (rk f144 K) (yS V0 W0 X0 zu) w:=Eq.mp kr h
theorem HZ {K:KV}{V0 W0 X0:Value}{w:World}(h:zA K (mw K) V0 W0 X0 w):Gives Q 144 #[V0,W0,X0] w K:=aq func144 (by kernel_rfl) (Eq.mp (congrArg (fun c=>ah Q c (rk f144 K) xf (rk f144 K) (yS V0 W0 X0 zu) w) (by kernel_rfl:(rep (b1 127) (cd f144 (b1 127)) (cd f144 []))=(cd f144 []))) (Jb (cd f144 (b1 127)) h))
abbrev xi (K:KV)(hA0:KE)(V0 W0 X0 Y0:Value)(zf:Nat→Value)(w:World):Prop :=
  aJ V0 (fun t41=>ai Q 127 t41 0 fun t42=>ld Q 125 t42 fun t43=>bld Q 300 #[] fun t44=>bg Q 125 1 #[(0,t44)] fun t45=>blt Q .append #[125,125] 125 #[false,false] #[t43,t45] fun t46=>aJ V0 fun t47=>ai Q 127 t47 0 fun t48=>sto Q 125 t48 t46 fun _=>hA0 (bV V0 W0 X0 Y0 (zV zf 39 [V0,V0,t41,t42,t43,t44,t45,t46,t47,t48]))) w
theorem Gh (h:xi K (ah Q (cd f144 (b1 1020)) (ah Q (cd f144 (b1 511)) (rk f144 K) (fun _ _ _=>False) (rk f144 K)) (fun i=>@Bool.rec (fun _=>KE) ((fun _ _ _=>False) i) (ah Q (cd f144 (b1 511)) (rk f144 K) (fun _ _ _=>False) (rk f144 K)) (Nat.beq i 0)) (rk f144 K)) V0 W0 X0 Y0 zf w):ah Q (cd f144 (b1 127)) (rk f144 K) xf (rk f144 K) (bV V0 W0 X0 Y0 zf) w:=Eq.mp kr h
theorem Gi (h:xi K (td K) V0 W0 X0 Y0 zf w):mw K (bV V0 W0 X0 Y0 zf) w:=by
 delta mw
 exact Eq.mp (congrArg (fun c=>ah Q c (rk f144 K) xf (rk f144 K) (bV V0 W0 X0 Y0 zf) w) (by kernel_rfl:(cd f144 (b1 127))=(cd f144 (b1 127)))) (Gh h)
theorem Gj (B1:KE)(I:KE)(h:bT .gtr 3 Y0 (ci 0) (fun u w=>aG u true (fun a1=>aJ V0 (fun J=>ai Q 127 J 0 fun M=>ld Q 125 M fun O=>bT .sub 3 Y0 (ci 1) fun U=>aL Q 125 O U fun Z=>ai Q 300 Z 0 fun aa=>ld Q 31 aa fun ad=>bF .gtr 31 ad W0 fun a2=>a1 [V0,J,M,O,Y0,U,Z,aa,ad,W0,a2]) w) (fun k=>k [uu,uu,uu,uu,uu,uu,uu,uu,uu,uu,uu] w) fun j=>pick u (gd j 10) cF fun C w=>cond C (sN V0 (fun af=>sF 127 af 0 fun ag=>sL 125 ag fun al=>sN V0 fun am=>sF 127 am 0 fun an=>sL 125 an fun ap=>sti (bT .sub 3 Y0 (ci 1)) fun ar=>sI 125 ap ar fun av=>sL 300 av fun az=>sI 125 al Y0 fun aS=>sto Q 300 aS az fun _=>bT .sub 3 Y0 (ci 1) fun a0=>B1 (bV V0 W0 X0 a0 (zV zf 49 [Y0,u,u,gd j 0,gd j 1,gd j 2,gd j 3,gd j 4,gd j 5,gd j 6,gd j 7,gd j 8,gd j 9,gd j 10,C,V0,af,ag,al,Y0,V0,am,an,ap,Y0,ar,av,az,aS,Y0,a0]))) w.drew) (I (bV V0 W0 X0 Y0 (zV zf 49 [Y0,u,u,gd j 0,gd j 1,gd j 2,gd j 3,gd j 4,gd j 5,gd j 6,gd j 7,gd j 8,gd j 9,gd j 10,C])) w)) w):ah Q (cd f144 (b1 2040)) B1 (xx xf I 0) (rk f144 K) (bV V0 W0 X0 Y0 zf) w:=Eq.mp kr h
theorem Gk (Inv:Value→World→Prop)(μ:Value→World→Nat)(h0:Inv Y0 w)(hs:∀(u:Value) (dd:Nat→Value) (w:World) (m:Nat),Inv u w→m=μ u w →
  bT .gtr 3 u (ci 0) (fun I w=>aG I true (fun al=>aJ V0 (fun J=>ai Q 127 J 0 fun M=>ld Q 125 M fun O=>bT .sub 3 u (ci 1) fun U=>aL Q 125 O U fun Z=>ai Q 300 Z 0 fun aa=>ld Q 31 aa fun ad=>bF .gtr 31 ad W0 fun am=>al [V0,J,M,O,u,U,Z,aa,ad,W0,am]) w) (fun k=>k [uu,uu,uu,uu,uu,uu,uu,uu,uu,uu,uu] w) fun j=>pick I (gd j 10) cF fun af w=>cond af (sN V0 (fun an=>sF 127 an 0 fun ap=>sL 125 ap fun ar=>sN V0 fun av=>sF 127 av 0 fun az=>sL 125 az fun aS=>sti (bT .sub 3 u (ci 1)) fun a0=>sI 125 aS a0 fun a1=>sL 300 a1 fun a2=>sI 125 ar u fun a3=>sto Q 300 a3 a2 fun _=>bT .sub 3 u (ci 1) fun ag w=>(Inv ag w)∧((μ ag w)<m)) w.drew) (fP K (bV V0 W0 X0 u (zV dd 49 [u,I,I,gd j 0,gd j 1,gd j 2,gd j 3,gd j 4,gd j 5,gd j 6,gd j 7,gd j 8,gd j 9,gd j 10,af])) w)) w):td K (bV V0 W0 X0 Y0 zf) w:=by
 refine aI (cd f144 (b1 2040)) (zr [(7,1),(49,31)]) kr (vP [7] Inv) (vQ [7] μ) h0 ?_;intro e' w' hI;have h:=hs _ (zM zf (gd e') (zr [(7,1),(49,31)])) w' _ hI rfl
 have h2:ah Q (cd f144 (b1 2040)) (fun C w2=>Inv (gd C 7) w2∧μ (gd C 7) w2<μ (gd e' 7) w') (xx xf (fP K) 0) (rk f144 K) (bV V0 W0 X0 (gd e' 7) (zM zf (gd e') (zr [(7,1),(49,31)]))) w':=Gj (fun C w2=>Inv (gd C 7) w2∧μ (gd C 7) w2<μ (gd e' 7) w') (fP K) (Eq.mp kr h);exact Eq.mp kr h2
abbrev xj (K:KV)(V0 W0 X0 Y0:Value)(zf:Nat→Value)(w:World):Prop :=
  aJ V0 (fun t81=>ai Q 127 t81 0 fun t82=>ld Q 125 t82 fun t83=>bld Q 300 #[(0,W0),(1,X0)] fun t87=>aL Q 125 t83 Y0 fun t88=>sto Q 300 t88 t87 fun _=>K (ci 0)) w
theorem Gl (h:xj K V0 W0 X0 Y0 zf w):ah Q (cd f144 (b1 511)) (rk f144 K) xf (rk f144 K) (bV V0 W0 X0 Y0 zf) w:=Eq.mp kr h
theorem Gm (h:xj K V0 W0 X0 Y0 zf w):fP K (bV V0 W0 X0 Y0 zf) w:=by
 delta fP
 exact Eq.mp (congrArg (fun c=>ah Q c (rk f144 K) xf (rk f144 K) (bV V0 W0 X0 Y0 zf) w) (by kernel_rfl:(cd f144 (b1 511))=(cd f144 (b1 511)))) (Gl h)
attribute [irreducible] mw fP td
theorem PT (h:bT .lss 3 V0 (ci 1) (fun t6 w=>aG t6 false (fun k8=>bT .gtr 3 V0 (ci 6) (fun t9=>k8 [V0,t9]) w) (fun k=>k [uu,uu] w) fun aa=>pick t6 cT (gd aa 1) fun j w=>aG j false (fun I=>bT .lss 31 W0 (cu 1) (fun t13=>I [W0,t13]) w) (fun k=>k [uu,uu] w) fun u=>pick j cT (gd u 1) fun t14 w=>aG t14 false (fun J=>bT .geq 31 W0 (cu 1099511627776) (fun M=>J [W0,M]) w) (fun k=>k [uu,uu] w) fun C=>pick t14 cT (gd C 1) fun O w=>cond O (K (cu 0) w) (conv Q 3 31 V0 (fun U=>bT .shl 31 U (cu 40) fun Z=>bF .add 31 Z W0 K) w)) w):Gives Q 143 #[V0,W0] w K:=by
 refine aq func143 kr ?_;exact mpK h
end
section
attribute [local irreducible] bin un conv call aZ blt slc ai fld aL idx lkp cP eP eSt rng nxt ent ext alc box bld bg ld sto aJ cr mkS ifc pick rdy wts aG sti cond aV Gives ah dy dP cOp
section
open Go.RowKit
def tnC (x:Int×Int):List Value:=[u6 x.1,u6 x.2]
theorem Bb (x:Int×Int):(tnC x).length=2:=rfl
theorem MD (x:Int×Int):∀v∈tnC x,v.oneCell'=true:=by simp[tnC,u6,Value.oneCell']
theorem zck {id:Int}{x:Int×Int}(J:L[k]? = some x)(h:x.1=id)(u:∀j y,j<k→L[j]? = some y→y.1≠id):posT L id=k:=by
 obtain⟨I,rfl⟩:=gS J;unfold posT;rw[List.findIdx_eq I];refine⟨by simp[h],fun j C=>?_⟩
 have:=u j _ C (gE oo)
 simpa using this
theorem Yh {id:Int}(u:∀(j:Nat) y,L[j]? = some y→y.1≠id):¬posT L id<L.length:=by
 intro h;unfold posT at h
 have:=List.findIdx_getElem (w:=h)
 exact u _ _ (gE h) (by simpa using this)
theorem vH {id:Int}:bS T id=true↔posT T id<T.length:=by
 unfold bS posT;rw[List.findIdx_lt_length];simp
theorem Vs {id:Int}:(decide (fdT T id≥0))=bS T id:=by
 unfold fdT;cases j:bS T id with
 | true=>rw[if_pos (vH.1 j)];simp
 | false =>
  rw[if_neg (fun h=>by rw[vH.2 h]at j;cases j)];rfl
theorem U9 {id:Int}(h:posT T id<T.length):∃x,T[posT T id]? = some x∧x.1=id∧x.2=el T id∧x∈T:=by
 have j:=gE h
 have:=List.findIdx_getElem (w:=h) (p:=fun x:Int×Int=>x.1==id)
 refine⟨_,j,eq_of_beq this,?_,List.getElem_mem h⟩;unfold el;rw[List.getD_eq_getElem?_getD,j];rfl
theorem Qa {T:List (Int×Int)}{rk:Int→Nat}(u:TK T rk):∀(f g:Nat) (id:Int),upT T rk id≤f→upT T rk id≤g→cv T f id=cv T g id
 | 0,0,_,_,_=>rfl
 | 0,g+1,id,h,_=>by
  have:bS T id=false:=by
   cases j:bS T id with
   | false=>rfl
   | true=>unfold upT at h;rw[j]at h;simp at h
  unfold cv;rw[this];simp
 | f+1,0,id,_,h=>by
  have:bS T id=false:=by
   cases j:bS T id with
   | false=>rfl
   | true=>unfold upT at h;rw[j]at h;simp at h
  unfold cv;rw[this];simp
 | f+1,g+1,id,h1,h2=>by
  unfold cv;cases j:bS T id with
  | false=>simp
  | true =>
   simp only[if_true];obtain⟨x,J,e1,C,I⟩:=U9 (vH.1 j)
   have:=yK u I
   rw[e1,C]at this;rw[Qa u f g (el T id) oo oo]
theorem WH {rk:Int→Nat}(j:TK T rk){id:Int}(h:bS T id=true):cC T id=id::cC T (el T id):=by
 obtain⟨x,M,e1,u,C⟩:=U9 (vH.1 h);have I:=yK j C;rw[e1,u]at I;have J:=G7 j id;unfold cC
 conv=>lhs;unfold cv
 rw[if_pos h,Qa j T.length (T.length+1) (el T id) oo oo]
theorem Yb {id:Int}(h:bS T id=false):cC T id=[]:=by
 unfold cC cv;rw[h];simp
theorem RY {T:List (Int×Int)}:∀(f:Nat) (id p:Int),p∈cv T f id→bS T p=true
 | 0,_,_,h=>by cases h
 | f+1,id,p,h=>by
  unfold cv at h;split at h
  ·rename_i j;rcases List.mem_cons.1 h with rfl|h
   ·exact j
   ·exact RY f _ _ h
  ·cases h
theorem GT {T:List (Int×Int)}:∀(f:Nat) (id:Int),(cv T f id).length≤f
 | 0,_=>Nat.le_refl _
 | f+1,id=>by
  unfold cv;split
  ·have:=GT (T:=T) f (el T id);simp;omega
  ·simp
structure TM (w:World) (B t:Nat) (T:List (Int×Int)):Prop where
 row:∃a c,blk w t 127 [.slice a T.length c]∧w.ownsRow B 300 2 (.slice a T.length c) T.length (T.flatMap tnC)
 lo:B≤t
theorem TM.fresh {t:Nat}(h:TM w B t T)(C:Below w.heap.size w w'):TM w' B t T:=by
 obtain⟨a,c,j,u⟩:=h.row;exact⟨⟨a,c,ae C j j.lt,cD u fun k I=>C.block k (World.ownsRow.lt u k I).2⟩,h.lo⟩
theorem TM.keep {t:Nat}{Ts:List TypeId}(h:TM w B t T)(j:Keep Ts B2 w w')(I:127∉Ts)(J:300∉Ts):TM w' B t T:=by
 obtain⟨a,c,u,C⟩:=h.row;exact⟨⟨a,c,j.blk u (.inr I),gh C j J⟩,h.lo⟩
theorem lr (h:K (pA b (o+0)) w):ai Q 127 (pA b o) 0 K w:=aH kr h
theorem Zp (h:K (pA b (o+0)) w):ai Q 300 (pA b o) 0 K w:=aH kr h
theorem Zq (h:K (pA b (o+1)) w):ai Q 300 (pA b o) 1 K w:=aH kr h
section
variable {w:World}{K:KV}{B t:Nat}{T:List (Int×Int)}
theorem zeQ {o s:Int}(J : -9223372036854775808≤o∧o≤9223372036854775807)(M:0≤s)(h:K (u6 (if o<1∨6<o∨s<1∨1099511627776≤s then 0 else o*1099511627776+s)) w):call Q 143 #[ci o,.int .u64 s] K w:=by
 refine ak (goK func143) (PT ?_);refine aK ?_;by_cases j:o<1
 ·rw[if_pos oo]at h;refine iq j <|bA j <|eA <|cz <|eA <|cz ?_;exact aT h
 refine dt j <|bO <|bj j ?_;by_cases u:6<o
 ·rw[if_pos oo]at h;refine iq u <|bA u <|eA <|cz ?_;exact aT h
 refine dt u <|aK <|bj u ?_;by_cases C:s<1
 ·rw[if_pos oo]at h;refine iq C <|bA C ?_;exact aT h
 refine dt C <|bI <|bj C ?_;by_cases I:1099511627776≤s
 ·rw[if_pos oo]at h;exact ax I h
 rw[if_neg oo]at h;refine ao I <|bX underlying3 underlying31 ?_;rw[eu,show o%18446744073709551616=o by omega];refine yL oo ?_;have e:o*2 ^ (min (40:Int).toNat IntKind.u64.bits)=o*1099511627776:=rfl;rw[e,eu,show o*1099511627776%18446744073709551616=o*1099511627776 by omega];refine iW ?_;rw[eu,show (o*1099511627776+s)%18446744073709551616=o*1099511627776+s by omega];exact h
theorem Rj {id:Int}(ht:TM w B t T)(hn:T.length≤1000000)(h:K (ci (fdT T id)) w):call Q 190 #[pA t 0,.int .u64 id] K w:=by
 obtain⟨a,c,Z,ho⟩:=ht.row;refine ak (goK func190) (Hf ?_);refine Ff (Inv:=fun i wr=>∃k:Nat,i=ci (k:Nat)∧k≤T.length∧wr=w∧∀j y,j<k→T[j]? = some y→y.1≠id) (μ:=fun i _=>T.length-(intOf i).toNat) ⟨0,rfl,by omega,rfl,fun j y hj=>by omega⟩ ?_;rintro _ dd wr m ⟨k,rfl,hk,rfl,u⟩ hm;refine aj <|lr <|lK (v:=.slice a T.length c) Z rfl <|bh underlying125 <|aK ?_;by_cases I:k<T.length
 ·refine ax oo <|aj <|lr <|lK (v:=.slice a T.length c) Z rfl ?_;have M:T[k]? = some T[k]:=gE I;generalize T[k]=x at M;refine rd3 (enc:=tnC) (s:=2) (f':=0) (v:=u6 x.1) underlying125 kf Bb kf kr oo ho rfl M rfl fun _ _=>?_;refine aO ?_;by_cases J:x.1=id
  ·refine ax J ?_;have U:=zck M J u;unfold fdT at h;rw[U,if_pos I]at h;exact h
  ·refine ao J <|aM oo oo ?_;refine⟨⟨k+1,ivS,by omega,rfl,fun j y hj C=>?_⟩,by rw[hm];show T.length-((k:Int)+1).toNat<T.length-(k:Int).toNat;omega⟩;by_cases O:j=k
   ·subst O;rw[M]at C;cases C;exact J
   ·exact u j y oo C
 ·refine ao oo <|Fg ?_;have U:=Yh (L:=T) (id:=id) fun j y C=>u j y (by have:=(gS C).1;omega) C;unfold fdT at h;rw[if_neg U]at h;exact h
theorem Uo {id:Int}(u:TM w B t T)(j:T.length≤1000000)(h:K (.bool (bS T id)) w):call Q 189 #[pA t 0,.int .u64 id] K w:=by
 refine ak (goK func189) (I5 ?_);refine Rj u j <|bI ?_;rw[show decide (0≤fdT T id)=bS T id from Vs];exact h
theorem GL :(Tryz.prog.info? 31).map (fun i=>(i.zero,i.size,i.bytes))=some (some (u6 0),1,8):=by kernel_rfl
theorem Mz {id:Int}{rk:Int→Nat}(ad:TK T rk)(ht:TM w B t T)(hn:T.length≤100000)(h:∀w' a c,w'.ownsRow w.heap.size 31 1 (.slice a (cC T id).length c) (cC T id).length ((cC T id).map u6)→Below w.heap.size w w'→K (.slice a (cC T id).length c) w'):call Q 146 #[pA t 0,.int .u64 id] K w:=by
 refine ak (goK func146) (He ?_);refine Fd (Inv:=fun I a0 wr=>∃(d:Int) (O:List Int) (a:Option Addr) (c:Nat),I=.int .u64 d∧a0=.slice a O.length c∧O++cC T d=cC T id∧wr.ownsRow w.heap.size 31 1 (.slice a O.length c) O.length (O.flatMap uC)∧Below w.heap.size w wr)
  (μ:=fun I _ _=>upT T rk (intOf I)) ⟨id,[],none,0,rfl,rfl,rfl,World.ownsRow_nil _ _ _ _,Below.refl _ _⟩ ?_
 rintro _ _ dd w1 m ⟨d,O,a,c,rfl,rfl,U,ho,b1⟩ hm;have aS:=ht.fresh b1;have a2:O.length≤T.length+1:=by
  have:=GT (T:=T) (T.length+1) id
  have J:=congrArg List.length U;rw[List.length_append]at J;unfold cC at J;omega
 refine Rj aS oo <|bI ?_;have hf:decide (0≤fdT T d)=bS T d:=Vs;rw[hf];cases u:bS T d with
 | true =>
  refine aT ?_;rw[WH ad u]at U;obtain⟨x,hx,e1,e2,Z⟩:=U9 (vH.1 u);have af:=yK ad Z;rw[e1,e2]at af;refine oG (vs:=[.int .u64 d]) underlying87 (s:=1) kr kr oo rfl sm sm sm (by simp[Value.cells]) fun w2 J b2 s2=>?_;have J:blk w2 w1.heap.size 31 (uC d):=by simpa[Value.cells,u6,uC]using J
  obtain⟨ii,an,hz,az,al⟩:=info_parts GL;have ap:w2.ownsRow w.heap.size 31 1 (.slice a O.length c) O.length (O.flatMap uC):=cD ho fun q u=>b2.block q (World.ownsRow.lt ho q u).2;have av:=b1.size
  refine uP (base:=w.heap.size) (enc:=uC) (x:=d) underlying87 an hz az al rfl oo (fun _=>rfl) ap J (by simp[uC,u6,Value.oneCell']) oo oo oo fun a' c' w3 ar _ b3 _=>?_;have M:Below w.heap.size w w3:=(b1.trans (b2.mono av)).trans b3;have aa:TM w3.drew B t T:=(ht.fresh M).fresh (Below.refl _ w3).drew;obtain⟨ta,tc,tb,a1⟩:=aa.row
  obtain⟨g,ag,rfl,op⟩:=d9 a1 (by have:=vH.1 u;omega);refine au (fun y=>blk y t 127 [.slice (some ⟨g,0,none⟩) T.length tc]∧blk y g 300 ag) ⟨tb,op.blk⟩ <|ab (fun y C _=>aj) <|ab (fun y C _=>lr) <|ab (v:=.slice (some ⟨g,0,none⟩) T.length tc) (fun y C _=>lK C.1 rfl) <|Rj aa oo <|aC ⟨tb,op.blk⟩ ?_;have am:fdT T d=(posT T d:Nat):=by unfold fdT;rw[if_pos (vH.1 u)]
  rw[am];have a3:=vH.1 u;refine ab (v:=pA g (0+((posT T d:Nat):Int).toNat*2)) (fun y C _=>dQ underlying125 (s:=2) kf oo oo) <|ab (fun y C _=>Zq) <|ab (v:=u6 (el T d)) (fun y C _=>lK C.2 (by rw[Int.toNat_natCast,Nat.zero_add,op.cell Bb rfl hx oo, ←e2];rfl)) ?_
  refine⟨⟨el T d,O++[d],a',c',rfl,by rw[List.length_append];rfl,by rw[←U,List.append_assoc];rfl,by rw[List.length_append];exact ar,M.drew⟩,?_⟩;rw[hm];exact af
 | false =>
  refine aF <|Fe ?_;rw[Yb u,List.append_nil]at U;subst U;rw[ME]at ho;exact h w1 a c ho b1
end
abbrev gtI (id:Int):Int×Int→Bool:=fun x=>decide (id<x.1)
abbrev Iv :List TypeId:=[127,300]
section
variable {w:World}{K:KV}{B t:Nat}{T:List (Int×Int)}
theorem Tx :(Tryz.prog.info? 300).map (fun i=>(i.zero,i.size,i.bytes))=some (some (.agg #[u6 0,u6 0]),2,16):=by kernel_rfl
theorem VU {id par:Int}(ht:TM w B t T)(hn:T.length≤1000)(hB:B≤w.heap.size)(q1:V0=pA t 0)(q2:W0=.int .u64 id)(q3:X0=.int .u64 par)(q4:Y0=ci (T.length:Nat))(h:∀w',TM w' B t (gu T (yy (gtI id) T T.length) (id,par))→Keep Iv B w w'→K (ci 0) w'):mw K ((bV V0 W0 X0 Y0 zf)) w:=by
 subst q1 q2 q3 q4;obtain⟨a,c,hb,ho⟩:=ht.row;refine Gi <|aj <|lr <|lK (v:=.slice a T.length c) hb rfl <|dl (vs:=tnC (0,0)) kr ?_;refine oG (vs:=[.agg (tnC (0,0)).toArray]) underlying125 (s:=2) kr kr oo rfl sm sm sm (by simp[Value.cells,tnC]) fun w1 h1 b1 s1=>?_
 have h1:=cZ h1
 obtain⟨ii,a3,hz,a8,a1⟩:=info_parts Tx;have am:w1.ownsRow B 300 2 (.slice a T.length c) T.length (T.flatMap tnC):=cD ho fun q hq=>b1.block q (World.ownsRow.lt ho q hq).2;have a0:blk w1 t 127 [.slice a T.length c]:=ae b1 hb hb.lt;refine uP (base:=B) (x:=(0,0)) underlying125 a3 hz a8 a1 rfl oo Bb am h1 (MD _) oo oo oo fun a2 c2 w2 a6 av b2 _=>?_
 have k2:Keep Iv B w w2:=(Keep.of b1).trans (Keep.grown av am sm oA);have af:blk w2 t 127 [.slice a T.length c]:=fJ a0 am dc av;refine aj <|lr ?_;refine cB kf af sm rfl fun w3 ag o3=>?_;have ag:blk w3 t 127 [.slice a2 (T.length+1) c2]:=ag;have az:=eM a6 af dc o3
 have k3:Keep Iv B w w3:=k2.trans (o3.keep af sm ht.lo);rw[←Ty]at az;refine Gk (Inv:=fun ad wr=>∃(k:Nat) (z:Int×Int),ad=ci (k:Nat)∧k≤T.length∧yy (gtI id) T T.length=yy (gtI id) T k∧blk wr t 127 [.slice a2 (T.length+1) c2] ∧
   wr.ownsRow B 300 2 (.slice a2 (T.length+1) c2) (T.length+1) ((gu T k z).flatMap tnC)∧Keep Iv B w wr)
  (μ:=fun ad _=>(intOf ad).toNat) ⟨T.length,(0,0),rfl,Nat.le_refl _,rfl,ag,az,k3⟩ ?_
 rintro _ dd w4 m ⟨k,z,rfl,hk,Z,M,an,k4⟩ hm;have ar:∀{V0 W0 X0 Y0:Value} {zf:Nat→Value} {w5:World},V0=pA t 0→W0=.int .u64 id→X0=.int .u64 par→Y0=ci (k:Nat)→blk w5 t 127 [.slice a2 (T.length+1) c2] →
   w5.ownsRow B 300 2 (.slice a2 (T.length+1) c2) (T.length+1) ((gu T k z).flatMap tnC)→Keep Iv B w w5→yy (gtI id) T k=k→fP K ((bV V0 W0 X0 Y0 zf)) w5:=by
  intro V0 W0 X0 Y0 zf w5 q1 q2 q3 q4 al J k5 a4;subst q1 q2 q3 q4;refine Gm <|aj <|lr <|lK (v:=.slice a2 (T.length+1) c2) al rfl <|dl (vs:=tnC (id,par)) kr ?_;obtain⟨g,ap,rfl,C⟩:=d9 J oo;refine dQ underlying125 (s:=2) kf oo oo ?_;refine C.sto Bb ns oo kr (MD _) fun w6 o6 aS=>?_;rw[J7 hk]at aS
  refine h w6 ⟨⟨some ⟨g,0,none⟩,c2,?_,?_⟩,ht.lo⟩ (k5.trans (o6.keep C.blk sm C.lo))
  ·rw[ns];exact o6.blk al (fun hh=>(al.ne C.blk dc) hh)
  ·rw[Z,a4,ns];exact aS
 refine bO ?_;by_cases U:(0:Int)<(k:Nat)
 ·refine cU U ?_;obtain⟨k,rfl⟩:=Nat.exists_eq_succ_of_ne_zero (show k≠0 by omega);have ek:((k.succ:Nat):Int)-1=(k:Nat):=by omega
  have a5:k<T.length:=by omega
  have hx:T[k]? = some T[k]:=gE a5;generalize T[k]=x at hx;have aa:(gu T k.succ z)[k]? = some x:=by have:=Tz (L:=T) (z:=z) (show 0<k.succ by omega) hk;rw[Nat.succ_sub_one]at this;rw[this];exact hx
  obtain⟨g,ap,rfl,C⟩:=d9 an oo;refine aj <|lr <|lK (v:=.slice (some ⟨g,0,none⟩) (T.length+1) c2) M rfl <|ba oo oo ?_;rw[ek];refine dQ underlying125 (s:=2) kf oo oo <|Zp <|lK (v:=u6 x.1) C.blk (by rw[Int.toNat_natCast,Nat.zero_add];exact C.cell Bb ns aa (show 0<2 by omega)) <|bO <|bA U ?_
  have hI:yy (gtI id) T (k+1)=if id<x.1 then yy (gtI id) T k else k+1:=by
   conv=>lhs;unfold yy
   rw[hx];simp[gtI]
  by_cases O:id<x.1
  ·refine ax O ?_;rw[if_pos O]at hI;have u:blk w4.drew t 127 [.slice (some ⟨g,0,none⟩) (T.length+1) c2]:=M;have I:Opn w4.drew B 300 2 (T.length+1) c2 g ap ((gu T k.succ z).flatMap tnC):=⟨C.blk,C.lo,C.nc,C.cm,C.len,C.take,C.xl⟩
   refine ac (fun _=>aj) <|ac (fun _=>lr) <|ac (v:=.slice (some ⟨g,0,none⟩) (T.length+1) c2) (fun _=>lK u rfl) <|ac (fun _=>aj) <|ac (fun _=>lr) <|ac (v:=.slice (some ⟨g,0,none⟩) (T.length+1) c2) (fun _=>lK u rfl) <|ac (v:=ci (k:Nat)) (fun K j=>ba oo oo (by rw[ek];exact j)) <|ac (v:=pA g (0+((k:Nat):Int).toNat*2)) (fun _=>dQ underlying125 (s:=2) kf oo oo) <|ac (v:=.agg (tnC x).toArray) (fun _=>ldA (n:=2) (vs:=tnC x) underlying300 rfl kr I.blk (by rw[Int.toNat_natCast,Nat.zero_add];exact I.elem Bb ns aa) rfl) <|ac (v:=pA g (0+((k.succ:Nat):Int).toNat*2)) (fun _=>dQ underlying125 (s:=2) kf oo oo) ?_
   refine I.sto Bb ns oo kr (MD _) fun w5 o5 J=>?_;rw[J7 hk]at J;have a7:gu T k.succ x=gu T k x:=by have:=PO (L:=T) (x:=x) (show 0<k.succ by omega) (by rw[Nat.succ_sub_one];exact hx);rwa[Nat.succ_sub_one]at this
   rw[a7]at J;refine ba oo oo ?_;refine⟨⟨k,x,congrArg (Value.int .i64) ek,by omega,by rw[Z];exact hI,o5.blk u (fun hh=>(u.ne I.blk dc) hh),J,k4.drew.trans (o5.keep I.blk sm I.lo)⟩,by rw[hm];show (((k.succ:Nat):Int)-1).toNat<((k.succ:Nat):Int).toNat;omega⟩
  ·refine ao O ?_;rw[if_neg O]at hI;exact ar rfl rfl rfl rfl M an k4 hI
 ·have:k=0:=by omega
  subst this;refine eB U <|bj U <|aF ?_;exact ar rfl rfl rfl rfl M an k4 rfl
theorem zdT {id par:Int}{rk:Int→Nat}(Z:TK T rk)(C:TM w B t T)(hn:T.length≤1000)(hB:B≤w.heap.size)(h:∀w',TM w' B t (jm T id par).1→Keep Iv B w w'→K (ci (jm T id par).2) w'):call Q 144 #[pA t 0,.int .u64 id,.int .u64 par] K w:=by
 refine ak (goK func144) (HZ ?_);unfold jm at h;refine aO ?_;by_cases h0:id=0
 ·rw[if_pos h0]at h;refine ax h0 ?_;exact h w C (Keep.refl _ _ _)
 rw[if_neg h0]at h;refine ao h0 <|Uo C oo ?_;cases hq:bS T id with
 | true =>
  rw[if_pos hq]at h;refine aT ?_;exact h w C (Keep.refl _ _ _)
 | false =>
 rw[if_neg (by rw[hq];simp)]at h;refine aF <|aX ?_;by_cases O:par≠0∧bS T par=false
 ·rw[if_pos O]at h;refine cU O.1 <|Uo C oo ?_;rw[O.2];refine bK <|bA O.1 <|aT ?_;exact h w C (Keep.refl _ _ _)
 rw[if_neg O]at h;by_cases I:par≠0
 ·have aa:bS T par=true:=by
   cases hh:bS T par with
   | true=>rfl
   | false=>exact absurd ⟨I,hh⟩ O
  refine cU I <|Uo C oo ?_;rw[aa];refine bK <|bA I <|aF ?_;obtain⟨a,c,M,ho⟩:=C.row;refine aj <|lr <|lK (v:=.slice a T.length c) M rfl <|bh underlying125 <|bI ?_;by_cases j:(32:Int)≤(T.length:Nat)
  ·rw[if_pos (.inl oo)]at h;refine iq j <|bA j <|aT ?_;exact h w C (Keep.refl _ _ _)
  refine dt j ?_;refine Mz Z C oo fun w2 ap cp op J=>?_;have u:=C.fresh J;obtain⟨a,c,M,ho⟩:=u.row;refine bh underlying87 <|bI <|bj j ?_;by_cases U:(4:Int)≤((cC T par).length:Nat)
  ·rw[if_pos (.inr oo)]at h;refine ax U ?_;exact h w2 u (Keep.of J)
  refine ao U ?_;rw[if_neg oo]at h;refine aj <|lr <|lK (v:=.slice a T.length c) M rfl <|bh underlying125 ?_;exact VU u hn (Nat.le_trans hB J.size) rfl rfl rfl rfl fun w' h1 h2=>h w' h1 ((Keep.of J).trans h2)
 ·refine eB I <|bj I <|aF ?_;obtain⟨a,c,M,ho⟩:=C.row;refine aj <|lr <|lK (v:=.slice a T.length c) M rfl <|bh underlying125 <|bI ?_;by_cases j:(32:Int)≤(T.length:Nat)
  ·rw[if_pos (.inl oo)]at h;refine iq j <|bA j <|aT ?_;exact h w C (Keep.refl _ _ _)
  refine dt j ?_;refine Mz Z C oo fun w2 ap cp op J=>?_;have u:=C.fresh J;obtain⟨a,c,M,ho⟩:=u.row;refine bh underlying87 <|bI <|bj j ?_;by_cases U:(4:Int)≤((cC T par).length:Nat)
  ·rw[if_pos (.inr oo)]at h;refine ax U ?_;exact h w2 u (Keep.of J)
  refine ao U ?_;rw[if_neg oo]at h;refine aj <|lr <|lK (v:=.slice a T.length c) M rfl <|bh underlying125 ?_;exact VU u hn (Nat.le_trans hB J.size) rfl rfl rfl rfl fun w' h1 h2=>h w' h1 ((Keep.of J).trans h2)
end
end
end
section
open Go.RowKit
theorem Ki (h:bT .geq 3 V0 (ci 1) (fun t4 w=>aG t4 true (fun u=>bT .leq 3 V0 (ci 6) (fun t7=>u [V0,t7]) w) (fun k=>k [uu,uu] w) fun j=>pick t4 (gd j 1) cF K) w):Gives Q 85 #[V0] w K:=by
 refine aq func85 kr ?_;exact mpK h
def Fc (e1 t2 x3 t14:Value)(zf:Nat→Value):List Value:=zf 0::e1::t2::x3::zT zf 4 10 (t14::zT zf 15 45 ([]))
def qy (e1 t2 x3 t14 t15:Value)(zf:Nat→Value):List Value:=zf 0::e1::t2::x3::zT zf 4 10 (t14::t15::zT zf 16 44 ([]))
def kz (t2 x3:Value)(zf:Nat→Value):List Value:=zf 0::zf 1::t2::x3::zT zf 4 56 ([])
def di (K:KV):KE:=kZ f86 [1,1,1] K
def qw (K:KV):KE:=ah Q (cd f86 [1,1,0,1]) (di K) xf (rk f86 K)
def kA (K:KV):KE:=kY f86 (b1 117) (di K) (xx xf (di K) 0) K
def qx (K:KV):KE:=ah Q (cd f86 (b1 233)) (kA K) (xx xf (di K) 0) (rk f86 K)
section
variable {K:KV}{e1 t2 x3 t14 t15:Value}{zf:Nat→Value}{w:World}
theorem Oi {K:KV}{e0:Value}{w:World}(h:box Q 35 e0 (fun e1=>alc Q 35 fun t2=>ai Q 35 e1 0 fun t4=>ld Q 3 t4 fun t5=>ai Q 35 e1 1 fun t6=>ld Q 31 t6 fun t7=>ai Q 35 e1 2 fun t8=>ld Q 33 t8 fun t9=>ai Q 35 e1 3 fun t10=>ld Q 5 t10 fun t11=>bld Q 35 #[(0,t5),(1,t7),(2,t9),(3,t11)] fun t12=>alc Q 35 fun x3=>sto Q 35 x3 t12 fun _=>ai Q 35 e1 3 fun t13=>ld Q 5 t13 fun t14=>qw K (Fc e1 t2 x3 t14 (zV (zV zu 0 [e0]) 4 [t4,t5,t6,t7,t8,t9,t10,t11,t12,t13]))) w):Gives Q 86 #[e0] w K:=by
 refine aq func86 (by kernel_rfl) ?_
 refine Eq.mp (congrArg (fun c=>ah Q c _ _ _ _ w) (by kernel_rfl:(rep [1,1,0,1] (cd f86 [1,1,0,1]) (cd f86 []))=(cd f86 []))) ?_
 revert h
 delta qw di
 generalize (cd f86 [1,1,0,1])=xc0
 exact mpF
theorem Lv (h:bT .eql 5 t14 (cb 1) (fun t16=>qx K (qy e1 t2 x3 t14 t16 (zV zf 16 [t16]))) w):qw K (Fc e1 t2 x3 t14 zf) w:=by
 delta qw
 refine Eq.mp (congrArg (fun c=>ah Q c _ _ _ _ w) (by kernel_rfl:(rep [0,0,1] (cd f86 (b1 233)) (cd f86 [1,1,0,1]))=(cd f86 [1,1,0,1]))) ?_
 revert h
 delta qx kA
 generalize (cd f86 (b1 233))=xc0
 generalize (di K)=qc0
 exact mpF
theorem Lw (h:cond t15 (kA K (qy e1 t2 x3 t14 t15 zf) w) (bT .eql 5 t14 (cb 2) (fun j=>kA K (qy e1 t2 x3 t14 j (zV zf 17 [j]))) w)):qx K (qy e1 t2 x3 t14 t15 zf) w:=by
 delta qx;revert h;generalize (kA K)=qc0;generalize (di K)=qc1;exact mpF
theorem BI (h:cond t15 (ai Q 35 e1 4 (fun J=>ld Q 31 J fun M=>ai Q 35 x3 4 fun O=>sto Q 31 O M fun _=>ai Q 35 e1 6 fun U=>ld Q 2 U fun Z=>ai Q 35 x3 6 fun aa=>sto Q 2 aa Z fun _=>di K (kz t2 x3 (zV (zV (zV zf 1 [e1]) 14 [t14,t15]) 18 [J,M,O,U,Z,aa]))) w) (bT .eql 5 t14 (cb 3) (fun j w=>cond j (ai Q 35 e1 4 (fun ad=>ld Q 31 ad fun af=>ai Q 35 x3 4 fun ag=>sto Q 31 ag af fun _=>ai Q 35 e1 6 fun al=>ld Q 2 al fun am=>ai Q 35 x3 6 fun an=>sto Q 2 an am fun _=>ai Q 35 e1 7 fun ap=>ld Q 31 ap fun ar=>ai Q 35 x3 7 fun av=>sto Q 31 av ar fun _=>di K (kz t2 x3 (zV (zV (zV zf 1 [e1]) 14 [t14,t15]) 24 [j,j,ad,af,ag,al,am,an,ap,ar,av]))) w) (bT .eql 5 t14 (cb 4) (fun u w=>cond u (ai Q 35 e1 7 (fun az=>ld Q 31 az fun aS=>ai Q 35 x3 7 fun a0=>sto Q 31 a0 aS fun _=>ai Q 35 e1 8 fun a1=>ld Q 31 a1 fun a2=>ai Q 35 x3 8 fun a3=>sto Q 31 a3 a2 fun _=>di K (kz t2 x3 (zV (zV (zV (zV zf 1 [e1]) 14 [t14,t15]) 24 [j,j]) 35 [u,u,az,aS,a0,a1,a2,a3]))) w) (bT .eql 5 t14 (cb 5) (fun C w=>cond C (ai Q 35 e1 4 (fun a4=>ld Q 31 a4 fun a5=>ai Q 35 x3 4 fun a6=>sto Q 31 a6 a5 fun _=>ai Q 35 e1 6 fun a7=>ld Q 2 a7 fun a8=>ai Q 35 x3 6 fun a9=>sto Q 2 a9 a8 fun _=>ai Q 35 e1 5 fun bb=>ld Q 3 bb fun bd=>ai Q 35 x3 5 fun be=>sto Q 3 be bd fun _=>di K (kz t2 x3 (zV (zV (zV (zV (zV zf 1 [e1]) 14 [t14,t15]) 24 [j,j]) 35 [u,u]) 43 [C,C,a4,a5,a6,a7,a8,a9,bb,bd,be]))) w) (bT .eql 5 t14 (cb 6) (fun I w=>cond I (ai Q 35 e1 5 (fun bi=>ld Q 3 bi fun bk=>ai Q 35 x3 5 fun bn=>sto Q 3 bn bk fun _=>di K (kz t2 x3 (zV (zV (zV (zV (zV (zV zf 1 [e1]) 14 [t14,t15]) 24 [j,j]) 35 [u,u]) 43 [C,C]) 54 [I,I,bi,bk,bn]))) w) (di K (kz t2 x3 (zV (zV (zV (zV (zV (zV zf 1 [e1]) 14 [t14,t15]) 24 [j,j]) 35 [u,u]) 43 [C,C]) 54 [I,I])) w)) w)) w)) w)) w)):kA K (qy e1 t2 x3 t14 t15 zf) w:=by
 delta kA;revert h;generalize (di K)=qc0;exact mpF
theorem Lx (h:ld Q 35 x3 (fun j=>sto Q 35 t2 j fun _=>aV Q [(some 35,t2)] K) w):di K (kz t2 x3 zf) w:=by
 delta di;exact mpK h
end
attribute [irreducible] di qw kA qx
def uK (e1 some3 other4 t24 t25:Value)(zf:Nat→Value):List Value:=zf 0::e1::zf 2::some3::other4::zT zf 5 19 (t24::t25::zT zf 26 49 ([]))
def AG (e1 some3 other4 t24 t63:Value)(zf:Nat→Value):List Value:=zf 0::e1::zf 2::some3::other4::zT zf 5 19 (t24::zT zf 25 38 (t63::zT zf 64 11 ([])))
def AH (e1:Value)(zf:Nat→Value):List Value:=zf 0::e1::zT zf 2 73 ([])
def eW (K:KV):KE:=kZ f87 [1,1,1,1] K
def lI (K:KV):KE:=ah Q (cd f87 (b1 245)) (eW K) (xx xf (eW K) 0) (rk f87 K)
def nZ (K:KV):KE:=ah Q (cd f87 (b1 62975)) (eW K) (xx xf (eW K) 0) (rk f87 K)
theorem Kl {K:KV}{e0:Value}{w:World}(h:box Q 35 e0 (fun V0=>ai Q 35 V0 6 fun t5=>ld Q 2 t5 fun t6=>bT .geq 2 t6 (ci 1) fun t7 w=>aG t7 true (fun k9=>ai Q 35 V0 6 (fun t9=>ld Q 2 t9 fun t10=>bT .leq 2 t10 (ci 1125899906842624) fun t11=>k9 [t9,t10,t11]) w) (fun k=>k [uu,uu,uu] w) fun us9=>pick t7 (gd us9 2) cF fun t12=>ai Q 35 V0 5 fun t13=>ld Q 3 t13 fun t14=>call Q 85 #[t14] fun t15 w=>aG t15 true (fun k17=>ai Q 35 V0 5 (fun t17=>ld Q 3 t17 fun t18=>ai Q 35 V0 0 fun t19=>ld Q 3 t19 fun t20=>bF .neq 3 t18 t20 fun t21=>k17 [t17,t18,t19,t20,t21]) w) (fun k=>k [uu,uu,uu,uu,uu] w) fun us17=>pick t15 (gd us17 4) cF fun t22=>ai Q 35 V0 3 fun t23=>ld Q 5 t23 fun Y0=>bT .eql 5 Y0 (cb 1) fun t26=>lI K (uK V0 t12 t22 Y0 t26 (zV (zV (zV (zV zu 0 [e0]) 2 [cF]) 5 [t5,t6,t7,t7,gd us9 0,gd us9 1,gd us9 2,t12,t13,t14,t15,t15,gd us17 0,gd us17 1,gd us17 2,gd us17 3,gd us17 4,t22,t23]) 26 [t26]))) w):Gives Q 87 #[e0] w K:=by
 refine aq func87 (by kernel_rfl) ?_
 refine Eq.mp (congrArg (fun c=>ah Q c _ _ _ _ w) (by kernel_rfl:(rep (b1 245) (cd f87 (b1 245)) (cd f87 []))=(cd f87 []))) ?_
 revert h
 delta lI eW
 generalize (cd f87 (b1 245))=xc0
 exact mpF
theorem HV (h:cond Z0 (ai Q 35 V0 6 (fun t27=>ld Q 2 t27 fun t28=>bT .geq 2 t28 (ci 0) fun t29 w=>aG t29 true (fun k31=>ai Q 35 V0 6 (fun t31=>ld Q 2 t31 fun t32=>bT .leq 2 t32 (ci 1125899906842624) fun t33=>k31 [t31,t32,t33]) w) (fun k=>k [uu,uu,uu] w) fun us31=>pick t29 (gd us31 2) cF K) w) (bT .eql 5 Y0 (cb 2) (fun t36 w=>cond t36 (K W0 w) (bT .eql 5 Y0 (cb 3) (fun t39 w=>cond t39 (aG W0 true (fun k42=>ai Q 35 V0 7 (fun t42=>ld Q 31 t42 fun t43=>bT .geq 31 t43 (cu 1) fun t44=>k42 [t42,t43,t44]) w) (fun k=>k [uu,uu,uu] w) fun us42=>pick W0 (gd us42 2) cF K) (bT .eql 5 Y0 (cb 4) (fun t47 w=>cond t47 (ai Q 35 V0 7 (fun t48=>ld Q 31 t48 fun t49=>bT .geq 31 t49 (cu 1) fun t50 w=>aG t50 true (fun k52=>ai Q 35 V0 8 (fun t52=>ld Q 31 t52 fun t53=>bT .geq 31 t53 (cu 1) fun t54=>k52 [t52,t53,t54]) w) (fun k=>k [uu,uu,uu] w) fun us52=>pick t50 (gd us52 2) cF fun t55 w=>aG t55 true (fun k57=>ai Q 35 V0 7 (fun t57=>ld Q 31 t57 fun t58=>ai Q 35 V0 8 fun t59=>ld Q 31 t59 fun t60=>bF .neq 31 t58 t60 fun t61=>k57 [t57,t58,t59,t60,t61]) w) (fun k=>k [uu,uu,uu,uu,uu] w) fun us57=>pick t55 (gd us57 4) cF K) w) (bT .eql 5 Y0 (cb 5) (fun t64=>nZ K (AG V0 W0 X0 Y0 t64 (zV (zV (zV (zV (zV zf 25 [Z0]) 35 [t36,t36]) 38 [t39,t39]) 46 [t47,t47]) 64 [t64]))) w)) w)) w)) w)):lI K (uK V0 W0 X0 Y0 Z0 zf) w:=by
 delta lI
 refine Eq.mp (congrArg (fun c=>ah Q c _ _ _ _ w) (by kernel_rfl:(rep (b1 511) (cd f87 (b1 62975)) (cd f87 (b1 245)))=(cd f87 (b1 245)))) ?_
 revert h
 delta nZ
 generalize (cd f87 (b1 62975))=xc0
 generalize (eW K)=qc0
 exact mpF
theorem HX (h:cond H1 (aG W0 true (fun C=>C [X0] w) (fun k=>k [uu] w) fun u=>pick W0 (gd u 0) cF K) (bT .eql 5 Y0 (cb 6) (fun j w=>cond j (K X0 w) (eW K (AH V0 (zV (zV (zV (zV zf 3 [W0,X0]) 24 [Y0]) 63 [H1]) 69 [j,j])) w)) w)):nZ K (AG V0 W0 X0 Y0 H1 zf) w:=by
 delta nZ;revert h;generalize (eW K)=qc0;exact mpF
theorem HY (h:ai Q 35 V0 3 (fun j=>ld Q 5 j fun u=>bT .eql 5 u (cb 7) K) w):eW K (AH V0 zf) w:=by
 delta eW;exact mpK h
attribute [irreducible] eW lI nZ
def Fb (e1 i3:Value)(zf:Nat→Value):List Value:=zf 0::e1::zf 2::i3::zT zf 4 43 ([])
def yA (e1:Value)(zf:Nat→Value):List Value:=zf 0::e1::zT zf 2 45 ([])
def jy (K:KV):KE:=kZ f45 [1,1,1] K
def tZ (K:KV):KE:=ah Q (cd f45 (b1 58)) (jy K) (xx xf (jy K) 0) (rk f45 K)
theorem Oh (h:box Q 35 W0 (fun V0 w=>sF 35 V0 0 (fun t4=>sL 3 t4 fun t5=>sti (call Q 85 #[t5]) fun t6=>sti (un Q .not t6) fun t7 w=>aG t7 false (fun k9=>sF 35 V0 1 (fun t9=>sL 31 t9 fun M=>sti (bT .lss 31 M (cu 1)) fun ar=>k9 [t9,M,ar]) w) (fun k=>k [uu,uu,uu] w) fun J=>sti (pick t7 cT (gd J 2)) fun C w=>aG C false (fun an=>sF 35 V0 1 (fun t14=>sL 31 t14 fun t15=>sti (bT .geq 31 t15 (cu 1099511627776)) fun av=>an [t14,t15,av]) w) (fun k=>k [uu,uu,uu] w) fun u=>sti (pick C cT (gd u 2)) fun I w=>aG I false (fun ap=>sF 35 V0 0 (fun O=>sL 3 O fun U=>sti (bT .sub 3 U (ci 1)) fun Z=>sF 35 V0 2 fun aa=>sI 33 aa Z fun ad=>sL 31 ad fun t24=>sF 35 V0 1 fun af=>sL 31 af fun ag=>sti (bT .sub 31 ag (cu 1)) fun al=>sti (bF .neq 31 t24 al) fun az=>ap [O,U,Z,aa,ad,t24,af,ag,al,az]) w) (fun k=>k [uu,uu,uu,uu,uu,uu,uu,uu,uu,uu] w) fun j=>sti (pick I cT (gd j 9)) fun am w=>cond am (K cF w) (tZ K (Fb V0 (ci 0) (zV (zV (zV zu 0 [W0]) 2 [cF]) 4 [t4,t5,t6,t7,t7,gd J 0,gd J 1,gd J 2,C,C,gd u 0,gd u 1,gd u 2,I,I,gd j 0,gd j 1,gd j 2,gd j 3,gd j 4,gd j 5,gd j 6,gd j 7,gd j 8,gd j 9,am])) w)) w.drew) w):Gives Q 45 #[W0] w K:=by
 refine aq func45 kr ?_;revert h;delta tZ jy;exact mpF
theorem Lt (Inv:Value→World→Prop)(μ:Value→World→Nat)(h0:Inv W0 w)(hs:∀(j:Value) (Z:Nat→Value) (w:World) (m:Nat),Inv j w→m=μ j w →
  bT .lss 3 j (ci 6) (fun u w=>cond u (ai Q 35 V0 2 (fun J=>aL Q 33 J j fun M=>ld Q 31 M fun O=>bT .geq 31 O (cu 1099511627776) fun U w=>cond U (K cF w) (nC j (fun C w=>(Inv C w)∧((μ C w)<m)) w)) w) (jy K (yA V0 (zV (zV Z 3 [j]) 30 [j,u])) w)) w):tZ K (Fb V0 W0 zf) w:=by
 refine aI (cd f45 (b1 116)) (zr [(2,2),(30,9)]) kr (vP [3] Inv) (vQ [3] μ) h0 ?_;intro e' w' hI;have h:=hs _ (zM zf (gd e') (zr [(2,2),(30,9)])) w' _ hI rfl;revert h;generalize (jy K)=qc0;exact mpF
theorem Lu (h:aE (fun S w=>hL S 35 V0 fun u=>hL S 35 V0 fun C=>call Q 86 #[C] (fun I=>aU S fun S w=>hld S (bF .eql 35 u I) fun j=>hG j true S (ld Q 35 V0) fun J=>xG j true (call Q 87 #[J]) (fun M=>aE fun S w=>hld S (pick j M cF) fun O=>K O w) w) w) w.drew):jy K (yA V0 zf) w:=by
 delta jy;exact mpK h
attribute [irreducible] jy tZ
theorem N9 (h:box Q 33 V0 (fun j=>box Q 35 W0 fun C w=>aE (fun S w=>hL S 35 C fun U=>call Q 45 #[U] (fun u=>aE fun S w=>hG u true S (ai Q 35 C 1) fun Z=>hG u true S (ld Q 31 Z) fun t9=>hG u true S (ai Q 35 C 0) fun I=>hG u true S (ld Q 3 I) fun J=>hG u true S (bT .sub 3 J (ci 1)) fun M=>hG u true S (aL Q 33 j M) fun t13=>hG u true S (ld Q 31 t13) fun t14=>hG u true S (bF .leq 31 t9 t14) fun t15=>hld S (pick u t15 cF) fun O=>K O w) w) w.drew) w):Gives Q 46 #[V0,W0] w K:=by
 refine aq func46 kr ?_;exact mpK h
def BJ (known2 e3 i5:Value)(zf:Nat→Value):List Value:=zf 0::zf 1::known2::e3::zf 4::i5::zT zf 6 26 ([])
def BK (zf:Nat→Value):List Value:=zT zf 0 32 ([])
def jp (K:KV):KE:=kZ f47 [1,1,1] K
def rK (K:KV):KE:=ah Q (cd f47 (b1 58)) (jp K) (xx xf (jp K) 0) (rk f47 K)
theorem Ly (h:box Q 33 X0 (fun V0=>box Q 35 Y0 fun W0 w=>aE (fun S w=>hL S 35 W0 fun Z=>call Q 45 #[Z] (fun t7=>aE fun S w=>hld S (un Q .not t7) fun j=>hG j false S (ai Q 35 W0 1) fun u=>hG j false S (ld Q 31 u) fun C=>hG j false S (ai Q 35 W0 0) fun I=>hG j false S (ld Q 3 I) fun t13=>hG j false S (bT .sub 3 t13 (ci 1)) fun t14=>hG j false S (aL Q 33 V0 t14) fun t15=>hG j false S (ld Q 31 t15) fun J=>hG j false S (bT .add 31 J (cu 1)) fun M=>hG j false S (bF .neq 31 C M) fun O=>hld S (pick j cT O) fun U=>cond U (K cF w) (rK K (BJ V0 W0 (ci 0) (zV (zV (zV zu 0 [X0,Y0]) 4 [cF]) 6 [Z,t7,j,j,u,C,I,t13,t14,t15,J,M,O,U])) w)) w) w.drew) w):Gives Q 47 #[X0,Y0] w K:=by
 refine aq func47 kr ?_;revert h;delta rK jp;exact mpF
theorem Jc (Inv:Value→World→Prop)(μ:Value→World→Nat)(h0:Inv X0 w)(hs:∀(j:Value) (dd:Nat→Value) (w:World) (m:Nat),Inv j w→m=μ j w →
  bT .lss 3 j (ci 6) (fun u w=>cond u (sF 35 W0 2 (fun J=>sI 33 J j fun M=>sL 31 M fun O=>sI 33 V0 j fun U=>sL 31 U fun Z=>sti (bF .gtr 31 O Z) fun aa w=>cond aa (K cF w) (nC j (fun C w=>(Inv C w)∧((μ C w)<m)) w)) w.drew) (jp K (BK (zV (zV (zV dd 2 [V0,W0]) 5 [j]) 20 [j,u])) w)) w):rK K (BJ V0 W0 X0 zf) w:=by
 refine aI (cd f47 (b1 116)) (zr [(4,2),(20,12)]) kr (vP [5] Inv) (vQ [5] μ) h0 ?_;intro e' w' hI;have h:=hs _ (zM zf (gd e') (zr [(4,2),(20,12)])) w' _ hI rfl;revert h;generalize (jp K)=qc0;exact mpF
theorem Jd (h:K cT w):jp K (BK zf) w:=by
 delta jp;exact mpK h
attribute [irreducible] jp rK
end
section
open Go.RowKit
theorem SN {d:TypeDesc}(M:P.underlying t=some d)(C:d.isRow=true)(hi:(P.info? t).map (·.size)=some vs.length)(u:blk w p E cs)(O:cs=vs)(h:K (.agg vs.toArray) w):aV P [(some t,pA p 0)] K w:=by
 subst O;have J:=run_loadVar_mid (P:=P) w p 0 t cs d (fun j v I=>by rw[u.cell,Nat.zero_add];exact I) M C hi;have e:(oc [(some t,pA p 0)]).run P w=.ok (.agg cs.toArray) w:=by
  simp[oc,asAddr,Sem.run_bind,J]
 unfold aV;rw[e];exact⟨rfl,h⟩
attribute [local irreducible] bin un conv call aZ blt slc ai fld aL idx lkp cP eP eSt rng nxt ent ext alc box bld bg ld sto aJ cr mkS ifc pick rdy wts aG sti cond aV Gives ah dy dP cOp
section
variable {w:World}{K:KV}
theorem Rg {i:Int}(h:K (.bool (bG i)) w):call Q 85 #[ci i] K w:=by
 refine ak (goK func85) (Ki ?_);unfold bG at h;refine bI ?_;by_cases j:i≥1
 ·refine cU j <|gJ <|bA j ?_;rw[show decide (1≤i)=true from decide_eq_true j,Bool.true_and]at h;exact h
 ·refine eB j <|bj j ?_;rw[show decide (1≤i)=false from decide_eq_false j,Bool.false_and]at h;exact h
structure OW (w0 w:World) (e:EV) (cs:List Value):Prop where
 e:blk w w0.heap.size 35 (evC e)
 r:∃zs:List Value,blk w (w0.heap.size+1) 35 zs∧zs.length=14
 x:blk w (w0.heap.size+2) 35 cs
 l:cs.length=14
 bel:Below w0.heap.size w0 w
theorem OW.st {e:EV}{v:Value}(g:OW w0 w e cs)(I:o<14)(M:v.oneCell'=true)(J:∀w,(sizeOf t).run Q w=.ok 1 w)(h:∀w',OW w0 w' e (cs.set o v)→K undef w'):sto Q t (pA (w0.heap.size+2) o) v K w:=by
 obtain⟨Z,O,j⟩:=g.r;exact cB J g.x (by rw[g.l];exact I) M fun U C u=>h U ⟨u.blk g.e oo,⟨Z,u.blk O oo,j⟩,C,by rw[List.length_set,g.l],bE g.bel u oo⟩
theorem FO {e e':EV}(g:OW w0 w e (evC e'))(J:V0=pA (w0.heap.size+1) 0)(M:W0=pA (w0.heap.size+2) 0)(h:∀w',Below w0.heap.size w0 w'→K (.agg (evC e').toArray) w'):di K ((kz V0 W0 zf)) w:=by
 subst J M;refine Lx <|ldA (n:=14) (vs:=evC e') underlying35 rfl kr g.x rfl rfl ?_;obtain⟨U,u,C⟩:=g.r;refine ip (n:=14) (vs:=evC e') kr rfl u oo (sY _) fun O j I=>?_;refine SN (vs:=evC e') underlying35 rfl kr j (by rw[List.take_zero,List.nil_append,List.drop_of_length_le oo,List.append_nil]) ?_;exact h O (bE g.bel I oo)
theorem zeI {e:EV}(h:∀w',Below w.heap.size w w'→K (.agg (evC (ni e)).toArray) w'):call Q 86 #[.agg (evC e).toArray] K w:=by
 refine ak (goK func86) (Oi ?_);refine br fun w1 M b1 s1=>?_;have M:=cZ M
 refine df (z:=.agg (evC ⟨0,0,0,0,0,0,0,0,0,0,0,0,0,0⟩).toArray) kr fun w2 I b2 s2=>?_;have I:=cZ I
 rw[s1]at I ⊢;have j:=ae b2 M M.lt;refine bw <|lK (v:=iv e.o) j rfl <|gN <|lK (v:=u6 e.s) j rfl <|qn <|ldA (n:=6) (vs:=[u6 e.d0,u6 e.d1,u6 e.d2,u6 e.d3,u6 e.d4,u6 e.d5]) underlying32 rfl kr j rfl rfl <|mh <|lK (v:=kv8 e.k) j rfl <|dl (vs:=evC ⟨e.o,e.s,e.d0,e.d1,e.d2,e.d3,e.d4,e.d5,e.k,0,0,0,0,0⟩) kr ?_
 refine df (z:=.agg (evC ⟨0,0,0,0,0,0,0,0,0,0,0,0,0,0⟩).toArray) kr fun w3 J O s3=>?_;have J:=cZ J
 have aa:w2.heap.size=w.heap.size+2:=by omega
 rw[aa]at J ⊢;refine ip (n:=14) (vs:=evC ⟨e.o,e.s,e.d0,e.d1,e.d2,e.d3,e.d4,e.d5,e.k,0,0,0,0,0⟩) kr rfl J (by simp[evC]) (sY _) fun w4 h4 Z=>?_;have g:OW w w4 e (evC ⟨e.o,e.s,e.d0,e.d1,e.d2,e.d3,e.d4,e.d5,e.k,0,0,0,0,0⟩) :=
  ⟨Z.blk (ae O j j.lt) oo,⟨_,Z.blk (ae O I I.lt) oo,rfl⟩,h4,rfl,bE (b1.trans ((b2.mono oo).trans (O.mono oo))) Z oo⟩
 refine mh <|lK (v:=kv8 e.k) g.e rfl ?_;have C:∀e',e'=ni e→∀w',Below w.heap.size w w'→K (.agg (evC e').toArray) w':=fun e' he=>he ▸ h;refine Lv <|aO <|Lw ?_;by_cases U:e.k=1
 ·refine ax U <|BI <|ax U <|dR <|lK (v:=u6 e.n) g.e rfl <|dR ?_;refine g.st dc rfl kf fun u g=>?_;refine du <|lK (v:=iv e.a) g.e rfl <|du ?_;refine g.st dc rfl kf fun u g=>?_;exact FO (e':=⟨e.o,e.s,e.d0,e.d1,e.d2,e.d3,e.d4,e.d5,e.k,e.n,0,e.a,0,0⟩) g rfl rfl (C _ (by simp[ni, *]))
 refine ao U <|aO <|BI ?_;by_cases k2:e.k=2
 ·refine ax k2 <|dR <|lK (v:=u6 e.n) g.e rfl <|dR ?_;refine g.st dc rfl kf fun u g=>?_;refine du <|lK (v:=iv e.a) g.e rfl <|du ?_;refine g.st dc rfl kf fun u g=>?_;exact FO (e':=⟨e.o,e.s,e.d0,e.d1,e.d2,e.d3,e.d4,e.d5,e.k,e.n,0,e.a,0,0⟩) g rfl rfl (C _ (by simp[ni, *]))
 refine ao k2 <|aO ?_;by_cases k3:e.k=3
 ·refine ax k3 <|dR <|lK (v:=u6 e.n) g.e rfl <|dR ?_;refine g.st dc rfl kf fun u g=>?_;refine du <|lK (v:=iv e.a) g.e rfl <|du ?_;refine g.st dc rfl kf fun u g=>?_;refine gw <|lK (v:=u6 e.r) g.e rfl <|gw ?_;refine g.st dc rfl kf fun u g=>?_
  exact FO (e':=⟨e.o,e.s,e.d0,e.d1,e.d2,e.d3,e.d4,e.d5,e.k,e.n,0,e.a,e.r,0⟩) g rfl rfl (C _ (by simp[ni, *]))
 refine ao k3 <|aO ?_;by_cases k4:e.k=4
 ·refine ax k4 <|gw <|lK (v:=u6 e.r) g.e rfl <|gw ?_;refine g.st dc rfl kf fun u g=>?_;refine py <|lK (v:=u6 e.f) g.e rfl <|py ?_;refine g.st dc rfl kf fun u g=>?_;exact FO (e':=⟨e.o,e.s,e.d0,e.d1,e.d2,e.d3,e.d4,e.d5,e.k,0,0,0,e.r,e.f⟩) g rfl rfl (C _ (by simp[ni, *]))
 refine ao k4 <|aO ?_;by_cases k5:e.k=5
 ·refine ax k5 <|dR <|lK (v:=u6 e.n) g.e rfl <|dR ?_;refine g.st dc rfl kf fun u g=>?_;refine du <|lK (v:=iv e.a) g.e rfl <|du ?_;refine g.st dc rfl kf fun u g=>?_;refine gO <|lK (v:=iv e.t) g.e rfl <|gO ?_;refine g.st dc rfl kf fun u g=>?_
  exact FO (e':=⟨e.o,e.s,e.d0,e.d1,e.d2,e.d3,e.d4,e.d5,e.k,e.n,e.t,e.a,0,0⟩) g rfl rfl (C _ (by simp[ni, *]))
 refine ao k5 <|aO ?_;by_cases k6:e.k=6
 ·refine ax k6 <|gO <|lK (v:=iv e.t) g.e rfl <|gO ?_;refine g.st dc rfl kf fun u g=>?_;exact FO (e':=⟨e.o,e.s,e.d0,e.d1,e.d2,e.d3,e.d4,e.d5,e.k,0,e.t,0,0,0⟩) g rfl rfl (C _ (by simp[ni, *]))
 refine ao k6 ?_;exact FO (e':=⟨e.o,e.s,e.d0,e.d1,e.d2,e.d3,e.d4,e.d5,e.k,0,0,0,0,0⟩) g rfl rfl (C _ (by simp[ni, *]))
end
end
section
attribute [local irreducible] bin un conv call aZ blt slc ai fld aL idx lkp cP eP eSt rng nxt ent ext alc box bld bg ld sto aJ cr mkS ifc pick rdy wts aG sti cond aV Gives ah dy dP cOp
section
open Go.RowKit
theorem qr {v:Value}{S:World→Prop}{s:KV→World→Prop}{k:Value→Prop}(u:asB v≠some cx)(j:k undef):hG v cx S s k:=⟨undef,fun h=>absurd h u,fun _=>rfl,j⟩
theorem zfh {v:Value}{s:KV→World→Prop}(u:asB v≠some cx)(h:K undef w):xG v cx s K w:=⟨fun j=>absurd j u,fun _=>h⟩
theorem SH {p:Prop}[Decidable p](h : ¬p):asB (.bool (decide p))≠some true:=by rw[zei h];simp
theorem GJ {e:EV}(u:blk w b 35 (evC e))(q1:V0=pA b 0)(q3:W0=.bool (smE e))(q4:X0=.bool (otE e))(q5:Y0=kv8 e.k)(q6:Z0=.bool (decide (e.k=1)))(h:K (.bool (fdE e)) w):lI K ((uK V0 W0 X0 Y0 Z0 zf)) w:=by
 subst q1 q3 q4 q5 q6;refine HV ?_;unfold fdE at h;by_cases J:e.k=1
 ·rw[if_pos J]at h;refine ax J <|du <|lK (v:=iv e.a) u rfl <|bI ?_;by_cases j:e.a≥0
  ·rw[show decide (0≤e.a)=true from decide_eq_true j,Bool.true_and]at h;refine cU j <|du <|lK (v:=iv e.a) u rfl <|gJ <|bA j ?_;exact h
  ·rw[show decide (0≤e.a)=false from decide_eq_false j,Bool.false_and]at h;refine eB j <|bj j ?_;exact h
 rw[if_neg J]at h;refine ao J <|aO ?_;by_cases M:e.k=2
 ·rw[if_pos M]at h;exact ax M h
 rw[if_neg M]at h;refine ao M <|aO ?_;by_cases O:e.k=3
 ·rw[if_pos O]at h;refine ax O ?_;cases I:smE e with
  | true =>
   rw[I,Bool.true_and]at h;refine qq <|gw <|lK (v:=u6 e.r) u rfl <|bI <|cz ?_;exact h
  | false =>
   rw[I,Bool.false_and]at h;refine nY <|dh ?_;exact h
 rw[if_neg O]at h;refine ao O <|aO ?_;by_cases U:e.k=4
 ·rw[if_pos U]at h;refine ax U <|gw <|lK (v:=u6 e.r) u rfl <|bI ?_;by_cases j:e.r≥1
  ·rw[show decide (1≤e.r)=true from decide_eq_true j,Bool.true_and]at h;refine cU j <|py <|lK (v:=u6 e.f) u rfl <|bI <|bA j ?_;by_cases C:e.f≥1
   ·rw[show decide (1≤e.f)=true from decide_eq_true C,Bool.true_and]at h;refine cU C <|gw <|lK (v:=u6 e.r) u rfl <|py <|lK (v:=u6 e.f) u rfl <|aX <|bA C ?_;exact h
   ·rw[show decide (1≤e.f)=false from decide_eq_false C,Bool.false_and]at h;refine eB C <|bj C ?_;exact h
  ·rw[show decide (1≤e.r)=false from decide_eq_false j,Bool.false_and]at h;refine eB j <|bj j <|nY <|dh ?_;exact h
 rw[if_neg U]at h;refine ao U <|aO <|HX ?_;by_cases Z:e.k=5
 ·rw[if_pos Z]at h;refine ax Z ?_;cases I:smE e with
  | true =>
   rw[I,Bool.true_and]at h;refine qq <|cz ?_;exact h
  | false =>
   rw[I,Bool.false_and]at h;refine nY <|dh ?_;exact h
 rw[if_neg Z]at h;refine ao Z <|aO ?_;by_cases k6:e.k=6
 ·rw[if_pos k6]at h;exact ax k6 h
 rw[if_neg k6]at h;refine ao k6 <|HY <|mh <|lK (v:=kv8 e.k) u rfl <|aO ?_;exact h
theorem Zs {e:EV}(h:∀w',Below w.heap.size w w'→K (.bool (fdE e)) w'):call Q 87 #[.agg (evC e).toArray] K w:=by
 refine ak (goK func87) (Kl ?_);refine br fun J j b1 M=>?_;have j:=cZ j
 have h:=h J b1;refine du <|lK (v:=iv e.a) j rfl <|bI ?_;by_cases u:e.a≥1
 ·refine cU u <|du <|lK (v:=iv e.a) j rfl <|gJ <|bA u <|gO <|lK (v:=iv e.t) j rfl <|Rg ?_;have I:Value.bool (decide (e.a≤1125899906842624))=.bool (smE e):=by unfold smE;rw[show decide (1≤e.a)=true from decide_eq_true u,Bool.true_and]
  cases C:bG e.t with
  | true =>
   refine qq <|gO <|lK (v:=iv e.t) j rfl <|bw <|lK (v:=iv e.o) j rfl <|aX <|cz <|mh <|lK (v:=kv8 e.k) j rfl <|aO ?_;exact GJ j rfl I (by unfold otE;rw[C,Bool.true_and];rfl) rfl rfl h
  | false =>
   refine nY <|dh <|mh <|lK (v:=kv8 e.k) j rfl <|aO ?_;exact GJ j rfl I (by unfold otE;rw[C,Bool.false_and]) rfl rfl h
 ·refine eB u <|bj u <|gO <|lK (v:=iv e.t) j rfl <|Rg ?_;have I:Value.bool false=.bool (smE e):=by unfold smE;rw[show decide (1≤e.a)=false from decide_eq_false u,Bool.false_and]
  cases C:bG e.t with
  | true =>
   refine qq <|gO <|lK (v:=iv e.t) j rfl <|bw <|lK (v:=iv e.o) j rfl <|aX <|cz <|mh <|lK (v:=kv8 e.k) j rfl <|aO ?_;exact GJ j rfl I (by unfold otE;rw[C,Bool.true_and];rfl) rfl rfl h
  | false =>
   refine nY <|dh <|mh <|lK (v:=kv8 e.k) j rfl <|aO ?_;exact GJ j rfl I (by unfold otE;rw[C,Bool.false_and]) rfl rfl h
theorem ixV {i:Int}(hi:i=(k:Nat))(j:k<6)(h:K (pA b (o+k)) w):aL Q 33 (pA b o) (ci i) K w:=by
 subst hi;exact ew underlying33 (s:=1) kf oo oo (by rw[Int.toNat_natCast,Nat.mul_one];exact h)
theorem zdE {e:EV}(I:blk w b 35 (evC e))(q1:V0=pA b 0)(U:Below w0.heap.size w0 w)(h:∀w',Below w0.heap.size w0 w'→K (.bool (decide (e=ni e)&&fdE e)) w'):jy K ((yA V0 zf)) w:=by
 subst q1;refine Lu <|au (fun x=>blk x b 35 (evC e)) I <|ab (fun x C _=>ldA (n:=14) (vs:=evC e) underlying35 rfl kr C rfl rfl) <|ab (fun x C _=>ldA (n:=14) (vs:=evC e) underlying35 rfl kr C rfl rfl) ?_;refine zeI fun w2 O=>?_;have M:Below w0.heap.size w0 w2:=U.drew.trans (O.mono U.drew.size);have J:blk w2 b 35 (evC e):=ae O I.drew I.drew.lt;refine aC J ?_
 refine ab (v:=.bool (decide (e=ni e))) (fun x C K j=>Hw 3 oo kr kr kr kr fun r Z=>by
  have:r=decide (e=ni e):=by rw[Vm]at Z;exact Bool.eq_iff_iff.2 (Z.trans decide_eq_true_iff.symm)
  rw[this];exact j) ?_
 by_cases u:e=ni e
 ·refine fy (Mf u) (fun x C _=>ldA (n:=14) (vs:=evC e) underlying35 rfl kr C rfl rfl) <|Hv (Mf u) ?_;refine Zs fun w3 b3=>?_;have l3:Below w0.heap.size w0 w3:=M.trans (b3.mono M.size);refine au (fun _=>True) trivial <|ab (fun x C _=>bA u) ?_
  have:=h w3 l3
  rw[show decide (e=ni e)=true from decide_eq_true u,Bool.true_and]at this;exact this
 ·refine qr (SH u) <|zfh (SH u) <|au (fun _=>True) trivial <|ab (fun x C _=>bj u) ?_
  have:=h w2 M
  rw[show decide (e=ni e)=false from decide_eq_false u,Bool.false_and]at this;exact this
theorem WB {e:EV}(h:∀w',Below w.heap.size w w'→K (.bool (bJ e)) w'):call Q 45 #[.agg (evC e).toArray] K w:=by
 refine ak (goK func45) (Oh ?_);refine br fun w1 C b1 s1=>?_;have C:=cZ C
 have C:blk w1.drew w.heap.size 35 (evC e):=C.drew;have b1:Below w.heap.size w w1.drew:=b1.drew;have U:bJ e=false→K (.bool false) w1.drew:=fun Z=>by have:=h _ b1;rw[Z]at this;exact this
 refine ac (fun _=>bw) <|ac (v:=iv e.o) (fun _=>lK C rfl) <|ac (fun _=>Rg) <|ac (fun _=>bK) ?_;cases O:bG e.o with
 | false =>
  refine eA <|ac (fun _=>cz) <|eA <|ac (fun _=>cz) <|eA <|ac (fun _=>cz) <|aT ?_;exact U (by simp[bJ,O])
 | true =>
  refine iZ <|ac (fun _=>gN) <|ac (v:=u6 e.s) (fun _=>lK C rfl) <|ac (fun _=>aK) <|ac (fun _=>dh) ?_;by_cases h1:e.s<1
  ·refine iq h1 <|ac (fun _=>bA h1) <|eA <|ac (fun _=>cz) <|aT ?_;exact U (by simp[bJ,O];omega)
  refine dt h1 <|ac (fun _=>gN) <|ac (v:=u6 e.s) (fun _=>lK C rfl) <|ac (fun _=>bI) <|ac (fun _=>bj h1) ?_;by_cases h2:e.s≥1099511627776
  ·refine iq h2 <|ac (fun _=>bA h2) <|aT ?_;exact U (by simp[bJ,O];omega)
  refine dt h2 ?_;have hi:1≤e.o∧e.o≤6:=by simpa[bG]using O
  obtain⟨k,hk⟩:∃k:Nat,k=(e.o-1).toNat:=⟨_,rfl⟩
  refine ac (fun _=>bw) <|ac (v:=iv e.o) (fun _=>lK C rfl) <|ac (v:=ci ((k:Nat):Int)) (fun K u=>jK (by rw[eU oo oo,show (e.o-1)=(k:Nat)by omega];exact u)) <|ac (fun _=>qn) <|ac (fun _=>ixV rfl oo) <|ac (v:=u6 (e.V.getD k 0)) (fun _=>lK C (Ps oo)) <|ac (fun _=>gN) <|ac (v:=u6 e.s) (fun _=>lK C rfl) <|ac (v:=u6 (e.s-1)) (fun K u=>jK (by rw[eu,show (e.s-1)%18446744073709551616=e.s-1 by omega];exact u)) <|ac (fun _=>aX) <|ac (fun _=>bj h2) ?_
  by_cases M:e.V.getD k 0≠e.s-1
  ·refine ax M ?_;exact U (by simp[bJ,O, ←hk];intro _ _ Z;exact absurd Z M)
  refine ao M ?_;have M:e.V.getD k 0=e.s-1:=by simpa using M
  refine Lt (Inv:=fun i wr=>∃j:Nat,i=ci (j:Nat)∧j≤6∧(∀q,q<j→e.V.getD q 0<1099511627776)∧blk wr w.heap.size 35 (evC e)∧Below w.heap.size w wr) (μ:=fun i _=>6-(intOf i).toNat) ⟨0,rfl,by omega,fun q hq=>by omega,C,b1⟩ ?_;rintro _ dd w2 m ⟨j,rfl,aa,I,J,l2⟩ hm;have U:bJ e=false→K (.bool false) w2:=fun Z=>by have:=h _ l2;rw[Z]at this;exact this
  refine aK ?_;by_cases hj:j<6
  ·refine ax oo <|qn <|ixV rfl hj <|lK (v:=u6 (e.V.getD j 0)) J (Ps hj) <|bI ?_;by_cases h4:e.V.getD j 0≥1099511627776
   ·refine ax h4 <|U ?_
    have:(List.range 6).all (fun k=>decide (e.V.getD k 0<1099511627776))=false:=by
     rw[List.all_eq_false];exact⟨j,by simpa using hj,by simp;simpa using h4⟩
    unfold bJ;rw[this];simp
   refine ao h4 <|aM oo oo ?_;refine⟨⟨j+1,by simp,by omega,fun q hq=>?_,J,l2⟩,?_⟩
   ·by_cases ad:q<j
    ·exact I q ad
    ·have:q=j:=by omega
     subst this;omega
   ·rw[hm];simp only[intOf];omega
  refine ao oo ?_;have aa:j=6:=by omega
  subst aa;refine zdE J rfl l2 fun w3 l3=>?_
  have:=h w3 l3
  have e1:(List.range 6).all (fun k=>decide (e.V.getD k 0<1099511627776))=true:=by
   rw[List.all_eq_true];exact fun q hq=>by simpa using I q (by simpa using hq)
  unfold bJ at this;rw[O,e1, ←hk,M,show decide (1≤e.s)=true from decide_eq_true oo,show decide (e.s<1099511627776)=true from decide_eq_true oo]at this;simpa using this
theorem zch {e:EV}(hb:blk w b 35 (evC e))(hf:blk w f 269 (evC e))(Z:b≠f)(hn:w0.heap.size≤f)(q1:V0=pA b 0)(q3:W0=pA f 0)(J:Below w0.heap.size w0 w)(h:∀w',Below w0.heap.size w0 w'→K (.bool (decide (e=ni e)&&fdE e)) w'):sZ K ((EG V0 W0 zf)) w:=by
 subst q1;subst q3;refine QH ?_;refine au (fun _=>True) trivial (zbH hf.drew fun w2 O h2 C hw=>?_);have C:Oth f w w2:=⟨C.os,C.tape,C.output,C.size,C.other⟩
 have U:blk w2 b 35 (evC e):=by unfold blk;rw[C.other b Z];exact hb
 have l2:Below w0.heap.size w0 w2:=⟨C.os.trans J.os,C.tape.trans J.tape,C.output.trans J.output,by rw[C.size];exact J.size,fun k I=>(C.other k oo).trans (J.block k I)⟩
 have M:=h w2 l2;refine au (fun x=>blk x b 35 (evC e)∧blk x f 269 (evC O)) ⟨U,h2⟩ ?_;cases I:fdE e with
 | true =>
  have he:O=Ah e:=hw I;rw[I,Bool.and_true]at M
  refine fy rfl (fun x u K j=>j) <|fy rfl (fun x u _=>aj) <|fy rfl (fun x u _=>kw) <|fy rfl (fun x u _=>ldA (n:=14) (vs:=evC O) underlying35 rfl kr u.2 rfl rfl) <|fy rfl (fun x u _=>bw) <|fy rfl (fun x u _=>lK (v:=iv e.o) u.1 rfl) <|fy rfl (fun x u _=>gN) <|fy rfl (fun x u _=>lK (v:=u6 e.s) u.1 rfl) <|fy rfl (fun x u _=>qn) <|fy rfl (fun x u _=>ldA (n:=6) (vs:=[u6 e.d0,u6 e.d1,u6 e.d2,u6 e.d3,u6 e.d4,u6 e.d5]) underlying33 rfl kr u.1 rfl rfl) <|fy rfl (fun x u _=>mh) <|fy rfl (fun x u _=>lK (v:=kv8 e.k) u.1 rfl) <|fy rfl (fun x u _=>dl (vs:=evC (Wj e)) kr) ?_
  refine fy (x:=.bool (decide (e=ni e))) rfl (fun x u K j=>Hw 3 oo kr kr kr kr fun r hr=>by
   have:r=decide (e=ni e):=by rw[Vm,he,zaM]at hr;exact Bool.eq_iff_iff.2 (hr.trans decide_eq_true_iff.symm)
   rw[this];exact j) ?_
  exact ab (fun x u _=>cz) M
 | false =>
  rw[I,Bool.and_false]at M;have nt:asB (.bool false)≠some true:=by simp[asB]
  iterate 14 refine qr nt ?_
  exact ab (fun x u _=>dh) M
theorem Cs {e:EV}(h:∀w',Below w.heap.size w w'→K (.bool (bJ e)) w'):call Q 106 #[.agg (evC e).toArray] K w:=by
 refine ak (goK func106) (Tb ?_);refine br fun J u b1 s1=>?_;have u:=cZ u
 have u:blk J.drew w.heap.size 35 (evC e):=u.drew;have b1:Below w.heap.size w J.drew:=b1.drew;have O:bJ e=false→K (.bool false) J.drew:=fun hh=>by have:=h _ b1;rw[hh]at this;exact this
 refine ac (fun _=>bw) <|ac (v:=iv e.o) (fun _=>lK u rfl) <|ac (fun _=>Xy) <|ac (fun _=>bK) ?_;cases I:bG e.o with
 | false =>
  refine eA <|ac (fun _=>cz) <|eA <|ac (fun _=>cz) <|eA <|ac (fun _=>cz) <|aT ?_;exact O (by simp[bJ,I])
 | true =>
  refine iZ <|ac (fun _=>gN) <|ac (v:=u6 e.s) (fun _=>lK u rfl) <|ac (fun _=>aK) <|ac (fun _=>dh) ?_;by_cases U:e.s<1
  ·refine iq U <|ac (fun _=>bA U) <|eA <|ac (fun _=>cz) <|aT ?_;exact O (by simp[bJ,I];omega)
  refine dt U <|ac (fun _=>gN) <|ac (v:=u6 e.s) (fun _=>lK u rfl) <|ac (fun _=>bI) <|ac (fun _=>bj U) ?_;by_cases Z:e.s≥1099511627776
  ·refine iq Z <|ac (fun _=>bA Z) <|aT ?_;exact O (by simp[bJ,I];omega)
  refine dt Z ?_;have hi:1≤e.o∧e.o≤6:=by simpa[bG]using I
  obtain⟨k,hk⟩:∃k:Nat,k=(e.o-1).toNat:=⟨_,rfl⟩
  refine ac (fun _=>bw) <|ac (v:=iv e.o) (fun _=>lK u rfl) <|ac (v:=ci ((k:Nat):Int)) (fun K j=>jK (by rw[eU oo oo,show (e.o-1)=(k:Nat)by omega];exact j)) <|ac (fun _=>qn) <|ac (fun _=>ixV rfl oo) <|ac (v:=u6 (e.V.getD k 0)) (fun _=>lK u (Ps oo)) <|ac (fun _=>gN) <|ac (v:=u6 e.s) (fun _=>lK u rfl) <|ac (v:=u6 (e.s-1)) (fun K j=>jK (by rw[eu,show (e.s-1)%18446744073709551616=e.s-1 by omega];exact j)) <|ac (fun _=>aX) <|ac (fun _=>bj Z) ?_
  by_cases C:e.V.getD k 0≠e.s-1
  ·refine ax C ?_;exact O (by simp[bJ,I, ←hk];intro _ _ hh;exact absurd hh C)
  refine ao C ?_;have C:e.V.getD k 0=e.s-1:=by simpa using C
  refine qn (YC underlying33 (s:=1) kf (ze3 (V:=e.V) u (fun q M=>Ps M) fun m aa hx=>bI ?_));by_cases h4:m≥1099511627776
  ·refine ax h4 <|O ?_;obtain⟨q,M,rfl⟩:=hx
   have:(List.range 6).all (fun k=>decide (e.V.getD k 0<1099511627776))=false:=by
    rw[List.all_eq_false];exact⟨q,by simpa using M,by simp;simpa using h4⟩
   unfold bJ;rw[this];simp
  refine ao h4 <|ldA (n:=14) (vs:=evC e) underlying35 rfl kr u rfl rfl <|dl (vs:=evC e) kr ?_;refine br fun w2 hf b2 s2=>?_;have hf:=cZ hf
  have ad:w.heap.size<J.drew.heap.size:=u.lt;refine zch (ae b2 u u.lt) hf oo oo rfl rfl (b1.trans (b2.mono b1.size)) fun w3 l3=>?_
  have:=h w3 l3
  have e1:(List.range 6).all (fun k=>decide (e.V.getD k 0<1099511627776))=true:=by
   rw[List.all_eq_true];exact fun q M=>by have:=aa q (by simpa using M);simpa using (by omega:e.V.getD q 0<1099511627776)
  unfold bJ at this;rw[I,e1, ←hk,C,show decide (1≤e.s)=true from decide_eq_true oo,show decide (e.s<1099511627776)=true from decide_eq_true oo]at this;simpa using this
end
end
section
open Go.RowKit
theorem P7 (h:bT .geq 3 V0 (ci 1) (fun t4 w=>aG t4 true (fun u=>bT .leq 3 V0 (ci 6) (fun t7=>u [V0,t7]) w) (fun k=>k [uu,uu] w) fun j=>pick t4 (gd j 1) cF K) w):Gives Q 227 #[V0] w K:=by
 refine aq func227 kr ?_;exact mpK h
def Ip (of0 v2 t4:Value)(zf:Nat→Value):List Value:=of0::zf 1::v2::zf 3::t4::zT zf 5 9 ([])
def Iq (v2:Value)(zf:Nat→Value):List Value:=zf 0::zf 1::v2::zT zf 3 11 ([])
def mD (K:KV):KE:=kZ f155 [1,1] K
def xc (K:KV):KE:=ah Q (cd f155 [1,0,1,0]) (mD K) (xx xf (mD K) 0) (rk f155 K)
section
variable {K:KV}{of0 v2 t4:Value}{zf:Nat→Value}{w:World}
theorem RH (h:alc Q 33 (fun v2=>xc K (Ip V0 v2 (ci 0) zu)) w):Gives Q 155 #[V0] w K:=by
 refine aq func155 kr ?_;revert h;delta xc mD;exact mpF
theorem OX (Inv:Value→World→Prop)(μ:Value→World→Nat)(U:Inv t4 w)(Z:∀(j:Value) (O:Nat→Value) (w:World) (m:Nat),Inv j w→m=μ j w →
  bT .lss 3 j (ci 6) (fun M w=>cond M (aZ Q of0 #[j] (fun I=>aL Q 33 v2 j fun J=>sto Q 31 J I fun _=>nC j fun u w=>(Inv u w)∧((μ u w)<m)) w) (mD K (Iq v2 (zV (zV O 0 [of0]) 4 [j,M])) w)) w):xc K (Ip of0 v2 t4 zf) w:=by
 refine aI (cd f155 (b1 52)) (zr [(3,10)]) kr (vP [4] Inv) (vQ [4] μ) U ?_;intro e' w' hI;have h:=Z _ (zM zf (gd e') (zr [(3,10)])) w' _ hI rfl;revert h;generalize (mD K)=qc0;exact mpF
theorem OY (h:ld Q 33 v2 (fun t13=>sto Q 33 v2 t13 fun _=>aV Q [(some 33,v2)] K) w):mD K (Iq v2 zf) w:=by
 delta mD;exact mpK h
end
attribute [irreducible] mD xc
def Ir (choose3 t4 out5 t16 t17 t18:Value)(zf:Nat→Value):List Value:=zT zf 0 3 (choose3::t4::out5::zT zf 6 10 (t16::t17::t18::zT zf 19 7 ([])))
def Is (t4 out5:Value)(zf:Nat→Value):List Value:=zT zf 0 4 (t4::out5::zT zf 6 20 ([]))
def mE (K:KV):KE:=kZ f166 [1,1,1,1] K
def xd (K:KV):KE:=ah Q (cd f166 (b1 122)) (mE K) (xx xf (mE K) 0) (rk f166 K)
theorem RJ (h:box Q 279 I1 (fun V0=>alc Q 33 fun W0=>lN 277 H1 fun C=>bT .eql 3 C (ci 0) fun j w=>cond j (bld Q 33 #[] (fun u=>sto Q 33 W0 u fun _=>aV Q [(some 33,W0)] K) w) (aL Q 277 H1 (ci 0) (fun t13=>ld Q 33 t13 fun t14=>alc Q 33 fun X0=>sto Q 33 X0 t14 fun _=>slc Q 277 H1 (some (ci 1)) none none fun Y0=>lN 277 Y0 fun Z0=>xd K (Ir V0 W0 X0 Y0 Z0 (ci 0) (zV (zV (zV zu 0 [H1,I1]) 8 [H1,C,j]) 12 [H1,t13,t14,H1]))) w)) w):Gives Q 166 #[H1,I1] w K:=by
 refine aq func166 kr ?_;revert h;delta xd mE;exact mpF
theorem P5 (Inv:Value→World→Prop)(μ:Value→World→Nat)(Z:Inv H1 w)(hs:∀(j:Value) (U:Nat→Value) (w:World) (m:Nat),Inv j w→m=μ j w →
  lS j Z0 (fun u w=>cond u (aL Q 277 Y0 j (fun I=>ld Q 33 I fun J=>alc Q 33 fun O=>sto Q 33 O J fun _=>call Q 155 #[.func (.func 201) #[] #[V0,X0,O]] fun M=>sto Q 33 X0 M fun _=>nC j fun t24 w=>(Inv t24 w)∧((μ t24 w)<m)) w) (mE K (Is W0 X0 (zV (zV U 3 [V0]) 16 [Y0,Z0,j,u])) w)) w):xd K (Ir V0 W0 X0 Y0 Z0 H1 zf) w:=by
 refine aI (cd f166 (b1 244)) (zr [(7,1),(18,7)]) kr (vP [18] Inv) (vQ [18] μ) Z ?_;intro e' w' hI;have h:=hs _ (zM zf (gd e') (zr [(7,1),(18,7)])) w' _ hI rfl;revert h;generalize (mE K)=qc0;exact mpF
theorem P6 (h:ld Q 33 X0 (fun j=>sto Q 33 W0 j fun _=>aV Q [(some 33,W0)] K) w):mE K (Is W0 X0 zf) w:=by
 delta mE;exact mpK h
attribute [irreducible] mE xd
theorem OZ (h:aE (fun S w=>hL S 279 W0 fun C=>hI S 33 X0 V0 fun I=>hL S 31 I fun J=>hI S 33 Y0 V0 fun j=>hL S 31 j fun u=>aZ Q C #[J,u] (fun t13=>aE fun _=>K t13) w) w.drew):Gives Q 201 #[V0,W0,X0,Y0] w K:=by
 refine aq func201 kr ?_;exact mpK h
theorem RD (h:alc Q 33 (fun t2=>call Q 166 #[V0,.func (.func 167) #[] #[]] fun t4=>sto Q 33 t2 t4 fun _=>aV Q [(some 33,t2)] K) w):Gives Q 114 #[V0] w K:=by
 refine aq func114 kr ?_;exact mpK h
theorem OS (h:blt Q .max #[31,31] 31 #[false,false] #[V0,W0] K w):Gives Q 167 #[V0,W0] w K:=by
 refine aq func167 kr ?_;exact mpK h
theorem RE (h:box Q 33 V0 (fun a2=>box Q 33 W0 fun u w=>aE (fun S w=>hL S 33 a2 fun C=>hL S 33 u fun I=>hL S 33 u fun M=>bg Q 277 2 #[(0,C),(1,I)] (fun t7=>aU S fun S=>call Q 114 #[t7] fun J=>aU S fun S w=>hld S (bF .eql 33 J M) fun j=>K j w) w) w.drew) w):Gives Q 163 #[V0,W0] w K:=by
 refine aq func163 kr ?_;exact mpK h
theorem SE (h:box Q 33 V0 (fun v3=>call Q 227 #[W0] fun t8 w=>aG t8 true (fun M=>bT .gtr 31 X0 (cu 0) (fun U=>M [X0,U]) w) (fun k=>k [uu,uu] w) fun I=>pick t8 (gd I 1) cF fun j w=>aG j true (fun O=>bT .sub 3 W0 (ci 1) (fun t15=>aL Q 33 v3 t15 fun u=>ld Q 31 u fun C=>bF .geq 31 C X0 fun Z=>O [W0,t15,u,C,X0,Z]) w) (fun k=>k [uu,uu,uu,uu,uu,uu] w) fun J=>pick j (gd J 5) cF K) w):Gives Q 200 #[V0,W0,X0] w K:=by
 refine aq func200 kr ?_;exact mpK h
theorem Sx (h:box Q 33 V0 (fun j=>box Q 35 W0 fun J=>ld Q 35 J fun t5=>call Q 106 #[t5] fun O w=>aG O true (fun k8=>ld Q 33 j (fun U=>ai Q 35 J 0 fun Z=>ld Q 3 Z fun u=>ai Q 35 J 1 fun C=>ld Q 31 C fun I=>call Q 200 #[U,u,I] fun t13=>k8 [U,Z,u,C,I,t13]) w) (fun k=>k [uu,uu,uu,uu,uu,uu] w) fun M=>pick O (gd M 5) cF K) w):Gives Q 161 #[V0,W0] w K:=by
 refine aq func161 kr ?_;exact mpK h
theorem Rc (h:box Q 33 V0 (fun j=>box Q 35 W0 fun I w=>aE (fun S w=>hL S 35 I fun t5=>call Q 106 #[t5] (fun C=>aE fun S w=>hG C true S (ai Q 35 I 0) fun t8=>hG C true S (ld Q 3 t8) fun t9=>hG C true S (bT .sub 3 t9 (ci 1)) fun J=>hG C true S (aL Q 33 j J) fun M=>hG C true S (ld Q 31 M) fun O=>hG C true S (ai Q 35 I 1) fun t13=>hG C true S (ld Q 31 t13) fun t14=>hG C true S (bT .sub 31 t14 (cu 1)) fun t15=>hG C true S (bF .eql 31 O t15) fun U=>hld S (pick C U cF) fun u=>hG u true S (ai Q 35 I 2) fun Z=>hG u true S (ld Q 33 Z) fun aa=>hG u true S (ld Q 33 j) fun ad=>xG u true (call Q 163 #[aa,ad]) (fun af=>aE fun S w=>hld S (pick u af cF) fun ag=>K ag w) w) w) w.drew) w):Gives Q 162 #[V0,W0] w K:=by
 refine aq func162 kr ?_;exact mpK h
end
section
open Go.RowKit
def vCs (V:List Int):List Value:=V.map u6
def leV (V W:List Int):Bool:=(List.range 6).all fun k=>decide (V.getD k 0≤W.getD k 0)
theorem bo {V:List Int}:(vCs V).length=V.length:=by simp[vCs]
theorem yY {V:List Int}(h:V.length=6)(j:k<6):(vCs V)[k]? = some (u6 (V.getD k 0)):=by
 have:k<V.length:=by omega
 simp[vCs,List.getD,gE this]
theorem zcI {V W:List Int}:vCs V=vCs W↔V=W:=by
 constructor
 ·intro h
  have:=congrArg (List.map intOf) h
  simpa[vCs,u6,intOf,Function.comp_def]using this
 ·rintro rfl;rfl
theorem MH {V:List Int}:∀v∈vCs V,v.oneCell'=true:=by
 intro v h;obtain⟨x,_,rfl⟩:=List.mem_map.1 h;rfl
theorem aR (h:Below n w w')(o:Oth b w' w0)(u:n≤b):Below n w w0 :=
 ⟨o.os.trans h.os,o.tape.trans h.tape,o.output.trans h.output,by rw[o.size];exact h.size,fun k j=>(o.other k oo).trans (h.block k j)⟩
theorem Ut {V:List Int}(h:V.length=6):∃a b c d e f,V=[a,b,c,d,e,f]:=by
 match V,h with
 | [a,b,c,d,e,f],_=>exact⟨a,b,c,d,e,f,rfl⟩
theorem zeU {q:Nat}(C:P.underlying t=some (.slice e))(u:∀w,(sizeOf e).run P w=.ok s w){k:IntKind}(J:q≤n)(I:n≤c)(h:K (.slice (if c=q then av else av.map (·.add (q*s))) (n-q) (c-q)) w):slc P t (.slice av n c) (some (.int k (q:Int))) none none K w:=by
 have j:(Instr.sliceBounds true n c (some (.int k (q:Int))) none none).run P w=.ok (q,n,c) w:=by
  have:=run_sliceBound (P:=P) w k (q:Int) n .sliceB oo oo
  simp[Instr.sliceBounds]at this ⊢;rw[this];simp
 unfold slc;refine ey (w':=w) ?_ h;simp only[Instr.sliceAt,Instr.slice,Sem.run_bind,Sem.run_pure,Result.andThen_ok,run_underlying C,u,j]
attribute [local irreducible] bin un conv call aZ blt slc ai fld aL idx lkp cP eP eSt rng nxt ent ext alc box bld bg ld sto aJ cr mkS ifc pick rdy wts aG sti cond aV Gives ah dy dP cOp
theorem Wc {o:Int}(h:K (.bool (bG o)) w):call Q 227 #[iv o] K w:=by
 refine ak (goK func227) (P7 (bI ?_));unfold bG at h;by_cases j:o≥1
 ·rw[show decide (1≤o)=true from decide_eq_true j,Bool.true_and]at h;exact cU j (gJ (bA j h))
 ·rw[show decide (1≤o)=false from decide_eq_false j,Bool.false_and]at h;exact eB j (bj j h)
theorem zeb {V:List Int}{o s:Int}(I:V.length=6)(h:∀w',Below w.heap.size w w'→K (.bool (bG o&&(decide (s>0)&&decide (V.getD (o-1).toNat 0≥s)))) w'):call Q 200 #[.agg (vCs V).toArray,iv o,u6 s] K w:=by
 refine ak (goK func200) (SE ?_);refine br fun M u b1 O=>?_;have u:blk M w.heap.size 33 (vCs V):=by obtain⟨_,_,_,_,_,_,rfl⟩:=Ut I;simpa[Value.cells,vCs,u6]using u
 have h:=h _ b1;refine Wc ?_;cases C:bG o with
 | false =>
  rw[C,Bool.false_and]at h;exact nY (dh (nY (dh h)))
 | true =>
  rw[C,Bool.true_and]at h;refine qq (bO (cz ?_));by_cases j:s>0
  ·rw[show decide (s>0)=true from decide_eq_true j,Bool.true_and]at h;have hi:1≤o∧o≤6:=by simpa[bG]using C
   obtain⟨k,J⟩:∃k:Nat,k=(o-1).toNat:=⟨_,rfl⟩
   rw[←J]at h;refine cU j (jK (by
    rw[eU oo oo,show (o-1)=(k:Nat)by omega];exact ixV rfl oo (by rw[Nat.zero_add];exact lK (v:=u6 (V.getD k 0)) u (yY I oo) (bI (bA j h)))))
  ·rw[show decide (s>0)=false from decide_eq_false j,Bool.false_and]at h;exact eB j (bj j h)
theorem RC {G:List Int}(hG:G.length=6)(hf:∀k,k<6→∀M,Below w.heap.size w M→∀K':KV,(∀w2,Below M.heap.size M w2→K' (u6 (G.getD k 0)) w2)→aZ Q V0 #[iv (k:Nat)] K' M)(h:∀w',Below w.heap.size w w'→K (.agg (vCs G).toArray) w'):call Q 155 #[V0] K w:=by
 refine ak (goK func155) (RH ?_);refine df (z:=.agg #[u6 0,u6 0,u6 0,u6 0,u6 0,u6 0]) kr fun M Z b1 s1=>?_;have Z:blk M w.heap.size 33 [u6 0,u6 0,u6 0,u6 0,u6 0,u6 0]:=by simpa[Value.cells,u6]using Z
 refine OX (Inv:=fun i wr=>∃(k:Nat) (cs:List Value),i=iv (k:Nat)∧k≤6∧cs.length=6∧(∀j,j<k→cs[j]? = some (u6 (G.getD j 0)))∧blk wr w.heap.size 33 cs∧Below w.heap.size w wr) (μ:=fun i _=>6-(intOf i).toNat)
  ⟨0,_,rfl,by omega,rfl,fun j O=>by omega,Z,b1⟩ ?_
 rintro _ dd w2 m ⟨k,cs,rfl,hk,hl,J,C,U⟩ hm;refine aK ?_;by_cases I:k<6
 ·refine ax oo (hf k I w2 U _ fun w3 b3=>?_);have u:=ae b3 C C.lt;refine ixV rfl I (by
   rw[Nat.zero_add];refine cB kf u oo rfl fun w4 aa o4=>aM oo oo ?_;refine⟨⟨k+1,_,ivS,by omega,by rw[List.length_set];exact hl,fun j O=>?_,aa,aR (U.trans (b3.mono U.size)) o4 oA⟩,by rw[hm];show 6-((k:Int)+1).toNat<6-(k:Int).toNat;omega⟩;by_cases e:j=k
   ·subst e;rw[List.getElem?_set_self oo]
   ·rw[List.getElem?_set_ne oo];exact J j oo)
 ·refine ao oo (OY ?_);have I:k=6:=by omega
  subst I;have ec:cs=vCs G:=by
   refine List.ext_getElem? fun j=>?_;by_cases O:j<6
   ·rw[J j O,yY hG O]
   ·rw[List.getElem?_eq_none oo,List.getElem?_eq_none (by rw[bo];omega)]
  subst ec;have hv:((vCs G).drop 0).take 6=vCs G:=by rw[List.drop_zero,tL oo]
  refine ldA (n:=6) (vs:=vCs G) underlying33 rfl kr C hv oo ?_;refine ip (n:=6) kr oo C oo MH fun w3 u o3=>?_;have u:blk w3 w.heap.size 33 (vCs G):=by
   have e:(vCs G).take 0++vCs G++(vCs G).drop (0+6)=vCs G:=by rw[List.take_zero,List.nil_append,List.drop_of_length_le oo,List.append_nil]
   rwa[e]at u
  exact Cx (v:=.agg (vCs G).toArray) (fun _=>ldA (n:=6) (vs:=vCs G) underlying33 rfl kr u hv oo) (h _ (aR U o3 oA))
def jV (A B:List Int):List Int:=(List.range 6).map fun k=>if A.getD k 0<B.getD k 0 then B.getD k 0 else A.getD k 0
theorem qu {B:List Int}:(jV A B).length=6:=by simp[jV]
theorem TE {B:List Int}(h:k<6):(jV A B).getD k 0=if A.getD k 0<B.getD k 0 then B.getD k 0 else A.getD k 0:=by
 unfold jV;rw[List.getD_eq_getElem?_getD,List.getElem?_map,List.getElem?_range h];rfl
theorem zey {B:List Int}(J:B.length=6):jV A B=B↔leV A B=true:=by
 unfold leV;rw[List.all_eq_true];constructor
 ·intro h k j;have j:k<6:=by simpa using j
  have:=TE (A:=A) (B:=B) j
  rw[h]at this;rw[decide_eq_true_eq];split at this<;>omega
 ·intro h;refine List.ext_getElem? fun k=>?_;by_cases j:k<6
  ·have C:=TE (A:=A) (B:=B) j;have I:=h k (by simpa using j);rw[decide_eq_true_eq]at I;have e1:(jV A B).getD k 0=(jV A B)[k]'(by rw[qu];exact j):=by rw[List.getD_eq_getElem?_getD,gE (by rw[qu];exact j)];rfl
   have u:B.getD k 0=B[k]'oo:=by rw[List.getD_eq_getElem?_getD,gE oo];rfl
   rw[gE (by rw[qu];exact j),gE oo, ←e1, ←u,C]
   congr 1
   split<;>omega
  ·rw[List.getElem?_eq_none (by rw[qu];omega),List.getElem?_eq_none oo]
theorem pM {V:List Int}(h:V.length=6):(Value.agg (vCs V).toArray).cells.toList=vCs V:=by
 obtain⟨_,_,_,_,_,_,rfl⟩:=Ut h;simp[Value.cells,vCs,u6]
theorem yf {V:List Int}(j:V.length=6)(h:∀w',blk w' w.heap.size 33 (vCs V)→Below w.heap.size w w'→w'.heap.size=w.heap.size+1→K (pA w.heap.size 0) w'):box Q 33 (.agg (vCs V).toArray) K w :=
 br fun w' u b s=>h w' (by rwa[pM j]at u) b s
theorem Il (h:∀w',blk w' w.heap.size 33 (vCs [0,0,0,0,0,0])→Below w.heap.size w w'→w'.heap.size=w.heap.size+1→K (pA w.heap.size 0) w'):alc Q 33 K w :=
 df (z:=.agg #[u6 0,u6 0,u6 0,u6 0,u6 0,u6 0]) kr fun w' j b s=>h w' (by simpa[Value.cells,vCs,u6]using j) b s
theorem sa {V:List Int}(u:V.length=6)(j:blk w b 33 (vCs V))(h:K (.agg (vCs V).toArray) w):ld Q 33 (pA b 0) K w :=
 ldA (n:=6) (vs:=vCs V) underlying33 rfl kr j (by rw[List.drop_zero,tL (by rw[bo];omega)]) (by rw[bo];omega) h
theorem G8 {V W:List Int}(I:V.length=6)(u:W.length=6)(C:blk w b 33 (vCs V))(h:∀w',blk w' b 33 (vCs W)→Oth b w w'→K undef w'):sto Q 33 (pA b 0) (.agg (vCs W).toArray) K w:=by
 have J:=bo (V:=V);refine ip (n:=6) kr (by rw[bo,u]) C oo MH fun w' j o=>h w' ?_ o;have e:(vCs V).take 0++vCs W++(vCs V).drop (0+6)=vCs W:=by rw[List.take_zero,List.nil_append,List.drop_of_length_le oo,List.append_nil]
 rwa[e]at j
theorem zbU {y:Int}(h:K (u6 (if x<y then y else x)) w):call Q 167 #[u6 x,u6 y] K w :=
 ak (goK func167) (OS (zb5 h))
theorem zbJ {a:Nat}{B:List Int}(I:A.length=6)(J:B.length=6)(C:k<6)(U:blk w c E [.func (.func 167) #[] #[]])(M:blk w a 33 (vCs A))(O:blk w b 33 (vCs B))(h:K (u6 ((jV A B).getD k 0)) w.drew):call Q 201 #[iv (k:Nat),pA c 0,pA a 0,pA b 0] K w:=by
 refine ak (goK func201) (OZ ?_)
 refine au (fun x=>blk x c E [.func (.func 167) #[] #[]]∧blk x a 33 (vCs A)∧blk x b 33 (vCs B)) ⟨U.drew,M.drew,O.drew⟩ <|ab (v:=.func (.func 167) #[] #[]) (fun x u _=>lK u.1 rfl) <|ab (fun x u _=>ixV rfl C) <|ab (v:=u6 (A.getD k 0)) (fun x u _=>lK u.2.1 (by rw[Nat.zero_add];exact yY I C)) <|ab (fun x u _=>ixV rfl C) <|ab (v:=u6 (B.getD k 0)) (fun x u _=>lK u.2.2 (by rw[Nat.zero_add];exact yY J C)) ?_
 refine dn rfl (zbU (au (fun _=>True) trivial ?_));rwa[TE C]at h
end
section
attribute [local irreducible] bin un conv call aZ blt slc ai fld aL idx lkp cP eP eSt rng nxt ent ext alc box bld bg ld sto aJ cr mkS ifc pick rdy wts aG sti cond aV Gives ah dy dP cOp
section
open Go.RowKit
def mB (A:List Int)(x:Int)(is:Bool)(E:Int)(q:Nat):List Int×Int :=
 if jn A=false∨x<1∨MXA<x then (z54,1)else if is=false then (z54,10)else if E≠0 then (z54,E)else vk A q x
theorem B8 {q:Nat}{E:Int}(j:A.length=54)(hq:q<54)(U:jn A=true→1≤x→x≤MXA→cx=true→∀C,Below w.heap.size w C→∀K':KV,(∀w2,Below C.heap.size C w2→K' (ci E) w2)→aZ Q V0 #[] K' C)(Z:cx=true→∀C b,Below w.heap.size w C→∀K':KV,K' (pA b q) C.drew→aZ Q W0 #[pA b 0] K' C)(h:∀w',Below w.heap.size w w'→K (.tuple #[.agg ((mB A x cx E q).1.map iv).toArray,ci (mB A x cx E q).2]) w'):call Q 322 #[.agg (A.map iv).toArray,ci x,.bool cx,V0,W0] K w:=by
 refine ak (goK func322) (OM ?_);refine RV3.make j fun C g1 s1=>?_;have M:((A.map iv).drop 0).take 54=A.map iv:=by rw[List.drop_zero,tL (by simp[j])]
 refine ldA (n:=54) (vs:=A.map iv) underlying77 rfl kr g1.r M (by simp[j]) ?_;refine Ys j fun w2 b2=>bK (LT ?_);have J:=g1.fresh b2;unfold mB at h;have hM:MXA=1125899906842624:=rfl;rw[XV];cases hm:jn A with
 | false =>
  rw[if_pos (.inl hm)]at h;exact aT (wo (aT (J.no h)))
 | true =>
  have hn:=AY hm;refine aF (aK ?_);by_cases h1:x<1
  ·rw[if_pos (.inr (.inl h1))]at h;exact ax h1 (wo (ax h1 (J.no h)))
  refine ao h1 (bO (wo ?_));by_cases h2:1125899906842624<x
  ·rw[if_pos (.inr (.inr h2))]at h;exact ax h2 (J.no h)
  refine ao h2 (bK ?_);rw[if_neg (by rw[hm];simp;omega)]at h;cases cx with
  | false =>
   rw[if_pos rfl]at h;exact aT (J.no h)
  | true =>
   rw[if_neg sm]at h;refine aF (LU (U hm oo oo rfl w2 J.bel _ fun w3 b3=>aX ?_));have I:=J.fresh b3;by_cases hE:E≠0
   ·rw[if_pos hE]at h;exact ax hE (I.no h)
   refine ao hE (Z rfl w3 _ I.bel _ ?_);rw[if_neg hE]at h;have I:=I.drew;have hb:=hn q hq;unfold vk at h;rw[hM]at hb h;refine aj (lK (v:=iv (nA A q)) I.r (ti oo) (aM oo oo (aj (cB kf I.r (by simp[j];exact hq) rfl fun w4 h4 o4=>?_))));have e:(A.map iv).set q (ci (nA A q+x))=(A.set q (nA A q+x)).map iv:=by rw[List.map_set];rfl
   rw[e]at h4;have g4:RV3 w w4 (A.set q (nA A q+x)):=⟨h4,o4.blk I.t oo,bE I.bel o4 oA⟩
   have l4:(A.set q (nA A q+x)).length=54:=by simp[j]
   refine aj (lK (v:=iv (nA A q+x)) h4 (by
    rw[ti oo];simp[nA,List.getD,j,hq]) (bO ?_))
   by_cases u:1125899906842624<nA A q+x
   ·rw[if_pos u]at h;exact ax u (g4.no h)
   rw[if_neg u]at h;refine ao u ?_;have O:(((A.set q (nA A q+x)).map iv).drop 0).take 54=(A.set q (nA A q+x)).map iv:=by rw[List.drop_zero,tL (by simp[j])]
   refine ldA (n:=54) (vs:=(A.set q (nA A q+x)).map iv) underlying77 rfl kr h4 O (by simp[j]) ?_;exact Ul (N:=54) underlying77 rfl kr g4.t rfl (by simp[j]) (zX _) fun w' o=>h w' (bE g4.bel o oo)
theorem Rf {b:Bool}{E:Int}(h:K (ci (if b=true then E else 0)) w):call Q 324 #[.bool b,ci E] K w:=by
 refine ak (goK func324) (Ro ?_);cases b with
 | true=>exact aT h
 | false=>exact aF h
theorem TQ (h:k<6)(j:jn A=true):QS A k=gQ A k:=by rw[ZD A h,j]
theorem W7 {i:Int}:mf A i x=mB A x (bG i) (if gQ A (i-1).toNat<x then 11 else 0) (6+(i-1).toNat):=by
 unfold mf mB sq;generalize (i-1).toNat=k;by_cases h:jn A=false∨x<1∨MXA<x
 ·simp only[if_pos h];simp
 ·simp only[if_neg h];cases bG i with
  | false=>simp
  | true =>
   by_cases j:gQ A k<x
   ·simp[j]
   ·simp[j]
theorem Vo {i:Int}:mc A i x=mB A x (bG i) (if nA A (6+(i-1).toNat)-nA A (12+(i-1).toNat)<x then 12 else 0) (12+(i-1).toNat):=by
 unfold mc mB sq;obtain⟨k,C⟩:∃k:Nat,k=(i-1).toNat:=⟨_,rfl⟩
 rw[←C];by_cases h:jn A=false∨x<1∨MXA<x
 ·simp only[if_pos h];simp
 ·simp only[if_neg h];cases M:bG i with
  | false=>simp
  | true =>
   by_cases j:nA A (6+k)-nA A (12+k)<x
   ·simp[j]
   ·have I:jn A=true:=by cases J:jn A with|true=>rfl|false=>exact absurd (.inl J) h
    have hi:1≤i∧i≤6:=by simpa[bG]using M
    have:=AY I (6+k) oo
    have u : ¬MXA<nA A (12+k)+x:=by omega
    unfold vk;rw[if_neg u];simp[j]
theorem VJ {i j:Int}:mX A i j x=mB A x (bG i&&bG j) (if i=j then 1 else if gQ A (i-1).toNat<x then 11 else 0) (18+6*(i-1).toNat+(j-1).toNat):=by
 unfold mX mB sq;generalize (i-1).toNat=k;generalize (j-1).toNat=m;by_cases u:jn A=false∨x<1∨MXA<x
 ·simp only[if_pos u];simp
 ·simp only[if_neg u];cases bG i with
  | false=>simp
  | true =>
   cases bG j with
   | false=>simp
   | true =>
    by_cases h:i=j
    ·simp[h]
    ·by_cases C:gQ A k<x
     ·simp[C,h]
     ·simp[C,h]
theorem Id (A:List Int)(x:Int)(j:Bool)(E:Int)(q:Nat)(h:A.length=54):(mB A x j E q).1.length=54:=by
 unfold mB vk;split
 ·rfl
 split
 ·rfl
 split
 ·rfl
 split
 ·rfl
 ·simp[h]
section
variable {w:World}{K:KV}
theorem Qe (h:∀w',blk w' w.heap.size 77 (A.map iv)→Below w.heap.size w w'→w'.heap.size=w.heap.size+1→K (pA w.heap.size 0) w'):box Q 77 (.agg (A.map iv).toArray) K w :=
 br fun w' j b s=>h w' (by simpa[Value.cells]using j) b s
theorem Lh (h:∀w',blk w' w.heap.size t [iv x]→Below w.heap.size w w'→w'.heap.size=w.heap.size+1→K (pA w.heap.size 0) w'):box Q t (iv x) K w :=
 br fun w' j b s=>h w' (by simpa[Value.cells,iv]using j) b s
theorem zY (h:∀w',blk w' w.heap.size 77 (z54.map iv)→Below w.heap.size w w'→w'.heap.size=w.heap.size+1→K (pA w.heap.size 0) w'):alc Q 77 K w :=
 df (z:=.agg (z54.map iv).toArray) kr fun w' j b s=>h w' (by simpa[Value.cells]using j) b s
theorem rT (j:A.length=54)(u:blk w b 77 (A.map iv))(h:K (.agg (A.map iv).toArray) w):ld Q 77 (pA b 0) K w :=
 ldA (n:=54) (vs:=A.map iv) underlying77 rfl kr u (by rw[List.drop_zero,tL (by simp[j])]) (by simp[j]) h
structure R3 (w0 w:World) (A:List Int) (i x:Int):Prop where
 r:blk w w0.heap.size 77 (A.map iv)
 i:blk w (w0.heap.size+1) 3 [iv i]
 x:blk w (w0.heap.size+2) 2 [iv x]
 t:blk w (w0.heap.size+3) 77 (z54.map iv)
 bel:Below w0.heap.size w0 w
theorem R3.fresh {i:Int}(g:R3 w0 w A i x)(h:Below w.heap.size w w'):R3 w0 w' A i x :=
 ⟨ae h g.r g.r.lt,ae h g.i g.i.lt,ae h g.x g.x.lt,ae h g.t g.t.lt,g.bel.trans (h.mono g.bel.size)⟩
theorem R3.drew {i:Int}(g:R3 w0 w A i x):R3 w0 w.drew A i x:=g.fresh (Below.refl _ w).drew
theorem zcC {i:Int}(J:A.length=54)(O:jn A=true)(M:bG i=true)(g:R3 w0 w A i x)(h:∀w',Below w.heap.size w w'→K (ci (if gQ A (i-1).toNat<x then 11 else 0)) w'):call Q 323 #[pA (w0.heap.size+2) 0,pA w0.heap.size 0,pA (w0.heap.size+1) 0] K w:=by
 have hi:1≤i∧i≤6:=by simpa[bG]using M
 refine ak (goK func323) (OH ?_);have gd:=g.drew;refine au (fun y=>R3 w0 y A i x) gd <|ab (fun y u _=>lK (v:=iv x) u.x rfl) <|ab (fun y u _=>rT J u.r) <|ab (fun y u _=>lK (v:=iv i) u.i rfl) ?_;refine Up J fun w2 I=>?_;refine aC (gd.fresh I) ?_;rw[M,if_pos rfl,TQ oo O];refine ab (fun y u _=>bO) ?_;refine Rf (au (fun _=>True) trivial ?_)
 have:=h w2 ((Below.refl _ w).drew.trans (I.mono oA))
 by_cases C:gQ A (i-1).toNat<x
 ·rw[if_pos C]at this;rw[if_pos (by simpa using C)];exact this
 ·rw[if_neg C]at this;rw[if_neg (by simpa using C)];exact this
theorem zbK {i:Int}(hA:A.length=54)(U:jn A=true)(Z:bG i=true)(g:R3 w0 w A i x)(h:∀w',Below w.heap.size w w'→K (ci (if nA A (6+(i-1).toNat)-nA A (12+(i-1).toNat)<x then 12 else 0)) w'):call Q 326 #[pA (w0.heap.size+2) 0,pA w0.heap.size 0,pA (w0.heap.size+1) 0] K w:=by
 have hi:1≤i∧i≤6:=by simpa[bG]using Z
 refine ak (goK func326) (OD ?_);have gd:=g.drew;have I:=AY U;obtain⟨k,O⟩:∃k:Nat,k=(i-1).toNat:=⟨_,rfl⟩
 rw[←O]at h;have e1:=I (6+k) oo;have J:=I (12+k) oo;have M:MXA=1125899906842624:=rfl;rw[M]at e1 J
 refine au (fun y=>R3 w0 y A i x) gd <|ab (fun y u _=>lK (v:=iv x) u.x rfl) <|ab (fun y u _=>lK (v:=iv i) u.i rfl) <|ab (v:=iv (k:Nat)) (fun y u K j=>jK (by rw[eU oo oo,show (i-1)=(k:Nat)by omega];exact j)) <|ab (fun y u _=>AT) <|ab (fun y u _=>ixR rfl oo) <|ab (v:=iv (nA A (6+k))) (fun y u _=>lK u.r (by rw[Nat.zero_add];exact ti oo)) <|ab (fun y u _=>lK (v:=iv i) u.i rfl) <|ab (v:=iv (k:Nat)) (fun y u K j=>jK (by rw[eU oo oo,show (i-1)=(k:Nat)by omega];exact j)) <|ab (fun y u _=>EJ) <|ab (fun y u _=>ixR rfl oo) <|ab (v:=iv (nA A (12+k))) (fun y u _=>lK u.r (by rw[Nat.zero_add];exact ti oo)) <|ab (v:=iv (nA A (6+k)-nA A (12+k))) (fun y u K j=>jK (by rw[eU oo oo];exact j)) <|ab (fun y u _=>bO) ?_
 refine Rf (au (fun _=>True) trivial ?_)
 have:=h _ (Below.refl _ w).drew
 by_cases C:nA A (6+k)-nA A (12+k)<x
 ·rw[if_pos C]at this;rw[if_pos (by simpa using C)];exact this
 ·rw[if_neg C]at this;rw[if_neg (by simpa using C)];exact this
theorem zcD {i:Int}(I:bG i=true)(C:blk w p 3 [iv i])(h:K (pA b (6+(i-1).toNat)) w.drew):call Q 325 #[pA b 0,pA p 0] K w:=by
 have hi:1≤i∧i≤6:=by simpa[bG]using I
 obtain⟨k,u⟩:∃k:Nat,k=(i-1).toNat:=⟨_,rfl⟩
 rw[←u]at h;refine ak (goK func325) (OJ ?_);refine ac (fun _=>lK (v:=iv i) C.drew rfl) <|ac (v:=iv (k:Nat)) (fun K j=>jK (by rw[eU oo oo,show (i-1)=(k:Nat)by omega];exact j)) ?_;refine ac (fun _=>aj) (ac (fun _=>AT) (ac (fun K j=>ixR rfl oo (by rw[Nat.zero_add];exact j)) h))
theorem zbL {i:Int}(I:bG i=true)(C:blk w p 3 [iv i])(h:K (pA b (12+(i-1).toNat)) w.drew):call Q 327 #[pA b 0,pA p 0] K w:=by
 have hi:1≤i∧i≤6:=by simpa[bG]using I
 obtain⟨k,u⟩:∃k:Nat,k=(i-1).toNat:=⟨_,rfl⟩
 rw[←u]at h;refine ak (goK func327) (OE ?_);refine ac (fun _=>lK (v:=iv i) C.drew rfl) <|ac (v:=iv (k:Nat)) (fun K j=>jK (by rw[eU oo oo,show (i-1)=(k:Nat)by omega];exact j)) ?_;refine ac (fun _=>aj) (ac (fun _=>EJ) (ac (fun K j=>ixR rfl oo (by rw[Nat.zero_add];exact j)) h))
end
end
end
section
open Go.RowKit
theorem FW {C:Addr}{v u:Value}(J:∀K':KV,K' v w→ld P t (.pointer (some C)) K' w)(h:K (.tuple #[v,u]) w):aV P [(some t,.pointer (some C)),(none,u)] K w:=by
 have I:(loadVar t C).run P w=.ok v w:=by
  have:=J (fun v' w' => v'=v∧w'=w) ⟨rfl,rfl⟩
  unfold ld okV at this;unfold Instr.loadAt at this;simp only[Instr.sureAddr,Sem.run_bind,Sem.run_pure,Result.andThen_ok]at this;split at this
  ·rename_i v' w' j;rw[j,this.1,this.2]
  ·exact this.elim
 unfold aV
 have:(oc [(some t,.pointer (some C)),(none,u)]).run P w=.ok (.tuple #[v,u]) w:=by simp[oc,asAddr,Sem.run_bind,I]
 rw[this];exact⟨rfl,h⟩
attribute [local irreducible] bin un conv call aZ blt slc ai fld aL idx lkp cP eP eSt rng nxt ent ext alc box bld bg ld sto aJ cr mkS ifc pick rdy wts aG sti cond aV Gives ah dy dP cOp
theorem xP {B:List Int}(u:A.length=54)(C:B.length=54)(I:blk w b 77 (A.map iv))(h:∀w',blk w' b 77 (B.map iv)→Oth b w w'→K undef w'):sto Q 77 (pA b 0) (.agg (B.map iv).toArray) K w:=by
 refine ip (n:=54) kr (by simp[C]) I (by simp[u]) (zX _) fun w' j o=>h w' ?_ o;have e:(A.map iv).take 0++B.map iv++(A.map iv).drop (0+54)=B.map iv:=by rw[List.take_zero,List.nil_append,List.drop_of_length_le (by simp[u]),List.append_nil]
 rwa[e]at j
theorem R3.make {i:Int}{K4:Value→Value→Value→Value→World→Prop}(h:∀w',R3 w w' A i x→w'.heap.size=w.heap.size+4→K4 (pA w.heap.size 0) (pA (w.heap.size+1) 0) (pA (w.heap.size+2) 0) (pA (w.heap.size+3) 0) w'):box Q 77 (.agg (A.map iv).toArray) (fun r=>box Q 3 (iv i) fun j=>box Q 2 (iv x) fun y=>alc Q 77 fun t w=>K4 r j y t w) w:=by
 refine Qe fun w1 O b1 s1=>Lh fun w2 U I s2=>Lh fun w3 Z C s3=>zY fun w4 h4 u s4=>?_;have J:w2.heap.size=w.heap.size+2:=by omega
 have M:w3.heap.size=w.heap.size+3:=by omega
 have hh:=h w4 ⟨ae u (ae C (ae I O O.lt) oo) oo,by rw[s1]at U;exact ae u (ae C U oo) oo,by rw[J]at Z;exact ae u Z oo,by rw[M]at h4;exact h4,(((b1.trans (I.mono oo)).trans (C.mono oo)).trans (u.mono oo))⟩ oo;rw[s1,J,M];exact hh
theorem R3.fin {B:List Int}{i e:Int}(C:B.length=54)(g:R3 w0 w A i x)(h:∀w',Below w0.heap.size w0 w'→K (.tuple #[.agg (B.map iv).toArray,ci e]) w'):aE (fun S w=>hld S (ext Q (.tuple #[.agg (B.map iv).toArray,ci e]) 0) fun t15=>hld S (ext Q (.tuple #[.agg (B.map iv).toArray,ci e]) 1) fun u=>sto Q 77 (pA (w0.heap.size+3) 0) t15 (fun _=>aE fun _=>aV Q [(some 77,pA (w0.heap.size+3) 0),(none,u)] K) w) w:=by
 refine au (fun _=>True) trivial ?_;refine ab (fun y J _=>bu) (ab (fun y J _=>bv) ?_);refine xP rfl C g.t fun O I M=>au (fun _=>True) trivial ?_;exact FW (fun _=>rT C I) (h _ (bE g.bel M oo))
theorem zcn {i:Int}(J:A.length=54)(h:∀w',Below w.heap.size w w'→K (.tuple #[.agg ((mf A i x).1.map iv).toArray,ci (mf A i x).2]) w'):call Q 310 #[.agg (A.map iv).toArray,iv i,iv x] K w:=by
 refine ak (goK func310) (Rn (R3.make fun w1 j s1=>?_));have j:=j.drew;refine au (fun y=>R3 w y A i x) j <|ab (fun y O _=>rT J O.r) <|ab (fun y O _=>lK (v:=iv x) O.x rfl) <|ab (fun y O _=>lK (v:=iv i) O.i rfl) ?_;refine FQ (aC j ?_);rw[W7]at h;have U:=Id A x (bG i) (if gQ A (i-1).toNat<x then 11 else 0) (6+(i-1).toNat) J;by_cases I:bG i=true
 ·have hi:1≤i∧i≤6:=by simpa[bG]using I
  refine B8 (q:=6+(i-1).toNat) (E:=if gQ A (i-1).toNat<x then 11 else 0) J oo (fun hm _ _ _ w2 u K' C => dn rfl (zcC J hm I (j.fresh u) C))
   (fun _ w2 b u K' C => dn rfl (zcD I (j.fresh u).i C)) fun w2 u=>(j.fresh u).fin U h
 ·have I:bG i=false:=by simpa using I
  rw[I]at U h ⊢;have e:mB A x false (if gQ A (i-1).toNat<x then 11 else 0) (6+(i-1).toNat)=mB A x false 0 0:=rfl;rw[e]at h U;exact B8 (q:=0) (E:=0) J oo (fun _ _ _ Z=>by cases Z) (fun Z=>by cases Z) fun w2 u=>(j.fresh u).fin U h
theorem zcg {i:Int}(J:A.length=54)(h:∀w',Below w.heap.size w w'→K (.tuple #[.agg ((mc A i x).1.map iv).toArray,ci (mc A i x).2]) w'):call Q 313 #[.agg (A.map iv).toArray,iv i,iv x] K w:=by
 refine ak (goK func313) (Rl (R3.make fun w1 j s1=>?_));have j:=j.drew;refine au (fun y=>R3 w y A i x) j <|ab (fun y O _=>rT J O.r) <|ab (fun y O _=>lK (v:=iv x) O.x rfl) <|ab (fun y O _=>lK (v:=iv i) O.i rfl) ?_;refine FQ (aC j ?_);rw[Vo]at h;have U:=Id A x (bG i) (if nA A (6+(i-1).toNat)-nA A (12+(i-1).toNat)<x then 12 else 0) (12+(i-1).toNat) J;by_cases I:bG i=true
 ·have hi:1≤i∧i≤6:=by simpa[bG]using I
  refine B8 (q:=12+(i-1).toNat) (E:=if nA A (6+(i-1).toNat)-nA A (12+(i-1).toNat)<x then 12 else 0) J oo (fun hm _ _ _ w2 u K' C => dn rfl (zbK J hm I (j.fresh u) C))
   (fun _ w2 b u K' C => dn rfl (zbL I (j.fresh u).i C)) fun w2 u=>(j.fresh u).fin U h
 ·have I:bG i=false:=by simpa using I
  rw[I]at U h ⊢;have e:mB A x false (if nA A (6+(i-1).toNat)-nA A (12+(i-1).toNat)<x then 12 else 0) (12+(i-1).toNat)=mB A x false 0 0:=rfl;rw[e]at h U;exact B8 (q:=0) (E:=0) J oo (fun _ _ _ Z=>by cases Z) (fun Z=>by cases Z) fun w2 u=>(j.fresh u).fin U h
end
section
attribute [local irreducible] bin un conv call aZ blt slc ai fld aL idx lkp cP eP eSt rng nxt ent ext alc box bld bg ld sto aJ cr mkS ifc pick rdy wts aG sti cond aV Gives ah dy dP cOp
section
open Go.RowKit
structure R4 (w0 w:World) (A:List Int) (i j x:Int):Prop where
 r:blk w w0.heap.size 77 (A.map iv)
 i:blk w (w0.heap.size+1) 3 [iv i]
 j:blk w (w0.heap.size+2) 3 [iv j]
 x:blk w (w0.heap.size+3) 2 [iv x]
 t:blk w (w0.heap.size+4) 77 (z54.map iv)
 bel:Below w0.heap.size w0 w
theorem R4.fresh {i j:Int}(g:R4 w0 w A i j x)(h:Below w.heap.size w w'):R4 w0 w' A i j x :=
 ⟨ae h g.r g.r.lt,ae h g.i g.i.lt,ae h g.j g.j.lt,ae h g.x g.x.lt,ae h g.t g.t.lt,g.bel.trans (h.mono g.bel.size)⟩
theorem R4.drew {i j:Int}(g:R4 w0 w A i j x):R4 w0 w.drew A i j x:=g.fresh (Below.refl _ w).drew
theorem R4.make {i j:Int}{K5:Value→Value→Value→Value→Value→World→Prop}(h:∀w',R4 w w' A i j x→w'.heap.size=w.heap.size+5→K5 (pA w.heap.size 0) (pA (w.heap.size+1) 0) (pA (w.heap.size+2) 0) (pA (w.heap.size+3) 0) (pA (w.heap.size+4) 0) w'):box Q 77 (.agg (A.map iv).toArray) (fun r=>box Q 3 (iv i) fun p=>box Q 3 (iv j) fun q=>box Q 2 (iv x) fun y=>alc Q 77 fun t w=>K5 r p q y t w) w:=by
 refine Qe fun w1 Z b1 s1=>Lh fun w2 h2 J s2=>Lh fun w3 h3 I s3=>Lh fun w4 h4 C s4=>zY fun w5 h5 u s5=>?_;have M:w2.heap.size=w.heap.size+2:=by omega
 have O:w3.heap.size=w.heap.size+3:=by omega
 have U:w4.heap.size=w.heap.size+4:=by omega
 have hh:=h w5 ⟨ae u (ae C (ae I (ae J Z Z.lt) oo) oo) oo,by rw[s1]at h2;exact ae u (ae C (ae I h2 oo) oo) oo,by rw[M]at h3;exact ae u (ae C h3 oo) oo,by rw[O]at h4;exact ae u h4 oo,by rw[U]at h5;exact h5,((((b1.trans (J.mono oo)).trans (I.mono oo)).trans (C.mono oo)).trans (u.mono oo))⟩ oo
 rw[s1,M,O,U];exact hh
theorem R4.fin {B:List Int}{i j e:Int}(I:B.length=54)(g:R4 w0 w A i j x)(h:∀w',Below w0.heap.size w0 w'→K (.tuple #[.agg (B.map iv).toArray,ci e]) w'):aE (fun S w=>hld S (ext Q (.tuple #[.agg (B.map iv).toArray,ci e]) 0) fun t15=>hld S (ext Q (.tuple #[.agg (B.map iv).toArray,ci e]) 1) fun C=>sto Q 77 (pA (w0.heap.size+4) 0) t15 (fun _=>aE fun _=>aV Q [(some 77,pA (w0.heap.size+4) 0),(none,C)] K) w) w:=by
 refine au (fun _=>True) trivial ?_;refine ab (fun y M _=>bu) (ab (fun y M _=>bv) ?_);refine xP rfl I g.t fun U J O=>au (fun _=>True) trivial ?_;exact FW (fun _=>rT I J) (h _ (bE g.bel O oo))
theorem zc6 {i j:Int}(O:A.length=54)(Z:jn A=true)(U:bG i=true)(g:R4 w0 w A i j x)(h:∀w',Below w.heap.size w w'→K (ci (if i=j then 1 else if gQ A (i-1).toNat<x then 11 else 0)) w'):call Q 328 #[pA (w0.heap.size+1) 0,pA (w0.heap.size+2) 0,pA (w0.heap.size+3) 0,pA w0.heap.size 0] K w:=by
 have hi:1≤i∧i≤6:=by simpa[bG]using U
 refine ak (goK func328) (OF (lK (v:=iv i) g.i rfl (lK (v:=iv j) g.j rfl (aO ?_))));by_cases u:i=j
 ·have:=h _ (Below.refl _ w)
  rw[if_pos u]at this;exact ax u this
 refine ao u ?_;have gd:=g.drew;refine au (fun y=>R4 w0 y A i j x) gd <|ab (fun y I _=>lK (v:=iv x) I.x rfl) <|ab (fun y I _=>rT O I.r) <|ab (fun y I _=>lK (v:=iv i) I.i rfl) ?_;refine Up O fun w2 M=>?_;refine aC (gd.fresh M) ?_;rw[U,if_pos rfl,TQ oo Z];refine ab (fun y I _=>bO) ?_;refine Rf (au (fun _=>True) trivial ?_)
 have:=h w2 ((Below.refl _ w).drew.trans (M.mono oA))
 rw[if_neg u]at this;by_cases J:gQ A (i-1).toNat<x
 ·rw[if_pos J]at this;rw[if_pos (by simpa using J)];exact this
 ·rw[if_neg J]at this;rw[if_neg (by simpa using J)];exact this
theorem zc7 {i j:Int}(O:bG i=true)(U:bG j=true)(M:blk w p 3 [iv i])(C:blk w c 3 [iv j])(h:K (pA b (18+6*(i-1).toNat+(j-1).toNat)) w.drew):call Q 329 #[pA b 0,pA p 0,pA c 0] K w:=by
 have hi:1≤i∧i≤6:=by simpa[bG]using O
 have Z:1≤j∧j≤6:=by simpa[bG]using U
 obtain⟨k,I⟩:∃k:Nat,k=(i-1).toNat:=⟨_,rfl⟩
 obtain⟨m,J⟩:∃m:Nat,m=(j-1).toNat:=⟨_,rfl⟩
 rw[←I, ←J]at h;refine ak (goK func329) (OG ?_);refine ac (fun _=>lK (v:=iv i) M.drew rfl) <|ac (v:=iv (k:Nat)) (fun K u=>jK (by rw[eU oo oo,show (i-1)=(k:Nat)by omega];exact u)) <|ac (fun _=>lK (v:=iv j) C.drew rfl) <|ac (v:=iv (m:Nat)) (fun K u=>jK (by rw[eU oo oo,show (j-1)=(m:Nat)by omega];exact u)) ?_
 exact ac (fun _=>aj) (ac (fun _=>IP) (ac (fun _=>Wy rfl oo) (ac (fun K u=>ixR rfl oo (by rw[show 0+18+6*k+m=18+6*k+m by omega];exact u)) h)))
theorem zci {i j:Int}(U:A.length=54)(h:∀w',Below w.heap.size w w'→K (.tuple #[.agg ((mX A i j x).1.map iv).toArray,ci (mX A i j x).2]) w'):call Q 315 #[.agg (A.map iv).toArray,iv i,iv j,iv x] K w:=by
 refine ak (goK func315) (Rm (R4.make fun w1 u s1=>?_));have u:=u.drew;refine au (fun y=>R4 w y A i j x) u <|ab (fun y M _=>rT U M.r) <|ab (fun y M _=>lK (v:=iv x) M.x rfl) <|ab (fun y M _=>lK (v:=iv i) M.i rfl) ?_;refine FQ (aC u ?_);rw[VJ]at h;generalize hE:(if i=j then (1:Int)else if gQ A (i-1).toNat<x then 11 else 0)=E at h
 have Z:=Id A x (bG i&&bG j) E (18+6*(i-1).toNat+(j-1).toNat) U;have no:(bG i&&bG j)=false→mB A x (bG i&&bG j) E (18+6*(i-1).toNat+(j-1).toNat)=mB A x false 0 0:=fun J=>by rw[J];rfl
 have nt:asB (.bool false)≠some true:=by simp[asB]
 cases hr:bG i with
 | false =>
  rw[no (by rw[hr];rfl)]at h Z;refine qr nt (xGn nt (aC u (ab (fun y M _=>dh) ?_)));exact B8 (q:=0) (E:=0) U oo (fun _ _ _ J=>by cases J) (fun J=>by cases J) fun w2 I=>(u.fresh I).fin Z h
 | true =>
  refine fy rfl (fun y M _=>lK (v:=iv j) M.j rfl) ?_;refine Hv rfl (FQ (aC u (ab (fun y M _=>cz) ?_)));cases hs:bG j with
  | false =>
   rw[no (by rw[hr,hs];rfl)]at h Z;exact B8 (q:=0) (E:=0) U oo (fun _ _ _ J=>by cases J) (fun J=>by cases J) fun w2 I=>(u.fresh I).fin Z h
  | true =>
   have hi:1≤i∧i≤6:=by simpa[bG]using hr
   have hj:1≤j∧j≤6:=by simpa[bG]using hs
   rw[hr,hs]at h Z;refine B8 (q:=18+6*(i-1).toNat+(j-1).toNat) (E:=E) U oo (fun hm _ _ _ w2 I K' O => dn rfl (zc6 U hm hr (u.fresh I) (by rw[hE];exact O)))
    (fun _ w2 b I K' O => dn rfl (zc7 hr hs (u.fresh I).i (u.fresh I).j O)) fun w2 I=>(u.fresh I).fin Z h
end
end
end Go.Proofs.YtkfgimlaijifaaaGreatDoor
